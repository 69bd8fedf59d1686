import Derived.Test.YtpdoioeckiiegaaGreatDoorWlW
import Derived.Test.YtpdoioeckiiegaaGreatDoorWlX0
import Derived.Test.YtpdoioeckiiegaaGreatDoorWlX1
import Derived.Test.YtpdoioeckiiegaaGreatDoorWlX2
import Derived.Test.YtpdoioeckiiegaaGreatDoorWlX3
import Derived.Test.YtpdoioeckiiegaaGreatDoorWlX4
import Derived.Test.YtpdoioeckiiegaaGreatDoorWlX6
import Derived.Test.YtpdoioeckiiegaaGreatDoorWlX7
set_option linter.unusedSimpArgs false
set_option linter.unusedVariables false
set_option maxRecDepth 10000
namespace Go.Proofs.YtpdoioeckiiegaaGreatDoor.Wl
open Go.RowKit Go.Proofs
def meta_Right (a0_m : MetaS) : Option Bool :=
bnd (decide (a0_m.Active < 0)) fun b2 =>
jn (fun x5 =>
bnd x5 fun b6 =>
jn (fun x9 =>
bnd x9 fun b10 =>
jn (fun x13 =>
bnd x13 fun b14 =>
jn (fun x17 =>
bif x17 then (
some false) else (
chk (0 ≤ a0_m.Active ∧ a0_m.Active < 2) <|
(meta_none (at' Img.zero a0_m.Have.l a0_m.Active)).bind fun r20 =>
bnd r20 fun b22 =>
jn (fun x25 =>
bnd x25 fun b26 =>
jn (fun x29 =>
bnd x29 fun b30 =>
jn (fun x33 =>
bnd x33 fun b34 =>
jn (fun x37 =>
bnd x37 fun b38 =>
jn (fun x41 =>
bnd x41 fun b42 =>
jn (fun x45 =>
bif x45 then (
some false) else (
(meta_phase a0_m).bind fun r47 =>
some r47)) fun J44 =>
bif b42 then (
J44 true) else
J44 (decide (a0_m.Trials > 2))) fun J40 =>
bif b38 then (
J40 true) else
J40 (decide (a0_m.Trials < 0))) fun J36 =>
bif b34 then (
J36 true) else
J36 (decide (a0_m.Got > 6))) fun J32 =>
bif b30 then (
J32 true) else
J32 (decide (a0_m.Got < 0))) fun J28 =>
bif b26 then (
J28 true) else
J28 (decide (a0_m.Min > 1073741824))) fun J24 =>
bif b22 then (
J24 true) else
J24 (decide (a0_m.Min < 0)))) fun J16 =>
bif b14 then (
J16 true) else
(meta_image a0_m.Coming).bind fun r49 =>
J16 (!r49)) fun J12 =>
bif b10 then (
J12 true) else
(meta_image (at' Img.zero a0_m.Have.l 1)).bind fun r51 =>
J12 (!r51)) fun J8 =>
bif b6 then (
J8 true) else
(meta_image (at' Img.zero a0_m.Have.l 0)).bind fun r53 =>
J8 (!r53)) fun J4 =>
bif b2 then (
J4 true) else
J4 (decide (a0_m.Active > 1))

theorem c_meta_Right (a0_m : MetaS) (r : Bool) (H : meta_Right a0_m = some r) : Fn Tryz.prog 103 [(.agg (MetaS.cells a0_m).toArray)] [] [] (fun v D' G' => v = (vb r) ∧ D' = [] ∧ G' = []) := by
  unfold meta_Right at H
  refine fn_of Tryz.func103 rfl Tryz.ntmps103 rfl ?_
  intro w0 D0 G0
  dsimp only [app, initEnv, Nat.zero_add, Nat.reduceAdd]
  refine s_seq ?_
  refine s_reg [0, 1] rfl ?_
  refine oc (k_box rfl rfl rfl (cs := MetaS.cells a0_m) rfl (g0 rfl) rfl rfl ?_)
  intro b1
  refine o_run ft [1] rfl rfl ?_
  refine o_nil ?_
  refine q_then ?_
  refine s_seq ?_
  refine s_seq ?_
  refine s_reg [0, 1, 2, 3, 4, 5, 6, 7, 8, 9, 10, 11, 12, 13, 14, 15, 16, 17, 18, 19, 20, 21, 22, 23, 24, 25, 26, 27] rfl ?_
  refine o_run ft [0] rfl rfl ?_
  refine o_ld (hG 0 rfl) rfl (ev_ld1 (j := 0) rfl rfl Tryz.isAgg3 (MetaS.sub_Active _) rfl) (g0 rfl) rfl rfl ?_
  refine o_run ft [2, 3] rfl rfl ?_
  refine k_name 6 rfl ?_
  intro b2 hb3
  have H := bnd_eq H hb3
  refine o_jb 10 [8, 9, 10, 11, 12, 13, 14, 15, 16, 17, 18, 19, 20, 21, 22, 23, 24, 25, 26, 27] [0, 1, 2, 3, 4, 5, 6] H rfl ?_ ?_
  · intro x5 H
    refine o_run ft [8] rfl rfl ?_
    refine k_name 11 rfl ?_
    intro b6 hb7
    have H := bnd_eq H hb7
    refine o_jb 17 [15, 16, 17, 18, 19, 20, 21, 22, 23, 24, 25, 26, 27] [0, 1, 2, 3, 4, 5, 6, 10, 11] H rfl ?_ ?_
    · intro x9 H
      refine o_run ft [15] rfl rfl ?_
      refine k_name 18 rfl ?_
      intro b10 hb11
      have H := bnd_eq H hb11
      refine o_jb 24 [22, 23, 24, 25, 26, 27] [0, 1, 2, 3, 4, 5, 6, 10, 11, 17, 18] H rfl ?_ ?_
      · intro x13 H
        refine o_run ft [22] rfl rfl ?_
        refine k_name 25 rfl ?_
        intro b14 hb15
        have H := bnd_eq H hb15
        refine o_jb 30 [] [0, 1, 2, 3, 4, 5, 6, 10, 11, 17, 18, 24, 25] H rfl ?_ ?_
        · intro x17 H
          refine o_nil ?_
          refine q_then ?_
          refine s_cond rfl ?_ ?_
          · intro hb18
            have H := cnd_t H hb18
            refine s_seq ?_
            refine s_reg [0] rfl ?_
            refine o_run ft [0] rfl rfl ?_
            refine o_nil ?_
            refine q_then ?_
            refine s_ret ?_
            refine q_then_r ?_
            cases H
            exact q_end (rs_1 Tryz.results103 (rv_tmp rfl)) ⟨rfl, rfl, rfl⟩ [] rfl 0 rfl [] rfl 1 rfl
          · intro hb18
            have H := cnd_f H hb18
            refine s_skip ?_
            refine q_then ?_
            refine s_seq ?_
            refine s_seq ?_
            refine s_reg [0, 1, 2, 3, 4, 5, 6, 7, 8, 9, 10, 11, 12, 13, 14, 15, 16, 17, 18, 19, 20, 21, 22, 23, 24, 25, 26, 27, 28, 29, 30, 31, 32, 33, 34, 35] rfl ?_
            refine o_run ft [0] rfl rfl ?_
            refine o_ld (hG 0 rfl) rfl (ev_ld1 (j := 0) rfl rfl Tryz.isAgg3 (MetaS.sub_Active _) rfl) (g0 rfl) rfl rfl ?_
            refine o_run ft [2] rfl rfl ?_
            obtain ⟨hk19, H⟩ := chk_some H
            refine o_pu rfl (ev_idx_array rfl rfl rfl Tryz.runUnderlying50 Tryz.sizeOf49 hk19 rfl) (g0 rfl) rfl rfl ?_
            refine o_ld (hG 0 rfl) rfl (ev_ldN rfl rfl Tryz.isAgg49 (sz (Img.len _) Tryz.sizeOf49) (sub_sub (MetaS.sub_Have _) (sub_arr Img.len Img.zero _ (k := a0_m.Active) hk19 rfl) rfl) (by first | omega | (dsimp only; omega))) (g0 rfl) rfl rfl ?_
            obtain ⟨r20, Hc21, H⟩ := bind_some' H
            refine oc (k_call (c_meta_none (at' Img.zero a0_m.Have.l a0_m.Active) r20 Hc21) Tryz.call168 rfl rfl rfl [] [] rfl rfl (g0 rfl) rfl rfl ?_)
            rintro _ _ _ ⟨rfl, rfl, rfl⟩
            dsimp only [app]
            refine o_run ft [6] rfl rfl ?_
            refine k_name 37 rfl ?_
            intro b22 hb23
            have H := bnd_eq H hb23
            refine o_jb 41 [11, 12, 13, 14, 15, 16, 17, 18, 19, 20, 21, 22, 23, 24, 25, 26, 27, 28, 29, 30, 31, 32, 33, 34, 35] [0, 1, 2, 3, 4, 5, 6, 10, 11, 17, 18, 24, 25, 30, 31, 32, 33, 34, 35, 36, 37] H rfl ?_ ?_
            · intro x25 H
              refine o_run ft [11] rfl rfl ?_
              refine k_name 42 rfl ?_
              intro b26 hb27
              have H := bnd_eq H hb27
              refine o_jb 46 [16, 17, 18, 19, 20, 21, 22, 23, 24, 25, 26, 27, 28, 29, 30, 31, 32, 33, 34, 35] [0, 1, 2, 3, 4, 5, 6, 10, 11, 17, 18, 24, 25, 30, 31, 32, 33, 34, 35, 36, 37, 41, 42] H rfl ?_ ?_
              · intro x29 H
                refine o_run ft [16] rfl rfl ?_
                refine k_name 47 rfl ?_
                intro b30 hb31
                have H := bnd_eq H hb31
                refine o_jb 51 [21, 22, 23, 24, 25, 26, 27, 28, 29, 30, 31, 32, 33, 34, 35] [0, 1, 2, 3, 4, 5, 6, 10, 11, 17, 18, 24, 25, 30, 31, 32, 33, 34, 35, 36, 37, 41, 42, 46, 47] H rfl ?_ ?_
                · intro x33 H
                  refine o_run ft [21] rfl rfl ?_
                  refine k_name 52 rfl ?_
                  intro b34 hb35
                  have H := bnd_eq H hb35
                  refine o_jb 56 [26, 27, 28, 29, 30, 31, 32, 33, 34, 35] [0, 1, 2, 3, 4, 5, 6, 10, 11, 17, 18, 24, 25, 30, 31, 32, 33, 34, 35, 36, 37, 41, 42, 46, 47, 51, 52] H rfl ?_ ?_
                  · intro x37 H
                    refine o_run ft [26] rfl rfl ?_
                    refine k_name 57 rfl ?_
                    intro b38 hb39
                    have H := bnd_eq H hb39
                    refine o_jb 61 [31, 32, 33, 34, 35] [0, 1, 2, 3, 4, 5, 6, 10, 11, 17, 18, 24, 25, 30, 31, 32, 33, 34, 35, 36, 37, 41, 42, 46, 47, 51, 52, 56, 57] H rfl ?_ ?_
                    · intro x41 H
                      refine o_run ft [31] rfl rfl ?_
                      refine k_name 62 rfl ?_
                      intro b42 hb43
                      have H := bnd_eq H hb43
                      refine o_jb 66 [] [0, 1, 2, 3, 4, 5, 6, 10, 11, 17, 18, 24, 25, 30, 31, 32, 33, 34, 35, 36, 37, 41, 42, 46, 47, 51, 52, 56, 57, 61, 62] H rfl ?_ ?_
                      · intro x45 H
                        refine o_nil ?_
                        refine q_then ?_
                        refine s_cond rfl ?_ ?_
                        · intro hb46
                          have H := cnd_t H hb46
                          refine s_seq ?_
                          refine s_reg [0] rfl ?_
                          refine o_run ft [0] rfl rfl ?_
                          refine o_nil ?_
                          refine q_then ?_
                          refine s_ret ?_
                          refine q_then_r ?_
                          cases H
                          exact q_end (rs_1 Tryz.results103 (rv_tmp rfl)) ⟨rfl, rfl, rfl⟩ [] rfl 0 rfl [] rfl 1 rfl
                        · intro hb46
                          have H := cnd_f H hb46
                          refine s_skip ?_
                          refine q_then ?_
                          refine s_seq ?_
                          refine s_reg [0, 1, 2] rfl ?_
                          refine o_ld (hG 0 rfl) rfl (ev_ldN (j := 0) rfl rfl Tryz.isAgg52 (sz (MetaS.len _) Tryz.sizeOf52) (sub_all _) rfl) (g0 rfl) rfl rfl ?_
                          obtain ⟨r47, Hc48, H⟩ := bind_some' H
                          refine oc (k_call (c_meta_phase a0_m r47 Hc48) Tryz.call169 rfl rfl rfl [] [] rfl rfl (g0 rfl) rfl rfl ?_)
                          rintro _ _ _ ⟨rfl, rfl, rfl⟩
                          dsimp only [app]
                          refine o_run ft [2] rfl rfl ?_
                          refine o_nil ?_
                          refine q_then ?_
                          refine s_ret ?_
                          cases H
                          exact q_end (rs_1 Tryz.results103 (rv_tmp rfl)) ⟨rfl, rfl, rfl⟩ [] rfl 0 rfl [] rfl 1 rfl
                      · intro J44 J44h H
                        cases b42 with
                        | true =>
                          rw [cond_true] at H
                          refine o_gnot rfl rfl rfl rfl rfl rfl rfl rfl ?_
                          refine o_gnot rfl rfl rfl rfl rfl rfl rfl rfl ?_
                          refine o_gnot rfl rfl rfl rfl rfl rfl rfl rfl ?_
                          refine o_run ft [35] rfl rfl ?_
                          exact k_wk (J44h true H) [66, 0, 1, 2, 3, 4, 5, 6, 10, 11, 17, 18, 24, 25, 30, 31, 32, 33, 34, 35, 36, 37, 41, 42, 46, 47, 51, 52, 56, 57, 61, 62] [] 0 [0] 0 rfl rfl rfl
                        | false =>
                          rw [cond_false] at H
                          refine o_run ft [32] rfl rfl ?_
                          refine o_ld (hG 0 rfl) rfl (ev_ld1 (j := 106) rfl rfl Tryz.isAgg3 (MetaS.sub_Trials _) rfl) (g1 rfl rfl rfl rfl) rfl rfl ?_
                          refine o_run ft [34, 35] rfl rfl ?_
                          exact k_wk (J44h (decide (a0_m.Trials > 2)) H) [66, 0, 1, 2, 3, 4, 5, 6, 10, 11, 17, 18, 24, 25, 30, 31, 32, 33, 34, 35, 36, 37, 41, 42, 46, 47, 51, 52, 56, 57, 61, 62] [] 0 [0] 0 rfl rfl rfl
                    · intro J40 J40h H
                      cases b38 with
                      | true =>
                        rw [cond_true] at H
                        refine o_gnot rfl rfl rfl rfl rfl rfl rfl rfl ?_
                        refine o_gnot rfl rfl rfl rfl rfl rfl rfl rfl ?_
                        refine o_gnot rfl rfl rfl rfl rfl rfl rfl rfl ?_
                        refine o_run ft [30] rfl rfl ?_
                        exact k_wk (J40h true H) [61, 0, 1, 2, 3, 4, 5, 6, 10, 11, 17, 18, 24, 25, 30, 31, 32, 33, 34, 35, 36, 37, 41, 42, 46, 47, 51, 52, 56, 57] [] 0 [0] 0 rfl rfl rfl
                      | false =>
                        rw [cond_false] at H
                        refine o_run ft [27] rfl rfl ?_
                        refine o_ld (hG 0 rfl) rfl (ev_ld1 (j := 106) rfl rfl Tryz.isAgg3 (MetaS.sub_Trials _) rfl) (g1 rfl rfl rfl rfl) rfl rfl ?_
                        refine o_run ft [29, 30] rfl rfl ?_
                        exact k_wk (J40h (decide (a0_m.Trials < 0)) H) [61, 0, 1, 2, 3, 4, 5, 6, 10, 11, 17, 18, 24, 25, 30, 31, 32, 33, 34, 35, 36, 37, 41, 42, 46, 47, 51, 52, 56, 57] [] 0 [0] 0 rfl rfl rfl
                  · intro J36 J36h H
                    cases b34 with
                    | true =>
                      rw [cond_true] at H
                      refine o_gnot rfl rfl rfl rfl rfl rfl rfl rfl ?_
                      refine o_gnot rfl rfl rfl rfl rfl rfl rfl rfl ?_
                      refine o_gnot rfl rfl rfl rfl rfl rfl rfl rfl ?_
                      refine o_run ft [25] rfl rfl ?_
                      exact k_wk (J36h true H) [56, 0, 1, 2, 3, 4, 5, 6, 10, 11, 17, 18, 24, 25, 30, 31, 32, 33, 34, 35, 36, 37, 41, 42, 46, 47, 51, 52] [] 0 [0] 0 rfl rfl rfl
                    | false =>
                      rw [cond_false] at H
                      refine o_run ft [22] rfl rfl ?_
                      refine o_ld (hG 0 rfl) rfl (ev_ld1 (j := 105) rfl rfl Tryz.isAgg3 (MetaS.sub_Got _) rfl) (g1 rfl rfl rfl rfl) rfl rfl ?_
                      refine o_run ft [24, 25] rfl rfl ?_
                      exact k_wk (J36h (decide (a0_m.Got > 6)) H) [56, 0, 1, 2, 3, 4, 5, 6, 10, 11, 17, 18, 24, 25, 30, 31, 32, 33, 34, 35, 36, 37, 41, 42, 46, 47, 51, 52] [] 0 [0] 0 rfl rfl rfl
                · intro J32 J32h H
                  cases b30 with
                  | true =>
                    rw [cond_true] at H
                    refine o_gnot rfl rfl rfl rfl rfl rfl rfl rfl ?_
                    refine o_gnot rfl rfl rfl rfl rfl rfl rfl rfl ?_
                    refine o_gnot rfl rfl rfl rfl rfl rfl rfl rfl ?_
                    refine o_run ft [20] rfl rfl ?_
                    exact k_wk (J32h true H) [51, 0, 1, 2, 3, 4, 5, 6, 10, 11, 17, 18, 24, 25, 30, 31, 32, 33, 34, 35, 36, 37, 41, 42, 46, 47] [] 0 [0] 0 rfl rfl rfl
                  | false =>
                    rw [cond_false] at H
                    refine o_run ft [17] rfl rfl ?_
                    refine o_ld (hG 0 rfl) rfl (ev_ld1 (j := 105) rfl rfl Tryz.isAgg3 (MetaS.sub_Got _) rfl) (g1 rfl rfl rfl rfl) rfl rfl ?_
                    refine o_run ft [19, 20] rfl rfl ?_
                    exact k_wk (J32h (decide (a0_m.Got < 0)) H) [51, 0, 1, 2, 3, 4, 5, 6, 10, 11, 17, 18, 24, 25, 30, 31, 32, 33, 34, 35, 36, 37, 41, 42, 46, 47] [] 0 [0] 0 rfl rfl rfl
              · intro J28 J28h H
                cases b26 with
                | true =>
                  rw [cond_true] at H
                  refine o_gnot rfl rfl rfl rfl rfl rfl rfl rfl ?_
                  refine o_gnot rfl rfl rfl rfl rfl rfl rfl rfl ?_
                  refine o_gnot rfl rfl rfl rfl rfl rfl rfl rfl ?_
                  refine o_run ft [15] rfl rfl ?_
                  exact k_wk (J28h true H) [46, 0, 1, 2, 3, 4, 5, 6, 10, 11, 17, 18, 24, 25, 30, 31, 32, 33, 34, 35, 36, 37, 41, 42] [] 0 [0] 0 rfl rfl rfl
                | false =>
                  rw [cond_false] at H
                  refine o_run ft [12] rfl rfl ?_
                  refine o_ld (hG 0 rfl) rfl (ev_ld1 (j := 69) rfl rfl Tryz.isAgg3 (MetaS.sub_Min _) rfl) (g1 rfl rfl rfl rfl) rfl rfl ?_
                  refine o_run ft [14, 15] rfl rfl ?_
                  exact k_wk (J28h (decide (a0_m.Min > 1073741824)) H) [46, 0, 1, 2, 3, 4, 5, 6, 10, 11, 17, 18, 24, 25, 30, 31, 32, 33, 34, 35, 36, 37, 41, 42] [] 0 [0] 0 rfl rfl rfl
            · intro J24 J24h H
              cases b22 with
              | true =>
                rw [cond_true] at H
                refine o_gnot rfl rfl rfl rfl rfl rfl rfl rfl ?_
                refine o_gnot rfl rfl rfl rfl rfl rfl rfl rfl ?_
                refine o_gnot rfl rfl rfl rfl rfl rfl rfl rfl ?_
                refine o_run ft [10] rfl rfl ?_
                exact k_wk (J24h true H) [41, 0, 1, 2, 3, 4, 5, 6, 10, 11, 17, 18, 24, 25, 30, 31, 32, 33, 34, 35, 36, 37] [] 0 [0] 0 rfl rfl rfl
              | false =>
                rw [cond_false] at H
                refine o_run ft [7] rfl rfl ?_
                refine o_ld (hG 0 rfl) rfl (ev_ld1 (j := 69) rfl rfl Tryz.isAgg3 (MetaS.sub_Min _) rfl) (g1 rfl rfl rfl rfl) rfl rfl ?_
                refine o_run ft [9, 10] rfl rfl ?_
                exact k_wk (J24h (decide (a0_m.Min < 0)) H) [41, 0, 1, 2, 3, 4, 5, 6, 10, 11, 17, 18, 24, 25, 30, 31, 32, 33, 34, 35, 36, 37] [] 0 [0] 0 rfl rfl rfl
        · intro J16 J16h H
          cases b14 with
          | true =>
            rw [cond_true] at H
            refine o_gnot rfl rfl rfl rfl rfl rfl rfl rfl ?_
            refine o_gnot rfl rfl rfl rfl rfl rfl rfl rfl ?_
            refine o_gnot rfl rfl rfl rfl rfl rfl rfl rfl ?_
            refine o_gnot rfl rfl rfl rfl rfl rfl rfl rfl ?_
            refine o_run ft [27] rfl rfl ?_
            exact k_wk (J16h true H) [30, 0, 1, 2, 3, 4, 5, 6, 10, 11, 17, 18, 24, 25] [] 0 [0] 0 rfl rfl rfl
          | false =>
            rw [cond_false] at H
            refine o_run ft [23] rfl rfl ?_
            refine o_ld (hG 0 rfl) rfl (ev_ldN (j := 71) rfl rfl Tryz.isAgg49 (sz (Img.len _) Tryz.sizeOf49) (MetaS.sub_Coming _) rfl) (g1 rfl rfl rfl rfl) rfl rfl ?_
            obtain ⟨r49, Hc50, H⟩ := bind_some' H
            refine oc (k_call (c_meta_image a0_m.Coming r49 Hc50) Tryz.call167 rfl rfl rfl [] [] rfl rfl (g1 rfl rfl rfl rfl) rfl rfl ?_)
            rintro _ _ _ ⟨rfl, rfl, rfl⟩
            dsimp only [app]
            refine o_run ft [26, 27] rfl rfl ?_
            exact k_wk (J16h (!r49) H) [30, 0, 1, 2, 3, 4, 5, 6, 10, 11, 17, 18, 24, 25] [] 0 [0] 0 rfl rfl rfl
      · intro J12 J12h H
        cases b10 with
        | true =>
          rw [cond_true] at H
          refine o_gnot rfl rfl rfl rfl rfl rfl rfl rfl ?_
          refine o_gnot rfl rfl rfl rfl rfl rfl rfl rfl ?_
          refine o_gnot rfl rfl rfl rfl rfl rfl rfl rfl ?_
          refine o_gnot rfl rfl rfl rfl rfl rfl rfl rfl ?_
          refine o_gnot rfl rfl rfl rfl rfl rfl rfl rfl ?_
          refine o_run ft [21] rfl rfl ?_
          exact k_wk (J12h true H) [24, 0, 1, 2, 3, 4, 5, 6, 10, 11, 17, 18] [] 0 [0] 0 rfl rfl rfl
        | false =>
          rw [cond_false] at H
          refine o_run ft [16] rfl rfl ?_
          refine o_pu rfl (ev_idx_array (k := 1) rfl rfl rfl Tryz.runUnderlying50 Tryz.sizeOf49 ⟨by omega, by omega⟩ rfl) (g1 rfl rfl rfl rfl) rfl rfl ?_
          refine o_ld (hG 0 rfl) rfl (ev_ldN (j := 35) rfl rfl Tryz.isAgg49 (sz (Img.len _) Tryz.sizeOf49) (sub_sub (MetaS.sub_Have _) (sub_arr Img.len Img.zero _ (k := 1) ⟨by omega, by omega⟩ rfl) rfl) rfl) (g1 rfl rfl rfl rfl) rfl rfl ?_
          obtain ⟨r51, Hc52, H⟩ := bind_some' H
          refine oc (k_call (c_meta_image (at' Img.zero a0_m.Have.l 1) r51 Hc52) Tryz.call167 rfl rfl rfl [] [] rfl rfl (g1 rfl rfl rfl rfl) rfl rfl ?_)
          rintro _ _ _ ⟨rfl, rfl, rfl⟩
          dsimp only [app]
          refine o_run ft [20, 21] rfl rfl ?_
          exact k_wk (J12h (!r51) H) [24, 0, 1, 2, 3, 4, 5, 6, 10, 11, 17, 18] [] 0 [0] 0 rfl rfl rfl
    · intro J8 J8h H
      cases b6 with
      | true =>
        rw [cond_true] at H
        refine o_gnot rfl rfl rfl rfl rfl rfl rfl rfl ?_
        refine o_gnot rfl rfl rfl rfl rfl rfl rfl rfl ?_
        refine o_gnot rfl rfl rfl rfl rfl rfl rfl rfl ?_
        refine o_gnot rfl rfl rfl rfl rfl rfl rfl rfl ?_
        refine o_gnot rfl rfl rfl rfl rfl rfl rfl rfl ?_
        refine o_run ft [14] rfl rfl ?_
        exact k_wk (J8h true H) [17, 0, 1, 2, 3, 4, 5, 6, 10, 11] [] 0 [0] 0 rfl rfl rfl
      | false =>
        rw [cond_false] at H
        refine o_run ft [9] rfl rfl ?_
        refine o_pu rfl (ev_idx_array (k := 0) rfl rfl rfl Tryz.runUnderlying50 Tryz.sizeOf49 ⟨by omega, by omega⟩ rfl) (g1 rfl rfl rfl rfl) rfl rfl ?_
        refine o_ld (hG 0 rfl) rfl (ev_ldN (j := 1) rfl rfl Tryz.isAgg49 (sz (Img.len _) Tryz.sizeOf49) (sub_sub (MetaS.sub_Have _) (sub_arr Img.len Img.zero _ (k := 0) ⟨by omega, by omega⟩ rfl) rfl) rfl) (g1 rfl rfl rfl rfl) rfl rfl ?_
        obtain ⟨r53, Hc54, H⟩ := bind_some' H
        refine oc (k_call (c_meta_image (at' Img.zero a0_m.Have.l 0) r53 Hc54) Tryz.call167 rfl rfl rfl [] [] rfl rfl (g1 rfl rfl rfl rfl) rfl rfl ?_)
        rintro _ _ _ ⟨rfl, rfl, rfl⟩
        dsimp only [app]
        refine o_run ft [13, 14] rfl rfl ?_
        exact k_wk (J8h (!r53) H) [17, 0, 1, 2, 3, 4, 5, 6, 10, 11] [] 0 [0] 0 rfl rfl rfl
  · intro J4 J4h H
    cases b2 with
    | true =>
      rw [cond_true] at H
      refine o_gnot rfl rfl rfl rfl rfl rfl rfl rfl ?_
      refine o_gnot rfl rfl rfl rfl rfl rfl rfl rfl ?_
      refine o_gnot rfl rfl rfl rfl rfl rfl rfl rfl ?_
      refine o_run ft [7] rfl rfl ?_
      exact k_wk (J4h true H) [10, 0, 1, 2, 3, 4, 5, 6] [] 0 [0] 0 rfl rfl rfl
    | false =>
      rw [cond_false] at H
      refine o_run ft [4] rfl rfl ?_
      refine o_ld (hG 0 rfl) rfl (ev_ld1 (j := 0) rfl rfl Tryz.isAgg3 (MetaS.sub_Active _) rfl) (g1 rfl rfl rfl rfl) rfl rfl ?_
      refine o_run ft [6, 7] rfl rfl ?_
      exact k_wk (J4h (decide (a0_m.Active > 1)) H) [10, 0, 1, 2, 3, 4, 5, 6] [] 0 [0] 0 rfl rfl rfl

def manifest_Read (a0_b : List UInt8) : Option (Mani × (List UInt8) × Int) :=
bif ((a0_b.length : Int) != 92) then (
some (Mani.zero, [], 6)) else (
(field_NewReader a0_b).bind fun r5 =>
(field_Reader_Raw (⟨r5.b, r5.bad⟩ : ReaderS) (4 : Int)).bind fun r10 =>
(field_Reader_Raw (⟨r10.2.b, r10.2.bad⟩ : ReaderS) (16 : Int)).bind fun r16 =>
(strings_TrimRight r16.1).bind fun r22 =>
(field_Reader_Num (⟨r16.2.b, r16.2.bad⟩ : ReaderS) (4 : Int)).bind fun r25 =>
bnd ({ ((⟨r22, Img.zero⟩ : Mani) : Mani) with Image := { ((⟨r22, Img.zero⟩ : Mani).Image : Img) with Version := r25.1 } }) fun x29 =>
(field_Reader_Num (⟨r25.2.b, r25.2.bad⟩ : ReaderS) (4 : Int)).bind fun r31 =>
(field_Reader_Raw (⟨r31.2.b, r31.2.bad⟩ : ReaderS) (32 : Int)).bind fun r35 =>
bnd (!(r10.1 == ([87, 76, 77, 49] : List UInt8))) fun b42 =>
jn (fun x45 =>
bnd x45 fun b46 =>
jn (fun x49 =>
bnd x49 fun b50 =>
jn (fun x53 =>
bif x53 then (
some (Mani.zero, [], 6)) else (
(field_Reader_Raw (⟨r35.2.b, r35.2.bad⟩ : ReaderS) (32 : Int)).bind fun r55 =>
bnd ({ ({ (x29 : Mani) with Image := { (x29.Image : Img) with Size := r31.1 } } : Mani) with Image := { (({ (x29 : Mani) with Image := { (x29.Image : Img) with Size := r31.1 } }).Image : Img) with Digest := (Arr.cpy ((({ (x29 : Mani) with Image := { (x29.Image : Img) with Size := r31.1 } }).Image).Digest) r35.1) } }) fun x61 =>
some (x61, r55.1, 0))) fun J52 =>
bif b50 then (
J52 true) else
(manifest_number ((({ ({ (x29 : Mani) with Image := { (x29.Image : Img) with Size := r31.1 } } : Mani) with Image := { (({ (x29 : Mani) with Image := { (x29.Image : Img) with Size := r31.1 } }).Image : Img) with Digest := (Arr.cpy ((({ (x29 : Mani) with Image := { (x29.Image : Img) with Size := r31.1 } }).Image).Digest) r35.1) } }).Image).Size)).bind fun r63 =>
J52 (!r63)) fun J48 =>
bif b46 then (
J48 true) else
(manifest_number ((({ ({ (x29 : Mani) with Image := { (x29.Image : Img) with Size := r31.1 } } : Mani) with Image := { (({ (x29 : Mani) with Image := { (x29.Image : Img) with Size := r31.1 } }).Image : Img) with Digest := (Arr.cpy ((({ (x29 : Mani) with Image := { (x29.Image : Img) with Size := r31.1 } }).Image).Digest) r35.1) } }).Image).Version)).bind fun r65 =>
J48 (!r65)) fun J44 =>
bif b42 then (
J44 true) else
(names_Valid (({ ({ (x29 : Mani) with Image := { (x29.Image : Img) with Size := r31.1 } } : Mani) with Image := { (({ (x29 : Mani) with Image := { (x29.Image : Img) with Size := r31.1 } }).Image : Img) with Digest := (Arr.cpy ((({ (x29 : Mani) with Image := { (x29.Image : Img) with Size := r31.1 } }).Image).Digest) r35.1) } }).Name)).bind fun r67 =>
J44 (!r67))

theorem c_manifest_Read (a0_b : List UInt8) (A1 : Option Addr) (c2 : Nat) (r : Mani × (List UInt8) × Int) (H : manifest_Read a0_b = some r) : Fn Tryz.prog 116 [(.slice A1 a0_b.length c2)] [Sl E8 A1 c2 a0_b] [] (fun v D' G' => ∃ (A69 : Option Addr) (c70 : Nat), v = (.tuple #[(.agg (Mani.cells r.1).toArray), (.slice A69 r.2.1.length c70), (vi r.2.2)]) ∧ D' = [Sl E8 A69 c70 r.2.1] ∧ G' = [Spare A69 r.2.1.length c70 1]) := by
  unfold manifest_Read at H
  refine fn_of Tryz.func116 rfl Tryz.ntmps116 rfl ?_
  intro w0 D0 G0
  dsimp only [app, initEnv, Nat.zero_add, Nat.reduceAdd]
  refine s_seq ?_
  refine s_reg [0, 1, 2] rfl ?_
  refine oc (k_alloc rfl rfl Tryz.zeroValue103 (cs := Mani.cells Mani.zero) rfl (g0 rfl) rfl rfl ?_)
  intro b3
  refine o_run ft [1, 2] rfl rfl ?_
  refine o_nil ?_
  refine q_then ?_
  refine s_seq ?_
  refine s_seq ?_
  refine s_reg [0, 1, 2] rfl ?_
  refine o_run ft [0] rfl rfl ?_
  refine o_pu rfl (ev_len_slice rfl rfl Tryz.runUnderlying22) (g0 rfl) rfl rfl ?_
  refine o_run ft [2] rfl rfl ?_
  refine o_nil ?_
  refine q_then ?_
  refine s_cond rfl ?_ ?_
  · intro hb4
    have H := cnd_t H hb4
    refine s_seq ?_
    refine s_reg [0, 1, 2, 3] rfl ?_
    refine o_pu rfl (ev_build (cs := Mani.cells Mani.zero) rfl rfl Tryz.zeroValue103 Tryz.runUnderlying103 pl103 (show Instr.fill _ (Mani.cells Mani.zero : List Value).toArray _ = some _ from fill_nil)) (g0 rfl) rfl rfl ?_
    refine oc (k_st (j := 0) rfl rfl rfl rfl (vs := Mani.cells Mani.zero) rfl (sz (Mani.len _) Tryz.sizeOf103) (Mani.sc _) 0 rfl (spl_all ((Mani.len _).trans (Mani.len _).symm)) rfl (g0 rfl) rfl ?_)
    refine o_run ft [2, 3] rfl rfl ?_
    refine o_nil ?_
    refine q_then ?_
    refine s_ret ?_
    refine q_then_r ?_
    cases H
    refine k_nil_sl E8 ?_
    refine k_nil_spare 1 ?_
    exact q_end (rs_3 Tryz.results116 (rv_cell (j := 0) rfl (hG 1 rfl) Tryz.isAgg103 (sz (Mani.len _) Tryz.sizeOf103) (sub_all _) rfl) (rv_tmp rfl) (rv_tmp rfl)) ⟨none, 0, rfl, rfl, rfl⟩ [0] rfl 2 rfl [0] rfl 1 rfl
  · intro hb4
    have H := cnd_f H hb4
    refine s_skip ?_
    refine q_then ?_
    refine s_seq ?_
    refine s_reg [0, 1, 2] rfl ?_
    refine o_run ft [0] rfl rfl ?_
    obtain ⟨r5, Hc6, H⟩ := bind_some' H
    refine oc (k_call (c_field_NewReader a0_b A1 c2 r5 Hc6) Tryz.call107 rfl rfl rfl [0] [] rfl rfl (g0 rfl) rfl rfl ?_)
    rintro _ _ _ ⟨b7, A8, c9, rfl, rfl, rfl⟩
    dsimp only [app]
    refine o_run ft [2] rfl rfl ?_
    refine o_nil ?_
    refine q_then ?_
    refine s_seq ?_
    refine s_reg [0, 1, 2, 3, 4] rfl ?_
    refine o_run ft [0] rfl rfl ?_
    obtain ⟨r10, Hc11, H⟩ := bind_some' H
    refine oc (k_call (c_field_Reader_Raw b7 (⟨r5.b, r5.bad⟩ : ReaderS) A8 c9 4 r10 Hc11) Tryz.call171 rfl rfl rfl [0] [0] rfl rfl (g0 rfl) rfl rfl ?_)
    rintro _ _ _ ⟨A12, c13, A14, c15, rfl, rfl, rfl⟩
    dsimp only [app]
    refine o_ld (hSl 1 rfl) rfl (ev_bytes_string rfl rfl Tryz.runUnderlying22 Tryz.runUnderlying9 Tryz.runUnderlying5) (g0 rfl) rfl rfl ?_
    refine o_pu rfl (ev_bin rfl rfl (show _ = some (vs ([87, 76, 77, 49] : List UInt8)) from rfl) rfl (eql_s _ ([87, 76, 77, 49] : List UInt8))) (g0 rfl) rfl rfl ?_
    refine o_run ft [4] rfl rfl ?_
    refine o_nil ?_
    refine q_then ?_
    refine s_seq ?_
    refine s_reg [0, 1, 2, 3, 4, 5, 6] rfl ?_
    refine o_run ft [0] rfl rfl ?_
    obtain ⟨r16, Hc17, H⟩ := bind_some' H
    refine oc (k_call (c_field_Reader_Raw b7 (⟨r10.2.b, r10.2.bad⟩ : ReaderS) A14 c15 16 r16 Hc17) Tryz.call171 rfl rfl rfl [0] [1] rfl rfl (g0 rfl) rfl rfl ?_)
    rintro _ _ _ ⟨A18, c19, A20, c21, rfl, rfl, rfl⟩
    dsimp only [app]
    refine o_ld (hSl 1 rfl) rfl (ev_bytes_string rfl rfl Tryz.runUnderlying22 Tryz.runUnderlying9 Tryz.runUnderlying5) (g0 rfl) rfl rfl ?_
    obtain ⟨r22, Hc23, H⟩ := bind_some' H
    refine oc (k_call (c_strings_TrimRight r16.1 r22 Hc23) Tryz.call185 rfl rfl rfl [] [] rfl rfl (g0 rfl) rfl rfl ?_)
    rintro _ _ _ ⟨rfl, rfl, rfl⟩
    dsimp only [app]
    refine o_pu rfl (ev_build (cs := Mani.cells (⟨r22, Img.zero⟩ : Mani)) rfl rfl Tryz.zeroValue103 Tryz.runUnderlying103 pl103 (show Instr.fill _ (Mani.cells Mani.zero : List Value).toArray _ = some _ from (fill_cons rfl (s := [vs r22]) rfl rfl (Mani.set_Name _ r22) fill_nil))) (g0 rfl) rfl rfl ?_
    refine oc (k_alloc rfl rfl Tryz.zeroValue103 (cs := Mani.cells Mani.zero) rfl (g0 rfl) rfl rfl ?_)
    intro b24
    refine oc (k_st (j := 0) rfl rfl rfl rfl (vs := Mani.cells (⟨r22, Img.zero⟩ : Mani)) rfl (sz (Mani.len _) Tryz.sizeOf103) (Mani.sc _) 0 rfl (spl_all ((Mani.len _).trans (Mani.len _).symm)) rfl (g0 rfl) rfl ?_)
    refine o_nil ?_
    refine q_then ?_
    refine s_seq ?_
    refine s_reg [0, 1, 2, 3, 4] rfl ?_
    refine o_run ft [0] rfl rfl ?_
    obtain ⟨r25, Hc26, H⟩ := bind_some' H
    refine oc (k_call (c_field_Reader_Num b7 (⟨r16.2.b, r16.2.bad⟩ : ReaderS) A20 c21 4 r25 Hc26) Tryz.call108 rfl rfl rfl [0] [2] rfl rfl (g0 rfl) rfl rfl ?_)
    rintro _ _ _ ⟨A27, c28, rfl, rfl, rfl⟩
    dsimp only [app]
    refine o_run ft [2, 3] rfl rfl ?_
    refine oc (k_st (j := 1) rfl rfl rfl rfl (vs := [vi r25.1]) rfl (sz rfl Tryz.sizeOf3) rfl 1 rfl (spl_in (Mani.sub_Image _) (Img.set_Version _ r25.1) (Mani.set_Image _ _) rfl) rfl (g0 rfl) rfl ?_)
    obtain ⟨x29, hx30⟩ : ∃ x, x = ({ ((⟨r22, Img.zero⟩ : Mani) : Mani) with Image := { ((⟨r22, Img.zero⟩ : Mani).Image : Img) with Version := r25.1 } }) := ⟨_, rfl⟩
    have H := bnd_eq H hx30
    refine k_tok 1 (A' := At b24 0 (Mani.cells x29)) rfl (by rw [hx30]) ?_
    refine o_nil ?_
    refine q_then ?_
    refine s_seq ?_
    refine s_reg [0, 1, 2, 3, 4] rfl ?_
    refine o_run ft [0] rfl rfl ?_
    obtain ⟨r31, Hc32, H⟩ := bind_some' H
    refine oc (k_call (c_field_Reader_Num b7 (⟨r25.2.b, r25.2.bad⟩ : ReaderS) A27 c28 4 r31 Hc32) Tryz.call108 rfl rfl rfl [0] [0] rfl rfl (g0 rfl) rfl rfl ?_)
    rintro _ _ _ ⟨A33, c34, rfl, rfl, rfl⟩
    dsimp only [app]
    refine o_run ft [2, 3] rfl rfl ?_
    refine oc (k_st (j := 2) rfl rfl rfl rfl (vs := [vi r31.1]) rfl (sz rfl Tryz.sizeOf3) rfl 1 rfl (spl_in (Mani.sub_Image _) (Img.set_Size _ r31.1) (Mani.set_Image _ _) rfl) rfl (g0 rfl) rfl ?_)
    refine o_nil ?_
    refine q_then ?_
    refine s_seq ?_
    refine s_draw mixed [] ?_
    refine a_run ft [0, 1] rfl (fun _ _ _ _ _ h => h) (by kernel_rfl) rfl ?_
    refine a_p1 2 (by kernel_rfl) rfl (ev_slice_arr rfl rfl Tryz.runUnderlying45 Tryz.sizeOf5) (fun _ _ _ h => h) (g0 rfl) rfl rfl ?_
    refine a_run ft [3] rfl (fun _ _ _ _ _ h => h) (by kernel_rfl) rfl ?_
    refine ac 4 (by kernel_rfl) sl_nil ?_
    obtain ⟨r35, Hc36, H⟩ := bind_some' H
    refine k_call (c_field_Reader_Raw b7 (⟨r31.2.b, r31.2.bad⟩ : ReaderS) A33 c34 32 r35 Hc36) Tryz.call171 rfl rfl rfl [0] [0] rfl rfl (g0 rfl) rfl rfl ?_
    rintro _ _ _ ⟨A37, c38, A39, c40, rfl, rfl, rfl⟩
    dsimp only [app]
    refine ac 5 (by kernel_rfl) sl_nil ?_
    refine k_copy (xs := ((({ (x29 : Mani) with Image := { (x29.Image : Img) with Size := r31.1 } }).Image).Digest).l) (j := 3) rfl rfl rfl rfl Tryz.underlying22 info5 rfl E8_len E8_one 2 rfl 1 rfl ((({ (x29 : Mani) with Image := { (x29.Image : Img) with Size := r31.1 } }).Image).Digest).len (sub_sub (Mani.sub_Image _) (Img.sub_Digest _) rfl) (spl_in (Mani.sub_Image _) (Img.set_Digest _ (Arr.cpy ((({ (x29 : Mani) with Image := { (x29.Image : Img) with Size := r31.1 } }).Image).Digest) r35.1)) (Mani.set_Image _ _) rfl) rfl (g0 rfl) rfl rfl ?_
    refine a_done (by kernel_rfl) sl_nil ?_
    refine q_then ?_
    refine s_seq ?_
    refine s_seq ?_
    refine s_reg [0, 1, 2, 3, 4, 5, 6, 7, 8, 9, 10, 11, 12, 13, 14, 15, 16, 17, 18, 19, 20, 21] rfl ?_
    refine o_run ft [0, 1, 2] rfl rfl ?_
    refine k_name 39 rfl ?_
    intro b42 hb43
    have H := bnd_eq H hb43
    refine o_jb 44 [8, 9, 10, 11, 12, 13, 14, 15, 16, 17, 18, 19, 20, 21] [0, 2, 3, 4, 5, 6, 7, 8, 9, 10, 12, 13, 14, 15, 16, 17, 18, 19, 20, 21, 22, 23, 24, 25, 26, 27, 28, 29, 30, 31, 32, 33, 34, 35, 36, 37, 38, 39] H rfl ?_ ?_
    · intro x45 H
      refine o_run ft [8] rfl rfl ?_
      refine k_name 45 rfl ?_
      intro b46 hb47
      have H := bnd_eq H hb47
      refine o_jb 51 [15, 16, 17, 18, 19, 20, 21] [0, 2, 3, 4, 5, 6, 7, 8, 9, 10, 12, 13, 14, 15, 16, 17, 18, 19, 20, 21, 22, 23, 24, 25, 26, 27, 28, 29, 30, 31, 32, 33, 34, 35, 36, 37, 38, 39, 44, 45] H rfl ?_ ?_
      · intro x49 H
        refine o_run ft [15] rfl rfl ?_
        refine k_name 52 rfl ?_
        intro b50 hb51
        have H := bnd_eq H hb51
        refine o_jb 58 [] [0, 2, 3, 4, 5, 6, 7, 8, 9, 10, 12, 13, 14, 15, 16, 17, 18, 19, 20, 21, 22, 23, 24, 25, 26, 27, 28, 29, 30, 31, 32, 33, 34, 35, 36, 37, 38, 39, 44, 45, 51, 52] H rfl ?_ ?_
        · intro x53 H
          refine o_nil ?_
          refine q_then ?_
          refine s_cond rfl ?_ ?_
          · intro hb54
            have H := cnd_t H hb54
            refine s_seq ?_
            refine s_reg [0, 1, 2, 3] rfl ?_
            refine o_pu rfl (ev_build (cs := Mani.cells Mani.zero) rfl rfl Tryz.zeroValue103 Tryz.runUnderlying103 pl103 (show Instr.fill _ (Mani.cells Mani.zero : List Value).toArray _ = some _ from fill_nil)) (g0 rfl) rfl rfl ?_
            refine oc (k_st (j := 0) rfl rfl rfl rfl (vs := Mani.cells Mani.zero) rfl (sz (Mani.len _) Tryz.sizeOf103) (Mani.sc _) 5 rfl (spl_all ((Mani.len _).trans (Mani.len _).symm)) rfl (g0 rfl) rfl ?_)
            refine o_run ft [2, 3] rfl rfl ?_
            refine o_nil ?_
            refine q_then ?_
            refine s_ret ?_
            refine q_then_r ?_
            cases H
            refine k_nil_sl E8 ?_
            refine k_nil_spare 1 ?_
            exact q_end (rs_3 Tryz.results116 (rv_cell (j := 0) rfl (hG 6 rfl) Tryz.isAgg103 (sz (Mani.len _) Tryz.sizeOf103) (sub_all _) rfl) (rv_tmp rfl) (rv_tmp rfl)) ⟨none, 0, rfl, rfl, rfl⟩ [0] rfl 11 rfl [0] rfl 6 rfl
          · intro hb54
            have H := cnd_f H hb54
            refine s_skip ?_
            refine q_then ?_
            refine s_seq ?_
            refine s_draw mixed [(0, [3], Has b24 0 (Mani.cells ({ ({ (x29 : Mani) with Image := { (x29.Image : Img) with Size := r31.1 } } : Mani) with Image := { (({ (x29 : Mani) with Image := { (x29.Image : Img) with Size := r31.1 } }).Image : Img) with Digest := (Arr.cpy ((({ (x29 : Mani) with Image := { (x29.Image : Img) with Size := r31.1 } }).Image).Digest) r35.1) } })))] ?_
            refine a_l1 0 0 rfl (by kernel_rfl) rfl (ev_ldN (j := 0) rfl rfl Tryz.isAgg103 (sz (Mani.len _) Tryz.sizeOf103) (sub_all _) rfl) (fun _ _ _ h => h) (g0 rfl) rfl rfl ?_
            refine a_run ft [1] rfl (fun _ _ _ _ _ h => h) (by kernel_rfl) rfl ?_
            refine ac 2 (by kernel_rfl) (sl_cons (hG 2 rfl) sl_nil) ?_
            obtain ⟨r55, Hc56, H⟩ := bind_some' H
            refine k_call (c_field_Reader_Raw b7 (⟨r35.2.b, r35.2.bad⟩ : ReaderS) A39 c40 32 r55 Hc56) Tryz.call171 rfl rfl rfl [0] [1] rfl rfl (g0 rfl) rfl rfl ?_
            rintro _ _ _ ⟨A57, c58, A59, c60, rfl, rfl, rfl⟩
            dsimp only [app]
            refine ac 3 (by kernel_rfl) (sl_cons (hG 3 rfl) sl_nil) ?_
            refine k_st (j := 0) rfl rfl rfl rfl (vs := Mani.cells ({ ({ (x29 : Mani) with Image := { (x29.Image : Img) with Size := r31.1 } } : Mani) with Image := { (({ (x29 : Mani) with Image := { (x29.Image : Img) with Size := r31.1 } }).Image : Img) with Digest := (Arr.cpy ((({ (x29 : Mani) with Image := { (x29.Image : Img) with Size := r31.1 } }).Image).Digest) r35.1) } })) rfl (sz (Mani.len _) Tryz.sizeOf103) (Mani.sc _) 6 rfl (spl_all ((Mani.len _).trans (Mani.len _).symm)) rfl (g0 rfl) rfl ?_
            obtain ⟨x61, hx62⟩ : ∃ x, x = ({ ({ (x29 : Mani) with Image := { (x29.Image : Img) with Size := r31.1 } } : Mani) with Image := { (({ (x29 : Mani) with Image := { (x29.Image : Img) with Size := r31.1 } }).Image : Img) with Digest := (Arr.cpy ((({ (x29 : Mani) with Image := { (x29.Image : Img) with Size := r31.1 } }).Image).Digest) r35.1) } }) := ⟨_, rfl⟩
            have H := bnd_eq H hx62
            refine k_tok 6 (A' := At b3 0 (Mani.cells x61)) rfl (by rw [hx62]) ?_
            refine a_run ft [4, 5] rfl (fun _ _ _ _ _ h => h) (by kernel_rfl) rfl ?_
            refine a_done (by kernel_rfl) (sl_end (by kernel_rfl) sl_nil) ?_
            refine q_then ?_
            refine s_ret ?_
            cases H
            exact q_end (rs_3 Tryz.results116 (rv_cell (j := 0) rfl (hG 6 rfl) Tryz.isAgg103 (sz (Mani.len _) Tryz.sizeOf103) (sub_all _) rfl) (rv_tmp rfl) (rv_tmp rfl)) ⟨A57, c58, rfl, rfl, rfl⟩ [1] rfl 12 rfl [0] rfl 6 rfl
        · intro J52 J52h H
          cases b50 with
          | true =>
            rw [cond_true] at H
            refine o_gnot rfl rfl rfl rfl rfl rfl rfl rfl ?_
            refine o_gnot rfl rfl rfl rfl rfl rfl rfl rfl ?_
            refine o_gnot rfl rfl rfl rfl rfl rfl rfl rfl ?_
            refine o_gnot rfl rfl rfl rfl rfl rfl rfl rfl ?_
            refine o_gnot rfl rfl rfl rfl rfl rfl rfl rfl ?_
            refine o_run ft [21] rfl rfl ?_
            exact k_wk (J52h true H) [58, 0, 2, 3, 4, 5, 6, 7, 8, 9, 10, 12, 13, 14, 15, 16, 17, 18, 19, 20, 21, 22, 23, 24, 25, 26, 27, 28, 29, 30, 31, 32, 33, 34, 35, 36, 37, 38, 39, 44, 45, 51, 52] [0, 1, 2, 3, 4, 5, 6, 7, 8, 9] 10 [0, 0, 0, 0, 0, 0] 0 rfl rfl rfl
          | false =>
            rw [cond_false] at H
            refine o_run ft [16, 17] rfl rfl ?_
            refine o_ld (hG 2 rfl) rfl (ev_ld1 (j := 2) rfl rfl Tryz.isAgg3 (sub_sub (Mani.sub_Image _) (Img.sub_Size _) rfl) rfl) (g1 rfl rfl rfl rfl) rfl rfl ?_
            obtain ⟨r63, Hc64, H⟩ := bind_some' H
            refine oc (k_call (c_manifest_number ((({ ({ (x29 : Mani) with Image := { (x29.Image : Img) with Size := r31.1 } } : Mani) with Image := { (({ (x29 : Mani) with Image := { (x29.Image : Img) with Size := r31.1 } }).Image : Img) with Digest := (Arr.cpy ((({ (x29 : Mani) with Image := { (x29.Image : Img) with Size := r31.1 } }).Image).Digest) r35.1) } }).Image).Size) r63 Hc64) Tryz.call186 rfl rfl rfl [] [] rfl rfl (g1 rfl rfl rfl rfl) rfl rfl ?_)
            rintro _ _ _ ⟨rfl, rfl, rfl⟩
            dsimp only [app]
            refine o_run ft [20, 21] rfl rfl ?_
            exact k_wk (J52h (!r63) H) [58, 0, 2, 3, 4, 5, 6, 7, 8, 9, 10, 12, 13, 14, 15, 16, 17, 18, 19, 20, 21, 22, 23, 24, 25, 26, 27, 28, 29, 30, 31, 32, 33, 34, 35, 36, 37, 38, 39, 44, 45, 51, 52] [0, 1, 2, 3, 4, 5, 6, 7, 8, 9] 10 [0, 0, 0, 0, 0, 0] 0 rfl rfl rfl
      · intro J48 J48h H
        cases b46 with
        | true =>
          rw [cond_true] at H
          refine o_gnot rfl rfl rfl rfl rfl rfl rfl rfl ?_
          refine o_gnot rfl rfl rfl rfl rfl rfl rfl rfl ?_
          refine o_gnot rfl rfl rfl rfl rfl rfl rfl rfl ?_
          refine o_gnot rfl rfl rfl rfl rfl rfl rfl rfl ?_
          refine o_gnot rfl rfl rfl rfl rfl rfl rfl rfl ?_
          refine o_run ft [14] rfl rfl ?_
          exact k_wk (J48h true H) [51, 0, 2, 3, 4, 5, 6, 7, 8, 9, 10, 12, 13, 14, 15, 16, 17, 18, 19, 20, 21, 22, 23, 24, 25, 26, 27, 28, 29, 30, 31, 32, 33, 34, 35, 36, 37, 38, 39, 44, 45] [0, 1, 2, 3, 4, 5, 6, 7, 8, 9] 10 [0, 0, 0, 0, 0, 0] 0 rfl rfl rfl
        | false =>
          rw [cond_false] at H
          refine o_run ft [9, 10] rfl rfl ?_
          refine o_ld (hG 2 rfl) rfl (ev_ld1 (j := 1) rfl rfl Tryz.isAgg3 (sub_sub (Mani.sub_Image _) (Img.sub_Version _) rfl) rfl) (g1 rfl rfl rfl rfl) rfl rfl ?_
          obtain ⟨r65, Hc66, H⟩ := bind_some' H
          refine oc (k_call (c_manifest_number ((({ ({ (x29 : Mani) with Image := { (x29.Image : Img) with Size := r31.1 } } : Mani) with Image := { (({ (x29 : Mani) with Image := { (x29.Image : Img) with Size := r31.1 } }).Image : Img) with Digest := (Arr.cpy ((({ (x29 : Mani) with Image := { (x29.Image : Img) with Size := r31.1 } }).Image).Digest) r35.1) } }).Image).Version) r65 Hc66) Tryz.call186 rfl rfl rfl [] [] rfl rfl (g1 rfl rfl rfl rfl) rfl rfl ?_)
          rintro _ _ _ ⟨rfl, rfl, rfl⟩
          dsimp only [app]
          refine o_run ft [13, 14] rfl rfl ?_
          exact k_wk (J48h (!r65) H) [51, 0, 2, 3, 4, 5, 6, 7, 8, 9, 10, 12, 13, 14, 15, 16, 17, 18, 19, 20, 21, 22, 23, 24, 25, 26, 27, 28, 29, 30, 31, 32, 33, 34, 35, 36, 37, 38, 39, 44, 45] [0, 1, 2, 3, 4, 5, 6, 7, 8, 9] 10 [0, 0, 0, 0, 0, 0] 0 rfl rfl rfl
    · intro J44 J44h H
      cases b42 with
      | true =>
        rw [cond_true] at H
        refine o_gnot rfl rfl rfl rfl rfl rfl rfl rfl ?_
        refine o_gnot rfl rfl rfl rfl rfl rfl rfl rfl ?_
        refine o_gnot rfl rfl rfl rfl rfl rfl rfl rfl ?_
        refine o_gnot rfl rfl rfl rfl rfl rfl rfl rfl ?_
        refine o_run ft [7] rfl rfl ?_
        exact k_wk (J44h true H) [44, 0, 2, 3, 4, 5, 6, 7, 8, 9, 10, 12, 13, 14, 15, 16, 17, 18, 19, 20, 21, 22, 23, 24, 25, 26, 27, 28, 29, 30, 31, 32, 33, 34, 35, 36, 37, 38, 39] [0, 1, 2, 3, 4, 5, 6, 7, 8, 9] 10 [0, 0, 0, 0, 0, 0] 0 rfl rfl rfl
      | false =>
        rw [cond_false] at H
        refine o_run ft [3] rfl rfl ?_
        refine o_ld (hG 2 rfl) rfl (ev_ld1 (j := 0) rfl rfl Tryz.isAgg9 (Mani.sub_Name _) rfl) (g1 rfl rfl rfl rfl) rfl rfl ?_
        obtain ⟨r67, Hc68, H⟩ := bind_some' H
        refine oc (k_call (c_names_Valid (({ ({ (x29 : Mani) with Image := { (x29.Image : Img) with Size := r31.1 } } : Mani) with Image := { (({ (x29 : Mani) with Image := { (x29.Image : Img) with Size := r31.1 } }).Image : Img) with Digest := (Arr.cpy ((({ (x29 : Mani) with Image := { (x29.Image : Img) with Size := r31.1 } }).Image).Digest) r35.1) } }).Name) r67 Hc68) Tryz.call157 rfl rfl rfl [] [] rfl rfl (g1 rfl rfl rfl rfl) rfl rfl ?_)
        rintro _ _ _ ⟨rfl, rfl, rfl⟩
        dsimp only [app]
        refine o_run ft [6, 7] rfl rfl ?_
        exact k_wk (J44h (!r67) H) [44, 0, 2, 3, 4, 5, 6, 7, 8, 9, 10, 12, 13, 14, 15, 16, 17, 18, 19, 20, 21, 22, 23, 24, 25, 26, 27, 28, 29, 30, 31, 32, 33, 34, 35, 36, 37, 38, 39] [0, 1, 2, 3, 4, 5, 6, 7, 8, 9] 10 [0, 0, 0, 0, 0, 0] 0 rfl rfl rfl

def nor_Flash_Program_l0 (a0_f : FlashS) (a1_at : Int) (a2_b : List UInt8) (J9 : Unit → Option (Int × FlashS)) : Nat → Int → Option (Int × FlashS)
  | 0, _ => none
  | k15 + 1, s15 =>
    bif (decide (s15 < (a2_b.length : Int))) then (
    chk (0 ≤ s15 ∧ s15 < a2_b.length) <|
    chk (0 ≤ (wrap64 (a1_at + s15)) ∧ (wrap64 (a1_at + s15)) < (a0_f.b.length : Int) ∧ (wrap64 (a1_at + s15)) < (a0_f.b.length : Int)) <|
    bif (((((at' 0 a2_b s15) : UInt8) &&& ~~~((at' 0 a0_f.b (wrap64 (a1_at + s15))) : UInt8)) : UInt8) != (0 : UInt8)) then (
    some (3, a0_f)) else (
    nor_Flash_Program_l0 a0_f a1_at a2_b J9 k15 (wrap64 (s15 + 1)))) else (
    J9 ())

def nor_Flash_Program (a0_f : FlashS) (a1_at : Int) (a2_b : List UInt8) : Option (Int × FlashS) :=
(nor_Flash_Off a0_f).bind fun r3 =>
bif r3 then (
some (4, a0_f)) else (
(nor_Flash_within a0_f a1_at (a2_b.length : Int)).bind fun r6 =>
bif (!r6) then (
some (2, a0_f)) else (
jn (fun (x10 : Unit) =>
(nor_Flash_work a0_f a1_at a2_b).bind fun r12 =>
some (r12.1, r12.2)) fun J9 =>
nor_Flash_Program_l0 a0_f a1_at a2_b J9 Fuel 0))

theorem c_nor_Flash_Program (a0_fp : Nat) (a0_f : FlashS) (a0_fg : FlashG) (a1_at : Int) (a2_b : List UInt8) (A1 : Option Addr) (c2 : Nat) (r : Int × FlashS) (H : nor_Flash_Program a0_f a1_at a2_b = some r) : Fn Tryz.prog 162 [(.pointer (some ⟨a0_fp, 0, none⟩)), (vi a1_at), (.slice A1 a2_b.length c2)] [Sl E8 A1 c2 a2_b] [FlashT a0_fg a0_fp a0_f] (fun v D' G' => ∃ (g22 : FlashG), v = (vi r.1) ∧ D' = [] ∧ G' = [FlashT g22 a0_fp r.2]) := by
  unfold nor_Flash_Program at H
  refine fn_of Tryz.func162 rfl Tryz.ntmps162 rfl ?_
  intro w0 D0 G0
  dsimp only [app, initEnv, Nat.zero_add, Nat.reduceAdd]
  refine s_seq ?_
  refine s_reg [0] rfl ?_
  refine o_run ft [0] rfl rfl ?_
  refine o_nil ?_
  refine q_then ?_
  refine s_seq ?_
  refine s_block ?_
  refine s_seq ?_
  refine s_reg [0, 1, 2] rfl ?_
  refine o_run ft [0] rfl rfl ?_
  obtain ⟨r3, Hc4, H⟩ := bind_some' H
  refine oc (k_call (c_nor_Flash_Off a0_fp a0_f a0_fg r3 Hc4) Tryz.call206 rfl rfl rfl [] [0] rfl rfl (g0 rfl) rfl rfl ?_)
  rintro _ _ _ ⟨rfl, rfl, rfl⟩
  dsimp only [app]
  refine o_run ft [2] rfl rfl ?_
  refine o_nil ?_
  refine q_then ?_
  refine s_cond rfl ?_ ?_
  · intro hb5
    have H := cnd_t H hb5
    refine s_seq ?_
    refine s_reg [0] rfl ?_
    refine o_run ft [0] rfl rfl ?_
    refine o_nil ?_
    refine q_then ?_
    refine s_ret ?_
    refine q_block_r ?_
    refine q_then_r ?_
    cases H
    exact q_end (rs_1 Tryz.results162 (rv_tmp rfl)) ⟨a0_fg, rfl, rfl, rfl⟩ [] rfl 1 rfl [0] rfl 0 rfl
  · intro hb5
    have H := cnd_f H hb5
    refine s_seq ?_
    refine s_reg [0, 1, 2, 3, 4, 5, 6, 7, 8, 9, 10] rfl ?_
    refine o_run ft [0] rfl rfl ?_
    refine o_pu rfl (ev_bin rfl rfl rfl rfl (eql_ptr_pn Tryz.runUnderlying29)) (g0 rfl) rfl rfl ?_
    refine o_run ft [2, 3, 4, 5] rfl rfl ?_
    refine o_pu rfl (ev_len_slice rfl rfl Tryz.runUnderlying22) (g1 rfl rfl rfl rfl) rfl rfl ?_
    obtain ⟨r6, Hc7, H⟩ := bind_some' H
    refine oc (k_call (c_nor_Flash_within a0_fp a0_f a0_fg a1_at (a2_b.length : Int) r6 Hc7) Tryz.call203 rfl rfl rfl [] [0] rfl rfl (g1 rfl rfl rfl rfl) rfl rfl ?_)
    rintro _ _ _ ⟨rfl, rfl, rfl⟩
    dsimp only [app]
    refine o_run ft [8, 9, 10] rfl rfl ?_
    refine o_nil ?_
    refine q_then ?_
    refine s_cond rfl ?_ ?_
    · intro hb8
      have H := cnd_t H hb8
      refine s_seq ?_
      refine s_reg [0] rfl ?_
      refine o_run ft [0] rfl rfl ?_
      refine o_nil ?_
      refine q_then ?_
      refine s_ret ?_
      refine q_block_r ?_
      refine q_then_r ?_
      cases H
      exact q_end (rs_1 Tryz.results162 (rv_tmp rfl)) ⟨a0_fg, rfl, rfl, rfl⟩ [] rfl 1 rfl [0] rfl 0 rfl
    · intro hb8
      have H := cnd_f H hb8
      refine s_skip ?_
      refine q_block ?_
      refine q_then ?_
      refine s_seq ?_
      refine s_seq ?_
      refine s_reg [0, 1, 2] rfl ?_
      refine o_run ft [0] rfl rfl ?_
      refine o_pu rfl (ev_len_slice rfl rfl Tryz.runUnderlying22) (g0 rfl) rfl rfl ?_
      refine o_run ft [2] rfl rfl ?_
      refine o_nil ?_
      refine q_then ?_
      refine q_join (fun (x10 : Unit) (y11 : Unit) => ⟨Sl E8 A1 c2 a2_b :: D0, FlashT a0_fg a0_fp a0_f :: G0, [(0, (.pointer (some ⟨a0_fp, 0, none⟩))), (1, (vi a1_at)), (2, (.slice A1 a2_b.length c2))]⟩) H ?_ ?_
      · intro x10 y11 H
        dsimp only
        refine q_then ?_
        refine s_seq ?_
        refine s_reg [0, 1, 2, 3, 4] rfl ?_
        refine o_run ft [0, 1, 2] rfl rfl ?_
        obtain ⟨r12, Hc13, H⟩ := bind_some' H
        refine oc (k_call (c_nor_Flash_work a0_fp a0_f a0_fg a1_at a2_b A1 c2 r12 Hc13) Tryz.call207 rfl rfl rfl [0] [0] rfl rfl (g0 rfl) rfl rfl ?_)
        rintro _ _ _ ⟨g14, rfl, rfl, rfl⟩
        dsimp only [app]
        refine o_run ft [4] rfl rfl ?_
        refine o_nil ?_
        refine q_then ?_
        refine s_ret ?_
        cases H
        exact q_end (rs_1 Tryz.results162 (rv_tmp rfl)) ⟨g14, rfl, rfl, rfl⟩ [] rfl 1 rfl [0] rfl 0 rfl
      · intro J9 J9h H
        refine s_block ?_
        refine s_loop (k_wk (loop_ind (fun (s15 : Int) (y15 : Unit) => ⟨Sl E8 A1 c2 a2_b :: D0, FlashT a0_fg a0_fp a0_f :: G0, [(0, (.pointer (some ⟨a0_fp, 0, none⟩))), (1, (vi a1_at)), (2, (.slice A1 a2_b.length c2)), (23, (.slice A1 a2_b.length c2)), (24, (vi (a2_b.length : Int))), (25, (vi s15))]⟩) (nor_Flash_Program_l0 a0_f a1_at a2_b J9) _ (fun _ => rfl) ?_ Fuel 0 () H) [0, 1, 2, 23, 24, 25] [0] 1 [0] 0 rfl rfl rfl)
        intro k15 s15 y15 ih H
        dsimp only
        rw [nor_Flash_Program_l0] at H
        refine s_seq ?_
        refine s_reg [0] rfl ?_
        refine o_run ft [0] rfl rfl ?_
        refine o_nil ?_
        refine q_then ?_
        refine s_seq ?_
        refine s_cond rfl ?_ ?_
        · intro hb16
          have H := cnd_t H hb16
          refine s_skip ?_
          refine q_then ?_
          refine s_seq ?_
          refine s_block ?_
          refine s_seq ?_
          refine s_reg [0, 1, 2, 3, 4] rfl ?_
          refine o_run ft [0] rfl rfl ?_
          obtain ⟨hk19, H⟩ := chk_some H
          refine oc (k_idx 0 0 rfl rfl rfl rfl rfl E8_len rfl Tryz.runUnderlying22 Tryz.sizeOf5 hk19 (g0 rfl) rfl rfl ?_)
          intro b17 q18
          refine o_ld (hD 0 rfl) rfl (ev_ld1 (j := 0) rfl rfl Tryz.isAgg5 (sub_nth (j := 0) rfl) rfl) (g0 rfl) rfl rfl ?_
          refine o_run ft [3, 4] rfl rfl ?_
          refine o_nil ?_
          refine q_then ?_
          refine s_seq ?_
          refine s_reg [0, 1, 2, 3, 4, 5, 6, 7, 8, 9, 10, 11] rfl ?_
          refine o_run ft [0, 1, 2, 3] rfl rfl ?_
          refine k_unp 0 rfl ?_
          dsimp only [app, del]
          refine o_ld (hG 0 rfl) rfl (ev_ld1 (j := 0) rfl rfl Tryz.isAgg22 (sub_nth (j := 0) rfl) rfl) (g0 rfl) rfl rfl ?_
          refine o_run ft [5, 6, 7] rfl rfl ?_
          obtain ⟨hk20, H⟩ := chk_some H
          refine o_pu rfl (ev_idx_slice rfl rfl rfl Tryz.runUnderlying22 Tryz.sizeOf5 ⟨hk20.1, hk20.2.1⟩ rfl) (g0 rfl) rfl rfl ?_
          refine o_ld (hG 1 rfl) rfl (ev_ld1 rfl rfl Tryz.isAgg5 (sub_map E8_len 0 (k := (wrap64 (a1_at + s15))) ⟨hk20.1, hk20.2.2⟩ rfl) (by omega)) (g0 rfl) rfl rfl ?_
          refine o_pu rfl (ev_bin rfl rfl rfl rfl (andNot_8 _ _)) (g0 rfl) rfl rfl ?_
          refine o_pu rfl (ev_bin rfl rfl rfl rfl (neq_8 _ 0)) (g0 rfl) rfl rfl ?_
          refine o_nil ?_
          refine q_then ?_
          refine s_cond rfl ?_ ?_
          · intro hb21
            have H := cnd_t H hb21
            refine s_seq ?_
            refine s_reg [0] rfl ?_
            refine o_run ft [0] rfl rfl ?_
            refine o_nil ?_
            refine q_then ?_
            refine s_ret ?_
            refine q_block_r ?_
            refine q_then_r ?_
            refine q_then_r ?_
            refine q_block_r ?_
            refine q_then_r ?_
            refine k_pk (FlashT a0_fg a0_fp a0_f) rfl [0] [0, 0, 0] rfl rfl ?_
            cases H
            exact q_end (rs_1 Tryz.results162 (rv_tmp rfl)) ⟨a0_fg, rfl, rfl, rfl⟩ [] rfl 3 rfl [0] rfl 0 rfl
          · intro hb21
            have H := cnd_f H hb21
            refine s_skip ?_
            refine q_block ?_
            refine q_then ?_
            refine s_reg [0, 1] rfl ?_
            refine o_run ft [0, 1] rfl rfl ?_
            refine o_nil ?_
            refine q_loop ?_
            refine k_pk (FlashT a0_fg a0_fp a0_f) rfl [0] [0, 0, 0] rfl rfl ?_
            exact k_wk (ih (wrap64 (s15 + 1)) () H) [0, 1, 2, 23, 24, 25] [2] 3 [0] 0 rfl rfl rfl
        · intro hb16
          have H := cnd_f H hb16
          refine s_exit ?_
          refine q_then_x ?_
          refine q_then_x ?_
          refine q_block_x ?_
          exact k_wk (J9h () () H) [0, 1, 2] [0] 1 [0] 0 rfl rfl rfl

def tenant_part (a0_f : FlashS) (a1_k : CapS) (a2_c : Config) : Option (Option AreaS) :=
(caps_Right (⟨a2_c.Name, a2_c.Key, a2_c.Slot, a2_c.Budget, a2_c.Quota, a2_c.Rights, a2_c.First⟩ : Config)).bind fun r7 =>
bif (!r7) then (
some (none : Option AreaS)) else (
(area_New a0_f a1_k a2_c.Budget).bind fun r10 =>
jn (fun (x15 : Bool) =>
bif x15 then (
some (none : Option AreaS)) else (
some (some r10))) fun J14 =>
(caps_Need (⟨a2_c.Name, a2_c.Key, a2_c.Slot, a2_c.Budget, a2_c.Quota, a2_c.Rights, a2_c.First⟩ : Config)).bind fun r18 =>
bnd (decide (a1_k.Len < r18)) fun b20 =>
bif b20 then (
J14 true) else (
(area_Area_Len r10).bind fun r22 =>
J14 (r22 != a1_k.Len)))

theorem c_tenant_part (a0_fp : Nat) (a0_f : FlashS) (a0_fg : FlashG) (a1_k : CapS) (a2_c : Config) (A1 : Option Addr) (c2 : Nat) (A3 : Option Addr) (c4 : Nat) (r : (Option AreaS)) (H : tenant_part a0_f a1_k a2_c = some r) : Fn Tryz.prog 36 [(.pointer (some ⟨a0_fp, 0, none⟩)), (.agg (CapS.cells a1_k).toArray), (.agg ([vs a2_c.Name, .slice A1 a2_c.Key.length c2, vi a2_c.Slot, vi a2_c.Budget, vi a2_c.Quota, vi a2_c.Rights, .slice A3 a2_c.First.length c4]).toArray)] [Sl E8 A3 c4 a2_c.First, Sl E8 A1 c2 a2_c.Key] [FlashT a0_fg a0_fp a0_f] (fun v D' G' => (r = none → v = (.pointer none) ∧ D' = [] ∧ G' = [FlashT a0_fg a0_fp a0_f]) ∧ (∀ x : AreaS, r = some x → ∃ (b24 : Nat), v = (.pointer (some ⟨b24, 0, none⟩)) ∧ D' = [] ∧ G' = [AreaT a0_fp () b24 x, FlashT a0_fg a0_fp a0_f])) := by
  unfold tenant_part at H
  refine fn_of Tryz.func36 rfl Tryz.ntmps36 rfl ?_
  intro w0 D0 G0
  dsimp only [app, initEnv, Nat.zero_add, Nat.reduceAdd]
  refine s_seq ?_
  refine s_reg [0, 1, 2] rfl ?_
  refine oc (k_box rfl rfl rfl (cs := CapS.cells a1_k) rfl (g0 rfl) rfl rfl ?_)
  intro b5
  refine oc (k_box rfl rfl rfl (cs := [vs a2_c.Name, .slice A1 a2_c.Key.length c2, vi a2_c.Slot, vi a2_c.Budget, vi a2_c.Quota, vi a2_c.Rights, .slice A3 a2_c.First.length c4]) rfl (g0 rfl) rfl rfl ?_)
  intro b6
  refine o_run ft [2] rfl rfl ?_
  refine o_nil ?_
  refine q_then ?_
  refine s_seq ?_
  refine s_seq ?_
  refine s_reg [0, 1, 2] rfl ?_
  refine o_ld (hG 0 rfl) rfl (ev_ldN (j := 0) (s := [vs a2_c.Name, .slice A1 a2_c.Key.length c2, vi a2_c.Slot, vi a2_c.Budget, vi a2_c.Quota, vi a2_c.Rights, .slice A3 a2_c.First.length c4]) rfl rfl Tryz.isAgg25 (sz rfl Tryz.sizeOf25) (sub_all _) rfl) (g0 rfl) rfl rfl ?_
  obtain ⟨r7, Hc8, H⟩ := bind_some' H
  refine oc (k_call (c_caps_Right (⟨a2_c.Name, a2_c.Key, a2_c.Slot, a2_c.Budget, a2_c.Quota, a2_c.Rights, a2_c.First⟩ : Config) A1 c2 A3 c4 r7 Hc8) Tryz.call91 rfl rfl rfl [0, 1] [] rfl rfl (g0 rfl) rfl rfl ?_)
  rintro _ _ _ ⟨rfl, rfl, rfl⟩
  dsimp only [app]
  refine o_run ft [2] rfl rfl ?_
  refine o_nil ?_
  refine q_then ?_
  refine s_cond rfl ?_ ?_
  · intro hb9
    have H := cnd_t H hb9
    refine s_seq ?_
    refine s_reg [0] rfl ?_
    refine o_run ft [0] rfl rfl ?_
    refine o_nil ?_
    refine q_then ?_
    refine s_ret ?_
    refine q_then_r ?_
    cases H
    exact q_end (rs_1 Tryz.results36 (rv_tmp rfl)) ⟨fun _ => ⟨rfl, rfl, rfl⟩, fun _ h => by cases h⟩ [] rfl 2 rfl [2] rfl 2 rfl
  · intro hb9
    have H := cnd_f H hb9
    refine s_skip ?_
    refine q_then ?_
    refine s_seq ?_
    refine s_reg [0, 1, 2, 3, 4, 5] rfl ?_
    refine o_run ft [0] rfl rfl ?_
    refine o_ld (hG 1 rfl) rfl (ev_ldN (j := 0) rfl rfl Tryz.isAgg28 (sz (CapS.len _) Tryz.sizeOf28) (sub_all _) rfl) (g0 rfl) rfl rfl ?_
    refine o_run ft [2] rfl rfl ?_
    refine o_ld (hG 0 rfl) rfl (ev_ld1 (j := 3) rfl rfl Tryz.isAgg3 (sub_nth (j := 3) rfl) rfl) (g0 rfl) rfl rfl ?_
    obtain ⟨r10, Hc11, H⟩ := bind_some' H
    refine oc (k_call (c_area_New a0_fp a0_f a0_fg a1_k a2_c.Budget r10 Hc11) Tryz.call32 rfl rfl rfl [] [2] rfl rfl (g0 rfl) rfl rfl ?_)
    rintro _ _ _ ⟨b12, rfl, rfl, rfl⟩
    dsimp only [app]
    refine o_run ft [5] rfl rfl ?_
    refine o_nil ?_
    refine q_then ?_
    refine s_seq ?_
    refine s_seq ?_
    refine q_join (fun (x15 : Bool) (y16 : Unit) => ⟨Sl E8 A3 c4 a2_c.First :: Sl E8 A1 c2 a2_c.Key :: D0, At b6 0 [vs a2_c.Name, .slice A1 a2_c.Key.length c2, vi a2_c.Slot, vi a2_c.Budget, vi a2_c.Quota, vi a2_c.Rights, .slice A3 a2_c.First.length c4] :: At b5 0 (CapS.cells a1_k) :: AreaT a0_fp () b12 r10 :: FlashT a0_fg a0_fp a0_f :: G0, [(7, (.pointer (some ⟨b12, 0, none⟩))), (27, (vb x15))]⟩) H ?_ ?_
    · intro x15 y16 H
      dsimp only
      refine q_then ?_
      refine s_cond rfl ?_ ?_
      · intro hb17
        have H := cnd_t H hb17
        refine s_seq ?_
        refine s_reg [0] rfl ?_
        refine o_run ft [0] rfl rfl ?_
        refine o_nil ?_
        refine q_then ?_
        refine s_ret ?_
        refine q_then_r ?_
        cases H
        exact q_end (rs_1 Tryz.results36 (rv_tmp rfl)) ⟨fun _ => ⟨rfl, rfl, rfl⟩, fun _ h => by cases h⟩ [] rfl 2 rfl [3] rfl 3 rfl
      · intro hb17
        have H := cnd_f H hb17
        refine s_skip ?_
        refine q_then ?_
        refine s_seq ?_
        refine s_reg [0, 1] rfl ?_
        refine o_run ft [0, 1] rfl rfl ?_
        refine o_nil ?_
        refine q_then ?_
        refine s_ret ?_
        cases H
        exact q_end (rs_1 Tryz.results36 (rv_tmp rfl)) ⟨fun h => (by cases h), fun _ h => by cases h; exact ⟨b12, rfl, rfl, rfl⟩⟩ [] rfl 2 rfl [2, 2] rfl 2 rfl
    · intro J14 J14h H
      refine s_draw mixed [(1, [], Has b5 0 (CapS.cells a1_k)), (2, [3], Has b6 0 [vs a2_c.Name, .slice A1 a2_c.Key.length c2, vi a2_c.Slot, vi a2_c.Budget, vi a2_c.Quota, vi a2_c.Rights, .slice A3 a2_c.First.length c4]), (9, [], Has b5 0 (CapS.cells a1_k))] ?_
      refine a_run ft [0] rfl (fun _ _ _ _ _ h => h) (by kernel_rfl) rfl ?_
      refine a_l1 1 0 rfl (by kernel_rfl) rfl (ev_ld1 (j := 2) rfl rfl Tryz.isAgg3 (CapS.sub_Len _) rfl) (fun _ _ _ h => h) (g0 rfl) rfl rfl ?_
      refine a_l1 2 1 rfl (by kernel_rfl) rfl (ev_ldN (j := 0) (s := [vs a2_c.Name, .slice A1 a2_c.Key.length c2, vi a2_c.Slot, vi a2_c.Budget, vi a2_c.Quota, vi a2_c.Rights, .slice A3 a2_c.First.length c4]) rfl rfl Tryz.isAgg25 (sz rfl Tryz.sizeOf25) (sub_all _) rfl) (fun _ _ _ h => h) (g0 rfl) rfl rfl ?_
      refine ac 3 (by kernel_rfl) (sl_cons (hG 3 rfl) (sl_cons (hG 2 rfl) (sl_cons (hG 3 rfl) sl_nil))) ?_
      obtain ⟨r18, Hc19, H⟩ := bind_some' H
      refine k_call (c_caps_Need (⟨a2_c.Name, a2_c.Key, a2_c.Slot, a2_c.Budget, a2_c.Quota, a2_c.Rights, a2_c.First⟩ : Config) A1 c2 A3 c4 r18 Hc19) Tryz.call92 rfl rfl rfl [0, 1] [] rfl rfl (g0 rfl) rfl rfl ?_
      rintro _ _ _ ⟨rfl, rfl, rfl⟩
      dsimp only [app]
      refine a_run ft [4, 5] rfl (fun _ _ _ _ _ h => h) (by kernel_rfl) rfl ?_
      refine k_name 21 rfl ?_
      intro b20 hb21
      have H := bnd_eq H hb21
      cases b20 with
      | true =>
        rw [cond_true] at H
        refine a_run ft [6, 7, 8, 9, 10, 11] rfl (fun _ _ _ _ _ h => h) (by kernel_rfl) rfl ?_
        refine a_done (by kernel_rfl) (sl_cons (hG 3 rfl) (sl_end (by kernel_rfl) (sl_cons (hG 3 rfl) sl_nil))) ?_
        exact k_wk (J14h true () H) [7, 27] [0, 1] 2 [2, 2, 0, 0] 0 rfl rfl rfl
      | false =>
        rw [cond_false] at H
        refine a_run ft [6, 8] rfl (fun _ _ _ _ _ h => h) (by kernel_rfl) rfl ?_
        refine a_l1 9 2 rfl (by kernel_rfl) rfl (ev_ld1 (j := 2) rfl rfl Tryz.isAgg3 (CapS.sub_Len _) rfl) (fun _ _ _ h => h) (g1 rfl rfl rfl rfl) rfl rfl ?_
        refine ac 7 (by kernel_rfl) (sl_cons (hG 3 rfl) (sl_end (by kernel_rfl) (sl_cons (hG 3 rfl) sl_nil))) ?_
        obtain ⟨r22, Hc23, H⟩ := bind_some' H
        refine k_call (c_area_Area_Len a0_fp b12 r10 r22 Hc23) Tryz.call81 rfl rfl rfl [] [0] rfl rfl (g1 rfl rfl rfl rfl) rfl rfl ?_
        rintro _ _ _ ⟨rfl, rfl, rfl⟩
        dsimp only [app]
        refine a_run ft [10, 11] rfl (fun _ _ _ _ _ h => h) (by kernel_rfl) rfl ?_
        refine a_done (by kernel_rfl) (sl_cons (hG 3 rfl) (sl_end (by kernel_rfl) (sl_cons (hG 3 rfl) sl_nil))) ?_
        exact k_wk (J14h (r22 != a1_k.Len) () H) [7, 27] [0, 1] 2 [2, 2, 0, 0] 0 rfl rfl rfl

end Go.Proofs.YtpdoioeckiiegaaGreatDoor.Wl
