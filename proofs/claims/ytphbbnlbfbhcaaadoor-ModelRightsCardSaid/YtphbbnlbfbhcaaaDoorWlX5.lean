import Derived.Test.YtphbbnlbfbhcaaaDoorWlW
import Derived.Test.YtphbbnlbfbhcaaaDoorWlX0
import Derived.Test.YtphbbnlbfbhcaaaDoorWlX2
import Derived.Test.YtphbbnlbfbhcaaaDoorWlX3
set_option linter.unusedSimpArgs false
set_option linter.unusedVariables false
set_option maxRecDepth 10000
namespace Go.Proofs.YtphbbnlbfbhcaaaDoor.Wl
open Go.RowKit Go.Proofs
def caps_Right (a0_c : Config) : Option Bool :=
(names_Valid a0_c.Name).bind fun r6 =>
bnd r6 fun b8 =>
jn (fun x11 =>
bnd x11 fun b12 =>
jn (fun x15 =>
bnd x15 fun b16 =>
jn (fun x19 =>
bnd x19 fun b20 =>
jn (fun x23 =>
bnd x23 fun b24 =>
jn (fun x27 =>
bnd x27 fun b28 =>
jn (fun x31 =>
bnd x31 fun b32 =>
jn (fun x35 =>
bnd x35 fun b36 =>
jn (fun x39 =>
bnd x39 fun b40 =>
jn (fun x43 =>
bnd x43 fun b44 =>
jn (fun x47 =>
bnd x47 fun b48 =>
jn (fun x51 =>
bnd x51 fun b52 =>
jn (fun x55 =>
some x55) fun J54 =>
bif b52 then (
J54 (decide ((a0_c.First.length : Int) ≤ (wrap64 (a0_c.Quota * 320))))) else
J54 false) fun J50 =>
bif b48 then (
J50 (decide ((a0_c.First.length : Int) ≥ 1))) else
J50 false) fun J46 =>
bif b44 then (
J46 (decide (a0_c.Rights ≤ 1023))) else
J46 false) fun J42 =>
bif b40 then (
J42 (decide (a0_c.Rights ≥ 0))) else
J42 false) fun J38 =>
bif b36 then (
J38 (decide (a0_c.Quota ≤ a0_c.Slot))) else
J38 false) fun J34 =>
bif b32 then (
J34 (decide (a0_c.Quota ≥ 1))) else
J34 false) fun J30 =>
bif b28 then (
J30 (decide (a0_c.Budget ≤ 1000))) else
J30 false) fun J26 =>
bif b24 then (
J26 (decide (a0_c.Budget ≥ 0))) else
J26 false) fun J22 =>
bif b20 then (
J22 (decide (a0_c.Slot ≤ 6))) else
J22 false) fun J18 =>
bif b16 then (
J18 (decide (a0_c.Slot ≥ 1))) else
J18 false) fun J14 =>
bif b12 then (
J14 (decide ((a0_c.Key.length : Int) ≤ 64))) else
J14 false) fun J10 =>
bif b8 then (
J10 (decide ((a0_c.Key.length : Int) ≥ 1))) else
J10 false

theorem c_caps_Right (a0_c : Config) (A1 : Option Addr) (c2 : Nat) (A3 : Option Addr) (c4 : Nat) (r : Bool) (H : caps_Right a0_c = some r) : Fn Tryd.prog 29 [(.agg ([vs a0_c.Name, .slice A1 a0_c.Key.length c2, vi a0_c.Slot, vi a0_c.Budget, vi a0_c.Quota, vi a0_c.Rights, .slice A3 a0_c.First.length c4]).toArray)] [Sl E8 A3 c4 a0_c.First, Sl E8 A1 c2 a0_c.Key] [] (fun v D' G' => v = (vb r) ∧ D' = [] ∧ G' = []) := by
  unfold caps_Right at H
  refine fn_of Tryd.func29 rfl Tryd.ntmps29 rfl ?_
  intro w0 D0 G0
  dsimp only [app, initEnv, Nat.zero_add, Nat.reduceAdd]
  refine s_seq ?_
  refine s_reg [0, 1] rfl ?_
  refine oc (k_box rfl rfl rfl (cs := [vs a0_c.Name, .slice A1 a0_c.Key.length c2, vi a0_c.Slot, vi a0_c.Budget, vi a0_c.Quota, vi a0_c.Rights, .slice A3 a0_c.First.length c4]) rfl (g0 rfl) rfl rfl ?_)
  intro b5
  refine o_pu rfl (ev_assign rfl rfl) (g0 rfl) rfl rfl ?_
  refine o_nil ?_
  refine q_then ?_
  refine s_seq ?_
  refine s_reg [0, 1, 2, 3, 4, 5, 6, 7, 8, 9, 10, 11, 12, 13, 14, 15, 16, 17, 18, 19, 20, 21, 22, 23, 24, 25, 26, 27, 28, 29, 30, 31, 32, 33, 34, 35, 36, 37, 38, 39, 40, 41, 42, 43, 44, 45, 46, 47, 48, 49, 50, 51, 52, 53, 54, 55, 56, 57, 58, 59, 60, 61, 62, 63, 64, 65, 66, 67, 68, 69, 70, 71, 72] rfl ?_
  refine o_pu rfl (ev_fieldAddr rfl rfl Tryd.runUnderlying46 rfl Tryd.sizeOf9 rfl rfl) (g0 rfl) rfl rfl ?_
  refine o_ld (hG 0 rfl) rfl (ev_ld1 (j := 0) rfl rfl Tryd.isAgg9 (sub_nth (j := 0) rfl) rfl) (g0 rfl) rfl rfl ?_
  obtain ⟨r6, Hc7, H⟩ := bind_some' H
  refine oc (k_call (c_names_Valid a0_c.Name r6 Hc7) Tryd.call49 rfl rfl rfl [] [] rfl rfl (g0 rfl) rfl rfl ?_)
  rintro _ _ _ ⟨rfl, rfl, rfl⟩
  dsimp only [app]
  refine o_pu rfl (ev_move rfl rfl) (g0 rfl) rfl rfl ?_
  refine k_name 6 rfl ?_
  intro b8 hb9
  have H := bnd_eq H hb9
  refine o_jb 11 [9, 10, 11, 12, 13, 14, 15, 16, 17, 18, 19, 20, 21, 22, 23, 24, 25, 26, 27, 28, 29, 30, 31, 32, 33, 34, 35, 36, 37, 38, 39, 40, 41, 42, 43, 44, 45, 46, 47, 48, 49, 50, 51, 52, 53, 54, 55, 56, 57, 58, 59, 60, 61, 62, 63, 64, 65, 66, 67, 68, 69, 70, 71, 72] [0, 1, 2, 3, 4, 5, 6] H rfl ?_ ?_
  · intro x11 H
    refine o_pu rfl (ev_move rfl rfl) (g0 rfl) rfl rfl ?_
    refine k_name 12 rfl ?_
    intro b12 hb13
    have H := bnd_eq H hb13
    refine o_jb 17 [15, 16, 17, 18, 19, 20, 21, 22, 23, 24, 25, 26, 27, 28, 29, 30, 31, 32, 33, 34, 35, 36, 37, 38, 39, 40, 41, 42, 43, 44, 45, 46, 47, 48, 49, 50, 51, 52, 53, 54, 55, 56, 57, 58, 59, 60, 61, 62, 63, 64, 65, 66, 67, 68, 69, 70, 71, 72] [0, 1, 2, 3, 4, 5, 6, 11, 12] H rfl ?_ ?_
    · intro x15 H
      refine o_pu rfl (ev_move rfl rfl) (g0 rfl) rfl rfl ?_
      refine k_name 18 rfl ?_
      intro b16 hb17
      have H := bnd_eq H hb17
      refine o_jb 22 [20, 21, 22, 23, 24, 25, 26, 27, 28, 29, 30, 31, 32, 33, 34, 35, 36, 37, 38, 39, 40, 41, 42, 43, 44, 45, 46, 47, 48, 49, 50, 51, 52, 53, 54, 55, 56, 57, 58, 59, 60, 61, 62, 63, 64, 65, 66, 67, 68, 69, 70, 71, 72] [0, 1, 2, 3, 4, 5, 6, 11, 12, 17, 18] H rfl ?_ ?_
      · intro x19 H
        refine o_pu rfl (ev_move rfl rfl) (g0 rfl) rfl rfl ?_
        refine k_name 23 rfl ?_
        intro b20 hb21
        have H := bnd_eq H hb21
        refine o_jb 27 [25, 26, 27, 28, 29, 30, 31, 32, 33, 34, 35, 36, 37, 38, 39, 40, 41, 42, 43, 44, 45, 46, 47, 48, 49, 50, 51, 52, 53, 54, 55, 56, 57, 58, 59, 60, 61, 62, 63, 64, 65, 66, 67, 68, 69, 70, 71, 72] [0, 1, 2, 3, 4, 5, 6, 11, 12, 17, 18, 22, 23] H rfl ?_ ?_
        · intro x23 H
          refine o_pu rfl (ev_move rfl rfl) (g0 rfl) rfl rfl ?_
          refine k_name 28 rfl ?_
          intro b24 hb25
          have H := bnd_eq H hb25
          refine o_jb 32 [30, 31, 32, 33, 34, 35, 36, 37, 38, 39, 40, 41, 42, 43, 44, 45, 46, 47, 48, 49, 50, 51, 52, 53, 54, 55, 56, 57, 58, 59, 60, 61, 62, 63, 64, 65, 66, 67, 68, 69, 70, 71, 72] [0, 1, 2, 3, 4, 5, 6, 11, 12, 17, 18, 22, 23, 27, 28] H rfl ?_ ?_
          · intro x27 H
            refine o_pu rfl (ev_move rfl rfl) (g0 rfl) rfl rfl ?_
            refine k_name 33 rfl ?_
            intro b28 hb29
            have H := bnd_eq H hb29
            refine o_jb 37 [35, 36, 37, 38, 39, 40, 41, 42, 43, 44, 45, 46, 47, 48, 49, 50, 51, 52, 53, 54, 55, 56, 57, 58, 59, 60, 61, 62, 63, 64, 65, 66, 67, 68, 69, 70, 71, 72] [0, 1, 2, 3, 4, 5, 6, 11, 12, 17, 18, 22, 23, 27, 28, 32, 33] H rfl ?_ ?_
            · intro x31 H
              refine o_pu rfl (ev_move rfl rfl) (g0 rfl) rfl rfl ?_
              refine k_name 38 rfl ?_
              intro b32 hb33
              have H := bnd_eq H hb33
              refine o_jb 42 [40, 41, 42, 43, 44, 45, 46, 47, 48, 49, 50, 51, 52, 53, 54, 55, 56, 57, 58, 59, 60, 61, 62, 63, 64, 65, 66, 67, 68, 69, 70, 71, 72] [0, 1, 2, 3, 4, 5, 6, 11, 12, 17, 18, 22, 23, 27, 28, 32, 33, 37, 38] H rfl ?_ ?_
              · intro x35 H
                refine o_pu rfl (ev_move rfl rfl) (g0 rfl) rfl rfl ?_
                refine k_name 43 rfl ?_
                intro b36 hb37
                have H := bnd_eq H hb37
                refine o_jb 49 [47, 48, 49, 50, 51, 52, 53, 54, 55, 56, 57, 58, 59, 60, 61, 62, 63, 64, 65, 66, 67, 68, 69, 70, 71, 72] [0, 1, 2, 3, 4, 5, 6, 11, 12, 17, 18, 22, 23, 27, 28, 32, 33, 37, 38, 42, 43] H rfl ?_ ?_
                · intro x39 H
                  refine o_pu rfl (ev_move rfl rfl) (g0 rfl) rfl rfl ?_
                  refine k_name 50 rfl ?_
                  intro b40 hb41
                  have H := bnd_eq H hb41
                  refine o_jb 54 [52, 53, 54, 55, 56, 57, 58, 59, 60, 61, 62, 63, 64, 65, 66, 67, 68, 69, 70, 71, 72] [0, 1, 2, 3, 4, 5, 6, 11, 12, 17, 18, 22, 23, 27, 28, 32, 33, 37, 38, 42, 43, 49, 50] H rfl ?_ ?_
                  · intro x43 H
                    refine o_pu rfl (ev_move rfl rfl) (g0 rfl) rfl rfl ?_
                    refine k_name 55 rfl ?_
                    intro b44 hb45
                    have H := bnd_eq H hb45
                    refine o_jb 59 [57, 58, 59, 60, 61, 62, 63, 64, 65, 66, 67, 68, 69, 70, 71, 72] [0, 1, 2, 3, 4, 5, 6, 11, 12, 17, 18, 22, 23, 27, 28, 32, 33, 37, 38, 42, 43, 49, 50, 54, 55] H rfl ?_ ?_
                    · intro x47 H
                      refine o_pu rfl (ev_move rfl rfl) (g0 rfl) rfl rfl ?_
                      refine k_name 60 rfl ?_
                      intro b48 hb49
                      have H := bnd_eq H hb49
                      refine o_jb 65 [63, 64, 65, 66, 67, 68, 69, 70, 71, 72] [0, 1, 2, 3, 4, 5, 6, 11, 12, 17, 18, 22, 23, 27, 28, 32, 33, 37, 38, 42, 43, 49, 50, 54, 55, 59, 60] H rfl ?_ ?_
                      · intro x51 H
                        refine o_pu rfl (ev_move rfl rfl) (g0 rfl) rfl rfl ?_
                        refine k_name 66 rfl ?_
                        intro b52 hb53
                        have H := bnd_eq H hb53
                        refine o_jb 74 [72] [0, 1, 2, 3, 4, 5, 6, 11, 12, 17, 18, 22, 23, 27, 28, 32, 33, 37, 38, 42, 43, 49, 50, 54, 55, 59, 60, 65, 66] H rfl ?_ ?_
                        · intro x55 H
                          refine o_pu rfl (ev_assign rfl rfl) (g0 rfl) rfl rfl ?_
                          refine o_nil ?_
                          refine q_then ?_
                          refine s_ret ?_
                          cases H
                          exact q_end (rs_1 Tryd.results29 (rv_tmp rfl)) ⟨rfl, rfl, rfl⟩ [] rfl 2 rfl [] rfl 1 rfl
                        · intro J54 H
                          cases b52 with
                          | true =>
                            rw [cond_true] at H
                            refine o_pu rfl (ev_fieldAddr rfl rfl Tryd.runUnderlying46 rfl Tryd.sizeOf32 rfl rfl) (g1 rfl rfl rfl rfl) rfl rfl ?_
                            refine o_ld (hG 0 rfl) rfl (ev_ld1 (j := 6) rfl rfl Tryd.isAgg32 (sub_nth (j := 6) rfl) rfl) (g1 rfl rfl rfl rfl) rfl rfl ?_
                            refine o_pu rfl (ev_len_slice rfl rfl Tryd.runUnderlying32) (g1 rfl rfl rfl rfl) rfl rfl ?_
                            refine o_pu rfl (ev_fieldAddr rfl rfl Tryd.runUnderlying46 rfl Tryd.sizeOf3 rfl rfl) (g1 rfl rfl rfl rfl) rfl rfl ?_
                            refine o_ld (hG 0 rfl) rfl (ev_ld1 (j := 4) rfl rfl Tryd.isAgg3 (sub_nth (j := 4) rfl) rfl) (g1 rfl rfl rfl rfl) rfl rfl ?_
                            refine o_pu rfl (ev_bin rfl rfl rfl rfl (mul_i _ 320)) (g1 rfl rfl rfl rfl) rfl rfl ?_
                            refine o_pu rfl (ev_bin rfl rfl rfl rfl (leq_i _ _)) (g1 rfl rfl rfl rfl) rfl rfl ?_
                            refine o_pu rfl (ev_pick_t rfl rfl rfl) (g0 rfl) rfl rfl ?_
                            exact k_wk (J54 (decide ((a0_c.First.length : Int) ≤ (wrap64 (a0_c.Quota * 320)))) H) [74, 0, 1, 2, 3, 4, 5, 6, 11, 12, 17, 18, 22, 23, 27, 28, 32, 33, 37, 38, 42, 43, 49, 50, 54, 55, 59, 60, 65, 66] [0, 1] 2 [0] 0 rfl rfl rfl
                          | false =>
                            rw [cond_false] at H
                            refine o_gnot rfl rfl rfl rfl rfl rfl rfl rfl ?_
                            refine o_gnot rfl rfl rfl rfl rfl rfl rfl rfl ?_
                            refine o_gnot rfl rfl rfl rfl rfl rfl rfl rfl ?_
                            refine o_gnot rfl rfl rfl rfl rfl rfl rfl rfl ?_
                            refine o_gnot rfl rfl rfl rfl rfl rfl rfl rfl ?_
                            refine o_gnot rfl rfl rfl rfl rfl rfl rfl rfl ?_
                            refine o_gnot rfl rfl rfl rfl rfl rfl rfl rfl ?_
                            refine o_pu rfl (ev_pick_f rfl rfl rfl) (g0 rfl) rfl rfl ?_
                            exact k_wk (J54 false H) [74, 0, 1, 2, 3, 4, 5, 6, 11, 12, 17, 18, 22, 23, 27, 28, 32, 33, 37, 38, 42, 43, 49, 50, 54, 55, 59, 60, 65, 66] [0, 1] 2 [0] 0 rfl rfl rfl
                      · intro J50 H
                        cases b48 with
                        | true =>
                          rw [cond_true] at H
                          refine o_pu rfl (ev_fieldAddr rfl rfl Tryd.runUnderlying46 rfl Tryd.sizeOf32 rfl rfl) (g1 rfl rfl rfl rfl) rfl rfl ?_
                          refine o_ld (hG 0 rfl) rfl (ev_ld1 (j := 6) rfl rfl Tryd.isAgg32 (sub_nth (j := 6) rfl) rfl) (g1 rfl rfl rfl rfl) rfl rfl ?_
                          refine o_pu rfl (ev_len_slice rfl rfl Tryd.runUnderlying32) (g1 rfl rfl rfl rfl) rfl rfl ?_
                          refine o_pu rfl (ev_bin rfl rfl rfl rfl (geq_i _ 1)) (g1 rfl rfl rfl rfl) rfl rfl ?_
                          refine o_pu rfl (ev_pick_t rfl rfl rfl) (g0 rfl) rfl rfl ?_
                          exact k_wk (J50 (decide ((a0_c.First.length : Int) ≥ 1)) H) [65, 0, 1, 2, 3, 4, 5, 6, 11, 12, 17, 18, 22, 23, 27, 28, 32, 33, 37, 38, 42, 43, 49, 50, 54, 55, 59, 60] [0, 1] 2 [0] 0 rfl rfl rfl
                        | false =>
                          rw [cond_false] at H
                          refine o_gnot rfl rfl rfl rfl rfl rfl rfl rfl ?_
                          refine o_gnot rfl rfl rfl rfl rfl rfl rfl rfl ?_
                          refine o_gnot rfl rfl rfl rfl rfl rfl rfl rfl ?_
                          refine o_gnot rfl rfl rfl rfl rfl rfl rfl rfl ?_
                          refine o_pu rfl (ev_pick_f rfl rfl rfl) (g0 rfl) rfl rfl ?_
                          exact k_wk (J50 false H) [65, 0, 1, 2, 3, 4, 5, 6, 11, 12, 17, 18, 22, 23, 27, 28, 32, 33, 37, 38, 42, 43, 49, 50, 54, 55, 59, 60] [0, 1] 2 [0] 0 rfl rfl rfl
                    · intro J46 H
                      cases b44 with
                      | true =>
                        rw [cond_true] at H
                        refine o_pu rfl (ev_fieldAddr rfl rfl Tryd.runUnderlying46 rfl Tryd.sizeOf3 rfl rfl) (g1 rfl rfl rfl rfl) rfl rfl ?_
                        refine o_ld (hG 0 rfl) rfl (ev_ld1 (j := 5) rfl rfl Tryd.isAgg3 (sub_nth (j := 5) rfl) rfl) (g1 rfl rfl rfl rfl) rfl rfl ?_
                        refine o_pu rfl (ev_bin rfl rfl rfl rfl (leq_i _ 1023)) (g1 rfl rfl rfl rfl) rfl rfl ?_
                        refine o_pu rfl (ev_pick_t rfl rfl rfl) (g0 rfl) rfl rfl ?_
                        exact k_wk (J46 (decide (a0_c.Rights ≤ 1023)) H) [59, 0, 1, 2, 3, 4, 5, 6, 11, 12, 17, 18, 22, 23, 27, 28, 32, 33, 37, 38, 42, 43, 49, 50, 54, 55] [0, 1] 2 [0] 0 rfl rfl rfl
                      | false =>
                        rw [cond_false] at H
                        refine o_gnot rfl rfl rfl rfl rfl rfl rfl rfl ?_
                        refine o_gnot rfl rfl rfl rfl rfl rfl rfl rfl ?_
                        refine o_gnot rfl rfl rfl rfl rfl rfl rfl rfl ?_
                        refine o_pu rfl (ev_pick_f rfl rfl rfl) (g0 rfl) rfl rfl ?_
                        exact k_wk (J46 false H) [59, 0, 1, 2, 3, 4, 5, 6, 11, 12, 17, 18, 22, 23, 27, 28, 32, 33, 37, 38, 42, 43, 49, 50, 54, 55] [0, 1] 2 [0] 0 rfl rfl rfl
                  · intro J42 H
                    cases b40 with
                    | true =>
                      rw [cond_true] at H
                      refine o_pu rfl (ev_fieldAddr rfl rfl Tryd.runUnderlying46 rfl Tryd.sizeOf3 rfl rfl) (g1 rfl rfl rfl rfl) rfl rfl ?_
                      refine o_ld (hG 0 rfl) rfl (ev_ld1 (j := 5) rfl rfl Tryd.isAgg3 (sub_nth (j := 5) rfl) rfl) (g1 rfl rfl rfl rfl) rfl rfl ?_
                      refine o_pu rfl (ev_bin rfl rfl rfl rfl (geq_i _ 0)) (g1 rfl rfl rfl rfl) rfl rfl ?_
                      refine o_pu rfl (ev_pick_t rfl rfl rfl) (g0 rfl) rfl rfl ?_
                      exact k_wk (J42 (decide (a0_c.Rights ≥ 0)) H) [54, 0, 1, 2, 3, 4, 5, 6, 11, 12, 17, 18, 22, 23, 27, 28, 32, 33, 37, 38, 42, 43, 49, 50] [0, 1] 2 [0] 0 rfl rfl rfl
                    | false =>
                      rw [cond_false] at H
                      refine o_gnot rfl rfl rfl rfl rfl rfl rfl rfl ?_
                      refine o_gnot rfl rfl rfl rfl rfl rfl rfl rfl ?_
                      refine o_gnot rfl rfl rfl rfl rfl rfl rfl rfl ?_
                      refine o_pu rfl (ev_pick_f rfl rfl rfl) (g0 rfl) rfl rfl ?_
                      exact k_wk (J42 false H) [54, 0, 1, 2, 3, 4, 5, 6, 11, 12, 17, 18, 22, 23, 27, 28, 32, 33, 37, 38, 42, 43, 49, 50] [0, 1] 2 [0] 0 rfl rfl rfl
                · intro J38 H
                  cases b36 with
                  | true =>
                    rw [cond_true] at H
                    refine o_pu rfl (ev_fieldAddr rfl rfl Tryd.runUnderlying46 rfl Tryd.sizeOf3 rfl rfl) (g1 rfl rfl rfl rfl) rfl rfl ?_
                    refine o_ld (hG 0 rfl) rfl (ev_ld1 (j := 4) rfl rfl Tryd.isAgg3 (sub_nth (j := 4) rfl) rfl) (g1 rfl rfl rfl rfl) rfl rfl ?_
                    refine o_pu rfl (ev_fieldAddr rfl rfl Tryd.runUnderlying46 rfl Tryd.sizeOf3 rfl rfl) (g1 rfl rfl rfl rfl) rfl rfl ?_
                    refine o_ld (hG 0 rfl) rfl (ev_ld1 (j := 2) rfl rfl Tryd.isAgg3 (sub_nth (j := 2) rfl) rfl) (g1 rfl rfl rfl rfl) rfl rfl ?_
                    refine o_pu rfl (ev_bin rfl rfl rfl rfl (leq_i _ _)) (g1 rfl rfl rfl rfl) rfl rfl ?_
                    refine o_pu rfl (ev_pick_t rfl rfl rfl) (g0 rfl) rfl rfl ?_
                    exact k_wk (J38 (decide (a0_c.Quota ≤ a0_c.Slot)) H) [49, 0, 1, 2, 3, 4, 5, 6, 11, 12, 17, 18, 22, 23, 27, 28, 32, 33, 37, 38, 42, 43] [0, 1] 2 [0] 0 rfl rfl rfl
                  | false =>
                    rw [cond_false] at H
                    refine o_gnot rfl rfl rfl rfl rfl rfl rfl rfl ?_
                    refine o_gnot rfl rfl rfl rfl rfl rfl rfl rfl ?_
                    refine o_gnot rfl rfl rfl rfl rfl rfl rfl rfl ?_
                    refine o_gnot rfl rfl rfl rfl rfl rfl rfl rfl ?_
                    refine o_gnot rfl rfl rfl rfl rfl rfl rfl rfl ?_
                    refine o_pu rfl (ev_pick_f rfl rfl rfl) (g0 rfl) rfl rfl ?_
                    exact k_wk (J38 false H) [49, 0, 1, 2, 3, 4, 5, 6, 11, 12, 17, 18, 22, 23, 27, 28, 32, 33, 37, 38, 42, 43] [0, 1] 2 [0] 0 rfl rfl rfl
              · intro J34 H
                cases b32 with
                | true =>
                  rw [cond_true] at H
                  refine o_pu rfl (ev_fieldAddr rfl rfl Tryd.runUnderlying46 rfl Tryd.sizeOf3 rfl rfl) (g1 rfl rfl rfl rfl) rfl rfl ?_
                  refine o_ld (hG 0 rfl) rfl (ev_ld1 (j := 4) rfl rfl Tryd.isAgg3 (sub_nth (j := 4) rfl) rfl) (g1 rfl rfl rfl rfl) rfl rfl ?_
                  refine o_pu rfl (ev_bin rfl rfl rfl rfl (geq_i _ 1)) (g1 rfl rfl rfl rfl) rfl rfl ?_
                  refine o_pu rfl (ev_pick_t rfl rfl rfl) (g0 rfl) rfl rfl ?_
                  exact k_wk (J34 (decide (a0_c.Quota ≥ 1)) H) [42, 0, 1, 2, 3, 4, 5, 6, 11, 12, 17, 18, 22, 23, 27, 28, 32, 33, 37, 38] [0, 1] 2 [0] 0 rfl rfl rfl
                | false =>
                  rw [cond_false] at H
                  refine o_gnot rfl rfl rfl rfl rfl rfl rfl rfl ?_
                  refine o_gnot rfl rfl rfl rfl rfl rfl rfl rfl ?_
                  refine o_gnot rfl rfl rfl rfl rfl rfl rfl rfl ?_
                  refine o_pu rfl (ev_pick_f rfl rfl rfl) (g0 rfl) rfl rfl ?_
                  exact k_wk (J34 false H) [42, 0, 1, 2, 3, 4, 5, 6, 11, 12, 17, 18, 22, 23, 27, 28, 32, 33, 37, 38] [0, 1] 2 [0] 0 rfl rfl rfl
            · intro J30 H
              cases b28 with
              | true =>
                rw [cond_true] at H
                refine o_pu rfl (ev_fieldAddr rfl rfl Tryd.runUnderlying46 rfl Tryd.sizeOf3 rfl rfl) (g1 rfl rfl rfl rfl) rfl rfl ?_
                refine o_ld (hG 0 rfl) rfl (ev_ld1 (j := 3) rfl rfl Tryd.isAgg3 (sub_nth (j := 3) rfl) rfl) (g1 rfl rfl rfl rfl) rfl rfl ?_
                refine o_pu rfl (ev_bin rfl rfl rfl rfl (leq_i _ 1000)) (g1 rfl rfl rfl rfl) rfl rfl ?_
                refine o_pu rfl (ev_pick_t rfl rfl rfl) (g0 rfl) rfl rfl ?_
                exact k_wk (J30 (decide (a0_c.Budget ≤ 1000)) H) [37, 0, 1, 2, 3, 4, 5, 6, 11, 12, 17, 18, 22, 23, 27, 28, 32, 33] [0, 1] 2 [0] 0 rfl rfl rfl
              | false =>
                rw [cond_false] at H
                refine o_gnot rfl rfl rfl rfl rfl rfl rfl rfl ?_
                refine o_gnot rfl rfl rfl rfl rfl rfl rfl rfl ?_
                refine o_gnot rfl rfl rfl rfl rfl rfl rfl rfl ?_
                refine o_pu rfl (ev_pick_f rfl rfl rfl) (g0 rfl) rfl rfl ?_
                exact k_wk (J30 false H) [37, 0, 1, 2, 3, 4, 5, 6, 11, 12, 17, 18, 22, 23, 27, 28, 32, 33] [0, 1] 2 [0] 0 rfl rfl rfl
          · intro J26 H
            cases b24 with
            | true =>
              rw [cond_true] at H
              refine o_pu rfl (ev_fieldAddr rfl rfl Tryd.runUnderlying46 rfl Tryd.sizeOf3 rfl rfl) (g1 rfl rfl rfl rfl) rfl rfl ?_
              refine o_ld (hG 0 rfl) rfl (ev_ld1 (j := 3) rfl rfl Tryd.isAgg3 (sub_nth (j := 3) rfl) rfl) (g1 rfl rfl rfl rfl) rfl rfl ?_
              refine o_pu rfl (ev_bin rfl rfl rfl rfl (geq_i _ 0)) (g1 rfl rfl rfl rfl) rfl rfl ?_
              refine o_pu rfl (ev_pick_t rfl rfl rfl) (g0 rfl) rfl rfl ?_
              exact k_wk (J26 (decide (a0_c.Budget ≥ 0)) H) [32, 0, 1, 2, 3, 4, 5, 6, 11, 12, 17, 18, 22, 23, 27, 28] [0, 1] 2 [0] 0 rfl rfl rfl
            | false =>
              rw [cond_false] at H
              refine o_gnot rfl rfl rfl rfl rfl rfl rfl rfl ?_
              refine o_gnot rfl rfl rfl rfl rfl rfl rfl rfl ?_
              refine o_gnot rfl rfl rfl rfl rfl rfl rfl rfl ?_
              refine o_pu rfl (ev_pick_f rfl rfl rfl) (g0 rfl) rfl rfl ?_
              exact k_wk (J26 false H) [32, 0, 1, 2, 3, 4, 5, 6, 11, 12, 17, 18, 22, 23, 27, 28] [0, 1] 2 [0] 0 rfl rfl rfl
        · intro J22 H
          cases b20 with
          | true =>
            rw [cond_true] at H
            refine o_pu rfl (ev_fieldAddr rfl rfl Tryd.runUnderlying46 rfl Tryd.sizeOf3 rfl rfl) (g1 rfl rfl rfl rfl) rfl rfl ?_
            refine o_ld (hG 0 rfl) rfl (ev_ld1 (j := 2) rfl rfl Tryd.isAgg3 (sub_nth (j := 2) rfl) rfl) (g1 rfl rfl rfl rfl) rfl rfl ?_
            refine o_pu rfl (ev_bin rfl rfl rfl rfl (leq_i _ 6)) (g1 rfl rfl rfl rfl) rfl rfl ?_
            refine o_pu rfl (ev_pick_t rfl rfl rfl) (g0 rfl) rfl rfl ?_
            exact k_wk (J22 (decide (a0_c.Slot ≤ 6)) H) [27, 0, 1, 2, 3, 4, 5, 6, 11, 12, 17, 18, 22, 23] [0, 1] 2 [0] 0 rfl rfl rfl
          | false =>
            rw [cond_false] at H
            refine o_gnot rfl rfl rfl rfl rfl rfl rfl rfl ?_
            refine o_gnot rfl rfl rfl rfl rfl rfl rfl rfl ?_
            refine o_gnot rfl rfl rfl rfl rfl rfl rfl rfl ?_
            refine o_pu rfl (ev_pick_f rfl rfl rfl) (g0 rfl) rfl rfl ?_
            exact k_wk (J22 false H) [27, 0, 1, 2, 3, 4, 5, 6, 11, 12, 17, 18, 22, 23] [0, 1] 2 [0] 0 rfl rfl rfl
      · intro J18 H
        cases b16 with
        | true =>
          rw [cond_true] at H
          refine o_pu rfl (ev_fieldAddr rfl rfl Tryd.runUnderlying46 rfl Tryd.sizeOf3 rfl rfl) (g1 rfl rfl rfl rfl) rfl rfl ?_
          refine o_ld (hG 0 rfl) rfl (ev_ld1 (j := 2) rfl rfl Tryd.isAgg3 (sub_nth (j := 2) rfl) rfl) (g1 rfl rfl rfl rfl) rfl rfl ?_
          refine o_pu rfl (ev_bin rfl rfl rfl rfl (geq_i _ 1)) (g1 rfl rfl rfl rfl) rfl rfl ?_
          refine o_pu rfl (ev_pick_t rfl rfl rfl) (g0 rfl) rfl rfl ?_
          exact k_wk (J18 (decide (a0_c.Slot ≥ 1)) H) [22, 0, 1, 2, 3, 4, 5, 6, 11, 12, 17, 18] [0, 1] 2 [0] 0 rfl rfl rfl
        | false =>
          rw [cond_false] at H
          refine o_gnot rfl rfl rfl rfl rfl rfl rfl rfl ?_
          refine o_gnot rfl rfl rfl rfl rfl rfl rfl rfl ?_
          refine o_gnot rfl rfl rfl rfl rfl rfl rfl rfl ?_
          refine o_pu rfl (ev_pick_f rfl rfl rfl) (g0 rfl) rfl rfl ?_
          exact k_wk (J18 false H) [22, 0, 1, 2, 3, 4, 5, 6, 11, 12, 17, 18] [0, 1] 2 [0] 0 rfl rfl rfl
    · intro J14 H
      cases b12 with
      | true =>
        rw [cond_true] at H
        refine o_pu rfl (ev_fieldAddr rfl rfl Tryd.runUnderlying46 rfl Tryd.sizeOf32 rfl rfl) (g1 rfl rfl rfl rfl) rfl rfl ?_
        refine o_ld (hG 0 rfl) rfl (ev_ld1 (j := 1) rfl rfl Tryd.isAgg32 (sub_nth (j := 1) rfl) rfl) (g1 rfl rfl rfl rfl) rfl rfl ?_
        refine o_pu rfl (ev_len_slice rfl rfl Tryd.runUnderlying32) (g1 rfl rfl rfl rfl) rfl rfl ?_
        refine o_pu rfl (ev_bin rfl rfl rfl rfl (leq_i _ 64)) (g1 rfl rfl rfl rfl) rfl rfl ?_
        refine o_pu rfl (ev_pick_t rfl rfl rfl) (g0 rfl) rfl rfl ?_
        exact k_wk (J14 (decide ((a0_c.Key.length : Int) ≤ 64)) H) [17, 0, 1, 2, 3, 4, 5, 6, 11, 12] [0, 1] 2 [0] 0 rfl rfl rfl
      | false =>
        rw [cond_false] at H
        refine o_gnot rfl rfl rfl rfl rfl rfl rfl rfl ?_
        refine o_gnot rfl rfl rfl rfl rfl rfl rfl rfl ?_
        refine o_gnot rfl rfl rfl rfl rfl rfl rfl rfl ?_
        refine o_gnot rfl rfl rfl rfl rfl rfl rfl rfl ?_
        refine o_pu rfl (ev_pick_f rfl rfl rfl) (g0 rfl) rfl rfl ?_
        exact k_wk (J14 false H) [17, 0, 1, 2, 3, 4, 5, 6, 11, 12] [0, 1] 2 [0] 0 rfl rfl rfl
  · intro J10 H
    cases b8 with
    | true =>
      rw [cond_true] at H
      refine o_pu rfl (ev_fieldAddr rfl rfl Tryd.runUnderlying46 rfl Tryd.sizeOf32 rfl rfl) (g1 rfl rfl rfl rfl) rfl rfl ?_
      refine o_ld (hG 0 rfl) rfl (ev_ld1 (j := 1) rfl rfl Tryd.isAgg32 (sub_nth (j := 1) rfl) rfl) (g1 rfl rfl rfl rfl) rfl rfl ?_
      refine o_pu rfl (ev_len_slice rfl rfl Tryd.runUnderlying32) (g1 rfl rfl rfl rfl) rfl rfl ?_
      refine o_pu rfl (ev_bin rfl rfl rfl rfl (geq_i _ 1)) (g1 rfl rfl rfl rfl) rfl rfl ?_
      refine o_pu rfl (ev_pick_t rfl rfl rfl) (g0 rfl) rfl rfl ?_
      exact k_wk (J10 (decide ((a0_c.Key.length : Int) ≥ 1)) H) [11, 0, 1, 2, 3, 4, 5, 6] [0, 1] 2 [0] 0 rfl rfl rfl
    | false =>
      rw [cond_false] at H
      refine o_gnot rfl rfl rfl rfl rfl rfl rfl rfl ?_
      refine o_gnot rfl rfl rfl rfl rfl rfl rfl rfl ?_
      refine o_gnot rfl rfl rfl rfl rfl rfl rfl rfl ?_
      refine o_gnot rfl rfl rfl rfl rfl rfl rfl rfl ?_
      refine o_pu rfl (ev_pick_f rfl rfl rfl) (g0 rfl) rfl rfl ?_
      exact k_wk (J10 false H) [11, 0, 1, 2, 3, 4, 5, 6] [0, 1] 2 [0] 0 rfl rfl rfl

def meta_Right (a0_m : MetaS) : Option Bool :=
bnd (decide (a0_m.Active < 0)) fun b2 =>
jn (fun x5 =>
bnd x5 fun b6 =>
jn (fun x9 =>
bnd x9 fun b10 =>
jn (fun x13 =>
bnd x13 fun b14 =>
jn (fun x17 =>
bif x17 then (
some false) else (
chk (0 ≤ a0_m.Active ∧ a0_m.Active < 2) <|
(meta_none (at' Img.zero a0_m.Have.l a0_m.Active)).bind fun r20 =>
bnd r20 fun b22 =>
jn (fun x25 =>
bnd x25 fun b26 =>
jn (fun x29 =>
bnd x29 fun b30 =>
jn (fun x33 =>
bnd x33 fun b34 =>
jn (fun x37 =>
bnd x37 fun b38 =>
jn (fun x41 =>
bnd x41 fun b42 =>
jn (fun x45 =>
bif x45 then (
some false) else (
(meta_phase a0_m).bind fun r47 =>
some r47)) fun J44 =>
bif b42 then (
J44 true) else
J44 (decide (a0_m.Trials > 2))) fun J40 =>
bif b38 then (
J40 true) else
J40 (decide (a0_m.Trials < 0))) fun J36 =>
bif b34 then (
J36 true) else
J36 (decide (a0_m.Got > 6))) fun J32 =>
bif b30 then (
J32 true) else
J32 (decide (a0_m.Got < 0))) fun J28 =>
bif b26 then (
J28 true) else
J28 (decide (a0_m.Min > 1073741824))) fun J24 =>
bif b22 then (
J24 true) else
J24 (decide (a0_m.Min < 0)))) fun J16 =>
bif b14 then (
J16 true) else
(meta_image a0_m.Coming).bind fun r49 =>
J16 (!r49)) fun J12 =>
bif b10 then (
J12 true) else
(meta_image (at' Img.zero a0_m.Have.l 1)).bind fun r51 =>
J12 (!r51)) fun J8 =>
bif b6 then (
J8 true) else
(meta_image (at' Img.zero a0_m.Have.l 0)).bind fun r53 =>
J8 (!r53)) fun J4 =>
bif b2 then (
J4 true) else
J4 (decide (a0_m.Active > 1))

theorem c_meta_Right (a0_m : MetaS) (r : Bool) (H : meta_Right a0_m = some r) : Fn Tryd.prog 54 [(.agg (MetaS.cells a0_m).toArray)] [] [] (fun v D' G' => v = (vb r) ∧ D' = [] ∧ G' = []) := by
  unfold meta_Right at H
  refine fn_of Tryd.func54 rfl Tryd.ntmps54 rfl ?_
  intro w0 D0 G0
  dsimp only [app, initEnv, Nat.zero_add, Nat.reduceAdd]
  refine s_seq ?_
  refine s_reg [0, 1] rfl ?_
  refine oc (k_box rfl rfl rfl (cs := MetaS.cells a0_m) rfl (g0 rfl) rfl rfl ?_)
  intro b1
  refine o_pu rfl (ev_assign rfl rfl) (g0 rfl) rfl rfl ?_
  refine o_nil ?_
  refine q_then ?_
  refine s_seq ?_
  refine s_seq ?_
  refine s_reg [0, 1, 2, 3, 4, 5, 6, 7, 8, 9, 10, 11, 12, 13, 14, 15, 16, 17, 18, 19, 20, 21, 22, 23, 24, 25, 26, 27] rfl ?_
  refine o_pu rfl (ev_fieldAddr rfl rfl Tryd.runUnderlying74 rfl Tryd.sizeOf3 rfl rfl) (g0 rfl) rfl rfl ?_
  refine o_ld (hG 0 rfl) rfl (ev_ld1 (j := 0) rfl rfl Tryd.isAgg3 (MetaS.sub_Active _) rfl) (g0 rfl) rfl rfl ?_
  refine o_pu rfl (ev_bin rfl rfl rfl rfl (lss_i _ 0)) (g0 rfl) rfl rfl ?_
  refine o_pu rfl (ev_move rfl rfl) (g0 rfl) rfl rfl ?_
  refine k_name 6 rfl ?_
  intro b2 hb3
  have H := bnd_eq H hb3
  refine o_jb 10 [8, 9, 10, 11, 12, 13, 14, 15, 16, 17, 18, 19, 20, 21, 22, 23, 24, 25, 26, 27] [0, 1, 2, 3, 4, 5, 6] H rfl ?_ ?_
  · intro x5 H
    refine o_pu rfl (ev_move rfl rfl) (g0 rfl) rfl rfl ?_
    refine k_name 11 rfl ?_
    intro b6 hb7
    have H := bnd_eq H hb7
    refine o_jb 17 [15, 16, 17, 18, 19, 20, 21, 22, 23, 24, 25, 26, 27] [0, 1, 2, 3, 4, 5, 6, 10, 11] H rfl ?_ ?_
    · intro x9 H
      refine o_pu rfl (ev_move rfl rfl) (g0 rfl) rfl rfl ?_
      refine k_name 18 rfl ?_
      intro b10 hb11
      have H := bnd_eq H hb11
      refine o_jb 24 [22, 23, 24, 25, 26, 27] [0, 1, 2, 3, 4, 5, 6, 10, 11, 17, 18] H rfl ?_ ?_
      · intro x13 H
        refine o_pu rfl (ev_move rfl rfl) (g0 rfl) rfl rfl ?_
        refine k_name 25 rfl ?_
        intro b14 hb15
        have H := bnd_eq H hb15
        refine o_jb 30 [] [0, 1, 2, 3, 4, 5, 6, 10, 11, 17, 18, 24, 25] H rfl ?_ ?_
        · intro x17 H
          refine o_nil ?_
          refine q_then ?_
          refine s_cond rfl ?_ ?_
          · intro hb18
            have H := cnd_t H hb18
            refine s_seq ?_
            refine s_reg [0] rfl ?_
            refine o_pu rfl (ev_assign rfl rfl) (g0 rfl) rfl rfl ?_
            refine o_nil ?_
            refine q_then ?_
            refine s_ret ?_
            refine q_then_r ?_
            cases H
            exact q_end (rs_1 Tryd.results54 (rv_tmp rfl)) ⟨rfl, rfl, rfl⟩ [] rfl 0 rfl [] rfl 1 rfl
          · intro hb18
            have H := cnd_f H hb18
            refine s_skip ?_
            refine q_then ?_
            refine s_seq ?_
            refine s_seq ?_
            refine s_reg [0, 1, 2, 3, 4, 5, 6, 7, 8, 9, 10, 11, 12, 13, 14, 15, 16, 17, 18, 19, 20, 21, 22, 23, 24, 25, 26, 27, 28, 29, 30, 31, 32, 33, 34, 35] rfl ?_
            refine o_pu rfl (ev_fieldAddr rfl rfl Tryd.runUnderlying74 rfl Tryd.sizeOf3 rfl rfl) (g0 rfl) rfl rfl ?_
            refine o_ld (hG 0 rfl) rfl (ev_ld1 (j := 0) rfl rfl Tryd.isAgg3 (MetaS.sub_Active _) rfl) (g0 rfl) rfl rfl ?_
            refine o_pu rfl (ev_fieldAddr rfl rfl Tryd.runUnderlying74 rfl Tryd.sizeOf72 rfl rfl) (g0 rfl) rfl rfl ?_
            obtain ⟨hk19, H⟩ := chk_some H
            refine o_pu rfl (ev_idx_array rfl rfl rfl Tryd.runUnderlying72 Tryd.sizeOf71 hk19 rfl) (g0 rfl) rfl rfl ?_
            refine o_ld (hG 0 rfl) rfl (ev_ldN rfl rfl Tryd.isAgg71 (sz (Img.len _) Tryd.sizeOf71) (sub_sub (MetaS.sub_Have _) (sub_arr Img.len Img.zero _ (k := a0_m.Active) hk19 rfl) rfl) (by first | omega | (dsimp only; omega))) (g0 rfl) rfl rfl ?_
            obtain ⟨r20, Hc21, H⟩ := bind_some' H
            refine oc (k_call (c_meta_none (at' Img.zero a0_m.Have.l a0_m.Active) r20 Hc21) Tryd.call74 rfl rfl rfl [] [] rfl rfl (g0 rfl) rfl rfl ?_)
            rintro _ _ _ ⟨rfl, rfl, rfl⟩
            dsimp only [app]
            refine o_pu rfl (ev_move rfl rfl) (g0 rfl) rfl rfl ?_
            refine k_name 37 rfl ?_
            intro b22 hb23
            have H := bnd_eq H hb23
            refine o_jb 41 [11, 12, 13, 14, 15, 16, 17, 18, 19, 20, 21, 22, 23, 24, 25, 26, 27, 28, 29, 30, 31, 32, 33, 34, 35] [0, 1, 2, 3, 4, 5, 6, 10, 11, 17, 18, 24, 25, 30, 31, 32, 33, 34, 35, 36, 37] H rfl ?_ ?_
            · intro x25 H
              refine o_pu rfl (ev_move rfl rfl) (g0 rfl) rfl rfl ?_
              refine k_name 42 rfl ?_
              intro b26 hb27
              have H := bnd_eq H hb27
              refine o_jb 46 [16, 17, 18, 19, 20, 21, 22, 23, 24, 25, 26, 27, 28, 29, 30, 31, 32, 33, 34, 35] [0, 1, 2, 3, 4, 5, 6, 10, 11, 17, 18, 24, 25, 30, 31, 32, 33, 34, 35, 36, 37, 41, 42] H rfl ?_ ?_
              · intro x29 H
                refine o_pu rfl (ev_move rfl rfl) (g0 rfl) rfl rfl ?_
                refine k_name 47 rfl ?_
                intro b30 hb31
                have H := bnd_eq H hb31
                refine o_jb 51 [21, 22, 23, 24, 25, 26, 27, 28, 29, 30, 31, 32, 33, 34, 35] [0, 1, 2, 3, 4, 5, 6, 10, 11, 17, 18, 24, 25, 30, 31, 32, 33, 34, 35, 36, 37, 41, 42, 46, 47] H rfl ?_ ?_
                · intro x33 H
                  refine o_pu rfl (ev_move rfl rfl) (g0 rfl) rfl rfl ?_
                  refine k_name 52 rfl ?_
                  intro b34 hb35
                  have H := bnd_eq H hb35
                  refine o_jb 56 [26, 27, 28, 29, 30, 31, 32, 33, 34, 35] [0, 1, 2, 3, 4, 5, 6, 10, 11, 17, 18, 24, 25, 30, 31, 32, 33, 34, 35, 36, 37, 41, 42, 46, 47, 51, 52] H rfl ?_ ?_
                  · intro x37 H
                    refine o_pu rfl (ev_move rfl rfl) (g0 rfl) rfl rfl ?_
                    refine k_name 57 rfl ?_
                    intro b38 hb39
                    have H := bnd_eq H hb39
                    refine o_jb 61 [31, 32, 33, 34, 35] [0, 1, 2, 3, 4, 5, 6, 10, 11, 17, 18, 24, 25, 30, 31, 32, 33, 34, 35, 36, 37, 41, 42, 46, 47, 51, 52, 56, 57] H rfl ?_ ?_
                    · intro x41 H
                      refine o_pu rfl (ev_move rfl rfl) (g0 rfl) rfl rfl ?_
                      refine k_name 62 rfl ?_
                      intro b42 hb43
                      have H := bnd_eq H hb43
                      refine o_jb 66 [] [0, 1, 2, 3, 4, 5, 6, 10, 11, 17, 18, 24, 25, 30, 31, 32, 33, 34, 35, 36, 37, 41, 42, 46, 47, 51, 52, 56, 57, 61, 62] H rfl ?_ ?_
                      · intro x45 H
                        refine o_nil ?_
                        refine q_then ?_
                        refine s_cond rfl ?_ ?_
                        · intro hb46
                          have H := cnd_t H hb46
                          refine s_seq ?_
                          refine s_reg [0] rfl ?_
                          refine o_pu rfl (ev_assign rfl rfl) (g0 rfl) rfl rfl ?_
                          refine o_nil ?_
                          refine q_then ?_
                          refine s_ret ?_
                          refine q_then_r ?_
                          cases H
                          exact q_end (rs_1 Tryd.results54 (rv_tmp rfl)) ⟨rfl, rfl, rfl⟩ [] rfl 0 rfl [] rfl 1 rfl
                        · intro hb46
                          have H := cnd_f H hb46
                          refine s_skip ?_
                          refine q_then ?_
                          refine s_seq ?_
                          refine s_reg [0, 1, 2] rfl ?_
                          refine o_ld (hG 0 rfl) rfl (ev_ldN (j := 0) rfl rfl Tryd.isAgg74 (sz (MetaS.len _) Tryd.sizeOf74) (sub_all _) rfl) (g0 rfl) rfl rfl ?_
                          obtain ⟨r47, Hc48, H⟩ := bind_some' H
                          refine oc (k_call (c_meta_phase a0_m r47 Hc48) Tryd.call75 rfl rfl rfl [] [] rfl rfl (g0 rfl) rfl rfl ?_)
                          rintro _ _ _ ⟨rfl, rfl, rfl⟩
                          dsimp only [app]
                          refine o_pu rfl (ev_assign rfl rfl) (g0 rfl) rfl rfl ?_
                          refine o_nil ?_
                          refine q_then ?_
                          refine s_ret ?_
                          cases H
                          exact q_end (rs_1 Tryd.results54 (rv_tmp rfl)) ⟨rfl, rfl, rfl⟩ [] rfl 0 rfl [] rfl 1 rfl
                      · intro J44 H
                        cases b42 with
                        | true =>
                          rw [cond_true] at H
                          refine o_gnot rfl rfl rfl rfl rfl rfl rfl rfl ?_
                          refine o_gnot rfl rfl rfl rfl rfl rfl rfl rfl ?_
                          refine o_gnot rfl rfl rfl rfl rfl rfl rfl rfl ?_
                          refine o_pu rfl (ev_pick_t rfl rfl rfl) (g0 rfl) rfl rfl ?_
                          exact k_wk (J44 true H) [66, 0, 1, 2, 3, 4, 5, 6, 10, 11, 17, 18, 24, 25, 30, 31, 32, 33, 34, 35, 36, 37, 41, 42, 46, 47, 51, 52, 56, 57, 61, 62] [] 0 [0] 0 rfl rfl rfl
                        | false =>
                          rw [cond_false] at H
                          refine o_pu rfl (ev_fieldAddr rfl rfl Tryd.runUnderlying74 rfl Tryd.sizeOf3 rfl rfl) (g1 rfl rfl rfl rfl) rfl rfl ?_
                          refine o_ld (hG 0 rfl) rfl (ev_ld1 (j := 106) rfl rfl Tryd.isAgg3 (MetaS.sub_Trials _) rfl) (g1 rfl rfl rfl rfl) rfl rfl ?_
                          refine o_pu rfl (ev_bin rfl rfl rfl rfl (gtr_i _ 2)) (g1 rfl rfl rfl rfl) rfl rfl ?_
                          refine o_pu rfl (ev_pick_f rfl rfl rfl) (g0 rfl) rfl rfl ?_
                          exact k_wk (J44 (decide (a0_m.Trials > 2)) H) [66, 0, 1, 2, 3, 4, 5, 6, 10, 11, 17, 18, 24, 25, 30, 31, 32, 33, 34, 35, 36, 37, 41, 42, 46, 47, 51, 52, 56, 57, 61, 62] [] 0 [0] 0 rfl rfl rfl
                    · intro J40 H
                      cases b38 with
                      | true =>
                        rw [cond_true] at H
                        refine o_gnot rfl rfl rfl rfl rfl rfl rfl rfl ?_
                        refine o_gnot rfl rfl rfl rfl rfl rfl rfl rfl ?_
                        refine o_gnot rfl rfl rfl rfl rfl rfl rfl rfl ?_
                        refine o_pu rfl (ev_pick_t rfl rfl rfl) (g0 rfl) rfl rfl ?_
                        exact k_wk (J40 true H) [61, 0, 1, 2, 3, 4, 5, 6, 10, 11, 17, 18, 24, 25, 30, 31, 32, 33, 34, 35, 36, 37, 41, 42, 46, 47, 51, 52, 56, 57] [] 0 [0] 0 rfl rfl rfl
                      | false =>
                        rw [cond_false] at H
                        refine o_pu rfl (ev_fieldAddr rfl rfl Tryd.runUnderlying74 rfl Tryd.sizeOf3 rfl rfl) (g1 rfl rfl rfl rfl) rfl rfl ?_
                        refine o_ld (hG 0 rfl) rfl (ev_ld1 (j := 106) rfl rfl Tryd.isAgg3 (MetaS.sub_Trials _) rfl) (g1 rfl rfl rfl rfl) rfl rfl ?_
                        refine o_pu rfl (ev_bin rfl rfl rfl rfl (lss_i _ 0)) (g1 rfl rfl rfl rfl) rfl rfl ?_
                        refine o_pu rfl (ev_pick_f rfl rfl rfl) (g0 rfl) rfl rfl ?_
                        exact k_wk (J40 (decide (a0_m.Trials < 0)) H) [61, 0, 1, 2, 3, 4, 5, 6, 10, 11, 17, 18, 24, 25, 30, 31, 32, 33, 34, 35, 36, 37, 41, 42, 46, 47, 51, 52, 56, 57] [] 0 [0] 0 rfl rfl rfl
                  · intro J36 H
                    cases b34 with
                    | true =>
                      rw [cond_true] at H
                      refine o_gnot rfl rfl rfl rfl rfl rfl rfl rfl ?_
                      refine o_gnot rfl rfl rfl rfl rfl rfl rfl rfl ?_
                      refine o_gnot rfl rfl rfl rfl rfl rfl rfl rfl ?_
                      refine o_pu rfl (ev_pick_t rfl rfl rfl) (g0 rfl) rfl rfl ?_
                      exact k_wk (J36 true H) [56, 0, 1, 2, 3, 4, 5, 6, 10, 11, 17, 18, 24, 25, 30, 31, 32, 33, 34, 35, 36, 37, 41, 42, 46, 47, 51, 52] [] 0 [0] 0 rfl rfl rfl
                    | false =>
                      rw [cond_false] at H
                      refine o_pu rfl (ev_fieldAddr rfl rfl Tryd.runUnderlying74 rfl Tryd.sizeOf3 rfl rfl) (g1 rfl rfl rfl rfl) rfl rfl ?_
                      refine o_ld (hG 0 rfl) rfl (ev_ld1 (j := 105) rfl rfl Tryd.isAgg3 (MetaS.sub_Got _) rfl) (g1 rfl rfl rfl rfl) rfl rfl ?_
                      refine o_pu rfl (ev_bin rfl rfl rfl rfl (gtr_i _ 6)) (g1 rfl rfl rfl rfl) rfl rfl ?_
                      refine o_pu rfl (ev_pick_f rfl rfl rfl) (g0 rfl) rfl rfl ?_
                      exact k_wk (J36 (decide (a0_m.Got > 6)) H) [56, 0, 1, 2, 3, 4, 5, 6, 10, 11, 17, 18, 24, 25, 30, 31, 32, 33, 34, 35, 36, 37, 41, 42, 46, 47, 51, 52] [] 0 [0] 0 rfl rfl rfl
                · intro J32 H
                  cases b30 with
                  | true =>
                    rw [cond_true] at H
                    refine o_gnot rfl rfl rfl rfl rfl rfl rfl rfl ?_
                    refine o_gnot rfl rfl rfl rfl rfl rfl rfl rfl ?_
                    refine o_gnot rfl rfl rfl rfl rfl rfl rfl rfl ?_
                    refine o_pu rfl (ev_pick_t rfl rfl rfl) (g0 rfl) rfl rfl ?_
                    exact k_wk (J32 true H) [51, 0, 1, 2, 3, 4, 5, 6, 10, 11, 17, 18, 24, 25, 30, 31, 32, 33, 34, 35, 36, 37, 41, 42, 46, 47] [] 0 [0] 0 rfl rfl rfl
                  | false =>
                    rw [cond_false] at H
                    refine o_pu rfl (ev_fieldAddr rfl rfl Tryd.runUnderlying74 rfl Tryd.sizeOf3 rfl rfl) (g1 rfl rfl rfl rfl) rfl rfl ?_
                    refine o_ld (hG 0 rfl) rfl (ev_ld1 (j := 105) rfl rfl Tryd.isAgg3 (MetaS.sub_Got _) rfl) (g1 rfl rfl rfl rfl) rfl rfl ?_
                    refine o_pu rfl (ev_bin rfl rfl rfl rfl (lss_i _ 0)) (g1 rfl rfl rfl rfl) rfl rfl ?_
                    refine o_pu rfl (ev_pick_f rfl rfl rfl) (g0 rfl) rfl rfl ?_
                    exact k_wk (J32 (decide (a0_m.Got < 0)) H) [51, 0, 1, 2, 3, 4, 5, 6, 10, 11, 17, 18, 24, 25, 30, 31, 32, 33, 34, 35, 36, 37, 41, 42, 46, 47] [] 0 [0] 0 rfl rfl rfl
              · intro J28 H
                cases b26 with
                | true =>
                  rw [cond_true] at H
                  refine o_gnot rfl rfl rfl rfl rfl rfl rfl rfl ?_
                  refine o_gnot rfl rfl rfl rfl rfl rfl rfl rfl ?_
                  refine o_gnot rfl rfl rfl rfl rfl rfl rfl rfl ?_
                  refine o_pu rfl (ev_pick_t rfl rfl rfl) (g0 rfl) rfl rfl ?_
                  exact k_wk (J28 true H) [46, 0, 1, 2, 3, 4, 5, 6, 10, 11, 17, 18, 24, 25, 30, 31, 32, 33, 34, 35, 36, 37, 41, 42] [] 0 [0] 0 rfl rfl rfl
                | false =>
                  rw [cond_false] at H
                  refine o_pu rfl (ev_fieldAddr rfl rfl Tryd.runUnderlying74 rfl Tryd.sizeOf3 rfl rfl) (g1 rfl rfl rfl rfl) rfl rfl ?_
                  refine o_ld (hG 0 rfl) rfl (ev_ld1 (j := 69) rfl rfl Tryd.isAgg3 (MetaS.sub_Min _) rfl) (g1 rfl rfl rfl rfl) rfl rfl ?_
                  refine o_pu rfl (ev_bin rfl rfl rfl rfl (gtr_i _ 1073741824)) (g1 rfl rfl rfl rfl) rfl rfl ?_
                  refine o_pu rfl (ev_pick_f rfl rfl rfl) (g0 rfl) rfl rfl ?_
                  exact k_wk (J28 (decide (a0_m.Min > 1073741824)) H) [46, 0, 1, 2, 3, 4, 5, 6, 10, 11, 17, 18, 24, 25, 30, 31, 32, 33, 34, 35, 36, 37, 41, 42] [] 0 [0] 0 rfl rfl rfl
            · intro J24 H
              cases b22 with
              | true =>
                rw [cond_true] at H
                refine o_gnot rfl rfl rfl rfl rfl rfl rfl rfl ?_
                refine o_gnot rfl rfl rfl rfl rfl rfl rfl rfl ?_
                refine o_gnot rfl rfl rfl rfl rfl rfl rfl rfl ?_
                refine o_pu rfl (ev_pick_t rfl rfl rfl) (g0 rfl) rfl rfl ?_
                exact k_wk (J24 true H) [41, 0, 1, 2, 3, 4, 5, 6, 10, 11, 17, 18, 24, 25, 30, 31, 32, 33, 34, 35, 36, 37] [] 0 [0] 0 rfl rfl rfl
              | false =>
                rw [cond_false] at H
                refine o_pu rfl (ev_fieldAddr rfl rfl Tryd.runUnderlying74 rfl Tryd.sizeOf3 rfl rfl) (g1 rfl rfl rfl rfl) rfl rfl ?_
                refine o_ld (hG 0 rfl) rfl (ev_ld1 (j := 69) rfl rfl Tryd.isAgg3 (MetaS.sub_Min _) rfl) (g1 rfl rfl rfl rfl) rfl rfl ?_
                refine o_pu rfl (ev_bin rfl rfl rfl rfl (lss_i _ 0)) (g1 rfl rfl rfl rfl) rfl rfl ?_
                refine o_pu rfl (ev_pick_f rfl rfl rfl) (g0 rfl) rfl rfl ?_
                exact k_wk (J24 (decide (a0_m.Min < 0)) H) [41, 0, 1, 2, 3, 4, 5, 6, 10, 11, 17, 18, 24, 25, 30, 31, 32, 33, 34, 35, 36, 37] [] 0 [0] 0 rfl rfl rfl
        · intro J16 H
          cases b14 with
          | true =>
            rw [cond_true] at H
            refine o_gnot rfl rfl rfl rfl rfl rfl rfl rfl ?_
            refine o_gnot rfl rfl rfl rfl rfl rfl rfl rfl ?_
            refine o_gnot rfl rfl rfl rfl rfl rfl rfl rfl ?_
            refine o_gnot rfl rfl rfl rfl rfl rfl rfl rfl ?_
            refine o_pu rfl (ev_pick_t rfl rfl rfl) (g0 rfl) rfl rfl ?_
            exact k_wk (J16 true H) [30, 0, 1, 2, 3, 4, 5, 6, 10, 11, 17, 18, 24, 25] [] 0 [0] 0 rfl rfl rfl
          | false =>
            rw [cond_false] at H
            refine o_pu rfl (ev_fieldAddr rfl rfl Tryd.runUnderlying74 rfl Tryd.sizeOf71 rfl rfl) (g1 rfl rfl rfl rfl) rfl rfl ?_
            refine o_ld (hG 0 rfl) rfl (ev_ldN (j := 71) rfl rfl Tryd.isAgg71 (sz (Img.len _) Tryd.sizeOf71) (MetaS.sub_Coming _) rfl) (g1 rfl rfl rfl rfl) rfl rfl ?_
            obtain ⟨r49, Hc50, H⟩ := bind_some' H
            refine oc (k_call (c_meta_image a0_m.Coming r49 Hc50) Tryd.call73 rfl rfl rfl [] [] rfl rfl (g1 rfl rfl rfl rfl) rfl rfl ?_)
            rintro _ _ _ ⟨rfl, rfl, rfl⟩
            dsimp only [app]
            refine o_pu rfl (ev_not rfl rfl) (g1 rfl rfl rfl rfl) rfl rfl ?_
            refine o_pu rfl (ev_pick_f rfl rfl rfl) (g0 rfl) rfl rfl ?_
            exact k_wk (J16 (!r49) H) [30, 0, 1, 2, 3, 4, 5, 6, 10, 11, 17, 18, 24, 25] [] 0 [0] 0 rfl rfl rfl
      · intro J12 H
        cases b10 with
        | true =>
          rw [cond_true] at H
          refine o_gnot rfl rfl rfl rfl rfl rfl rfl rfl ?_
          refine o_gnot rfl rfl rfl rfl rfl rfl rfl rfl ?_
          refine o_gnot rfl rfl rfl rfl rfl rfl rfl rfl ?_
          refine o_gnot rfl rfl rfl rfl rfl rfl rfl rfl ?_
          refine o_gnot rfl rfl rfl rfl rfl rfl rfl rfl ?_
          refine o_pu rfl (ev_pick_t rfl rfl rfl) (g0 rfl) rfl rfl ?_
          exact k_wk (J12 true H) [24, 0, 1, 2, 3, 4, 5, 6, 10, 11, 17, 18] [] 0 [0] 0 rfl rfl rfl
        | false =>
          rw [cond_false] at H
          refine o_pu rfl (ev_fieldAddr rfl rfl Tryd.runUnderlying74 rfl Tryd.sizeOf72 rfl rfl) (g1 rfl rfl rfl rfl) rfl rfl ?_
          refine o_pu rfl (ev_idx_array (k := 1) rfl rfl rfl Tryd.runUnderlying72 Tryd.sizeOf71 ⟨by omega, by omega⟩ rfl) (g1 rfl rfl rfl rfl) rfl rfl ?_
          refine o_ld (hG 0 rfl) rfl (ev_ldN (j := 35) rfl rfl Tryd.isAgg71 (sz (Img.len _) Tryd.sizeOf71) (sub_sub (MetaS.sub_Have _) (sub_arr Img.len Img.zero _ (k := 1) ⟨by omega, by omega⟩ rfl) rfl) rfl) (g1 rfl rfl rfl rfl) rfl rfl ?_
          obtain ⟨r51, Hc52, H⟩ := bind_some' H
          refine oc (k_call (c_meta_image (at' Img.zero a0_m.Have.l 1) r51 Hc52) Tryd.call73 rfl rfl rfl [] [] rfl rfl (g1 rfl rfl rfl rfl) rfl rfl ?_)
          rintro _ _ _ ⟨rfl, rfl, rfl⟩
          dsimp only [app]
          refine o_pu rfl (ev_not rfl rfl) (g1 rfl rfl rfl rfl) rfl rfl ?_
          refine o_pu rfl (ev_pick_f rfl rfl rfl) (g0 rfl) rfl rfl ?_
          exact k_wk (J12 (!r51) H) [24, 0, 1, 2, 3, 4, 5, 6, 10, 11, 17, 18] [] 0 [0] 0 rfl rfl rfl
    · intro J8 H
      cases b6 with
      | true =>
        rw [cond_true] at H
        refine o_gnot rfl rfl rfl rfl rfl rfl rfl rfl ?_
        refine o_gnot rfl rfl rfl rfl rfl rfl rfl rfl ?_
        refine o_gnot rfl rfl rfl rfl rfl rfl rfl rfl ?_
        refine o_gnot rfl rfl rfl rfl rfl rfl rfl rfl ?_
        refine o_gnot rfl rfl rfl rfl rfl rfl rfl rfl ?_
        refine o_pu rfl (ev_pick_t rfl rfl rfl) (g0 rfl) rfl rfl ?_
        exact k_wk (J8 true H) [17, 0, 1, 2, 3, 4, 5, 6, 10, 11] [] 0 [0] 0 rfl rfl rfl
      | false =>
        rw [cond_false] at H
        refine o_pu rfl (ev_fieldAddr rfl rfl Tryd.runUnderlying74 rfl Tryd.sizeOf72 rfl rfl) (g1 rfl rfl rfl rfl) rfl rfl ?_
        refine o_pu rfl (ev_idx_array (k := 0) rfl rfl rfl Tryd.runUnderlying72 Tryd.sizeOf71 ⟨by omega, by omega⟩ rfl) (g1 rfl rfl rfl rfl) rfl rfl ?_
        refine o_ld (hG 0 rfl) rfl (ev_ldN (j := 1) rfl rfl Tryd.isAgg71 (sz (Img.len _) Tryd.sizeOf71) (sub_sub (MetaS.sub_Have _) (sub_arr Img.len Img.zero _ (k := 0) ⟨by omega, by omega⟩ rfl) rfl) rfl) (g1 rfl rfl rfl rfl) rfl rfl ?_
        obtain ⟨r53, Hc54, H⟩ := bind_some' H
        refine oc (k_call (c_meta_image (at' Img.zero a0_m.Have.l 0) r53 Hc54) Tryd.call73 rfl rfl rfl [] [] rfl rfl (g1 rfl rfl rfl rfl) rfl rfl ?_)
        rintro _ _ _ ⟨rfl, rfl, rfl⟩
        dsimp only [app]
        refine o_pu rfl (ev_not rfl rfl) (g1 rfl rfl rfl rfl) rfl rfl ?_
        refine o_pu rfl (ev_pick_f rfl rfl rfl) (g0 rfl) rfl rfl ?_
        exact k_wk (J8 (!r53) H) [17, 0, 1, 2, 3, 4, 5, 6, 10, 11] [] 0 [0] 0 rfl rfl rfl
  · intro J4 H
    cases b2 with
    | true =>
      rw [cond_true] at H
      refine o_gnot rfl rfl rfl rfl rfl rfl rfl rfl ?_
      refine o_gnot rfl rfl rfl rfl rfl rfl rfl rfl ?_
      refine o_gnot rfl rfl rfl rfl rfl rfl rfl rfl ?_
      refine o_pu rfl (ev_pick_t rfl rfl rfl) (g0 rfl) rfl rfl ?_
      exact k_wk (J4 true H) [10, 0, 1, 2, 3, 4, 5, 6] [] 0 [0] 0 rfl rfl rfl
    | false =>
      rw [cond_false] at H
      refine o_pu rfl (ev_fieldAddr rfl rfl Tryd.runUnderlying74 rfl Tryd.sizeOf3 rfl rfl) (g1 rfl rfl rfl rfl) rfl rfl ?_
      refine o_ld (hG 0 rfl) rfl (ev_ld1 (j := 0) rfl rfl Tryd.isAgg3 (MetaS.sub_Active _) rfl) (g1 rfl rfl rfl rfl) rfl rfl ?_
      refine o_pu rfl (ev_bin rfl rfl rfl rfl (gtr_i _ 1)) (g1 rfl rfl rfl rfl) rfl rfl ?_
      refine o_pu rfl (ev_pick_f rfl rfl rfl) (g0 rfl) rfl rfl ?_
      exact k_wk (J4 (decide (a0_m.Active > 1)) H) [10, 0, 1, 2, 3, 4, 5, 6] [] 0 [0] 0 rfl rfl rfl

end Go.Proofs.YtphbbnlbfbhcaaaDoor.Wl
