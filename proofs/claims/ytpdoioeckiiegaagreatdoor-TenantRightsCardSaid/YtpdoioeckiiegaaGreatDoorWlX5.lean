import Derived.Test.YtpdoioeckiiegaaGreatDoorWlW
import Derived.Test.YtpdoioeckiiegaaGreatDoorWlX0
import Derived.Test.YtpdoioeckiiegaaGreatDoorWlX2
set_option linter.unusedSimpArgs false
set_option linter.unusedVariables false
set_option maxRecDepth 10000
namespace Go.Proofs.YtpdoioeckiiegaaGreatDoor.Wl
open Go.RowKit Go.Proofs
def update_write (a0_m : MetaS) (a1_q : Req) (a2_f : FactS) : Option ChangeS :=
jn (fun (x9 : ChangeS) =>
some x9) fun J8 =>
(update_when (a0_m.Phase != 1) (11 : Int)).bind fun r11 =>
bnd (a1_q.N != a0_m.Got) fun b13 =>
bif b13 then (
(update_when (true : Bool) (12 : Int)).bind fun r15 =>
(update_Len a0_m.Coming.Size a0_m.Got).bind fun r17 =>
(update_when ((a1_q.Bytes.length : Int) != r17) (6 : Int)).bind fun r19 =>
(update_when a2_f.Worn (5 : Int)).bind fun r21 =>
(update_one ({ (a0_m : MetaS) with Got := (wrap64 (a0_m.Got + 1)) }) ([r11, r15, r19, r21] : List Int)).bind fun r24 =>
J8 r24) else (
(update_Chunks a0_m.Coming.Size).bind fun r26 =>
(update_when (decide (a0_m.Got ≥ r26)) (12 : Int)).bind fun r28 =>
(update_Len a0_m.Coming.Size a0_m.Got).bind fun r30 =>
(update_when ((a1_q.Bytes.length : Int) != r30) (6 : Int)).bind fun r32 =>
(update_when a2_f.Worn (5 : Int)).bind fun r34 =>
(update_one ({ (a0_m : MetaS) with Got := (wrap64 (a0_m.Got + 1)) }) ([r11, r28, r32, r34] : List Int)).bind fun r37 =>
J8 r37)

theorem c_update_write (a0_m : MetaS) (a1_q : Req) (A1 : Option Addr) (c2 : Nat) (a2_f : FactS) (r : ChangeS) (H : update_write a0_m a1_q a2_f = some r) : Fn Tryz.prog 177 [(.agg (MetaS.cells a0_m).toArray), (.agg ([vi a1_q.Kind, vi a1_q.N, .slice A1 a1_q.Bytes.length c2]).toArray), (.agg (FactS.cells a2_f).toArray)] [Sl E8 A1 c2 a1_q.Bytes] [] (fun v D' G' => v = (.agg (ChangeS.cells r).toArray) ∧ D' = [] ∧ G' = []) := by
  unfold update_write at H
  refine fn_of Tryz.func177 rfl Tryz.ntmps177 rfl ?_
  intro w0 D0 G0
  dsimp only [app, initEnv, Nat.zero_add, Nat.reduceAdd]
  refine s_seq ?_
  refine s_reg [0, 1, 2, 3] rfl ?_
  refine oc (k_box rfl rfl rfl (cs := MetaS.cells a0_m) rfl (g0 rfl) rfl rfl ?_)
  intro b3
  refine oc (k_box rfl rfl rfl (cs := [vi a1_q.Kind, vi a1_q.N, .slice A1 a1_q.Bytes.length c2]) rfl (g0 rfl) rfl rfl ?_)
  intro b4
  refine oc (k_box rfl rfl rfl (cs := FactS.cells a2_f) rfl (g0 rfl) rfl rfl ?_)
  intro b5
  refine oc (k_alloc rfl rfl Tryz.zeroValue170 (cs := ChangeS.cells ChangeS.zero) rfl (g0 rfl) rfl rfl ?_)
  intro b6
  refine o_nil ?_
  refine q_then ?_
  refine s_seq ?_
  refine s_reg [0, 1, 2] rfl ?_
  refine o_ld (hG 3 rfl) rfl (ev_ldN (j := 0) rfl rfl Tryz.isAgg52 (sz (MetaS.len _) Tryz.sizeOf52) (sub_all _) rfl) (g0 rfl) rfl rfl ?_
  refine oc (k_alloc rfl rfl Tryz.zeroValue52 (cs := MetaS.cells MetaS.zero) rfl (g0 rfl) rfl rfl ?_)
  intro b7
  refine oc (k_st (j := 0) rfl rfl rfl rfl (vs := MetaS.cells a0_m) rfl (sz (MetaS.len _) Tryz.sizeOf52) (MetaS.sc _) 0 rfl (spl_all ((MetaS.len _).trans (MetaS.len _).symm)) rfl (g0 rfl) rfl ?_)
  refine o_nil ?_
  refine q_then ?_
  refine s_seq ?_
  refine s_reg [0, 1, 2, 3, 4] rfl ?_
  refine o_run ft [0] rfl rfl ?_
  refine o_ld (hG 0 rfl) rfl (ev_ld1 (j := 105) rfl rfl Tryz.isAgg3 (MetaS.sub_Got _) rfl) (g0 rfl) rfl rfl ?_
  refine o_run ft [2, 3] rfl rfl ?_
  refine oc (k_st (j := 105) rfl rfl rfl rfl (vs := [vi (wrap64 (a0_m.Got + 1))]) rfl (sz rfl Tryz.sizeOf3) rfl 0 rfl (MetaS.set_Got _ (wrap64 (a0_m.Got + 1))) rfl (g0 rfl) rfl ?_)
  refine o_nil ?_
  refine q_then ?_
  refine s_seq ?_
  refine q_join (fun (x9 : ChangeS) (y10 : Unit) => ⟨Sl E8 A1 c2 a1_q.Bytes :: D0, At b7 0 (MetaS.cells ({ (a0_m : MetaS) with Got := (wrap64 (a0_m.Got + 1)) })) :: At b6 0 (ChangeS.cells x9) :: At b5 0 (FactS.cells a2_f) :: At b4 0 [vi a1_q.Kind, vi a1_q.N, .slice A1 a1_q.Bytes.length c2] :: At b3 0 (MetaS.cells a0_m) :: G0, [(6, (.pointer (some ⟨b6, 0, none⟩)))]⟩) H ?_ ?_
  · intro x9 y10 H
    dsimp only
    refine q_then ?_
    refine s_ret ?_
    cases H
    exact q_end (rs_1 Tryz.results177 (rv_cell (j := 0) rfl (hG 1 rfl) Tryz.isAgg170 (sz (ChangeS.len _) Tryz.sizeOf170) (sub_all _) rfl)) ⟨rfl, rfl, rfl⟩ [] rfl 1 rfl [] rfl 5 rfl
  · intro J8 J8h H
    refine s_draw mixed [(0, [35, 36], Has b7 0 (MetaS.cells ({ (a0_m : MetaS) with Got := (wrap64 (a0_m.Got + 1)) }))), (2, [36], Has b3 0 (MetaS.cells a0_m)), (6, [36], Has b4 0 [vi a1_q.Kind, vi a1_q.N, .slice A1 a1_q.Bytes.length c2]), (8, [36], Has b3 0 (MetaS.cells a0_m)), (12, [36], Has b3 0 (MetaS.cells a0_m)), (15, [36], Has b3 0 (MetaS.cells a0_m)), (21, [36], Has b4 0 [vi a1_q.Kind, vi a1_q.N, .slice A1 a1_q.Bytes.length c2]), (25, [28, 36], Has b3 0 (MetaS.cells a0_m)), (27, [28, 36], Has b3 0 (MetaS.cells a0_m)), (32, [33, 36], Has b5 0 (FactS.cells a2_f))] ?_
    refine a_l1 0 0 rfl (by kernel_rfl) rfl (ev_ldN (j := 0) rfl rfl Tryz.isAgg52 (sz (MetaS.len _) Tryz.sizeOf52) (sub_all _) rfl) (fun _ _ _ h => h) (g0 rfl) rfl rfl ?_
    refine a_run ft [1] rfl (fun _ _ _ _ _ h => h) (by kernel_rfl) rfl ?_
    refine a_l1 2 1 rfl (by kernel_rfl) rfl (ev_ld1 (j := 70) rfl rfl Tryz.isAgg3 (MetaS.sub_Phase _) rfl) (fun _ _ _ h => h) (g0 rfl) rfl rfl ?_
    refine a_run ft [3, 5] rfl (fun _ _ _ _ _ h => h) (by kernel_rfl) rfl ?_
    refine a_l1 6 2 rfl (by kernel_rfl) rfl (ev_ld1 (j := 1) rfl rfl Tryz.isAgg3 (sub_nth (j := 1) rfl) rfl) (fun _ _ _ h => h) (g0 rfl) rfl rfl ?_
    refine a_run ft [7] rfl (fun _ _ _ _ _ h => h) (by kernel_rfl) rfl ?_
    refine a_l1 8 3 rfl (by kernel_rfl) rfl (ev_ld1 (j := 105) rfl rfl Tryz.isAgg3 (MetaS.sub_Got _) rfl) (fun _ _ _ h => h) (g0 rfl) rfl rfl ?_
    refine a_run ft [9, 20] rfl (fun _ _ _ _ _ h => h) (by kernel_rfl) rfl ?_
    refine a_l1 21 6 rfl (by kernel_rfl) rfl (ev_ld1 (j := 2) rfl rfl Tryz.isAgg22 (sub_nth (j := 2) rfl) rfl) (fun _ _ _ h => h) (g0 rfl) rfl rfl ?_
    refine a_p1 22 (by kernel_rfl) rfl (ev_len_slice rfl rfl Tryz.runUnderlying22) (fun _ _ _ h => h) (g0 rfl) rfl rfl ?_
    refine a_run ft [23, 24] rfl (fun _ _ _ _ _ h => h) (by kernel_rfl) rfl ?_
    refine a_l1 25 7 rfl (by kernel_rfl) rfl (ev_ld1 (j := 72) rfl rfl Tryz.isAgg3 (sub_sub (MetaS.sub_Coming _) (Img.sub_Size _) rfl) rfl) (fun _ _ _ h => h) (g0 rfl) rfl rfl ?_
    refine a_run ft [26] rfl (fun _ _ _ _ _ h => h) (by kernel_rfl) rfl ?_
    refine a_l1 27 8 rfl (by kernel_rfl) rfl (ev_ld1 (j := 105) rfl rfl Tryz.isAgg3 (MetaS.sub_Got _) rfl) (fun _ _ _ h => h) (g0 rfl) rfl rfl ?_
    refine a_run ft [31] rfl (fun _ _ _ _ _ h => h) (by kernel_rfl) rfl ?_
    refine a_l1 32 9 rfl (by kernel_rfl) rfl (ev_ld1 (j := 34) rfl rfl Tryz.isAgg4 (FactS.sub_Worn _) rfl) (fun _ _ _ h => h) (g0 rfl) rfl rfl ?_
    refine ac 4 (by kernel_rfl) (sl_cons (hG 0 rfl) (sl_cons (hG 4 rfl) (sl_cons (hG 3 rfl) (sl_cons (hG 4 rfl) (sl_cons (hG 4 rfl) (sl_cons (hG 4 rfl) (sl_cons (hG 3 rfl) (sl_cons (hG 4 rfl) (sl_cons (hG 4 rfl) (sl_cons (hG 2 rfl) sl_nil)))))))))) ?_
    obtain ⟨r11, Hc12, H⟩ := bind_some' H
    refine k_call (c_update_when (a0_m.Phase != 1) 11 r11 Hc12) Tryz.call213 rfl rfl rfl [] [] rfl rfl (g0 rfl) rfl rfl ?_
    rintro _ _ _ ⟨rfl, rfl, rfl⟩
    dsimp only [app]
    refine a_run ft [10] rfl (fun _ _ _ _ _ h => h) (by kernel_rfl) rfl ?_
    refine k_name 23 rfl ?_
    intro b13 hb14
    have H := bnd_eq H hb14
    cases b13 with
    | true =>
      rw [cond_true] at H
      refine a_run ft [11, 12, 13, 14, 15, 16, 17, 18] rfl (fun _ _ _ _ _ h => h) (by kernel_rfl) rfl ?_
      refine ac 19 (by kernel_rfl) (sl_cons (hG 0 rfl) (sl_cons (hG 4 rfl) (sl_cons (hG 3 rfl) (sl_cons (hG 4 rfl) (sl_cons (hG 4 rfl) (sl_cons (hG 4 rfl) (sl_cons (hG 3 rfl) (sl_cons (hG 4 rfl) (sl_cons (hG 4 rfl) (sl_cons (hG 2 rfl) sl_nil)))))))))) ?_
      obtain ⟨r15, Hc16, H⟩ := bind_some' H
      refine k_call (c_update_when true 12 r15 Hc16) Tryz.call213 rfl rfl rfl [] [] rfl rfl (g0 rfl) rfl rfl ?_
      rintro _ _ _ ⟨rfl, rfl, rfl⟩
      dsimp only [app]
      refine ac 28 (by kernel_rfl) (sl_cons (hG 0 rfl) (sl_cons (hG 4 rfl) (sl_cons (hG 3 rfl) (sl_cons (hG 4 rfl) (sl_cons (hG 4 rfl) (sl_cons (hG 4 rfl) (sl_cons (hG 3 rfl) (sl_cons (hG 4 rfl) (sl_cons (hG 4 rfl) (sl_cons (hG 2 rfl) sl_nil)))))))))) ?_
      obtain ⟨r17, Hc18, H⟩ := bind_some' H
      refine k_call (c_update_Len a0_m.Coming.Size a0_m.Got r17 Hc18) Tryz.call39 rfl rfl rfl [] [] rfl rfl (g0 rfl) rfl rfl ?_
      rintro _ _ _ ⟨rfl, rfl, rfl⟩
      dsimp only [app]
      refine a_run ft [29] rfl (fun _ _ _ _ _ h => h) (by kernel_rfl) rfl ?_
      refine ac 30 (by kernel_rfl) (sl_cons (hG 0 rfl) (sl_cons (hG 4 rfl) (sl_cons (hG 3 rfl) (sl_cons (hG 4 rfl) (sl_cons (hG 4 rfl) (sl_cons (hG 4 rfl) (sl_cons (hG 3 rfl) (sl_end (by kernel_rfl) (sl_end (by kernel_rfl) (sl_cons (hG 2 rfl) sl_nil)))))))))) ?_
      obtain ⟨r19, Hc20, H⟩ := bind_some' H
      refine k_call (c_update_when ((a1_q.Bytes.length : Int) != r17) 6 r19 Hc20) Tryz.call213 rfl rfl rfl [] [] rfl rfl (g0 rfl) rfl rfl ?_
      rintro _ _ _ ⟨rfl, rfl, rfl⟩
      dsimp only [app]
      refine ac 33 (by kernel_rfl) (sl_cons (hG 0 rfl) (sl_cons (hG 4 rfl) (sl_cons (hG 3 rfl) (sl_cons (hG 4 rfl) (sl_cons (hG 4 rfl) (sl_cons (hG 4 rfl) (sl_cons (hG 3 rfl) (sl_end (by kernel_rfl) (sl_end (by kernel_rfl) (sl_cons (hG 2 rfl) sl_nil)))))))))) ?_
      obtain ⟨r21, Hc22, H⟩ := bind_some' H
      refine k_call (c_update_when a2_f.Worn 5 r21 Hc22) Tryz.call213 rfl rfl rfl [] [] rfl rfl (g0 rfl) rfl rfl ?_
      rintro _ _ _ ⟨rfl, rfl, rfl⟩
      dsimp only [app]
      refine ac 34 (by kernel_rfl) (sl_cons (hG 0 rfl) (sl_cons (hG 4 rfl) (sl_cons (hG 3 rfl) (sl_cons (hG 4 rfl) (sl_cons (hG 4 rfl) (sl_cons (hG 4 rfl) (sl_cons (hG 3 rfl) (sl_end (by kernel_rfl) (sl_end (by kernel_rfl) (sl_end (by kernel_rfl) sl_nil)))))))))) ?_
      refine k_buildSlice (f := Ei) ([r11, r15, r19, r21] : List Int) rfl rfl rfl rfl Tryz.runUnderlying251 Tryz.sizeOf31 Tryz.zeroValue31 rfl rfl (fill_all rfl rfl (by simp) rfl rfl) (g0 rfl) rfl rfl ?_
      intro b23
      refine ac 35 (by kernel_rfl) (sl_cons (hG 0 rfl) (sl_cons (hG 4 rfl) (sl_cons (hG 3 rfl) (sl_cons (hG 4 rfl) (sl_cons (hG 4 rfl) (sl_cons (hG 4 rfl) (sl_cons (hG 3 rfl) (sl_end (by kernel_rfl) (sl_end (by kernel_rfl) (sl_end (by kernel_rfl) sl_nil)))))))))) ?_
      obtain ⟨r24, Hc25, H⟩ := bind_some' H
      refine k_call (c_update_one ({ (a0_m : MetaS) with Got := (wrap64 (a0_m.Got + 1)) }) ([r11, r15, r19, r21] : List Int) (some ⟨b23, 0, none⟩) 4 r24 Hc25) Tryz.call212 rfl rfl rfl [0] [] rfl rfl (g0 rfl) rfl rfl ?_
      rintro _ _ _ ⟨rfl, rfl, rfl⟩
      dsimp only [app]
      refine ac 36 (by kernel_rfl) (sl_end (by kernel_rfl) (sl_cons (hG 4 rfl) (sl_cons (hG 3 rfl) (sl_cons (hG 4 rfl) (sl_cons (hG 4 rfl) (sl_cons (hG 4 rfl) (sl_cons (hG 3 rfl) (sl_end (by kernel_rfl) (sl_end (by kernel_rfl) (sl_end (by kernel_rfl) sl_nil)))))))))) ?_
      refine k_st (j := 0) rfl rfl rfl rfl (vs := ChangeS.cells r24) rfl (sz (ChangeS.len _) Tryz.sizeOf170) (ChangeS.sc _) 1 rfl (spl_all ((ChangeS.len _).trans (ChangeS.len _).symm)) rfl (g0 rfl) rfl ?_
      refine a_done (by kernel_rfl) (sl_end (by kernel_rfl) (sl_end (by kernel_rfl) (sl_end (by kernel_rfl) (sl_end (by kernel_rfl) (sl_end (by kernel_rfl) (sl_end (by kernel_rfl) (sl_end (by kernel_rfl) (sl_end (by kernel_rfl) (sl_end (by kernel_rfl) (sl_end (by kernel_rfl) sl_nil)))))))))) ?_
      exact k_wk (J8h r24 () H) [6] [1] 2 [0, 0, 0, 0, 0] 0 rfl rfl rfl
    | false =>
      rw [cond_false] at H
      refine a_run ft [11] rfl (fun _ _ _ _ _ h => h) (by kernel_rfl) rfl ?_
      refine a_l1 12 4 rfl (by kernel_rfl) rfl (ev_ld1 (j := 105) rfl rfl Tryz.isAgg3 (MetaS.sub_Got _) rfl) (fun _ _ _ h => h) (g1 rfl rfl rfl rfl) rfl rfl ?_
      refine a_run ft [13, 14] rfl (fun _ _ _ _ _ h => h) (by kernel_rfl) rfl ?_
      refine a_l1 15 5 rfl (by kernel_rfl) rfl (ev_ld1 (j := 72) rfl rfl Tryz.isAgg3 (sub_sub (MetaS.sub_Coming _) (Img.sub_Size _) rfl) rfl) (fun _ _ _ h => h) (g1 rfl rfl rfl rfl) rfl rfl ?_
      refine ac 16 (by kernel_rfl) (sl_cons (hG 0 rfl) (sl_cons (hG 4 rfl) (sl_cons (hG 3 rfl) (sl_cons (hG 4 rfl) (sl_cons (hG 4 rfl) (sl_cons (hG 4 rfl) (sl_cons (hG 3 rfl) (sl_cons (hG 4 rfl) (sl_cons (hG 4 rfl) (sl_cons (hG 2 rfl) sl_nil)))))))))) ?_
      obtain ⟨r26, Hc27, H⟩ := bind_some' H
      refine k_call (c_update_Chunks a0_m.Coming.Size r26 Hc27) Tryz.call37 rfl rfl rfl [] [] rfl rfl (g1 rfl rfl rfl rfl) rfl rfl ?_
      rintro _ _ _ ⟨rfl, rfl, rfl⟩
      dsimp only [app]
      refine a_run ft [17, 18] rfl (fun _ _ _ _ _ h => h) (by kernel_rfl) rfl ?_
      refine ac 19 (by kernel_rfl) (sl_cons (hG 0 rfl) (sl_cons (hG 4 rfl) (sl_cons (hG 3 rfl) (sl_cons (hG 4 rfl) (sl_cons (hG 4 rfl) (sl_cons (hG 4 rfl) (sl_cons (hG 3 rfl) (sl_cons (hG 4 rfl) (sl_cons (hG 4 rfl) (sl_cons (hG 2 rfl) sl_nil)))))))))) ?_
      obtain ⟨r28, Hc29, H⟩ := bind_some' H
      refine k_call (c_update_when (decide (a0_m.Got ≥ r26)) 12 r28 Hc29) Tryz.call213 rfl rfl rfl [] [] rfl rfl (g0 rfl) rfl rfl ?_
      rintro _ _ _ ⟨rfl, rfl, rfl⟩
      dsimp only [app]
      refine ac 28 (by kernel_rfl) (sl_cons (hG 0 rfl) (sl_cons (hG 4 rfl) (sl_cons (hG 3 rfl) (sl_cons (hG 4 rfl) (sl_cons (hG 4 rfl) (sl_cons (hG 4 rfl) (sl_cons (hG 3 rfl) (sl_cons (hG 4 rfl) (sl_cons (hG 4 rfl) (sl_cons (hG 2 rfl) sl_nil)))))))))) ?_
      obtain ⟨r30, Hc31, H⟩ := bind_some' H
      refine k_call (c_update_Len a0_m.Coming.Size a0_m.Got r30 Hc31) Tryz.call39 rfl rfl rfl [] [] rfl rfl (g0 rfl) rfl rfl ?_
      rintro _ _ _ ⟨rfl, rfl, rfl⟩
      dsimp only [app]
      refine a_run ft [29] rfl (fun _ _ _ _ _ h => h) (by kernel_rfl) rfl ?_
      refine ac 30 (by kernel_rfl) (sl_cons (hG 0 rfl) (sl_cons (hG 4 rfl) (sl_cons (hG 3 rfl) (sl_cons (hG 4 rfl) (sl_cons (hG 4 rfl) (sl_cons (hG 4 rfl) (sl_cons (hG 3 rfl) (sl_end (by kernel_rfl) (sl_end (by kernel_rfl) (sl_cons (hG 2 rfl) sl_nil)))))))))) ?_
      obtain ⟨r32, Hc33, H⟩ := bind_some' H
      refine k_call (c_update_when ((a1_q.Bytes.length : Int) != r30) 6 r32 Hc33) Tryz.call213 rfl rfl rfl [] [] rfl rfl (g0 rfl) rfl rfl ?_
      rintro _ _ _ ⟨rfl, rfl, rfl⟩
      dsimp only [app]
      refine ac 33 (by kernel_rfl) (sl_cons (hG 0 rfl) (sl_cons (hG 4 rfl) (sl_cons (hG 3 rfl) (sl_cons (hG 4 rfl) (sl_cons (hG 4 rfl) (sl_cons (hG 4 rfl) (sl_cons (hG 3 rfl) (sl_end (by kernel_rfl) (sl_end (by kernel_rfl) (sl_cons (hG 2 rfl) sl_nil)))))))))) ?_
      obtain ⟨r34, Hc35, H⟩ := bind_some' H
      refine k_call (c_update_when a2_f.Worn 5 r34 Hc35) Tryz.call213 rfl rfl rfl [] [] rfl rfl (g0 rfl) rfl rfl ?_
      rintro _ _ _ ⟨rfl, rfl, rfl⟩
      dsimp only [app]
      refine ac 34 (by kernel_rfl) (sl_cons (hG 0 rfl) (sl_cons (hG 4 rfl) (sl_cons (hG 3 rfl) (sl_cons (hG 4 rfl) (sl_cons (hG 4 rfl) (sl_cons (hG 4 rfl) (sl_cons (hG 3 rfl) (sl_end (by kernel_rfl) (sl_end (by kernel_rfl) (sl_end (by kernel_rfl) sl_nil)))))))))) ?_
      refine k_buildSlice (f := Ei) ([r11, r28, r32, r34] : List Int) rfl rfl rfl rfl Tryz.runUnderlying251 Tryz.sizeOf31 Tryz.zeroValue31 rfl rfl (fill_all rfl rfl (by simp) rfl rfl) (g0 rfl) rfl rfl ?_
      intro b36
      refine ac 35 (by kernel_rfl) (sl_cons (hG 0 rfl) (sl_cons (hG 4 rfl) (sl_cons (hG 3 rfl) (sl_cons (hG 4 rfl) (sl_cons (hG 4 rfl) (sl_cons (hG 4 rfl) (sl_cons (hG 3 rfl) (sl_end (by kernel_rfl) (sl_end (by kernel_rfl) (sl_end (by kernel_rfl) sl_nil)))))))))) ?_
      obtain ⟨r37, Hc38, H⟩ := bind_some' H
      refine k_call (c_update_one ({ (a0_m : MetaS) with Got := (wrap64 (a0_m.Got + 1)) }) ([r11, r28, r32, r34] : List Int) (some ⟨b36, 0, none⟩) 4 r37 Hc38) Tryz.call212 rfl rfl rfl [0] [] rfl rfl (g0 rfl) rfl rfl ?_
      rintro _ _ _ ⟨rfl, rfl, rfl⟩
      dsimp only [app]
      refine ac 36 (by kernel_rfl) (sl_end (by kernel_rfl) (sl_cons (hG 4 rfl) (sl_cons (hG 3 rfl) (sl_cons (hG 4 rfl) (sl_cons (hG 4 rfl) (sl_cons (hG 4 rfl) (sl_cons (hG 3 rfl) (sl_end (by kernel_rfl) (sl_end (by kernel_rfl) (sl_end (by kernel_rfl) sl_nil)))))))))) ?_
      refine k_st (j := 0) rfl rfl rfl rfl (vs := ChangeS.cells r37) rfl (sz (ChangeS.len _) Tryz.sizeOf170) (ChangeS.sc _) 1 rfl (spl_all ((ChangeS.len _).trans (ChangeS.len _).symm)) rfl (g0 rfl) rfl ?_
      refine a_done (by kernel_rfl) (sl_end (by kernel_rfl) (sl_end (by kernel_rfl) (sl_end (by kernel_rfl) (sl_end (by kernel_rfl) (sl_end (by kernel_rfl) (sl_end (by kernel_rfl) (sl_end (by kernel_rfl) (sl_end (by kernel_rfl) (sl_end (by kernel_rfl) (sl_end (by kernel_rfl) sl_nil)))))))))) ?_
      exact k_wk (J8h r37 () H) [6] [1] 2 [0, 0, 0, 0, 0] 0 rfl rfl rfl

def update_verify (a0_m : MetaS) (a1_f : FactS) : Option ChangeS :=
(update_when (a0_m.Phase != 1) (11 : Int)).bind fun r5 =>
(update_Chunks a0_m.Coming.Size).bind fun r7 =>
(update_when (decide (a0_m.Got < r7)) (12 : Int)).bind fun r9 =>
(update_when (!(decide (a1_f.Digest = a0_m.Coming.Digest))) (13 : Int)).bind fun r11 =>
(update_when a1_f.Worn (5 : Int)).bind fun r13 =>
(update_one ({ (a0_m : MetaS) with Phase := 2 }) ([r5, r9, r11, r13] : List Int)).bind fun r16 =>
some r16

theorem c_update_verify (a0_m : MetaS) (a1_f : FactS) (r : ChangeS) (H : update_verify a0_m a1_f = some r) : Fn Tryz.prog 178 [(.agg (MetaS.cells a0_m).toArray), (.agg (FactS.cells a1_f).toArray)] [] [] (fun v D' G' => v = (.agg (ChangeS.cells r).toArray) ∧ D' = [] ∧ G' = []) := by
  unfold update_verify at H
  refine fn_of Tryz.func178 rfl Tryz.ntmps178 rfl ?_
  intro w0 D0 G0
  dsimp only [app, initEnv, Nat.zero_add, Nat.reduceAdd]
  refine s_seq ?_
  refine s_reg [0, 1, 2] rfl ?_
  refine oc (k_box rfl rfl rfl (cs := MetaS.cells a0_m) rfl (g0 rfl) rfl rfl ?_)
  intro b1
  refine oc (k_box rfl rfl rfl (cs := FactS.cells a1_f) rfl (g0 rfl) rfl rfl ?_)
  intro b2
  refine oc (k_alloc rfl rfl Tryz.zeroValue170 (cs := ChangeS.cells ChangeS.zero) rfl (g0 rfl) rfl rfl ?_)
  intro b3
  refine o_nil ?_
  refine q_then ?_
  refine s_seq ?_
  refine s_reg [0, 1, 2] rfl ?_
  refine o_ld (hG 2 rfl) rfl (ev_ldN (j := 0) rfl rfl Tryz.isAgg52 (sz (MetaS.len _) Tryz.sizeOf52) (sub_all _) rfl) (g0 rfl) rfl rfl ?_
  refine oc (k_alloc rfl rfl Tryz.zeroValue52 (cs := MetaS.cells MetaS.zero) rfl (g0 rfl) rfl rfl ?_)
  intro b4
  refine oc (k_st (j := 0) rfl rfl rfl rfl (vs := MetaS.cells a0_m) rfl (sz (MetaS.len _) Tryz.sizeOf52) (MetaS.sc _) 0 rfl (spl_all ((MetaS.len _).trans (MetaS.len _).symm)) rfl (g0 rfl) rfl ?_)
  refine o_nil ?_
  refine q_then ?_
  refine s_seq ?_
  refine s_reg [0, 1] rfl ?_
  refine o_run ft [0] rfl rfl ?_
  refine oc (k_st (j := 70) rfl rfl rfl rfl (vs := [vi 2]) rfl (sz rfl Tryz.sizeOf3) rfl 0 rfl (MetaS.set_Phase _ 2) rfl (g0 rfl) rfl ?_)
  refine o_nil ?_
  refine q_then ?_
  refine s_seq ?_
  refine s_draw mixed [(0, [24, 25], Has b4 0 (MetaS.cells ({ (a0_m : MetaS) with Phase := 2 }))), (2, [25], Has b1 0 (MetaS.cells a0_m)), (6, [25], Has b1 0 (MetaS.cells a0_m)), (9, [10, 25], Has b1 0 (MetaS.cells a0_m)), (14, [25], Has b2 0 (FactS.cells a1_f)), (17, [25], Has b1 0 (MetaS.cells a0_m)), (21, [22, 25], Has b2 0 (FactS.cells a1_f))] ?_
  refine a_l1 0 0 rfl (by kernel_rfl) rfl (ev_ldN (j := 0) rfl rfl Tryz.isAgg52 (sz (MetaS.len _) Tryz.sizeOf52) (sub_all _) rfl) (fun _ _ _ h => h) (g0 rfl) rfl rfl ?_
  refine a_run ft [1] rfl (fun _ _ _ _ _ h => h) (by kernel_rfl) rfl ?_
  refine a_l1 2 1 rfl (by kernel_rfl) rfl (ev_ld1 (j := 70) rfl rfl Tryz.isAgg3 (MetaS.sub_Phase _) rfl) (fun _ _ _ h => h) (g0 rfl) rfl rfl ?_
  refine a_run ft [3, 5] rfl (fun _ _ _ _ _ h => h) (by kernel_rfl) rfl ?_
  refine a_l1 6 2 rfl (by kernel_rfl) rfl (ev_ld1 (j := 105) rfl rfl Tryz.isAgg3 (MetaS.sub_Got _) rfl) (fun _ _ _ h => h) (g0 rfl) rfl rfl ?_
  refine a_run ft [7, 8] rfl (fun _ _ _ _ _ h => h) (by kernel_rfl) rfl ?_
  refine a_l1 9 3 rfl (by kernel_rfl) rfl (ev_ld1 (j := 72) rfl rfl Tryz.isAgg3 (sub_sub (MetaS.sub_Coming _) (Img.sub_Size _) rfl) rfl) (fun _ _ _ h => h) (g0 rfl) rfl rfl ?_
  refine a_run ft [13] rfl (fun _ _ _ _ _ h => h) (by kernel_rfl) rfl ?_
  refine a_l1 14 4 rfl (by kernel_rfl) rfl (ev_ldN (j := 2) rfl rfl Tryz.isAgg45 (sz (arr_len E8_len _ rfl) Tryz.sizeOf45) (FactS.sub_Digest _) rfl) (fun _ _ _ h => h) (g0 rfl) rfl rfl ?_
  refine a_run ft [15, 16] rfl (fun _ _ _ _ _ h => h) (by kernel_rfl) rfl ?_
  refine a_l1 17 5 rfl (by kernel_rfl) rfl (ev_ldN (j := 73) rfl rfl Tryz.isAgg45 (sz (arr_len E8_len _ rfl) Tryz.sizeOf45) (sub_sub (MetaS.sub_Coming _) (Img.sub_Digest _) rfl) rfl) (fun _ _ _ h => h) (g0 rfl) rfl rfl ?_
  refine a_p1 18 (by kernel_rfl) rfl (ev_neA (f := (fun a : Arr UInt8 32 => a.l.flatMap E8)) (X := a1_f.Digest) (Y := a0_m.Coming.Digest) rfl rfl rfl eqT45 rfl Tryz.isAgg45 Tryz.sizeOf45 (fun a => arr_len E8_len a rfl) eqG45) (fun _ _ _ h => h) (g0 rfl) rfl rfl ?_
  refine a_run ft [20] rfl (fun _ _ _ _ _ h => h) (by kernel_rfl) rfl ?_
  refine a_l1 21 6 rfl (by kernel_rfl) rfl (ev_ld1 (j := 34) rfl rfl Tryz.isAgg4 (FactS.sub_Worn _) rfl) (fun _ _ _ h => h) (g0 rfl) rfl rfl ?_
  refine ac 4 (by kernel_rfl) (sl_cons (hG 0 rfl) (sl_cons (hG 3 rfl) (sl_cons (hG 3 rfl) (sl_cons (hG 3 rfl) (sl_cons (hG 2 rfl) (sl_cons (hG 3 rfl) (sl_cons (hG 2 rfl) sl_nil))))))) ?_
  obtain ⟨r5, Hc6, H⟩ := bind_some' H
  refine k_call (c_update_when (a0_m.Phase != 1) 11 r5 Hc6) Tryz.call213 rfl rfl rfl [] [] rfl rfl (g0 rfl) rfl rfl ?_
  rintro _ _ _ ⟨rfl, rfl, rfl⟩
  dsimp only [app]
  refine ac 10 (by kernel_rfl) (sl_cons (hG 0 rfl) (sl_cons (hG 3 rfl) (sl_cons (hG 3 rfl) (sl_cons (hG 3 rfl) (sl_cons (hG 2 rfl) (sl_cons (hG 3 rfl) (sl_cons (hG 2 rfl) sl_nil))))))) ?_
  obtain ⟨r7, Hc8, H⟩ := bind_some' H
  refine k_call (c_update_Chunks a0_m.Coming.Size r7 Hc8) Tryz.call37 rfl rfl rfl [] [] rfl rfl (g0 rfl) rfl rfl ?_
  rintro _ _ _ ⟨rfl, rfl, rfl⟩
  dsimp only [app]
  refine a_run ft [11] rfl (fun _ _ _ _ _ h => h) (by kernel_rfl) rfl ?_
  refine ac 12 (by kernel_rfl) (sl_cons (hG 0 rfl) (sl_cons (hG 3 rfl) (sl_cons (hG 3 rfl) (sl_end (by kernel_rfl) (sl_cons (hG 2 rfl) (sl_cons (hG 3 rfl) (sl_cons (hG 2 rfl) sl_nil))))))) ?_
  obtain ⟨r9, Hc10, H⟩ := bind_some' H
  refine k_call (c_update_when (decide (a0_m.Got < r7)) 12 r9 Hc10) Tryz.call213 rfl rfl rfl [] [] rfl rfl (g0 rfl) rfl rfl ?_
  rintro _ _ _ ⟨rfl, rfl, rfl⟩
  dsimp only [app]
  refine ac 19 (by kernel_rfl) (sl_cons (hG 0 rfl) (sl_cons (hG 3 rfl) (sl_cons (hG 3 rfl) (sl_end (by kernel_rfl) (sl_cons (hG 2 rfl) (sl_cons (hG 3 rfl) (sl_cons (hG 2 rfl) sl_nil))))))) ?_
  obtain ⟨r11, Hc12, H⟩ := bind_some' H
  refine k_call (c_update_when (!(decide (a1_f.Digest = a0_m.Coming.Digest))) 13 r11 Hc12) Tryz.call213 rfl rfl rfl [] [] rfl rfl (g0 rfl) rfl rfl ?_
  rintro _ _ _ ⟨rfl, rfl, rfl⟩
  dsimp only [app]
  refine ac 22 (by kernel_rfl) (sl_cons (hG 0 rfl) (sl_cons (hG 3 rfl) (sl_cons (hG 3 rfl) (sl_end (by kernel_rfl) (sl_cons (hG 2 rfl) (sl_cons (hG 3 rfl) (sl_cons (hG 2 rfl) sl_nil))))))) ?_
  obtain ⟨r13, Hc14, H⟩ := bind_some' H
  refine k_call (c_update_when a1_f.Worn 5 r13 Hc14) Tryz.call213 rfl rfl rfl [] [] rfl rfl (g0 rfl) rfl rfl ?_
  rintro _ _ _ ⟨rfl, rfl, rfl⟩
  dsimp only [app]
  refine ac 23 (by kernel_rfl) (sl_cons (hG 0 rfl) (sl_cons (hG 3 rfl) (sl_cons (hG 3 rfl) (sl_end (by kernel_rfl) (sl_cons (hG 2 rfl) (sl_cons (hG 3 rfl) (sl_end (by kernel_rfl) sl_nil))))))) ?_
  refine k_buildSlice (f := Ei) ([r5, r9, r11, r13] : List Int) rfl rfl rfl rfl Tryz.runUnderlying251 Tryz.sizeOf31 Tryz.zeroValue31 rfl rfl (fill_all rfl rfl (by simp) rfl rfl) (g0 rfl) rfl rfl ?_
  intro b15
  refine ac 24 (by kernel_rfl) (sl_cons (hG 0 rfl) (sl_cons (hG 3 rfl) (sl_cons (hG 3 rfl) (sl_end (by kernel_rfl) (sl_cons (hG 2 rfl) (sl_cons (hG 3 rfl) (sl_end (by kernel_rfl) sl_nil))))))) ?_
  obtain ⟨r16, Hc17, H⟩ := bind_some' H
  refine k_call (c_update_one ({ (a0_m : MetaS) with Phase := 2 }) ([r5, r9, r11, r13] : List Int) (some ⟨b15, 0, none⟩) 4 r16 Hc17) Tryz.call212 rfl rfl rfl [0] [] rfl rfl (g0 rfl) rfl rfl ?_
  rintro _ _ _ ⟨rfl, rfl, rfl⟩
  dsimp only [app]
  refine ac 25 (by kernel_rfl) (sl_end (by kernel_rfl) (sl_cons (hG 3 rfl) (sl_cons (hG 3 rfl) (sl_end (by kernel_rfl) (sl_cons (hG 2 rfl) (sl_cons (hG 3 rfl) (sl_end (by kernel_rfl) sl_nil))))))) ?_
  refine k_st (j := 0) rfl rfl rfl rfl (vs := ChangeS.cells r16) rfl (sz (ChangeS.len _) Tryz.sizeOf170) (ChangeS.sc _) 1 rfl (spl_all ((ChangeS.len _).trans (ChangeS.len _).symm)) rfl (g0 rfl) rfl ?_
  refine a_done (by kernel_rfl) (sl_end (by kernel_rfl) (sl_end (by kernel_rfl) (sl_end (by kernel_rfl) (sl_end (by kernel_rfl) (sl_end (by kernel_rfl) (sl_end (by kernel_rfl) (sl_end (by kernel_rfl) sl_nil))))))) ?_
  refine q_then ?_
  refine s_ret ?_
  cases H
  exact q_end (rs_1 Tryz.results178 (rv_cell (j := 0) rfl (hG 1 rfl) Tryz.isAgg170 (sz (ChangeS.len _) Tryz.sizeOf170) (sub_all _) rfl)) ⟨rfl, rfl, rfl⟩ [] rfl 1 rfl [] rfl 4 rfl

def update_commit (a0_m : MetaS) (a1_f : FactS) : Option ChangeS :=
(update_idle a0_m).bind fun r4 =>
(meta_Other a0_m).bind fun r7 =>
chk (0 ≤ r7 ∧ r7 < 2) <|
bnd ({ ({ ({ (r4 : MetaS) with Phase := 3 } : MetaS) with Trials := 2 } : MetaS) with Have := (Arr.set (({ ({ (r4 : MetaS) with Phase := 3 } : MetaS) with Trials := 2 }).Have) r7 a0_m.Coming) }) fun x10 =>
(update_when (a0_m.Phase != 2) (11 : Int)).bind fun r12 =>
(update_when a1_f.Worn (5 : Int)).bind fun r14 =>
(update_one x10 ([r12, r14] : List Int)).bind fun r17 =>
some r17

theorem c_update_commit (a0_m : MetaS) (a1_f : FactS) (r : ChangeS) (H : update_commit a0_m a1_f = some r) : Fn Tryz.prog 179 [(.agg (MetaS.cells a0_m).toArray), (.agg (FactS.cells a1_f).toArray)] [] [] (fun v D' G' => v = (.agg (ChangeS.cells r).toArray) ∧ D' = [] ∧ G' = []) := by
  unfold update_commit at H
  refine fn_of Tryz.func179 rfl Tryz.ntmps179 rfl ?_
  intro w0 D0 G0
  dsimp only [app, initEnv, Nat.zero_add, Nat.reduceAdd]
  refine s_seq ?_
  refine s_reg [0, 1, 2] rfl ?_
  refine oc (k_box rfl rfl rfl (cs := MetaS.cells a0_m) rfl (g0 rfl) rfl rfl ?_)
  intro b1
  refine oc (k_box rfl rfl rfl (cs := FactS.cells a1_f) rfl (g0 rfl) rfl rfl ?_)
  intro b2
  refine oc (k_alloc rfl rfl Tryz.zeroValue170 (cs := ChangeS.cells ChangeS.zero) rfl (g0 rfl) rfl rfl ?_)
  intro b3
  refine o_nil ?_
  refine q_then ?_
  refine s_seq ?_
  refine s_reg [0, 1, 2, 3] rfl ?_
  refine o_ld (hG 2 rfl) rfl (ev_ldN (j := 0) rfl rfl Tryz.isAgg52 (sz (MetaS.len _) Tryz.sizeOf52) (sub_all _) rfl) (g0 rfl) rfl rfl ?_
  obtain ⟨r4, Hc5, H⟩ := bind_some' H
  refine oc (k_call (c_update_idle a0_m r4 Hc5) Tryz.call215 rfl rfl rfl [] [] rfl rfl (g0 rfl) rfl rfl ?_)
  rintro _ _ _ ⟨rfl, rfl, rfl⟩
  dsimp only [app]
  refine oc (k_alloc rfl rfl Tryz.zeroValue52 (cs := MetaS.cells MetaS.zero) rfl (g0 rfl) rfl rfl ?_)
  intro b6
  refine oc (k_st (j := 0) rfl rfl rfl rfl (vs := MetaS.cells r4) rfl (sz (MetaS.len _) Tryz.sizeOf52) (MetaS.sc _) 0 rfl (spl_all ((MetaS.len _).trans (MetaS.len _).symm)) rfl (g0 rfl) rfl ?_)
  refine o_nil ?_
  refine q_then ?_
  refine s_seq ?_
  refine s_reg [0, 1, 2, 3] rfl ?_
  refine o_run ft [0] rfl rfl ?_
  refine oc (k_st (j := 70) rfl rfl rfl rfl (vs := [vi 3]) rfl (sz rfl Tryz.sizeOf3) rfl 0 rfl (MetaS.set_Phase _ 3) rfl (g0 rfl) rfl ?_)
  refine o_run ft [2] rfl rfl ?_
  refine oc (k_st (j := 106) rfl rfl rfl rfl (vs := [vi 2]) rfl (sz rfl Tryz.sizeOf3) rfl 0 rfl (MetaS.set_Trials _ 2) rfl (g0 rfl) rfl ?_)
  refine o_nil ?_
  refine q_then ?_
  refine s_seq ?_
  refine s_draw mixed [(0, [1, 6], Has b1 0 (MetaS.cells a0_m)), (3, [6], Has b1 0 (MetaS.cells a0_m))] ?_
  refine a_l1 0 0 rfl (by kernel_rfl) rfl (ev_ldN (j := 0) rfl rfl Tryz.isAgg52 (sz (MetaS.len _) Tryz.sizeOf52) (sub_all _) rfl) (fun _ _ _ h => h) (g0 rfl) rfl rfl ?_
  refine a_run ft [2] rfl (fun _ _ _ _ _ h => h) (by kernel_rfl) rfl ?_
  refine a_l1 3 1 rfl (by kernel_rfl) rfl (ev_ldN (j := 71) rfl rfl Tryz.isAgg49 (sz (Img.len _) Tryz.sizeOf49) (MetaS.sub_Coming _) rfl) (fun _ _ _ h => h) (g0 rfl) rfl rfl ?_
  refine a_run ft [4] rfl (fun _ _ _ _ _ h => h) (by kernel_rfl) rfl ?_
  refine ac 1 (by kernel_rfl) (sl_cons (hG 3 rfl) (sl_cons (hG 3 rfl) sl_nil)) ?_
  obtain ⟨r7, Hc8, H⟩ := bind_some' H
  refine k_call (c_meta_Other a0_m r7 Hc8) Tryz.call115 rfl rfl rfl [] [] rfl rfl (g0 rfl) rfl rfl ?_
  rintro _ _ _ ⟨rfl, rfl, rfl⟩
  dsimp only [app]
  obtain ⟨hk9, H⟩ := chk_some H
  refine a_p1 5 (by kernel_rfl) rfl (ev_idx_array rfl rfl rfl Tryz.runUnderlying50 Tryz.sizeOf49 hk9 rfl) (fun _ _ _ h => h) (g0 rfl) rfl rfl ?_
  refine ac 6 (by kernel_rfl) (sl_end (by kernel_rfl) (sl_cons (hG 3 rfl) sl_nil)) ?_
  refine k_st rfl rfl rfl rfl (vs := Img.cells a0_m.Coming) rfl (sz (Img.len _) Tryz.sizeOf49) (Img.sc _) 0 rfl (spl_in (MetaS.sub_Have _) (spl_arr Img.len _ (k := r7) _ hk9 rfl) (MetaS.set_Have _ (Arr.set (({ ({ (r4 : MetaS) with Phase := 3 } : MetaS) with Trials := 2 }).Have) r7 a0_m.Coming)) rfl) (by first | omega | (dsimp only; omega)) (g0 rfl) rfl ?_
  obtain ⟨x10, hx11⟩ : ∃ x, x = ({ ({ ({ (r4 : MetaS) with Phase := 3 } : MetaS) with Trials := 2 } : MetaS) with Have := (Arr.set (({ ({ (r4 : MetaS) with Phase := 3 } : MetaS) with Trials := 2 }).Have) r7 a0_m.Coming) }) := ⟨_, rfl⟩
  have H := bnd_eq H hx11
  refine k_tok 0 (A' := At b6 0 (MetaS.cells x10)) rfl (by rw [hx11]) ?_
  refine a_done (by kernel_rfl) (sl_end (by kernel_rfl) (sl_end (by kernel_rfl) sl_nil)) ?_
  refine q_then ?_
  refine s_seq ?_
  refine s_draw mixed [(0, [9, 10], Has b6 0 (MetaS.cells x10)), (2, [10], Has b1 0 (MetaS.cells a0_m)), (6, [7, 10], Has b2 0 (FactS.cells a1_f))] ?_
  refine a_l1 0 0 rfl (by kernel_rfl) rfl (ev_ldN (j := 0) rfl rfl Tryz.isAgg52 (sz (MetaS.len _) Tryz.sizeOf52) (sub_all _) rfl) (fun _ _ _ h => h) (g0 rfl) rfl rfl ?_
  refine a_run ft [1] rfl (fun _ _ _ _ _ h => h) (by kernel_rfl) rfl ?_
  refine a_l1 2 1 rfl (by kernel_rfl) rfl (ev_ld1 (j := 70) rfl rfl Tryz.isAgg3 (MetaS.sub_Phase _) rfl) (fun _ _ _ h => h) (g0 rfl) rfl rfl ?_
  refine a_run ft [3, 5] rfl (fun _ _ _ _ _ h => h) (by kernel_rfl) rfl ?_
  refine a_l1 6 2 rfl (by kernel_rfl) rfl (ev_ld1 (j := 34) rfl rfl Tryz.isAgg4 (FactS.sub_Worn _) rfl) (fun _ _ _ h => h) (g0 rfl) rfl rfl ?_
  refine ac 4 (by kernel_rfl) (sl_cons (hG 0 rfl) (sl_cons (hG 3 rfl) (sl_cons (hG 2 rfl) sl_nil))) ?_
  obtain ⟨r12, Hc13, H⟩ := bind_some' H
  refine k_call (c_update_when (a0_m.Phase != 2) 11 r12 Hc13) Tryz.call213 rfl rfl rfl [] [] rfl rfl (g0 rfl) rfl rfl ?_
  rintro _ _ _ ⟨rfl, rfl, rfl⟩
  dsimp only [app]
  refine ac 7 (by kernel_rfl) (sl_cons (hG 0 rfl) (sl_cons (hG 3 rfl) (sl_cons (hG 2 rfl) sl_nil))) ?_
  obtain ⟨r14, Hc15, H⟩ := bind_some' H
  refine k_call (c_update_when a1_f.Worn 5 r14 Hc15) Tryz.call213 rfl rfl rfl [] [] rfl rfl (g0 rfl) rfl rfl ?_
  rintro _ _ _ ⟨rfl, rfl, rfl⟩
  dsimp only [app]
  refine ac 8 (by kernel_rfl) (sl_cons (hG 0 rfl) (sl_cons (hG 3 rfl) (sl_end (by kernel_rfl) sl_nil))) ?_
  refine k_buildSlice (f := Ei) ([r12, r14] : List Int) rfl rfl rfl rfl Tryz.runUnderlying251 Tryz.sizeOf31 Tryz.zeroValue31 rfl rfl (fill_all rfl rfl (by simp) rfl rfl) (g0 rfl) rfl rfl ?_
  intro b16
  refine ac 9 (by kernel_rfl) (sl_cons (hG 0 rfl) (sl_cons (hG 3 rfl) (sl_end (by kernel_rfl) sl_nil))) ?_
  obtain ⟨r17, Hc18, H⟩ := bind_some' H
  refine k_call (c_update_one x10 ([r12, r14] : List Int) (some ⟨b16, 0, none⟩) 2 r17 Hc18) Tryz.call212 rfl rfl rfl [0] [] rfl rfl (g0 rfl) rfl rfl ?_
  rintro _ _ _ ⟨rfl, rfl, rfl⟩
  dsimp only [app]
  refine ac 10 (by kernel_rfl) (sl_end (by kernel_rfl) (sl_cons (hG 3 rfl) (sl_end (by kernel_rfl) sl_nil))) ?_
  refine k_st (j := 0) rfl rfl rfl rfl (vs := ChangeS.cells r17) rfl (sz (ChangeS.len _) Tryz.sizeOf170) (ChangeS.sc _) 1 rfl (spl_all ((ChangeS.len _).trans (ChangeS.len _).symm)) rfl (g0 rfl) rfl ?_
  refine a_done (by kernel_rfl) (sl_end (by kernel_rfl) (sl_end (by kernel_rfl) (sl_end (by kernel_rfl) sl_nil))) ?_
  refine q_then ?_
  refine s_ret ?_
  cases H
  exact q_end (rs_1 Tryz.results179 (rv_cell (j := 0) rfl (hG 1 rfl) Tryz.isAgg170 (sz (ChangeS.len _) Tryz.sizeOf170) (sub_all _) rfl)) ⟨rfl, rfl, rfl⟩ [] rfl 1 rfl [] rfl 4 rfl

def update_boot (a0_m : MetaS) (a1_f : FactS) : Option ChangeS :=
bnd (a0_m.Phase != 3) fun b5 =>
jn (fun x8 =>
bif x8 then (
some (⟨a0_m, (⟨0, a0_m.Active, 0⟩ : RespS)⟩ : ChangeS)) else (
bif (a0_m.Trials == 0) then (
(update_idle a0_m).bind fun r11 =>
(update_alone r11).bind fun r13 =>
some ({ ((⟨a0_m, (⟨0, a0_m.Active, 0⟩ : RespS)⟩ : ChangeS) : ChangeS) with m := r13 })) else (
bnd ({ ((⟨a0_m, (⟨0, a0_m.Active, 0⟩ : RespS)⟩ : ChangeS) : ChangeS) with m := { ((⟨a0_m, (⟨0, a0_m.Active, 0⟩ : RespS)⟩ : ChangeS).m : MetaS) with Trials := (wrap64 (((⟨a0_m, (⟨0, a0_m.Active, 0⟩ : RespS)⟩ : ChangeS).m).Trials - 1)) } }) fun x15 =>
(meta_Other a0_m).bind fun r17 =>
some ({ (x15 : ChangeS) with r := { (x15.r : RespS) with N := r17 } })))) fun J7 =>
bif b5 then (
J7 true) else
J7 a1_f.Worn

theorem c_update_boot (a0_m : MetaS) (a1_f : FactS) (r : ChangeS) (H : update_boot a0_m a1_f = some r) : Fn Tryz.prog 180 [(.agg (MetaS.cells a0_m).toArray), (.agg (FactS.cells a1_f).toArray)] [] [] (fun v D' G' => v = (.agg (ChangeS.cells r).toArray) ∧ D' = [] ∧ G' = []) := by
  unfold update_boot at H
  refine fn_of Tryz.func180 rfl Tryz.ntmps180 rfl ?_
  intro w0 D0 G0
  dsimp only [app, initEnv, Nat.zero_add, Nat.reduceAdd]
  refine s_seq ?_
  refine s_reg [0, 1, 2] rfl ?_
  refine oc (k_box rfl rfl rfl (cs := MetaS.cells a0_m) rfl (g0 rfl) rfl rfl ?_)
  intro b1
  refine oc (k_box rfl rfl rfl (cs := FactS.cells a1_f) rfl (g0 rfl) rfl rfl ?_)
  intro b2
  refine oc (k_alloc rfl rfl Tryz.zeroValue170 (cs := ChangeS.cells ChangeS.zero) rfl (g0 rfl) rfl rfl ?_)
  intro b3
  refine o_nil ?_
  refine q_then ?_
  refine s_seq ?_
  refine s_reg [0, 1, 2, 3, 4, 5, 6] rfl ?_
  refine o_ld (hG 2 rfl) rfl (ev_ldN (j := 0) rfl rfl Tryz.isAgg52 (sz (MetaS.len _) Tryz.sizeOf52) (sub_all _) rfl) (g0 rfl) rfl rfl ?_
  refine o_run ft [1] rfl rfl ?_
  refine o_ld (hG 2 rfl) rfl (ev_ld1 (j := 0) rfl rfl Tryz.isAgg3 (MetaS.sub_Active _) rfl) (g0 rfl) rfl rfl ?_
  refine o_pu rfl (ev_build (cs := RespS.cells (⟨0, a0_m.Active, 0⟩ : RespS)) rfl rfl Tryz.zeroValue40 Tryz.runUnderlying40 pl40 (show Instr.fill _ (RespS.cells RespS.zero : List Value).toArray _ = some _ from (fill_cons rfl (s := [vi a0_m.Active]) rfl rfl (RespS.set_N _ a0_m.Active) fill_nil))) (g0 rfl) rfl rfl ?_
  refine o_pu rfl (ev_build (cs := ChangeS.cells (⟨a0_m, (⟨0, a0_m.Active, 0⟩ : RespS)⟩ : ChangeS)) rfl rfl Tryz.zeroValue170 Tryz.runUnderlying170 pl170 (show Instr.fill _ (ChangeS.cells ChangeS.zero : List Value).toArray _ = some _ from (fill_cons rfl (s := MetaS.cells a0_m) rfl (MetaS.len _) (ChangeS.set_m _ a0_m) (fill_cons rfl (s := RespS.cells (⟨0, a0_m.Active, 0⟩ : RespS)) rfl (RespS.len _) (ChangeS.set_r _ (⟨0, a0_m.Active, 0⟩ : RespS)) fill_nil)))) (g0 rfl) rfl rfl ?_
  refine oc (k_alloc rfl rfl Tryz.zeroValue170 (cs := ChangeS.cells ChangeS.zero) rfl (g0 rfl) rfl rfl ?_)
  intro b4
  refine oc (k_st (j := 0) rfl rfl rfl rfl (vs := ChangeS.cells (⟨a0_m, (⟨0, a0_m.Active, 0⟩ : RespS)⟩ : ChangeS)) rfl (sz (ChangeS.len _) Tryz.sizeOf170) (ChangeS.sc _) 0 rfl (spl_all ((ChangeS.len _).trans (ChangeS.len _).symm)) rfl (g0 rfl) rfl ?_)
  refine o_nil ?_
  refine q_then ?_
  refine s_seq ?_
  refine s_seq ?_
  refine s_reg [0, 1, 2, 3, 4, 5, 6] rfl ?_
  refine o_run ft [0] rfl rfl ?_
  refine o_ld (hG 3 rfl) rfl (ev_ld1 (j := 70) rfl rfl Tryz.isAgg3 (MetaS.sub_Phase _) rfl) (g0 rfl) rfl rfl ?_
  refine o_run ft [2, 3] rfl rfl ?_
  refine k_name 14 rfl ?_
  intro b5 hb6
  have H := bnd_eq H hb6
  refine o_jb 17 [] [0, 1, 2, 3, 4, 5, 6, 7, 8, 9, 10, 11, 12, 13, 14] H rfl ?_ ?_
  · intro x8 H
    refine o_nil ?_
    refine q_then ?_
    refine s_cond rfl ?_ ?_
    · intro hb9
      have H := cnd_t H hb9
      refine s_seq ?_
      refine s_reg [0, 1] rfl ?_
      refine o_ld (hG 0 rfl) rfl (ev_ldN (j := 0) rfl rfl Tryz.isAgg170 (sz (ChangeS.len _) Tryz.sizeOf170) (sub_all _) rfl) (g0 rfl) rfl rfl ?_
      refine oc (k_st (j := 0) rfl rfl rfl rfl (vs := ChangeS.cells (⟨a0_m, (⟨0, a0_m.Active, 0⟩ : RespS)⟩ : ChangeS)) rfl (sz (ChangeS.len _) Tryz.sizeOf170) (ChangeS.sc _) 1 rfl (spl_all ((ChangeS.len _).trans (ChangeS.len _).symm)) rfl (g0 rfl) rfl ?_)
      refine o_nil ?_
      refine q_then ?_
      refine s_ret ?_
      refine q_then_r ?_
      cases H
      exact q_end (rs_1 Tryz.results180 (rv_cell (j := 0) rfl (hG 1 rfl) Tryz.isAgg170 (sz (ChangeS.len _) Tryz.sizeOf170) (sub_all _) rfl)) ⟨rfl, rfl, rfl⟩ [] rfl 0 rfl [] rfl 4 rfl
    · intro hb9
      have H := cnd_f H hb9
      refine s_skip ?_
      refine q_then ?_
      refine s_seq ?_
      refine s_seq ?_
      refine s_reg [0, 1, 2] rfl ?_
      refine o_run ft [0] rfl rfl ?_
      refine o_ld (hG 3 rfl) rfl (ev_ld1 (j := 106) rfl rfl Tryz.isAgg3 (MetaS.sub_Trials _) rfl) (g0 rfl) rfl rfl ?_
      refine o_run ft [2] rfl rfl ?_
      refine o_nil ?_
      refine q_then ?_
      refine s_cond rfl ?_ ?_
      · intro hb10
        have H := cnd_t H hb10
        refine s_seq ?_
        refine s_reg [0, 1, 2, 3, 4] rfl ?_
        refine o_ld (hG 3 rfl) rfl (ev_ldN (j := 0) rfl rfl Tryz.isAgg52 (sz (MetaS.len _) Tryz.sizeOf52) (sub_all _) rfl) (g0 rfl) rfl rfl ?_
        obtain ⟨r11, Hc12, H⟩ := bind_some' H
        refine oc (k_call (c_update_idle a0_m r11 Hc12) Tryz.call215 rfl rfl rfl [] [] rfl rfl (g0 rfl) rfl rfl ?_)
        rintro _ _ _ ⟨rfl, rfl, rfl⟩
        dsimp only [app]
        obtain ⟨r13, Hc14, H⟩ := bind_some' H
        refine oc (k_call (c_update_alone r11 r13 Hc14) Tryz.call211 rfl rfl rfl [] [] rfl rfl (g0 rfl) rfl rfl ?_)
        rintro _ _ _ ⟨rfl, rfl, rfl⟩
        dsimp only [app]
        refine o_run ft [3] rfl rfl ?_
        refine oc (k_st (j := 0) rfl rfl rfl rfl (vs := MetaS.cells r13) rfl (sz (MetaS.len _) Tryz.sizeOf52) (MetaS.sc _) 0 rfl (ChangeS.set_m _ r13) rfl (g0 rfl) rfl ?_)
        refine o_nil ?_
        refine q_then ?_
        refine s_seq ?_
        refine s_reg [0, 1] rfl ?_
        refine o_ld (hG 0 rfl) rfl (ev_ldN (j := 0) rfl rfl Tryz.isAgg170 (sz (ChangeS.len _) Tryz.sizeOf170) (sub_all _) rfl) (g0 rfl) rfl rfl ?_
        refine oc (k_st (j := 0) rfl rfl rfl rfl (vs := ChangeS.cells ({ ((⟨a0_m, (⟨0, a0_m.Active, 0⟩ : RespS)⟩ : ChangeS) : ChangeS) with m := r13 })) rfl (sz (ChangeS.len _) Tryz.sizeOf170) (ChangeS.sc _) 1 rfl (spl_all ((ChangeS.len _).trans (ChangeS.len _).symm)) rfl (g0 rfl) rfl ?_)
        refine o_nil ?_
        refine q_then ?_
        refine s_ret ?_
        refine q_then_r ?_
        cases H
        exact q_end (rs_1 Tryz.results180 (rv_cell (j := 0) rfl (hG 1 rfl) Tryz.isAgg170 (sz (ChangeS.len _) Tryz.sizeOf170) (sub_all _) rfl)) ⟨rfl, rfl, rfl⟩ [] rfl 0 rfl [] rfl 4 rfl
      · intro hb10
        have H := cnd_f H hb10
        refine s_skip ?_
        refine q_then ?_
        refine s_seq ?_
        refine s_reg [0, 1, 2, 3, 4, 5, 6] rfl ?_
        refine o_run ft [0, 1] rfl rfl ?_
        refine o_ld (hG 0 rfl) rfl (ev_ld1 (j := 106) rfl rfl Tryz.isAgg3 (sub_sub (ChangeS.sub_m _) (MetaS.sub_Trials _) rfl) rfl) (g0 rfl) rfl rfl ?_
        refine o_run ft [3, 4, 5] rfl rfl ?_
        refine oc (k_st (j := 106) rfl rfl rfl rfl (vs := [vi (wrap64 (((⟨a0_m, (⟨0, a0_m.Active, 0⟩ : RespS)⟩ : ChangeS).m).Trials - 1))]) rfl (sz rfl Tryz.sizeOf3) rfl 0 rfl (spl_in (ChangeS.sub_m _) (MetaS.set_Trials _ (wrap64 (((⟨a0_m, (⟨0, a0_m.Active, 0⟩ : RespS)⟩ : ChangeS).m).Trials - 1))) (ChangeS.set_m _ _) rfl) rfl (g0 rfl) rfl ?_)
        obtain ⟨x15, hx16⟩ : ∃ x, x = ({ ((⟨a0_m, (⟨0, a0_m.Active, 0⟩ : RespS)⟩ : ChangeS) : ChangeS) with m := { ((⟨a0_m, (⟨0, a0_m.Active, 0⟩ : RespS)⟩ : ChangeS).m : MetaS) with Trials := (wrap64 (((⟨a0_m, (⟨0, a0_m.Active, 0⟩ : RespS)⟩ : ChangeS).m).Trials - 1)) } }) := ⟨_, rfl⟩
        have H := bnd_eq H hx16
        refine k_tok 0 (A' := At b4 0 (ChangeS.cells x15)) rfl (by rw [hx16]) ?_
        refine o_nil ?_
        refine q_then ?_
        refine s_seq ?_
        refine s_reg [0, 1, 2, 3, 4] rfl ?_
        refine o_ld (hG 3 rfl) rfl (ev_ldN (j := 0) rfl rfl Tryz.isAgg52 (sz (MetaS.len _) Tryz.sizeOf52) (sub_all _) rfl) (g0 rfl) rfl rfl ?_
        obtain ⟨r17, Hc18, H⟩ := bind_some' H
        refine oc (k_call (c_meta_Other a0_m r17 Hc18) Tryz.call115 rfl rfl rfl [] [] rfl rfl (g0 rfl) rfl rfl ?_)
        rintro _ _ _ ⟨rfl, rfl, rfl⟩
        dsimp only [app]
        refine o_run ft [2, 3] rfl rfl ?_
        refine oc (k_st (j := 108) rfl rfl rfl rfl (vs := [vi r17]) rfl (sz rfl Tryz.sizeOf3) rfl 0 rfl (spl_in (ChangeS.sub_r _) (RespS.set_N _ r17) (ChangeS.set_r _ _) rfl) rfl (g0 rfl) rfl ?_)
        refine o_nil ?_
        refine q_then ?_
        refine s_seq ?_
        refine s_reg [0, 1] rfl ?_
        refine o_ld (hG 0 rfl) rfl (ev_ldN (j := 0) rfl rfl Tryz.isAgg170 (sz (ChangeS.len _) Tryz.sizeOf170) (sub_all _) rfl) (g0 rfl) rfl rfl ?_
        refine oc (k_st (j := 0) rfl rfl rfl rfl (vs := ChangeS.cells ({ (x15 : ChangeS) with r := { (x15.r : RespS) with N := r17 } })) rfl (sz (ChangeS.len _) Tryz.sizeOf170) (ChangeS.sc _) 1 rfl (spl_all ((ChangeS.len _).trans (ChangeS.len _).symm)) rfl (g0 rfl) rfl ?_)
        refine o_nil ?_
        refine q_then ?_
        refine s_ret ?_
        cases H
        exact q_end (rs_1 Tryz.results180 (rv_cell (j := 0) rfl (hG 1 rfl) Tryz.isAgg170 (sz (ChangeS.len _) Tryz.sizeOf170) (sub_all _) rfl)) ⟨rfl, rfl, rfl⟩ [] rfl 0 rfl [] rfl 4 rfl
  · intro J7 J7h H
    cases b5 with
    | true =>
      rw [cond_true] at H
      refine o_gnot rfl rfl rfl rfl rfl rfl rfl rfl ?_
      refine o_gnot rfl rfl rfl rfl rfl rfl rfl rfl ?_
      refine o_run ft [6] rfl rfl ?_
      exact k_wk (J7h true H) [17, 0, 1, 2, 3, 4, 5, 6, 7, 8, 9, 10, 11, 12, 13, 14] [] 0 [0, 0, 0, 0] 0 rfl rfl rfl
    | false =>
      rw [cond_false] at H
      refine o_run ft [4] rfl rfl ?_
      refine o_ld (hG 2 rfl) rfl (ev_ld1 (j := 34) rfl rfl Tryz.isAgg4 (FactS.sub_Worn _) rfl) (g1 rfl rfl rfl rfl) rfl rfl ?_
      refine o_run ft [6] rfl rfl ?_
      exact k_wk (J7h a1_f.Worn H) [17, 0, 1, 2, 3, 4, 5, 6, 7, 8, 9, 10, 11, 12, 13, 14] [] 0 [0, 0, 0, 0] 0 rfl rfl rfl

def update_confirm (a0_m : MetaS) (a1_f : FactS) : Option ChangeS :=
(update_idle a0_m).bind fun r4 =>
(version_Confirm a0_m).bind fun r7 =>
(meta_Other a0_m).bind fun r9 =>
jn (fun (x12 : ChangeS) =>
some x12) fun J11 =>
bnd (a0_m.Phase != 3) fun b14 =>
bif b14 then (
(update_when (true : Bool) (11 : Int)).bind fun r16 =>
(update_when a1_f.Worn (5 : Int)).bind fun r18 =>
(update_one ({ ({ (r4 : MetaS) with Min := r7 } : MetaS) with Active := r9 }) ([r16, r18] : List Int)).bind fun r21 =>
J11 r21) else (
(update_when (a0_m.Trials == 2) (11 : Int)).bind fun r23 =>
(update_when a1_f.Worn (5 : Int)).bind fun r25 =>
(update_one ({ ({ (r4 : MetaS) with Min := r7 } : MetaS) with Active := r9 }) ([r23, r25] : List Int)).bind fun r28 =>
J11 r28)

theorem c_update_confirm (a0_m : MetaS) (a1_f : FactS) (r : ChangeS) (H : update_confirm a0_m a1_f = some r) : Fn Tryz.prog 181 [(.agg (MetaS.cells a0_m).toArray), (.agg (FactS.cells a1_f).toArray)] [] [] (fun v D' G' => v = (.agg (ChangeS.cells r).toArray) ∧ D' = [] ∧ G' = []) := by
  unfold update_confirm at H
  refine fn_of Tryz.func181 rfl Tryz.ntmps181 rfl ?_
  intro w0 D0 G0
  dsimp only [app, initEnv, Nat.zero_add, Nat.reduceAdd]
  refine s_seq ?_
  refine s_reg [0, 1, 2] rfl ?_
  refine oc (k_box rfl rfl rfl (cs := MetaS.cells a0_m) rfl (g0 rfl) rfl rfl ?_)
  intro b1
  refine oc (k_box rfl rfl rfl (cs := FactS.cells a1_f) rfl (g0 rfl) rfl rfl ?_)
  intro b2
  refine oc (k_alloc rfl rfl Tryz.zeroValue170 (cs := ChangeS.cells ChangeS.zero) rfl (g0 rfl) rfl rfl ?_)
  intro b3
  refine o_nil ?_
  refine q_then ?_
  refine s_seq ?_
  refine s_reg [0, 1, 2, 3] rfl ?_
  refine o_ld (hG 2 rfl) rfl (ev_ldN (j := 0) rfl rfl Tryz.isAgg52 (sz (MetaS.len _) Tryz.sizeOf52) (sub_all _) rfl) (g0 rfl) rfl rfl ?_
  obtain ⟨r4, Hc5, H⟩ := bind_some' H
  refine oc (k_call (c_update_idle a0_m r4 Hc5) Tryz.call215 rfl rfl rfl [] [] rfl rfl (g0 rfl) rfl rfl ?_)
  rintro _ _ _ ⟨rfl, rfl, rfl⟩
  dsimp only [app]
  refine oc (k_alloc rfl rfl Tryz.zeroValue52 (cs := MetaS.cells MetaS.zero) rfl (g0 rfl) rfl rfl ?_)
  intro b6
  refine oc (k_st (j := 0) rfl rfl rfl rfl (vs := MetaS.cells r4) rfl (sz (MetaS.len _) Tryz.sizeOf52) (MetaS.sc _) 0 rfl (spl_all ((MetaS.len _).trans (MetaS.len _).symm)) rfl (g0 rfl) rfl ?_)
  refine o_nil ?_
  refine q_then ?_
  refine s_seq ?_
  refine s_draw mixed [(0, [1, 5, 7], Has b1 0 (MetaS.cells a0_m)), (2, [3, 7], Has b1 0 (MetaS.cells a0_m))] ?_
  refine a_l1 0 0 rfl (by kernel_rfl) rfl (ev_ldN (j := 0) rfl rfl Tryz.isAgg52 (sz (MetaS.len _) Tryz.sizeOf52) (sub_all _) rfl) (fun _ _ _ h => h) (g0 rfl) rfl rfl ?_
  refine a_l1 2 1 rfl (by kernel_rfl) rfl (ev_ldN (j := 0) rfl rfl Tryz.isAgg52 (sz (MetaS.len _) Tryz.sizeOf52) (sub_all _) rfl) (fun _ _ _ h => h) (g0 rfl) rfl rfl ?_
  refine ac 1 (by kernel_rfl) (sl_cons (hG 3 rfl) (sl_cons (hG 3 rfl) sl_nil)) ?_
  obtain ⟨r7, Hc8, H⟩ := bind_some' H
  refine k_call (c_version_Confirm a0_m r7 Hc8) Tryz.call216 rfl rfl rfl [] [] rfl rfl (g0 rfl) rfl rfl ?_
  rintro _ _ _ ⟨rfl, rfl, rfl⟩
  dsimp only [app]
  refine a_run ft [4] rfl (fun _ _ _ _ _ h => h) (by kernel_rfl) rfl ?_
  refine ac 3 (by kernel_rfl) (sl_end (by kernel_rfl) (sl_cons (hG 3 rfl) sl_nil)) ?_
  obtain ⟨r9, Hc10, H⟩ := bind_some' H
  refine k_call (c_meta_Other a0_m r9 Hc10) Tryz.call115 rfl rfl rfl [] [] rfl rfl (g0 rfl) rfl rfl ?_
  rintro _ _ _ ⟨rfl, rfl, rfl⟩
  dsimp only [app]
  refine ac 5 (by kernel_rfl) (sl_end (by kernel_rfl) (sl_end (by kernel_rfl) sl_nil)) ?_
  refine k_st (j := 69) rfl rfl rfl rfl (vs := [vi r7]) rfl (sz rfl Tryz.sizeOf3) rfl 0 rfl (MetaS.set_Min _ r7) rfl (g0 rfl) rfl ?_
  refine a_run ft [6] rfl (fun _ _ _ _ _ h => h) (by kernel_rfl) rfl ?_
  refine ac 7 (by kernel_rfl) (sl_end (by kernel_rfl) (sl_end (by kernel_rfl) sl_nil)) ?_
  refine k_st (j := 0) rfl rfl rfl rfl (vs := [vi r9]) rfl (sz rfl Tryz.sizeOf3) rfl 0 rfl (MetaS.set_Active _ r9) rfl (g0 rfl) rfl ?_
  refine a_done (by kernel_rfl) (sl_end (by kernel_rfl) (sl_end (by kernel_rfl) sl_nil)) ?_
  refine q_then ?_
  refine s_seq ?_
  refine q_join (fun (x12 : ChangeS) (y13 : Unit) => ⟨D0, At b6 0 (MetaS.cells ({ ({ (r4 : MetaS) with Min := r7 } : MetaS) with Active := r9 })) :: At b3 0 (ChangeS.cells x12) :: At b2 0 (FactS.cells a1_f) :: At b1 0 (MetaS.cells a0_m) :: G0, [(4, (.pointer (some ⟨b3, 0, none⟩)))]⟩) H ?_ ?_
  · intro x12 y13 H
    dsimp only
    refine q_then ?_
    refine s_ret ?_
    cases H
    exact q_end (rs_1 Tryz.results181 (rv_cell (j := 0) rfl (hG 1 rfl) Tryz.isAgg170 (sz (ChangeS.len _) Tryz.sizeOf170) (sub_all _) rfl)) ⟨rfl, rfl, rfl⟩ [] rfl 0 rfl [] rfl 4 rfl
  · intro J11 J11h H
    refine s_draw mixed [(0, [14, 15], Has b6 0 (MetaS.cells ({ ({ (r4 : MetaS) with Min := r7 } : MetaS) with Active := r9 }))), (2, [15], Has b1 0 (MetaS.cells a0_m)), (6, [15], Has b1 0 (MetaS.cells a0_m)), (11, [12, 15], Has b2 0 (FactS.cells a1_f))] ?_
    refine a_l1 0 0 rfl (by kernel_rfl) rfl (ev_ldN (j := 0) rfl rfl Tryz.isAgg52 (sz (MetaS.len _) Tryz.sizeOf52) (sub_all _) rfl) (fun _ _ _ h => h) (g0 rfl) rfl rfl ?_
    refine a_run ft [1] rfl (fun _ _ _ _ _ h => h) (by kernel_rfl) rfl ?_
    refine a_l1 2 1 rfl (by kernel_rfl) rfl (ev_ld1 (j := 70) rfl rfl Tryz.isAgg3 (MetaS.sub_Phase _) rfl) (fun _ _ _ h => h) (g0 rfl) rfl rfl ?_
    refine a_run ft [3, 4] rfl (fun _ _ _ _ _ h => h) (by kernel_rfl) rfl ?_
    refine k_name 18 rfl ?_
    intro b14 hb15
    have H := bnd_eq H hb15
    cases b14 with
    | true =>
      rw [cond_true] at H
      refine a_run ft [5, 6, 7, 8, 10] rfl (fun _ _ _ _ _ h => h) (by kernel_rfl) rfl ?_
      refine a_l1 11 3 rfl (by kernel_rfl) rfl (ev_ld1 (j := 34) rfl rfl Tryz.isAgg4 (FactS.sub_Worn _) rfl) (fun _ _ _ h => h) (g0 rfl) rfl rfl ?_
      refine ac 9 (by kernel_rfl) (sl_cons (hG 0 rfl) (sl_cons (hG 3 rfl) (sl_cons (hG 3 rfl) (sl_cons (hG 2 rfl) sl_nil)))) ?_
      obtain ⟨r16, Hc17, H⟩ := bind_some' H
      refine k_call (c_update_when true 11 r16 Hc17) Tryz.call213 rfl rfl rfl [] [] rfl rfl (g0 rfl) rfl rfl ?_
      rintro _ _ _ ⟨rfl, rfl, rfl⟩
      dsimp only [app]
      refine ac 12 (by kernel_rfl) (sl_cons (hG 0 rfl) (sl_cons (hG 3 rfl) (sl_cons (hG 3 rfl) (sl_cons (hG 2 rfl) sl_nil)))) ?_
      obtain ⟨r18, Hc19, H⟩ := bind_some' H
      refine k_call (c_update_when a1_f.Worn 5 r18 Hc19) Tryz.call213 rfl rfl rfl [] [] rfl rfl (g0 rfl) rfl rfl ?_
      rintro _ _ _ ⟨rfl, rfl, rfl⟩
      dsimp only [app]
      refine ac 13 (by kernel_rfl) (sl_cons (hG 0 rfl) (sl_cons (hG 3 rfl) (sl_cons (hG 3 rfl) (sl_end (by kernel_rfl) sl_nil)))) ?_
      refine k_buildSlice (f := Ei) ([r16, r18] : List Int) rfl rfl rfl rfl Tryz.runUnderlying251 Tryz.sizeOf31 Tryz.zeroValue31 rfl rfl (fill_all rfl rfl (by simp) rfl rfl) (g0 rfl) rfl rfl ?_
      intro b20
      refine ac 14 (by kernel_rfl) (sl_cons (hG 0 rfl) (sl_cons (hG 3 rfl) (sl_cons (hG 3 rfl) (sl_end (by kernel_rfl) sl_nil)))) ?_
      obtain ⟨r21, Hc22, H⟩ := bind_some' H
      refine k_call (c_update_one ({ ({ (r4 : MetaS) with Min := r7 } : MetaS) with Active := r9 }) ([r16, r18] : List Int) (some ⟨b20, 0, none⟩) 2 r21 Hc22) Tryz.call212 rfl rfl rfl [0] [] rfl rfl (g0 rfl) rfl rfl ?_
      rintro _ _ _ ⟨rfl, rfl, rfl⟩
      dsimp only [app]
      refine ac 15 (by kernel_rfl) (sl_end (by kernel_rfl) (sl_cons (hG 3 rfl) (sl_cons (hG 3 rfl) (sl_end (by kernel_rfl) sl_nil)))) ?_
      refine k_st (j := 0) rfl rfl rfl rfl (vs := ChangeS.cells r21) rfl (sz (ChangeS.len _) Tryz.sizeOf170) (ChangeS.sc _) 1 rfl (spl_all ((ChangeS.len _).trans (ChangeS.len _).symm)) rfl (g0 rfl) rfl ?_
      refine a_done (by kernel_rfl) (sl_end (by kernel_rfl) (sl_end (by kernel_rfl) (sl_end (by kernel_rfl) (sl_end (by kernel_rfl) sl_nil)))) ?_
      exact k_wk (J11h r21 () H) [4] [] 1 [0, 0, 0, 0] 0 rfl rfl rfl
    | false =>
      rw [cond_false] at H
      refine a_run ft [5] rfl (fun _ _ _ _ _ h => h) (by kernel_rfl) rfl ?_
      refine a_l1 6 2 rfl (by kernel_rfl) rfl (ev_ld1 (j := 106) rfl rfl Tryz.isAgg3 (MetaS.sub_Trials _) rfl) (fun _ _ _ h => h) (g1 rfl rfl rfl rfl) rfl rfl ?_
      refine a_run ft [7, 8, 10] rfl (fun _ _ _ _ _ h => h) (by kernel_rfl) rfl ?_
      refine a_l1 11 3 rfl (by kernel_rfl) rfl (ev_ld1 (j := 34) rfl rfl Tryz.isAgg4 (FactS.sub_Worn _) rfl) (fun _ _ _ h => h) (g0 rfl) rfl rfl ?_
      refine ac 9 (by kernel_rfl) (sl_cons (hG 0 rfl) (sl_cons (hG 3 rfl) (sl_cons (hG 3 rfl) (sl_cons (hG 2 rfl) sl_nil)))) ?_
      obtain ⟨r23, Hc24, H⟩ := bind_some' H
      refine k_call (c_update_when (a0_m.Trials == 2) 11 r23 Hc24) Tryz.call213 rfl rfl rfl [] [] rfl rfl (g0 rfl) rfl rfl ?_
      rintro _ _ _ ⟨rfl, rfl, rfl⟩
      dsimp only [app]
      refine ac 12 (by kernel_rfl) (sl_cons (hG 0 rfl) (sl_cons (hG 3 rfl) (sl_cons (hG 3 rfl) (sl_cons (hG 2 rfl) sl_nil)))) ?_
      obtain ⟨r25, Hc26, H⟩ := bind_some' H
      refine k_call (c_update_when a1_f.Worn 5 r25 Hc26) Tryz.call213 rfl rfl rfl [] [] rfl rfl (g0 rfl) rfl rfl ?_
      rintro _ _ _ ⟨rfl, rfl, rfl⟩
      dsimp only [app]
      refine ac 13 (by kernel_rfl) (sl_cons (hG 0 rfl) (sl_cons (hG 3 rfl) (sl_cons (hG 3 rfl) (sl_end (by kernel_rfl) sl_nil)))) ?_
      refine k_buildSlice (f := Ei) ([r23, r25] : List Int) rfl rfl rfl rfl Tryz.runUnderlying251 Tryz.sizeOf31 Tryz.zeroValue31 rfl rfl (fill_all rfl rfl (by simp) rfl rfl) (g0 rfl) rfl rfl ?_
      intro b27
      refine ac 14 (by kernel_rfl) (sl_cons (hG 0 rfl) (sl_cons (hG 3 rfl) (sl_cons (hG 3 rfl) (sl_end (by kernel_rfl) sl_nil)))) ?_
      obtain ⟨r28, Hc29, H⟩ := bind_some' H
      refine k_call (c_update_one ({ ({ (r4 : MetaS) with Min := r7 } : MetaS) with Active := r9 }) ([r23, r25] : List Int) (some ⟨b27, 0, none⟩) 2 r28 Hc29) Tryz.call212 rfl rfl rfl [0] [] rfl rfl (g0 rfl) rfl rfl ?_
      rintro _ _ _ ⟨rfl, rfl, rfl⟩
      dsimp only [app]
      refine ac 15 (by kernel_rfl) (sl_end (by kernel_rfl) (sl_cons (hG 3 rfl) (sl_cons (hG 3 rfl) (sl_end (by kernel_rfl) sl_nil)))) ?_
      refine k_st (j := 0) rfl rfl rfl rfl (vs := ChangeS.cells r28) rfl (sz (ChangeS.len _) Tryz.sizeOf170) (ChangeS.sc _) 1 rfl (spl_all ((ChangeS.len _).trans (ChangeS.len _).symm)) rfl (g0 rfl) rfl ?_
      refine a_done (by kernel_rfl) (sl_end (by kernel_rfl) (sl_end (by kernel_rfl) (sl_end (by kernel_rfl) (sl_end (by kernel_rfl) sl_nil)))) ?_
      exact k_wk (J11h r28 () H) [4] [] 1 [0, 0, 0, 0] 0 rfl rfl rfl

def update_rollback (a0_m : MetaS) (a1_f : FactS) : Option ChangeS :=
(update_idle a0_m).bind fun r4 =>
(update_alone r4).bind fun r6 =>
(update_when (a0_m.Phase != 3) (11 : Int)).bind fun r8 =>
(update_when a1_f.Worn (5 : Int)).bind fun r10 =>
(update_one r6 ([r8, r10] : List Int)).bind fun r13 =>
some r13

theorem c_update_rollback (a0_m : MetaS) (a1_f : FactS) (r : ChangeS) (H : update_rollback a0_m a1_f = some r) : Fn Tryz.prog 182 [(.agg (MetaS.cells a0_m).toArray), (.agg (FactS.cells a1_f).toArray)] [] [] (fun v D' G' => v = (.agg (ChangeS.cells r).toArray) ∧ D' = [] ∧ G' = []) := by
  unfold update_rollback at H
  refine fn_of Tryz.func182 rfl Tryz.ntmps182 rfl ?_
  intro w0 D0 G0
  dsimp only [app, initEnv, Nat.zero_add, Nat.reduceAdd]
  refine s_seq ?_
  refine s_reg [0, 1, 2] rfl ?_
  refine oc (k_box rfl rfl rfl (cs := MetaS.cells a0_m) rfl (g0 rfl) rfl rfl ?_)
  intro b1
  refine oc (k_box rfl rfl rfl (cs := FactS.cells a1_f) rfl (g0 rfl) rfl rfl ?_)
  intro b2
  refine oc (k_alloc rfl rfl Tryz.zeroValue170 (cs := ChangeS.cells ChangeS.zero) rfl (g0 rfl) rfl rfl ?_)
  intro b3
  refine o_nil ?_
  refine q_then ?_
  refine s_seq ?_
  refine s_draw mixed [(0, [1, 12], Has b1 0 (MetaS.cells a0_m)), (4, [12], Has b1 0 (MetaS.cells a0_m)), (8, [9, 12], Has b2 0 (FactS.cells a1_f))] ?_
  refine a_l1 0 0 rfl (by kernel_rfl) rfl (ev_ldN (j := 0) rfl rfl Tryz.isAgg52 (sz (MetaS.len _) Tryz.sizeOf52) (sub_all _) rfl) (fun _ _ _ h => h) (g0 rfl) rfl rfl ?_
  refine a_run ft [3] rfl (fun _ _ _ _ _ h => h) (by kernel_rfl) rfl ?_
  refine a_l1 4 1 rfl (by kernel_rfl) rfl (ev_ld1 (j := 70) rfl rfl Tryz.isAgg3 (MetaS.sub_Phase _) rfl) (fun _ _ _ h => h) (g0 rfl) rfl rfl ?_
  refine a_run ft [5, 7] rfl (fun _ _ _ _ _ h => h) (by kernel_rfl) rfl ?_
  refine a_l1 8 2 rfl (by kernel_rfl) rfl (ev_ld1 (j := 34) rfl rfl Tryz.isAgg4 (FactS.sub_Worn _) rfl) (fun _ _ _ h => h) (g0 rfl) rfl rfl ?_
  refine ac 1 (by kernel_rfl) (sl_cons (hG 2 rfl) (sl_cons (hG 2 rfl) (sl_cons (hG 1 rfl) sl_nil))) ?_
  obtain ⟨r4, Hc5, H⟩ := bind_some' H
  refine k_call (c_update_idle a0_m r4 Hc5) Tryz.call215 rfl rfl rfl [] [] rfl rfl (g0 rfl) rfl rfl ?_
  rintro _ _ _ ⟨rfl, rfl, rfl⟩
  dsimp only [app]
  refine ac 2 (by kernel_rfl) (sl_end (by kernel_rfl) (sl_cons (hG 2 rfl) (sl_cons (hG 1 rfl) sl_nil))) ?_
  obtain ⟨r6, Hc7, H⟩ := bind_some' H
  refine k_call (c_update_alone r4 r6 Hc7) Tryz.call211 rfl rfl rfl [] [] rfl rfl (g0 rfl) rfl rfl ?_
  rintro _ _ _ ⟨rfl, rfl, rfl⟩
  dsimp only [app]
  refine ac 6 (by kernel_rfl) (sl_end (by kernel_rfl) (sl_cons (hG 2 rfl) (sl_cons (hG 1 rfl) sl_nil))) ?_
  obtain ⟨r8, Hc9, H⟩ := bind_some' H
  refine k_call (c_update_when (a0_m.Phase != 3) 11 r8 Hc9) Tryz.call213 rfl rfl rfl [] [] rfl rfl (g0 rfl) rfl rfl ?_
  rintro _ _ _ ⟨rfl, rfl, rfl⟩
  dsimp only [app]
  refine ac 9 (by kernel_rfl) (sl_end (by kernel_rfl) (sl_cons (hG 2 rfl) (sl_cons (hG 1 rfl) sl_nil))) ?_
  obtain ⟨r10, Hc11, H⟩ := bind_some' H
  refine k_call (c_update_when a1_f.Worn 5 r10 Hc11) Tryz.call213 rfl rfl rfl [] [] rfl rfl (g0 rfl) rfl rfl ?_
  rintro _ _ _ ⟨rfl, rfl, rfl⟩
  dsimp only [app]
  refine ac 10 (by kernel_rfl) (sl_end (by kernel_rfl) (sl_cons (hG 2 rfl) (sl_end (by kernel_rfl) sl_nil))) ?_
  refine k_buildSlice (f := Ei) ([r8, r10] : List Int) rfl rfl rfl rfl Tryz.runUnderlying251 Tryz.sizeOf31 Tryz.zeroValue31 rfl rfl (fill_all rfl rfl (by simp) rfl rfl) (g0 rfl) rfl rfl ?_
  intro b12
  refine ac 11 (by kernel_rfl) (sl_end (by kernel_rfl) (sl_cons (hG 2 rfl) (sl_end (by kernel_rfl) sl_nil))) ?_
  obtain ⟨r13, Hc14, H⟩ := bind_some' H
  refine k_call (c_update_one r6 ([r8, r10] : List Int) (some ⟨b12, 0, none⟩) 2 r13 Hc14) Tryz.call212 rfl rfl rfl [0] [] rfl rfl (g0 rfl) rfl rfl ?_
  rintro _ _ _ ⟨rfl, rfl, rfl⟩
  dsimp only [app]
  refine ac 12 (by kernel_rfl) (sl_end (by kernel_rfl) (sl_cons (hG 2 rfl) (sl_end (by kernel_rfl) sl_nil))) ?_
  refine k_st (j := 0) rfl rfl rfl rfl (vs := ChangeS.cells r13) rfl (sz (ChangeS.len _) Tryz.sizeOf170) (ChangeS.sc _) 0 rfl (spl_all ((ChangeS.len _).trans (ChangeS.len _).symm)) rfl (g0 rfl) rfl ?_
  refine a_done (by kernel_rfl) (sl_end (by kernel_rfl) (sl_end (by kernel_rfl) (sl_end (by kernel_rfl) sl_nil))) ?_
  refine q_then ?_
  refine s_ret ?_
  cases H
  exact q_end (rs_1 Tryz.results182 (rv_cell (j := 0) rfl (hG 0 rfl) Tryz.isAgg170 (sz (ChangeS.len _) Tryz.sizeOf170) (sub_all _) rfl)) ⟨rfl, rfl, rfl⟩ [] rfl 1 rfl [] rfl 3 rfl

def tenant_Tenant_Meta_n0 : Option MetaS :=
some MetaS.zero

theorem c_tenant_Tenant_Meta_n0 (r : MetaS) (H : tenant_Tenant_Meta_n0  = some r) : Fn Tryz.prog 19 [(.pointer none)] [] [] (fun v D' G' => v = (.agg (MetaS.cells r).toArray) ∧ D' = [] ∧ G' = []) := by
  unfold tenant_Tenant_Meta_n0 at H
  refine fn_of Tryz.func19 rfl Tryz.ntmps19 rfl ?_
  intro w0 D0 G0
  dsimp only [app, initEnv, Nat.zero_add, Nat.reduceAdd]
  refine s_seq ?_
  refine s_reg [0] rfl ?_
  refine oc (k_alloc rfl rfl Tryz.zeroValue52 (cs := MetaS.cells MetaS.zero) rfl (g0 rfl) rfl rfl ?_)
  intro b1
  refine o_nil ?_
  refine q_then ?_
  refine s_seq ?_
  refine s_seq ?_
  refine s_reg [0, 1] rfl ?_
  refine o_run ft [0] rfl rfl ?_
  refine o_pu rfl (ev_bin rfl rfl rfl rfl (eql_ptr_nn Tryz.runUnderlying33)) (g0 rfl) rfl rfl ?_
  refine o_nil ?_
  refine q_then ?_
  refine s_cond_t rfl ?_
  refine s_seq ?_
  refine s_reg [0, 1] rfl ?_
  refine o_pu rfl (ev_build (cs := MetaS.cells MetaS.zero) rfl rfl Tryz.zeroValue52 Tryz.runUnderlying52 pl52 (show Instr.fill _ (MetaS.cells MetaS.zero : List Value).toArray _ = some _ from fill_nil)) (g0 rfl) rfl rfl ?_
  refine oc (k_st (j := 0) rfl rfl rfl rfl (vs := MetaS.cells MetaS.zero) rfl (sz (MetaS.len _) Tryz.sizeOf52) (MetaS.sc _) 0 rfl (spl_all ((MetaS.len _).trans (MetaS.len _).symm)) rfl (g0 rfl) rfl ?_)
  refine o_nil ?_
  refine q_then ?_
  refine s_ret ?_
  refine q_then_r ?_
  cases H
  exact q_end (rs_1 Tryz.results19 (rv_cell (j := 0) rfl (hG 0 rfl) Tryz.isAgg52 (sz (MetaS.len _) Tryz.sizeOf52) (sub_all _) rfl)) ⟨rfl, rfl, rfl⟩ [] rfl 0 rfl [] rfl 1 rfl

end Go.Proofs.YtpdoioeckiiegaaGreatDoor.Wl
