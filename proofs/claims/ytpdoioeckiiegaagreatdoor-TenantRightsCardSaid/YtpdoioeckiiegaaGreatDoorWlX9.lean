import Derived.Test.YtpdoioeckiiegaaGreatDoorWlW
import Derived.Test.YtpdoioeckiiegaaGreatDoorWlX0
import Derived.Test.YtpdoioeckiiegaaGreatDoorWlX1
import Derived.Test.YtpdoioeckiiegaaGreatDoorWlX2
import Derived.Test.YtpdoioeckiiegaaGreatDoorWlX3
import Derived.Test.YtpdoioeckiiegaaGreatDoorWlX4
import Derived.Test.YtpdoioeckiiegaaGreatDoorWlX7
import Derived.Test.YtpdoioeckiiegaaGreatDoorWlX8
set_option linter.unusedSimpArgs false
set_option linter.unusedVariables false
set_option maxRecDepth 10000
namespace Go.Proofs.YtpdoioeckiiegaaGreatDoor.Wl
open Go.RowKit Go.Proofs
def update_begin (a0_m : MetaS) (a1_q : Req) (a2_f : FactS) (a3_quota : Int) : Option ChangeS :=
(manifest_Read a1_q.Bytes).bind fun r7 =>
(update_alone a0_m).bind fun r12 =>
(update_when (a0_m.Phase != 0) (11 : Int)).bind fun r15 =>
(update_when (!a2_f.Name) (7 : Int)).bind fun r17 =>
(update_when (!a2_f.Tag) (8 : Int)).bind fun r19 =>
(version_May a0_m r7.1.Image.Version).bind fun r21 =>
(update_when (!r21) (9 : Int)).bind fun r23 =>
(update_Chunks r7.1.Image.Size).bind fun r25 =>
(update_when (decide (r25 > (if 6 < a3_quota then 6 else a3_quota))) (10 : Int)).bind fun r27 =>
(update_when a2_f.Worn (5 : Int)).bind fun r29 =>
(update_one ({ ({ (r12 : MetaS) with Phase := 1 } : MetaS) with Coming := r7.1.Image }) ([r15, r7.2.2, r17, r19, r23, r27, r29] : List Int)).bind fun r32 =>
some r32

theorem c_update_begin (a0_m : MetaS) (a1_q : Req) (A1 : Option Addr) (c2 : Nat) (a2_f : FactS) (a3_quota : Int) (r : ChangeS) (H : update_begin a0_m a1_q a2_f a3_quota = some r) : Fn Tryz.prog 176 [(.agg (MetaS.cells a0_m).toArray), (.agg ([vi a1_q.Kind, vi a1_q.N, .slice A1 a1_q.Bytes.length c2]).toArray), (.agg (FactS.cells a2_f).toArray), (vi a3_quota)] [Sl E8 A1 c2 a1_q.Bytes] [] (fun v D' G' => v = (.agg (ChangeS.cells r).toArray) ∧ D' = [] ∧ G' = []) := by
  unfold update_begin at H
  refine fn_of Tryz.func176 rfl Tryz.ntmps176 rfl ?_
  intro w0 D0 G0
  dsimp only [app, initEnv, Nat.zero_add, Nat.reduceAdd]
  refine s_seq ?_
  refine s_reg [0, 1, 2, 3] rfl ?_
  refine oc (k_box rfl rfl rfl (cs := MetaS.cells a0_m) rfl (g0 rfl) rfl rfl ?_)
  intro b3
  refine oc (k_box rfl rfl rfl (cs := [vi a1_q.Kind, vi a1_q.N, .slice A1 a1_q.Bytes.length c2]) rfl (g0 rfl) rfl rfl ?_)
  intro b4
  refine oc (k_box rfl rfl rfl (cs := FactS.cells a2_f) rfl (g0 rfl) rfl rfl ?_)
  intro b5
  refine oc (k_alloc rfl rfl Tryz.zeroValue170 (cs := ChangeS.cells ChangeS.zero) rfl (g0 rfl) rfl rfl ?_)
  intro b6
  refine o_nil ?_
  refine q_then ?_
  refine s_seq ?_
  refine s_reg [0, 1, 2, 3, 4, 5, 6, 7, 8, 9, 10] rfl ?_
  refine o_run ft [0] rfl rfl ?_
  refine o_ld (hG 2 rfl) rfl (ev_ld1 (j := 2) rfl rfl Tryz.isAgg22 (sub_nth (j := 2) rfl) rfl) (g0 rfl) rfl rfl ?_
  obtain ⟨r7, Hc8, H⟩ := bind_some' H
  refine oc (k_call (c_manifest_Read a1_q.Bytes A1 c2 r7 Hc8) Tryz.call116 rfl rfl rfl [0] [] rfl rfl (g0 rfl) rfl rfl ?_)
  rintro _ _ _ ⟨A9, c10, rfl, rfl, rfl⟩
  dsimp only [app]
  refine o_run ft [3, 4, 5, 6] rfl rfl ?_
  refine oc (k_alloc rfl rfl Tryz.zeroValue103 (cs := Mani.cells Mani.zero) rfl (g0 rfl) rfl rfl ?_)
  intro b11
  refine oc (k_st (j := 0) rfl rfl rfl rfl (vs := Mani.cells r7.1) rfl (sz (Mani.len _) Tryz.sizeOf103) (Mani.sc _) 0 rfl (spl_all ((Mani.len _).trans (Mani.len _).symm)) rfl (g0 rfl) rfl ?_)
  refine o_run ft [9, 10] rfl rfl ?_
  refine o_nil ?_
  refine q_then ?_
  refine s_seq ?_
  refine s_reg [0, 1, 2, 3] rfl ?_
  refine o_ld (hG 5 rfl) rfl (ev_ldN (j := 0) rfl rfl Tryz.isAgg52 (sz (MetaS.len _) Tryz.sizeOf52) (sub_all _) rfl) (g0 rfl) rfl rfl ?_
  obtain ⟨r12, Hc13, H⟩ := bind_some' H
  refine oc (k_call (c_update_alone a0_m r12 Hc13) Tryz.call211 rfl rfl rfl [] [] rfl rfl (g0 rfl) rfl rfl ?_)
  rintro _ _ _ ⟨rfl, rfl, rfl⟩
  dsimp only [app]
  refine oc (k_alloc rfl rfl Tryz.zeroValue52 (cs := MetaS.cells MetaS.zero) rfl (g0 rfl) rfl rfl ?_)
  intro b14
  refine oc (k_st (j := 0) rfl rfl rfl rfl (vs := MetaS.cells r12) rfl (sz (MetaS.len _) Tryz.sizeOf52) (MetaS.sc _) 0 rfl (spl_all ((MetaS.len _).trans (MetaS.len _).symm)) rfl (g0 rfl) rfl ?_)
  refine o_nil ?_
  refine q_then ?_
  refine s_seq ?_
  refine s_draw mixed [(1, [5], Has b11 0 (Mani.cells r7.1))] ?_
  refine a_run ft [0] rfl (fun _ _ _ _ _ h => h) (by kernel_rfl) rfl ?_
  refine a_l1 1 0 rfl (by kernel_rfl) rfl (ev_ldN (j := 1) rfl rfl Tryz.isAgg49 (sz (Img.len _) Tryz.sizeOf49) (Mani.sub_Image _) rfl) (fun _ _ _ h => h) (g0 rfl) rfl rfl ?_
  refine a_run ft [2] rfl (fun _ _ _ _ _ h => h) (by kernel_rfl) rfl ?_
  refine ac 3 (by kernel_rfl) (sl_cons (hG 1 rfl) sl_nil) ?_
  refine k_st (j := 70) rfl rfl rfl rfl (vs := [vi 1]) rfl (sz rfl Tryz.sizeOf3) rfl 0 rfl (MetaS.set_Phase _ 1) rfl (g0 rfl) rfl ?_
  refine a_run ft [4] rfl (fun _ _ _ _ _ h => h) (by kernel_rfl) rfl ?_
  refine ac 5 (by kernel_rfl) (sl_cons (hG 1 rfl) sl_nil) ?_
  refine k_st (j := 71) rfl rfl rfl rfl (vs := Img.cells r7.1.Image) rfl (sz (Img.len _) Tryz.sizeOf49) (Img.sc _) 0 rfl (MetaS.set_Coming _ r7.1.Image) rfl (g0 rfl) rfl ?_
  refine a_done (by kernel_rfl) (sl_end (by kernel_rfl) sl_nil) ?_
  refine q_then ?_
  refine s_seq ?_
  refine s_draw mixed [(0, [33, 34], Has b14 0 (MetaS.cells ({ ({ (r12 : MetaS) with Phase := 1 } : MetaS) with Coming := r7.1.Image }))), (2, [34], Has b3 0 (MetaS.cells a0_m)), (7, [34], Has b5 0 (FactS.cells a2_f)), (11, [34], Has b5 0 (FactS.cells a2_f)), (14, [18, 34], Has b3 0 (MetaS.cells a0_m)), (17, [18, 34], Has b11 0 (Mani.cells r7.1)), (23, [24, 34], Has b11 0 (Mani.cells r7.1)), (30, [31, 34], Has b5 0 (FactS.cells a2_f))] ?_
  refine a_l1 0 0 rfl (by kernel_rfl) rfl (ev_ldN (j := 0) rfl rfl Tryz.isAgg52 (sz (MetaS.len _) Tryz.sizeOf52) (sub_all _) rfl) (fun _ _ _ h => h) (g0 rfl) rfl rfl ?_
  refine a_run ft [1] rfl (fun _ _ _ _ _ h => h) (by kernel_rfl) rfl ?_
  refine a_l1 2 1 rfl (by kernel_rfl) rfl (ev_ld1 (j := 70) rfl rfl Tryz.isAgg3 (MetaS.sub_Phase _) rfl) (fun _ _ _ h => h) (g0 rfl) rfl rfl ?_
  refine a_run ft [3, 5, 6] rfl (fun _ _ _ _ _ h => h) (by kernel_rfl) rfl ?_
  refine a_l1 7 2 rfl (by kernel_rfl) rfl (ev_ld1 (j := 0) rfl rfl Tryz.isAgg4 (FactS.sub_Name _) rfl) (fun _ _ _ h => h) (g0 rfl) rfl rfl ?_
  refine a_run ft [8, 10] rfl (fun _ _ _ _ _ h => h) (by kernel_rfl) rfl ?_
  refine a_l1 11 3 rfl (by kernel_rfl) rfl (ev_ld1 (j := 1) rfl rfl Tryz.isAgg4 (FactS.sub_Tag _) rfl) (fun _ _ _ h => h) (g0 rfl) rfl rfl ?_
  refine a_run ft [12] rfl (fun _ _ _ _ _ h => h) (by kernel_rfl) rfl ?_
  refine a_l1 14 4 rfl (by kernel_rfl) rfl (ev_ldN (j := 0) rfl rfl Tryz.isAgg52 (sz (MetaS.len _) Tryz.sizeOf52) (sub_all _) rfl) (fun _ _ _ h => h) (g0 rfl) rfl rfl ?_
  refine a_run ft [15, 16] rfl (fun _ _ _ _ _ h => h) (by kernel_rfl) rfl ?_
  refine a_l1 17 5 rfl (by kernel_rfl) rfl (ev_ld1 (j := 1) rfl rfl Tryz.isAgg3 (sub_sub (Mani.sub_Image _) (Img.sub_Version _) rfl) rfl) (fun _ _ _ h => h) (g0 rfl) rfl rfl ?_
  refine a_run ft [21, 22] rfl (fun _ _ _ _ _ h => h) (by kernel_rfl) rfl ?_
  refine a_l1 23 6 rfl (by kernel_rfl) rfl (ev_ld1 (j := 2) rfl rfl Tryz.isAgg3 (sub_sub (Mani.sub_Image _) (Img.sub_Size _) rfl) rfl) (fun _ _ _ h => h) (g0 rfl) rfl rfl ?_
  refine a_run ft [25] rfl (fun _ _ _ _ _ h => h) (by kernel_rfl) rfl ?_
  refine a_p1 26 (by kernel_rfl) rfl (ev_min rfl rfl rfl) (fun _ _ _ h => h) (g0 rfl) rfl rfl ?_
  refine a_run ft [29] rfl (fun _ _ _ _ _ h => h) (by kernel_rfl) rfl ?_
  refine a_l1 30 7 rfl (by kernel_rfl) rfl (ev_ld1 (j := 34) rfl rfl Tryz.isAgg4 (FactS.sub_Worn _) rfl) (fun _ _ _ h => h) (g0 rfl) rfl rfl ?_
  refine ac 4 (by kernel_rfl) (sl_cons (hG 0 rfl) (sl_cons (hG 6 rfl) (sl_cons (hG 4 rfl) (sl_cons (hG 4 rfl) (sl_cons (hG 6 rfl) (sl_cons (hG 1 rfl) (sl_cons (hG 1 rfl) (sl_cons (hG 4 rfl) sl_nil)))))))) ?_
  obtain ⟨r15, Hc16, H⟩ := bind_some' H
  refine k_call (c_update_when (a0_m.Phase != 0) 11 r15 Hc16) Tryz.call213 rfl rfl rfl [] [] rfl rfl (g0 rfl) rfl rfl ?_
  rintro _ _ _ ⟨rfl, rfl, rfl⟩
  dsimp only [app]
  refine ac 9 (by kernel_rfl) (sl_cons (hG 0 rfl) (sl_cons (hG 6 rfl) (sl_cons (hG 4 rfl) (sl_cons (hG 4 rfl) (sl_cons (hG 6 rfl) (sl_cons (hG 1 rfl) (sl_cons (hG 1 rfl) (sl_cons (hG 4 rfl) sl_nil)))))))) ?_
  obtain ⟨r17, Hc18, H⟩ := bind_some' H
  refine k_call (c_update_when (!a2_f.Name) 7 r17 Hc18) Tryz.call213 rfl rfl rfl [] [] rfl rfl (g0 rfl) rfl rfl ?_
  rintro _ _ _ ⟨rfl, rfl, rfl⟩
  dsimp only [app]
  refine ac 13 (by kernel_rfl) (sl_cons (hG 0 rfl) (sl_cons (hG 6 rfl) (sl_cons (hG 4 rfl) (sl_cons (hG 4 rfl) (sl_cons (hG 6 rfl) (sl_cons (hG 1 rfl) (sl_cons (hG 1 rfl) (sl_cons (hG 4 rfl) sl_nil)))))))) ?_
  obtain ⟨r19, Hc20, H⟩ := bind_some' H
  refine k_call (c_update_when (!a2_f.Tag) 8 r19 Hc20) Tryz.call213 rfl rfl rfl [] [] rfl rfl (g0 rfl) rfl rfl ?_
  rintro _ _ _ ⟨rfl, rfl, rfl⟩
  dsimp only [app]
  refine ac 18 (by kernel_rfl) (sl_cons (hG 0 rfl) (sl_cons (hG 6 rfl) (sl_cons (hG 4 rfl) (sl_cons (hG 4 rfl) (sl_cons (hG 6 rfl) (sl_cons (hG 1 rfl) (sl_cons (hG 1 rfl) (sl_cons (hG 4 rfl) sl_nil)))))))) ?_
  obtain ⟨r21, Hc22, H⟩ := bind_some' H
  refine k_call (c_version_May a0_m r7.1.Image.Version r21 Hc22) Tryz.call214 rfl rfl rfl [] [] rfl rfl (g0 rfl) rfl rfl ?_
  rintro _ _ _ ⟨rfl, rfl, rfl⟩
  dsimp only [app]
  refine a_run ft [19] rfl (fun _ _ _ _ _ h => h) (by kernel_rfl) rfl ?_
  refine ac 20 (by kernel_rfl) (sl_cons (hG 0 rfl) (sl_cons (hG 6 rfl) (sl_cons (hG 4 rfl) (sl_cons (hG 4 rfl) (sl_end (by kernel_rfl) (sl_end (by kernel_rfl) (sl_cons (hG 1 rfl) (sl_cons (hG 4 rfl) sl_nil)))))))) ?_
  obtain ⟨r23, Hc24, H⟩ := bind_some' H
  refine k_call (c_update_when (!r21) 9 r23 Hc24) Tryz.call213 rfl rfl rfl [] [] rfl rfl (g0 rfl) rfl rfl ?_
  rintro _ _ _ ⟨rfl, rfl, rfl⟩
  dsimp only [app]
  refine ac 24 (by kernel_rfl) (sl_cons (hG 0 rfl) (sl_cons (hG 6 rfl) (sl_cons (hG 4 rfl) (sl_cons (hG 4 rfl) (sl_end (by kernel_rfl) (sl_end (by kernel_rfl) (sl_cons (hG 1 rfl) (sl_cons (hG 4 rfl) sl_nil)))))))) ?_
  obtain ⟨r25, Hc26, H⟩ := bind_some' H
  refine k_call (c_update_Chunks r7.1.Image.Size r25 Hc26) Tryz.call37 rfl rfl rfl [] [] rfl rfl (g0 rfl) rfl rfl ?_
  rintro _ _ _ ⟨rfl, rfl, rfl⟩
  dsimp only [app]
  refine a_run ft [27] rfl (fun _ _ _ _ _ h => h) (by kernel_rfl) rfl ?_
  refine ac 28 (by kernel_rfl) (sl_cons (hG 0 rfl) (sl_cons (hG 6 rfl) (sl_cons (hG 4 rfl) (sl_cons (hG 4 rfl) (sl_end (by kernel_rfl) (sl_end (by kernel_rfl) (sl_end (by kernel_rfl) (sl_cons (hG 4 rfl) sl_nil)))))))) ?_
  obtain ⟨r27, Hc28, H⟩ := bind_some' H
  refine k_call (c_update_when (decide (r25 > (if 6 < a3_quota then 6 else a3_quota))) 10 r27 Hc28) Tryz.call213 rfl rfl rfl [] [] rfl rfl (g0 rfl) rfl rfl ?_
  rintro _ _ _ ⟨rfl, rfl, rfl⟩
  dsimp only [app]
  refine ac 31 (by kernel_rfl) (sl_cons (hG 0 rfl) (sl_cons (hG 6 rfl) (sl_cons (hG 4 rfl) (sl_cons (hG 4 rfl) (sl_end (by kernel_rfl) (sl_end (by kernel_rfl) (sl_end (by kernel_rfl) (sl_cons (hG 4 rfl) sl_nil)))))))) ?_
  obtain ⟨r29, Hc30, H⟩ := bind_some' H
  refine k_call (c_update_when a2_f.Worn 5 r29 Hc30) Tryz.call213 rfl rfl rfl [] [] rfl rfl (g0 rfl) rfl rfl ?_
  rintro _ _ _ ⟨rfl, rfl, rfl⟩
  dsimp only [app]
  refine ac 32 (by kernel_rfl) (sl_cons (hG 0 rfl) (sl_cons (hG 6 rfl) (sl_cons (hG 4 rfl) (sl_cons (hG 4 rfl) (sl_end (by kernel_rfl) (sl_end (by kernel_rfl) (sl_end (by kernel_rfl) (sl_end (by kernel_rfl) sl_nil)))))))) ?_
  refine k_buildSlice (f := Ei) ([r15, r7.2.2, r17, r19, r23, r27, r29] : List Int) rfl rfl rfl rfl Tryz.runUnderlying251 Tryz.sizeOf31 Tryz.zeroValue31 rfl rfl (fill_all rfl rfl (by simp) rfl rfl) (g0 rfl) rfl rfl ?_
  intro b31
  refine ac 33 (by kernel_rfl) (sl_cons (hG 0 rfl) (sl_cons (hG 6 rfl) (sl_cons (hG 4 rfl) (sl_cons (hG 4 rfl) (sl_end (by kernel_rfl) (sl_end (by kernel_rfl) (sl_end (by kernel_rfl) (sl_end (by kernel_rfl) sl_nil)))))))) ?_
  obtain ⟨r32, Hc33, H⟩ := bind_some' H
  refine k_call (c_update_one ({ ({ (r12 : MetaS) with Phase := 1 } : MetaS) with Coming := r7.1.Image }) ([r15, r7.2.2, r17, r19, r23, r27, r29] : List Int) (some ⟨b31, 0, none⟩) 7 r32 Hc33) Tryz.call212 rfl rfl rfl [0] [] rfl rfl (g0 rfl) rfl rfl ?_
  rintro _ _ _ ⟨rfl, rfl, rfl⟩
  dsimp only [app]
  refine ac 34 (by kernel_rfl) (sl_end (by kernel_rfl) (sl_cons (hG 6 rfl) (sl_cons (hG 4 rfl) (sl_cons (hG 4 rfl) (sl_end (by kernel_rfl) (sl_end (by kernel_rfl) (sl_end (by kernel_rfl) (sl_end (by kernel_rfl) sl_nil)))))))) ?_
  refine k_st (j := 0) rfl rfl rfl rfl (vs := ChangeS.cells r32) rfl (sz (ChangeS.len _) Tryz.sizeOf170) (ChangeS.sc _) 3 rfl (spl_all ((ChangeS.len _).trans (ChangeS.len _).symm)) rfl (g0 rfl) rfl ?_
  refine a_done (by kernel_rfl) (sl_end (by kernel_rfl) (sl_end (by kernel_rfl) (sl_end (by kernel_rfl) (sl_end (by kernel_rfl) (sl_end (by kernel_rfl) (sl_end (by kernel_rfl) (sl_end (by kernel_rfl) (sl_end (by kernel_rfl) sl_nil)))))))) ?_
  refine q_then ?_
  refine s_ret ?_
  cases H
  exact q_end (rs_1 Tryz.results176 (rv_cell (j := 0) rfl (hG 3 rfl) Tryz.isAgg170 (sz (ChangeS.len _) Tryz.sizeOf170) (sub_all _) rfl)) ⟨rfl, rfl, rfl⟩ [] rfl 3 rfl [] rfl 7 rfl

def sha_spread_l0 (a0_b : List UInt8) (J5 : (Arr UInt32 64) → Option (Arr UInt32 64)) : Nat → (Int × Arr UInt32 64) → Option (Arr UInt32 64)
  | 0, _ => none
  | k8 + 1, s8 =>
    bif (decide (s8.1 < 64)) then (
    jn (fun (x11 : Arr UInt32 64) =>
    sha_spread_l0 a0_b J5 k8 ((wrap64 (s8.1 + 1)), x11)) fun J10 =>
    bif (decide (s8.1 < 16)) then (
    chk (0 ≤ (wrap64 (s8.1 * 4)) ∧ (wrap64 (s8.1 * 4)) ≤ (a0_b.length : Int) ∧ (a0_b.length : Int) ≤ (a0_b.length : Int)) <|
    (turn_Big (slc a0_b (wrap64 (s8.1 * 4)) (a0_b.length : Int))).bind fun r17 =>
    chk (0 ≤ s8.1 ∧ s8.1 < 64) <|
    J10 (Arr.set s8.2 s8.1 r17)) else (
    chk (0 ≤ (wrap64 (s8.1 - 15)) ∧ (wrap64 (s8.1 - 15)) < 64) <|
    chk (0 ≤ (wrap64 (s8.1 - 2)) ∧ (wrap64 (s8.1 - 2)) < 64) <|
    chk (0 ≤ (wrap64 (s8.1 - 16)) ∧ (wrap64 (s8.1 - 16)) < 64) <|
    chk (0 ≤ (wrap64 (s8.1 - 7)) ∧ (wrap64 (s8.1 - 7)) < 64) <|
    (turn_Right (at' 0 s8.2.l (wrap64 (s8.1 - 15))) (7 : Int)).bind fun r24 =>
    (turn_Right (at' 0 s8.2.l (wrap64 (s8.1 - 15))) (18 : Int)).bind fun r26 =>
    (turn_Right (at' 0 s8.2.l (wrap64 (s8.1 - 2))) (17 : Int)).bind fun r28 =>
    (turn_Right (at' 0 s8.2.l (wrap64 (s8.1 - 2))) (19 : Int)).bind fun r30 =>
    chk (0 ≤ s8.1 ∧ s8.1 < 64) <|
    J10 (Arr.set s8.2 s8.1 ((((at' 0 s8.2.l (wrap64 (s8.1 - 16))) + ((r24 ^^^ r26) ^^^ (shr32 ((at' 0 s8.2.l (wrap64 (s8.1 - 15))) : UInt32) (3 : UInt64).toNat))) + (at' 0 s8.2.l (wrap64 (s8.1 - 7)))) + ((r28 ^^^ r30) ^^^ (shr32 ((at' 0 s8.2.l (wrap64 (s8.1 - 2))) : UInt32) (10 : UInt64).toNat)))))) else (
    J5 s8.2)

def sha_spread (a0_b : List UInt8) : Option (Arr UInt32 64) :=
jn (fun (x6 : Arr UInt32 64) =>
some x6) fun J5 =>
sha_spread_l0 a0_b J5 Fuel (0, (Arr.zero 0 64 : Arr UInt32 64))

theorem c_sha_spread (a0_b : List UInt8) (A1 : Option Addr) (c2 : Nat) (r : (Arr UInt32 64)) (H : sha_spread a0_b = some r) : Fn Tryz.prog 200 [(.slice A1 a0_b.length c2)] [Sl E8 A1 c2 a0_b] [] (fun v D' G' => v = (.agg (r.l.flatMap E32).toArray) ∧ D' = [] ∧ G' = []) := by
  unfold sha_spread at H
  refine fn_of Tryz.func200 rfl Tryz.ntmps200 rfl ?_
  intro w0 D0 G0
  dsimp only [app, initEnv, Nat.zero_add, Nat.reduceAdd]
  refine s_seq ?_
  refine s_reg [0] rfl ?_
  refine oc (k_alloc rfl rfl Tryz.zeroValue224 (cs := (Arr.zero 0 64 : Arr UInt32 64).l.flatMap E32) rfl (g0 rfl) rfl rfl ?_)
  intro b3
  refine o_nil ?_
  refine q_then ?_
  refine s_seq ?_
  refine s_reg [0] rfl ?_
  refine oc (k_alloc rfl rfl Tryz.zeroValue224 (cs := (Arr.zero 0 64 : Arr UInt32 64).l.flatMap E32) rfl (g0 rfl) rfl rfl ?_)
  intro b4
  refine o_nil ?_
  refine q_then ?_
  refine s_seq ?_
  refine s_seq ?_
  refine s_reg [0] rfl ?_
  refine o_run ft [0] rfl rfl ?_
  refine o_nil ?_
  refine q_then ?_
  refine q_join (fun (x6 : Arr UInt32 64) (y7 : Unit) => ⟨Sl E8 A1 c2 a0_b :: D0, At b4 0 (x6.l.flatMap E32) :: At b3 0 ((Arr.zero 0 64 : Arr UInt32 64).l.flatMap E32) :: G0, [(2, (.pointer (some ⟨b3, 0, none⟩))), (3, (.pointer (some ⟨b4, 0, none⟩)))]⟩) H ?_ ?_
  · intro x6 y7 H
    dsimp only
    refine q_then ?_
    refine s_seq ?_
    refine s_reg [0, 1] rfl ?_
    refine o_ld (hG 0 rfl) rfl (ev_ldN (j := 0) rfl rfl Tryz.isAgg224 (sz (arr_len E32_len _ rfl) Tryz.sizeOf224) (sub_all _) rfl) (g0 rfl) rfl rfl ?_
    refine oc (k_st (j := 0) rfl rfl rfl rfl (vs := x6.l.flatMap E32) rfl (sz (arr_len E32_len _ rfl) Tryz.sizeOf224) (arr_sc E32_one _) 1 rfl (spl_all ((arr_len E32_len _ rfl).trans (arr_len E32_len _ rfl).symm)) rfl (g0 rfl) rfl ?_)
    refine o_nil ?_
    refine q_then ?_
    refine s_ret ?_
    cases H
    exact q_end (rs_1 Tryz.results200 (rv_cell (j := 0) rfl (hG 1 rfl) Tryz.isAgg224 (sz (arr_len E32_len _ rfl) Tryz.sizeOf224) (sub_all _) rfl)) ⟨rfl, rfl, rfl⟩ [] rfl 1 rfl [] rfl 2 rfl
  · intro J5 J5h H
    refine s_block ?_
    refine s_loop (k_wk (loop_ind (fun (s8 : Int × Arr UInt32 64) (y8 : Unit) => ⟨Sl E8 A1 c2 a0_b :: D0, At b4 0 (s8.2.l.flatMap E32) :: At b3 0 ((Arr.zero 0 64 : Arr UInt32 64).l.flatMap E32) :: G0, [(0, (.slice A1 a0_b.length c2)), (2, (.pointer (some ⟨b3, 0, none⟩))), (3, (.pointer (some ⟨b4, 0, none⟩))), (7, (vi s8.1))]⟩) (sha_spread_l0 a0_b J5) _ (fun _ => rfl) ?_ Fuel (0, (Arr.zero 0 64 : Arr UInt32 64)) () H) [0, 2, 3, 7] [0] 1 [0, 0] 0 rfl rfl rfl)
    intro k8 s8 y8 ih H
    dsimp only
    rw [sha_spread_l0] at H
    refine s_seq ?_
    refine s_reg [0] rfl ?_
    refine o_run ft [0] rfl rfl ?_
    refine o_nil ?_
    refine q_then ?_
    refine s_seq ?_
    refine s_cond rfl ?_ ?_
    · intro hb9
      have H := cnd_t H hb9
      refine s_skip ?_
      refine q_then ?_
      refine s_seq ?_
      refine q_join (fun (x11 : Arr UInt32 64) (y12 : Unit) => ⟨Sl E8 A1 c2 a0_b :: D0, At b4 0 (x11.l.flatMap E32) :: At b3 0 ((Arr.zero 0 64 : Arr UInt32 64).l.flatMap E32) :: G0, [(0, (.slice A1 a0_b.length c2)), (2, (.pointer (some ⟨b3, 0, none⟩))), (3, (.pointer (some ⟨b4, 0, none⟩))), (7, (vi s8.1))]⟩) H ?_ ?_
      · intro x11 y12 H
        dsimp only
        refine q_then ?_
        refine s_reg [0, 1] rfl ?_
        refine o_run ft [0, 1] rfl rfl ?_
        refine o_nil ?_
        refine q_loop ?_
        exact k_wk (ih ((wrap64 (s8.1 + 1)), x11) () H) [0, 2, 3, 7] [0] 1 [0, 0] 0 rfl rfl rfl
      · intro J10 J10h H
        refine s_block ?_
        refine s_seq ?_
        refine s_reg [0, 1] rfl ?_
        refine o_run ft [0, 1] rfl rfl ?_
        refine o_nil ?_
        refine q_then ?_
        refine s_seq ?_
        refine s_seq ?_
        refine s_reg [0, 1] rfl ?_
        refine o_run ft [0, 1] rfl rfl ?_
        refine o_nil ?_
        refine q_then ?_
        refine s_cond rfl ?_ ?_
        · intro hb13
          have H := cnd_t H hb13
          refine s_seq ?_
          refine s_reg [0, 1, 2, 3, 4, 5, 6, 7] rfl ?_
          refine o_run ft [0, 1, 2, 3] rfl rfl ?_
          obtain ⟨hk16, H⟩ := chk_some H
          refine oc (k_slice (kb := .i64) (a := (wrap64 (s8.1 * 4))) (b := (a0_b.length : Int)) 0 rfl rfl rfl rfl E8_len Tryz.runUnderlying22 Tryz.sizeOf5 (.inr rfl) (.inl ⟨rfl, rfl⟩) hk16 (g0 rfl) rfl rfl ?_)
          intro A14 c15
          obtain ⟨r17, Hc18, H⟩ := bind_some' H
          refine oc (k_call (c_turn_Big (slc a0_b (wrap64 (s8.1 * 4)) (a0_b.length : Int)) A14 c15 r17 Hc18) Tryz.call224 rfl rfl rfl [0] [] rfl rfl (g0 rfl) rfl rfl ?_)
          rintro _ _ _ ⟨rfl, rfl, rfl⟩
          dsimp only [app]
          obtain ⟨hk19, H⟩ := chk_some H
          refine o_pu rfl (ev_idx_array rfl rfl rfl Tryz.runUnderlying224 Tryz.sizeOf141 hk19 rfl) (g0 rfl) rfl rfl ?_
          refine oc (k_st rfl rfl rfl rfl (vs := [v32 r17]) rfl (sz rfl Tryz.sizeOf141) rfl 0 rfl (spl_arr E32_len _ (k := s8.1) _ hk19 rfl) (by omega) (g0 rfl) rfl ?_)
          refine o_nil ?_
          refine q_then ?_
          refine s_exit ?_
          refine q_then_x ?_
          refine q_block_x ?_
          exact k_wk (J10h (Arr.set s8.2 s8.1 r17) () H) [0, 2, 3, 7] [1] 2 [0, 0] 0 rfl rfl rfl
        · intro hb13
          have H := cnd_f H hb13
          refine s_skip ?_
          refine q_then ?_
          refine s_seq ?_
          refine s_draw mixed [(3, [], Has b4 0 (s8.2.l.flatMap E32)), (7, [], Has b4 0 (s8.2.l.flatMap E32))] ?_
          refine a_run ft [0, 1] rfl (fun _ _ _ _ _ h => h) (by kernel_rfl) rfl ?_
          obtain ⟨hk20, H⟩ := chk_some H
          refine a_p1 2 (by kernel_rfl) rfl (ev_idx_array rfl rfl rfl Tryz.runUnderlying224 Tryz.sizeOf141 hk20 rfl) (fun _ _ _ h => h) (g0 rfl) rfl rfl ?_
          refine a_l1 3 0 rfl (by kernel_rfl) rfl (ev_ld1 rfl rfl Tryz.isAgg141 (sub_arr E32_len 0 _ (k := (wrap64 (s8.1 - 15))) hk20 rfl) (by omega)) (fun _ _ _ h => h) (g0 rfl) rfl rfl ?_
          refine a_run ft [4, 5] rfl (fun _ _ _ _ _ h => h) (by kernel_rfl) rfl ?_
          obtain ⟨hk21, H⟩ := chk_some H
          refine a_p1 6 (by kernel_rfl) rfl (ev_idx_array rfl rfl rfl Tryz.runUnderlying224 Tryz.sizeOf141 hk21 rfl) (fun _ _ _ h => h) (g0 rfl) rfl rfl ?_
          refine a_l1 7 1 rfl (by kernel_rfl) rfl (ev_ld1 rfl rfl Tryz.isAgg141 (sub_arr E32_len 0 _ (k := (wrap64 (s8.1 - 2))) hk21 rfl) (by omega)) (fun _ _ _ h => h) (g0 rfl) rfl rfl ?_
          refine a_run ft [8, 9] rfl (fun _ _ _ _ _ h => h) (by kernel_rfl) rfl ?_
          refine a_done (by kernel_rfl) (sl_cons (hG 0 rfl) (sl_cons (hG 0 rfl) sl_nil)) ?_
          refine q_then ?_
          refine s_draw mixed [(4, [29], Has b4 0 (s8.2.l.flatMap E32)), (17, [29], Has b4 0 (s8.2.l.flatMap E32))] ?_
          refine a_run ft [0, 1, 2] rfl (fun _ _ _ _ _ h => h) (by kernel_rfl) rfl ?_
          obtain ⟨hk22, H⟩ := chk_some H
          refine a_p1 3 (by kernel_rfl) rfl (ev_idx_array rfl rfl rfl Tryz.runUnderlying224 Tryz.sizeOf141 hk22 rfl) (fun _ _ _ h => h) (g0 rfl) rfl rfl ?_
          refine a_l1 4 0 rfl (by kernel_rfl) rfl (ev_ld1 rfl rfl Tryz.isAgg141 (sub_arr E32_len 0 _ (k := (wrap64 (s8.1 - 16))) hk22 rfl) (by omega)) (fun _ _ _ h => h) (g0 rfl) rfl rfl ?_
          refine a_run ft [5, 7, 10] rfl (fun _ _ _ _ _ h => h) (by kernel_rfl) rfl ?_
          refine a_p1 11 (by kernel_rfl) rfl (ev_bin rfl rfl rfl rfl (shr_32 _ 3)) (fun _ _ _ h => h) (g0 rfl) rfl rfl ?_
          refine a_run ft [14, 15] rfl (fun _ _ _ _ _ h => h) (by kernel_rfl) rfl ?_
          obtain ⟨hk23, H⟩ := chk_some H
          refine a_p1 16 (by kernel_rfl) rfl (ev_idx_array rfl rfl rfl Tryz.runUnderlying224 Tryz.sizeOf141 hk23 rfl) (fun _ _ _ h => h) (g0 rfl) rfl rfl ?_
          refine a_l1 17 1 rfl (by kernel_rfl) rfl (ev_ld1 rfl rfl Tryz.isAgg141 (sub_arr E32_len 0 _ (k := (wrap64 (s8.1 - 7))) hk23 rfl) (by omega)) (fun _ _ _ h => h) (g0 rfl) rfl rfl ?_
          refine a_run ft [19, 21, 24] rfl (fun _ _ _ _ _ h => h) (by kernel_rfl) rfl ?_
          refine a_p1 25 (by kernel_rfl) rfl (ev_bin rfl rfl rfl rfl (shr_32 _ 10)) (fun _ _ _ h => h) (g0 rfl) rfl rfl ?_
          refine ac 6 (by kernel_rfl) (sl_cons (hG 0 rfl) (sl_cons (hG 0 rfl) sl_nil)) ?_
          obtain ⟨r24, Hc25, H⟩ := bind_some' H
          refine k_call (c_turn_Right (at' 0 s8.2.l (wrap64 (s8.1 - 15))) 7 r24 Hc25) Tryz.call225 rfl rfl rfl [] [] rfl rfl (g0 rfl) rfl rfl ?_
          rintro _ _ _ ⟨rfl, rfl, rfl⟩
          dsimp only [app]
          refine ac 8 (by kernel_rfl) (sl_cons (hG 0 rfl) (sl_cons (hG 0 rfl) sl_nil)) ?_
          obtain ⟨r26, Hc27, H⟩ := bind_some' H
          refine k_call (c_turn_Right (at' 0 s8.2.l (wrap64 (s8.1 - 15))) 18 r26 Hc27) Tryz.call225 rfl rfl rfl [] [] rfl rfl (g0 rfl) rfl rfl ?_
          rintro _ _ _ ⟨rfl, rfl, rfl⟩
          dsimp only [app]
          refine a_p1 9 (by kernel_rfl) rfl (ev_bin rfl rfl rfl rfl (xor_32 _ _)) (fun _ _ _ h => h) (g0 rfl) rfl rfl ?_
          refine a_p1 12 (by kernel_rfl) rfl (ev_bin rfl rfl rfl rfl (xor_32 _ _)) (fun _ _ _ h => h) (g0 rfl) rfl rfl ?_
          refine a_p1 13 (by kernel_rfl) rfl (ev_bin rfl rfl rfl rfl (add_32 _ _)) (fun _ _ _ h => h) (g0 rfl) rfl rfl ?_
          refine a_p1 18 (by kernel_rfl) rfl (ev_bin rfl rfl rfl rfl (add_32 _ _)) (fun _ _ _ h => h) (g0 rfl) rfl rfl ?_
          refine ac 20 (by kernel_rfl) (sl_cons (hG 0 rfl) (sl_cons (hG 0 rfl) sl_nil)) ?_
          obtain ⟨r28, Hc29, H⟩ := bind_some' H
          refine k_call (c_turn_Right (at' 0 s8.2.l (wrap64 (s8.1 - 2))) 17 r28 Hc29) Tryz.call225 rfl rfl rfl [] [] rfl rfl (g0 rfl) rfl rfl ?_
          rintro _ _ _ ⟨rfl, rfl, rfl⟩
          dsimp only [app]
          refine ac 22 (by kernel_rfl) (sl_cons (hG 0 rfl) (sl_cons (hG 0 rfl) sl_nil)) ?_
          obtain ⟨r30, Hc31, H⟩ := bind_some' H
          refine k_call (c_turn_Right (at' 0 s8.2.l (wrap64 (s8.1 - 2))) 19 r30 Hc31) Tryz.call225 rfl rfl rfl [] [] rfl rfl (g0 rfl) rfl rfl ?_
          rintro _ _ _ ⟨rfl, rfl, rfl⟩
          dsimp only [app]
          refine a_p1 23 (by kernel_rfl) rfl (ev_bin rfl rfl rfl rfl (xor_32 _ _)) (fun _ _ _ h => h) (g0 rfl) rfl rfl ?_
          refine a_p1 26 (by kernel_rfl) rfl (ev_bin rfl rfl rfl rfl (xor_32 _ _)) (fun _ _ _ h => h) (g0 rfl) rfl rfl ?_
          refine a_p1 27 (by kernel_rfl) rfl (ev_bin rfl rfl rfl rfl (add_32 _ _)) (fun _ _ _ h => h) (g0 rfl) rfl rfl ?_
          obtain ⟨hk32, H⟩ := chk_some H
          refine a_p1 28 (by kernel_rfl) rfl (ev_idx_array rfl rfl rfl Tryz.runUnderlying224 Tryz.sizeOf141 hk32 rfl) (fun _ _ _ h => h) (g0 rfl) rfl rfl ?_
          refine ac 29 (by kernel_rfl) (sl_cons (hG 0 rfl) (sl_cons (hG 0 rfl) sl_nil)) ?_
          refine k_st rfl rfl rfl rfl (vs := [v32 ((((at' 0 s8.2.l (wrap64 (s8.1 - 16))) + ((r24 ^^^ r26) ^^^ (shr32 ((at' 0 s8.2.l (wrap64 (s8.1 - 15))) : UInt32) (3 : UInt64).toNat))) + (at' 0 s8.2.l (wrap64 (s8.1 - 7)))) + ((r28 ^^^ r30) ^^^ (shr32 ((at' 0 s8.2.l (wrap64 (s8.1 - 2))) : UInt32) (10 : UInt64).toNat)))]) rfl (sz rfl Tryz.sizeOf141) rfl 0 rfl (spl_arr E32_len _ (k := s8.1) _ hk32 rfl) (by omega) (g0 rfl) rfl ?_
          refine a_done (by kernel_rfl) (sl_end (by kernel_rfl) (sl_end (by kernel_rfl) sl_nil)) ?_
          refine q_block ?_
          exact k_wk (J10h (Arr.set s8.2 s8.1 ((((at' 0 s8.2.l (wrap64 (s8.1 - 16))) + ((r24 ^^^ r26) ^^^ (shr32 ((at' 0 s8.2.l (wrap64 (s8.1 - 15))) : UInt32) (3 : UInt64).toNat))) + (at' 0 s8.2.l (wrap64 (s8.1 - 7)))) + ((r28 ^^^ r30) ^^^ (shr32 ((at' 0 s8.2.l (wrap64 (s8.1 - 2))) : UInt32) (10 : UInt64).toNat)))) () H) [0, 2, 3, 7] [0] 1 [0, 0] 0 rfl rfl rfl
    · intro hb9
      have H := cnd_f H hb9
      refine s_exit ?_
      refine q_then_x ?_
      refine q_then_x ?_
      refine q_block_x ?_
      exact k_wk (J5h s8.2 () H) [2, 3] [0] 1 [0, 0] 0 rfl rfl rfl

def sha_round (a0_v : Arr UInt32 8) (a1_more : UInt32) : Option (Arr UInt32 8) :=
(turn_Right (at' 0 a0_v.l 4) (6 : Int)).bind fun r3 =>
(turn_Right (at' 0 a0_v.l 4) (11 : Int)).bind fun r5 =>
(turn_Right (at' 0 a0_v.l 4) (25 : Int)).bind fun r7 =>
(turn_Right (at' 0 a0_v.l 0) (2 : Int)).bind fun r9 =>
(turn_Right (at' 0 a0_v.l 0) (13 : Int)).bind fun r11 =>
(turn_Right (at' 0 a0_v.l 0) (22 : Int)).bind fun r13 =>
some (⟨[((((((at' 0 a0_v.l 7) + ((r3 ^^^ r5) ^^^ r7)) + (((at' 0 a0_v.l 4) &&& (at' 0 a0_v.l 5)) ^^^ ((~~~(at' 0 a0_v.l 4)) &&& (at' 0 a0_v.l 6)))) + a1_more) + (((r9 ^^^ r11) ^^^ r13) + ((((at' 0 a0_v.l 0) &&& (at' 0 a0_v.l 1)) ^^^ ((at' 0 a0_v.l 0) &&& (at' 0 a0_v.l 2))) ^^^ ((at' 0 a0_v.l 1) &&& (at' 0 a0_v.l 2))))) : UInt32), ((at' 0 a0_v.l 0) : UInt32), ((at' 0 a0_v.l 1) : UInt32), ((at' 0 a0_v.l 2) : UInt32), (((at' 0 a0_v.l 3) + ((((at' 0 a0_v.l 7) + ((r3 ^^^ r5) ^^^ r7)) + (((at' 0 a0_v.l 4) &&& (at' 0 a0_v.l 5)) ^^^ ((~~~(at' 0 a0_v.l 4)) &&& (at' 0 a0_v.l 6)))) + a1_more)) : UInt32), ((at' 0 a0_v.l 4) : UInt32), ((at' 0 a0_v.l 5) : UInt32), ((at' 0 a0_v.l 6) : UInt32)], rfl⟩ : Arr UInt32 8)

theorem c_sha_round (a0_v : Arr UInt32 8) (a1_more : UInt32) (r : (Arr UInt32 8)) (H : sha_round a0_v a1_more = some r) : Fn Tryz.prog 202 [(.agg (a0_v.l.flatMap E32).toArray), (v32 a1_more)] [] [] (fun v D' G' => v = (.agg (r.l.flatMap E32).toArray) ∧ D' = [] ∧ G' = []) := by
  unfold sha_round at H
  refine fn_of Tryz.func202 rfl Tryz.ntmps202 rfl ?_
  intro w0 D0 G0
  dsimp only [app, initEnv, Nat.zero_add, Nat.reduceAdd]
  refine s_seq ?_
  refine s_reg [0, 1] rfl ?_
  refine oc (k_box rfl rfl rfl (cs := a0_v.l.flatMap E32) rfl (g0 rfl) rfl rfl ?_)
  intro b1
  refine oc (k_alloc rfl rfl Tryz.zeroValue176 (cs := (Arr.zero 0 8 : Arr UInt32 8).l.flatMap E32) rfl (g0 rfl) rfl rfl ?_)
  intro b2
  refine o_nil ?_
  refine q_then ?_
  refine s_seq ?_
  refine s_draw mixed [(1, [], Has b1 0 (a0_v.l.flatMap E32)), (3, [], Has b1 0 (a0_v.l.flatMap E32))] ?_
  refine a_p1 0 (by kernel_rfl) rfl (ev_idx_array (k := 0) rfl rfl rfl Tryz.runUnderlying176 Tryz.sizeOf141 ⟨by omega, by omega⟩ rfl) (fun _ _ _ h => h) (g0 rfl) rfl rfl ?_
  refine a_l1 1 0 rfl (by kernel_rfl) rfl (ev_ld1 (j := 0) rfl rfl Tryz.isAgg141 (sub_arr E32_len 0 _ (k := 0) ⟨by omega, by omega⟩ rfl) rfl) (fun _ _ _ h => h) (g0 rfl) rfl rfl ?_
  refine a_p1 2 (by kernel_rfl) rfl (ev_idx_array (k := 4) rfl rfl rfl Tryz.runUnderlying176 Tryz.sizeOf141 ⟨by omega, by omega⟩ rfl) (fun _ _ _ h => h) (g0 rfl) rfl rfl ?_
  refine a_l1 3 1 rfl (by kernel_rfl) rfl (ev_ld1 (j := 4) rfl rfl Tryz.isAgg141 (sub_arr E32_len 0 _ (k := 4) ⟨by omega, by omega⟩ rfl) rfl) (fun _ _ _ h => h) (g0 rfl) rfl rfl ?_
  refine a_run ft [4, 5] rfl (fun _ _ _ _ _ h => h) (by kernel_rfl) rfl ?_
  refine a_done (by kernel_rfl) (sl_cons (hG 1 rfl) (sl_cons (hG 1 rfl) sl_nil)) ?_
  refine q_then ?_
  refine s_seq ?_
  refine s_draw mixed [(1, [], Has b1 0 (a0_v.l.flatMap E32)), (13, [], Has b1 0 (a0_v.l.flatMap E32)), (18, [], Has b1 0 (a0_v.l.flatMap E32))] ?_
  refine a_p1 0 (by kernel_rfl) rfl (ev_idx_array (k := 7) rfl rfl rfl Tryz.runUnderlying176 Tryz.sizeOf141 ⟨by omega, by omega⟩ rfl) (fun _ _ _ h => h) (g0 rfl) rfl rfl ?_
  refine a_l1 1 0 rfl (by kernel_rfl) rfl (ev_ld1 (j := 7) rfl rfl Tryz.isAgg141 (sub_arr E32_len 0 _ (k := 7) ⟨by omega, by omega⟩ rfl) rfl) (fun _ _ _ h => h) (g0 rfl) rfl rfl ?_
  refine a_run ft [2, 4, 7, 11] rfl (fun _ _ _ _ _ h => h) (by kernel_rfl) rfl ?_
  refine a_p1 12 (by kernel_rfl) rfl (ev_idx_array (k := 5) rfl rfl rfl Tryz.runUnderlying176 Tryz.sizeOf141 ⟨by omega, by omega⟩ rfl) (fun _ _ _ h => h) (g0 rfl) rfl rfl ?_
  refine a_l1 13 1 rfl (by kernel_rfl) rfl (ev_ld1 (j := 5) rfl rfl Tryz.isAgg141 (sub_arr E32_len 0 _ (k := 5) ⟨by omega, by omega⟩ rfl) rfl) (fun _ _ _ h => h) (g0 rfl) rfl rfl ?_
  refine a_p1 14 (by kernel_rfl) rfl (ev_bin rfl rfl rfl rfl (and_32 _ _)) (fun _ _ _ h => h) (g0 rfl) rfl rfl ?_
  refine a_run ft [15] rfl (fun _ _ _ _ _ h => h) (by kernel_rfl) rfl ?_
  refine a_p1 16 (by kernel_rfl) rfl (ev_un rfl rfl (not_32 _)) (fun _ _ _ h => h) (g0 rfl) rfl rfl ?_
  refine a_p1 17 (by kernel_rfl) rfl (ev_idx_array (k := 6) rfl rfl rfl Tryz.runUnderlying176 Tryz.sizeOf141 ⟨by omega, by omega⟩ rfl) (fun _ _ _ h => h) (g0 rfl) rfl rfl ?_
  refine a_l1 18 2 rfl (by kernel_rfl) rfl (ev_ld1 (j := 6) rfl rfl Tryz.isAgg141 (sub_arr E32_len 0 _ (k := 6) ⟨by omega, by omega⟩ rfl) rfl) (fun _ _ _ h => h) (g0 rfl) rfl rfl ?_
  refine a_p1 19 (by kernel_rfl) rfl (ev_bin rfl rfl rfl rfl (and_32 _ _)) (fun _ _ _ h => h) (g0 rfl) rfl rfl ?_
  refine a_p1 20 (by kernel_rfl) rfl (ev_bin rfl rfl rfl rfl (xor_32 _ _)) (fun _ _ _ h => h) (g0 rfl) rfl rfl ?_
  refine a_run ft [22] rfl (fun _ _ _ _ _ h => h) (by kernel_rfl) rfl ?_
  refine ac 3 (by kernel_rfl) (sl_cons (hG 1 rfl) (sl_cons (hG 1 rfl) (sl_cons (hG 1 rfl) sl_nil))) ?_
  obtain ⟨r3, Hc4, H⟩ := bind_some' H
  refine k_call (c_turn_Right (at' 0 a0_v.l 4) 6 r3 Hc4) Tryz.call225 rfl rfl rfl [] [] rfl rfl (g0 rfl) rfl rfl ?_
  rintro _ _ _ ⟨rfl, rfl, rfl⟩
  dsimp only [app]
  refine ac 5 (by kernel_rfl) (sl_cons (hG 1 rfl) (sl_cons (hG 1 rfl) (sl_cons (hG 1 rfl) sl_nil))) ?_
  obtain ⟨r5, Hc6, H⟩ := bind_some' H
  refine k_call (c_turn_Right (at' 0 a0_v.l 4) 11 r5 Hc6) Tryz.call225 rfl rfl rfl [] [] rfl rfl (g0 rfl) rfl rfl ?_
  rintro _ _ _ ⟨rfl, rfl, rfl⟩
  dsimp only [app]
  refine a_p1 6 (by kernel_rfl) rfl (ev_bin rfl rfl rfl rfl (xor_32 _ _)) (fun _ _ _ h => h) (g0 rfl) rfl rfl ?_
  refine ac 8 (by kernel_rfl) (sl_cons (hG 1 rfl) (sl_cons (hG 1 rfl) (sl_cons (hG 1 rfl) sl_nil))) ?_
  obtain ⟨r7, Hc8, H⟩ := bind_some' H
  refine k_call (c_turn_Right (at' 0 a0_v.l 4) 25 r7 Hc8) Tryz.call225 rfl rfl rfl [] [] rfl rfl (g0 rfl) rfl rfl ?_
  rintro _ _ _ ⟨rfl, rfl, rfl⟩
  dsimp only [app]
  refine a_p1 9 (by kernel_rfl) rfl (ev_bin rfl rfl rfl rfl (xor_32 _ _)) (fun _ _ _ h => h) (g0 rfl) rfl rfl ?_
  refine a_p1 10 (by kernel_rfl) rfl (ev_bin rfl rfl rfl rfl (add_32 _ _)) (fun _ _ _ h => h) (g0 rfl) rfl rfl ?_
  refine a_p1 21 (by kernel_rfl) rfl (ev_bin rfl rfl rfl rfl (add_32 _ _)) (fun _ _ _ h => h) (g0 rfl) rfl rfl ?_
  refine a_p1 23 (by kernel_rfl) rfl (ev_bin rfl rfl rfl rfl (add_32 _ _)) (fun _ _ _ h => h) (g0 rfl) rfl rfl ?_
  refine a_run ft [24] rfl (fun _ _ _ _ _ h => h) (by kernel_rfl) rfl ?_
  refine a_done (by kernel_rfl) (sl_cons (hG 1 rfl) (sl_cons (hG 1 rfl) (sl_cons (hG 1 rfl) sl_nil))) ?_
  refine q_then ?_
  refine s_seq ?_
  refine s_draw mixed [(10, [], Has b1 0 (a0_v.l.flatMap E32)), (14, [], Has b1 0 (a0_v.l.flatMap E32)), (18, [], Has b1 0 (a0_v.l.flatMap E32)), (20, [], Has b1 0 (a0_v.l.flatMap E32))] ?_
  refine a_run ft [0, 2, 5, 8] rfl (fun _ _ _ _ _ h => h) (by kernel_rfl) rfl ?_
  refine a_p1 9 (by kernel_rfl) rfl (ev_idx_array (k := 1) rfl rfl rfl Tryz.runUnderlying176 Tryz.sizeOf141 ⟨by omega, by omega⟩ rfl) (fun _ _ _ h => h) (g0 rfl) rfl rfl ?_
  refine a_l1 10 0 rfl (by kernel_rfl) rfl (ev_ld1 (j := 1) rfl rfl Tryz.isAgg141 (sub_arr E32_len 0 _ (k := 1) ⟨by omega, by omega⟩ rfl) rfl) (fun _ _ _ h => h) (g0 rfl) rfl rfl ?_
  refine a_p1 11 (by kernel_rfl) rfl (ev_bin rfl rfl rfl rfl (and_32 _ _)) (fun _ _ _ h => h) (g0 rfl) rfl rfl ?_
  refine a_run ft [12] rfl (fun _ _ _ _ _ h => h) (by kernel_rfl) rfl ?_
  refine a_p1 13 (by kernel_rfl) rfl (ev_idx_array (k := 2) rfl rfl rfl Tryz.runUnderlying176 Tryz.sizeOf141 ⟨by omega, by omega⟩ rfl) (fun _ _ _ h => h) (g0 rfl) rfl rfl ?_
  refine a_l1 14 1 rfl (by kernel_rfl) rfl (ev_ld1 (j := 2) rfl rfl Tryz.isAgg141 (sub_arr E32_len 0 _ (k := 2) ⟨by omega, by omega⟩ rfl) rfl) (fun _ _ _ h => h) (g0 rfl) rfl rfl ?_
  refine a_p1 15 (by kernel_rfl) rfl (ev_bin rfl rfl rfl rfl (and_32 _ _)) (fun _ _ _ h => h) (g0 rfl) rfl rfl ?_
  refine a_p1 16 (by kernel_rfl) rfl (ev_bin rfl rfl rfl rfl (xor_32 _ _)) (fun _ _ _ h => h) (g0 rfl) rfl rfl ?_
  refine a_p1 17 (by kernel_rfl) rfl (ev_idx_array (k := 1) rfl rfl rfl Tryz.runUnderlying176 Tryz.sizeOf141 ⟨by omega, by omega⟩ rfl) (fun _ _ _ h => h) (g0 rfl) rfl rfl ?_
  refine a_l1 18 2 rfl (by kernel_rfl) rfl (ev_ld1 (j := 1) rfl rfl Tryz.isAgg141 (sub_arr E32_len 0 _ (k := 1) ⟨by omega, by omega⟩ rfl) rfl) (fun _ _ _ h => h) (g0 rfl) rfl rfl ?_
  refine a_p1 19 (by kernel_rfl) rfl (ev_idx_array (k := 2) rfl rfl rfl Tryz.runUnderlying176 Tryz.sizeOf141 ⟨by omega, by omega⟩ rfl) (fun _ _ _ h => h) (g0 rfl) rfl rfl ?_
  refine a_l1 20 3 rfl (by kernel_rfl) rfl (ev_ld1 (j := 2) rfl rfl Tryz.isAgg141 (sub_arr E32_len 0 _ (k := 2) ⟨by omega, by omega⟩ rfl) rfl) (fun _ _ _ h => h) (g0 rfl) rfl rfl ?_
  refine a_p1 21 (by kernel_rfl) rfl (ev_bin rfl rfl rfl rfl (and_32 _ _)) (fun _ _ _ h => h) (g0 rfl) rfl rfl ?_
  refine a_p1 22 (by kernel_rfl) rfl (ev_bin rfl rfl rfl rfl (xor_32 _ _)) (fun _ _ _ h => h) (g0 rfl) rfl rfl ?_
  refine ac 1 (by kernel_rfl) (sl_cons (hG 1 rfl) (sl_cons (hG 1 rfl) (sl_cons (hG 1 rfl) (sl_cons (hG 1 rfl) sl_nil)))) ?_
  obtain ⟨r9, Hc10, H⟩ := bind_some' H
  refine k_call (c_turn_Right (at' 0 a0_v.l 0) 2 r9 Hc10) Tryz.call225 rfl rfl rfl [] [] rfl rfl (g0 rfl) rfl rfl ?_
  rintro _ _ _ ⟨rfl, rfl, rfl⟩
  dsimp only [app]
  refine ac 3 (by kernel_rfl) (sl_cons (hG 1 rfl) (sl_cons (hG 1 rfl) (sl_cons (hG 1 rfl) (sl_cons (hG 1 rfl) sl_nil)))) ?_
  obtain ⟨r11, Hc12, H⟩ := bind_some' H
  refine k_call (c_turn_Right (at' 0 a0_v.l 0) 13 r11 Hc12) Tryz.call225 rfl rfl rfl [] [] rfl rfl (g0 rfl) rfl rfl ?_
  rintro _ _ _ ⟨rfl, rfl, rfl⟩
  dsimp only [app]
  refine a_p1 4 (by kernel_rfl) rfl (ev_bin rfl rfl rfl rfl (xor_32 _ _)) (fun _ _ _ h => h) (g0 rfl) rfl rfl ?_
  refine ac 6 (by kernel_rfl) (sl_cons (hG 1 rfl) (sl_cons (hG 1 rfl) (sl_cons (hG 1 rfl) (sl_cons (hG 1 rfl) sl_nil)))) ?_
  obtain ⟨r13, Hc14, H⟩ := bind_some' H
  refine k_call (c_turn_Right (at' 0 a0_v.l 0) 22 r13 Hc14) Tryz.call225 rfl rfl rfl [] [] rfl rfl (g0 rfl) rfl rfl ?_
  rintro _ _ _ ⟨rfl, rfl, rfl⟩
  dsimp only [app]
  refine a_p1 7 (by kernel_rfl) rfl (ev_bin rfl rfl rfl rfl (xor_32 _ _)) (fun _ _ _ h => h) (g0 rfl) rfl rfl ?_
  refine a_p1 23 (by kernel_rfl) rfl (ev_bin rfl rfl rfl rfl (add_32 _ _)) (fun _ _ _ h => h) (g0 rfl) rfl rfl ?_
  refine a_run ft [24] rfl (fun _ _ _ _ _ h => h) (by kernel_rfl) rfl ?_
  refine a_done (by kernel_rfl) (sl_cons (hG 1 rfl) (sl_cons (hG 1 rfl) (sl_cons (hG 1 rfl) (sl_cons (hG 1 rfl) sl_nil)))) ?_
  refine q_then ?_
  refine s_seq ?_
  refine s_reg [0, 1, 2, 3, 4, 5, 6, 7, 8, 9, 10, 11, 12, 13, 14, 15, 16, 17, 18] rfl ?_
  refine o_run ft [0, 1] rfl rfl ?_
  refine o_pu rfl (ev_bin rfl rfl rfl rfl (add_32 _ _)) (g0 rfl) rfl rfl ?_
  refine o_run ft [3] rfl rfl ?_
  refine o_pu rfl (ev_idx_array (k := 1) rfl rfl rfl Tryz.runUnderlying176 Tryz.sizeOf141 ⟨by omega, by omega⟩ rfl) (g0 rfl) rfl rfl ?_
  refine o_ld (hG 1 rfl) rfl (ev_ld1 (j := 1) rfl rfl Tryz.isAgg141 (sub_arr E32_len 0 _ (k := 1) ⟨by omega, by omega⟩ rfl) rfl) (g0 rfl) rfl rfl ?_
  refine o_pu rfl (ev_idx_array (k := 2) rfl rfl rfl Tryz.runUnderlying176 Tryz.sizeOf141 ⟨by omega, by omega⟩ rfl) (g0 rfl) rfl rfl ?_
  refine o_ld (hG 1 rfl) rfl (ev_ld1 (j := 2) rfl rfl Tryz.isAgg141 (sub_arr E32_len 0 _ (k := 2) ⟨by omega, by omega⟩ rfl) rfl) (g0 rfl) rfl rfl ?_
  refine o_pu rfl (ev_idx_array (k := 3) rfl rfl rfl Tryz.runUnderlying176 Tryz.sizeOf141 ⟨by omega, by omega⟩ rfl) (g0 rfl) rfl rfl ?_
  refine o_ld (hG 1 rfl) rfl (ev_ld1 (j := 3) rfl rfl Tryz.isAgg141 (sub_arr E32_len 0 _ (k := 3) ⟨by omega, by omega⟩ rfl) rfl) (g0 rfl) rfl rfl ?_
  refine o_run ft [10] rfl rfl ?_
  refine o_pu rfl (ev_bin rfl rfl rfl rfl (add_32 _ _)) (g0 rfl) rfl rfl ?_
  refine o_run ft [12] rfl rfl ?_
  refine o_pu rfl (ev_idx_array (k := 5) rfl rfl rfl Tryz.runUnderlying176 Tryz.sizeOf141 ⟨by omega, by omega⟩ rfl) (g0 rfl) rfl rfl ?_
  refine o_ld (hG 1 rfl) rfl (ev_ld1 (j := 5) rfl rfl Tryz.isAgg141 (sub_arr E32_len 0 _ (k := 5) ⟨by omega, by omega⟩ rfl) rfl) (g0 rfl) rfl rfl ?_
  refine o_pu rfl (ev_idx_array (k := 6) rfl rfl rfl Tryz.runUnderlying176 Tryz.sizeOf141 ⟨by omega, by omega⟩ rfl) (g0 rfl) rfl rfl ?_
  refine o_ld (hG 1 rfl) rfl (ev_ld1 (j := 6) rfl rfl Tryz.isAgg141 (sub_arr E32_len 0 _ (k := 6) ⟨by omega, by omega⟩ rfl) rfl) (g0 rfl) rfl rfl ?_
  refine o_pu rfl (ev_build_arr (f := E32) (a := (⟨[((((((at' 0 a0_v.l 7) + ((r3 ^^^ r5) ^^^ r7)) + (((at' 0 a0_v.l 4) &&& (at' 0 a0_v.l 5)) ^^^ ((~~~(at' 0 a0_v.l 4)) &&& (at' 0 a0_v.l 6)))) + a1_more) + (((r9 ^^^ r11) ^^^ r13) + ((((at' 0 a0_v.l 0) &&& (at' 0 a0_v.l 1)) ^^^ ((at' 0 a0_v.l 0) &&& (at' 0 a0_v.l 2))) ^^^ ((at' 0 a0_v.l 1) &&& (at' 0 a0_v.l 2))))) : UInt32), ((at' 0 a0_v.l 0) : UInt32), ((at' 0 a0_v.l 1) : UInt32), ((at' 0 a0_v.l 2) : UInt32), (((at' 0 a0_v.l 3) + ((((at' 0 a0_v.l 7) + ((r3 ^^^ r5) ^^^ r7)) + (((at' 0 a0_v.l 4) &&& (at' 0 a0_v.l 5)) ^^^ ((~~~(at' 0 a0_v.l 4)) &&& (at' 0 a0_v.l 6)))) + a1_more)) : UInt32), ((at' 0 a0_v.l 4) : UInt32), ((at' 0 a0_v.l 5) : UInt32), ((at' 0 a0_v.l 6) : UInt32)], rfl⟩ : Arr UInt32 8)) rfl rfl Tryz.zeroValue176 Tryz.runUnderlying176 Tryz.sizeOf141 (fill_all rfl rfl rfl rfl rfl)) (g0 rfl) rfl rfl ?_
  refine oc (k_st (j := 0) rfl rfl rfl rfl (vs := (⟨[((((((at' 0 a0_v.l 7) + ((r3 ^^^ r5) ^^^ r7)) + (((at' 0 a0_v.l 4) &&& (at' 0 a0_v.l 5)) ^^^ ((~~~(at' 0 a0_v.l 4)) &&& (at' 0 a0_v.l 6)))) + a1_more) + (((r9 ^^^ r11) ^^^ r13) + ((((at' 0 a0_v.l 0) &&& (at' 0 a0_v.l 1)) ^^^ ((at' 0 a0_v.l 0) &&& (at' 0 a0_v.l 2))) ^^^ ((at' 0 a0_v.l 1) &&& (at' 0 a0_v.l 2))))) : UInt32), ((at' 0 a0_v.l 0) : UInt32), ((at' 0 a0_v.l 1) : UInt32), ((at' 0 a0_v.l 2) : UInt32), (((at' 0 a0_v.l 3) + ((((at' 0 a0_v.l 7) + ((r3 ^^^ r5) ^^^ r7)) + (((at' 0 a0_v.l 4) &&& (at' 0 a0_v.l 5)) ^^^ ((~~~(at' 0 a0_v.l 4)) &&& (at' 0 a0_v.l 6)))) + a1_more)) : UInt32), ((at' 0 a0_v.l 4) : UInt32), ((at' 0 a0_v.l 5) : UInt32), ((at' 0 a0_v.l 6) : UInt32)], rfl⟩ : Arr UInt32 8).l.flatMap E32) rfl (sz (arr_len E32_len _ rfl) Tryz.sizeOf176) (arr_sc E32_one _) 0 rfl (spl_all ((arr_len E32_len _ rfl).trans (arr_len E32_len _ rfl).symm)) rfl (g0 rfl) rfl ?_)
  refine o_nil ?_
  refine q_then ?_
  refine s_ret ?_
  cases H
  exact q_end (rs_1 Tryz.results202 (rv_cell (j := 0) rfl (hG 0 rfl) Tryz.isAgg176 (sz (arr_len E32_len _ rfl) Tryz.sizeOf176) (sub_all _) rfl)) ⟨rfl, rfl, rfl⟩ [] rfl 0 rfl [] rfl 2 rfl

def nor_New (a0_n : Int) : Option FlashS :=
bnd (if 0 < (if 400 < a0_n then 400 else a0_n) then (if 400 < a0_n then 400 else a0_n) else 0) fun x1 =>
(slices_Repeat ([255] : List UInt8) (wrap64 (x1 * 320))).bind fun r163 =>
chk (0 ≤ x1 ∧ x1 ≤ 68719476736) <|
chk ((List.replicate x1.toNat (0 : Int)).length = x1.toNat) <|
some (⟨r163, (List.replicate x1.toNat (0 : Int)), (-1), [], false, 0⟩ : FlashS)

theorem c_nor_New (a0_n : Int) (r : FlashS) (H : nor_New a0_n = some r) : Fn Tryz.prog 11 [(vi a0_n)] [] [] (fun v D' G' => ∃ (b443 : Nat) (g444 : FlashG), v = (.pointer (some ⟨b443, 0, none⟩)) ∧ D' = [] ∧ G' = [FlashT g444 b443 r]) := by
  unfold nor_New at H
  refine fn_of Tryz.func11 rfl Tryz.ntmps11 rfl ?_
  intro w0 D0 G0
  dsimp only [app, initEnv, Nat.zero_add, Nat.reduceAdd]
  refine s_seq ?_
  refine s_reg [0] rfl ?_
  refine o_run ft [0] rfl rfl ?_
  refine o_nil ?_
  refine q_then ?_
  refine s_seq ?_
  refine s_reg [0, 1, 2, 3] rfl ?_
  refine o_run ft [0] rfl rfl ?_
  refine o_pu rfl (ev_min rfl rfl rfl) (g0 rfl) rfl rfl ?_
  refine o_pu rfl (ev_max rfl rfl rfl) (g0 rfl) rfl rfl ?_
  obtain ⟨x1, hx2⟩ : ∃ x : Int, x = (if 0 < (if 400 < a0_n then 400 else a0_n) then (if 400 < a0_n then 400 else a0_n) else 0) := ⟨_, rfl⟩
  have H := bnd_eq H hx2
  refine k_eq (v' := vi x1) 5 rfl (by rw [hx2]) ?_
  refine o_run ft [3] rfl rfl ?_
  refine o_nil ?_
  refine q_then ?_
  refine s_seq ?_
  obtain ⟨r163, Hc164, H⟩ := bind_some' H
  obtain ⟨hk244, H⟩ := chk_some H
  refine s_draw mixed [] ?_
  refine wa_loc fun R to fro => to ?_
  have hN2_4 : ∀ (b165 : Nat), ∀ (b243 : Nat), ∀ (b323 : Nat), ∀ (b43 : Nat), (chk ((List.replicate x1.toNat (0 : Int)).length = x1.toNat) <| some (⟨r163, (List.replicate x1.toNat (0 : Int)), (-1), [], false, 0⟩ : FlashS)) = some r → R (Sl E8 (some ⟨b43, 0, none⟩) 1 ([255] : List UInt8) :: D0) (At b165 0 (r163.flatMap E8) :: At b243 0 ((List.replicate x1.toNat (0 : Int)).flatMap Ei) :: At b323 0 [.slice (some ⟨b165, 0, none⟩) r163.length r163.length, .slice (some ⟨b243, 0, none⟩) x1.toNat x1.toNat, vi (-1), .slice none 0 0, vb false, vi 0] :: G0) [(2, (.pointer (some ⟨b323, 0, none⟩)))] 0 #[true, true, true, true, true, true, true, true, true] := by
    intro b165 b243 b323 b43 H
    refine to ?_
    refine a_done (by kernel_rfl) sl_nil ?_
    refine q_then ?_
    refine s_ret ?_
    refine k_nil_sl E8 ?_
    obtain ⟨hk443, H⟩ := chk_some H
    refine k_tok 2 (A' := At b323 0 [.slice (some ⟨b165, 0, none⟩) r163.length r163.length, .slice (some ⟨b243, 0, none⟩) ((List.replicate x1.toNat (0 : Int)).length) ((List.replicate x1.toNat (0 : Int)).length), vi (-1), .slice none 0 0, vb false, vi 0]) rfl (by rw [hk443]) ?_
    refine k_pk (FlashT ⟨b165, b243, none, 0⟩ b323 (⟨r163, (List.replicate x1.toNat (0 : Int)), (-1), [], false, 0⟩ : FlashS)) rfl [0] [2, 0, 0] rfl rfl ?_
    cases H
    exact q_end (rs_1 Tryz.results11 (rv_tmp rfl)) ⟨b323, ⟨b165, b243, none, 0⟩, rfl, rfl, rfl⟩ [] rfl 2 rfl [0] rfl 0 rfl
  have hN2_3 : ∀ (b165 : Nat), ∀ (b243 : Nat), ∀ (b43 : Nat), (chk ((List.replicate x1.toNat (0 : Int)).length = x1.toNat) <| some (⟨r163, (List.replicate x1.toNat (0 : Int)), (-1), [], false, 0⟩ : FlashS)) = some r → R (Sl E8 (some ⟨b43, 0, none⟩) 1 ([255] : List UInt8) :: D0) (At b165 0 (r163.flatMap E8) :: At b243 0 ((List.replicate x1.toNat (0 : Int)).flatMap Ei) :: G0) [(2, (.pointer none)), (12, (.agg ([.slice (some ⟨b165, 0, none⟩) r163.length r163.length, .slice (some ⟨b243, 0, none⟩) x1.toNat x1.toNat, vi (-1), .slice none 0 0, vb false, vi 0]).toArray))] 2 #[true, true, true, true, true, true, true, false, false] := by
    intro b165 b243 b43 H
    refine to ?_
    refine acs [7] rfl (by kernel_rfl) sl_nil ⟨?_, trivial⟩
    · refine k_box rfl rfl rfl (cs := [.slice (some ⟨b165, 0, none⟩) r163.length r163.length, .slice (some ⟨b243, 0, none⟩) x1.toNat x1.toNat, vi (-1), .slice none 0 0, vb false, vi 0]) rfl (g0 rfl) rfl rfl ?_
      intro b323
      refine a_run ft [8] rfl (fun _ _ _ _ _ h => h) (by kernel_rfl) rfl ?_
      exact wa_l (by kernel_rfl) (k_wk (fro (hN2_4 b165 b243 b323 b43 H)) [2] [0] 1 [1, 1, 0] 0 rfl rfl rfl)
  have hN2_2 : ∀ (b165 : Nat), ∀ (b43 : Nat), (chk ((List.replicate x1.toNat (0 : Int)).length = x1.toNat) <| some (⟨r163, (List.replicate x1.toNat (0 : Int)), (-1), [], false, 0⟩ : FlashS)) = some r → R (Sl E8 (some ⟨b43, 0, none⟩) 1 ([255] : List UInt8) :: D0) (At b165 0 (r163.flatMap E8) :: G0) [(2, (.pointer none)), (9, (.slice (some ⟨b165, 0, none⟩) r163.length r163.length)), (10, (vi x1))] 4 #[true, true, true, true, true, false, false, false, false] := by
    intro b165 b43 H
    refine to ?_
    refine acs [5] rfl (by kernel_rfl) sl_nil ⟨?_, trivial⟩
    · refine k_make (f := Ei) (m := x1) (0 : Int) rfl rfl rfl rfl Tryz.underlying64 info3 rfl rfl rfl rfl rfl hk244 (g0 rfl) rfl rfl ?_
      intro b243
      refine a_p1 6 (by kernel_rfl) rfl (ev_build (cs := [.slice (some ⟨b165, 0, none⟩) r163.length r163.length, .slice (some ⟨b243, 0, none⟩) x1.toNat x1.toNat, vi (-1), .slice none 0 0, vb false, vi 0]) rfl rfl Tryz.zeroValue87 Tryz.runUnderlying87 pl87 (show Instr.fill _ ([.slice none 0 0, .slice none 0 0, vi 0, .slice none 0 0, vb false, vi 0] : List Value).toArray _ = some _ from (fill_cons rfl (s := [.slice (some ⟨b165, 0, none⟩) r163.length r163.length]) rfl rfl (spl_lit (j := 0) (cs' := [.slice (some ⟨b165, 0, none⟩) r163.length r163.length, .slice none 0 0, vi 0, .slice none 0 0, vb false, vi 0]) rfl rfl) (fill_cons rfl (s := [.slice (some ⟨b243, 0, none⟩) x1.toNat x1.toNat]) rfl rfl (spl_lit (j := 1) (cs' := [.slice (some ⟨b165, 0, none⟩) r163.length r163.length, .slice (some ⟨b243, 0, none⟩) x1.toNat x1.toNat, vi 0, .slice none 0 0, vb false, vi 0]) rfl rfl) (fill_cons rfl (s := [vi (-1)]) rfl rfl (spl_lit (j := 2) (cs' := [.slice (some ⟨b165, 0, none⟩) r163.length r163.length, .slice (some ⟨b243, 0, none⟩) x1.toNat x1.toNat, vi (-1), .slice none 0 0, vb false, vi 0]) rfl rfl) fill_nil))))) (fun _ _ _ h => h) (g0 rfl) rfl rfl ?_
      exact wa_l (by kernel_rfl) (k_wk (fro (hN2_3 b165 b243 b43 H)) [2, 12] [0] 1 [1, 0] 0 rfl rfl rfl)
  have hN2_5 : ∀ (b243 : Nat), ∀ (b43 : Nat), (chk ((List.replicate x1.toNat (0 : Int)).length = x1.toNat) <| some (⟨r163, (List.replicate x1.toNat (0 : Int)), (-1), [], false, 0⟩ : FlashS)) = some r → R (Sl E8 (some ⟨b43, 0, none⟩) 1 ([255] : List UInt8) :: D0) (At b243 0 ((List.replicate x1.toNat (0 : Int)).flatMap Ei) :: G0) [(2, (.pointer none)), (6, (.slice (some ⟨b43, 0, none⟩) ([255] : List UInt8).length 1)), (8, (vi (wrap64 (x1 * 320)))), (11, (.slice (some ⟨b243, 0, none⟩) x1.toNat x1.toNat))] 4 #[true, true, true, false, true, true, false, false, false] := by
    intro b243 b43 H
    refine to ?_
    refine acs [3] rfl (by kernel_rfl) sl_nil ⟨?_, trivial⟩
    · refine k_call (c_slices_Repeat ([255] : List UInt8) (some ⟨b43, 0, none⟩) 1 (wrap64 (x1 * 320)) r163 Hc164) Tryz.call35 rfl rfl rfl [0] [] rfl rfl (g0 rfl) rfl rfl ?_
      rintro _ _ _ ⟨b165, rfl, rfl, rfl⟩
      dsimp only [app]
      refine a_p1 6 (by kernel_rfl) rfl (ev_build (cs := [.slice (some ⟨b165, 0, none⟩) r163.length r163.length, .slice (some ⟨b243, 0, none⟩) x1.toNat x1.toNat, vi (-1), .slice none 0 0, vb false, vi 0]) rfl rfl Tryz.zeroValue87 Tryz.runUnderlying87 pl87 (show Instr.fill _ ([.slice none 0 0, .slice none 0 0, vi 0, .slice none 0 0, vb false, vi 0] : List Value).toArray _ = some _ from (fill_cons rfl (s := [.slice (some ⟨b165, 0, none⟩) r163.length r163.length]) rfl rfl (spl_lit (j := 0) (cs' := [.slice (some ⟨b165, 0, none⟩) r163.length r163.length, .slice none 0 0, vi 0, .slice none 0 0, vb false, vi 0]) rfl rfl) (fill_cons rfl (s := [.slice (some ⟨b243, 0, none⟩) x1.toNat x1.toNat]) rfl rfl (spl_lit (j := 1) (cs' := [.slice (some ⟨b165, 0, none⟩) r163.length r163.length, .slice (some ⟨b243, 0, none⟩) x1.toNat x1.toNat, vi 0, .slice none 0 0, vb false, vi 0]) rfl rfl) (fill_cons rfl (s := [vi (-1)]) rfl rfl (spl_lit (j := 2) (cs' := [.slice (some ⟨b165, 0, none⟩) r163.length r163.length, .slice (some ⟨b243, 0, none⟩) x1.toNat x1.toNat, vi (-1), .slice none 0 0, vb false, vi 0]) rfl rfl) fill_nil))))) (fun _ _ _ h => h) (g0 rfl) rfl rfl ?_
      exact wa_l (by kernel_rfl) (k_wk (fro (hN2_3 b165 b243 b43 H)) [2, 12] [0] 1 [0, 0] 0 rfl rfl rfl)
  have hN2_1 : ∀ (b43 : Nat), (chk ((List.replicate x1.toNat (0 : Int)).length = x1.toNat) <| some (⟨r163, (List.replicate x1.toNat (0 : Int)), (-1), [], false, 0⟩ : FlashS)) = some r → R (Sl E8 (some ⟨b43, 0, none⟩) 1 ([255] : List UInt8) :: D0) (G0) [(2, (.pointer none)), (6, (.slice (some ⟨b43, 0, none⟩) ([255] : List UInt8).length 1)), (8, (vi (wrap64 (x1 * 320)))), (10, (vi x1))] 5 #[true, true, true, false, true, false, false, false, false] := by
    intro b43 H
    refine to ?_
    refine acs [3, 5] rfl (by kernel_rfl) sl_nil ⟨?_, ?_, trivial⟩
    · refine k_call (c_slices_Repeat ([255] : List UInt8) (some ⟨b43, 0, none⟩) 1 (wrap64 (x1 * 320)) r163 Hc164) Tryz.call35 rfl rfl rfl [0] [] rfl rfl (g0 rfl) rfl rfl ?_
      rintro _ _ _ ⟨b165, rfl, rfl, rfl⟩
      dsimp only [app]
      exact wa_l (by kernel_rfl) (k_wk (fro (hN2_2 b165 b43 H)) [2, 9, 10] [0] 1 [0] 0 rfl rfl rfl)
    · refine k_make (f := Ei) (m := x1) (0 : Int) rfl rfl rfl rfl Tryz.underlying64 info3 rfl rfl rfl rfl rfl hk244 (g0 rfl) rfl rfl ?_
      intro b243
      exact wa_l (by kernel_rfl) (k_wk (fro (hN2_5 b243 b43 H)) [2, 6, 8, 11] [0] 1 [0] 0 rfl rfl rfl)
  have hN2_6 : ∀ (b243 : Nat), (chk ((List.replicate x1.toNat (0 : Int)).length = x1.toNat) <| some (⟨r163, (List.replicate x1.toNat (0 : Int)), (-1), [], false, 0⟩ : FlashS)) = some r → R (D0) (At b243 0 ((List.replicate x1.toNat (0 : Int)).flatMap Ei) :: G0) [(2, (.pointer none)), (8, (vi (wrap64 (x1 * 320)))), (11, (.slice (some ⟨b243, 0, none⟩) x1.toNat x1.toNat))] 5 #[false, true, true, false, true, true, false, false, false] := by
    intro b243 H
    refine to ?_
    refine acs [0] rfl (by kernel_rfl) sl_nil ⟨?_, trivial⟩
    · refine k_buildSlice (f := E8) ([255] : List UInt8) rfl rfl rfl rfl Tryz.runUnderlying22 Tryz.sizeOf5 Tryz.zeroValue5 rfl rfl (fill_all rfl rfl (by simp) rfl rfl) (g0 rfl) rfl rfl ?_
      intro b43
      exact wa_l (by kernel_rfl) (k_wk (fro (hN2_5 b243 b43 H)) [2, 6, 8, 11] [0] 1 [0] 0 rfl rfl rfl)
  have hN2_0 : (chk ((List.replicate x1.toNat (0 : Int)).length = x1.toNat) <| some (⟨r163, (List.replicate x1.toNat (0 : Int)), (-1), [], false, 0⟩ : FlashS)) = some r → R (D0) (G0) [(2, (.pointer none)), (8, (vi (wrap64 (x1 * 320)))), (10, (vi x1))] 6 #[false, true, true, false, true, false, false, false, false] := by
    intro H
    refine to ?_
    refine acs [0, 5] rfl (by kernel_rfl) sl_nil ⟨?_, ?_, trivial⟩
    · refine k_buildSlice (f := E8) ([255] : List UInt8) rfl rfl rfl rfl Tryz.runUnderlying22 Tryz.sizeOf5 Tryz.zeroValue5 rfl rfl (fill_all rfl rfl (by simp) rfl rfl) (g0 rfl) rfl rfl ?_
      intro b43
      exact wa_l (by kernel_rfl) (k_wk (fro (hN2_1 b43 H)) [2, 6, 8, 10] [0] 1 [] 0 rfl rfl rfl)
    · refine k_make (f := Ei) (m := x1) (0 : Int) rfl rfl rfl rfl Tryz.underlying64 info3 rfl rfl rfl rfl rfl hk244 (g0 rfl) rfl rfl ?_
      intro b243
      exact wa_l (by kernel_rfl) (k_wk (fro (hN2_6 b243 H)) [2, 8, 11] [] 0 [0] 0 rfl rfl rfl)
  refine a_run ft [1, 2, 4] rfl (fun _ _ _ _ _ h => h) (by kernel_rfl) rfl ?_
  exact wa_l (by kernel_rfl) (k_wk (fro (hN2_0 H)) [2, 8, 10] [] 0 [] 0 rfl rfl rfl)

def slot_May (a0_a : AreaS) (a1_slot : Int) (a2_k : Int) (a3_sectors : Int) (fl0 : FlashS) : Option Bool :=
(slot_From a1_slot a2_k a3_sectors).bind fun r1 =>
(area_Area_Blank a0_a r1 fl0).bind fun r3 =>
bnd r3 fun b5 =>
jn (fun x8 =>
some x8) fun J7 =>
bif b5 then (
J7 true) else
(area_Area_Left a0_a r1 fl0).bind fun r9 =>
J7 (decide (r9 > 0))

theorem c_slot_May (fp0 : Nat) (a0_ap : Nat) (a0_a : AreaS) (a1_slot : Int) (a2_k : Int) (a3_sectors : Int) (fl0 : FlashS) (fl0g : FlashG) (r : Bool) (H : slot_May a0_a a1_slot a2_k a3_sectors fl0 = some r) : Fn Tryz.prog 94 [(.pointer (some ⟨a0_ap, 0, none⟩)), (vi a1_slot), (vi a2_k), (vi a3_sectors)] [] [AreaT fp0 () a0_ap a0_a, FlashT fl0g fp0 fl0] (fun v D' G' => v = (vb r) ∧ D' = [] ∧ G' = [AreaT fp0 () a0_ap a0_a, FlashT fl0g fp0 fl0]) := by
  unfold slot_May at H
  refine fn_of Tryz.func94 rfl Tryz.ntmps94 rfl ?_
  intro w0 D0 G0
  dsimp only [app, initEnv, Nat.zero_add, Nat.reduceAdd]
  refine s_seq ?_
  refine s_reg [0] rfl ?_
  refine o_run ft [0] rfl rfl ?_
  refine o_nil ?_
  refine q_then ?_
  refine s_seq ?_
  refine s_reg [0, 1, 2, 3, 4] rfl ?_
  refine o_run ft [0, 1, 2] rfl rfl ?_
  obtain ⟨r1, Hc2, H⟩ := bind_some' H
  refine oc (k_call (c_slot_From a1_slot a2_k a3_sectors r1 Hc2) Tryz.call93 rfl rfl rfl [] [] rfl rfl (g0 rfl) rfl rfl ?_)
  rintro _ _ _ ⟨rfl, rfl, rfl⟩
  dsimp only [app]
  refine o_run ft [4] rfl rfl ?_
  refine o_nil ?_
  refine q_then ?_
  refine s_seq ?_
  refine s_reg [0, 1, 2, 3, 4, 5, 6, 7, 8, 9] rfl ?_
  refine o_run ft [0, 1] rfl rfl ?_
  obtain ⟨r3, Hc4, H⟩ := bind_some' H
  refine oc (k_call (c_area_Area_Blank fp0 a0_ap a0_a r1 fl0 fl0g r3 Hc4) Tryz.call95 rfl rfl rfl [] [0, 0] rfl rfl (g0 rfl) rfl rfl ?_)
  rintro _ _ _ ⟨rfl, rfl, rfl⟩
  dsimp only [app]
  refine o_run ft [3] rfl rfl ?_
  refine k_name 17 rfl ?_
  intro b5 hb6
  have H := bnd_eq H hb6
  refine o_jb 22 [9] [0, 1, 2, 3, 8, 9, 10, 11, 12, 13, 14, 15, 16, 17] H rfl ?_ ?_
  · intro x8 H
    refine o_run ft [9] rfl rfl ?_
    refine o_nil ?_
    refine q_then ?_
    refine s_ret ?_
    cases H
    exact q_end (rs_1 Tryz.results94 (rv_tmp rfl)) ⟨rfl, rfl, rfl⟩ [] rfl 0 rfl [0, 0] rfl 0 rfl
  · intro J7 J7h H
    cases b5 with
    | true =>
      rw [cond_true] at H
      refine o_gnot rfl rfl rfl rfl rfl rfl rfl rfl ?_
      refine o_gnot rfl rfl rfl rfl rfl rfl rfl rfl ?_
      refine o_gnot rfl rfl rfl rfl rfl rfl rfl rfl ?_
      refine o_gnot rfl rfl rfl rfl rfl rfl rfl rfl ?_
      refine o_run ft [8] rfl rfl ?_
      exact k_wk (J7h true H) [22, 0, 1, 2, 3, 8, 9, 10, 11, 12, 13, 14, 15, 16, 17] [] 0 [0, 0] 0 rfl rfl rfl
    | false =>
      rw [cond_false] at H
      refine o_run ft [4, 5] rfl rfl ?_
      obtain ⟨r9, Hc10, H⟩ := bind_some' H
      refine oc (k_call (c_area_Area_Left fp0 a0_ap a0_a r1 fl0 fl0g r9 Hc10) Tryz.call158 rfl rfl rfl [] [0, 0] rfl rfl (g1 rfl rfl rfl rfl) rfl rfl ?_)
      rintro _ _ _ ⟨rfl, rfl, rfl⟩
      dsimp only [app]
      refine o_run ft [7, 8] rfl rfl ?_
      exact k_wk (J7h (decide (r9 > 0)) H) [22, 0, 1, 2, 3, 8, 9, 10, 11, 12, 13, 14, 15, 16, 17] [] 0 [0, 0] 0 rfl rfl rfl

def area_Area_Erase (a0_a : AreaS) (a1_sector : Int) (fl0 : FlashS) : Option (Int × FlashS) :=
(area_Area_is a0_a a1_sector).bind fun r1 =>
bif (!r1) then (
some (2, fl0)) else (
(area_Area_Left a0_a a1_sector fl0).bind fun r4 =>
bif (r4 == 0) then (
some (5, fl0)) else (
(nor_Flash_Erase fl0 (wrap64 (a0_a.from_ + a1_sector))).bind fun r7 =>
some (r7.1, r7.2)))

theorem c_area_Area_Erase (fp0 : Nat) (a0_ap : Nat) (a0_a : AreaS) (a1_sector : Int) (fl0 : FlashS) (fl0g : FlashG) (r : Int × FlashS) (H : area_Area_Erase a0_a a1_sector fl0 = some r) : Fn Tryz.prog 96 [(.pointer (some ⟨a0_ap, 0, none⟩)), (vi a1_sector)] [] [AreaT fp0 () a0_ap a0_a, FlashT fl0g fp0 fl0] (fun v D' G' => ∃ (g10 : FlashG), v = (vi r.1) ∧ D' = [] ∧ G' = [AreaT fp0 () a0_ap a0_a, FlashT g10 fp0 r.2]) := by
  unfold area_Area_Erase at H
  refine fn_of Tryz.func96 rfl Tryz.ntmps96 rfl ?_
  intro w0 D0 G0
  dsimp only [app, initEnv, Nat.zero_add, Nat.reduceAdd]
  refine s_seq ?_
  refine s_reg [0] rfl ?_
  refine o_run ft [0] rfl rfl ?_
  refine o_nil ?_
  refine q_then ?_
  refine s_seq ?_
  refine s_block ?_
  refine s_seq ?_
  refine s_reg [0, 1, 2, 3, 4] rfl ?_
  refine o_run ft [0, 1] rfl rfl ?_
  obtain ⟨r1, Hc2, H⟩ := bind_some' H
  refine oc (k_call (c_area_Area_is fp0 a0_ap a0_a a1_sector r1 Hc2) Tryz.call159 rfl rfl rfl [] [0] rfl rfl (g0 rfl) rfl rfl ?_)
  rintro _ _ _ ⟨rfl, rfl, rfl⟩
  dsimp only [app]
  refine o_run ft [3, 4] rfl rfl ?_
  refine o_nil ?_
  refine q_then ?_
  refine s_cond rfl ?_ ?_
  · intro hb3
    have H := cnd_t H hb3
    refine s_seq ?_
    refine s_reg [0] rfl ?_
    refine o_run ft [0] rfl rfl ?_
    refine o_nil ?_
    refine q_then ?_
    refine s_ret ?_
    refine q_block_r ?_
    refine q_then_r ?_
    cases H
    exact q_end (rs_1 Tryz.results96 (rv_tmp rfl)) ⟨fl0g, rfl, rfl, rfl⟩ [] rfl 0 rfl [0, 0] rfl 0 rfl
  · intro hb3
    have H := cnd_f H hb3
    refine s_seq ?_
    refine s_reg [0, 1, 2, 3, 4] rfl ?_
    refine o_run ft [0, 1] rfl rfl ?_
    obtain ⟨r4, Hc5, H⟩ := bind_some' H
    refine oc (k_call (c_area_Area_Left fp0 a0_ap a0_a a1_sector fl0 fl0g r4 Hc5) Tryz.call158 rfl rfl rfl [] [0, 0] rfl rfl (g0 rfl) rfl rfl ?_)
    rintro _ _ _ ⟨rfl, rfl, rfl⟩
    dsimp only [app]
    refine o_run ft [3, 4] rfl rfl ?_
    refine o_nil ?_
    refine q_then ?_
    refine s_cond rfl ?_ ?_
    · intro hb6
      have H := cnd_t H hb6
      refine s_seq ?_
      refine s_reg [0] rfl ?_
      refine o_run ft [0] rfl rfl ?_
      refine o_nil ?_
      refine q_then ?_
      refine s_ret ?_
      refine q_block_r ?_
      refine q_then_r ?_
      cases H
      exact q_end (rs_1 Tryz.results96 (rv_tmp rfl)) ⟨fl0g, rfl, rfl, rfl⟩ [] rfl 0 rfl [0, 0] rfl 0 rfl
    · intro hb6
      have H := cnd_f H hb6
      refine s_skip ?_
      refine q_block ?_
      refine q_then ?_
      refine s_seq ?_
      refine k_unp 0 rfl ?_
      dsimp only [app, del]
      refine s_draw mixed [(3, [10], Has a0_ap 0 [.pointer (some ⟨fp0, 0, none⟩), vi a0_a.from_, vi a0_a.len, vi a0_a.budget]), (7, [], Has a0_ap 0 [.pointer (some ⟨fp0, 0, none⟩), vi a0_a.from_, vi a0_a.len, vi a0_a.budget])] ?_
      refine a_run ft [0, 1, 2] rfl (fun _ _ _ _ _ h => h) (by kernel_rfl) rfl ?_
      refine a_l1 3 0 rfl (by kernel_rfl) rfl (ev_ld1 (j := 0) rfl rfl Tryz.isAgg29 (sub_nth (j := 0) rfl) rfl) (fun _ _ _ h => h) (g0 rfl) rfl rfl ?_
      refine a_run ft [4, 5, 6] rfl (fun _ _ _ _ _ h => h) (by kernel_rfl) rfl ?_
      refine a_l1 7 1 rfl (by kernel_rfl) rfl (ev_ld1 (j := 1) rfl rfl Tryz.isAgg3 (sub_nth (j := 1) rfl) rfl) (fun _ _ _ h => h) (g0 rfl) rfl rfl ?_
      refine a_run ft [8, 9] rfl (fun _ _ _ _ _ h => h) (by kernel_rfl) rfl ?_
      refine ac 10 (by kernel_rfl) (sl_cons (hG 0 rfl) (sl_cons (hG 0 rfl) sl_nil)) ?_
      obtain ⟨r7, Hc8, H⟩ := bind_some' H
      refine k_call (c_nor_Flash_Erase fp0 fl0 fl0g (wrap64 (a0_a.from_ + a1_sector)) r7 Hc8) Tryz.call161 rfl rfl rfl [] [1] rfl rfl (g0 rfl) rfl rfl ?_
      rintro _ _ _ ⟨g9, rfl, rfl, rfl⟩
      dsimp only [app]
      refine a_run ft [11] rfl (fun _ _ _ _ _ h => h) (by kernel_rfl) rfl ?_
      refine a_done (by kernel_rfl) (sl_end (by kernel_rfl) (sl_cons (hG 1 rfl) sl_nil)) ?_
      refine q_then ?_
      refine s_ret ?_
      refine k_pk (AreaT fp0 () a0_ap a0_a) rfl [] [1] rfl rfl ?_
      cases H
      exact q_end (rs_1 Tryz.results96 (rv_tmp rfl)) ⟨g9, rfl, rfl, rfl⟩ [] rfl 0 rfl [0, 0] rfl 0 rfl

end Go.Proofs.YtpdoioeckiiegaaGreatDoor.Wl
