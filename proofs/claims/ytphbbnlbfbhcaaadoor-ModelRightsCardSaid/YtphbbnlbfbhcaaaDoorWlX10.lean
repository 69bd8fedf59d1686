import Derived.Test.YtphbbnlbfbhcaaaDoorWlW
import Derived.Test.YtphbbnlbfbhcaaaDoorWlX0
import Derived.Test.YtphbbnlbfbhcaaaDoorWlX1
import Derived.Test.YtphbbnlbfbhcaaaDoorWlX2
import Derived.Test.YtphbbnlbfbhcaaaDoorWlX6
import Derived.Test.YtphbbnlbfbhcaaaDoorWlX9
set_option linter.unusedSimpArgs false
set_option linter.unusedVariables false
set_option maxRecDepth 10000
namespace Go.Proofs.YtphbbnlbfbhcaaaDoor.Wl
open Go.RowKit Go.Proofs
def hmac_Tag (a0_key : List UInt8) (a1_b : List UInt8) : Option (Arr UInt8 32) :=
(sha_New ).bind fun r6 =>
(sha_New ).bind fun r11 =>
(hmac_pad a0_key (54 : UInt8)).bind fun r16 =>
(sha_Stream_Write (⟨r6.h, r6.count, r6.rest⟩ : StreamS) r16).bind fun r20 =>
(sha_Stream_Write (⟨r20.h, r20.count, r20.rest⟩ : StreamS) a1_b).bind fun r24 =>
(sha_Stream_Sum (⟨r24.h, r24.count, r24.rest⟩ : StreamS)).bind fun r28 =>
(hmac_pad a0_key (92 : UInt8)).bind fun r31 =>
(sha_Stream_Write (⟨r11.h, r11.count, r11.rest⟩ : StreamS) r31).bind fun r35 =>
(sha_Stream_Write (⟨r35.h, r35.count, r35.rest⟩ : StreamS) r28.l).bind fun r39 =>
(sha_Stream_Sum (⟨r39.h, r39.count, r39.rest⟩ : StreamS)).bind fun r43 =>
some r43

theorem c_hmac_Tag (a0_key : List UInt8) (A1 : Option Addr) (c2 : Nat) (a1_b : List UInt8) (A3 : Option Addr) (c4 : Nat) (r : (Arr UInt8 32)) (H : hmac_Tag a0_key a1_b = some r) : Fn Tryd.prog 90 [(.slice A1 a0_key.length c2), (.slice A3 a1_b.length c4)] [Sl E8 A3 c4 a1_b, Sl E8 A1 c2 a0_key] [] (fun v D' G' => v = (.agg (r.l.flatMap E8).toArray) ∧ D' = [] ∧ G' = []) := by
  unfold hmac_Tag at H
  refine fn_of Tryd.func90 rfl Tryd.ntmps90 rfl ?_
  intro w0 D0 G0
  dsimp only [app, initEnv, Nat.zero_add, Nat.reduceAdd]
  refine s_seq ?_
  refine s_reg [0] rfl ?_
  refine oc (k_alloc rfl rfl Tryd.zeroValue69 (cs := (Arr.zero 0 32 : Arr UInt8 32).l.flatMap E8) rfl (g0 rfl) rfl rfl ?_)
  intro b5
  refine o_nil ?_
  refine q_then ?_
  refine s_seq ?_
  refine s_reg [0, 1, 2, 3] rfl ?_
  obtain ⟨r6, Hc7, H⟩ := bind_some' H
  refine oc (k_call (c_sha_New  r6 Hc7) Tryd.call51 rfl rfl rfl [] [] rfl rfl (g0 rfl) rfl rfl ?_)
  rintro _ _ _ ⟨b8, A9, c10, rfl, rfl, rfl⟩
  dsimp only [app]
  obtain ⟨r11, Hc12, H⟩ := bind_some' H
  refine oc (k_call (c_sha_New  r11 Hc12) Tryd.call51 rfl rfl rfl [] [] rfl rfl (g0 rfl) rfl rfl ?_)
  rintro _ _ _ ⟨b13, A14, c15, rfl, rfl, rfl⟩
  dsimp only [app]
  refine o_pu rfl (ev_assign rfl rfl) (g0 rfl) rfl rfl ?_
  refine o_pu rfl (ev_assign rfl rfl) (g0 rfl) rfl rfl ?_
  refine o_nil ?_
  refine q_then ?_
  refine s_seq ?_
  refine s_reg [0, 1, 2, 3] rfl ?_
  refine o_pu rfl (ev_move rfl rfl) (g0 rfl) rfl rfl ?_
  refine o_pu rfl (ev_move rfl rfl) (g0 rfl) rfl rfl ?_
  obtain ⟨r16, Hc17, H⟩ := bind_some' H
  refine oc (k_call (c_hmac_pad a0_key A1 c2 54 r16 Hc17) Tryd.call119 rfl rfl rfl [3] [] rfl rfl (g0 rfl) rfl rfl ?_)
  rintro _ _ _ ⟨A18, c19, rfl, rfl, rfl⟩
  dsimp only [app]
  obtain ⟨r20, Hc21, H⟩ := bind_some' H
  refine oc (k_call (c_sha_Stream_Write b8 (⟨r6.h, r6.count, r6.rest⟩ : StreamS) A9 c10 r16 A18 c19 r20 Hc21) Tryd.call52 rfl rfl rfl [0, 2] [2] rfl rfl (g0 rfl) rfl rfl ?_)
  rintro _ _ _ ⟨A22, c23, rfl, rfl, rfl⟩
  dsimp only [app]
  refine o_nil ?_
  refine q_then ?_
  refine s_seq ?_
  refine s_reg [0, 1, 2] rfl ?_
  refine o_pu rfl (ev_move rfl rfl) (g0 rfl) rfl rfl ?_
  refine o_pu rfl (ev_move rfl rfl) (g0 rfl) rfl rfl ?_
  obtain ⟨r24, Hc25, H⟩ := bind_some' H
  refine oc (k_call (c_sha_Stream_Write b8 (⟨r20.h, r20.count, r20.rest⟩ : StreamS) A22 c23 a1_b A3 c4 r24 Hc25) Tryd.call52 rfl rfl rfl [4, 0] [0] rfl rfl (g0 rfl) rfl rfl ?_)
  rintro _ _ _ ⟨A26, c27, rfl, rfl, rfl⟩
  dsimp only [app]
  refine o_nil ?_
  refine q_then ?_
  refine s_seq ?_
  refine s_reg [0, 1, 2, 3] rfl ?_
  refine o_pu rfl (ev_move rfl rfl) (g0 rfl) rfl rfl ?_
  obtain ⟨r28, Hc29, H⟩ := bind_some' H
  refine oc (k_call (c_sha_Stream_Sum b8 (⟨r24.h, r24.count, r24.rest⟩ : StreamS) A26 c27 r28 Hc29) Tryd.call53 rfl rfl rfl [0] [0] rfl rfl (g0 rfl) rfl rfl ?_)
  rintro _ _ _ ⟨rfl, rfl, rfl⟩
  dsimp only [app]
  refine oc (k_alloc rfl rfl Tryd.zeroValue69 (cs := (Arr.zero 0 32 : Arr UInt8 32).l.flatMap E8) rfl (g0 rfl) rfl rfl ?_)
  intro b30
  refine oc (k_st (j := 0) rfl rfl rfl rfl (vs := r28.l.flatMap E8) rfl (sz (arr_len E8_len _ rfl) Tryd.sizeOf69) (arr_sc E8_one _) 0 rfl (spl_all ((arr_len E8_len _ rfl).trans (arr_len E8_len _ rfl).symm)) rfl (g0 rfl) rfl ?_)
  refine o_nil ?_
  refine q_then ?_
  refine s_seq ?_
  refine s_reg [0, 1, 2, 3] rfl ?_
  refine o_pu rfl (ev_move rfl rfl) (g0 rfl) rfl rfl ?_
  refine o_pu rfl (ev_move rfl rfl) (g0 rfl) rfl rfl ?_
  obtain ⟨r31, Hc32, H⟩ := bind_some' H
  refine oc (k_call (c_hmac_pad a0_key A1 c2 92 r31 Hc32) Tryd.call119 rfl rfl rfl [6] [] rfl rfl (g0 rfl) rfl rfl ?_)
  rintro _ _ _ ⟨A33, c34, rfl, rfl, rfl⟩
  dsimp only [app]
  obtain ⟨r35, Hc36, H⟩ := bind_some' H
  refine oc (k_call (c_sha_Stream_Write b13 (⟨r11.h, r11.count, r11.rest⟩ : StreamS) A14 c15 r31 A33 c34 r35 Hc36) Tryd.call52 rfl rfl rfl [0, 4] [4] rfl rfl (g0 rfl) rfl rfl ?_)
  rintro _ _ _ ⟨A37, c38, rfl, rfl, rfl⟩
  dsimp only [app]
  refine o_nil ?_
  refine q_then ?_
  refine s_seq ?_
  refine s_reg [0, 1, 2] rfl ?_
  refine o_pu rfl (ev_move rfl rfl) (g0 rfl) rfl rfl ?_
  refine o_pu rfl (ev_slice_arr rfl rfl Tryd.runUnderlying69 Tryd.sizeOf5) (g0 rfl) rfl rfl ?_
  refine k_keep 2 rfl ?_
  refine k_ro_sl (f := E8) (cap := 32) r28.l 0 rfl (sub_all _) rfl (Nat.le_of_eq (r28).len) (by decide) ?_
  refine k_eq (v' := (.slice (some ⟨b30, 0, none⟩) r28.l.length 32)) 24 rfl (congrArg (fun z => Value.slice (some ⟨b30, 0, none⟩) z 32) (r28).len.symm) ?_
  refine k_spare_full (some ⟨b30, 0, none⟩) r28.l.length 32 1 (r28).len ?_
  obtain ⟨r39, Hc40, H⟩ := bind_some' H
  refine oc (k_call (c_sha_Stream_Write b13 (⟨r35.h, r35.count, r35.rest⟩ : StreamS) A37 c38 r28.l (some ⟨b30, 0, none⟩) 32 r39 Hc40) Tryd.call52 rfl rfl rfl [0, 2] [1] rfl rfl (g0 rfl) rfl rfl ?_)
  rintro _ _ _ ⟨A41, c42, rfl, rfl, rfl⟩
  dsimp only [app]
  refine o_nil ?_
  refine q_then ?_
  refine s_seq ?_
  refine s_reg [0, 1, 2] rfl ?_
  refine o_pu rfl (ev_move rfl rfl) (g0 rfl) rfl rfl ?_
  obtain ⟨r43, Hc44, H⟩ := bind_some' H
  refine oc (k_call (c_sha_Stream_Sum b13 (⟨r39.h, r39.count, r39.rest⟩ : StreamS) A41 c42 r43 Hc44) Tryd.call53 rfl rfl rfl [0] [0] rfl rfl (g0 rfl) rfl rfl ?_)
  rintro _ _ _ ⟨rfl, rfl, rfl⟩
  dsimp only [app]
  refine oc (k_st (j := 0) rfl rfl rfl rfl (vs := r43.l.flatMap E8) rfl (sz (arr_len E8_len _ rfl) Tryd.sizeOf69) (arr_sc E8_one _) 5 rfl (spl_all ((arr_len E8_len _ rfl).trans (arr_len E8_len _ rfl).symm)) rfl (g0 rfl) rfl ?_)
  refine o_nil ?_
  refine q_then ?_
  refine s_ret ?_
  cases H
  exact q_end (rs_1 Tryd.results90 (rv_cell (j := 0) rfl (hG 5 rfl) Tryd.isAgg69 (sz (arr_len E8_len _ rfl) Tryd.sizeOf69) (sub_all _) rfl)) ⟨rfl, rfl, rfl⟩ [] rfl 12 rfl [] rfl 6 rfl

def manifest_Signed (a0_key : List UInt8) (a1_b : List UInt8) : Option Bool :=
(manifest_Read a1_b).bind fun r5 =>
bif (r5.2.2 != 0) then (
some false) else (
chk (0 ≤ (0 : Int) ∧ (0 : Int) ≤ (60 : Int) ∧ (60 : Int) ≤ (a1_b.length : Int)) <|
(hmac_Tag a0_key (slc a1_b (0 : Int) (60 : Int))).bind fun r14 =>
(hmac_Same r5.2.1 r14.l).bind fun r17 =>
some r17)

theorem c_manifest_Signed (a0_key : List UInt8) (A1 : Option Addr) (c2 : Nat) (a1_b : List UInt8) (A3 : Option Addr) (c4 : Nat) (r : Bool) (H : manifest_Signed a0_key a1_b = some r) : Fn Tryd.prog 57 [(.slice A1 a0_key.length c2), (.slice A3 a1_b.length c4)] [Sl E8 A3 c4 a1_b, Sl E8 A1 c2 a0_key] [] (fun v D' G' => v = (vb r) ∧ D' = [] ∧ G' = []) := by
  unfold manifest_Signed at H
  refine fn_of Tryd.func57 rfl Tryd.ntmps57 rfl ?_
  intro w0 D0 G0
  dsimp only [app, initEnv, Nat.zero_add, Nat.reduceAdd]
  refine s_seq ?_
  refine s_reg [0] rfl ?_
  refine o_pu rfl (ev_assign rfl rfl) (g0 rfl) rfl rfl ?_
  refine o_nil ?_
  refine q_then ?_
  refine s_seq ?_
  refine s_reg [0, 1, 2, 3, 4, 5, 6, 7, 8, 9] rfl ?_
  refine o_pu rfl (ev_move rfl rfl) (g0 rfl) rfl rfl ?_
  obtain ⟨r5, Hc6, H⟩ := bind_some' H
  refine oc (k_call (c_manifest_Read a1_b A3 c4 r5 Hc6) Tryd.call56 rfl rfl rfl [0] [] rfl rfl (g0 rfl) rfl rfl ?_)
  rintro _ _ _ ⟨A7, c8, rfl, rfl, rfl⟩
  dsimp only [app]
  refine o_pu rfl (ev_move rfl rfl) (g0 rfl) rfl rfl ?_
  refine o_pu rfl (ev_extract rfl rfl rfl) (g0 rfl) rfl rfl ?_
  refine o_pu rfl (ev_extract rfl rfl rfl) (g0 rfl) rfl rfl ?_
  refine o_pu rfl (ev_extract rfl rfl rfl) (g0 rfl) rfl rfl ?_
  refine oc (k_alloc rfl rfl Tryd.zeroValue112 (cs := Mani.cells Mani.zero) rfl (g0 rfl) rfl rfl ?_)
  intro b9
  refine oc (k_st (j := 0) rfl rfl rfl rfl (vs := Mani.cells r5.1) rfl (sz (Mani.len _) Tryd.sizeOf112) (Mani.sc _) 0 rfl (spl_all ((Mani.len _).trans (Mani.len _).symm)) rfl (g0 rfl) rfl ?_)
  refine o_pu rfl (ev_assign rfl rfl) (g0 rfl) rfl rfl ?_
  refine o_pu rfl (ev_assign rfl rfl) (g0 rfl) rfl rfl ?_
  refine o_nil ?_
  refine q_then ?_
  refine s_seq ?_
  refine s_seq ?_
  refine s_reg [0, 1] rfl ?_
  refine o_pu rfl (ev_move rfl rfl) (g0 rfl) rfl rfl ?_
  refine o_pu rfl (ev_bin rfl rfl rfl rfl (neq_i _ 0)) (g0 rfl) rfl rfl ?_
  refine o_nil ?_
  refine q_then ?_
  refine s_cond rfl ?_ ?_
  · intro hb10
    have H := cnd_t H hb10
    refine s_seq ?_
    refine s_reg [0] rfl ?_
    refine o_pu rfl (ev_assign rfl rfl) (g0 rfl) rfl rfl ?_
    refine o_nil ?_
    refine q_then ?_
    refine s_ret ?_
    refine q_then_r ?_
    cases H
    exact q_end (rs_1 Tryd.results57 (rv_tmp rfl)) ⟨rfl, rfl, rfl⟩ [] rfl 3 rfl [] rfl 2 rfl
  · intro hb10
    have H := cnd_f H hb10
    refine s_skip ?_
    refine q_then ?_
    refine s_seq ?_
    refine s_reg [0, 1, 2, 3, 4, 5] rfl ?_
    refine o_pu rfl (ev_move rfl rfl) (g0 rfl) rfl rfl ?_
    refine o_pu rfl (ev_move rfl rfl) (g0 rfl) rfl rfl ?_
    obtain ⟨hk13, H⟩ := chk_some H
    refine oc (k_slice (ka := .i64) (a := (0 : Int)) (b := (60 : Int)) 1 rfl rfl rfl rfl E8_len Tryd.runUnderlying32 Tryd.sizeOf5 (.inl ⟨rfl, rfl⟩) (.inr rfl) hk13 (g0 rfl) rfl rfl ?_)
    intro A11 c12
    obtain ⟨r14, Hc15, H⟩ := bind_some' H
    refine oc (k_call (c_hmac_Tag a0_key A1 c2 (slc a1_b (0 : Int) (60 : Int)) A11 c12 r14 Hc15) Tryd.call90 rfl rfl rfl [0, 3] [] rfl rfl (g0 rfl) rfl rfl ?_)
    rintro _ _ _ ⟨rfl, rfl, rfl⟩
    dsimp only [app]
    refine oc (k_alloc rfl rfl Tryd.zeroValue69 (cs := (Arr.zero 0 32 : Arr UInt8 32).l.flatMap E8) rfl (g0 rfl) rfl rfl ?_)
    intro b16
    refine oc (k_st (j := 0) rfl rfl rfl rfl (vs := r14.l.flatMap E8) rfl (sz (arr_len E8_len _ rfl) Tryd.sizeOf69) (arr_sc E8_one _) 0 rfl (spl_all ((arr_len E8_len _ rfl).trans (arr_len E8_len _ rfl).symm)) rfl (g0 rfl) rfl ?_)
    refine o_nil ?_
    refine q_then ?_
    refine s_seq ?_
    refine s_reg [0, 1, 2, 3] rfl ?_
    refine o_pu rfl (ev_move rfl rfl) (g0 rfl) rfl rfl ?_
    refine o_pu rfl (ev_slice_arr rfl rfl Tryd.runUnderlying69 Tryd.sizeOf5) (g0 rfl) rfl rfl ?_
    refine k_keep 0 rfl ?_
    refine k_ro_sl (f := E8) (cap := 32) r14.l 0 rfl (sub_all _) rfl (Nat.le_of_eq (r14).len) (by decide) ?_
    refine k_eq (v' := (.slice (some ⟨b16, 0, none⟩) r14.l.length 32)) 22 rfl (congrArg (fun z => Value.slice (some ⟨b16, 0, none⟩) z 32) (r14).len.symm) ?_
    refine k_spare_full (some ⟨b16, 0, none⟩) r14.l.length 32 1 (r14).len ?_
    obtain ⟨r17, Hc18, H⟩ := bind_some' H
    refine oc (k_call (c_hmac_Same r5.2.1 A7 c8 r14.l (some ⟨b16, 0, none⟩) 32 r17 Hc18) Tryd.call91 rfl rfl rfl [0, 3] [] rfl rfl (g0 rfl) rfl rfl ?_)
    rintro _ _ _ ⟨rfl, rfl, rfl⟩
    dsimp only [app]
    refine o_pu rfl (ev_assign rfl rfl) (g0 rfl) rfl rfl ?_
    refine o_nil ?_
    refine q_then ?_
    refine s_ret ?_
    cases H
    exact q_end (rs_1 Tryd.results57 (rv_tmp rfl)) ⟨rfl, rfl, rfl⟩ [] rfl 6 rfl [] rfl 3 rfl

def model_Model_fact (a0_m : ModelS) (a1_q : Req) : Option FactS :=
(manifest_Read a1_q.Bytes).bind fun r5 =>
jn (fun (x11 : FactS) =>
some x11) fun J10 =>
bnd (r5.2.2 == 0) fun b13 =>
bif b13 then (
(manifest_Signed a0_m.c.Key a1_q.Bytes).bind fun r15 =>
(meta_Other a0_m.m).bind fun r17 =>
(model_Model_image a0_m r17 a0_m.m.Coming.Size).bind fun r19 =>
(sha_Sum r19).bind fun r23 =>
J10 (⟨(r5.1.Name == a0_m.c.Name), r15, r23, false⟩ : FactS)) else (
(manifest_Signed a0_m.c.Key a1_q.Bytes).bind fun r25 =>
(meta_Other a0_m.m).bind fun r27 =>
(model_Model_image a0_m r27 a0_m.m.Coming.Size).bind fun r29 =>
(sha_Sum r29).bind fun r33 =>
J10 (⟨false, r25, r33, false⟩ : FactS))

theorem c_model_Model_fact (a0_mp : Nat) (a0_m : ModelS) (a0_mg : ModelG) (a1_q : Req) (A1 : Option Addr) (c2 : Nat) (r : FactS) (H : model_Model_fact a0_m a1_q = some r) : Fn Tryd.prog 35 [(.pointer (some ⟨a0_mp, 0, none⟩)), (.agg ([vi a1_q.Kind, vi a1_q.N, .slice A1 a1_q.Bytes.length c2]).toArray)] [Sl E8 A1 c2 a1_q.Bytes] [ModelT a0_mg a0_mp a0_m] (fun v D' G' => v = (.agg (FactS.cells r).toArray) ∧ D' = [] ∧ G' = [ModelT a0_mg a0_mp a0_m]) := by
  unfold model_Model_fact at H
  refine fn_of Tryd.func35 rfl Tryd.ntmps35 rfl ?_
  intro w0 D0 G0
  dsimp only [app, initEnv, Nat.zero_add, Nat.reduceAdd]
  refine s_seq ?_
  refine s_reg [0, 1] rfl ?_
  refine oc (k_box rfl rfl rfl (cs := [vi a1_q.Kind, vi a1_q.N, .slice A1 a1_q.Bytes.length c2]) rfl (g0 rfl) rfl rfl ?_)
  intro b3
  refine oc (k_alloc rfl rfl Tryd.zeroValue86 (cs := FactS.cells FactS.zero) rfl (g0 rfl) rfl rfl ?_)
  intro b4
  refine o_nil ?_
  refine q_then ?_
  refine s_seq ?_
  refine s_reg [0, 1, 2, 3, 4, 5, 6, 7, 8, 9, 10] rfl ?_
  refine o_pu rfl (ev_fieldAddr rfl rfl Tryd.runUnderlying34 rfl Tryd.sizeOf32 rfl rfl) (g0 rfl) rfl rfl ?_
  refine o_ld (hG 1 rfl) rfl (ev_ld1 (j := 2) rfl rfl Tryd.isAgg32 (sub_nth (j := 2) rfl) rfl) (g0 rfl) rfl rfl ?_
  obtain ⟨r5, Hc6, H⟩ := bind_some' H
  refine oc (k_call (c_manifest_Read a1_q.Bytes A1 c2 r5 Hc6) Tryd.call56 rfl rfl rfl [0] [] rfl rfl (g0 rfl) rfl rfl ?_)
  rintro _ _ _ ⟨A7, c8, rfl, rfl, rfl⟩
  dsimp only [app]
  refine o_pu rfl (ev_move rfl rfl) (g0 rfl) rfl rfl ?_
  refine o_pu rfl (ev_extract rfl rfl rfl) (g0 rfl) rfl rfl ?_
  refine o_pu rfl (ev_extract rfl rfl rfl) (g0 rfl) rfl rfl ?_
  refine o_pu rfl (ev_extract rfl rfl rfl) (g0 rfl) rfl rfl ?_
  refine oc (k_alloc rfl rfl Tryd.zeroValue112 (cs := Mani.cells Mani.zero) rfl (g0 rfl) rfl rfl ?_)
  intro b9
  refine oc (k_st (j := 0) rfl rfl rfl rfl (vs := Mani.cells r5.1) rfl (sz (Mani.len _) Tryd.sizeOf112) (Mani.sc _) 0 rfl (spl_all ((Mani.len _).trans (Mani.len _).symm)) rfl (g0 rfl) rfl ?_)
  refine o_pu rfl (ev_assign rfl rfl) (g0 rfl) rfl rfl ?_
  refine o_pu rfl (ev_assign rfl rfl) (g0 rfl) rfl rfl ?_
  refine o_nil ?_
  refine q_then ?_
  refine s_seq ?_
  refine q_join (fun (x11 : FactS) (y12 : Unit) => ⟨Sl E8 A7 c8 r5.2.1 :: Sl E8 A1 c2 a1_q.Bytes :: D0, At b9 0 (Mani.cells r5.1) :: At b4 0 (FactS.cells x11) :: At b3 0 [vi a1_q.Kind, vi a1_q.N, .slice A1 a1_q.Bytes.length c2] :: ModelT a0_mg a0_mp a0_m :: Spare A7 r5.2.1.length c8 1 :: G0, [(4, (.pointer (some ⟨b4, 0, none⟩)))]⟩) H ?_ ?_
  · intro x11 y12 H
    dsimp only
    refine q_then ?_
    refine s_ret ?_
    cases H
    exact q_end (rs_1 Tryd.results35 (rv_cell (j := 0) rfl (hG 1 rfl) Tryd.isAgg86 (sz (FactS.len _) Tryd.sizeOf86) (sub_all _) rfl)) ⟨rfl, rfl, rfl⟩ [] rfl 2 rfl [3] rfl 4 rfl
  · intro J10 H
    refine k_unp 4 rfl ?_
    dsimp only [app, del]
    refine s_draw mixed [(4, [35], Has b9 0 (Mani.cells r5.1)), (9, [35], Has a0_mp 0 ([vs a0_m.c.Name, .slice a0_mg.A1 a0_m.c.Key.length a0_mg.c1, vi a0_m.c.Slot, vi a0_m.c.Budget, vi a0_m.c.Quota, vi a0_m.c.Rights, .slice a0_mg.A6 a0_m.c.First.length a0_mg.c6] ++ (MetaS.cells a0_m.m ++ ([.slice (some ⟨a0_mg.b8, 0, none⟩) a0_m.slots0.length a0_m.slots0.length, .slice (some ⟨a0_mg.b9, 0, none⟩) a0_m.slots1.length a0_m.slots1.length])))), (16, [19, 35], Has a0_mp 0 ([vs a0_m.c.Name, .slice a0_mg.A1 a0_m.c.Key.length a0_mg.c1, vi a0_m.c.Slot, vi a0_m.c.Budget, vi a0_m.c.Quota, vi a0_m.c.Rights, .slice a0_mg.A6 a0_m.c.First.length a0_mg.c6] ++ (MetaS.cells a0_m.m ++ ([.slice (some ⟨a0_mg.b8, 0, none⟩) a0_m.slots0.length a0_m.slots0.length, .slice (some ⟨a0_mg.b9, 0, none⟩) a0_m.slots1.length a0_m.slots1.length])))), (18, [19, 35], Has b3 0 [vi a1_q.Kind, vi a1_q.N, .slice A1 a1_q.Bytes.length c2]), (24, [25, 35], Has a0_mp 0 ([vs a0_m.c.Name, .slice a0_mg.A1 a0_m.c.Key.length a0_mg.c1, vi a0_m.c.Slot, vi a0_m.c.Budget, vi a0_m.c.Quota, vi a0_m.c.Rights, .slice a0_mg.A6 a0_m.c.First.length a0_mg.c6] ++ (MetaS.cells a0_m.m ++ ([.slice (some ⟨a0_mg.b8, 0, none⟩) a0_m.slots0.length a0_m.slots0.length, .slice (some ⟨a0_mg.b9, 0, none⟩) a0_m.slots1.length a0_m.slots1.length])))), (31, [32, 35], Has a0_mp 0 ([vs a0_m.c.Name, .slice a0_mg.A1 a0_m.c.Key.length a0_mg.c1, vi a0_m.c.Slot, vi a0_m.c.Budget, vi a0_m.c.Quota, vi a0_m.c.Rights, .slice a0_mg.A6 a0_m.c.First.length a0_mg.c6] ++ (MetaS.cells a0_m.m ++ ([.slice (some ⟨a0_mg.b8, 0, none⟩) a0_m.slots0.length a0_m.slots0.length, .slice (some ⟨a0_mg.b9, 0, none⟩) a0_m.slots1.length a0_m.slots1.length]))))] ?_
    refine a_pu 0 rfl (ev_move rfl rfl) (by rfl) (by kernel_rfl) (by kernel_rfl) (by kernel_rfl) (fun _ _ _ h => h) (g0 rfl) rfl rfl ?_
    refine a_pu 1 rfl (ev_bin rfl rfl rfl rfl (eql_i _ 0)) (by rfl) (by kernel_rfl) (by kernel_rfl) (by kernel_rfl) (fun _ _ _ h => h) (g0 rfl) rfl rfl ?_
    refine a_pu 2 rfl (ev_move rfl rfl) (by rfl) (by kernel_rfl) (by kernel_rfl) (by kernel_rfl) (fun _ _ _ h => h) (g0 rfl) rfl rfl ?_
    refine k_name 17 rfl ?_
    intro b13 hb14
    have H := bnd_eq H hb14
    cases b13 with
    | true =>
      rw [cond_true] at H
      refine a_pu 3 rfl (ev_fieldAddr rfl rfl Tryd.runUnderlying112 rfl Tryd.sizeOf9 rfl rfl) (by rfl) (by kernel_rfl) (by kernel_rfl) (by kernel_rfl) (fun _ _ _ h => h) (g1 rfl rfl rfl rfl) rfl rfl ?_
      refine a_ld 4 0 rfl rfl (ev_ld1 (j := 0) rfl rfl Tryd.isAgg9 (Mani.sub_Name _) rfl) (by kernel_rfl) (by rfl) (by kernel_rfl) (by kernel_rfl) (by kernel_rfl) (by kernel_rfl) (fun _ _ _ h => h) (g1 rfl rfl rfl rfl) rfl rfl ?_
      refine a_pu 5 rfl (ev_move rfl rfl) (by rfl) (by kernel_rfl) (by kernel_rfl) (by kernel_rfl) (fun _ _ _ h => h) (g1 rfl rfl rfl rfl) rfl rfl ?_
      refine a_pu 6 rfl (ev_nilCheck rfl rfl) (by rfl) (by kernel_rfl) (by kernel_rfl) (by kernel_rfl) (fun _ _ _ h => h) (g1 rfl rfl rfl rfl) rfl rfl ?_
      refine a_pu 7 rfl (ev_fieldAddr rfl rfl Tryd.runUnderlying77 rfl Tryd.sizeOf46 rfl rfl) (by rfl) (by kernel_rfl) (by kernel_rfl) (by kernel_rfl) (fun _ _ _ h => h) (g1 rfl rfl rfl rfl) rfl rfl ?_
      refine a_pu 8 rfl (ev_fieldAddr rfl rfl Tryd.runUnderlying46 rfl Tryd.sizeOf9 rfl rfl) (by rfl) (by kernel_rfl) (by kernel_rfl) (by kernel_rfl) (fun _ _ _ h => h) (g1 rfl rfl rfl rfl) rfl rfl ?_
      refine a_ld 9 1 rfl rfl (ev_ld1 (j := 0) rfl rfl Tryd.isAgg9 (sub_head (sub_nth (j := 0) rfl)) rfl) (by kernel_rfl) (by rfl) (by kernel_rfl) (by kernel_rfl) (by kernel_rfl) (by kernel_rfl) (fun _ _ _ h => h) (g1 rfl rfl rfl rfl) rfl rfl ?_
      refine a_pu 10 rfl (ev_bin rfl rfl rfl rfl (eql_s _ _)) (by rfl) (by kernel_rfl) (by kernel_rfl) (by kernel_rfl) (fun _ _ _ h => h) (g1 rfl rfl rfl rfl) rfl rfl ?_
      refine a_pu 11 rfl (ev_pick_t rfl rfl rfl) (by rfl) (by kernel_rfl) (by kernel_rfl) (by kernel_rfl) (fun _ _ _ h => h) (g0 rfl) rfl rfl ?_
      refine a_pu 12 rfl (ev_move rfl rfl) (by rfl) (by kernel_rfl) (by kernel_rfl) (by kernel_rfl) (fun _ _ _ h => h) (g0 rfl) rfl rfl ?_
      refine a_pu 13 rfl (ev_nilCheck rfl rfl) (by rfl) (by kernel_rfl) (by kernel_rfl) (by kernel_rfl) (fun _ _ _ h => h) (g0 rfl) rfl rfl ?_
      refine a_pu 14 rfl (ev_fieldAddr rfl rfl Tryd.runUnderlying77 rfl Tryd.sizeOf46 rfl rfl) (by rfl) (by kernel_rfl) (by kernel_rfl) (by kernel_rfl) (fun _ _ _ h => h) (g0 rfl) rfl rfl ?_
      refine a_pu 15 rfl (ev_fieldAddr rfl rfl Tryd.runUnderlying46 rfl Tryd.sizeOf32 rfl rfl) (by rfl) (by kernel_rfl) (by kernel_rfl) (by kernel_rfl) (fun _ _ _ h => h) (g0 rfl) rfl rfl ?_
      refine a_ld 16 2 rfl rfl (ev_ld1 (j := 1) rfl rfl Tryd.isAgg32 (sub_head (sub_nth (j := 1) rfl)) rfl) (by kernel_rfl) (by rfl) (by kernel_rfl) (by kernel_rfl) (by kernel_rfl) (by kernel_rfl) (fun _ _ _ h => h) (g0 rfl) rfl rfl ?_
      refine a_pu 17 rfl (ev_fieldAddr rfl rfl Tryd.runUnderlying34 rfl Tryd.sizeOf32 rfl rfl) (by rfl) (by kernel_rfl) (by kernel_rfl) (by kernel_rfl) (fun _ _ _ h => h) (g0 rfl) rfl rfl ?_
      refine a_ld 18 3 rfl rfl (ev_ld1 (j := 2) rfl rfl Tryd.isAgg32 (sub_nth (j := 2) rfl) rfl) (by kernel_rfl) (by rfl) (by kernel_rfl) (by kernel_rfl) (by kernel_rfl) (by kernel_rfl) (fun _ _ _ h => h) (g0 rfl) rfl rfl ?_
      refine a_pu 20 rfl (ev_move rfl rfl) (by rfl) (by kernel_rfl) (by kernel_rfl) (by kernel_rfl) (fun _ _ _ h => h) (g0 rfl) rfl rfl ?_
      refine a_pu 21 rfl (ev_move rfl rfl) (by rfl) (by kernel_rfl) (by kernel_rfl) (by kernel_rfl) (fun _ _ _ h => h) (g0 rfl) rfl rfl ?_
      refine a_pu 22 rfl (ev_nilCheck rfl rfl) (by rfl) (by kernel_rfl) (by kernel_rfl) (by kernel_rfl) (fun _ _ _ h => h) (g0 rfl) rfl rfl ?_
      refine a_pu 23 rfl (ev_fieldAddr rfl rfl Tryd.runUnderlying77 rfl Tryd.sizeOf74 rfl rfl) (by rfl) (by kernel_rfl) (by kernel_rfl) (by kernel_rfl) (fun _ _ _ h => h) (g0 rfl) rfl rfl ?_
      refine a_ld 24 4 rfl rfl (ev_ldN (j := 7) rfl rfl Tryd.isAgg74 (sz (MetaS.len _) Tryd.sizeOf74) (sub_skip (n := 7) (sub_head (sub_all _)) rfl rfl) rfl) (by kernel_rfl) (by rfl) (by kernel_rfl) (by kernel_rfl) (by kernel_rfl) (by kernel_rfl) (fun _ _ _ h => h) (g0 rfl) rfl rfl ?_
      refine a_pu 26 rfl (ev_move rfl rfl) (by rfl) (by kernel_rfl) (by kernel_rfl) (by kernel_rfl) (fun _ _ _ h => h) (g0 rfl) rfl rfl ?_
      refine a_pu 27 rfl (ev_nilCheck rfl rfl) (by rfl) (by kernel_rfl) (by kernel_rfl) (by kernel_rfl) (fun _ _ _ h => h) (g0 rfl) rfl rfl ?_
      refine a_pu 28 rfl (ev_fieldAddr rfl rfl Tryd.runUnderlying77 rfl Tryd.sizeOf74 rfl rfl) (by rfl) (by kernel_rfl) (by kernel_rfl) (by kernel_rfl) (fun _ _ _ h => h) (g0 rfl) rfl rfl ?_
      refine a_pu 29 rfl (ev_fieldAddr rfl rfl Tryd.runUnderlying74 rfl Tryd.sizeOf71 rfl rfl) (by rfl) (by kernel_rfl) (by kernel_rfl) (by kernel_rfl) (fun _ _ _ h => h) (g0 rfl) rfl rfl ?_
      refine a_pu 30 rfl (ev_fieldAddr rfl rfl Tryd.runUnderlying71 rfl Tryd.sizeOf3 rfl rfl) (by rfl) (by kernel_rfl) (by kernel_rfl) (by kernel_rfl) (fun _ _ _ h => h) (g0 rfl) rfl rfl ?_
      refine a_ld 31 5 rfl rfl (ev_ld1 (j := 79) rfl rfl Tryd.isAgg3 (sub_skip (n := 7) (sub_head (sub_sub (MetaS.sub_Coming _) (Img.sub_Size _) rfl)) rfl rfl) rfl) (by kernel_rfl) (by rfl) (by kernel_rfl) (by kernel_rfl) (by kernel_rfl) (by kernel_rfl) (fun _ _ _ h => h) (g0 rfl) rfl rfl ?_
      refine ac 19 (by kernel_rfl) (sl_cons (hG 3 rfl) (sl_cons (hG 0 rfl) (sl_cons (hG 0 rfl) (sl_cons (hG 6 rfl) (sl_cons (hG 0 rfl) (sl_cons (hG 0 rfl) sl_nil)))))) ?_
      obtain ⟨r15, Hc16, H⟩ := bind_some' H
      refine k_call (c_manifest_Signed a0_m.c.Key a0_mg.A1 a0_mg.c1 a1_q.Bytes A1 c2 r15 Hc16) Tryd.call57 rfl rfl rfl [3, 0] [] rfl rfl (g0 rfl) rfl rfl ?_
      rintro _ _ _ ⟨rfl, rfl, rfl⟩
      dsimp only [app]
      refine ac 25 (by kernel_rfl) (sl_cons (hG 3 rfl) (sl_cons (hG 0 rfl) (sl_end (by kernel_rfl) (sl_end (by kernel_rfl) (sl_cons (hG 0 rfl) (sl_cons (hG 0 rfl) sl_nil)))))) ?_
      obtain ⟨r17, Hc18, H⟩ := bind_some' H
      refine k_call (c_meta_Other a0_m.m r17 Hc18) Tryd.call36 rfl rfl rfl [] [] rfl rfl (g0 rfl) rfl rfl ?_
      rintro _ _ _ ⟨rfl, rfl, rfl⟩
      dsimp only [app]
      refine ac 32 (by kernel_rfl) (sl_cons (hG 3 rfl) (sl_cons (hG 0 rfl) (sl_end (by kernel_rfl) (sl_end (by kernel_rfl) (sl_end (by kernel_rfl) (sl_cons (hG 0 rfl) sl_nil)))))) ?_
      refine k_pk (ModelT a0_mg a0_mp a0_m) rfl [0, 1] [0, 0, 0] rfl rfl ?_
      obtain ⟨r19, Hc20, H⟩ := bind_some' H
      refine k_call (c_model_Model_image a0_mp a0_m a0_mg r17 a0_m.m.Coming.Size r19 Hc20) Tryd.call48 rfl rfl rfl [] [0] rfl rfl (g0 rfl) rfl rfl ?_
      rintro _ _ _ ⟨A21, c22, rfl, rfl, rfl⟩
      dsimp only [app]
      refine k_unp 1 rfl ?_
      dsimp only [app, del]
      refine ac 33 (by kernel_rfl) (sl_cons (hG 4 rfl) (sl_cons (hG 0 rfl) (sl_end (by kernel_rfl) (sl_end (by kernel_rfl) (sl_end (by kernel_rfl) (sl_end (by kernel_rfl) sl_nil)))))) ?_
      obtain ⟨r23, Hc24, H⟩ := bind_some' H
      refine k_call (c_sha_Sum r19 A21 c22 r23 Hc24) Tryd.call32 rfl rfl rfl [2] [] rfl rfl (g0 rfl) rfl rfl ?_
      rintro _ _ _ ⟨rfl, rfl, rfl⟩
      dsimp only [app]
      refine a_pu 34 rfl (ev_build (cs := FactS.cells (⟨(r5.1.Name == a0_m.c.Name), r15, r23, false⟩ : FactS)) rfl rfl Tryd.zeroValue86 Tryd.runUnderlying86 pl86 (show Instr.fill _ (FactS.cells FactS.zero : List Value).toArray _ = some _ from (fill_cons rfl (s := [vb (r5.1.Name == a0_m.c.Name)]) rfl rfl (FactS.set_Name _ (r5.1.Name == a0_m.c.Name)) (fill_cons rfl (s := [vb r15]) rfl rfl (FactS.set_Tag _ r15) (fill_cons rfl (s := r23.l.flatMap E8) rfl (arr_len E8_len _ rfl) (FactS.set_Digest _ r23) fill_nil))))) (by rfl) (by kernel_rfl) (by kernel_rfl) (by kernel_rfl) (fun _ _ _ h => h) (g0 rfl) rfl rfl ?_
      refine ac 35 (by kernel_rfl) (sl_cons (hG 4 rfl) (sl_cons (hG 0 rfl) (sl_end (by kernel_rfl) (sl_end (by kernel_rfl) (sl_end (by kernel_rfl) (sl_end (by kernel_rfl) sl_nil)))))) ?_
      refine k_st (j := 0) rfl rfl rfl rfl (vs := FactS.cells (⟨(r5.1.Name == a0_m.c.Name), r15, r23, false⟩ : FactS)) rfl (sz (FactS.len _) Tryd.sizeOf86) (FactS.sc _) 6 rfl (spl_all ((FactS.len _).trans (FactS.len _).symm)) rfl (g0 rfl) rfl ?_
      refine a_done (by kernel_rfl) (sl_end (by kernel_rfl) (sl_end (by kernel_rfl) (sl_end (by kernel_rfl) (sl_end (by kernel_rfl) (sl_end (by kernel_rfl) (sl_end (by kernel_rfl) sl_nil)))))) ?_
      refine k_pk (ModelT a0_mg a0_mp a0_m) rfl [0, 1] [0, 0, 0] rfl rfl ?_
      exact k_wk (J10 (⟨(r5.1.Name == a0_m.c.Name), r15, r23, false⟩ : FactS) () H) [4] [5, 6] 7 [2, 3, 3, 0, 1] 1 rfl rfl rfl
    | false =>
      rw [cond_false] at H
      refine a_not 3 rfl (by rfl) (by kernel_rfl) (by kernel_rfl) (by kernel_rfl) (fun _ _ _ h => h) rfl rfl rfl rfl rfl rfl rfl ?_
      refine a_not 4 rfl (by rfl) (by kernel_rfl) (by kernel_rfl) (by kernel_rfl) (fun _ _ _ h => h) rfl rfl rfl rfl rfl rfl rfl ?_
      refine a_not 5 rfl (by rfl) (by kernel_rfl) (by kernel_rfl) (by kernel_rfl) (fun _ _ _ h => h) rfl rfl rfl rfl rfl rfl rfl ?_
      refine a_not 6 rfl (by rfl) (by kernel_rfl) (by kernel_rfl) (by kernel_rfl) (fun _ _ _ h => h) rfl rfl rfl rfl rfl rfl rfl ?_
      refine a_not 7 rfl (by rfl) (by kernel_rfl) (by kernel_rfl) (by kernel_rfl) (fun _ _ _ h => h) rfl rfl rfl rfl rfl rfl rfl ?_
      refine a_not 8 rfl (by rfl) (by kernel_rfl) (by kernel_rfl) (by kernel_rfl) (fun _ _ _ h => h) rfl rfl rfl rfl rfl rfl rfl ?_
      refine a_not 9 rfl (by rfl) (by kernel_rfl) (by kernel_rfl) (by kernel_rfl) (fun _ _ _ h => h) rfl rfl rfl rfl rfl rfl rfl ?_
      refine a_not 10 rfl (by rfl) (by kernel_rfl) (by kernel_rfl) (by kernel_rfl) (fun _ _ _ h => h) rfl rfl rfl rfl rfl rfl rfl ?_
      refine a_pu 11 rfl (ev_pick_f rfl rfl rfl) (by rfl) (by kernel_rfl) (by kernel_rfl) (by kernel_rfl) (fun _ _ _ h => h) (g0 rfl) rfl rfl ?_
      refine a_pu 12 rfl (ev_move rfl rfl) (by rfl) (by kernel_rfl) (by kernel_rfl) (by kernel_rfl) (fun _ _ _ h => h) (g0 rfl) rfl rfl ?_
      refine a_pu 13 rfl (ev_nilCheck rfl rfl) (by rfl) (by kernel_rfl) (by kernel_rfl) (by kernel_rfl) (fun _ _ _ h => h) (g0 rfl) rfl rfl ?_
      refine a_pu 14 rfl (ev_fieldAddr rfl rfl Tryd.runUnderlying77 rfl Tryd.sizeOf46 rfl rfl) (by rfl) (by kernel_rfl) (by kernel_rfl) (by kernel_rfl) (fun _ _ _ h => h) (g0 rfl) rfl rfl ?_
      refine a_pu 15 rfl (ev_fieldAddr rfl rfl Tryd.runUnderlying46 rfl Tryd.sizeOf32 rfl rfl) (by rfl) (by kernel_rfl) (by kernel_rfl) (by kernel_rfl) (fun _ _ _ h => h) (g0 rfl) rfl rfl ?_
      refine a_ld 16 2 rfl rfl (ev_ld1 (j := 1) rfl rfl Tryd.isAgg32 (sub_head (sub_nth (j := 1) rfl)) rfl) (by kernel_rfl) (by rfl) (by kernel_rfl) (by kernel_rfl) (by kernel_rfl) (by kernel_rfl) (fun _ _ _ h => h) (g0 rfl) rfl rfl ?_
      refine a_pu 17 rfl (ev_fieldAddr rfl rfl Tryd.runUnderlying34 rfl Tryd.sizeOf32 rfl rfl) (by rfl) (by kernel_rfl) (by kernel_rfl) (by kernel_rfl) (fun _ _ _ h => h) (g0 rfl) rfl rfl ?_
      refine a_ld 18 3 rfl rfl (ev_ld1 (j := 2) rfl rfl Tryd.isAgg32 (sub_nth (j := 2) rfl) rfl) (by kernel_rfl) (by rfl) (by kernel_rfl) (by kernel_rfl) (by kernel_rfl) (by kernel_rfl) (fun _ _ _ h => h) (g0 rfl) rfl rfl ?_
      refine a_pu 20 rfl (ev_move rfl rfl) (by rfl) (by kernel_rfl) (by kernel_rfl) (by kernel_rfl) (fun _ _ _ h => h) (g0 rfl) rfl rfl ?_
      refine a_pu 21 rfl (ev_move rfl rfl) (by rfl) (by kernel_rfl) (by kernel_rfl) (by kernel_rfl) (fun _ _ _ h => h) (g0 rfl) rfl rfl ?_
      refine a_pu 22 rfl (ev_nilCheck rfl rfl) (by rfl) (by kernel_rfl) (by kernel_rfl) (by kernel_rfl) (fun _ _ _ h => h) (g0 rfl) rfl rfl ?_
      refine a_pu 23 rfl (ev_fieldAddr rfl rfl Tryd.runUnderlying77 rfl Tryd.sizeOf74 rfl rfl) (by rfl) (by kernel_rfl) (by kernel_rfl) (by kernel_rfl) (fun _ _ _ h => h) (g0 rfl) rfl rfl ?_
      refine a_ld 24 4 rfl rfl (ev_ldN (j := 7) rfl rfl Tryd.isAgg74 (sz (MetaS.len _) Tryd.sizeOf74) (sub_skip (n := 7) (sub_head (sub_all _)) rfl rfl) rfl) (by kernel_rfl) (by rfl) (by kernel_rfl) (by kernel_rfl) (by kernel_rfl) (by kernel_rfl) (fun _ _ _ h => h) (g0 rfl) rfl rfl ?_
      refine a_pu 26 rfl (ev_move rfl rfl) (by rfl) (by kernel_rfl) (by kernel_rfl) (by kernel_rfl) (fun _ _ _ h => h) (g0 rfl) rfl rfl ?_
      refine a_pu 27 rfl (ev_nilCheck rfl rfl) (by rfl) (by kernel_rfl) (by kernel_rfl) (by kernel_rfl) (fun _ _ _ h => h) (g0 rfl) rfl rfl ?_
      refine a_pu 28 rfl (ev_fieldAddr rfl rfl Tryd.runUnderlying77 rfl Tryd.sizeOf74 rfl rfl) (by rfl) (by kernel_rfl) (by kernel_rfl) (by kernel_rfl) (fun _ _ _ h => h) (g0 rfl) rfl rfl ?_
      refine a_pu 29 rfl (ev_fieldAddr rfl rfl Tryd.runUnderlying74 rfl Tryd.sizeOf71 rfl rfl) (by rfl) (by kernel_rfl) (by kernel_rfl) (by kernel_rfl) (fun _ _ _ h => h) (g0 rfl) rfl rfl ?_
      refine a_pu 30 rfl (ev_fieldAddr rfl rfl Tryd.runUnderlying71 rfl Tryd.sizeOf3 rfl rfl) (by rfl) (by kernel_rfl) (by kernel_rfl) (by kernel_rfl) (fun _ _ _ h => h) (g0 rfl) rfl rfl ?_
      refine a_ld 31 5 rfl rfl (ev_ld1 (j := 79) rfl rfl Tryd.isAgg3 (sub_skip (n := 7) (sub_head (sub_sub (MetaS.sub_Coming _) (Img.sub_Size _) rfl)) rfl rfl) rfl) (by kernel_rfl) (by rfl) (by kernel_rfl) (by kernel_rfl) (by kernel_rfl) (by kernel_rfl) (fun _ _ _ h => h) (g0 rfl) rfl rfl ?_
      refine ac 19 (by kernel_rfl) (sl_cons (hG 3 rfl) (sl_cons (hG 0 rfl) (sl_cons (hG 0 rfl) (sl_cons (hG 6 rfl) (sl_cons (hG 0 rfl) (sl_cons (hG 0 rfl) sl_nil)))))) ?_
      obtain ⟨r25, Hc26, H⟩ := bind_some' H
      refine k_call (c_manifest_Signed a0_m.c.Key a0_mg.A1 a0_mg.c1 a1_q.Bytes A1 c2 r25 Hc26) Tryd.call57 rfl rfl rfl [3, 0] [] rfl rfl (g0 rfl) rfl rfl ?_
      rintro _ _ _ ⟨rfl, rfl, rfl⟩
      dsimp only [app]
      refine ac 25 (by kernel_rfl) (sl_cons (hG 3 rfl) (sl_cons (hG 0 rfl) (sl_end (by kernel_rfl) (sl_end (by kernel_rfl) (sl_cons (hG 0 rfl) (sl_cons (hG 0 rfl) sl_nil)))))) ?_
      obtain ⟨r27, Hc28, H⟩ := bind_some' H
      refine k_call (c_meta_Other a0_m.m r27 Hc28) Tryd.call36 rfl rfl rfl [] [] rfl rfl (g0 rfl) rfl rfl ?_
      rintro _ _ _ ⟨rfl, rfl, rfl⟩
      dsimp only [app]
      refine ac 32 (by kernel_rfl) (sl_cons (hG 3 rfl) (sl_cons (hG 0 rfl) (sl_end (by kernel_rfl) (sl_end (by kernel_rfl) (sl_end (by kernel_rfl) (sl_cons (hG 0 rfl) sl_nil)))))) ?_
      refine k_pk (ModelT a0_mg a0_mp a0_m) rfl [0, 1] [0, 0, 0] rfl rfl ?_
      obtain ⟨r29, Hc30, H⟩ := bind_some' H
      refine k_call (c_model_Model_image a0_mp a0_m a0_mg r27 a0_m.m.Coming.Size r29 Hc30) Tryd.call48 rfl rfl rfl [] [0] rfl rfl (g0 rfl) rfl rfl ?_
      rintro _ _ _ ⟨A31, c32, rfl, rfl, rfl⟩
      dsimp only [app]
      refine k_unp 1 rfl ?_
      dsimp only [app, del]
      refine ac 33 (by kernel_rfl) (sl_cons (hG 4 rfl) (sl_cons (hG 0 rfl) (sl_end (by kernel_rfl) (sl_end (by kernel_rfl) (sl_end (by kernel_rfl) (sl_end (by kernel_rfl) sl_nil)))))) ?_
      obtain ⟨r33, Hc34, H⟩ := bind_some' H
      refine k_call (c_sha_Sum r29 A31 c32 r33 Hc34) Tryd.call32 rfl rfl rfl [2] [] rfl rfl (g0 rfl) rfl rfl ?_
      rintro _ _ _ ⟨rfl, rfl, rfl⟩
      dsimp only [app]
      refine a_pu 34 rfl (ev_build (cs := FactS.cells (⟨false, r25, r33, false⟩ : FactS)) rfl rfl Tryd.zeroValue86 Tryd.runUnderlying86 pl86 (show Instr.fill _ (FactS.cells FactS.zero : List Value).toArray _ = some _ from (fill_cons rfl (s := [vb false]) rfl rfl (FactS.set_Name _ false) (fill_cons rfl (s := [vb r25]) rfl rfl (FactS.set_Tag _ r25) (fill_cons rfl (s := r33.l.flatMap E8) rfl (arr_len E8_len _ rfl) (FactS.set_Digest _ r33) fill_nil))))) (by rfl) (by kernel_rfl) (by kernel_rfl) (by kernel_rfl) (fun _ _ _ h => h) (g0 rfl) rfl rfl ?_
      refine ac 35 (by kernel_rfl) (sl_cons (hG 4 rfl) (sl_cons (hG 0 rfl) (sl_end (by kernel_rfl) (sl_end (by kernel_rfl) (sl_end (by kernel_rfl) (sl_end (by kernel_rfl) sl_nil)))))) ?_
      refine k_st (j := 0) rfl rfl rfl rfl (vs := FactS.cells (⟨false, r25, r33, false⟩ : FactS)) rfl (sz (FactS.len _) Tryd.sizeOf86) (FactS.sc _) 6 rfl (spl_all ((FactS.len _).trans (FactS.len _).symm)) rfl (g0 rfl) rfl ?_
      refine a_done (by kernel_rfl) (sl_end (by kernel_rfl) (sl_end (by kernel_rfl) (sl_end (by kernel_rfl) (sl_end (by kernel_rfl) (sl_end (by kernel_rfl) (sl_end (by kernel_rfl) sl_nil)))))) ?_
      refine k_pk (ModelT a0_mg a0_mp a0_m) rfl [0, 1] [0, 0, 0] rfl rfl ?_
      exact k_wk (J10 (⟨false, r25, r33, false⟩ : FactS) () H) [4] [5, 6] 7 [2, 3, 3, 0, 1] 1 rfl rfl rfl

end Go.Proofs.YtphbbnlbfbhcaaaDoor.Wl
