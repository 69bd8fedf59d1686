import Derived.Test.YtpdoioeckiiegaaGreatDoorWlW
import Derived.Test.YtpdoioeckiiegaaGreatDoorWlX0
import Derived.Test.YtpdoioeckiiegaaGreatDoorWlX1
import Derived.Test.YtpdoioeckiiegaaGreatDoorWlX3
import Derived.Test.YtpdoioeckiiegaaGreatDoorWlX4
import Derived.Test.YtpdoioeckiiegaaGreatDoorWlX7
import Derived.Test.YtpdoioeckiiegaaGreatDoorWlX8
set_option linter.unusedSimpArgs false
set_option linter.unusedVariables false
set_option maxRecDepth 10000
namespace Go.Proofs.YtpdoioeckiiegaaGreatDoor.Wl
open Go.RowKit Go.Proofs
def meta_Bytes (a0_m : MetaS) : Option (List UInt8) :=
(meta_Right a0_m).bind fun r2 =>
bif (!r2) then (
some []) else (
(field_Writer_Num (⟨[]⟩ : WriterS) a0_m.Active (1 : Int)).bind fun r6 =>
(meta_put (⟨r6.b⟩ : WriterS) (at' Img.zero a0_m.Have.l 0)).bind fun r10 =>
(meta_put (⟨r10.b⟩ : WriterS) (at' Img.zero a0_m.Have.l 1)).bind fun r14 =>
(field_Writer_Num (⟨r14.b⟩ : WriterS) a0_m.Min (4 : Int)).bind fun r18 =>
(field_Writer_Num (⟨r18.b⟩ : WriterS) a0_m.Phase (1 : Int)).bind fun r22 =>
(meta_put (⟨r22.b⟩ : WriterS) a0_m.Coming).bind fun r26 =>
(field_Writer_Num (⟨r26.b⟩ : WriterS) a0_m.Got (1 : Int)).bind fun r30 =>
(field_Writer_Num (⟨r30.b⟩ : WriterS) a0_m.Trials (1 : Int)).bind fun r34 =>
(field_Writer_Bytes (⟨r34.b⟩ : WriterS)).bind fun r38 =>
some r38)

theorem c_meta_Bytes (a0_m : MetaS) (r : (List UInt8)) (H : meta_Bytes a0_m = some r) : Fn Tryz.prog 42 [(.agg (MetaS.cells a0_m).toArray)] [] [] (fun v D' G' => ∃ (A42 : Option Addr) (c43 : Nat), v = (.slice A42 r.length c43) ∧ D' = [Sl E8 A42 c43 r] ∧ G' = [Spare A42 r.length c43 1]) := by
  unfold meta_Bytes at H
  refine fn_of Tryz.func42 rfl Tryz.ntmps42 rfl ?_
  intro w0 D0 G0
  dsimp only [app, initEnv, Nat.zero_add, Nat.reduceAdd]
  refine s_seq ?_
  refine s_reg [0, 1] rfl ?_
  refine oc (k_box rfl rfl rfl (cs := MetaS.cells a0_m) rfl (g0 rfl) rfl rfl ?_)
  intro b1
  refine o_run ft [1] rfl rfl ?_
  refine o_nil ?_
  refine q_then ?_
  refine s_seq ?_
  refine s_seq ?_
  refine s_reg [0, 1, 2] rfl ?_
  refine o_ld (hG 0 rfl) rfl (ev_ldN (j := 0) rfl rfl Tryz.isAgg52 (sz (MetaS.len _) Tryz.sizeOf52) (sub_all _) rfl) (g0 rfl) rfl rfl ?_
  obtain ⟨r2, Hc3, H⟩ := bind_some' H
  refine oc (k_call (c_meta_Right a0_m r2 Hc3) Tryz.call103 rfl rfl rfl [] [] rfl rfl (g0 rfl) rfl rfl ?_)
  rintro _ _ _ ⟨rfl, rfl, rfl⟩
  dsimp only [app]
  refine o_run ft [2] rfl rfl ?_
  refine o_nil ?_
  refine q_then ?_
  refine s_cond rfl ?_ ?_
  · intro hb4
    have H := cnd_t H hb4
    refine s_seq ?_
    refine s_reg [0] rfl ?_
    refine o_run ft [0] rfl rfl ?_
    refine o_nil ?_
    refine q_then ?_
    refine s_ret ?_
    refine q_then_r ?_
    cases H
    refine k_nil_sl E8 ?_
    refine k_nil_spare 1 ?_
    exact q_end (rs_1 Tryz.results42 (rv_tmp rfl)) ⟨none, 0, rfl, rfl, rfl⟩ [0] rfl 1 rfl [0] rfl 1 rfl
  · intro hb4
    have H := cnd_f H hb4
    refine s_skip ?_
    refine q_then ?_
    refine s_seq ?_
    refine s_reg [0, 1, 2] rfl ?_
    refine o_pu rfl (ev_build (cs := [.slice none 0 0]) rfl rfl Tryz.zeroValue160 Tryz.runUnderlying160 pl160 (show Instr.fill _ ([.slice none 0 0] : List Value).toArray _ = some _ from fill_nil)) (g0 rfl) rfl rfl ?_
    refine oc (k_box rfl rfl rfl (cs := [.slice none 0 0]) rfl (g0 rfl) rfl rfl ?_)
    intro b5
    refine o_run ft [2] rfl rfl ?_
    refine o_nil ?_
    refine q_then ?_
    refine s_seq ?_
    refine s_reg [0, 1, 2, 3] rfl ?_
    refine o_run ft [0, 1] rfl rfl ?_
    refine o_ld (hG 1 rfl) rfl (ev_ld1 (j := 0) rfl rfl Tryz.isAgg3 (MetaS.sub_Active _) rfl) (g0 rfl) rfl rfl ?_
    refine k_nil_spare 1 ?_
    refine k_nil_sl E8 ?_
    obtain ⟨r6, Hc7, H⟩ := bind_some' H
    refine oc (k_call (c_field_Writer_Num b5 (⟨[]⟩ : WriterS) none 0 a0_m.Active 1 r6 Hc7) Tryz.call104 rfl rfl rfl [0] [1, 0] rfl rfl (g0 rfl) rfl rfl ?_)
    rintro _ _ _ ⟨A8, c9, rfl, rfl, rfl⟩
    dsimp only [app]
    refine o_nil ?_
    refine q_then ?_
    refine s_seq ?_
    refine s_reg [0, 1, 2, 3, 4] rfl ?_
    refine o_run ft [0, 1] rfl rfl ?_
    refine o_pu rfl (ev_idx_array (k := 0) rfl rfl rfl Tryz.runUnderlying50 Tryz.sizeOf49 ⟨by omega, by omega⟩ rfl) (g0 rfl) rfl rfl ?_
    refine o_ld (hG 2 rfl) rfl (ev_ldN (j := 1) rfl rfl Tryz.isAgg49 (sz (Img.len _) Tryz.sizeOf49) (sub_sub (MetaS.sub_Have _) (sub_arr Img.len Img.zero _ (k := 0) ⟨by omega, by omega⟩ rfl) rfl) rfl) (g0 rfl) rfl rfl ?_
    obtain ⟨r10, Hc11, H⟩ := bind_some' H
    refine oc (k_call (c_meta_put b5 (⟨r6.b⟩ : WriterS) A8 c9 (at' Img.zero a0_m.Have.l 0) r10 Hc11) Tryz.call105 rfl rfl rfl [0] [0, 0] rfl rfl (g0 rfl) rfl rfl ?_)
    rintro _ _ _ ⟨A12, c13, rfl, rfl, rfl⟩
    dsimp only [app]
    refine o_nil ?_
    refine q_then ?_
    refine s_seq ?_
    refine s_reg [0, 1, 2, 3, 4] rfl ?_
    refine o_run ft [0, 1] rfl rfl ?_
    refine o_pu rfl (ev_idx_array (k := 1) rfl rfl rfl Tryz.runUnderlying50 Tryz.sizeOf49 ⟨by omega, by omega⟩ rfl) (g0 rfl) rfl rfl ?_
    refine o_ld (hG 2 rfl) rfl (ev_ldN (j := 35) rfl rfl Tryz.isAgg49 (sz (Img.len _) Tryz.sizeOf49) (sub_sub (MetaS.sub_Have _) (sub_arr Img.len Img.zero _ (k := 1) ⟨by omega, by omega⟩ rfl) rfl) rfl) (g0 rfl) rfl rfl ?_
    obtain ⟨r14, Hc15, H⟩ := bind_some' H
    refine oc (k_call (c_meta_put b5 (⟨r10.b⟩ : WriterS) A12 c13 (at' Img.zero a0_m.Have.l 1) r14 Hc15) Tryz.call105 rfl rfl rfl [0] [0, 0] rfl rfl (g0 rfl) rfl rfl ?_)
    rintro _ _ _ ⟨A16, c17, rfl, rfl, rfl⟩
    dsimp only [app]
    refine o_nil ?_
    refine q_then ?_
    refine s_seq ?_
    refine s_reg [0, 1, 2, 3] rfl ?_
    refine o_run ft [0, 1] rfl rfl ?_
    refine o_ld (hG 2 rfl) rfl (ev_ld1 (j := 69) rfl rfl Tryz.isAgg3 (MetaS.sub_Min _) rfl) (g0 rfl) rfl rfl ?_
    obtain ⟨r18, Hc19, H⟩ := bind_some' H
    refine oc (k_call (c_field_Writer_Num b5 (⟨r14.b⟩ : WriterS) A16 c17 a0_m.Min 4 r18 Hc19) Tryz.call104 rfl rfl rfl [0] [0, 0] rfl rfl (g0 rfl) rfl rfl ?_)
    rintro _ _ _ ⟨A20, c21, rfl, rfl, rfl⟩
    dsimp only [app]
    refine o_nil ?_
    refine q_then ?_
    refine s_seq ?_
    refine s_reg [0, 1, 2, 3] rfl ?_
    refine o_run ft [0, 1] rfl rfl ?_
    refine o_ld (hG 2 rfl) rfl (ev_ld1 (j := 70) rfl rfl Tryz.isAgg3 (MetaS.sub_Phase _) rfl) (g0 rfl) rfl rfl ?_
    obtain ⟨r22, Hc23, H⟩ := bind_some' H
    refine oc (k_call (c_field_Writer_Num b5 (⟨r18.b⟩ : WriterS) A20 c21 a0_m.Phase 1 r22 Hc23) Tryz.call104 rfl rfl rfl [0] [0, 0] rfl rfl (g0 rfl) rfl rfl ?_)
    rintro _ _ _ ⟨A24, c25, rfl, rfl, rfl⟩
    dsimp only [app]
    refine o_nil ?_
    refine q_then ?_
    refine s_seq ?_
    refine s_reg [0, 1, 2, 3] rfl ?_
    refine o_run ft [0, 1] rfl rfl ?_
    refine o_ld (hG 2 rfl) rfl (ev_ldN (j := 71) rfl rfl Tryz.isAgg49 (sz (Img.len _) Tryz.sizeOf49) (MetaS.sub_Coming _) rfl) (g0 rfl) rfl rfl ?_
    obtain ⟨r26, Hc27, H⟩ := bind_some' H
    refine oc (k_call (c_meta_put b5 (⟨r22.b⟩ : WriterS) A24 c25 a0_m.Coming r26 Hc27) Tryz.call105 rfl rfl rfl [0] [0, 0] rfl rfl (g0 rfl) rfl rfl ?_)
    rintro _ _ _ ⟨A28, c29, rfl, rfl, rfl⟩
    dsimp only [app]
    refine o_nil ?_
    refine q_then ?_
    refine s_seq ?_
    refine s_reg [0, 1, 2, 3] rfl ?_
    refine o_run ft [0, 1] rfl rfl ?_
    refine o_ld (hG 2 rfl) rfl (ev_ld1 (j := 105) rfl rfl Tryz.isAgg3 (MetaS.sub_Got _) rfl) (g0 rfl) rfl rfl ?_
    obtain ⟨r30, Hc31, H⟩ := bind_some' H
    refine oc (k_call (c_field_Writer_Num b5 (⟨r26.b⟩ : WriterS) A28 c29 a0_m.Got 1 r30 Hc31) Tryz.call104 rfl rfl rfl [0] [0, 0] rfl rfl (g0 rfl) rfl rfl ?_)
    rintro _ _ _ ⟨A32, c33, rfl, rfl, rfl⟩
    dsimp only [app]
    refine o_nil ?_
    refine q_then ?_
    refine s_seq ?_
    refine s_reg [0, 1, 2, 3] rfl ?_
    refine o_run ft [0, 1] rfl rfl ?_
    refine o_ld (hG 2 rfl) rfl (ev_ld1 (j := 106) rfl rfl Tryz.isAgg3 (MetaS.sub_Trials _) rfl) (g0 rfl) rfl rfl ?_
    obtain ⟨r34, Hc35, H⟩ := bind_some' H
    refine oc (k_call (c_field_Writer_Num b5 (⟨r30.b⟩ : WriterS) A32 c33 a0_m.Trials 1 r34 Hc35) Tryz.call104 rfl rfl rfl [0] [0, 0] rfl rfl (g0 rfl) rfl rfl ?_)
    rintro _ _ _ ⟨A36, c37, rfl, rfl, rfl⟩
    dsimp only [app]
    refine o_nil ?_
    refine q_then ?_
    refine s_seq ?_
    refine s_reg [0, 1, 2] rfl ?_
    refine o_run ft [0] rfl rfl ?_
    obtain ⟨r38, Hc39, H⟩ := bind_some' H
    refine oc (k_call (c_field_Writer_Bytes b5 (⟨r34.b⟩ : WriterS) A36 c37 r38 Hc39) Tryz.call106 rfl rfl rfl [0] [0, 0] rfl rfl (g0 rfl) rfl rfl ?_)
    rintro _ _ _ ⟨A40, c41, rfl, rfl, rfl⟩
    dsimp only [app]
    refine o_run ft [2] rfl rfl ?_
    refine o_nil ?_
    refine q_then ?_
    refine s_ret ?_
    cases H
    exact q_end (rs_1 Tryz.results42 (rv_tmp rfl)) ⟨A40, c41, rfl, rfl, rfl⟩ [0] rfl 10 rfl [0] rfl 3 rfl

def meta_Read (a0_b : List UInt8) : Option (MetaS × Int) :=
(field_NewReader a0_b).bind fun r4 =>
(field_Reader_Num (⟨r4.b, r4.bad⟩ : ReaderS) (1 : Int)).bind fun r9 =>
(meta_get (⟨r9.2.b, r9.2.bad⟩ : ReaderS)).bind fun r14 =>
bnd ({ ((⟨r9.1, (Arr.zero Img.zero 2), 0, 0, Img.zero, 0, 0⟩ : MetaS) : MetaS) with Have := (Arr.set ((⟨r9.1, (Arr.zero Img.zero 2), 0, 0, Img.zero, 0, 0⟩ : MetaS).Have) 0 r14.1) }) fun x18 =>
(meta_get (⟨r14.2.b, r14.2.bad⟩ : ReaderS)).bind fun r20 =>
(field_Reader_Num (⟨r20.2.b, r20.2.bad⟩ : ReaderS) (4 : Int)).bind fun r24 =>
(field_Reader_Num (⟨r24.2.b, r24.2.bad⟩ : ReaderS) (1 : Int)).bind fun r28 =>
bnd ({ ({ ({ (x18 : MetaS) with Have := (Arr.set x18.Have 1 r20.1) } : MetaS) with Min := r24.1 } : MetaS) with Phase := r28.1 }) fun x32 =>
(meta_get (⟨r28.2.b, r28.2.bad⟩ : ReaderS)).bind fun r34 =>
(field_Reader_Num (⟨r34.2.b, r34.2.bad⟩ : ReaderS) (1 : Int)).bind fun r38 =>
(field_Reader_Num (⟨r38.2.b, r38.2.bad⟩ : ReaderS) (1 : Int)).bind fun r42 =>
bnd ({ ({ ({ (x32 : MetaS) with Coming := r34.1 } : MetaS) with Got := r38.1 } : MetaS) with Trials := r42.1 }) fun x46 =>
(field_Reader_Bad (⟨r42.2.b, r42.2.bad⟩ : ReaderS)).bind fun r48 =>
bnd r48 fun b50 =>
jn (fun x53 =>
bnd x53 fun b54 =>
jn (fun x57 =>
bif x57 then (
some (MetaS.zero, 6)) else (
some (x46, 0))) fun J56 =>
bif b54 then (
J56 true) else
(meta_Right x46).bind fun r59 =>
J56 (!r59)) fun J52 =>
bif b50 then (
J52 true) else
(meta_behind (⟨r42.2.b, r42.2.bad⟩ : ReaderS)).bind fun r61 =>
J52 (!r61.1)

theorem c_meta_Read (a0_b : List UInt8) (A1 : Option Addr) (c2 : Nat) (r : MetaS × Int) (H : meta_Read a0_b = some r) : Fn Tryz.prog 44 [(.slice A1 a0_b.length c2)] [Sl E8 A1 c2 a0_b] [] (fun v D' G' => v = (.tuple #[(.agg (MetaS.cells r.1).toArray), (vi r.2)]) ∧ D' = [] ∧ G' = []) := by
  unfold meta_Read at H
  refine fn_of Tryz.func44 rfl Tryz.ntmps44 rfl ?_
  intro w0 D0 G0
  dsimp only [app, initEnv, Nat.zero_add, Nat.reduceAdd]
  refine s_seq ?_
  refine s_reg [0, 1] rfl ?_
  refine oc (k_alloc rfl rfl Tryz.zeroValue52 (cs := MetaS.cells MetaS.zero) rfl (g0 rfl) rfl rfl ?_)
  intro b3
  refine o_run ft [1] rfl rfl ?_
  refine o_nil ?_
  refine q_then ?_
  refine s_seq ?_
  refine s_reg [0, 1, 2] rfl ?_
  refine o_run ft [0] rfl rfl ?_
  obtain ⟨r4, Hc5, H⟩ := bind_some' H
  refine oc (k_call (c_field_NewReader a0_b A1 c2 r4 Hc5) Tryz.call107 rfl rfl rfl [0] [] rfl rfl (g0 rfl) rfl rfl ?_)
  rintro _ _ _ ⟨b6, A7, c8, rfl, rfl, rfl⟩
  dsimp only [app]
  refine o_run ft [2] rfl rfl ?_
  refine o_nil ?_
  refine q_then ?_
  refine s_seq ?_
  refine s_reg [0, 1, 2, 3, 4] rfl ?_
  refine o_run ft [0] rfl rfl ?_
  obtain ⟨r9, Hc10, H⟩ := bind_some' H
  refine oc (k_call (c_field_Reader_Num b6 (⟨r4.b, r4.bad⟩ : ReaderS) A7 c8 1 r9 Hc10) Tryz.call108 rfl rfl rfl [0] [0] rfl rfl (g0 rfl) rfl rfl ?_)
  rintro _ _ _ ⟨A11, c12, rfl, rfl, rfl⟩
  dsimp only [app]
  refine o_pu rfl (ev_build (cs := MetaS.cells (⟨r9.1, (Arr.zero Img.zero 2), 0, 0, Img.zero, 0, 0⟩ : MetaS)) rfl rfl Tryz.zeroValue52 Tryz.runUnderlying52 pl52 (show Instr.fill _ (MetaS.cells MetaS.zero : List Value).toArray _ = some _ from (fill_cons rfl (s := [vi r9.1]) rfl rfl (MetaS.set_Active _ r9.1) fill_nil))) (g0 rfl) rfl rfl ?_
  refine oc (k_alloc rfl rfl Tryz.zeroValue52 (cs := MetaS.cells MetaS.zero) rfl (g0 rfl) rfl rfl ?_)
  intro b13
  refine oc (k_st (j := 0) rfl rfl rfl rfl (vs := MetaS.cells (⟨r9.1, (Arr.zero Img.zero 2), 0, 0, Img.zero, 0, 0⟩ : MetaS)) rfl (sz (MetaS.len _) Tryz.sizeOf52) (MetaS.sc _) 0 rfl (spl_all ((MetaS.len _).trans (MetaS.len _).symm)) rfl (g0 rfl) rfl ?_)
  refine o_nil ?_
  refine q_then ?_
  refine s_seq ?_
  refine s_reg [0, 1, 2, 3, 4] rfl ?_
  refine o_run ft [0] rfl rfl ?_
  obtain ⟨r14, Hc15, H⟩ := bind_some' H
  refine oc (k_call (c_meta_get b6 (⟨r9.2.b, r9.2.bad⟩ : ReaderS) A11 c12 r14 Hc15) Tryz.call109 rfl rfl rfl [0] [1] rfl rfl (g0 rfl) rfl rfl ?_)
  rintro _ _ _ ⟨A16, c17, rfl, rfl, rfl⟩
  dsimp only [app]
  refine o_run ft [2] rfl rfl ?_
  refine o_pu rfl (ev_idx_array (k := 0) rfl rfl rfl Tryz.runUnderlying50 Tryz.sizeOf49 ⟨by omega, by omega⟩ rfl) (g0 rfl) rfl rfl ?_
  refine oc (k_st (j := 1) rfl rfl rfl rfl (vs := Img.cells r14.1) rfl (sz (Img.len _) Tryz.sizeOf49) (Img.sc _) 1 rfl (spl_in (MetaS.sub_Have _) (spl_arr Img.len _ (k := 0) _ ⟨by omega, by omega⟩ rfl) (MetaS.set_Have _ _) rfl) rfl (g0 rfl) rfl ?_)
  obtain ⟨x18, hx19⟩ : ∃ x, x = ({ ((⟨r9.1, (Arr.zero Img.zero 2), 0, 0, Img.zero, 0, 0⟩ : MetaS) : MetaS) with Have := (Arr.set ((⟨r9.1, (Arr.zero Img.zero 2), 0, 0, Img.zero, 0, 0⟩ : MetaS).Have) 0 r14.1) }) := ⟨_, rfl⟩
  have H := bnd_eq H hx19
  refine k_tok 1 (A' := At b13 0 (MetaS.cells x18)) rfl (by rw [hx19]) ?_
  refine o_nil ?_
  refine q_then ?_
  refine s_seq ?_
  refine s_reg [0, 1, 2, 3, 4] rfl ?_
  refine o_run ft [0] rfl rfl ?_
  obtain ⟨r20, Hc21, H⟩ := bind_some' H
  refine oc (k_call (c_meta_get b6 (⟨r14.2.b, r14.2.bad⟩ : ReaderS) A16 c17 r20 Hc21) Tryz.call109 rfl rfl rfl [0] [0] rfl rfl (g0 rfl) rfl rfl ?_)
  rintro _ _ _ ⟨A22, c23, rfl, rfl, rfl⟩
  dsimp only [app]
  refine o_run ft [2] rfl rfl ?_
  refine o_pu rfl (ev_idx_array (k := 1) rfl rfl rfl Tryz.runUnderlying50 Tryz.sizeOf49 ⟨by omega, by omega⟩ rfl) (g0 rfl) rfl rfl ?_
  refine oc (k_st (j := 35) rfl rfl rfl rfl (vs := Img.cells r20.1) rfl (sz (Img.len _) Tryz.sizeOf49) (Img.sc _) 1 rfl (spl_in (MetaS.sub_Have _) (spl_arr Img.len _ (k := 1) _ ⟨by omega, by omega⟩ rfl) (MetaS.set_Have _ _) rfl) rfl (g0 rfl) rfl ?_)
  refine o_nil ?_
  refine q_then ?_
  refine s_seq ?_
  refine s_reg [0, 1, 2, 3] rfl ?_
  refine o_run ft [0] rfl rfl ?_
  obtain ⟨r24, Hc25, H⟩ := bind_some' H
  refine oc (k_call (c_field_Reader_Num b6 (⟨r20.2.b, r20.2.bad⟩ : ReaderS) A22 c23 4 r24 Hc25) Tryz.call108 rfl rfl rfl [0] [0] rfl rfl (g0 rfl) rfl rfl ?_)
  rintro _ _ _ ⟨A26, c27, rfl, rfl, rfl⟩
  dsimp only [app]
  refine o_run ft [2] rfl rfl ?_
  refine oc (k_st (j := 69) rfl rfl rfl rfl (vs := [vi r24.1]) rfl (sz rfl Tryz.sizeOf3) rfl 1 rfl (MetaS.set_Min _ r24.1) rfl (g0 rfl) rfl ?_)
  refine o_nil ?_
  refine q_then ?_
  refine s_seq ?_
  refine s_reg [0, 1, 2, 3] rfl ?_
  refine o_run ft [0] rfl rfl ?_
  obtain ⟨r28, Hc29, H⟩ := bind_some' H
  refine oc (k_call (c_field_Reader_Num b6 (⟨r24.2.b, r24.2.bad⟩ : ReaderS) A26 c27 1 r28 Hc29) Tryz.call108 rfl rfl rfl [0] [0] rfl rfl (g0 rfl) rfl rfl ?_)
  rintro _ _ _ ⟨A30, c31, rfl, rfl, rfl⟩
  dsimp only [app]
  refine o_run ft [2] rfl rfl ?_
  refine oc (k_st (j := 70) rfl rfl rfl rfl (vs := [vi r28.1]) rfl (sz rfl Tryz.sizeOf3) rfl 1 rfl (MetaS.set_Phase _ r28.1) rfl (g0 rfl) rfl ?_)
  obtain ⟨x32, hx33⟩ : ∃ x, x = ({ ({ ({ (x18 : MetaS) with Have := (Arr.set x18.Have 1 r20.1) } : MetaS) with Min := r24.1 } : MetaS) with Phase := r28.1 }) := ⟨_, rfl⟩
  have H := bnd_eq H hx33
  refine k_tok 1 (A' := At b13 0 (MetaS.cells x32)) rfl (by rw [hx33]) ?_
  refine o_nil ?_
  refine q_then ?_
  refine s_seq ?_
  refine s_reg [0, 1, 2, 3] rfl ?_
  refine o_run ft [0] rfl rfl ?_
  obtain ⟨r34, Hc35, H⟩ := bind_some' H
  refine oc (k_call (c_meta_get b6 (⟨r28.2.b, r28.2.bad⟩ : ReaderS) A30 c31 r34 Hc35) Tryz.call109 rfl rfl rfl [0] [0] rfl rfl (g0 rfl) rfl rfl ?_)
  rintro _ _ _ ⟨A36, c37, rfl, rfl, rfl⟩
  dsimp only [app]
  refine o_run ft [2] rfl rfl ?_
  refine oc (k_st (j := 71) rfl rfl rfl rfl (vs := Img.cells r34.1) rfl (sz (Img.len _) Tryz.sizeOf49) (Img.sc _) 1 rfl (MetaS.set_Coming _ r34.1) rfl (g0 rfl) rfl ?_)
  refine o_nil ?_
  refine q_then ?_
  refine s_seq ?_
  refine s_reg [0, 1, 2, 3] rfl ?_
  refine o_run ft [0] rfl rfl ?_
  obtain ⟨r38, Hc39, H⟩ := bind_some' H
  refine oc (k_call (c_field_Reader_Num b6 (⟨r34.2.b, r34.2.bad⟩ : ReaderS) A36 c37 1 r38 Hc39) Tryz.call108 rfl rfl rfl [0] [0] rfl rfl (g0 rfl) rfl rfl ?_)
  rintro _ _ _ ⟨A40, c41, rfl, rfl, rfl⟩
  dsimp only [app]
  refine o_run ft [2] rfl rfl ?_
  refine oc (k_st (j := 105) rfl rfl rfl rfl (vs := [vi r38.1]) rfl (sz rfl Tryz.sizeOf3) rfl 1 rfl (MetaS.set_Got _ r38.1) rfl (g0 rfl) rfl ?_)
  refine o_nil ?_
  refine q_then ?_
  refine s_seq ?_
  refine s_reg [0, 1, 2, 3] rfl ?_
  refine o_run ft [0] rfl rfl ?_
  obtain ⟨r42, Hc43, H⟩ := bind_some' H
  refine oc (k_call (c_field_Reader_Num b6 (⟨r38.2.b, r38.2.bad⟩ : ReaderS) A40 c41 1 r42 Hc43) Tryz.call108 rfl rfl rfl [0] [0] rfl rfl (g0 rfl) rfl rfl ?_)
  rintro _ _ _ ⟨A44, c45, rfl, rfl, rfl⟩
  dsimp only [app]
  refine o_run ft [2] rfl rfl ?_
  refine oc (k_st (j := 106) rfl rfl rfl rfl (vs := [vi r42.1]) rfl (sz rfl Tryz.sizeOf3) rfl 1 rfl (MetaS.set_Trials _ r42.1) rfl (g0 rfl) rfl ?_)
  obtain ⟨x46, hx47⟩ : ∃ x, x = ({ ({ ({ (x32 : MetaS) with Coming := r34.1 } : MetaS) with Got := r38.1 } : MetaS) with Trials := r42.1 }) := ⟨_, rfl⟩
  have H := bnd_eq H hx47
  refine k_tok 1 (A' := At b13 0 (MetaS.cells x46)) rfl (by rw [hx47]) ?_
  refine o_nil ?_
  refine q_then ?_
  refine s_seq ?_
  refine s_seq ?_
  refine s_reg [0, 1, 2, 3, 4, 5, 6, 7, 8, 9, 10, 11] rfl ?_
  refine o_run ft [0] rfl rfl ?_
  obtain ⟨r48, Hc49, H⟩ := bind_some' H
  refine oc (k_call (c_field_Reader_Bad b6 (⟨r42.2.b, r42.2.bad⟩ : ReaderS) A44 c45 r48 Hc49) Tryz.call110 rfl rfl rfl [0] [0] rfl rfl (g0 rfl) rfl rfl ?_)
  rintro _ _ _ ⟨rfl, rfl, rfl⟩
  dsimp only [app]
  refine o_run ft [2] rfl rfl ?_
  refine k_name 36 rfl ?_
  intro b50 hb51
  have H := bnd_eq H hb51
  refine o_jb2 (D1 := Sl E8 A44 c45 r42.2.b :: Sl E8 A40 c41 r38.2.b :: Sl E8 A36 c37 r34.2.b :: Sl E8 A30 c31 r28.2.b :: Sl E8 A26 c27 r24.2.b :: Sl E8 A22 c23 r20.2.b :: Sl E8 A16 c17 r14.2.b :: Sl E8 A11 c12 r9.2.b :: Sl E8 A7 c8 r4.b :: Sl E8 A1 c2 a0_b :: D0) (G1 := At b13 0 (MetaS.cells x46) :: At b3 0 (MetaS.cells MetaS.zero) :: G0) 40 [7, 8, 9, 10, 11] [0, 2, 3, 4, 5, 6, 7, 8, 9, 10, 11, 12, 13, 14, 15, 16, 17, 18, 19, 20, 21, 22, 23, 24, 25, 26, 27, 28, 29, 30, 31, 32, 33, 34, 35, 36] H rfl ?_ ?_
  · intro x53 H
    refine o_run ft [7] rfl rfl ?_
    refine k_name 41 rfl ?_
    intro b54 hb55
    have H := bnd_eq H hb55
    refine o_jb 45 [] [0, 2, 3, 4, 5, 6, 7, 8, 9, 10, 11, 12, 13, 14, 15, 16, 17, 18, 19, 20, 21, 22, 23, 24, 25, 26, 27, 28, 29, 30, 31, 32, 33, 34, 35, 36, 40, 41] H rfl ?_ ?_
    · intro x57 H
      refine o_nil ?_
      refine q_then ?_
      refine s_cond rfl ?_ ?_
      · intro hb58
        have H := cnd_t H hb58
        refine s_seq ?_
        refine s_reg [0, 1, 2] rfl ?_
        refine o_pu rfl (ev_build (cs := MetaS.cells MetaS.zero) rfl rfl Tryz.zeroValue52 Tryz.runUnderlying52 pl52 (show Instr.fill _ (MetaS.cells MetaS.zero : List Value).toArray _ = some _ from fill_nil)) (g0 rfl) rfl rfl ?_
        refine oc (k_st (j := 0) rfl rfl rfl rfl (vs := MetaS.cells MetaS.zero) rfl (sz (MetaS.len _) Tryz.sizeOf52) (MetaS.sc _) 1 rfl (spl_all ((MetaS.len _).trans (MetaS.len _).symm)) rfl (g0 rfl) rfl ?_)
        refine o_run ft [2] rfl rfl ?_
        refine o_nil ?_
        refine q_then ?_
        refine s_ret ?_
        refine q_then_r ?_
        cases H
        exact q_end (rs_2 Tryz.results44 (rv_cell (j := 0) rfl (hG 1 rfl) Tryz.isAgg52 (sz (MetaS.len _) Tryz.sizeOf52) (sub_all _) rfl) (rv_tmp rfl)) ⟨rfl, rfl, rfl⟩ [] rfl 10 rfl [] rfl 2 rfl
      · intro hb58
        have H := cnd_f H hb58
        refine s_skip ?_
        refine q_then ?_
        refine s_seq ?_
        refine s_reg [0, 1, 2] rfl ?_
        refine o_ld (hG 0 rfl) rfl (ev_ldN (j := 0) rfl rfl Tryz.isAgg52 (sz (MetaS.len _) Tryz.sizeOf52) (sub_all _) rfl) (g0 rfl) rfl rfl ?_
        refine oc (k_st (j := 0) rfl rfl rfl rfl (vs := MetaS.cells x46) rfl (sz (MetaS.len _) Tryz.sizeOf52) (MetaS.sc _) 1 rfl (spl_all ((MetaS.len _).trans (MetaS.len _).symm)) rfl (g0 rfl) rfl ?_)
        refine o_run ft [2] rfl rfl ?_
        refine o_nil ?_
        refine q_then ?_
        refine s_ret ?_
        cases H
        exact q_end (rs_2 Tryz.results44 (rv_cell (j := 0) rfl (hG 1 rfl) Tryz.isAgg52 (sz (MetaS.len _) Tryz.sizeOf52) (sub_all _) rfl) (rv_tmp rfl)) ⟨rfl, rfl, rfl⟩ [] rfl 10 rfl [] rfl 2 rfl
    · intro J56 J56h H
      cases b54 with
      | true =>
        rw [cond_true] at H
        refine o_gnot rfl rfl rfl rfl rfl rfl rfl rfl ?_
        refine o_gnot rfl rfl rfl rfl rfl rfl rfl rfl ?_
        refine o_gnot rfl rfl rfl rfl rfl rfl rfl rfl ?_
        refine o_run ft [11] rfl rfl ?_
        exact k_wk (J56h true H) [45, 0, 2, 3, 4, 5, 6, 7, 8, 9, 10, 11, 12, 13, 14, 15, 16, 17, 18, 19, 20, 21, 22, 23, 24, 25, 26, 27, 28, 29, 30, 31, 32, 33, 34, 35, 36, 40, 41] [0, 1, 2, 3, 4, 5, 6, 7, 8, 9] 10 [0, 0] 0 rfl rfl rfl
      | false =>
        rw [cond_false] at H
        refine o_ld (hG 0 rfl) rfl (ev_ldN (j := 0) rfl rfl Tryz.isAgg52 (sz (MetaS.len _) Tryz.sizeOf52) (sub_all _) rfl) (g1 rfl rfl rfl rfl) rfl rfl ?_
        obtain ⟨r59, Hc60, H⟩ := bind_some' H
        refine oc (k_call (c_meta_Right x46 r59 Hc60) Tryz.call103 rfl rfl rfl [] [] rfl rfl (g1 rfl rfl rfl rfl) rfl rfl ?_)
        rintro _ _ _ ⟨rfl, rfl, rfl⟩
        dsimp only [app]
        refine o_run ft [10, 11] rfl rfl ?_
        exact k_wk (J56h (!r59) H) [45, 0, 2, 3, 4, 5, 6, 7, 8, 9, 10, 11, 12, 13, 14, 15, 16, 17, 18, 19, 20, 21, 22, 23, 24, 25, 26, 27, 28, 29, 30, 31, 32, 33, 34, 35, 36, 40, 41] [0, 1, 2, 3, 4, 5, 6, 7, 8, 9] 10 [0, 0] 0 rfl rfl rfl
  · intro J52 J52h H
    cases b50 with
    | true =>
      rw [cond_true] at H
      refine o_gnot rfl rfl rfl rfl rfl rfl rfl rfl ?_
      refine o_gnot rfl rfl rfl rfl rfl rfl rfl rfl ?_
      refine o_gnot rfl rfl rfl rfl rfl rfl rfl rfl ?_
      refine o_run ft [6] rfl rfl ?_
      exact k_wk (J52h true H) [40, 0, 2, 3, 4, 5, 6, 7, 8, 9, 10, 11, 12, 13, 14, 15, 16, 17, 18, 19, 20, 21, 22, 23, 24, 25, 26, 27, 28, 29, 30, 31, 32, 33, 34, 35, 36] [0, 1, 2, 3, 4, 5, 6, 7, 8, 9] 10 [1, 1] 1 rfl rfl rfl
    | false =>
      rw [cond_false] at H
      refine o_run ft [3] rfl rfl ?_
      obtain ⟨r61, Hc62, H⟩ := bind_some' H
      refine oc (k_call (c_meta_behind b6 (⟨r42.2.b, r42.2.bad⟩ : ReaderS) A44 c45 r61 Hc62) Tryz.call111 rfl rfl rfl [0] [0] rfl rfl (g1 rfl rfl rfl rfl) rfl rfl ?_)
      rintro _ _ _ ⟨A63, c64, rfl, rfl, rfl⟩
      dsimp only [app]
      refine o_run ft [5, 6] rfl rfl ?_
      exact k_wk (J52h (!r61.1) H) [40, 0, 2, 3, 4, 5, 6, 7, 8, 9, 10, 11, 12, 13, 14, 15, 16, 17, 18, 19, 20, 21, 22, 23, 24, 25, 26, 27, 28, 29, 30, 31, 32, 33, 34, 35, 36] [1, 2, 3, 4, 5, 6, 7, 8, 9, 10] 11 [1, 1] 1 rfl rfl rfl

def slot_Image_l0 (a0_a : AreaS) (a1_slot : Int) (a2_sectors : Int) (a3_size : Int) (fl0 : FlashS) (J12 : (List UInt8) → Option (List UInt8)) : Nat → (List UInt8 × Int) → Option (List UInt8)
  | 0, _ => none
  | k15 + 1, s15 =>
    bif (decide ((s15.1.length : Int) < a3_size)) then (
    (slot_From a1_slot s15.2 a2_sectors).bind fun r17 =>
    bnd (if (wrap64 (a3_size - (s15.1.length : Int))) < 320 then (wrap64 (a3_size - (s15.1.length : Int))) else 320) fun x19 =>
    (area_Area_Read a0_a r17 (0 : Int) x19 fl0).bind fun r21 =>
    bif ((r21.length : Int) == 0) then (
    some []) else (
    chk (s15.1.length + r21.length ≤ 68719476736) <|
    slot_Image_l0 a0_a a1_slot a2_sectors a3_size fl0 J12 k15 ((s15.1 ++ r21), (wrap64 (s15.2 + 1))))) else (
    J12 s15.1)

def slot_Image (a0_a : AreaS) (a1_slot : Int) (a2_sectors : Int) (a3_size : Int) (fl0 : FlashS) : Option (List UInt8) :=
(slot_From a1_slot (0 : Int) a2_sectors).bind fun r1 =>
bnd (r1 == (-1)) fun b3 =>
jn (fun x6 =>
bnd x6 fun b7 =>
jn (fun x10 =>
bif x10 then (
some []) else (
jn (fun (x13 : List UInt8) =>
some x13) fun J12 =>
slot_Image_l0 a0_a a1_slot a2_sectors a3_size fl0 J12 Fuel ([], 0))) fun J9 =>
bif b7 then (
J9 true) else
J9 (decide (a3_size > (wrap64 (a2_sectors * 320))))) fun J5 =>
bif b3 then (
J5 true) else
J5 (decide (a3_size < 1))

theorem c_slot_Image (fp0 : Nat) (a0_ap : Nat) (a0_a : AreaS) (a1_slot : Int) (a2_sectors : Int) (a3_size : Int) (fl0 : FlashS) (fl0g : FlashG) (r : (List UInt8)) (H : slot_Image a0_a a1_slot a2_sectors a3_size fl0 = some r) : Fn Tryz.prog 55 [(.pointer (some ⟨a0_ap, 0, none⟩)), (vi a1_slot), (vi a2_sectors), (vi a3_size)] [] [AreaT fp0 () a0_ap a0_a, FlashT fl0g fp0 fl0] (fun v D' G' => ∃ (A29 : Option Addr) (c30 : Nat), v = (.slice A29 r.length c30) ∧ D' = [Sl E8 A29 c30 r] ∧ G' = [Spare A29 r.length c30 1, AreaT fp0 () a0_ap a0_a, FlashT fl0g fp0 fl0]) := by
  unfold slot_Image at H
  refine fn_of Tryz.func55 rfl Tryz.ntmps55 rfl ?_
  intro w0 D0 G0
  dsimp only [app, initEnv, Nat.zero_add, Nat.reduceAdd]
  refine s_seq ?_
  refine s_reg [0] rfl ?_
  refine o_run ft [0] rfl rfl ?_
  refine o_nil ?_
  refine q_then ?_
  refine s_seq ?_
  refine s_seq ?_
  refine s_reg [0, 1, 2, 3, 4, 5, 6, 7, 8, 9, 10, 11, 12, 13] rfl ?_
  refine o_run ft [0, 1] rfl rfl ?_
  obtain ⟨r1, Hc2, H⟩ := bind_some' H
  refine oc (k_call (c_slot_From a1_slot 0 a2_sectors r1 Hc2) Tryz.call93 rfl rfl rfl [] [] rfl rfl (g0 rfl) rfl rfl ?_)
  rintro _ _ _ ⟨rfl, rfl, rfl⟩
  dsimp only [app]
  refine o_run ft [3, 4] rfl rfl ?_
  refine k_name 16 rfl ?_
  intro b3 hb4
  have H := bnd_eq H hb4
  refine o_jb 19 [8, 9, 10, 11, 12, 13] [0, 1, 2, 3, 8, 12, 13, 14, 15, 16] H rfl ?_ ?_
  · intro x6 H
    refine o_run ft [8] rfl rfl ?_
    refine k_name 20 rfl ?_
    intro b7 hb8
    have H := bnd_eq H hb8
    refine o_jb 25 [] [0, 1, 2, 3, 8, 12, 13, 14, 15, 16, 19, 20] H rfl ?_ ?_
    · intro x10 H
      refine o_nil ?_
      refine q_then ?_
      refine s_cond rfl ?_ ?_
      · intro hb11
        have H := cnd_t H hb11
        refine s_seq ?_
        refine s_reg [0] rfl ?_
        refine o_run ft [0] rfl rfl ?_
        refine o_nil ?_
        refine q_then ?_
        refine s_ret ?_
        refine q_then_r ?_
        cases H
        refine k_nil_sl E8 ?_
        refine k_nil_spare 1 ?_
        exact q_end (rs_1 Tryz.results55 (rv_tmp rfl)) ⟨none, 0, rfl, rfl, rfl⟩ [0] rfl 1 rfl [0, 0, 0] rfl 0 rfl
      · intro hb11
        have H := cnd_f H hb11
        refine s_skip ?_
        refine q_then ?_
        refine s_seq ?_
        refine s_reg [0] rfl ?_
        refine o_run ft [0] rfl rfl ?_
        refine o_nil ?_
        refine q_then ?_
        refine s_seq ?_
        refine s_seq ?_
        refine s_reg [0] rfl ?_
        refine o_run ft [0] rfl rfl ?_
        refine o_nil ?_
        refine q_then ?_
        refine q_join (fun (x13 : List UInt8) (y14 : Option Addr × Nat) => ⟨Sl E8 y14.1 y14.2 x13 :: D0, AreaT fp0 () a0_ap a0_a :: FlashT fl0g fp0 fl0 :: Spare y14.1 x13.length y14.2 1 :: G0, [(9, (.slice y14.1 x13.length y14.2))]⟩) H ?_ ?_
        · intro x13 y14 H
          dsimp only
          refine q_then ?_
          refine s_seq ?_
          refine s_reg [0, 1] rfl ?_
          refine o_run ft [0, 1] rfl rfl ?_
          refine o_nil ?_
          refine q_then ?_
          refine s_ret ?_
          cases H
          exact q_end (rs_1 Tryz.results55 (rv_tmp rfl)) ⟨y14.1, y14.2, rfl, rfl, rfl⟩ [0] rfl 1 rfl [2, 0, 0] rfl 0 rfl
        · intro J12 J12h H
          refine s_block ?_
          refine k_nil_sl E8 ?_
          refine k_nil_spare 1 ?_
          refine s_loop (k_wk (loop_ind (fun (s15 : List UInt8 × Int) (y15 : Option Addr × Nat) => ⟨Sl E8 y15.1 y15.2 s15.1 :: D0, AreaT fp0 () a0_ap a0_a :: FlashT fl0g fp0 fl0 :: Spare y15.1 s15.1.length y15.2 1 :: G0, [(0, (.pointer (some ⟨a0_ap, 0, none⟩))), (1, (vi a1_slot)), (2, (vi a2_sectors)), (3, (vi a3_size)), (9, (.slice y15.1 s15.1.length y15.2)), (10, (vi s15.2))]⟩) (slot_Image_l0 a0_a a1_slot a2_sectors a3_size fl0 J12) _ (fun _ => rfl) ?_ Fuel ([], 0) (none, 0) H) [0, 1, 2, 3, 9, 10] [0] 1 [1, 1, 0] 0 rfl rfl rfl)
          intro k15 s15 y15 ih H
          dsimp only
          rw [slot_Image_l0] at H
          refine s_seq ?_
          refine s_seq ?_
          refine s_reg [0, 1, 2, 3] rfl ?_
          refine o_run ft [0] rfl rfl ?_
          refine o_pu rfl (ev_len_slice rfl rfl Tryz.runUnderlying22) (g0 rfl) rfl rfl ?_
          refine o_run ft [2, 3] rfl rfl ?_
          refine o_nil ?_
          refine q_then ?_
          refine s_cond rfl ?_ ?_
          · intro hb16
            have H := cnd_t H hb16
            refine s_skip ?_
            refine q_then ?_
            refine s_seq ?_
            refine s_block ?_
            refine s_seq ?_
            refine s_reg [0, 1, 2, 3, 4, 5, 6, 7, 8, 9, 10, 11] rfl ?_
            refine o_run ft [0, 1, 2, 3] rfl rfl ?_
            obtain ⟨r17, Hc18, H⟩ := bind_some' H
            refine oc (k_call (c_slot_From a1_slot s15.2 a2_sectors r17 Hc18) Tryz.call93 rfl rfl rfl [] [] rfl rfl (g0 rfl) rfl rfl ?_)
            rintro _ _ _ ⟨rfl, rfl, rfl⟩
            dsimp only [app]
            refine o_run ft [5, 6] rfl rfl ?_
            refine o_pu rfl (ev_len_slice rfl rfl Tryz.runUnderlying22) (g0 rfl) rfl rfl ?_
            refine o_run ft [8] rfl rfl ?_
            refine o_pu rfl (ev_min rfl rfl rfl) (g0 rfl) rfl rfl ?_
            obtain ⟨x19, hx20⟩ : ∃ x : Int, x = (if (wrap64 (a3_size - (s15.1.length : Int))) < 320 then (wrap64 (a3_size - (s15.1.length : Int))) else 320) := ⟨_, rfl⟩
            have H := bnd_eq H hx20
            refine k_eq (v' := vi x19) 41 rfl (by rw [hx20]) ?_
            obtain ⟨r21, Hc22, H⟩ := bind_some' H
            refine oc (k_call (c_area_Area_Read fp0 a0_ap a0_a r17 0 x19 fl0 fl0g r21 Hc22) Tryz.call83 rfl rfl rfl [] [0, 0] rfl rfl (g0 rfl) rfl rfl ?_)
            rintro _ _ _ ⟨A23, c24, rfl, rfl, rfl⟩
            dsimp only [app]
            refine o_run ft [11] rfl rfl ?_
            refine o_nil ?_
            refine q_then ?_
            refine s_seq ?_
            refine s_seq ?_
            refine s_reg [0, 1, 2] rfl ?_
            refine o_run ft [0] rfl rfl ?_
            refine o_pu rfl (ev_len_slice rfl rfl Tryz.runUnderlying22) (g0 rfl) rfl rfl ?_
            refine o_run ft [2] rfl rfl ?_
            refine o_nil ?_
            refine q_then ?_
            refine s_cond rfl ?_ ?_
            · intro hb25
              have H := cnd_t H hb25
              refine s_seq ?_
              refine s_reg [0] rfl ?_
              refine o_run ft [0] rfl rfl ?_
              refine o_nil ?_
              refine q_then ?_
              refine s_ret ?_
              refine q_then_r ?_
              refine q_block_r ?_
              refine q_then_r ?_
              refine q_then_r ?_
              refine q_block_r ?_
              refine q_then_r ?_
              cases H
              refine k_nil_sl E8 ?_
              refine k_nil_spare 1 ?_
              exact q_end (rs_1 Tryz.results55 (rv_tmp rfl)) ⟨none, 0, rfl, rfl, rfl⟩ [0] rfl 3 rfl [0, 1, 1] rfl 2 rfl
            · intro hb25
              have H := cnd_f H hb25
              refine s_skip ?_
              refine q_then ?_
              refine s_reg [0, 1, 2, 3] rfl ?_
              refine o_run ft [0, 1] rfl rfl ?_
              obtain ⟨hk28, H⟩ := chk_some H
              refine oc (k_append 1 0 3 rfl rfl rfl rfl rfl rfl rfl E8_len E8_one Tryz.underlying22 Tryz.underlying22 info5 rfl rfl rfl rfl hk28 (g0 rfl) rfl rfl ?_)
              intro A26 c27
              refine o_run ft [3] rfl rfl ?_
              refine o_nil ?_
              refine q_block ?_
              refine q_then ?_
              refine s_reg [0, 1, 2] rfl ?_
              refine o_run ft [0, 1, 2] rfl rfl ?_
              refine o_nil ?_
              refine q_loop ?_
              exact k_wk (ih ((s15.1 ++ r21), (wrap64 (s15.2 + 1))) (A26, c27) H) [0, 1, 2, 3, 9, 10] [0] 3 [1, 1, 1] 1 rfl rfl rfl
          · intro hb16
            have H := cnd_f H hb16
            refine s_exit ?_
            refine q_then_x ?_
            refine q_then_x ?_
            refine q_block_x ?_
            exact k_wk (J12h s15.1 (y15.1, y15.2) H) [9] [0] 1 [0, 0, 0] 0 rfl rfl rfl
    · intro J9 J9h H
      cases b7 with
      | true =>
        rw [cond_true] at H
        refine o_gnot rfl rfl rfl rfl rfl rfl rfl rfl ?_
        refine o_gnot rfl rfl rfl rfl rfl rfl rfl rfl ?_
        refine o_gnot rfl rfl rfl rfl rfl rfl rfl rfl ?_
        refine o_gnot rfl rfl rfl rfl rfl rfl rfl rfl ?_
        refine o_run ft [13] rfl rfl ?_
        exact k_wk (J9h true H) [25, 0, 1, 2, 3, 8, 12, 13, 14, 15, 16, 19, 20] [] 0 [0, 0] 0 rfl rfl rfl
      | false =>
        rw [cond_false] at H
        refine o_run ft [9, 10, 11, 12, 13] rfl rfl ?_
        exact k_wk (J9h (decide (a3_size > (wrap64 (a2_sectors * 320)))) H) [25, 0, 1, 2, 3, 8, 12, 13, 14, 15, 16, 19, 20] [] 0 [0, 0] 0 rfl rfl rfl
  · intro J5 J5h H
    cases b3 with
    | true =>
      rw [cond_true] at H
      refine o_gnot rfl rfl rfl rfl rfl rfl rfl rfl ?_
      refine o_gnot rfl rfl rfl rfl rfl rfl rfl rfl ?_
      refine o_run ft [7] rfl rfl ?_
      exact k_wk (J5h true H) [19, 0, 1, 2, 3, 8, 12, 13, 14, 15, 16] [] 0 [0, 0] 0 rfl rfl rfl
    | false =>
      rw [cond_false] at H
      refine o_run ft [5, 6, 7] rfl rfl ?_
      exact k_wk (J5h (decide (a3_size < 1)) H) [19, 0, 1, 2, 3, 8, 12, 13, 14, 15, 16] [] 0 [0, 0] 0 rfl rfl rfl

def area_Area_Program (a0_a : AreaS) (a1_sector : Int) (a2_at : Int) (a3_b : List UInt8) (fl0 : FlashS) : Option (Int × FlashS) :=
(area_Area_within a0_a a1_sector a2_at (a3_b.length : Int)).bind fun r3 =>
bif (!r3) then (
some (2, fl0)) else (
(nor_Flash_Program fl0 (wrap64 ((wrap64 ((wrap64 (a0_a.from_ + a1_sector)) * 320)) + a2_at)) a3_b).bind fun r6 =>
some (r6.1, r6.2))

theorem c_area_Area_Program (fp0 : Nat) (a0_ap : Nat) (a0_a : AreaS) (a1_sector : Int) (a2_at : Int) (a3_b : List UInt8) (A1 : Option Addr) (c2 : Nat) (fl0 : FlashS) (fl0g : FlashG) (r : Int × FlashS) (H : area_Area_Program a0_a a1_sector a2_at a3_b fl0 = some r) : Fn Tryz.prog 97 [(.pointer (some ⟨a0_ap, 0, none⟩)), (vi a1_sector), (vi a2_at), (.slice A1 a3_b.length c2)] [Sl E8 A1 c2 a3_b] [AreaT fp0 () a0_ap a0_a, FlashT fl0g fp0 fl0] (fun v D' G' => ∃ (g9 : FlashG), v = (vi r.1) ∧ D' = [] ∧ G' = [AreaT fp0 () a0_ap a0_a, FlashT g9 fp0 r.2]) := by
  unfold area_Area_Program at H
  refine fn_of Tryz.func97 rfl Tryz.ntmps97 rfl ?_
  intro w0 D0 G0
  dsimp only [app, initEnv, Nat.zero_add, Nat.reduceAdd]
  refine s_seq ?_
  refine s_reg [0] rfl ?_
  refine o_run ft [0] rfl rfl ?_
  refine o_nil ?_
  refine q_then ?_
  refine s_seq ?_
  refine s_seq ?_
  refine s_reg [0, 1, 2, 3, 4, 5, 6] rfl ?_
  refine o_run ft [0, 1, 2, 3] rfl rfl ?_
  refine o_pu rfl (ev_len_slice rfl rfl Tryz.runUnderlying22) (g0 rfl) rfl rfl ?_
  obtain ⟨r3, Hc4, H⟩ := bind_some' H
  refine oc (k_call (c_area_Area_within fp0 a0_ap a0_a a1_sector a2_at (a3_b.length : Int) r3 Hc4) Tryz.call150 rfl rfl rfl [] [0] rfl rfl (g0 rfl) rfl rfl ?_)
  rintro _ _ _ ⟨rfl, rfl, rfl⟩
  dsimp only [app]
  refine o_run ft [6] rfl rfl ?_
  refine o_nil ?_
  refine q_then ?_
  refine s_cond rfl ?_ ?_
  · intro hb5
    have H := cnd_t H hb5
    refine s_seq ?_
    refine s_reg [0] rfl ?_
    refine o_run ft [0] rfl rfl ?_
    refine o_nil ?_
    refine q_then ?_
    refine s_ret ?_
    refine q_then_r ?_
    cases H
    exact q_end (rs_1 Tryz.results97 (rv_tmp rfl)) ⟨fl0g, rfl, rfl, rfl⟩ [] rfl 1 rfl [0, 0] rfl 0 rfl
  · intro hb5
    have H := cnd_f H hb5
    refine s_skip ?_
    refine q_then ?_
    refine s_seq ?_
    refine k_unp 0 rfl ?_
    dsimp only [app, del]
    refine s_draw mixed [(3, [14], Has a0_ap 0 [.pointer (some ⟨fp0, 0, none⟩), vi a0_a.from_, vi a0_a.len, vi a0_a.budget]), (7, [], Has a0_ap 0 [.pointer (some ⟨fp0, 0, none⟩), vi a0_a.from_, vi a0_a.len, vi a0_a.budget])] ?_
    refine a_run ft [0, 1, 2] rfl (fun _ _ _ _ _ h => h) (by kernel_rfl) rfl ?_
    refine a_l1 3 0 rfl (by kernel_rfl) rfl (ev_ld1 (j := 0) rfl rfl Tryz.isAgg29 (sub_nth (j := 0) rfl) rfl) (fun _ _ _ h => h) (g0 rfl) rfl rfl ?_
    refine a_run ft [4, 5, 6] rfl (fun _ _ _ _ _ h => h) (by kernel_rfl) rfl ?_
    refine a_l1 7 1 rfl (by kernel_rfl) rfl (ev_ld1 (j := 1) rfl rfl Tryz.isAgg3 (sub_nth (j := 1) rfl) rfl) (fun _ _ _ h => h) (g0 rfl) rfl rfl ?_
    refine a_run ft [8, 9, 10, 11, 12, 13] rfl (fun _ _ _ _ _ h => h) (by kernel_rfl) rfl ?_
    refine ac 14 (by kernel_rfl) (sl_cons (hG 0 rfl) (sl_cons (hG 0 rfl) sl_nil)) ?_
    obtain ⟨r6, Hc7, H⟩ := bind_some' H
    refine k_call (c_nor_Flash_Program fp0 fl0 fl0g (wrap64 ((wrap64 ((wrap64 (a0_a.from_ + a1_sector)) * 320)) + a2_at)) a3_b A1 c2 r6 Hc7) Tryz.call162 rfl rfl rfl [0] [1] rfl rfl (g0 rfl) rfl rfl ?_
    rintro _ _ _ ⟨g8, rfl, rfl, rfl⟩
    dsimp only [app]
    refine a_run ft [15] rfl (fun _ _ _ _ _ h => h) (by kernel_rfl) rfl ?_
    refine a_done (by kernel_rfl) (sl_end (by kernel_rfl) (sl_cons (hG 1 rfl) sl_nil)) ?_
    refine q_then ?_
    refine s_ret ?_
    refine k_pk (AreaT fp0 () a0_ap a0_a) rfl [] [1] rfl rfl ?_
    cases H
    exact q_end (rs_1 Tryz.results97 (rv_tmp rfl)) ⟨g8, rfl, rfl, rfl⟩ [] rfl 1 rfl [0, 0] rfl 0 rfl

def ring_May (a0_a : AreaS) (fl0 : FlashS) : Option Bool :=
(ring_find a0_a fl0).bind fun r1 =>
(ring_Next a0_a fl0).bind fun r5 =>
(ring_is a0_a).bind fun r7 =>
bnd r7 fun b9 =>
jn (fun x12 =>
bnd x12 fun b13 =>
jn (fun x16 =>
some x16) fun J15 =>
bif b13 then (
(area_Area_Blank a0_a r5 fl0).bind fun r17 =>
bnd r17 fun b19 =>
jn (fun x22 =>
J15 x22) fun J21 =>
bif b19 then (
J21 true) else
(area_Area_Left a0_a r5 fl0).bind fun r23 =>
J21 (decide (r23 > 0))) else
J15 false) fun J11 =>
bif b9 then (
(cell_May (wrap64 (r1.2.1 + 1))).bind fun r25 =>
J11 r25) else
J11 false

theorem c_ring_May (fp0 : Nat) (a0_ap : Nat) (a0_a : AreaS) (fl0 : FlashS) (fl0g : FlashG) (r : Bool) (H : ring_May a0_a fl0 = some r) : Fn Tryz.prog 100 [(.pointer (some ⟨a0_ap, 0, none⟩))] [] [AreaT fp0 () a0_ap a0_a, FlashT fl0g fp0 fl0] (fun v D' G' => v = (vb r) ∧ D' = [] ∧ G' = [AreaT fp0 () a0_ap a0_a, FlashT fl0g fp0 fl0]) := by
  unfold ring_May at H
  refine fn_of Tryz.func100 rfl Tryz.ntmps100 rfl ?_
  intro w0 D0 G0
  dsimp only [app, initEnv, Nat.zero_add, Nat.reduceAdd]
  refine s_seq ?_
  refine s_reg [0] rfl ?_
  refine o_run ft [0] rfl rfl ?_
  refine o_nil ?_
  refine q_then ?_
  refine s_seq ?_
  refine s_reg [0, 1, 2, 3, 4, 5, 6, 7, 8, 9, 10] rfl ?_
  refine o_run ft [0] rfl rfl ?_
  obtain ⟨r1, Hc2, H⟩ := bind_some' H
  refine oc (k_call (c_ring_find fp0 a0_ap a0_a fl0 fl0g r1 Hc2) Tryz.call98 rfl rfl rfl [] [0, 0] rfl rfl (g0 rfl) rfl rfl ?_)
  rintro _ _ _ ⟨A3, c4, rfl, rfl, rfl⟩
  dsimp only [app]
  refine o_run ft [2, 3, 4, 5, 6, 7, 8, 9, 10] rfl rfl ?_
  refine o_nil ?_
  refine q_then ?_
  refine s_seq ?_
  refine s_reg [0, 1, 2] rfl ?_
  refine o_run ft [0] rfl rfl ?_
  obtain ⟨r5, Hc6, H⟩ := bind_some' H
  refine oc (k_call (c_ring_Next fp0 a0_ap a0_a fl0 fl0g r5 Hc6) Tryz.call102 rfl rfl rfl [] [1, 1] rfl rfl (g0 rfl) rfl rfl ?_)
  rintro _ _ _ ⟨rfl, rfl, rfl⟩
  dsimp only [app]
  refine o_run ft [2] rfl rfl ?_
  refine o_nil ?_
  refine q_then ?_
  refine s_seq ?_
  refine s_reg [0, 1, 2, 3, 4, 5, 6, 7, 8, 9, 10, 11, 12, 13, 14, 15, 16, 17, 18] rfl ?_
  refine o_run ft [0] rfl rfl ?_
  obtain ⟨r7, Hc8, H⟩ := bind_some' H
  refine oc (k_call (c_ring_is fp0 a0_ap a0_a r7 Hc8) Tryz.call99 rfl rfl rfl [] [0] rfl rfl (g0 rfl) rfl rfl ?_)
  rintro _ _ _ ⟨rfl, rfl, rfl⟩
  dsimp only [app]
  refine o_run ft [2] rfl rfl ?_
  refine k_name 19 rfl ?_
  intro b9 hb10
  have H := bnd_eq H hb10
  refine o_jb 23 [7, 8, 9, 10, 11, 12, 13, 14, 15, 16, 17, 18] [0, 2, 3, 4, 5, 6, 7, 8, 9, 10, 11, 12, 13, 14, 15, 16, 17, 18, 19] H rfl ?_ ?_
  · intro x12 H
    refine o_run ft [7] rfl rfl ?_
    refine k_name 24 rfl ?_
    intro b13 hb14
    have H := bnd_eq H hb14
    refine o_jb 34 [18] [0, 2, 3, 4, 5, 6, 7, 8, 9, 10, 11, 12, 13, 14, 15, 16, 17, 18, 19, 23, 24] H rfl ?_ ?_
    · intro x16 H
      refine o_run ft [18] rfl rfl ?_
      refine o_nil ?_
      refine q_then ?_
      refine s_ret ?_
      cases H
      exact q_end (rs_1 Tryz.results100 (rv_tmp rfl)) ⟨rfl, rfl, rfl⟩ [] rfl 1 rfl [0, 0] rfl 1 rfl
    · intro J15 J15h H
      cases b13 with
      | true =>
        rw [cond_true] at H
        refine o_run ft [8, 9] rfl rfl ?_
        obtain ⟨r17, Hc18, H⟩ := bind_some' H
        refine oc (k_call (c_area_Area_Blank fp0 a0_ap a0_a r5 fl0 fl0g r17 Hc18) Tryz.call95 rfl rfl rfl [] [0, 0] rfl rfl (g1 rfl rfl rfl rfl) rfl rfl ?_)
        rintro _ _ _ ⟨rfl, rfl, rfl⟩
        dsimp only [app]
        refine o_run ft [11] rfl rfl ?_
        refine k_name 28 rfl ?_
        intro b19 hb20
        have H := bnd_eq H hb20
        refine o_jb 33 [17, 18] [0, 2, 3, 4, 5, 6, 7, 8, 9, 10, 11, 12, 13, 14, 15, 16, 17, 18, 19, 23, 24, 25, 26, 27, 28] H rfl ?_ ?_
        · intro x22 H
          refine o_run ft [17] rfl rfl ?_
          exact k_wk (J15h x22 H) [34, 0, 2, 3, 4, 5, 6, 7, 8, 9, 10, 11, 12, 13, 14, 15, 16, 17, 18, 19, 23, 24] [0] 1 [0, 0, 0] 0 rfl rfl rfl
        · intro J21 J21h H
          cases b19 with
          | true =>
            rw [cond_true] at H
            refine o_gnot rfl rfl rfl rfl rfl rfl rfl rfl ?_
            refine o_gnot rfl rfl rfl rfl rfl rfl rfl rfl ?_
            refine o_gnot rfl rfl rfl rfl rfl rfl rfl rfl ?_
            refine o_gnot rfl rfl rfl rfl rfl rfl rfl rfl ?_
            refine o_run ft [16] rfl rfl ?_
            exact k_wk (J21h true H) [33, 0, 2, 3, 4, 5, 6, 7, 8, 9, 10, 11, 12, 13, 14, 15, 16, 17, 18, 19, 23, 24, 25, 26, 27, 28] [0] 1 [0, 0, 0] 0 rfl rfl rfl
          | false =>
            rw [cond_false] at H
            refine o_run ft [12, 13] rfl rfl ?_
            obtain ⟨r23, Hc24, H⟩ := bind_some' H
            refine oc (k_call (c_area_Area_Left fp0 a0_ap a0_a r5 fl0 fl0g r23 Hc24) Tryz.call158 rfl rfl rfl [] [0, 0] rfl rfl (g1 rfl rfl rfl rfl) rfl rfl ?_)
            rintro _ _ _ ⟨rfl, rfl, rfl⟩
            dsimp only [app]
            refine o_run ft [15, 16] rfl rfl ?_
            exact k_wk (J21h (decide (r23 > 0)) H) [33, 0, 2, 3, 4, 5, 6, 7, 8, 9, 10, 11, 12, 13, 14, 15, 16, 17, 18, 19, 23, 24, 25, 26, 27, 28] [0] 1 [0, 0, 0] 0 rfl rfl rfl
      | false =>
        rw [cond_false] at H
        refine o_gnot rfl rfl rfl rfl rfl rfl rfl rfl ?_
        refine o_gnot rfl rfl rfl rfl rfl rfl rfl rfl ?_
        refine o_gnot rfl rfl rfl rfl rfl rfl rfl rfl ?_
        refine o_gnot rfl rfl rfl rfl rfl rfl rfl rfl ?_
        refine o_gundef rfl rfl rfl rfl rfl rfl rfl ?_
        refine o_gundef rfl rfl rfl rfl rfl rfl rfl ?_
        refine o_gundef rfl rfl rfl rfl rfl rfl rfl ?_
        refine o_gundef rfl rfl rfl rfl rfl rfl rfl ?_
        refine o_gnot rfl rfl rfl rfl rfl rfl rfl rfl ?_
        refine o_run ft [17] rfl rfl ?_
        exact k_wk (J15h false H) [34, 0, 2, 3, 4, 5, 6, 7, 8, 9, 10, 11, 12, 13, 14, 15, 16, 17, 18, 19, 23, 24] [0] 1 [0, 0, 0] 0 rfl rfl rfl
  · intro J11 J11h H
    cases b9 with
    | true =>
      rw [cond_true] at H
      refine o_run ft [3, 4] rfl rfl ?_
      obtain ⟨r25, Hc26, H⟩ := bind_some' H
      refine oc (k_call (c_cell_May (wrap64 (r1.2.1 + 1)) r25 Hc26) Tryz.call164 rfl rfl rfl [] [] rfl rfl (g1 rfl rfl rfl rfl) rfl rfl ?_)
      rintro _ _ _ ⟨rfl, rfl, rfl⟩
      dsimp only [app]
      refine o_run ft [6] rfl rfl ?_
      exact k_wk (J11h r25 H) [23, 0, 2, 3, 4, 5, 6, 7, 8, 9, 10, 11, 12, 13, 14, 15, 16, 17, 18, 19] [0] 1 [0, 0, 0] 0 rfl rfl rfl
    | false =>
      rw [cond_false] at H
      refine o_gnot rfl rfl rfl rfl rfl rfl rfl rfl ?_
      refine o_gnot rfl rfl rfl rfl rfl rfl rfl rfl ?_
      refine o_gnot rfl rfl rfl rfl rfl rfl rfl rfl ?_
      refine o_run ft [6] rfl rfl ?_
      exact k_wk (J11h false H) [23, 0, 2, 3, 4, 5, 6, 7, 8, 9, 10, 11, 12, 13, 14, 15, 16, 17, 18, 19] [0] 1 [0, 0, 0] 0 rfl rfl rfl

def tenant_Open (a0_f : FlashS) (a1_cap : CapS) (a2_c : Config) : Option ((Option TenantS) × Int) :=
(tenant_part a0_f a1_cap (⟨a2_c.Name, a2_c.Key, a2_c.Slot, a2_c.Budget, a2_c.Quota, a2_c.Rights, a2_c.First⟩ : Config)).bind fun r7 =>
optc r7 (
some ((none : Option TenantS), 1)) (fun x14 =>
(ring_Last x14 a0_f).bind fun r17 =>
bif (!r17.2.2) then (
some ((none : Option TenantS), 16)) else (
(meta_Read r17.2.1).bind fun r22 =>
bif (r22.2 != 0) then (
some ((none : Option TenantS), 16)) else (
some ((some (⟨x14, a1_cap, (⟨a2_c.Name, a2_c.Key, a2_c.Slot, a2_c.Budget, a2_c.Quota, a2_c.Rights, a2_c.First⟩ : Config), r22.1⟩ : TenantS)), 0))))

theorem c_tenant_Open (a0_fp : Nat) (a0_f : FlashS) (a0_fg : FlashG) (a1_cap : CapS) (a2_c : Config) (A1 : Option Addr) (c2 : Nat) (A3 : Option Addr) (c4 : Nat) (r : (Option TenantS) × Int) (H : tenant_Open a0_f a1_cap a2_c = some r) : Fn Tryz.prog 13 [(.pointer (some ⟨a0_fp, 0, none⟩)), (.agg (CapS.cells a1_cap).toArray), (.agg ([vs a2_c.Name, .slice A1 a2_c.Key.length c2, vi a2_c.Slot, vi a2_c.Budget, vi a2_c.Quota, vi a2_c.Rights, .slice A3 a2_c.First.length c4]).toArray)] [Sl E8 A3 c4 a2_c.First, Sl E8 A1 c2 a2_c.Key] [FlashT a0_fg a0_fp a0_f] (fun v D' G' => (r.1 = none → v = (.tuple #[(.pointer none), (vi r.2)]) ∧ D' = [] ∧ G' = [FlashT a0_fg a0_fp a0_f]) ∧ (∀ x : TenantS, r.1 = some x → ∃ (b27 : Nat) (g28 : TenantG), v = (.tuple #[(.pointer (some ⟨b27, 0, none⟩)), (vi r.2)]) ∧ D' = [] ∧ G' = [TenantT a0_fp g28 b27 x, FlashT a0_fg a0_fp a0_f])) := by
  unfold tenant_Open at H
  refine fn_of Tryz.func13 rfl Tryz.ntmps13 rfl ?_
  intro w0 D0 G0
  dsimp only [app, initEnv, Nat.zero_add, Nat.reduceAdd]
  refine s_seq ?_
  refine s_reg [0, 1, 2, 3] rfl ?_
  refine oc (k_box rfl rfl rfl (cs := CapS.cells a1_cap) rfl (g0 rfl) rfl rfl ?_)
  intro b5
  refine oc (k_box rfl rfl rfl (cs := [vs a2_c.Name, .slice A1 a2_c.Key.length c2, vi a2_c.Slot, vi a2_c.Budget, vi a2_c.Quota, vi a2_c.Rights, .slice A3 a2_c.First.length c4]) rfl (g0 rfl) rfl rfl ?_)
  intro b6
  refine o_run ft [2, 3] rfl rfl ?_
  refine o_nil ?_
  refine q_then ?_
  refine s_seq ?_
  refine s_reg [0, 1, 2, 3, 4] rfl ?_
  refine o_run ft [0] rfl rfl ?_
  refine o_ld (hG 1 rfl) rfl (ev_ldN (j := 0) rfl rfl Tryz.isAgg28 (sz (CapS.len _) Tryz.sizeOf28) (sub_all _) rfl) (g0 rfl) rfl rfl ?_
  refine o_ld (hG 0 rfl) rfl (ev_ldN (j := 0) (s := [vs a2_c.Name, .slice A1 a2_c.Key.length c2, vi a2_c.Slot, vi a2_c.Budget, vi a2_c.Quota, vi a2_c.Rights, .slice A3 a2_c.First.length c4]) rfl rfl Tryz.isAgg25 (sz rfl Tryz.sizeOf25) (sub_all _) rfl) (g0 rfl) rfl rfl ?_
  obtain ⟨r7, Hc8, H⟩ := bind_some' H
  refine oc (k_call (c_tenant_part a0_fp a0_f a0_fg a1_cap (⟨a2_c.Name, a2_c.Key, a2_c.Slot, a2_c.Budget, a2_c.Quota, a2_c.Rights, a2_c.First⟩ : Config) A1 c2 A3 c4 r7 Hc8) Tryz.call36 rfl rfl rfl [0, 1] [2] rfl rfl (g0 rfl) rfl rfl ?_)
  intro v9 D10 G11 hp12
  rcases hr13 : r7 with _ | x14
  · have H := optc_n H hr13
    obtain ⟨rfl, rfl, rfl⟩ := hp12.1 hr13
    dsimp only [app]
    refine o_run ft [4] rfl rfl ?_
    refine o_nil ?_
    refine q_then ?_
    refine s_seq ?_
    refine s_seq ?_
    refine s_reg [0, 1] rfl ?_
    refine o_run ft [0] rfl rfl ?_
    refine o_pu rfl (ev_bin rfl rfl rfl rfl (eql_ptr_nn Tryz.runUnderlying81)) (g0 rfl) rfl rfl ?_
    refine o_nil ?_
    refine q_then ?_
    refine s_cond_t rfl ?_
    refine s_seq ?_
    refine s_reg [0, 1] rfl ?_
    refine o_run ft [0, 1] rfl rfl ?_
    refine o_nil ?_
    refine q_then ?_
    refine s_ret ?_
    refine q_then_r ?_
    cases H
    exact q_end (rs_2 Tryz.results13 (rv_tmp rfl) (rv_tmp rfl)) ⟨fun _ => ⟨rfl, rfl, rfl⟩, fun _ h => by cases h⟩ [] rfl 2 rfl [0] rfl 2 rfl
  · have H := optc_s H hr13
    obtain ⟨b15, rfl, rfl, rfl⟩ := hp12.2 x14 hr13
    dsimp only [app]
    refine o_run ft [4] rfl rfl ?_
    refine o_nil ?_
    refine q_then ?_
    refine s_seq ?_
    refine s_seq ?_
    refine s_reg [0, 1] rfl ?_
    refine o_run ft [0] rfl rfl ?_
    refine o_pu rfl (ev_bin rfl rfl rfl rfl (eql_ptr_pn Tryz.runUnderlying81)) (g0 rfl) rfl rfl ?_
    refine o_nil ?_
    refine q_then ?_
    refine s_cond_f rfl ?_
    refine s_skip ?_
    refine q_then ?_
    refine s_seq ?_
    refine s_reg [0, 1, 2, 3, 4, 5, 6, 7, 8] rfl ?_
    refine o_run ft [0] rfl rfl ?_
    obtain ⟨r17, Hc18, H⟩ := bind_some' H
    refine oc (k_call (c_ring_Last a0_fp b15 x14 a0_f a0_fg r17 Hc18) Tryz.call43 rfl rfl rfl [] [0, 0] rfl rfl (g0 rfl) rfl rfl ?_)
    rintro _ _ _ ⟨A19, c20, rfl, rfl, rfl⟩
    dsimp only [app]
    refine o_run ft [2, 3, 4, 5, 6, 7, 8] rfl rfl ?_
    refine o_nil ?_
    refine q_then ?_
    refine s_seq ?_
    refine s_seq ?_
    refine s_reg [0, 1] rfl ?_
    refine o_run ft [0, 1] rfl rfl ?_
    refine o_nil ?_
    refine q_then ?_
    refine s_cond rfl ?_ ?_
    · intro hb21
      have H := cnd_t H hb21
      refine s_seq ?_
      refine s_reg [0, 1] rfl ?_
      refine o_run ft [0, 1] rfl rfl ?_
      refine o_nil ?_
      refine q_then ?_
      refine s_ret ?_
      refine q_then_r ?_
      cases H
      exact q_end (rs_2 Tryz.results13 (rv_tmp rfl) (rv_tmp rfl)) ⟨fun _ => ⟨rfl, rfl, rfl⟩, fun _ h => by cases h⟩ [] rfl 3 rfl [2] rfl 4 rfl
    · intro hb21
      have H := cnd_f H hb21
      refine s_skip ?_
      refine q_then ?_
      refine s_seq ?_
      refine s_reg [0, 1, 2, 3, 4, 5, 6, 7] rfl ?_
      refine o_run ft [0] rfl rfl ?_
      obtain ⟨r22, Hc23, H⟩ := bind_some' H
      refine oc (k_call (c_meta_Read r17.2.1 A19 c20 r22 Hc23) Tryz.call44 rfl rfl rfl [0] [] rfl rfl (g0 rfl) rfl rfl ?_)
      rintro _ _ _ ⟨rfl, rfl, rfl⟩
      dsimp only [app]
      refine o_run ft [2, 3, 4] rfl rfl ?_
      refine oc (k_alloc rfl rfl Tryz.zeroValue52 (cs := MetaS.cells MetaS.zero) rfl (g0 rfl) rfl rfl ?_)
      intro b24
      refine oc (k_st (j := 0) rfl rfl rfl rfl (vs := MetaS.cells r22.1) rfl (sz (MetaS.len _) Tryz.sizeOf52) (MetaS.sc _) 0 rfl (spl_all ((MetaS.len _).trans (MetaS.len _).symm)) rfl (g0 rfl) rfl ?_)
      refine o_run ft [7] rfl rfl ?_
      refine o_nil ?_
      refine q_then ?_
      refine s_seq ?_
      refine s_seq ?_
      refine s_reg [0, 1] rfl ?_
      refine o_run ft [0, 1] rfl rfl ?_
      refine o_nil ?_
      refine q_then ?_
      refine s_cond rfl ?_ ?_
      · intro hb25
        have H := cnd_t H hb25
        refine s_seq ?_
        refine s_reg [0, 1] rfl ?_
        refine o_run ft [0, 1] rfl rfl ?_
        refine o_nil ?_
        refine q_then ?_
        refine s_ret ?_
        refine q_then_r ?_
        cases H
        exact q_end (rs_2 Tryz.results13 (rv_tmp rfl) (rv_tmp rfl)) ⟨fun _ => ⟨rfl, rfl, rfl⟩, fun _ h => by cases h⟩ [] rfl 3 rfl [3] rfl 5 rfl
      · intro hb25
        have H := cnd_f H hb25
        refine s_skip ?_
        refine q_then ?_
        refine s_seq ?_
        refine s_reg [0, 1, 2, 3, 4, 5, 6, 7, 8] rfl ?_
        refine o_run ft [0] rfl rfl ?_
        refine o_pu rfl (ev_iface rfl rfl (fun w => ⟨_, Tryz.runUnderlying81 w, fun _ h => by cases h⟩)) (g0 rfl) rfl rfl ?_
        refine o_ld (hG 5 rfl) rfl (ev_ldN (j := 0) rfl rfl Tryz.isAgg28 (sz (CapS.len _) Tryz.sizeOf28) (sub_all _) rfl) (g0 rfl) rfl rfl ?_
        refine o_ld (hG 4 rfl) rfl (ev_ldN (j := 0) (s := [vs a2_c.Name, .slice A1 a2_c.Key.length c2, vi a2_c.Slot, vi a2_c.Budget, vi a2_c.Quota, vi a2_c.Rights, .slice A3 a2_c.First.length c4]) rfl rfl Tryz.isAgg25 (sz rfl Tryz.sizeOf25) (sub_all _) rfl) (g0 rfl) rfl rfl ?_
        refine o_ld (hG 0 rfl) rfl (ev_ldN (j := 0) rfl rfl Tryz.isAgg52 (sz (MetaS.len _) Tryz.sizeOf52) (sub_all _) rfl) (g0 rfl) rfl rfl ?_
        refine o_pu rfl (ev_build2 (zcs := [.nilIface] ++ (CapS.cells CapS.zero ++ ([vs [], .slice none 0 0, vi 0, vi 0, vi 0, vi 0, .slice none 0 0] ++ (MetaS.cells MetaS.zero)))) (cs := [.iface 81 (.pointer (some ⟨b15, 0, none⟩))] ++ (CapS.cells a1_cap ++ ([vs a2_c.Name, .slice A1 a2_c.Key.length c2, vi a2_c.Slot, vi a2_c.Budget, vi a2_c.Quota, vi a2_c.Rights, .slice A3 a2_c.First.length c4] ++ (MetaS.cells r22.1)))) rfl rfl Tryz.zeroValue101 Tryz.runUnderlying101 pl101 (by kernel_rfl) (show Instr.fill _ ([.nilIface] ++ (CapS.cells CapS.zero ++ ([vs [], .slice none 0 0, vi 0, vi 0, vi 0, vi 0, .slice none 0 0] ++ (MetaS.cells MetaS.zero))) : List Value).toArray _ = some _ from (fill_cons rfl (s := [.iface 81 (.pointer (some ⟨b15, 0, none⟩))]) rfl rfl (spl_head (spl_lit (j := 0) (cs' := [.iface 81 (.pointer (some ⟨b15, 0, none⟩))]) rfl rfl)) (fill_cons rfl (s := CapS.cells a1_cap) rfl (CapS.len _) (spl_skip (n := 1) (spl_head (spl_all ((CapS.len _).trans (CapS.len _).symm))) rfl rfl) (fill_cons rfl (s := [vs a2_c.Name, .slice A1 a2_c.Key.length c2, vi a2_c.Slot, vi a2_c.Budget, vi a2_c.Quota, vi a2_c.Rights, .slice A3 a2_c.First.length c4]) rfl rfl (spl_skip (n := 1) (spl_skip (n := 3) (spl_head (spl_all rfl)) (CapS.len _) rfl) rfl rfl) (fill_cons rfl (s := MetaS.cells r22.1) rfl (MetaS.len _) (spl_skip (n := 1) (spl_skip (n := 3) (spl_skip (n := 7) (spl_all ((MetaS.len _).trans (MetaS.len _).symm)) rfl rfl) (CapS.len _) rfl) rfl rfl) fill_nil)))))) (g0 rfl) rfl rfl ?_
        refine oc (k_box rfl rfl rfl (cs := [.iface 81 (.pointer (some ⟨b15, 0, none⟩))] ++ (CapS.cells a1_cap ++ ([vs a2_c.Name, .slice A1 a2_c.Key.length c2, vi a2_c.Slot, vi a2_c.Budget, vi a2_c.Quota, vi a2_c.Rights, .slice A3 a2_c.First.length c4] ++ (MetaS.cells r22.1)))) rfl (g0 rfl) rfl rfl ?_)
        intro b26
        refine o_run ft [7, 8] rfl rfl ?_
        refine o_nil ?_
        refine q_then ?_
        refine s_ret ?_
        refine k_pk (TenantT a0_fp ⟨b15, (), A1, c2, A3, c4⟩ b26 (⟨x14, a1_cap, (⟨a2_c.Name, a2_c.Key, a2_c.Slot, a2_c.Budget, a2_c.Quota, a2_c.Rights, a2_c.First⟩ : Config), r22.1⟩ : TenantS)) rfl [2, 1] [0, 2] rfl rfl ?_
        cases H
        exact q_end (rs_2 Tryz.results13 (rv_tmp rfl) (rv_tmp rfl)) ⟨fun h => (by cases h), fun _ h => by cases h; exact ⟨b26, ⟨b15, (), A1, c2, A3, c4⟩, rfl, rfl, rfl⟩⟩ [] rfl 3 rfl [0, 2] rfl 4 rfl

def tenant_Tenant_Active (a0_t : TenantS) (fl0 : FlashS) : Option (List UInt8) :=
chk (0 ≤ a0_t.m.Active ∧ a0_t.m.Active < 2) <|
(tenant_Tenant_area a0_t).bind fun r2 =>
(slot_Image a0_t.part a0_t.m.Active a0_t.c.Slot ((at' Img.zero a0_t.m.Have.l a0_t.m.Active).Size) fl0).bind fun r4 =>
some r4

theorem c_tenant_Tenant_Active (fp0 : Nat) (a0_tp : Nat) (a0_t : TenantS) (a0_tg : TenantG) (fl0 : FlashS) (fl0g : FlashG) (r : (List UInt8)) (H : tenant_Tenant_Active a0_t fl0 = some r) : Fn Tryz.prog 18 [(.pointer (some ⟨a0_tp, 0, none⟩))] [] [TenantT fp0 a0_tg a0_tp a0_t, FlashT fl0g fp0 fl0] (fun v D' G' => ∃ (A8 : Option Addr) (c9 : Nat), v = (.slice A8 r.length c9) ∧ D' = [Sl E8 A8 c9 r] ∧ G' = [Spare A8 r.length c9 1, TenantT fp0 a0_tg a0_tp a0_t, FlashT fl0g fp0 fl0]) := by
  unfold tenant_Tenant_Active at H
  refine fn_of Tryz.func18 rfl Tryz.ntmps18 rfl ?_
  intro w0 D0 G0
  dsimp only [app, initEnv, Nat.zero_add, Nat.reduceAdd]
  refine s_seq ?_
  refine s_reg [0] rfl ?_
  refine o_run ft [0] rfl rfl ?_
  refine o_nil ?_
  refine q_then ?_
  refine s_seq ?_
  refine s_seq ?_
  refine s_reg [0, 1] rfl ?_
  refine o_run ft [0] rfl rfl ?_
  refine o_pu rfl (ev_bin rfl rfl rfl rfl (eql_ptr_pn Tryz.runUnderlying33)) (g0 rfl) rfl rfl ?_
  refine o_nil ?_
  refine q_then ?_
  refine s_cond_f rfl ?_
  refine s_skip ?_
  refine q_then ?_
  refine s_seq ?_
  refine k_unp 0 rfl ?_
  dsimp only [app, del]
  refine s_draw mixed [(6, [24], Has a0_tp 0 ([.iface 81 (.pointer (some ⟨a0_tg.b0, 0, none⟩))] ++ (CapS.cells a0_t.cap ++ ([vs a0_t.c.Name, .slice a0_tg.A3 a0_t.c.Key.length a0_tg.c3, vi a0_t.c.Slot, vi a0_t.c.Budget, vi a0_t.c.Quota, vi a0_t.c.Rights, .slice a0_tg.A8 a0_t.c.First.length a0_tg.c8] ++ (MetaS.cells a0_t.m))))), (11, [24], Has a0_tp 0 ([.iface 81 (.pointer (some ⟨a0_tg.b0, 0, none⟩))] ++ (CapS.cells a0_t.cap ++ ([vs a0_t.c.Name, .slice a0_tg.A3 a0_t.c.Key.length a0_tg.c3, vi a0_t.c.Slot, vi a0_t.c.Budget, vi a0_t.c.Quota, vi a0_t.c.Rights, .slice a0_tg.A8 a0_t.c.First.length a0_tg.c8] ++ (MetaS.cells a0_t.m))))), (17, [], Has a0_tp 0 ([.iface 81 (.pointer (some ⟨a0_tg.b0, 0, none⟩))] ++ (CapS.cells a0_t.cap ++ ([vs a0_t.c.Name, .slice a0_tg.A3 a0_t.c.Key.length a0_tg.c3, vi a0_t.c.Slot, vi a0_t.c.Budget, vi a0_t.c.Quota, vi a0_t.c.Rights, .slice a0_tg.A8 a0_t.c.First.length a0_tg.c8] ++ (MetaS.cells a0_t.m))))), (23, [24], Has a0_tp 0 ([.iface 81 (.pointer (some ⟨a0_tg.b0, 0, none⟩))] ++ (CapS.cells a0_t.cap ++ ([vs a0_t.c.Name, .slice a0_tg.A3 a0_t.c.Key.length a0_tg.c3, vi a0_t.c.Slot, vi a0_t.c.Budget, vi a0_t.c.Quota, vi a0_t.c.Rights, .slice a0_tg.A8 a0_t.c.First.length a0_tg.c8] ++ (MetaS.cells a0_t.m)))))] ?_
  refine a_run ft [0, 2, 3, 4, 5] rfl (fun _ _ _ _ _ h => h) (by kernel_rfl) rfl ?_
  refine a_l1 6 0 rfl (by kernel_rfl) rfl (ev_ld1 (j := 11) rfl rfl Tryz.isAgg3 (sub_skip (n := 1) (sub_skip (n := 3) (sub_skip (n := 7) (MetaS.sub_Active _) rfl rfl) (CapS.len _) rfl) rfl rfl) rfl) (fun _ _ _ h => h) (g0 rfl) rfl rfl ?_
  refine a_run ft [7, 8, 9, 10] rfl (fun _ _ _ _ _ h => h) (by kernel_rfl) rfl ?_
  refine a_l1 11 1 rfl (by kernel_rfl) rfl (ev_ld1 (j := 6) rfl rfl Tryz.isAgg3 (sub_skip (n := 1) (sub_skip (n := 3) (sub_head (sub_nth (j := 2) rfl)) (CapS.len _) rfl) rfl rfl) rfl) (fun _ _ _ h => h) (g0 rfl) rfl rfl ?_
  refine a_run ft [12, 13, 14, 15, 16] rfl (fun _ _ _ _ _ h => h) (by kernel_rfl) rfl ?_
  refine a_l1 17 2 rfl (by kernel_rfl) rfl (ev_ld1 (j := 11) rfl rfl Tryz.isAgg3 (sub_skip (n := 1) (sub_skip (n := 3) (sub_skip (n := 7) (MetaS.sub_Active _) rfl rfl) (CapS.len _) rfl) rfl rfl) rfl) (fun _ _ _ h => h) (g0 rfl) rfl rfl ?_
  refine a_run ft [18, 19, 20] rfl (fun _ _ _ _ _ h => h) (by kernel_rfl) rfl ?_
  obtain ⟨hk1, H⟩ := chk_some H
  refine a_p1 21 (by kernel_rfl) rfl (ev_idx_array rfl rfl rfl Tryz.runUnderlying50 Tryz.sizeOf49 hk1 rfl) (fun _ _ _ h => h) (g0 rfl) rfl rfl ?_
  refine a_run ft [22] rfl (fun _ _ _ _ _ h => h) (by kernel_rfl) rfl ?_
  refine a_l1 23 3 rfl (by kernel_rfl) rfl (ev_ld1 rfl rfl Tryz.isAgg3 (sub_skip (n := 1) (sub_skip (n := 3) (sub_skip (n := 7) (sub_sub (MetaS.sub_Have _) (sub_sub (sub_arr Img.len Img.zero _ (k := a0_t.m.Active) hk1 rfl) (Img.sub_Size _) rfl) rfl) rfl rfl) (CapS.len _) rfl) rfl rfl) (by first | omega | (dsimp only; omega))) (fun _ _ _ h => h) (g0 rfl) rfl rfl ?_
  refine ac 1 (by kernel_rfl) (sl_cons (hG 0 rfl) (sl_cons (hG 0 rfl) (sl_cons (hG 0 rfl) (sl_cons (hG 0 rfl) sl_nil)))) ?_
  refine k_pk (TenantT fp0 a0_tg a0_tp a0_t) rfl [0, 1] [0, 0] rfl rfl ?_
  obtain ⟨r2, Hc3, H⟩ := bind_some' H
  refine k_call (c_tenant_Tenant_area fp0 a0_tp a0_t a0_tg r2 Hc3) Tryz.call56 rfl rfl rfl [] [0] rfl rfl (g0 rfl) rfl rfl ?_
  rintro _ _ _ ⟨rfl, rfl, rfl⟩
  dsimp only [app]
  refine k_unp 0 rfl ?_
  dsimp only [app, del]
  refine ac 24 (by kernel_rfl) (sl_cons (hG 0 rfl) (sl_cons (hG 0 rfl) (sl_cons (hG 0 rfl) (sl_cons (hG 0 rfl) sl_nil)))) ?_
  obtain ⟨r4, Hc5, H⟩ := bind_some' H
  refine k_call (c_slot_Image fp0 a0_tg.b0 a0_t.part a0_t.m.Active a0_t.c.Slot ((at' Img.zero a0_t.m.Have.l a0_t.m.Active).Size) fl0 fl0g r4 Hc5) Tryz.call55 rfl rfl rfl [] [1, 1] rfl rfl (g0 rfl) rfl rfl ?_
  rintro _ _ _ ⟨A6, c7, rfl, rfl, rfl⟩
  dsimp only [app]
  refine a_run ft [25] rfl (fun _ _ _ _ _ h => h) (by kernel_rfl) rfl ?_
  refine a_done (by kernel_rfl) (sl_end (by kernel_rfl) (sl_end (by kernel_rfl) (sl_cons (hG 3 rfl) (sl_end (by kernel_rfl) sl_nil)))) ?_
  refine q_then ?_
  refine s_ret ?_
  refine k_pk (TenantT fp0 a0_tg a0_tp a0_t) rfl [1, 2] [3, 1] rfl rfl ?_
  cases H
  exact q_end (rs_1 Tryz.results18 (rv_tmp rfl)) ⟨A6, c7, rfl, rfl, rfl⟩ [0] rfl 5 rfl [1, 0, 0] rfl 0 rfl

end Go.Proofs.YtpdoioeckiiegaaGreatDoor.Wl
