import Derived.Test.YtphbbnlbfbhcaaaDoorWlW
import Derived.Test.YtphbbnlbfbhcaaaDoorWlX0
import Derived.Test.YtphbbnlbfbhcaaaDoorWlX1
import Derived.Test.YtphbbnlbfbhcaaaDoorWlX2
import Derived.Test.YtphbbnlbfbhcaaaDoorWlX4
set_option linter.unusedSimpArgs false
set_option linter.unusedVariables false
set_option maxRecDepth 10000
namespace Go.Proofs.YtphbbnlbfbhcaaaDoor.Wl
open Go.RowKit Go.Proofs
def manifest_Read (a0_b : List UInt8) : Option (Mani × (List UInt8) × Int) :=
bif ((a0_b.length : Int) != 92) then (
some (Mani.zero, [], 6)) else (
(field_NewReader a0_b).bind fun r5 =>
(field_Reader_Raw (⟨r5.b, r5.bad⟩ : ReaderS) (4 : Int)).bind fun r10 =>
(field_Reader_Raw (⟨r10.2.b, r10.2.bad⟩ : ReaderS) (16 : Int)).bind fun r16 =>
(strings_TrimRight r16.1).bind fun r22 =>
(field_Reader_Num (⟨r16.2.b, r16.2.bad⟩ : ReaderS) (4 : Int)).bind fun r25 =>
bnd ({ ((⟨r22, Img.zero⟩ : Mani) : Mani) with Image := { ((⟨r22, Img.zero⟩ : Mani).Image : Img) with Version := r25.1 } }) fun x29 =>
(field_Reader_Num (⟨r25.2.b, r25.2.bad⟩ : ReaderS) (4 : Int)).bind fun r31 =>
(field_Reader_Raw (⟨r31.2.b, r31.2.bad⟩ : ReaderS) (32 : Int)).bind fun r35 =>
bnd (!(r10.1 == ([87, 76, 77, 49] : List UInt8))) fun b42 =>
jn (fun x45 =>
bnd x45 fun b46 =>
jn (fun x49 =>
bnd x49 fun b50 =>
jn (fun x53 =>
bif x53 then (
some (Mani.zero, [], 6)) else (
(field_Reader_Raw (⟨r35.2.b, r35.2.bad⟩ : ReaderS) (32 : Int)).bind fun r55 =>
bnd ({ ({ (x29 : Mani) with Image := { (x29.Image : Img) with Size := r31.1 } } : Mani) with Image := { (({ (x29 : Mani) with Image := { (x29.Image : Img) with Size := r31.1 } }).Image : Img) with Digest := (Arr.cpy ((({ (x29 : Mani) with Image := { (x29.Image : Img) with Size := r31.1 } }).Image).Digest) r35.1) } }) fun x61 =>
some (x61, r55.1, 0))) fun J52 =>
bif b50 then (
J52 true) else
(manifest_number ((({ ({ (x29 : Mani) with Image := { (x29.Image : Img) with Size := r31.1 } } : Mani) with Image := { (({ (x29 : Mani) with Image := { (x29.Image : Img) with Size := r31.1 } }).Image : Img) with Digest := (Arr.cpy ((({ (x29 : Mani) with Image := { (x29.Image : Img) with Size := r31.1 } }).Image).Digest) r35.1) } }).Image).Size)).bind fun r63 =>
J52 (!r63)) fun J48 =>
bif b46 then (
J48 true) else
(manifest_number ((({ ({ (x29 : Mani) with Image := { (x29.Image : Img) with Size := r31.1 } } : Mani) with Image := { (({ (x29 : Mani) with Image := { (x29.Image : Img) with Size := r31.1 } }).Image : Img) with Digest := (Arr.cpy ((({ (x29 : Mani) with Image := { (x29.Image : Img) with Size := r31.1 } }).Image).Digest) r35.1) } }).Image).Version)).bind fun r65 =>
J48 (!r65)) fun J44 =>
bif b42 then (
J44 true) else
(names_Valid (({ ({ (x29 : Mani) with Image := { (x29.Image : Img) with Size := r31.1 } } : Mani) with Image := { (({ (x29 : Mani) with Image := { (x29.Image : Img) with Size := r31.1 } }).Image : Img) with Digest := (Arr.cpy ((({ (x29 : Mani) with Image := { (x29.Image : Img) with Size := r31.1 } }).Image).Digest) r35.1) } }).Name)).bind fun r67 =>
J44 (!r67))

theorem c_manifest_Read (a0_b : List UInt8) (A1 : Option Addr) (c2 : Nat) (r : Mani × (List UInt8) × Int) (H : manifest_Read a0_b = some r) : Fn Tryd.prog 56 [(.slice A1 a0_b.length c2)] [Sl E8 A1 c2 a0_b] [] (fun v D' G' => ∃ (A69 : Option Addr) (c70 : Nat), v = (.tuple #[(.agg (Mani.cells r.1).toArray), (.slice A69 r.2.1.length c70), (vi r.2.2)]) ∧ D' = [Sl E8 A69 c70 r.2.1] ∧ G' = [Spare A69 r.2.1.length c70 1]) := by
  unfold manifest_Read at H
  refine fn_of Tryd.func56 rfl Tryd.ntmps56 rfl ?_
  intro w0 D0 G0
  dsimp only [app, initEnv, Nat.zero_add, Nat.reduceAdd]
  refine s_seq ?_
  refine s_reg [0, 1, 2] rfl ?_
  refine oc (k_alloc rfl rfl Tryd.zeroValue112 (cs := Mani.cells Mani.zero) rfl (g0 rfl) rfl rfl ?_)
  intro b3
  refine o_pu rfl (ev_assign rfl rfl) (g0 rfl) rfl rfl ?_
  refine o_pu rfl (ev_assign rfl rfl) (g0 rfl) rfl rfl ?_
  refine o_nil ?_
  refine q_then ?_
  refine s_seq ?_
  refine s_seq ?_
  refine s_reg [0, 1, 2] rfl ?_
  refine o_pu rfl (ev_move rfl rfl) (g0 rfl) rfl rfl ?_
  refine o_pu rfl (ev_len_slice rfl rfl Tryd.runUnderlying32) (g0 rfl) rfl rfl ?_
  refine o_pu rfl (ev_bin rfl rfl rfl rfl (neq_i _ 92)) (g0 rfl) rfl rfl ?_
  refine o_nil ?_
  refine q_then ?_
  refine s_cond rfl ?_ ?_
  · intro hb4
    have H := cnd_t H hb4
    refine s_seq ?_
    refine s_reg [0, 1, 2, 3] rfl ?_
    refine o_pu rfl (ev_build (cs := Mani.cells Mani.zero) rfl rfl Tryd.zeroValue112 Tryd.runUnderlying112 pl112 (show Instr.fill _ (Mani.cells Mani.zero : List Value).toArray _ = some _ from fill_nil)) (g0 rfl) rfl rfl ?_
    refine oc (k_st (j := 0) rfl rfl rfl rfl (vs := Mani.cells Mani.zero) rfl (sz (Mani.len _) Tryd.sizeOf112) (Mani.sc _) 0 rfl (spl_all ((Mani.len _).trans (Mani.len _).symm)) rfl (g0 rfl) rfl ?_)
    refine o_pu rfl (ev_assign rfl rfl) (g0 rfl) rfl rfl ?_
    refine o_pu rfl (ev_assign rfl rfl) (g0 rfl) rfl rfl ?_
    refine o_nil ?_
    refine q_then ?_
    refine s_ret ?_
    refine q_then_r ?_
    cases H
    refine k_nil_sl E8 ?_
    refine k_nil_spare 1 ?_
    exact q_end (rs_3 Tryd.results56 (rv_cell (j := 0) rfl (hG 1 rfl) Tryd.isAgg112 (sz (Mani.len _) Tryd.sizeOf112) (sub_all _) rfl) (rv_tmp rfl) (rv_tmp rfl)) ⟨none, 0, rfl, rfl, rfl⟩ [0] rfl 2 rfl [0] rfl 1 rfl
  · intro hb4
    have H := cnd_f H hb4
    refine s_skip ?_
    refine q_then ?_
    refine s_seq ?_
    refine s_reg [0, 1, 2] rfl ?_
    refine o_pu rfl (ev_move rfl rfl) (g0 rfl) rfl rfl ?_
    obtain ⟨r5, Hc6, H⟩ := bind_some' H
    refine oc (k_call (c_field_NewReader a0_b A1 c2 r5 Hc6) Tryd.call85 rfl rfl rfl [0] [] rfl rfl (g0 rfl) rfl rfl ?_)
    rintro _ _ _ ⟨b7, A8, c9, rfl, rfl, rfl⟩
    dsimp only [app]
    refine o_pu rfl (ev_assign rfl rfl) (g0 rfl) rfl rfl ?_
    refine o_nil ?_
    refine q_then ?_
    refine s_seq ?_
    refine s_reg [0, 1, 2, 3, 4] rfl ?_
    refine o_pu rfl (ev_move rfl rfl) (g0 rfl) rfl rfl ?_
    obtain ⟨r10, Hc11, H⟩ := bind_some' H
    refine oc (k_call (c_field_Reader_Raw b7 (⟨r5.b, r5.bad⟩ : ReaderS) A8 c9 4 r10 Hc11) Tryd.call86 rfl rfl rfl [0] [0] rfl rfl (g0 rfl) rfl rfl ?_)
    rintro _ _ _ ⟨A12, c13, A14, c15, rfl, rfl, rfl⟩
    dsimp only [app]
    refine o_ld (hSl 1 rfl) rfl (ev_bytes_string rfl rfl Tryd.runUnderlying32 Tryd.runUnderlying9 Tryd.runUnderlying5) (g0 rfl) rfl rfl ?_
    refine o_pu rfl (ev_bin rfl rfl (show _ = some (vs ([87, 76, 77, 49] : List UInt8)) from rfl) rfl (eql_s _ ([87, 76, 77, 49] : List UInt8))) (g0 rfl) rfl rfl ?_
    refine o_pu rfl (ev_assign rfl rfl) (g0 rfl) rfl rfl ?_
    refine o_nil ?_
    refine q_then ?_
    refine s_seq ?_
    refine s_reg [0, 1, 2, 3, 4, 5, 6] rfl ?_
    refine o_pu rfl (ev_move rfl rfl) (g0 rfl) rfl rfl ?_
    obtain ⟨r16, Hc17, H⟩ := bind_some' H
    refine oc (k_call (c_field_Reader_Raw b7 (⟨r10.2.b, r10.2.bad⟩ : ReaderS) A14 c15 16 r16 Hc17) Tryd.call86 rfl rfl rfl [0] [1] rfl rfl (g0 rfl) rfl rfl ?_)
    rintro _ _ _ ⟨A18, c19, A20, c21, rfl, rfl, rfl⟩
    dsimp only [app]
    refine o_ld (hSl 1 rfl) rfl (ev_bytes_string rfl rfl Tryd.runUnderlying32 Tryd.runUnderlying9 Tryd.runUnderlying5) (g0 rfl) rfl rfl ?_
    obtain ⟨r22, Hc23, H⟩ := bind_some' H
    refine oc (k_call (c_strings_TrimRight r16.1 r22 Hc23) Tryd.call87 rfl rfl rfl [] [] rfl rfl (g0 rfl) rfl rfl ?_)
    rintro _ _ _ ⟨rfl, rfl, rfl⟩
    dsimp only [app]
    refine o_pu rfl (ev_build (cs := Mani.cells (⟨r22, Img.zero⟩ : Mani)) rfl rfl Tryd.zeroValue112 Tryd.runUnderlying112 pl112 (show Instr.fill _ (Mani.cells Mani.zero : List Value).toArray _ = some _ from (fill_cons rfl (s := [vs r22]) rfl rfl (Mani.set_Name _ r22) fill_nil))) (g0 rfl) rfl rfl ?_
    refine oc (k_alloc rfl rfl Tryd.zeroValue112 (cs := Mani.cells Mani.zero) rfl (g0 rfl) rfl rfl ?_)
    intro b24
    refine oc (k_st (j := 0) rfl rfl rfl rfl (vs := Mani.cells (⟨r22, Img.zero⟩ : Mani)) rfl (sz (Mani.len _) Tryd.sizeOf112) (Mani.sc _) 0 rfl (spl_all ((Mani.len _).trans (Mani.len _).symm)) rfl (g0 rfl) rfl ?_)
    refine o_nil ?_
    refine q_then ?_
    refine s_seq ?_
    refine s_reg [0, 1, 2, 3, 4] rfl ?_
    refine o_pu rfl (ev_move rfl rfl) (g0 rfl) rfl rfl ?_
    obtain ⟨r25, Hc26, H⟩ := bind_some' H
    refine oc (k_call (c_field_Reader_Num b7 (⟨r16.2.b, r16.2.bad⟩ : ReaderS) A20 c21 4 r25 Hc26) Tryd.call88 rfl rfl rfl [0] [2] rfl rfl (g0 rfl) rfl rfl ?_)
    rintro _ _ _ ⟨A27, c28, rfl, rfl, rfl⟩
    dsimp only [app]
    refine o_pu rfl (ev_fieldAddr rfl rfl Tryd.runUnderlying112 rfl Tryd.sizeOf71 rfl rfl) (g0 rfl) rfl rfl ?_
    refine o_pu rfl (ev_fieldAddr rfl rfl Tryd.runUnderlying71 rfl Tryd.sizeOf3 rfl rfl) (g0 rfl) rfl rfl ?_
    refine oc (k_st (j := 1) rfl rfl rfl rfl (vs := [vi r25.1]) rfl (sz rfl Tryd.sizeOf3) rfl 1 rfl (spl_in (Mani.sub_Image _) (Img.set_Version _ r25.1) (Mani.set_Image _ _) rfl) rfl (g0 rfl) rfl ?_)
    obtain ⟨x29, hx30⟩ : ∃ x, x = ({ ((⟨r22, Img.zero⟩ : Mani) : Mani) with Image := { ((⟨r22, Img.zero⟩ : Mani).Image : Img) with Version := r25.1 } }) := ⟨_, rfl⟩
    have H := bnd_eq H hx30
    refine k_tok 1 (A' := At b24 0 (Mani.cells x29)) rfl (by rw [hx30]) ?_
    refine o_nil ?_
    refine q_then ?_
    refine s_seq ?_
    refine s_reg [0, 1, 2, 3, 4] rfl ?_
    refine o_pu rfl (ev_move rfl rfl) (g0 rfl) rfl rfl ?_
    obtain ⟨r31, Hc32, H⟩ := bind_some' H
    refine oc (k_call (c_field_Reader_Num b7 (⟨r25.2.b, r25.2.bad⟩ : ReaderS) A27 c28 4 r31 Hc32) Tryd.call88 rfl rfl rfl [0] [0] rfl rfl (g0 rfl) rfl rfl ?_)
    rintro _ _ _ ⟨A33, c34, rfl, rfl, rfl⟩
    dsimp only [app]
    refine o_pu rfl (ev_fieldAddr rfl rfl Tryd.runUnderlying112 rfl Tryd.sizeOf71 rfl rfl) (g0 rfl) rfl rfl ?_
    refine o_pu rfl (ev_fieldAddr rfl rfl Tryd.runUnderlying71 rfl Tryd.sizeOf3 rfl rfl) (g0 rfl) rfl rfl ?_
    refine oc (k_st (j := 2) rfl rfl rfl rfl (vs := [vi r31.1]) rfl (sz rfl Tryd.sizeOf3) rfl 1 rfl (spl_in (Mani.sub_Image _) (Img.set_Size _ r31.1) (Mani.set_Image _ _) rfl) rfl (g0 rfl) rfl ?_)
    refine o_nil ?_
    refine q_then ?_
    refine s_seq ?_
    refine s_draw mixed [] ?_
    refine a_pu 0 rfl (ev_fieldAddr rfl rfl Tryd.runUnderlying112 rfl Tryd.sizeOf71 rfl rfl) (by rfl) (by kernel_rfl) (by kernel_rfl) (by kernel_rfl) (fun _ _ _ h => h) (g0 rfl) rfl rfl ?_
    refine a_pu 1 rfl (ev_fieldAddr rfl rfl Tryd.runUnderlying71 rfl Tryd.sizeOf69 rfl rfl) (by rfl) (by kernel_rfl) (by kernel_rfl) (by kernel_rfl) (fun _ _ _ h => h) (g0 rfl) rfl rfl ?_
    refine a_pu 2 rfl (ev_slice_arr rfl rfl Tryd.runUnderlying69 Tryd.sizeOf5) (by rfl) (by kernel_rfl) (by kernel_rfl) (by kernel_rfl) (fun _ _ _ h => h) (g0 rfl) rfl rfl ?_
    refine a_pu 3 rfl (ev_move rfl rfl) (by rfl) (by kernel_rfl) (by kernel_rfl) (by kernel_rfl) (fun _ _ _ h => h) (g0 rfl) rfl rfl ?_
    refine ac 4 (by kernel_rfl) sl_nil ?_
    obtain ⟨r35, Hc36, H⟩ := bind_some' H
    refine k_call (c_field_Reader_Raw b7 (⟨r31.2.b, r31.2.bad⟩ : ReaderS) A33 c34 32 r35 Hc36) Tryd.call86 rfl rfl rfl [0] [0] rfl rfl (g0 rfl) rfl rfl ?_
    rintro _ _ _ ⟨A37, c38, A39, c40, rfl, rfl, rfl⟩
    dsimp only [app]
    refine ac 5 (by kernel_rfl) sl_nil ?_
    refine k_copy (xs := ((({ (x29 : Mani) with Image := { (x29.Image : Img) with Size := r31.1 } }).Image).Digest).l) (j := 3) rfl rfl rfl rfl Tryd.underlying32 info5 rfl E8_len E8_one 2 rfl 1 rfl ((({ (x29 : Mani) with Image := { (x29.Image : Img) with Size := r31.1 } }).Image).Digest).len (sub_sub (Mani.sub_Image _) (Img.sub_Digest _) rfl) (spl_in (Mani.sub_Image _) (Img.set_Digest _ (Arr.cpy ((({ (x29 : Mani) with Image := { (x29.Image : Img) with Size := r31.1 } }).Image).Digest) r35.1)) (Mani.set_Image _ _) rfl) rfl (g0 rfl) rfl rfl ?_
    refine a_done (by kernel_rfl) sl_nil ?_
    refine q_then ?_
    refine s_seq ?_
    refine s_seq ?_
    refine s_reg [0, 1, 2, 3, 4, 5, 6, 7, 8, 9, 10, 11, 12, 13, 14, 15, 16, 17, 18, 19, 20, 21] rfl ?_
    refine o_pu rfl (ev_move rfl rfl) (g0 rfl) rfl rfl ?_
    refine o_pu rfl (ev_not rfl rfl) (g0 rfl) rfl rfl ?_
    refine o_pu rfl (ev_move rfl rfl) (g0 rfl) rfl rfl ?_
    refine k_name 39 rfl ?_
    intro b42 hb43
    have H := bnd_eq H hb43
    refine o_jb 44 [8, 9, 10, 11, 12, 13, 14, 15, 16, 17, 18, 19, 20, 21] [0, 2, 3, 4, 5, 6, 7, 8, 9, 10, 12, 13, 14, 15, 16, 17, 18, 19, 20, 21, 22, 23, 24, 25, 26, 27, 28, 29, 30, 31, 32, 33, 34, 35, 36, 37, 38, 39] H rfl ?_ ?_
    · intro x45 H
      refine o_pu rfl (ev_move rfl rfl) (g0 rfl) rfl rfl ?_
      refine k_name 45 rfl ?_
      intro b46 hb47
      have H := bnd_eq H hb47
      refine o_jb 51 [15, 16, 17, 18, 19, 20, 21] [0, 2, 3, 4, 5, 6, 7, 8, 9, 10, 12, 13, 14, 15, 16, 17, 18, 19, 20, 21, 22, 23, 24, 25, 26, 27, 28, 29, 30, 31, 32, 33, 34, 35, 36, 37, 38, 39, 44, 45] H rfl ?_ ?_
      · intro x49 H
        refine o_pu rfl (ev_move rfl rfl) (g0 rfl) rfl rfl ?_
        refine k_name 52 rfl ?_
        intro b50 hb51
        have H := bnd_eq H hb51
        refine o_jb 58 [] [0, 2, 3, 4, 5, 6, 7, 8, 9, 10, 12, 13, 14, 15, 16, 17, 18, 19, 20, 21, 22, 23, 24, 25, 26, 27, 28, 29, 30, 31, 32, 33, 34, 35, 36, 37, 38, 39, 44, 45, 51, 52] H rfl ?_ ?_
        · intro x53 H
          refine o_nil ?_
          refine q_then ?_
          refine s_cond rfl ?_ ?_
          · intro hb54
            have H := cnd_t H hb54
            refine s_seq ?_
            refine s_reg [0, 1, 2, 3] rfl ?_
            refine o_pu rfl (ev_build (cs := Mani.cells Mani.zero) rfl rfl Tryd.zeroValue112 Tryd.runUnderlying112 pl112 (show Instr.fill _ (Mani.cells Mani.zero : List Value).toArray _ = some _ from fill_nil)) (g0 rfl) rfl rfl ?_
            refine oc (k_st (j := 0) rfl rfl rfl rfl (vs := Mani.cells Mani.zero) rfl (sz (Mani.len _) Tryd.sizeOf112) (Mani.sc _) 5 rfl (spl_all ((Mani.len _).trans (Mani.len _).symm)) rfl (g0 rfl) rfl ?_)
            refine o_pu rfl (ev_assign rfl rfl) (g0 rfl) rfl rfl ?_
            refine o_pu rfl (ev_assign rfl rfl) (g0 rfl) rfl rfl ?_
            refine o_nil ?_
            refine q_then ?_
            refine s_ret ?_
            refine q_then_r ?_
            cases H
            refine k_nil_sl E8 ?_
            refine k_nil_spare 1 ?_
            exact q_end (rs_3 Tryd.results56 (rv_cell (j := 0) rfl (hG 6 rfl) Tryd.isAgg112 (sz (Mani.len _) Tryd.sizeOf112) (sub_all _) rfl) (rv_tmp rfl) (rv_tmp rfl)) ⟨none, 0, rfl, rfl, rfl⟩ [0] rfl 11 rfl [0] rfl 6 rfl
          · intro hb54
            have H := cnd_f H hb54
            refine s_skip ?_
            refine q_then ?_
            refine s_seq ?_
            refine s_draw mixed [(0, [3], Has b24 0 (Mani.cells ({ ({ (x29 : Mani) with Image := { (x29.Image : Img) with Size := r31.1 } } : Mani) with Image := { (({ (x29 : Mani) with Image := { (x29.Image : Img) with Size := r31.1 } }).Image : Img) with Digest := (Arr.cpy ((({ (x29 : Mani) with Image := { (x29.Image : Img) with Size := r31.1 } }).Image).Digest) r35.1) } })))] ?_
            refine a_ld 0 0 rfl rfl (ev_ldN (j := 0) rfl rfl Tryd.isAgg112 (sz (Mani.len _) Tryd.sizeOf112) (sub_all _) rfl) (by kernel_rfl) (by rfl) (by kernel_rfl) (by kernel_rfl) (by kernel_rfl) (by kernel_rfl) (fun _ _ _ h => h) (g0 rfl) rfl rfl ?_
            refine a_pu 1 rfl (ev_move rfl rfl) (by rfl) (by kernel_rfl) (by kernel_rfl) (by kernel_rfl) (fun _ _ _ h => h) (g0 rfl) rfl rfl ?_
            refine ac 2 (by kernel_rfl) (sl_cons (hG 2 rfl) sl_nil) ?_
            obtain ⟨r55, Hc56, H⟩ := bind_some' H
            refine k_call (c_field_Reader_Raw b7 (⟨r35.2.b, r35.2.bad⟩ : ReaderS) A39 c40 32 r55 Hc56) Tryd.call86 rfl rfl rfl [0] [1] rfl rfl (g0 rfl) rfl rfl ?_
            rintro _ _ _ ⟨A57, c58, A59, c60, rfl, rfl, rfl⟩
            dsimp only [app]
            refine ac 3 (by kernel_rfl) (sl_cons (hG 3 rfl) sl_nil) ?_
            refine k_st (j := 0) rfl rfl rfl rfl (vs := Mani.cells ({ ({ (x29 : Mani) with Image := { (x29.Image : Img) with Size := r31.1 } } : Mani) with Image := { (({ (x29 : Mani) with Image := { (x29.Image : Img) with Size := r31.1 } }).Image : Img) with Digest := (Arr.cpy ((({ (x29 : Mani) with Image := { (x29.Image : Img) with Size := r31.1 } }).Image).Digest) r35.1) } })) rfl (sz (Mani.len _) Tryd.sizeOf112) (Mani.sc _) 6 rfl (spl_all ((Mani.len _).trans (Mani.len _).symm)) rfl (g0 rfl) rfl ?_
            obtain ⟨x61, hx62⟩ : ∃ x, x = ({ ({ (x29 : Mani) with Image := { (x29.Image : Img) with Size := r31.1 } } : Mani) with Image := { (({ (x29 : Mani) with Image := { (x29.Image : Img) with Size := r31.1 } }).Image : Img) with Digest := (Arr.cpy ((({ (x29 : Mani) with Image := { (x29.Image : Img) with Size := r31.1 } }).Image).Digest) r35.1) } }) := ⟨_, rfl⟩
            have H := bnd_eq H hx62
            refine k_tok 6 (A' := At b3 0 (Mani.cells x61)) rfl (by rw [hx62]) ?_
            refine a_pu 4 rfl (ev_assign rfl rfl) (by rfl) (by kernel_rfl) (by kernel_rfl) (by kernel_rfl) (fun _ _ _ h => h) (g0 rfl) rfl rfl ?_
            refine a_pu 5 rfl (ev_assign rfl rfl) (by rfl) (by kernel_rfl) (by kernel_rfl) (by kernel_rfl) (fun _ _ _ h => h) (g0 rfl) rfl rfl ?_
            refine a_done (by kernel_rfl) (sl_end (by kernel_rfl) sl_nil) ?_
            refine q_then ?_
            refine s_ret ?_
            cases H
            exact q_end (rs_3 Tryd.results56 (rv_cell (j := 0) rfl (hG 6 rfl) Tryd.isAgg112 (sz (Mani.len _) Tryd.sizeOf112) (sub_all _) rfl) (rv_tmp rfl) (rv_tmp rfl)) ⟨A57, c58, rfl, rfl, rfl⟩ [1] rfl 12 rfl [0] rfl 6 rfl
        · intro J52 H
          cases b50 with
          | true =>
            rw [cond_true] at H
            refine o_gnot rfl rfl rfl rfl rfl rfl rfl rfl ?_
            refine o_gnot rfl rfl rfl rfl rfl rfl rfl rfl ?_
            refine o_gnot rfl rfl rfl rfl rfl rfl rfl rfl ?_
            refine o_gnot rfl rfl rfl rfl rfl rfl rfl rfl ?_
            refine o_gnot rfl rfl rfl rfl rfl rfl rfl rfl ?_
            refine o_pu rfl (ev_pick_t rfl rfl rfl) (g0 rfl) rfl rfl ?_
            exact k_wk (J52 true H) [58, 0, 2, 3, 4, 5, 6, 7, 8, 9, 10, 12, 13, 14, 15, 16, 17, 18, 19, 20, 21, 22, 23, 24, 25, 26, 27, 28, 29, 30, 31, 32, 33, 34, 35, 36, 37, 38, 39, 44, 45, 51, 52] [0, 1, 2, 3, 4, 5, 6, 7, 8, 9] 10 [0, 0, 0, 0, 0, 0] 0 rfl rfl rfl
          | false =>
            rw [cond_false] at H
            refine o_pu rfl (ev_fieldAddr rfl rfl Tryd.runUnderlying112 rfl Tryd.sizeOf71 rfl rfl) (g1 rfl rfl rfl rfl) rfl rfl ?_
            refine o_pu rfl (ev_fieldAddr rfl rfl Tryd.runUnderlying71 rfl Tryd.sizeOf3 rfl rfl) (g1 rfl rfl rfl rfl) rfl rfl ?_
            refine o_ld (hG 2 rfl) rfl (ev_ld1 (j := 2) rfl rfl Tryd.isAgg3 (sub_sub (Mani.sub_Image _) (Img.sub_Size _) rfl) rfl) (g1 rfl rfl rfl rfl) rfl rfl ?_
            obtain ⟨r63, Hc64, H⟩ := bind_some' H
            refine oc (k_call (c_manifest_number ((({ ({ (x29 : Mani) with Image := { (x29.Image : Img) with Size := r31.1 } } : Mani) with Image := { (({ (x29 : Mani) with Image := { (x29.Image : Img) with Size := r31.1 } }).Image : Img) with Digest := (Arr.cpy ((({ (x29 : Mani) with Image := { (x29.Image : Img) with Size := r31.1 } }).Image).Digest) r35.1) } }).Image).Size) r63 Hc64) Tryd.call89 rfl rfl rfl [] [] rfl rfl (g1 rfl rfl rfl rfl) rfl rfl ?_)
            rintro _ _ _ ⟨rfl, rfl, rfl⟩
            dsimp only [app]
            refine o_pu rfl (ev_not rfl rfl) (g1 rfl rfl rfl rfl) rfl rfl ?_
            refine o_pu rfl (ev_pick_f rfl rfl rfl) (g0 rfl) rfl rfl ?_
            exact k_wk (J52 (!r63) H) [58, 0, 2, 3, 4, 5, 6, 7, 8, 9, 10, 12, 13, 14, 15, 16, 17, 18, 19, 20, 21, 22, 23, 24, 25, 26, 27, 28, 29, 30, 31, 32, 33, 34, 35, 36, 37, 38, 39, 44, 45, 51, 52] [0, 1, 2, 3, 4, 5, 6, 7, 8, 9] 10 [0, 0, 0, 0, 0, 0] 0 rfl rfl rfl
      · intro J48 H
        cases b46 with
        | true =>
          rw [cond_true] at H
          refine o_gnot rfl rfl rfl rfl rfl rfl rfl rfl ?_
          refine o_gnot rfl rfl rfl rfl rfl rfl rfl rfl ?_
          refine o_gnot rfl rfl rfl rfl rfl rfl rfl rfl ?_
          refine o_gnot rfl rfl rfl rfl rfl rfl rfl rfl ?_
          refine o_gnot rfl rfl rfl rfl rfl rfl rfl rfl ?_
          refine o_pu rfl (ev_pick_t rfl rfl rfl) (g0 rfl) rfl rfl ?_
          exact k_wk (J48 true H) [51, 0, 2, 3, 4, 5, 6, 7, 8, 9, 10, 12, 13, 14, 15, 16, 17, 18, 19, 20, 21, 22, 23, 24, 25, 26, 27, 28, 29, 30, 31, 32, 33, 34, 35, 36, 37, 38, 39, 44, 45] [0, 1, 2, 3, 4, 5, 6, 7, 8, 9] 10 [0, 0, 0, 0, 0, 0] 0 rfl rfl rfl
        | false =>
          rw [cond_false] at H
          refine o_pu rfl (ev_fieldAddr rfl rfl Tryd.runUnderlying112 rfl Tryd.sizeOf71 rfl rfl) (g1 rfl rfl rfl rfl) rfl rfl ?_
          refine o_pu rfl (ev_fieldAddr rfl rfl Tryd.runUnderlying71 rfl Tryd.sizeOf3 rfl rfl) (g1 rfl rfl rfl rfl) rfl rfl ?_
          refine o_ld (hG 2 rfl) rfl (ev_ld1 (j := 1) rfl rfl Tryd.isAgg3 (sub_sub (Mani.sub_Image _) (Img.sub_Version _) rfl) rfl) (g1 rfl rfl rfl rfl) rfl rfl ?_
          obtain ⟨r65, Hc66, H⟩ := bind_some' H
          refine oc (k_call (c_manifest_number ((({ ({ (x29 : Mani) with Image := { (x29.Image : Img) with Size := r31.1 } } : Mani) with Image := { (({ (x29 : Mani) with Image := { (x29.Image : Img) with Size := r31.1 } }).Image : Img) with Digest := (Arr.cpy ((({ (x29 : Mani) with Image := { (x29.Image : Img) with Size := r31.1 } }).Image).Digest) r35.1) } }).Image).Version) r65 Hc66) Tryd.call89 rfl rfl rfl [] [] rfl rfl (g1 rfl rfl rfl rfl) rfl rfl ?_)
          rintro _ _ _ ⟨rfl, rfl, rfl⟩
          dsimp only [app]
          refine o_pu rfl (ev_not rfl rfl) (g1 rfl rfl rfl rfl) rfl rfl ?_
          refine o_pu rfl (ev_pick_f rfl rfl rfl) (g0 rfl) rfl rfl ?_
          exact k_wk (J48 (!r65) H) [51, 0, 2, 3, 4, 5, 6, 7, 8, 9, 10, 12, 13, 14, 15, 16, 17, 18, 19, 20, 21, 22, 23, 24, 25, 26, 27, 28, 29, 30, 31, 32, 33, 34, 35, 36, 37, 38, 39, 44, 45] [0, 1, 2, 3, 4, 5, 6, 7, 8, 9] 10 [0, 0, 0, 0, 0, 0] 0 rfl rfl rfl
    · intro J44 H
      cases b42 with
      | true =>
        rw [cond_true] at H
        refine o_gnot rfl rfl rfl rfl rfl rfl rfl rfl ?_
        refine o_gnot rfl rfl rfl rfl rfl rfl rfl rfl ?_
        refine o_gnot rfl rfl rfl rfl rfl rfl rfl rfl ?_
        refine o_gnot rfl rfl rfl rfl rfl rfl rfl rfl ?_
        refine o_pu rfl (ev_pick_t rfl rfl rfl) (g0 rfl) rfl rfl ?_
        exact k_wk (J44 true H) [44, 0, 2, 3, 4, 5, 6, 7, 8, 9, 10, 12, 13, 14, 15, 16, 17, 18, 19, 20, 21, 22, 23, 24, 25, 26, 27, 28, 29, 30, 31, 32, 33, 34, 35, 36, 37, 38, 39] [0, 1, 2, 3, 4, 5, 6, 7, 8, 9] 10 [0, 0, 0, 0, 0, 0] 0 rfl rfl rfl
      | false =>
        rw [cond_false] at H
        refine o_pu rfl (ev_fieldAddr rfl rfl Tryd.runUnderlying112 rfl Tryd.sizeOf9 rfl rfl) (g1 rfl rfl rfl rfl) rfl rfl ?_
        refine o_ld (hG 2 rfl) rfl (ev_ld1 (j := 0) rfl rfl Tryd.isAgg9 (Mani.sub_Name _) rfl) (g1 rfl rfl rfl rfl) rfl rfl ?_
        obtain ⟨r67, Hc68, H⟩ := bind_some' H
        refine oc (k_call (c_names_Valid (({ ({ (x29 : Mani) with Image := { (x29.Image : Img) with Size := r31.1 } } : Mani) with Image := { (({ (x29 : Mani) with Image := { (x29.Image : Img) with Size := r31.1 } }).Image : Img) with Digest := (Arr.cpy ((({ (x29 : Mani) with Image := { (x29.Image : Img) with Size := r31.1 } }).Image).Digest) r35.1) } }).Name) r67 Hc68) Tryd.call49 rfl rfl rfl [] [] rfl rfl (g1 rfl rfl rfl rfl) rfl rfl ?_)
        rintro _ _ _ ⟨rfl, rfl, rfl⟩
        dsimp only [app]
        refine o_pu rfl (ev_not rfl rfl) (g1 rfl rfl rfl rfl) rfl rfl ?_
        refine o_pu rfl (ev_pick_f rfl rfl rfl) (g0 rfl) rfl rfl ?_
        exact k_wk (J44 (!r67) H) [44, 0, 2, 3, 4, 5, 6, 7, 8, 9, 10, 12, 13, 14, 15, 16, 17, 18, 19, 20, 21, 22, 23, 24, 25, 26, 27, 28, 29, 30, 31, 32, 33, 34, 35, 36, 37, 38, 39] [0, 1, 2, 3, 4, 5, 6, 7, 8, 9] 10 [0, 0, 0, 0, 0, 0] 0 rfl rfl rfl

def update_begin (a0_m : MetaS) (a1_q : Req) (a2_f : FactS) (a3_quota : Int) : Option ChangeS :=
(manifest_Read a1_q.Bytes).bind fun r7 =>
(update_alone a0_m).bind fun r12 =>
(update_when (a0_m.Phase != 0) (11 : Int)).bind fun r15 =>
(update_when (!a2_f.Name) (7 : Int)).bind fun r17 =>
(update_when (!a2_f.Tag) (8 : Int)).bind fun r19 =>
(version_May a0_m r7.1.Image.Version).bind fun r21 =>
(update_when (!r21) (9 : Int)).bind fun r23 =>
(update_Chunks r7.1.Image.Size).bind fun r25 =>
(update_when (decide (r25 > (if 6 < a3_quota then 6 else a3_quota))) (10 : Int)).bind fun r27 =>
(update_when a2_f.Worn (5 : Int)).bind fun r29 =>
(update_one ({ ({ (r12 : MetaS) with Phase := 1 } : MetaS) with Coming := r7.1.Image }) ([r15, r7.2.2, r17, r19, r23, r27, r29] : List Int)).bind fun r32 =>
some r32

theorem c_update_begin (a0_m : MetaS) (a1_q : Req) (A1 : Option Addr) (c2 : Nat) (a2_f : FactS) (a3_quota : Int) (r : ChangeS) (H : update_begin a0_m a1_q a2_f a3_quota = some r) : Fn Tryd.prog 76 [(.agg (MetaS.cells a0_m).toArray), (.agg ([vi a1_q.Kind, vi a1_q.N, .slice A1 a1_q.Bytes.length c2]).toArray), (.agg (FactS.cells a2_f).toArray), (vi a3_quota)] [Sl E8 A1 c2 a1_q.Bytes] [] (fun v D' G' => v = (.agg (ChangeS.cells r).toArray) ∧ D' = [] ∧ G' = []) := by
  unfold update_begin at H
  refine fn_of Tryd.func76 rfl Tryd.ntmps76 rfl ?_
  intro w0 D0 G0
  dsimp only [app, initEnv, Nat.zero_add, Nat.reduceAdd]
  refine s_seq ?_
  refine s_reg [0, 1, 2, 3] rfl ?_
  refine oc (k_box rfl rfl rfl (cs := MetaS.cells a0_m) rfl (g0 rfl) rfl rfl ?_)
  intro b3
  refine oc (k_box rfl rfl rfl (cs := [vi a1_q.Kind, vi a1_q.N, .slice A1 a1_q.Bytes.length c2]) rfl (g0 rfl) rfl rfl ?_)
  intro b4
  refine oc (k_box rfl rfl rfl (cs := FactS.cells a2_f) rfl (g0 rfl) rfl rfl ?_)
  intro b5
  refine oc (k_alloc rfl rfl Tryd.zeroValue109 (cs := ChangeS.cells ChangeS.zero) rfl (g0 rfl) rfl rfl ?_)
  intro b6
  refine o_nil ?_
  refine q_then ?_
  refine s_seq ?_
  refine s_reg [0, 1, 2, 3, 4, 5, 6, 7, 8, 9, 10] rfl ?_
  refine o_pu rfl (ev_fieldAddr rfl rfl Tryd.runUnderlying34 rfl Tryd.sizeOf32 rfl rfl) (g0 rfl) rfl rfl ?_
  refine o_ld (hG 2 rfl) rfl (ev_ld1 (j := 2) rfl rfl Tryd.isAgg32 (sub_nth (j := 2) rfl) rfl) (g0 rfl) rfl rfl ?_
  obtain ⟨r7, Hc8, H⟩ := bind_some' H
  refine oc (k_call (c_manifest_Read a1_q.Bytes A1 c2 r7 Hc8) Tryd.call56 rfl rfl rfl [0] [] rfl rfl (g0 rfl) rfl rfl ?_)
  rintro _ _ _ ⟨A9, c10, rfl, rfl, rfl⟩
  dsimp only [app]
  refine o_pu rfl (ev_move rfl rfl) (g0 rfl) rfl rfl ?_
  refine o_pu rfl (ev_extract rfl rfl rfl) (g0 rfl) rfl rfl ?_
  refine o_pu rfl (ev_extract rfl rfl rfl) (g0 rfl) rfl rfl ?_
  refine o_pu rfl (ev_extract rfl rfl rfl) (g0 rfl) rfl rfl ?_
  refine oc (k_alloc rfl rfl Tryd.zeroValue112 (cs := Mani.cells Mani.zero) rfl (g0 rfl) rfl rfl ?_)
  intro b11
  refine oc (k_st (j := 0) rfl rfl rfl rfl (vs := Mani.cells r7.1) rfl (sz (Mani.len _) Tryd.sizeOf112) (Mani.sc _) 0 rfl (spl_all ((Mani.len _).trans (Mani.len _).symm)) rfl (g0 rfl) rfl ?_)
  refine o_pu rfl (ev_assign rfl rfl) (g0 rfl) rfl rfl ?_
  refine o_pu rfl (ev_assign rfl rfl) (g0 rfl) rfl rfl ?_
  refine o_nil ?_
  refine q_then ?_
  refine s_seq ?_
  refine s_reg [0, 1, 2, 3] rfl ?_
  refine o_ld (hG 5 rfl) rfl (ev_ldN (j := 0) rfl rfl Tryd.isAgg74 (sz (MetaS.len _) Tryd.sizeOf74) (sub_all _) rfl) (g0 rfl) rfl rfl ?_
  obtain ⟨r12, Hc13, H⟩ := bind_some' H
  refine oc (k_call (c_update_alone a0_m r12 Hc13) Tryd.call106 rfl rfl rfl [] [] rfl rfl (g0 rfl) rfl rfl ?_)
  rintro _ _ _ ⟨rfl, rfl, rfl⟩
  dsimp only [app]
  refine oc (k_alloc rfl rfl Tryd.zeroValue74 (cs := MetaS.cells MetaS.zero) rfl (g0 rfl) rfl rfl ?_)
  intro b14
  refine oc (k_st (j := 0) rfl rfl rfl rfl (vs := MetaS.cells r12) rfl (sz (MetaS.len _) Tryd.sizeOf74) (MetaS.sc _) 0 rfl (spl_all ((MetaS.len _).trans (MetaS.len _).symm)) rfl (g0 rfl) rfl ?_)
  refine o_nil ?_
  refine q_then ?_
  refine s_seq ?_
  refine s_draw mixed [(1, [5], Has b11 0 (Mani.cells r7.1))] ?_
  refine a_pu 0 rfl (ev_fieldAddr rfl rfl Tryd.runUnderlying112 rfl Tryd.sizeOf71 rfl rfl) (by rfl) (by kernel_rfl) (by kernel_rfl) (by kernel_rfl) (fun _ _ _ h => h) (g0 rfl) rfl rfl ?_
  refine a_ld 1 0 rfl rfl (ev_ldN (j := 1) rfl rfl Tryd.isAgg71 (sz (Img.len _) Tryd.sizeOf71) (Mani.sub_Image _) rfl) (by kernel_rfl) (by rfl) (by kernel_rfl) (by kernel_rfl) (by kernel_rfl) (by kernel_rfl) (fun _ _ _ h => h) (g0 rfl) rfl rfl ?_
  refine a_pu 2 rfl (ev_fieldAddr rfl rfl Tryd.runUnderlying74 rfl Tryd.sizeOf3 rfl rfl) (by rfl) (by kernel_rfl) (by kernel_rfl) (by kernel_rfl) (fun _ _ _ h => h) (g0 rfl) rfl rfl ?_
  refine ac 3 (by kernel_rfl) (sl_cons (hG 1 rfl) sl_nil) ?_
  refine k_st (j := 70) rfl rfl rfl rfl (vs := [vi 1]) rfl (sz rfl Tryd.sizeOf3) rfl 0 rfl (MetaS.set_Phase _ 1) rfl (g0 rfl) rfl ?_
  refine a_pu 4 rfl (ev_fieldAddr rfl rfl Tryd.runUnderlying74 rfl Tryd.sizeOf71 rfl rfl) (by rfl) (by kernel_rfl) (by kernel_rfl) (by kernel_rfl) (fun _ _ _ h => h) (g0 rfl) rfl rfl ?_
  refine ac 5 (by kernel_rfl) (sl_cons (hG 1 rfl) sl_nil) ?_
  refine k_st (j := 71) rfl rfl rfl rfl (vs := Img.cells r7.1.Image) rfl (sz (Img.len _) Tryd.sizeOf71) (Img.sc _) 0 rfl (MetaS.set_Coming _ r7.1.Image) rfl (g0 rfl) rfl ?_
  refine a_done (by kernel_rfl) (sl_end (by kernel_rfl) sl_nil) ?_
  refine q_then ?_
  refine s_seq ?_
  refine s_draw mixed [(0, [33, 34], Has b14 0 (MetaS.cells ({ ({ (r12 : MetaS) with Phase := 1 } : MetaS) with Coming := r7.1.Image }))), (2, [34], Has b3 0 (MetaS.cells a0_m)), (7, [34], Has b5 0 (FactS.cells a2_f)), (11, [34], Has b5 0 (FactS.cells a2_f)), (14, [18, 34], Has b3 0 (MetaS.cells a0_m)), (17, [18, 34], Has b11 0 (Mani.cells r7.1)), (23, [24, 34], Has b11 0 (Mani.cells r7.1)), (30, [31, 34], Has b5 0 (FactS.cells a2_f))] ?_
  refine a_ld 0 0 rfl rfl (ev_ldN (j := 0) rfl rfl Tryd.isAgg74 (sz (MetaS.len _) Tryd.sizeOf74) (sub_all _) rfl) (by kernel_rfl) (by rfl) (by kernel_rfl) (by kernel_rfl) (by kernel_rfl) (by kernel_rfl) (fun _ _ _ h => h) (g0 rfl) rfl rfl ?_
  refine a_pu 1 rfl (ev_fieldAddr rfl rfl Tryd.runUnderlying74 rfl Tryd.sizeOf3 rfl rfl) (by rfl) (by kernel_rfl) (by kernel_rfl) (by kernel_rfl) (fun _ _ _ h => h) (g0 rfl) rfl rfl ?_
  refine a_ld 2 1 rfl rfl (ev_ld1 (j := 70) rfl rfl Tryd.isAgg3 (MetaS.sub_Phase _) rfl) (by kernel_rfl) (by rfl) (by kernel_rfl) (by kernel_rfl) (by kernel_rfl) (by kernel_rfl) (fun _ _ _ h => h) (g0 rfl) rfl rfl ?_
  refine a_pu 3 rfl (ev_bin rfl rfl rfl rfl (neq_i _ 0)) (by rfl) (by kernel_rfl) (by kernel_rfl) (by kernel_rfl) (fun _ _ _ h => h) (g0 rfl) rfl rfl ?_
  refine a_pu 5 rfl (ev_move rfl rfl) (by rfl) (by kernel_rfl) (by kernel_rfl) (by kernel_rfl) (fun _ _ _ h => h) (g0 rfl) rfl rfl ?_
  refine a_pu 6 rfl (ev_fieldAddr rfl rfl Tryd.runUnderlying86 rfl Tryd.sizeOf4 rfl rfl) (by rfl) (by kernel_rfl) (by kernel_rfl) (by kernel_rfl) (fun _ _ _ h => h) (g0 rfl) rfl rfl ?_
  refine a_ld 7 2 rfl rfl (ev_ld1 (j := 0) rfl rfl Tryd.isAgg4 (FactS.sub_Name _) rfl) (by kernel_rfl) (by rfl) (by kernel_rfl) (by kernel_rfl) (by kernel_rfl) (by kernel_rfl) (fun _ _ _ h => h) (g0 rfl) rfl rfl ?_
  refine a_pu 8 rfl (ev_not rfl rfl) (by rfl) (by kernel_rfl) (by kernel_rfl) (by kernel_rfl) (fun _ _ _ h => h) (g0 rfl) rfl rfl ?_
  refine a_pu 10 rfl (ev_fieldAddr rfl rfl Tryd.runUnderlying86 rfl Tryd.sizeOf4 rfl rfl) (by rfl) (by kernel_rfl) (by kernel_rfl) (by kernel_rfl) (fun _ _ _ h => h) (g0 rfl) rfl rfl ?_
  refine a_ld 11 3 rfl rfl (ev_ld1 (j := 1) rfl rfl Tryd.isAgg4 (FactS.sub_Tag _) rfl) (by kernel_rfl) (by rfl) (by kernel_rfl) (by kernel_rfl) (by kernel_rfl) (by kernel_rfl) (fun _ _ _ h => h) (g0 rfl) rfl rfl ?_
  refine a_pu 12 rfl (ev_not rfl rfl) (by rfl) (by kernel_rfl) (by kernel_rfl) (by kernel_rfl) (fun _ _ _ h => h) (g0 rfl) rfl rfl ?_
  refine a_ld 14 4 rfl rfl (ev_ldN (j := 0) rfl rfl Tryd.isAgg74 (sz (MetaS.len _) Tryd.sizeOf74) (sub_all _) rfl) (by kernel_rfl) (by rfl) (by kernel_rfl) (by kernel_rfl) (by kernel_rfl) (by kernel_rfl) (fun _ _ _ h => h) (g0 rfl) rfl rfl ?_
  refine a_pu 15 rfl (ev_fieldAddr rfl rfl Tryd.runUnderlying112 rfl Tryd.sizeOf71 rfl rfl) (by rfl) (by kernel_rfl) (by kernel_rfl) (by kernel_rfl) (fun _ _ _ h => h) (g0 rfl) rfl rfl ?_
  refine a_pu 16 rfl (ev_fieldAddr rfl rfl Tryd.runUnderlying71 rfl Tryd.sizeOf3 rfl rfl) (by rfl) (by kernel_rfl) (by kernel_rfl) (by kernel_rfl) (fun _ _ _ h => h) (g0 rfl) rfl rfl ?_
  refine a_ld 17 5 rfl rfl (ev_ld1 (j := 1) rfl rfl Tryd.isAgg3 (sub_sub (Mani.sub_Image _) (Img.sub_Version _) rfl) rfl) (by kernel_rfl) (by rfl) (by kernel_rfl) (by kernel_rfl) (by kernel_rfl) (by kernel_rfl) (fun _ _ _ h => h) (g0 rfl) rfl rfl ?_
  refine a_pu 21 rfl (ev_fieldAddr rfl rfl Tryd.runUnderlying112 rfl Tryd.sizeOf71 rfl rfl) (by rfl) (by kernel_rfl) (by kernel_rfl) (by kernel_rfl) (fun _ _ _ h => h) (g0 rfl) rfl rfl ?_
  refine a_pu 22 rfl (ev_fieldAddr rfl rfl Tryd.runUnderlying71 rfl Tryd.sizeOf3 rfl rfl) (by rfl) (by kernel_rfl) (by kernel_rfl) (by kernel_rfl) (fun _ _ _ h => h) (g0 rfl) rfl rfl ?_
  refine a_ld 23 6 rfl rfl (ev_ld1 (j := 2) rfl rfl Tryd.isAgg3 (sub_sub (Mani.sub_Image _) (Img.sub_Size _) rfl) rfl) (by kernel_rfl) (by rfl) (by kernel_rfl) (by kernel_rfl) (by kernel_rfl) (by kernel_rfl) (fun _ _ _ h => h) (g0 rfl) rfl rfl ?_
  refine a_pu 25 rfl (ev_move rfl rfl) (by rfl) (by kernel_rfl) (by kernel_rfl) (by kernel_rfl) (fun _ _ _ h => h) (g0 rfl) rfl rfl ?_
  refine a_pu 26 rfl (ev_min rfl rfl rfl) (by rfl) (by kernel_rfl) (by kernel_rfl) (by kernel_rfl) (fun _ _ _ h => h) (g0 rfl) rfl rfl ?_
  refine a_pu 29 rfl (ev_fieldAddr rfl rfl Tryd.runUnderlying86 rfl Tryd.sizeOf4 rfl rfl) (by rfl) (by kernel_rfl) (by kernel_rfl) (by kernel_rfl) (fun _ _ _ h => h) (g0 rfl) rfl rfl ?_
  refine a_ld 30 7 rfl rfl (ev_ld1 (j := 34) rfl rfl Tryd.isAgg4 (FactS.sub_Worn _) rfl) (by kernel_rfl) (by rfl) (by kernel_rfl) (by kernel_rfl) (by kernel_rfl) (by kernel_rfl) (fun _ _ _ h => h) (g0 rfl) rfl rfl ?_
  refine ac 4 (by kernel_rfl) (sl_cons (hG 0 rfl) (sl_cons (hG 6 rfl) (sl_cons (hG 4 rfl) (sl_cons (hG 4 rfl) (sl_cons (hG 6 rfl) (sl_cons (hG 1 rfl) (sl_cons (hG 1 rfl) (sl_cons (hG 4 rfl) sl_nil)))))))) ?_
  obtain ⟨r15, Hc16, H⟩ := bind_some' H
  refine k_call (c_update_when (a0_m.Phase != 0) 11 r15 Hc16) Tryd.call108 rfl rfl rfl [] [] rfl rfl (g0 rfl) rfl rfl ?_
  rintro _ _ _ ⟨rfl, rfl, rfl⟩
  dsimp only [app]
  refine ac 9 (by kernel_rfl) (sl_cons (hG 0 rfl) (sl_cons (hG 6 rfl) (sl_cons (hG 4 rfl) (sl_cons (hG 4 rfl) (sl_cons (hG 6 rfl) (sl_cons (hG 1 rfl) (sl_cons (hG 1 rfl) (sl_cons (hG 4 rfl) sl_nil)))))))) ?_
  obtain ⟨r17, Hc18, H⟩ := bind_some' H
  refine k_call (c_update_when (!a2_f.Name) 7 r17 Hc18) Tryd.call108 rfl rfl rfl [] [] rfl rfl (g0 rfl) rfl rfl ?_
  rintro _ _ _ ⟨rfl, rfl, rfl⟩
  dsimp only [app]
  refine ac 13 (by kernel_rfl) (sl_cons (hG 0 rfl) (sl_cons (hG 6 rfl) (sl_cons (hG 4 rfl) (sl_cons (hG 4 rfl) (sl_cons (hG 6 rfl) (sl_cons (hG 1 rfl) (sl_cons (hG 1 rfl) (sl_cons (hG 4 rfl) sl_nil)))))))) ?_
  obtain ⟨r19, Hc20, H⟩ := bind_some' H
  refine k_call (c_update_when (!a2_f.Tag) 8 r19 Hc20) Tryd.call108 rfl rfl rfl [] [] rfl rfl (g0 rfl) rfl rfl ?_
  rintro _ _ _ ⟨rfl, rfl, rfl⟩
  dsimp only [app]
  refine ac 18 (by kernel_rfl) (sl_cons (hG 0 rfl) (sl_cons (hG 6 rfl) (sl_cons (hG 4 rfl) (sl_cons (hG 4 rfl) (sl_cons (hG 6 rfl) (sl_cons (hG 1 rfl) (sl_cons (hG 1 rfl) (sl_cons (hG 4 rfl) sl_nil)))))))) ?_
  obtain ⟨r21, Hc22, H⟩ := bind_some' H
  refine k_call (c_version_May a0_m r7.1.Image.Version r21 Hc22) Tryd.call109 rfl rfl rfl [] [] rfl rfl (g0 rfl) rfl rfl ?_
  rintro _ _ _ ⟨rfl, rfl, rfl⟩
  dsimp only [app]
  refine a_pu 19 rfl (ev_not rfl rfl) (by rfl) (by kernel_rfl) (by kernel_rfl) (by kernel_rfl) (fun _ _ _ h => h) (g0 rfl) rfl rfl ?_
  refine ac 20 (by kernel_rfl) (sl_cons (hG 0 rfl) (sl_cons (hG 6 rfl) (sl_cons (hG 4 rfl) (sl_cons (hG 4 rfl) (sl_end (by kernel_rfl) (sl_end (by kernel_rfl) (sl_cons (hG 1 rfl) (sl_cons (hG 4 rfl) sl_nil)))))))) ?_
  obtain ⟨r23, Hc24, H⟩ := bind_some' H
  refine k_call (c_update_when (!r21) 9 r23 Hc24) Tryd.call108 rfl rfl rfl [] [] rfl rfl (g0 rfl) rfl rfl ?_
  rintro _ _ _ ⟨rfl, rfl, rfl⟩
  dsimp only [app]
  refine ac 24 (by kernel_rfl) (sl_cons (hG 0 rfl) (sl_cons (hG 6 rfl) (sl_cons (hG 4 rfl) (sl_cons (hG 4 rfl) (sl_end (by kernel_rfl) (sl_end (by kernel_rfl) (sl_cons (hG 1 rfl) (sl_cons (hG 4 rfl) sl_nil)))))))) ?_
  obtain ⟨r25, Hc26, H⟩ := bind_some' H
  refine k_call (c_update_Chunks r7.1.Image.Size r25 Hc26) Tryd.call110 rfl rfl rfl [] [] rfl rfl (g0 rfl) rfl rfl ?_
  rintro _ _ _ ⟨rfl, rfl, rfl⟩
  dsimp only [app]
  refine a_pu 27 rfl (ev_bin rfl rfl rfl rfl (gtr_i _ _)) (by rfl) (by kernel_rfl) (by kernel_rfl) (by kernel_rfl) (fun _ _ _ h => h) (g0 rfl) rfl rfl ?_
  refine ac 28 (by kernel_rfl) (sl_cons (hG 0 rfl) (sl_cons (hG 6 rfl) (sl_cons (hG 4 rfl) (sl_cons (hG 4 rfl) (sl_end (by kernel_rfl) (sl_end (by kernel_rfl) (sl_end (by kernel_rfl) (sl_cons (hG 4 rfl) sl_nil)))))))) ?_
  obtain ⟨r27, Hc28, H⟩ := bind_some' H
  refine k_call (c_update_when (decide (r25 > (if 6 < a3_quota then 6 else a3_quota))) 10 r27 Hc28) Tryd.call108 rfl rfl rfl [] [] rfl rfl (g0 rfl) rfl rfl ?_
  rintro _ _ _ ⟨rfl, rfl, rfl⟩
  dsimp only [app]
  refine ac 31 (by kernel_rfl) (sl_cons (hG 0 rfl) (sl_cons (hG 6 rfl) (sl_cons (hG 4 rfl) (sl_cons (hG 4 rfl) (sl_end (by kernel_rfl) (sl_end (by kernel_rfl) (sl_end (by kernel_rfl) (sl_cons (hG 4 rfl) sl_nil)))))))) ?_
  obtain ⟨r29, Hc30, H⟩ := bind_some' H
  refine k_call (c_update_when a2_f.Worn 5 r29 Hc30) Tryd.call108 rfl rfl rfl [] [] rfl rfl (g0 rfl) rfl rfl ?_
  rintro _ _ _ ⟨rfl, rfl, rfl⟩
  dsimp only [app]
  refine ac 32 (by kernel_rfl) (sl_cons (hG 0 rfl) (sl_cons (hG 6 rfl) (sl_cons (hG 4 rfl) (sl_cons (hG 4 rfl) (sl_end (by kernel_rfl) (sl_end (by kernel_rfl) (sl_end (by kernel_rfl) (sl_end (by kernel_rfl) sl_nil)))))))) ?_
  refine k_buildSlice (f := Ei) ([r15, r7.2.2, r17, r19, r23, r27, r29] : List Int) rfl rfl rfl rfl Tryd.runUnderlying176 Tryd.sizeOf24 Tryd.zeroValue24 rfl rfl (fill_all rfl rfl (by simp) rfl rfl) (g0 rfl) rfl rfl ?_
  intro b31
  refine ac 33 (by kernel_rfl) (sl_cons (hG 0 rfl) (sl_cons (hG 6 rfl) (sl_cons (hG 4 rfl) (sl_cons (hG 4 rfl) (sl_end (by kernel_rfl) (sl_end (by kernel_rfl) (sl_end (by kernel_rfl) (sl_end (by kernel_rfl) sl_nil)))))))) ?_
  obtain ⟨r32, Hc33, H⟩ := bind_some' H
  refine k_call (c_update_one ({ ({ (r12 : MetaS) with Phase := 1 } : MetaS) with Coming := r7.1.Image }) ([r15, r7.2.2, r17, r19, r23, r27, r29] : List Int) (some ⟨b31, 0, none⟩) 7 r32 Hc33) Tryd.call107 rfl rfl rfl [0] [] rfl rfl (g0 rfl) rfl rfl ?_
  rintro _ _ _ ⟨rfl, rfl, rfl⟩
  dsimp only [app]
  refine ac 34 (by kernel_rfl) (sl_end (by kernel_rfl) (sl_cons (hG 6 rfl) (sl_cons (hG 4 rfl) (sl_cons (hG 4 rfl) (sl_end (by kernel_rfl) (sl_end (by kernel_rfl) (sl_end (by kernel_rfl) (sl_end (by kernel_rfl) sl_nil)))))))) ?_
  refine k_st (j := 0) rfl rfl rfl rfl (vs := ChangeS.cells r32) rfl (sz (ChangeS.len _) Tryd.sizeOf109) (ChangeS.sc _) 3 rfl (spl_all ((ChangeS.len _).trans (ChangeS.len _).symm)) rfl (g0 rfl) rfl ?_
  refine a_done (by kernel_rfl) (sl_end (by kernel_rfl) (sl_end (by kernel_rfl) (sl_end (by kernel_rfl) (sl_end (by kernel_rfl) (sl_end (by kernel_rfl) (sl_end (by kernel_rfl) (sl_end (by kernel_rfl) (sl_end (by kernel_rfl) sl_nil)))))))) ?_
  refine q_then ?_
  refine s_ret ?_
  cases H
  exact q_end (rs_1 Tryd.results76 (rv_cell (j := 0) rfl (hG 3 rfl) Tryd.isAgg109 (sz (ChangeS.len _) Tryd.sizeOf109) (sub_all _) rfl)) ⟨rfl, rfl, rfl⟩ [] rfl 3 rfl [] rfl 7 rfl

def sha_spread_l0 (a0_b : List UInt8) (J5 : (Arr UInt32 64) → Option (Arr UInt32 64)) : Nat → (Int × Arr UInt32 64) → Option (Arr UInt32 64)
  | 0, _ => none
  | k8 + 1, s8 =>
    bif (decide (s8.1 < 64)) then (
    jn (fun (x11 : Arr UInt32 64) =>
    sha_spread_l0 a0_b J5 k8 ((wrap64 (s8.1 + 1)), x11)) fun J10 =>
    bif (decide (s8.1 < 16)) then (
    chk (0 ≤ (wrap64 (s8.1 * 4)) ∧ (wrap64 (s8.1 * 4)) ≤ (a0_b.length : Int) ∧ (a0_b.length : Int) ≤ (a0_b.length : Int)) <|
    (turn_Big (slc a0_b (wrap64 (s8.1 * 4)) (a0_b.length : Int))).bind fun r17 =>
    chk (0 ≤ s8.1 ∧ s8.1 < 64) <|
    J10 (Arr.set s8.2 s8.1 r17)) else (
    chk (0 ≤ (wrap64 (s8.1 - 15)) ∧ (wrap64 (s8.1 - 15)) < 64) <|
    chk (0 ≤ (wrap64 (s8.1 - 2)) ∧ (wrap64 (s8.1 - 2)) < 64) <|
    chk (0 ≤ (wrap64 (s8.1 - 16)) ∧ (wrap64 (s8.1 - 16)) < 64) <|
    chk (0 ≤ (wrap64 (s8.1 - 7)) ∧ (wrap64 (s8.1 - 7)) < 64) <|
    (turn_Right (at' 0 s8.2.l (wrap64 (s8.1 - 15))) (7 : Int)).bind fun r24 =>
    (turn_Right (at' 0 s8.2.l (wrap64 (s8.1 - 15))) (18 : Int)).bind fun r26 =>
    (turn_Right (at' 0 s8.2.l (wrap64 (s8.1 - 2))) (17 : Int)).bind fun r28 =>
    (turn_Right (at' 0 s8.2.l (wrap64 (s8.1 - 2))) (19 : Int)).bind fun r30 =>
    chk (0 ≤ s8.1 ∧ s8.1 < 64) <|
    J10 (Arr.set s8.2 s8.1 ((((at' 0 s8.2.l (wrap64 (s8.1 - 16))) + ((r24 ^^^ r26) ^^^ (shr32 ((at' 0 s8.2.l (wrap64 (s8.1 - 15))) : UInt32) (3 : UInt64).toNat))) + (at' 0 s8.2.l (wrap64 (s8.1 - 7)))) + ((r28 ^^^ r30) ^^^ (shr32 ((at' 0 s8.2.l (wrap64 (s8.1 - 2))) : UInt32) (10 : UInt64).toNat)))))) else (
    J5 s8.2)

def sha_spread (a0_b : List UInt8) : Option (Arr UInt32 64) :=
jn (fun (x6 : Arr UInt32 64) =>
some x6) fun J5 =>
sha_spread_l0 a0_b J5 Fuel (0, (Arr.zero 0 64 : Arr UInt32 64))

theorem c_sha_spread (a0_b : List UInt8) (A1 : Option Addr) (c2 : Nat) (r : (Arr UInt32 64)) (H : sha_spread a0_b = some r) : Fn Tryd.prog 101 [(.slice A1 a0_b.length c2)] [Sl E8 A1 c2 a0_b] [] (fun v D' G' => v = (.agg (r.l.flatMap E32).toArray) ∧ D' = [] ∧ G' = []) := by
  unfold sha_spread at H
  refine fn_of Tryd.func101 rfl Tryd.ntmps101 rfl ?_
  intro w0 D0 G0
  dsimp only [app, initEnv, Nat.zero_add, Nat.reduceAdd]
  refine s_seq ?_
  refine s_reg [0] rfl ?_
  refine oc (k_alloc rfl rfl Tryd.zeroValue151 (cs := (Arr.zero 0 64 : Arr UInt32 64).l.flatMap E32) rfl (g0 rfl) rfl rfl ?_)
  intro b3
  refine o_nil ?_
  refine q_then ?_
  refine s_seq ?_
  refine s_reg [0] rfl ?_
  refine oc (k_alloc rfl rfl Tryd.zeroValue151 (cs := (Arr.zero 0 64 : Arr UInt32 64).l.flatMap E32) rfl (g0 rfl) rfl rfl ?_)
  intro b4
  refine o_nil ?_
  refine q_then ?_
  refine s_seq ?_
  refine s_seq ?_
  refine s_reg [0] rfl ?_
  refine o_pu rfl (ev_move rfl rfl) (g0 rfl) rfl rfl ?_
  refine o_nil ?_
  refine q_then ?_
  refine q_join (fun (x6 : Arr UInt32 64) (y7 : Unit) => ⟨Sl E8 A1 c2 a0_b :: D0, At b4 0 (x6.l.flatMap E32) :: At b3 0 ((Arr.zero 0 64 : Arr UInt32 64).l.flatMap E32) :: G0, [(2, (.pointer (some ⟨b3, 0, none⟩))), (3, (.pointer (some ⟨b4, 0, none⟩)))]⟩) H ?_ ?_
  · intro x6 y7 H
    dsimp only
    refine q_then ?_
    refine s_seq ?_
    refine s_reg [0, 1] rfl ?_
    refine o_ld (hG 0 rfl) rfl (ev_ldN (j := 0) rfl rfl Tryd.isAgg151 (sz (arr_len E32_len _ rfl) Tryd.sizeOf151) (sub_all _) rfl) (g0 rfl) rfl rfl ?_
    refine oc (k_st (j := 0) rfl rfl rfl rfl (vs := x6.l.flatMap E32) rfl (sz (arr_len E32_len _ rfl) Tryd.sizeOf151) (arr_sc E32_one _) 1 rfl (spl_all ((arr_len E32_len _ rfl).trans (arr_len E32_len _ rfl).symm)) rfl (g0 rfl) rfl ?_)
    refine o_nil ?_
    refine q_then ?_
    refine s_ret ?_
    cases H
    exact q_end (rs_1 Tryd.results101 (rv_cell (j := 0) rfl (hG 1 rfl) Tryd.isAgg151 (sz (arr_len E32_len _ rfl) Tryd.sizeOf151) (sub_all _) rfl)) ⟨rfl, rfl, rfl⟩ [] rfl 1 rfl [] rfl 2 rfl
  · intro J5 H
    refine s_block ?_
    refine s_loop (k_wk (loop_ind (fun (s8 : Int × Arr UInt32 64) (y8 : Unit) => ⟨Sl E8 A1 c2 a0_b :: D0, At b4 0 (s8.2.l.flatMap E32) :: At b3 0 ((Arr.zero 0 64 : Arr UInt32 64).l.flatMap E32) :: G0, [(0, (.slice A1 a0_b.length c2)), (2, (.pointer (some ⟨b3, 0, none⟩))), (3, (.pointer (some ⟨b4, 0, none⟩))), (7, (vi s8.1))]⟩) (sha_spread_l0 a0_b _) _ (fun _ => rfl) ?_ Fuel (0, (Arr.zero 0 64 : Arr UInt32 64)) () H) [0, 2, 3, 7] [0] 1 [0, 0] 0 rfl rfl rfl)
    intro k8 s8 y8 ih H
    dsimp only
    rw [sha_spread_l0] at H
    refine s_seq ?_
    refine s_reg [0] rfl ?_
    refine o_pu rfl (ev_bin rfl rfl rfl rfl (lss_i _ 64)) (g0 rfl) rfl rfl ?_
    refine o_nil ?_
    refine q_then ?_
    refine s_seq ?_
    refine s_cond rfl ?_ ?_
    · intro hb9
      have H := cnd_t H hb9
      refine s_skip ?_
      refine q_then ?_
      refine s_seq ?_
      refine q_join (fun (x11 : Arr UInt32 64) (y12 : Unit) => ⟨Sl E8 A1 c2 a0_b :: D0, At b4 0 (x11.l.flatMap E32) :: At b3 0 ((Arr.zero 0 64 : Arr UInt32 64).l.flatMap E32) :: G0, [(0, (.slice A1 a0_b.length c2)), (2, (.pointer (some ⟨b3, 0, none⟩))), (3, (.pointer (some ⟨b4, 0, none⟩))), (7, (vi s8.1))]⟩) H ?_ ?_
      · intro x11 y12 H
        dsimp only
        refine q_then ?_
        refine s_reg [0, 1] rfl ?_
        refine o_pu rfl (ev_bin rfl rfl rfl rfl (add_i _ 1)) (g0 rfl) rfl rfl ?_
        refine o_pu rfl (ev_move rfl rfl) (g0 rfl) rfl rfl ?_
        refine o_nil ?_
        refine q_loop ?_
        exact k_wk (ih ((wrap64 (s8.1 + 1)), x11) () H) [0, 2, 3, 7] [0] 1 [0, 0] 0 rfl rfl rfl
      · intro J10 H
        refine s_block ?_
        refine s_seq ?_
        refine s_reg [0, 1] rfl ?_
        refine o_pu rfl (ev_move rfl rfl) (g0 rfl) rfl rfl ?_
        refine o_pu rfl (ev_assign rfl rfl) (g0 rfl) rfl rfl ?_
        refine o_nil ?_
        refine q_then ?_
        refine s_seq ?_
        refine s_seq ?_
        refine s_reg [0, 1] rfl ?_
        refine o_pu rfl (ev_move rfl rfl) (g0 rfl) rfl rfl ?_
        refine o_pu rfl (ev_bin rfl rfl rfl rfl (lss_i _ 16)) (g0 rfl) rfl rfl ?_
        refine o_nil ?_
        refine q_then ?_
        refine s_cond rfl ?_ ?_
        · intro hb13
          have H := cnd_t H hb13
          refine s_seq ?_
          refine s_reg [0, 1, 2, 3, 4, 5, 6, 7] rfl ?_
          refine o_pu rfl (ev_move rfl rfl) (g0 rfl) rfl rfl ?_
          refine o_pu rfl (ev_move rfl rfl) (g0 rfl) rfl rfl ?_
          refine o_pu rfl (ev_move rfl rfl) (g0 rfl) rfl rfl ?_
          refine o_pu rfl (ev_bin rfl rfl rfl rfl (mul_i _ 4)) (g0 rfl) rfl rfl ?_
          obtain ⟨hk16, H⟩ := chk_some H
          refine oc (k_slice (kb := .i64) (a := (wrap64 (s8.1 * 4))) (b := (a0_b.length : Int)) 0 rfl rfl rfl rfl E8_len Tryd.runUnderlying32 Tryd.sizeOf5 (.inr rfl) (.inl ⟨rfl, rfl⟩) hk16 (g0 rfl) rfl rfl ?_)
          intro A14 c15
          obtain ⟨r17, Hc18, H⟩ := bind_some' H
          refine oc (k_call (c_turn_Big (slc a0_b (wrap64 (s8.1 * 4)) (a0_b.length : Int)) A14 c15 r17 Hc18) Tryd.call124 rfl rfl rfl [0] [] rfl rfl (g0 rfl) rfl rfl ?_)
          rintro _ _ _ ⟨rfl, rfl, rfl⟩
          dsimp only [app]
          obtain ⟨hk19, H⟩ := chk_some H
          refine o_pu rfl (ev_idx_array rfl rfl rfl Tryd.runUnderlying151 Tryd.sizeOf124 hk19 rfl) (g0 rfl) rfl rfl ?_
          refine oc (k_st rfl rfl rfl rfl (vs := [v32 r17]) rfl (sz rfl Tryd.sizeOf124) rfl 0 rfl (spl_arr E32_len _ (k := s8.1) _ hk19 rfl) (by omega) (g0 rfl) rfl ?_)
          refine o_nil ?_
          refine q_then ?_
          refine s_exit ?_
          refine q_then_x ?_
          refine q_block_x ?_
          exact k_wk (J10 (Arr.set s8.2 s8.1 r17) () H) [0, 2, 3, 7] [1] 2 [0, 0] 0 rfl rfl rfl
        · intro hb13
          have H := cnd_f H hb13
          refine s_skip ?_
          refine q_then ?_
          refine s_seq ?_
          refine s_draw mixed [(3, [], Has b4 0 (s8.2.l.flatMap E32)), (7, [], Has b4 0 (s8.2.l.flatMap E32))] ?_
          refine a_pu 0 rfl (ev_move rfl rfl) (by rfl) (by kernel_rfl) (by kernel_rfl) (by kernel_rfl) (fun _ _ _ h => h) (g0 rfl) rfl rfl ?_
          refine a_pu 1 rfl (ev_bin rfl rfl rfl rfl (sub_i _ 15)) (by rfl) (by kernel_rfl) (by kernel_rfl) (by kernel_rfl) (fun _ _ _ h => h) (g0 rfl) rfl rfl ?_
          obtain ⟨hk20, H⟩ := chk_some H
          refine a_pu 2 rfl (ev_idx_array rfl rfl rfl Tryd.runUnderlying151 Tryd.sizeOf124 hk20 rfl) (by rfl) (by kernel_rfl) (by kernel_rfl) (by kernel_rfl) (fun _ _ _ h => h) (g0 rfl) rfl rfl ?_
          refine a_ld 3 0 rfl rfl (ev_ld1 rfl rfl Tryd.isAgg124 (sub_arr E32_len 0 _ (k := (wrap64 (s8.1 - 15))) hk20 rfl) (by omega)) (by kernel_rfl) (by rfl) (by kernel_rfl) (by kernel_rfl) (by kernel_rfl) (by kernel_rfl) (fun _ _ _ h => h) (g0 rfl) rfl rfl ?_
          refine a_pu 4 rfl (ev_move rfl rfl) (by rfl) (by kernel_rfl) (by kernel_rfl) (by kernel_rfl) (fun _ _ _ h => h) (g0 rfl) rfl rfl ?_
          refine a_pu 5 rfl (ev_bin rfl rfl rfl rfl (sub_i _ 2)) (by rfl) (by kernel_rfl) (by kernel_rfl) (by kernel_rfl) (fun _ _ _ h => h) (g0 rfl) rfl rfl ?_
          obtain ⟨hk21, H⟩ := chk_some H
          refine a_pu 6 rfl (ev_idx_array rfl rfl rfl Tryd.runUnderlying151 Tryd.sizeOf124 hk21 rfl) (by rfl) (by kernel_rfl) (by kernel_rfl) (by kernel_rfl) (fun _ _ _ h => h) (g0 rfl) rfl rfl ?_
          refine a_ld 7 1 rfl rfl (ev_ld1 rfl rfl Tryd.isAgg124 (sub_arr E32_len 0 _ (k := (wrap64 (s8.1 - 2))) hk21 rfl) (by omega)) (by kernel_rfl) (by rfl) (by kernel_rfl) (by kernel_rfl) (by kernel_rfl) (by kernel_rfl) (fun _ _ _ h => h) (g0 rfl) rfl rfl ?_
          refine a_pu 8 rfl (ev_assign rfl rfl) (by rfl) (by kernel_rfl) (by kernel_rfl) (by kernel_rfl) (fun _ _ _ h => h) (g0 rfl) rfl rfl ?_
          refine a_pu 9 rfl (ev_assign rfl rfl) (by rfl) (by kernel_rfl) (by kernel_rfl) (by kernel_rfl) (fun _ _ _ h => h) (g0 rfl) rfl rfl ?_
          refine a_done (by kernel_rfl) (sl_cons (hG 0 rfl) (sl_cons (hG 0 rfl) sl_nil)) ?_
          refine q_then ?_
          refine s_draw mixed [(4, [29], Has b4 0 (s8.2.l.flatMap E32)), (17, [29], Has b4 0 (s8.2.l.flatMap E32))] ?_
          refine a_pu 0 rfl (ev_move rfl rfl) (by rfl) (by kernel_rfl) (by kernel_rfl) (by kernel_rfl) (fun _ _ _ h => h) (g0 rfl) rfl rfl ?_
          refine a_pu 1 rfl (ev_move rfl rfl) (by rfl) (by kernel_rfl) (by kernel_rfl) (by kernel_rfl) (fun _ _ _ h => h) (g0 rfl) rfl rfl ?_
          refine a_pu 2 rfl (ev_bin rfl rfl rfl rfl (sub_i _ 16)) (by rfl) (by kernel_rfl) (by kernel_rfl) (by kernel_rfl) (fun _ _ _ h => h) (g0 rfl) rfl rfl ?_
          obtain ⟨hk22, H⟩ := chk_some H
          refine a_pu 3 rfl (ev_idx_array rfl rfl rfl Tryd.runUnderlying151 Tryd.sizeOf124 hk22 rfl) (by rfl) (by kernel_rfl) (by kernel_rfl) (by kernel_rfl) (fun _ _ _ h => h) (g0 rfl) rfl rfl ?_
          refine a_ld 4 0 rfl rfl (ev_ld1 rfl rfl Tryd.isAgg124 (sub_arr E32_len 0 _ (k := (wrap64 (s8.1 - 16))) hk22 rfl) (by omega)) (by kernel_rfl) (by rfl) (by kernel_rfl) (by kernel_rfl) (by kernel_rfl) (by kernel_rfl) (fun _ _ _ h => h) (g0 rfl) rfl rfl ?_
          refine a_pu 5 rfl (ev_move rfl rfl) (by rfl) (by kernel_rfl) (by kernel_rfl) (by kernel_rfl) (fun _ _ _ h => h) (g0 rfl) rfl rfl ?_
          refine a_pu 7 rfl (ev_move rfl rfl) (by rfl) (by kernel_rfl) (by kernel_rfl) (by kernel_rfl) (fun _ _ _ h => h) (g0 rfl) rfl rfl ?_
          refine a_pu 10 rfl (ev_move rfl rfl) (by rfl) (by kernel_rfl) (by kernel_rfl) (by kernel_rfl) (fun _ _ _ h => h) (g0 rfl) rfl rfl ?_
          refine a_pu 11 rfl (ev_bin rfl rfl rfl rfl (shr_32 _ 3)) (by rfl) (by kernel_rfl) (by kernel_rfl) (by kernel_rfl) (fun _ _ _ h => h) (g0 rfl) rfl rfl ?_
          refine a_pu 14 rfl (ev_move rfl rfl) (by rfl) (by kernel_rfl) (by kernel_rfl) (by kernel_rfl) (fun _ _ _ h => h) (g0 rfl) rfl rfl ?_
          refine a_pu 15 rfl (ev_bin rfl rfl rfl rfl (sub_i _ 7)) (by rfl) (by kernel_rfl) (by kernel_rfl) (by kernel_rfl) (fun _ _ _ h => h) (g0 rfl) rfl rfl ?_
          obtain ⟨hk23, H⟩ := chk_some H
          refine a_pu 16 rfl (ev_idx_array rfl rfl rfl Tryd.runUnderlying151 Tryd.sizeOf124 hk23 rfl) (by rfl) (by kernel_rfl) (by kernel_rfl) (by kernel_rfl) (fun _ _ _ h => h) (g0 rfl) rfl rfl ?_
          refine a_ld 17 1 rfl rfl (ev_ld1 rfl rfl Tryd.isAgg124 (sub_arr E32_len 0 _ (k := (wrap64 (s8.1 - 7))) hk23 rfl) (by omega)) (by kernel_rfl) (by rfl) (by kernel_rfl) (by kernel_rfl) (by kernel_rfl) (by kernel_rfl) (fun _ _ _ h => h) (g0 rfl) rfl rfl ?_
          refine a_pu 19 rfl (ev_move rfl rfl) (by rfl) (by kernel_rfl) (by kernel_rfl) (by kernel_rfl) (fun _ _ _ h => h) (g0 rfl) rfl rfl ?_
          refine a_pu 21 rfl (ev_move rfl rfl) (by rfl) (by kernel_rfl) (by kernel_rfl) (by kernel_rfl) (fun _ _ _ h => h) (g0 rfl) rfl rfl ?_
          refine a_pu 24 rfl (ev_move rfl rfl) (by rfl) (by kernel_rfl) (by kernel_rfl) (by kernel_rfl) (fun _ _ _ h => h) (g0 rfl) rfl rfl ?_
          refine a_pu 25 rfl (ev_bin rfl rfl rfl rfl (shr_32 _ 10)) (by rfl) (by kernel_rfl) (by kernel_rfl) (by kernel_rfl) (fun _ _ _ h => h) (g0 rfl) rfl rfl ?_
          refine ac 6 (by kernel_rfl) (sl_cons (hG 0 rfl) (sl_cons (hG 0 rfl) sl_nil)) ?_
          obtain ⟨r24, Hc25, H⟩ := bind_some' H
          refine k_call (c_turn_Right (at' 0 s8.2.l (wrap64 (s8.1 - 15))) 7 r24 Hc25) Tryd.call125 rfl rfl rfl [] [] rfl rfl (g0 rfl) rfl rfl ?_
          rintro _ _ _ ⟨rfl, rfl, rfl⟩
          dsimp only [app]
          refine ac 8 (by kernel_rfl) (sl_cons (hG 0 rfl) (sl_cons (hG 0 rfl) sl_nil)) ?_
          obtain ⟨r26, Hc27, H⟩ := bind_some' H
          refine k_call (c_turn_Right (at' 0 s8.2.l (wrap64 (s8.1 - 15))) 18 r26 Hc27) Tryd.call125 rfl rfl rfl [] [] rfl rfl (g0 rfl) rfl rfl ?_
          rintro _ _ _ ⟨rfl, rfl, rfl⟩
          dsimp only [app]
          refine a_pu 9 rfl (ev_bin rfl rfl rfl rfl (xor_32 _ _)) (by rfl) (by kernel_rfl) (by kernel_rfl) (by kernel_rfl) (fun _ _ _ h => h) (g0 rfl) rfl rfl ?_
          refine a_pu 12 rfl (ev_bin rfl rfl rfl rfl (xor_32 _ _)) (by rfl) (by kernel_rfl) (by kernel_rfl) (by kernel_rfl) (fun _ _ _ h => h) (g0 rfl) rfl rfl ?_
          refine a_pu 13 rfl (ev_bin rfl rfl rfl rfl (add_32 _ _)) (by rfl) (by kernel_rfl) (by kernel_rfl) (by kernel_rfl) (fun _ _ _ h => h) (g0 rfl) rfl rfl ?_
          refine a_pu 18 rfl (ev_bin rfl rfl rfl rfl (add_32 _ _)) (by rfl) (by kernel_rfl) (by kernel_rfl) (by kernel_rfl) (fun _ _ _ h => h) (g0 rfl) rfl rfl ?_
          refine ac 20 (by kernel_rfl) (sl_cons (hG 0 rfl) (sl_cons (hG 0 rfl) sl_nil)) ?_
          obtain ⟨r28, Hc29, H⟩ := bind_some' H
          refine k_call (c_turn_Right (at' 0 s8.2.l (wrap64 (s8.1 - 2))) 17 r28 Hc29) Tryd.call125 rfl rfl rfl [] [] rfl rfl (g0 rfl) rfl rfl ?_
          rintro _ _ _ ⟨rfl, rfl, rfl⟩
          dsimp only [app]
          refine ac 22 (by kernel_rfl) (sl_cons (hG 0 rfl) (sl_cons (hG 0 rfl) sl_nil)) ?_
          obtain ⟨r30, Hc31, H⟩ := bind_some' H
          refine k_call (c_turn_Right (at' 0 s8.2.l (wrap64 (s8.1 - 2))) 19 r30 Hc31) Tryd.call125 rfl rfl rfl [] [] rfl rfl (g0 rfl) rfl rfl ?_
          rintro _ _ _ ⟨rfl, rfl, rfl⟩
          dsimp only [app]
          refine a_pu 23 rfl (ev_bin rfl rfl rfl rfl (xor_32 _ _)) (by rfl) (by kernel_rfl) (by kernel_rfl) (by kernel_rfl) (fun _ _ _ h => h) (g0 rfl) rfl rfl ?_
          refine a_pu 26 rfl (ev_bin rfl rfl rfl rfl (xor_32 _ _)) (by rfl) (by kernel_rfl) (by kernel_rfl) (by kernel_rfl) (fun _ _ _ h => h) (g0 rfl) rfl rfl ?_
          refine a_pu 27 rfl (ev_bin rfl rfl rfl rfl (add_32 _ _)) (by rfl) (by kernel_rfl) (by kernel_rfl) (by kernel_rfl) (fun _ _ _ h => h) (g0 rfl) rfl rfl ?_
          obtain ⟨hk32, H⟩ := chk_some H
          refine a_pu 28 rfl (ev_idx_array rfl rfl rfl Tryd.runUnderlying151 Tryd.sizeOf124 hk32 rfl) (by rfl) (by kernel_rfl) (by kernel_rfl) (by kernel_rfl) (fun _ _ _ h => h) (g0 rfl) rfl rfl ?_
          refine ac 29 (by kernel_rfl) (sl_cons (hG 0 rfl) (sl_cons (hG 0 rfl) sl_nil)) ?_
          refine k_st rfl rfl rfl rfl (vs := [v32 ((((at' 0 s8.2.l (wrap64 (s8.1 - 16))) + ((r24 ^^^ r26) ^^^ (shr32 ((at' 0 s8.2.l (wrap64 (s8.1 - 15))) : UInt32) (3 : UInt64).toNat))) + (at' 0 s8.2.l (wrap64 (s8.1 - 7)))) + ((r28 ^^^ r30) ^^^ (shr32 ((at' 0 s8.2.l (wrap64 (s8.1 - 2))) : UInt32) (10 : UInt64).toNat)))]) rfl (sz rfl Tryd.sizeOf124) rfl 0 rfl (spl_arr E32_len _ (k := s8.1) _ hk32 rfl) (by omega) (g0 rfl) rfl ?_
          refine a_done (by kernel_rfl) (sl_end (by kernel_rfl) (sl_end (by kernel_rfl) sl_nil)) ?_
          refine q_block ?_
          exact k_wk (J10 (Arr.set s8.2 s8.1 ((((at' 0 s8.2.l (wrap64 (s8.1 - 16))) + ((r24 ^^^ r26) ^^^ (shr32 ((at' 0 s8.2.l (wrap64 (s8.1 - 15))) : UInt32) (3 : UInt64).toNat))) + (at' 0 s8.2.l (wrap64 (s8.1 - 7)))) + ((r28 ^^^ r30) ^^^ (shr32 ((at' 0 s8.2.l (wrap64 (s8.1 - 2))) : UInt32) (10 : UInt64).toNat)))) () H) [0, 2, 3, 7] [0] 1 [0, 0] 0 rfl rfl rfl
    · intro hb9
      have H := cnd_f H hb9
      refine s_exit ?_
      refine q_then_x ?_
      refine q_then_x ?_
      refine q_block_x ?_
      exact k_wk (J5 s8.2 () H) [2, 3] [0] 1 [0, 0] 0 rfl rfl rfl

end Go.Proofs.YtphbbnlbfbhcaaaDoor.Wl
