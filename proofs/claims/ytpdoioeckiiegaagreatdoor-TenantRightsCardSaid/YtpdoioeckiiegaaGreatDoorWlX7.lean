import Derived.Test.YtpdoioeckiiegaaGreatDoorWlW
import Derived.Test.YtpdoioeckiiegaaGreatDoorWlX0
import Derived.Test.YtpdoioeckiiegaaGreatDoorWlX1
import Derived.Test.YtpdoioeckiiegaaGreatDoorWlX2
import Derived.Test.YtpdoioeckiiegaaGreatDoorWlX3
import Derived.Test.YtpdoioeckiiegaaGreatDoorWlX4
import Derived.Test.YtpdoioeckiiegaaGreatDoorWlX6
set_option linter.unusedSimpArgs false
set_option linter.unusedVariables false
set_option maxRecDepth 10000
namespace Go.Proofs.YtpdoioeckiiegaaGreatDoor.Wl
open Go.RowKit Go.Proofs
def slices_Repeat_l0 (r5 : UInt64 × UInt64) (J16 : (List UInt8) → Option (List UInt8)) : Nat → (Int × List UInt8) → Option (List UInt8)
  | 0, _ => none
  | k20 + 1, s20 =>
    bif (decide (s20.1 < ((wrap64 (r5.2.toNat : Int)).toNat : Int))) then (
    chk (0 ≤ s20.1 ∧ s20.1 ≤ ((wrap64 (r5.2.toNat : Int)).toNat : Int) ∧ ((wrap64 (r5.2.toNat : Int)).toNat : Int) ≤ ((wrap64 (r5.2.toNat : Int)).toNat : Int) ∧ (s20.1 = 0 ∨ s20.1 < ((wrap64 (r5.2.toNat : Int)).toNat : Int))) <|
    chk (0 ≤ (0 : Int) ∧ (0 : Int) ≤ s20.1 ∧ s20.1 ≤ ((wrap64 (r5.2.toNat : Int)).toNat : Int) ∧ ((0 : Int) = 0 ∨ (0 : Int) < ((wrap64 (r5.2.toNat : Int)).toNat : Int))) <|
    chk (0 ≤ (0 : Int) ∧ (0 : Int) ≤ s20.1 ∧ s20.1 ≤ (s20.2.length : Int)) <|
    chk (0 ≤ s20.1 ∧ s20.1 ≤ ((wrap64 (r5.2.toNat : Int)).toNat : Int) ∧ ((wrap64 (r5.2.toNat : Int)).toNat : Int) ≤ (s20.2.length : Int)) <|
    slices_Repeat_l0 r5 J16 k20 ((wrap64 (s20.1 + (min ((s20.1 - (0 : Int)).toNat) ((((wrap64 (r5.2.toNat : Int)).toNat : Int) - s20.1).toNat) : Nat))), (wr s20.2 s20.1 ((wrap64 (r5.2.toNat : Int)).toNat : Int) (slc s20.2 (0 : Int) s20.1)))) else (
    J16 s20.2)

def slices_Repeat (a0_x : List UInt8) (a1_count : Int) : Option (List UInt8) :=
bif (decide (a1_count < 0)) then (
none) else (
(math_bits_Mul (UInt64.ofInt (a0_x.length : Int)) (UInt64.ofInt a1_count)).bind fun r5 =>
bnd (decide ((0 : UInt64) < (r5.1 : UInt64))) fun b7 =>
jn (fun x10 =>
bif x10 then (
none) else (
chk (0 ≤ (wrap64 (r5.2.toNat : Int)) ∧ (wrap64 (r5.2.toNat : Int)) ≤ 68719476736) <|
chk ((List.replicate (wrap64 (r5.2.toNat : Int)).toNat (0 : UInt8)).length = (wrap64 (r5.2.toNat : Int)).toNat) <|
jn (fun (x17 : List UInt8) =>
chk (x17.length = (wrap64 (r5.2.toNat : Int)).toNat) <|
some x17) fun J16 =>
slices_Repeat_l0 r5 J16 Fuel ((min a0_x.length ((wrap64 (r5.2.toNat : Int)).toNat) : Nat), (cpy (List.replicate (wrap64 (r5.2.toNat : Int)).toNat (0 : UInt8)) a0_x)))) fun J9 =>
bif b7 then (
J9 true) else
J9 (decide ((9223372036854775807 : UInt64) < (r5.2 : UInt64))))

theorem c_slices_Repeat (a0_x : List UInt8) (A1 : Option Addr) (c2 : Nat) (a1_count : Int) (r : (List UInt8)) (H : slices_Repeat a0_x a1_count = some r) : Fn Tryz.prog 35 [(.slice A1 a0_x.length c2), (vi a1_count)] [Sl E8 A1 c2 a0_x] [] (fun v D' G' => ∃ (b26 : Nat), v = (.slice (some ⟨b26, 0, none⟩) r.length r.length) ∧ D' = [] ∧ G' = [At b26 0 (r.flatMap E8)]) := by
  unfold slices_Repeat at H
  refine fn_of Tryz.func35 rfl Tryz.ntmps35 rfl ?_
  intro w0 D0 G0
  dsimp only [app, initEnv, Nat.zero_add, Nat.reduceAdd]
  refine s_seq ?_
  refine s_reg [0] rfl ?_
  refine o_run ft [0] rfl rfl ?_
  refine o_nil ?_
  refine q_then ?_
  refine s_seq ?_
  refine s_seq ?_
  refine s_reg [0, 1] rfl ?_
  refine o_run ft [0, 1] rfl rfl ?_
  refine o_nil ?_
  refine q_then ?_
  refine s_cond rfl ?_ ?_
  · intro hb4
    have H := cnd_t H hb4
    refine s_reg [0, 1] rfl ?_
    cases H
  · intro hb4
    have H := cnd_f H hb4
    refine s_skip ?_
    refine q_then ?_
    refine s_seq ?_
    refine s_reg [0, 1, 2, 3, 4, 5, 6, 7, 8, 9, 10] rfl ?_
    refine o_run ft [0] rfl rfl ?_
    refine o_pu rfl (ev_len_slice rfl rfl Tryz.runUnderlying22) (g0 rfl) rfl rfl ?_
    refine o_pu rfl (ev_conv rfl rfl (conv_i_u64 _ Tryz.runUnderlying3 Tryz.runUnderlying55)) (g0 rfl) rfl rfl ?_
    refine o_run ft [3] rfl rfl ?_
    refine o_pu rfl (ev_conv rfl rfl (conv_i_u64 _ Tryz.runUnderlying3 Tryz.runUnderlying55)) (g0 rfl) rfl rfl ?_
    obtain ⟨r5, Hc6, H⟩ := bind_some' H
    refine oc (k_call (c_math_bits_Mul (UInt64.ofInt (a0_x.length : Int)) (UInt64.ofInt a1_count) r5 Hc6) Tryz.call90 rfl rfl rfl [] [] rfl rfl (g0 rfl) rfl rfl ?_)
    rintro _ _ _ ⟨rfl, rfl, rfl⟩
    dsimp only [app]
    refine o_run ft [6, 7, 8, 9, 10] rfl rfl ?_
    refine o_nil ?_
    refine q_then ?_
    refine s_seq ?_
    refine s_seq ?_
    refine s_reg [0, 1, 2, 3, 4, 5] rfl ?_
    refine o_run ft [0] rfl rfl ?_
    refine o_pu rfl (ev_bin rfl rfl rfl rfl (gtr_64 _ 0)) (g0 rfl) rfl rfl ?_
    refine o_run ft [2] rfl rfl ?_
    refine k_name 23 rfl ?_
    intro b7 hb8
    have H := bnd_eq H hb8
    refine o_jb 26 [] [0, 1, 4, 5, 6, 9, 10, 12, 13, 14, 15, 16, 17, 18, 19, 20, 21, 22, 23] H rfl ?_ ?_
    · intro x10 H
      refine o_nil ?_
      refine q_then ?_
      refine s_cond rfl ?_ ?_
      · intro hb12
        have H := cnd_t H hb12
        refine s_reg [0, 1] rfl ?_
        cases H
      · intro hb12
        have H := cnd_f H hb12
        refine s_skip ?_
        refine q_then ?_
        refine s_seq ?_
        refine s_reg [0, 1, 2, 3] rfl ?_
        refine o_run ft [0] rfl rfl ?_
        refine o_pu rfl (ev_conv rfl rfl (conv_u64_i _ Tryz.runUnderlying55 Tryz.runUnderlying3)) (g0 rfl) rfl rfl ?_
        obtain ⟨hk14, H⟩ := chk_some H
        refine oc (k_make (f := E8) (m := (wrap64 (r5.2.toNat : Int))) (0 : UInt8) rfl rfl rfl rfl Tryz.underlying22 info5 rfl rfl rfl rfl rfl hk14 (g0 rfl) rfl rfl ?_)
        intro b13
        refine o_run ft [3] rfl rfl ?_
        refine o_nil ?_
        refine q_then ?_
        refine s_seq ?_
        refine s_reg [0, 1, 2, 3] rfl ?_
        refine o_run ft [0, 1] rfl rfl ?_
        obtain ⟨hk15, H⟩ := chk_some H
        refine oc (k_copy (xs := (List.replicate (wrap64 (r5.2.toNat : Int)).toNat (0 : UInt8))) (j := 0) rfl rfl rfl rfl Tryz.underlying22 info5 rfl E8_len E8_one 0 rfl 0 rfl hk15 (sub_all _) (spl_all (by rw [flatMap_length E8_len, flatMap_length E8_len, cpy_len])) rfl (g0 rfl) rfl rfl ?_)
        refine o_run ft [3] rfl rfl ?_
        refine o_nil ?_
        refine q_then ?_
        refine s_seq ?_
        refine q_join (fun (x17 : List UInt8) (y18 : Unit) => ⟨Sl E8 A1 c2 a0_x :: D0, At b13 0 (x17.flatMap E8) :: G0, [(7, (.slice (some ⟨b13, 0, none⟩) ((wrap64 (r5.2.toNat : Int)).toNat) ((wrap64 (r5.2.toNat : Int)).toNat)))]⟩) H ?_ ?_
        · intro x17 y18 H
          dsimp only
          refine q_then ?_
          refine s_seq ?_
          refine s_reg [0, 1] rfl ?_
          refine o_run ft [0, 1] rfl rfl ?_
          refine o_nil ?_
          refine q_then ?_
          refine s_ret ?_
          obtain ⟨hk19, H⟩ := chk_some H
          refine k_eq (v' := (.slice (some ⟨b13, 0, none⟩) x17.length x17.length)) 4 rfl (by rw [hk19]) ?_
          refine k_eq (v' := (.slice (some ⟨b13, 0, none⟩) x17.length x17.length)) 7 rfl (by rw [hk19]) ?_
          refine k_eq (v' := (.slice (some ⟨b13, 0, none⟩) x17.length x17.length)) 47 rfl (by rw [hk19]) ?_
          cases H
          exact q_end (rs_1 Tryz.results35 (rv_tmp rfl)) ⟨b13, rfl, rfl, rfl⟩ [] rfl 1 rfl [0] rfl 0 rfl
        · intro J16 J16h H
          refine s_block ?_
          refine s_loop (k_wk (loop_ind (fun (s20 : Int × List UInt8) (y20 : Unit) => ⟨Sl E8 A1 c2 a0_x :: D0, At b13 0 (s20.2.flatMap E8) :: G0, [(7, (.slice (some ⟨b13, 0, none⟩) ((wrap64 (r5.2.toNat : Int)).toNat) ((wrap64 (r5.2.toNat : Int)).toNat))), (8, (vi s20.1))]⟩) (slices_Repeat_l0 r5 J16) _ (fun _ => rfl) ?_ Fuel ((min a0_x.length ((wrap64 (r5.2.toNat : Int)).toNat) : Nat), (cpy (List.replicate (wrap64 (r5.2.toNat : Int)).toNat (0 : UInt8)) a0_x)) () H) [7, 8] [0] 1 [0] 0 rfl rfl rfl)
          intro k20 s20 y20 ih H
          dsimp only
          rw [slices_Repeat_l0] at H
          refine s_seq ?_
          refine s_seq ?_
          refine s_reg [0, 1, 2, 3] rfl ?_
          refine o_run ft [0, 1] rfl rfl ?_
          refine o_pu rfl (ev_len_slice rfl rfl Tryz.runUnderlying22) (g0 rfl) rfl rfl ?_
          refine o_run ft [3] rfl rfl ?_
          refine o_nil ?_
          refine q_then ?_
          refine s_cond rfl ?_ ?_
          · intro hb21
            have H := cnd_t H hb21
            refine s_skip ?_
            refine q_then ?_
            refine s_block ?_
            refine s_draw mixed [] ?_
            refine a_run ft [0, 1, 2] rfl (fun _ _ _ _ _ h => h) (by kernel_rfl) rfl ?_
            obtain ⟨hk22, H⟩ := chk_some H
            refine a_p1 3 (by kernel_rfl) rfl (ev_slice_o (kb := .i64) (a := s20.1) (b' := ((wrap64 (r5.2.toNat : Int)).toNat : Int)) rfl rfl Tryz.runUnderlying22 Tryz.sizeOf5 (.inr rfl) (.inl ⟨rfl, rfl⟩) ⟨hk22.1, hk22.2.1, hk22.2.2.1, Nat.le_refl _, hk22.2.2.2⟩ rfl) (fun _ _ _ h => h) (g0 rfl) rfl rfl ?_
            refine a_run ft [4, 5] rfl (fun _ _ _ _ _ h => h) (by kernel_rfl) rfl ?_
            obtain ⟨hk23, H⟩ := chk_some H
            refine a_p1 6 (by kernel_rfl) rfl (ev_slice_o (ka := .i64) (a := (0 : Int)) (b' := s20.1) rfl rfl Tryz.runUnderlying22 Tryz.sizeOf5 (.inl ⟨rfl, rfl⟩) (.inr rfl) ⟨hk23.1, hk23.2.1, hk23.2.2.1, Nat.le_refl _, hk23.2.2.2⟩ rfl) (fun _ _ _ h => h) (g0 rfl) rfl rfl ?_
            refine ac 7 (by kernel_rfl) sl_nil ?_
            obtain ⟨hk24, H⟩ := chk_some H
            obtain ⟨hk25, H⟩ := chk_some H
            refine k_copy2 (xs := (slc s20.2 s20.1 ((wrap64 (r5.2.toNat : Int)).toNat : Int))) (ys := (slc s20.2 (0 : Int) s20.1)) (j := (s20.1.toNat * 1)) rfl rfl rfl rfl Tryz.underlying22 info5 rfl E8_len E8_one 0 rfl (hsG (f := E8) (slc s20.2 (0 : Int) s20.1) 0 rfl (sub_slc E8_len hk24 rfl) rfl) (slc_length _ hk24.1 hk24.2.1 hk24.2.2) (slc_length _ hk25.1 hk25.2.1 hk25.2.2) (sub_slc E8_len hk25 rfl) (spl_slc E8_len _ hk25 rfl) rfl (g0 rfl) rfl rfl ?_
            refine a_run ft [8, 9] rfl (fun _ _ _ _ _ h => h) (by kernel_rfl) rfl ?_
            refine a_done (by kernel_rfl) sl_nil ?_
            refine q_block ?_
            refine q_loop ?_
            exact k_wk (ih ((wrap64 (s20.1 + (min ((s20.1 - (0 : Int)).toNat) ((((wrap64 (r5.2.toNat : Int)).toNat : Int) - s20.1).toNat) : Nat))), (wr s20.2 s20.1 ((wrap64 (r5.2.toNat : Int)).toNat : Int) (slc s20.2 (0 : Int) s20.1))) () H) [7, 8] [0] 1 [0] 0 rfl rfl rfl
          · intro hb21
            have H := cnd_f H hb21
            refine s_exit ?_
            refine q_then_x ?_
            refine q_then_x ?_
            refine q_block_x ?_
            exact k_wk (J16h s20.2 () H) [7] [0] 1 [0] 0 rfl rfl rfl
    · intro J9 J9h H
      cases b7 with
      | true =>
        rw [cond_true] at H
        refine o_gnot rfl rfl rfl rfl rfl rfl rfl rfl ?_
        refine o_gnot rfl rfl rfl rfl rfl rfl rfl rfl ?_
        refine o_run ft [5] rfl rfl ?_
        exact k_wk (J9h true H) [26, 0, 1, 4, 5, 6, 9, 10, 12, 13, 14, 15, 16, 17, 18, 19, 20, 21, 22, 23] [0] 1 [] 0 rfl rfl rfl
      | false =>
        rw [cond_false] at H
        refine o_run ft [3] rfl rfl ?_
        refine o_pu rfl (ev_bin rfl rfl rfl rfl (gtr_64 _ 9223372036854775807)) (g1 rfl rfl rfl rfl) rfl rfl ?_
        refine o_run ft [5] rfl rfl ?_
        exact k_wk (J9h (decide ((9223372036854775807 : UInt64) < (r5.2 : UInt64))) H) [26, 0, 1, 4, 5, 6, 9, 10, 12, 13, 14, 15, 16, 17, 18, 19, 20, 21, 22, 23] [0] 1 [] 0 rfl rfl rfl

def area_Area_Read (a0_a : AreaS) (a1_sector : Int) (a2_at : Int) (a3_n : Int) (fl0 : FlashS) : Option (List UInt8) :=
(area_Area_within a0_a a1_sector a2_at a3_n).bind fun r1 =>
bif (!r1) then (
some []) else (
(nor_Flash_Read fl0 (wrap64 ((wrap64 ((wrap64 (a0_a.from_ + a1_sector)) * 320)) + a2_at)) a3_n).bind fun r4 =>
some r4)

theorem c_area_Area_Read (fp0 : Nat) (a0_ap : Nat) (a0_a : AreaS) (a1_sector : Int) (a2_at : Int) (a3_n : Int) (fl0 : FlashS) (fl0g : FlashG) (r : (List UInt8)) (H : area_Area_Read a0_a a1_sector a2_at a3_n fl0 = some r) : Fn Tryz.prog 83 [(.pointer (some ⟨a0_ap, 0, none⟩)), (vi a1_sector), (vi a2_at), (vi a3_n)] [] [AreaT fp0 () a0_ap a0_a, FlashT fl0g fp0 fl0] (fun v D' G' => ∃ (A8 : Option Addr) (c9 : Nat), v = (.slice A8 r.length c9) ∧ D' = [Sl E8 A8 c9 r] ∧ G' = [Spare A8 r.length c9 1, AreaT fp0 () a0_ap a0_a, FlashT fl0g fp0 fl0]) := by
  unfold area_Area_Read at H
  refine fn_of Tryz.func83 rfl Tryz.ntmps83 rfl ?_
  intro w0 D0 G0
  dsimp only [app, initEnv, Nat.zero_add, Nat.reduceAdd]
  refine s_seq ?_
  refine s_reg [0] rfl ?_
  refine o_run ft [0] rfl rfl ?_
  refine o_nil ?_
  refine q_then ?_
  refine s_seq ?_
  refine s_seq ?_
  refine s_reg [0, 1, 2, 3, 4, 5] rfl ?_
  refine o_run ft [0, 1, 2, 3] rfl rfl ?_
  obtain ⟨r1, Hc2, H⟩ := bind_some' H
  refine oc (k_call (c_area_Area_within fp0 a0_ap a0_a a1_sector a2_at a3_n r1 Hc2) Tryz.call150 rfl rfl rfl [] [0] rfl rfl (g0 rfl) rfl rfl ?_)
  rintro _ _ _ ⟨rfl, rfl, rfl⟩
  dsimp only [app]
  refine o_run ft [5] rfl rfl ?_
  refine o_nil ?_
  refine q_then ?_
  refine s_cond rfl ?_ ?_
  · intro hb3
    have H := cnd_t H hb3
    refine s_seq ?_
    refine s_reg [0] rfl ?_
    refine o_run ft [0] rfl rfl ?_
    refine o_nil ?_
    refine q_then ?_
    refine s_ret ?_
    refine q_then_r ?_
    cases H
    refine k_nil_sl E8 ?_
    refine k_nil_spare 1 ?_
    exact q_end (rs_1 Tryz.results83 (rv_tmp rfl)) ⟨none, 0, rfl, rfl, rfl⟩ [0] rfl 1 rfl [0, 0, 0] rfl 0 rfl
  · intro hb3
    have H := cnd_f H hb3
    refine s_skip ?_
    refine q_then ?_
    refine s_seq ?_
    refine k_unp 0 rfl ?_
    dsimp only [app, del]
    refine s_draw mixed [(3, [14], Has a0_ap 0 [.pointer (some ⟨fp0, 0, none⟩), vi a0_a.from_, vi a0_a.len, vi a0_a.budget]), (7, [], Has a0_ap 0 [.pointer (some ⟨fp0, 0, none⟩), vi a0_a.from_, vi a0_a.len, vi a0_a.budget])] ?_
    refine a_run ft [0, 1, 2] rfl (fun _ _ _ _ _ h => h) (by kernel_rfl) rfl ?_
    refine a_l1 3 0 rfl (by kernel_rfl) rfl (ev_ld1 (j := 0) rfl rfl Tryz.isAgg29 (sub_nth (j := 0) rfl) rfl) (fun _ _ _ h => h) (g0 rfl) rfl rfl ?_
    refine a_run ft [4, 5, 6] rfl (fun _ _ _ _ _ h => h) (by kernel_rfl) rfl ?_
    refine a_l1 7 1 rfl (by kernel_rfl) rfl (ev_ld1 (j := 1) rfl rfl Tryz.isAgg3 (sub_nth (j := 1) rfl) rfl) (fun _ _ _ h => h) (g0 rfl) rfl rfl ?_
    refine a_run ft [8, 9, 10, 11, 12, 13] rfl (fun _ _ _ _ _ h => h) (by kernel_rfl) rfl ?_
    refine ac 14 (by kernel_rfl) (sl_cons (hG 0 rfl) (sl_cons (hG 0 rfl) sl_nil)) ?_
    obtain ⟨r4, Hc5, H⟩ := bind_some' H
    refine k_call (c_nor_Flash_Read fp0 fl0 fl0g (wrap64 ((wrap64 ((wrap64 (a0_a.from_ + a1_sector)) * 320)) + a2_at)) a3_n r4 Hc5) Tryz.call151 rfl rfl rfl [] [1] rfl rfl (g0 rfl) rfl rfl ?_
    rintro _ _ _ ⟨A6, c7, rfl, rfl, rfl⟩
    dsimp only [app]
    refine a_run ft [15] rfl (fun _ _ _ _ _ h => h) (by kernel_rfl) rfl ?_
    refine a_done (by kernel_rfl) (sl_end (by kernel_rfl) (sl_cons (hG 2 rfl) sl_nil)) ?_
    refine q_then ?_
    refine s_ret ?_
    refine k_pk (AreaT fp0 () a0_ap a0_a) rfl [] [2] rfl rfl ?_
    cases H
    exact q_end (rs_1 Tryz.results83 (rv_tmp rfl)) ⟨A6, c7, rfl, rfl, rfl⟩ [0] rfl 1 rfl [1, 0, 0] rfl 0 rfl

def caps_Right (a0_c : Config) : Option Bool :=
(names_Valid a0_c.Name).bind fun r6 =>
bnd r6 fun b8 =>
jn (fun x11 =>
bnd x11 fun b12 =>
jn (fun x15 =>
bnd x15 fun b16 =>
jn (fun x19 =>
bnd x19 fun b20 =>
jn (fun x23 =>
bnd x23 fun b24 =>
jn (fun x27 =>
bnd x27 fun b28 =>
jn (fun x31 =>
bnd x31 fun b32 =>
jn (fun x35 =>
bnd x35 fun b36 =>
jn (fun x39 =>
bnd x39 fun b40 =>
jn (fun x43 =>
bnd x43 fun b44 =>
jn (fun x47 =>
bnd x47 fun b48 =>
jn (fun x51 =>
bnd x51 fun b52 =>
jn (fun x55 =>
some x55) fun J54 =>
bif b52 then (
J54 (decide ((a0_c.First.length : Int) ≤ (wrap64 (a0_c.Quota * 320))))) else
J54 false) fun J50 =>
bif b48 then (
J50 (decide ((a0_c.First.length : Int) ≥ 1))) else
J50 false) fun J46 =>
bif b44 then (
J46 (decide (a0_c.Rights ≤ 1023))) else
J46 false) fun J42 =>
bif b40 then (
J42 (decide (a0_c.Rights ≥ 0))) else
J42 false) fun J38 =>
bif b36 then (
J38 (decide (a0_c.Quota ≤ a0_c.Slot))) else
J38 false) fun J34 =>
bif b32 then (
J34 (decide (a0_c.Quota ≥ 1))) else
J34 false) fun J30 =>
bif b28 then (
J30 (decide (a0_c.Budget ≤ 1000))) else
J30 false) fun J26 =>
bif b24 then (
J26 (decide (a0_c.Budget ≥ 0))) else
J26 false) fun J22 =>
bif b20 then (
J22 (decide (a0_c.Slot ≤ 6))) else
J22 false) fun J18 =>
bif b16 then (
J18 (decide (a0_c.Slot ≥ 1))) else
J18 false) fun J14 =>
bif b12 then (
J14 (decide ((a0_c.Key.length : Int) ≤ 64))) else
J14 false) fun J10 =>
bif b8 then (
J10 (decide ((a0_c.Key.length : Int) ≥ 1))) else
J10 false

theorem c_caps_Right (a0_c : Config) (A1 : Option Addr) (c2 : Nat) (A3 : Option Addr) (c4 : Nat) (r : Bool) (H : caps_Right a0_c = some r) : Fn Tryz.prog 91 [(.agg ([vs a0_c.Name, .slice A1 a0_c.Key.length c2, vi a0_c.Slot, vi a0_c.Budget, vi a0_c.Quota, vi a0_c.Rights, .slice A3 a0_c.First.length c4]).toArray)] [Sl E8 A3 c4 a0_c.First, Sl E8 A1 c2 a0_c.Key] [] (fun v D' G' => v = (vb r) ∧ D' = [] ∧ G' = []) := by
  unfold caps_Right at H
  refine fn_of Tryz.func91 rfl Tryz.ntmps91 rfl ?_
  intro w0 D0 G0
  dsimp only [app, initEnv, Nat.zero_add, Nat.reduceAdd]
  refine s_seq ?_
  refine s_reg [0, 1] rfl ?_
  refine oc (k_box rfl rfl rfl (cs := [vs a0_c.Name, .slice A1 a0_c.Key.length c2, vi a0_c.Slot, vi a0_c.Budget, vi a0_c.Quota, vi a0_c.Rights, .slice A3 a0_c.First.length c4]) rfl (g0 rfl) rfl rfl ?_)
  intro b5
  refine o_run ft [1] rfl rfl ?_
  refine o_nil ?_
  refine q_then ?_
  refine s_seq ?_
  refine s_reg [0, 1, 2, 3, 4, 5, 6, 7, 8, 9, 10, 11, 12, 13, 14, 15, 16, 17, 18, 19, 20, 21, 22, 23, 24, 25, 26, 27, 28, 29, 30, 31, 32, 33, 34, 35, 36, 37, 38, 39, 40, 41, 42, 43, 44, 45, 46, 47, 48, 49, 50, 51, 52, 53, 54, 55, 56, 57, 58, 59, 60, 61, 62, 63, 64, 65, 66, 67, 68, 69, 70, 71, 72] rfl ?_
  refine o_run ft [0] rfl rfl ?_
  refine o_ld (hG 0 rfl) rfl (ev_ld1 (j := 0) rfl rfl Tryz.isAgg9 (sub_nth (j := 0) rfl) rfl) (g0 rfl) rfl rfl ?_
  obtain ⟨r6, Hc7, H⟩ := bind_some' H
  refine oc (k_call (c_names_Valid a0_c.Name r6 Hc7) Tryz.call157 rfl rfl rfl [] [] rfl rfl (g0 rfl) rfl rfl ?_)
  rintro _ _ _ ⟨rfl, rfl, rfl⟩
  dsimp only [app]
  refine o_run ft [3] rfl rfl ?_
  refine k_name 6 rfl ?_
  intro b8 hb9
  have H := bnd_eq H hb9
  refine o_jb 11 [9, 10, 11, 12, 13, 14, 15, 16, 17, 18, 19, 20, 21, 22, 23, 24, 25, 26, 27, 28, 29, 30, 31, 32, 33, 34, 35, 36, 37, 38, 39, 40, 41, 42, 43, 44, 45, 46, 47, 48, 49, 50, 51, 52, 53, 54, 55, 56, 57, 58, 59, 60, 61, 62, 63, 64, 65, 66, 67, 68, 69, 70, 71, 72] [0, 1, 2, 3, 4, 5, 6] H rfl ?_ ?_
  · intro x11 H
    refine o_run ft [9] rfl rfl ?_
    refine k_name 12 rfl ?_
    intro b12 hb13
    have H := bnd_eq H hb13
    refine o_jb 17 [15, 16, 17, 18, 19, 20, 21, 22, 23, 24, 25, 26, 27, 28, 29, 30, 31, 32, 33, 34, 35, 36, 37, 38, 39, 40, 41, 42, 43, 44, 45, 46, 47, 48, 49, 50, 51, 52, 53, 54, 55, 56, 57, 58, 59, 60, 61, 62, 63, 64, 65, 66, 67, 68, 69, 70, 71, 72] [0, 1, 2, 3, 4, 5, 6, 11, 12] H rfl ?_ ?_
    · intro x15 H
      refine o_run ft [15] rfl rfl ?_
      refine k_name 18 rfl ?_
      intro b16 hb17
      have H := bnd_eq H hb17
      refine o_jb 22 [20, 21, 22, 23, 24, 25, 26, 27, 28, 29, 30, 31, 32, 33, 34, 35, 36, 37, 38, 39, 40, 41, 42, 43, 44, 45, 46, 47, 48, 49, 50, 51, 52, 53, 54, 55, 56, 57, 58, 59, 60, 61, 62, 63, 64, 65, 66, 67, 68, 69, 70, 71, 72] [0, 1, 2, 3, 4, 5, 6, 11, 12, 17, 18] H rfl ?_ ?_
      · intro x19 H
        refine o_run ft [20] rfl rfl ?_
        refine k_name 23 rfl ?_
        intro b20 hb21
        have H := bnd_eq H hb21
        refine o_jb 27 [25, 26, 27, 28, 29, 30, 31, 32, 33, 34, 35, 36, 37, 38, 39, 40, 41, 42, 43, 44, 45, 46, 47, 48, 49, 50, 51, 52, 53, 54, 55, 56, 57, 58, 59, 60, 61, 62, 63, 64, 65, 66, 67, 68, 69, 70, 71, 72] [0, 1, 2, 3, 4, 5, 6, 11, 12, 17, 18, 22, 23] H rfl ?_ ?_
        · intro x23 H
          refine o_run ft [25] rfl rfl ?_
          refine k_name 28 rfl ?_
          intro b24 hb25
          have H := bnd_eq H hb25
          refine o_jb 32 [30, 31, 32, 33, 34, 35, 36, 37, 38, 39, 40, 41, 42, 43, 44, 45, 46, 47, 48, 49, 50, 51, 52, 53, 54, 55, 56, 57, 58, 59, 60, 61, 62, 63, 64, 65, 66, 67, 68, 69, 70, 71, 72] [0, 1, 2, 3, 4, 5, 6, 11, 12, 17, 18, 22, 23, 27, 28] H rfl ?_ ?_
          · intro x27 H
            refine o_run ft [30] rfl rfl ?_
            refine k_name 33 rfl ?_
            intro b28 hb29
            have H := bnd_eq H hb29
            refine o_jb 37 [35, 36, 37, 38, 39, 40, 41, 42, 43, 44, 45, 46, 47, 48, 49, 50, 51, 52, 53, 54, 55, 56, 57, 58, 59, 60, 61, 62, 63, 64, 65, 66, 67, 68, 69, 70, 71, 72] [0, 1, 2, 3, 4, 5, 6, 11, 12, 17, 18, 22, 23, 27, 28, 32, 33] H rfl ?_ ?_
            · intro x31 H
              refine o_run ft [35] rfl rfl ?_
              refine k_name 38 rfl ?_
              intro b32 hb33
              have H := bnd_eq H hb33
              refine o_jb 42 [40, 41, 42, 43, 44, 45, 46, 47, 48, 49, 50, 51, 52, 53, 54, 55, 56, 57, 58, 59, 60, 61, 62, 63, 64, 65, 66, 67, 68, 69, 70, 71, 72] [0, 1, 2, 3, 4, 5, 6, 11, 12, 17, 18, 22, 23, 27, 28, 32, 33, 37, 38] H rfl ?_ ?_
              · intro x35 H
                refine o_run ft [40] rfl rfl ?_
                refine k_name 43 rfl ?_
                intro b36 hb37
                have H := bnd_eq H hb37
                refine o_jb 49 [47, 48, 49, 50, 51, 52, 53, 54, 55, 56, 57, 58, 59, 60, 61, 62, 63, 64, 65, 66, 67, 68, 69, 70, 71, 72] [0, 1, 2, 3, 4, 5, 6, 11, 12, 17, 18, 22, 23, 27, 28, 32, 33, 37, 38, 42, 43] H rfl ?_ ?_
                · intro x39 H
                  refine o_run ft [47] rfl rfl ?_
                  refine k_name 50 rfl ?_
                  intro b40 hb41
                  have H := bnd_eq H hb41
                  refine o_jb 54 [52, 53, 54, 55, 56, 57, 58, 59, 60, 61, 62, 63, 64, 65, 66, 67, 68, 69, 70, 71, 72] [0, 1, 2, 3, 4, 5, 6, 11, 12, 17, 18, 22, 23, 27, 28, 32, 33, 37, 38, 42, 43, 49, 50] H rfl ?_ ?_
                  · intro x43 H
                    refine o_run ft [52] rfl rfl ?_
                    refine k_name 55 rfl ?_
                    intro b44 hb45
                    have H := bnd_eq H hb45
                    refine o_jb 59 [57, 58, 59, 60, 61, 62, 63, 64, 65, 66, 67, 68, 69, 70, 71, 72] [0, 1, 2, 3, 4, 5, 6, 11, 12, 17, 18, 22, 23, 27, 28, 32, 33, 37, 38, 42, 43, 49, 50, 54, 55] H rfl ?_ ?_
                    · intro x47 H
                      refine o_run ft [57] rfl rfl ?_
                      refine k_name 60 rfl ?_
                      intro b48 hb49
                      have H := bnd_eq H hb49
                      refine o_jb 65 [63, 64, 65, 66, 67, 68, 69, 70, 71, 72] [0, 1, 2, 3, 4, 5, 6, 11, 12, 17, 18, 22, 23, 27, 28, 32, 33, 37, 38, 42, 43, 49, 50, 54, 55, 59, 60] H rfl ?_ ?_
                      · intro x51 H
                        refine o_run ft [63] rfl rfl ?_
                        refine k_name 66 rfl ?_
                        intro b52 hb53
                        have H := bnd_eq H hb53
                        refine o_jb 74 [72] [0, 1, 2, 3, 4, 5, 6, 11, 12, 17, 18, 22, 23, 27, 28, 32, 33, 37, 38, 42, 43, 49, 50, 54, 55, 59, 60, 65, 66] H rfl ?_ ?_
                        · intro x55 H
                          refine o_run ft [72] rfl rfl ?_
                          refine o_nil ?_
                          refine q_then ?_
                          refine s_ret ?_
                          cases H
                          exact q_end (rs_1 Tryz.results91 (rv_tmp rfl)) ⟨rfl, rfl, rfl⟩ [] rfl 2 rfl [] rfl 1 rfl
                        · intro J54 J54h H
                          cases b52 with
                          | true =>
                            rw [cond_true] at H
                            refine o_run ft [64] rfl rfl ?_
                            refine o_ld (hG 0 rfl) rfl (ev_ld1 (j := 6) rfl rfl Tryz.isAgg22 (sub_nth (j := 6) rfl) rfl) (g1 rfl rfl rfl rfl) rfl rfl ?_
                            refine o_pu rfl (ev_len_slice rfl rfl Tryz.runUnderlying22) (g1 rfl rfl rfl rfl) rfl rfl ?_
                            refine o_run ft [67] rfl rfl ?_
                            refine o_ld (hG 0 rfl) rfl (ev_ld1 (j := 4) rfl rfl Tryz.isAgg3 (sub_nth (j := 4) rfl) rfl) (g1 rfl rfl rfl rfl) rfl rfl ?_
                            refine o_run ft [69, 70, 71] rfl rfl ?_
                            exact k_wk (J54h (decide ((a0_c.First.length : Int) ≤ (wrap64 (a0_c.Quota * 320)))) H) [74, 0, 1, 2, 3, 4, 5, 6, 11, 12, 17, 18, 22, 23, 27, 28, 32, 33, 37, 38, 42, 43, 49, 50, 54, 55, 59, 60, 65, 66] [0, 1] 2 [0] 0 rfl rfl rfl
                          | false =>
                            rw [cond_false] at H
                            refine o_gnot rfl rfl rfl rfl rfl rfl rfl rfl ?_
                            refine o_gnot rfl rfl rfl rfl rfl rfl rfl rfl ?_
                            refine o_gnot rfl rfl rfl rfl rfl rfl rfl rfl ?_
                            refine o_gnot rfl rfl rfl rfl rfl rfl rfl rfl ?_
                            refine o_gnot rfl rfl rfl rfl rfl rfl rfl rfl ?_
                            refine o_gnot rfl rfl rfl rfl rfl rfl rfl rfl ?_
                            refine o_gnot rfl rfl rfl rfl rfl rfl rfl rfl ?_
                            refine o_run ft [71] rfl rfl ?_
                            exact k_wk (J54h false H) [74, 0, 1, 2, 3, 4, 5, 6, 11, 12, 17, 18, 22, 23, 27, 28, 32, 33, 37, 38, 42, 43, 49, 50, 54, 55, 59, 60, 65, 66] [0, 1] 2 [0] 0 rfl rfl rfl
                      · intro J50 J50h H
                        cases b48 with
                        | true =>
                          rw [cond_true] at H
                          refine o_run ft [58] rfl rfl ?_
                          refine o_ld (hG 0 rfl) rfl (ev_ld1 (j := 6) rfl rfl Tryz.isAgg22 (sub_nth (j := 6) rfl) rfl) (g1 rfl rfl rfl rfl) rfl rfl ?_
                          refine o_pu rfl (ev_len_slice rfl rfl Tryz.runUnderlying22) (g1 rfl rfl rfl rfl) rfl rfl ?_
                          refine o_run ft [61, 62] rfl rfl ?_
                          exact k_wk (J50h (decide ((a0_c.First.length : Int) ≥ 1)) H) [65, 0, 1, 2, 3, 4, 5, 6, 11, 12, 17, 18, 22, 23, 27, 28, 32, 33, 37, 38, 42, 43, 49, 50, 54, 55, 59, 60] [0, 1] 2 [0] 0 rfl rfl rfl
                        | false =>
                          rw [cond_false] at H
                          refine o_gnot rfl rfl rfl rfl rfl rfl rfl rfl ?_
                          refine o_gnot rfl rfl rfl rfl rfl rfl rfl rfl ?_
                          refine o_gnot rfl rfl rfl rfl rfl rfl rfl rfl ?_
                          refine o_gnot rfl rfl rfl rfl rfl rfl rfl rfl ?_
                          refine o_run ft [62] rfl rfl ?_
                          exact k_wk (J50h false H) [65, 0, 1, 2, 3, 4, 5, 6, 11, 12, 17, 18, 22, 23, 27, 28, 32, 33, 37, 38, 42, 43, 49, 50, 54, 55, 59, 60] [0, 1] 2 [0] 0 rfl rfl rfl
                    · intro J46 J46h H
                      cases b44 with
                      | true =>
                        rw [cond_true] at H
                        refine o_run ft [53] rfl rfl ?_
                        refine o_ld (hG 0 rfl) rfl (ev_ld1 (j := 5) rfl rfl Tryz.isAgg3 (sub_nth (j := 5) rfl) rfl) (g1 rfl rfl rfl rfl) rfl rfl ?_
                        refine o_run ft [55, 56] rfl rfl ?_
                        exact k_wk (J46h (decide (a0_c.Rights ≤ 1023)) H) [59, 0, 1, 2, 3, 4, 5, 6, 11, 12, 17, 18, 22, 23, 27, 28, 32, 33, 37, 38, 42, 43, 49, 50, 54, 55] [0, 1] 2 [0] 0 rfl rfl rfl
                      | false =>
                        rw [cond_false] at H
                        refine o_gnot rfl rfl rfl rfl rfl rfl rfl rfl ?_
                        refine o_gnot rfl rfl rfl rfl rfl rfl rfl rfl ?_
                        refine o_gnot rfl rfl rfl rfl rfl rfl rfl rfl ?_
                        refine o_run ft [56] rfl rfl ?_
                        exact k_wk (J46h false H) [59, 0, 1, 2, 3, 4, 5, 6, 11, 12, 17, 18, 22, 23, 27, 28, 32, 33, 37, 38, 42, 43, 49, 50, 54, 55] [0, 1] 2 [0] 0 rfl rfl rfl
                  · intro J42 J42h H
                    cases b40 with
                    | true =>
                      rw [cond_true] at H
                      refine o_run ft [48] rfl rfl ?_
                      refine o_ld (hG 0 rfl) rfl (ev_ld1 (j := 5) rfl rfl Tryz.isAgg3 (sub_nth (j := 5) rfl) rfl) (g1 rfl rfl rfl rfl) rfl rfl ?_
                      refine o_run ft [50, 51] rfl rfl ?_
                      exact k_wk (J42h (decide (a0_c.Rights ≥ 0)) H) [54, 0, 1, 2, 3, 4, 5, 6, 11, 12, 17, 18, 22, 23, 27, 28, 32, 33, 37, 38, 42, 43, 49, 50] [0, 1] 2 [0] 0 rfl rfl rfl
                    | false =>
                      rw [cond_false] at H
                      refine o_gnot rfl rfl rfl rfl rfl rfl rfl rfl ?_
                      refine o_gnot rfl rfl rfl rfl rfl rfl rfl rfl ?_
                      refine o_gnot rfl rfl rfl rfl rfl rfl rfl rfl ?_
                      refine o_run ft [51] rfl rfl ?_
                      exact k_wk (J42h false H) [54, 0, 1, 2, 3, 4, 5, 6, 11, 12, 17, 18, 22, 23, 27, 28, 32, 33, 37, 38, 42, 43, 49, 50] [0, 1] 2 [0] 0 rfl rfl rfl
                · intro J38 J38h H
                  cases b36 with
                  | true =>
                    rw [cond_true] at H
                    refine o_run ft [41] rfl rfl ?_
                    refine o_ld (hG 0 rfl) rfl (ev_ld1 (j := 4) rfl rfl Tryz.isAgg3 (sub_nth (j := 4) rfl) rfl) (g1 rfl rfl rfl rfl) rfl rfl ?_
                    refine o_run ft [43] rfl rfl ?_
                    refine o_ld (hG 0 rfl) rfl (ev_ld1 (j := 2) rfl rfl Tryz.isAgg3 (sub_nth (j := 2) rfl) rfl) (g1 rfl rfl rfl rfl) rfl rfl ?_
                    refine o_run ft [45, 46] rfl rfl ?_
                    exact k_wk (J38h (decide (a0_c.Quota ≤ a0_c.Slot)) H) [49, 0, 1, 2, 3, 4, 5, 6, 11, 12, 17, 18, 22, 23, 27, 28, 32, 33, 37, 38, 42, 43] [0, 1] 2 [0] 0 rfl rfl rfl
                  | false =>
                    rw [cond_false] at H
                    refine o_gnot rfl rfl rfl rfl rfl rfl rfl rfl ?_
                    refine o_gnot rfl rfl rfl rfl rfl rfl rfl rfl ?_
                    refine o_gnot rfl rfl rfl rfl rfl rfl rfl rfl ?_
                    refine o_gnot rfl rfl rfl rfl rfl rfl rfl rfl ?_
                    refine o_gnot rfl rfl rfl rfl rfl rfl rfl rfl ?_
                    refine o_run ft [46] rfl rfl ?_
                    exact k_wk (J38h false H) [49, 0, 1, 2, 3, 4, 5, 6, 11, 12, 17, 18, 22, 23, 27, 28, 32, 33, 37, 38, 42, 43] [0, 1] 2 [0] 0 rfl rfl rfl
              · intro J34 J34h H
                cases b32 with
                | true =>
                  rw [cond_true] at H
                  refine o_run ft [36] rfl rfl ?_
                  refine o_ld (hG 0 rfl) rfl (ev_ld1 (j := 4) rfl rfl Tryz.isAgg3 (sub_nth (j := 4) rfl) rfl) (g1 rfl rfl rfl rfl) rfl rfl ?_
                  refine o_run ft [38, 39] rfl rfl ?_
                  exact k_wk (J34h (decide (a0_c.Quota ≥ 1)) H) [42, 0, 1, 2, 3, 4, 5, 6, 11, 12, 17, 18, 22, 23, 27, 28, 32, 33, 37, 38] [0, 1] 2 [0] 0 rfl rfl rfl
                | false =>
                  rw [cond_false] at H
                  refine o_gnot rfl rfl rfl rfl rfl rfl rfl rfl ?_
                  refine o_gnot rfl rfl rfl rfl rfl rfl rfl rfl ?_
                  refine o_gnot rfl rfl rfl rfl rfl rfl rfl rfl ?_
                  refine o_run ft [39] rfl rfl ?_
                  exact k_wk (J34h false H) [42, 0, 1, 2, 3, 4, 5, 6, 11, 12, 17, 18, 22, 23, 27, 28, 32, 33, 37, 38] [0, 1] 2 [0] 0 rfl rfl rfl
            · intro J30 J30h H
              cases b28 with
              | true =>
                rw [cond_true] at H
                refine o_run ft [31] rfl rfl ?_
                refine o_ld (hG 0 rfl) rfl (ev_ld1 (j := 3) rfl rfl Tryz.isAgg3 (sub_nth (j := 3) rfl) rfl) (g1 rfl rfl rfl rfl) rfl rfl ?_
                refine o_run ft [33, 34] rfl rfl ?_
                exact k_wk (J30h (decide (a0_c.Budget ≤ 1000)) H) [37, 0, 1, 2, 3, 4, 5, 6, 11, 12, 17, 18, 22, 23, 27, 28, 32, 33] [0, 1] 2 [0] 0 rfl rfl rfl
              | false =>
                rw [cond_false] at H
                refine o_gnot rfl rfl rfl rfl rfl rfl rfl rfl ?_
                refine o_gnot rfl rfl rfl rfl rfl rfl rfl rfl ?_
                refine o_gnot rfl rfl rfl rfl rfl rfl rfl rfl ?_
                refine o_run ft [34] rfl rfl ?_
                exact k_wk (J30h false H) [37, 0, 1, 2, 3, 4, 5, 6, 11, 12, 17, 18, 22, 23, 27, 28, 32, 33] [0, 1] 2 [0] 0 rfl rfl rfl
          · intro J26 J26h H
            cases b24 with
            | true =>
              rw [cond_true] at H
              refine o_run ft [26] rfl rfl ?_
              refine o_ld (hG 0 rfl) rfl (ev_ld1 (j := 3) rfl rfl Tryz.isAgg3 (sub_nth (j := 3) rfl) rfl) (g1 rfl rfl rfl rfl) rfl rfl ?_
              refine o_run ft [28, 29] rfl rfl ?_
              exact k_wk (J26h (decide (a0_c.Budget ≥ 0)) H) [32, 0, 1, 2, 3, 4, 5, 6, 11, 12, 17, 18, 22, 23, 27, 28] [0, 1] 2 [0] 0 rfl rfl rfl
            | false =>
              rw [cond_false] at H
              refine o_gnot rfl rfl rfl rfl rfl rfl rfl rfl ?_
              refine o_gnot rfl rfl rfl rfl rfl rfl rfl rfl ?_
              refine o_gnot rfl rfl rfl rfl rfl rfl rfl rfl ?_
              refine o_run ft [29] rfl rfl ?_
              exact k_wk (J26h false H) [32, 0, 1, 2, 3, 4, 5, 6, 11, 12, 17, 18, 22, 23, 27, 28] [0, 1] 2 [0] 0 rfl rfl rfl
        · intro J22 J22h H
          cases b20 with
          | true =>
            rw [cond_true] at H
            refine o_run ft [21] rfl rfl ?_
            refine o_ld (hG 0 rfl) rfl (ev_ld1 (j := 2) rfl rfl Tryz.isAgg3 (sub_nth (j := 2) rfl) rfl) (g1 rfl rfl rfl rfl) rfl rfl ?_
            refine o_run ft [23, 24] rfl rfl ?_
            exact k_wk (J22h (decide (a0_c.Slot ≤ 6)) H) [27, 0, 1, 2, 3, 4, 5, 6, 11, 12, 17, 18, 22, 23] [0, 1] 2 [0] 0 rfl rfl rfl
          | false =>
            rw [cond_false] at H
            refine o_gnot rfl rfl rfl rfl rfl rfl rfl rfl ?_
            refine o_gnot rfl rfl rfl rfl rfl rfl rfl rfl ?_
            refine o_gnot rfl rfl rfl rfl rfl rfl rfl rfl ?_
            refine o_run ft [24] rfl rfl ?_
            exact k_wk (J22h false H) [27, 0, 1, 2, 3, 4, 5, 6, 11, 12, 17, 18, 22, 23] [0, 1] 2 [0] 0 rfl rfl rfl
      · intro J18 J18h H
        cases b16 with
        | true =>
          rw [cond_true] at H
          refine o_run ft [16] rfl rfl ?_
          refine o_ld (hG 0 rfl) rfl (ev_ld1 (j := 2) rfl rfl Tryz.isAgg3 (sub_nth (j := 2) rfl) rfl) (g1 rfl rfl rfl rfl) rfl rfl ?_
          refine o_run ft [18, 19] rfl rfl ?_
          exact k_wk (J18h (decide (a0_c.Slot ≥ 1)) H) [22, 0, 1, 2, 3, 4, 5, 6, 11, 12, 17, 18] [0, 1] 2 [0] 0 rfl rfl rfl
        | false =>
          rw [cond_false] at H
          refine o_gnot rfl rfl rfl rfl rfl rfl rfl rfl ?_
          refine o_gnot rfl rfl rfl rfl rfl rfl rfl rfl ?_
          refine o_gnot rfl rfl rfl rfl rfl rfl rfl rfl ?_
          refine o_run ft [19] rfl rfl ?_
          exact k_wk (J18h false H) [22, 0, 1, 2, 3, 4, 5, 6, 11, 12, 17, 18] [0, 1] 2 [0] 0 rfl rfl rfl
    · intro J14 J14h H
      cases b12 with
      | true =>
        rw [cond_true] at H
        refine o_run ft [10] rfl rfl ?_
        refine o_ld (hG 0 rfl) rfl (ev_ld1 (j := 1) rfl rfl Tryz.isAgg22 (sub_nth (j := 1) rfl) rfl) (g1 rfl rfl rfl rfl) rfl rfl ?_
        refine o_pu rfl (ev_len_slice rfl rfl Tryz.runUnderlying22) (g1 rfl rfl rfl rfl) rfl rfl ?_
        refine o_run ft [13, 14] rfl rfl ?_
        exact k_wk (J14h (decide ((a0_c.Key.length : Int) ≤ 64)) H) [17, 0, 1, 2, 3, 4, 5, 6, 11, 12] [0, 1] 2 [0] 0 rfl rfl rfl
      | false =>
        rw [cond_false] at H
        refine o_gnot rfl rfl rfl rfl rfl rfl rfl rfl ?_
        refine o_gnot rfl rfl rfl rfl rfl rfl rfl rfl ?_
        refine o_gnot rfl rfl rfl rfl rfl rfl rfl rfl ?_
        refine o_gnot rfl rfl rfl rfl rfl rfl rfl rfl ?_
        refine o_run ft [14] rfl rfl ?_
        exact k_wk (J14h false H) [17, 0, 1, 2, 3, 4, 5, 6, 11, 12] [0, 1] 2 [0] 0 rfl rfl rfl
  · intro J10 J10h H
    cases b8 with
    | true =>
      rw [cond_true] at H
      refine o_run ft [4] rfl rfl ?_
      refine o_ld (hG 0 rfl) rfl (ev_ld1 (j := 1) rfl rfl Tryz.isAgg22 (sub_nth (j := 1) rfl) rfl) (g1 rfl rfl rfl rfl) rfl rfl ?_
      refine o_pu rfl (ev_len_slice rfl rfl Tryz.runUnderlying22) (g1 rfl rfl rfl rfl) rfl rfl ?_
      refine o_run ft [7, 8] rfl rfl ?_
      exact k_wk (J10h (decide ((a0_c.Key.length : Int) ≥ 1)) H) [11, 0, 1, 2, 3, 4, 5, 6] [0, 1] 2 [0] 0 rfl rfl rfl
    | false =>
      rw [cond_false] at H
      refine o_gnot rfl rfl rfl rfl rfl rfl rfl rfl ?_
      refine o_gnot rfl rfl rfl rfl rfl rfl rfl rfl ?_
      refine o_gnot rfl rfl rfl rfl rfl rfl rfl rfl ?_
      refine o_gnot rfl rfl rfl rfl rfl rfl rfl rfl ?_
      refine o_run ft [8] rfl rfl ?_
      exact k_wk (J10h false H) [11, 0, 1, 2, 3, 4, 5, 6] [0, 1] 2 [0] 0 rfl rfl rfl

def area_Area_Blank (a0_a : AreaS) (a1_sector : Int) (fl0 : FlashS) : Option Bool :=
jn (fun (x2 : Bool) =>
some x2) fun J1 =>
(area_Area_is a0_a a1_sector).bind fun r4 =>
bnd r4 fun b6 =>
bif b6 then (
(nor_Flash_Blank fl0 (wrap64 (a0_a.from_ + a1_sector))).bind fun r8 =>
J1 r8) else (
J1 false)

theorem c_area_Area_Blank (fp0 : Nat) (a0_ap : Nat) (a0_a : AreaS) (a1_sector : Int) (fl0 : FlashS) (fl0g : FlashG) (r : Bool) (H : area_Area_Blank a0_a a1_sector fl0 = some r) : Fn Tryz.prog 95 [(.pointer (some ⟨a0_ap, 0, none⟩)), (vi a1_sector)] [] [AreaT fp0 () a0_ap a0_a, FlashT fl0g fp0 fl0] (fun v D' G' => v = (vb r) ∧ D' = [] ∧ G' = [AreaT fp0 () a0_ap a0_a, FlashT fl0g fp0 fl0]) := by
  unfold area_Area_Blank at H
  refine fn_of Tryz.func95 rfl Tryz.ntmps95 rfl ?_
  intro w0 D0 G0
  dsimp only [app, initEnv, Nat.zero_add, Nat.reduceAdd]
  refine s_seq ?_
  refine s_reg [0] rfl ?_
  refine o_run ft [0] rfl rfl ?_
  refine o_nil ?_
  refine q_then ?_
  refine s_seq ?_
  refine q_join (fun (x2 : Bool) (y3 : Unit) => ⟨D0, AreaT fp0 () a0_ap a0_a :: FlashT fl0g fp0 fl0 :: G0, [(4, (vb x2))]⟩) H ?_ ?_
  · intro x2 y3 H
    dsimp only
    refine q_then ?_
    refine s_ret ?_
    cases H
    exact q_end (rs_1 Tryz.results95 (rv_tmp rfl)) ⟨rfl, rfl, rfl⟩ [] rfl 0 rfl [0, 0] rfl 0 rfl
  · intro J1 J1h H
    refine k_unp 0 rfl ?_
    dsimp only [app, del]
    refine s_draw mixed [(7, [], Has a0_ap 0 [.pointer (some ⟨fp0, 0, none⟩), vi a0_a.from_, vi a0_a.len, vi a0_a.budget]), (11, [], Has a0_ap 0 [.pointer (some ⟨fp0, 0, none⟩), vi a0_a.from_, vi a0_a.len, vi a0_a.budget])] ?_
    refine a_run ft [0, 1] rfl (fun _ _ _ _ _ h => h) (by kernel_rfl) rfl ?_
    refine ac 2 (by kernel_rfl) (sl_cons (hG 0 rfl) (sl_cons (hG 0 rfl) sl_nil)) ?_
    refine k_pk (AreaT fp0 () a0_ap a0_a) rfl [] [0] rfl rfl ?_
    obtain ⟨r4, Hc5, H⟩ := bind_some' H
    refine k_call (c_area_Area_is fp0 a0_ap a0_a a1_sector r4 Hc5) Tryz.call159 rfl rfl rfl [] [0] rfl rfl (g0 rfl) rfl rfl ?_
    rintro _ _ _ ⟨rfl, rfl, rfl⟩
    dsimp only [app]
    refine k_unp 0 rfl ?_
    dsimp only [app, del]
    refine a_run ft [3] rfl (fun _ _ _ _ _ h => h) (by kernel_rfl) rfl ?_
    refine k_name 8 rfl ?_
    intro b6 hb7
    have H := bnd_eq H hb7
    cases b6 with
    | true =>
      rw [cond_true] at H
      refine a_run ft [4, 5, 6] rfl (fun _ _ _ _ _ h => h) (by kernel_rfl) rfl ?_
      refine a_l1 7 0 rfl (by kernel_rfl) rfl (ev_ld1 (j := 0) rfl rfl Tryz.isAgg29 (sub_nth (j := 0) rfl) rfl) (fun _ _ _ h => h) (g1 rfl rfl rfl rfl) rfl rfl ?_
      refine a_run ft [8, 9, 10] rfl (fun _ _ _ _ _ h => h) (by kernel_rfl) rfl ?_
      refine a_l1 11 1 rfl (by kernel_rfl) rfl (ev_ld1 (j := 1) rfl rfl Tryz.isAgg3 (sub_nth (j := 1) rfl) rfl) (fun _ _ _ h => h) (g1 rfl rfl rfl rfl) rfl rfl ?_
      refine a_run ft [12, 13] rfl (fun _ _ _ _ _ h => h) (by kernel_rfl) rfl ?_
      refine ac 14 (by kernel_rfl) (sl_cons (hG 0 rfl) (sl_cons (hG 0 rfl) sl_nil)) ?_
      obtain ⟨r8, Hc9, H⟩ := bind_some' H
      refine k_call (c_nor_Flash_Blank fp0 fl0 fl0g (wrap64 (a0_a.from_ + a1_sector)) r8 Hc9) Tryz.call160 rfl rfl rfl [] [1] rfl rfl (g1 rfl rfl rfl rfl) rfl rfl ?_
      rintro _ _ _ ⟨rfl, rfl, rfl⟩
      dsimp only [app]
      refine a_run ft [15, 16] rfl (fun _ _ _ _ _ h => h) (by kernel_rfl) rfl ?_
      refine a_done (by kernel_rfl) (sl_cons (hG 1 rfl) (sl_cons (hG 1 rfl) sl_nil)) ?_
      refine k_pk (AreaT fp0 () a0_ap a0_a) rfl [] [1] rfl rfl ?_
      exact k_wk (J1h r8 () H) [4] [] 0 [0, 0] 0 rfl rfl rfl
    | false =>
      rw [cond_false] at H
      refine a_run ft [4, 5, 6, 7, 8, 9, 10, 11, 12, 13, 14, 15, 16] rfl (fun _ _ _ _ _ h => h) (by kernel_rfl) rfl ?_
      refine a_done (by kernel_rfl) (sl_cons (hG 0 rfl) (sl_cons (hG 0 rfl) sl_nil)) ?_
      refine k_pk (AreaT fp0 () a0_ap a0_a) rfl [] [0] rfl rfl ?_
      exact k_wk (J1h false () H) [4] [] 0 [0, 0] 0 rfl rfl rfl

def ring_find_l0 (a0_a : AreaS) (fl0 : FlashS) (J4 : (Int × Int × List UInt8 × Bool) → Option (Int × Int × (List UInt8) × Bool)) : Nat → (Int × Int × List UInt8 × Bool × Int) → Option (Int × Int × (List UInt8) × Bool)
  | 0, _ => none
  | k7 + 1, s7 =>
    bif (decide (s7.2.2.2.2 < 4)) then (
    (area_Area_Read a0_a s7.2.2.2.2 (0 : Int) (320 : Int) fl0).bind fun r9 =>
    (cell_Get r9).bind fun r13 =>
    bnd r13.2.2 fun b17 =>
    jn (fun x20 =>
    jn (fun (x23 : Int × Int × List UInt8 × Bool) =>
    ring_find_l0 a0_a fl0 J4 k7 (x23.1, x23.2.1, x23.2.2.1, x23.2.2.2, (wrap64 (s7.2.2.2.2 + 1)))) fun J22 =>
    bif x20 then (
    J22 (s7.2.2.2.2, r13.1, r13.2.1, true)) else (
    J22 (s7.1, s7.2.1, s7.2.2.1, s7.2.2.2.1))) fun J19 =>
    bif b17 then (
    J19 (decide (r13.1 > s7.2.1))) else
    J19 false) else (
    J4 (s7.1, s7.2.1, s7.2.2.1, s7.2.2.2.1))

def ring_find (a0_a : AreaS) (fl0 : FlashS) : Option (Int × Int × (List UInt8) × Bool) :=
(ring_is a0_a).bind fun r1 =>
bif (!r1) then (
some (0, 0, [], false)) else (
jn (fun (x5 : Int × Int × List UInt8 × Bool) =>
some (x5.1, x5.2.1, x5.2.2.1, x5.2.2.2)) fun J4 =>
ring_find_l0 a0_a fl0 J4 Fuel (0, 0, [], false, 0))

theorem c_ring_find (fp0 : Nat) (a0_ap : Nat) (a0_a : AreaS) (fl0 : FlashS) (fl0g : FlashG) (r : Int × Int × (List UInt8) × Bool) (H : ring_find a0_a fl0 = some r) : Fn Tryz.prog 98 [(.pointer (some ⟨a0_ap, 0, none⟩))] [] [AreaT fp0 () a0_ap a0_a, FlashT fl0g fp0 fl0] (fun v D' G' => ∃ (A26 : Option Addr) (c27 : Nat), v = (.tuple #[(vi r.1), (vi r.2.1), (.slice A26 r.2.2.1.length c27), (vb r.2.2.2)]) ∧ D' = [Sl E8 A26 c27 r.2.2.1] ∧ G' = [Spare A26 r.2.2.1.length c27 1, AreaT fp0 () a0_ap a0_a, FlashT fl0g fp0 fl0]) := by
  unfold ring_find at H
  refine fn_of Tryz.func98 rfl Tryz.ntmps98 rfl ?_
  intro w0 D0 G0
  dsimp only [app, initEnv, Nat.zero_add, Nat.reduceAdd]
  refine s_seq ?_
  refine s_reg [0, 1, 2, 3] rfl ?_
  refine o_run ft [0, 1, 2, 3] rfl rfl ?_
  refine o_nil ?_
  refine q_then ?_
  refine s_seq ?_
  refine s_seq ?_
  refine s_reg [0, 1, 2] rfl ?_
  refine o_run ft [0] rfl rfl ?_
  obtain ⟨r1, Hc2, H⟩ := bind_some' H
  refine oc (k_call (c_ring_is fp0 a0_ap a0_a r1 Hc2) Tryz.call99 rfl rfl rfl [] [0] rfl rfl (g0 rfl) rfl rfl ?_)
  rintro _ _ _ ⟨rfl, rfl, rfl⟩
  dsimp only [app]
  refine o_run ft [2] rfl rfl ?_
  refine o_nil ?_
  refine q_then ?_
  refine s_cond rfl ?_ ?_
  · intro hb3
    have H := cnd_t H hb3
    refine s_seq ?_
    refine s_reg [0, 1, 2, 3] rfl ?_
    refine o_run ft [0, 1, 2, 3] rfl rfl ?_
    refine o_nil ?_
    refine q_then ?_
    refine s_ret ?_
    refine q_then_r ?_
    cases H
    refine k_nil_sl E8 ?_
    refine k_nil_spare 1 ?_
    exact q_end (rs_4 Tryz.results98 (rv_tmp rfl) (rv_tmp rfl) (rv_tmp rfl) (rv_tmp rfl)) ⟨none, 0, rfl, rfl, rfl⟩ [0] rfl 1 rfl [0, 0, 0] rfl 0 rfl
  · intro hb3
    have H := cnd_f H hb3
    refine s_skip ?_
    refine q_then ?_
    refine s_seq ?_
    refine s_seq ?_
    refine s_reg [0] rfl ?_
    refine o_run ft [0] rfl rfl ?_
    refine o_nil ?_
    refine q_then ?_
    refine q_join (fun (x5 : Int × Int × List UInt8 × Bool) (y6 : Option Addr × Nat) => ⟨Sl E8 y6.1 y6.2 x5.2.2.1 :: D0, AreaT fp0 () a0_ap a0_a :: FlashT fl0g fp0 fl0 :: Spare y6.1 x5.2.2.1.length y6.2 1 :: G0, [(2, (vi x5.1)), (3, (vi x5.2.1)), (4, (.slice y6.1 x5.2.2.1.length y6.2)), (5, (vb x5.2.2.2))]⟩) H ?_ ?_
    · intro x5 y6 H
      dsimp only
      refine q_then ?_
      refine s_seq ?_
      refine s_reg [0, 1, 2, 3, 4, 5, 6, 7] rfl ?_
      refine o_run ft [0, 1, 2, 3, 4, 5, 6, 7] rfl rfl ?_
      refine o_nil ?_
      refine q_then ?_
      refine s_ret ?_
      cases H
      exact q_end (rs_4 Tryz.results98 (rv_tmp rfl) (rv_tmp rfl) (rv_tmp rfl) (rv_tmp rfl)) ⟨y6.1, y6.2, rfl, rfl, rfl⟩ [0] rfl 1 rfl [2, 0, 0] rfl 0 rfl
    · intro J4 J4h H
      refine s_block ?_
      refine k_nil_sl E8 ?_
      refine k_nil_spare 1 ?_
      refine s_loop (k_wk (loop_ind (fun (s7 : Int × Int × List UInt8 × Bool × Int) (y7 : Option Addr × Nat) => ⟨Sl E8 y7.1 y7.2 s7.2.2.1 :: D0, AreaT fp0 () a0_ap a0_a :: FlashT fl0g fp0 fl0 :: Spare y7.1 s7.2.2.1.length y7.2 1 :: G0, [(0, (.pointer (some ⟨a0_ap, 0, none⟩))), (2, (vi s7.1)), (3, (vi s7.2.1)), (4, (.slice y7.1 s7.2.2.1.length y7.2)), (5, (vb s7.2.2.2.1)), (13, (vi s7.2.2.2.2))]⟩) (ring_find_l0 a0_a fl0 J4) _ (fun _ => rfl) ?_ Fuel (0, 0, [], false, 0) (none, 0) H) [0, 2, 3, 4, 5, 13] [0] 1 [1, 1, 0] 0 rfl rfl rfl)
      intro k7 s7 y7 ih H
      dsimp only
      rw [ring_find_l0] at H
      refine s_seq ?_
      refine s_reg [0] rfl ?_
      refine o_run ft [0] rfl rfl ?_
      refine o_nil ?_
      refine q_then ?_
      refine s_seq ?_
      refine s_cond rfl ?_ ?_
      · intro hb8
        have H := cnd_t H hb8
        refine s_skip ?_
        refine q_then ?_
        refine s_seq ?_
        refine s_block ?_
        refine s_seq ?_
        refine s_reg [0, 1] rfl ?_
        refine o_run ft [0, 1] rfl rfl ?_
        refine o_nil ?_
        refine q_then ?_
        refine s_seq ?_
        refine s_reg [0, 1, 2, 3, 4, 5, 6, 7, 8, 9, 10] rfl ?_
        refine o_run ft [0, 1] rfl rfl ?_
        obtain ⟨r9, Hc10, H⟩ := bind_some' H
        refine oc (k_call (c_area_Area_Read fp0 a0_ap a0_a s7.2.2.2.2 0 320 fl0 fl0g r9 Hc10) Tryz.call83 rfl rfl rfl [] [0, 0] rfl rfl (g0 rfl) rfl rfl ?_)
        rintro _ _ _ ⟨A11, c12, rfl, rfl, rfl⟩
        dsimp only [app]
        obtain ⟨r13, Hc14, H⟩ := bind_some' H
        refine oc (k_call (c_cell_Get r9 A11 c12 r13 Hc14) Tryz.call163 rfl rfl rfl [0] [] rfl rfl (g0 rfl) rfl rfl ?_)
        rintro _ _ _ ⟨A15, c16, rfl, rfl, rfl⟩
        dsimp only [app]
        refine o_run ft [4, 5, 6, 7, 8, 9, 10] rfl rfl ?_
        refine o_nil ?_
        refine q_then ?_
        refine s_seq ?_
        refine s_reg [0, 1, 2, 3, 4, 5] rfl ?_
        refine o_run ft [0, 1] rfl rfl ?_
        refine k_name 25 rfl ?_
        intro b17 hb18
        have H := bnd_eq H hb18
        refine o_jb 29 [] [0, 2, 3, 4, 5, 6, 7, 8, 9, 13, 14, 15, 16, 17, 18, 19, 20, 21, 22, 23, 24, 25] H rfl ?_ ?_
        · intro x20 H
          refine o_nil ?_
          refine q_then ?_
          refine q_join (fun (x23 : Int × Int × List UInt8 × Bool) (y24 : Option Addr × Nat) => ⟨Sl E8 y24.1 y24.2 x23.2.2.1 :: Sl E8 A15 c16 r13.2.1 :: Sl E8 A11 c12 r9 :: Sl E8 y7.1 y7.2 s7.2.2.1 :: D0, AreaT fp0 () a0_ap a0_a :: FlashT fl0g fp0 fl0 :: Spare y24.1 x23.2.2.1.length y24.2 1 :: Spare A11 r9.length c12 1 :: G0, [(0, (.pointer (some ⟨a0_ap, 0, none⟩))), (2, (vi x23.1)), (3, (vi x23.2.1)), (4, (.slice y24.1 x23.2.2.1.length y24.2)), (5, (vb x23.2.2.2)), (13, (vi s7.2.2.2.2))]⟩) H ?_ ?_
          · intro x23 y24 H
            dsimp only
            refine q_block ?_
            refine q_then ?_
            refine s_reg [0, 1] rfl ?_
            refine o_run ft [0, 1] rfl rfl ?_
            refine o_nil ?_
            refine q_loop ?_
            exact k_wk (ih (x23.1, x23.2.1, x23.2.2.1, x23.2.2.2, (wrap64 (s7.2.2.2.2 + 1))) (y24.1, y24.2) H) [0, 2, 3, 4, 5, 13] [0] 4 [0, 0, 0] 1 rfl rfl rfl
          · intro J22 J22h H
            refine s_cond rfl ?_ ?_
            · intro hb25
              have H := cnd_t H hb25
              refine s_reg [0, 1, 2, 3, 4, 5, 6] rfl ?_
              refine o_run ft [0, 1, 2, 3, 4, 5, 6] rfl rfl ?_
              refine o_nil ?_
              exact k_wk (J22h (s7.2.2.2.2, r13.1, r13.2.1, true) (A15, c16) H) [0, 2, 3, 4, 5, 13] [0, 0, 1, 2] 3 [2, 2, 0, 0] 1 rfl rfl rfl
            · intro hb25
              have H := cnd_f H hb25
              refine s_skip ?_
              exact k_wk (J22h (s7.1, s7.2.1, s7.2.2.1, s7.2.2.2.1) (y7.1, y7.2) H) [0, 2, 3, 4, 5, 13] [2, 0, 1, 2] 3 [2, 2, 2, 1] 1 rfl rfl rfl
        · intro J19 J19h H
          cases b17 with
          | true =>
            rw [cond_true] at H
            refine o_run ft [2, 3, 4, 5] rfl rfl ?_
            exact k_wk (J19h (decide (r13.1 > s7.2.1)) H) [29, 0, 2, 3, 4, 5, 6, 7, 8, 9, 13, 14, 15, 16, 17, 18, 19, 20, 21, 22, 23, 24, 25] [0, 1, 2] 3 [0, 0, 0, 0, 0] 0 rfl rfl rfl
          | false =>
            rw [cond_false] at H
            refine o_gnot rfl rfl rfl rfl rfl rfl rfl rfl ?_
            refine o_gnot rfl rfl rfl rfl rfl rfl rfl rfl ?_
            refine o_gnot rfl rfl rfl rfl rfl rfl rfl rfl ?_
            refine o_run ft [5] rfl rfl ?_
            exact k_wk (J19h false H) [29, 0, 2, 3, 4, 5, 6, 7, 8, 9, 13, 14, 15, 16, 17, 18, 19, 20, 21, 22, 23, 24, 25] [0, 1, 2] 3 [0, 0, 0, 0, 0] 0 rfl rfl rfl
      · intro hb8
        have H := cnd_f H hb8
        refine s_exit ?_
        refine q_then_x ?_
        refine q_then_x ?_
        refine q_block_x ?_
        exact k_wk (J4h (s7.1, s7.2.1, s7.2.2.1, s7.2.2.2.1) (y7.1, y7.2) H) [2, 3, 4, 5] [0] 1 [0, 0, 0] 0 rfl rfl rfl

def ring_Next (a0_a : AreaS) (fl0 : FlashS) : Option Int :=
(ring_find a0_a fl0).bind fun r1 =>
bif (!r1.2.2.2) then (
some 0) else (
some ((wrap64 (r1.1 + 1)).tmod 4))

theorem c_ring_Next (fp0 : Nat) (a0_ap : Nat) (a0_a : AreaS) (fl0 : FlashS) (fl0g : FlashG) (r : Int) (H : ring_Next a0_a fl0 = some r) : Fn Tryz.prog 102 [(.pointer (some ⟨a0_ap, 0, none⟩))] [] [AreaT fp0 () a0_ap a0_a, FlashT fl0g fp0 fl0] (fun v D' G' => v = (vi r) ∧ D' = [] ∧ G' = [AreaT fp0 () a0_ap a0_a, FlashT fl0g fp0 fl0]) := by
  unfold ring_Next at H
  refine fn_of Tryz.func102 rfl Tryz.ntmps102 rfl ?_
  intro w0 D0 G0
  dsimp only [app, initEnv, Nat.zero_add, Nat.reduceAdd]
  refine s_seq ?_
  refine s_reg [0] rfl ?_
  refine o_run ft [0] rfl rfl ?_
  refine o_nil ?_
  refine q_then ?_
  refine s_seq ?_
  refine s_reg [0, 1, 2, 3, 4, 5, 6, 7, 8, 9, 10] rfl ?_
  refine o_run ft [0] rfl rfl ?_
  obtain ⟨r1, Hc2, H⟩ := bind_some' H
  refine oc (k_call (c_ring_find fp0 a0_ap a0_a fl0 fl0g r1 Hc2) Tryz.call98 rfl rfl rfl [] [0, 0] rfl rfl (g0 rfl) rfl rfl ?_)
  rintro _ _ _ ⟨A3, c4, rfl, rfl, rfl⟩
  dsimp only [app]
  refine o_run ft [2, 3, 4, 5, 6, 7, 8, 9, 10] rfl rfl ?_
  refine o_nil ?_
  refine q_then ?_
  refine s_seq ?_
  refine s_seq ?_
  refine s_reg [0, 1] rfl ?_
  refine o_run ft [0, 1] rfl rfl ?_
  refine o_nil ?_
  refine q_then ?_
  refine s_cond rfl ?_ ?_
  · intro hb5
    have H := cnd_t H hb5
    refine s_seq ?_
    refine s_reg [0] rfl ?_
    refine o_run ft [0] rfl rfl ?_
    refine o_nil ?_
    refine q_then ?_
    refine s_ret ?_
    refine q_then_r ?_
    cases H
    exact q_end (rs_1 Tryz.results102 (rv_tmp rfl)) ⟨rfl, rfl, rfl⟩ [] rfl 1 rfl [1, 1] rfl 1 rfl
  · intro hb5
    have H := cnd_f H hb5
    refine s_skip ?_
    refine q_then ?_
    refine s_seq ?_
    refine s_reg [0, 1, 2, 3] rfl ?_
    refine o_run ft [0, 1] rfl rfl ?_
    refine o_pu rfl (ev_bin rfl rfl rfl rfl (rem_i _ 4 rfl)) (g0 rfl) rfl rfl ?_
    refine o_run ft [3] rfl rfl ?_
    refine o_nil ?_
    refine q_then ?_
    refine s_ret ?_
    cases H
    exact q_end (rs_1 Tryz.results102 (rv_tmp rfl)) ⟨rfl, rfl, rfl⟩ [] rfl 1 rfl [1, 1] rfl 1 rfl

def nor_Flash_Erase (a0_f : FlashS) (a1_sector : Int) : Option (Int × FlashS) :=
(nor_Flash_Off a0_f).bind fun r1 =>
bif r1 then (
some (4, a0_f)) else (
(nor_Flash_is a0_f a1_sector).bind fun r4 =>
bif (!r4) then (
some (2, a0_f)) else (
chk (0 ≤ a1_sector ∧ a1_sector < (a0_f.wear.length : Int) ∧ a1_sector < (a0_f.wear.length : Int)) <|
chk (0 ≤ a1_sector ∧ a1_sector < (a0_f.wear.length : Int) ∧ a1_sector < (a0_f.wear.length : Int)) <|
(slices_Repeat ([255] : List UInt8) (320 : Int)).bind fun r10 =>
chk (r10.length = r10.length ∧ r10.length ≤ 68719476736) <|
chk ((a0_f.wear.set a1_sector.toNat (wrap64 ((at' 0 a0_f.wear a1_sector) + 1))).length = a0_f.wear.length) <|
(nor_Flash_work (⟨a0_f.b, (a0_f.wear.set a1_sector.toNat (wrap64 ((at' 0 a0_f.wear a1_sector) + 1))), a0_f.cut, a0_f.mask, a0_f.off, a0_f.ops⟩ : FlashS) (wrap64 (a1_sector * 320)) r10).bind fun r14 =>
some (r14.1, r14.2)))

theorem c_nor_Flash_Erase (a0_fp : Nat) (a0_f : FlashS) (a0_fg : FlashG) (a1_sector : Int) (r : Int × FlashS) (H : nor_Flash_Erase a0_f a1_sector = some r) : Fn Tryz.prog 161 [(.pointer (some ⟨a0_fp, 0, none⟩)), (vi a1_sector)] [] [FlashT a0_fg a0_fp a0_f] (fun v D' G' => ∃ (g18 : FlashG), v = (vi r.1) ∧ D' = [] ∧ G' = [FlashT g18 a0_fp r.2]) := by
  unfold nor_Flash_Erase at H
  refine fn_of Tryz.func161 rfl Tryz.ntmps161 rfl ?_
  intro w0 D0 G0
  dsimp only [app, initEnv, Nat.zero_add, Nat.reduceAdd]
  refine s_seq ?_
  refine s_reg [0] rfl ?_
  refine o_run ft [0] rfl rfl ?_
  refine o_nil ?_
  refine q_then ?_
  refine s_seq ?_
  refine s_block ?_
  refine s_seq ?_
  refine s_reg [0, 1, 2] rfl ?_
  refine o_run ft [0] rfl rfl ?_
  obtain ⟨r1, Hc2, H⟩ := bind_some' H
  refine oc (k_call (c_nor_Flash_Off a0_fp a0_f a0_fg r1 Hc2) Tryz.call206 rfl rfl rfl [] [0] rfl rfl (g0 rfl) rfl rfl ?_)
  rintro _ _ _ ⟨rfl, rfl, rfl⟩
  dsimp only [app]
  refine o_run ft [2] rfl rfl ?_
  refine o_nil ?_
  refine q_then ?_
  refine s_cond rfl ?_ ?_
  · intro hb3
    have H := cnd_t H hb3
    refine s_seq ?_
    refine s_reg [0] rfl ?_
    refine o_run ft [0] rfl rfl ?_
    refine o_nil ?_
    refine q_then ?_
    refine s_ret ?_
    refine q_block_r ?_
    refine q_then_r ?_
    cases H
    exact q_end (rs_1 Tryz.results161 (rv_tmp rfl)) ⟨a0_fg, rfl, rfl, rfl⟩ [] rfl 0 rfl [0] rfl 0 rfl
  · intro hb3
    have H := cnd_f H hb3
    refine s_seq ?_
    refine s_reg [0, 1, 2, 3, 4] rfl ?_
    refine o_run ft [0, 1] rfl rfl ?_
    obtain ⟨r4, Hc5, H⟩ := bind_some' H
    refine oc (k_call (c_nor_Flash_is a0_fp a0_f a0_fg a1_sector r4 Hc5) Tryz.call152 rfl rfl rfl [] [0] rfl rfl (g0 rfl) rfl rfl ?_)
    rintro _ _ _ ⟨rfl, rfl, rfl⟩
    dsimp only [app]
    refine o_run ft [3, 4] rfl rfl ?_
    refine o_nil ?_
    refine q_then ?_
    refine s_cond rfl ?_ ?_
    · intro hb6
      have H := cnd_t H hb6
      refine s_seq ?_
      refine s_reg [0] rfl ?_
      refine o_run ft [0] rfl rfl ?_
      refine o_nil ?_
      refine q_then ?_
      refine s_ret ?_
      refine q_block_r ?_
      refine q_then_r ?_
      cases H
      exact q_end (rs_1 Tryz.results161 (rv_tmp rfl)) ⟨a0_fg, rfl, rfl, rfl⟩ [] rfl 0 rfl [0] rfl 0 rfl
    · intro hb6
      have H := cnd_f H hb6
      refine s_skip ?_
      refine q_block ?_
      refine q_then ?_
      refine s_seq ?_
      refine s_reg [0, 1, 2, 3, 4, 5, 6, 7, 8, 9] rfl ?_
      refine o_run ft [0, 1, 2] rfl rfl ?_
      refine k_unp 0 rfl ?_
      dsimp only [app, del]
      refine o_ld (hG 0 rfl) rfl (ev_ld1 (j := 1) rfl rfl Tryz.isAgg64 (sub_nth (j := 1) rfl) rfl) (g0 rfl) rfl rfl ?_
      refine o_run ft [4] rfl rfl ?_
      obtain ⟨hk7, H⟩ := chk_some H
      refine o_pu rfl (ev_idx_slice rfl rfl rfl Tryz.runUnderlying64 Tryz.sizeOf3 ⟨hk7.1, hk7.2.1⟩ rfl) (g0 rfl) rfl rfl ?_
      refine o_ld (hG 2 rfl) rfl (ev_ld1 rfl rfl Tryz.isAgg3 (sub_map Ei_len 0 (k := a1_sector) ⟨hk7.1, hk7.2.2⟩ rfl) (by omega)) (g0 rfl) rfl rfl ?_
      refine o_run ft [7] rfl rfl ?_
      obtain ⟨hk8, H⟩ := chk_some H
      refine o_pu rfl (ev_idx_slice rfl rfl rfl Tryz.runUnderlying64 Tryz.sizeOf3 ⟨hk8.1, hk8.2.1⟩ rfl) (g0 rfl) rfl rfl ?_
      refine oc (k_st rfl rfl rfl rfl (vs := [vi (wrap64 ((at' 0 a0_f.wear a1_sector) + 1))]) rfl (sz rfl Tryz.sizeOf3) rfl 2 rfl (spl_map Ei_len _ (k := a1_sector) _ ⟨hk8.1, hk8.2.2⟩ rfl) (by omega) (g0 rfl) rfl ?_)
      refine o_nil ?_
      refine q_then ?_
      refine s_seq ?_
      refine s_reg [0, 1, 2, 3, 4, 5, 6] rfl ?_
      refine o_run ft [0, 1, 2] rfl rfl ?_
      refine oc (k_buildSlice (f := E8) ([255] : List UInt8) rfl rfl rfl rfl Tryz.runUnderlying22 Tryz.sizeOf5 Tryz.zeroValue5 rfl rfl (fill_all rfl rfl (by simp) rfl rfl) (g0 rfl) rfl rfl ?_)
      intro b9
      obtain ⟨r10, Hc11, H⟩ := bind_some' H
      refine oc (k_call (c_slices_Repeat ([255] : List UInt8) (some ⟨b9, 0, none⟩) 1 320 r10 Hc11) Tryz.call35 rfl rfl rfl [0] [] rfl rfl (g0 rfl) rfl rfl ?_)
      rintro _ _ _ ⟨b12, rfl, rfl, rfl⟩
      dsimp only [app]
      obtain ⟨hk13, H⟩ := chk_some H
      refine k_keep 0 rfl ?_
      refine k_ro_sl (f := E8) (cap := r10.length) r10 0 rfl (sub_all _) rfl (Nat.le_of_eq hk13.1) (by have := hk13.2; omega) ?_
      refine k_eq (v' := (.slice (some ⟨b12, 0, none⟩) r10.length r10.length)) 26 rfl (congrArg (fun z => Value.slice (some ⟨b12, 0, none⟩) z r10.length) hk13.1.symm) ?_
      refine k_spare_full (some ⟨b12, 0, none⟩) r10.length r10.length 1 hk13.1 ?_
      obtain ⟨hk16, H⟩ := chk_some H
      refine k_tok 1 (A' := At a0_fp 0 [.slice (some ⟨a0_fg.b0, 0, none⟩) a0_f.b.length a0_f.b.length, .slice (some ⟨a0_fg.b1, 0, none⟩) ((a0_f.wear.set a1_sector.toNat (wrap64 ((at' 0 a0_f.wear a1_sector) + 1))).length) ((a0_f.wear.set a1_sector.toNat (wrap64 ((at' 0 a0_f.wear a1_sector) + 1))).length), vi a0_f.cut, .slice a0_fg.A3 a0_f.mask.length a0_fg.c3, vb a0_f.off, vi a0_f.ops]) rfl (by rw [hk16]) ?_
      refine k_pk (FlashT a0_fg a0_fp (⟨a0_f.b, (a0_f.wear.set a1_sector.toNat (wrap64 ((at' 0 a0_f.wear a1_sector) + 1))), a0_f.cut, a0_f.mask, a0_f.off, a0_f.ops⟩ : FlashS)) rfl [3] [1, 1, 1] rfl rfl ?_
      obtain ⟨r14, Hc15, H⟩ := bind_some' H
      refine oc (k_call (c_nor_Flash_work a0_fp (⟨a0_f.b, (a0_f.wear.set a1_sector.toNat (wrap64 ((at' 0 a0_f.wear a1_sector) + 1))), a0_f.cut, a0_f.mask, a0_f.off, a0_f.ops⟩ : FlashS) a0_fg (wrap64 (a1_sector * 320)) r10 (some ⟨b12, 0, none⟩) r10.length r14 Hc15) Tryz.call207 rfl rfl rfl [0] [0] rfl rfl (g0 rfl) rfl rfl ?_)
      rintro _ _ _ ⟨g17, rfl, rfl, rfl⟩
      dsimp only [app]
      refine o_run ft [6] rfl rfl ?_
      refine o_nil ?_
      refine q_then ?_
      refine s_ret ?_
      cases H
      exact q_end (rs_1 Tryz.results161 (rv_tmp rfl)) ⟨g17, rfl, rfl, rfl⟩ [] rfl 4 rfl [0] rfl 1 rfl

def ring_Last (a0_a : AreaS) (fl0 : FlashS) : Option (Int × (List UInt8) × Bool) :=
(ring_find a0_a fl0).bind fun r1 =>
some (r1.2.1, r1.2.2.1, r1.2.2.2)

theorem c_ring_Last (fp0 : Nat) (a0_ap : Nat) (a0_a : AreaS) (fl0 : FlashS) (fl0g : FlashG) (r : Int × (List UInt8) × Bool) (H : ring_Last a0_a fl0 = some r) : Fn Tryz.prog 43 [(.pointer (some ⟨a0_ap, 0, none⟩))] [] [AreaT fp0 () a0_ap a0_a, FlashT fl0g fp0 fl0] (fun v D' G' => ∃ (A5 : Option Addr) (c6 : Nat), v = (.tuple #[(vi r.1), (.slice A5 r.2.1.length c6), (vb r.2.2)]) ∧ D' = [Sl E8 A5 c6 r.2.1] ∧ G' = [Spare A5 r.2.1.length c6 1, AreaT fp0 () a0_ap a0_a, FlashT fl0g fp0 fl0]) := by
  unfold ring_Last at H
  refine fn_of Tryz.func43 rfl Tryz.ntmps43 rfl ?_
  intro w0 D0 G0
  dsimp only [app, initEnv, Nat.zero_add, Nat.reduceAdd]
  refine s_seq ?_
  refine s_reg [0, 1, 2] rfl ?_
  refine o_run ft [0, 1, 2] rfl rfl ?_
  refine o_nil ?_
  refine q_then ?_
  refine s_seq ?_
  refine s_reg [0, 1, 2, 3, 4, 5, 6, 7, 8, 9, 10] rfl ?_
  refine o_run ft [0] rfl rfl ?_
  obtain ⟨r1, Hc2, H⟩ := bind_some' H
  refine oc (k_call (c_ring_find fp0 a0_ap a0_a fl0 fl0g r1 Hc2) Tryz.call98 rfl rfl rfl [] [0, 0] rfl rfl (g0 rfl) rfl rfl ?_)
  rintro _ _ _ ⟨A3, c4, rfl, rfl, rfl⟩
  dsimp only [app]
  refine o_run ft [2, 3, 4, 5, 6, 7, 8, 9, 10] rfl rfl ?_
  refine o_nil ?_
  refine q_then ?_
  refine s_seq ?_
  refine s_reg [0, 1, 2, 3, 4, 5] rfl ?_
  refine o_run ft [0, 1, 2, 3, 4, 5] rfl rfl ?_
  refine o_nil ?_
  refine q_then ?_
  refine s_ret ?_
  cases H
  exact q_end (rs_3 Tryz.results43 (rv_tmp rfl) (rv_tmp rfl) (rv_tmp rfl)) ⟨A3, c4, rfl, rfl, rfl⟩ [0] rfl 1 rfl [0, 0, 0] rfl 0 rfl

end Go.Proofs.YtpdoioeckiiegaaGreatDoor.Wl
