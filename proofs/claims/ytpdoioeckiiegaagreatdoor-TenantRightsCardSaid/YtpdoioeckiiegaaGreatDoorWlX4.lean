import Derived.Test.YtpdoioeckiiegaaGreatDoorWlW
import Derived.Test.YtpdoioeckiiegaaGreatDoorWlX0
import Derived.Test.YtpdoioeckiiegaaGreatDoorWlX1
import Derived.Test.YtpdoioeckiiegaaGreatDoorWlX2
import Derived.Test.YtpdoioeckiiegaaGreatDoorWlX3
set_option linter.unusedSimpArgs false
set_option linter.unusedVariables false
set_option maxRecDepth 10000
namespace Go.Proofs.YtpdoioeckiiegaaGreatDoor.Wl
open Go.RowKit Go.Proofs
def nor_Flash_Read (a0_f : FlashS) (a1_at : Int) (a2_n : Int) : Option (List UInt8) :=
bnd (decide (a2_n < 1)) fun b1 =>
jn (fun x4 =>
bif x4 then (
some []) else (
chk (0 ≤ a1_at ∧ a1_at ≤ (wrap64 (a1_at + a2_n)) ∧ (wrap64 (a1_at + a2_n)) ≤ (a0_f.b.length : Int) ∧ (a1_at = 0 ∨ a1_at < (a0_f.b.length : Int))) <|
chk (0 ≤ a1_at ∧ a1_at ≤ (wrap64 (a1_at + a2_n)) ∧ (wrap64 (a1_at + a2_n)) ≤ (a0_f.b.length : Int)) <|
(slices_Clone (slc a0_f.b a1_at (wrap64 (a1_at + a2_n)))).bind fun r7 =>
some r7)) fun J3 =>
bif b1 then (
J3 true) else
(nor_Flash_within a0_f a1_at a2_n).bind fun r12 =>
J3 (!r12)

theorem c_nor_Flash_Read (a0_fp : Nat) (a0_f : FlashS) (a0_fg : FlashG) (a1_at : Int) (a2_n : Int) (r : (List UInt8)) (H : nor_Flash_Read a0_f a1_at a2_n = some r) : Fn Tryz.prog 151 [(.pointer (some ⟨a0_fp, 0, none⟩)), (vi a1_at), (vi a2_n)] [] [FlashT a0_fg a0_fp a0_f] (fun v D' G' => ∃ (A14 : Option Addr) (c15 : Nat), v = (.slice A14 r.length c15) ∧ D' = [Sl E8 A14 c15 r] ∧ G' = [Spare A14 r.length c15 1, FlashT a0_fg a0_fp a0_f]) := by
  unfold nor_Flash_Read at H
  refine fn_of Tryz.func151 rfl Tryz.ntmps151 rfl ?_
  intro w0 D0 G0
  dsimp only [app, initEnv, Nat.zero_add, Nat.reduceAdd]
  refine s_seq ?_
  refine s_reg [0] rfl ?_
  refine o_run ft [0] rfl rfl ?_
  refine o_nil ?_
  refine q_then ?_
  refine s_seq ?_
  refine s_seq ?_
  refine s_reg [0, 1, 2, 3, 4, 5, 6, 7, 8] rfl ?_
  refine o_run ft [0, 1, 2] rfl rfl ?_
  refine k_name 9 rfl ?_
  intro b1 hb2
  have H := bnd_eq H hb2
  refine o_jb 15 [] [0, 1, 2, 6, 7, 8, 9] H rfl ?_ ?_
  · intro x4 H
    refine o_nil ?_
    refine q_then ?_
    refine s_cond rfl ?_ ?_
    · intro hb5
      have H := cnd_t H hb5
      refine s_seq ?_
      refine s_reg [0] rfl ?_
      refine o_run ft [0] rfl rfl ?_
      refine o_nil ?_
      refine q_then ?_
      refine s_ret ?_
      refine q_then_r ?_
      cases H
      refine k_nil_sl E8 ?_
      refine k_nil_spare 1 ?_
      exact q_end (rs_1 Tryz.results151 (rv_tmp rfl)) ⟨none, 0, rfl, rfl, rfl⟩ [0] rfl 1 rfl [0, 0] rfl 0 rfl
    · intro hb5
      have H := cnd_f H hb5
      refine s_skip ?_
      refine q_then ?_
      refine s_seq ?_
      refine s_reg [0, 1, 2, 3, 4, 5, 6, 7, 8, 9, 10] rfl ?_
      refine o_run ft [0, 1, 2] rfl rfl ?_
      refine k_unp 0 rfl ?_
      dsimp only [app, del]
      refine o_ld (hG 0 rfl) rfl (ev_ld1 (j := 0) rfl rfl Tryz.isAgg22 (sub_nth (j := 0) rfl) rfl) (g0 rfl) rfl rfl ?_
      refine o_run ft [4, 5, 6, 7] rfl rfl ?_
      obtain ⟨hk6, H⟩ := chk_some H
      refine o_pu rfl (ev_slice_o (a := a1_at) (b' := (wrap64 (a1_at + a2_n))) rfl rfl Tryz.runUnderlying22 Tryz.sizeOf5 (.inr rfl) (.inr rfl) ⟨hk6.1, hk6.2.1, hk6.2.2.1, Nat.le_refl _, hk6.2.2.2⟩ rfl) (g0 rfl) rfl rfl ?_
      obtain ⟨hk9, H⟩ := chk_some H
      refine k_eq (v' := (.slice (some ⟨a0_fg.b0, (0 + a1_at.toNat * 1), none⟩) ((slc a0_f.b a1_at (wrap64 (a1_at + a2_n))).length) (a0_f.b.length - a1_at.toNat))) 24 rfl (congrArg (fun z => Value.slice (some ⟨a0_fg.b0, (0 + a1_at.toNat * 1), none⟩) z (a0_f.b.length - a1_at.toNat)) (slc_length _ hk9.1 hk9.2.1 hk9.2.2).symm) ?_
      obtain ⟨r7, Hc8, H⟩ := bind_some' H
      refine oc (k_call (c_slices_Clone_l (slc a0_f.b a1_at (wrap64 (a1_at + a2_n))) a0_fg.b0 0 (0 + a1_at.toNat * 1) _ (a0_f.b.length - a1_at.toNat) (a0_f.b.flatMap E8) (sub_slc E8_len hk9 rfl) (by omega) r7 Hc8) Tryz.call57 rfl rfl rfl [] [1] rfl rfl (g0 rfl) rfl rfl ?_)
      rintro _ _ _ ⟨A10, c11, rfl, rfl, rfl⟩
      dsimp only [app]
      refine o_run ft [10] rfl rfl ?_
      refine o_nil ?_
      refine q_then ?_
      refine s_ret ?_
      refine k_pk (FlashT a0_fg a0_fp a0_f) rfl [1] [2, 1, 1] rfl rfl ?_
      cases H
      exact q_end (rs_1 Tryz.results151 (rv_tmp rfl)) ⟨A10, c11, rfl, rfl, rfl⟩ [0] rfl 2 rfl [1, 0] rfl 0 rfl
  · intro J3 J3h H
    cases b1 with
    | true =>
      rw [cond_true] at H
      refine o_gnot rfl rfl rfl rfl rfl rfl rfl rfl ?_
      refine o_gnot rfl rfl rfl rfl rfl rfl rfl rfl ?_
      refine o_gnot rfl rfl rfl rfl rfl rfl rfl rfl ?_
      refine o_gnot rfl rfl rfl rfl rfl rfl rfl rfl ?_
      refine o_gnot rfl rfl rfl rfl rfl rfl rfl rfl ?_
      refine o_run ft [8] rfl rfl ?_
      exact k_wk (J3h true H) [15, 0, 1, 2, 6, 7, 8, 9] [] 0 [0] 0 rfl rfl rfl
    | false =>
      rw [cond_false] at H
      refine o_run ft [3, 4, 5] rfl rfl ?_
      obtain ⟨r12, Hc13, H⟩ := bind_some' H
      refine oc (k_call (c_nor_Flash_within a0_fp a0_f a0_fg a1_at a2_n r12 Hc13) Tryz.call203 rfl rfl rfl [] [0] rfl rfl (g1 rfl rfl rfl rfl) rfl rfl ?_)
      rintro _ _ _ ⟨rfl, rfl, rfl⟩
      dsimp only [app]
      refine o_run ft [7, 8] rfl rfl ?_
      exact k_wk (J3h (!r12) H) [15, 0, 1, 2, 6, 7, 8, 9] [] 0 [0] 0 rfl rfl rfl

def names_Valid_l0 (a0_s : List UInt8) (J2 : (Int × Int) → Option Bool) : Nat → (Int × Int) → Option Bool
  | 0, _ => none
  | k9 + 1, s9 =>
    bif decide (0 ≤ s9.2 ∧ s9.2 < (a0_s.length : Int)) then (
    (names_may (ru a0_s s9.2)).bind fun r12 =>
    bif (!r12) then (
    some false) else (
    names_Valid_l0 a0_s J2 k9 ((wrap64 (s9.1 + 1)), (s9.2 + rwd a0_s s9.2)))) else (
    chk (0 ≤ s9.2) <|
    J2 (s9.1, s9.2))

def names_Valid (a0_s : List UInt8) : Option Bool :=
jn (fun (x3 : Int × Int) =>
bnd (decide (x3.1 ≥ 1)) fun b5 =>
jn (fun x8 =>
some x8) fun J7 =>
bif b5 then (
J7 (decide (x3.1 ≤ 8))) else
J7 false) fun J2 =>
names_Valid_l0 a0_s J2 Fuel (0, 0)

theorem c_names_Valid (a0_s : List UInt8) (r : Bool) (H : names_Valid a0_s = some r) : Fn Tryz.prog 157 [(vs a0_s)] [] [] (fun v D' G' => v = (vb r) ∧ D' = [] ∧ G' = []) := by
  unfold names_Valid at H
  refine fn_of Tryz.func157 rfl Tryz.ntmps157 rfl ?_
  intro w0 D0 G0
  dsimp only [app, initEnv, Nat.zero_add, Nat.reduceAdd]
  refine s_seq ?_
  refine s_reg [0] rfl ?_
  refine o_run ft [0] rfl rfl ?_
  refine o_nil ?_
  refine q_then ?_
  refine s_seq ?_
  refine s_reg [0] rfl ?_
  refine o_run ft [0] rfl rfl ?_
  refine o_nil ?_
  refine q_then ?_
  refine s_seq ?_
  refine s_seq ?_
  refine s_reg [0, 1] rfl ?_
  refine o_run ft [0] rfl rfl ?_
  refine oc (k_range (l := a0_s) rfl rfl rfl Tryz.runUnderlying9 (g0 rfl) rfl rfl ?_)
  intro b1
  refine o_nil ?_
  refine q_then ?_
  refine q_join (fun (x3 : Int × Int) (y4 : Unit) => ⟨D0, It b1 a0_s x3.2 :: G0, [(3, (vi x3.1))]⟩) H ?_ ?_
  · intro x3 y4 H
    dsimp only
    refine q_then ?_
    refine s_seq ?_
    refine s_reg [0, 1, 2, 3, 4, 5, 6] rfl ?_
    refine o_run ft [0, 1, 2] rfl rfl ?_
    refine k_name 18 rfl ?_
    intro b5 hb6
    have H := bnd_eq H hb6
    refine o_jb 21 [6] [3, 16, 17, 18] H rfl ?_ ?_
    · intro x8 H
      refine o_run ft [6] rfl rfl ?_
      refine o_nil ?_
      refine q_then ?_
      refine s_ret ?_
      cases H
      exact q_end (rs_1 Tryz.results157 (rv_tmp rfl)) ⟨rfl, rfl, rfl⟩ [] rfl 0 rfl [] rfl 1 rfl
    · intro J7 J7h H
      cases b5 with
      | true =>
        rw [cond_true] at H
        refine o_run ft [3, 4, 5] rfl rfl ?_
        exact k_wk (J7h (decide (x3.1 ≤ 8)) H) [21, 3, 16, 17, 18] [] 0 [0] 0 rfl rfl rfl
      | false =>
        rw [cond_false] at H
        refine o_gnot rfl rfl rfl rfl rfl rfl rfl rfl ?_
        refine o_gnot rfl rfl rfl rfl rfl rfl rfl rfl ?_
        refine o_run ft [5] rfl rfl ?_
        exact k_wk (J7h false H) [21, 3, 16, 17, 18] [] 0 [0] 0 rfl rfl rfl
  · intro J2 J2h H
    refine s_block ?_
    refine s_loop (k_wk (loop_ind (fun (s9 : Int × Int) (y9 : Unit) => ⟨D0, It b1 a0_s s9.2 :: G0, [(3, (vi s9.1)), (7, (.pointer (some ⟨b1, 0, none⟩)))]⟩) (names_Valid_l0 a0_s J2) _ (fun _ => rfl) ?_ Fuel (0, 0) () H) [3, 7] [] 0 [0] 0 rfl rfl rfl)
    intro k9 s9 y9 ih H
    dsimp only
    rw [names_Valid_l0] at H
    refine s_seq ?_
    refine s_reg [0, 1] rfl ?_
    rcases Bool.eq_false_or_eq_true (decide (0 ≤ s9.2 ∧ s9.2 < (a0_s.length : Int))) with hb10 | hb10
    · have H := cnd_t H hb10
      refine oc (k_next 0 rfl rfl rfl rfl (g0 rfl) rfl rfl hb10 ?_)
      refine o_run ft [1] rfl rfl ?_
      refine o_nil ?_
      refine q_then ?_
      refine s_seq ?_
      refine s_cond_t rfl ?_
      refine s_skip ?_
      refine q_then ?_
      refine s_block ?_
      refine s_seq ?_
      refine s_reg [0, 1] rfl ?_
      refine o_run ft [0, 1] rfl rfl ?_
      refine o_nil ?_
      refine q_then ?_
      refine s_seq ?_
      refine s_seq ?_
      refine s_reg [0, 1, 2] rfl ?_
      refine o_run ft [0] rfl rfl ?_
      obtain ⟨r12, Hc13, H⟩ := bind_some' H
      refine oc (k_call (c_names_may (ru a0_s s9.2) r12 Hc13) Tryz.call204 rfl rfl rfl [] [] rfl rfl (g0 rfl) rfl rfl ?_)
      rintro _ _ _ ⟨rfl, rfl, rfl⟩
      dsimp only [app]
      refine o_run ft [2] rfl rfl ?_
      refine o_nil ?_
      refine q_then ?_
      refine s_cond rfl ?_ ?_
      · intro hb14
        have H := cnd_t H hb14
        refine s_seq ?_
        refine s_reg [0] rfl ?_
        refine o_run ft [0] rfl rfl ?_
        refine o_nil ?_
        refine q_then ?_
        refine s_ret ?_
        refine q_then_r ?_
        refine q_block_r ?_
        refine q_then_r ?_
        refine q_block_r ?_
        refine q_then_r ?_
        cases H
        exact q_end (rs_1 Tryz.results157 (rv_tmp rfl)) ⟨rfl, rfl, rfl⟩ [] rfl 0 rfl [] rfl 1 rfl
      · intro hb14
        have H := cnd_f H hb14
        refine s_skip ?_
        refine q_then ?_
        refine s_reg [0, 1, 2] rfl ?_
        refine o_run ft [0, 1, 2] rfl rfl ?_
        refine o_nil ?_
        refine q_block ?_
        refine q_loop ?_
        exact k_wk (ih ((wrap64 (s9.1 + 1)), (s9.2 + rwd a0_s s9.2)) () H) [3, 7] [] 0 [0] 0 rfl rfl rfl
    · have H := cnd_f H hb10
      obtain ⟨hk11, H⟩ := chk_some H
      refine oc (k_over 0 rfl rfl rfl rfl (g0 rfl) rfl rfl hb10 hk11 ?_)
      refine o_run ft [1] rfl rfl ?_
      refine o_nil ?_
      refine q_then ?_
      refine s_seq ?_
      refine s_cond_f rfl ?_
      refine s_exit ?_
      refine q_then_x ?_
      refine q_then_x ?_
      refine q_block_x ?_
      exact k_wk (J2h (s9.1, s9.2) () H) [3] [] 0 [0] 0 rfl rfl rfl

def area_Area_Left (a0_a : AreaS) (a1_sector : Int) (fl0 : FlashS) : Option Int :=
(area_Area_is a0_a a1_sector).bind fun r1 =>
bif (!r1) then (
some 0) else (
(nor_Flash_Wear fl0 (wrap64 (a0_a.from_ + a1_sector))).bind fun r4 =>
some (if 0 < (wrap64 (a0_a.budget - r4)) then (wrap64 (a0_a.budget - r4)) else 0))

theorem c_area_Area_Left (fp0 : Nat) (a0_ap : Nat) (a0_a : AreaS) (a1_sector : Int) (fl0 : FlashS) (fl0g : FlashG) (r : Int) (H : area_Area_Left a0_a a1_sector fl0 = some r) : Fn Tryz.prog 158 [(.pointer (some ⟨a0_ap, 0, none⟩)), (vi a1_sector)] [] [AreaT fp0 () a0_ap a0_a, FlashT fl0g fp0 fl0] (fun v D' G' => v = (vi r) ∧ D' = [] ∧ G' = [AreaT fp0 () a0_ap a0_a, FlashT fl0g fp0 fl0]) := by
  unfold area_Area_Left at H
  refine fn_of Tryz.func158 rfl Tryz.ntmps158 rfl ?_
  intro w0 D0 G0
  dsimp only [app, initEnv, Nat.zero_add, Nat.reduceAdd]
  refine s_seq ?_
  refine s_reg [0] rfl ?_
  refine o_run ft [0] rfl rfl ?_
  refine o_nil ?_
  refine q_then ?_
  refine s_seq ?_
  refine s_seq ?_
  refine s_reg [0, 1, 2, 3] rfl ?_
  refine o_run ft [0, 1] rfl rfl ?_
  obtain ⟨r1, Hc2, H⟩ := bind_some' H
  refine oc (k_call (c_area_Area_is fp0 a0_ap a0_a a1_sector r1 Hc2) Tryz.call159 rfl rfl rfl [] [0] rfl rfl (g0 rfl) rfl rfl ?_)
  rintro _ _ _ ⟨rfl, rfl, rfl⟩
  dsimp only [app]
  refine o_run ft [3] rfl rfl ?_
  refine o_nil ?_
  refine q_then ?_
  refine s_cond rfl ?_ ?_
  · intro hb3
    have H := cnd_t H hb3
    refine s_seq ?_
    refine s_reg [0] rfl ?_
    refine o_run ft [0] rfl rfl ?_
    refine o_nil ?_
    refine q_then ?_
    refine s_ret ?_
    refine q_then_r ?_
    cases H
    exact q_end (rs_1 Tryz.results158 (rv_tmp rfl)) ⟨rfl, rfl, rfl⟩ [] rfl 0 rfl [0, 0] rfl 0 rfl
  · intro hb3
    have H := cnd_f H hb3
    refine s_skip ?_
    refine q_then ?_
    refine s_seq ?_
    refine k_unp 0 rfl ?_
    dsimp only [app, del]
    refine s_draw mixed [(3, [], Has a0_ap 0 [.pointer (some ⟨fp0, 0, none⟩), vi a0_a.from_, vi a0_a.len, vi a0_a.budget]), (7, [14], Has a0_ap 0 [.pointer (some ⟨fp0, 0, none⟩), vi a0_a.from_, vi a0_a.len, vi a0_a.budget]), (11, [], Has a0_ap 0 [.pointer (some ⟨fp0, 0, none⟩), vi a0_a.from_, vi a0_a.len, vi a0_a.budget])] ?_
    refine a_run ft [0, 1, 2] rfl (fun _ _ _ _ _ h => h) (by kernel_rfl) rfl ?_
    refine a_l1 3 0 rfl (by kernel_rfl) rfl (ev_ld1 (j := 3) rfl rfl Tryz.isAgg3 (sub_nth (j := 3) rfl) rfl) (fun _ _ _ h => h) (g0 rfl) rfl rfl ?_
    refine a_run ft [4, 5, 6] rfl (fun _ _ _ _ _ h => h) (by kernel_rfl) rfl ?_
    refine a_l1 7 1 rfl (by kernel_rfl) rfl (ev_ld1 (j := 0) rfl rfl Tryz.isAgg29 (sub_nth (j := 0) rfl) rfl) (fun _ _ _ h => h) (g0 rfl) rfl rfl ?_
    refine a_run ft [8, 9, 10] rfl (fun _ _ _ _ _ h => h) (by kernel_rfl) rfl ?_
    refine a_l1 11 2 rfl (by kernel_rfl) rfl (ev_ld1 (j := 1) rfl rfl Tryz.isAgg3 (sub_nth (j := 1) rfl) rfl) (fun _ _ _ h => h) (g0 rfl) rfl rfl ?_
    refine a_run ft [12, 13] rfl (fun _ _ _ _ _ h => h) (by kernel_rfl) rfl ?_
    refine ac 14 (by kernel_rfl) (sl_cons (hG 0 rfl) (sl_cons (hG 0 rfl) (sl_cons (hG 0 rfl) sl_nil))) ?_
    obtain ⟨r4, Hc5, H⟩ := bind_some' H
    refine k_call (c_nor_Flash_Wear fp0 fl0 fl0g (wrap64 (a0_a.from_ + a1_sector)) r4 Hc5) Tryz.call85 rfl rfl rfl [] [1] rfl rfl (g0 rfl) rfl rfl ?_
    rintro _ _ _ ⟨rfl, rfl, rfl⟩
    dsimp only [app]
    refine a_run ft [15] rfl (fun _ _ _ _ _ h => h) (by kernel_rfl) rfl ?_
    refine a_p1 16 (by kernel_rfl) rfl (ev_max rfl rfl rfl) (fun _ _ _ h => h) (g0 rfl) rfl rfl ?_
    refine a_run ft [17] rfl (fun _ _ _ _ _ h => h) (by kernel_rfl) rfl ?_
    refine a_done (by kernel_rfl) (sl_cons (hG 1 rfl) (sl_end (by kernel_rfl) (sl_cons (hG 1 rfl) sl_nil))) ?_
    refine q_then ?_
    refine s_ret ?_
    refine k_pk (AreaT fp0 () a0_ap a0_a) rfl [] [1] rfl rfl ?_
    cases H
    exact q_end (rs_1 Tryz.results158 (rv_tmp rfl)) ⟨rfl, rfl, rfl⟩ [] rfl 0 rfl [0, 0] rfl 0 rfl

def slices_IndexFunc_l0_f1205_l0 (a0_s : List UInt8) (J1 : Unit → Option Int) : Nat → Int → Option Int
  | 0, _ => none
  | k4 + 1, s4 =>
    bif (decide (s4 < (a0_s.length : Int))) then (
    chk (0 ≤ s4 ∧ s4 < (a0_s.length : Int)) <|
    (__nor_Flash__Blank_1 (at' 0 a0_s s4)).bind fun r7 =>
    bif r7 then (
    some s4) else (
    slices_IndexFunc_l0_f1205_l0 a0_s J1 k4 (wrap64 (s4 + 1)))) else (
    J1 ())

def slices_IndexFunc_l0_f1205 (a0_s : List UInt8) : Option Int :=
jn (fun (x2 : Unit) =>
some (-1)) fun J1 =>
slices_IndexFunc_l0_f1205_l0 a0_s J1 Fuel 0

theorem c_slices_IndexFunc_l0_f1205 (a0_s : List UInt8) (a0_sb : Nat) (a0_sp : Nat) (a0_sq : Nat) (a0_sj : Nat) (a0_sc : Nat) (a0_scs : List Value) (a0_shs : SubAt a0_scs a0_sj (a0_s.flatMap E8)) (a0_shq : a0_sp + a0_sj = a0_sq) (r : Int) (H : slices_IndexFunc_l0_f1205 a0_s = some r) : Fn Tryz.prog 210 [(.slice (some ⟨a0_sb, a0_sq, none⟩) a0_s.length a0_sc), (.func (.func 205) #[] #[])] [] [At a0_sb a0_sp a0_scs] (fun v D' G' => v = (vi r) ∧ D' = [] ∧ G' = [At a0_sb a0_sp a0_scs]) := by
  unfold slices_IndexFunc_l0_f1205 at H
  refine fn_of Tryz.func210 rfl Tryz.ntmps210 rfl ?_
  intro w0 D0 G0
  dsimp only [app, initEnv, Nat.zero_add, Nat.reduceAdd]
  refine s_seq ?_
  refine s_reg [0] rfl ?_
  refine o_run ft [0] rfl rfl ?_
  refine o_nil ?_
  refine q_then ?_
  refine s_seq ?_
  refine s_seq ?_
  refine s_reg [0, 1, 2] rfl ?_
  refine o_run ft [0] rfl rfl ?_
  refine o_pu rfl (ev_len_slice rfl rfl Tryz.runUnderlying22) (g0 rfl) rfl rfl ?_
  refine o_run ft [2] rfl rfl ?_
  refine o_nil ?_
  refine q_then ?_
  refine q_join (fun (x2 : Unit) (y3 : Unit) => ⟨D0, At a0_sb a0_sp a0_scs :: G0, []⟩) H ?_ ?_
  · intro x2 y3 H
    dsimp only
    refine q_then ?_
    refine s_seq ?_
    refine s_reg [0] rfl ?_
    refine o_run ft [0] rfl rfl ?_
    refine o_nil ?_
    refine q_then ?_
    refine s_ret ?_
    cases H
    exact q_end (rs_1 Tryz.results210 (rv_tmp rfl)) ⟨rfl, rfl, rfl⟩ [] rfl 0 rfl [0] rfl 0 rfl
  · intro J1 J1h H
    refine s_block ?_
    refine s_loop (k_wk (loop_ind (fun (s4 : Int) (y4 : Unit) => ⟨D0, At a0_sb a0_sp a0_scs :: G0, [(0, (.slice (some ⟨a0_sb, a0_sq, none⟩) a0_s.length a0_sc)), (1, (.func (.func 205) #[] #[])), (7, (vi (a0_s.length : Int))), (8, (vi s4))]⟩) (slices_IndexFunc_l0_f1205_l0 a0_s J1) _ (fun _ => rfl) ?_ Fuel 0 () H) [0, 1, 7, 8] [] 0 [0] 0 rfl rfl rfl)
    intro k4 s4 y4 ih H
    dsimp only
    rw [slices_IndexFunc_l0_f1205_l0] at H
    refine s_seq ?_
    refine s_reg [0] rfl ?_
    refine o_run ft [0] rfl rfl ?_
    refine o_nil ?_
    refine q_then ?_
    refine s_seq ?_
    refine s_cond rfl ?_ ?_
    · intro hb5
      have H := cnd_t H hb5
      refine s_skip ?_
      refine q_then ?_
      refine s_seq ?_
      refine s_block ?_
      refine s_seq ?_
      refine s_reg [0, 1] rfl ?_
      refine o_run ft [0, 1] rfl rfl ?_
      refine o_nil ?_
      refine q_then ?_
      refine s_seq ?_
      refine s_reg [0, 1, 2, 3, 4, 5] rfl ?_
      refine o_run ft [0, 1, 2] rfl rfl ?_
      obtain ⟨hk6, H⟩ := chk_some H
      refine o_pu rfl (ev_idx_slice rfl rfl rfl Tryz.runUnderlying22 Tryz.sizeOf5 hk6 rfl) (g0 rfl) rfl rfl ?_
      refine o_ld (hG 0 rfl) rfl (ev_ld1 rfl rfl Tryz.isAgg5 (sub_sub a0_shs (sub_map E8_len 0 (k := s4) hk6 rfl) rfl) (by omega)) (g0 rfl) rfl rfl ?_
      obtain ⟨r7, Hc8, H⟩ := bind_some' H
      refine oc (k_callv (c___nor_Flash__Blank_1 (at' 0 a0_s s4) r7 Hc8) Tryz.call205 rfl rfl rfl rfl [] [] rfl rfl (g0 rfl) rfl rfl ?_)
      rintro _ _ _ ⟨rfl, rfl, rfl⟩
      dsimp only [app]
      refine o_nil ?_
      refine q_then ?_
      refine s_cond rfl ?_ ?_
      · intro hb9
        have H := cnd_t H hb9
        refine s_seq ?_
        refine s_reg [0, 1] rfl ?_
        refine o_run ft [0, 1] rfl rfl ?_
        refine o_nil ?_
        refine q_then ?_
        refine s_ret ?_
        refine q_block_r ?_
        refine q_then_r ?_
        refine q_then_r ?_
        refine q_block_r ?_
        refine q_then_r ?_
        cases H
        exact q_end (rs_1 Tryz.results210 (rv_tmp rfl)) ⟨rfl, rfl, rfl⟩ [] rfl 0 rfl [0] rfl 0 rfl
      · intro hb9
        have H := cnd_f H hb9
        refine s_skip ?_
        refine q_block ?_
        refine q_then ?_
        refine s_reg [0, 1] rfl ?_
        refine o_run ft [0, 1] rfl rfl ?_
        refine o_nil ?_
        refine q_loop ?_
        exact k_wk (ih (wrap64 (s4 + 1)) () H) [0, 1, 7, 8] [] 0 [0] 0 rfl rfl rfl
    · intro hb5
      have H := cnd_f H hb5
      refine s_exit ?_
      refine q_then_x ?_
      refine q_then_x ?_
      refine q_block_x ?_
      exact k_wk (J1h () () H) [] [] 0 [0] 0 rfl rfl rfl

def slices_ContainsFunc_l0_f1205 (a0_s : List UInt8) : Option Bool :=
(slices_IndexFunc_l0_f1205 a0_s).bind fun r1 =>
some (decide (r1 ≥ 0))

theorem c_slices_ContainsFunc_l0_f1205 (a0_s : List UInt8) (a0_sb : Nat) (a0_sp : Nat) (a0_sq : Nat) (a0_sj : Nat) (a0_sc : Nat) (a0_scs : List Value) (a0_shs : SubAt a0_scs a0_sj (a0_s.flatMap E8)) (a0_shq : a0_sp + a0_sj = a0_sq) (r : Bool) (H : slices_ContainsFunc_l0_f1205 a0_s = some r) : Fn Tryz.prog 173 [(.slice (some ⟨a0_sb, a0_sq, none⟩) a0_s.length a0_sc), (.func (.func 205) #[] #[])] [] [At a0_sb a0_sp a0_scs] (fun v D' G' => v = (vb r) ∧ D' = [] ∧ G' = [At a0_sb a0_sp a0_scs]) := by
  unfold slices_ContainsFunc_l0_f1205 at H
  refine fn_of Tryz.func173 rfl Tryz.ntmps173 rfl ?_
  intro w0 D0 G0
  dsimp only [app, initEnv, Nat.zero_add, Nat.reduceAdd]
  refine s_seq ?_
  refine s_reg [0] rfl ?_
  refine o_run ft [0] rfl rfl ?_
  refine o_nil ?_
  refine q_then ?_
  refine s_seq ?_
  refine s_reg [0, 1, 2, 3, 4] rfl ?_
  refine o_run ft [0, 1] rfl rfl ?_
  obtain ⟨r1, Hc2, H⟩ := bind_some' H
  refine oc (k_call (c_slices_IndexFunc_l0_f1205 a0_s a0_sb a0_sp a0_sq _ a0_sc a0_scs (a0_shs) a0_shq r1 Hc2) Tryz.call210 rfl rfl rfl [] [0] rfl rfl (g0 rfl) rfl rfl ?_)
  rintro _ _ _ ⟨rfl, rfl, rfl⟩
  dsimp only [app]
  refine o_run ft [3, 4] rfl rfl ?_
  refine o_nil ?_
  refine q_then ?_
  refine s_ret ?_
  cases H
  exact q_end (rs_1 Tryz.results173 (rv_tmp rfl)) ⟨rfl, rfl, rfl⟩ [] rfl 0 rfl [0] rfl 0 rfl

def nor_Flash_Blank (a0_f : FlashS) (a1_sector : Int) : Option Bool :=
(nor_Flash_is a0_f a1_sector).bind fun r1 =>
bnd r1 fun b3 =>
jn (fun x6 =>
some x6) fun J5 =>
bif b3 then (
chk (0 ≤ (wrap64 (a1_sector * 320)) ∧ (wrap64 (a1_sector * 320)) ≤ (wrap64 ((wrap64 (a1_sector + 1)) * 320)) ∧ (wrap64 ((wrap64 (a1_sector + 1)) * 320)) ≤ (a0_f.b.length : Int) ∧ ((wrap64 (a1_sector * 320)) = 0 ∨ (wrap64 (a1_sector * 320)) < (a0_f.b.length : Int))) <|
chk (0 ≤ (wrap64 (a1_sector * 320)) ∧ (wrap64 (a1_sector * 320)) ≤ (wrap64 ((wrap64 (a1_sector + 1)) * 320)) ∧ (wrap64 ((wrap64 (a1_sector + 1)) * 320)) ≤ (a0_f.b.length : Int)) <|
(slices_ContainsFunc_l0_f1205 (slc a0_f.b (wrap64 (a1_sector * 320)) (wrap64 ((wrap64 (a1_sector + 1)) * 320)))).bind fun r8 =>
J5 (!r8)) else
J5 false

theorem c_nor_Flash_Blank (a0_fp : Nat) (a0_f : FlashS) (a0_fg : FlashG) (a1_sector : Int) (r : Bool) (H : nor_Flash_Blank a0_f a1_sector = some r) : Fn Tryz.prog 160 [(.pointer (some ⟨a0_fp, 0, none⟩)), (vi a1_sector)] [] [FlashT a0_fg a0_fp a0_f] (fun v D' G' => v = (vb r) ∧ D' = [] ∧ G' = [FlashT a0_fg a0_fp a0_f]) := by
  unfold nor_Flash_Blank at H
  refine fn_of Tryz.func160 rfl Tryz.ntmps160 rfl ?_
  intro w0 D0 G0
  dsimp only [app, initEnv, Nat.zero_add, Nat.reduceAdd]
  refine s_seq ?_
  refine s_reg [0] rfl ?_
  refine o_run ft [0] rfl rfl ?_
  refine o_nil ?_
  refine q_then ?_
  refine s_seq ?_
  refine s_reg [0, 1, 2, 3, 4, 5, 6, 7, 8, 9, 10, 11, 12, 13, 14, 15, 16, 17] rfl ?_
  refine o_run ft [0, 1] rfl rfl ?_
  obtain ⟨r1, Hc2, H⟩ := bind_some' H
  refine oc (k_call (c_nor_Flash_is a0_fp a0_f a0_fg a1_sector r1 Hc2) Tryz.call152 rfl rfl rfl [] [0] rfl rfl (g0 rfl) rfl rfl ?_)
  rintro _ _ _ ⟨rfl, rfl, rfl⟩
  dsimp only [app]
  refine o_run ft [3] rfl rfl ?_
  refine k_name 8 rfl ?_
  intro b3 hb4
  have H := bnd_eq H hb4
  refine o_jb 21 [17] [0, 1, 4, 5, 6, 7, 8] H rfl ?_ ?_
  · intro x6 H
    refine o_run ft [17] rfl rfl ?_
    refine o_nil ?_
    refine q_then ?_
    refine s_ret ?_
    cases H
    exact q_end (rs_1 Tryz.results160 (rv_tmp rfl)) ⟨rfl, rfl, rfl⟩ [] rfl 0 rfl [0] rfl 0 rfl
  · intro J5 J5h H
    cases b3 with
    | true =>
      rw [cond_true] at H
      refine o_run ft [4, 5, 6] rfl rfl ?_
      refine k_unp 0 rfl ?_
      dsimp only [app, del]
      refine o_ld (hG 0 rfl) rfl (ev_ld1 (j := 0) rfl rfl Tryz.isAgg22 (sub_nth (j := 0) rfl) rfl) (g1 rfl rfl rfl rfl) rfl rfl ?_
      refine o_run ft [8, 9, 10, 11, 12] rfl rfl ?_
      obtain ⟨hk7, H⟩ := chk_some H
      refine o_pu rfl (ev_slice_o (a := (wrap64 (a1_sector * 320))) (b' := (wrap64 ((wrap64 (a1_sector + 1)) * 320))) rfl rfl Tryz.runUnderlying22 Tryz.sizeOf5 (.inr rfl) (.inr rfl) ⟨hk7.1, hk7.2.1, hk7.2.2.1, Nat.le_refl _, hk7.2.2.2⟩ rfl) (g1 rfl rfl rfl rfl) rfl rfl ?_
      obtain ⟨hk10, H⟩ := chk_some H
      refine k_eq (v' := (.slice (some ⟨a0_fg.b0, (0 + (wrap64 (a1_sector * 320)).toNat * 1), none⟩) ((slc a0_f.b (wrap64 (a1_sector * 320)) (wrap64 ((wrap64 (a1_sector + 1)) * 320))).length) (a0_f.b.length - (wrap64 (a1_sector * 320)).toNat))) 18 rfl (congrArg (fun z => Value.slice (some ⟨a0_fg.b0, (0 + (wrap64 (a1_sector * 320)).toNat * 1), none⟩) z (a0_f.b.length - (wrap64 (a1_sector * 320)).toNat)) (slc_length _ hk10.1 hk10.2.1 hk10.2.2).symm) ?_
      obtain ⟨r8, Hc9, H⟩ := bind_some' H
      refine oc (k_call (c_slices_ContainsFunc_l0_f1205 (slc a0_f.b (wrap64 (a1_sector * 320)) (wrap64 ((wrap64 (a1_sector + 1)) * 320))) a0_fg.b0 0 (0 + (wrap64 (a1_sector * 320)).toNat * 1) _ (a0_f.b.length - (wrap64 (a1_sector * 320)).toNat) (a0_f.b.flatMap E8) (sub_slc E8_len hk10 rfl) (by omega) r8 Hc9) Tryz.call173 rfl rfl rfl [] [1] rfl rfl (g1 rfl rfl rfl rfl) rfl rfl ?_)
      rintro _ _ _ ⟨rfl, rfl, rfl⟩
      dsimp only [app]
      refine o_run ft [15, 16] rfl rfl ?_
      refine k_pk (FlashT a0_fg a0_fp a0_f) rfl [0] [1, 0, 0] rfl rfl ?_
      exact k_wk (J5h (!r8) H) [21, 0, 1, 4, 5, 6, 7, 8] [] 1 [0] 0 rfl rfl rfl
    | false =>
      rw [cond_false] at H
      refine o_gnot rfl rfl rfl rfl rfl rfl rfl rfl ?_
      refine o_gnot rfl rfl rfl rfl rfl rfl rfl rfl ?_
      refine o_gnot rfl rfl rfl rfl rfl rfl rfl rfl ?_
      refine o_gnot rfl rfl rfl rfl rfl rfl rfl rfl ?_
      refine o_gnot rfl rfl rfl rfl rfl rfl rfl rfl ?_
      refine o_gnot rfl rfl rfl rfl rfl rfl rfl rfl ?_
      refine o_gnot rfl rfl rfl rfl rfl rfl rfl rfl ?_
      refine o_gnot rfl rfl rfl rfl rfl rfl rfl rfl ?_
      refine o_gnot rfl rfl rfl rfl rfl rfl rfl rfl ?_
      refine o_gnot rfl rfl rfl rfl rfl rfl rfl rfl ?_
      refine o_gnot rfl rfl rfl rfl rfl rfl rfl rfl ?_
      refine o_gnot rfl rfl rfl rfl rfl rfl rfl rfl ?_
      refine o_run ft [16] rfl rfl ?_
      exact k_wk (J5h false H) [21, 0, 1, 4, 5, 6, 7, 8] [] 0 [0] 0 rfl rfl rfl

def cell_Get (a0_b : List UInt8) : Option (Int × (List UInt8) × Bool) :=
(dual_Get a0_b).bind fun r3 =>
bnd (!r3.2) fun b7 =>
jn (fun x10 =>
bif x10 then (
some (0, [], false)) else (
(field_NewReader r3.1).bind fun r12 =>
(field_Reader_Num (⟨r12.b, r12.bad⟩ : ReaderS) (4 : Int)).bind fun r17 =>
(cell_May r17.1).bind fun r21 =>
bif (!r21) then (
some (0, [], false)) else (
(field_Reader_Raw (⟨r17.2.b, r17.2.bad⟩ : ReaderS) (156 : Int)).bind fun r24 =>
some (r17.1, r24.1, true)))) fun J9 =>
bif b7 then (
J9 true) else
J9 ((a0_b.length : Int) != 320)

theorem c_cell_Get (a0_b : List UInt8) (A1 : Option Addr) (c2 : Nat) (r : Int × (List UInt8) × Bool) (H : cell_Get a0_b = some r) : Fn Tryz.prog 163 [(.slice A1 a0_b.length c2)] [Sl E8 A1 c2 a0_b] [] (fun v D' G' => ∃ (A30 : Option Addr) (c31 : Nat), v = (.tuple #[(vi r.1), (.slice A30 r.2.1.length c31), (vb r.2.2)]) ∧ D' = [Sl E8 A30 c31 r.2.1] ∧ G' = [Spare A30 r.2.1.length c31 1]) := by
  unfold cell_Get at H
  refine fn_of Tryz.func163 rfl Tryz.ntmps163 rfl ?_
  intro w0 D0 G0
  dsimp only [app, initEnv, Nat.zero_add, Nat.reduceAdd]
  refine s_seq ?_
  refine s_reg [0, 1, 2] rfl ?_
  refine o_run ft [0, 1, 2] rfl rfl ?_
  refine o_nil ?_
  refine q_then ?_
  refine s_seq ?_
  refine s_reg [0, 1, 2, 3, 4, 5, 6] rfl ?_
  refine o_run ft [0] rfl rfl ?_
  obtain ⟨r3, Hc4, H⟩ := bind_some' H
  refine oc (k_call (c_dual_Get a0_b A1 c2 r3 Hc4) Tryz.call208 rfl rfl rfl [0] [] rfl rfl (g0 rfl) rfl rfl ?_)
  rintro _ _ _ ⟨A5, c6, rfl, rfl, rfl⟩
  dsimp only [app]
  refine o_run ft [2, 3, 4, 5, 6] rfl rfl ?_
  refine o_nil ?_
  refine q_then ?_
  refine s_seq ?_
  refine s_seq ?_
  refine s_reg [0, 1, 2, 3, 4, 5, 6] rfl ?_
  refine o_run ft [0, 1, 2] rfl rfl ?_
  refine k_name 16 rfl ?_
  intro b7 hb8
  have H := bnd_eq H hb8
  refine o_jb 20 [] [0, 2, 3, 4, 5, 6, 9, 10, 11, 12, 13, 14, 15, 16] H rfl ?_ ?_
  · intro x10 H
    refine o_nil ?_
    refine q_then ?_
    refine s_cond rfl ?_ ?_
    · intro hb11
      have H := cnd_t H hb11
      refine s_seq ?_
      refine s_reg [0, 1, 2] rfl ?_
      refine o_run ft [0, 1, 2] rfl rfl ?_
      refine o_nil ?_
      refine q_then ?_
      refine s_ret ?_
      refine q_then_r ?_
      cases H
      refine k_nil_sl E8 ?_
      refine k_nil_spare 1 ?_
      exact q_end (rs_3 Tryz.results163 (rv_tmp rfl) (rv_tmp rfl) (rv_tmp rfl)) ⟨none, 0, rfl, rfl, rfl⟩ [0] rfl 3 rfl [0] rfl 1 rfl
    · intro hb11
      have H := cnd_f H hb11
      refine s_skip ?_
      refine q_then ?_
      refine s_seq ?_
      refine s_reg [0, 1, 2] rfl ?_
      refine o_run ft [0] rfl rfl ?_
      obtain ⟨r12, Hc13, H⟩ := bind_some' H
      refine oc (k_call (c_field_NewReader r3.1 A5 c6 r12 Hc13) Tryz.call107 rfl rfl rfl [0] [] rfl rfl (g0 rfl) rfl rfl ?_)
      rintro _ _ _ ⟨b14, A15, c16, rfl, rfl, rfl⟩
      dsimp only [app]
      refine o_run ft [2] rfl rfl ?_
      refine o_nil ?_
      refine q_then ?_
      refine s_seq ?_
      refine s_reg [0, 1, 2] rfl ?_
      refine o_run ft [0] rfl rfl ?_
      obtain ⟨r17, Hc18, H⟩ := bind_some' H
      refine oc (k_call (c_field_Reader_Num b14 (⟨r12.b, r12.bad⟩ : ReaderS) A15 c16 4 r17 Hc18) Tryz.call108 rfl rfl rfl [0] [0] rfl rfl (g0 rfl) rfl rfl ?_)
      rintro _ _ _ ⟨A19, c20, rfl, rfl, rfl⟩
      dsimp only [app]
      refine o_run ft [2] rfl rfl ?_
      refine o_nil ?_
      refine q_then ?_
      refine s_seq ?_
      refine s_seq ?_
      refine s_reg [0, 1, 2] rfl ?_
      refine o_run ft [0] rfl rfl ?_
      obtain ⟨r21, Hc22, H⟩ := bind_some' H
      refine oc (k_call (c_cell_May r17.1 r21 Hc22) Tryz.call164 rfl rfl rfl [] [] rfl rfl (g0 rfl) rfl rfl ?_)
      rintro _ _ _ ⟨rfl, rfl, rfl⟩
      dsimp only [app]
      refine o_run ft [2] rfl rfl ?_
      refine o_nil ?_
      refine q_then ?_
      refine s_cond rfl ?_ ?_
      · intro hb23
        have H := cnd_t H hb23
        refine s_seq ?_
        refine s_reg [0, 1, 2] rfl ?_
        refine o_run ft [0, 1, 2] rfl rfl ?_
        refine o_nil ?_
        refine q_then ?_
        refine s_ret ?_
        refine q_then_r ?_
        cases H
        refine k_nil_sl E8 ?_
        refine k_nil_spare 1 ?_
        exact q_end (rs_3 Tryz.results163 (rv_tmp rfl) (rv_tmp rfl) (rv_tmp rfl)) ⟨none, 0, rfl, rfl, rfl⟩ [0] rfl 5 rfl [0] rfl 2 rfl
      · intro hb23
        have H := cnd_f H hb23
        refine s_skip ?_
        refine q_then ?_
        refine s_seq ?_
        refine s_reg [0, 1, 2, 3, 4, 5] rfl ?_
        refine o_run ft [0, 1] rfl rfl ?_
        obtain ⟨r24, Hc25, H⟩ := bind_some' H
        refine oc (k_call (c_field_Reader_Raw b14 (⟨r17.2.b, r17.2.bad⟩ : ReaderS) A19 c20 156 r24 Hc25) Tryz.call171 rfl rfl rfl [0] [0] rfl rfl (g0 rfl) rfl rfl ?_)
        rintro _ _ _ ⟨A26, c27, A28, c29, rfl, rfl, rfl⟩
        dsimp only [app]
        refine o_run ft [3, 4, 5] rfl rfl ?_
        refine o_nil ?_
        refine q_then ?_
        refine s_ret ?_
        cases H
        exact q_end (rs_3 Tryz.results163 (rv_tmp rfl) (rv_tmp rfl) (rv_tmp rfl)) ⟨A26, c27, rfl, rfl, rfl⟩ [1] rfl 6 rfl [0] rfl 2 rfl
  · intro J9 J9h H
    cases b7 with
    | true =>
      rw [cond_true] at H
      refine o_gnot rfl rfl rfl rfl rfl rfl rfl rfl ?_
      refine o_gnot rfl rfl rfl rfl rfl rfl rfl rfl ?_
      refine o_gnot rfl rfl rfl rfl rfl rfl rfl rfl ?_
      refine o_run ft [6] rfl rfl ?_
      exact k_wk (J9h true H) [20, 0, 2, 3, 4, 5, 6, 9, 10, 11, 12, 13, 14, 15, 16] [0, 1] 2 [0] 0 rfl rfl rfl
    | false =>
      rw [cond_false] at H
      refine o_run ft [3] rfl rfl ?_
      refine o_pu rfl (ev_len_slice rfl rfl Tryz.runUnderlying22) (g1 rfl rfl rfl rfl) rfl rfl ?_
      refine o_run ft [5, 6] rfl rfl ?_
      exact k_wk (J9h ((a0_b.length : Int) != 320) H) [20, 0, 2, 3, 4, 5, 6, 9, 10, 11, 12, 13, 14, 15, 16] [0, 1] 2 [0] 0 rfl rfl rfl

def meta_image (a0_i : Img) : Option Bool :=
bnd (a0_i.Version == 0) fun b2 =>
jn (fun x5 =>
bif x5 then (
(meta_none a0_i).bind fun r7 =>
some r7) else (
bnd (decide (a0_i.Version > 0)) fun b9 =>
jn (fun x12 =>
bnd x12 fun b13 =>
jn (fun x16 =>
bnd x16 fun b17 =>
jn (fun x20 =>
some x20) fun J19 =>
bif b17 then (
J19 (decide (a0_i.Size ≤ 1920))) else
J19 false) fun J15 =>
bif b13 then (
J15 (decide (a0_i.Size > 0))) else
J15 false) fun J11 =>
bif b9 then (
J11 (decide (a0_i.Version ≤ 1073741824))) else
J11 false)) fun J4 =>
bif b2 then (
J4 true) else
J4 (a0_i.Size == 0)

theorem c_meta_image (a0_i : Img) (r : Bool) (H : meta_image a0_i = some r) : Fn Tryz.prog 167 [(.agg (Img.cells a0_i).toArray)] [] [] (fun v D' G' => v = (vb r) ∧ D' = [] ∧ G' = []) := by
  unfold meta_image at H
  refine fn_of Tryz.func167 rfl Tryz.ntmps167 rfl ?_
  intro w0 D0 G0
  dsimp only [app, initEnv, Nat.zero_add, Nat.reduceAdd]
  refine s_seq ?_
  refine s_reg [0, 1] rfl ?_
  refine oc (k_box rfl rfl rfl (cs := Img.cells a0_i) rfl (g0 rfl) rfl rfl ?_)
  intro b1
  refine o_run ft [1] rfl rfl ?_
  refine o_nil ?_
  refine q_then ?_
  refine s_seq ?_
  refine s_seq ?_
  refine s_reg [0, 1, 2, 3, 4, 5, 6, 7] rfl ?_
  refine o_run ft [0] rfl rfl ?_
  refine o_ld (hG 0 rfl) rfl (ev_ld1 (j := 0) rfl rfl Tryz.isAgg3 (Img.sub_Version _) rfl) (g0 rfl) rfl rfl ?_
  refine o_run ft [2, 3] rfl rfl ?_
  refine k_name 6 rfl ?_
  intro b2 hb3
  have H := bnd_eq H hb3
  refine o_jb 10 [] [0, 1, 2, 3, 4, 5, 6] H rfl ?_ ?_
  · intro x5 H
    refine o_nil ?_
    refine q_then ?_
    refine s_cond rfl ?_ ?_
    · intro hb6
      have H := cnd_t H hb6
      refine s_seq ?_
      refine s_reg [0, 1, 2] rfl ?_
      refine o_ld (hG 0 rfl) rfl (ev_ldN (j := 0) rfl rfl Tryz.isAgg49 (sz (Img.len _) Tryz.sizeOf49) (sub_all _) rfl) (g0 rfl) rfl rfl ?_
      obtain ⟨r7, Hc8, H⟩ := bind_some' H
      refine oc (k_call (c_meta_none a0_i r7 Hc8) Tryz.call168 rfl rfl rfl [] [] rfl rfl (g0 rfl) rfl rfl ?_)
      rintro _ _ _ ⟨rfl, rfl, rfl⟩
      dsimp only [app]
      refine o_run ft [2] rfl rfl ?_
      refine o_nil ?_
      refine q_then ?_
      refine s_ret ?_
      refine q_then_r ?_
      cases H
      exact q_end (rs_1 Tryz.results167 (rv_tmp rfl)) ⟨rfl, rfl, rfl⟩ [] rfl 0 rfl [] rfl 1 rfl
    · intro hb6
      have H := cnd_f H hb6
      refine s_skip ?_
      refine q_then ?_
      refine s_seq ?_
      refine s_reg [0, 1, 2, 3, 4, 5, 6, 7, 8, 9, 10, 11, 12, 13, 14, 15, 16, 17, 18] rfl ?_
      refine o_run ft [0] rfl rfl ?_
      refine o_ld (hG 0 rfl) rfl (ev_ld1 (j := 0) rfl rfl Tryz.isAgg3 (Img.sub_Version _) rfl) (g0 rfl) rfl rfl ?_
      refine o_run ft [2, 3] rfl rfl ?_
      refine k_name 16 rfl ?_
      intro b9 hb10
      have H := bnd_eq H hb10
      refine o_jb 20 [8, 9, 10, 11, 12, 13, 14, 15, 16, 17, 18] [0, 1, 2, 3, 4, 5, 6, 10, 13, 14, 15, 16] H rfl ?_ ?_
      · intro x12 H
        refine o_run ft [8] rfl rfl ?_
        refine k_name 21 rfl ?_
        intro b13 hb14
        have H := bnd_eq H hb14
        refine o_jb 25 [13, 14, 15, 16, 17, 18] [0, 1, 2, 3, 4, 5, 6, 10, 13, 14, 15, 16, 20, 21] H rfl ?_ ?_
        · intro x16 H
          refine o_run ft [13] rfl rfl ?_
          refine k_name 26 rfl ?_
          intro b17 hb18
          have H := bnd_eq H hb18
          refine o_jb 30 [18] [0, 1, 2, 3, 4, 5, 6, 10, 13, 14, 15, 16, 20, 21, 25, 26] H rfl ?_ ?_
          · intro x20 H
            refine o_run ft [18] rfl rfl ?_
            refine o_nil ?_
            refine q_then ?_
            refine s_ret ?_
            cases H
            exact q_end (rs_1 Tryz.results167 (rv_tmp rfl)) ⟨rfl, rfl, rfl⟩ [] rfl 0 rfl [] rfl 1 rfl
          · intro J19 J19h H
            cases b17 with
            | true =>
              rw [cond_true] at H
              refine o_run ft [14] rfl rfl ?_
              refine o_ld (hG 0 rfl) rfl (ev_ld1 (j := 1) rfl rfl Tryz.isAgg3 (Img.sub_Size _) rfl) (g1 rfl rfl rfl rfl) rfl rfl ?_
              refine o_run ft [16, 17] rfl rfl ?_
              exact k_wk (J19h (decide (a0_i.Size ≤ 1920)) H) [30, 0, 1, 2, 3, 4, 5, 6, 10, 13, 14, 15, 16, 20, 21, 25, 26] [] 0 [0] 0 rfl rfl rfl
            | false =>
              rw [cond_false] at H
              refine o_gnot rfl rfl rfl rfl rfl rfl rfl rfl ?_
              refine o_gnot rfl rfl rfl rfl rfl rfl rfl rfl ?_
              refine o_gnot rfl rfl rfl rfl rfl rfl rfl rfl ?_
              refine o_run ft [17] rfl rfl ?_
              exact k_wk (J19h false H) [30, 0, 1, 2, 3, 4, 5, 6, 10, 13, 14, 15, 16, 20, 21, 25, 26] [] 0 [0] 0 rfl rfl rfl
        · intro J15 J15h H
          cases b13 with
          | true =>
            rw [cond_true] at H
            refine o_run ft [9] rfl rfl ?_
            refine o_ld (hG 0 rfl) rfl (ev_ld1 (j := 1) rfl rfl Tryz.isAgg3 (Img.sub_Size _) rfl) (g1 rfl rfl rfl rfl) rfl rfl ?_
            refine o_run ft [11, 12] rfl rfl ?_
            exact k_wk (J15h (decide (a0_i.Size > 0)) H) [25, 0, 1, 2, 3, 4, 5, 6, 10, 13, 14, 15, 16, 20, 21] [] 0 [0] 0 rfl rfl rfl
          | false =>
            rw [cond_false] at H
            refine o_gnot rfl rfl rfl rfl rfl rfl rfl rfl ?_
            refine o_gnot rfl rfl rfl rfl rfl rfl rfl rfl ?_
            refine o_gnot rfl rfl rfl rfl rfl rfl rfl rfl ?_
            refine o_run ft [12] rfl rfl ?_
            exact k_wk (J15h false H) [25, 0, 1, 2, 3, 4, 5, 6, 10, 13, 14, 15, 16, 20, 21] [] 0 [0] 0 rfl rfl rfl
      · intro J11 J11h H
        cases b9 with
        | true =>
          rw [cond_true] at H
          refine o_run ft [4] rfl rfl ?_
          refine o_ld (hG 0 rfl) rfl (ev_ld1 (j := 0) rfl rfl Tryz.isAgg3 (Img.sub_Version _) rfl) (g1 rfl rfl rfl rfl) rfl rfl ?_
          refine o_run ft [6, 7] rfl rfl ?_
          exact k_wk (J11h (decide (a0_i.Version ≤ 1073741824)) H) [20, 0, 1, 2, 3, 4, 5, 6, 10, 13, 14, 15, 16] [] 0 [0] 0 rfl rfl rfl
        | false =>
          rw [cond_false] at H
          refine o_gnot rfl rfl rfl rfl rfl rfl rfl rfl ?_
          refine o_gnot rfl rfl rfl rfl rfl rfl rfl rfl ?_
          refine o_gnot rfl rfl rfl rfl rfl rfl rfl rfl ?_
          refine o_run ft [7] rfl rfl ?_
          exact k_wk (J11h false H) [20, 0, 1, 2, 3, 4, 5, 6, 10, 13, 14, 15, 16] [] 0 [0] 0 rfl rfl rfl
  · intro J4 J4h H
    cases b2 with
    | true =>
      rw [cond_true] at H
      refine o_gnot rfl rfl rfl rfl rfl rfl rfl rfl ?_
      refine o_gnot rfl rfl rfl rfl rfl rfl rfl rfl ?_
      refine o_gnot rfl rfl rfl rfl rfl rfl rfl rfl ?_
      refine o_run ft [7] rfl rfl ?_
      exact k_wk (J4h true H) [10, 0, 1, 2, 3, 4, 5, 6] [] 0 [0] 0 rfl rfl rfl
    | false =>
      rw [cond_false] at H
      refine o_run ft [4] rfl rfl ?_
      refine o_ld (hG 0 rfl) rfl (ev_ld1 (j := 1) rfl rfl Tryz.isAgg3 (Img.sub_Size _) rfl) (g1 rfl rfl rfl rfl) rfl rfl ?_
      refine o_run ft [6, 7] rfl rfl ?_
      exact k_wk (J4h (a0_i.Size == 0) H) [10, 0, 1, 2, 3, 4, 5, 6] [] 0 [0] 0 rfl rfl rfl

def meta_phase (a0_m : MetaS) : Option Bool :=
bif (a0_m.Phase == 0) then (
(meta_none a0_m.Coming).bind fun r3 =>
bnd r3 fun b5 =>
jn (fun x8 =>
bnd x8 fun b9 =>
jn (fun x12 =>
some x12) fun J11 =>
bif b9 then (
J11 (a0_m.Trials == 0)) else
J11 false) fun J7 =>
bif b5 then (
J7 (a0_m.Got == 0)) else
J7 false) else (
jn (fun (x15 : Bool) =>
bif x15 then (
(meta_chunks a0_m.Coming).bind fun r18 =>
(meta_none a0_m.Coming).bind fun r20 =>
bnd (!r20) fun b22 =>
jn (fun x25 =>
bnd x25 fun b26 =>
jn (fun x29 =>
bnd x29 fun b30 =>
jn (fun x33 =>
some x33) fun J32 =>
bif b30 then (
bnd (a0_m.Got == r18) fun b34 =>
jn (fun x37 =>
J32 x37) fun J36 =>
bif b34 then (
J36 true) else
bnd (a0_m.Phase == 1) fun b38 =>
jn (fun x41 =>
J36 x41) fun J40 =>
bif b38 then (
J40 (decide (a0_m.Got < r18))) else
J40 false) else
J32 false) fun J28 =>
bif b26 then (
J28 (a0_m.Trials == 0)) else
J28 false) fun J24 =>
bif b22 then (
(meta_Other a0_m).bind fun r42 =>
chk (0 ≤ r42 ∧ r42 < 2) <|
(meta_none (at' Img.zero a0_m.Have.l r42)).bind fun r45 =>
J24 r45) else
J24 false) else (
bif (a0_m.Phase == 3) then (
(meta_none a0_m.Coming).bind fun r48 =>
bnd r48 fun b50 =>
jn (fun x53 =>
bnd x53 fun b54 =>
jn (fun x57 =>
some x57) fun J56 =>
bif b54 then (
(meta_Other a0_m).bind fun r58 =>
chk (0 ≤ r58 ∧ r58 < 2) <|
(meta_none (at' Img.zero a0_m.Have.l r58)).bind fun r61 =>
J56 (!r61)) else
J56 false) fun J52 =>
bif b50 then (
J52 (a0_m.Got == 0)) else
J52 false) else (
some false))) fun J14 =>
bif (a0_m.Phase == 1) then (
J14 (a0_m.Phase == 1)) else (
J14 (a0_m.Phase == 2)))

theorem c_meta_phase (a0_m : MetaS) (r : Bool) (H : meta_phase a0_m = some r) : Fn Tryz.prog 169 [(.agg (MetaS.cells a0_m).toArray)] [] [] (fun v D' G' => v = (vb r) ∧ D' = [] ∧ G' = []) := by
  unfold meta_phase at H
  refine fn_of Tryz.func169 rfl Tryz.ntmps169 rfl ?_
  intro w0 D0 G0
  dsimp only [app, initEnv, Nat.zero_add, Nat.reduceAdd]
  refine s_seq ?_
  refine s_reg [0, 1] rfl ?_
  refine oc (k_box rfl rfl rfl (cs := MetaS.cells a0_m) rfl (g0 rfl) rfl rfl ?_)
  intro b1
  refine o_run ft [1] rfl rfl ?_
  refine o_nil ?_
  refine q_then ?_
  refine s_seq ?_
  refine s_seq ?_
  refine s_reg [0, 1] rfl ?_
  refine o_run ft [0] rfl rfl ?_
  refine o_ld (hG 0 rfl) rfl (ev_ld1 (j := 70) rfl rfl Tryz.isAgg3 (MetaS.sub_Phase _) rfl) (g0 rfl) rfl rfl ?_
  refine o_nil ?_
  refine q_then ?_
  refine s_block ?_
  refine s_seq ?_
  refine s_reg [0, 1] rfl ?_
  refine o_run ft [0, 1] rfl rfl ?_
  refine o_nil ?_
  refine q_then ?_
  refine s_cond rfl ?_ ?_
  · intro hb2
    have H := cnd_t H hb2
    refine s_seq ?_
    refine s_reg [0, 1, 2, 3, 4, 5, 6, 7, 8, 9, 10, 11, 12, 13] rfl ?_
    refine o_run ft [0] rfl rfl ?_
    refine o_ld (hG 0 rfl) rfl (ev_ldN (j := 71) rfl rfl Tryz.isAgg49 (sz (Img.len _) Tryz.sizeOf49) (MetaS.sub_Coming _) rfl) (g0 rfl) rfl rfl ?_
    obtain ⟨r3, Hc4, H⟩ := bind_some' H
    refine oc (k_call (c_meta_none a0_m.Coming r3 Hc4) Tryz.call168 rfl rfl rfl [] [] rfl rfl (g0 rfl) rfl rfl ?_)
    rintro _ _ _ ⟨rfl, rfl, rfl⟩
    dsimp only [app]
    refine o_run ft [3] rfl rfl ?_
    refine k_name 11 rfl ?_
    intro b5 hb6
    have H := bnd_eq H hb6
    refine o_jb 15 [8, 9, 10, 11, 12, 13] [0, 1, 2, 4, 5, 6, 7, 8, 9, 10, 11] H rfl ?_ ?_
    · intro x8 H
      refine o_run ft [8] rfl rfl ?_
      refine k_name 16 rfl ?_
      intro b9 hb10
      have H := bnd_eq H hb10
      refine o_jb 20 [13] [0, 1, 2, 4, 5, 6, 7, 8, 9, 10, 11, 15, 16] H rfl ?_ ?_
      · intro x12 H
        refine o_run ft [13] rfl rfl ?_
        refine o_nil ?_
        refine q_then ?_
        refine s_ret ?_
        refine q_block_r ?_
        refine q_then_r ?_
        cases H
        exact q_end (rs_1 Tryz.results169 (rv_tmp rfl)) ⟨rfl, rfl, rfl⟩ [] rfl 0 rfl [] rfl 1 rfl
      · intro J11 J11h H
        cases b9 with
        | true =>
          rw [cond_true] at H
          refine o_run ft [9] rfl rfl ?_
          refine o_ld (hG 0 rfl) rfl (ev_ld1 (j := 106) rfl rfl Tryz.isAgg3 (MetaS.sub_Trials _) rfl) (g1 rfl rfl rfl rfl) rfl rfl ?_
          refine o_run ft [11, 12] rfl rfl ?_
          exact k_wk (J11h (a0_m.Trials == 0) H) [20, 0, 1, 2, 4, 5, 6, 7, 8, 9, 10, 11, 15, 16] [] 0 [0] 0 rfl rfl rfl
        | false =>
          rw [cond_false] at H
          refine o_gnot rfl rfl rfl rfl rfl rfl rfl rfl ?_
          refine o_gnot rfl rfl rfl rfl rfl rfl rfl rfl ?_
          refine o_gnot rfl rfl rfl rfl rfl rfl rfl rfl ?_
          refine o_run ft [12] rfl rfl ?_
          exact k_wk (J11h false H) [20, 0, 1, 2, 4, 5, 6, 7, 8, 9, 10, 11, 15, 16] [] 0 [0] 0 rfl rfl rfl
    · intro J7 J7h H
      cases b5 with
      | true =>
        rw [cond_true] at H
        refine o_run ft [4] rfl rfl ?_
        refine o_ld (hG 0 rfl) rfl (ev_ld1 (j := 105) rfl rfl Tryz.isAgg3 (MetaS.sub_Got _) rfl) (g1 rfl rfl rfl rfl) rfl rfl ?_
        refine o_run ft [6, 7] rfl rfl ?_
        exact k_wk (J7h (a0_m.Got == 0) H) [15, 0, 1, 2, 4, 5, 6, 7, 8, 9, 10, 11] [] 0 [0] 0 rfl rfl rfl
      | false =>
        rw [cond_false] at H
        refine o_gnot rfl rfl rfl rfl rfl rfl rfl rfl ?_
        refine o_gnot rfl rfl rfl rfl rfl rfl rfl rfl ?_
        refine o_gnot rfl rfl rfl rfl rfl rfl rfl rfl ?_
        refine o_run ft [7] rfl rfl ?_
        exact k_wk (J7h false H) [15, 0, 1, 2, 4, 5, 6, 7, 8, 9, 10, 11] [] 0 [0] 0 rfl rfl rfl
  · intro hb2
    have H := cnd_f H hb2
    refine s_seq ?_
    refine s_seq ?_
    refine s_reg [0, 1] rfl ?_
    refine o_run ft [0, 1] rfl rfl ?_
    refine o_nil ?_
    refine q_then ?_
    refine q_join (fun (x15 : Bool) (y16 : Unit) => ⟨D0, At b1 0 (MetaS.cells a0_m) :: G0, [(1, (.pointer (some ⟨b1, 0, none⟩))), (5, (vi a0_m.Phase)), (21, (vb x15))]⟩) H ?_ ?_
    · intro x15 y16 H
      dsimp only
      refine q_then ?_
      refine s_cond rfl ?_ ?_
      · intro hb17
        have H := cnd_t H hb17
        refine s_seq ?_
        refine s_reg [0, 1, 2, 3] rfl ?_
        refine o_run ft [0] rfl rfl ?_
        refine o_ld (hG 0 rfl) rfl (ev_ldN (j := 71) rfl rfl Tryz.isAgg49 (sz (Img.len _) Tryz.sizeOf49) (MetaS.sub_Coming _) rfl) (g0 rfl) rfl rfl ?_
        obtain ⟨r18, Hc19, H⟩ := bind_some' H
        refine oc (k_call (c_meta_chunks a0_m.Coming r18 Hc19) Tryz.call209 rfl rfl rfl [] [] rfl rfl (g0 rfl) rfl rfl ?_)
        rintro _ _ _ ⟨rfl, rfl, rfl⟩
        dsimp only [app]
        refine o_run ft [3] rfl rfl ?_
        refine o_nil ?_
        refine q_then ?_
        refine s_seq ?_
        refine s_reg [0, 1, 2, 3, 4, 5, 6, 7, 8, 9, 10, 11, 12, 13, 14, 15, 16, 17, 18, 19, 20, 21, 22, 23, 24, 25, 26, 27, 28, 29, 30, 31, 32, 33, 34] rfl ?_
        refine o_run ft [0] rfl rfl ?_
        refine o_ld (hG 0 rfl) rfl (ev_ldN (j := 71) rfl rfl Tryz.isAgg49 (sz (Img.len _) Tryz.sizeOf49) (MetaS.sub_Coming _) rfl) (g0 rfl) rfl rfl ?_
        obtain ⟨r20, Hc21, H⟩ := bind_some' H
        refine oc (k_call (c_meta_none a0_m.Coming r20 Hc21) Tryz.call168 rfl rfl rfl [] [] rfl rfl (g0 rfl) rfl rfl ?_)
        rintro _ _ _ ⟨rfl, rfl, rfl⟩
        dsimp only [app]
        refine o_run ft [3, 4] rfl rfl ?_
        refine k_name 31 rfl ?_
        intro b22 hb23
        have H := bnd_eq H hb23
        refine o_jb 38 [12, 13, 14, 15, 16, 17, 18, 19, 20, 21, 22, 23, 24, 25, 26, 27, 28, 29, 30, 31, 32, 33, 34] [1, 3, 5, 21, 24, 25, 26, 27, 28, 29, 30, 31] H rfl ?_ ?_
        · intro x25 H
          refine o_run ft [12] rfl rfl ?_
          refine k_name 39 rfl ?_
          intro b26 hb27
          have H := bnd_eq H hb27
          refine o_jb 43 [17, 18, 19, 20, 21, 22, 23, 24, 25, 26, 27, 28, 29, 30, 31, 32, 33, 34] [1, 3, 5, 21, 24, 25, 26, 27, 28, 29, 30, 31, 38, 39] H rfl ?_ ?_
          · intro x29 H
            refine o_run ft [17] rfl rfl ?_
            refine k_name 44 rfl ?_
            intro b30 hb31
            have H := bnd_eq H hb31
            refine o_jb 60 [34] [1, 3, 5, 21, 24, 25, 26, 27, 28, 29, 30, 31, 38, 39, 43, 44] H rfl ?_ ?_
            · intro x33 H
              refine o_run ft [34] rfl rfl ?_
              refine o_nil ?_
              refine q_then ?_
              refine s_ret ?_
              refine q_block_r ?_
              refine q_then_r ?_
              cases H
              exact q_end (rs_1 Tryz.results169 (rv_tmp rfl)) ⟨rfl, rfl, rfl⟩ [] rfl 0 rfl [] rfl 1 rfl
            · intro J32 J32h H
              cases b30 with
              | true =>
                rw [cond_true] at H
                refine o_run ft [18] rfl rfl ?_
                refine o_ld (hG 0 rfl) rfl (ev_ld1 (j := 105) rfl rfl Tryz.isAgg3 (MetaS.sub_Got _) rfl) (g1 rfl rfl rfl rfl) rfl rfl ?_
                refine o_run ft [20, 21, 22] rfl rfl ?_
                refine k_name 49 rfl ?_
                intro b34 hb35
                have H := bnd_eq H hb35
                refine o_jb 59 [33, 34] [1, 3, 5, 21, 24, 25, 26, 27, 28, 29, 30, 31, 38, 39, 43, 44, 45, 46, 47, 48, 49] H rfl ?_ ?_
                · intro x37 H
                  refine o_run ft [33] rfl rfl ?_
                  exact k_wk (J32h x37 H) [60, 1, 3, 5, 21, 24, 25, 26, 27, 28, 29, 30, 31, 38, 39, 43, 44] [] 0 [0] 0 rfl rfl rfl
                · intro J36 J36h H
                  cases b34 with
                  | true =>
                    rw [cond_true] at H
                    refine o_gnot rfl rfl rfl rfl rfl rfl rfl rfl ?_
                    refine o_gnot rfl rfl rfl rfl rfl rfl rfl rfl ?_
                    refine o_gnot rfl rfl rfl rfl rfl rfl rfl rfl ?_
                    refine o_gnot rfl rfl rfl rfl rfl rfl rfl rfl ?_
                    refine o_gundef rfl rfl rfl rfl rfl rfl rfl ?_
                    refine o_gundef rfl rfl rfl rfl rfl rfl rfl ?_
                    refine o_gundef rfl rfl rfl rfl rfl rfl rfl ?_
                    refine o_gundef rfl rfl rfl rfl rfl rfl rfl ?_
                    refine o_gnot rfl rfl rfl rfl rfl rfl rfl rfl ?_
                    refine o_run ft [32] rfl rfl ?_
                    exact k_wk (J36h true H) [59, 1, 3, 5, 21, 24, 25, 26, 27, 28, 29, 30, 31, 38, 39, 43, 44, 45, 46, 47, 48, 49] [] 0 [0] 0 rfl rfl rfl
                  | false =>
                    rw [cond_false] at H
                    refine o_run ft [23] rfl rfl ?_
                    refine o_ld (hG 0 rfl) rfl (ev_ld1 (j := 70) rfl rfl Tryz.isAgg3 (MetaS.sub_Phase _) rfl) (g1 rfl rfl rfl rfl) rfl rfl ?_
                    refine o_run ft [25, 26] rfl rfl ?_
                    refine k_name 53 rfl ?_
                    intro b38 hb39
                    have H := bnd_eq H hb39
                    refine o_jb 58 [32, 33, 34] [1, 3, 5, 21, 24, 25, 26, 27, 28, 29, 30, 31, 38, 39, 43, 44, 45, 46, 47, 48, 49, 50, 51, 52, 53] H rfl ?_ ?_
                    · intro x41 H
                      refine o_run ft [32] rfl rfl ?_
                      exact k_wk (J36h x41 H) [59, 1, 3, 5, 21, 24, 25, 26, 27, 28, 29, 30, 31, 38, 39, 43, 44, 45, 46, 47, 48, 49] [] 0 [0] 0 rfl rfl rfl
                    · intro J40 J40h H
                      cases b38 with
                      | true =>
                        rw [cond_true] at H
                        refine o_run ft [27] rfl rfl ?_
                        refine o_ld (hG 0 rfl) rfl (ev_ld1 (j := 105) rfl rfl Tryz.isAgg3 (MetaS.sub_Got _) rfl) (g1 rfl rfl rfl rfl) rfl rfl ?_
                        refine o_run ft [29, 30, 31] rfl rfl ?_
                        exact k_wk (J40h (decide (a0_m.Got < r18)) H) [58, 1, 3, 5, 21, 24, 25, 26, 27, 28, 29, 30, 31, 38, 39, 43, 44, 45, 46, 47, 48, 49, 50, 51, 52, 53] [] 0 [0] 0 rfl rfl rfl
                      | false =>
                        rw [cond_false] at H
                        refine o_gnot rfl rfl rfl rfl rfl rfl rfl rfl ?_
                        refine o_gnot rfl rfl rfl rfl rfl rfl rfl rfl ?_
                        refine o_gnot rfl rfl rfl rfl rfl rfl rfl rfl ?_
                        refine o_gnot rfl rfl rfl rfl rfl rfl rfl rfl ?_
                        refine o_run ft [31] rfl rfl ?_
                        exact k_wk (J40h false H) [58, 1, 3, 5, 21, 24, 25, 26, 27, 28, 29, 30, 31, 38, 39, 43, 44, 45, 46, 47, 48, 49, 50, 51, 52, 53] [] 0 [0] 0 rfl rfl rfl
              | false =>
                rw [cond_false] at H
                refine o_gnot rfl rfl rfl rfl rfl rfl rfl rfl ?_
                refine o_gnot rfl rfl rfl rfl rfl rfl rfl rfl ?_
                refine o_gnot rfl rfl rfl rfl rfl rfl rfl rfl ?_
                refine o_gnot rfl rfl rfl rfl rfl rfl rfl rfl ?_
                refine o_gnot rfl rfl rfl rfl rfl rfl rfl rfl ?_
                refine o_gundef rfl rfl rfl rfl rfl rfl rfl ?_
                refine o_gundef rfl rfl rfl rfl rfl rfl rfl ?_
                refine o_gundef rfl rfl rfl rfl rfl rfl rfl ?_
                refine o_gundef rfl rfl rfl rfl rfl rfl rfl ?_
                refine o_gundef rfl rfl rfl rfl rfl rfl rfl ?_
                refine o_gundef rfl rfl rfl rfl rfl rfl rfl ?_
                refine o_gundef rfl rfl rfl rfl rfl rfl rfl ?_
                refine o_gundef rfl rfl rfl rfl rfl rfl rfl ?_
                refine o_gundef rfl rfl rfl rfl rfl rfl rfl ?_
                refine o_gnot rfl rfl rfl rfl rfl rfl rfl rfl ?_
                refine o_run ft [33] rfl rfl ?_
                exact k_wk (J32h false H) [60, 1, 3, 5, 21, 24, 25, 26, 27, 28, 29, 30, 31, 38, 39, 43, 44] [] 0 [0] 0 rfl rfl rfl
          · intro J28 J28h H
            cases b26 with
            | true =>
              rw [cond_true] at H
              refine o_run ft [13] rfl rfl ?_
              refine o_ld (hG 0 rfl) rfl (ev_ld1 (j := 106) rfl rfl Tryz.isAgg3 (MetaS.sub_Trials _) rfl) (g1 rfl rfl rfl rfl) rfl rfl ?_
              refine o_run ft [15, 16] rfl rfl ?_
              exact k_wk (J28h (a0_m.Trials == 0) H) [43, 1, 3, 5, 21, 24, 25, 26, 27, 28, 29, 30, 31, 38, 39] [] 0 [0] 0 rfl rfl rfl
            | false =>
              rw [cond_false] at H
              refine o_gnot rfl rfl rfl rfl rfl rfl rfl rfl ?_
              refine o_gnot rfl rfl rfl rfl rfl rfl rfl rfl ?_
              refine o_gnot rfl rfl rfl rfl rfl rfl rfl rfl ?_
              refine o_run ft [16] rfl rfl ?_
              exact k_wk (J28h false H) [43, 1, 3, 5, 21, 24, 25, 26, 27, 28, 29, 30, 31, 38, 39] [] 0 [0] 0 rfl rfl rfl
        · intro J24 J24h H
          cases b22 with
          | true =>
            rw [cond_true] at H
            refine o_ld (hG 0 rfl) rfl (ev_ldN (j := 0) rfl rfl Tryz.isAgg52 (sz (MetaS.len _) Tryz.sizeOf52) (sub_all _) rfl) (g1 rfl rfl rfl rfl) rfl rfl ?_
            obtain ⟨r42, Hc43, H⟩ := bind_some' H
            refine oc (k_call (c_meta_Other a0_m r42 Hc43) Tryz.call115 rfl rfl rfl [] [] rfl rfl (g1 rfl rfl rfl rfl) rfl rfl ?_)
            rintro _ _ _ ⟨rfl, rfl, rfl⟩
            dsimp only [app]
            refine o_run ft [7] rfl rfl ?_
            obtain ⟨hk44, H⟩ := chk_some H
            refine o_pu rfl (ev_idx_array rfl rfl rfl Tryz.runUnderlying50 Tryz.sizeOf49 hk44 rfl) (g1 rfl rfl rfl rfl) rfl rfl ?_
            refine o_ld (hG 0 rfl) rfl (ev_ldN rfl rfl Tryz.isAgg49 (sz (Img.len _) Tryz.sizeOf49) (sub_sub (MetaS.sub_Have _) (sub_arr Img.len Img.zero _ (k := r42) hk44 rfl) rfl) (by first | omega | (dsimp only; omega))) (g1 rfl rfl rfl rfl) rfl rfl ?_
            obtain ⟨r45, Hc46, H⟩ := bind_some' H
            refine oc (k_call (c_meta_none (at' Img.zero a0_m.Have.l r42) r45 Hc46) Tryz.call168 rfl rfl rfl [] [] rfl rfl (g1 rfl rfl rfl rfl) rfl rfl ?_)
            rintro _ _ _ ⟨rfl, rfl, rfl⟩
            dsimp only [app]
            refine o_run ft [11] rfl rfl ?_
            exact k_wk (J24h r45 H) [38, 1, 3, 5, 21, 24, 25, 26, 27, 28, 29, 30, 31] [] 0 [0] 0 rfl rfl rfl
          | false =>
            rw [cond_false] at H
            refine o_gnot rfl rfl rfl rfl rfl rfl rfl rfl ?_
            refine o_gnot rfl rfl rfl rfl rfl rfl rfl rfl ?_
            refine o_gnot rfl rfl rfl rfl rfl rfl rfl rfl ?_
            refine o_gnot rfl rfl rfl rfl rfl rfl rfl rfl ?_
            refine o_gnot rfl rfl rfl rfl rfl rfl rfl rfl ?_
            refine o_gnot rfl rfl rfl rfl rfl rfl rfl rfl ?_
            refine o_run ft [11] rfl rfl ?_
            exact k_wk (J24h false H) [38, 1, 3, 5, 21, 24, 25, 26, 27, 28, 29, 30, 31] [] 0 [0] 0 rfl rfl rfl
      · intro hb17
        have H := cnd_f H hb17
        refine s_seq ?_
        refine s_reg [0, 1] rfl ?_
        refine o_run ft [0, 1] rfl rfl ?_
        refine o_nil ?_
        refine q_then ?_
        refine s_cond rfl ?_ ?_
        · intro hb47
          have H := cnd_t H hb47
          refine s_seq ?_
          refine s_reg [0, 1, 2, 3, 4, 5, 6, 7, 8, 9, 10, 11, 12, 13, 14, 15, 16, 17] rfl ?_
          refine o_run ft [0] rfl rfl ?_
          refine o_ld (hG 0 rfl) rfl (ev_ldN (j := 71) rfl rfl Tryz.isAgg49 (sz (Img.len _) Tryz.sizeOf49) (MetaS.sub_Coming _) rfl) (g0 rfl) rfl rfl ?_
          obtain ⟨r48, Hc49, H⟩ := bind_some' H
          refine oc (k_call (c_meta_none a0_m.Coming r48 Hc49) Tryz.call168 rfl rfl rfl [] [] rfl rfl (g0 rfl) rfl rfl ?_)
          rintro _ _ _ ⟨rfl, rfl, rfl⟩
          dsimp only [app]
          refine o_run ft [3] rfl rfl ?_
          refine k_name 66 rfl ?_
          intro b50 hb51
          have H := bnd_eq H hb51
          refine o_jb 70 [8, 9, 10, 11, 12, 13, 14, 15, 16, 17] [1, 5, 21, 61, 62, 63, 64, 65, 66] H rfl ?_ ?_
          · intro x53 H
            refine o_run ft [8] rfl rfl ?_
            refine k_name 71 rfl ?_
            intro b54 hb55
            have H := bnd_eq H hb55
            refine o_jb 79 [17] [1, 5, 21, 61, 62, 63, 64, 65, 66, 70, 71] H rfl ?_ ?_
            · intro x57 H
              refine o_run ft [17] rfl rfl ?_
              refine o_nil ?_
              refine q_then ?_
              refine s_ret ?_
              refine q_block_r ?_
              refine q_then_r ?_
              cases H
              exact q_end (rs_1 Tryz.results169 (rv_tmp rfl)) ⟨rfl, rfl, rfl⟩ [] rfl 0 rfl [] rfl 1 rfl
            · intro J56 J56h H
              cases b54 with
              | true =>
                rw [cond_true] at H
                refine o_ld (hG 0 rfl) rfl (ev_ldN (j := 0) rfl rfl Tryz.isAgg52 (sz (MetaS.len _) Tryz.sizeOf52) (sub_all _) rfl) (g1 rfl rfl rfl rfl) rfl rfl ?_
                obtain ⟨r58, Hc59, H⟩ := bind_some' H
                refine oc (k_call (c_meta_Other a0_m r58 Hc59) Tryz.call115 rfl rfl rfl [] [] rfl rfl (g1 rfl rfl rfl rfl) rfl rfl ?_)
                rintro _ _ _ ⟨rfl, rfl, rfl⟩
                dsimp only [app]
                refine o_run ft [11] rfl rfl ?_
                obtain ⟨hk60, H⟩ := chk_some H
                refine o_pu rfl (ev_idx_array rfl rfl rfl Tryz.runUnderlying50 Tryz.sizeOf49 hk60 rfl) (g1 rfl rfl rfl rfl) rfl rfl ?_
                refine o_ld (hG 0 rfl) rfl (ev_ldN rfl rfl Tryz.isAgg49 (sz (Img.len _) Tryz.sizeOf49) (sub_sub (MetaS.sub_Have _) (sub_arr Img.len Img.zero _ (k := r58) hk60 rfl) rfl) (by first | omega | (dsimp only; omega))) (g1 rfl rfl rfl rfl) rfl rfl ?_
                obtain ⟨r61, Hc62, H⟩ := bind_some' H
                refine oc (k_call (c_meta_none (at' Img.zero a0_m.Have.l r58) r61 Hc62) Tryz.call168 rfl rfl rfl [] [] rfl rfl (g1 rfl rfl rfl rfl) rfl rfl ?_)
                rintro _ _ _ ⟨rfl, rfl, rfl⟩
                dsimp only [app]
                refine o_run ft [15, 16] rfl rfl ?_
                exact k_wk (J56h (!r61) H) [79, 1, 5, 21, 61, 62, 63, 64, 65, 66, 70, 71] [] 0 [0] 0 rfl rfl rfl
              | false =>
                rw [cond_false] at H
                refine o_gnot rfl rfl rfl rfl rfl rfl rfl rfl ?_
                refine o_gnot rfl rfl rfl rfl rfl rfl rfl rfl ?_
                refine o_gnot rfl rfl rfl rfl rfl rfl rfl rfl ?_
                refine o_gnot rfl rfl rfl rfl rfl rfl rfl rfl ?_
                refine o_gnot rfl rfl rfl rfl rfl rfl rfl rfl ?_
                refine o_gnot rfl rfl rfl rfl rfl rfl rfl rfl ?_
                refine o_gnot rfl rfl rfl rfl rfl rfl rfl rfl ?_
                refine o_run ft [16] rfl rfl ?_
                exact k_wk (J56h false H) [79, 1, 5, 21, 61, 62, 63, 64, 65, 66, 70, 71] [] 0 [0] 0 rfl rfl rfl
          · intro J52 J52h H
            cases b50 with
            | true =>
              rw [cond_true] at H
              refine o_run ft [4] rfl rfl ?_
              refine o_ld (hG 0 rfl) rfl (ev_ld1 (j := 105) rfl rfl Tryz.isAgg3 (MetaS.sub_Got _) rfl) (g1 rfl rfl rfl rfl) rfl rfl ?_
              refine o_run ft [6, 7] rfl rfl ?_
              exact k_wk (J52h (a0_m.Got == 0) H) [70, 1, 5, 21, 61, 62, 63, 64, 65, 66] [] 0 [0] 0 rfl rfl rfl
            | false =>
              rw [cond_false] at H
              refine o_gnot rfl rfl rfl rfl rfl rfl rfl rfl ?_
              refine o_gnot rfl rfl rfl rfl rfl rfl rfl rfl ?_
              refine o_gnot rfl rfl rfl rfl rfl rfl rfl rfl ?_
              refine o_run ft [7] rfl rfl ?_
              exact k_wk (J52h false H) [70, 1, 5, 21, 61, 62, 63, 64, 65, 66] [] 0 [0] 0 rfl rfl rfl
        · intro hb47
          have H := cnd_f H hb47
          refine s_skip ?_
          refine q_block ?_
          refine q_then ?_
          refine s_seq ?_
          refine s_reg [0] rfl ?_
          refine o_run ft [0] rfl rfl ?_
          refine o_nil ?_
          refine q_then ?_
          refine s_ret ?_
          cases H
          exact q_end (rs_1 Tryz.results169 (rv_tmp rfl)) ⟨rfl, rfl, rfl⟩ [] rfl 0 rfl [] rfl 1 rfl
    · intro J14 J14h H
      refine s_cond rfl ?_ ?_
      · intro hb63
        have H := cnd_t H hb63
        refine s_skip ?_
        exact k_wk (J14h (a0_m.Phase == 1) () H) [1, 5, 21] [] 0 [0] 0 rfl rfl rfl
      · intro hb63
        have H := cnd_f H hb63
        refine s_reg [0, 1] rfl ?_
        refine o_run ft [0, 1] rfl rfl ?_
        refine o_nil ?_
        exact k_wk (J14h (a0_m.Phase == 2) () H) [1, 5, 21] [] 0 [0] 0 rfl rfl rfl

end Go.Proofs.YtpdoioeckiiegaaGreatDoor.Wl
