import Derived.Test.YtpdoioeckiiegaaGreatDoorWlW
import Derived.Test.YtpdoioeckiiegaaGreatDoorWlX2
set_option linter.unusedSimpArgs false
set_option linter.unusedVariables false
set_option maxRecDepth 10000
namespace Go.Proofs.YtpdoioeckiiegaaGreatDoor.Wl
open Go.RowKit Go.Proofs
def update_abort (a0_m : MetaS) (a1_f : FactS) : Option ChangeS :=
jn (fun (x5 : ChangeS) =>
some x5) fun J4 =>
(update_idle a0_m).bind fun r7 =>
bnd (a0_m.Phase == 0) fun b9 =>
bif b9 then (
(update_when (true : Bool) (11 : Int)).bind fun r11 =>
(update_when a1_f.Worn (5 : Int)).bind fun r13 =>
(update_one r7 ([r11, r13] : List Int)).bind fun r16 =>
J4 r16) else (
(update_when (a0_m.Phase == 3) (11 : Int)).bind fun r18 =>
(update_when a1_f.Worn (5 : Int)).bind fun r20 =>
(update_one r7 ([r18, r20] : List Int)).bind fun r23 =>
J4 r23)

theorem c_update_abort (a0_m : MetaS) (a1_f : FactS) (r : ChangeS) (H : update_abort a0_m a1_f = some r) : Fn Tryz.prog 183 [(.agg (MetaS.cells a0_m).toArray), (.agg (FactS.cells a1_f).toArray)] [] [] (fun v D' G' => v = (.agg (ChangeS.cells r).toArray) ∧ D' = [] ∧ G' = []) := by
  unfold update_abort at H
  refine fn_of Tryz.func183 rfl Tryz.ntmps183 rfl ?_
  intro w0 D0 G0
  dsimp only [app, initEnv, Nat.zero_add, Nat.reduceAdd]
  refine s_seq ?_
  refine s_reg [0, 1, 2] rfl ?_
  refine oc (k_box rfl rfl rfl (cs := MetaS.cells a0_m) rfl (g0 rfl) rfl rfl ?_)
  intro b1
  refine oc (k_box rfl rfl rfl (cs := FactS.cells a1_f) rfl (g0 rfl) rfl rfl ?_)
  intro b2
  refine oc (k_alloc rfl rfl Tryz.zeroValue170 (cs := ChangeS.cells ChangeS.zero) rfl (g0 rfl) rfl rfl ?_)
  intro b3
  refine o_nil ?_
  refine q_then ?_
  refine s_seq ?_
  refine q_join (fun (x5 : ChangeS) (y6 : Unit) => ⟨D0, At b3 0 (ChangeS.cells x5) :: At b2 0 (FactS.cells a1_f) :: At b1 0 (MetaS.cells a0_m) :: G0, [(4, (.pointer (some ⟨b3, 0, none⟩)))]⟩) H ?_ ?_
  · intro x5 y6 H
    dsimp only
    refine q_then ?_
    refine s_ret ?_
    cases H
    exact q_end (rs_1 Tryz.results183 (rv_cell (j := 0) rfl (hG 0 rfl) Tryz.isAgg170 (sz (ChangeS.len _) Tryz.sizeOf170) (sub_all _) rfl)) ⟨rfl, rfl, rfl⟩ [] rfl 0 rfl [] rfl 3 rfl
  · intro J4 J4h H
    refine s_draw mixed [(0, [1, 16], Has b1 0 (MetaS.cells a0_m)), (3, [16], Has b1 0 (MetaS.cells a0_m)), (7, [16], Has b1 0 (MetaS.cells a0_m)), (12, [13, 16], Has b2 0 (FactS.cells a1_f))] ?_
    refine a_l1 0 0 rfl (by kernel_rfl) rfl (ev_ldN (j := 0) rfl rfl Tryz.isAgg52 (sz (MetaS.len _) Tryz.sizeOf52) (sub_all _) rfl) (fun _ _ _ h => h) (g0 rfl) rfl rfl ?_
    refine a_run ft [2] rfl (fun _ _ _ _ _ h => h) (by kernel_rfl) rfl ?_
    refine a_l1 3 1 rfl (by kernel_rfl) rfl (ev_ld1 (j := 70) rfl rfl Tryz.isAgg3 (MetaS.sub_Phase _) rfl) (fun _ _ _ h => h) (g0 rfl) rfl rfl ?_
    refine a_run ft [4, 11] rfl (fun _ _ _ _ _ h => h) (by kernel_rfl) rfl ?_
    refine a_l1 12 3 rfl (by kernel_rfl) rfl (ev_ld1 (j := 34) rfl rfl Tryz.isAgg4 (FactS.sub_Worn _) rfl) (fun _ _ _ h => h) (g0 rfl) rfl rfl ?_
    refine ac 1 (by kernel_rfl) (sl_cons (hG 2 rfl) (sl_cons (hG 2 rfl) (sl_cons (hG 2 rfl) (sl_cons (hG 1 rfl) sl_nil)))) ?_
    obtain ⟨r7, Hc8, H⟩ := bind_some' H
    refine k_call (c_update_idle a0_m r7 Hc8) Tryz.call215 rfl rfl rfl [] [] rfl rfl (g0 rfl) rfl rfl ?_
    rintro _ _ _ ⟨rfl, rfl, rfl⟩
    dsimp only [app]
    refine a_run ft [5] rfl (fun _ _ _ _ _ h => h) (by kernel_rfl) rfl ?_
    refine k_name 10 rfl ?_
    intro b9 hb10
    have H := bnd_eq H hb10
    cases b9 with
    | true =>
      rw [cond_true] at H
      refine a_run ft [6, 7, 8, 9] rfl (fun _ _ _ _ _ h => h) (by kernel_rfl) rfl ?_
      refine ac 10 (by kernel_rfl) (sl_end (by kernel_rfl) (sl_cons (hG 2 rfl) (sl_cons (hG 2 rfl) (sl_cons (hG 1 rfl) sl_nil)))) ?_
      obtain ⟨r11, Hc12, H⟩ := bind_some' H
      refine k_call (c_update_when true 11 r11 Hc12) Tryz.call213 rfl rfl rfl [] [] rfl rfl (g0 rfl) rfl rfl ?_
      rintro _ _ _ ⟨rfl, rfl, rfl⟩
      dsimp only [app]
      refine ac 13 (by kernel_rfl) (sl_end (by kernel_rfl) (sl_cons (hG 2 rfl) (sl_cons (hG 2 rfl) (sl_cons (hG 1 rfl) sl_nil)))) ?_
      obtain ⟨r13, Hc14, H⟩ := bind_some' H
      refine k_call (c_update_when a1_f.Worn 5 r13 Hc14) Tryz.call213 rfl rfl rfl [] [] rfl rfl (g0 rfl) rfl rfl ?_
      rintro _ _ _ ⟨rfl, rfl, rfl⟩
      dsimp only [app]
      refine ac 14 (by kernel_rfl) (sl_end (by kernel_rfl) (sl_cons (hG 2 rfl) (sl_cons (hG 2 rfl) (sl_end (by kernel_rfl) sl_nil)))) ?_
      refine k_buildSlice (f := Ei) ([r11, r13] : List Int) rfl rfl rfl rfl Tryz.runUnderlying251 Tryz.sizeOf31 Tryz.zeroValue31 rfl rfl (fill_all rfl rfl (by simp) rfl rfl) (g0 rfl) rfl rfl ?_
      intro b15
      refine ac 15 (by kernel_rfl) (sl_end (by kernel_rfl) (sl_cons (hG 2 rfl) (sl_cons (hG 2 rfl) (sl_end (by kernel_rfl) sl_nil)))) ?_
      obtain ⟨r16, Hc17, H⟩ := bind_some' H
      refine k_call (c_update_one r7 ([r11, r13] : List Int) (some ⟨b15, 0, none⟩) 2 r16 Hc17) Tryz.call212 rfl rfl rfl [0] [] rfl rfl (g0 rfl) rfl rfl ?_
      rintro _ _ _ ⟨rfl, rfl, rfl⟩
      dsimp only [app]
      refine ac 16 (by kernel_rfl) (sl_end (by kernel_rfl) (sl_cons (hG 2 rfl) (sl_cons (hG 2 rfl) (sl_end (by kernel_rfl) sl_nil)))) ?_
      refine k_st (j := 0) rfl rfl rfl rfl (vs := ChangeS.cells r16) rfl (sz (ChangeS.len _) Tryz.sizeOf170) (ChangeS.sc _) 0 rfl (spl_all ((ChangeS.len _).trans (ChangeS.len _).symm)) rfl (g0 rfl) rfl ?_
      refine a_done (by kernel_rfl) (sl_end (by kernel_rfl) (sl_end (by kernel_rfl) (sl_end (by kernel_rfl) (sl_end (by kernel_rfl) sl_nil)))) ?_
      exact k_wk (J4h r16 () H) [4] [] 1 [0, 0, 0] 0 rfl rfl rfl
    | false =>
      rw [cond_false] at H
      refine a_run ft [6] rfl (fun _ _ _ _ _ h => h) (by kernel_rfl) rfl ?_
      refine a_l1 7 2 rfl (by kernel_rfl) rfl (ev_ld1 (j := 70) rfl rfl Tryz.isAgg3 (MetaS.sub_Phase _) rfl) (fun _ _ _ h => h) (g1 rfl rfl rfl rfl) rfl rfl ?_
      refine a_run ft [8, 9] rfl (fun _ _ _ _ _ h => h) (by kernel_rfl) rfl ?_
      refine ac 10 (by kernel_rfl) (sl_end (by kernel_rfl) (sl_cons (hG 2 rfl) (sl_cons (hG 2 rfl) (sl_cons (hG 1 rfl) sl_nil)))) ?_
      obtain ⟨r18, Hc19, H⟩ := bind_some' H
      refine k_call (c_update_when (a0_m.Phase == 3) 11 r18 Hc19) Tryz.call213 rfl rfl rfl [] [] rfl rfl (g0 rfl) rfl rfl ?_
      rintro _ _ _ ⟨rfl, rfl, rfl⟩
      dsimp only [app]
      refine ac 13 (by kernel_rfl) (sl_end (by kernel_rfl) (sl_cons (hG 2 rfl) (sl_cons (hG 2 rfl) (sl_cons (hG 1 rfl) sl_nil)))) ?_
      obtain ⟨r20, Hc21, H⟩ := bind_some' H
      refine k_call (c_update_when a1_f.Worn 5 r20 Hc21) Tryz.call213 rfl rfl rfl [] [] rfl rfl (g0 rfl) rfl rfl ?_
      rintro _ _ _ ⟨rfl, rfl, rfl⟩
      dsimp only [app]
      refine ac 14 (by kernel_rfl) (sl_end (by kernel_rfl) (sl_cons (hG 2 rfl) (sl_cons (hG 2 rfl) (sl_end (by kernel_rfl) sl_nil)))) ?_
      refine k_buildSlice (f := Ei) ([r18, r20] : List Int) rfl rfl rfl rfl Tryz.runUnderlying251 Tryz.sizeOf31 Tryz.zeroValue31 rfl rfl (fill_all rfl rfl (by simp) rfl rfl) (g0 rfl) rfl rfl ?_
      intro b22
      refine ac 15 (by kernel_rfl) (sl_end (by kernel_rfl) (sl_cons (hG 2 rfl) (sl_cons (hG 2 rfl) (sl_end (by kernel_rfl) sl_nil)))) ?_
      obtain ⟨r23, Hc24, H⟩ := bind_some' H
      refine k_call (c_update_one r7 ([r18, r20] : List Int) (some ⟨b22, 0, none⟩) 2 r23 Hc24) Tryz.call212 rfl rfl rfl [0] [] rfl rfl (g0 rfl) rfl rfl ?_
      rintro _ _ _ ⟨rfl, rfl, rfl⟩
      dsimp only [app]
      refine ac 16 (by kernel_rfl) (sl_end (by kernel_rfl) (sl_cons (hG 2 rfl) (sl_cons (hG 2 rfl) (sl_end (by kernel_rfl) sl_nil)))) ?_
      refine k_st (j := 0) rfl rfl rfl rfl (vs := ChangeS.cells r23) rfl (sz (ChangeS.len _) Tryz.sizeOf170) (ChangeS.sc _) 0 rfl (spl_all ((ChangeS.len _).trans (ChangeS.len _).symm)) rfl (g0 rfl) rfl ?_
      refine a_done (by kernel_rfl) (sl_end (by kernel_rfl) (sl_end (by kernel_rfl) (sl_end (by kernel_rfl) (sl_end (by kernel_rfl) sl_nil)))) ?_
      exact k_wk (J4h r23 () H) [4] [] 1 [0, 0, 0] 0 rfl rfl rfl

def strings_TrimRight (a0_s : List UInt8) : Option (List UInt8) :=
bnd (a0_s == ([] : List UInt8)) fun b1 =>
jn (fun x4 =>
bif x4 then (
some a0_s) else (
chk (0 ≤ (0 : Int) ∧ (0 : Int) < ([0] : List UInt8).length) <|
chk (0 ≤ (0 : Int) ∧ (0 : Int) < ([0] : List UInt8).length) <|
(strings_trimRightByte a0_s (0 : UInt8)).bind fun r8 =>
some r8)) fun J3 =>
bif b1 then (
J3 true) else
J3 false

theorem c_strings_TrimRight (a0_s : List UInt8) (r : (List UInt8)) (H : strings_TrimRight a0_s = some r) : Fn Tryz.prog 185 [(vs a0_s), (vs ([0] : List UInt8))] [] [] (fun v D' G' => v = (vs r) ∧ D' = [] ∧ G' = []) := by
  unfold strings_TrimRight at H
  refine fn_of Tryz.func185 rfl Tryz.ntmps185 rfl ?_
  intro w0 D0 G0
  dsimp only [app, initEnv, Nat.zero_add, Nat.reduceAdd]
  refine s_seq ?_
  refine s_reg [0] rfl ?_
  refine o_run ft [0] rfl rfl ?_
  refine o_nil ?_
  refine q_then ?_
  refine s_seq ?_
  refine s_seq ?_
  refine s_reg [0, 1, 2, 3, 4, 5] rfl ?_
  refine o_run ft [0] rfl rfl ?_
  refine o_pu rfl (ev_bin rfl rfl (show _ = some (vs ([] : List UInt8)) from rfl) rfl (eql_s _ ([] : List UInt8))) (g0 rfl) rfl rfl ?_
  refine o_run ft [2] rfl rfl ?_
  refine k_name 9 rfl ?_
  intro b1 hb2
  have H := bnd_eq H hb2
  refine o_jb 12 [] [0, 1, 4, 7, 8, 9] H rfl ?_ ?_
  · intro x4 H
    refine o_nil ?_
    refine q_then ?_
    refine s_cond rfl ?_ ?_
    · intro hb5
      have H := cnd_t H hb5
      refine s_seq ?_
      refine s_reg [0, 1] rfl ?_
      refine o_run ft [0, 1] rfl rfl ?_
      refine o_nil ?_
      refine q_then ?_
      refine s_ret ?_
      refine q_then_r ?_
      cases H
      exact q_end (rs_1 Tryz.results185 (rv_tmp rfl)) ⟨rfl, rfl, rfl⟩ [] rfl 0 rfl [] rfl 0 rfl
    · intro hb5
      have H := cnd_f H hb5
      refine s_skip ?_
      refine q_then ?_
      refine s_seq ?_
      refine s_seq ?_
      refine s_reg [0, 1, 2, 3, 4, 5, 6, 7] rfl ?_
      refine o_run ft [0] rfl rfl ?_
      refine o_pu (v := (vi 1)) rfl (ev_len_string rfl (show _ = some (vs ([0] : List UInt8)) from rfl) Tryz.runUnderlying9) (g0 rfl) rfl rfl ?_
      refine o_pu (v := (vb true)) rfl (ev_bin rfl rfl rfl rfl (eql_i 1 1)) (g0 rfl) rfl rfl ?_
      refine o_run ft [3, 4] rfl rfl ?_
      obtain ⟨hk6, H⟩ := chk_some H
      refine o_pu (v := (v8 0)) rfl (ev_index_string rfl (show _ = some (vs ([0] : List UInt8)) from rfl) rfl Tryz.runUnderlying9 hk6) (g1 rfl rfl rfl rfl) rfl rfl ?_
      refine o_pu (v := (vb true)) rfl (ev_bin rfl rfl rfl rfl (lss_8 0 128)) (g1 rfl rfl rfl rfl) rfl rfl ?_
      refine o_run ft [7] rfl rfl ?_
      refine o_nil ?_
      refine q_then ?_
      refine s_cond_t rfl ?_
      refine s_seq ?_
      refine s_reg [0, 1, 2, 3, 4] rfl ?_
      refine o_run ft [0, 1] rfl rfl ?_
      obtain ⟨hk7, H⟩ := chk_some H
      refine o_pu (v := (v8 0)) rfl (ev_index_string rfl (show _ = some (vs ([0] : List UInt8)) from rfl) rfl Tryz.runUnderlying9 hk7) (g0 rfl) rfl rfl ?_
      obtain ⟨r8, Hc9, H⟩ := bind_some' H
      refine oc (k_call (c_strings_trimRightByte a0_s 0 r8 Hc9) Tryz.call217 rfl rfl rfl [] [] rfl rfl (g0 rfl) rfl rfl ?_)
      rintro _ _ _ ⟨rfl, rfl, rfl⟩
      dsimp only [app]
      refine o_run ft [4] rfl rfl ?_
      refine o_nil ?_
      refine q_then ?_
      refine s_ret ?_
      refine q_then_r ?_
      cases H
      exact q_end (rs_1 Tryz.results185 (rv_tmp rfl)) ⟨rfl, rfl, rfl⟩ [] rfl 0 rfl [] rfl 0 rfl
  · intro J3 J3h H
    cases b1 with
    | true =>
      rw [cond_true] at H
      refine o_gnot rfl rfl rfl rfl rfl rfl rfl rfl ?_
      refine o_gnot rfl rfl rfl rfl rfl rfl rfl rfl ?_
      refine o_run ft [5] rfl rfl ?_
      exact k_wk (J3h true H) [12, 0, 1, 4, 7, 8, 9] [] 0 [] 0 rfl rfl rfl
    | false =>
      rw [cond_false] at H
      refine o_run ft [3] rfl rfl ?_
      refine o_pu (v := (vb false)) rfl (ev_bin rfl (show _ = some (vs ([0] : List UInt8)) from rfl) (show _ = some (vs ([] : List UInt8)) from rfl) rfl (eql_s ([0] : List UInt8) ([] : List UInt8))) (g1 rfl rfl rfl rfl) rfl rfl ?_
      refine o_run ft [5] rfl rfl ?_
      exact k_wk (J3h false H) [12, 0, 1, 4, 7, 8, 9] [] 0 [] 0 rfl rfl rfl

def nor_Flash_work_l0 (a0_f : FlashS) (a1_at : Int) (a2_to : List UInt8) (J7 : FlashS → Option (Int × FlashS)) : Nat → (Int × FlashS) → Option (Int × FlashS)
  | 0, _ => none
  | k11 + 1, s11 =>
    bif (decide (s11.1 < (a2_to.length : Int))) then (
    chk (0 ≤ s11.1 ∧ s11.1 < a2_to.length) <|
    (nor_Flash_stays s11.2 s11.1 (a0_f.cut == 0)).bind fun r976 =>
    chk (0 ≤ (wrap64 (a1_at + s11.1)) ∧ (wrap64 (a1_at + s11.1)) < (s11.2.b.length : Int) ∧ (wrap64 (a1_at + s11.1)) < (s11.2.b.length : Int)) <|
    chk (0 ≤ (wrap64 (a1_at + s11.1)) ∧ (wrap64 (a1_at + s11.1)) < (s11.2.b.length : Int) ∧ (wrap64 (a1_at + s11.1)) < (s11.2.b.length : Int)) <|
    chk (0 ≤ (wrap64 (a1_at + s11.1)) ∧ (wrap64 (a1_at + s11.1)) < (s11.2.b.length : Int) ∧ (wrap64 (a1_at + s11.1)) < (s11.2.b.length : Int)) <|
    chk ((s11.2.b.set (wrap64 (a1_at + s11.1)).toNat ((at' 0 s11.2.b (wrap64 (a1_at + s11.1))) ^^^ ((((at' 0 s11.2.b (wrap64 (a1_at + s11.1))) ^^^ (at' 0 a2_to s11.1)) : UInt8) &&& ~~~(r976 : UInt8)))).length = s11.2.b.length) <|
    nor_Flash_work_l0 a0_f a1_at a2_to J7 k11 ((wrap64 (s11.1 + 1)), (⟨(s11.2.b.set (wrap64 (a1_at + s11.1)).toNat ((at' 0 s11.2.b (wrap64 (a1_at + s11.1))) ^^^ ((((at' 0 s11.2.b (wrap64 (a1_at + s11.1))) ^^^ (at' 0 a2_to s11.1)) : UInt8) &&& ~~~(r976 : UInt8)))), s11.2.wear, s11.2.cut, s11.2.mask, s11.2.off, s11.2.ops⟩ : FlashS))) else (
    J7 s11.2)

def nor_Flash_work (a0_f : FlashS) (a1_at : Int) (a2_to : List UInt8) : Option (Int × FlashS) :=
jn (fun (x5 : FlashS) =>
jn (fun (x8 : FlashS) =>
bif (a0_f.cut == 0) then (
some (4, (⟨x8.b, x8.wear, x8.cut, x8.mask, true, x8.ops⟩ : FlashS))) else (
some (0, x8))) fun J7 =>
nor_Flash_work_l0 a0_f a1_at a2_to J7 Fuel (0, x5)) fun J4 =>
bif (decide (a0_f.cut ≥ 0)) then (
J4 (⟨(⟨a0_f.b, a0_f.wear, a0_f.cut, a0_f.mask, a0_f.off, (wrap64 (a0_f.ops + 1))⟩ : FlashS).b, (⟨a0_f.b, a0_f.wear, a0_f.cut, a0_f.mask, a0_f.off, (wrap64 (a0_f.ops + 1))⟩ : FlashS).wear, (wrap64 ((⟨a0_f.b, a0_f.wear, a0_f.cut, a0_f.mask, a0_f.off, (wrap64 (a0_f.ops + 1))⟩ : FlashS).cut - 1)), (⟨a0_f.b, a0_f.wear, a0_f.cut, a0_f.mask, a0_f.off, (wrap64 (a0_f.ops + 1))⟩ : FlashS).mask, (⟨a0_f.b, a0_f.wear, a0_f.cut, a0_f.mask, a0_f.off, (wrap64 (a0_f.ops + 1))⟩ : FlashS).off, (⟨a0_f.b, a0_f.wear, a0_f.cut, a0_f.mask, a0_f.off, (wrap64 (a0_f.ops + 1))⟩ : FlashS).ops⟩ : FlashS)) else (
J4 (⟨a0_f.b, a0_f.wear, a0_f.cut, a0_f.mask, a0_f.off, (wrap64 (a0_f.ops + 1))⟩ : FlashS))

theorem c_nor_Flash_work (a0_fp : Nat) (a0_f : FlashS) (a0_fg : FlashG) (a1_at : Int) (a2_to : List UInt8) (A1 : Option Addr) (c2 : Nat) (r : Int × FlashS) (H : nor_Flash_work a0_f a1_at a2_to = some r) : Fn Tryz.prog 207 [(.pointer (some ⟨a0_fp, 0, none⟩)), (vi a1_at), (.slice A1 a2_to.length c2)] [Sl E8 A1 c2 a2_to] [FlashT a0_fg a0_fp a0_f] (fun v D' G' => ∃ (g1217 : FlashG), v = (vi r.1) ∧ D' = [] ∧ G' = [FlashT g1217 a0_fp r.2]) := by
  unfold nor_Flash_work at H
  refine fn_of Tryz.func207 rfl Tryz.ntmps207 rfl ?_
  intro w0 D0 G0
  dsimp only [app, initEnv, Nat.zero_add, Nat.reduceAdd]
  refine s_seq ?_
  refine s_reg [0] rfl ?_
  refine o_run ft [0] rfl rfl ?_
  refine o_nil ?_
  refine q_then ?_
  refine s_seq ?_
  refine s_reg [0, 1, 2, 3, 4, 5, 6, 7] rfl ?_
  refine o_run ft [0, 1, 2] rfl rfl ?_
  refine k_unp 0 rfl ?_
  dsimp only [app, del]
  refine o_ld (hG 0 rfl) rfl (ev_ld1 (j := 5) rfl rfl Tryz.isAgg3 (sub_nth (j := 5) rfl) rfl) (g0 rfl) rfl rfl ?_
  refine o_run ft [4, 5, 6] rfl rfl ?_
  refine oc (k_st (j := 5) rfl rfl rfl rfl (vs := [vi (wrap64 (a0_f.ops + 1))]) rfl (sz rfl Tryz.sizeOf3) rfl 0 rfl (spl_lit (j := 5) (cs' := [.slice (some ⟨a0_fg.b0, 0, none⟩) a0_f.b.length a0_f.b.length, .slice (some ⟨a0_fg.b1, 0, none⟩) a0_f.wear.length a0_f.wear.length, vi a0_f.cut, .slice a0_fg.A3 a0_f.mask.length a0_fg.c3, vb a0_f.off, vi (wrap64 (a0_f.ops + 1))]) rfl rfl) rfl (g0 rfl) rfl ?_)
  refine o_nil ?_
  refine q_then ?_
  refine s_seq ?_
  refine s_reg [0, 1, 2, 3, 4, 5] rfl ?_
  refine o_run ft [0, 1, 2] rfl rfl ?_
  refine o_ld (hG 0 rfl) rfl (ev_ld1 (j := 2) rfl rfl Tryz.isAgg3 (sub_nth (j := 2) rfl) rfl) (g0 rfl) rfl rfl ?_
  refine o_run ft [4, 5] rfl rfl ?_
  refine o_nil ?_
  refine q_then ?_
  refine s_seq ?_
  refine s_seq ?_
  refine s_reg [0, 1, 2, 3, 4] rfl ?_
  refine o_run ft [0, 1, 2] rfl rfl ?_
  refine o_ld (hG 0 rfl) rfl (ev_ld1 (j := 2) rfl rfl Tryz.isAgg3 (sub_nth (j := 2) rfl) rfl) (g0 rfl) rfl rfl ?_
  refine o_run ft [4] rfl rfl ?_
  refine o_nil ?_
  refine q_then ?_
  refine k_pk (FlashT a0_fg a0_fp (⟨a0_f.b, a0_f.wear, a0_f.cut, a0_f.mask, a0_f.off, (wrap64 (a0_f.ops + 1))⟩ : FlashS)) rfl [0] [0, 0, 0] rfl rfl ?_
  refine q_join (fun (x5 : FlashS) (y6 : FlashG) => ⟨Sl E8 a0_fg.A3 a0_fg.c3 a0_f.mask :: Sl E8 A1 c2 a2_to :: D0, FlashT y6 a0_fp x5 :: G0, [(0, (.pointer (some ⟨a0_fp, 0, none⟩))), (1, (vi a1_at)), (2, (.slice A1 a2_to.length c2)), (7, (vb (a0_f.cut == 0)))]⟩) H ?_ ?_
  · intro x5 y6 H
    dsimp only
    refine q_then ?_
    refine s_seq ?_
    refine s_seq ?_
    refine s_reg [0, 1, 2] rfl ?_
    refine o_run ft [0] rfl rfl ?_
    refine o_pu rfl (ev_len_slice rfl rfl Tryz.runUnderlying22) (g0 rfl) rfl rfl ?_
    refine o_run ft [2] rfl rfl ?_
    refine o_nil ?_
    refine q_then ?_
    refine q_join (fun (x8 : FlashS) (y9 : FlashG) => ⟨Sl E8 a0_fg.A3 a0_fg.c3 a0_f.mask :: Sl E8 A1 c2 a2_to :: D0, FlashT y9 a0_fp x8 :: G0, [(0, (.pointer (some ⟨a0_fp, 0, none⟩))), (7, (vb (a0_f.cut == 0)))]⟩) H ?_ ?_
    · intro x8 y9 H
      dsimp only
      refine q_then ?_
      refine s_seq ?_
      refine s_seq ?_
      refine s_reg [0] rfl ?_
      refine o_run ft [0] rfl rfl ?_
      refine o_nil ?_
      refine q_then ?_
      refine s_cond rfl ?_ ?_
      · intro hb10
        have H := cnd_t H hb10
        refine s_seq ?_
        refine s_reg [0, 1, 2, 3] rfl ?_
        refine o_run ft [0, 1, 2] rfl rfl ?_
        refine k_unp 0 rfl ?_
        dsimp only [app, del]
        refine oc (k_st (j := 4) rfl rfl rfl rfl (vs := [vb true]) rfl (sz rfl Tryz.sizeOf4) rfl 0 rfl (spl_lit (j := 4) (cs' := [.slice (some ⟨y9.b0, 0, none⟩) x8.b.length x8.b.length, .slice (some ⟨y9.b1, 0, none⟩) x8.wear.length x8.wear.length, vi x8.cut, .slice y9.A3 x8.mask.length y9.c3, vb true, vi x8.ops]) rfl rfl) rfl (g0 rfl) rfl ?_)
        refine o_nil ?_
        refine q_then ?_
        refine s_seq ?_
        refine s_reg [0] rfl ?_
        refine o_run ft [0] rfl rfl ?_
        refine o_nil ?_
        refine q_then ?_
        refine s_ret ?_
        refine q_then_r ?_
        refine k_pk (FlashT y9 a0_fp (⟨x8.b, x8.wear, x8.cut, x8.mask, true, x8.ops⟩ : FlashS)) rfl [0] [0, 0, 0] rfl rfl ?_
        cases H
        exact q_end (rs_1 Tryz.results207 (rv_tmp rfl)) ⟨y9, rfl, rfl, rfl⟩ [] rfl 3 rfl [0] rfl 0 rfl
      · intro hb10
        have H := cnd_f H hb10
        refine s_skip ?_
        refine q_then ?_
        refine s_seq ?_
        refine s_reg [0] rfl ?_
        refine o_run ft [0] rfl rfl ?_
        refine o_nil ?_
        refine q_then ?_
        refine s_ret ?_
        cases H
        exact q_end (rs_1 Tryz.results207 (rv_tmp rfl)) ⟨y9, rfl, rfl, rfl⟩ [] rfl 2 rfl [0] rfl 0 rfl
    · intro J7 J7h H
      refine s_block ?_
      refine s_loop (k_wk (loop_ind (fun (s11 : Int × FlashS) (y11 : FlashG) => ⟨Sl E8 a0_fg.A3 a0_fg.c3 a0_f.mask :: Sl E8 A1 c2 a2_to :: D0, FlashT y11 a0_fp s11.2 :: G0, [(0, (.pointer (some ⟨a0_fp, 0, none⟩))), (1, (vi a1_at)), (7, (vb (a0_f.cut == 0))), (34, (.slice A1 a2_to.length c2)), (35, (vi (a2_to.length : Int))), (36, (vi s11.1))]⟩) (nor_Flash_work_l0 a0_f a1_at a2_to J7) _ (fun _ => rfl) ?_ Fuel (0, x5) y6 H) [0, 1, 7, 34, 35, 36] [0, 1] 2 [0] 0 rfl rfl rfl)
      intro k11 s11 y11 ih H
      dsimp only
      rw [nor_Flash_work_l0] at H
      refine s_seq ?_
      refine s_reg [0] rfl ?_
      refine o_run ft [0] rfl rfl ?_
      refine o_nil ?_
      refine q_then ?_
      refine s_seq ?_
      refine s_cond rfl ?_ ?_
      · intro hb12
        have H := cnd_t H hb12
        refine s_skip ?_
        refine q_then ?_
        refine s_seq ?_
        refine s_block ?_
        refine s_seq ?_
        refine s_reg [0, 1, 2, 3, 4] rfl ?_
        refine o_run ft [0] rfl rfl ?_
        obtain ⟨hk15, H⟩ := chk_some H
        refine oc (k_idx 0 1 rfl rfl rfl rfl rfl E8_len rfl Tryz.runUnderlying22 Tryz.sizeOf5 hk15 (g0 rfl) rfl rfl ?_)
        intro b13 q14
        refine o_ld (hD 0 rfl) rfl (ev_ld1 (j := 0) rfl rfl Tryz.isAgg5 (sub_nth (j := 0) rfl) rfl) (g0 rfl) rfl rfl ?_
        refine o_run ft [3, 4] rfl rfl ?_
        refine o_nil ?_
        refine q_then ?_
        refine k_unp 0 rfl ?_
        dsimp only [app, del]
        obtain ⟨r976, Hc977, H⟩ := bind_some' H
        refine s_draw mixed [(3, [27], Has a0_fp 0 [.slice (some ⟨y11.b0, 0, none⟩) s11.2.b.length s11.2.b.length, .slice (some ⟨y11.b1, 0, none⟩) s11.2.wear.length s11.2.wear.length, vi s11.2.cut, .slice y11.A3 s11.2.mask.length y11.c3, vb s11.2.off, vi s11.2.ops]), (12, [27], Has a0_fp 0 [.slice (some ⟨y11.b0, 0, none⟩) s11.2.b.length s11.2.b.length, .slice (some ⟨y11.b1, 0, none⟩) s11.2.wear.length s11.2.wear.length, vi s11.2.cut, .slice y11.A3 s11.2.mask.length y11.c3, vb s11.2.off, vi s11.2.ops])] ?_
        refine wa_loc fun R to fro => to ?_
        have hN15_4 : ∀ (hk1096 : 0 ≤ (wrap64 (a1_at + s11.1)) ∧ (wrap64 (a1_at + s11.1)) < (s11.2.b.length : Int) ∧ (wrap64 (a1_at + s11.1)) < (s11.2.b.length : Int)), ∀ (hk336 : 0 ≤ (wrap64 (a1_at + s11.1)) ∧ (wrap64 (a1_at + s11.1)) < (s11.2.b.length : Int) ∧ (wrap64 (a1_at + s11.1)) < (s11.2.b.length : Int)), ∀ (hk696 : 0 ≤ (wrap64 (a1_at + s11.1)) ∧ (wrap64 (a1_at + s11.1)) < (s11.2.b.length : Int) ∧ (wrap64 (a1_at + s11.1)) < (s11.2.b.length : Int)), (chk ((s11.2.b.set (wrap64 (a1_at + s11.1)).toNat ((at' 0 s11.2.b (wrap64 (a1_at + s11.1))) ^^^ ((((at' 0 s11.2.b (wrap64 (a1_at + s11.1))) ^^^ (at' 0 a2_to s11.1)) : UInt8) &&& ~~~(r976 : UInt8)))).length = s11.2.b.length) <| nor_Flash_work_l0 a0_f a1_at a2_to J7 k11 ((wrap64 (s11.1 + 1)), (⟨(s11.2.b.set (wrap64 (a1_at + s11.1)).toNat ((at' 0 s11.2.b (wrap64 (a1_at + s11.1))) ^^^ ((((at' 0 s11.2.b (wrap64 (a1_at + s11.1))) ^^^ (at' 0 a2_to s11.1)) : UInt8) &&& ~~~(r976 : UInt8)))), s11.2.wear, s11.2.cut, s11.2.mask, s11.2.off, s11.2.ops⟩ : FlashS))) = some r → R (Ro b13 q14 [v8 (at' 0 a2_to s11.1)] :: Sl E8 A1 c2 a2_to :: Sl E8 a0_fg.A3 a0_fg.c3 a0_f.mask :: Sl E8 y11.A3 y11.c3 s11.2.mask :: Sl E8 y11.A3 y11.c3 s11.2.mask :: D0) (At a0_fp 0 [.slice (some ⟨y11.b0, 0, none⟩) s11.2.b.length s11.2.b.length, .slice (some ⟨y11.b1, 0, none⟩) s11.2.wear.length s11.2.wear.length, vi s11.2.cut, .slice y11.A3 s11.2.mask.length y11.c3, vb s11.2.off, vi s11.2.ops] :: At y11.b0 0 ((s11.2.b.set (wrap64 (a1_at + s11.1)).toNat ((at' 0 s11.2.b (wrap64 (a1_at + s11.1))) ^^^ ((((at' 0 s11.2.b (wrap64 (a1_at + s11.1))) ^^^ (at' 0 a2_to s11.1)) : UInt8) &&& ~~~(r976 : UInt8)))).flatMap E8) :: At y11.b1 0 (s11.2.wear.flatMap Ei) :: G0) [(0, (.pointer (some ⟨a0_fp, 0, none⟩))), (1, (vi a1_at)), (7, (vb (a0_f.cut == 0))), (34, (.slice A1 a2_to.length c2)), (35, (vi (a2_to.length : Int))), (36, (vi s11.1))] 0 #[true, true, true, true, true, true, true, true, true, true, true, true, true, true, true, true, true, true, true, true, true, true, true, true, true, true, true, true] := by
          intro hk1096 hk336 hk696 H
          refine to ?_
          refine a_done (by kernel_rfl) (sl_end (by kernel_rfl) (sl_end (by kernel_rfl) sl_nil)) ?_
          refine q_block ?_
          refine q_then ?_
          refine s_reg [0, 1] rfl ?_
          refine o_run ft [0, 1] rfl rfl ?_
          refine o_nil ?_
          refine q_loop ?_
          obtain ⟨hk1216, H⟩ := chk_some H
          refine k_tok 0 (A' := At a0_fp 0 [.slice (some ⟨y11.b0, 0, none⟩) ((s11.2.b.set (wrap64 (a1_at + s11.1)).toNat ((at' 0 s11.2.b (wrap64 (a1_at + s11.1))) ^^^ ((((at' 0 s11.2.b (wrap64 (a1_at + s11.1))) ^^^ (at' 0 a2_to s11.1)) : UInt8) &&& ~~~(r976 : UInt8)))).length) ((s11.2.b.set (wrap64 (a1_at + s11.1)).toNat ((at' 0 s11.2.b (wrap64 (a1_at + s11.1))) ^^^ ((((at' 0 s11.2.b (wrap64 (a1_at + s11.1))) ^^^ (at' 0 a2_to s11.1)) : UInt8) &&& ~~~(r976 : UInt8)))).length), .slice (some ⟨y11.b1, 0, none⟩) s11.2.wear.length s11.2.wear.length, vi s11.2.cut, .slice y11.A3 s11.2.mask.length y11.c3, vb s11.2.off, vi s11.2.ops]) rfl (by rw [hk1216]) ?_
          refine k_pk (FlashT y11 a0_fp (⟨(s11.2.b.set (wrap64 (a1_at + s11.1)).toNat ((at' 0 s11.2.b (wrap64 (a1_at + s11.1))) ^^^ ((((at' 0 s11.2.b (wrap64 (a1_at + s11.1))) ^^^ (at' 0 a2_to s11.1)) : UInt8) &&& ~~~(r976 : UInt8)))), s11.2.wear, s11.2.cut, s11.2.mask, s11.2.off, s11.2.ops⟩ : FlashS)) rfl [3] [0, 0, 0] rfl rfl ?_
          exact k_wk (ih ((wrap64 (s11.1 + 1)), (⟨(s11.2.b.set (wrap64 (a1_at + s11.1)).toNat ((at' 0 s11.2.b (wrap64 (a1_at + s11.1))) ^^^ ((((at' 0 s11.2.b (wrap64 (a1_at + s11.1))) ^^^ (at' 0 a2_to s11.1)) : UInt8) &&& ~~~(r976 : UInt8)))), s11.2.wear, s11.2.cut, s11.2.mask, s11.2.off, s11.2.ops⟩ : FlashS)) y11 H) [0, 1, 7, 34, 35, 36] [2, 1] 5 [0] 0 rfl rfl rfl
        have hN15_3 : ∀ (hk1096 : 0 ≤ (wrap64 (a1_at + s11.1)) ∧ (wrap64 (a1_at + s11.1)) < (s11.2.b.length : Int) ∧ (wrap64 (a1_at + s11.1)) < (s11.2.b.length : Int)), ∀ (hk336 : 0 ≤ (wrap64 (a1_at + s11.1)) ∧ (wrap64 (a1_at + s11.1)) < (s11.2.b.length : Int) ∧ (wrap64 (a1_at + s11.1)) < (s11.2.b.length : Int)), ∀ (hk696 : 0 ≤ (wrap64 (a1_at + s11.1)) ∧ (wrap64 (a1_at + s11.1)) < (s11.2.b.length : Int) ∧ (wrap64 (a1_at + s11.1)) < (s11.2.b.length : Int)), (chk ((s11.2.b.set (wrap64 (a1_at + s11.1)).toNat ((at' 0 s11.2.b (wrap64 (a1_at + s11.1))) ^^^ ((((at' 0 s11.2.b (wrap64 (a1_at + s11.1))) ^^^ (at' 0 a2_to s11.1)) : UInt8) &&& ~~~(r976 : UInt8)))).length = s11.2.b.length) <| nor_Flash_work_l0 a0_f a1_at a2_to J7 k11 ((wrap64 (s11.1 + 1)), (⟨(s11.2.b.set (wrap64 (a1_at + s11.1)).toNat ((at' 0 s11.2.b (wrap64 (a1_at + s11.1))) ^^^ ((((at' 0 s11.2.b (wrap64 (a1_at + s11.1))) ^^^ (at' 0 a2_to s11.1)) : UInt8) &&& ~~~(r976 : UInt8)))), s11.2.wear, s11.2.cut, s11.2.mask, s11.2.off, s11.2.ops⟩ : FlashS))) = some r → R (Ro b13 q14 [v8 (at' 0 a2_to s11.1)] :: Sl E8 A1 c2 a2_to :: Sl E8 a0_fg.A3 a0_fg.c3 a0_f.mask :: Sl E8 y11.A3 y11.c3 s11.2.mask :: Sl E8 y11.A3 y11.c3 s11.2.mask :: D0) (At a0_fp 0 [.slice (some ⟨y11.b0, 0, none⟩) s11.2.b.length s11.2.b.length, .slice (some ⟨y11.b1, 0, none⟩) s11.2.wear.length s11.2.wear.length, vi s11.2.cut, .slice y11.A3 s11.2.mask.length y11.c3, vb s11.2.off, vi s11.2.ops] :: At y11.b0 0 (s11.2.b.flatMap E8) :: At y11.b1 0 (s11.2.wear.flatMap Ei) :: G0) [(0, (.pointer (some ⟨a0_fp, 0, none⟩))), (1, (vi a1_at)), (7, (vb (a0_f.cut == 0))), (34, (.slice A1 a2_to.length c2)), (35, (vi (a2_to.length : Int))), (36, (vi s11.1)), (66, (v8 ((at' 0 s11.2.b (wrap64 (a1_at + s11.1))) ^^^ ((((at' 0 s11.2.b (wrap64 (a1_at + s11.1))) ^^^ (at' 0 a2_to s11.1)) : UInt8) &&& ~~~(r976 : UInt8))))), (67, (.pointer (some ⟨y11.b0, (0 + (wrap64 (a1_at + s11.1)).toNat * 1), none⟩)))] 1 #[true, true, true, true, true, true, true, true, true, true, true, true, true, true, true, true, true, true, true, true, true, true, true, true, true, true, true, false] := by
          intro hk1096 hk336 hk696 H
          refine to ?_
          refine acs [27] rfl (by kernel_rfl) (sl_cons (hG 0 rfl) (sl_cons (hG 0 rfl) sl_nil)) ⟨?_, trivial⟩
          · refine k_st rfl rfl rfl rfl (vs := [v8 ((at' 0 s11.2.b (wrap64 (a1_at + s11.1))) ^^^ ((((at' 0 s11.2.b (wrap64 (a1_at + s11.1))) ^^^ (at' 0 a2_to s11.1)) : UInt8) &&& ~~~(r976 : UInt8)))]) rfl (sz rfl Tryz.sizeOf5) rfl 1 rfl (spl_map E8_len _ (k := (wrap64 (a1_at + s11.1))) _ ⟨hk1096.1, hk1096.2.2⟩ rfl) (by omega) (g0 rfl) rfl ?_
            exact wa_l (by kernel_rfl) (k_wk (fro (hN15_4 hk1096 hk336 hk696 H)) [0, 1, 7, 34, 35, 36] [0, 1, 2, 3, 3] 5 [0, 0, 0] 0 rfl rfl rfl)
        have hN15_2 : ∀ (hk336 : 0 ≤ (wrap64 (a1_at + s11.1)) ∧ (wrap64 (a1_at + s11.1)) < (s11.2.b.length : Int) ∧ (wrap64 (a1_at + s11.1)) < (s11.2.b.length : Int)), ∀ (hk696 : 0 ≤ (wrap64 (a1_at + s11.1)) ∧ (wrap64 (a1_at + s11.1)) < (s11.2.b.length : Int) ∧ (wrap64 (a1_at + s11.1)) < (s11.2.b.length : Int)), (chk (0 ≤ (wrap64 (a1_at + s11.1)) ∧ (wrap64 (a1_at + s11.1)) < (s11.2.b.length : Int) ∧ (wrap64 (a1_at + s11.1)) < (s11.2.b.length : Int)) <| chk ((s11.2.b.set (wrap64 (a1_at + s11.1)).toNat ((at' 0 s11.2.b (wrap64 (a1_at + s11.1))) ^^^ ((((at' 0 s11.2.b (wrap64 (a1_at + s11.1))) ^^^ (at' 0 a2_to s11.1)) : UInt8) &&& ~~~(r976 : UInt8)))).length = s11.2.b.length) <| nor_Flash_work_l0 a0_f a1_at a2_to J7 k11 ((wrap64 (s11.1 + 1)), (⟨(s11.2.b.set (wrap64 (a1_at + s11.1)).toNat ((at' 0 s11.2.b (wrap64 (a1_at + s11.1))) ^^^ ((((at' 0 s11.2.b (wrap64 (a1_at + s11.1))) ^^^ (at' 0 a2_to s11.1)) : UInt8) &&& ~~~(r976 : UInt8)))), s11.2.wear, s11.2.cut, s11.2.mask, s11.2.off, s11.2.ops⟩ : FlashS))) = some r → R (Ro b13 q14 [v8 (at' 0 a2_to s11.1)] :: Sl E8 A1 c2 a2_to :: Sl E8 a0_fg.A3 a0_fg.c3 a0_f.mask :: Sl E8 y11.A3 y11.c3 s11.2.mask :: D0) (At a0_fp 0 [.slice (some ⟨y11.b0, 0, none⟩) s11.2.b.length s11.2.b.length, .slice (some ⟨y11.b1, 0, none⟩) s11.2.wear.length s11.2.wear.length, vi s11.2.cut, .slice y11.A3 s11.2.mask.length y11.c3, vb s11.2.off, vi s11.2.ops] :: At y11.b0 0 (s11.2.b.flatMap E8) :: At y11.b1 0 (s11.2.wear.flatMap Ei) :: G0) [(0, (.pointer (some ⟨a0_fp, 0, none⟩))), (1, (vi a1_at)), (7, (vb (a0_f.cut == 0))), (34, (.slice A1 a2_to.length c2)), (35, (vi (a2_to.length : Int))), (36, (vi s11.1)), (44, (.slice (some ⟨y11.b0, 0, none⟩) s11.2.b.length s11.2.b.length)), (47, (vi (wrap64 (a1_at + s11.1)))), (49, (v8 (at' 0 s11.2.b (wrap64 (a1_at + s11.1))))), (60, (v8 ((at' 0 s11.2.b (wrap64 (a1_at + s11.1))) ^^^ (at' 0 a2_to s11.1)))), (61, (.pointer (some ⟨a0_fp, 0, none⟩))), (62, (vi s11.1)), (63, (vb (a0_f.cut == 0)))] 5 #[true, true, true, true, true, true, true, true, true, true, true, true, true, true, true, true, true, true, true, true, true, true, true, false, false, false, false, false] := by
          intro hk336 hk696 H
          refine to ?_
          refine acs [23] rfl (by kernel_rfl) (sl_cons (hG 0 rfl) (sl_cons (hG 0 rfl) sl_nil)) ⟨?_, trivial⟩
          · refine k_pk (FlashT y11 a0_fp s11.2) rfl [3] [0, 0, 0] rfl rfl ?_
            refine k_call (c_nor_Flash_stays a0_fp s11.2 y11 s11.1 (a0_f.cut == 0) r976 Hc977) Tryz.call226 rfl rfl rfl [] [0] rfl rfl (g0 rfl) rfl rfl ?_
            rintro _ _ _ ⟨rfl, rfl, rfl⟩
            dsimp only [app]
            refine k_unp 0 rfl ?_
            dsimp only [app, del]
            refine a_p1 24 (by kernel_rfl) rfl (ev_bin rfl rfl rfl rfl (andNot_8 _ _)) (fun _ _ _ h => h) (g0 rfl) rfl rfl ?_
            refine a_p1 25 (by kernel_rfl) rfl (ev_bin rfl rfl rfl rfl (xor_8 _ _)) (fun _ _ _ h => h) (g0 rfl) rfl rfl ?_
            obtain ⟨hk1096, H⟩ := chk_some H
            refine a_p1 26 (by kernel_rfl) rfl (ev_idx_slice rfl rfl rfl Tryz.runUnderlying22 Tryz.sizeOf5 ⟨hk1096.1, hk1096.2.1⟩ rfl) (fun _ _ _ h => h) (g0 rfl) rfl rfl ?_
            exact wa_l (by kernel_rfl) (k_wk (fro (hN15_3 hk1096 hk336 hk696 H)) [0, 1, 7, 34, 35, 36, 66, 67] [1, 2, 3, 0, 0] 5 [0, 0, 0] 0 rfl rfl rfl)
        have hN15_5 : ∀ (hk336 : 0 ≤ (wrap64 (a1_at + s11.1)) ∧ (wrap64 (a1_at + s11.1)) < (s11.2.b.length : Int) ∧ (wrap64 (a1_at + s11.1)) < (s11.2.b.length : Int)), ∀ (hk696 : 0 ≤ (wrap64 (a1_at + s11.1)) ∧ (wrap64 (a1_at + s11.1)) < (s11.2.b.length : Int) ∧ (wrap64 (a1_at + s11.1)) < (s11.2.b.length : Int)), (chk (0 ≤ (wrap64 (a1_at + s11.1)) ∧ (wrap64 (a1_at + s11.1)) < (s11.2.b.length : Int) ∧ (wrap64 (a1_at + s11.1)) < (s11.2.b.length : Int)) <| chk ((s11.2.b.set (wrap64 (a1_at + s11.1)).toNat ((at' 0 s11.2.b (wrap64 (a1_at + s11.1))) ^^^ ((((at' 0 s11.2.b (wrap64 (a1_at + s11.1))) ^^^ (at' 0 a2_to s11.1)) : UInt8) &&& ~~~(r976 : UInt8)))).length = s11.2.b.length) <| nor_Flash_work_l0 a0_f a1_at a2_to J7 k11 ((wrap64 (s11.1 + 1)), (⟨(s11.2.b.set (wrap64 (a1_at + s11.1)).toNat ((at' 0 s11.2.b (wrap64 (a1_at + s11.1))) ^^^ ((((at' 0 s11.2.b (wrap64 (a1_at + s11.1))) ^^^ (at' 0 a2_to s11.1)) : UInt8) &&& ~~~(r976 : UInt8)))), s11.2.wear, s11.2.cut, s11.2.mask, s11.2.off, s11.2.ops⟩ : FlashS))) = some r → R (Ro b13 q14 [v8 (at' 0 a2_to s11.1)] :: Sl E8 A1 c2 a2_to :: Sl E8 a0_fg.A3 a0_fg.c3 a0_f.mask :: Sl E8 y11.A3 y11.c3 s11.2.mask :: Sl E8 y11.A3 y11.c3 s11.2.mask :: D0) (At a0_fp 0 [.slice (some ⟨y11.b0, 0, none⟩) s11.2.b.length s11.2.b.length, .slice (some ⟨y11.b1, 0, none⟩) s11.2.wear.length s11.2.wear.length, vi s11.2.cut, .slice y11.A3 s11.2.mask.length y11.c3, vb s11.2.off, vi s11.2.ops] :: At y11.b0 0 (s11.2.b.flatMap E8) :: At y11.b1 0 (s11.2.wear.flatMap Ei) :: G0) [(0, (.pointer (some ⟨a0_fp, 0, none⟩))), (1, (vi a1_at)), (7, (vb (a0_f.cut == 0))), (34, (.slice A1 a2_to.length c2)), (35, (vi (a2_to.length : Int))), (36, (vi s11.1)), (44, (.slice (some ⟨y11.b0, 0, none⟩) s11.2.b.length s11.2.b.length)), (47, (vi (wrap64 (a1_at + s11.1)))), (49, (v8 (at' 0 s11.2.b (wrap64 (a1_at + s11.1))))), (57, (.pointer (some ⟨y11.b0, (0 + (wrap64 (a1_at + s11.1)).toNat * 1), none⟩))), (59, (v8 (at' 0 a2_to s11.1))), (64, (v8 r976))] 6 #[true, true, true, true, true, true, true, true, true, true, true, true, true, true, true, true, true, false, true, false, true, true, true, true, false, false, false, false] := by
          intro hk336 hk696 H
          refine to ?_
          refine acs [17] rfl (by kernel_rfl) (sl_cons (hG 0 rfl) (sl_cons (hG 0 rfl) sl_nil)) ⟨?_, trivial⟩
          · refine k_ld (hG 1 rfl) rfl (ev_ld1 rfl rfl Tryz.isAgg5 (sub_map E8_len 0 (k := (wrap64 (a1_at + s11.1))) ⟨hk696.1, hk696.2.2⟩ rfl) (by omega)) (g0 rfl) rfl rfl ?_
            refine a_p1 19 (by kernel_rfl) rfl (ev_bin rfl rfl rfl rfl (xor_8 _ _)) (fun _ _ _ h => h) (g0 rfl) rfl rfl ?_
            refine a_p1 24 (by kernel_rfl) rfl (ev_bin rfl rfl rfl rfl (andNot_8 _ _)) (fun _ _ _ h => h) (g0 rfl) rfl rfl ?_
            refine a_p1 25 (by kernel_rfl) rfl (ev_bin rfl rfl rfl rfl (xor_8 _ _)) (fun _ _ _ h => h) (g0 rfl) rfl rfl ?_
            obtain ⟨hk1096, H⟩ := chk_some H
            refine a_p1 26 (by kernel_rfl) rfl (ev_idx_slice rfl rfl rfl Tryz.runUnderlying22 Tryz.sizeOf5 ⟨hk1096.1, hk1096.2.1⟩ rfl) (fun _ _ _ h => h) (g0 rfl) rfl rfl ?_
            exact wa_l (by kernel_rfl) (k_wk (fro (hN15_3 hk1096 hk336 hk696 H)) [0, 1, 7, 34, 35, 36, 66, 67] [0, 1, 2, 3, 3] 5 [0, 0, 0] 0 rfl rfl rfl)
        have hN15_1 : ∀ (hk336 : 0 ≤ (wrap64 (a1_at + s11.1)) ∧ (wrap64 (a1_at + s11.1)) < (s11.2.b.length : Int) ∧ (wrap64 (a1_at + s11.1)) < (s11.2.b.length : Int)), ∀ (hk696 : 0 ≤ (wrap64 (a1_at + s11.1)) ∧ (wrap64 (a1_at + s11.1)) < (s11.2.b.length : Int) ∧ (wrap64 (a1_at + s11.1)) < (s11.2.b.length : Int)), (chk (0 ≤ (wrap64 (a1_at + s11.1)) ∧ (wrap64 (a1_at + s11.1)) < (s11.2.b.length : Int) ∧ (wrap64 (a1_at + s11.1)) < (s11.2.b.length : Int)) <| chk ((s11.2.b.set (wrap64 (a1_at + s11.1)).toNat ((at' 0 s11.2.b (wrap64 (a1_at + s11.1))) ^^^ ((((at' 0 s11.2.b (wrap64 (a1_at + s11.1))) ^^^ (at' 0 a2_to s11.1)) : UInt8) &&& ~~~(r976 : UInt8)))).length = s11.2.b.length) <| nor_Flash_work_l0 a0_f a1_at a2_to J7 k11 ((wrap64 (s11.1 + 1)), (⟨(s11.2.b.set (wrap64 (a1_at + s11.1)).toNat ((at' 0 s11.2.b (wrap64 (a1_at + s11.1))) ^^^ ((((at' 0 s11.2.b (wrap64 (a1_at + s11.1))) ^^^ (at' 0 a2_to s11.1)) : UInt8) &&& ~~~(r976 : UInt8)))), s11.2.wear, s11.2.cut, s11.2.mask, s11.2.off, s11.2.ops⟩ : FlashS))) = some r → R (Ro b13 q14 [v8 (at' 0 a2_to s11.1)] :: Sl E8 A1 c2 a2_to :: Sl E8 a0_fg.A3 a0_fg.c3 a0_f.mask :: Sl E8 y11.A3 y11.c3 s11.2.mask :: D0) (At a0_fp 0 [.slice (some ⟨y11.b0, 0, none⟩) s11.2.b.length s11.2.b.length, .slice (some ⟨y11.b1, 0, none⟩) s11.2.wear.length s11.2.wear.length, vi s11.2.cut, .slice y11.A3 s11.2.mask.length y11.c3, vb s11.2.off, vi s11.2.ops] :: At y11.b0 0 (s11.2.b.flatMap E8) :: At y11.b1 0 (s11.2.wear.flatMap Ei) :: G0) [(0, (.pointer (some ⟨a0_fp, 0, none⟩))), (1, (vi a1_at)), (7, (vb (a0_f.cut == 0))), (34, (.slice A1 a2_to.length c2)), (35, (vi (a2_to.length : Int))), (36, (vi s11.1)), (44, (.slice (some ⟨y11.b0, 0, none⟩) s11.2.b.length s11.2.b.length)), (47, (vi (wrap64 (a1_at + s11.1)))), (49, (v8 (at' 0 s11.2.b (wrap64 (a1_at + s11.1))))), (57, (.pointer (some ⟨y11.b0, (0 + (wrap64 (a1_at + s11.1)).toNat * 1), none⟩))), (59, (v8 (at' 0 a2_to s11.1))), (61, (.pointer (some ⟨a0_fp, 0, none⟩))), (62, (vi s11.1)), (63, (vb (a0_f.cut == 0)))] 7 #[true, true, true, true, true, true, true, true, true, true, true, true, true, true, true, true, true, false, true, false, true, true, true, false, false, false, false, false] := by
          intro hk336 hk696 H
          refine to ?_
          refine acs [17, 23] rfl (by kernel_rfl) (sl_cons (hG 0 rfl) (sl_cons (hG 0 rfl) sl_nil)) ⟨?_, ?_, trivial⟩
          · refine k_ld (hG 1 rfl) rfl (ev_ld1 rfl rfl Tryz.isAgg5 (sub_map E8_len 0 (k := (wrap64 (a1_at + s11.1))) ⟨hk696.1, hk696.2.2⟩ rfl) (by omega)) (g0 rfl) rfl rfl ?_
            refine a_p1 19 (by kernel_rfl) rfl (ev_bin rfl rfl rfl rfl (xor_8 _ _)) (fun _ _ _ h => h) (g0 rfl) rfl rfl ?_
            exact wa_l (by kernel_rfl) (k_wk (fro (hN15_2 hk336 hk696 H)) [0, 1, 7, 34, 35, 36, 44, 47, 49, 60, 61, 62, 63] [0, 1, 2, 3] 4 [0, 0, 0] 0 rfl rfl rfl)
          · refine k_pk (FlashT y11 a0_fp s11.2) rfl [3] [0, 0, 0] rfl rfl ?_
            refine k_call (c_nor_Flash_stays a0_fp s11.2 y11 s11.1 (a0_f.cut == 0) r976 Hc977) Tryz.call226 rfl rfl rfl [] [0] rfl rfl (g0 rfl) rfl rfl ?_
            rintro _ _ _ ⟨rfl, rfl, rfl⟩
            dsimp only [app]
            refine k_unp 0 rfl ?_
            dsimp only [app, del]
            exact wa_l (by kernel_rfl) (k_wk (fro (hN15_5 hk336 hk696 H)) [0, 1, 7, 34, 35, 36, 44, 47, 49, 57, 59, 64] [1, 2, 3, 0, 0] 5 [0, 0, 0] 0 rfl rfl rfl)
        have hN15_7 : ∀ (hk336 : 0 ≤ (wrap64 (a1_at + s11.1)) ∧ (wrap64 (a1_at + s11.1)) < (s11.2.b.length : Int) ∧ (wrap64 (a1_at + s11.1)) < (s11.2.b.length : Int)), ∀ (hk696 : 0 ≤ (wrap64 (a1_at + s11.1)) ∧ (wrap64 (a1_at + s11.1)) < (s11.2.b.length : Int) ∧ (wrap64 (a1_at + s11.1)) < (s11.2.b.length : Int)), (chk (0 ≤ (wrap64 (a1_at + s11.1)) ∧ (wrap64 (a1_at + s11.1)) < (s11.2.b.length : Int) ∧ (wrap64 (a1_at + s11.1)) < (s11.2.b.length : Int)) <| chk ((s11.2.b.set (wrap64 (a1_at + s11.1)).toNat ((at' 0 s11.2.b (wrap64 (a1_at + s11.1))) ^^^ ((((at' 0 s11.2.b (wrap64 (a1_at + s11.1))) ^^^ (at' 0 a2_to s11.1)) : UInt8) &&& ~~~(r976 : UInt8)))).length = s11.2.b.length) <| nor_Flash_work_l0 a0_f a1_at a2_to J7 k11 ((wrap64 (s11.1 + 1)), (⟨(s11.2.b.set (wrap64 (a1_at + s11.1)).toNat ((at' 0 s11.2.b (wrap64 (a1_at + s11.1))) ^^^ ((((at' 0 s11.2.b (wrap64 (a1_at + s11.1))) ^^^ (at' 0 a2_to s11.1)) : UInt8) &&& ~~~(r976 : UInt8)))), s11.2.wear, s11.2.cut, s11.2.mask, s11.2.off, s11.2.ops⟩ : FlashS))) = some r → R (Ro b13 q14 [v8 (at' 0 a2_to s11.1)] :: Sl E8 A1 c2 a2_to :: Sl E8 a0_fg.A3 a0_fg.c3 a0_f.mask :: Sl E8 y11.A3 y11.c3 s11.2.mask :: Sl E8 y11.A3 y11.c3 s11.2.mask :: D0) (At a0_fp 0 [.slice (some ⟨y11.b0, 0, none⟩) s11.2.b.length s11.2.b.length, .slice (some ⟨y11.b1, 0, none⟩) s11.2.wear.length s11.2.wear.length, vi s11.2.cut, .slice y11.A3 s11.2.mask.length y11.c3, vb s11.2.off, vi s11.2.ops] :: At y11.b0 0 (s11.2.b.flatMap E8) :: At y11.b1 0 (s11.2.wear.flatMap Ei) :: G0) [(0, (.pointer (some ⟨a0_fp, 0, none⟩))), (1, (vi a1_at)), (7, (vb (a0_f.cut == 0))), (34, (.slice A1 a2_to.length c2)), (35, (vi (a2_to.length : Int))), (36, (vi s11.1)), (44, (.slice (some ⟨y11.b0, 0, none⟩) s11.2.b.length s11.2.b.length)), (47, (vi (wrap64 (a1_at + s11.1)))), (48, (.pointer (some ⟨y11.b0, (0 + (wrap64 (a1_at + s11.1)).toNat * 1), none⟩))), (65, (v8 ((((at' 0 s11.2.b (wrap64 (a1_at + s11.1))) ^^^ (at' 0 a2_to s11.1)) : UInt8) &&& ~~~(r976 : UInt8))))] 4 #[true, true, true, true, true, true, true, true, false, true, true, true, true, true, true, true, true, true, true, true, true, true, true, true, true, false, false, false] := by
          intro hk336 hk696 H
          refine to ?_
          refine acs [8] rfl (by kernel_rfl) (sl_cons (hG 0 rfl) (sl_cons (hG 0 rfl) sl_nil)) ⟨?_, trivial⟩
          · refine k_ld (hG 1 rfl) rfl (ev_ld1 rfl rfl Tryz.isAgg5 (sub_map E8_len 0 (k := (wrap64 (a1_at + s11.1))) ⟨hk336.1, hk336.2.2⟩ rfl) (by omega)) (g0 rfl) rfl rfl ?_
            refine a_p1 25 (by kernel_rfl) rfl (ev_bin rfl rfl rfl rfl (xor_8 _ _)) (fun _ _ _ h => h) (g0 rfl) rfl rfl ?_
            obtain ⟨hk1096, H⟩ := chk_some H
            refine a_p1 26 (by kernel_rfl) rfl (ev_idx_slice rfl rfl rfl Tryz.runUnderlying22 Tryz.sizeOf5 ⟨hk1096.1, hk1096.2.1⟩ rfl) (fun _ _ _ h => h) (g0 rfl) rfl rfl ?_
            exact wa_l (by kernel_rfl) (k_wk (fro (hN15_3 hk1096 hk336 hk696 H)) [0, 1, 7, 34, 35, 36, 66, 67] [0, 1, 2, 3, 3] 5 [0, 0, 0] 0 rfl rfl rfl)
        have hN15_6 : ∀ (hk336 : 0 ≤ (wrap64 (a1_at + s11.1)) ∧ (wrap64 (a1_at + s11.1)) < (s11.2.b.length : Int) ∧ (wrap64 (a1_at + s11.1)) < (s11.2.b.length : Int)), ∀ (hk696 : 0 ≤ (wrap64 (a1_at + s11.1)) ∧ (wrap64 (a1_at + s11.1)) < (s11.2.b.length : Int) ∧ (wrap64 (a1_at + s11.1)) < (s11.2.b.length : Int)), (chk (0 ≤ (wrap64 (a1_at + s11.1)) ∧ (wrap64 (a1_at + s11.1)) < (s11.2.b.length : Int) ∧ (wrap64 (a1_at + s11.1)) < (s11.2.b.length : Int)) <| chk ((s11.2.b.set (wrap64 (a1_at + s11.1)).toNat ((at' 0 s11.2.b (wrap64 (a1_at + s11.1))) ^^^ ((((at' 0 s11.2.b (wrap64 (a1_at + s11.1))) ^^^ (at' 0 a2_to s11.1)) : UInt8) &&& ~~~(r976 : UInt8)))).length = s11.2.b.length) <| nor_Flash_work_l0 a0_f a1_at a2_to J7 k11 ((wrap64 (s11.1 + 1)), (⟨(s11.2.b.set (wrap64 (a1_at + s11.1)).toNat ((at' 0 s11.2.b (wrap64 (a1_at + s11.1))) ^^^ ((((at' 0 s11.2.b (wrap64 (a1_at + s11.1))) ^^^ (at' 0 a2_to s11.1)) : UInt8) &&& ~~~(r976 : UInt8)))), s11.2.wear, s11.2.cut, s11.2.mask, s11.2.off, s11.2.ops⟩ : FlashS))) = some r → R (Ro b13 q14 [v8 (at' 0 a2_to s11.1)] :: Sl E8 A1 c2 a2_to :: Sl E8 a0_fg.A3 a0_fg.c3 a0_f.mask :: Sl E8 y11.A3 y11.c3 s11.2.mask :: D0) (At a0_fp 0 [.slice (some ⟨y11.b0, 0, none⟩) s11.2.b.length s11.2.b.length, .slice (some ⟨y11.b1, 0, none⟩) s11.2.wear.length s11.2.wear.length, vi s11.2.cut, .slice y11.A3 s11.2.mask.length y11.c3, vb s11.2.off, vi s11.2.ops] :: At y11.b0 0 (s11.2.b.flatMap E8) :: At y11.b1 0 (s11.2.wear.flatMap Ei) :: G0) [(0, (.pointer (some ⟨a0_fp, 0, none⟩))), (1, (vi a1_at)), (7, (vb (a0_f.cut == 0))), (34, (.slice A1 a2_to.length c2)), (35, (vi (a2_to.length : Int))), (36, (vi s11.1)), (44, (.slice (some ⟨y11.b0, 0, none⟩) s11.2.b.length s11.2.b.length)), (47, (vi (wrap64 (a1_at + s11.1)))), (48, (.pointer (some ⟨y11.b0, (0 + (wrap64 (a1_at + s11.1)).toNat * 1), none⟩))), (60, (v8 ((at' 0 s11.2.b (wrap64 (a1_at + s11.1))) ^^^ (at' 0 a2_to s11.1)))), (61, (.pointer (some ⟨a0_fp, 0, none⟩))), (62, (vi s11.1)), (63, (vb (a0_f.cut == 0)))] 6 #[true, true, true, true, true, true, true, true, false, true, true, true, true, true, true, true, true, true, true, true, true, true, true, false, false, false, false, false] := by
          intro hk336 hk696 H
          refine to ?_
          refine acs [8, 23] rfl (by kernel_rfl) (sl_cons (hG 0 rfl) (sl_cons (hG 0 rfl) sl_nil)) ⟨?_, ?_, trivial⟩
          · refine k_ld (hG 1 rfl) rfl (ev_ld1 rfl rfl Tryz.isAgg5 (sub_map E8_len 0 (k := (wrap64 (a1_at + s11.1))) ⟨hk336.1, hk336.2.2⟩ rfl) (by omega)) (g0 rfl) rfl rfl ?_
            exact wa_l (by kernel_rfl) (k_wk (fro (hN15_2 hk336 hk696 H)) [0, 1, 7, 34, 35, 36, 44, 47, 49, 60, 61, 62, 63] [0, 1, 2, 3] 4 [0, 0, 0] 0 rfl rfl rfl)
          · refine k_pk (FlashT y11 a0_fp s11.2) rfl [3] [0, 0, 0] rfl rfl ?_
            refine k_call (c_nor_Flash_stays a0_fp s11.2 y11 s11.1 (a0_f.cut == 0) r976 Hc977) Tryz.call226 rfl rfl rfl [] [0] rfl rfl (g0 rfl) rfl rfl ?_
            rintro _ _ _ ⟨rfl, rfl, rfl⟩
            dsimp only [app]
            refine k_unp 0 rfl ?_
            dsimp only [app, del]
            refine a_p1 24 (by kernel_rfl) rfl (ev_bin rfl rfl rfl rfl (andNot_8 _ _)) (fun _ _ _ h => h) (g0 rfl) rfl rfl ?_
            exact wa_l (by kernel_rfl) (k_wk (fro (hN15_7 hk336 hk696 H)) [0, 1, 7, 34, 35, 36, 44, 47, 48, 65] [1, 2, 3, 0, 0] 5 [0, 0, 0] 0 rfl rfl rfl)
        have hN15_8 : ∀ (hk336 : 0 ≤ (wrap64 (a1_at + s11.1)) ∧ (wrap64 (a1_at + s11.1)) < (s11.2.b.length : Int) ∧ (wrap64 (a1_at + s11.1)) < (s11.2.b.length : Int)), ∀ (hk696 : 0 ≤ (wrap64 (a1_at + s11.1)) ∧ (wrap64 (a1_at + s11.1)) < (s11.2.b.length : Int) ∧ (wrap64 (a1_at + s11.1)) < (s11.2.b.length : Int)), (chk (0 ≤ (wrap64 (a1_at + s11.1)) ∧ (wrap64 (a1_at + s11.1)) < (s11.2.b.length : Int) ∧ (wrap64 (a1_at + s11.1)) < (s11.2.b.length : Int)) <| chk ((s11.2.b.set (wrap64 (a1_at + s11.1)).toNat ((at' 0 s11.2.b (wrap64 (a1_at + s11.1))) ^^^ ((((at' 0 s11.2.b (wrap64 (a1_at + s11.1))) ^^^ (at' 0 a2_to s11.1)) : UInt8) &&& ~~~(r976 : UInt8)))).length = s11.2.b.length) <| nor_Flash_work_l0 a0_f a1_at a2_to J7 k11 ((wrap64 (s11.1 + 1)), (⟨(s11.2.b.set (wrap64 (a1_at + s11.1)).toNat ((at' 0 s11.2.b (wrap64 (a1_at + s11.1))) ^^^ ((((at' 0 s11.2.b (wrap64 (a1_at + s11.1))) ^^^ (at' 0 a2_to s11.1)) : UInt8) &&& ~~~(r976 : UInt8)))), s11.2.wear, s11.2.cut, s11.2.mask, s11.2.off, s11.2.ops⟩ : FlashS))) = some r → R (Ro b13 q14 [v8 (at' 0 a2_to s11.1)] :: Sl E8 A1 c2 a2_to :: Sl E8 a0_fg.A3 a0_fg.c3 a0_f.mask :: Sl E8 y11.A3 y11.c3 s11.2.mask :: Sl E8 y11.A3 y11.c3 s11.2.mask :: D0) (At a0_fp 0 [.slice (some ⟨y11.b0, 0, none⟩) s11.2.b.length s11.2.b.length, .slice (some ⟨y11.b1, 0, none⟩) s11.2.wear.length s11.2.wear.length, vi s11.2.cut, .slice y11.A3 s11.2.mask.length y11.c3, vb s11.2.off, vi s11.2.ops] :: At y11.b0 0 (s11.2.b.flatMap E8) :: At y11.b1 0 (s11.2.wear.flatMap Ei) :: G0) [(0, (.pointer (some ⟨a0_fp, 0, none⟩))), (1, (vi a1_at)), (7, (vb (a0_f.cut == 0))), (34, (.slice A1 a2_to.length c2)), (35, (vi (a2_to.length : Int))), (36, (vi s11.1)), (44, (.slice (some ⟨y11.b0, 0, none⟩) s11.2.b.length s11.2.b.length)), (47, (vi (wrap64 (a1_at + s11.1)))), (48, (.pointer (some ⟨y11.b0, (0 + (wrap64 (a1_at + s11.1)).toNat * 1), none⟩))), (57, (.pointer (some ⟨y11.b0, (0 + (wrap64 (a1_at + s11.1)).toNat * 1), none⟩))), (59, (v8 (at' 0 a2_to s11.1))), (64, (v8 r976))] 7 #[true, true, true, true, true, true, true, true, false, true, true, true, true, true, true, true, true, false, true, false, true, true, true, true, false, false, false, false] := by
          intro hk336 hk696 H
          refine to ?_
          refine acs [8, 17] rfl (by kernel_rfl) (sl_cons (hG 0 rfl) (sl_cons (hG 0 rfl) sl_nil)) ⟨?_, ?_, trivial⟩
          · refine k_ld (hG 1 rfl) rfl (ev_ld1 rfl rfl Tryz.isAgg5 (sub_map E8_len 0 (k := (wrap64 (a1_at + s11.1))) ⟨hk336.1, hk336.2.2⟩ rfl) (by omega)) (g0 rfl) rfl rfl ?_
            exact wa_l (by kernel_rfl) (k_wk (fro (hN15_5 hk336 hk696 H)) [0, 1, 7, 34, 35, 36, 44, 47, 49, 57, 59, 64] [0, 1, 2, 3, 3] 5 [0, 0, 0] 0 rfl rfl rfl)
          · refine k_ld (hG 1 rfl) rfl (ev_ld1 rfl rfl Tryz.isAgg5 (sub_map E8_len 0 (k := (wrap64 (a1_at + s11.1))) ⟨hk696.1, hk696.2.2⟩ rfl) (by omega)) (g0 rfl) rfl rfl ?_
            refine a_p1 19 (by kernel_rfl) rfl (ev_bin rfl rfl rfl rfl (xor_8 _ _)) (fun _ _ _ h => h) (g0 rfl) rfl rfl ?_
            refine a_p1 24 (by kernel_rfl) rfl (ev_bin rfl rfl rfl rfl (andNot_8 _ _)) (fun _ _ _ h => h) (g0 rfl) rfl rfl ?_
            exact wa_l (by kernel_rfl) (k_wk (fro (hN15_7 hk336 hk696 H)) [0, 1, 7, 34, 35, 36, 44, 47, 48, 65] [0, 1, 2, 3, 3] 5 [0, 0, 0] 0 rfl rfl rfl)
        have hN15_0 : ∀ (hk336 : 0 ≤ (wrap64 (a1_at + s11.1)) ∧ (wrap64 (a1_at + s11.1)) < (s11.2.b.length : Int) ∧ (wrap64 (a1_at + s11.1)) < (s11.2.b.length : Int)), ∀ (hk696 : 0 ≤ (wrap64 (a1_at + s11.1)) ∧ (wrap64 (a1_at + s11.1)) < (s11.2.b.length : Int) ∧ (wrap64 (a1_at + s11.1)) < (s11.2.b.length : Int)), (chk (0 ≤ (wrap64 (a1_at + s11.1)) ∧ (wrap64 (a1_at + s11.1)) < (s11.2.b.length : Int) ∧ (wrap64 (a1_at + s11.1)) < (s11.2.b.length : Int)) <| chk ((s11.2.b.set (wrap64 (a1_at + s11.1)).toNat ((at' 0 s11.2.b (wrap64 (a1_at + s11.1))) ^^^ ((((at' 0 s11.2.b (wrap64 (a1_at + s11.1))) ^^^ (at' 0 a2_to s11.1)) : UInt8) &&& ~~~(r976 : UInt8)))).length = s11.2.b.length) <| nor_Flash_work_l0 a0_f a1_at a2_to J7 k11 ((wrap64 (s11.1 + 1)), (⟨(s11.2.b.set (wrap64 (a1_at + s11.1)).toNat ((at' 0 s11.2.b (wrap64 (a1_at + s11.1))) ^^^ ((((at' 0 s11.2.b (wrap64 (a1_at + s11.1))) ^^^ (at' 0 a2_to s11.1)) : UInt8) &&& ~~~(r976 : UInt8)))), s11.2.wear, s11.2.cut, s11.2.mask, s11.2.off, s11.2.ops⟩ : FlashS))) = some r → R (Ro b13 q14 [v8 (at' 0 a2_to s11.1)] :: Sl E8 A1 c2 a2_to :: Sl E8 a0_fg.A3 a0_fg.c3 a0_f.mask :: Sl E8 y11.A3 y11.c3 s11.2.mask :: D0) (At a0_fp 0 [.slice (some ⟨y11.b0, 0, none⟩) s11.2.b.length s11.2.b.length, .slice (some ⟨y11.b1, 0, none⟩) s11.2.wear.length s11.2.wear.length, vi s11.2.cut, .slice y11.A3 s11.2.mask.length y11.c3, vb s11.2.off, vi s11.2.ops] :: At y11.b0 0 (s11.2.b.flatMap E8) :: At y11.b1 0 (s11.2.wear.flatMap Ei) :: G0) [(0, (.pointer (some ⟨a0_fp, 0, none⟩))), (1, (vi a1_at)), (7, (vb (a0_f.cut == 0))), (34, (.slice A1 a2_to.length c2)), (35, (vi (a2_to.length : Int))), (36, (vi s11.1)), (44, (.slice (some ⟨y11.b0, 0, none⟩) s11.2.b.length s11.2.b.length)), (47, (vi (wrap64 (a1_at + s11.1)))), (48, (.pointer (some ⟨y11.b0, (0 + (wrap64 (a1_at + s11.1)).toNat * 1), none⟩))), (57, (.pointer (some ⟨y11.b0, (0 + (wrap64 (a1_at + s11.1)).toNat * 1), none⟩))), (59, (v8 (at' 0 a2_to s11.1))), (61, (.pointer (some ⟨a0_fp, 0, none⟩))), (62, (vi s11.1)), (63, (vb (a0_f.cut == 0)))] 8 #[true, true, true, true, true, true, true, true, false, true, true, true, true, true, true, true, true, false, true, false, true, true, true, false, false, false, false, false] := by
          intro hk336 hk696 H
          refine to ?_
          refine acs [8, 17, 23] rfl (by kernel_rfl) (sl_cons (hG 0 rfl) (sl_cons (hG 0 rfl) sl_nil)) ⟨?_, ?_, ?_, trivial⟩
          · refine k_ld (hG 1 rfl) rfl (ev_ld1 rfl rfl Tryz.isAgg5 (sub_map E8_len 0 (k := (wrap64 (a1_at + s11.1))) ⟨hk336.1, hk336.2.2⟩ rfl) (by omega)) (g0 rfl) rfl rfl ?_
            exact wa_l (by kernel_rfl) (k_wk (fro (hN15_1 hk336 hk696 H)) [0, 1, 7, 34, 35, 36, 44, 47, 49, 57, 59, 61, 62, 63] [0, 1, 2, 3] 4 [0, 0, 0] 0 rfl rfl rfl)
          · refine k_ld (hG 1 rfl) rfl (ev_ld1 rfl rfl Tryz.isAgg5 (sub_map E8_len 0 (k := (wrap64 (a1_at + s11.1))) ⟨hk696.1, hk696.2.2⟩ rfl) (by omega)) (g0 rfl) rfl rfl ?_
            refine a_p1 19 (by kernel_rfl) rfl (ev_bin rfl rfl rfl rfl (xor_8 _ _)) (fun _ _ _ h => h) (g0 rfl) rfl rfl ?_
            exact wa_l (by kernel_rfl) (k_wk (fro (hN15_6 hk336 hk696 H)) [0, 1, 7, 34, 35, 36, 44, 47, 48, 60, 61, 62, 63] [0, 1, 2, 3] 4 [0, 0, 0] 0 rfl rfl rfl)
          · refine k_pk (FlashT y11 a0_fp s11.2) rfl [3] [0, 0, 0] rfl rfl ?_
            refine k_call (c_nor_Flash_stays a0_fp s11.2 y11 s11.1 (a0_f.cut == 0) r976 Hc977) Tryz.call226 rfl rfl rfl [] [0] rfl rfl (g0 rfl) rfl rfl ?_
            rintro _ _ _ ⟨rfl, rfl, rfl⟩
            dsimp only [app]
            refine k_unp 0 rfl ?_
            dsimp only [app, del]
            exact wa_l (by kernel_rfl) (k_wk (fro (hN15_8 hk336 hk696 H)) [0, 1, 7, 34, 35, 36, 44, 47, 48, 57, 59, 64] [1, 2, 3, 0, 0] 5 [0, 0, 0] 0 rfl rfl rfl)
        refine a_run ft [0, 1, 2] rfl (fun _ _ _ _ _ h => h) (by kernel_rfl) rfl ?_
        refine a_l1 3 0 rfl (by kernel_rfl) rfl (ev_ld1 (j := 0) rfl rfl Tryz.isAgg22 (sub_nth (j := 0) rfl) rfl) (fun _ _ _ h => h) (g0 rfl) rfl rfl ?_
        refine a_run ft [4, 5, 6] rfl (fun _ _ _ _ _ h => h) (by kernel_rfl) rfl ?_
        obtain ⟨hk336, H⟩ := chk_some H
        refine a_p1 7 (by kernel_rfl) rfl (ev_idx_slice rfl rfl rfl Tryz.runUnderlying22 Tryz.sizeOf5 ⟨hk336.1, hk336.2.1⟩ rfl) (fun _ _ _ h => h) (g0 rfl) rfl rfl ?_
        refine a_run ft [9, 10, 11] rfl (fun _ _ _ _ _ h => h) (by kernel_rfl) rfl ?_
        refine a_l1 12 1 rfl (by kernel_rfl) rfl (ev_ld1 (j := 0) rfl rfl Tryz.isAgg22 (sub_nth (j := 0) rfl) rfl) (fun _ _ _ h => h) (g0 rfl) rfl rfl ?_
        refine a_run ft [13, 14, 15] rfl (fun _ _ _ _ _ h => h) (by kernel_rfl) rfl ?_
        obtain ⟨hk696, H⟩ := chk_some H
        refine a_p1 16 (by kernel_rfl) rfl (ev_idx_slice rfl rfl rfl Tryz.runUnderlying22 Tryz.sizeOf5 ⟨hk696.1, hk696.2.1⟩ rfl) (fun _ _ _ h => h) (g0 rfl) rfl rfl ?_
        refine a_run ft [18, 20, 21, 22] rfl (fun _ _ _ _ _ h => h) (by kernel_rfl) rfl ?_
        exact wa_l (by kernel_rfl) (k_wk (fro (hN15_0 hk336 hk696 H)) [0, 1, 7, 34, 35, 36, 44, 47, 48, 57, 59, 61, 62, 63] [1, 3, 2, 0] 4 [0, 0, 0] 0 rfl rfl rfl)
      · intro hb12
        have H := cnd_f H hb12
        refine s_exit ?_
        refine q_then_x ?_
        refine q_then_x ?_
        refine q_block_x ?_
        exact k_wk (J7h s11.2 y11 H) [0, 7] [0, 1] 2 [0] 0 rfl rfl rfl
  · intro J4 J4h H
    refine s_cond rfl ?_ ?_
    · intro hb1216
      have H := cnd_t H hb1216
      refine s_reg [0, 1, 2, 3, 4, 5, 6, 7] rfl ?_
      refine o_run ft [0, 1, 2] rfl rfl ?_
      refine k_unp 0 rfl ?_
      dsimp only [app, del]
      refine o_ld (hG 0 rfl) rfl (ev_ld1 (j := 2) rfl rfl Tryz.isAgg3 (sub_nth (j := 2) rfl) rfl) (g0 rfl) rfl rfl ?_
      refine o_run ft [4, 5, 6] rfl rfl ?_
      refine oc (k_st (j := 2) rfl rfl rfl rfl (vs := [vi (wrap64 ((⟨a0_f.b, a0_f.wear, a0_f.cut, a0_f.mask, a0_f.off, (wrap64 (a0_f.ops + 1))⟩ : FlashS).cut - 1))]) rfl (sz rfl Tryz.sizeOf3) rfl 0 rfl (spl_lit (j := 2) (cs' := [.slice (some ⟨a0_fg.b0, 0, none⟩) (((⟨a0_f.b, a0_f.wear, a0_f.cut, a0_f.mask, a0_f.off, (wrap64 (a0_f.ops + 1))⟩ : FlashS).b).length) (((⟨a0_f.b, a0_f.wear, a0_f.cut, a0_f.mask, a0_f.off, (wrap64 (a0_f.ops + 1))⟩ : FlashS).b).length), .slice (some ⟨a0_fg.b1, 0, none⟩) (((⟨a0_f.b, a0_f.wear, a0_f.cut, a0_f.mask, a0_f.off, (wrap64 (a0_f.ops + 1))⟩ : FlashS).wear).length) (((⟨a0_f.b, a0_f.wear, a0_f.cut, a0_f.mask, a0_f.off, (wrap64 (a0_f.ops + 1))⟩ : FlashS).wear).length), vi (wrap64 ((⟨a0_f.b, a0_f.wear, a0_f.cut, a0_f.mask, a0_f.off, (wrap64 (a0_f.ops + 1))⟩ : FlashS).cut - 1)), .slice a0_fg.A3 ((⟨a0_f.b, a0_f.wear, a0_f.cut, a0_f.mask, a0_f.off, (wrap64 (a0_f.ops + 1))⟩ : FlashS).mask).length a0_fg.c3, vb ((⟨a0_f.b, a0_f.wear, a0_f.cut, a0_f.mask, a0_f.off, (wrap64 (a0_f.ops + 1))⟩ : FlashS).off), vi ((⟨a0_f.b, a0_f.wear, a0_f.cut, a0_f.mask, a0_f.off, (wrap64 (a0_f.ops + 1))⟩ : FlashS).ops)]) rfl rfl) rfl (g0 rfl) rfl ?_)
      refine o_nil ?_
      refine k_pk (FlashT a0_fg a0_fp (⟨(⟨a0_f.b, a0_f.wear, a0_f.cut, a0_f.mask, a0_f.off, (wrap64 (a0_f.ops + 1))⟩ : FlashS).b, (⟨a0_f.b, a0_f.wear, a0_f.cut, a0_f.mask, a0_f.off, (wrap64 (a0_f.ops + 1))⟩ : FlashS).wear, (wrap64 ((⟨a0_f.b, a0_f.wear, a0_f.cut, a0_f.mask, a0_f.off, (wrap64 (a0_f.ops + 1))⟩ : FlashS).cut - 1)), (⟨a0_f.b, a0_f.wear, a0_f.cut, a0_f.mask, a0_f.off, (wrap64 (a0_f.ops + 1))⟩ : FlashS).mask, (⟨a0_f.b, a0_f.wear, a0_f.cut, a0_f.mask, a0_f.off, (wrap64 (a0_f.ops + 1))⟩ : FlashS).off, (⟨a0_f.b, a0_f.wear, a0_f.cut, a0_f.mask, a0_f.off, (wrap64 (a0_f.ops + 1))⟩ : FlashS).ops⟩ : FlashS)) rfl [0] [0, 0, 0] rfl rfl ?_
      exact k_wk (J4h (⟨(⟨a0_f.b, a0_f.wear, a0_f.cut, a0_f.mask, a0_f.off, (wrap64 (a0_f.ops + 1))⟩ : FlashS).b, (⟨a0_f.b, a0_f.wear, a0_f.cut, a0_f.mask, a0_f.off, (wrap64 (a0_f.ops + 1))⟩ : FlashS).wear, (wrap64 ((⟨a0_f.b, a0_f.wear, a0_f.cut, a0_f.mask, a0_f.off, (wrap64 (a0_f.ops + 1))⟩ : FlashS).cut - 1)), (⟨a0_f.b, a0_f.wear, a0_f.cut, a0_f.mask, a0_f.off, (wrap64 (a0_f.ops + 1))⟩ : FlashS).mask, (⟨a0_f.b, a0_f.wear, a0_f.cut, a0_f.mask, a0_f.off, (wrap64 (a0_f.ops + 1))⟩ : FlashS).off, (⟨a0_f.b, a0_f.wear, a0_f.cut, a0_f.mask, a0_f.off, (wrap64 (a0_f.ops + 1))⟩ : FlashS).ops⟩ : FlashS) a0_fg H) [0, 1, 2, 7] [1, 2] 3 [0] 0 rfl rfl rfl
    · intro hb1216
      have H := cnd_f H hb1216
      refine s_skip ?_
      exact k_wk (J4h (⟨a0_f.b, a0_f.wear, a0_f.cut, a0_f.mask, a0_f.off, (wrap64 (a0_f.ops + 1))⟩ : FlashS) a0_fg H) [0, 1, 2, 7] [0, 1] 2 [0] 0 rfl rfl rfl

end Go.Proofs.YtpdoioeckiiegaaGreatDoor.Wl
