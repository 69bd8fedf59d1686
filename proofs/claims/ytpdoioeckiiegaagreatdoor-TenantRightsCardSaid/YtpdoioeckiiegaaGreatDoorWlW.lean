/- The library, by hand. -/
import Derived.Test.YtpdoioeckiiegaaGreatDoorWlS
import Derived.Test.YtpdoioeckiiegaaGreatDoorWlY
import Derived.Test.YtpdoioeckiiegaaGreatDoorWlK
set_option linter.unusedSimpArgs false
set_option linter.unusedVariables false
set_option maxRecDepth 10000
namespace Go.Proofs.YtpdoioeckiiegaaGreatDoor.Wl
open Go.RowKit Go.Proofs
def slices_Clone (a0_s : List UInt8) : Option (List UInt8) := chk (a0_s.length ≤ 68719476736) (some a0_s)
theorem c_slices_Clone (a0_s : List UInt8) (A1 : Option Addr) (c2 : Nat) (r : List UInt8) (H : slices_Clone a0_s = some r) : Fn Tryz.prog 57 [(.slice A1 a0_s.length c2)] [Sl E8 A1 c2 a0_s] [] (fun v D' G' => ∃ (A3 : Option Addr) (c4 : Nat), v = (.slice A3 r.length c4) ∧ D' = [Sl E8 A3 c4 r] ∧ G' = [Spare A3 r.length c4 1]) := by
  unfold slices_Clone at H
  obtain ⟨hk, H⟩ := chk_some H
  refine fn_of Tryz.func57 rfl Tryz.ntmps57 rfl ?_
  intro w0 D0 G0
  dsimp only [app, initEnv, Nat.zero_add, Nat.reduceAdd]
  refine s_seq ?_
  refine s_reg [0] rfl ?_
  refine o_pu rfl (ev_assign rfl rfl) (g0 rfl) rfl rfl ?_
  refine o_nil ?_
  refine q_then ?_
  refine s_seq ?_
  refine s_seq ?_
  refine s_reg [0, 1] rfl ?_
  refine o_pu rfl (ev_move rfl rfl) (g0 rfl) rfl rfl ?_
  refine o_pu rfl (ev_eq_sl_nil rfl rfl rfl Tryz.underlying22) (g0 rfl) rfl rfl ?_
  refine o_nil ?_
  refine q_then ?_
  cases H
  rcases A1 with _ | a
  · refine s_cond_t rfl ?_
    refine k_nil_eq 0 rfl E8_len rfl ?_
    intro h0
    refine s_seq ?_
    refine s_reg [0] rfl ?_
    refine o_pu rfl (ev_assign rfl rfl) (g0 rfl) rfl rfl ?_
    refine o_nil ?_
    refine q_then ?_
    refine s_ret ?_
    refine q_then_r ?_
    refine k_nil_sl E8 ?_
    refine k_nil_spare 1 ?_
    subst h0
    exact q_end (rs_1 Tryz.results57 (rv_tmp rfl)) ⟨none, 0, rfl, rfl, rfl⟩ [0] rfl 2 rfl [0] rfl 0 rfl
  · refine s_cond_f rfl ?_
    refine s_skip ?_
    refine q_then ?_
    refine s_seq ?_
    refine s_reg [0, 1, 2, 3] rfl ?_
    refine oc (k_build0 E8 1 rfl rfl Tryz.runUnderlying22 Tryz.sizeOf5 (g0 rfl) rfl rfl ?_)
    intro b5
    refine o_pu rfl (ev_move rfl rfl) (g0 rfl) rfl rfl ?_
    refine oc (k_append (xs := []) 0 1 0 rfl rfl rfl rfl rfl rfl rfl E8_len E8_one Tryz.underlying22 Tryz.underlying22 info5 rfl rfl rfl rfl (by simpa using hk) (g0 rfl) rfl rfl ?_)
    intro A6 c7
    refine o_pu rfl (ev_assign rfl rfl) (g0 rfl) rfl rfl ?_
    refine o_nil ?_
    refine q_then ?_
    refine s_ret ?_
    exact q_end (rs_1 Tryz.results57 (rv_tmp rfl)) ⟨A6, c7, rfl, rfl, rfl⟩ [0] rfl 3 rfl [0] rfl 0 rfl
theorem c_slices_Clone_l (a0_s : List UInt8) (b p q j c2 : Nat) (cs : List Value) (hs : SubAt cs j (a0_s.flatMap E8)) (hq : p + j = q) (r : List UInt8) (H : slices_Clone a0_s = some r) : Fn Tryz.prog 57 [(.slice (some ⟨b, q, none⟩) a0_s.length c2)] [] [At b p cs] (fun v D' G' => ∃ (A3 : Option Addr) (c4 : Nat), v = (.slice A3 r.length c4) ∧ D' = [Sl E8 A3 c4 r] ∧ G' = [Spare A3 r.length c4 1, At b p cs]) := by
  unfold slices_Clone at H
  obtain ⟨hk, H⟩ := chk_some H
  refine fn_of Tryz.func57 rfl Tryz.ntmps57 rfl ?_
  intro w0 D0 G0
  dsimp only [app, initEnv, Nat.zero_add, Nat.reduceAdd]
  refine s_seq ?_
  refine s_reg [0] rfl ?_
  refine o_pu rfl (ev_assign rfl rfl) (g0 rfl) rfl rfl ?_
  refine o_nil ?_
  refine q_then ?_
  refine s_seq ?_
  refine s_seq ?_
  refine s_reg [0, 1] rfl ?_
  refine o_pu rfl (ev_move rfl rfl) (g0 rfl) rfl rfl ?_
  refine o_pu rfl (ev_eq_sl_nil rfl rfl rfl Tryz.underlying22) (g0 rfl) rfl rfl ?_
  refine o_nil ?_
  refine q_then ?_
  cases H
  refine s_cond_f rfl ?_
  refine s_skip ?_
  refine q_then ?_
  refine s_seq ?_
  refine s_reg [0, 1, 2, 3] rfl ?_
  refine oc (k_build0 E8 1 rfl rfl Tryz.runUnderlying22 Tryz.sizeOf5 (g0 rfl) rfl rfl ?_)
  intro b5
  refine o_pu rfl (ev_move rfl rfl) (g0 rfl) rfl rfl ?_
  refine oc (k_append2 (xs := []) (ys := a0_s) 0 0 rfl rfl rfl rfl rfl (hsG a0_s 1 rfl hs hq) rfl rfl E8_len rfl E8_one Tryz.underlying22 Tryz.underlying22 info5 rfl rfl rfl rfl (by simpa using hk) (g0 rfl) rfl rfl ?_)
  intro A6 c7
  refine o_pu rfl (ev_assign rfl rfl) (g0 rfl) rfl rfl ?_
  refine o_nil ?_
  refine q_then ?_
  refine s_ret ?_
  exact q_end (rs_1 Tryz.results57 (rv_tmp rfl)) ⟨A6, c7, rfl, rfl, rfl⟩ [0] rfl 2 rfl [0, 0] rfl 0 rfl
def slices_Grow (a1_n : Int) : Option (List UInt8) := chk (0 ≤ a1_n ∧ a1_n ≤ 68719476736) (some [])
theorem c_slices_Grow (a1_n : Int) (r : List UInt8) (H : slices_Grow a1_n = some r) : Fn Tryz.prog 199 [(.slice none 0 0), (vi a1_n)] [] [] (fun v D' G' => ∃ (A3 : Option Addr) (c4 : Nat), v = (.slice A3 r.length c4) ∧ D' = [Sl E8 A3 c4 r] ∧ G' = [Spare A3 r.length c4 1]) := by
  unfold slices_Grow at H
  obtain ⟨hk, H⟩ := chk_some H
  cases H
  have hn : decide (a1_n < 0) = false := decide_eq_false (by omega)
  have he : wrap64 (a1_n - wrap64 (((0 : Nat) : Int) - ((0 : Nat) : Int))) = a1_n := by unfold wrap64; omega
  refine fn_of Tryz.func199 rfl Tryz.ntmps199 rfl ?_
  intro w0 D0 G0
  dsimp only [app, initEnv, Nat.zero_add, Nat.reduceAdd]
  refine s_seq ?_
  refine s_reg [0] rfl ?_
  refine o_pu rfl (ev_assign rfl rfl) (g0 rfl) rfl rfl ?_
  refine o_nil ?_
  refine q_then ?_
  refine s_seq ?_
  refine s_seq ?_
  refine s_reg [0, 1] rfl ?_
  refine o_pu rfl (ev_move rfl rfl) (g0 rfl) rfl rfl ?_
  refine o_pu rfl (ev_bin rfl rfl rfl rfl (lss_i _ 0)) (g0 rfl) rfl rfl ?_
  refine o_nil ?_
  refine q_then ?_
  refine s_cond_f (by rw [← hn]; rfl) ?_
  refine s_skip ?_
  refine q_then ?_
  refine s_seq ?_
  refine s_seq ?_
  refine s_reg [0, 1, 2, 3, 4, 5, 6, 7] rfl ?_
  refine o_pu rfl (ev_move rfl rfl) (g0 rfl) rfl rfl ?_
  refine o_pu rfl (ev_move rfl rfl) (g0 rfl) rfl rfl ?_
  refine o_pu rfl (ev_cap rfl rfl Tryz.runUnderlying22) (g0 rfl) rfl rfl ?_
  refine o_pu rfl (ev_move rfl rfl) (g0 rfl) rfl rfl ?_
  refine o_pu rfl (ev_len_slice rfl rfl Tryz.runUnderlying22) (g0 rfl) rfl rfl ?_
  refine o_pu rfl (ev_bin rfl rfl rfl rfl (sub_i _ _)) (g0 rfl) rfl rfl ?_
  refine o_pu rfl (ev_bin rfl rfl rfl rfl (sub_i _ _)) (g0 rfl) rfl rfl ?_
  rw [he]
  refine o_pu rfl (ev_assign rfl rfl) (g0 rfl) rfl rfl ?_
  refine o_nil ?_
  refine q_then ?_
  refine s_seq ?_
  refine s_reg [0, 1] rfl ?_
  refine o_pu rfl (ev_move rfl rfl) (g0 rfl) rfl rfl ?_
  refine o_pu rfl (ev_bin rfl rfl rfl rfl (gtr_i _ 0)) (g0 rfl) rfl rfl ?_
  refine o_nil ?_
  refine q_then ?_
  refine s_cond rfl ?_ ?_
  · intro hb
    have hb := of_decide_eq_true hb
    have hm : ((a1_n.toNat : Nat) : Int) = a1_n := Int.toNat_of_nonneg hk.1
    refine s_reg [0, 1, 2, 3, 4, 5, 6, 7, 8, 9] rfl ?_
    refine o_pu rfl (ev_move rfl rfl) (g0 rfl) rfl rfl ?_
    refine o_pu rfl (ev_move rfl rfl) (g0 rfl) rfl rfl ?_
    refine o_pu rfl (ev_cap rfl rfl Tryz.runUnderlying22) (g0 rfl) rfl rfl ?_
    refine o_pu rfl (ev_slice_to (k := 0) rfl rfl rfl Tryz.runUnderlying22 Tryz.sizeOf5 ⟨by decide, by decide⟩) (g0 rfl) rfl rfl ?_
    refine o_pu rfl (ev_move rfl rfl) (g0 rfl) rfl rfl ?_
    refine oc (k_grow_nil (m := a1_n.toNat) E8 rfl rfl rfl (by rw [hm]; rfl) Tryz.underlying22 Tryz.underlying3 info5 rfl rfl rfl rfl rfl (by omega) (by omega) (g0 rfl) rfl rfl ?_)
    intro b5 c6
    refine o_pu rfl (ev_move rfl rfl) (g0 rfl) rfl rfl ?_
    refine o_pu rfl (ev_len_slice rfl rfl Tryz.runUnderlying22) (g0 rfl) rfl rfl ?_
    refine o_pu rfl (ev_slice_to (k := 0) rfl rfl rfl Tryz.runUnderlying22 Tryz.sizeOf5 ⟨by decide, by omega⟩) (g0 rfl) rfl rfl ?_
    refine o_pu rfl (ev_assign rfl rfl) (g0 rfl) rfl rfl ?_
    refine o_nil ?_
    refine q_then ?_
    refine s_seq ?_
    refine s_reg [0, 1] rfl ?_
    refine o_pu rfl (ev_move rfl rfl) (g0 rfl) rfl rfl ?_
    refine o_pu rfl (ev_assign rfl rfl) (g0 rfl) rfl rfl ?_
    refine o_nil ?_
    refine q_then ?_
    refine s_ret ?_
    exact q_end (rs_1 Tryz.results199 (rv_tmp rfl)) ⟨some ⟨b5, 0, none⟩, c6, rfl, rfl, rfl⟩ [0] rfl 1 rfl [0] rfl 0 rfl
  · intro hb
    refine s_skip ?_
    refine q_then ?_
    refine s_seq ?_
    refine s_reg [0, 1] rfl ?_
    refine o_pu rfl (ev_move rfl rfl) (g0 rfl) rfl rfl ?_
    refine o_pu rfl (ev_assign rfl rfl) (g0 rfl) rfl rfl ?_
    refine o_nil ?_
    refine q_then ?_
    refine s_ret ?_
    refine k_nil_sl E8 ?_
    refine k_nil_spare 1 ?_
    exact q_end (rs_1 Tryz.results199 (rv_tmp rfl)) ⟨none, 0, rfl, rfl, rfl⟩ [0] rfl 1 rfl [0] rfl 0 rfl
end Go.Proofs.YtpdoioeckiiegaaGreatDoor.Wl
