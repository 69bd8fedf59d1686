import Derived.Test.YtfllkhijdijleaaDoorWlW
import Derived.Test.YtfllkhijdijleaaDoorWlY
set_option linter.unusedSimpArgs false
set_option linter.unusedVariables false
set_option maxRecDepth 10000
namespace Go.Proofs.YtfllkhijdijleaaDoor.Wl
open Go.RowKit Go.Proofs
def law12_num (a0_e : Int) : Option Int :=
some a0_e

theorem c_law12_num (a0_e : Int) (r : Int) (H : law12_num a0_e = some r) : Fn Tryd.prog 12 [(vi a0_e)] [] [] (fun v D' G' => v = (vi r) ∧ D' = [] ∧ G' = []) := by
  unfold law12_num at H
  refine fn_of Tryd.func12 rfl Tryd.ntmps12 rfl ?_
  intro w0 D0 G0
  dsimp only [List.cons_append, List.nil_append, initEnv, Nat.zero_add, Nat.reduceAdd]
  refine s_seq ?_
  refine s_reg [0] rfl ?_
  refine o_pu rfl (ev_assign rfl rfl) (g0 rfl) rfl rfl ?_
  refine o_nil ?_
  refine q_then ?_
  refine s_seq ?_
  refine s_reg [0, 1] rfl ?_
  refine o_pu rfl (ev_move rfl rfl) (g0 rfl) rfl rfl ?_
  refine o_pu rfl (ev_assign rfl rfl) (g0 rfl) rfl rfl ?_
  refine o_nil ?_
  refine q_then ?_
  refine s_ret ?_
  cases H
  exact q_end (rs_1 Tryd.results12 (rv_tmp rfl)) ⟨rfl, rfl, rfl⟩ [] rfl 0 rfl [] rfl 0 rfl

def field_NewReader (a0_b : List UInt8) : Option ReaderS :=
(slices_Clone a0_b).bind fun r3 =>
some (⟨r3, false⟩ : ReaderS)

theorem c_field_NewReader (a0_b : List UInt8) (A1 : Option Addr) (c2 : Nat) (r : ReaderS) (H : field_NewReader a0_b = some r) : Fn Tryd.prog 27 [(.slice A1 a0_b.length c2)] [Sl E8 A1 c2 a0_b] [] (fun v D' G' => ∃ (b8 : Nat) (A9 : Option Addr) (c10 : Nat), v = (.pointer (some ⟨b8, 0, none⟩)) ∧ D' = [Sl E8 A9 c10 r.b] ∧ G' = [At b8 0 [.slice A9 r.b.length c10, vb r.bad]]) := by
  unfold field_NewReader at H
  refine fn_of Tryd.func27 rfl Tryd.ntmps27 rfl ?_
  intro w0 D0 G0
  dsimp only [List.cons_append, List.nil_append, initEnv, Nat.zero_add, Nat.reduceAdd]
  refine s_seq ?_
  refine s_reg [0] rfl ?_
  refine o_pu rfl (ev_assign rfl rfl) (g0 rfl) rfl rfl ?_
  refine o_nil ?_
  refine q_then ?_
  refine s_seq ?_
  refine s_reg [0, 1, 2, 3, 4] rfl ?_
  refine o_pu rfl (ev_move rfl rfl) (g0 rfl) rfl rfl ?_
  obtain ⟨r3, Hc4, H⟩ := bind_some' H
  refine oc (k_call (c_slices_Clone a0_b A1 c2 r3 Hc4) Tryd.call46 rfl rfl rfl [0] [] rfl rfl (g0 rfl) rfl rfl ?_)
  rintro _ _ _ ⟨A5, c6, rfl, rfl, rfl⟩
  dsimp only [List.cons_append, List.nil_append]
  refine o_pu rfl (ev_build (cs := [.slice A5 r3.length c6, vb false]) rfl rfl Tryd.zeroValue115 Tryd.runUnderlying115 pl115 (show Instr.fill _ ([.slice none 0 0, vb false]).toArray _ = some _ from (fill_cons rfl (s := [.slice A5 r3.length c6]) rfl rfl (spl_lit (j := 0) (cs' := [.slice A5 r3.length c6, vb false]) rfl rfl) fill_nil))) (g0 rfl) rfl rfl ?_
  refine oc (k_box rfl rfl rfl (cs := [.slice A5 r3.length c6, vb false]) rfl (g0 rfl) rfl rfl ?_)
  intro b7
  refine o_pu rfl (ev_assign rfl rfl) (g0 rfl) rfl rfl ?_
  refine o_nil ?_
  refine q_then ?_
  refine s_ret ?_
  cases H
  exact q_end (rs_1 Tryd.results27 (rv_tmp rfl)) ⟨b7, A5, c6, rfl, rfl, rfl⟩ [0] rfl 2 rfl [0] rfl 1 rfl

def manifest_number (a0_n : Int) : Option Bool :=
bnd (decide (a0_n ≥ 1)) fun b1 =>
jn (fun x4 =>
some x4) fun J3 =>
bif b1 then (
J3 (decide (a0_n ≤ 1073741824))) else
J3 false

theorem c_manifest_number (a0_n : Int) (r : Bool) (H : manifest_number a0_n = some r) : Fn Tryd.prog 32 [(vi a0_n)] [] [] (fun v D' G' => v = (vb r) ∧ D' = [] ∧ G' = []) := by
  unfold manifest_number at H
  refine fn_of Tryd.func32 rfl Tryd.ntmps32 rfl ?_
  intro w0 D0 G0
  dsimp only [List.cons_append, List.nil_append, initEnv, Nat.zero_add, Nat.reduceAdd]
  refine s_seq ?_
  refine s_reg [0] rfl ?_
  refine o_pu rfl (ev_assign rfl rfl) (g0 rfl) rfl rfl ?_
  refine o_nil ?_
  refine q_then ?_
  refine s_seq ?_
  refine s_reg [0, 1, 2, 3, 4, 5, 6] rfl ?_
  refine o_pu rfl (ev_move rfl rfl) (g0 rfl) rfl rfl ?_
  refine o_pu rfl (ev_bin rfl rfl rfl rfl (geq_i _ 1)) (g0 rfl) rfl rfl ?_
  refine o_pu rfl (ev_move rfl rfl) (g0 rfl) rfl rfl ?_
  refine k_name 5 rfl ?_
  intro b1 hb2
  have H := bnd_eq H hb2
  refine o_jb 8 [6] [0, 2, 3, 4, 5] H rfl ?_ ?_
  · intro x4 H
    refine o_pu rfl (ev_assign rfl rfl) (g0 rfl) rfl rfl ?_
    refine o_nil ?_
    refine q_then ?_
    refine s_ret ?_
    cases H
    exact q_end (rs_1 Tryd.results32 (rv_tmp rfl)) ⟨rfl, rfl, rfl⟩ [] rfl 0 rfl [] rfl 0 rfl
  · intro J3 H
    cases b1 with
    | true =>
      rw [cond_true] at H
      refine o_pu rfl (ev_move rfl rfl) (g1 rfl rfl rfl rfl) rfl rfl ?_
      refine o_pu rfl (ev_bin rfl rfl rfl rfl (leq_i _ 1073741824)) (g1 rfl rfl rfl rfl) rfl rfl ?_
      refine o_pu rfl (ev_pick_t rfl rfl rfl) (g0 rfl) rfl rfl ?_
      exact k_wk (J3 (decide (a0_n ≤ 1073741824)) H) [8, 0, 2, 3, 4, 5] [] 0 [] 0 rfl rfl rfl
    | false =>
      rw [cond_false] at H
      refine o_gnot rfl rfl rfl rfl rfl rfl rfl rfl ?_
      refine o_gnot rfl rfl rfl rfl rfl rfl rfl rfl ?_
      refine o_pu rfl (ev_pick_f rfl rfl rfl) (g0 rfl) rfl rfl ?_
      exact k_wk (J3 false H) [8, 0, 2, 3, 4, 5] [] 0 [] 0 rfl rfl rfl

def hmac_Same_l0 (a0_a : List UInt8) (a1_b : List UInt8) (J6 : UInt8 → Option Bool) : Nat → (UInt8 × Int) → Option Bool
  | 0, _ => none
  | k9 + 1, s9 =>
    bif (decide (s9.2 < (a0_a.length : Int))) then (
    chk (0 ≤ s9.2 ∧ s9.2 < a0_a.length) <|
    chk (0 ≤ s9.2 ∧ s9.2 < a1_b.length) <|
    hmac_Same_l0 a0_a a1_b J6 k9 ((s9.1 ||| ((at' 0 a0_a s9.2) ^^^ (at' 0 a1_b s9.2))), (wrap64 (s9.2 + 1)))) else (
    J6 s9.1)

def hmac_Same (a0_a : List UInt8) (a1_b : List UInt8) : Option Bool :=
bif ((a0_a.length : Int) != (a1_b.length : Int)) then (
some false) else (
jn (fun (x7 : UInt8) =>
some ((x7 : UInt8) == (0 : UInt8))) fun J6 =>
hmac_Same_l0 a0_a a1_b J6 Fuel (0, 0))

theorem c_hmac_Same (a0_a : List UInt8) (A1 : Option Addr) (c2 : Nat) (a1_b : List UInt8) (A3 : Option Addr) (c4 : Nat) (r : Bool) (H : hmac_Same a0_a a1_b = some r) : Fn Tryd.prog 33 [(.slice A1 a0_a.length c2), (.slice A3 a1_b.length c4)] [Sl E8 A3 c4 a1_b, Sl E8 A1 c2 a0_a] [] (fun v D' G' => v = (vb r) ∧ D' = [] ∧ G' = []) := by
  unfold hmac_Same at H
  refine fn_of Tryd.func33 rfl Tryd.ntmps33 rfl ?_
  intro w0 D0 G0
  dsimp only [List.cons_append, List.nil_append, initEnv, Nat.zero_add, Nat.reduceAdd]
  refine s_seq ?_
  refine s_reg [0] rfl ?_
  refine o_pu rfl (ev_assign rfl rfl) (g0 rfl) rfl rfl ?_
  refine o_nil ?_
  refine q_then ?_
  refine s_seq ?_
  refine s_seq ?_
  refine s_reg [0, 1, 2, 3, 4] rfl ?_
  refine o_pu rfl (ev_move rfl rfl) (g0 rfl) rfl rfl ?_
  refine o_pu rfl (ev_len_slice rfl rfl Tryd.runUnderlying22) (g0 rfl) rfl rfl ?_
  refine o_pu rfl (ev_move rfl rfl) (g0 rfl) rfl rfl ?_
  refine o_pu rfl (ev_len_slice rfl rfl Tryd.runUnderlying22) (g0 rfl) rfl rfl ?_
  refine o_pu rfl (ev_bin rfl rfl rfl rfl (neq_i _ _)) (g0 rfl) rfl rfl ?_
  refine o_nil ?_
  refine q_then ?_
  refine s_cond rfl ?_ ?_
  · intro hb5
    have H := cnd_t H hb5
    refine s_seq ?_
    refine s_reg [0] rfl ?_
    refine o_pu rfl (ev_assign rfl rfl) (g0 rfl) rfl rfl ?_
    refine o_nil ?_
    refine q_then ?_
    refine s_ret ?_
    refine q_then_r ?_
    cases H
    exact q_end (rs_1 Tryd.results33 (rv_tmp rfl)) ⟨rfl, rfl, rfl⟩ [] rfl 2 rfl [] rfl 0 rfl
  · intro hb5
    have H := cnd_f H hb5
    refine s_skip ?_
    refine q_then ?_
    refine s_seq ?_
    refine s_reg [0] rfl ?_
    refine o_pu rfl (ev_assign rfl rfl) (g0 rfl) rfl rfl ?_
    refine o_nil ?_
    refine q_then ?_
    refine s_seq ?_
    refine s_seq ?_
    refine s_reg [0, 1, 2] rfl ?_
    refine o_pu rfl (ev_move rfl rfl) (g0 rfl) rfl rfl ?_
    refine o_pu rfl (ev_len_slice rfl rfl Tryd.runUnderlying22) (g0 rfl) rfl rfl ?_
    refine o_pu rfl (ev_move rfl rfl) (g0 rfl) rfl rfl ?_
    refine o_nil ?_
    refine q_then ?_
    refine q_join (fun (x7 : UInt8) (y8 : Unit) => ⟨Sl E8 A3 c4 a1_b :: Sl E8 A1 c2 a0_a :: D0, G0, [(5, (v8 x7))]⟩) H ?_ ?_
    · intro x7 y8 H
      dsimp only
      refine q_then ?_
      refine s_seq ?_
      refine s_reg [0, 1, 2] rfl ?_
      refine o_pu rfl (ev_move rfl rfl) (g0 rfl) rfl rfl ?_
      refine o_pu rfl (ev_bin rfl rfl rfl rfl (eql_8 _ 0)) (g0 rfl) rfl rfl ?_
      refine o_pu rfl (ev_assign rfl rfl) (g0 rfl) rfl rfl ?_
      refine o_nil ?_
      refine q_then ?_
      refine s_ret ?_
      cases H
      exact q_end (rs_1 Tryd.results33 (rv_tmp rfl)) ⟨rfl, rfl, rfl⟩ [] rfl 2 rfl [] rfl 0 rfl
    · intro J6 H
      refine s_block ?_
      refine s_loop (k_wk (loop_ind (fun (s9 : UInt8 × Int) (y9 : Unit) => ⟨Sl E8 A3 c4 a1_b :: Sl E8 A1 c2 a0_a :: D0, G0, [(0, (.slice A1 a0_a.length c2)), (1, (.slice A3 a1_b.length c4)), (5, (v8 s9.1)), (13, (vi (a0_a.length : Int))), (14, (vi s9.2))]⟩) (hmac_Same_l0 a0_a a1_b _) _ (fun _ => rfl) ?_ Fuel (0, 0) () H) [0, 1, 5, 13, 14] [0, 1] 2 [] 0 rfl rfl rfl)
      intro k9 s9 y9 ih H
      dsimp only
      rw [hmac_Same_l0] at H
      refine s_seq ?_
      refine s_reg [0] rfl ?_
      refine o_pu rfl (ev_bin rfl rfl rfl rfl (lss_i _ _)) (g0 rfl) rfl rfl ?_
      refine o_nil ?_
      refine q_then ?_
      refine s_seq ?_
      refine s_cond rfl ?_ ?_
      · intro hb10
        have H := cnd_t H hb10
        refine s_skip ?_
        refine q_then ?_
        refine s_seq ?_
        refine s_block ?_
        refine s_seq ?_
        refine s_reg [0, 1] rfl ?_
        refine o_pu rfl (ev_move rfl rfl) (g0 rfl) rfl rfl ?_
        refine o_pu rfl (ev_assign rfl rfl) (g0 rfl) rfl rfl ?_
        refine o_nil ?_
        refine q_then ?_
        obtain ⟨hk15, H⟩ := chk_some H
        refine k_elem (k := s9.2) 0 1 rfl E8_len rfl hk15 ?_
        intro b11 p12 q13 hA14
        obtain ⟨hk20, H⟩ := chk_some H
        refine k_elem (k := s9.2) 0 1 rfl E8_len rfl hk20 ?_
        intro b16 p17 q18 hA19
        refine s_draw mixed [(4, [], Has b11 q13 [v8 (at' 0 a0_a s9.2)]), (8, [], Has b16 q18 [v8 (at' 0 a1_b s9.2)])] ?_
        refine a_pu 0 rfl (ev_move rfl rfl) (by rfl) (by kernel_rfl) (by kernel_rfl) (by kernel_rfl) (fun _ _ _ h => h) (g0 rfl) rfl rfl ?_
        refine a_pu 1 rfl (ev_move rfl rfl) (by rfl) (by kernel_rfl) (by kernel_rfl) (by kernel_rfl) (fun _ _ _ h => h) (g0 rfl) rfl rfl ?_
        refine a_pu 2 rfl (ev_move rfl rfl) (by rfl) (by kernel_rfl) (by kernel_rfl) (by kernel_rfl) (fun _ _ _ h => h) (g0 rfl) rfl rfl ?_
        refine a_pu 3 rfl (ev_idx_sl rfl rfl rfl Tryd.runUnderlying22 Tryd.sizeOf5 hk15 hA14) (by rfl) (by kernel_rfl) (by kernel_rfl) (by kernel_rfl) (fun _ _ _ h => h) (g0 rfl) rfl rfl ?_
        refine a_ld 4 0 rfl rfl (ev_ld1 (j := 0) rfl rfl Tryd.isAgg5 (sub_nth (j := 0) rfl) rfl) (by kernel_rfl) (by rfl) (by kernel_rfl) (by kernel_rfl) (by kernel_rfl) (by kernel_rfl) (fun _ _ _ h => h) (g0 rfl) rfl rfl ?_
        refine a_pu 5 rfl (ev_move rfl rfl) (by rfl) (by kernel_rfl) (by kernel_rfl) (by kernel_rfl) (fun _ _ _ h => h) (g0 rfl) rfl rfl ?_
        refine a_pu 6 rfl (ev_move rfl rfl) (by rfl) (by kernel_rfl) (by kernel_rfl) (by kernel_rfl) (fun _ _ _ h => h) (g0 rfl) rfl rfl ?_
        refine a_pu 7 rfl (ev_idx_sl rfl rfl rfl Tryd.runUnderlying22 Tryd.sizeOf5 hk20 hA19) (by rfl) (by kernel_rfl) (by kernel_rfl) (by kernel_rfl) (fun _ _ _ h => h) (g0 rfl) rfl rfl ?_
        refine a_ld 8 1 rfl rfl (ev_ld1 (j := 0) rfl rfl Tryd.isAgg5 (sub_nth (j := 0) rfl) rfl) (by kernel_rfl) (by rfl) (by kernel_rfl) (by kernel_rfl) (by kernel_rfl) (by kernel_rfl) (fun _ _ _ h => h) (g0 rfl) rfl rfl ?_
        refine a_pu 9 rfl (ev_bin rfl rfl rfl rfl (xor_8 _ _)) (by rfl) (by kernel_rfl) (by kernel_rfl) (by kernel_rfl) (fun _ _ _ h => h) (g0 rfl) rfl rfl ?_
        refine a_pu 10 rfl (ev_bin rfl rfl rfl rfl (or_8 _ _)) (by rfl) (by kernel_rfl) (by kernel_rfl) (by kernel_rfl) (fun _ _ _ h => h) (g0 rfl) rfl rfl ?_
        refine a_pu 11 rfl (ev_assign rfl rfl) (by rfl) (by kernel_rfl) (by kernel_rfl) (by kernel_rfl) (fun _ _ _ h => h) (g0 rfl) rfl rfl ?_
        refine a_done (by kernel_rfl) (sl_cons (hD 1 rfl) (sl_cons (hD 0 rfl) sl_nil)) ?_
        refine q_block ?_
        refine q_then ?_
        refine s_reg [0, 1] rfl ?_
        refine o_pu rfl (ev_bin rfl rfl rfl rfl (add_i _ 1)) (g0 rfl) rfl rfl ?_
        refine o_pu rfl (ev_move rfl rfl) (g0 rfl) rfl rfl ?_
        refine o_nil ?_
        refine q_loop ?_
        exact k_wk (ih ((s9.1 ||| ((at' 0 a0_a s9.2) ^^^ (at' 0 a1_b s9.2))), (wrap64 (s9.2 + 1))) () H) [0, 1, 5, 13, 14] [2, 3] 4 [] 0 rfl rfl rfl
      · intro hb10
        have H := cnd_f H hb10
        refine s_exit ?_
        refine q_then_x ?_
        refine q_then_x ?_
        refine q_block_x ?_
        exact k_wk (J6 s9.1 () H) [5] [0, 1] 2 [] 0 rfl rfl rfl

def field_Writer_Raw (a0_w : WriterS) (a1_b : List UInt8) (a2_size : Int) : Option WriterS :=
chk (0 ≤ (if 0 < (if 1000 < a2_size then 1000 else a2_size) then (if 1000 < a2_size then 1000 else a2_size) else 0) ∧ (if 0 < (if 1000 < a2_size then 1000 else a2_size) then (if 1000 < a2_size then 1000 else a2_size) else 0) ≤ 68719476736) <|
chk ((List.replicate (if 0 < (if 1000 < a2_size then 1000 else a2_size) then (if 1000 < a2_size then 1000 else a2_size) else 0).toNat (0 : UInt8)).length = (if 0 < (if 1000 < a2_size then 1000 else a2_size) then (if 1000 < a2_size then 1000 else a2_size) else 0).toNat) <|
chk ((cpy (List.replicate (if 0 < (if 1000 < a2_size then 1000 else a2_size) then (if 1000 < a2_size then 1000 else a2_size) else 0).toNat (0 : UInt8)) a1_b).length = (if 0 < (if 1000 < a2_size then 1000 else a2_size) then (if 1000 < a2_size then 1000 else a2_size) else 0).toNat) <|
chk (a0_w.b.length + (cpy (List.replicate (if 0 < (if 1000 < a2_size then 1000 else a2_size) then (if 1000 < a2_size then 1000 else a2_size) else 0).toNat (0 : UInt8)) a1_b).length ≤ 68719476736) <|
some (⟨(a0_w.b ++ (cpy (List.replicate (if 0 < (if 1000 < a2_size then 1000 else a2_size) then (if 1000 < a2_size then 1000 else a2_size) else 0).toNat (0 : UInt8)) a1_b))⟩ : WriterS)

theorem c_field_Writer_Raw (a0_wp : Nat) (a0_w : WriterS) (A1 : Option Addr) (c2 : Nat) (a1_b : List UInt8) (A3 : Option Addr) (c4 : Nat) (a2_size : Int) (r : WriterS) (H : field_Writer_Raw a0_w a1_b a2_size = some r) : Fn Tryd.prog 53 [(.pointer (some ⟨a0_wp, 0, none⟩)), (.slice A3 a1_b.length c4), (vi a2_size)] [Sl E8 A3 c4 a1_b, Sl E8 A1 c2 a0_w.b] [At a0_wp 0 [.slice A1 a0_w.b.length c2], Spare A1 a0_w.b.length c2 1] (fun v D' G' => ∃ (A12 : Option Addr) (c13 : Nat), v = (.tuple #[]) ∧ D' = [Sl E8 A12 c13 r.b] ∧ G' = [At a0_wp 0 [.slice A12 r.b.length c13], Spare A12 r.b.length c13 1]) := by
  unfold field_Writer_Raw at H
  refine fn_of Tryd.func53 rfl Tryd.ntmps53 rfl ?_
  intro w0 D0 G0
  dsimp only [List.cons_append, List.nil_append, initEnv, Nat.zero_add, Nat.reduceAdd]
  refine s_seq ?_
  refine s_reg [0, 1, 2, 3, 4] rfl ?_
  refine o_pu rfl (ev_move rfl rfl) (g0 rfl) rfl rfl ?_
  refine o_pu rfl (ev_min rfl rfl rfl) (g0 rfl) rfl rfl ?_
  refine o_pu rfl (ev_max rfl rfl rfl) (g0 rfl) rfl rfl ?_
  obtain ⟨hk6, H⟩ := chk_some H
  refine oc (k_make (f := E8) (m := (if 0 < (if 1000 < a2_size then 1000 else a2_size) then (if 1000 < a2_size then 1000 else a2_size) else 0)) (0 : UInt8) rfl rfl rfl rfl Tryd.underlying22 info5 rfl rfl rfl rfl rfl hk6 (g0 rfl) rfl rfl ?_)
  intro b5
  refine o_pu rfl (ev_assign rfl rfl) (g0 rfl) rfl rfl ?_
  refine o_nil ?_
  refine q_then ?_
  refine s_seq ?_
  refine s_reg [0, 1, 2] rfl ?_
  refine o_pu rfl (ev_move rfl rfl) (g0 rfl) rfl rfl ?_
  refine o_pu rfl (ev_move rfl rfl) (g0 rfl) rfl rfl ?_
  obtain ⟨hk7, H⟩ := chk_some H
  refine oc (k_copy (xs := (List.replicate (if 0 < (if 1000 < a2_size then 1000 else a2_size) then (if 1000 < a2_size then 1000 else a2_size) else 0).toNat (0 : UInt8))) (j := 0) rfl rfl rfl rfl Tryd.underlying22 info5 rfl E8_len E8_one 0 rfl 0 rfl hk7 (sub_all _) (spl_all (by rw [flatMap_length E8_len, flatMap_length E8_len, cpy_len])) rfl (g0 rfl) rfl rfl ?_)
  refine o_nil ?_
  refine q_then ?_
  refine s_reg [0, 1, 2, 3, 4, 5, 6, 7, 8, 9] rfl ?_
  refine o_pu rfl (ev_move rfl rfl) (g0 rfl) rfl rfl ?_
  refine o_pu rfl (ev_move rfl rfl) (g0 rfl) rfl rfl ?_
  refine o_pu rfl (ev_nilCheck rfl rfl) (g0 rfl) rfl rfl ?_
  refine o_pu rfl (ev_fieldAddr rfl rfl Tryd.runUnderlying106 rfl Tryd.sizeOf22 rfl rfl) (g0 rfl) rfl rfl ?_
  refine o_ld (hG 1 rfl) rfl (ev_ld1 (j := 0) rfl rfl Tryd.isAgg22 (sub_nth (j := 0) rfl) rfl) (g0 rfl) rfl rfl ?_
  refine o_pu rfl (ev_move rfl rfl) (g0 rfl) rfl rfl ?_
  obtain ⟨hk8, H⟩ := chk_some H
  refine k_keep 0 rfl ?_
  refine k_ro_sl (f := E8) (cap := (if 0 < (if 1000 < a2_size then 1000 else a2_size) then (if 1000 < a2_size then 1000 else a2_size) else 0).toNat) (cpy (List.replicate (if 0 < (if 1000 < a2_size then 1000 else a2_size) then (if 1000 < a2_size then 1000 else a2_size) else 0).toNat (0 : UInt8)) a1_b) 0 rfl (sub_all _) rfl (Nat.le_of_eq hk8) (by have := hk6; omega) ?_
  refine k_eq (v' := (.slice (some ⟨b5, 0, none⟩) (cpy (List.replicate (if 0 < (if 1000 < a2_size then 1000 else a2_size) then (if 1000 < a2_size then 1000 else a2_size) else 0).toNat (0 : UInt8)) a1_b).length ((if 0 < (if 1000 < a2_size then 1000 else a2_size) then (if 1000 < a2_size then 1000 else a2_size) else 0).toNat))) 6 rfl (congrArg (fun z => Value.slice (some ⟨b5, 0, none⟩) z ((if 0 < (if 1000 < a2_size then 1000 else a2_size) then (if 1000 < a2_size then 1000 else a2_size) else 0).toNat)) hk8.symm) ?_
  refine k_eq (v' := (.slice (some ⟨b5, 0, none⟩) (cpy (List.replicate (if 0 < (if 1000 < a2_size then 1000 else a2_size) then (if 1000 < a2_size then 1000 else a2_size) else 0).toNat (0 : UInt8)) a1_b).length ((if 0 < (if 1000 < a2_size then 1000 else a2_size) then (if 1000 < a2_size then 1000 else a2_size) else 0).toNat))) 10 rfl (congrArg (fun z => Value.slice (some ⟨b5, 0, none⟩) z ((if 0 < (if 1000 < a2_size then 1000 else a2_size) then (if 1000 < a2_size then 1000 else a2_size) else 0).toNat)) hk8.symm) ?_
  refine k_eq (v' := (.slice (some ⟨b5, 0, none⟩) (cpy (List.replicate (if 0 < (if 1000 < a2_size then 1000 else a2_size) then (if 1000 < a2_size then 1000 else a2_size) else 0).toNat (0 : UInt8)) a1_b).length ((if 0 < (if 1000 < a2_size then 1000 else a2_size) then (if 1000 < a2_size then 1000 else a2_size) else 0).toNat))) 11 rfl (congrArg (fun z => Value.slice (some ⟨b5, 0, none⟩) z ((if 0 < (if 1000 < a2_size then 1000 else a2_size) then (if 1000 < a2_size then 1000 else a2_size) else 0).toNat)) hk8.symm) ?_
  refine k_eq (v' := (.slice (some ⟨b5, 0, none⟩) (cpy (List.replicate (if 0 < (if 1000 < a2_size then 1000 else a2_size) then (if 1000 < a2_size then 1000 else a2_size) else 0).toNat (0 : UInt8)) a1_b).length ((if 0 < (if 1000 < a2_size then 1000 else a2_size) then (if 1000 < a2_size then 1000 else a2_size) else 0).toNat))) 19 rfl (congrArg (fun z => Value.slice (some ⟨b5, 0, none⟩) z ((if 0 < (if 1000 < a2_size then 1000 else a2_size) then (if 1000 < a2_size then 1000 else a2_size) else 0).toNat)) hk8.symm) ?_
  refine k_spare_full (some ⟨b5, 0, none⟩) (cpy (List.replicate (if 0 < (if 1000 < a2_size then 1000 else a2_size) then (if 1000 < a2_size then 1000 else a2_size) else 0).toNat (0 : UInt8)) a1_b).length ((if 0 < (if 1000 < a2_size then 1000 else a2_size) then (if 1000 < a2_size then 1000 else a2_size) else 0).toNat) 1 hk8 ?_
  obtain ⟨hk11, H⟩ := chk_some H
  refine oc (k_append 3 0 2 rfl rfl rfl rfl rfl rfl rfl E8_len E8_one Tryd.underlying22 Tryd.underlying22 info5 rfl rfl rfl rfl hk11 (g0 rfl) rfl rfl ?_)
  intro A9 c10
  refine o_pu rfl (ev_nilCheck rfl rfl) (g0 rfl) rfl rfl ?_
  refine o_pu rfl (ev_fieldAddr rfl rfl Tryd.runUnderlying106 rfl Tryd.sizeOf22 rfl rfl) (g0 rfl) rfl rfl ?_
  refine oc (k_st (j := 0) rfl rfl rfl rfl (vs := [.slice A9 (a0_w.b ++ (cpy (List.replicate (if 0 < (if 1000 < a2_size then 1000 else a2_size) then (if 1000 < a2_size then 1000 else a2_size) else 0).toNat (0 : UInt8)) a1_b)).length c10]) rfl (sz rfl Tryd.sizeOf22) rfl 1 rfl (spl_lit (j := 0) (cs' := [.slice A9 (a0_w.b ++ (cpy (List.replicate (if 0 < (if 1000 < a2_size then 1000 else a2_size) then (if 1000 < a2_size then 1000 else a2_size) else 0).toNat (0 : UInt8)) a1_b)).length c10]) rfl rfl) rfl (g0 rfl) rfl ?_)
  refine o_nil ?_
  cases H
  exact q_end_n (rs_0 Tryd.results53) ⟨A9, c10, rfl, rfl, rfl⟩ [0] rfl 5 rfl [1, 1] rfl 1 rfl

def field_Writer_Num_l0 (a1_n : Int) (J3 : (List UInt8) → Option WriterS) : Nat → (Int × List UInt8) → Option WriterS
  | 0, _ => none
  | k6 + 1, s6 =>
    bif (decide (s6.1 ≥ 0)) then (
    chk (decide ((wrap64 (8 * s6.1)) < 0) = false) <|
    chk (s6.2.length + ([(shr64 ((UInt64.ofInt a1_n) : UInt64) ((wrap64 (8 * s6.1)) : Int).toNat).toUInt8] : List UInt8).length ≤ 68719476736) <|
    field_Writer_Num_l0 a1_n J3 k6 ((wrap64 (s6.1 - 1)), (s6.2 ++ ([(shr64 ((UInt64.ofInt a1_n) : UInt64) ((wrap64 (8 * s6.1)) : Int).toNat).toUInt8] : List UInt8)))) else (
    J3 s6.2)

def field_Writer_Num (a0_w : WriterS) (a1_n : Int) (a2_size : Int) : Option WriterS :=
jn (fun (x4 : List UInt8) =>
some (⟨x4⟩ : WriterS)) fun J3 =>
field_Writer_Num_l0 a1_n J3 Fuel ((wrap64 ((if 0 < (if 8 < a2_size then 8 else a2_size) then (if 8 < a2_size then 8 else a2_size) else 0) - 1)), a0_w.b)

theorem c_field_Writer_Num (a0_wp : Nat) (a0_w : WriterS) (A1 : Option Addr) (c2 : Nat) (a1_n : Int) (a2_size : Int) (r : WriterS) (H : field_Writer_Num a0_w a1_n a2_size = some r) : Fn Tryd.prog 54 [(.pointer (some ⟨a0_wp, 0, none⟩)), (vi a1_n), (vi a2_size)] [Sl E8 A1 c2 a0_w.b] [At a0_wp 0 [.slice A1 a0_w.b.length c2], Spare A1 a0_w.b.length c2 1] (fun v D' G' => ∃ (A13 : Option Addr) (c14 : Nat), v = (.tuple #[]) ∧ D' = [Sl E8 A13 c14 r.b] ∧ G' = [At a0_wp 0 [.slice A13 r.b.length c14], Spare A13 r.b.length c14 1]) := by
  unfold field_Writer_Num at H
  refine fn_of Tryd.func54 rfl Tryd.ntmps54 rfl ?_
  intro w0 D0 G0
  dsimp only [List.cons_append, List.nil_append, initEnv, Nat.zero_add, Nat.reduceAdd]
  refine s_seq ?_
  refine s_reg [0, 1, 2, 3] rfl ?_
  refine o_pu rfl (ev_move rfl rfl) (g0 rfl) rfl rfl ?_
  refine o_pu rfl (ev_min rfl rfl rfl) (g0 rfl) rfl rfl ?_
  refine o_pu rfl (ev_max rfl rfl rfl) (g0 rfl) rfl rfl ?_
  refine o_pu rfl (ev_assign rfl rfl) (g0 rfl) rfl rfl ?_
  refine o_nil ?_
  refine q_then ?_
  refine s_seq ?_
  refine s_reg [0, 1, 2] rfl ?_
  refine o_pu rfl (ev_move rfl rfl) (g0 rfl) rfl rfl ?_
  refine o_pu rfl (ev_bin rfl rfl rfl rfl (sub_i _ 1)) (g0 rfl) rfl rfl ?_
  refine o_pu rfl (ev_assign rfl rfl) (g0 rfl) rfl rfl ?_
  refine o_nil ?_
  refine q_then ?_
  refine q_join (fun (x4 : List UInt8) (y5 : Option Addr × Nat) => ⟨Sl E8 y5.1 y5.2 x4 :: Sl E8 A1 c2 a0_w.b :: D0, At a0_wp 0 [.slice y5.1 x4.length y5.2] :: Spare y5.1 x4.length y5.2 1 :: G0, []⟩) H ?_ ?_
  · intro x4 y5 H
    dsimp only
    cases H
    exact q_end_n (rs_0 Tryd.results54) ⟨y5.1, y5.2, rfl, rfl, rfl⟩ [0] rfl 2 rfl [0, 0] rfl 0 rfl
  · intro J3 H
    refine s_block ?_
    refine s_loop (k_wk (loop_ind (fun (s6 : Int × List UInt8) (y6 : Option Addr × Nat) => ⟨Sl E8 y6.1 y6.2 s6.2 :: Sl E8 A1 c2 a0_w.b :: D0, At a0_wp 0 [.slice y6.1 s6.2.length y6.2] :: Spare y6.1 s6.2.length y6.2 1 :: G0, [(0, (.pointer (some ⟨a0_wp, 0, none⟩))), (1, (vi a1_n)), (6, (vi s6.1))]⟩) (field_Writer_Num_l0 a1_n _) _ (fun _ => rfl) ?_ Fuel ((wrap64 ((if 0 < (if 8 < a2_size then 8 else a2_size) then (if 8 < a2_size then 8 else a2_size) else 0) - 1)), a0_w.b) (A1, c2) H) [0, 1, 6] [0, 0] 1 [0, 0] 0 rfl rfl rfl)
    intro k6 s6 y6 ih H
    dsimp only
    rw [field_Writer_Num_l0] at H
    refine s_seq ?_
    refine s_seq ?_
    refine s_reg [0, 1] rfl ?_
    refine o_pu rfl (ev_move rfl rfl) (g0 rfl) rfl rfl ?_
    refine o_pu rfl (ev_bin rfl rfl rfl rfl (geq_i _ 0)) (g0 rfl) rfl rfl ?_
    refine o_nil ?_
    refine q_then ?_
    refine s_cond rfl ?_ ?_
    · intro hb7
      have H := cnd_t H hb7
      refine s_skip ?_
      refine q_then ?_
      refine s_seq ?_
      refine s_block ?_
      refine s_draw mixed [(4, [12, 15], Has a0_wp 0 [.slice y6.1 s6.2.length y6.2])] ?_
      refine a_pu 0 rfl (ev_move rfl rfl) (by rfl) (by kernel_rfl) (by kernel_rfl) (by kernel_rfl) (fun _ _ _ h => h) (g0 rfl) rfl rfl ?_
      refine a_pu 1 rfl (ev_move rfl rfl) (by rfl) (by kernel_rfl) (by kernel_rfl) (by kernel_rfl) (fun _ _ _ h => h) (g0 rfl) rfl rfl ?_
      refine a_pu 2 rfl (ev_nilCheck rfl rfl) (by rfl) (by kernel_rfl) (by kernel_rfl) (by kernel_rfl) (fun _ _ _ h => h) (g0 rfl) rfl rfl ?_
      refine a_pu 3 rfl (ev_fieldAddr rfl rfl Tryd.runUnderlying106 rfl Tryd.sizeOf22 rfl rfl) (by rfl) (by kernel_rfl) (by kernel_rfl) (by kernel_rfl) (fun _ _ _ h => h) (g0 rfl) rfl rfl ?_
      refine a_ld 4 0 rfl rfl (ev_ld1 (j := 0) rfl rfl Tryd.isAgg22 (sub_nth (j := 0) rfl) rfl) (by kernel_rfl) (by rfl) (by kernel_rfl) (by kernel_rfl) (by kernel_rfl) (by kernel_rfl) (fun _ _ _ h => h) (g0 rfl) rfl rfl ?_
      refine a_pu 5 rfl (ev_move rfl rfl) (by rfl) (by kernel_rfl) (by kernel_rfl) (by kernel_rfl) (fun _ _ _ h => h) (g0 rfl) rfl rfl ?_
      refine a_pu 6 rfl (ev_conv rfl rfl (conv_i_u64 _ Tryd.runUnderlying3 Tryd.runUnderlying123)) (by rfl) (by kernel_rfl) (by kernel_rfl) (by kernel_rfl) (fun _ _ _ h => h) (g0 rfl) rfl rfl ?_
      refine a_pu 7 rfl (ev_move rfl rfl) (by rfl) (by kernel_rfl) (by kernel_rfl) (by kernel_rfl) (fun _ _ _ h => h) (g0 rfl) rfl rfl ?_
      refine a_pu 8 rfl (ev_bin rfl rfl rfl rfl (mul_i 8 _)) (by rfl) (by kernel_rfl) (by kernel_rfl) (by kernel_rfl) (fun _ _ _ h => h) (g0 rfl) rfl rfl ?_
      obtain ⟨hk8, H⟩ := chk_some H
      refine a_pu 9 rfl (ev_bin rfl rfl rfl rfl (shr_64i _ _ hk8)) (by rfl) (by kernel_rfl) (by kernel_rfl) (by kernel_rfl) (fun _ _ _ h => h) (g0 rfl) rfl rfl ?_
      refine a_pu 10 rfl (ev_conv rfl rfl (conv_u64_u8 _ Tryd.runUnderlying123 Tryd.runUnderlying5)) (by rfl) (by kernel_rfl) (by kernel_rfl) (by kernel_rfl) (fun _ _ _ h => h) (g0 rfl) rfl rfl ?_
      refine ac 11 (by kernel_rfl) (sl_cons (hG 0 rfl) sl_nil) (k_buildSlice (f := E8) ([(shr64 ((UInt64.ofInt a1_n) : UInt64) ((wrap64 (8 * s6.1)) : Int).toNat).toUInt8] : List UInt8) rfl rfl rfl rfl Tryd.runUnderlying22 Tryd.sizeOf5 Tryd.zeroValue5 rfl rfl (fill_all rfl rfl (by simp) rfl rfl) (g0 rfl) rfl rfl ?_)
      intro b9
      obtain ⟨hk12, H⟩ := chk_some H
      refine ac 12 (by kernel_rfl) (sl_cons (hG 0 rfl) sl_nil) (k_append 1 0 1 rfl rfl rfl rfl rfl rfl rfl E8_len E8_one Tryd.underlying22 Tryd.underlying22 info5 rfl rfl rfl rfl hk12 (g0 rfl) rfl rfl ?_)
      intro A10 c11
      refine a_pu 13 rfl (ev_nilCheck rfl rfl) (by rfl) (by kernel_rfl) (by kernel_rfl) (by kernel_rfl) (fun _ _ _ h => h) (g0 rfl) rfl rfl ?_
      refine a_pu 14 rfl (ev_fieldAddr rfl rfl Tryd.runUnderlying106 rfl Tryd.sizeOf22 rfl rfl) (by rfl) (by kernel_rfl) (by kernel_rfl) (by kernel_rfl) (fun _ _ _ h => h) (g0 rfl) rfl rfl ?_
      refine ac 15 (by kernel_rfl) (sl_end (by kernel_rfl) sl_nil) (k_st (j := 0) rfl rfl rfl rfl (vs := [.slice A10 (s6.2 ++ ([(shr64 ((UInt64.ofInt a1_n) : UInt64) ((wrap64 (8 * s6.1)) : Int).toNat).toUInt8] : List UInt8)).length c11]) rfl (sz rfl Tryd.sizeOf22) rfl 0 rfl (spl_lit (j := 0) (cs' := [.slice A10 (s6.2 ++ ([(shr64 ((UInt64.ofInt a1_n) : UInt64) ((wrap64 (8 * s6.1)) : Int).toNat).toUInt8] : List UInt8)).length c11]) rfl rfl) rfl (g0 rfl) rfl ?_)
      refine a_done (by kernel_rfl) (sl_end (by kernel_rfl) sl_nil) ?_
      refine q_block ?_
      refine q_then ?_
      refine s_reg [0, 1, 2] rfl ?_
      refine o_pu rfl (ev_move rfl rfl) (g0 rfl) rfl rfl ?_
      refine o_pu rfl (ev_bin rfl rfl rfl rfl (sub_i _ 1)) (g0 rfl) rfl rfl ?_
      refine o_pu rfl (ev_assign rfl rfl) (g0 rfl) rfl rfl ?_
      refine o_nil ?_
      refine q_loop ?_
      exact k_wk (ih ((wrap64 (s6.1 - 1)), (s6.2 ++ ([(shr64 ((UInt64.ofInt a1_n) : UInt64) ((wrap64 (8 * s6.1)) : Int).toNat).toUInt8] : List UInt8))) (A10, c11) H) [0, 1, 6] [0, 3] 4 [0, 0] 0 rfl rfl rfl
    · intro hb7
      have H := cnd_f H hb7
      refine s_exit ?_
      refine q_then_x ?_
      refine q_then_x ?_
      refine q_block_x ?_
      exact k_wk (J3 s6.2 (y6.1, y6.2) H) [] [0, 1] 2 [0, 0] 0 rfl rfl rfl

def field_Writer_Bytes (a0_w : WriterS) : Option (List UInt8) :=
(slices_Clone a0_w.b).bind fun r3 =>
some r3

theorem c_field_Writer_Bytes (a0_wp : Nat) (a0_w : WriterS) (A1 : Option Addr) (c2 : Nat) (r : (List UInt8)) (H : field_Writer_Bytes a0_w = some r) : Fn Tryd.prog 55 [(.pointer (some ⟨a0_wp, 0, none⟩))] [Sl E8 A1 c2 a0_w.b] [At a0_wp 0 [.slice A1 a0_w.b.length c2], Spare A1 a0_w.b.length c2 1] (fun v D' G' => ∃ (A7 : Option Addr) (c8 : Nat), v = (.slice A7 r.length c8) ∧ D' = [Sl E8 A7 c8 r] ∧ G' = [Spare A7 r.length c8 1, At a0_wp 0 [.slice A1 a0_w.b.length c2], Spare A1 a0_w.b.length c2 1]) := by
  unfold field_Writer_Bytes at H
  refine fn_of Tryd.func55 rfl Tryd.ntmps55 rfl ?_
  intro w0 D0 G0
  dsimp only [List.cons_append, List.nil_append, initEnv, Nat.zero_add, Nat.reduceAdd]
  refine s_seq ?_
  refine s_reg [0] rfl ?_
  refine o_pu rfl (ev_assign rfl rfl) (g0 rfl) rfl rfl ?_
  refine o_nil ?_
  refine q_then ?_
  refine s_seq ?_
  refine s_reg [0, 1, 2, 3, 4, 5] rfl ?_
  refine o_pu rfl (ev_move rfl rfl) (g0 rfl) rfl rfl ?_
  refine o_pu rfl (ev_nilCheck rfl rfl) (g0 rfl) rfl rfl ?_
  refine o_pu rfl (ev_fieldAddr rfl rfl Tryd.runUnderlying106 rfl Tryd.sizeOf22 rfl rfl) (g0 rfl) rfl rfl ?_
  refine o_ld (hG 0 rfl) rfl (ev_ld1 (j := 0) rfl rfl Tryd.isAgg22 (sub_nth (j := 0) rfl) rfl) (g0 rfl) rfl rfl ?_
  obtain ⟨r3, Hc4, H⟩ := bind_some' H
  refine oc (k_call (c_slices_Clone a0_w.b A1 c2 r3 Hc4) Tryd.call46 rfl rfl rfl [0] [] rfl rfl (g0 rfl) rfl rfl ?_)
  rintro _ _ _ ⟨A5, c6, rfl, rfl, rfl⟩
  dsimp only [List.cons_append, List.nil_append]
  refine o_pu rfl (ev_assign rfl rfl) (g0 rfl) rfl rfl ?_
  refine o_nil ?_
  refine q_then ?_
  refine s_ret ?_
  cases H
  exact q_end (rs_1 Tryd.results55 (rv_tmp rfl)) ⟨A5, c6, rfl, rfl, rfl⟩ [0] rfl 2 rfl [0, 0, 0] rfl 0 rfl

def field_Reader_take (a0_r : ReaderS) (a1_n : Int) : Option ((List UInt8) × ReaderS) :=
bif a0_r.bad then (
some ([], (⟨a0_r.b, a0_r.bad⟩ : ReaderS))) else (
bif (decide (a1_n > (a0_r.b.length : Int))) then (
some ([], (⟨[], true⟩ : ReaderS))) else (
chk (0 ≤ (0 : Int) ∧ (0 : Int) ≤ a1_n ∧ a1_n ≤ (a0_r.b.length : Int)) <|
chk (0 ≤ a1_n ∧ a1_n ≤ (a0_r.b.length : Int) ∧ (a0_r.b.length : Int) ≤ (a0_r.b.length : Int)) <|
some ((slc a0_r.b (0 : Int) a1_n), (⟨(slc a0_r.b a1_n (a0_r.b.length : Int)), a0_r.bad⟩ : ReaderS))))

theorem c_field_Reader_take (a0_rp : Nat) (a0_r : ReaderS) (A1 : Option Addr) (c2 : Nat) (a1_n : Int) (r : (List UInt8) × ReaderS) (H : field_Reader_take a0_r a1_n = some r) : Fn Tryd.prog 60 [(.pointer (some ⟨a0_rp, 0, none⟩)), (vi a1_n)] [Sl E8 A1 c2 a0_r.b] [At a0_rp 0 [.slice A1 a0_r.b.length c2, vb a0_r.bad]] (fun v D' G' => ∃ (A11 : Option Addr) (c12 : Nat) (A13 : Option Addr) (c14 : Nat), v = (.slice A11 r.1.length c12) ∧ D' = [Sl E8 A13 c14 r.2.b, Sl E8 A11 c12 r.1] ∧ G' = [At a0_rp 0 [.slice A13 r.2.b.length c14, vb r.2.bad]]) := by
  unfold field_Reader_take at H
  refine fn_of Tryd.func60 rfl Tryd.ntmps60 rfl ?_
  intro w0 D0 G0
  dsimp only [List.cons_append, List.nil_append, initEnv, Nat.zero_add, Nat.reduceAdd]
  refine s_seq ?_
  refine s_reg [0] rfl ?_
  refine o_pu rfl (ev_assign rfl rfl) (g0 rfl) rfl rfl ?_
  refine o_nil ?_
  refine q_then ?_
  refine s_seq ?_
  refine s_seq ?_
  refine s_reg [0, 1, 2, 3, 4, 5, 6, 7] rfl ?_
  refine o_pu rfl (ev_move rfl rfl) (g0 rfl) rfl rfl ?_
  refine o_pu rfl (ev_bin rfl rfl rfl rfl (eql_ptr_pn Tryd.runUnderlying65)) (g0 rfl) rfl rfl ?_
  refine o_pu rfl (ev_move rfl rfl) (g0 rfl) rfl rfl ?_
  refine o_pu rfl (ev_move rfl rfl) (g1 rfl rfl rfl rfl) rfl rfl ?_
  refine o_pu rfl (ev_nilCheck rfl rfl) (g1 rfl rfl rfl rfl) rfl rfl ?_
  refine o_pu rfl (ev_fieldAddr rfl rfl Tryd.runUnderlying115 rfl Tryd.sizeOf4 rfl rfl) (g1 rfl rfl rfl rfl) rfl rfl ?_
  refine o_ld (hG 0 rfl) rfl (ev_ld1 (j := 1) rfl rfl Tryd.isAgg4 (sub_nth (j := 1) rfl) rfl) (g1 rfl rfl rfl rfl) rfl rfl ?_
  refine o_pu rfl (ev_pick_f rfl rfl rfl) (g0 rfl) rfl rfl ?_
  refine o_nil ?_
  refine q_then ?_
  refine s_cond rfl ?_ ?_
  · intro hb3
    have H := cnd_t H hb3
    refine s_seq ?_
    refine s_reg [0] rfl ?_
    refine o_pu rfl (ev_assign rfl rfl) (g0 rfl) rfl rfl ?_
    refine o_nil ?_
    refine q_then ?_
    refine s_ret ?_
    refine q_then_r ?_
    cases H
    refine k_nil_sl E8 ?_
    exact q_end (rs_1 Tryd.results60 (rv_tmp rfl)) ⟨none, 0, A1, c2, rfl, rfl, rfl⟩ [1, 0] rfl 2 rfl [0] rfl 0 rfl
  · intro hb3
    have H := cnd_f H hb3
    refine s_skip ?_
    refine q_then ?_
    refine s_seq ?_
    refine s_seq ?_
    refine s_reg [0, 1, 2, 3, 4, 5, 6] rfl ?_
    refine o_pu rfl (ev_move rfl rfl) (g0 rfl) rfl rfl ?_
    refine o_pu rfl (ev_move rfl rfl) (g0 rfl) rfl rfl ?_
    refine o_pu rfl (ev_nilCheck rfl rfl) (g0 rfl) rfl rfl ?_
    refine o_pu rfl (ev_fieldAddr rfl rfl Tryd.runUnderlying115 rfl Tryd.sizeOf22 rfl rfl) (g0 rfl) rfl rfl ?_
    refine o_ld (hG 0 rfl) rfl (ev_ld1 (j := 0) rfl rfl Tryd.isAgg22 (sub_nth (j := 0) rfl) rfl) (g0 rfl) rfl rfl ?_
    refine o_pu rfl (ev_len_slice rfl rfl Tryd.runUnderlying22) (g0 rfl) rfl rfl ?_
    refine o_pu rfl (ev_bin rfl rfl rfl rfl (gtr_i _ _)) (g0 rfl) rfl rfl ?_
    refine o_nil ?_
    refine q_then ?_
    refine s_cond rfl ?_ ?_
    · intro hb4
      have H := cnd_t H hb4
      refine s_seq ?_
      refine s_reg [0, 1, 2, 3, 4, 5, 6, 7] rfl ?_
      refine o_pu rfl (ev_move rfl rfl) (g0 rfl) rfl rfl ?_
      refine o_pu rfl (ev_move rfl rfl) (g0 rfl) rfl rfl ?_
      refine o_pu rfl (ev_nilCheck rfl rfl) (g0 rfl) rfl rfl ?_
      refine o_pu rfl (ev_fieldAddr rfl rfl Tryd.runUnderlying115 rfl Tryd.sizeOf22 rfl rfl) (g0 rfl) rfl rfl ?_
      refine oc (k_st (j := 0) rfl rfl rfl rfl (vs := [.slice none 0 0]) rfl (sz rfl Tryd.sizeOf22) rfl 0 rfl (spl_lit (j := 0) (cs' := [.slice none 0 0, vb a0_r.bad]) rfl rfl) rfl (g0 rfl) rfl ?_)
      refine o_pu rfl (ev_nilCheck rfl rfl) (g0 rfl) rfl rfl ?_
      refine o_pu rfl (ev_fieldAddr rfl rfl Tryd.runUnderlying115 rfl Tryd.sizeOf4 rfl rfl) (g0 rfl) rfl rfl ?_
      refine oc (k_st (j := 1) rfl rfl rfl rfl (vs := [vb true]) rfl (sz rfl Tryd.sizeOf4) rfl 0 rfl (spl_lit (j := 1) (cs' := [.slice none 0 0, vb true]) rfl rfl) rfl (g0 rfl) rfl ?_)
      refine o_nil ?_
      refine q_then ?_
      refine s_seq ?_
      refine s_reg [0] rfl ?_
      refine o_pu rfl (ev_assign rfl rfl) (g0 rfl) rfl rfl ?_
      refine o_nil ?_
      refine q_then ?_
      refine s_ret ?_
      refine q_then_r ?_
      cases H
      refine k_nil_sl E8 ?_
      exact q_end (rs_1 Tryd.results60 (rv_tmp rfl)) ⟨none, 0, none, 0, rfl, rfl, rfl⟩ [0, 0] rfl 2 rfl [0] rfl 0 rfl
    · intro hb4
      have H := cnd_f H hb4
      refine s_skip ?_
      refine q_then ?_
      refine s_seq ?_
      refine s_reg [0, 1, 2, 3, 4, 5, 6] rfl ?_
      refine o_pu rfl (ev_move rfl rfl) (g0 rfl) rfl rfl ?_
      refine o_pu rfl (ev_nilCheck rfl rfl) (g0 rfl) rfl rfl ?_
      refine o_pu rfl (ev_fieldAddr rfl rfl Tryd.runUnderlying115 rfl Tryd.sizeOf22 rfl rfl) (g0 rfl) rfl rfl ?_
      refine o_ld (hG 0 rfl) rfl (ev_ld1 (j := 0) rfl rfl Tryd.isAgg22 (sub_nth (j := 0) rfl) rfl) (g0 rfl) rfl rfl ?_
      refine o_pu rfl (ev_move rfl rfl) (g0 rfl) rfl rfl ?_
      obtain ⟨hk7, H⟩ := chk_some H
      refine oc (k_slice (ka := .i64) (a := (0 : Int)) (b := a1_n) 0 rfl rfl rfl rfl E8_len Tryd.runUnderlying22 Tryd.sizeOf5 (.inl ⟨rfl, rfl⟩) (.inr rfl) hk7 (g0 rfl) rfl rfl ?_)
      intro A5 c6
      refine o_pu rfl (ev_assign rfl rfl) (g0 rfl) rfl rfl ?_
      refine o_nil ?_
      refine q_then ?_
      refine s_seq ?_
      refine s_reg [0, 1, 2, 3, 4, 5, 6, 7, 8, 9] rfl ?_
      refine o_pu rfl (ev_move rfl rfl) (g0 rfl) rfl rfl ?_
      refine o_pu rfl (ev_move rfl rfl) (g0 rfl) rfl rfl ?_
      refine o_pu rfl (ev_nilCheck rfl rfl) (g0 rfl) rfl rfl ?_
      refine o_pu rfl (ev_fieldAddr rfl rfl Tryd.runUnderlying115 rfl Tryd.sizeOf22 rfl rfl) (g0 rfl) rfl rfl ?_
      refine o_ld (hG 0 rfl) rfl (ev_ld1 (j := 0) rfl rfl Tryd.isAgg22 (sub_nth (j := 0) rfl) rfl) (g0 rfl) rfl rfl ?_
      refine o_pu rfl (ev_move rfl rfl) (g0 rfl) rfl rfl ?_
      obtain ⟨hk10, H⟩ := chk_some H
      refine oc (k_slice (kb := .i64) (a := a1_n) (b := (a0_r.b.length : Int)) 1 rfl rfl rfl rfl E8_len Tryd.runUnderlying22 Tryd.sizeOf5 (.inr rfl) (.inl ⟨rfl, rfl⟩) hk10 (g0 rfl) rfl rfl ?_)
      intro A8 c9
      refine o_pu rfl (ev_nilCheck rfl rfl) (g0 rfl) rfl rfl ?_
      refine o_pu rfl (ev_fieldAddr rfl rfl Tryd.runUnderlying115 rfl Tryd.sizeOf22 rfl rfl) (g0 rfl) rfl rfl ?_
      refine oc (k_st (j := 0) rfl rfl rfl rfl (vs := [.slice A8 (slc a0_r.b a1_n (a0_r.b.length : Int)).length c9]) rfl (sz rfl Tryd.sizeOf22) rfl 0 rfl (spl_lit (j := 0) (cs' := [.slice A8 (slc a0_r.b a1_n (a0_r.b.length : Int)).length c9, vb a0_r.bad]) rfl rfl) rfl (g0 rfl) rfl ?_)
      refine o_nil ?_
      refine q_then ?_
      refine s_seq ?_
      refine s_reg [0, 1] rfl ?_
      refine o_pu rfl (ev_move rfl rfl) (g0 rfl) rfl rfl ?_
      refine o_pu rfl (ev_assign rfl rfl) (g0 rfl) rfl rfl ?_
      refine o_nil ?_
      refine q_then ?_
      refine s_ret ?_
      cases H
      exact q_end (rs_1 Tryd.results60 (rv_tmp rfl)) ⟨A5, c6, A8, c9, rfl, rfl, rfl⟩ [0, 1] rfl 3 rfl [0] rfl 0 rfl

def strings_trimRightByte_l0 (a1_c : UInt8) (J1 : (List UInt8) → Option (List UInt8)) : Nat → (List UInt8) → Option (List UInt8)
  | 0, _ => none
  | k4 + 1, s4 =>
    bnd (decide ((s4.length : Int) > 0)) fun b5 =>
    jn (fun x8 =>
    bif x8 then (
    chk (0 ≤ (0 : Int) ∧ (0 : Int) ≤ (wrap64 ((s4.length : Int) - 1)) ∧ (wrap64 ((s4.length : Int) - 1)) ≤ s4.length) <|
    strings_trimRightByte_l0 a1_c J1 k4 (slc s4 (0 : Int) (wrap64 ((s4.length : Int) - 1)))) else (
    J1 s4)) fun J7 =>
    bif b5 then (
    chk (0 ≤ (wrap64 ((s4.length : Int) - 1)) ∧ (wrap64 ((s4.length : Int) - 1)) < s4.length) <|
    J7 (((at' 0 s4 (wrap64 ((s4.length : Int) - 1))) : UInt8) == (a1_c : UInt8))) else
    J7 false

def strings_trimRightByte (a0_s : List UInt8) (a1_c : UInt8) : Option (List UInt8) :=
jn (fun (x2 : List UInt8) =>
some x2) fun J1 =>
strings_trimRightByte_l0 a1_c J1 Fuel a0_s

theorem c_strings_trimRightByte (a0_s : List UInt8) (a1_c : UInt8) (r : (List UInt8)) (H : strings_trimRightByte a0_s a1_c = some r) : Fn Tryd.prog 61 [(vs a0_s), (v8 a1_c)] [] [] (fun v D' G' => v = (vs r) ∧ D' = [] ∧ G' = []) := by
  unfold strings_trimRightByte at H
  refine fn_of Tryd.func61 rfl Tryd.ntmps61 rfl ?_
  intro w0 D0 G0
  dsimp only [List.cons_append, List.nil_append, initEnv, Nat.zero_add, Nat.reduceAdd]
  refine s_seq ?_
  refine s_reg [0] rfl ?_
  refine o_pu rfl (ev_assign rfl rfl) (g0 rfl) rfl rfl ?_
  refine o_nil ?_
  refine q_then ?_
  refine s_seq ?_
  refine q_join (fun (x2 : List UInt8) (y3 : Unit) => ⟨D0, G0, [(0, (vs x2))]⟩) H ?_ ?_
  · intro x2 y3 H
    dsimp only
    refine q_then ?_
    refine s_seq ?_
    refine s_reg [0, 1] rfl ?_
    refine o_pu rfl (ev_move rfl rfl) (g0 rfl) rfl rfl ?_
    refine o_pu rfl (ev_assign rfl rfl) (g0 rfl) rfl rfl ?_
    refine o_nil ?_
    refine q_then ?_
    refine s_ret ?_
    cases H
    exact q_end (rs_1 Tryd.results61 (rv_tmp rfl)) ⟨rfl, rfl, rfl⟩ [] rfl 0 rfl [] rfl 0 rfl
  · intro J1 H
    refine s_block ?_
    refine s_loop (k_wk (loop_ind (fun (s4 : List UInt8) (y4 : Unit) => ⟨D0, G0, [(0, (vs s4)), (1, (v8 a1_c))]⟩) (strings_trimRightByte_l0 a1_c _) _ (fun _ => rfl) ?_ Fuel a0_s () H) [0, 1] [] 0 [] 0 rfl rfl rfl)
    intro k4 s4 y4 ih H
    dsimp only
    rw [strings_trimRightByte_l0] at H
    refine s_seq ?_
    refine s_seq ?_
    refine s_reg [0, 1, 2, 3, 4, 5, 6, 7, 8, 9, 10, 11] rfl ?_
    refine o_pu rfl (ev_move rfl rfl) (g0 rfl) rfl rfl ?_
    refine o_pu rfl (ev_len_string rfl rfl Tryd.runUnderlying9) (g0 rfl) rfl rfl ?_
    refine o_pu rfl (ev_bin rfl rfl rfl rfl (gtr_i _ 0)) (g0 rfl) rfl rfl ?_
    refine o_pu rfl (ev_move rfl rfl) (g0 rfl) rfl rfl ?_
    refine k_name 8 rfl ?_
    intro b5 hb6
    have H := bnd_eq H hb6
    refine o_jb 16 [] [0, 1, 5, 6, 7, 8] H rfl ?_ ?_
    · intro x8 H
      refine o_nil ?_
      refine q_then ?_
      refine s_cond rfl ?_ ?_
      · intro hb9
        have H := cnd_t H hb9
        refine s_skip ?_
        refine q_then ?_
        refine s_block ?_
        refine s_reg [0, 1, 2, 3, 4, 5] rfl ?_
        refine o_pu rfl (ev_move rfl rfl) (g0 rfl) rfl rfl ?_
        refine o_pu rfl (ev_move rfl rfl) (g0 rfl) rfl rfl ?_
        refine o_pu rfl (ev_len_string rfl rfl Tryd.runUnderlying9) (g0 rfl) rfl rfl ?_
        refine o_pu rfl (ev_bin rfl rfl rfl rfl (sub_i _ 1)) (g0 rfl) rfl rfl ?_
        obtain ⟨hk10, H⟩ := chk_some H
        refine o_pu rfl (ev_slice_string (ka := .i64) (a := (0 : Int)) (b := (wrap64 ((s4.length : Int) - 1))) rfl rfl Tryd.runUnderlying9 (.inl ⟨rfl, rfl⟩) (.inr rfl) hk10) (g0 rfl) rfl rfl ?_
        refine o_pu rfl (ev_assign rfl rfl) (g0 rfl) rfl rfl ?_
        refine o_nil ?_
        refine q_block ?_
        refine q_loop ?_
        exact k_wk (ih (slc s4 (0 : Int) (wrap64 ((s4.length : Int) - 1))) () H) [0, 1] [] 0 [] 0 rfl rfl rfl
      · intro hb9
        have H := cnd_f H hb9
        refine s_exit ?_
        refine q_then_x ?_
        refine q_then_x ?_
        refine q_block_x ?_
        exact k_wk (J1 s4 () H) [0] [] 0 [] 0 rfl rfl rfl
    · intro J7 H
      cases b5 with
      | true =>
        rw [cond_true] at H
        refine o_pu rfl (ev_move rfl rfl) (g1 rfl rfl rfl rfl) rfl rfl ?_
        refine o_pu rfl (ev_move rfl rfl) (g1 rfl rfl rfl rfl) rfl rfl ?_
        refine o_pu rfl (ev_len_string rfl rfl Tryd.runUnderlying9) (g1 rfl rfl rfl rfl) rfl rfl ?_
        refine o_pu rfl (ev_bin rfl rfl rfl rfl (sub_i _ 1)) (g1 rfl rfl rfl rfl) rfl rfl ?_
        obtain ⟨hk11, H⟩ := chk_some H
        refine o_pu rfl (ev_index_string rfl rfl rfl Tryd.runUnderlying9 hk11) (g1 rfl rfl rfl rfl) rfl rfl ?_
        refine o_pu rfl (ev_move rfl rfl) (g1 rfl rfl rfl rfl) rfl rfl ?_
        refine o_pu rfl (ev_bin rfl rfl rfl rfl (eql_8 _ _)) (g1 rfl rfl rfl rfl) rfl rfl ?_
        refine o_pu rfl (ev_pick_t rfl rfl rfl) (g0 rfl) rfl rfl ?_
        exact k_wk (J7 (((at' 0 s4 (wrap64 ((s4.length : Int) - 1))) : UInt8) == (a1_c : UInt8)) H) [16, 0, 1, 5, 6, 7, 8] [] 0 [] 0 rfl rfl rfl
      | false =>
        rw [cond_false] at H
        refine o_gnot rfl rfl rfl rfl rfl rfl rfl rfl ?_
        refine o_gnot rfl rfl rfl rfl rfl rfl rfl rfl ?_
        refine o_gnot rfl rfl rfl rfl rfl rfl rfl rfl ?_
        refine o_gnot rfl rfl rfl rfl rfl rfl rfl rfl ?_
        refine o_gnot rfl rfl rfl rfl rfl rfl rfl rfl ?_
        refine o_gnot rfl rfl rfl rfl rfl rfl rfl rfl ?_
        refine o_gnot rfl rfl rfl rfl rfl rfl rfl rfl ?_
        refine o_pu rfl (ev_pick_f rfl rfl rfl) (g0 rfl) rfl rfl ?_
        exact k_wk (J7 false H) [16, 0, 1, 5, 6, 7, 8] [] 0 [] 0 rfl rfl rfl

def strings_makeASCIISet_l0 (a0_chars : List UInt8) (J2 : (Arr Bool 256) → Option ((Arr Bool 256) × Bool)) : Nat → (Int × Arr Bool 256) → Option ((Arr Bool 256) × Bool)
  | 0, _ => none
  | k5 + 1, s5 =>
    bif (decide (s5.1 < (a0_chars.length : Int))) then (
    chk (0 ≤ s5.1 ∧ s5.1 < a0_chars.length) <|
    bif (decide ((128 : UInt8) ≤ ((at' 0 a0_chars s5.1) : UInt8))) then (
    some (s5.2, false)) else (
    chk (0 ≤ ((at' 0 a0_chars s5.1).toNat : Int) ∧ ((at' 0 a0_chars s5.1).toNat : Int) < 256) <|
    strings_makeASCIISet_l0 a0_chars J2 k5 ((wrap64 (s5.1 + 1)), (Arr.set s5.2 ((at' 0 a0_chars s5.1).toNat : Int) true)))) else (
    J2 s5.2)

def strings_makeASCIISet (a0_chars : List UInt8) : Option ((Arr Bool 256) × Bool) :=
jn (fun (x3 : Arr Bool 256) =>
some (x3, true)) fun J2 =>
strings_makeASCIISet_l0 a0_chars J2 Fuel (0, (Arr.zero false 256 : Arr Bool 256))

theorem c_strings_makeASCIISet (a0_chars : List UInt8) (r : (Arr Bool 256) × Bool) (H : strings_makeASCIISet a0_chars = some r) : Fn Tryd.prog 62 [(vs a0_chars)] [] [] (fun v D' G' => v = (.tuple #[(.agg (r.1.l.flatMap Eb).toArray), (vb r.2)]) ∧ D' = [] ∧ G' = []) := by
  unfold strings_makeASCIISet at H
  refine fn_of Tryd.func62 rfl Tryd.ntmps62 rfl ?_
  intro w0 D0 G0
  dsimp only [List.cons_append, List.nil_append, initEnv, Nat.zero_add, Nat.reduceAdd]
  refine s_seq ?_
  refine s_reg [0, 1] rfl ?_
  refine oc (k_alloc rfl rfl Tryd.zeroValue118 (cs := (Arr.zero false 256 : Arr Bool 256).l.flatMap Eb) rfl (g0 rfl) rfl rfl ?_)
  intro b1
  refine o_pu rfl (ev_assign rfl rfl) (g0 rfl) rfl rfl ?_
  refine o_nil ?_
  refine q_then ?_
  refine s_seq ?_
  refine s_seq ?_
  refine s_reg [0] rfl ?_
  refine o_pu rfl (ev_assign rfl rfl) (g0 rfl) rfl rfl ?_
  refine o_nil ?_
  refine q_then ?_
  refine q_join (fun (x3 : Arr Bool 256) (y4 : Unit) => ⟨D0, At b1 0 (x3.l.flatMap Eb) :: G0, [(2, (.pointer (some ⟨b1, 0, none⟩)))]⟩) H ?_ ?_
  · intro x3 y4 H
    dsimp only
    refine q_then ?_
    refine s_seq ?_
    refine s_reg [0, 1, 2] rfl ?_
    refine o_ld (hG 0 rfl) rfl (ev_ldN (j := 0) rfl rfl Tryd.isAgg118 (sz (arr_len Eb_len _ rfl) Tryd.sizeOf118) (sub_all _) rfl) (g0 rfl) rfl rfl ?_
    refine oc (k_st (j := 0) rfl rfl rfl rfl (vs := x3.l.flatMap Eb) rfl (sz (arr_len Eb_len _ rfl) Tryd.sizeOf118) (arr_sc Eb_one _) 0 rfl (spl_all ((arr_len Eb_len _ rfl).trans (arr_len Eb_len _ rfl).symm)) rfl (g0 rfl) rfl ?_)
    refine o_pu rfl (ev_assign rfl rfl) (g0 rfl) rfl rfl ?_
    refine o_nil ?_
    refine q_then ?_
    refine s_ret ?_
    cases H
    exact q_end (rs_2 Tryd.results62 (rv_cell (j := 0) rfl (hG 0 rfl) Tryd.isAgg118 (sz (arr_len Eb_len _ rfl) Tryd.sizeOf118) (sub_all _) rfl) (rv_tmp rfl)) ⟨rfl, rfl, rfl⟩ [] rfl 0 rfl [] rfl 1 rfl
  · intro J2 H
    refine s_block ?_
    refine s_loop (k_wk (loop_ind (fun (s5 : Int × Arr Bool 256) (y5 : Unit) => ⟨D0, At b1 0 (s5.2.l.flatMap Eb) :: G0, [(0, (vs a0_chars)), (2, (.pointer (some ⟨b1, 0, none⟩))), (4, (vi s5.1))]⟩) (strings_makeASCIISet_l0 a0_chars _) _ (fun _ => rfl) ?_ Fuel (0, (Arr.zero false 256 : Arr Bool 256)) () H) [0, 2, 4] [] 0 [0] 0 rfl rfl rfl)
    intro k5 s5 y5 ih H
    dsimp only
    rw [strings_makeASCIISet_l0] at H
    refine s_seq ?_
    refine s_seq ?_
    refine s_reg [0, 1, 2, 3] rfl ?_
    refine o_pu rfl (ev_move rfl rfl) (g0 rfl) rfl rfl ?_
    refine o_pu rfl (ev_move rfl rfl) (g0 rfl) rfl rfl ?_
    refine o_pu rfl (ev_len_string rfl rfl Tryd.runUnderlying9) (g0 rfl) rfl rfl ?_
    refine o_pu rfl (ev_bin rfl rfl rfl rfl (lss_i _ _)) (g0 rfl) rfl rfl ?_
    refine o_nil ?_
    refine q_then ?_
    refine s_cond rfl ?_ ?_
    · intro hb6
      have H := cnd_t H hb6
      refine s_skip ?_
      refine q_then ?_
      refine s_seq ?_
      refine s_block ?_
      refine s_seq ?_
      refine s_reg [0, 1, 2, 3] rfl ?_
      refine o_pu rfl (ev_move rfl rfl) (g0 rfl) rfl rfl ?_
      refine o_pu rfl (ev_move rfl rfl) (g0 rfl) rfl rfl ?_
      obtain ⟨hk7, H⟩ := chk_some H
      refine o_pu rfl (ev_index_string rfl rfl rfl Tryd.runUnderlying9 hk7) (g0 rfl) rfl rfl ?_
      refine o_pu rfl (ev_assign rfl rfl) (g0 rfl) rfl rfl ?_
      refine o_nil ?_
      refine q_then ?_
      refine s_seq ?_
      refine s_seq ?_
      refine s_reg [0, 1] rfl ?_
      refine o_pu rfl (ev_move rfl rfl) (g0 rfl) rfl rfl ?_
      refine o_pu rfl (ev_bin rfl rfl rfl rfl (geq_8 _ 128)) (g0 rfl) rfl rfl ?_
      refine o_nil ?_
      refine q_then ?_
      refine s_cond rfl ?_ ?_
      · intro hb8
        have H := cnd_t H hb8
        refine s_seq ?_
        refine s_reg [0, 1, 2] rfl ?_
        refine o_ld (hG 0 rfl) rfl (ev_ldN (j := 0) rfl rfl Tryd.isAgg118 (sz (arr_len Eb_len _ rfl) Tryd.sizeOf118) (sub_all _) rfl) (g0 rfl) rfl rfl ?_
        refine oc (k_st (j := 0) rfl rfl rfl rfl (vs := s5.2.l.flatMap Eb) rfl (sz (arr_len Eb_len _ rfl) Tryd.sizeOf118) (arr_sc Eb_one _) 0 rfl (spl_all ((arr_len Eb_len _ rfl).trans (arr_len Eb_len _ rfl).symm)) rfl (g0 rfl) rfl ?_)
        refine o_pu rfl (ev_assign rfl rfl) (g0 rfl) rfl rfl ?_
        refine o_nil ?_
        refine q_then ?_
        refine s_ret ?_
        refine q_then_r ?_
        refine q_block_r ?_
        refine q_then_r ?_
        refine q_then_r ?_
        refine q_block_r ?_
        refine q_then_r ?_
        cases H
        exact q_end (rs_2 Tryd.results62 (rv_cell (j := 0) rfl (hG 0 rfl) Tryd.isAgg118 (sz (arr_len Eb_len _ rfl) Tryd.sizeOf118) (sub_all _) rfl) (rv_tmp rfl)) ⟨rfl, rfl, rfl⟩ [] rfl 0 rfl [] rfl 1 rfl
      · intro hb8
        have H := cnd_f H hb8
        refine s_skip ?_
        refine q_then ?_
        refine s_reg [0, 1, 2] rfl ?_
        refine o_pu rfl (ev_move rfl rfl) (g0 rfl) rfl rfl ?_
        obtain ⟨hk9, H⟩ := chk_some H
        refine o_pu rfl (ev_idx_array rfl rfl rfl Tryd.runUnderlying118 Tryd.sizeOf4 hk9 rfl) (g0 rfl) rfl rfl ?_
        refine oc (k_st rfl rfl rfl rfl (vs := [vb true]) rfl (sz rfl Tryd.sizeOf4) rfl 0 rfl (spl_arr Eb_len _ (k := ((at' 0 a0_chars s5.1).toNat : Int)) _ hk9 rfl) (by omega) (g0 rfl) rfl ?_)
        refine o_nil ?_
        refine q_block ?_
        refine q_then ?_
        refine s_reg [0, 1, 2] rfl ?_
        refine o_pu rfl (ev_move rfl rfl) (g0 rfl) rfl rfl ?_
        refine o_pu rfl (ev_bin rfl rfl rfl rfl (add_i _ 1)) (g0 rfl) rfl rfl ?_
        refine o_pu rfl (ev_assign rfl rfl) (g0 rfl) rfl rfl ?_
        refine o_nil ?_
        refine q_loop ?_
        exact k_wk (ih ((wrap64 (s5.1 + 1)), (Arr.set s5.2 ((at' 0 a0_chars s5.1).toNat : Int) true)) () H) [0, 2, 4] [] 0 [0] 0 rfl rfl rfl
    · intro hb6
      have H := cnd_f H hb6
      refine s_exit ?_
      refine q_then_x ?_
      refine q_then_x ?_
      refine q_block_x ?_
      exact k_wk (J2 s5.2 () H) [2] [] 0 [0] 0 rfl rfl rfl

def names_may (a0_r : Int) : Option Bool :=
bnd (decide (a0_r ≥ 97)) fun b1 =>
jn (fun x4 =>
bnd x4 fun b5 =>
jn (fun x8 =>
bnd x8 fun b9 =>
jn (fun x12 =>
some x12) fun J11 =>
bif b9 then (
J11 true) else
bnd (decide (a0_r ≥ 945)) fun b13 =>
jn (fun x16 =>
J11 x16) fun J15 =>
bif b13 then (
J15 (decide (a0_r ≤ 969))) else
J15 false) fun J7 =>
bif b5 then (
J7 true) else
bnd (decide (a0_r ≥ 48)) fun b17 =>
jn (fun x20 =>
J7 x20) fun J19 =>
bif b17 then (
J19 (decide (a0_r ≤ 57))) else
J19 false) fun J3 =>
bif b1 then (
J3 (decide (a0_r ≤ 122))) else
J3 false

theorem c_names_may (a0_r : Int) (r : Bool) (H : names_may a0_r = some r) : Fn Tryd.prog 65 [(vr a0_r)] [] [] (fun v D' G' => v = (vb r) ∧ D' = [] ∧ G' = []) := by
  unfold names_may at H
  refine fn_of Tryd.func65 rfl Tryd.ntmps65 rfl ?_
  intro w0 D0 G0
  dsimp only [List.cons_append, List.nil_append, initEnv, Nat.zero_add, Nat.reduceAdd]
  refine s_seq ?_
  refine s_reg [0] rfl ?_
  refine o_pu rfl (ev_assign rfl rfl) (g0 rfl) rfl rfl ?_
  refine o_nil ?_
  refine q_then ?_
  refine s_seq ?_
  refine s_reg [0, 1, 2, 3, 4, 5, 6, 7, 8, 9, 10, 11, 12, 13, 14, 15, 16, 17, 18, 19, 20, 21, 22] rfl ?_
  refine o_pu rfl (ev_move rfl rfl) (g0 rfl) rfl rfl ?_
  refine o_pu rfl (ev_bin rfl rfl rfl rfl (geq_r _ 97)) (g0 rfl) rfl rfl ?_
  refine o_pu rfl (ev_move rfl rfl) (g0 rfl) rfl rfl ?_
  refine k_name 5 rfl ?_
  intro b1 hb2
  have H := bnd_eq H hb2
  refine o_jb 8 [6, 7, 8, 9, 10, 11, 12, 13, 14, 15, 16, 17, 18, 19, 20, 21, 22] [0, 2, 3, 4, 5] H rfl ?_ ?_
  · intro x4 H
    refine o_pu rfl (ev_move rfl rfl) (g0 rfl) rfl rfl ?_
    refine k_name 9 rfl ?_
    intro b5 hb6
    have H := bnd_eq H hb6
    refine o_jb 16 [14, 15, 16, 17, 18, 19, 20, 21, 22] [0, 2, 3, 4, 5, 8, 9] H rfl ?_ ?_
    · intro x8 H
      refine o_pu rfl (ev_move rfl rfl) (g0 rfl) rfl rfl ?_
      refine k_name 17 rfl ?_
      intro b9 hb10
      have H := bnd_eq H hb10
      refine o_jb 24 [22] [0, 2, 3, 4, 5, 8, 9, 16, 17] H rfl ?_ ?_
      · intro x12 H
        refine o_pu rfl (ev_assign rfl rfl) (g0 rfl) rfl rfl ?_
        refine o_nil ?_
        refine q_then ?_
        refine s_ret ?_
        cases H
        exact q_end (rs_1 Tryd.results65 (rv_tmp rfl)) ⟨rfl, rfl, rfl⟩ [] rfl 0 rfl [] rfl 0 rfl
      · intro J11 H
        cases b9 with
        | true =>
          rw [cond_true] at H
          refine o_gnot rfl rfl rfl rfl rfl rfl rfl rfl ?_
          refine o_gnot rfl rfl rfl rfl rfl rfl rfl rfl ?_
          refine o_gnot rfl rfl rfl rfl rfl rfl rfl rfl ?_
          refine o_gundef rfl rfl rfl rfl rfl rfl rfl ?_
          refine o_gundef rfl rfl rfl rfl rfl rfl rfl ?_
          refine o_gnot rfl rfl rfl rfl rfl rfl rfl rfl ?_
          refine o_pu rfl (ev_pick_t rfl rfl rfl) (g0 rfl) rfl rfl ?_
          exact k_wk (J11 true H) [24, 0, 2, 3, 4, 5, 8, 9, 16, 17] [] 0 [] 0 rfl rfl rfl
        | false =>
          rw [cond_false] at H
          refine o_pu rfl (ev_move rfl rfl) (g1 rfl rfl rfl rfl) rfl rfl ?_
          refine o_pu rfl (ev_bin rfl rfl rfl rfl (geq_r _ 945)) (g1 rfl rfl rfl rfl) rfl rfl ?_
          refine o_pu rfl (ev_move rfl rfl) (g1 rfl rfl rfl rfl) rfl rfl ?_
          refine k_name 20 rfl ?_
          intro b13 hb14
          have H := bnd_eq H hb14
          refine o_jb 23 [21, 22] [0, 2, 3, 4, 5, 8, 9, 16, 17, 18, 19, 20] H rfl ?_ ?_
          · intro x16 H
            refine o_pu rfl (ev_pick_f rfl rfl rfl) (g0 rfl) rfl rfl ?_
            exact k_wk (J11 x16 H) [24, 0, 2, 3, 4, 5, 8, 9, 16, 17] [] 0 [] 0 rfl rfl rfl
          · intro J15 H
            cases b13 with
            | true =>
              rw [cond_true] at H
              refine o_pu rfl (ev_move rfl rfl) (g1 rfl rfl rfl rfl) rfl rfl ?_
              refine o_pu rfl (ev_bin rfl rfl rfl rfl (leq_r _ 969)) (g1 rfl rfl rfl rfl) rfl rfl ?_
              refine o_pu rfl (ev_pick_t rfl rfl rfl) (g1 rfl rfl rfl rfl) rfl rfl ?_
              exact k_wk (J15 (decide (a0_r ≤ 969)) H) [23, 0, 2, 3, 4, 5, 8, 9, 16, 17, 18, 19, 20] [] 0 [] 0 rfl rfl rfl
            | false =>
              rw [cond_false] at H
              refine o_gnot rfl rfl rfl rfl rfl rfl rfl rfl ?_
              refine o_gnot rfl rfl rfl rfl rfl rfl rfl rfl ?_
              refine o_pu rfl (ev_pick_f rfl rfl rfl) (g1 rfl rfl rfl rfl) rfl rfl ?_
              exact k_wk (J15 false H) [23, 0, 2, 3, 4, 5, 8, 9, 16, 17, 18, 19, 20] [] 0 [] 0 rfl rfl rfl
    · intro J7 H
      cases b5 with
      | true =>
        rw [cond_true] at H
        refine o_gnot rfl rfl rfl rfl rfl rfl rfl rfl ?_
        refine o_gnot rfl rfl rfl rfl rfl rfl rfl rfl ?_
        refine o_gnot rfl rfl rfl rfl rfl rfl rfl rfl ?_
        refine o_gundef rfl rfl rfl rfl rfl rfl rfl ?_
        refine o_gundef rfl rfl rfl rfl rfl rfl rfl ?_
        refine o_gnot rfl rfl rfl rfl rfl rfl rfl rfl ?_
        refine o_pu rfl (ev_pick_t rfl rfl rfl) (g0 rfl) rfl rfl ?_
        exact k_wk (J7 true H) [16, 0, 2, 3, 4, 5, 8, 9] [] 0 [] 0 rfl rfl rfl
      | false =>
        rw [cond_false] at H
        refine o_pu rfl (ev_move rfl rfl) (g1 rfl rfl rfl rfl) rfl rfl ?_
        refine o_pu rfl (ev_bin rfl rfl rfl rfl (geq_r _ 48)) (g1 rfl rfl rfl rfl) rfl rfl ?_
        refine o_pu rfl (ev_move rfl rfl) (g1 rfl rfl rfl rfl) rfl rfl ?_
        refine k_name 12 rfl ?_
        intro b17 hb18
        have H := bnd_eq H hb18
        refine o_jb 15 [13, 14, 15, 16, 17, 18, 19, 20, 21, 22] [0, 2, 3, 4, 5, 8, 9, 10, 11, 12] H rfl ?_ ?_
        · intro x20 H
          refine o_pu rfl (ev_pick_f rfl rfl rfl) (g0 rfl) rfl rfl ?_
          exact k_wk (J7 x20 H) [16, 0, 2, 3, 4, 5, 8, 9] [] 0 [] 0 rfl rfl rfl
        · intro J19 H
          cases b17 with
          | true =>
            rw [cond_true] at H
            refine o_pu rfl (ev_move rfl rfl) (g1 rfl rfl rfl rfl) rfl rfl ?_
            refine o_pu rfl (ev_bin rfl rfl rfl rfl (leq_r _ 57)) (g1 rfl rfl rfl rfl) rfl rfl ?_
            refine o_pu rfl (ev_pick_t rfl rfl rfl) (g1 rfl rfl rfl rfl) rfl rfl ?_
            exact k_wk (J19 (decide (a0_r ≤ 57)) H) [15, 0, 2, 3, 4, 5, 8, 9, 10, 11, 12] [] 0 [] 0 rfl rfl rfl
          | false =>
            rw [cond_false] at H
            refine o_gnot rfl rfl rfl rfl rfl rfl rfl rfl ?_
            refine o_gnot rfl rfl rfl rfl rfl rfl rfl rfl ?_
            refine o_pu rfl (ev_pick_f rfl rfl rfl) (g1 rfl rfl rfl rfl) rfl rfl ?_
            exact k_wk (J19 false H) [15, 0, 2, 3, 4, 5, 8, 9, 10, 11, 12] [] 0 [] 0 rfl rfl rfl
  · intro J3 H
    cases b1 with
    | true =>
      rw [cond_true] at H
      refine o_pu rfl (ev_move rfl rfl) (g1 rfl rfl rfl rfl) rfl rfl ?_
      refine o_pu rfl (ev_bin rfl rfl rfl rfl (leq_r _ 122)) (g1 rfl rfl rfl rfl) rfl rfl ?_
      refine o_pu rfl (ev_pick_t rfl rfl rfl) (g0 rfl) rfl rfl ?_
      exact k_wk (J3 (decide (a0_r ≤ 122)) H) [8, 0, 2, 3, 4, 5] [] 0 [] 0 rfl rfl rfl
    | false =>
      rw [cond_false] at H
      refine o_gnot rfl rfl rfl rfl rfl rfl rfl rfl ?_
      refine o_gnot rfl rfl rfl rfl rfl rfl rfl rfl ?_
      refine o_pu rfl (ev_pick_f rfl rfl rfl) (g0 rfl) rfl rfl ?_
      exact k_wk (J3 false H) [8, 0, 2, 3, 4, 5] [] 0 [] 0 rfl rfl rfl

def sha_first : Option (Arr UInt32 8) :=
some (⟨[(1779033703 : UInt32), (3144134277 : UInt32), (1013904242 : UInt32), (2773480762 : UInt32), (1359893119 : UInt32), (2600822924 : UInt32), (528734635 : UInt32), (1541459225 : UInt32)], rfl⟩ : Arr UInt32 8)

theorem c_sha_first (r : (Arr UInt32 8)) (H : sha_first  = some r) : Fn Tryd.prog 81 [] [] [] (fun v D' G' => v = (.agg (r.l.flatMap E32).toArray) ∧ D' = [] ∧ G' = []) := by
  unfold sha_first at H
  refine fn_of Tryd.func81 rfl Tryd.ntmps81 rfl ?_
  intro w0 D0 G0
  dsimp only [List.cons_append, List.nil_append, initEnv, Nat.zero_add, Nat.reduceAdd]
  refine s_seq ?_
  refine s_reg [0] rfl ?_
  refine oc (k_alloc rfl rfl Tryd.zeroValue144 (cs := (Arr.zero 0 8 : Arr UInt32 8).l.flatMap E32) rfl (g0 rfl) rfl rfl ?_)
  intro b1
  refine o_nil ?_
  refine q_then ?_
  refine s_seq ?_
  refine s_reg [0, 1] rfl ?_
  refine o_pu rfl (ev_build_arr (f := E32) (a := (⟨[(1779033703 : UInt32), (3144134277 : UInt32), (1013904242 : UInt32), (2773480762 : UInt32), (1359893119 : UInt32), (2600822924 : UInt32), (528734635 : UInt32), (1541459225 : UInt32)], rfl⟩ : Arr UInt32 8)) rfl rfl Tryd.zeroValue144 Tryd.runUnderlying144 Tryd.sizeOf143 (fill_all rfl rfl rfl rfl rfl)) (g0 rfl) rfl rfl ?_
  refine oc (k_st (j := 0) rfl rfl rfl rfl (vs := (⟨[(1779033703 : UInt32), (3144134277 : UInt32), (1013904242 : UInt32), (2773480762 : UInt32), (1359893119 : UInt32), (2600822924 : UInt32), (528734635 : UInt32), (1541459225 : UInt32)], rfl⟩ : Arr UInt32 8).l.flatMap E32) rfl (sz (arr_len E32_len _ rfl) Tryd.sizeOf144) (arr_sc E32_one _) 0 rfl (spl_all ((arr_len E32_len _ rfl).trans (arr_len E32_len _ rfl).symm)) rfl (g0 rfl) rfl ?_)
  refine o_nil ?_
  refine q_then ?_
  refine s_ret ?_
  cases H
  exact q_end (rs_1 Tryd.results81 (rv_cell (j := 0) rfl (hG 0 rfl) Tryd.isAgg144 (sz (arr_len E32_len _ rfl) Tryd.sizeOf144) (sub_all _) rfl)) ⟨rfl, rfl, rfl⟩ [] rfl 0 rfl [] rfl 1 rfl

def slices_Concat_l0 (a0_slices : List (List UInt8)) (J10 : (List UInt8) → Option (List UInt8)) : Nat → (List UInt8 × Int) → Option (List UInt8)
  | 0, _ => none
  | k13 + 1, s13 =>
    bif (decide (s13.2 < (a0_slices.length : Int))) then (
    chk (0 ≤ s13.2 ∧ s13.2 < a0_slices.length) <|
    chk (s13.1.length + (at' [] a0_slices s13.2).length ≤ 68719476736) <|
    slices_Concat_l0 a0_slices J10 k13 ((s13.1 ++ (at' [] a0_slices s13.2)), (wrap64 (s13.2 + 1)))) else (
    J10 s13.1)

def slices_Concat_l1 (a0_slices : List (List UInt8)) (J3 : Int → Option (List UInt8)) : Nat → (Int × Int) → Option (List UInt8)
  | 0, _ => none
  | k23 + 1, s23 =>
    bif (decide (s23.2 < (a0_slices.length : Int))) then (
    chk (0 ≤ s23.2 ∧ s23.2 < a0_slices.length) <|
    bif (decide ((wrap64 (s23.1 + ((at' [] a0_slices s23.2).length : Int))) < 0)) then (
    none) else (
    slices_Concat_l1 a0_slices J3 k23 ((wrap64 (s23.1 + ((at' [] a0_slices s23.2).length : Int))), (wrap64 (s23.2 + 1))))) else (
    J3 s23.1)

def slices_Concat (a0_slices : List (List UInt8)) : Option (List UInt8) :=
jn (fun (x4 : Int) =>
(slices_Grow x4).bind fun r6 =>
jn (fun (x11 : List UInt8) =>
some x11) fun J10 =>
slices_Concat_l0 a0_slices J10 Fuel (r6, 0)) fun J3 =>
slices_Concat_l1 a0_slices J3 Fuel (0, 0)

theorem c_slices_Concat (a0_slices : List (List UInt8)) (A1 : Option Addr) (c2 : Nat) (r : (List UInt8)) (H : slices_Concat a0_slices = some r) : Fn Tryd.prog 82 [(.slice A1 a0_slices.length c2)] [Sls A1 c2 a0_slices] [] (fun v D' G' => ∃ (A32 : Option Addr) (c33 : Nat), v = (.slice A32 r.length c33) ∧ D' = [Sl E8 A32 c33 r] ∧ G' = [Spare A32 r.length c33 1]) := by
  unfold slices_Concat at H
  refine fn_of Tryd.func82 rfl Tryd.ntmps82 rfl ?_
  intro w0 D0 G0
  dsimp only [List.cons_append, List.nil_append, initEnv, Nat.zero_add, Nat.reduceAdd]
  refine s_seq ?_
  refine s_reg [0] rfl ?_
  refine o_pu rfl (ev_assign rfl rfl) (g0 rfl) rfl rfl ?_
  refine o_nil ?_
  refine q_then ?_
  refine s_seq ?_
  refine s_reg [0] rfl ?_
  refine o_pu rfl (ev_assign rfl rfl) (g0 rfl) rfl rfl ?_
  refine o_nil ?_
  refine q_then ?_
  refine s_seq ?_
  refine s_seq ?_
  refine s_reg [0, 1, 2] rfl ?_
  refine o_pu rfl (ev_move rfl rfl) (g0 rfl) rfl rfl ?_
  refine o_pu rfl (ev_len_slice rfl rfl Tryd.runUnderlying171) (g0 rfl) rfl rfl ?_
  refine o_pu rfl (ev_move rfl rfl) (g0 rfl) rfl rfl ?_
  refine o_nil ?_
  refine q_then ?_
  refine q_join (fun (x4 : Int) (y5 : Unit) => ⟨Sls A1 c2 a0_slices :: D0, G0, [(0, (.slice A1 a0_slices.length c2)), (3, (vi x4))]⟩) H ?_ ?_
  · intro x4 y5 H
    dsimp only
    refine q_then ?_
    refine s_seq ?_
    refine s_reg [0, 1, 2] rfl ?_
    refine o_pu rfl (ev_move rfl rfl) (g0 rfl) rfl rfl ?_
    obtain ⟨r6, Hc7, H⟩ := bind_some' H
    refine oc (k_call (c_slices_Grow x4 r6 Hc7) Tryd.call110 rfl rfl rfl [] [] rfl rfl (g0 rfl) rfl rfl ?_)
    rintro _ _ _ ⟨A8, c9, rfl, rfl, rfl⟩
    dsimp only [List.cons_append, List.nil_append]
    refine o_pu rfl (ev_assign rfl rfl) (g0 rfl) rfl rfl ?_
    refine o_nil ?_
    refine q_then ?_
    refine s_seq ?_
    refine s_seq ?_
    refine s_reg [0, 1, 2] rfl ?_
    refine o_pu rfl (ev_move rfl rfl) (g0 rfl) rfl rfl ?_
    refine o_pu rfl (ev_len_slice rfl rfl Tryd.runUnderlying171) (g0 rfl) rfl rfl ?_
    refine o_pu rfl (ev_move rfl rfl) (g0 rfl) rfl rfl ?_
    refine o_nil ?_
    refine q_then ?_
    refine q_join (fun (x11 : List UInt8) (y12 : Option Addr × Nat) => ⟨Sl E8 y12.1 y12.2 x11 :: Sl E8 A8 c9 r6 :: Sls A1 c2 a0_slices :: D0, Spare y12.1 x11.length y12.2 1 :: G0, [(6, (.slice y12.1 x11.length y12.2))]⟩) H ?_ ?_
    · intro x11 y12 H
      dsimp only
      refine q_then ?_
      refine s_seq ?_
      refine s_reg [0, 1] rfl ?_
      refine o_pu rfl (ev_move rfl rfl) (g0 rfl) rfl rfl ?_
      refine o_pu rfl (ev_assign rfl rfl) (g0 rfl) rfl rfl ?_
      refine o_nil ?_
      refine q_then ?_
      refine s_ret ?_
      cases H
      exact q_end (rs_1 Tryd.results82 (rv_tmp rfl)) ⟨y12.1, y12.2, rfl, rfl, rfl⟩ [0] rfl 3 rfl [0] rfl 0 rfl
    · intro J10 H
      refine s_block ?_
      refine s_loop (k_wk (loop_ind (fun (s13 : List UInt8 × Int) (y13 : Option Addr × Nat) => ⟨Sl E8 y13.1 y13.2 s13.1 :: Sl E8 A8 c9 r6 :: Sls A1 c2 a0_slices :: D0, Spare y13.1 s13.1.length y13.2 1 :: G0, [(6, (.slice y13.1 s13.1.length y13.2)), (25, (.slice A1 a0_slices.length c2)), (26, (vi (a0_slices.length : Int))), (27, (vi s13.2))]⟩) (slices_Concat_l0 a0_slices _) _ (fun _ => rfl) ?_ Fuel (r6, 0) (A8, c9) H) [6, 25, 26, 27] [0, 0, 1] 2 [0] 0 rfl rfl rfl)
      intro k13 s13 y13 ih H
      dsimp only
      rw [slices_Concat_l0] at H
      refine s_seq ?_
      refine s_reg [0] rfl ?_
      refine o_pu rfl (ev_bin rfl rfl rfl rfl (lss_i _ _)) (g0 rfl) rfl rfl ?_
      refine o_nil ?_
      refine q_then ?_
      refine s_seq ?_
      refine s_cond rfl ?_ ?_
      · intro hb14
        have H := cnd_t H hb14
        refine s_skip ?_
        refine q_then ?_
        refine s_seq ?_
        refine s_block ?_
        refine s_seq ?_
        refine s_reg [0, 1, 2] rfl ?_
        obtain ⟨hk19, H⟩ := chk_some H
        refine oc (k_idx_sls 2 rfl rfl rfl rfl rfl Tryd.runUnderlying171 Tryd.sizeOf22 hk19 (g0 rfl) rfl rfl ?_)
        intro b15 q16 A17 c18
        refine o_ld (hD 1 rfl) rfl (ev_ld1 (j := 0) rfl rfl Tryd.isAgg22 (sub_nth (j := 0) rfl) rfl) (g0 rfl) rfl rfl ?_
        refine o_pu rfl (ev_assign rfl rfl) (g0 rfl) rfl rfl ?_
        refine o_nil ?_
        refine q_then ?_
        refine s_reg [0, 1, 2, 3] rfl ?_
        refine o_pu rfl (ev_move rfl rfl) (g0 rfl) rfl rfl ?_
        refine o_pu rfl (ev_move rfl rfl) (g0 rfl) rfl rfl ?_
        obtain ⟨hk22, H⟩ := chk_some H
        refine oc (k_append 2 0 0 rfl rfl rfl rfl rfl rfl rfl E8_len E8_one Tryd.underlying22 Tryd.underlying22 info5 rfl rfl rfl rfl hk22 (g0 rfl) rfl rfl ?_)
        intro A20 c21
        refine o_pu rfl (ev_assign rfl rfl) (g0 rfl) rfl rfl ?_
        refine o_nil ?_
        refine q_block ?_
        refine q_then ?_
        refine s_reg [0, 1] rfl ?_
        refine o_pu rfl (ev_bin rfl rfl rfl rfl (add_i _ 1)) (g0 rfl) rfl rfl ?_
        refine o_pu rfl (ev_move rfl rfl) (g0 rfl) rfl rfl ?_
        refine o_nil ?_
        refine q_loop ?_
        exact k_wk (ih ((s13.1 ++ (at' [] a0_slices s13.2)), (wrap64 (s13.2 + 1))) (A20, c21) H) [6, 25, 26, 27] [0, 4, 5] 6 [0] 0 rfl rfl rfl
      · intro hb14
        have H := cnd_f H hb14
        refine s_exit ?_
        refine q_then_x ?_
        refine q_then_x ?_
        refine q_block_x ?_
        exact k_wk (J10 s13.1 (y13.1, y13.2) H) [6] [0, 1, 2] 3 [0] 0 rfl rfl rfl
  · intro J3 H
    refine s_block ?_
    refine s_loop (k_wk (loop_ind (fun (s23 : Int × Int) (y23 : Unit) => ⟨Sls A1 c2 a0_slices :: D0, G0, [(0, (.slice A1 a0_slices.length c2)), (3, (vi s23.1)), (9, (.slice A1 a0_slices.length c2)), (10, (vi (a0_slices.length : Int))), (11, (vi s23.2))]⟩) (slices_Concat_l1 a0_slices _) _ (fun _ => rfl) ?_ Fuel (0, 0) () H) [0, 3, 9, 10, 11] [0] 1 [] 0 rfl rfl rfl)
    intro k23 s23 y23 ih H
    dsimp only
    rw [slices_Concat_l1] at H
    refine s_seq ?_
    refine s_reg [0] rfl ?_
    refine o_pu rfl (ev_bin rfl rfl rfl rfl (lss_i _ _)) (g0 rfl) rfl rfl ?_
    refine o_nil ?_
    refine q_then ?_
    refine s_seq ?_
    refine s_cond rfl ?_ ?_
    · intro hb24
      have H := cnd_t H hb24
      refine s_skip ?_
      refine q_then ?_
      refine s_seq ?_
      refine s_block ?_
      refine s_seq ?_
      refine s_reg [0, 1, 2] rfl ?_
      obtain ⟨hk29, H⟩ := chk_some H
      refine oc (k_idx_sls 0 rfl rfl rfl rfl rfl Tryd.runUnderlying171 Tryd.sizeOf22 hk29 (g0 rfl) rfl rfl ?_)
      intro b25 q26 A27 c28
      refine o_ld (hD 1 rfl) rfl (ev_ld1 (j := 0) rfl rfl Tryd.isAgg22 (sub_nth (j := 0) rfl) rfl) (g0 rfl) rfl rfl ?_
      refine o_pu rfl (ev_assign rfl rfl) (g0 rfl) rfl rfl ?_
      refine o_nil ?_
      refine q_then ?_
      refine s_seq ?_
      refine s_reg [0, 1, 2, 3, 4] rfl ?_
      refine o_pu rfl (ev_move rfl rfl) (g0 rfl) rfl rfl ?_
      refine o_pu rfl (ev_move rfl rfl) (g0 rfl) rfl rfl ?_
      refine o_pu rfl (ev_len_slice rfl rfl Tryd.runUnderlying22) (g0 rfl) rfl rfl ?_
      refine o_pu rfl (ev_bin rfl rfl rfl rfl (add_i _ _)) (g0 rfl) rfl rfl ?_
      refine o_pu rfl (ev_assign rfl rfl) (g0 rfl) rfl rfl ?_
      refine o_nil ?_
      refine q_then ?_
      refine s_seq ?_
      refine s_reg [0, 1] rfl ?_
      refine o_pu rfl (ev_move rfl rfl) (g0 rfl) rfl rfl ?_
      refine o_pu rfl (ev_bin rfl rfl rfl rfl (lss_i _ 0)) (g0 rfl) rfl rfl ?_
      refine o_nil ?_
      refine q_then ?_
      refine s_cond rfl ?_ ?_
      · intro hb31
        have H := cnd_t H hb31
        refine s_reg [0, 1] rfl ?_
        cases H
      · intro hb31
        have H := cnd_f H hb31
        refine s_skip ?_
        refine q_block ?_
        refine q_then ?_
        refine s_reg [0, 1] rfl ?_
        refine o_pu rfl (ev_bin rfl rfl rfl rfl (add_i _ 1)) (g0 rfl) rfl rfl ?_
        refine o_pu rfl (ev_move rfl rfl) (g0 rfl) rfl rfl ?_
        refine o_nil ?_
        refine q_loop ?_
        exact k_wk (ih ((wrap64 (s23.1 + ((at' [] a0_slices s23.2).length : Int))), (wrap64 (s23.2 + 1))) () H) [0, 3, 9, 10, 11] [2] 3 [] 0 rfl rfl rfl
    · intro hb24
      have H := cnd_f H hb24
      refine s_exit ?_
      refine q_then_x ?_
      refine q_then_x ?_
      refine q_block_x ?_
      exact k_wk (J3 s23.1 () H) [0, 3] [0] 1 [] 0 rfl rfl rfl

def sha_constants : Option (Arr UInt32 64) :=
some (⟨[(1116352408 : UInt32), (1899447441 : UInt32), (3049323471 : UInt32), (3921009573 : UInt32), (961987163 : UInt32), (1508970993 : UInt32), (2453635748 : UInt32), (2870763221 : UInt32), (3624381080 : UInt32), (310598401 : UInt32), (607225278 : UInt32), (1426881987 : UInt32), (1925078388 : UInt32), (2162078206 : UInt32), (2614888103 : UInt32), (3248222580 : UInt32), (3835390401 : UInt32), (4022224774 : UInt32), (264347078 : UInt32), (604807628 : UInt32), (770255983 : UInt32), (1249150122 : UInt32), (1555081692 : UInt32), (1996064986 : UInt32), (2554220882 : UInt32), (2821834349 : UInt32), (2952996808 : UInt32), (3210313671 : UInt32), (3336571891 : UInt32), (3584528711 : UInt32), (113926993 : UInt32), (338241895 : UInt32), (666307205 : UInt32), (773529912 : UInt32), (1294757372 : UInt32), (1396182291 : UInt32), (1695183700 : UInt32), (1986661051 : UInt32), (2177026350 : UInt32), (2456956037 : UInt32), (2730485921 : UInt32), (2820302411 : UInt32), (3259730800 : UInt32), (3345764771 : UInt32), (3516065817 : UInt32), (3600352804 : UInt32), (4094571909 : UInt32), (275423344 : UInt32), (430227734 : UInt32), (506948616 : UInt32), (659060556 : UInt32), (883997877 : UInt32), (958139571 : UInt32), (1322822218 : UInt32), (1537002063 : UInt32), (1747873779 : UInt32), (1955562222 : UInt32), (2024104815 : UInt32), (2227730452 : UInt32), (2361852424 : UInt32), (2428436474 : UInt32), (2756734187 : UInt32), (3204031479 : UInt32), (3329325298 : UInt32)], rfl⟩ : Arr UInt32 64)

theorem c_sha_constants (r : (Arr UInt32 64)) (H : sha_constants  = some r) : Fn Tryd.prog 112 [] [] [] (fun v D' G' => v = (.agg (r.l.flatMap E32).toArray) ∧ D' = [] ∧ G' = []) := by
  unfold sha_constants at H
  refine fn_of Tryd.func112 rfl Tryd.ntmps112 rfl ?_
  intro w0 D0 G0
  dsimp only [List.cons_append, List.nil_append, initEnv, Nat.zero_add, Nat.reduceAdd]
  refine s_seq ?_
  refine s_reg [0] rfl ?_
  refine oc (k_alloc rfl rfl Tryd.zeroValue172 (cs := (Arr.zero 0 64 : Arr UInt32 64).l.flatMap E32) rfl (g0 rfl) rfl rfl ?_)
  intro b1
  refine o_nil ?_
  refine q_then ?_
  refine s_seq ?_
  refine s_reg [0, 1] rfl ?_
  refine o_pu rfl (ev_build_arr (f := E32) (a := (⟨[(1116352408 : UInt32), (1899447441 : UInt32), (3049323471 : UInt32), (3921009573 : UInt32), (961987163 : UInt32), (1508970993 : UInt32), (2453635748 : UInt32), (2870763221 : UInt32), (3624381080 : UInt32), (310598401 : UInt32), (607225278 : UInt32), (1426881987 : UInt32), (1925078388 : UInt32), (2162078206 : UInt32), (2614888103 : UInt32), (3248222580 : UInt32), (3835390401 : UInt32), (4022224774 : UInt32), (264347078 : UInt32), (604807628 : UInt32), (770255983 : UInt32), (1249150122 : UInt32), (1555081692 : UInt32), (1996064986 : UInt32), (2554220882 : UInt32), (2821834349 : UInt32), (2952996808 : UInt32), (3210313671 : UInt32), (3336571891 : UInt32), (3584528711 : UInt32), (113926993 : UInt32), (338241895 : UInt32), (666307205 : UInt32), (773529912 : UInt32), (1294757372 : UInt32), (1396182291 : UInt32), (1695183700 : UInt32), (1986661051 : UInt32), (2177026350 : UInt32), (2456956037 : UInt32), (2730485921 : UInt32), (2820302411 : UInt32), (3259730800 : UInt32), (3345764771 : UInt32), (3516065817 : UInt32), (3600352804 : UInt32), (4094571909 : UInt32), (275423344 : UInt32), (430227734 : UInt32), (506948616 : UInt32), (659060556 : UInt32), (883997877 : UInt32), (958139571 : UInt32), (1322822218 : UInt32), (1537002063 : UInt32), (1747873779 : UInt32), (1955562222 : UInt32), (2024104815 : UInt32), (2227730452 : UInt32), (2361852424 : UInt32), (2428436474 : UInt32), (2756734187 : UInt32), (3204031479 : UInt32), (3329325298 : UInt32)], rfl⟩ : Arr UInt32 64)) rfl rfl Tryd.zeroValue172 Tryd.runUnderlying172 Tryd.sizeOf143 (fill_all rfl rfl rfl rfl rfl)) (g0 rfl) rfl rfl ?_
  refine oc (k_st (j := 0) rfl rfl rfl rfl (vs := (⟨[(1116352408 : UInt32), (1899447441 : UInt32), (3049323471 : UInt32), (3921009573 : UInt32), (961987163 : UInt32), (1508970993 : UInt32), (2453635748 : UInt32), (2870763221 : UInt32), (3624381080 : UInt32), (310598401 : UInt32), (607225278 : UInt32), (1426881987 : UInt32), (1925078388 : UInt32), (2162078206 : UInt32), (2614888103 : UInt32), (3248222580 : UInt32), (3835390401 : UInt32), (4022224774 : UInt32), (264347078 : UInt32), (604807628 : UInt32), (770255983 : UInt32), (1249150122 : UInt32), (1555081692 : UInt32), (1996064986 : UInt32), (2554220882 : UInt32), (2821834349 : UInt32), (2952996808 : UInt32), (3210313671 : UInt32), (3336571891 : UInt32), (3584528711 : UInt32), (113926993 : UInt32), (338241895 : UInt32), (666307205 : UInt32), (773529912 : UInt32), (1294757372 : UInt32), (1396182291 : UInt32), (1695183700 : UInt32), (1986661051 : UInt32), (2177026350 : UInt32), (2456956037 : UInt32), (2730485921 : UInt32), (2820302411 : UInt32), (3259730800 : UInt32), (3345764771 : UInt32), (3516065817 : UInt32), (3600352804 : UInt32), (4094571909 : UInt32), (275423344 : UInt32), (430227734 : UInt32), (506948616 : UInt32), (659060556 : UInt32), (883997877 : UInt32), (958139571 : UInt32), (1322822218 : UInt32), (1537002063 : UInt32), (1747873779 : UInt32), (1955562222 : UInt32), (2024104815 : UInt32), (2227730452 : UInt32), (2361852424 : UInt32), (2428436474 : UInt32), (2756734187 : UInt32), (3204031479 : UInt32), (3329325298 : UInt32)], rfl⟩ : Arr UInt32 64).l.flatMap E32) rfl (sz (arr_len E32_len _ rfl) Tryd.sizeOf172) (arr_sc E32_one _) 0 rfl (spl_all ((arr_len E32_len _ rfl).trans (arr_len E32_len _ rfl).symm)) rfl (g0 rfl) rfl ?_)
  refine o_nil ?_
  refine q_then ?_
  refine s_ret ?_
  cases H
  exact q_end (rs_1 Tryd.results112 (rv_cell (j := 0) rfl (hG 0 rfl) Tryd.isAgg172 (sz (arr_len E32_len _ rfl) Tryd.sizeOf172) (sub_all _) rfl)) ⟨rfl, rfl, rfl⟩ [] rfl 0 rfl [] rfl 1 rfl

def turn_Bytes (a0_x : UInt32) : Option (List UInt8) :=
some ([(shr32 (a0_x : UInt32) (24 : UInt64).toNat).toUInt8, (shr32 (a0_x : UInt32) (16 : UInt64).toNat).toUInt8, (shr32 (a0_x : UInt32) (8 : UInt64).toNat).toUInt8, a0_x.toUInt8] : List UInt8)

theorem c_turn_Bytes (a0_x : UInt32) (r : (List UInt8)) (H : turn_Bytes a0_x = some r) : Fn Tryd.prog 114 [(v32 a0_x)] [] [] (fun v D' G' => ∃ (A2 : Option Addr) (c3 : Nat), v = (.slice A2 r.length c3) ∧ D' = [Sl E8 A2 c3 r] ∧ G' = []) := by
  unfold turn_Bytes at H
  refine fn_of Tryd.func114 rfl Tryd.ntmps114 rfl ?_
  intro w0 D0 G0
  dsimp only [List.cons_append, List.nil_append, initEnv, Nat.zero_add, Nat.reduceAdd]
  refine s_seq ?_
  refine s_reg [0] rfl ?_
  refine o_pu rfl (ev_assign rfl rfl) (g0 rfl) rfl rfl ?_
  refine o_nil ?_
  refine q_then ?_
  refine s_seq ?_
  refine s_reg [0, 1, 2, 3, 4, 5, 6, 7, 8, 9, 10, 11, 12] rfl ?_
  refine o_pu rfl (ev_move rfl rfl) (g0 rfl) rfl rfl ?_
  refine o_pu rfl (ev_bin rfl rfl rfl rfl (shr_32 _ 24)) (g0 rfl) rfl rfl ?_
  refine o_pu rfl (ev_conv rfl rfl (conv_u32_u8 _ Tryd.runUnderlying143 Tryd.runUnderlying5)) (g0 rfl) rfl rfl ?_
  refine o_pu rfl (ev_move rfl rfl) (g0 rfl) rfl rfl ?_
  refine o_pu rfl (ev_bin rfl rfl rfl rfl (shr_32 _ 16)) (g0 rfl) rfl rfl ?_
  refine o_pu rfl (ev_conv rfl rfl (conv_u32_u8 _ Tryd.runUnderlying143 Tryd.runUnderlying5)) (g0 rfl) rfl rfl ?_
  refine o_pu rfl (ev_move rfl rfl) (g0 rfl) rfl rfl ?_
  refine o_pu rfl (ev_bin rfl rfl rfl rfl (shr_32 _ 8)) (g0 rfl) rfl rfl ?_
  refine o_pu rfl (ev_conv rfl rfl (conv_u32_u8 _ Tryd.runUnderlying143 Tryd.runUnderlying5)) (g0 rfl) rfl rfl ?_
  refine o_pu rfl (ev_move rfl rfl) (g0 rfl) rfl rfl ?_
  refine o_pu rfl (ev_conv rfl rfl (conv_u32_u8 _ Tryd.runUnderlying143 Tryd.runUnderlying5)) (g0 rfl) rfl rfl ?_
  refine oc (k_buildSlice (f := E8) ([(shr32 (a0_x : UInt32) (24 : UInt64).toNat).toUInt8, (shr32 (a0_x : UInt32) (16 : UInt64).toNat).toUInt8, (shr32 (a0_x : UInt32) (8 : UInt64).toNat).toUInt8, a0_x.toUInt8] : List UInt8) rfl rfl rfl rfl Tryd.runUnderlying22 Tryd.sizeOf5 Tryd.zeroValue5 rfl rfl (fill_all rfl rfl (by simp) rfl rfl) (g0 rfl) rfl rfl ?_)
  intro b1
  refine o_pu rfl (ev_assign rfl rfl) (g0 rfl) rfl rfl ?_
  refine o_nil ?_
  refine q_then ?_
  refine s_ret ?_
  cases H
  exact q_end (rs_1 Tryd.results114 (rv_tmp rfl)) ⟨(some ⟨b1, 0, none⟩), 4, rfl, rfl, rfl⟩ [0] rfl 1 rfl [] rfl 0 rfl

def unicode_utf8_RuneStart (a0_b : UInt8) : Option Bool :=
some (((a0_b &&& (192 : UInt8)) : UInt8) != (128 : UInt8))

theorem c_unicode_utf8_RuneStart (a0_b : UInt8) (r : Bool) (H : unicode_utf8_RuneStart a0_b = some r) : Fn Tryd.prog 115 [(v8 a0_b)] [] [] (fun v D' G' => v = (vb r) ∧ D' = [] ∧ G' = []) := by
  unfold unicode_utf8_RuneStart at H
  refine fn_of Tryd.func115 rfl Tryd.ntmps115 rfl ?_
  intro w0 D0 G0
  dsimp only [List.cons_append, List.nil_append, initEnv, Nat.zero_add, Nat.reduceAdd]
  refine s_seq ?_
  refine s_reg [0] rfl ?_
  refine o_pu rfl (ev_assign rfl rfl) (g0 rfl) rfl rfl ?_
  refine o_nil ?_
  refine q_then ?_
  refine s_seq ?_
  refine s_reg [0, 1, 2, 3] rfl ?_
  refine o_pu rfl (ev_move rfl rfl) (g0 rfl) rfl rfl ?_
  refine o_pu rfl (ev_bin rfl rfl rfl rfl (and_8 _ 192)) (g0 rfl) rfl rfl ?_
  refine o_pu rfl (ev_bin rfl rfl rfl rfl (neq_8 _ 128)) (g0 rfl) rfl rfl ?_
  refine o_pu rfl (ev_assign rfl rfl) (g0 rfl) rfl rfl ?_
  refine o_nil ?_
  refine q_then ?_
  refine s_ret ?_
  cases H
  exact q_end (rs_1 Tryd.results115 (rv_tmp rfl)) ⟨rfl, rfl, rfl⟩ [] rfl 0 rfl [] rfl 0 rfl

def internal_bytealg_Cutover (a0_n : Int) : Option Int :=
some (wrap64 ((wrap64 (a0_n + 16)).tdiv 8))

theorem c_internal_bytealg_Cutover (a0_n : Int) (r : Int) (H : internal_bytealg_Cutover a0_n = some r) : Fn Tryd.prog 119 [(vi a0_n)] [] [] (fun v D' G' => v = (vi r) ∧ D' = [] ∧ G' = []) := by
  unfold internal_bytealg_Cutover at H
  refine fn_of Tryd.func119 rfl Tryd.ntmps119 rfl ?_
  intro w0 D0 G0
  dsimp only [List.cons_append, List.nil_append, initEnv, Nat.zero_add, Nat.reduceAdd]
  refine s_seq ?_
  refine s_reg [0] rfl ?_
  refine o_pu rfl (ev_assign rfl rfl) (g0 rfl) rfl rfl ?_
  refine o_nil ?_
  refine q_then ?_
  refine s_seq ?_
  refine s_reg [0, 1, 2, 3] rfl ?_
  refine o_pu rfl (ev_move rfl rfl) (g0 rfl) rfl rfl ?_
  refine o_pu rfl (ev_bin rfl rfl rfl rfl (add_i _ 16)) (g0 rfl) rfl rfl ?_
  refine o_pu rfl (ev_bin rfl rfl rfl rfl (quo_i _ 8 rfl)) (g0 rfl) rfl rfl ?_
  refine o_pu rfl (ev_assign rfl rfl) (g0 rfl) rfl rfl ?_
  refine o_nil ?_
  refine q_then ?_
  refine s_ret ?_
  cases H
  exact q_end (rs_1 Tryd.results119 (rv_tmp rfl)) ⟨rfl, rfl, rfl⟩ [] rfl 0 rfl [] rfl 0 rfl

def unicode_utf8_ValidRune (a0_r : Int) : Option Bool :=
bnd (decide (0 ≤ a0_r)) fun b1 =>
jn (fun x4 =>
bif x4 then (
some true) else (
bnd (decide (57343 < a0_r)) fun b6 =>
jn (fun x9 =>
bif x9 then (
some true) else (
some false)) fun J8 =>
bif b6 then (
J8 (decide (a0_r ≤ 1114111))) else
J8 false)) fun J3 =>
bif b1 then (
J3 (decide (a0_r < 55296))) else
J3 false

theorem c_unicode_utf8_ValidRune (a0_r : Int) (r : Bool) (H : unicode_utf8_ValidRune a0_r = some r) : Fn Tryd.prog 122 [(vr a0_r)] [] [] (fun v D' G' => v = (vb r) ∧ D' = [] ∧ G' = []) := by
  unfold unicode_utf8_ValidRune at H
  refine fn_of Tryd.func122 rfl Tryd.ntmps122 rfl ?_
  intro w0 D0 G0
  dsimp only [List.cons_append, List.nil_append, initEnv, Nat.zero_add, Nat.reduceAdd]
  refine s_seq ?_
  refine s_reg [0] rfl ?_
  refine o_pu rfl (ev_assign rfl rfl) (g0 rfl) rfl rfl ?_
  refine o_nil ?_
  refine q_then ?_
  refine s_seq ?_
  refine s_block ?_
  refine s_seq ?_
  refine s_reg [0, 1, 2, 3, 4, 5, 6] rfl ?_
  refine o_pu rfl (ev_move rfl rfl) (g0 rfl) rfl rfl ?_
  refine o_pu rfl (ev_bin rfl rfl rfl rfl (leq_r 0 _)) (g0 rfl) rfl rfl ?_
  refine o_pu rfl (ev_move rfl rfl) (g0 rfl) rfl rfl ?_
  refine k_name 6 rfl ?_
  intro b1 hb2
  have H := bnd_eq H hb2
  refine o_jb 9 [6] [0, 2, 4, 5, 6] H rfl ?_ ?_
  · intro x4 H
    refine o_pu rfl (ev_assign rfl rfl) (g0 rfl) rfl rfl ?_
    refine o_nil ?_
    refine q_then ?_
    refine s_cond rfl ?_ ?_
    · intro hb5
      have H := cnd_t H hb5
      refine s_seq ?_
      refine s_reg [0] rfl ?_
      refine o_pu rfl (ev_assign rfl rfl) (g0 rfl) rfl rfl ?_
      refine o_nil ?_
      refine q_then ?_
      refine s_ret ?_
      refine q_block_r ?_
      refine q_then_r ?_
      cases H
      exact q_end (rs_1 Tryd.results122 (rv_tmp rfl)) ⟨rfl, rfl, rfl⟩ [] rfl 0 rfl [] rfl 0 rfl
    · intro hb5
      have H := cnd_f H hb5
      refine s_seq ?_
      refine s_reg [0, 1, 2, 3, 4, 5, 6] rfl ?_
      refine o_pu rfl (ev_move rfl rfl) (g0 rfl) rfl rfl ?_
      refine o_pu rfl (ev_bin rfl rfl rfl rfl (lss_r 57343 _)) (g0 rfl) rfl rfl ?_
      refine o_pu rfl (ev_move rfl rfl) (g0 rfl) rfl rfl ?_
      refine k_name 13 rfl ?_
      intro b6 hb7
      have H := bnd_eq H hb7
      refine o_jb 16 [6] [0, 2, 3, 4, 5, 6, 9, 11, 12, 13] H rfl ?_ ?_
      · intro x9 H
        refine o_pu rfl (ev_assign rfl rfl) (g0 rfl) rfl rfl ?_
        refine o_nil ?_
        refine q_then ?_
        refine s_cond rfl ?_ ?_
        · intro hb10
          have H := cnd_t H hb10
          refine s_seq ?_
          refine s_reg [0] rfl ?_
          refine o_pu rfl (ev_assign rfl rfl) (g0 rfl) rfl rfl ?_
          refine o_nil ?_
          refine q_then ?_
          refine s_ret ?_
          refine q_block_r ?_
          refine q_then_r ?_
          cases H
          exact q_end (rs_1 Tryd.results122 (rv_tmp rfl)) ⟨rfl, rfl, rfl⟩ [] rfl 0 rfl [] rfl 0 rfl
        · intro hb10
          have H := cnd_f H hb10
          refine s_skip ?_
          refine q_block ?_
          refine q_then ?_
          refine s_seq ?_
          refine s_reg [0] rfl ?_
          refine o_pu rfl (ev_assign rfl rfl) (g0 rfl) rfl rfl ?_
          refine o_nil ?_
          refine q_then ?_
          refine s_ret ?_
          cases H
          exact q_end (rs_1 Tryd.results122 (rv_tmp rfl)) ⟨rfl, rfl, rfl⟩ [] rfl 0 rfl [] rfl 0 rfl
      · intro J8 H
        cases b6 with
        | true =>
          rw [cond_true] at H
          refine o_pu rfl (ev_move rfl rfl) (g1 rfl rfl rfl rfl) rfl rfl ?_
          refine o_pu rfl (ev_bin rfl rfl rfl rfl (leq_r _ 1114111)) (g1 rfl rfl rfl rfl) rfl rfl ?_
          refine o_pu rfl (ev_pick_t rfl rfl rfl) (g0 rfl) rfl rfl ?_
          exact k_wk (J8 (decide (a0_r ≤ 1114111)) H) [16, 0, 2, 3, 4, 5, 6, 9, 11, 12, 13] [] 0 [] 0 rfl rfl rfl
        | false =>
          rw [cond_false] at H
          refine o_gnot rfl rfl rfl rfl rfl rfl rfl rfl ?_
          refine o_gnot rfl rfl rfl rfl rfl rfl rfl rfl ?_
          refine o_pu rfl (ev_pick_f rfl rfl rfl) (g0 rfl) rfl rfl ?_
          exact k_wk (J8 false H) [16, 0, 2, 3, 4, 5, 6, 9, 11, 12, 13] [] 0 [] 0 rfl rfl rfl
  · intro J3 H
    cases b1 with
    | true =>
      rw [cond_true] at H
      refine o_pu rfl (ev_move rfl rfl) (g1 rfl rfl rfl rfl) rfl rfl ?_
      refine o_pu rfl (ev_bin rfl rfl rfl rfl (lss_r _ 55296)) (g1 rfl rfl rfl rfl) rfl rfl ?_
      refine o_pu rfl (ev_pick_t rfl rfl rfl) (g0 rfl) rfl rfl ?_
      exact k_wk (J3 (decide (a0_r < 55296)) H) [9, 0, 2, 4, 5, 6] [] 0 [] 0 rfl rfl rfl
    | false =>
      rw [cond_false] at H
      refine o_gnot rfl rfl rfl rfl rfl rfl rfl rfl ?_
      refine o_gnot rfl rfl rfl rfl rfl rfl rfl rfl ?_
      refine o_pu rfl (ev_pick_f rfl rfl rfl) (g0 rfl) rfl rfl ?_
      exact k_wk (J3 false H) [9, 0, 2, 4, 5, 6] [] 0 [] 0 rfl rfl rfl

def turn_Big_l0 (a0_b : List UInt8) (J3 : UInt32 → Option UInt32) : Nat → (UInt32 × Int) → Option UInt32
  | 0, _ => none
  | k6 + 1, s6 =>
    bif (decide (s6.2 < 4)) then (
    jn (fun (x10 : UInt32) =>
    turn_Big_l0 a0_b J3 k6 (x10, (wrap64 (s6.2 + 1)))) fun J9 =>
    bif (decide (s6.2 < (a0_b.length : Int))) then (
    chk (0 ≤ s6.2 ∧ s6.2 < a0_b.length) <|
    J9 ((shl32 (s6.1 : UInt32) (8 : UInt64).toNat) ||| (at' 0 a0_b s6.2).toUInt32)) else (
    J9 (shl32 (s6.1 : UInt32) (8 : UInt64).toNat))) else (
    J3 s6.1)

def turn_Big (a0_b : List UInt8) : Option UInt32 :=
jn (fun (x4 : UInt32) =>
some x4) fun J3 =>
turn_Big_l0 a0_b J3 Fuel (0, 0)

theorem c_turn_Big (a0_b : List UInt8) (A1 : Option Addr) (c2 : Nat) (r : UInt32) (H : turn_Big a0_b = some r) : Fn Tryd.prog 134 [(.slice A1 a0_b.length c2)] [Sl E8 A1 c2 a0_b] [] (fun v D' G' => v = (v32 r) ∧ D' = [] ∧ G' = []) := by
  unfold turn_Big at H
  refine fn_of Tryd.func134 rfl Tryd.ntmps134 rfl ?_
  intro w0 D0 G0
  dsimp only [List.cons_append, List.nil_append, initEnv, Nat.zero_add, Nat.reduceAdd]
  refine s_seq ?_
  refine s_reg [0] rfl ?_
  refine o_pu rfl (ev_assign rfl rfl) (g0 rfl) rfl rfl ?_
  refine o_nil ?_
  refine q_then ?_
  refine s_seq ?_
  refine s_reg [0] rfl ?_
  refine o_pu rfl (ev_assign rfl rfl) (g0 rfl) rfl rfl ?_
  refine o_nil ?_
  refine q_then ?_
  refine s_seq ?_
  refine s_seq ?_
  refine s_reg [0] rfl ?_
  refine o_pu rfl (ev_move rfl rfl) (g0 rfl) rfl rfl ?_
  refine o_nil ?_
  refine q_then ?_
  refine q_join (fun (x4 : UInt32) (y5 : Unit) => ⟨Sl E8 A1 c2 a0_b :: D0, G0, [(3, (v32 x4))]⟩) H ?_ ?_
  · intro x4 y5 H
    dsimp only
    refine q_then ?_
    refine s_seq ?_
    refine s_reg [0, 1] rfl ?_
    refine o_pu rfl (ev_move rfl rfl) (g0 rfl) rfl rfl ?_
    refine o_pu rfl (ev_assign rfl rfl) (g0 rfl) rfl rfl ?_
    refine o_nil ?_
    refine q_then ?_
    refine s_ret ?_
    cases H
    exact q_end (rs_1 Tryd.results134 (rv_tmp rfl)) ⟨rfl, rfl, rfl⟩ [] rfl 1 rfl [] rfl 0 rfl
  · intro J3 H
    refine s_block ?_
    refine s_loop (k_wk (loop_ind (fun (s6 : UInt32 × Int) (y6 : Unit) => ⟨Sl E8 A1 c2 a0_b :: D0, G0, [(0, (.slice A1 a0_b.length c2)), (3, (v32 s6.1)), (5, (vi s6.2))]⟩) (turn_Big_l0 a0_b _) _ (fun _ => rfl) ?_ Fuel (0, 0) () H) [0, 3, 5] [0] 1 [] 0 rfl rfl rfl)
    intro k6 s6 y6 ih H
    dsimp only
    rw [turn_Big_l0] at H
    refine s_seq ?_
    refine s_reg [0] rfl ?_
    refine o_pu rfl (ev_bin rfl rfl rfl rfl (lss_i _ 4)) (g0 rfl) rfl rfl ?_
    refine o_nil ?_
    refine q_then ?_
    refine s_seq ?_
    refine s_cond rfl ?_ ?_
    · intro hb7
      have H := cnd_t H hb7
      refine s_skip ?_
      refine q_then ?_
      refine s_seq ?_
      refine s_block ?_
      refine s_seq ?_
      refine s_reg [0, 1] rfl ?_
      refine o_pu rfl (ev_move rfl rfl) (g0 rfl) rfl rfl ?_
      refine o_pu rfl (ev_assign rfl rfl) (g0 rfl) rfl rfl ?_
      refine o_nil ?_
      refine q_then ?_
      refine s_seq ?_
      refine s_reg [0, 1, 2] rfl ?_
      refine o_pu rfl (ev_move rfl rfl) (g0 rfl) rfl rfl ?_
      refine o_pu rfl (ev_bin rfl rfl rfl rfl (shl_32 _ 8)) (g0 rfl) rfl rfl ?_
      refine o_pu rfl (ev_assign rfl rfl) (g0 rfl) rfl rfl ?_
      refine o_nil ?_
      refine q_then ?_
      refine s_seq ?_
      refine s_reg [0, 1, 2, 3] rfl ?_
      refine o_pu rfl (ev_move rfl rfl) (g0 rfl) rfl rfl ?_
      refine o_pu rfl (ev_move rfl rfl) (g0 rfl) rfl rfl ?_
      refine o_pu rfl (ev_len_slice rfl rfl Tryd.runUnderlying22) (g0 rfl) rfl rfl ?_
      refine o_pu rfl (ev_bin rfl rfl rfl rfl (lss_i _ _)) (g0 rfl) rfl rfl ?_
      refine o_nil ?_
      refine q_then ?_
      refine q_join (fun (x10 : UInt32) (y11 : Unit) => ⟨Sl E8 A1 c2 a0_b :: D0, G0, [(0, (.slice A1 a0_b.length c2)), (3, (v32 x10)), (5, (vi s6.2))]⟩) H ?_ ?_
      · intro x10 y11 H
        dsimp only
        refine q_block ?_
        refine q_then ?_
        refine s_reg [0, 1] rfl ?_
        refine o_pu rfl (ev_bin rfl rfl rfl rfl (add_i _ 1)) (g0 rfl) rfl rfl ?_
        refine o_pu rfl (ev_move rfl rfl) (g0 rfl) rfl rfl ?_
        refine o_nil ?_
        refine q_loop ?_
        exact k_wk (ih (x10, (wrap64 (s6.2 + 1))) () H) [0, 3, 5] [0] 1 [] 0 rfl rfl rfl
      · intro J9 H
        refine s_cond rfl ?_ ?_
        · intro hb12
          have H := cnd_t H hb12
          refine s_reg [0, 1, 2, 3, 4, 5, 6, 7] rfl ?_
          refine o_pu rfl (ev_move rfl rfl) (g0 rfl) rfl rfl ?_
          refine o_pu rfl (ev_move rfl rfl) (g0 rfl) rfl rfl ?_
          refine o_pu rfl (ev_move rfl rfl) (g0 rfl) rfl rfl ?_
          obtain ⟨hk15, H⟩ := chk_some H
          refine oc (k_idx 0 0 rfl rfl rfl rfl rfl E8_len rfl Tryd.runUnderlying22 Tryd.sizeOf5 hk15 (g0 rfl) rfl rfl ?_)
          intro b13 q14
          refine o_ld (hD 0 rfl) rfl (ev_ld1 (j := 0) rfl rfl Tryd.isAgg5 (sub_nth (j := 0) rfl) rfl) (g0 rfl) rfl rfl ?_
          refine o_pu rfl (ev_conv rfl rfl (conv_u8_u32 _ Tryd.runUnderlying5 Tryd.runUnderlying143)) (g0 rfl) rfl rfl ?_
          refine o_pu rfl (ev_bin rfl rfl rfl rfl (or_32 _ _)) (g0 rfl) rfl rfl ?_
          refine o_pu rfl (ev_assign rfl rfl) (g0 rfl) rfl rfl ?_
          refine o_nil ?_
          exact k_wk (J9 ((shl32 (s6.1 : UInt32) (8 : UInt64).toNat) ||| (at' 0 a0_b s6.2).toUInt32) () H) [0, 3, 5] [1] 2 [] 0 rfl rfl rfl
        · intro hb12
          have H := cnd_f H hb12
          refine s_skip ?_
          exact k_wk (J9 (shl32 (s6.1 : UInt32) (8 : UInt64).toNat) () H) [0, 3, 5] [0] 1 [] 0 rfl rfl rfl
    · intro hb7
      have H := cnd_f H hb7
      refine s_exit ?_
      refine q_then_x ?_
      refine q_then_x ?_
      refine q_block_x ?_
      exact k_wk (J3 s6.1 () H) [3] [0] 1 [] 0 rfl rfl rfl

def math_bits_RotateLeft32 (a0_x : UInt32) (a1_k : Int) : Option UInt32 :=
some ((shl32 (a0_x : UInt32) (((UInt64.ofInt a1_k) &&& (31 : UInt64)) : UInt64).toNat) ||| (shr32 (a0_x : UInt32) (((32 : UInt64) - ((UInt64.ofInt a1_k) &&& (31 : UInt64))) : UInt64).toNat))

theorem c_math_bits_RotateLeft32 (a0_x : UInt32) (a1_k : Int) (r : UInt32) (H : math_bits_RotateLeft32 a0_x a1_k = some r) : Fn Tryd.prog 141 [(v32 a0_x), (vi a1_k)] [] [] (fun v D' G' => v = (v32 r) ∧ D' = [] ∧ G' = []) := by
  unfold math_bits_RotateLeft32 at H
  refine fn_of Tryd.func141 rfl Tryd.ntmps141 rfl ?_
  intro w0 D0 G0
  dsimp only [List.cons_append, List.nil_append, initEnv, Nat.zero_add, Nat.reduceAdd]
  refine s_seq ?_
  refine s_reg [0] rfl ?_
  refine o_pu rfl (ev_assign rfl rfl) (g0 rfl) rfl rfl ?_
  refine o_nil ?_
  refine q_then ?_
  refine s_seq ?_
  refine s_reg [0, 1, 2, 3] rfl ?_
  refine o_pu rfl (ev_move rfl rfl) (g0 rfl) rfl rfl ?_
  refine o_pu rfl (ev_conv rfl rfl (conv_i_u64 _ Tryd.runUnderlying3 Tryd.runUnderlying61)) (g0 rfl) rfl rfl ?_
  refine o_pu rfl (ev_bin rfl rfl rfl rfl (and_64 _ 31)) (g0 rfl) rfl rfl ?_
  refine o_pu rfl (ev_assign rfl rfl) (g0 rfl) rfl rfl ?_
  refine o_nil ?_
  refine q_then ?_
  refine s_seq ?_
  refine s_reg [0, 1, 2, 3, 4, 5, 6, 7, 8] rfl ?_
  refine o_pu rfl (ev_move rfl rfl) (g0 rfl) rfl rfl ?_
  refine o_pu rfl (ev_move rfl rfl) (g0 rfl) rfl rfl ?_
  refine o_pu rfl (ev_bin rfl rfl rfl rfl (shl_32 _ _)) (g0 rfl) rfl rfl ?_
  refine o_pu rfl (ev_move rfl rfl) (g0 rfl) rfl rfl ?_
  refine o_pu rfl (ev_move rfl rfl) (g0 rfl) rfl rfl ?_
  refine o_pu rfl (ev_bin rfl rfl rfl rfl (sub_64 32 _)) (g0 rfl) rfl rfl ?_
  refine o_pu rfl (ev_bin rfl rfl rfl rfl (shr_32 _ _)) (g0 rfl) rfl rfl ?_
  refine o_pu rfl (ev_bin rfl rfl rfl rfl (or_32 _ _)) (g0 rfl) rfl rfl ?_
  refine o_pu rfl (ev_assign rfl rfl) (g0 rfl) rfl rfl ?_
  refine o_nil ?_
  refine q_then ?_
  refine s_ret ?_
  cases H
  exact q_end (rs_1 Tryd.results141 (rv_tmp rfl)) ⟨rfl, rfl, rfl⟩ [] rfl 0 rfl [] rfl 0 rfl

def manifest_Body (a0_m : Mani) : Option (List UInt8) :=
(field_Writer_Raw (⟨[]⟩ : WriterS) ([87, 76, 77, 49] : List UInt8) (4 : Int)).bind fun r4 =>
chk (a0_m.Name.length ≤ 68719476736) <|
(field_Writer_Raw (⟨r4.b⟩ : WriterS) a0_m.Name (16 : Int)).bind fun r11 =>
(field_Writer_Num (⟨r11.b⟩ : WriterS) a0_m.Image.Version (4 : Int)).bind fun r15 =>
(field_Writer_Num (⟨r15.b⟩ : WriterS) a0_m.Image.Size (4 : Int)).bind fun r19 =>
(field_Writer_Raw (⟨r19.b⟩ : WriterS) a0_m.Image.Digest.l (32 : Int)).bind fun r23 =>
(field_Writer_Bytes (⟨r23.b⟩ : WriterS)).bind fun r27 =>
some r27

theorem c_manifest_Body (a0_m : Mani) (r : (List UInt8)) (H : manifest_Body a0_m = some r) : Fn Tryd.prog 25 [(.agg (Mani.cells a0_m).toArray)] [] [] (fun v D' G' => ∃ (A31 : Option Addr) (c32 : Nat), v = (.slice A31 r.length c32) ∧ D' = [Sl E8 A31 c32 r] ∧ G' = [Spare A31 r.length c32 1]) := by
  unfold manifest_Body at H
  refine fn_of Tryd.func25 rfl Tryd.ntmps25 rfl ?_
  intro w0 D0 G0
  dsimp only [List.cons_append, List.nil_append, initEnv, Nat.zero_add, Nat.reduceAdd]
  refine s_seq ?_
  refine s_reg [0, 1] rfl ?_
  refine oc (k_box rfl rfl rfl (cs := Mani.cells a0_m) rfl (g0 rfl) rfl rfl ?_)
  intro b1
  refine o_pu rfl (ev_assign rfl rfl) (g0 rfl) rfl rfl ?_
  refine o_nil ?_
  refine q_then ?_
  refine s_seq ?_
  refine s_reg [0, 1, 2] rfl ?_
  refine o_pu rfl (ev_build (cs := [.slice none 0 0]) rfl rfl Tryd.zeroValue106 Tryd.runUnderlying106 pl106 (show Instr.fill _ ([.slice none 0 0]).toArray _ = some _ from fill_nil)) (g0 rfl) rfl rfl ?_
  refine oc (k_box rfl rfl rfl (cs := [.slice none 0 0]) rfl (g0 rfl) rfl rfl ?_)
  intro b2
  refine o_pu rfl (ev_assign rfl rfl) (g0 rfl) rfl rfl ?_
  refine o_nil ?_
  refine q_then ?_
  refine s_seq ?_
  refine s_reg [0, 1, 2, 3] rfl ?_
  refine o_pu rfl (ev_move rfl rfl) (g0 rfl) rfl rfl ?_
  refine o_lit ([87, 76, 77, 49] : List UInt8) rfl rfl rfl rfl Tryd.underlying22 Tryd.underlying5 Tryd.sizeOf5 Tryd.zeroValue5 rfl rfl (fill_all rfl rfl (by simp) rfl rfl) (g0 rfl) rfl rfl rfl rfl (fun _ => (g0 rfl)) rfl rfl ?_
  intro b3
  refine k_nil_spare 1 ?_
  refine k_nil_sl E8 ?_
  obtain ⟨r4, Hc5, H⟩ := bind_some' H
  refine oc (k_call (c_field_Writer_Raw b2 (⟨[]⟩ : WriterS) none 0 ([87, 76, 77, 49] : List UInt8) (some ⟨b3, 0, none⟩) 4 4 r4 Hc5) Tryd.call53 rfl rfl rfl [1, 0] [1, 0] rfl rfl (g0 rfl) rfl rfl ?_)
  rintro _ _ _ ⟨A6, c7, rfl, rfl, rfl⟩
  dsimp only [List.cons_append, List.nil_append]
  refine o_nil ?_
  refine q_then ?_
  refine s_seq ?_
  refine s_reg [0, 1, 2, 3, 4] rfl ?_
  refine o_pu rfl (ev_move rfl rfl) (g0 rfl) rfl rfl ?_
  refine o_pu rfl (ev_fieldAddr rfl rfl Tryd.runUnderlying27 rfl Tryd.sizeOf9 rfl rfl) (g0 rfl) rfl rfl ?_
  refine o_ld (hG 2 rfl) rfl (ev_ld1 (j := 0) rfl rfl Tryd.isAgg9 (Mani.sub_Name _) rfl) (g0 rfl) rfl rfl ?_
  obtain ⟨hk10, H⟩ := chk_some H
  refine oc (k_bytes (l := a0_m.Name) rfl rfl rfl Tryd.underlying9 Tryd.underlying22 Tryd.underlying5 hk10 (g0 rfl) rfl rfl ?_)
  intro A8 c9
  obtain ⟨r11, Hc12, H⟩ := bind_some' H
  refine oc (k_call (c_field_Writer_Raw b2 (⟨r4.b⟩ : WriterS) A6 c7 a0_m.Name A8 c9 16 r11 Hc12) Tryd.call53 rfl rfl rfl [0, 1] [0, 0] rfl rfl (g0 rfl) rfl rfl ?_)
  rintro _ _ _ ⟨A13, c14, rfl, rfl, rfl⟩
  dsimp only [List.cons_append, List.nil_append]
  refine o_nil ?_
  refine q_then ?_
  refine s_seq ?_
  refine s_reg [0, 1, 2, 3, 4] rfl ?_
  refine o_pu rfl (ev_move rfl rfl) (g0 rfl) rfl rfl ?_
  refine o_pu rfl (ev_fieldAddr rfl rfl Tryd.runUnderlying27 rfl Tryd.sizeOf25 rfl rfl) (g0 rfl) rfl rfl ?_
  refine o_pu rfl (ev_fieldAddr rfl rfl Tryd.runUnderlying25 rfl Tryd.sizeOf3 rfl rfl) (g0 rfl) rfl rfl ?_
  refine o_ld (hG 2 rfl) rfl (ev_ld1 (j := 1) rfl rfl Tryd.isAgg3 (sub_sub (Mani.sub_Image _) (Img.sub_Version _) rfl) rfl) (g0 rfl) rfl rfl ?_
  obtain ⟨r15, Hc16, H⟩ := bind_some' H
  refine oc (k_call (c_field_Writer_Num b2 (⟨r11.b⟩ : WriterS) A13 c14 a0_m.Image.Version 4 r15 Hc16) Tryd.call54 rfl rfl rfl [0] [0, 0] rfl rfl (g0 rfl) rfl rfl ?_)
  rintro _ _ _ ⟨A17, c18, rfl, rfl, rfl⟩
  dsimp only [List.cons_append, List.nil_append]
  refine o_nil ?_
  refine q_then ?_
  refine s_seq ?_
  refine s_reg [0, 1, 2, 3, 4] rfl ?_
  refine o_pu rfl (ev_move rfl rfl) (g0 rfl) rfl rfl ?_
  refine o_pu rfl (ev_fieldAddr rfl rfl Tryd.runUnderlying27 rfl Tryd.sizeOf25 rfl rfl) (g0 rfl) rfl rfl ?_
  refine o_pu rfl (ev_fieldAddr rfl rfl Tryd.runUnderlying25 rfl Tryd.sizeOf3 rfl rfl) (g0 rfl) rfl rfl ?_
  refine o_ld (hG 2 rfl) rfl (ev_ld1 (j := 2) rfl rfl Tryd.isAgg3 (sub_sub (Mani.sub_Image _) (Img.sub_Size _) rfl) rfl) (g0 rfl) rfl rfl ?_
  obtain ⟨r19, Hc20, H⟩ := bind_some' H
  refine oc (k_call (c_field_Writer_Num b2 (⟨r15.b⟩ : WriterS) A17 c18 a0_m.Image.Size 4 r19 Hc20) Tryd.call54 rfl rfl rfl [0] [0, 0] rfl rfl (g0 rfl) rfl rfl ?_)
  rintro _ _ _ ⟨A21, c22, rfl, rfl, rfl⟩
  dsimp only [List.cons_append, List.nil_append]
  refine o_nil ?_
  refine q_then ?_
  refine s_seq ?_
  refine s_reg [0, 1, 2, 3, 4] rfl ?_
  refine o_pu rfl (ev_move rfl rfl) (g0 rfl) rfl rfl ?_
  refine o_pu rfl (ev_fieldAddr rfl rfl Tryd.runUnderlying27 rfl Tryd.sizeOf25 rfl rfl) (g0 rfl) rfl rfl ?_
  refine o_pu rfl (ev_fieldAddr rfl rfl Tryd.runUnderlying25 rfl Tryd.sizeOf23 rfl rfl) (g0 rfl) rfl rfl ?_
  refine o_pu rfl (ev_slice_arr rfl rfl Tryd.runUnderlying23 Tryd.sizeOf5) (g0 rfl) rfl rfl ?_
  refine k_keep 2 rfl ?_
  refine k_ro_sl (f := E8) (cap := 32) a0_m.Image.Digest.l 0 rfl (sub_sub (Mani.sub_Image _) (Img.sub_Digest _) rfl) rfl (Nat.le_of_eq (a0_m.Image.Digest).len) (by decide) ?_
  refine k_eq (v' := (.slice (some ⟨b1, 3, none⟩) a0_m.Image.Digest.l.length 32)) 28 rfl (congrArg (fun z => Value.slice (some ⟨b1, 3, none⟩) z 32) (a0_m.Image.Digest).len.symm) ?_
  refine k_spare_full (some ⟨b1, 3, none⟩) a0_m.Image.Digest.l.length 32 1 (a0_m.Image.Digest).len ?_
  obtain ⟨r23, Hc24, H⟩ := bind_some' H
  refine oc (k_call (c_field_Writer_Raw b2 (⟨r19.b⟩ : WriterS) A21 c22 a0_m.Image.Digest.l (some ⟨b1, 3, none⟩) 32 32 r23 Hc24) Tryd.call53 rfl rfl rfl [0, 2] [1, 1] rfl rfl (g0 rfl) rfl rfl ?_)
  rintro _ _ _ ⟨A25, c26, rfl, rfl, rfl⟩
  dsimp only [List.cons_append, List.nil_append]
  refine o_nil ?_
  refine q_then ?_
  refine s_seq ?_
  refine s_reg [0, 1, 2] rfl ?_
  refine o_pu rfl (ev_move rfl rfl) (g0 rfl) rfl rfl ?_
  obtain ⟨r27, Hc28, H⟩ := bind_some' H
  refine oc (k_call (c_field_Writer_Bytes b2 (⟨r23.b⟩ : WriterS) A25 c26 r27 Hc28) Tryd.call55 rfl rfl rfl [0] [0, 0] rfl rfl (g0 rfl) rfl rfl ?_)
  rintro _ _ _ ⟨A29, c30, rfl, rfl, rfl⟩
  dsimp only [List.cons_append, List.nil_append]
  refine o_pu rfl (ev_assign rfl rfl) (g0 rfl) rfl rfl ?_
  refine o_nil ?_
  refine q_then ?_
  refine s_ret ?_
  cases H
  exact q_end (rs_1 Tryd.results25 (rv_tmp rfl)) ⟨A29, c30, rfl, rfl, rfl⟩ [0] rfl 11 rfl [0] rfl 3 rfl

def field_Reader_Raw (a0_r : ReaderS) (a1_size : Int) : Option ((List UInt8) × ReaderS) :=
(field_Reader_take (⟨a0_r.b, a0_r.bad⟩ : ReaderS) (if 0 < (if 1000 < a1_size then 1000 else a1_size) then (if 1000 < a1_size then 1000 else a1_size) else 0)).bind fun r3 =>
(slices_Clone r3.1).bind fun r9 =>
some (r9, (⟨r3.2.b, r3.2.bad⟩ : ReaderS))

theorem c_field_Reader_Raw (a0_rp : Nat) (a0_r : ReaderS) (A1 : Option Addr) (c2 : Nat) (a1_size : Int) (r : (List UInt8) × ReaderS) (H : field_Reader_Raw a0_r a1_size = some r) : Fn Tryd.prog 28 [(.pointer (some ⟨a0_rp, 0, none⟩)), (vi a1_size)] [Sl E8 A1 c2 a0_r.b] [At a0_rp 0 [.slice A1 a0_r.b.length c2, vb a0_r.bad]] (fun v D' G' => ∃ (A13 : Option Addr) (c14 : Nat) (A15 : Option Addr) (c16 : Nat), v = (.slice A13 r.1.length c14) ∧ D' = [Sl E8 A15 c16 r.2.b, Sl E8 A13 c14 r.1] ∧ G' = [Spare A13 r.1.length c14 1, At a0_rp 0 [.slice A15 r.2.b.length c16, vb r.2.bad]]) := by
  unfold field_Reader_Raw at H
  refine fn_of Tryd.func28 rfl Tryd.ntmps28 rfl ?_
  intro w0 D0 G0
  dsimp only [List.cons_append, List.nil_append, initEnv, Nat.zero_add, Nat.reduceAdd]
  refine s_seq ?_
  refine s_reg [0] rfl ?_
  refine o_pu rfl (ev_assign rfl rfl) (g0 rfl) rfl rfl ?_
  refine o_nil ?_
  refine q_then ?_
  refine s_seq ?_
  refine s_reg [0, 1, 2, 3, 4, 5, 6] rfl ?_
  refine o_pu rfl (ev_move rfl rfl) (g0 rfl) rfl rfl ?_
  refine o_pu rfl (ev_move rfl rfl) (g0 rfl) rfl rfl ?_
  refine o_pu rfl (ev_min rfl rfl rfl) (g0 rfl) rfl rfl ?_
  refine o_pu rfl (ev_max rfl rfl rfl) (g0 rfl) rfl rfl ?_
  obtain ⟨r3, Hc4, H⟩ := bind_some' H
  refine oc (k_call (c_field_Reader_take a0_rp (⟨a0_r.b, a0_r.bad⟩ : ReaderS) A1 c2 (if 0 < (if 1000 < a1_size then 1000 else a1_size) then (if 1000 < a1_size then 1000 else a1_size) else 0) r3 Hc4) Tryd.call60 rfl rfl rfl [0] [0] rfl rfl (g0 rfl) rfl rfl ?_)
  rintro _ _ _ ⟨A5, c6, A7, c8, rfl, rfl, rfl⟩
  dsimp only [List.cons_append, List.nil_append]
  obtain ⟨r9, Hc10, H⟩ := bind_some' H
  refine oc (k_call (c_slices_Clone r3.1 A5 c6 r9 Hc10) Tryd.call46 rfl rfl rfl [1] [] rfl rfl (g0 rfl) rfl rfl ?_)
  rintro _ _ _ ⟨A11, c12, rfl, rfl, rfl⟩
  dsimp only [List.cons_append, List.nil_append]
  refine o_pu rfl (ev_assign rfl rfl) (g0 rfl) rfl rfl ?_
  refine o_nil ?_
  refine q_then ?_
  refine s_ret ?_
  cases H
  exact q_end (rs_1 Tryd.results28 (rv_tmp rfl)) ⟨A11, c12, A7, c8, rfl, rfl, rfl⟩ [1, 0] rfl 4 rfl [0, 0] rfl 0 rfl

def strings_TrimRight (a0_s : List UInt8) : Option (List UInt8) :=
bnd (a0_s == ([] : List UInt8)) fun b1 =>
jn (fun x4 =>
bif x4 then (
some a0_s) else (
chk (0 ≤ (0 : Int) ∧ (0 : Int) < ([0] : List UInt8).length) <|
chk (0 ≤ (0 : Int) ∧ (0 : Int) < ([0] : List UInt8).length) <|
(strings_trimRightByte a0_s (0 : UInt8)).bind fun r8 =>
some r8)) fun J3 =>
bif b1 then (
J3 true) else
J3 false

theorem c_strings_TrimRight (a0_s : List UInt8) (r : (List UInt8)) (H : strings_TrimRight a0_s = some r) : Fn Tryd.prog 29 [(vs a0_s), (vs ([0] : List UInt8))] [] [] (fun v D' G' => v = (vs r) ∧ D' = [] ∧ G' = []) := by
  unfold strings_TrimRight at H
  refine fn_of Tryd.func29 rfl Tryd.ntmps29 rfl ?_
  intro w0 D0 G0
  dsimp only [List.cons_append, List.nil_append, initEnv, Nat.zero_add, Nat.reduceAdd]
  refine s_seq ?_
  refine s_reg [0] rfl ?_
  refine o_pu rfl (ev_assign rfl rfl) (g0 rfl) rfl rfl ?_
  refine o_nil ?_
  refine q_then ?_
  refine s_seq ?_
  refine s_seq ?_
  refine s_reg [0, 1, 2, 3, 4, 5] rfl ?_
  refine o_pu rfl (ev_move rfl rfl) (g0 rfl) rfl rfl ?_
  refine o_pu rfl (ev_bin rfl rfl (show _ = some (vs ([] : List UInt8)) from rfl) rfl (eql_s _ ([] : List UInt8))) (g0 rfl) rfl rfl ?_
  refine o_pu rfl (ev_move rfl rfl) (g0 rfl) rfl rfl ?_
  refine k_name 9 rfl ?_
  intro b1 hb2
  have H := bnd_eq H hb2
  refine o_jb 12 [] [0, 1, 4, 7, 8, 9] H rfl ?_ ?_
  · intro x4 H
    refine o_nil ?_
    refine q_then ?_
    refine s_cond rfl ?_ ?_
    · intro hb5
      have H := cnd_t H hb5
      refine s_seq ?_
      refine s_reg [0, 1] rfl ?_
      refine o_pu rfl (ev_move rfl rfl) (g0 rfl) rfl rfl ?_
      refine o_pu rfl (ev_assign rfl rfl) (g0 rfl) rfl rfl ?_
      refine o_nil ?_
      refine q_then ?_
      refine s_ret ?_
      refine q_then_r ?_
      cases H
      exact q_end (rs_1 Tryd.results29 (rv_tmp rfl)) ⟨rfl, rfl, rfl⟩ [] rfl 0 rfl [] rfl 0 rfl
    · intro hb5
      have H := cnd_f H hb5
      refine s_skip ?_
      refine q_then ?_
      refine s_seq ?_
      refine s_seq ?_
      refine s_reg [0, 1, 2, 3, 4, 5, 6, 7] rfl ?_
      refine o_pu rfl (ev_move rfl rfl) (g0 rfl) rfl rfl ?_
      refine o_pu (v := (vi 1)) rfl (ev_len_string rfl (show _ = some (vs ([0] : List UInt8)) from rfl) Tryd.runUnderlying9) (g0 rfl) rfl rfl ?_
      refine o_pu (v := (vb true)) rfl (ev_bin rfl rfl rfl rfl (eql_i 1 1)) (g0 rfl) rfl rfl ?_
      refine o_pu rfl (ev_move rfl rfl) (g0 rfl) rfl rfl ?_
      refine o_pu rfl (ev_move rfl rfl) (g1 rfl rfl rfl rfl) rfl rfl ?_
      obtain ⟨hk6, H⟩ := chk_some H
      refine o_pu (v := (v8 0)) rfl (ev_index_string rfl (show _ = some (vs ([0] : List UInt8)) from rfl) rfl Tryd.runUnderlying9 hk6) (g1 rfl rfl rfl rfl) rfl rfl ?_
      refine o_pu (v := (vb true)) rfl (ev_bin rfl rfl rfl rfl (lss_8 0 128)) (g1 rfl rfl rfl rfl) rfl rfl ?_
      refine o_pu rfl (ev_pick_t rfl rfl rfl) (g0 rfl) rfl rfl ?_
      refine o_nil ?_
      refine q_then ?_
      refine s_cond_t rfl ?_
      refine s_seq ?_
      refine s_reg [0, 1, 2, 3, 4] rfl ?_
      refine o_pu rfl (ev_move rfl rfl) (g0 rfl) rfl rfl ?_
      refine o_pu rfl (ev_move rfl rfl) (g0 rfl) rfl rfl ?_
      obtain ⟨hk7, H⟩ := chk_some H
      refine o_pu (v := (v8 0)) rfl (ev_index_string rfl (show _ = some (vs ([0] : List UInt8)) from rfl) rfl Tryd.runUnderlying9 hk7) (g0 rfl) rfl rfl ?_
      obtain ⟨r8, Hc9, H⟩ := bind_some' H
      refine oc (k_call (c_strings_trimRightByte a0_s 0 r8 Hc9) Tryd.call61 rfl rfl rfl [] [] rfl rfl (g0 rfl) rfl rfl ?_)
      rintro _ _ _ ⟨rfl, rfl, rfl⟩
      dsimp only [List.cons_append, List.nil_append]
      refine o_pu rfl (ev_assign rfl rfl) (g0 rfl) rfl rfl ?_
      refine o_nil ?_
      refine q_then ?_
      refine s_ret ?_
      refine q_then_r ?_
      cases H
      exact q_end (rs_1 Tryd.results29 (rv_tmp rfl)) ⟨rfl, rfl, rfl⟩ [] rfl 0 rfl [] rfl 0 rfl
  · intro J3 H
    cases b1 with
    | true =>
      rw [cond_true] at H
      refine o_gnot rfl rfl rfl rfl rfl rfl rfl rfl ?_
      refine o_gnot rfl rfl rfl rfl rfl rfl rfl rfl ?_
      refine o_pu rfl (ev_pick_t rfl rfl rfl) (g0 rfl) rfl rfl ?_
      exact k_wk (J3 true H) [12, 0, 1, 4, 7, 8, 9] [] 0 [] 0 rfl rfl rfl
    | false =>
      rw [cond_false] at H
      refine o_pu rfl (ev_move rfl rfl) (g1 rfl rfl rfl rfl) rfl rfl ?_
      refine o_pu (v := (vb false)) rfl (ev_bin rfl (show _ = some (vs ([0] : List UInt8)) from rfl) (show _ = some (vs ([] : List UInt8)) from rfl) rfl (eql_s ([0] : List UInt8) ([] : List UInt8))) (g1 rfl rfl rfl rfl) rfl rfl ?_
      refine o_pu rfl (ev_pick_f rfl rfl rfl) (g0 rfl) rfl rfl ?_
      exact k_wk (J3 false H) [12, 0, 1, 4, 7, 8, 9] [] 0 [] 0 rfl rfl rfl

def field_Reader_Num_l0 (r3 : (List UInt8) × ReaderS) (J9 : UInt64 → Option (Int × ReaderS)) : Nat → (UInt64 × Int) → Option (Int × ReaderS)
  | 0, _ => none
  | k12 + 1, s12 =>
    bif (decide (s12.2 < (r3.1.length : Int))) then (
    chk (0 ≤ s12.2 ∧ s12.2 < r3.1.length) <|
    field_Reader_Num_l0 r3 J9 k12 (((shl64 (s12.1 : UInt64) (8 : UInt64).toNat) ||| (at' 0 r3.1 s12.2).toUInt64), (wrap64 (s12.2 + 1)))) else (
    J9 s12.1)

def field_Reader_Num (a0_r : ReaderS) (a1_size : Int) : Option (Int × ReaderS) :=
(field_Reader_take (⟨a0_r.b, a0_r.bad⟩ : ReaderS) (if 0 < (if 8 < a1_size then 8 else a1_size) then (if 8 < a1_size then 8 else a1_size) else 0)).bind fun r3 =>
jn (fun (x10 : UInt64) =>
some ((wrap64 (x10.toNat : Int)), (⟨r3.2.b, r3.2.bad⟩ : ReaderS))) fun J9 =>
field_Reader_Num_l0 r3 J9 Fuel (0, 0)

theorem c_field_Reader_Num (a0_rp : Nat) (a0_r : ReaderS) (A1 : Option Addr) (c2 : Nat) (a1_size : Int) (r : Int × ReaderS) (H : field_Reader_Num a0_r a1_size = some r) : Fn Tryd.prog 30 [(.pointer (some ⟨a0_rp, 0, none⟩)), (vi a1_size)] [Sl E8 A1 c2 a0_r.b] [At a0_rp 0 [.slice A1 a0_r.b.length c2, vb a0_r.bad]] (fun v D' G' => ∃ (A17 : Option Addr) (c18 : Nat), v = (vi r.1) ∧ D' = [Sl E8 A17 c18 r.2.b] ∧ G' = [At a0_rp 0 [.slice A17 r.2.b.length c18, vb r.2.bad]]) := by
  unfold field_Reader_Num at H
  refine fn_of Tryd.func30 rfl Tryd.ntmps30 rfl ?_
  intro w0 D0 G0
  dsimp only [List.cons_append, List.nil_append, initEnv, Nat.zero_add, Nat.reduceAdd]
  refine s_seq ?_
  refine s_reg [0] rfl ?_
  refine o_pu rfl (ev_assign rfl rfl) (g0 rfl) rfl rfl ?_
  refine o_nil ?_
  refine q_then ?_
  refine s_seq ?_
  refine s_reg [0] rfl ?_
  refine o_pu rfl (ev_assign rfl rfl) (g0 rfl) rfl rfl ?_
  refine o_nil ?_
  refine q_then ?_
  refine s_seq ?_
  refine s_seq ?_
  refine s_reg [0, 1, 2, 3, 4, 5, 6] rfl ?_
  refine o_pu rfl (ev_move rfl rfl) (g0 rfl) rfl rfl ?_
  refine o_pu rfl (ev_move rfl rfl) (g0 rfl) rfl rfl ?_
  refine o_pu rfl (ev_min rfl rfl rfl) (g0 rfl) rfl rfl ?_
  refine o_pu rfl (ev_max rfl rfl rfl) (g0 rfl) rfl rfl ?_
  obtain ⟨r3, Hc4, H⟩ := bind_some' H
  refine oc (k_call (c_field_Reader_take a0_rp (⟨a0_r.b, a0_r.bad⟩ : ReaderS) A1 c2 (if 0 < (if 8 < a1_size then 8 else a1_size) then (if 8 < a1_size then 8 else a1_size) else 0) r3 Hc4) Tryd.call60 rfl rfl rfl [0] [0] rfl rfl (g0 rfl) rfl rfl ?_)
  rintro _ _ _ ⟨A5, c6, A7, c8, rfl, rfl, rfl⟩
  dsimp only [List.cons_append, List.nil_append]
  refine o_pu rfl (ev_len_slice rfl rfl Tryd.runUnderlying22) (g0 rfl) rfl rfl ?_
  refine o_pu rfl (ev_move rfl rfl) (g0 rfl) rfl rfl ?_
  refine o_nil ?_
  refine q_then ?_
  refine q_join (fun (x10 : UInt64) (y11 : Unit) => ⟨Sl E8 A7 c8 r3.2.b :: Sl E8 A5 c6 r3.1 :: Sl E8 A1 c2 a0_r.b :: D0, At a0_rp 0 [.slice A7 r3.2.b.length c8, vb r3.2.bad] :: G0, [(5, (v64 x10))]⟩) H ?_ ?_
  · intro x10 y11 H
    dsimp only
    refine q_then ?_
    refine s_seq ?_
    refine s_reg [0, 1, 2] rfl ?_
    refine o_pu rfl (ev_move rfl rfl) (g0 rfl) rfl rfl ?_
    refine o_pu rfl (ev_conv rfl rfl (conv_u64_i _ Tryd.runUnderlying123 Tryd.runUnderlying3)) (g0 rfl) rfl rfl ?_
    refine o_pu rfl (ev_assign rfl rfl) (g0 rfl) rfl rfl ?_
    refine o_nil ?_
    refine q_then ?_
    refine s_ret ?_
    cases H
    exact q_end (rs_1 Tryd.results30 (rv_tmp rfl)) ⟨A7, c8, rfl, rfl, rfl⟩ [0] rfl 3 rfl [0] rfl 0 rfl
  · intro J9 H
    refine s_block ?_
    refine s_loop (k_wk (loop_ind (fun (s12 : UInt64 × Int) (y12 : Unit) => ⟨Sl E8 A7 c8 r3.2.b :: Sl E8 A5 c6 r3.1 :: Sl E8 A1 c2 a0_r.b :: D0, At a0_rp 0 [.slice A7 r3.2.b.length c8, vb r3.2.bad] :: G0, [(5, (v64 s12.1)), (12, (.slice A5 r3.1.length c6)), (13, (vi (r3.1.length : Int))), (14, (vi s12.2))]⟩) (field_Reader_Num_l0 r3 _) _ (fun _ => rfl) ?_ Fuel (0, 0) () H) [5, 12, 13, 14] [0, 1, 2] 3 [0] 0 rfl rfl rfl)
    intro k12 s12 y12 ih H
    dsimp only
    rw [field_Reader_Num_l0] at H
    refine s_seq ?_
    refine s_reg [0] rfl ?_
    refine o_pu rfl (ev_bin rfl rfl rfl rfl (lss_i _ _)) (g0 rfl) rfl rfl ?_
    refine o_nil ?_
    refine q_then ?_
    refine s_seq ?_
    refine s_cond rfl ?_ ?_
    · intro hb13
      have H := cnd_t H hb13
      refine s_skip ?_
      refine q_then ?_
      refine s_seq ?_
      refine s_block ?_
      refine s_seq ?_
      refine s_reg [0, 1, 2] rfl ?_
      obtain ⟨hk16, H⟩ := chk_some H
      refine oc (k_idx 0 1 rfl rfl rfl rfl rfl E8_len rfl Tryd.runUnderlying22 Tryd.sizeOf5 hk16 (g0 rfl) rfl rfl ?_)
      intro b14 q15
      refine o_ld (hD 0 rfl) rfl (ev_ld1 (j := 0) rfl rfl Tryd.isAgg5 (sub_nth (j := 0) rfl) rfl) (g0 rfl) rfl rfl ?_
      refine o_pu rfl (ev_assign rfl rfl) (g0 rfl) rfl rfl ?_
      refine o_nil ?_
      refine q_then ?_
      refine s_reg [0, 1, 2, 3, 4, 5] rfl ?_
      refine o_pu rfl (ev_move rfl rfl) (g0 rfl) rfl rfl ?_
      refine o_pu rfl (ev_bin rfl rfl rfl rfl (shl_64 _ 8)) (g0 rfl) rfl rfl ?_
      refine o_pu rfl (ev_move rfl rfl) (g0 rfl) rfl rfl ?_
      refine o_pu rfl (ev_conv rfl rfl (conv_u8_u64 _ Tryd.runUnderlying5 Tryd.runUnderlying123)) (g0 rfl) rfl rfl ?_
      refine o_pu rfl (ev_bin rfl rfl rfl rfl (or_64 _ _)) (g0 rfl) rfl rfl ?_
      refine o_pu rfl (ev_assign rfl rfl) (g0 rfl) rfl rfl ?_
      refine o_nil ?_
      refine q_block ?_
      refine q_then ?_
      refine s_reg [0, 1] rfl ?_
      refine o_pu rfl (ev_bin rfl rfl rfl rfl (add_i _ 1)) (g0 rfl) rfl rfl ?_
      refine o_pu rfl (ev_move rfl rfl) (g0 rfl) rfl rfl ?_
      refine o_nil ?_
      refine q_loop ?_
      exact k_wk (ih (((shl64 (s12.1 : UInt64) (8 : UInt64).toNat) ||| (at' 0 r3.1 s12.2).toUInt64), (wrap64 (s12.2 + 1))) () H) [5, 12, 13, 14] [1, 2, 3] 4 [0] 0 rfl rfl rfl
    · intro hb13
      have H := cnd_f H hb13
      refine s_exit ?_
      refine q_then_x ?_
      refine q_then_x ?_
      refine q_block_x ?_
      exact k_wk (J9 s12.1 () H) [5] [0, 1, 2] 3 [0] 0 rfl rfl rfl

def names_Valid_l0 (a0_s : List UInt8) (J2 : (Int × Int) → Option Bool) : Nat → (Int × Int) → Option Bool
  | 0, _ => none
  | k9 + 1, s9 =>
    bif decide (0 ≤ s9.2 ∧ s9.2 < (a0_s.length : Int)) then (
    (names_may (ru a0_s s9.2)).bind fun r12 =>
    bif (!r12) then (
    some false) else (
    names_Valid_l0 a0_s J2 k9 ((wrap64 (s9.1 + 1)), (s9.2 + rwd a0_s s9.2)))) else (
    chk (0 ≤ s9.2) <|
    J2 (s9.1, s9.2))

def names_Valid (a0_s : List UInt8) : Option Bool :=
jn (fun (x3 : Int × Int) =>
bnd (decide (x3.1 ≥ 1)) fun b5 =>
jn (fun x8 =>
some x8) fun J7 =>
bif b5 then (
J7 (decide (x3.1 ≤ 8))) else
J7 false) fun J2 =>
names_Valid_l0 a0_s J2 Fuel (0, 0)

theorem c_names_Valid (a0_s : List UInt8) (r : Bool) (H : names_Valid a0_s = some r) : Fn Tryd.prog 31 [(vs a0_s)] [] [] (fun v D' G' => v = (vb r) ∧ D' = [] ∧ G' = []) := by
  unfold names_Valid at H
  refine fn_of Tryd.func31 rfl Tryd.ntmps31 rfl ?_
  intro w0 D0 G0
  dsimp only [List.cons_append, List.nil_append, initEnv, Nat.zero_add, Nat.reduceAdd]
  refine s_seq ?_
  refine s_reg [0] rfl ?_
  refine o_pu rfl (ev_assign rfl rfl) (g0 rfl) rfl rfl ?_
  refine o_nil ?_
  refine q_then ?_
  refine s_seq ?_
  refine s_reg [0] rfl ?_
  refine o_pu rfl (ev_assign rfl rfl) (g0 rfl) rfl rfl ?_
  refine o_nil ?_
  refine q_then ?_
  refine s_seq ?_
  refine s_seq ?_
  refine s_reg [0, 1] rfl ?_
  refine o_pu rfl (ev_move rfl rfl) (g0 rfl) rfl rfl ?_
  refine oc (k_range (l := a0_s) rfl rfl rfl Tryd.runUnderlying9 (g0 rfl) rfl rfl ?_)
  intro b1
  refine o_nil ?_
  refine q_then ?_
  refine q_join (fun (x3 : Int × Int) (y4 : Unit) => ⟨D0, It b1 a0_s x3.2 :: G0, [(3, (vi x3.1))]⟩) H ?_ ?_
  · intro x3 y4 H
    dsimp only
    refine q_then ?_
    refine s_seq ?_
    refine s_reg [0, 1, 2, 3, 4, 5, 6] rfl ?_
    refine o_pu rfl (ev_move rfl rfl) (g0 rfl) rfl rfl ?_
    refine o_pu rfl (ev_bin rfl rfl rfl rfl (geq_i _ 1)) (g0 rfl) rfl rfl ?_
    refine o_pu rfl (ev_move rfl rfl) (g0 rfl) rfl rfl ?_
    refine k_name 18 rfl ?_
    intro b5 hb6
    have H := bnd_eq H hb6
    refine o_jb 21 [6] [3, 16, 17, 18] H rfl ?_ ?_
    · intro x8 H
      refine o_pu rfl (ev_assign rfl rfl) (g0 rfl) rfl rfl ?_
      refine o_nil ?_
      refine q_then ?_
      refine s_ret ?_
      cases H
      exact q_end (rs_1 Tryd.results31 (rv_tmp rfl)) ⟨rfl, rfl, rfl⟩ [] rfl 0 rfl [] rfl 1 rfl
    · intro J7 H
      cases b5 with
      | true =>
        rw [cond_true] at H
        refine o_pu rfl (ev_move rfl rfl) (g1 rfl rfl rfl rfl) rfl rfl ?_
        refine o_pu rfl (ev_bin rfl rfl rfl rfl (leq_i _ 8)) (g1 rfl rfl rfl rfl) rfl rfl ?_
        refine o_pu rfl (ev_pick_t rfl rfl rfl) (g0 rfl) rfl rfl ?_
        exact k_wk (J7 (decide (x3.1 ≤ 8)) H) [21, 3, 16, 17, 18] [] 0 [0] 0 rfl rfl rfl
      | false =>
        rw [cond_false] at H
        refine o_gnot rfl rfl rfl rfl rfl rfl rfl rfl ?_
        refine o_gnot rfl rfl rfl rfl rfl rfl rfl rfl ?_
        refine o_pu rfl (ev_pick_f rfl rfl rfl) (g0 rfl) rfl rfl ?_
        exact k_wk (J7 false H) [21, 3, 16, 17, 18] [] 0 [0] 0 rfl rfl rfl
  · intro J2 H
    refine s_block ?_
    refine s_loop (k_wk (loop_ind (fun (s9 : Int × Int) (y9 : Unit) => ⟨D0, It b1 a0_s s9.2 :: G0, [(3, (vi s9.1)), (7, (.pointer (some ⟨b1, 0, none⟩)))]⟩) (names_Valid_l0 a0_s _) _ (fun _ => rfl) ?_ Fuel (0, 0) () H) [3, 7] [] 0 [0] 0 rfl rfl rfl)
    intro k9 s9 y9 ih H
    dsimp only
    rw [names_Valid_l0] at H
    refine s_seq ?_
    refine s_reg [0, 1] rfl ?_
    rcases Bool.eq_false_or_eq_true (decide (0 ≤ s9.2 ∧ s9.2 < (a0_s.length : Int))) with hb10 | hb10
    · have H := cnd_t H hb10
      refine oc (k_next 0 rfl rfl rfl rfl (g0 rfl) rfl rfl hb10 ?_)
      refine o_pu rfl (ev_extract rfl rfl rfl) (g0 rfl) rfl rfl ?_
      refine o_nil ?_
      refine q_then ?_
      refine s_seq ?_
      refine s_cond_t rfl ?_
      refine s_skip ?_
      refine q_then ?_
      refine s_block ?_
      refine s_seq ?_
      refine s_reg [0, 1] rfl ?_
      refine o_pu rfl (ev_extract rfl rfl rfl) (g0 rfl) rfl rfl ?_
      refine o_pu rfl (ev_assign rfl rfl) (g0 rfl) rfl rfl ?_
      refine o_nil ?_
      refine q_then ?_
      refine s_seq ?_
      refine s_seq ?_
      refine s_reg [0, 1, 2] rfl ?_
      refine o_pu rfl (ev_move rfl rfl) (g0 rfl) rfl rfl ?_
      obtain ⟨r12, Hc13, H⟩ := bind_some' H
      refine oc (k_call (c_names_may (ru a0_s s9.2) r12 Hc13) Tryd.call65 rfl rfl rfl [] [] rfl rfl (g0 rfl) rfl rfl ?_)
      rintro _ _ _ ⟨rfl, rfl, rfl⟩
      dsimp only [List.cons_append, List.nil_append]
      refine o_pu rfl (ev_not rfl rfl) (g0 rfl) rfl rfl ?_
      refine o_nil ?_
      refine q_then ?_
      refine s_cond rfl ?_ ?_
      · intro hb14
        have H := cnd_t H hb14
        refine s_seq ?_
        refine s_reg [0] rfl ?_
        refine o_pu rfl (ev_assign rfl rfl) (g0 rfl) rfl rfl ?_
        refine o_nil ?_
        refine q_then ?_
        refine s_ret ?_
        refine q_then_r ?_
        refine q_block_r ?_
        refine q_then_r ?_
        refine q_block_r ?_
        refine q_then_r ?_
        cases H
        exact q_end (rs_1 Tryd.results31 (rv_tmp rfl)) ⟨rfl, rfl, rfl⟩ [] rfl 0 rfl [] rfl 1 rfl
      · intro hb14
        have H := cnd_f H hb14
        refine s_skip ?_
        refine q_then ?_
        refine s_reg [0, 1, 2] rfl ?_
        refine o_pu rfl (ev_move rfl rfl) (g0 rfl) rfl rfl ?_
        refine o_pu rfl (ev_bin rfl rfl rfl rfl (add_i _ 1)) (g0 rfl) rfl rfl ?_
        refine o_pu rfl (ev_assign rfl rfl) (g0 rfl) rfl rfl ?_
        refine o_nil ?_
        refine q_block ?_
        refine q_loop ?_
        exact k_wk (ih ((wrap64 (s9.1 + 1)), (s9.2 + rwd a0_s s9.2)) () H) [3, 7] [] 0 [0] 0 rfl rfl rfl
    · have H := cnd_f H hb10
      obtain ⟨hk11, H⟩ := chk_some H
      refine oc (k_over 0 rfl rfl rfl rfl (g0 rfl) rfl rfl hb10 hk11 ?_)
      refine o_pu rfl (ev_extract rfl rfl rfl) (g0 rfl) rfl rfl ?_
      refine o_nil ?_
      refine q_then ?_
      refine s_seq ?_
      refine s_cond_f rfl ?_
      refine s_exit ?_
      refine q_then_x ?_
      refine q_then_x ?_
      refine q_block_x ?_
      exact k_wk (J2 (s9.1, s9.2) () H) [3] [] 0 [0] 0 rfl rfl rfl

def sha_New : Option StreamS :=
(sha_first ).bind fun r1 =>
some (⟨r1, 0, []⟩ : StreamS)

theorem c_sha_New (r : StreamS) (H : sha_New  = some r) : Fn Tryd.prog 56 [] [] [] (fun v D' G' => ∃ (b4 : Nat) (A5 : Option Addr) (c6 : Nat), v = (.pointer (some ⟨b4, 0, none⟩)) ∧ D' = [Sl E8 A5 c6 r.rest] ∧ G' = [At b4 0 (r.h.l.flatMap E32 ++ ([v64 r.count, .slice A5 r.rest.length c6]))]) := by
  unfold sha_New at H
  refine fn_of Tryd.func56 rfl Tryd.ntmps56 rfl ?_
  intro w0 D0 G0
  dsimp only [List.cons_append, List.nil_append, initEnv, Nat.zero_add, Nat.reduceAdd]
  refine s_seq ?_
  refine s_reg [0] rfl ?_
  refine o_pu rfl (ev_assign rfl rfl) (g0 rfl) rfl rfl ?_
  refine o_nil ?_
  refine q_then ?_
  refine s_seq ?_
  refine s_reg [0, 1, 2, 3] rfl ?_
  obtain ⟨r1, Hc2, H⟩ := bind_some' H
  refine oc (k_call (c_sha_first  r1 Hc2) Tryd.call81 rfl rfl rfl [] [] rfl rfl (g0 rfl) rfl rfl ?_)
  rintro _ _ _ ⟨rfl, rfl, rfl⟩
  dsimp only [List.cons_append, List.nil_append]
  refine o_pu rfl (ev_build (cs := r1.l.flatMap E32 ++ ([v64 0, .slice none 0 0])) rfl rfl Tryd.zeroValue147 Tryd.runUnderlying147 pl147 (show Instr.fill _ ((Arr.zero 0 8 : Arr UInt32 8).l.flatMap E32 ++ ([v64 0, .slice none 0 0])).toArray _ = some _ from (fill_cons rfl (s := r1.l.flatMap E32) rfl (arr_len E32_len _ rfl) (spl_head (spl_all ((arr_len E32_len _ rfl).trans (arr_len E32_len _ rfl).symm))) fill_nil))) (g0 rfl) rfl rfl ?_
  refine oc (k_box rfl rfl rfl (cs := r1.l.flatMap E32 ++ ([v64 0, .slice none 0 0])) rfl (g0 rfl) rfl rfl ?_)
  intro b3
  refine o_pu rfl (ev_assign rfl rfl) (g0 rfl) rfl rfl ?_
  refine o_nil ?_
  refine q_then ?_
  refine s_ret ?_
  cases H
  refine k_nil_sl E8 ?_
  exact q_end (rs_1 Tryd.results56 (rv_tmp rfl)) ⟨b3, none, 0, rfl, rfl, rfl⟩ [0] rfl 1 rfl [0] rfl 0 rfl

def sha_long (a0_n : UInt64) : Option (List UInt8) :=
(turn_Bytes ((shr64 (a0_n : UInt64) (32 : UInt64).toNat).toUInt32)).bind fun r1 =>
(turn_Bytes a0_n.toUInt32).bind fun r5 =>
(slices_Concat ([r1, r5] : List (List UInt8))).bind fun r10 =>
some r10

theorem c_sha_long (a0_n : UInt64) (r : (List UInt8)) (H : sha_long a0_n = some r) : Fn Tryd.prog 84 [(v64 a0_n)] [] [] (fun v D' G' => ∃ (A14 : Option Addr) (c15 : Nat), v = (.slice A14 r.length c15) ∧ D' = [Sl E8 A14 c15 r] ∧ G' = [Spare A14 r.length c15 1]) := by
  unfold sha_long at H
  refine fn_of Tryd.func84 rfl Tryd.ntmps84 rfl ?_
  intro w0 D0 G0
  dsimp only [List.cons_append, List.nil_append, initEnv, Nat.zero_add, Nat.reduceAdd]
  refine s_seq ?_
  refine s_reg [0] rfl ?_
  refine o_pu rfl (ev_assign rfl rfl) (g0 rfl) rfl rfl ?_
  refine o_nil ?_
  refine q_then ?_
  refine s_seq ?_
  refine s_reg [0, 1, 2, 3, 4, 5, 6, 7, 8, 9] rfl ?_
  refine o_pu rfl (ev_move rfl rfl) (g0 rfl) rfl rfl ?_
  refine o_pu rfl (ev_bin rfl rfl rfl rfl (shr_64 _ 32)) (g0 rfl) rfl rfl ?_
  refine o_pu rfl (ev_conv rfl rfl (conv_u64_u32 _ Tryd.runUnderlying123 Tryd.runUnderlying143)) (g0 rfl) rfl rfl ?_
  obtain ⟨r1, Hc2, H⟩ := bind_some' H
  refine oc (k_call (c_turn_Bytes ((shr64 (a0_n : UInt64) (32 : UInt64).toNat).toUInt32) r1 Hc2) Tryd.call114 rfl rfl rfl [] [] rfl rfl (g0 rfl) rfl rfl ?_)
  rintro _ _ _ ⟨A3, c4, rfl, rfl, rfl⟩
  dsimp only [List.cons_append, List.nil_append]
  refine o_pu rfl (ev_move rfl rfl) (g0 rfl) rfl rfl ?_
  refine o_pu rfl (ev_conv rfl rfl (conv_u64_u32 _ Tryd.runUnderlying123 Tryd.runUnderlying143)) (g0 rfl) rfl rfl ?_
  obtain ⟨r5, Hc6, H⟩ := bind_some' H
  refine oc (k_call (c_turn_Bytes a0_n.toUInt32 r5 Hc6) Tryd.call114 rfl rfl rfl [] [] rfl rfl (g0 rfl) rfl rfl ?_)
  rintro _ _ _ ⟨A7, c8, rfl, rfl, rfl⟩
  dsimp only [List.cons_append, List.nil_append]
  refine oc (k_buildSlice (f := EV) [.slice A3 r1.length c4, .slice A7 r5.length c8] rfl rfl rfl rfl Tryd.runUnderlying171 Tryd.sizeOf22 Tryd.zeroValue22 rfl rfl (fill_all rfl rfl (by simp) rfl rfl) (g0 rfl) rfl rfl ?_)
  intro b9
  refine k_sls [(A3, c4, r1), (A7, c8, r5)] 0 rfl [2, 1] rfl ?_
  obtain ⟨r10, Hc11, H⟩ := bind_some' H
  refine oc (k_call (c_slices_Concat ([r1, r5] : List (List UInt8)) (some ⟨b9, 0, none⟩) 2 r10 Hc11) Tryd.call82 rfl rfl rfl [0] [] rfl rfl (g0 rfl) rfl rfl ?_)
  rintro _ _ _ ⟨A12, c13, rfl, rfl, rfl⟩
  dsimp only [List.cons_append, List.nil_append]
  refine o_pu rfl (ev_assign rfl rfl) (g0 rfl) rfl rfl ?_
  refine o_nil ?_
  refine q_then ?_
  refine s_ret ?_
  cases H
  exact q_end (rs_1 Tryd.results84 (rv_tmp rfl)) ⟨A12, c13, rfl, rfl, rfl⟩ [0] rfl 5 rfl [0] rfl 0 rfl

def sha_told_l0 (a0_h : Arr UInt32 8) (J2 : (List UInt8) → Option (List UInt8)) : Nat → (List UInt8 × Int) → Option (List UInt8)
  | 0, _ => none
  | k5 + 1, s5 =>
    bif (decide (s5.2 < 8)) then (
    chk (0 ≤ s5.2 ∧ s5.2 < 8) <|
    (turn_Bytes (at' 0 a0_h.l s5.2)).bind fun r8 =>
    chk (s5.1.length + r8.length ≤ 68719476736) <|
    sha_told_l0 a0_h J2 k5 ((s5.1 ++ r8), (wrap64 (s5.2 + 1)))) else (
    J2 s5.1)

def sha_told (a0_h : Arr UInt32 8) : Option (List UInt8) :=
jn (fun (x3 : List UInt8) =>
some x3) fun J2 =>
sha_told_l0 a0_h J2 Fuel ([], 0)

theorem c_sha_told (a0_h : Arr UInt32 8) (r : (List UInt8)) (H : sha_told a0_h = some r) : Fn Tryd.prog 85 [(.agg (a0_h.l.flatMap E32).toArray)] [] [] (fun v D' G' => ∃ (A15 : Option Addr) (c16 : Nat), v = (.slice A15 r.length c16) ∧ D' = [Sl E8 A15 c16 r] ∧ G' = [Spare A15 r.length c16 1]) := by
  unfold sha_told at H
  refine fn_of Tryd.func85 rfl Tryd.ntmps85 rfl ?_
  intro w0 D0 G0
  dsimp only [List.cons_append, List.nil_append, initEnv, Nat.zero_add, Nat.reduceAdd]
  refine s_seq ?_
  refine s_reg [0, 1] rfl ?_
  refine oc (k_box rfl rfl rfl (cs := a0_h.l.flatMap E32) rfl (g0 rfl) rfl rfl ?_)
  intro b1
  refine o_pu rfl (ev_assign rfl rfl) (g0 rfl) rfl rfl ?_
  refine o_nil ?_
  refine q_then ?_
  refine s_seq ?_
  refine s_reg [0] rfl ?_
  refine o_pu rfl (ev_assign rfl rfl) (g0 rfl) rfl rfl ?_
  refine o_nil ?_
  refine q_then ?_
  refine s_seq ?_
  refine s_seq ?_
  refine s_reg [0, 1] rfl ?_
  refine o_ld (hG 0 rfl) rfl (ev_ldN (j := 0) rfl rfl Tryd.isAgg144 (sz (arr_len E32_len _ rfl) Tryd.sizeOf144) (sub_all _) rfl) (g0 rfl) rfl rfl ?_
  refine o_pu rfl (ev_move rfl rfl) (g0 rfl) rfl rfl ?_
  refine o_nil ?_
  refine q_then ?_
  refine q_join (fun (x3 : List UInt8) (y4 : Option Addr × Nat) => ⟨Sl E8 y4.1 y4.2 x3 :: D0, At b1 0 (a0_h.l.flatMap E32) :: Spare y4.1 x3.length y4.2 1 :: G0, [(3, (.slice y4.1 x3.length y4.2))]⟩) H ?_ ?_
  · intro x3 y4 H
    dsimp only
    refine q_then ?_
    refine s_seq ?_
    refine s_reg [0, 1] rfl ?_
    refine o_pu rfl (ev_move rfl rfl) (g0 rfl) rfl rfl ?_
    refine o_pu rfl (ev_assign rfl rfl) (g0 rfl) rfl rfl ?_
    refine o_nil ?_
    refine q_then ?_
    refine s_ret ?_
    cases H
    exact q_end (rs_1 Tryd.results85 (rv_tmp rfl)) ⟨y4.1, y4.2, rfl, rfl, rfl⟩ [0] rfl 1 rfl [1] rfl 1 rfl
  · intro J2 H
    refine s_block ?_
    refine k_nil_sl E8 ?_
    refine k_nil_spare 1 ?_
    refine s_loop (k_wk (loop_ind (fun (s5 : List UInt8 × Int) (y5 : Option Addr × Nat) => ⟨Sl E8 y5.1 y5.2 s5.1 :: D0, At b1 0 (a0_h.l.flatMap E32) :: Spare y5.1 s5.1.length y5.2 1 :: G0, [(3, (.slice y5.1 s5.1.length y5.2)), (6, (.agg (a0_h.l.flatMap E32).toArray)), (7, (vi s5.2))]⟩) (sha_told_l0 a0_h _) _ (fun _ => rfl) ?_ Fuel ([], 0) (none, 0) H) [3, 6, 7] [0] 1 [1, 0] 0 rfl rfl rfl)
    intro k5 s5 y5 ih H
    dsimp only
    rw [sha_told_l0] at H
    refine s_seq ?_
    refine s_reg [0] rfl ?_
    refine o_pu rfl (ev_bin rfl rfl rfl rfl (lss_i _ 8)) (g0 rfl) rfl rfl ?_
    refine o_nil ?_
    refine q_then ?_
    refine s_seq ?_
    refine s_cond rfl ?_ ?_
    · intro hb6
      have H := cnd_t H hb6
      refine s_skip ?_
      refine q_then ?_
      refine s_seq ?_
      refine s_block ?_
      refine s_seq ?_
      refine s_reg [0, 1] rfl ?_
      obtain ⟨hk7, H⟩ := chk_some H
      refine o_pu rfl (ev_index_arr (k := s5.2) (g := v32) 0 rfl rfl rfl Tryd.runUnderlying144 Tryd.sizeOf143 Tryd.isAgg143 E32_len (fun _ => rfl) hk7) (g0 rfl) rfl rfl ?_
      refine o_pu rfl (ev_assign rfl rfl) (g0 rfl) rfl rfl ?_
      refine o_nil ?_
      refine q_then ?_
      refine s_reg [0, 1, 2, 3, 4] rfl ?_
      refine o_pu rfl (ev_move rfl rfl) (g0 rfl) rfl rfl ?_
      refine o_pu rfl (ev_move rfl rfl) (g0 rfl) rfl rfl ?_
      obtain ⟨r8, Hc9, H⟩ := bind_some' H
      refine oc (k_call (c_turn_Bytes (at' 0 a0_h.l s5.2) r8 Hc9) Tryd.call114 rfl rfl rfl [] [] rfl rfl (g0 rfl) rfl rfl ?_)
      rintro _ _ _ ⟨A10, c11, rfl, rfl, rfl⟩
      dsimp only [List.cons_append, List.nil_append]
      obtain ⟨hk14, H⟩ := chk_some H
      refine oc (k_append 1 0 1 rfl rfl rfl rfl rfl rfl rfl E8_len E8_one Tryd.underlying22 Tryd.underlying22 info5 rfl rfl rfl rfl hk14 (g0 rfl) rfl rfl ?_)
      intro A12 c13
      refine o_pu rfl (ev_assign rfl rfl) (g0 rfl) rfl rfl ?_
      refine o_nil ?_
      refine q_block ?_
      refine q_then ?_
      refine s_reg [0, 1] rfl ?_
      refine o_pu rfl (ev_bin rfl rfl rfl rfl (add_i _ 1)) (g0 rfl) rfl rfl ?_
      refine o_pu rfl (ev_move rfl rfl) (g0 rfl) rfl rfl ?_
      refine o_nil ?_
      refine q_loop ?_
      exact k_wk (ih ((s5.1 ++ r8), (wrap64 (s5.2 + 1))) (A12, c13) H) [3, 6, 7] [0] 3 [0, 0] 0 rfl rfl rfl
    · intro hb6
      have H := cnd_f H hb6
      refine s_exit ?_
      refine q_then_x ?_
      refine q_then_x ?_
      refine q_block_x ?_
      exact k_wk (J2 s5.1 (y5.1, y5.2) H) [3] [0] 1 [0, 0] 0 rfl rfl rfl

def turn_Right (a0_x : UInt32) (a1_n : Int) : Option UInt32 :=
(math_bits_RotateLeft32 a0_x (wrap64 (-a1_n))).bind fun r1 =>
some r1

theorem c_turn_Right (a0_x : UInt32) (a1_n : Int) (r : UInt32) (H : turn_Right a0_x a1_n = some r) : Fn Tryd.prog 135 [(v32 a0_x), (vi a1_n)] [] [] (fun v D' G' => v = (v32 r) ∧ D' = [] ∧ G' = []) := by
  unfold turn_Right at H
  refine fn_of Tryd.func135 rfl Tryd.ntmps135 rfl ?_
  intro w0 D0 G0
  dsimp only [List.cons_append, List.nil_append, initEnv, Nat.zero_add, Nat.reduceAdd]
  refine s_seq ?_
  refine s_reg [0] rfl ?_
  refine o_pu rfl (ev_assign rfl rfl) (g0 rfl) rfl rfl ?_
  refine o_nil ?_
  refine q_then ?_
  refine s_seq ?_
  refine s_reg [0, 1, 2, 3, 4] rfl ?_
  refine o_pu rfl (ev_move rfl rfl) (g0 rfl) rfl rfl ?_
  refine o_pu rfl (ev_move rfl rfl) (g0 rfl) rfl rfl ?_
  refine o_pu rfl (ev_un rfl rfl (neg_i _)) (g0 rfl) rfl rfl ?_
  obtain ⟨r1, Hc2, H⟩ := bind_some' H
  refine oc (k_call (c_math_bits_RotateLeft32 a0_x (wrap64 (-a1_n)) r1 Hc2) Tryd.call141 rfl rfl rfl [] [] rfl rfl (g0 rfl) rfl rfl ?_)
  rintro _ _ _ ⟨rfl, rfl, rfl⟩
  dsimp only [List.cons_append, List.nil_append]
  refine o_pu rfl (ev_assign rfl rfl) (g0 rfl) rfl rfl ?_
  refine o_nil ?_
  refine q_then ?_
  refine s_ret ?_
  cases H
  exact q_end (rs_1 Tryd.results135 (rv_tmp rfl)) ⟨rfl, rfl, rfl⟩ [] rfl 0 rfl [] rfl 0 rfl

def manifest_Read (a0_b : List UInt8) : Option (Mani × (List UInt8) × Int) :=
bif ((a0_b.length : Int) != 92) then (
some (Mani.zero, [], 6)) else (
(field_NewReader a0_b).bind fun r5 =>
(field_Reader_Raw (⟨r5.b, r5.bad⟩ : ReaderS) (4 : Int)).bind fun r10 =>
(field_Reader_Raw (⟨r10.2.b, r10.2.bad⟩ : ReaderS) (16 : Int)).bind fun r16 =>
(strings_TrimRight r16.1).bind fun r22 =>
(field_Reader_Num (⟨r16.2.b, r16.2.bad⟩ : ReaderS) (4 : Int)).bind fun r25 =>
(field_Reader_Num (⟨r25.2.b, r25.2.bad⟩ : ReaderS) (4 : Int)).bind fun r29 =>
(field_Reader_Raw (⟨r29.2.b, r29.2.bad⟩ : ReaderS) (32 : Int)).bind fun r33 =>
bnd (!(r10.1 == ([87, 76, 77, 49] : List UInt8))) fun b40 =>
jn (fun x43 =>
bnd x43 fun b44 =>
jn (fun x47 =>
bnd x47 fun b48 =>
jn (fun x51 =>
bif x51 then (
some (Mani.zero, [], 6)) else (
(field_Reader_Raw (⟨r33.2.b, r33.2.bad⟩ : ReaderS) (32 : Int)).bind fun r53 =>
some ({ ({ ({ ((⟨r22, Img.zero⟩ : Mani) : Mani) with Image := { ((⟨r22, Img.zero⟩ : Mani).Image : Img) with Version := r25.1 } } : Mani) with Image := { (({ ((⟨r22, Img.zero⟩ : Mani) : Mani) with Image := { ((⟨r22, Img.zero⟩ : Mani).Image : Img) with Version := r25.1 } }).Image : Img) with Size := r29.1 } } : Mani) with Image := { (({ ({ ((⟨r22, Img.zero⟩ : Mani) : Mani) with Image := { ((⟨r22, Img.zero⟩ : Mani).Image : Img) with Version := r25.1 } } : Mani) with Image := { (({ ((⟨r22, Img.zero⟩ : Mani) : Mani) with Image := { ((⟨r22, Img.zero⟩ : Mani).Image : Img) with Version := r25.1 } }).Image : Img) with Size := r29.1 } }).Image : Img) with Digest := (Arr.cpy ((({ ({ ((⟨r22, Img.zero⟩ : Mani) : Mani) with Image := { ((⟨r22, Img.zero⟩ : Mani).Image : Img) with Version := r25.1 } } : Mani) with Image := { (({ ((⟨r22, Img.zero⟩ : Mani) : Mani) with Image := { ((⟨r22, Img.zero⟩ : Mani).Image : Img) with Version := r25.1 } }).Image : Img) with Size := r29.1 } }).Image).Digest) r33.1) } }, r53.1, 0))) fun J50 =>
bif b48 then (
J50 true) else
(manifest_number ((({ ({ ({ ((⟨r22, Img.zero⟩ : Mani) : Mani) with Image := { ((⟨r22, Img.zero⟩ : Mani).Image : Img) with Version := r25.1 } } : Mani) with Image := { (({ ((⟨r22, Img.zero⟩ : Mani) : Mani) with Image := { ((⟨r22, Img.zero⟩ : Mani).Image : Img) with Version := r25.1 } }).Image : Img) with Size := r29.1 } } : Mani) with Image := { (({ ({ ((⟨r22, Img.zero⟩ : Mani) : Mani) with Image := { ((⟨r22, Img.zero⟩ : Mani).Image : Img) with Version := r25.1 } } : Mani) with Image := { (({ ((⟨r22, Img.zero⟩ : Mani) : Mani) with Image := { ((⟨r22, Img.zero⟩ : Mani).Image : Img) with Version := r25.1 } }).Image : Img) with Size := r29.1 } }).Image : Img) with Digest := (Arr.cpy ((({ ({ ((⟨r22, Img.zero⟩ : Mani) : Mani) with Image := { ((⟨r22, Img.zero⟩ : Mani).Image : Img) with Version := r25.1 } } : Mani) with Image := { (({ ((⟨r22, Img.zero⟩ : Mani) : Mani) with Image := { ((⟨r22, Img.zero⟩ : Mani).Image : Img) with Version := r25.1 } }).Image : Img) with Size := r29.1 } }).Image).Digest) r33.1) } }).Image).Size)).bind fun r59 =>
J50 (!r59)) fun J46 =>
bif b44 then (
J46 true) else
(manifest_number ((({ ({ ({ ((⟨r22, Img.zero⟩ : Mani) : Mani) with Image := { ((⟨r22, Img.zero⟩ : Mani).Image : Img) with Version := r25.1 } } : Mani) with Image := { (({ ((⟨r22, Img.zero⟩ : Mani) : Mani) with Image := { ((⟨r22, Img.zero⟩ : Mani).Image : Img) with Version := r25.1 } }).Image : Img) with Size := r29.1 } } : Mani) with Image := { (({ ({ ((⟨r22, Img.zero⟩ : Mani) : Mani) with Image := { ((⟨r22, Img.zero⟩ : Mani).Image : Img) with Version := r25.1 } } : Mani) with Image := { (({ ((⟨r22, Img.zero⟩ : Mani) : Mani) with Image := { ((⟨r22, Img.zero⟩ : Mani).Image : Img) with Version := r25.1 } }).Image : Img) with Size := r29.1 } }).Image : Img) with Digest := (Arr.cpy ((({ ({ ((⟨r22, Img.zero⟩ : Mani) : Mani) with Image := { ((⟨r22, Img.zero⟩ : Mani).Image : Img) with Version := r25.1 } } : Mani) with Image := { (({ ((⟨r22, Img.zero⟩ : Mani) : Mani) with Image := { ((⟨r22, Img.zero⟩ : Mani).Image : Img) with Version := r25.1 } }).Image : Img) with Size := r29.1 } }).Image).Digest) r33.1) } }).Image).Version)).bind fun r61 =>
J46 (!r61)) fun J42 =>
bif b40 then (
J42 true) else
(names_Valid (({ ({ ({ ((⟨r22, Img.zero⟩ : Mani) : Mani) with Image := { ((⟨r22, Img.zero⟩ : Mani).Image : Img) with Version := r25.1 } } : Mani) with Image := { (({ ((⟨r22, Img.zero⟩ : Mani) : Mani) with Image := { ((⟨r22, Img.zero⟩ : Mani).Image : Img) with Version := r25.1 } }).Image : Img) with Size := r29.1 } } : Mani) with Image := { (({ ({ ((⟨r22, Img.zero⟩ : Mani) : Mani) with Image := { ((⟨r22, Img.zero⟩ : Mani).Image : Img) with Version := r25.1 } } : Mani) with Image := { (({ ((⟨r22, Img.zero⟩ : Mani) : Mani) with Image := { ((⟨r22, Img.zero⟩ : Mani).Image : Img) with Version := r25.1 } }).Image : Img) with Size := r29.1 } }).Image : Img) with Digest := (Arr.cpy ((({ ({ ((⟨r22, Img.zero⟩ : Mani) : Mani) with Image := { ((⟨r22, Img.zero⟩ : Mani).Image : Img) with Version := r25.1 } } : Mani) with Image := { (({ ((⟨r22, Img.zero⟩ : Mani) : Mani) with Image := { ((⟨r22, Img.zero⟩ : Mani).Image : Img) with Version := r25.1 } }).Image : Img) with Size := r29.1 } }).Image).Digest) r33.1) } }).Name)).bind fun r63 =>
J42 (!r63))

theorem c_manifest_Read (a0_b : List UInt8) (A1 : Option Addr) (c2 : Nat) (r : Mani × (List UInt8) × Int) (H : manifest_Read a0_b = some r) : Fn Tryd.prog 11 [(.slice A1 a0_b.length c2)] [Sl E8 A1 c2 a0_b] [] (fun v D' G' => ∃ (A65 : Option Addr) (c66 : Nat), v = (.tuple #[(.agg (Mani.cells r.1).toArray), (.slice A65 r.2.1.length c66), (vi r.2.2)]) ∧ D' = [Sl E8 A65 c66 r.2.1] ∧ G' = [Spare A65 r.2.1.length c66 1]) := by
  unfold manifest_Read at H
  refine fn_of Tryd.func11 rfl Tryd.ntmps11 rfl ?_
  intro w0 D0 G0
  dsimp only [List.cons_append, List.nil_append, initEnv, Nat.zero_add, Nat.reduceAdd]
  refine s_seq ?_
  refine s_reg [0, 1, 2] rfl ?_
  refine oc (k_alloc rfl rfl Tryd.zeroValue27 (cs := Mani.cells Mani.zero) rfl (g0 rfl) rfl rfl ?_)
  intro b3
  refine o_pu rfl (ev_assign rfl rfl) (g0 rfl) rfl rfl ?_
  refine o_pu rfl (ev_assign rfl rfl) (g0 rfl) rfl rfl ?_
  refine o_nil ?_
  refine q_then ?_
  refine s_seq ?_
  refine s_seq ?_
  refine s_reg [0, 1, 2] rfl ?_
  refine o_pu rfl (ev_move rfl rfl) (g0 rfl) rfl rfl ?_
  refine o_pu rfl (ev_len_slice rfl rfl Tryd.runUnderlying22) (g0 rfl) rfl rfl ?_
  refine o_pu rfl (ev_bin rfl rfl rfl rfl (neq_i _ 92)) (g0 rfl) rfl rfl ?_
  refine o_nil ?_
  refine q_then ?_
  refine s_cond rfl ?_ ?_
  · intro hb4
    have H := cnd_t H hb4
    refine s_seq ?_
    refine s_reg [0, 1, 2, 3] rfl ?_
    refine o_pu rfl (ev_build (cs := Mani.cells Mani.zero) rfl rfl Tryd.zeroValue27 Tryd.runUnderlying27 pl27 (show Instr.fill _ (Mani.cells Mani.zero).toArray _ = some _ from fill_nil)) (g0 rfl) rfl rfl ?_
    refine oc (k_st (j := 0) rfl rfl rfl rfl (vs := Mani.cells Mani.zero) rfl (sz (Mani.len _) Tryd.sizeOf27) (Mani.sc _) 0 rfl (spl_all ((Mani.len _).trans (Mani.len _).symm)) rfl (g0 rfl) rfl ?_)
    refine o_pu rfl (ev_assign rfl rfl) (g0 rfl) rfl rfl ?_
    refine o_pu rfl (ev_assign rfl rfl) (g0 rfl) rfl rfl ?_
    refine o_nil ?_
    refine q_then ?_
    refine s_ret ?_
    refine q_then_r ?_
    cases H
    refine k_nil_sl E8 ?_
    refine k_nil_spare 1 ?_
    exact q_end (rs_3 Tryd.results11 (rv_cell (j := 0) rfl (hG 1 rfl) Tryd.isAgg27 (sz (Mani.len _) Tryd.sizeOf27) (sub_all _) rfl) (rv_tmp rfl) (rv_tmp rfl)) ⟨none, 0, rfl, rfl, rfl⟩ [0] rfl 2 rfl [0] rfl 1 rfl
  · intro hb4
    have H := cnd_f H hb4
    refine s_skip ?_
    refine q_then ?_
    refine s_seq ?_
    refine s_reg [0, 1, 2] rfl ?_
    refine o_pu rfl (ev_move rfl rfl) (g0 rfl) rfl rfl ?_
    obtain ⟨r5, Hc6, H⟩ := bind_some' H
    refine oc (k_call (c_field_NewReader a0_b A1 c2 r5 Hc6) Tryd.call27 rfl rfl rfl [0] [] rfl rfl (g0 rfl) rfl rfl ?_)
    rintro _ _ _ ⟨b7, A8, c9, rfl, rfl, rfl⟩
    dsimp only [List.cons_append, List.nil_append]
    refine o_pu rfl (ev_assign rfl rfl) (g0 rfl) rfl rfl ?_
    refine o_nil ?_
    refine q_then ?_
    refine s_seq ?_
    refine s_reg [0, 1, 2, 3, 4] rfl ?_
    refine o_pu rfl (ev_move rfl rfl) (g0 rfl) rfl rfl ?_
    obtain ⟨r10, Hc11, H⟩ := bind_some' H
    refine oc (k_call (c_field_Reader_Raw b7 (⟨r5.b, r5.bad⟩ : ReaderS) A8 c9 4 r10 Hc11) Tryd.call28 rfl rfl rfl [0] [0] rfl rfl (g0 rfl) rfl rfl ?_)
    rintro _ _ _ ⟨A12, c13, A14, c15, rfl, rfl, rfl⟩
    dsimp only [List.cons_append, List.nil_append]
    refine o_ld (hSl 1 rfl) rfl (ev_bytes_string rfl rfl Tryd.runUnderlying22 Tryd.runUnderlying9 Tryd.runUnderlying5) (g0 rfl) rfl rfl ?_
    refine o_pu rfl (ev_bin rfl rfl (show _ = some (vs ([87, 76, 77, 49] : List UInt8)) from rfl) rfl (eql_s _ ([87, 76, 77, 49] : List UInt8))) (g0 rfl) rfl rfl ?_
    refine o_pu rfl (ev_assign rfl rfl) (g0 rfl) rfl rfl ?_
    refine o_nil ?_
    refine q_then ?_
    refine s_seq ?_
    refine s_reg [0, 1, 2, 3, 4, 5, 6] rfl ?_
    refine o_pu rfl (ev_move rfl rfl) (g0 rfl) rfl rfl ?_
    obtain ⟨r16, Hc17, H⟩ := bind_some' H
    refine oc (k_call (c_field_Reader_Raw b7 (⟨r10.2.b, r10.2.bad⟩ : ReaderS) A14 c15 16 r16 Hc17) Tryd.call28 rfl rfl rfl [0] [1] rfl rfl (g0 rfl) rfl rfl ?_)
    rintro _ _ _ ⟨A18, c19, A20, c21, rfl, rfl, rfl⟩
    dsimp only [List.cons_append, List.nil_append]
    refine o_ld (hSl 1 rfl) rfl (ev_bytes_string rfl rfl Tryd.runUnderlying22 Tryd.runUnderlying9 Tryd.runUnderlying5) (g0 rfl) rfl rfl ?_
    obtain ⟨r22, Hc23, H⟩ := bind_some' H
    refine oc (k_call (c_strings_TrimRight r16.1 r22 Hc23) Tryd.call29 rfl rfl rfl [] [] rfl rfl (g0 rfl) rfl rfl ?_)
    rintro _ _ _ ⟨rfl, rfl, rfl⟩
    dsimp only [List.cons_append, List.nil_append]
    refine o_pu rfl (ev_build (cs := Mani.cells (⟨r22, Img.zero⟩ : Mani)) rfl rfl Tryd.zeroValue27 Tryd.runUnderlying27 pl27 (show Instr.fill _ (Mani.cells Mani.zero).toArray _ = some _ from (fill_cons rfl (s := [vs r22]) rfl rfl (Mani.set_Name _ r22) fill_nil))) (g0 rfl) rfl rfl ?_
    refine oc (k_alloc rfl rfl Tryd.zeroValue27 (cs := Mani.cells Mani.zero) rfl (g0 rfl) rfl rfl ?_)
    intro b24
    refine oc (k_st (j := 0) rfl rfl rfl rfl (vs := Mani.cells (⟨r22, Img.zero⟩ : Mani)) rfl (sz (Mani.len _) Tryd.sizeOf27) (Mani.sc _) 0 rfl (spl_all ((Mani.len _).trans (Mani.len _).symm)) rfl (g0 rfl) rfl ?_)
    refine o_nil ?_
    refine q_then ?_
    refine s_seq ?_
    refine s_reg [0, 1, 2, 3, 4] rfl ?_
    refine o_pu rfl (ev_move rfl rfl) (g0 rfl) rfl rfl ?_
    obtain ⟨r25, Hc26, H⟩ := bind_some' H
    refine oc (k_call (c_field_Reader_Num b7 (⟨r16.2.b, r16.2.bad⟩ : ReaderS) A20 c21 4 r25 Hc26) Tryd.call30 rfl rfl rfl [0] [2] rfl rfl (g0 rfl) rfl rfl ?_)
    rintro _ _ _ ⟨A27, c28, rfl, rfl, rfl⟩
    dsimp only [List.cons_append, List.nil_append]
    refine o_pu rfl (ev_fieldAddr rfl rfl Tryd.runUnderlying27 rfl Tryd.sizeOf25 rfl rfl) (g0 rfl) rfl rfl ?_
    refine o_pu rfl (ev_fieldAddr rfl rfl Tryd.runUnderlying25 rfl Tryd.sizeOf3 rfl rfl) (g0 rfl) rfl rfl ?_
    refine oc (k_st (j := 1) rfl rfl rfl rfl (vs := [vi r25.1]) rfl (sz rfl Tryd.sizeOf3) rfl 1 rfl (spl_in (Mani.sub_Image _) (Img.set_Version _ r25.1) (Mani.set_Image _ _) rfl) rfl (g0 rfl) rfl ?_)
    refine o_nil ?_
    refine q_then ?_
    refine s_seq ?_
    refine s_reg [0, 1, 2, 3, 4] rfl ?_
    refine o_pu rfl (ev_move rfl rfl) (g0 rfl) rfl rfl ?_
    obtain ⟨r29, Hc30, H⟩ := bind_some' H
    refine oc (k_call (c_field_Reader_Num b7 (⟨r25.2.b, r25.2.bad⟩ : ReaderS) A27 c28 4 r29 Hc30) Tryd.call30 rfl rfl rfl [0] [0] rfl rfl (g0 rfl) rfl rfl ?_)
    rintro _ _ _ ⟨A31, c32, rfl, rfl, rfl⟩
    dsimp only [List.cons_append, List.nil_append]
    refine o_pu rfl (ev_fieldAddr rfl rfl Tryd.runUnderlying27 rfl Tryd.sizeOf25 rfl rfl) (g0 rfl) rfl rfl ?_
    refine o_pu rfl (ev_fieldAddr rfl rfl Tryd.runUnderlying25 rfl Tryd.sizeOf3 rfl rfl) (g0 rfl) rfl rfl ?_
    refine oc (k_st (j := 2) rfl rfl rfl rfl (vs := [vi r29.1]) rfl (sz rfl Tryd.sizeOf3) rfl 1 rfl (spl_in (Mani.sub_Image _) (Img.set_Size _ r29.1) (Mani.set_Image _ _) rfl) rfl (g0 rfl) rfl ?_)
    refine o_nil ?_
    refine q_then ?_
    refine s_seq ?_
    refine s_draw mixed [] ?_
    refine a_pu 0 rfl (ev_fieldAddr rfl rfl Tryd.runUnderlying27 rfl Tryd.sizeOf25 rfl rfl) (by rfl) (by kernel_rfl) (by kernel_rfl) (by kernel_rfl) (fun _ _ _ h => h) (g0 rfl) rfl rfl ?_
    refine a_pu 1 rfl (ev_fieldAddr rfl rfl Tryd.runUnderlying25 rfl Tryd.sizeOf23 rfl rfl) (by rfl) (by kernel_rfl) (by kernel_rfl) (by kernel_rfl) (fun _ _ _ h => h) (g0 rfl) rfl rfl ?_
    refine a_pu 2 rfl (ev_slice_arr rfl rfl Tryd.runUnderlying23 Tryd.sizeOf5) (by rfl) (by kernel_rfl) (by kernel_rfl) (by kernel_rfl) (fun _ _ _ h => h) (g0 rfl) rfl rfl ?_
    refine a_pu 3 rfl (ev_move rfl rfl) (by rfl) (by kernel_rfl) (by kernel_rfl) (by kernel_rfl) (fun _ _ _ h => h) (g0 rfl) rfl rfl ?_
    obtain ⟨r33, Hc34, H⟩ := bind_some' H
    refine ac 4 (by kernel_rfl) sl_nil (k_call (c_field_Reader_Raw b7 (⟨r29.2.b, r29.2.bad⟩ : ReaderS) A31 c32 32 r33 Hc34) Tryd.call28 rfl rfl rfl [0] [0] rfl rfl (g0 rfl) rfl rfl ?_)
    rintro _ _ _ ⟨A35, c36, A37, c38, rfl, rfl, rfl⟩
    dsimp only [List.cons_append, List.nil_append]
    refine ac 5 (by kernel_rfl) sl_nil (k_copy (xs := ((({ ({ ((⟨r22, Img.zero⟩ : Mani) : Mani) with Image := { ((⟨r22, Img.zero⟩ : Mani).Image : Img) with Version := r25.1 } } : Mani) with Image := { (({ ((⟨r22, Img.zero⟩ : Mani) : Mani) with Image := { ((⟨r22, Img.zero⟩ : Mani).Image : Img) with Version := r25.1 } }).Image : Img) with Size := r29.1 } }).Image).Digest).l) (j := 3) rfl rfl rfl rfl Tryd.underlying22 info5 rfl E8_len E8_one 2 rfl 1 rfl ((({ ({ ((⟨r22, Img.zero⟩ : Mani) : Mani) with Image := { ((⟨r22, Img.zero⟩ : Mani).Image : Img) with Version := r25.1 } } : Mani) with Image := { (({ ((⟨r22, Img.zero⟩ : Mani) : Mani) with Image := { ((⟨r22, Img.zero⟩ : Mani).Image : Img) with Version := r25.1 } }).Image : Img) with Size := r29.1 } }).Image).Digest).len (sub_sub (Mani.sub_Image _) (Img.sub_Digest _) rfl) (spl_in (Mani.sub_Image _) (Img.set_Digest _ (Arr.cpy ((({ ({ ((⟨r22, Img.zero⟩ : Mani) : Mani) with Image := { ((⟨r22, Img.zero⟩ : Mani).Image : Img) with Version := r25.1 } } : Mani) with Image := { (({ ((⟨r22, Img.zero⟩ : Mani) : Mani) with Image := { ((⟨r22, Img.zero⟩ : Mani).Image : Img) with Version := r25.1 } }).Image : Img) with Size := r29.1 } }).Image).Digest) r33.1)) (Mani.set_Image _ _) rfl) rfl (g0 rfl) rfl rfl ?_)
    refine a_done (by kernel_rfl) sl_nil ?_
    refine q_then ?_
    refine s_seq ?_
    refine s_seq ?_
    refine s_reg [0, 1, 2, 3, 4, 5, 6, 7, 8, 9, 10, 11, 12, 13, 14, 15, 16, 17, 18, 19, 20, 21] rfl ?_
    refine o_pu rfl (ev_move rfl rfl) (g0 rfl) rfl rfl ?_
    refine o_pu rfl (ev_not rfl rfl) (g0 rfl) rfl rfl ?_
    refine o_pu rfl (ev_move rfl rfl) (g0 rfl) rfl rfl ?_
    refine k_name 39 rfl ?_
    intro b40 hb41
    have H := bnd_eq H hb41
    refine o_jb 44 [8, 9, 10, 11, 12, 13, 14, 15, 16, 17, 18, 19, 20, 21] [0, 2, 3, 4, 5, 6, 7, 8, 9, 10, 12, 13, 14, 15, 16, 17, 18, 19, 20, 21, 22, 23, 24, 25, 26, 27, 28, 29, 30, 31, 32, 33, 34, 35, 36, 37, 38, 39] H rfl ?_ ?_
    · intro x43 H
      refine o_pu rfl (ev_move rfl rfl) (g0 rfl) rfl rfl ?_
      refine k_name 45 rfl ?_
      intro b44 hb45
      have H := bnd_eq H hb45
      refine o_jb 51 [15, 16, 17, 18, 19, 20, 21] [0, 2, 3, 4, 5, 6, 7, 8, 9, 10, 12, 13, 14, 15, 16, 17, 18, 19, 20, 21, 22, 23, 24, 25, 26, 27, 28, 29, 30, 31, 32, 33, 34, 35, 36, 37, 38, 39, 44, 45] H rfl ?_ ?_
      · intro x47 H
        refine o_pu rfl (ev_move rfl rfl) (g0 rfl) rfl rfl ?_
        refine k_name 52 rfl ?_
        intro b48 hb49
        have H := bnd_eq H hb49
        refine o_jb 58 [] [0, 2, 3, 4, 5, 6, 7, 8, 9, 10, 12, 13, 14, 15, 16, 17, 18, 19, 20, 21, 22, 23, 24, 25, 26, 27, 28, 29, 30, 31, 32, 33, 34, 35, 36, 37, 38, 39, 44, 45, 51, 52] H rfl ?_ ?_
        · intro x51 H
          refine o_nil ?_
          refine q_then ?_
          refine s_cond rfl ?_ ?_
          · intro hb52
            have H := cnd_t H hb52
            refine s_seq ?_
            refine s_reg [0, 1, 2, 3] rfl ?_
            refine o_pu rfl (ev_build (cs := Mani.cells Mani.zero) rfl rfl Tryd.zeroValue27 Tryd.runUnderlying27 pl27 (show Instr.fill _ (Mani.cells Mani.zero).toArray _ = some _ from fill_nil)) (g0 rfl) rfl rfl ?_
            refine oc (k_st (j := 0) rfl rfl rfl rfl (vs := Mani.cells Mani.zero) rfl (sz (Mani.len _) Tryd.sizeOf27) (Mani.sc _) 5 rfl (spl_all ((Mani.len _).trans (Mani.len _).symm)) rfl (g0 rfl) rfl ?_)
            refine o_pu rfl (ev_assign rfl rfl) (g0 rfl) rfl rfl ?_
            refine o_pu rfl (ev_assign rfl rfl) (g0 rfl) rfl rfl ?_
            refine o_nil ?_
            refine q_then ?_
            refine s_ret ?_
            refine q_then_r ?_
            cases H
            refine k_nil_sl E8 ?_
            refine k_nil_spare 1 ?_
            exact q_end (rs_3 Tryd.results11 (rv_cell (j := 0) rfl (hG 6 rfl) Tryd.isAgg27 (sz (Mani.len _) Tryd.sizeOf27) (sub_all _) rfl) (rv_tmp rfl) (rv_tmp rfl)) ⟨none, 0, rfl, rfl, rfl⟩ [0] rfl 11 rfl [0] rfl 6 rfl
          · intro hb52
            have H := cnd_f H hb52
            refine s_skip ?_
            refine q_then ?_
            refine s_seq ?_
            refine s_draw mixed [(0, [3], Has b24 0 (Mani.cells ({ ({ ({ ((⟨r22, Img.zero⟩ : Mani) : Mani) with Image := { ((⟨r22, Img.zero⟩ : Mani).Image : Img) with Version := r25.1 } } : Mani) with Image := { (({ ((⟨r22, Img.zero⟩ : Mani) : Mani) with Image := { ((⟨r22, Img.zero⟩ : Mani).Image : Img) with Version := r25.1 } }).Image : Img) with Size := r29.1 } } : Mani) with Image := { (({ ({ ((⟨r22, Img.zero⟩ : Mani) : Mani) with Image := { ((⟨r22, Img.zero⟩ : Mani).Image : Img) with Version := r25.1 } } : Mani) with Image := { (({ ((⟨r22, Img.zero⟩ : Mani) : Mani) with Image := { ((⟨r22, Img.zero⟩ : Mani).Image : Img) with Version := r25.1 } }).Image : Img) with Size := r29.1 } }).Image : Img) with Digest := (Arr.cpy ((({ ({ ((⟨r22, Img.zero⟩ : Mani) : Mani) with Image := { ((⟨r22, Img.zero⟩ : Mani).Image : Img) with Version := r25.1 } } : Mani) with Image := { (({ ((⟨r22, Img.zero⟩ : Mani) : Mani) with Image := { ((⟨r22, Img.zero⟩ : Mani).Image : Img) with Version := r25.1 } }).Image : Img) with Size := r29.1 } }).Image).Digest) r33.1) } })))] ?_
            refine a_ld 0 0 rfl rfl (ev_ldN (j := 0) rfl rfl Tryd.isAgg27 (sz (Mani.len _) Tryd.sizeOf27) (sub_all _) rfl) (by kernel_rfl) (by rfl) (by kernel_rfl) (by kernel_rfl) (by kernel_rfl) (by kernel_rfl) (fun _ _ _ h => h) (g0 rfl) rfl rfl ?_
            refine a_pu 1 rfl (ev_move rfl rfl) (by rfl) (by kernel_rfl) (by kernel_rfl) (by kernel_rfl) (fun _ _ _ h => h) (g0 rfl) rfl rfl ?_
            obtain ⟨r53, Hc54, H⟩ := bind_some' H
            refine ac 2 (by kernel_rfl) (sl_cons (hG 2 rfl) sl_nil) (k_call (c_field_Reader_Raw b7 (⟨r33.2.b, r33.2.bad⟩ : ReaderS) A37 c38 32 r53 Hc54) Tryd.call28 rfl rfl rfl [0] [1] rfl rfl (g0 rfl) rfl rfl ?_)
            rintro _ _ _ ⟨A55, c56, A57, c58, rfl, rfl, rfl⟩
            dsimp only [List.cons_append, List.nil_append]
            refine ac 3 (by kernel_rfl) (sl_cons (hG 3 rfl) sl_nil) (k_st (j := 0) rfl rfl rfl rfl (vs := Mani.cells ({ ({ ({ ((⟨r22, Img.zero⟩ : Mani) : Mani) with Image := { ((⟨r22, Img.zero⟩ : Mani).Image : Img) with Version := r25.1 } } : Mani) with Image := { (({ ((⟨r22, Img.zero⟩ : Mani) : Mani) with Image := { ((⟨r22, Img.zero⟩ : Mani).Image : Img) with Version := r25.1 } }).Image : Img) with Size := r29.1 } } : Mani) with Image := { (({ ({ ((⟨r22, Img.zero⟩ : Mani) : Mani) with Image := { ((⟨r22, Img.zero⟩ : Mani).Image : Img) with Version := r25.1 } } : Mani) with Image := { (({ ((⟨r22, Img.zero⟩ : Mani) : Mani) with Image := { ((⟨r22, Img.zero⟩ : Mani).Image : Img) with Version := r25.1 } }).Image : Img) with Size := r29.1 } }).Image : Img) with Digest := (Arr.cpy ((({ ({ ((⟨r22, Img.zero⟩ : Mani) : Mani) with Image := { ((⟨r22, Img.zero⟩ : Mani).Image : Img) with Version := r25.1 } } : Mani) with Image := { (({ ((⟨r22, Img.zero⟩ : Mani) : Mani) with Image := { ((⟨r22, Img.zero⟩ : Mani).Image : Img) with Version := r25.1 } }).Image : Img) with Size := r29.1 } }).Image).Digest) r33.1) } })) rfl (sz (Mani.len _) Tryd.sizeOf27) (Mani.sc _) 6 rfl (spl_all ((Mani.len _).trans (Mani.len _).symm)) rfl (g0 rfl) rfl ?_)
            refine a_pu 4 rfl (ev_assign rfl rfl) (by rfl) (by kernel_rfl) (by kernel_rfl) (by kernel_rfl) (fun _ _ _ h => h) (g0 rfl) rfl rfl ?_
            refine a_pu 5 rfl (ev_assign rfl rfl) (by rfl) (by kernel_rfl) (by kernel_rfl) (by kernel_rfl) (fun _ _ _ h => h) (g0 rfl) rfl rfl ?_
            refine a_done (by kernel_rfl) (sl_end (by kernel_rfl) sl_nil) ?_
            refine q_then ?_
            refine s_ret ?_
            cases H
            exact q_end (rs_3 Tryd.results11 (rv_cell (j := 0) rfl (hG 6 rfl) Tryd.isAgg27 (sz (Mani.len _) Tryd.sizeOf27) (sub_all _) rfl) (rv_tmp rfl) (rv_tmp rfl)) ⟨A55, c56, rfl, rfl, rfl⟩ [1] rfl 12 rfl [0] rfl 6 rfl
        · intro J50 H
          cases b48 with
          | true =>
            rw [cond_true] at H
            refine o_gnot rfl rfl rfl rfl rfl rfl rfl rfl ?_
            refine o_gnot rfl rfl rfl rfl rfl rfl rfl rfl ?_
            refine o_gnot rfl rfl rfl rfl rfl rfl rfl rfl ?_
            refine o_gnot rfl rfl rfl rfl rfl rfl rfl rfl ?_
            refine o_gnot rfl rfl rfl rfl rfl rfl rfl rfl ?_
            refine o_pu rfl (ev_pick_t rfl rfl rfl) (g0 rfl) rfl rfl ?_
            exact k_wk (J50 true H) [58, 0, 2, 3, 4, 5, 6, 7, 8, 9, 10, 12, 13, 14, 15, 16, 17, 18, 19, 20, 21, 22, 23, 24, 25, 26, 27, 28, 29, 30, 31, 32, 33, 34, 35, 36, 37, 38, 39, 44, 45, 51, 52] [0, 1, 2, 3, 4, 5, 6, 7, 8, 9] 10 [0, 0, 0, 0, 0, 0] 0 rfl rfl rfl
          | false =>
            rw [cond_false] at H
            refine o_pu rfl (ev_fieldAddr rfl rfl Tryd.runUnderlying27 rfl Tryd.sizeOf25 rfl rfl) (g1 rfl rfl rfl rfl) rfl rfl ?_
            refine o_pu rfl (ev_fieldAddr rfl rfl Tryd.runUnderlying25 rfl Tryd.sizeOf3 rfl rfl) (g1 rfl rfl rfl rfl) rfl rfl ?_
            refine o_ld (hG 2 rfl) rfl (ev_ld1 (j := 2) rfl rfl Tryd.isAgg3 (sub_sub (Mani.sub_Image _) (Img.sub_Size _) rfl) rfl) (g1 rfl rfl rfl rfl) rfl rfl ?_
            obtain ⟨r59, Hc60, H⟩ := bind_some' H
            refine oc (k_call (c_manifest_number ((({ ({ ({ ((⟨r22, Img.zero⟩ : Mani) : Mani) with Image := { ((⟨r22, Img.zero⟩ : Mani).Image : Img) with Version := r25.1 } } : Mani) with Image := { (({ ((⟨r22, Img.zero⟩ : Mani) : Mani) with Image := { ((⟨r22, Img.zero⟩ : Mani).Image : Img) with Version := r25.1 } }).Image : Img) with Size := r29.1 } } : Mani) with Image := { (({ ({ ((⟨r22, Img.zero⟩ : Mani) : Mani) with Image := { ((⟨r22, Img.zero⟩ : Mani).Image : Img) with Version := r25.1 } } : Mani) with Image := { (({ ((⟨r22, Img.zero⟩ : Mani) : Mani) with Image := { ((⟨r22, Img.zero⟩ : Mani).Image : Img) with Version := r25.1 } }).Image : Img) with Size := r29.1 } }).Image : Img) with Digest := (Arr.cpy ((({ ({ ((⟨r22, Img.zero⟩ : Mani) : Mani) with Image := { ((⟨r22, Img.zero⟩ : Mani).Image : Img) with Version := r25.1 } } : Mani) with Image := { (({ ((⟨r22, Img.zero⟩ : Mani) : Mani) with Image := { ((⟨r22, Img.zero⟩ : Mani).Image : Img) with Version := r25.1 } }).Image : Img) with Size := r29.1 } }).Image).Digest) r33.1) } }).Image).Size) r59 Hc60) Tryd.call32 rfl rfl rfl [] [] rfl rfl (g1 rfl rfl rfl rfl) rfl rfl ?_)
            rintro _ _ _ ⟨rfl, rfl, rfl⟩
            dsimp only [List.cons_append, List.nil_append]
            refine o_pu rfl (ev_not rfl rfl) (g1 rfl rfl rfl rfl) rfl rfl ?_
            refine o_pu rfl (ev_pick_f rfl rfl rfl) (g0 rfl) rfl rfl ?_
            exact k_wk (J50 (!r59) H) [58, 0, 2, 3, 4, 5, 6, 7, 8, 9, 10, 12, 13, 14, 15, 16, 17, 18, 19, 20, 21, 22, 23, 24, 25, 26, 27, 28, 29, 30, 31, 32, 33, 34, 35, 36, 37, 38, 39, 44, 45, 51, 52] [0, 1, 2, 3, 4, 5, 6, 7, 8, 9] 10 [0, 0, 0, 0, 0, 0] 0 rfl rfl rfl
      · intro J46 H
        cases b44 with
        | true =>
          rw [cond_true] at H
          refine o_gnot rfl rfl rfl rfl rfl rfl rfl rfl ?_
          refine o_gnot rfl rfl rfl rfl rfl rfl rfl rfl ?_
          refine o_gnot rfl rfl rfl rfl rfl rfl rfl rfl ?_
          refine o_gnot rfl rfl rfl rfl rfl rfl rfl rfl ?_
          refine o_gnot rfl rfl rfl rfl rfl rfl rfl rfl ?_
          refine o_pu rfl (ev_pick_t rfl rfl rfl) (g0 rfl) rfl rfl ?_
          exact k_wk (J46 true H) [51, 0, 2, 3, 4, 5, 6, 7, 8, 9, 10, 12, 13, 14, 15, 16, 17, 18, 19, 20, 21, 22, 23, 24, 25, 26, 27, 28, 29, 30, 31, 32, 33, 34, 35, 36, 37, 38, 39, 44, 45] [0, 1, 2, 3, 4, 5, 6, 7, 8, 9] 10 [0, 0, 0, 0, 0, 0] 0 rfl rfl rfl
        | false =>
          rw [cond_false] at H
          refine o_pu rfl (ev_fieldAddr rfl rfl Tryd.runUnderlying27 rfl Tryd.sizeOf25 rfl rfl) (g1 rfl rfl rfl rfl) rfl rfl ?_
          refine o_pu rfl (ev_fieldAddr rfl rfl Tryd.runUnderlying25 rfl Tryd.sizeOf3 rfl rfl) (g1 rfl rfl rfl rfl) rfl rfl ?_
          refine o_ld (hG 2 rfl) rfl (ev_ld1 (j := 1) rfl rfl Tryd.isAgg3 (sub_sub (Mani.sub_Image _) (Img.sub_Version _) rfl) rfl) (g1 rfl rfl rfl rfl) rfl rfl ?_
          obtain ⟨r61, Hc62, H⟩ := bind_some' H
          refine oc (k_call (c_manifest_number ((({ ({ ({ ((⟨r22, Img.zero⟩ : Mani) : Mani) with Image := { ((⟨r22, Img.zero⟩ : Mani).Image : Img) with Version := r25.1 } } : Mani) with Image := { (({ ((⟨r22, Img.zero⟩ : Mani) : Mani) with Image := { ((⟨r22, Img.zero⟩ : Mani).Image : Img) with Version := r25.1 } }).Image : Img) with Size := r29.1 } } : Mani) with Image := { (({ ({ ((⟨r22, Img.zero⟩ : Mani) : Mani) with Image := { ((⟨r22, Img.zero⟩ : Mani).Image : Img) with Version := r25.1 } } : Mani) with Image := { (({ ((⟨r22, Img.zero⟩ : Mani) : Mani) with Image := { ((⟨r22, Img.zero⟩ : Mani).Image : Img) with Version := r25.1 } }).Image : Img) with Size := r29.1 } }).Image : Img) with Digest := (Arr.cpy ((({ ({ ((⟨r22, Img.zero⟩ : Mani) : Mani) with Image := { ((⟨r22, Img.zero⟩ : Mani).Image : Img) with Version := r25.1 } } : Mani) with Image := { (({ ((⟨r22, Img.zero⟩ : Mani) : Mani) with Image := { ((⟨r22, Img.zero⟩ : Mani).Image : Img) with Version := r25.1 } }).Image : Img) with Size := r29.1 } }).Image).Digest) r33.1) } }).Image).Version) r61 Hc62) Tryd.call32 rfl rfl rfl [] [] rfl rfl (g1 rfl rfl rfl rfl) rfl rfl ?_)
          rintro _ _ _ ⟨rfl, rfl, rfl⟩
          dsimp only [List.cons_append, List.nil_append]
          refine o_pu rfl (ev_not rfl rfl) (g1 rfl rfl rfl rfl) rfl rfl ?_
          refine o_pu rfl (ev_pick_f rfl rfl rfl) (g0 rfl) rfl rfl ?_
          exact k_wk (J46 (!r61) H) [51, 0, 2, 3, 4, 5, 6, 7, 8, 9, 10, 12, 13, 14, 15, 16, 17, 18, 19, 20, 21, 22, 23, 24, 25, 26, 27, 28, 29, 30, 31, 32, 33, 34, 35, 36, 37, 38, 39, 44, 45] [0, 1, 2, 3, 4, 5, 6, 7, 8, 9] 10 [0, 0, 0, 0, 0, 0] 0 rfl rfl rfl
    · intro J42 H
      cases b40 with
      | true =>
        rw [cond_true] at H
        refine o_gnot rfl rfl rfl rfl rfl rfl rfl rfl ?_
        refine o_gnot rfl rfl rfl rfl rfl rfl rfl rfl ?_
        refine o_gnot rfl rfl rfl rfl rfl rfl rfl rfl ?_
        refine o_gnot rfl rfl rfl rfl rfl rfl rfl rfl ?_
        refine o_pu rfl (ev_pick_t rfl rfl rfl) (g0 rfl) rfl rfl ?_
        exact k_wk (J42 true H) [44, 0, 2, 3, 4, 5, 6, 7, 8, 9, 10, 12, 13, 14, 15, 16, 17, 18, 19, 20, 21, 22, 23, 24, 25, 26, 27, 28, 29, 30, 31, 32, 33, 34, 35, 36, 37, 38, 39] [0, 1, 2, 3, 4, 5, 6, 7, 8, 9] 10 [0, 0, 0, 0, 0, 0] 0 rfl rfl rfl
      | false =>
        rw [cond_false] at H
        refine o_pu rfl (ev_fieldAddr rfl rfl Tryd.runUnderlying27 rfl Tryd.sizeOf9 rfl rfl) (g1 rfl rfl rfl rfl) rfl rfl ?_
        refine o_ld (hG 2 rfl) rfl (ev_ld1 (j := 0) rfl rfl Tryd.isAgg9 (Mani.sub_Name _) rfl) (g1 rfl rfl rfl rfl) rfl rfl ?_
        obtain ⟨r63, Hc64, H⟩ := bind_some' H
        refine oc (k_call (c_names_Valid (({ ({ ({ ((⟨r22, Img.zero⟩ : Mani) : Mani) with Image := { ((⟨r22, Img.zero⟩ : Mani).Image : Img) with Version := r25.1 } } : Mani) with Image := { (({ ((⟨r22, Img.zero⟩ : Mani) : Mani) with Image := { ((⟨r22, Img.zero⟩ : Mani).Image : Img) with Version := r25.1 } }).Image : Img) with Size := r29.1 } } : Mani) with Image := { (({ ({ ((⟨r22, Img.zero⟩ : Mani) : Mani) with Image := { ((⟨r22, Img.zero⟩ : Mani).Image : Img) with Version := r25.1 } } : Mani) with Image := { (({ ((⟨r22, Img.zero⟩ : Mani) : Mani) with Image := { ((⟨r22, Img.zero⟩ : Mani).Image : Img) with Version := r25.1 } }).Image : Img) with Size := r29.1 } }).Image : Img) with Digest := (Arr.cpy ((({ ({ ((⟨r22, Img.zero⟩ : Mani) : Mani) with Image := { ((⟨r22, Img.zero⟩ : Mani).Image : Img) with Version := r25.1 } } : Mani) with Image := { (({ ((⟨r22, Img.zero⟩ : Mani) : Mani) with Image := { ((⟨r22, Img.zero⟩ : Mani).Image : Img) with Version := r25.1 } }).Image : Img) with Size := r29.1 } }).Image).Digest) r33.1) } }).Name) r63 Hc64) Tryd.call31 rfl rfl rfl [] [] rfl rfl (g1 rfl rfl rfl rfl) rfl rfl ?_)
        rintro _ _ _ ⟨rfl, rfl, rfl⟩
        dsimp only [List.cons_append, List.nil_append]
        refine o_pu rfl (ev_not rfl rfl) (g1 rfl rfl rfl rfl) rfl rfl ?_
        refine o_pu rfl (ev_pick_f rfl rfl rfl) (g0 rfl) rfl rfl ?_
        exact k_wk (J42 (!r63) H) [44, 0, 2, 3, 4, 5, 6, 7, 8, 9, 10, 12, 13, 14, 15, 16, 17, 18, 19, 20, 21, 22, 23, 24, 25, 26, 27, 28, 29, 30, 31, 32, 33, 34, 35, 36, 37, 38, 39] [0, 1, 2, 3, 4, 5, 6, 7, 8, 9] 10 [0, 0, 0, 0, 0, 0] 0 rfl rfl rfl

def sha_spread_l0 (a0_b : List UInt8) (J5 : (Arr UInt32 64) → Option (Arr UInt32 64)) : Nat → (Int × Arr UInt32 64) → Option (Arr UInt32 64)
  | 0, _ => none
  | k8 + 1, s8 =>
    bif (decide (s8.1 < 64)) then (
    jn (fun (x11 : Arr UInt32 64) =>
    sha_spread_l0 a0_b J5 k8 ((wrap64 (s8.1 + 1)), x11)) fun J10 =>
    bif (decide (s8.1 < 16)) then (
    chk (0 ≤ (wrap64 (s8.1 * 4)) ∧ (wrap64 (s8.1 * 4)) ≤ (a0_b.length : Int) ∧ (a0_b.length : Int) ≤ (a0_b.length : Int)) <|
    (turn_Big (slc a0_b (wrap64 (s8.1 * 4)) (a0_b.length : Int))).bind fun r17 =>
    chk (0 ≤ s8.1 ∧ s8.1 < 64) <|
    J10 (Arr.set s8.2 s8.1 r17)) else (
    chk (0 ≤ (wrap64 (s8.1 - 15)) ∧ (wrap64 (s8.1 - 15)) < 64) <|
    chk (0 ≤ (wrap64 (s8.1 - 2)) ∧ (wrap64 (s8.1 - 2)) < 64) <|
    chk (0 ≤ (wrap64 (s8.1 - 16)) ∧ (wrap64 (s8.1 - 16)) < 64) <|
    chk (0 ≤ (wrap64 (s8.1 - 7)) ∧ (wrap64 (s8.1 - 7)) < 64) <|
    (turn_Right (at' 0 s8.2.l (wrap64 (s8.1 - 15))) (7 : Int)).bind fun r24 =>
    (turn_Right (at' 0 s8.2.l (wrap64 (s8.1 - 15))) (18 : Int)).bind fun r26 =>
    (turn_Right (at' 0 s8.2.l (wrap64 (s8.1 - 2))) (17 : Int)).bind fun r28 =>
    (turn_Right (at' 0 s8.2.l (wrap64 (s8.1 - 2))) (19 : Int)).bind fun r30 =>
    chk (0 ≤ s8.1 ∧ s8.1 < 64) <|
    J10 (Arr.set s8.2 s8.1 ((((at' 0 s8.2.l (wrap64 (s8.1 - 16))) + ((r24 ^^^ r26) ^^^ (shr32 ((at' 0 s8.2.l (wrap64 (s8.1 - 15))) : UInt32) (3 : UInt64).toNat))) + (at' 0 s8.2.l (wrap64 (s8.1 - 7)))) + ((r28 ^^^ r30) ^^^ (shr32 ((at' 0 s8.2.l (wrap64 (s8.1 - 2))) : UInt32) (10 : UInt64).toNat)))))) else (
    J5 s8.2)

def sha_spread (a0_b : List UInt8) : Option (Arr UInt32 64) :=
jn (fun (x6 : Arr UInt32 64) =>
some x6) fun J5 =>
sha_spread_l0 a0_b J5 Fuel (0, (Arr.zero 0 64 : Arr UInt32 64))

theorem c_sha_spread (a0_b : List UInt8) (A1 : Option Addr) (c2 : Nat) (r : (Arr UInt32 64)) (H : sha_spread a0_b = some r) : Fn Tryd.prog 111 [(.slice A1 a0_b.length c2)] [Sl E8 A1 c2 a0_b] [] (fun v D' G' => v = (.agg (r.l.flatMap E32).toArray) ∧ D' = [] ∧ G' = []) := by
  unfold sha_spread at H
  refine fn_of Tryd.func111 rfl Tryd.ntmps111 rfl ?_
  intro w0 D0 G0
  dsimp only [List.cons_append, List.nil_append, initEnv, Nat.zero_add, Nat.reduceAdd]
  refine s_seq ?_
  refine s_reg [0] rfl ?_
  refine oc (k_alloc rfl rfl Tryd.zeroValue172 (cs := (Arr.zero 0 64 : Arr UInt32 64).l.flatMap E32) rfl (g0 rfl) rfl rfl ?_)
  intro b3
  refine o_nil ?_
  refine q_then ?_
  refine s_seq ?_
  refine s_reg [0] rfl ?_
  refine oc (k_alloc rfl rfl Tryd.zeroValue172 (cs := (Arr.zero 0 64 : Arr UInt32 64).l.flatMap E32) rfl (g0 rfl) rfl rfl ?_)
  intro b4
  refine o_nil ?_
  refine q_then ?_
  refine s_seq ?_
  refine s_seq ?_
  refine s_reg [0] rfl ?_
  refine o_pu rfl (ev_move rfl rfl) (g0 rfl) rfl rfl ?_
  refine o_nil ?_
  refine q_then ?_
  refine q_join (fun (x6 : Arr UInt32 64) (y7 : Unit) => ⟨Sl E8 A1 c2 a0_b :: D0, At b4 0 (x6.l.flatMap E32) :: At b3 0 ((Arr.zero 0 64 : Arr UInt32 64).l.flatMap E32) :: G0, [(2, (.pointer (some ⟨b3, 0, none⟩))), (3, (.pointer (some ⟨b4, 0, none⟩)))]⟩) H ?_ ?_
  · intro x6 y7 H
    dsimp only
    refine q_then ?_
    refine s_seq ?_
    refine s_reg [0, 1] rfl ?_
    refine o_ld (hG 0 rfl) rfl (ev_ldN (j := 0) rfl rfl Tryd.isAgg172 (sz (arr_len E32_len _ rfl) Tryd.sizeOf172) (sub_all _) rfl) (g0 rfl) rfl rfl ?_
    refine oc (k_st (j := 0) rfl rfl rfl rfl (vs := x6.l.flatMap E32) rfl (sz (arr_len E32_len _ rfl) Tryd.sizeOf172) (arr_sc E32_one _) 1 rfl (spl_all ((arr_len E32_len _ rfl).trans (arr_len E32_len _ rfl).symm)) rfl (g0 rfl) rfl ?_)
    refine o_nil ?_
    refine q_then ?_
    refine s_ret ?_
    cases H
    exact q_end (rs_1 Tryd.results111 (rv_cell (j := 0) rfl (hG 1 rfl) Tryd.isAgg172 (sz (arr_len E32_len _ rfl) Tryd.sizeOf172) (sub_all _) rfl)) ⟨rfl, rfl, rfl⟩ [] rfl 1 rfl [] rfl 2 rfl
  · intro J5 H
    refine s_block ?_
    refine s_loop (k_wk (loop_ind (fun (s8 : Int × Arr UInt32 64) (y8 : Unit) => ⟨Sl E8 A1 c2 a0_b :: D0, At b4 0 (s8.2.l.flatMap E32) :: At b3 0 ((Arr.zero 0 64 : Arr UInt32 64).l.flatMap E32) :: G0, [(0, (.slice A1 a0_b.length c2)), (2, (.pointer (some ⟨b3, 0, none⟩))), (3, (.pointer (some ⟨b4, 0, none⟩))), (7, (vi s8.1))]⟩) (sha_spread_l0 a0_b _) _ (fun _ => rfl) ?_ Fuel (0, (Arr.zero 0 64 : Arr UInt32 64)) () H) [0, 2, 3, 7] [0] 1 [0, 0] 0 rfl rfl rfl)
    intro k8 s8 y8 ih H
    dsimp only
    rw [sha_spread_l0] at H
    refine s_seq ?_
    refine s_reg [0] rfl ?_
    refine o_pu rfl (ev_bin rfl rfl rfl rfl (lss_i _ 64)) (g0 rfl) rfl rfl ?_
    refine o_nil ?_
    refine q_then ?_
    refine s_seq ?_
    refine s_cond rfl ?_ ?_
    · intro hb9
      have H := cnd_t H hb9
      refine s_skip ?_
      refine q_then ?_
      refine s_seq ?_
      refine q_join (fun (x11 : Arr UInt32 64) (y12 : Unit) => ⟨Sl E8 A1 c2 a0_b :: D0, At b4 0 (x11.l.flatMap E32) :: At b3 0 ((Arr.zero 0 64 : Arr UInt32 64).l.flatMap E32) :: G0, [(0, (.slice A1 a0_b.length c2)), (2, (.pointer (some ⟨b3, 0, none⟩))), (3, (.pointer (some ⟨b4, 0, none⟩))), (7, (vi s8.1))]⟩) H ?_ ?_
      · intro x11 y12 H
        dsimp only
        refine q_then ?_
        refine s_reg [0, 1] rfl ?_
        refine o_pu rfl (ev_bin rfl rfl rfl rfl (add_i _ 1)) (g0 rfl) rfl rfl ?_
        refine o_pu rfl (ev_move rfl rfl) (g0 rfl) rfl rfl ?_
        refine o_nil ?_
        refine q_loop ?_
        exact k_wk (ih ((wrap64 (s8.1 + 1)), x11) () H) [0, 2, 3, 7] [0] 1 [0, 0] 0 rfl rfl rfl
      · intro J10 H
        refine s_block ?_
        refine s_seq ?_
        refine s_reg [0, 1] rfl ?_
        refine o_pu rfl (ev_move rfl rfl) (g0 rfl) rfl rfl ?_
        refine o_pu rfl (ev_assign rfl rfl) (g0 rfl) rfl rfl ?_
        refine o_nil ?_
        refine q_then ?_
        refine s_seq ?_
        refine s_seq ?_
        refine s_reg [0, 1] rfl ?_
        refine o_pu rfl (ev_move rfl rfl) (g0 rfl) rfl rfl ?_
        refine o_pu rfl (ev_bin rfl rfl rfl rfl (lss_i _ 16)) (g0 rfl) rfl rfl ?_
        refine o_nil ?_
        refine q_then ?_
        refine s_cond rfl ?_ ?_
        · intro hb13
          have H := cnd_t H hb13
          refine s_seq ?_
          refine s_reg [0, 1, 2, 3, 4, 5, 6, 7] rfl ?_
          refine o_pu rfl (ev_move rfl rfl) (g0 rfl) rfl rfl ?_
          refine o_pu rfl (ev_move rfl rfl) (g0 rfl) rfl rfl ?_
          refine o_pu rfl (ev_move rfl rfl) (g0 rfl) rfl rfl ?_
          refine o_pu rfl (ev_bin rfl rfl rfl rfl (mul_i _ 4)) (g0 rfl) rfl rfl ?_
          obtain ⟨hk16, H⟩ := chk_some H
          refine oc (k_slice (kb := .i64) (a := (wrap64 (s8.1 * 4))) (b := (a0_b.length : Int)) 0 rfl rfl rfl rfl E8_len Tryd.runUnderlying22 Tryd.sizeOf5 (.inr rfl) (.inl ⟨rfl, rfl⟩) hk16 (g0 rfl) rfl rfl ?_)
          intro A14 c15
          obtain ⟨r17, Hc18, H⟩ := bind_some' H
          refine oc (k_call (c_turn_Big (slc a0_b (wrap64 (s8.1 * 4)) (a0_b.length : Int)) A14 c15 r17 Hc18) Tryd.call134 rfl rfl rfl [0] [] rfl rfl (g0 rfl) rfl rfl ?_)
          rintro _ _ _ ⟨rfl, rfl, rfl⟩
          dsimp only [List.cons_append, List.nil_append]
          obtain ⟨hk19, H⟩ := chk_some H
          refine o_pu rfl (ev_idx_array rfl rfl rfl Tryd.runUnderlying172 Tryd.sizeOf143 hk19 rfl) (g0 rfl) rfl rfl ?_
          refine oc (k_st rfl rfl rfl rfl (vs := [v32 r17]) rfl (sz rfl Tryd.sizeOf143) rfl 0 rfl (spl_arr E32_len _ (k := s8.1) _ hk19 rfl) (by omega) (g0 rfl) rfl ?_)
          refine o_nil ?_
          refine q_then ?_
          refine s_exit ?_
          refine q_then_x ?_
          refine q_block_x ?_
          exact k_wk (J10 (Arr.set s8.2 s8.1 r17) () H) [0, 2, 3, 7] [1] 2 [0, 0] 0 rfl rfl rfl
        · intro hb13
          have H := cnd_f H hb13
          refine s_skip ?_
          refine q_then ?_
          refine s_seq ?_
          refine s_draw mixed [(3, [], Has b4 0 (s8.2.l.flatMap E32)), (7, [], Has b4 0 (s8.2.l.flatMap E32))] ?_
          refine a_pu 0 rfl (ev_move rfl rfl) (by rfl) (by kernel_rfl) (by kernel_rfl) (by kernel_rfl) (fun _ _ _ h => h) (g0 rfl) rfl rfl ?_
          refine a_pu 1 rfl (ev_bin rfl rfl rfl rfl (sub_i _ 15)) (by rfl) (by kernel_rfl) (by kernel_rfl) (by kernel_rfl) (fun _ _ _ h => h) (g0 rfl) rfl rfl ?_
          obtain ⟨hk20, H⟩ := chk_some H
          refine a_pu 2 rfl (ev_idx_array rfl rfl rfl Tryd.runUnderlying172 Tryd.sizeOf143 hk20 rfl) (by rfl) (by kernel_rfl) (by kernel_rfl) (by kernel_rfl) (fun _ _ _ h => h) (g0 rfl) rfl rfl ?_
          refine a_ld 3 0 rfl rfl (ev_ld1 rfl rfl Tryd.isAgg143 (sub_arr E32_len 0 _ (k := (wrap64 (s8.1 - 15))) hk20 rfl) (by omega)) (by kernel_rfl) (by rfl) (by kernel_rfl) (by kernel_rfl) (by kernel_rfl) (by kernel_rfl) (fun _ _ _ h => h) (g0 rfl) rfl rfl ?_
          refine a_pu 4 rfl (ev_move rfl rfl) (by rfl) (by kernel_rfl) (by kernel_rfl) (by kernel_rfl) (fun _ _ _ h => h) (g0 rfl) rfl rfl ?_
          refine a_pu 5 rfl (ev_bin rfl rfl rfl rfl (sub_i _ 2)) (by rfl) (by kernel_rfl) (by kernel_rfl) (by kernel_rfl) (fun _ _ _ h => h) (g0 rfl) rfl rfl ?_
          obtain ⟨hk21, H⟩ := chk_some H
          refine a_pu 6 rfl (ev_idx_array rfl rfl rfl Tryd.runUnderlying172 Tryd.sizeOf143 hk21 rfl) (by rfl) (by kernel_rfl) (by kernel_rfl) (by kernel_rfl) (fun _ _ _ h => h) (g0 rfl) rfl rfl ?_
          refine a_ld 7 1 rfl rfl (ev_ld1 rfl rfl Tryd.isAgg143 (sub_arr E32_len 0 _ (k := (wrap64 (s8.1 - 2))) hk21 rfl) (by omega)) (by kernel_rfl) (by rfl) (by kernel_rfl) (by kernel_rfl) (by kernel_rfl) (by kernel_rfl) (fun _ _ _ h => h) (g0 rfl) rfl rfl ?_
          refine a_pu 8 rfl (ev_assign rfl rfl) (by rfl) (by kernel_rfl) (by kernel_rfl) (by kernel_rfl) (fun _ _ _ h => h) (g0 rfl) rfl rfl ?_
          refine a_pu 9 rfl (ev_assign rfl rfl) (by rfl) (by kernel_rfl) (by kernel_rfl) (by kernel_rfl) (fun _ _ _ h => h) (g0 rfl) rfl rfl ?_
          refine a_done (by kernel_rfl) (sl_cons (hG 0 rfl) (sl_cons (hG 0 rfl) sl_nil)) ?_
          refine q_then ?_
          refine s_draw mixed [(4, [29], Has b4 0 (s8.2.l.flatMap E32)), (17, [29], Has b4 0 (s8.2.l.flatMap E32))] ?_
          refine a_pu 0 rfl (ev_move rfl rfl) (by rfl) (by kernel_rfl) (by kernel_rfl) (by kernel_rfl) (fun _ _ _ h => h) (g0 rfl) rfl rfl ?_
          refine a_pu 1 rfl (ev_move rfl rfl) (by rfl) (by kernel_rfl) (by kernel_rfl) (by kernel_rfl) (fun _ _ _ h => h) (g0 rfl) rfl rfl ?_
          refine a_pu 2 rfl (ev_bin rfl rfl rfl rfl (sub_i _ 16)) (by rfl) (by kernel_rfl) (by kernel_rfl) (by kernel_rfl) (fun _ _ _ h => h) (g0 rfl) rfl rfl ?_
          obtain ⟨hk22, H⟩ := chk_some H
          refine a_pu 3 rfl (ev_idx_array rfl rfl rfl Tryd.runUnderlying172 Tryd.sizeOf143 hk22 rfl) (by rfl) (by kernel_rfl) (by kernel_rfl) (by kernel_rfl) (fun _ _ _ h => h) (g0 rfl) rfl rfl ?_
          refine a_ld 4 0 rfl rfl (ev_ld1 rfl rfl Tryd.isAgg143 (sub_arr E32_len 0 _ (k := (wrap64 (s8.1 - 16))) hk22 rfl) (by omega)) (by kernel_rfl) (by rfl) (by kernel_rfl) (by kernel_rfl) (by kernel_rfl) (by kernel_rfl) (fun _ _ _ h => h) (g0 rfl) rfl rfl ?_
          refine a_pu 5 rfl (ev_move rfl rfl) (by rfl) (by kernel_rfl) (by kernel_rfl) (by kernel_rfl) (fun _ _ _ h => h) (g0 rfl) rfl rfl ?_
          refine a_pu 7 rfl (ev_move rfl rfl) (by rfl) (by kernel_rfl) (by kernel_rfl) (by kernel_rfl) (fun _ _ _ h => h) (g0 rfl) rfl rfl ?_
          refine a_pu 10 rfl (ev_move rfl rfl) (by rfl) (by kernel_rfl) (by kernel_rfl) (by kernel_rfl) (fun _ _ _ h => h) (g0 rfl) rfl rfl ?_
          refine a_pu 11 rfl (ev_bin rfl rfl rfl rfl (shr_32 _ 3)) (by rfl) (by kernel_rfl) (by kernel_rfl) (by kernel_rfl) (fun _ _ _ h => h) (g0 rfl) rfl rfl ?_
          refine a_pu 14 rfl (ev_move rfl rfl) (by rfl) (by kernel_rfl) (by kernel_rfl) (by kernel_rfl) (fun _ _ _ h => h) (g0 rfl) rfl rfl ?_
          refine a_pu 15 rfl (ev_bin rfl rfl rfl rfl (sub_i _ 7)) (by rfl) (by kernel_rfl) (by kernel_rfl) (by kernel_rfl) (fun _ _ _ h => h) (g0 rfl) rfl rfl ?_
          obtain ⟨hk23, H⟩ := chk_some H
          refine a_pu 16 rfl (ev_idx_array rfl rfl rfl Tryd.runUnderlying172 Tryd.sizeOf143 hk23 rfl) (by rfl) (by kernel_rfl) (by kernel_rfl) (by kernel_rfl) (fun _ _ _ h => h) (g0 rfl) rfl rfl ?_
          refine a_ld 17 1 rfl rfl (ev_ld1 rfl rfl Tryd.isAgg143 (sub_arr E32_len 0 _ (k := (wrap64 (s8.1 - 7))) hk23 rfl) (by omega)) (by kernel_rfl) (by rfl) (by kernel_rfl) (by kernel_rfl) (by kernel_rfl) (by kernel_rfl) (fun _ _ _ h => h) (g0 rfl) rfl rfl ?_
          refine a_pu 19 rfl (ev_move rfl rfl) (by rfl) (by kernel_rfl) (by kernel_rfl) (by kernel_rfl) (fun _ _ _ h => h) (g0 rfl) rfl rfl ?_
          refine a_pu 21 rfl (ev_move rfl rfl) (by rfl) (by kernel_rfl) (by kernel_rfl) (by kernel_rfl) (fun _ _ _ h => h) (g0 rfl) rfl rfl ?_
          refine a_pu 24 rfl (ev_move rfl rfl) (by rfl) (by kernel_rfl) (by kernel_rfl) (by kernel_rfl) (fun _ _ _ h => h) (g0 rfl) rfl rfl ?_
          refine a_pu 25 rfl (ev_bin rfl rfl rfl rfl (shr_32 _ 10)) (by rfl) (by kernel_rfl) (by kernel_rfl) (by kernel_rfl) (fun _ _ _ h => h) (g0 rfl) rfl rfl ?_
          obtain ⟨r24, Hc25, H⟩ := bind_some' H
          refine ac 6 (by kernel_rfl) (sl_cons (hG 0 rfl) (sl_cons (hG 0 rfl) sl_nil)) (k_call (c_turn_Right (at' 0 s8.2.l (wrap64 (s8.1 - 15))) 7 r24 Hc25) Tryd.call135 rfl rfl rfl [] [] rfl rfl (g0 rfl) rfl rfl ?_)
          rintro _ _ _ ⟨rfl, rfl, rfl⟩
          dsimp only [List.cons_append, List.nil_append]
          obtain ⟨r26, Hc27, H⟩ := bind_some' H
          refine ac 8 (by kernel_rfl) (sl_cons (hG 0 rfl) (sl_cons (hG 0 rfl) sl_nil)) (k_call (c_turn_Right (at' 0 s8.2.l (wrap64 (s8.1 - 15))) 18 r26 Hc27) Tryd.call135 rfl rfl rfl [] [] rfl rfl (g0 rfl) rfl rfl ?_)
          rintro _ _ _ ⟨rfl, rfl, rfl⟩
          dsimp only [List.cons_append, List.nil_append]
          refine a_pu 9 rfl (ev_bin rfl rfl rfl rfl (xor_32 _ _)) (by rfl) (by kernel_rfl) (by kernel_rfl) (by kernel_rfl) (fun _ _ _ h => h) (g0 rfl) rfl rfl ?_
          refine a_pu 12 rfl (ev_bin rfl rfl rfl rfl (xor_32 _ _)) (by rfl) (by kernel_rfl) (by kernel_rfl) (by kernel_rfl) (fun _ _ _ h => h) (g0 rfl) rfl rfl ?_
          refine a_pu 13 rfl (ev_bin rfl rfl rfl rfl (add_32 _ _)) (by rfl) (by kernel_rfl) (by kernel_rfl) (by kernel_rfl) (fun _ _ _ h => h) (g0 rfl) rfl rfl ?_
          refine a_pu 18 rfl (ev_bin rfl rfl rfl rfl (add_32 _ _)) (by rfl) (by kernel_rfl) (by kernel_rfl) (by kernel_rfl) (fun _ _ _ h => h) (g0 rfl) rfl rfl ?_
          obtain ⟨r28, Hc29, H⟩ := bind_some' H
          refine ac 20 (by kernel_rfl) (sl_cons (hG 0 rfl) (sl_cons (hG 0 rfl) sl_nil)) (k_call (c_turn_Right (at' 0 s8.2.l (wrap64 (s8.1 - 2))) 17 r28 Hc29) Tryd.call135 rfl rfl rfl [] [] rfl rfl (g0 rfl) rfl rfl ?_)
          rintro _ _ _ ⟨rfl, rfl, rfl⟩
          dsimp only [List.cons_append, List.nil_append]
          obtain ⟨r30, Hc31, H⟩ := bind_some' H
          refine ac 22 (by kernel_rfl) (sl_cons (hG 0 rfl) (sl_cons (hG 0 rfl) sl_nil)) (k_call (c_turn_Right (at' 0 s8.2.l (wrap64 (s8.1 - 2))) 19 r30 Hc31) Tryd.call135 rfl rfl rfl [] [] rfl rfl (g0 rfl) rfl rfl ?_)
          rintro _ _ _ ⟨rfl, rfl, rfl⟩
          dsimp only [List.cons_append, List.nil_append]
          refine a_pu 23 rfl (ev_bin rfl rfl rfl rfl (xor_32 _ _)) (by rfl) (by kernel_rfl) (by kernel_rfl) (by kernel_rfl) (fun _ _ _ h => h) (g0 rfl) rfl rfl ?_
          refine a_pu 26 rfl (ev_bin rfl rfl rfl rfl (xor_32 _ _)) (by rfl) (by kernel_rfl) (by kernel_rfl) (by kernel_rfl) (fun _ _ _ h => h) (g0 rfl) rfl rfl ?_
          refine a_pu 27 rfl (ev_bin rfl rfl rfl rfl (add_32 _ _)) (by rfl) (by kernel_rfl) (by kernel_rfl) (by kernel_rfl) (fun _ _ _ h => h) (g0 rfl) rfl rfl ?_
          obtain ⟨hk32, H⟩ := chk_some H
          refine a_pu 28 rfl (ev_idx_array rfl rfl rfl Tryd.runUnderlying172 Tryd.sizeOf143 hk32 rfl) (by rfl) (by kernel_rfl) (by kernel_rfl) (by kernel_rfl) (fun _ _ _ h => h) (g0 rfl) rfl rfl ?_
          refine ac 29 (by kernel_rfl) (sl_cons (hG 0 rfl) (sl_cons (hG 0 rfl) sl_nil)) (k_st rfl rfl rfl rfl (vs := [v32 ((((at' 0 s8.2.l (wrap64 (s8.1 - 16))) + ((r24 ^^^ r26) ^^^ (shr32 ((at' 0 s8.2.l (wrap64 (s8.1 - 15))) : UInt32) (3 : UInt64).toNat))) + (at' 0 s8.2.l (wrap64 (s8.1 - 7)))) + ((r28 ^^^ r30) ^^^ (shr32 ((at' 0 s8.2.l (wrap64 (s8.1 - 2))) : UInt32) (10 : UInt64).toNat)))]) rfl (sz rfl Tryd.sizeOf143) rfl 0 rfl (spl_arr E32_len _ (k := s8.1) _ hk32 rfl) (by omega) (g0 rfl) rfl ?_)
          refine a_done (by kernel_rfl) (sl_end (by kernel_rfl) (sl_end (by kernel_rfl) sl_nil)) ?_
          refine q_block ?_
          exact k_wk (J10 (Arr.set s8.2 s8.1 ((((at' 0 s8.2.l (wrap64 (s8.1 - 16))) + ((r24 ^^^ r26) ^^^ (shr32 ((at' 0 s8.2.l (wrap64 (s8.1 - 15))) : UInt32) (3 : UInt64).toNat))) + (at' 0 s8.2.l (wrap64 (s8.1 - 7)))) + ((r28 ^^^ r30) ^^^ (shr32 ((at' 0 s8.2.l (wrap64 (s8.1 - 2))) : UInt32) (10 : UInt64).toNat)))) () H) [0, 2, 3, 7] [0] 1 [0, 0] 0 rfl rfl rfl
    · intro hb9
      have H := cnd_f H hb9
      refine s_exit ?_
      refine q_then_x ?_
      refine q_then_x ?_
      refine q_block_x ?_
      exact k_wk (J5 s8.2 () H) [2, 3] [0] 1 [0, 0] 0 rfl rfl rfl

def sha_round (a0_v : Arr UInt32 8) (a1_more : UInt32) : Option (Arr UInt32 8) :=
(turn_Right (at' 0 a0_v.l 4) (6 : Int)).bind fun r3 =>
(turn_Right (at' 0 a0_v.l 4) (11 : Int)).bind fun r5 =>
(turn_Right (at' 0 a0_v.l 4) (25 : Int)).bind fun r7 =>
(turn_Right (at' 0 a0_v.l 0) (2 : Int)).bind fun r9 =>
(turn_Right (at' 0 a0_v.l 0) (13 : Int)).bind fun r11 =>
(turn_Right (at' 0 a0_v.l 0) (22 : Int)).bind fun r13 =>
some (⟨[((((((at' 0 a0_v.l 7) + ((r3 ^^^ r5) ^^^ r7)) + (((at' 0 a0_v.l 4) &&& (at' 0 a0_v.l 5)) ^^^ ((~~~(at' 0 a0_v.l 4)) &&& (at' 0 a0_v.l 6)))) + a1_more) + (((r9 ^^^ r11) ^^^ r13) + ((((at' 0 a0_v.l 0) &&& (at' 0 a0_v.l 1)) ^^^ ((at' 0 a0_v.l 0) &&& (at' 0 a0_v.l 2))) ^^^ ((at' 0 a0_v.l 1) &&& (at' 0 a0_v.l 2))))) : UInt32), ((at' 0 a0_v.l 0) : UInt32), ((at' 0 a0_v.l 1) : UInt32), ((at' 0 a0_v.l 2) : UInt32), (((at' 0 a0_v.l 3) + ((((at' 0 a0_v.l 7) + ((r3 ^^^ r5) ^^^ r7)) + (((at' 0 a0_v.l 4) &&& (at' 0 a0_v.l 5)) ^^^ ((~~~(at' 0 a0_v.l 4)) &&& (at' 0 a0_v.l 6)))) + a1_more)) : UInt32), ((at' 0 a0_v.l 4) : UInt32), ((at' 0 a0_v.l 5) : UInt32), ((at' 0 a0_v.l 6) : UInt32)], rfl⟩ : Arr UInt32 8)

theorem c_sha_round (a0_v : Arr UInt32 8) (a1_more : UInt32) (r : (Arr UInt32 8)) (H : sha_round a0_v a1_more = some r) : Fn Tryd.prog 113 [(.agg (a0_v.l.flatMap E32).toArray), (v32 a1_more)] [] [] (fun v D' G' => v = (.agg (r.l.flatMap E32).toArray) ∧ D' = [] ∧ G' = []) := by
  unfold sha_round at H
  refine fn_of Tryd.func113 rfl Tryd.ntmps113 rfl ?_
  intro w0 D0 G0
  dsimp only [List.cons_append, List.nil_append, initEnv, Nat.zero_add, Nat.reduceAdd]
  refine s_seq ?_
  refine s_reg [0, 1] rfl ?_
  refine oc (k_box rfl rfl rfl (cs := a0_v.l.flatMap E32) rfl (g0 rfl) rfl rfl ?_)
  intro b1
  refine oc (k_alloc rfl rfl Tryd.zeroValue144 (cs := (Arr.zero 0 8 : Arr UInt32 8).l.flatMap E32) rfl (g0 rfl) rfl rfl ?_)
  intro b2
  refine o_nil ?_
  refine q_then ?_
  refine s_seq ?_
  refine s_draw mixed [(1, [], Has b1 0 (a0_v.l.flatMap E32)), (3, [], Has b1 0 (a0_v.l.flatMap E32))] ?_
  refine a_pu 0 rfl (ev_idx_array (k := 0) rfl rfl rfl Tryd.runUnderlying144 Tryd.sizeOf143 ⟨by omega, by omega⟩ rfl) (by rfl) (by kernel_rfl) (by kernel_rfl) (by kernel_rfl) (fun _ _ _ h => h) (g0 rfl) rfl rfl ?_
  refine a_ld 1 0 rfl rfl (ev_ld1 (j := 0) rfl rfl Tryd.isAgg143 (sub_arr E32_len 0 _ (k := 0) ⟨by omega, by omega⟩ rfl) rfl) (by kernel_rfl) (by rfl) (by kernel_rfl) (by kernel_rfl) (by kernel_rfl) (by kernel_rfl) (fun _ _ _ h => h) (g0 rfl) rfl rfl ?_
  refine a_pu 2 rfl (ev_idx_array (k := 4) rfl rfl rfl Tryd.runUnderlying144 Tryd.sizeOf143 ⟨by omega, by omega⟩ rfl) (by rfl) (by kernel_rfl) (by kernel_rfl) (by kernel_rfl) (fun _ _ _ h => h) (g0 rfl) rfl rfl ?_
  refine a_ld 3 1 rfl rfl (ev_ld1 (j := 4) rfl rfl Tryd.isAgg143 (sub_arr E32_len 0 _ (k := 4) ⟨by omega, by omega⟩ rfl) rfl) (by kernel_rfl) (by rfl) (by kernel_rfl) (by kernel_rfl) (by kernel_rfl) (by kernel_rfl) (fun _ _ _ h => h) (g0 rfl) rfl rfl ?_
  refine a_pu 4 rfl (ev_assign rfl rfl) (by rfl) (by kernel_rfl) (by kernel_rfl) (by kernel_rfl) (fun _ _ _ h => h) (g0 rfl) rfl rfl ?_
  refine a_pu 5 rfl (ev_assign rfl rfl) (by rfl) (by kernel_rfl) (by kernel_rfl) (by kernel_rfl) (fun _ _ _ h => h) (g0 rfl) rfl rfl ?_
  refine a_done (by kernel_rfl) (sl_cons (hG 1 rfl) (sl_cons (hG 1 rfl) sl_nil)) ?_
  refine q_then ?_
  refine s_seq ?_
  refine s_draw mixed [(1, [], Has b1 0 (a0_v.l.flatMap E32)), (13, [], Has b1 0 (a0_v.l.flatMap E32)), (18, [], Has b1 0 (a0_v.l.flatMap E32))] ?_
  refine a_pu 0 rfl (ev_idx_array (k := 7) rfl rfl rfl Tryd.runUnderlying144 Tryd.sizeOf143 ⟨by omega, by omega⟩ rfl) (by rfl) (by kernel_rfl) (by kernel_rfl) (by kernel_rfl) (fun _ _ _ h => h) (g0 rfl) rfl rfl ?_
  refine a_ld 1 0 rfl rfl (ev_ld1 (j := 7) rfl rfl Tryd.isAgg143 (sub_arr E32_len 0 _ (k := 7) ⟨by omega, by omega⟩ rfl) rfl) (by kernel_rfl) (by rfl) (by kernel_rfl) (by kernel_rfl) (by kernel_rfl) (by kernel_rfl) (fun _ _ _ h => h) (g0 rfl) rfl rfl ?_
  refine a_pu 2 rfl (ev_move rfl rfl) (by rfl) (by kernel_rfl) (by kernel_rfl) (by kernel_rfl) (fun _ _ _ h => h) (g0 rfl) rfl rfl ?_
  refine a_pu 4 rfl (ev_move rfl rfl) (by rfl) (by kernel_rfl) (by kernel_rfl) (by kernel_rfl) (fun _ _ _ h => h) (g0 rfl) rfl rfl ?_
  refine a_pu 7 rfl (ev_move rfl rfl) (by rfl) (by kernel_rfl) (by kernel_rfl) (by kernel_rfl) (fun _ _ _ h => h) (g0 rfl) rfl rfl ?_
  refine a_pu 11 rfl (ev_move rfl rfl) (by rfl) (by kernel_rfl) (by kernel_rfl) (by kernel_rfl) (fun _ _ _ h => h) (g0 rfl) rfl rfl ?_
  refine a_pu 12 rfl (ev_idx_array (k := 5) rfl rfl rfl Tryd.runUnderlying144 Tryd.sizeOf143 ⟨by omega, by omega⟩ rfl) (by rfl) (by kernel_rfl) (by kernel_rfl) (by kernel_rfl) (fun _ _ _ h => h) (g0 rfl) rfl rfl ?_
  refine a_ld 13 1 rfl rfl (ev_ld1 (j := 5) rfl rfl Tryd.isAgg143 (sub_arr E32_len 0 _ (k := 5) ⟨by omega, by omega⟩ rfl) rfl) (by kernel_rfl) (by rfl) (by kernel_rfl) (by kernel_rfl) (by kernel_rfl) (by kernel_rfl) (fun _ _ _ h => h) (g0 rfl) rfl rfl ?_
  refine a_pu 14 rfl (ev_bin rfl rfl rfl rfl (and_32 _ _)) (by rfl) (by kernel_rfl) (by kernel_rfl) (by kernel_rfl) (fun _ _ _ h => h) (g0 rfl) rfl rfl ?_
  refine a_pu 15 rfl (ev_move rfl rfl) (by rfl) (by kernel_rfl) (by kernel_rfl) (by kernel_rfl) (fun _ _ _ h => h) (g0 rfl) rfl rfl ?_
  refine a_pu 16 rfl (ev_un rfl rfl (not_32 _)) (by rfl) (by kernel_rfl) (by kernel_rfl) (by kernel_rfl) (fun _ _ _ h => h) (g0 rfl) rfl rfl ?_
  refine a_pu 17 rfl (ev_idx_array (k := 6) rfl rfl rfl Tryd.runUnderlying144 Tryd.sizeOf143 ⟨by omega, by omega⟩ rfl) (by rfl) (by kernel_rfl) (by kernel_rfl) (by kernel_rfl) (fun _ _ _ h => h) (g0 rfl) rfl rfl ?_
  refine a_ld 18 2 rfl rfl (ev_ld1 (j := 6) rfl rfl Tryd.isAgg143 (sub_arr E32_len 0 _ (k := 6) ⟨by omega, by omega⟩ rfl) rfl) (by kernel_rfl) (by rfl) (by kernel_rfl) (by kernel_rfl) (by kernel_rfl) (by kernel_rfl) (fun _ _ _ h => h) (g0 rfl) rfl rfl ?_
  refine a_pu 19 rfl (ev_bin rfl rfl rfl rfl (and_32 _ _)) (by rfl) (by kernel_rfl) (by kernel_rfl) (by kernel_rfl) (fun _ _ _ h => h) (g0 rfl) rfl rfl ?_
  refine a_pu 20 rfl (ev_bin rfl rfl rfl rfl (xor_32 _ _)) (by rfl) (by kernel_rfl) (by kernel_rfl) (by kernel_rfl) (fun _ _ _ h => h) (g0 rfl) rfl rfl ?_
  refine a_pu 22 rfl (ev_move rfl rfl) (by rfl) (by kernel_rfl) (by kernel_rfl) (by kernel_rfl) (fun _ _ _ h => h) (g0 rfl) rfl rfl ?_
  obtain ⟨r3, Hc4, H⟩ := bind_some' H
  refine ac 3 (by kernel_rfl) (sl_cons (hG 1 rfl) (sl_cons (hG 1 rfl) (sl_cons (hG 1 rfl) sl_nil))) (k_call (c_turn_Right (at' 0 a0_v.l 4) 6 r3 Hc4) Tryd.call135 rfl rfl rfl [] [] rfl rfl (g0 rfl) rfl rfl ?_)
  rintro _ _ _ ⟨rfl, rfl, rfl⟩
  dsimp only [List.cons_append, List.nil_append]
  obtain ⟨r5, Hc6, H⟩ := bind_some' H
  refine ac 5 (by kernel_rfl) (sl_cons (hG 1 rfl) (sl_cons (hG 1 rfl) (sl_cons (hG 1 rfl) sl_nil))) (k_call (c_turn_Right (at' 0 a0_v.l 4) 11 r5 Hc6) Tryd.call135 rfl rfl rfl [] [] rfl rfl (g0 rfl) rfl rfl ?_)
  rintro _ _ _ ⟨rfl, rfl, rfl⟩
  dsimp only [List.cons_append, List.nil_append]
  refine a_pu 6 rfl (ev_bin rfl rfl rfl rfl (xor_32 _ _)) (by rfl) (by kernel_rfl) (by kernel_rfl) (by kernel_rfl) (fun _ _ _ h => h) (g0 rfl) rfl rfl ?_
  obtain ⟨r7, Hc8, H⟩ := bind_some' H
  refine ac 8 (by kernel_rfl) (sl_cons (hG 1 rfl) (sl_cons (hG 1 rfl) (sl_cons (hG 1 rfl) sl_nil))) (k_call (c_turn_Right (at' 0 a0_v.l 4) 25 r7 Hc8) Tryd.call135 rfl rfl rfl [] [] rfl rfl (g0 rfl) rfl rfl ?_)
  rintro _ _ _ ⟨rfl, rfl, rfl⟩
  dsimp only [List.cons_append, List.nil_append]
  refine a_pu 9 rfl (ev_bin rfl rfl rfl rfl (xor_32 _ _)) (by rfl) (by kernel_rfl) (by kernel_rfl) (by kernel_rfl) (fun _ _ _ h => h) (g0 rfl) rfl rfl ?_
  refine a_pu 10 rfl (ev_bin rfl rfl rfl rfl (add_32 _ _)) (by rfl) (by kernel_rfl) (by kernel_rfl) (by kernel_rfl) (fun _ _ _ h => h) (g0 rfl) rfl rfl ?_
  refine a_pu 21 rfl (ev_bin rfl rfl rfl rfl (add_32 _ _)) (by rfl) (by kernel_rfl) (by kernel_rfl) (by kernel_rfl) (fun _ _ _ h => h) (g0 rfl) rfl rfl ?_
  refine a_pu 23 rfl (ev_bin rfl rfl rfl rfl (add_32 _ _)) (by rfl) (by kernel_rfl) (by kernel_rfl) (by kernel_rfl) (fun _ _ _ h => h) (g0 rfl) rfl rfl ?_
  refine a_pu 24 rfl (ev_assign rfl rfl) (by rfl) (by kernel_rfl) (by kernel_rfl) (by kernel_rfl) (fun _ _ _ h => h) (g0 rfl) rfl rfl ?_
  refine a_done (by kernel_rfl) (sl_cons (hG 1 rfl) (sl_cons (hG 1 rfl) (sl_cons (hG 1 rfl) sl_nil))) ?_
  refine q_then ?_
  refine s_seq ?_
  refine s_draw mixed [(10, [], Has b1 0 (a0_v.l.flatMap E32)), (14, [], Has b1 0 (a0_v.l.flatMap E32)), (18, [], Has b1 0 (a0_v.l.flatMap E32)), (20, [], Has b1 0 (a0_v.l.flatMap E32))] ?_
  refine a_pu 0 rfl (ev_move rfl rfl) (by rfl) (by kernel_rfl) (by kernel_rfl) (by kernel_rfl) (fun _ _ _ h => h) (g0 rfl) rfl rfl ?_
  refine a_pu 2 rfl (ev_move rfl rfl) (by rfl) (by kernel_rfl) (by kernel_rfl) (by kernel_rfl) (fun _ _ _ h => h) (g0 rfl) rfl rfl ?_
  refine a_pu 5 rfl (ev_move rfl rfl) (by rfl) (by kernel_rfl) (by kernel_rfl) (by kernel_rfl) (fun _ _ _ h => h) (g0 rfl) rfl rfl ?_
  refine a_pu 8 rfl (ev_move rfl rfl) (by rfl) (by kernel_rfl) (by kernel_rfl) (by kernel_rfl) (fun _ _ _ h => h) (g0 rfl) rfl rfl ?_
  refine a_pu 9 rfl (ev_idx_array (k := 1) rfl rfl rfl Tryd.runUnderlying144 Tryd.sizeOf143 ⟨by omega, by omega⟩ rfl) (by rfl) (by kernel_rfl) (by kernel_rfl) (by kernel_rfl) (fun _ _ _ h => h) (g0 rfl) rfl rfl ?_
  refine a_ld 10 0 rfl rfl (ev_ld1 (j := 1) rfl rfl Tryd.isAgg143 (sub_arr E32_len 0 _ (k := 1) ⟨by omega, by omega⟩ rfl) rfl) (by kernel_rfl) (by rfl) (by kernel_rfl) (by kernel_rfl) (by kernel_rfl) (by kernel_rfl) (fun _ _ _ h => h) (g0 rfl) rfl rfl ?_
  refine a_pu 11 rfl (ev_bin rfl rfl rfl rfl (and_32 _ _)) (by rfl) (by kernel_rfl) (by kernel_rfl) (by kernel_rfl) (fun _ _ _ h => h) (g0 rfl) rfl rfl ?_
  refine a_pu 12 rfl (ev_move rfl rfl) (by rfl) (by kernel_rfl) (by kernel_rfl) (by kernel_rfl) (fun _ _ _ h => h) (g0 rfl) rfl rfl ?_
  refine a_pu 13 rfl (ev_idx_array (k := 2) rfl rfl rfl Tryd.runUnderlying144 Tryd.sizeOf143 ⟨by omega, by omega⟩ rfl) (by rfl) (by kernel_rfl) (by kernel_rfl) (by kernel_rfl) (fun _ _ _ h => h) (g0 rfl) rfl rfl ?_
  refine a_ld 14 1 rfl rfl (ev_ld1 (j := 2) rfl rfl Tryd.isAgg143 (sub_arr E32_len 0 _ (k := 2) ⟨by omega, by omega⟩ rfl) rfl) (by kernel_rfl) (by rfl) (by kernel_rfl) (by kernel_rfl) (by kernel_rfl) (by kernel_rfl) (fun _ _ _ h => h) (g0 rfl) rfl rfl ?_
  refine a_pu 15 rfl (ev_bin rfl rfl rfl rfl (and_32 _ _)) (by rfl) (by kernel_rfl) (by kernel_rfl) (by kernel_rfl) (fun _ _ _ h => h) (g0 rfl) rfl rfl ?_
  refine a_pu 16 rfl (ev_bin rfl rfl rfl rfl (xor_32 _ _)) (by rfl) (by kernel_rfl) (by kernel_rfl) (by kernel_rfl) (fun _ _ _ h => h) (g0 rfl) rfl rfl ?_
  refine a_pu 17 rfl (ev_idx_array (k := 1) rfl rfl rfl Tryd.runUnderlying144 Tryd.sizeOf143 ⟨by omega, by omega⟩ rfl) (by rfl) (by kernel_rfl) (by kernel_rfl) (by kernel_rfl) (fun _ _ _ h => h) (g0 rfl) rfl rfl ?_
  refine a_ld 18 2 rfl rfl (ev_ld1 (j := 1) rfl rfl Tryd.isAgg143 (sub_arr E32_len 0 _ (k := 1) ⟨by omega, by omega⟩ rfl) rfl) (by kernel_rfl) (by rfl) (by kernel_rfl) (by kernel_rfl) (by kernel_rfl) (by kernel_rfl) (fun _ _ _ h => h) (g0 rfl) rfl rfl ?_
  refine a_pu 19 rfl (ev_idx_array (k := 2) rfl rfl rfl Tryd.runUnderlying144 Tryd.sizeOf143 ⟨by omega, by omega⟩ rfl) (by rfl) (by kernel_rfl) (by kernel_rfl) (by kernel_rfl) (fun _ _ _ h => h) (g0 rfl) rfl rfl ?_
  refine a_ld 20 3 rfl rfl (ev_ld1 (j := 2) rfl rfl Tryd.isAgg143 (sub_arr E32_len 0 _ (k := 2) ⟨by omega, by omega⟩ rfl) rfl) (by kernel_rfl) (by rfl) (by kernel_rfl) (by kernel_rfl) (by kernel_rfl) (by kernel_rfl) (fun _ _ _ h => h) (g0 rfl) rfl rfl ?_
  refine a_pu 21 rfl (ev_bin rfl rfl rfl rfl (and_32 _ _)) (by rfl) (by kernel_rfl) (by kernel_rfl) (by kernel_rfl) (fun _ _ _ h => h) (g0 rfl) rfl rfl ?_
  refine a_pu 22 rfl (ev_bin rfl rfl rfl rfl (xor_32 _ _)) (by rfl) (by kernel_rfl) (by kernel_rfl) (by kernel_rfl) (fun _ _ _ h => h) (g0 rfl) rfl rfl ?_
  obtain ⟨r9, Hc10, H⟩ := bind_some' H
  refine ac 1 (by kernel_rfl) (sl_cons (hG 1 rfl) (sl_cons (hG 1 rfl) (sl_cons (hG 1 rfl) (sl_cons (hG 1 rfl) sl_nil)))) (k_call (c_turn_Right (at' 0 a0_v.l 0) 2 r9 Hc10) Tryd.call135 rfl rfl rfl [] [] rfl rfl (g0 rfl) rfl rfl ?_)
  rintro _ _ _ ⟨rfl, rfl, rfl⟩
  dsimp only [List.cons_append, List.nil_append]
  obtain ⟨r11, Hc12, H⟩ := bind_some' H
  refine ac 3 (by kernel_rfl) (sl_cons (hG 1 rfl) (sl_cons (hG 1 rfl) (sl_cons (hG 1 rfl) (sl_cons (hG 1 rfl) sl_nil)))) (k_call (c_turn_Right (at' 0 a0_v.l 0) 13 r11 Hc12) Tryd.call135 rfl rfl rfl [] [] rfl rfl (g0 rfl) rfl rfl ?_)
  rintro _ _ _ ⟨rfl, rfl, rfl⟩
  dsimp only [List.cons_append, List.nil_append]
  refine a_pu 4 rfl (ev_bin rfl rfl rfl rfl (xor_32 _ _)) (by rfl) (by kernel_rfl) (by kernel_rfl) (by kernel_rfl) (fun _ _ _ h => h) (g0 rfl) rfl rfl ?_
  obtain ⟨r13, Hc14, H⟩ := bind_some' H
  refine ac 6 (by kernel_rfl) (sl_cons (hG 1 rfl) (sl_cons (hG 1 rfl) (sl_cons (hG 1 rfl) (sl_cons (hG 1 rfl) sl_nil)))) (k_call (c_turn_Right (at' 0 a0_v.l 0) 22 r13 Hc14) Tryd.call135 rfl rfl rfl [] [] rfl rfl (g0 rfl) rfl rfl ?_)
  rintro _ _ _ ⟨rfl, rfl, rfl⟩
  dsimp only [List.cons_append, List.nil_append]
  refine a_pu 7 rfl (ev_bin rfl rfl rfl rfl (xor_32 _ _)) (by rfl) (by kernel_rfl) (by kernel_rfl) (by kernel_rfl) (fun _ _ _ h => h) (g0 rfl) rfl rfl ?_
  refine a_pu 23 rfl (ev_bin rfl rfl rfl rfl (add_32 _ _)) (by rfl) (by kernel_rfl) (by kernel_rfl) (by kernel_rfl) (fun _ _ _ h => h) (g0 rfl) rfl rfl ?_
  refine a_pu 24 rfl (ev_assign rfl rfl) (by rfl) (by kernel_rfl) (by kernel_rfl) (by kernel_rfl) (fun _ _ _ h => h) (g0 rfl) rfl rfl ?_
  refine a_done (by kernel_rfl) (sl_cons (hG 1 rfl) (sl_cons (hG 1 rfl) (sl_cons (hG 1 rfl) (sl_cons (hG 1 rfl) sl_nil)))) ?_
  refine q_then ?_
  refine s_seq ?_
  refine s_reg [0, 1, 2, 3, 4, 5, 6, 7, 8, 9, 10, 11, 12, 13, 14, 15, 16, 17, 18] rfl ?_
  refine o_pu rfl (ev_move rfl rfl) (g0 rfl) rfl rfl ?_
  refine o_pu rfl (ev_move rfl rfl) (g0 rfl) rfl rfl ?_
  refine o_pu rfl (ev_bin rfl rfl rfl rfl (add_32 _ _)) (g0 rfl) rfl rfl ?_
  refine o_pu rfl (ev_move rfl rfl) (g0 rfl) rfl rfl ?_
  refine o_pu rfl (ev_idx_array (k := 1) rfl rfl rfl Tryd.runUnderlying144 Tryd.sizeOf143 ⟨by omega, by omega⟩ rfl) (g0 rfl) rfl rfl ?_
  refine o_ld (hG 1 rfl) rfl (ev_ld1 (j := 1) rfl rfl Tryd.isAgg143 (sub_arr E32_len 0 _ (k := 1) ⟨by omega, by omega⟩ rfl) rfl) (g0 rfl) rfl rfl ?_
  refine o_pu rfl (ev_idx_array (k := 2) rfl rfl rfl Tryd.runUnderlying144 Tryd.sizeOf143 ⟨by omega, by omega⟩ rfl) (g0 rfl) rfl rfl ?_
  refine o_ld (hG 1 rfl) rfl (ev_ld1 (j := 2) rfl rfl Tryd.isAgg143 (sub_arr E32_len 0 _ (k := 2) ⟨by omega, by omega⟩ rfl) rfl) (g0 rfl) rfl rfl ?_
  refine o_pu rfl (ev_idx_array (k := 3) rfl rfl rfl Tryd.runUnderlying144 Tryd.sizeOf143 ⟨by omega, by omega⟩ rfl) (g0 rfl) rfl rfl ?_
  refine o_ld (hG 1 rfl) rfl (ev_ld1 (j := 3) rfl rfl Tryd.isAgg143 (sub_arr E32_len 0 _ (k := 3) ⟨by omega, by omega⟩ rfl) rfl) (g0 rfl) rfl rfl ?_
  refine o_pu rfl (ev_move rfl rfl) (g0 rfl) rfl rfl ?_
  refine o_pu rfl (ev_bin rfl rfl rfl rfl (add_32 _ _)) (g0 rfl) rfl rfl ?_
  refine o_pu rfl (ev_move rfl rfl) (g0 rfl) rfl rfl ?_
  refine o_pu rfl (ev_idx_array (k := 5) rfl rfl rfl Tryd.runUnderlying144 Tryd.sizeOf143 ⟨by omega, by omega⟩ rfl) (g0 rfl) rfl rfl ?_
  refine o_ld (hG 1 rfl) rfl (ev_ld1 (j := 5) rfl rfl Tryd.isAgg143 (sub_arr E32_len 0 _ (k := 5) ⟨by omega, by omega⟩ rfl) rfl) (g0 rfl) rfl rfl ?_
  refine o_pu rfl (ev_idx_array (k := 6) rfl rfl rfl Tryd.runUnderlying144 Tryd.sizeOf143 ⟨by omega, by omega⟩ rfl) (g0 rfl) rfl rfl ?_
  refine o_ld (hG 1 rfl) rfl (ev_ld1 (j := 6) rfl rfl Tryd.isAgg143 (sub_arr E32_len 0 _ (k := 6) ⟨by omega, by omega⟩ rfl) rfl) (g0 rfl) rfl rfl ?_
  refine o_pu rfl (ev_build_arr (f := E32) (a := (⟨[((((((at' 0 a0_v.l 7) + ((r3 ^^^ r5) ^^^ r7)) + (((at' 0 a0_v.l 4) &&& (at' 0 a0_v.l 5)) ^^^ ((~~~(at' 0 a0_v.l 4)) &&& (at' 0 a0_v.l 6)))) + a1_more) + (((r9 ^^^ r11) ^^^ r13) + ((((at' 0 a0_v.l 0) &&& (at' 0 a0_v.l 1)) ^^^ ((at' 0 a0_v.l 0) &&& (at' 0 a0_v.l 2))) ^^^ ((at' 0 a0_v.l 1) &&& (at' 0 a0_v.l 2))))) : UInt32), ((at' 0 a0_v.l 0) : UInt32), ((at' 0 a0_v.l 1) : UInt32), ((at' 0 a0_v.l 2) : UInt32), (((at' 0 a0_v.l 3) + ((((at' 0 a0_v.l 7) + ((r3 ^^^ r5) ^^^ r7)) + (((at' 0 a0_v.l 4) &&& (at' 0 a0_v.l 5)) ^^^ ((~~~(at' 0 a0_v.l 4)) &&& (at' 0 a0_v.l 6)))) + a1_more)) : UInt32), ((at' 0 a0_v.l 4) : UInt32), ((at' 0 a0_v.l 5) : UInt32), ((at' 0 a0_v.l 6) : UInt32)], rfl⟩ : Arr UInt32 8)) rfl rfl Tryd.zeroValue144 Tryd.runUnderlying144 Tryd.sizeOf143 (fill_all rfl rfl rfl rfl rfl)) (g0 rfl) rfl rfl ?_
  refine oc (k_st (j := 0) rfl rfl rfl rfl (vs := (⟨[((((((at' 0 a0_v.l 7) + ((r3 ^^^ r5) ^^^ r7)) + (((at' 0 a0_v.l 4) &&& (at' 0 a0_v.l 5)) ^^^ ((~~~(at' 0 a0_v.l 4)) &&& (at' 0 a0_v.l 6)))) + a1_more) + (((r9 ^^^ r11) ^^^ r13) + ((((at' 0 a0_v.l 0) &&& (at' 0 a0_v.l 1)) ^^^ ((at' 0 a0_v.l 0) &&& (at' 0 a0_v.l 2))) ^^^ ((at' 0 a0_v.l 1) &&& (at' 0 a0_v.l 2))))) : UInt32), ((at' 0 a0_v.l 0) : UInt32), ((at' 0 a0_v.l 1) : UInt32), ((at' 0 a0_v.l 2) : UInt32), (((at' 0 a0_v.l 3) + ((((at' 0 a0_v.l 7) + ((r3 ^^^ r5) ^^^ r7)) + (((at' 0 a0_v.l 4) &&& (at' 0 a0_v.l 5)) ^^^ ((~~~(at' 0 a0_v.l 4)) &&& (at' 0 a0_v.l 6)))) + a1_more)) : UInt32), ((at' 0 a0_v.l 4) : UInt32), ((at' 0 a0_v.l 5) : UInt32), ((at' 0 a0_v.l 6) : UInt32)], rfl⟩ : Arr UInt32 8).l.flatMap E32) rfl (sz (arr_len E32_len _ rfl) Tryd.sizeOf144) (arr_sc E32_one _) 0 rfl (spl_all ((arr_len E32_len _ rfl).trans (arr_len E32_len _ rfl).symm)) rfl (g0 rfl) rfl ?_)
  refine o_nil ?_
  refine q_then ?_
  refine s_ret ?_
  cases H
  exact q_end (rs_1 Tryd.results113 (rv_cell (j := 0) rfl (hG 0 rfl) Tryd.isAgg144 (sz (arr_len E32_len _ rfl) Tryd.sizeOf144) (sub_all _) rfl)) ⟨rfl, rfl, rfl⟩ [] rfl 0 rfl [] rfl 2 rfl

end Go.Proofs.YtfllkhijdijleaaDoor.Wl
