/- ManifestTorn: whatever the key, the manifest and the number, the law returns true, and each argument reads behind the call as it read before; conditions: the row's own (what can be read as data; the two listed tables of unicode/utf8, tied to the program's text). -/
import Derived.Test.YtfllkhijdijleaaDoorWlRow
import Derived.Test.YtfllkhijdijleaaDoorWlL3
set_option linter.unusedSimpArgs false
set_option linter.unusedVariables false
namespace Go.Proofs.YtfllkhijdijleaaDoor.Wl
open Go.RowKit Go.ChangeShapes Go.WideShapes Go.ChangeAt Go.Proofs Go.Proofs.YtfllkhijdijleaaDoor
set_option maxRecDepth 100000 in
theorem torn_lifted (plain : ∀ key m n, law12_ManifestTorn key m n = some true) (os : Os) (started : os.Started) (H : Type) (enc : TypeId × Value → H) :
    ReturnsInHanded {} Tryd.checked os 3 .any (fun w args => (Rows.manifestTornSpec.pre enc Tryd.prog Tryd.f3 [] false w args ∧ laidMetH Tryd.prog Rows.manifestTornRow.laid w) ∧ sizedMet enc Tryd.prog Tryd.f3 (OpenSpec.ofChange Rows.manifestTornSpec) false w args)
      (Rows.manifestTornSpec.post enc Tryd.prog Tryd.f3 false true false false) := by
  refine returnsInHanded_of_change_and (C := Tryd.checked) (X := fun w _ => laidMetH Tryd.prog Rows.manifestTornRow.laid w) (fun _ _ _ hh h => h.of_heap hh) own started (by kernel_rfl) Tryd.func3
    (ChangeSpec.witness_shaped (enc := enc) (C := Tryd.checked) (os := os) (X := fun w _ => laidMetH Tryd.prog Rows.manifestTornRow.laid w) false (World.laidAll Tryd.prog os Rows.manifestTornRow.laid) #[.slice none 0 0, .agg (Mani.zero.cells).toArray, .int .i64 0] 8 (World.laidAll_os _ _ _)
      (World.shaped_of_ZipB (by kernel_rfl) (by kernel_rfl)) (by kernel_rfl) (by kernel_rfl) (by kernel_rfl)
      (by rw [MakeChecks.laidMetH_plain _ _ _ (by kernel_rfl)]; exact laidMet_laidAll _ (by kernel_rfl) (by kernel_rfl))) ?_
  intro W base args ds gs before hval0 hW _ _ _ _
  have hval : ∀ (j : Nat) t v, Tryd.f3.params[j]? = some t → args[j]? = some v → Value.okWide Tryd.prog W .any base t v := hval0
  have hW' := hW
  obtain ⟨p, q, hA0, hV, rfl, hfz, hnd⟩ := hW
  have hA : DataW.TrodAll enc Tryd.prog W 0 (fun _ => true) true Tryd.f3.params.toList args.toList ds p := hA0
  rw [Tryd.params3] at hA hval
  obtain ⟨v0, vs0, d0, ds0, p0, q0, hargs, rfl, rfl, h0, r0⟩ := trodAll_cons hA
  obtain ⟨v1, vs1, d1, ds1, p1, q1, rfl, rfl, rfl, h1, r1⟩ := trodAll_cons r0
  obtain ⟨v2, vs2, d2, ds2, p2, q2, rfl, rfl, rfl, h2, r2⟩ := trodAll_cons r1
  obtain ⟨rfl, rfl, rfl⟩ := trodAll_nil r2
  obtain rfl : args = #[v0, v1, v2] := by cases args; simp_all
  obtain ⟨rfl, rfl⟩ := trodVars_none hV
  have lt0 : ∀ x ∈ p0, x.block < W.heap.size := by obtain ⟨m, hm⟩ := h0; exact DataW.trod_lt m _ _ _ hm
  have lt1 : ∀ x ∈ p1, x.block < W.heap.size := by obtain ⟨m, hm⟩ := h1; exact DataW.trod_lt m _ _ _ hm
  have lt2 : ∀ x ∈ p2, x.block < W.heap.size := by obtain ⟨m, hm⟩ := h2; exact DataW.trod_lt m _ _ _ hm
  obtain ⟨A0, len0, cap0, rfl⟩ := okWide_slice Tryd.underlying22 (hval 0 22 v0 rfl rfl)
  obtain ⟨x0, rfl, s0⟩ : ∃ xs : List UInt8, xs.length = len0 ∧ (Sl E8 A0 cap0 xs).p (J0 W) := by
    obtain ⟨fuel, hf⟩ := h0
    exact start_bytes Tryd.underlying22 Tryd.underlying5 (by kernel_rfl) hf
  obtain ⟨x1, rfl⟩ := dec_val (m := 35) (.inl ⟨_, Tryd.underlying27⟩) (by kernel_rfl) (by kernel_rfl) rfl dec_Mani (hval 1 27 v1 rfl rfl)
  obtain ⟨x2, rfl, _⟩ := val_i Tryd.underlying3 (hval 2 3 v2 rfl rfl)
  clear hA0 hval0
  have hp := plain x0 x1 x2
  refine (law_of_fn (c_law12_ManifestTorn x0 A0 cap0 x1 x2 true hp) (fun p hp => by
    rcases List.mem_cons.1 hp with rfl | hp
    · exact s0
    · cases hp)).mono fun e W' ⟨he, bel⟩ => ?_
  subst he
  exact ⟨_, rfl, _, _, _, [], _, [], hW', trodAll_mk1 (shut_bool Tryd.underlying4 _), (trodAll_cons_mk (Below.trod laidOut (by kernel_rfl) (of_decide_eq_true (by kernel_rfl)) h0 bel lt0) (trodAll_cons_mk (Below.trod laidOut (by kernel_rfl) (of_decide_eq_true (by kernel_rfl)) h1 bel lt1) (trodAll_cons_mk (Below.trod laidOut (by kernel_rfl) (of_decide_eq_true (by kernel_rfl)) h2 bel lt2) trodAll_mk0))), rfl, bel.frame _, fun h => by cases h⟩
theorem torn_holds (plain : ∀ key m n, law12_ManifestTorn key m n = some true) : Rows.ManifestTornSaid :=
  OpenClaim.holds_of_wide 3 Tryd.f3 rfl rfl rfl rfl rfl rfl rfl ⟨rfl, rfl, rfl, rfl, rfl⟩ rfl rfl rfl rfl rfl (by kernel_rfl) Tryd.func3 (by kernel_rfl)
    (of_decide_eq_true (by kernel_rfl)) (by unfold Func.isWrapper; first | (rw [if_pos (by decide +kernel)]; kernel_rfl) | (rw [if_neg (by decide +kernel)]; exact ⟨rfl, rfl⟩))
    (fun os started H enc _ => torn_lifted plain os started H enc)
theorem torn_card (plain : ∀ key m n, law12_ManifestTorn key m n = some true) : Rows.ManifestTornCardSaid :=
  Claim7.holds_tied_plain_at .later [] [.data, .pinned] true (true, "3459a46e84fb0d2166cfb2cb7a87000e57598342fe5bcca441310f8f8c1f6d95") false (torn_holds plain) (fun _ h => by cases h) (by kernel_rfl) (fun _ h => by cases h) manifestTorn_row_tie rfl ⟨rfl, rfl⟩ (by kernel_rfl) rfl
    (fun f fn hf hfn => by
      obtain rfl : f = 3 := Option.some.inj ((show Tryd.prog.funcNamed "waterline/waterlinelaw12.ManifestTorn" = some 3 by kernel_rfl).symm.trans hf) |>.symm
      obtain rfl : fn = Tryd.f3 := (Option.some.inj (Tryd.func3.symm.trans hfn)).symm
      exact ⟨by kernel_rfl, fun j t ht => by
        rw [Tryd.params3] at ht
        have hm : t ∈ [22, 27, 3] := by simpa using Array.mem_of_getElem? ht
        have hall : ([22, 27, 3].all fun u => !Tryd.prog.wantsStandIn u) = true := by kernel_rfl
        exact (show Tryd.prog.wantsStandIn t = false by simpa using List.all_eq_true.1 hall t hm)⟩)
    (by kernel_rfl)

end Go.Proofs.YtfllkhijdijleaaDoor.Wl
namespace Go.Proofs.YtfllkhijdijleaaDoor
theorem manifestTornCardProved : Rows.ManifestTornCardSaid := Wl.torn_card Wl.torn_plain
end Go.Proofs.YtfllkhijdijleaaDoor
