import Derived.Test.YtfllkhijdijleaaDoorWlT
import Derived.Test.YtfllkhijdijleaaDoorWlQ
import Derived.Test.YtfllkhijdijleaaDoorProg
set_option linter.unusedSimpArgs false
set_option linter.unusedVariables false
set_option maxRecDepth 10000
namespace Go.Proofs.YtfllkhijdijleaaDoor.Wl
open Go.RowKit Go.Proofs
theorem mixed : Tryd.prog.follows .mixedOrders = true := by kernel_rfl
theorem info3 : Tryd.prog.info? 3 = some Tryd.t3 := Tryd.type3
theorem info5 : Tryd.prog.info? 5 = some Tryd.t5 := Tryd.type5
theorem info9 : Tryd.prog.info? 9 = some Tryd.t9 := Tryd.type9
theorem info49 : Tryd.prog.info? 49 = some Tryd.t49 := Tryd.type49
theorem pl25 : ∀ w, (placesOf #[⟨ "Version", 3, 0, false, "", "", 0⟩, ⟨ "Size", 3, 1, false, "", "", 8⟩, ⟨ "Digest", 23, 2, false, "", "", 16⟩]).run Tryd.prog w = .ok #[(0, 1), (1, 1), (2, 32)] w := fun w => by simp [placesOf, Tryd.sizeOf23, Tryd.sizeOf3]
theorem pl27 : ∀ w, (placesOf #[⟨ "Name", 9, 0, false, "", "", 0⟩, ⟨ "Image", 25, 1, false, "", "", 16⟩]).run Tryd.prog w = .ok #[(0, 1), (1, 34)] w := fun w => by simp [placesOf, Tryd.sizeOf25, Tryd.sizeOf9]
theorem pl47 : ∀ w, (placesOf #[⟨ "Kind", 3, 0, false, "", "", 0⟩, ⟨ "N", 3, 1, false, "", "", 8⟩, ⟨ "Bytes", 22, 2, false, "", "", 16⟩]).run Tryd.prog w = .ok #[(0, 1), (1, 1), (2, 1)] w := fun w => by simp [placesOf, Tryd.sizeOf22, Tryd.sizeOf3]
theorem pl49 : ∀ w, (placesOf #[⟨ "Kind", 3, 0, false, "", "", 0⟩, ⟨ "Tenant", 3, 1, false, "", "", 8⟩, ⟨ "N", 3, 2, false, "", "", 16⟩, ⟨ "Req", 47, 3, false, "", "", 24⟩, ⟨ "Mask", 22, 6, false, "", "", 64⟩]).run Tryd.prog w = .ok #[(0, 1), (1, 1), (2, 1), (3, 3), (6, 1)] w := fun w => by simp [placesOf, Tryd.sizeOf22, Tryd.sizeOf3, Tryd.sizeOf47]
theorem pl57 : ∀ w, (placesOf #[⟨ "Name", 9, 0, false, "", "", 0⟩, ⟨ "Key", 22, 1, false, "", "", 16⟩, ⟨ "Slot", 3, 2, false, "", "", 40⟩, ⟨ "Budget", 3, 3, false, "", "", 48⟩, ⟨ "Quota", 3, 4, false, "", "", 56⟩, ⟨ "Rights", 3, 5, false, "", "", 64⟩, ⟨ "First", 22, 6, false, "", "", 72⟩]).run Tryd.prog w = .ok #[(0, 1), (1, 1), (2, 1), (3, 1), (4, 1), (5, 1), (6, 1)] w := fun w => by simp [placesOf, Tryd.sizeOf22, Tryd.sizeOf3, Tryd.sizeOf9]
theorem pl59 : ∀ w, (placesOf #[⟨ "Err", 30, 0, false, "", "", 0⟩, ⟨ "N", 3, 1, false, "", "", 8⟩, ⟨ "Got", 3, 2, false, "", "", 16⟩]).run Tryd.prog w = .ok #[(0, 1), (1, 1), (2, 1)] w := fun w => by simp [placesOf, Tryd.sizeOf3, Tryd.sizeOf30]
theorem pl92 : ∀ w, (placesOf #[⟨ "c", 57, 0, false, "", "waterline/model", 0⟩, ⟨ "m", 89, 7, false, "", "waterline/model", 96⟩, ⟨ "slots", 90, 114, false, "", "waterline/model", 280⟩]).run Tryd.prog w = .ok #[(0, 7), (7, 107), (114, 2)] w := fun w => by simp [placesOf, Tryd.sizeOf57, Tryd.sizeOf89, Tryd.sizeOf90]
theorem pl97 : ∀ w, (placesOf #[⟨ "Rights", 3, 0, false, "", "", 0⟩, ⟨ "From", 3, 1, false, "", "", 8⟩, ⟨ "Len", 3, 2, false, "", "", 16⟩]).run Tryd.prog w = .ok #[(0, 1), (1, 1), (2, 1)] w := fun w => by simp [placesOf, Tryd.sizeOf3]
theorem pl101 : ∀ w, (placesOf #[⟨ "Name", 4, 0, false, "", "", 0⟩, ⟨ "Tag", 4, 1, false, "", "", 1⟩, ⟨ "Digest", 23, 2, false, "", "", 2⟩, ⟨ "Worn", 4, 34, false, "", "", 34⟩]).run Tryd.prog w = .ok #[(0, 1), (1, 1), (2, 32), (34, 1)] w := fun w => by simp [placesOf, Tryd.sizeOf23, Tryd.sizeOf4]
theorem pl106 : ∀ w, (placesOf #[⟨ "b", 22, 0, false, "", "waterline/field", 0⟩]).run Tryd.prog w = .ok #[(0, 1)] w := fun w => by simp [placesOf, Tryd.sizeOf22]
theorem pl115 : ∀ w, (placesOf #[⟨ "b", 22, 0, false, "", "waterline/field", 0⟩, ⟨ "bad", 4, 1, false, "", "waterline/field", 24⟩]).run Tryd.prog w = .ok #[(0, 1), (1, 1)] w := fun w => by simp [placesOf, Tryd.sizeOf22, Tryd.sizeOf4]
theorem pl141 : ∀ w, (placesOf #[⟨ "m", 89, 0, false, "", "waterline/update", 0⟩, ⟨ "r", 59, 107, false, "", "waterline/update", 184⟩]).run Tryd.prog w = .ok #[(0, 107), (107, 3)] w := fun w => by simp [placesOf, Tryd.sizeOf59, Tryd.sizeOf89]
theorem pl147 : ∀ w, (placesOf #[⟨ "h", 144, 0, false, "", "waterline/sha", 0⟩, ⟨ "count", 123, 8, false, "", "waterline/sha", 32⟩, ⟨ "rest", 22, 9, false, "", "waterline/sha", 40⟩]).run Tryd.prog w = .ok #[(0, 8), (8, 1), (9, 1)] w := fun w => by simp [placesOf, Tryd.sizeOf123, Tryd.sizeOf144, Tryd.sizeOf22]
theorem pl192 : ∀ w, (placesOf #[⟨ "lo", 5, 0, false, "", "unicode/utf8", 0⟩, ⟨ "hi", 5, 1, false, "", "unicode/utf8", 1⟩]).run Tryd.prog w = .ok #[(0, 1), (1, 1)] w := fun w => by simp [placesOf, Tryd.sizeOf5]
theorem eqT5 : EqE Tryd.prog 5 E8 1 := eqe_8 Tryd.isAgg5 Tryd.underlying5
theorem eqT23 : EqE Tryd.prog 23 (fun a : Arr UInt8 32 => a.l.flatMap E8) 2 := eqe_arr E8_len eqT5 Tryd.isAgg23 Tryd.sizeOf23 rfl Tryd.underlying23 Tryd.type5 rfl
theorem eqG23 : Tryd.prog.eqGuardType Tryd.prog.depth 23 = false := by kernel_rfl
theorem eqT3 : EqE Tryd.prog 3 Ei 1 := eqe_i Tryd.isAgg3 Tryd.underlying3
theorem eqT25 : EqE Tryd.prog 25 Img.cells 3 := eqe_struct Tryd.isAgg25 Tryd.sizeOf25 Img.len Tryd.underlying25 (by kernel_rfl) (fun d hd x y w => by
  refine Eq.trans (b := Result.ok (decide (x.Version = y.Version) && (decide (x.Size = y.Size) && (decide (x.Digest = y.Digest) && true))) w) (show (Op.eqFields d (Img.cells x).toArray (Img.cells y).toArray [⟨ "Version", 3, 0, false, "", "", 0⟩, ⟨ "Size", 3, 1, false, "", "", 8⟩, ⟨ "Digest", 23, 2, false, "", "", 16⟩]).run Tryd.prog w = _ from (eqf_cons' (f := Ei) (x := x.Version) (y := y.Version) rfl eqT3 (Nat.ble_eq_true_of_le (by omega)) (Img.sub_Version _) (Img.sub_Version _) (eqf_cons' (f := Ei) (x := x.Size) (y := y.Size) rfl eqT3 (Nat.ble_eq_true_of_le (by omega)) (Img.sub_Size _) (Img.sub_Size _) (eqf_cons' (f := (fun a : Arr UInt8 32 => a.l.flatMap E8)) (x := x.Digest) (y := y.Digest) rfl eqT23 (Nat.ble_eq_true_of_le (by omega)) (Img.sub_Digest _) (Img.sub_Digest _) (eqf_nil' _ _ _ _))))) ?_
  congr 1
  cases x; cases y
  simp [Img.mk.injEq])
theorem eqG25 : Tryd.prog.eqGuardType Tryd.prog.depth 25 = false := by kernel_rfl
theorem eqT9 : EqE Tryd.prog 9 Es 1 := eqe_s Tryd.isAgg9 Tryd.underlying9
theorem eqT27 : EqE Tryd.prog 27 Mani.cells 4 := eqe_struct Tryd.isAgg27 Tryd.sizeOf27 Mani.len Tryd.underlying27 (by kernel_rfl) (fun d hd x y w => by
  refine Eq.trans (b := Result.ok (decide (x.Name = y.Name) && (decide (x.Image = y.Image) && true)) w) (show (Op.eqFields d (Mani.cells x).toArray (Mani.cells y).toArray [⟨ "Name", 9, 0, false, "", "", 0⟩, ⟨ "Image", 25, 1, false, "", "", 16⟩]).run Tryd.prog w = _ from (eqf_cons' (f := Es) (x := x.Name) (y := y.Name) rfl eqT9 (Nat.ble_eq_true_of_le (by omega)) (Mani.sub_Name _) (Mani.sub_Name _) (eqf_cons' (f := Img.cells) (x := x.Image) (y := y.Image) rfl eqT25 (Nat.ble_eq_true_of_le (by omega)) (Mani.sub_Image _) (Mani.sub_Image _) (eqf_nil' _ _ _ _)))) ?_
  congr 1
  cases x; cases y
  simp [Mani.mk.injEq])
theorem eqG27 : Tryd.prog.eqGuardType Tryd.prog.depth 27 = false := by kernel_rfl
theorem eqT30 : EqE Tryd.prog 30 Ei 1 := eqe_i Tryd.isAgg30 Tryd.underlying30
theorem eqT59 : EqE Tryd.prog 59 RespS.cells 2 := eqe_struct Tryd.isAgg59 Tryd.sizeOf59 RespS.len Tryd.underlying59 (by kernel_rfl) (fun d hd x y w => by
  refine Eq.trans (b := Result.ok (decide (x.Err = y.Err) && (decide (x.N = y.N) && (decide (x.Got = y.Got) && true))) w) (show (Op.eqFields d (RespS.cells x).toArray (RespS.cells y).toArray [⟨ "Err", 30, 0, false, "", "", 0⟩, ⟨ "N", 3, 1, false, "", "", 8⟩, ⟨ "Got", 3, 2, false, "", "", 16⟩]).run Tryd.prog w = _ from (eqf_cons' (f := Ei) (x := x.Err) (y := y.Err) rfl eqT30 (Nat.ble_eq_true_of_le (by omega)) (RespS.sub_Err _) (RespS.sub_Err _) (eqf_cons' (f := Ei) (x := x.N) (y := y.N) rfl eqT3 (Nat.ble_eq_true_of_le (by omega)) (RespS.sub_N _) (RespS.sub_N _) (eqf_cons' (f := Ei) (x := x.Got) (y := y.Got) rfl eqT3 (Nat.ble_eq_true_of_le (by omega)) (RespS.sub_Got _) (RespS.sub_Got _) (eqf_nil' _ _ _ _))))) ?_
  congr 1
  cases x; cases y
  simp [RespS.mk.injEq])
theorem eqG59 : Tryd.prog.eqGuardType Tryd.prog.depth 59 = false := by kernel_rfl
end Go.Proofs.YtfllkhijdijleaaDoor.Wl
