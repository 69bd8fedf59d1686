import Derived.Test.YtphbbnlbfbhcaaaDoorWlT
import Derived.Test.YtphbbnlbfbhcaaaDoorWlQ
import Derived.Test.YtphbbnlbfbhcaaaDoorProg
set_option linter.unusedSimpArgs false
set_option linter.unusedVariables false
set_option maxRecDepth 10000
namespace Go.Proofs.YtphbbnlbfbhcaaaDoor.Wl
open Go.RowKit Go.Proofs
theorem mixed : Tryd.prog.follows .mixedOrders = true := by kernel_rfl
theorem info3 : Tryd.prog.info? 3 = some Tryd.t3 := Tryd.type3
theorem info5 : Tryd.prog.info? 5 = some Tryd.t5 := Tryd.type5
theorem info9 : Tryd.prog.info? 9 = some Tryd.t9 := Tryd.type9
theorem info36 : Tryd.prog.info? 36 = some Tryd.t36 := Tryd.type36
theorem pl34 : ∀ w, (placesOf #[⟨ "Kind", 3, 0, false, "", "", 0⟩, ⟨ "N", 3, 1, false, "", "", 8⟩, ⟨ "Bytes", 32, 2, false, "", "", 16⟩]).run Tryd.prog w = .ok #[(0, 1), (1, 1), (2, 1)] w := fun w => by simp [placesOf, Tryd.sizeOf3, Tryd.sizeOf32]
theorem pl36 : ∀ w, (placesOf #[⟨ "Kind", 3, 0, false, "", "", 0⟩, ⟨ "Tenant", 3, 1, false, "", "", 8⟩, ⟨ "N", 3, 2, false, "", "", 16⟩, ⟨ "Req", 34, 3, false, "", "", 24⟩, ⟨ "Mask", 32, 6, false, "", "", 64⟩]).run Tryd.prog w = .ok #[(0, 1), (1, 1), (2, 1), (3, 3), (6, 1)] w := fun w => by simp [placesOf, Tryd.sizeOf3, Tryd.sizeOf32, Tryd.sizeOf34]
theorem pl46 : ∀ w, (placesOf #[⟨ "Name", 9, 0, false, "", "", 0⟩, ⟨ "Key", 32, 1, false, "", "", 16⟩, ⟨ "Slot", 3, 2, false, "", "", 40⟩, ⟨ "Budget", 3, 3, false, "", "", 48⟩, ⟨ "Quota", 3, 4, false, "", "", 56⟩, ⟨ "Rights", 3, 5, false, "", "", 64⟩, ⟨ "First", 32, 6, false, "", "", 72⟩]).run Tryd.prog w = .ok #[(0, 1), (1, 1), (2, 1), (3, 1), (4, 1), (5, 1), (6, 1)] w := fun w => by simp [placesOf, Tryd.sizeOf3, Tryd.sizeOf32, Tryd.sizeOf9]
theorem pl48 : ∀ w, (placesOf #[⟨ "Err", 24, 0, false, "", "", 0⟩, ⟨ "N", 3, 1, false, "", "", 8⟩, ⟨ "Got", 3, 2, false, "", "", 16⟩]).run Tryd.prog w = .ok #[(0, 1), (1, 1), (2, 1)] w := fun w => by simp [placesOf, Tryd.sizeOf24, Tryd.sizeOf3]
theorem pl71 : ∀ w, (placesOf #[⟨ "Version", 3, 0, false, "", "", 0⟩, ⟨ "Size", 3, 1, false, "", "", 8⟩, ⟨ "Digest", 69, 2, false, "", "", 16⟩]).run Tryd.prog w = .ok #[(0, 1), (1, 1), (2, 32)] w := fun w => by simp [placesOf, Tryd.sizeOf3, Tryd.sizeOf69]
theorem pl77 : ∀ w, (placesOf #[⟨ "c", 46, 0, false, "", "waterline/model", 0⟩, ⟨ "m", 74, 7, false, "", "waterline/model", 96⟩, ⟨ "slots", 75, 114, false, "", "waterline/model", 280⟩]).run Tryd.prog w = .ok #[(0, 7), (7, 107), (114, 2)] w := fun w => by simp [placesOf, Tryd.sizeOf46, Tryd.sizeOf74, Tryd.sizeOf75]
theorem pl82 : ∀ w, (placesOf #[⟨ "Rights", 3, 0, false, "", "", 0⟩, ⟨ "From", 3, 1, false, "", "", 8⟩, ⟨ "Len", 3, 2, false, "", "", 16⟩]).run Tryd.prog w = .ok #[(0, 1), (1, 1), (2, 1)] w := fun w => by simp [placesOf, Tryd.sizeOf3]
theorem pl86 : ∀ w, (placesOf #[⟨ "Name", 4, 0, false, "", "", 0⟩, ⟨ "Tag", 4, 1, false, "", "", 1⟩, ⟨ "Digest", 69, 2, false, "", "", 2⟩, ⟨ "Worn", 4, 34, false, "", "", 34⟩]).run Tryd.prog w = .ok #[(0, 1), (1, 1), (2, 32), (34, 1)] w := fun w => by simp [placesOf, Tryd.sizeOf4, Tryd.sizeOf69]
theorem pl109 : ∀ w, (placesOf #[⟨ "m", 74, 0, false, "", "waterline/update", 0⟩, ⟨ "r", 48, 107, false, "", "waterline/update", 184⟩]).run Tryd.prog w = .ok #[(0, 107), (107, 3)] w := fun w => by simp [placesOf, Tryd.sizeOf48, Tryd.sizeOf74]
theorem pl112 : ∀ w, (placesOf #[⟨ "Name", 9, 0, false, "", "", 0⟩, ⟨ "Image", 71, 1, false, "", "", 16⟩]).run Tryd.prog w = .ok #[(0, 1), (1, 34)] w := fun w => by simp [placesOf, Tryd.sizeOf71, Tryd.sizeOf9]
theorem pl133 : ∀ w, (placesOf #[⟨ "h", 130, 0, false, "", "waterline/sha", 0⟩, ⟨ "count", 127, 8, false, "", "waterline/sha", 32⟩, ⟨ "rest", 32, 9, false, "", "waterline/sha", 40⟩]).run Tryd.prog w = .ok #[(0, 8), (8, 1), (9, 1)] w := fun w => by simp [placesOf, Tryd.sizeOf127, Tryd.sizeOf130, Tryd.sizeOf32]
theorem pl163 : ∀ w, (placesOf #[⟨ "b", 32, 0, false, "", "waterline/field", 0⟩, ⟨ "bad", 4, 1, false, "", "waterline/field", 24⟩]).run Tryd.prog w = .ok #[(0, 1), (1, 1)] w := fun w => by simp [placesOf, Tryd.sizeOf32, Tryd.sizeOf4]
theorem pl193 : ∀ w, (placesOf #[⟨ "lo", 5, 0, false, "", "unicode/utf8", 0⟩, ⟨ "hi", 5, 1, false, "", "unicode/utf8", 1⟩]).run Tryd.prog w = .ok #[(0, 1), (1, 1)] w := fun w => by simp [placesOf, Tryd.sizeOf5]
theorem eqT24 : EqE Tryd.prog 24 Ei 1 := eqe_i Tryd.isAgg24 Tryd.underlying24
theorem eqT3 : EqE Tryd.prog 3 Ei 1 := eqe_i Tryd.isAgg3 Tryd.underlying3
theorem eqT48 : EqE Tryd.prog 48 RespS.cells 2 := eqe_struct Tryd.isAgg48 Tryd.sizeOf48 RespS.len Tryd.underlying48 (by kernel_rfl) (fun d hd x y w => by
  refine Eq.trans (b := Result.ok (decide (x.Err = y.Err) && (decide (x.N = y.N) && (decide (x.Got = y.Got) && true))) w) (show (Op.eqFields d (RespS.cells x).toArray (RespS.cells y).toArray [⟨ "Err", 24, 0, false, "", "", 0⟩, ⟨ "N", 3, 1, false, "", "", 8⟩, ⟨ "Got", 3, 2, false, "", "", 16⟩]).run Tryd.prog w = _ from (eqf_cons' (f := Ei) (x := x.Err) (y := y.Err) rfl eqT24 (Nat.ble_eq_true_of_le (by omega)) (RespS.sub_Err _) (RespS.sub_Err _) (eqf_cons' (f := Ei) (x := x.N) (y := y.N) rfl eqT3 (Nat.ble_eq_true_of_le (by omega)) (RespS.sub_N _) (RespS.sub_N _) (eqf_cons' (f := Ei) (x := x.Got) (y := y.Got) rfl eqT3 (Nat.ble_eq_true_of_le (by omega)) (RespS.sub_Got _) (RespS.sub_Got _) (eqf_nil' _ _ _ _))))) ?_
  congr 1
  cases x; cases y
  simp [RespS.mk.injEq])
theorem eqG48 : Tryd.prog.eqGuardType Tryd.prog.depth 48 = false := by kernel_rfl
theorem eqT5 : EqE Tryd.prog 5 E8 1 := eqe_8 Tryd.isAgg5 Tryd.underlying5
theorem eqT69 : EqE Tryd.prog 69 (fun a : Arr UInt8 32 => a.l.flatMap E8) 2 := eqe_arr E8_len eqT5 Tryd.isAgg69 Tryd.sizeOf69 rfl Tryd.underlying69 Tryd.type5 rfl
theorem eqG69 : Tryd.prog.eqGuardType Tryd.prog.depth 69 = false := by kernel_rfl
theorem eqT71 : EqE Tryd.prog 71 Img.cells 3 := eqe_struct Tryd.isAgg71 Tryd.sizeOf71 Img.len Tryd.underlying71 (by kernel_rfl) (fun d hd x y w => by
  refine Eq.trans (b := Result.ok (decide (x.Version = y.Version) && (decide (x.Size = y.Size) && (decide (x.Digest = y.Digest) && true))) w) (show (Op.eqFields d (Img.cells x).toArray (Img.cells y).toArray [⟨ "Version", 3, 0, false, "", "", 0⟩, ⟨ "Size", 3, 1, false, "", "", 8⟩, ⟨ "Digest", 69, 2, false, "", "", 16⟩]).run Tryd.prog w = _ from (eqf_cons' (f := Ei) (x := x.Version) (y := y.Version) rfl eqT3 (Nat.ble_eq_true_of_le (by omega)) (Img.sub_Version _) (Img.sub_Version _) (eqf_cons' (f := Ei) (x := x.Size) (y := y.Size) rfl eqT3 (Nat.ble_eq_true_of_le (by omega)) (Img.sub_Size _) (Img.sub_Size _) (eqf_cons' (f := (fun a : Arr UInt8 32 => a.l.flatMap E8)) (x := x.Digest) (y := y.Digest) rfl eqT69 (Nat.ble_eq_true_of_le (by omega)) (Img.sub_Digest _) (Img.sub_Digest _) (eqf_nil' _ _ _ _))))) ?_
  congr 1
  cases x; cases y
  simp [Img.mk.injEq])
theorem eqG71 : Tryd.prog.eqGuardType Tryd.prog.depth 71 = false := by kernel_rfl
end Go.Proofs.YtphbbnlbfbhcaaaDoor.Wl
