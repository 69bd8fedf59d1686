/- What each operation on numbers, bools, texts and pointers yields. -/
import Derived.Test.YtpdoioeckiiegaaGreatDoorWlB
set_option linter.unusedSimpArgs false
set_option linter.unusedVariables false
namespace Go.Proofs.YtpdoioeckiiegaaGreatDoor.Wl
open Go.RowKit

def vi (n : Int) : Value := .int .i64 n
def v32 (x : UInt32) : Value := .int .u32 (x.toNat : Int)
def v64 (x : UInt64) : Value := .int .u64 (x.toNat : Int)
def v8 (x : UInt8) : Value := .int .u8 (x.toNat : Int)
def vr (n : Int) : Value := .int .i32 n
def vb (b : Bool) : Value := .bool b
/-- A text, as its bytes. -/
def vs (l : List UInt8) : Value := .string ⟨l.toArray⟩

def Bin (P : Program) (op : BinOp) (t : TypeId) (x y v : Value) : Prop := ∀ w, (binOp op t x y).run P w = .ok v w
def plain : Value → Bool
  | .int _ _ | .bool _ | .string _ | .pointer _ | .slice _ _ _ => true
  | _ => false
section
variable {P : Program} {e : Env} {o : Oper} {C : World → Prop}
theorem ev_bin {op : BinOp} {t t2 : TypeId} {x y : Operand} {X Y v : Value} (ho : o.op = .binOp op t x y t2) (hx : opv e x = some X) (hy : opv e y = some Y) (hp : plain X = true) (hb : Bin P op t X Y v) : Evals P e o v C := by
  intro ρ hρ w _
  have hg : (eqGuard op t x y X Y).run P w = .ok () w := by
    cases X <;> simp [plain] at hp <;> cases op <;> simp [eqGuard]
  simp [execOp, ho, hρ _ _ hx, hρ _ _ hy, hg, hb w]
theorem ev_not {t : TypeId} {x : Operand} {b : Bool} (ho : o.op = .unOp .not t x) (hx : opv e x = some (vb b)) : Evals P e o (vb (!b)) C := by
  intro ρ hρ w _; simp [execOp, ho, hρ _ _ hx, Op.unary, vb]
theorem ev_un {op : UnOp} {t : TypeId} {x : Operand} {X v : Value} (ho : o.op = .unOp op t x) (hx : opv e x = some X) (hb : ∀ w, (Op.unary op X).run P w = .ok v w) : Evals P e o v C := by
  intro ρ hρ w _; simp [execOp, ho, hρ _ _ hx, hb w]
theorem ev_conv {s d : TypeId} {x : Operand} {X v : Value} (ho : o.op = .convert s d x) (hx : opv e x = some X) (hb : ∀ w, (convert s d X).run P w = .ok v w) : Evals P e o v C := by
  intro ρ hρ w _; simp [execOp, ho, hρ _ _ hx, hb w]
end

section
variable {P : Program} {t : TypeId}
theorem add_i (x y : Int) : Bin P .add t (vi x) (vi y) (vi (wrap64 (x + y))) := fun w => by simp [binOp, vi, Op.intArith, IntWalk.i64_left]
theorem sub_i (x y : Int) : Bin P .sub t (vi x) (vi y) (vi (wrap64 (x - y))) := fun w => by simp [binOp, vi, Op.intArith, IntWalk.i64_left]
theorem mul_i (x y : Int) : Bin P .mul t (vi x) (vi y) (vi (wrap64 (x * y))) := fun w => by simp [binOp, vi, Op.intArith, IntWalk.i64_left]
/-- The quotient, y being no 0. -/
theorem quo_i (x y : Int) (hy : (y == 0) = false) : Bin P .quo t (vi x) (vi y) (vi (wrap64 (x.tdiv y))) := fun w => by
  have : y ≠ 0 := by simpa using hy
  simp [binOp, vi, Op.intDiv, this, IntWalk.i64_left]
theorem rem_i (x y : Int) (hy : (y == 0) = false) : Bin P .rem t (vi x) (vi y) (vi (x.tmod y)) := fun w => by
  have : y ≠ 0 := by simpa using hy
  simp [binOp, vi, Op.intDiv, this]
theorem eql_i (x y : Int) : Bin P .eql t (vi x) (vi y) (vb (x == y)) := fun w => by simp [binOp, vi, vb, Op.intCmp]
theorem neq_i (x y : Int) : Bin P .neq t (vi x) (vi y) (vb (x != y)) := fun w => by simp [binOp, vi, vb, Op.intCmp]
theorem lss_i (x y : Int) : Bin P .lss t (vi x) (vi y) (vb (decide (x < y))) := fun w => by simp [binOp, vi, vb, Op.intCmp]
theorem leq_i (x y : Int) : Bin P .leq t (vi x) (vi y) (vb (decide (x ≤ y))) := fun w => by simp [binOp, vi, vb, Op.intCmp]
theorem gtr_i (x y : Int) : Bin P .gtr t (vi x) (vi y) (vb (decide (x > y))) := fun w => by simp [binOp, vi, vb, Op.intCmp]
theorem geq_i (x y : Int) : Bin P .geq t (vi x) (vi y) (vb (decide (x ≥ y))) := fun w => by simp [binOp, vi, vb, Op.intCmp]
/-- Bits of ints of 64 bits. -/
def iand (x y : Int) : Int := IntKind.i64.wrap (((x % 18446744073709551616).toNat &&& (y % 18446744073709551616).toNat : Nat) : Int)
def ior (x y : Int) : Int := IntKind.i64.wrap (((x % 18446744073709551616).toNat ||| (y % 18446744073709551616).toNat : Nat) : Int)
theorem and_i (x y : Int) : Bin P .and t (vi x) (vi y) (vi (iand x y)) := fun w => by
  have h : (BitVec.ofInt 64 x &&& BitVec.ofInt 64 y).toNat = ((x % 18446744073709551616).toNat &&& (y % 18446744073709551616).toNat) := by simp [BitVec.toNat_and, BitVec.toNat_ofInt]
  show Result.ok (Value.int .i64 (IntKind.i64.wrap ((BitVec.ofInt 64 x &&& BitVec.ofInt 64 y).toNat : Int))) w = _
  rw [h]; rfl
theorem or_i (x y : Int) : Bin P .or t (vi x) (vi y) (vi (ior x y)) := fun w => by
  have h : (BitVec.ofInt 64 x ||| BitVec.ofInt 64 y).toNat = ((x % 18446744073709551616).toNat ||| (y % 18446744073709551616).toNat) := by simp [BitVec.toNat_or, BitVec.toNat_ofInt]
  show Result.ok (Value.int .i64 (IntKind.i64.wrap ((BitVec.ofInt 64 x ||| BitVec.ofInt 64 y).toNat : Int))) w = _
  rw [h]; rfl
/-- A shift to the right, by a count that is at least 0. -/
def ishr (x y : Int) : Int := x.fdiv (2 ^ (min y.toNat 64))
theorem shr_i (x y : Int) (hy : decide (y < 0) = false) : Bin P .shr t (vi x) (vi y) (vi (ishr x y)) := fun w => by
  have : ¬ y < 0 := by simpa using hy
  simp [binOp, vi, Op.shift, ishr, this, IntKind.bits]
theorem shr_iu (x : Int) (y : UInt64) : Bin P .shr t (vi x) (v64 y) (vi (ishr x y.toNat)) := fun w => by
  have : ¬ ((y.toNat : Int) < 0) := by omega
  simp [binOp, vi, v64, Op.shift, ishr, this, IntKind.bits]
def ishl (x y : Int) : Int := IntKind.i64.wrap (x * 2 ^ (min y.toNat 64))
theorem shl_i (x y : Int) (hy : decide (y < 0) = false) : Bin P .shl t (vi x) (vi y) (vi (ishl x y)) := fun w => by
  have : ¬ y < 0 := by simpa using hy
  simp [binOp, vi, Op.shift, ishl, this, IntKind.bits]
theorem shl_iu (x : Int) (y : UInt64) : Bin P .shl t (vi x) (v64 y) (vi (ishl x y.toNat)) := fun w => by
  have : ¬ ((y.toNat : Int) < 0) := by omega
  simp [binOp, vi, v64, Op.shift, ishl, this, IntKind.bits]
-- runes
theorem eql_r (x y : Int) : Bin P .eql t (vr x) (vr y) (vb (x == y)) := fun w => by simp [binOp, vr, vb, Op.intCmp]
theorem neq_r (x y : Int) : Bin P .neq t (vr x) (vr y) (vb (x != y)) := fun w => by simp [binOp, vr, vb, Op.intCmp]
theorem lss_r (x y : Int) : Bin P .lss t (vr x) (vr y) (vb (decide (x < y))) := fun w => by simp [binOp, vr, vb, Op.intCmp]
theorem leq_r (x y : Int) : Bin P .leq t (vr x) (vr y) (vb (decide (x ≤ y))) := fun w => by simp [binOp, vr, vb, Op.intCmp]
theorem gtr_r (x y : Int) : Bin P .gtr t (vr x) (vr y) (vb (decide (x > y))) := fun w => by simp [binOp, vr, vb, Op.intCmp]
theorem geq_r (x y : Int) : Bin P .geq t (vr x) (vr y) (vb (decide (x ≥ y))) := fun w => by simp [binOp, vr, vb, Op.intCmp]
theorem sub_r (x y : Int) : Bin P .sub t (vr x) (vr y) (vr (wrap32 (x - y))) := fun w => by simp [binOp, vr, Op.intArith, IntWalk.i32_left]
-- words of 8 bits
theorem nat8 (x : UInt8) : (x.toNat : Int) % 256 = x.toNat := by have := x.toNat_lt; omega
theorem ofInt8 (x : UInt8) : BitVec.ofInt 8 (x.toNat : Int) = x.toBitVec := by
  apply BitVec.eq_of_toNat_eq; simp [BitVec.toNat_ofInt]
theorem ofInt32 (x : UInt32) : BitVec.ofInt 32 (x.toNat : Int) = x.toBitVec := by
  apply BitVec.eq_of_toNat_eq; simp [BitVec.toNat_ofInt]
theorem ofInt64 (x : UInt64) : BitVec.ofInt 64 (x.toNat : Int) = x.toBitVec := by
  apply BitVec.eq_of_toNat_eq; simp [BitVec.toNat_ofInt]
theorem wrap8_nat (n : Nat) (h : n < 256) : IntKind.u8.wrap (n : Int) = n := by simp [IntKind.wrap, IntKind.bits, IntKind.signed]; omega
theorem wrap32_nat (n : Nat) (h : n < 4294967296) : IntKind.u32.wrap (n : Int) = n := by simp [IntKind.wrap, IntKind.bits, IntKind.signed]; omega
theorem wrap64_nat (n : Nat) (h : n < 18446744073709551616) : IntKind.u64.wrap (n : Int) = n := by simp [IntKind.wrap, IntKind.bits, IntKind.signed]; omega
theorem and_8 (x y : UInt8) : Bin P .and t (v8 x) (v8 y) (v8 (x &&& y)) := fun w => by
  simp only [binOp, v8, Op.intBits, IntKind.bits, ofInt8]
  rw [wrap8_nat _ (BitVec.isLt _)]; rfl
theorem or_8 (x y : UInt8) : Bin P .or t (v8 x) (v8 y) (v8 (x ||| y)) := fun w => by
  simp only [binOp, v8, Op.intBits, IntKind.bits, ofInt8]
  rw [wrap8_nat _ (BitVec.isLt _)]; rfl
theorem xor_8 (x y : UInt8) : Bin P .xor t (v8 x) (v8 y) (v8 (x ^^^ y)) := fun w => by
  simp only [binOp, v8, Op.intBits, IntKind.bits, ofInt8]
  rw [wrap8_nat _ (BitVec.isLt _)]; rfl
theorem andNot_8 (x y : UInt8) : Bin P .andNot t (v8 x) (v8 y) (v8 (x &&& ~~~y)) := fun w => by
  simp only [binOp, v8, Op.intBits, IntKind.bits, ofInt8]
  rw [wrap8_nat _ (BitVec.isLt _)]; rfl
theorem eql_8 (x y : UInt8) : Bin P .eql t (v8 x) (v8 y) (vb (x == y)) := fun w => by
  have : ((x.toNat : Int) == (y.toNat : Int)) = (x == y) := by
    rw [Bool.eq_iff_iff]; simp [← UInt8.toNat_inj]; omega
  simp [binOp, v8, vb, Op.intCmp, this]
theorem neq_8 (x y : UInt8) : Bin P .neq t (v8 x) (v8 y) (vb (x != y)) := fun w => by
  have : ((x.toNat : Int) == (y.toNat : Int)) = (x == y) := by
    rw [Bool.eq_iff_iff]; simp [← UInt8.toNat_inj]; omega
  simp [binOp, v8, vb, Op.intCmp, bne, this]
theorem lss_8 (x y : UInt8) : Bin P .lss t (v8 x) (v8 y) (vb (decide (x < y))) := fun w => by
  have : decide ((x.toNat : Int) < (y.toNat : Int)) = decide (x < y) := by
    rw [Bool.eq_iff_iff]; simp [UInt8.lt_iff_toNat_lt]
  simp [binOp, v8, vb, Op.intCmp, UInt8.lt_iff_toNat_lt]
theorem gtr_8 (x y : UInt8) : Bin P .gtr t (v8 x) (v8 y) (vb (decide (y < x))) := fun w => by
  simp [binOp, v8, vb, Op.intCmp, UInt8.lt_iff_toNat_lt]
theorem leq_8 (x y : UInt8) : Bin P .leq t (v8 x) (v8 y) (vb (decide (x ≤ y))) := fun w => by
  simp [binOp, v8, vb, Op.intCmp, UInt8.le_iff_toNat_le]
theorem geq_8 (x y : UInt8) : Bin P .geq t (v8 x) (v8 y) (vb (decide (y ≤ x))) := fun w => by
  simp [binOp, v8, vb, Op.intCmp, UInt8.le_iff_toNat_le]
theorem sub_8 (x y : UInt8) : Bin P .sub t (v8 x) (v8 y) (v8 (x - y)) := fun w => by
  have hx := x.toNat_lt
  have hy := y.toNat_lt
  have : IntKind.u8.wrap ((x.toNat : Int) - y.toNat) = ((x - y).toNat : Int) := by
    simp [IntKind.wrap, IntKind.bits, IntKind.signed, UInt8.toNat_sub]
    omega
  simp [binOp, v8, Op.intArith, this]
def shr8 (x : UInt8) (n : Nat) : UInt8 := UInt8.ofNat (x.toNat / 2 ^ (min n 8))
theorem fdiv_nat (a b : Nat) : ((a : Int)).fdiv (b : Int) = ((a / b : Nat) : Int) := by
  rw [Int.fdiv_eq_ediv_of_nonneg _ (by omega)]; rfl
theorem shr_8 (x : UInt8) (y : UInt64) : Bin P .shr t (v8 x) (v64 y) (v8 (shr8 x y.toNat)) := fun w => by
  have h0 : ¬ ((y.toNat : Int) < 0) := by omega
  have h1 : x.toNat / 2 ^ (min y.toNat 8) < 256 := Nat.lt_of_le_of_lt (Nat.div_le_self _ _) x.toNat_lt
  have h2 := fdiv_nat x.toNat (2 ^ (min y.toNat 8))
  simp only [Int.natCast_pow] at h2
  have h3 : (shr8 x y.toNat).toNat = x.toNat / 2 ^ (min y.toNat 8) := by simp [shr8, Nat.mod_eq_of_lt h1]
  simp [binOp, v8, v64, Op.shift, h0, IntKind.bits, h3]
  exact h2
theorem not_8 (x : UInt8) : ∀ w, (Op.unary .xor (v8 x)).run P w = .ok (v8 (~~~x)) w := fun w => by
  have h : BitVec.ofInt 8 (IntKind.u8.max) = BitVec.allOnes 8 := by decide
  simp only [Op.unary, v8, Op.intBits, IntKind.bits, IntKind.signed, Bool.false_eq_true, if_false, ofInt8, h]
  rw [wrap8_nat _ (BitVec.isLt _)]
  have hx : (BitVec.allOnes 8 ^^^ x.toBitVec) = ~~~x.toBitVec := by rw [BitVec.xor_comm, BitVec.xor_allOnes]
  show Result.ok (Value.int .u8 (((BitVec.allOnes 8 ^^^ x.toBitVec).toNat : Nat) : Int)) w = _
  rw [hx]; rfl

-- words of 32 bits
theorem and_32 (x y : UInt32) : Bin P .and t (v32 x) (v32 y) (v32 (x &&& y)) := fun w => by
  simp only [binOp, v32, Op.intBits, IntKind.bits, ofInt32]
  rw [wrap32_nat _ (BitVec.isLt _)]; rfl
theorem or_32 (x y : UInt32) : Bin P .or t (v32 x) (v32 y) (v32 (x ||| y)) := fun w => by
  simp only [binOp, v32, Op.intBits, IntKind.bits, ofInt32]
  rw [wrap32_nat _ (BitVec.isLt _)]; rfl
theorem xor_32 (x y : UInt32) : Bin P .xor t (v32 x) (v32 y) (v32 (x ^^^ y)) := fun w => by
  simp only [binOp, v32, Op.intBits, IntKind.bits, ofInt32]
  rw [wrap32_nat _ (BitVec.isLt _)]; rfl
theorem not_32 (x : UInt32) : ∀ w, (Op.unary .xor (v32 x)).run P w = .ok (v32 (~~~x)) w := fun w => by
  have h : BitVec.ofInt 32 (IntKind.u32.max) = BitVec.allOnes 32 := by decide
  simp only [Op.unary, v32, Op.intBits, IntKind.bits, IntKind.signed, Bool.false_eq_true, if_false, ofInt32, h]
  rw [wrap32_nat _ (BitVec.isLt _)]
  have hx : (BitVec.allOnes 32 ^^^ x.toBitVec) = ~~~x.toBitVec := by rw [BitVec.xor_comm, BitVec.xor_allOnes]
  show Result.ok (Value.int .u32 (((BitVec.allOnes 32 ^^^ x.toBitVec).toNat : Nat) : Int)) w = _
  rw [hx]; rfl
theorem eql_32 (x y : UInt32) : Bin P .eql t (v32 x) (v32 y) (vb (x == y)) := fun w => by
  have : ((x.toNat : Int) == (y.toNat : Int)) = (x == y) := by
    rw [Bool.eq_iff_iff]; simp [← UInt32.toNat_inj]; omega
  simp [binOp, v32, vb, Op.intCmp, this]
theorem gtr_32 (x y : UInt32) : Bin P .gtr t (v32 x) (v32 y) (vb (decide (y < x))) := fun w => by
  simp [binOp, v32, vb, Op.intCmp, UInt32.lt_iff_toNat_lt]
theorem add_32 (x y : UInt32) : Bin P .add t (v32 x) (v32 y) (v32 (x + y)) := fun w => by
  have hx := x.toNat_lt
  have hy := y.toNat_lt
  have : IntKind.u32.wrap ((x.toNat : Int) + y.toNat) = ((x + y).toNat : Int) := by
    simp [IntKind.wrap, IntKind.bits, IntKind.signed, UInt32.toNat_add]
  simp [binOp, v32, Op.intArith, this]
theorem sub_32 (x y : UInt32) : Bin P .sub t (v32 x) (v32 y) (v32 (x - y)) := fun w => by
  have hx := x.toNat_lt
  have hy := y.toNat_lt
  have : IntKind.u32.wrap ((x.toNat : Int) - y.toNat) = ((x - y).toNat : Int) := by
    simp [IntKind.wrap, IntKind.bits, IntKind.signed, UInt32.toNat_sub]
    omega
  simp [binOp, v32, Op.intArith, this]
theorem mul_32 (x y : UInt32) : Bin P .mul t (v32 x) (v32 y) (v32 (x * y)) := fun w => by
  have : IntKind.u32.wrap ((x.toNat : Int) * y.toNat) = ((x * y).toNat : Int) := by
    simp [IntKind.wrap, IntKind.bits, IntKind.signed, UInt32.toNat_mul]
  simp [binOp, v32, Op.intArith, this]
theorem rem_32 (x y : UInt32) (hy : (y == 0) = false) : Bin P .rem t (v32 x) (v32 y) (v32 (x % y)) := fun w => by
  have h0 : y ≠ 0 := by simpa using hy
  have h1 : (y.toNat : Int) ≠ 0 := by
    intro h; apply h0; apply UInt32.toNat_inj.1; simpa using h
  have h2 : y.toNat ≠ 0 := by omega
  have : (x.toNat : Int).tmod y.toNat = ((x % y).toNat : Int) := by
    rw [UInt32.toNat_mod]; rfl
  simp [binOp, v32, Op.intDiv, h2, this]
def shr32 (x : UInt32) (n : Nat) : UInt32 := UInt32.ofNat (x.toNat / 2 ^ (min n 32))
def shl32 (x : UInt32) (n : Nat) : UInt32 := UInt32.ofNat (x.toNat * 2 ^ (min n 32))
theorem shr_32' (x : UInt32) (k : IntKind) (m : Nat) : Bin P .shr t (v32 x) (.int k (m : Int)) (v32 (shr32 x m)) := fun w => by
  have h0 : ¬ ((m : Int) < 0) := by omega
  have h1 : x.toNat / 2 ^ (min m 32) < 4294967296 := Nat.lt_of_le_of_lt (Nat.div_le_self _ _) x.toNat_lt
  have h2 := fdiv_nat x.toNat (2 ^ (min m 32))
  simp only [Int.natCast_pow] at h2
  have h3 : (shr32 x m).toNat = x.toNat / 2 ^ (min m 32) := by simp [shr32, Nat.mod_eq_of_lt h1]
  simp [binOp, v32, Op.shift, h0, IntKind.bits, h3]
  exact h2
theorem shl_32' (x : UInt32) (k : IntKind) (m : Nat) : Bin P .shl t (v32 x) (.int k (m : Int)) (v32 (shl32 x m)) := fun w => by
  have h0 : ¬ ((m : Int) < 0) := by omega
  have h3 : (shl32 x m).toNat = x.toNat * 2 ^ (min m 32) % 4294967296 := by simp [shl32]
  simp [binOp, v32, Op.shift, h0, IntKind.bits, h3, IntKind.wrap, IntKind.signed]
theorem shr_32 (x : UInt32) (y : UInt64) : Bin P .shr t (v32 x) (v64 y) (v32 (shr32 x y.toNat)) := shr_32' x _ _
theorem shl_32 (x : UInt32) (y : UInt64) : Bin P .shl t (v32 x) (v64 y) (v32 (shl32 x y.toNat)) := shl_32' x _ _
theorem shr_32i (x : UInt32) (y : Int) (hy : decide (y < 0) = false) : Bin P .shr t (v32 x) (vi y) (v32 (shr32 x y.toNat)) := by
  have : ¬ y < 0 := by simpa using hy
  have h := shr_32' (P := P) (t := t) x .i64 y.toNat
  rwa [Int.toNat_of_nonneg (by omega)] at h

-- words of 64 bits
theorem and_64 (x y : UInt64) : Bin P .and t (v64 x) (v64 y) (v64 (x &&& y)) := fun w => by
  simp only [binOp, v64, Op.intBits, IntKind.bits, ofInt64]
  rw [wrap64_nat _ (BitVec.isLt _)]; rfl
theorem or_64 (x y : UInt64) : Bin P .or t (v64 x) (v64 y) (v64 (x ||| y)) := fun w => by
  simp only [binOp, v64, Op.intBits, IntKind.bits, ofInt64]
  rw [wrap64_nat _ (BitVec.isLt _)]; rfl
theorem xor_64 (x y : UInt64) : Bin P .xor t (v64 x) (v64 y) (v64 (x ^^^ y)) := fun w => by
  simp only [binOp, v64, Op.intBits, IntKind.bits, ofInt64]
  rw [wrap64_nat _ (BitVec.isLt _)]; rfl
theorem not_64 (x : UInt64) : ∀ w, (Op.unary .xor (v64 x)).run P w = .ok (v64 (~~~x)) w := fun w => by
  have h : BitVec.ofInt 64 (IntKind.u64.max) = BitVec.allOnes 64 := by decide
  simp only [Op.unary, v64, Op.intBits, IntKind.bits, IntKind.signed, Bool.false_eq_true, if_false, ofInt64, h]
  rw [wrap64_nat _ (BitVec.isLt _)]
  have hx : (BitVec.allOnes 64 ^^^ x.toBitVec) = ~~~x.toBitVec := by rw [BitVec.xor_comm, BitVec.xor_allOnes]
  show Result.ok (Value.int .u64 (((BitVec.allOnes 64 ^^^ x.toBitVec).toNat : Nat) : Int)) w = _
  rw [hx]; rfl
theorem eql_64 (x y : UInt64) : Bin P .eql t (v64 x) (v64 y) (vb (x == y)) := fun w => by
  have : ((x.toNat : Int) == (y.toNat : Int)) = (x == y) := by
    rw [Bool.eq_iff_iff]; simp [← UInt64.toNat_inj]; omega
  simp [binOp, v64, vb, Op.intCmp, this]
theorem gtr_64 (x y : UInt64) : Bin P .gtr t (v64 x) (v64 y) (vb (decide (y < x))) := fun w => by
  simp [binOp, v64, vb, Op.intCmp, UInt64.lt_iff_toNat_lt]
theorem add_64 (x y : UInt64) : Bin P .add t (v64 x) (v64 y) (v64 (x + y)) := fun w => by
  have hx := x.toNat_lt
  have hy := y.toNat_lt
  have : IntKind.u64.wrap ((x.toNat : Int) + y.toNat) = ((x + y).toNat : Int) := by
    simp [IntKind.wrap, IntKind.bits, IntKind.signed, UInt64.toNat_add]
  simp [binOp, v64, Op.intArith, this]
theorem sub_64 (x y : UInt64) : Bin P .sub t (v64 x) (v64 y) (v64 (x - y)) := fun w => by
  have hx := x.toNat_lt
  have hy := y.toNat_lt
  have : IntKind.u64.wrap ((x.toNat : Int) - y.toNat) = ((x - y).toNat : Int) := by
    simp [IntKind.wrap, IntKind.bits, IntKind.signed, UInt64.toNat_sub]
    omega
  simp [binOp, v64, Op.intArith, this]
theorem mul_64 (x y : UInt64) : Bin P .mul t (v64 x) (v64 y) (v64 (x * y)) := fun w => by
  have : IntKind.u64.wrap ((x.toNat : Int) * y.toNat) = ((x * y).toNat : Int) := by
    simp [IntKind.wrap, IntKind.bits, IntKind.signed, UInt64.toNat_mul]
  simp [binOp, v64, Op.intArith, this]
theorem rem_64 (x y : UInt64) (hy : (y == 0) = false) : Bin P .rem t (v64 x) (v64 y) (v64 (x % y)) := fun w => by
  have h0 : y ≠ 0 := by simpa using hy
  have h1 : (y.toNat : Int) ≠ 0 := by
    intro h; apply h0; apply UInt64.toNat_inj.1; simpa using h
  have h2 : y.toNat ≠ 0 := by omega
  have : (x.toNat : Int).tmod y.toNat = ((x % y).toNat : Int) := by
    rw [UInt64.toNat_mod]; rfl
  simp [binOp, v64, Op.intDiv, h2, this]
def shr64 (x : UInt64) (n : Nat) : UInt64 := UInt64.ofNat (x.toNat / 2 ^ (min n 64))
def shl64 (x : UInt64) (n : Nat) : UInt64 := UInt64.ofNat (x.toNat * 2 ^ (min n 64))
theorem shr_64' (x : UInt64) (k : IntKind) (m : Nat) : Bin P .shr t (v64 x) (.int k (m : Int)) (v64 (shr64 x m)) := fun w => by
  have h0 : ¬ ((m : Int) < 0) := by omega
  have h1 : x.toNat / 2 ^ (min m 64) < 18446744073709551616 := Nat.lt_of_le_of_lt (Nat.div_le_self _ _) x.toNat_lt
  have h2 := fdiv_nat x.toNat (2 ^ (min m 64))
  simp only [Int.natCast_pow] at h2
  have h3 : (shr64 x m).toNat = x.toNat / 2 ^ (min m 64) := by simp [shr64, Nat.mod_eq_of_lt h1]
  simp [binOp, v64, Op.shift, h0, IntKind.bits, h3]
  exact h2
theorem shl_64' (x : UInt64) (k : IntKind) (m : Nat) : Bin P .shl t (v64 x) (.int k (m : Int)) (v64 (shl64 x m)) := fun w => by
  have h0 : ¬ ((m : Int) < 0) := by omega
  have h3 : (shl64 x m).toNat = x.toNat * 2 ^ (min m 64) % 18446744073709551616 := by simp [shl64]
  simp [binOp, v64, Op.shift, h0, IntKind.bits, h3, IntKind.wrap, IntKind.signed]
theorem shr_64 (x : UInt64) (y : UInt64) : Bin P .shr t (v64 x) (v64 y) (v64 (shr64 x y.toNat)) := shr_64' x _ _
theorem shl_64 (x : UInt64) (y : UInt64) : Bin P .shl t (v64 x) (v64 y) (v64 (shl64 x y.toNat)) := shl_64' x _ _
theorem shr_64i (x : UInt64) (y : Int) (hy : decide (y < 0) = false) : Bin P .shr t (v64 x) (vi y) (v64 (shr64 x y.toNat)) := by
  have : ¬ y < 0 := by simpa using hy
  have h := shr_64' (P := P) (t := t) x .i64 y.toNat
  rwa [Int.toNat_of_nonneg (by omega)] at h
end
end Go.Proofs.YtpdoioeckiiegaaGreatDoor.Wl
