/-
  Numbers, bit by bit. No program in sight.
-/
import Derived.Test.YtaeacialcbahnaaMw
namespace Go.Abs
def andI (a b : Int) : Int := IntKind.i64.wrap ((BitVec.ofInt 64 a &&& BitVec.ofInt 64 b).toNat : Nat)
def orI (a b : Int) : Int := IntKind.i64.wrap ((BitVec.ofInt 64 a ||| BitVec.ofInt 64 b).toNat : Nat)
theorem fold_and {a b : Int} : IntKind.i64.wrap ((BitVec.ofInt IntKind.i64.bits a &&& BitVec.ofInt IntKind.i64.bits b).toNat : Nat) = andI a b := rfl
theorem fold_or {a b : Int} : IntKind.i64.wrap ((BitVec.ofInt IntKind.i64.bits a ||| BitVec.ofInt IntKind.i64.bits b).toNat : Nat) = orI a b := rfl
theorem andI_le {a : Int} {m : Nat} (hm : m < 9223372036854775808) : 0 ≤ andI a m ∧ andI a m ≤ m := by
  unfold andI
  have h1 : (BitVec.ofInt 64 a &&& BitVec.ofInt 64 (m : Int)).toNat ≤ m := by
    rw [BitVec.toNat_and]
    refine Nat.le_trans Nat.and_le_right ?_
    have : (BitVec.ofInt 64 (m : Int)).toNat = m := by
      rw [BitVec.toNat_ofInt]
      have : ((m : Int) % ((2 ^ 64 : Nat) : Int)).toNat = m := by omega
      exact this
    omega
  rw [wrap_id (by omega) (by omega)]
  omega
/-- The low bits: a rest. -/
theorem andI_mod {a : Int} (k : Nat) (hk : k < 63) : andI a ((2 ^ k - 1 : Nat) : Int) = a % (2 ^ k : Nat) := by
  have hp : 2 ^ k < 9223372036854775808 := by
    have := Nat.pow_lt_pow_right (a := 2) (by decide) hk
    simpa using this
  have hb := andI_le (a := a) (m := 2 ^ k - 1) (by omega)
  unfold andI at *
  have h0 : (BitVec.ofInt 64 ((2 ^ k - 1 : Nat) : Int)).toNat = 2 ^ k - 1 := by
    rw [BitVec.toNat_ofInt]
    have h2 : 2 ^ k - 1 < 2 ^ 64 := by omega
    have : (((2 ^ k - 1 : Nat) : Int) % ((2 ^ 64 : Nat) : Int)).toNat = 2 ^ k - 1 := by omega
    exact this
  have h1 : (BitVec.ofInt 64 a &&& BitVec.ofInt 64 ((2 ^ k - 1 : Nat) : Int)).toNat = (a % ((2 ^ 64 : Nat) : Int)).toNat % 2 ^ k := by
    rw [BitVec.toNat_and, h0, BitVec.toNat_ofInt, Nat.and_two_pow_sub_one_eq_mod]
  rw [h1]
  have h3 : (a % ((2 ^ 64 : Nat) : Int)).toNat % 2 ^ k < 2 ^ k := Nat.mod_lt _ (by omega)
  rw [wrap_id (by omega) (by omega)]
  have h4 : (((a % ((2 ^ 64 : Nat) : Int)).toNat % 2 ^ k : Nat) : Int) = (a % ((2 ^ 64 : Nat) : Int)) % ((2 ^ k : Nat) : Int) := by
    rw [Int.natCast_emod, Int.toNat_of_nonneg (by omega)]
  rw [h4]
  refine Int.emod_emod_of_dvd a ?_
  refine Int.natCast_dvd_natCast.2 (Nat.pow_dvd_pow 2 (by omega))
theorem and1 {a : Int} : andI a 1 = a % 2 := andI_mod (a := a) 1 (by decide)
theorem and3 {a : Int} : andI a 3 = a % 4 := andI_mod (a := a) 2 (by decide)
theorem and7 {a : Int} : andI a 7 = a % 8 := andI_mod (a := a) 3 (by decide)
theorem and15 {a : Int} : andI a 15 = a % 16 := andI_mod (a := a) 4 (by decide)
theorem and31 {a : Int} : andI a 31 = a % 32 := andI_mod (a := a) 5 (by decide)
theorem and63 {a : Int} : andI a 63 = a % 64 := andI_mod (a := a) 6 (by decide)
theorem and127 {a : Int} : andI a 127 = a % 128 := andI_mod (a := a) 7 (by decide)
theorem and255 {a : Int} : andI a 255 = a % 256 := andI_mod (a := a) 8 (by decide)
/-! ### Shifts, and numbers without a sign -/
theorem shr_i {a b : Int} (h : 0 ≤ b) (h2 : b < 64) : shF .shr .i64 a b = some (.int .i64 (a / 2 ^ b.toNat)) := by
  have e : min b.toNat IntKind.i64.bits = b.toNat := by show min b.toNat 64 = _; omega
  simp only [shF, e]
  rw [if_neg (by omega), Int.fdiv_eq_ediv_of_nonneg _ (Int.pow_nonneg (by decide))]
theorem shr_u {a b : Int} (h : 0 ≤ b) (h2 : b < 64) : shF .shr .u64 a b = some (.int .u64 (a / 2 ^ b.toNat)) := by
  have e : min b.toNat IntKind.u64.bits = b.toNat := by show min b.toNat 64 = _; omega
  simp only [shF, e]
  rw [if_neg (by omega), Int.fdiv_eq_ediv_of_nonneg _ (Int.pow_nonneg (by decide))]
theorem shl_i {a b : Int} (h : 0 ≤ b) (h2 : b < 64) : shF .shl .i64 a b = some (.int .i64 (IntKind.i64.wrap (a * 2 ^ b.toNat))) := by
  have e : min b.toNat IntKind.i64.bits = b.toNat := by show min b.toNat 64 = _; omega
  simp only [shF, e]
  rw [if_neg (by omega)]
theorem wrapu_id {n : Int} (h : 0 ≤ n) (h2 : n ≤ 18446744073709551615) : IntKind.u64.wrap n = n := by
  show n % (2 ^ 64 : Int) = n
  omega
def andU (a b : Int) : Int := IntKind.u64.wrap ((BitVec.ofInt 64 a &&& BitVec.ofInt 64 b).toNat : Nat)
theorem fold_andu {a b : Int} : IntKind.u64.wrap ((BitVec.ofInt IntKind.u64.bits a &&& BitVec.ofInt IntKind.u64.bits b).toNat : Nat) = andU a b := rfl
theorem andu32 {a : Int} (h : 0 ≤ a) (h2 : a ≤ 4294967295) : andU a 4294967295 = a := by
  obtain ⟨n, rfl⟩ := Int.eq_ofNat_of_zero_le h
  unfold andU
  have e1 : (BitVec.ofInt 64 (n : Int)).toNat = n := by
    rw [BitVec.toNat_ofInt]
    have : ((n : Int) % ((2 ^ 64 : Nat) : Int)).toNat = n := by omega
    exact this
  have e2 : (BitVec.ofInt 64 (4294967295 : Int)).toNat = 2 ^ 32 - 1 := rfl
  have e : (BitVec.ofInt 64 (n : Int) &&& BitVec.ofInt 64 (4294967295 : Int)).toNat = n := by
    rw [BitVec.toNat_and, e1, e2, Nat.and_two_pow_sub_one_eq_mod]
    omega
  rw [e]
  exact wrapu_id (by omega) (by omega)
theorem ediv0 {a b : Int} (h : 0 ≤ a) (h2 : a < b) : a / b = 0 := Int.ediv_eq_zero_of_lt h h2
end Go.Abs
