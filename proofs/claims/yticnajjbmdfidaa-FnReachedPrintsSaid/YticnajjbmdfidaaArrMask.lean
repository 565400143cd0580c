-- Masks of 64 cells: numbers of 64 bits by their bits.
import Derived.Test.YticnajjbmdfidaaArrKit
import Derived.Laws.Bits64b
namespace Go.Proofs.Yticnajjbmdfidaa.Q
open Go.RowKit Go.Proofs.YticnajjbmdfidaaW.PrintWords Go.Proofs.YticnajjbmdfidaaW.PrintLast Go.Proofs.YticnajjbmdfidaaW.PrintMore
set_option linter.unusedVariables false
set_option linter.unusedSimpArgs false
/-- has mask m the cell k -/
def D_bit (m k : Int) : Prop := Go.bits .and .u64 (m / 2 ^ k.toNat) 1 = 1
instance (m k : Int) : Decidable (D_bit m k) := by unfold D_bit; infer_instance
/-- is m a number of 64 bits -/
def U64 (m : Int) : Prop := 0 ≤ m ∧ m < 18446744073709551616
def tb (m k : Int) : Bool := m.toNat.testBit k.toNat
theorem nat_of_u64 {m : Int} (h : U64 m) : ∃ n : Nat, m = n ∧ n < 2 ^ 64 := ⟨m.toNat, by unfold U64 at h; omega, by unfold U64 at h; omega⟩
theorem bits_andNot_u64_nat (a b : Nat) (ha : a < 18446744073709551616) (hb : b < 18446744073709551616) :
    bits .andNot .u64 (a : Int) (b : Int) = ((a &&& (2 ^ 64 - 1 - b) : Nat) : Int) := by
  have hx : a &&& (2 ^ 64 - 1 - b) < 2 ^ 64 := Nat.and_lt_two_pow _ (by omega)
  have h1 : (BitVec.ofInt 64 (a : Int)).toNat = a := by
    rw [BitVec.ofInt_natCast, BitVec.toNat_ofNat]; exact Nat.mod_eq_of_lt (by omega)
  have h2 : (BitVec.ofInt 64 (b : Int)).toNat = b := by
    rw [BitVec.ofInt_natCast, BitVec.toNat_ofNat]; exact Nat.mod_eq_of_lt (by omega)
  show IntKind.u64.wrap ((BitVec.ofInt 64 (a : Int) &&& ~~~ BitVec.ofInt 64 (b : Int)).toNat : Int) = _
  rw [BitVec.toNat_and, BitVec.toNat_not, h1, h2, IntKind.wrap_u64]
  omega
theorem u64_or {a b : Int} (ha : U64 a) (hb : U64 b) : U64 (Go.bits .or .u64 a b) := by
  obtain ⟨x, rfl, hx⟩ := nat_of_u64 ha
  obtain ⟨y, rfl, hy⟩ := nat_of_u64 hb
  rw [bits_or_u64_nat x y (by omega) (by omega)]
  have : x ||| y < 2 ^ 64 := Nat.or_lt_two_pow hx hy
  unfold U64; omega
theorem u64_andNot {a b : Int} (ha : U64 a) (hb : U64 b) : U64 (Go.bits .andNot .u64 a b) := by
  obtain ⟨x, rfl, hx⟩ := nat_of_u64 ha
  obtain ⟨y, rfl, hy⟩ := nat_of_u64 hb
  rw [bits_andNot_u64_nat x y (by omega) (by omega)]
  have : x &&& (2 ^ 64 - 1 - y) < 2 ^ 64 := Nat.and_lt_two_pow _ (by omega)
  unfold U64; omega
theorem u64_and {a b : Int} (ha : U64 a) (hb : U64 b) : U64 (Go.bits .and .u64 a b) := by
  obtain ⟨x, rfl, hx⟩ := nat_of_u64 ha
  obtain ⟨y, rfl, hy⟩ := nat_of_u64 hb
  rw [bits_and_u64_nat x y (by omega) (by omega)]
  have : x &&& y < 2 ^ 64 := Nat.and_lt_two_pow _ hy
  unfold U64; omega
theorem tb_or {a b : Int} (ha : U64 a) (hb : U64 b) (k : Int) : tb (Go.bits .or .u64 a b) k = (tb a k || tb b k) := by
  obtain ⟨x, rfl, hx⟩ := nat_of_u64 ha
  obtain ⟨y, rfl, hy⟩ := nat_of_u64 hb
  rw [bits_or_u64_nat x y (by omega) (by omega)]
  unfold tb; simp
theorem tb_and {a b : Int} (ha : U64 a) (hb : U64 b) (k : Int) : tb (Go.bits .and .u64 a b) k = (tb a k && tb b k) := by
  obtain ⟨x, rfl, hx⟩ := nat_of_u64 ha
  obtain ⟨y, rfl, hy⟩ := nat_of_u64 hb
  rw [bits_and_u64_nat x y (by omega) (by omega)]
  unfold tb; simp
theorem tb_not {b k : Int} (hb : U64 b) (h0 : 0 ≤ k) (h1 : k < 64) : tb (18446744073709551615 - b) k = !tb b k := by
  obtain ⟨y, rfl, hy⟩ := nat_of_u64 hb
  unfold tb
  rw [show ((18446744073709551615 : Int) - (y : Int)).toNat = 2 ^ 64 - (y + 1) by omega, Int.toNat_natCast, Nat.testBit_two_pow_sub_succ hy]
  simp [show k.toNat < 64 by omega]
theorem tb_andNot {a b k : Int} (ha : U64 a) (hb : U64 b) (h0 : 0 ≤ k) (h1 : k < 64) : tb (Go.bits .andNot .u64 a b) k = (tb a k && !tb b k) := by
  have hn := tb_not hb h0 h1
  obtain ⟨x, rfl, hx⟩ := nat_of_u64 ha
  obtain ⟨y, rfl, hy⟩ := nat_of_u64 hb
  rw [bits_andNot_u64_nat x y (by omega) (by omega), ← hn]
  unfold tb
  rw [show ((18446744073709551615 : Int) - (y : Int)).toNat = 2 ^ 64 - 1 - y by omega]
  simp
theorem u64_pow {i : Int} (h0 : 0 ≤ i) (h1 : i < 64) : IntKind.u64.wrap (2 ^ i.toNat) = 2 ^ i.toNat ∧ U64 (2 ^ i.toNat) := by
  have h : (2 : Nat) ^ i.toNat ≤ 2 ^ 63 := Nat.pow_le_pow_right (by omega) (by omega)
  obtain ⟨p, hp⟩ : ∃ p : Nat, p = 2 ^ i.toNat := ⟨_, rfl⟩
  have e : (2 : Int) ^ i.toNat = (p : Int) := by rw [hp]; simp
  rw [← hp] at h
  rw [e]
  refine ⟨?_, by unfold U64; omega⟩
  simp [IntKind.wrap, IntKind.bits, IntKind.signed]; omega
theorem tb_pow {i k : Int} (h0 : 0 ≤ i) (h1 : i < 64) (h2 : 0 ≤ k) : tb (2 ^ i.toNat) k = decide (k = i) := by
  have e : (2 : Int) ^ i.toNat = ((2 ^ i.toNat : Nat) : Int) := by simp
  unfold tb
  rw [e, Int.toNat_natCast, Nat.testBit_two_pow]
  by_cases h : k = i
  · simp [h]
  · simp [h]; omega
theorem tb_zero (k : Int) : tb 0 k = false := by unfold tb; simp
theorem tb_ext {a b : Int} (ha : U64 a) (hb : U64 b) (h : ∀ k : Int, 0 ≤ k → k < 64 → tb a k = tb b k) : a = b := by
  obtain ⟨x, rfl, hx⟩ := nat_of_u64 ha
  obtain ⟨y, rfl, hy⟩ := nat_of_u64 hb
  congr 1
  apply Nat.eq_of_testBit_eq
  intro j
  by_cases hj : j < 64
  · have := h j (by omega) (by omega)
    unfold tb at this
    simpa using this
  · have e : 2 ^ 64 ≤ 2 ^ j := Nat.pow_le_pow_right (by omega) (by omega)
    rw [Nat.testBit_lt_two_pow (Nat.lt_of_lt_of_le hx e), Nat.testBit_lt_two_pow (Nat.lt_of_lt_of_le hy e)]
theorem u64_zero : U64 0 := by unfold U64; omega
theorem D_bit_tb {m k : Int} (hm : U64 m) (h0 : 0 ≤ k) : D_bit m k ↔ tb m k = true := by
  obtain ⟨x, rfl, hx⟩ := nat_of_u64 hm
  unfold D_bit tb
  have e : (x : Int) / 2 ^ k.toNat = ((x / 2 ^ k.toNat : Nat) : Int) := by simp
  have hlt : x / 2 ^ k.toNat < 2 ^ 64 := Nat.lt_of_le_of_lt (Nat.div_le_self _ _) hx
  have h1 := bits_and_u64_nat (x / 2 ^ k.toNat) 1 (by omega) (by omega)
  rw [e, show (1 : Int) = ((1 : Nat) : Int) by rfl, h1, Int.toNat_natCast, Nat.testBit, Nat.shiftRight_eq_div_pow, Nat.and_comm]
  constructor
  · intro h
    have : 1 &&& x / 2 ^ k.toNat = 1 := by omega
    simp [this]
  · intro h
    have hle : 1 &&& x / 2 ^ k.toNat ≤ 1 := Nat.and_le_left
    have : 1 &&& x / 2 ^ k.toNat ≠ 0 := by simpa using h
    omega
/-- ^d, as the walk spells it -/
theorem u64_compl {d : Int} (h : U64 d) : Go.bits .xor .u64 (if IntKind.u64.signed = true then -1 else IntKind.u64.max) d = 18446744073709551615 - d := by
  obtain ⟨y, rfl, hy⟩ := nat_of_u64 h
  have e : (if IntKind.u64.signed = true then (-1 : Int) else IntKind.u64.max) = ((18446744073709551615 : Nat) : Int) := by decide
  rw [e, bits_xor_u64_nat 18446744073709551615 y (by omega) (by omega)]
  have h1 : ((BitVec.allOnes 64) ^^^ (BitVec.ofNat 64 y)).toNat = 18446744073709551615 ^^^ y := by
    rw [BitVec.toNat_xor, BitVec.toNat_allOnes, BitVec.toNat_ofNat, Nat.mod_eq_of_lt hy]
  have h2 : ((BitVec.allOnes 64) ^^^ (BitVec.ofNat 64 y)).toNat = 2 ^ 64 - 1 - y := by
    rw [BitVec.allOnes_xor, BitVec.toNat_not, BitVec.toNat_ofNat, Nat.mod_eq_of_lt hy]
  omega
end Go.Proofs.Yticnajjbmdfidaa.Q
