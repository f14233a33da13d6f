
/- Bits of numbers as natural numbers. -/
import Derived.Test.YtgmckbchcpfhcaaCl12
import Derived.Test.YtgmckbchcpfhcaaCells
namespace Go.Proofs.Ytgmckbchcpfhcaa
namespace Cl

theorem bv64 {a : Int} {n : Nat} (h : a = (n : Int)) (hn : n < 18446744073709551616) : (BitVec.ofInt 64 a).toNat = n := by
  subst h
  simp [BitVec.toNat_ofInt]; omega
theorem wrap_u {n : Nat} (hn : n < 18446744073709551616) : IntKind.u64.wrap (n : Int) = (n : Int) := by
  have e : IntKind.u64.wrap (n : Int) = (n : Int) % 18446744073709551616 := by
    simp only [IntKind.wrap, IntKind.signed, IntKind.bits]
    simp
  rw [e]; omega
theorem wrap_i {n : Nat} (hn : n < 9223372036854775808) : IntKind.i64.wrap (n : Int) = (n : Int) := w64 (by omega) (by omega)
theorem nat_and_lt {a b m : Nat} (ha : a < m) : a &&& b < m := Nat.lt_of_le_of_lt Nat.and_le_left ha
theorem nat_or_lt {a b : Nat} (n : Nat) (ha : a < 2 ^ n) (hb : b < 2 ^ n) : a ||| b < 2 ^ n := Nat.or_lt_two_pow ha hb
theorem andU {a b : Int} {m n : Nat} (ha : a = (m : Int)) (hb : b = (n : Int)) (hm : m < 18446744073709551616) (hn : n < 18446744073709551616) : IntKind.u64.wrap ((BitVec.ofInt IntKind.u64.bits a) &&& (BitVec.ofInt IntKind.u64.bits b)).toNat = ((m &&& n : Nat) : Int) := by
  have e1 : (BitVec.ofInt IntKind.u64.bits a).toNat = m := bv64 ha hm
  have e2 : (BitVec.ofInt IntKind.u64.bits b).toNat = n := bv64 hb hn
  rw [BitVec.toNat_and, e1, e2]; exact wrap_u (nat_and_lt hm)
theorem orU {a b : Int} {m n : Nat} (ha : a = (m : Int)) (hb : b = (n : Int)) (hm : m < 18446744073709551616) (hn : n < 18446744073709551616) : IntKind.u64.wrap ((BitVec.ofInt IntKind.u64.bits a) ||| (BitVec.ofInt IntKind.u64.bits b)).toNat = ((m ||| n : Nat) : Int) := by
  have e1 : (BitVec.ofInt IntKind.u64.bits a).toNat = m := bv64 ha hm
  have e2 : (BitVec.ofInt IntKind.u64.bits b).toNat = n := bv64 hb hn
  rw [BitVec.toNat_or, e1, e2]; exact wrap_u (nat_or_lt 64 hm hn)
theorem andI {a b : Int} {m n : Nat} (ha : a = (m : Int)) (hb : b = (n : Int)) (hm : m < 9223372036854775808) (hn : n < 9223372036854775808) : IntKind.i64.wrap ((BitVec.ofInt IntKind.i64.bits a) &&& (BitVec.ofInt IntKind.i64.bits b)).toNat = ((m &&& n : Nat) : Int) := by
  have e1 : (BitVec.ofInt IntKind.i64.bits a).toNat = m := bv64 ha (by omega)
  have e2 : (BitVec.ofInt IntKind.i64.bits b).toNat = n := bv64 hb (by omega)
  rw [BitVec.toNat_and, e1, e2]; exact wrap_i (nat_and_lt hm)
theorem orI {a b : Int} {m n : Nat} (ha : a = (m : Int)) (hb : b = (n : Int)) (hm : m < 9223372036854775808) (hn : n < 9223372036854775808) : IntKind.i64.wrap ((BitVec.ofInt IntKind.i64.bits a) ||| (BitVec.ofInt IntKind.i64.bits b)).toNat = ((m ||| n : Nat) : Int) := by
  have e1 : (BitVec.ofInt IntKind.i64.bits a).toNat = m := bv64 ha (by omega)
  have e2 : (BitVec.ofInt IntKind.i64.bits b).toNat = n := bv64 hb (by omega)
  rw [BitVec.toNat_or, e1, e2]; exact wrap_i (nat_or_lt 63 hm hn)
/-- m without the bits of n -/
def andn (m n : Nat) : Nat := m ^^^ (m &&& n)
theorem andn_bit (m n i : Nat) : (andn m n).testBit i = (m.testBit i && !(n.testBit i)) := by
  unfold andn
  rw [Nat.testBit_xor, Nat.testBit_and]
  cases m.testBit i <;> cases n.testBit i <;> rfl
theorem andn_lt {m n : Nat} (hm : m < 18446744073709551616) : andn m n < 18446744073709551616 := by
  unfold andn
  exact Nat.xor_lt_two_pow (n := 64) hm (nat_and_lt hm)
theorem andnU {a b : Int} {m n : Nat} (ha : a = (m : Int)) (hb : b = (n : Int)) (hm : m < 18446744073709551616) (hn : n < 18446744073709551616) : IntKind.u64.wrap ((BitVec.ofInt IntKind.u64.bits a) &&& ~~~(BitVec.ofInt IntKind.u64.bits b)).toNat = ((andn m n : Nat) : Int) := by
  have e1 : (BitVec.ofInt IntKind.u64.bits a).toNat = m := bv64 ha hm
  have e2 : (BitVec.ofInt IntKind.u64.bits b).toNat = n := bv64 hb hn
  have e : ((BitVec.ofInt IntKind.u64.bits a) &&& ~~~(BitVec.ofInt IntKind.u64.bits b)).toNat = andn m n := by
    apply Nat.eq_of_testBit_eq
    intro i
    rw [andn_bit, BitVec.testBit_toNat, BitVec.getLsbD_and, BitVec.getLsbD_not, ← BitVec.testBit_toNat, ← BitVec.testBit_toNat, e1, e2]
    by_cases hi : i < 64
    · have : i < IntKind.u64.bits := hi
      simp [this]
    · have : m.testBit i = false := Nat.testBit_lt_two_pow (Nat.lt_of_lt_of_le hm (Nat.pow_le_pow_right (n := 2) (by decide) (by omega : 64 ≤ i)))
      simp [this]
  rw [e]; exact wrap_u (andn_lt hm)
theorem shrU {k : IntKind} {a b : Int} {m n : Nat} (ha : a = (m : Int)) (hb : b = (n : Int)) (hn : n < 64) (hk : k.bits = 64) : a.fdiv (2 ^ (min b.toNat k.bits)) = ((m >>> n : Nat) : Int) := by
  subst ha; subst hb
  rw [hk, Int.toNat_natCast, Nat.min_eq_left (by omega), Nat.shiftRight_eq_div_pow]
  rw [show ((2 : Int) ^ n) = ((2 ^ n : Nat) : Int) by simp]
  exact (Int.ofNat_fdiv m (2 ^ n)).symm
theorem two_pow_u {n : Nat} (h : n < 64) : (2 : Nat) ^ n < 18446744073709551616 := Nat.pow_lt_pow_right (a := 2) (m := n) (n := 64) (by decide) h
theorem two_pow_i {n : Nat} (h : n < 63) : (2 : Nat) ^ n < 9223372036854775808 := Nat.pow_lt_pow_right (a := 2) (m := n) (n := 63) (by decide) h
theorem shl1U {b : Int} {n : Nat} (hb : b = (n : Int)) (hn : n < 64) : IntKind.u64.wrap (1 * 2 ^ (min b.toNat IntKind.u64.bits)) = ((2 ^ n : Nat) : Int) := by
  subst hb
  have e : min ((n : Int)).toNat IntKind.u64.bits = n := by rw [Int.toNat_natCast]; exact Nat.min_eq_left (show n ≤ 64 by omega)
  rw [e, Int.one_mul, show ((2 : Int) ^ n) = ((2 ^ n : Nat) : Int) by simp]
  exact wrap_u (two_pow_u hn)
theorem shl1I {b : Int} {n : Nat} (hb : b = (n : Int)) (hn : n < 63) : IntKind.i64.wrap (1 * 2 ^ (min b.toNat IntKind.i64.bits)) = ((2 ^ n : Nat) : Int) := by
  subst hb
  have e : min ((n : Int)).toNat IntKind.i64.bits = n := by rw [Int.toNat_natCast]; exact Nat.min_eq_left (show n ≤ 64 by omega)
  rw [e, Int.one_mul, show ((2 : Int) ^ n) = ((2 ^ n : Nat) : Int) by simp]
  exact wrap_i (two_pow_i hn)
theorem shlU {a b : Int} {m n : Nat} (ha : a = (m : Int)) (hb : b = (n : Int)) (hn : n ≤ 64) (hm : m <<< n < 18446744073709551616) : IntKind.u64.wrap (a * 2 ^ (min b.toNat IntKind.u64.bits)) = ((m <<< n : Nat) : Int) := by
  subst ha; subst hb
  have e : min ((n : Int)).toNat IntKind.u64.bits = n := by rw [Int.toNat_natCast]; exact Nat.min_eq_left (show n ≤ 64 from hn)
  have e2 : (m : Int) * (2 : Int) ^ n = ((m <<< n : Nat) : Int) := by rw [Nat.shiftLeft_eq]; simp
  rw [e, e2]
  exact wrap_u hm
theorem bit_one (m n : Nat) : decide (((m >>> n &&& 1 : Nat) : Int) = 1) = m.testBit n := by
  rw [Bool.eq_iff_iff, decide_eq_true_eq, Nat.testBit, bne_iff_ne]
  have : m >>> n &&& 1 = 1 &&& m >>> n := Nat.and_comm _ _
  rw [this]
  have h2 : 1 &&& m >>> n ≤ 1 := Nat.and_le_left
  omega
theorem bit_zero (m n : Nat) : decide (((m >>> n &&& 1 : Nat) : Int) = 0) = !(m.testBit n) := by
  rw [← bit_one, Bool.eq_iff_iff]
  have h2 : m >>> n &&& 1 ≤ 1 := Nat.and_le_right
  simp; omega
theorem bit_none (m n : Nat) : decide (((m >>> n &&& 1 : Nat) : Int) ≠ 1) = !(m.testBit n) := by
  rw [← bit_one]; simp
theorem bit_nzero (m n : Nat) : decide (((m >>> n &&& 1 : Nat) : Int) ≠ 0) = m.testBit n := by
  have := bit_zero m n
  rw [Bool.eq_iff_iff] at this ⊢
  simp at this ⊢
  cases h : m.testBit n <;> simp_all
theorem w_u64 {z : Int} (h0 : 0 ≤ z) (h1 : z ≤ 18446744073709551615) : IntKind.u64.wrap z = z := by
  obtain ⟨n, rfl⟩ := Int.eq_ofNat_of_zero_le h0
  exact wrap_u (by omega)
theorem w_i64 {z : Int} (h0 : -9223372036854775808 ≤ z) (h1 : z ≤ 9223372036854775807) : IntKind.i64.wrap z = z := w64 h0 h1
theorem okc_false {x y : Int} : okc x y = false ↔ ¬ ((0 ≤ x ∧ x ≤ 7) ∧ (0 ≤ y ∧ y ≤ 7)) := by rw [← okc_true]; simp
theorem shr_le (s i : Nat) : s >>> i ≤ s := by rw [Nat.shiftRight_eq_div_pow]; exact Nat.div_le_self _ _
theorem convUI {n : Nat} (h : n < 9223372036854775808) : IntKind.i64.wrap (n : Int) = (n : Int) := wrap_i h
end Cl
end Go.Proofs.Ytgmckbchcpfhcaa
