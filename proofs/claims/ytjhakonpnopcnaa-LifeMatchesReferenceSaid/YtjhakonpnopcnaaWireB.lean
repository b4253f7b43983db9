/-
  Bit operations of layer 1 as plain numbers.
-/
import Derived.WalkKit
import Derived.WalkLawsBesides
set_option linter.unusedVariables false
set_option linter.unusedSimpArgs false
namespace Go.Dial.Wire
open Go Go.RowKit

theorem and127_u8 (b : Nat) (h : b < 256) : bits .and .u8 (b : Int) 127 = ((b % 128 : Nat) : Int) := by
  rw [show (127 : Int) = ((127 : Nat) : Int) from rfl, u8_and_nat _ _ h (by omega)]
  congr 1
  exact Nat.and_two_pow_sub_one_eq_mod b 7
theorem and127_u64 (z : Nat) (h : z < 18446744073709551616) : bits .and .u64 (z : Int) 127 = ((z % 128 : Nat) : Int) := by
  rw [show (127 : Int) = ((127 : Nat) : Int) from rfl, u64_and_nat _ _ h (by omega)]
  congr 1
  exact Nat.and_two_pow_sub_one_eq_mod z 7
theorem and1_u64 (z : Nat) (h : z < 18446744073709551616) : bits .and .u64 (z : Int) 1 = ((z % 2 : Nat) : Int) := by
  rw [show (1 : Int) = ((1 : Nat) : Int) from rfl, u64_and_nat _ _ h (by omega), nat_mask1]
theorem or128_u8 (b : Nat) (h : b < 128) : bits .or .u8 (b : Int) 128 = ((b + 128 : Nat) : Int) := by
  rw [show (128 : Int) = ((128 : Nat) : Int) from rfl, u8_or_nat _ _ (by omega) (by omega)]
  congr 1
  rw [Nat.or_comm, nat_join 7 128 b (by omega) (by omega)]; omega
theorem or_u64 (j z x : Nat) (hz : z < 128 ^ j) (hx : x < 128) (hj : j ≤ 8) : bits .or .u64 (z : Int) ((x * 128 ^ j : Nat) : Int) = ((z + x * 128 ^ j : Nat) : Int) := by
  have hp : 128 ^ j = 2 ^ (7 * j) := by rw [Nat.pow_mul]
  have h1 : z + x * 128 ^ j < 128 ^ (j + 1) := by
    rw [Nat.pow_succ]
    have : x * 128 ^ j ≤ 127 * 128 ^ j := Nat.mul_le_mul_right _ (by omega)
    omega
  have h2 : 128 ^ (j + 1) ≤ 128 ^ 9 := Nat.pow_le_pow_right (by omega) (by omega)
  rw [u64_or_nat _ _ (by omega) (by omega)]
  congr 1
  rw [Nat.or_comm, hp, nat_join (7 * j) (x * 2 ^ (7 * j)) z (by simp) (by omega), Nat.add_comm]
theorem shl_u64 (j x : Nat) (hx : x < 128) (hj : j ≤ 8) : IntKind.u64.wrap ((x : Int) * 2 ^ (7 * j)) = ((x * 128 ^ j : Nat) : Int) := by
  have hp : (2 : Int) ^ (7 * j) = ((128 ^ j : Nat) : Int) := by rw [Int.pow_mul]; simp
  have h1 : x * 128 ^ j ≤ 127 * 128 ^ 8 := Nat.mul_le_mul (by omega) (Nat.pow_le_pow_right (by omega) hj)
  rw [hp, IntKind.wrap_u64, ← Int.natCast_mul]
  omega
theorem xor_i64_0 (a : Nat) (h : a < 9223372036854775808) : bits .xor .i64 (a : Int) 0 = (a : Int) := by
  show IntKind.i64.wrap ((BitVec.ofInt 64 (a : Int) ^^^ BitVec.ofInt 64 0).toNat : Int) = _
  rw [show BitVec.ofInt 64 0 = 0#64 from rfl, BitVec.xor_zero, ofInt_u64 _ (by omega)]
  exact IntWalk.i64_in _ (by omega)
theorem xor_i64_m1 (a : Nat) (h : a < 9223372036854775808) : bits .xor .i64 (a : Int) (-1) = -(a : Int) - 1 := by
  show IntKind.i64.wrap ((BitVec.ofInt 64 (a : Int) ^^^ BitVec.ofInt 64 (-1)).toNat : Int) = _
  rw [show BitVec.ofInt 64 (-1) = BitVec.allOnes 64 from rfl, BitVec.xor_allOnes, BitVec.toNat_not, ofInt_u64 _ (by omega)]
  simp only [IntKind.wrap, IntKind.bits, IntKind.signed]
  simp
  omega
theorem xor_u64_0 (a : Nat) (h : a < 18446744073709551616) : bits .xor .u64 (a : Int) 0 = (a : Int) := by
  have := u64_xor_nat a 0 h (by omega)
  simpa using this
theorem xor_u64_m (a : Nat) (h : a < 18446744073709551616) : bits .xor .u64 (a : Int) 18446744073709551615 = ((18446744073709551615 - a : Nat) : Int) := by
  show IntKind.u64.wrap ((BitVec.ofInt 64 (a : Int) ^^^ BitVec.ofInt 64 18446744073709551615).toNat : Int) = _
  rw [show BitVec.ofInt 64 18446744073709551615 = BitVec.allOnes 64 from rfl, BitVec.xor_allOnes, BitVec.toNat_not, ofInt_u64 _ (by omega), IntKind.wrap_u64]
  omega

def u8s (bs : List Nat) : List Value := bs.map fun (b : Nat) => Value.int .u8 (b : Int)
def bytesOf (bs : List Nat) : List UInt8 := bs.map UInt8.ofNat

/-- string(b) of a slice of the call's own -/
theorem run_convert_own {P : Program} {w : World} {base e n : Nat} {v : Value} {bs : List Nat} (src dst : Nat) (hs : P.underlying src = some (.slice e)) (he : P.underlying e = some (.int .u8)) (hd : P.underlying dst = some .string)
    (h : w.ownsRow base e 1 v n (u8s bs)) : (convert src dst v).run P w = .ok (.string ⟨(bytesOf bs).toArray⟩) w := by
  have hn : bs.length = n := by have := h.1; simpa [u8s] using this
  rcases h.2 with ⟨rfl, rfl⟩ | ⟨g, cap, cur, rfl, hrest⟩
  · obtain rfl : bs = [] := List.eq_nil_of_length_eq_zero hn
    exact run_convert_bytes_nil w src e hs he 0 0 dst hd
  · have hc := h.cells (g := g) rfl
    have := run_convert_bytes_arg (P := P) w src e hs he g 0 n cap (bs.map fun (b : Nat) => (b : Int)) (by simpa using hn) (fun i hi => by
      have hi' : i < bs.length := by omega
      have := hc i (.int .u8 (bs[i] : Int)) (by simp [u8s, hi'])
      have hadd : (⟨g, 0, none⟩ : Addr).add i = ⟨g, 0 + i, none⟩ := by unfold Addr.add; split <;> simp_all
      rw [← hadd, this]; simp [List.getD, hi']) dst hd
    rw [this]
    simp [strOfNums, bytesOf, Function.comp_def]
end Go.Dial.Wire
