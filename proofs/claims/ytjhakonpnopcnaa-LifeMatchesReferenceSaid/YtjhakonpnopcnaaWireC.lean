/-
  Plain mathematics of layer 1: the checksum. No program occurs here.
-/
import Derived.Below
set_option linter.unusedVariables false
set_option linter.unusedSimpArgs false
namespace Go.Dial.Wire

def crcStep (r : Nat) : Nat := if r % 2 = 1 then r / 2 ^^^ 2197175160 else r / 2
def crcIter : Nat → Nat → Nat
  | 0, r => r
  | n + 1, r => crcIter n (crcStep r)
def crcByte (r b : Nat) : Nat := crcIter 8 (r ^^^ b)
def crc (r : Nat) (l : List UInt8) : Nat := l.foldl (fun r b => crcByte r b.toNat) r
def sumN (l : List UInt8) : Nat := 4294967295 ^^^ crc 4294967295 l

theorem crcStep_xor (a b : Nat) : crcStep (a ^^^ b) = crcStep a ^^^ crcStep b := by
  unfold crcStep
  have h1 : (a ^^^ b) / 2 = a / 2 ^^^ b / 2 := by
    apply Nat.eq_of_testBit_eq; intro i; simp [Nat.testBit_div_two, Nat.testBit_xor]
  have h2 : (a ^^^ b) % 2 = (a % 2 + b % 2) % 2 := by
    have := Nat.testBit_xor a b 0
    simp only [Nat.testBit_zero] at this
    have ha : a % 2 = 0 ∨ a % 2 = 1 := by omega
    have hb : b % 2 = 0 ∨ b % 2 = 1 := by omega
    have hc : (a ^^^ b) % 2 = 0 ∨ (a ^^^ b) % 2 = 1 := by omega
    rcases ha with ha | ha <;> rcases hb with hb | hb <;> rcases hc with hc | hc <;> simp [ha, hb, hc] at this ⊢
  rw [h1, h2]
  have ha : a % 2 = 0 ∨ a % 2 = 1 := by omega
  have hb : b % 2 = 0 ∨ b % 2 = 1 := by omega
  rcases ha with ha | ha <;> rcases hb with hb | hb <;> simp [ha, hb]
  · rw [Nat.xor_assoc]
  · rw [Nat.xor_assoc, Nat.xor_comm (b / 2), ← Nat.xor_assoc]
  · rw [Nat.xor_assoc, Nat.xor_comm 2197175160, Nat.xor_assoc, Nat.xor_self, Nat.xor_zero]

theorem crcIter_xor (n a b : Nat) : crcIter n (a ^^^ b) = crcIter n a ^^^ crcIter n b := by
  induction n generalizing a b with
  | zero => rfl
  | succ n ih => simp only [crcIter, crcStep_xor, ih]

theorem crcStep_two (x : Nat) : crcStep (2 * x) = x := by
  unfold crcStep; rw [if_neg (by omega)]; omega
theorem crcStep_zero : crcStep 0 = 0 := rfl
theorem crcIter_add (m n r : Nat) : crcIter (m + n) r = crcIter n (crcIter m r) := by
  induction m generalizing r with
  | zero => simp [crcIter]
  | succ m ih => rw [show m + 1 + n = (m + n) + 1 by omega]; simp only [crcIter]; exact ih _
theorem crcIter_succ (n r : Nat) : crcIter (n + 1) r = crcStep (crcIter n r) := by rw [crcIter_add]; rfl
theorem crcIter_pow (n x : Nat) : crcIter n (2 ^ n * x) = x := by
  induction n generalizing x with
  | zero => simp [crcIter]
  | succ n ih => simp only [crcIter]; rw [Nat.pow_succ, Nat.mul_assoc, Nat.mul_comm (2 ^ n), Nat.mul_assoc, crcStep_two, Nat.mul_comm x]; exact ih x
theorem crcIter_zero (n : Nat) : crcIter n 0 = 0 := by
  induction n with
  | zero => rfl
  | succ n ih => simpa [crcIter, crcStep_zero] using ih

theorem join_xor (i q m : Nat) (h : m < 2 ^ i) : 2 ^ i * q + m = 2 ^ i * q ^^^ m := by
  apply Nat.eq_of_testBit_eq
  intro j
  rw [Nat.testBit_two_pow_mul_add _ h, Nat.testBit_xor, Nat.testBit_two_pow_mul]
  split
  · rename_i hj; simp [show ¬ i ≤ j by omega]
  · rename_i hj
    have : m.testBit j = false := Nat.testBit_lt_two_pow (Nat.lt_of_lt_of_le h (Nat.pow_le_pow_right (by omega) (by omega)))
    simp [this]; omega

def nib : List Nat := [0, 274646895, 549293790, 820201905, 1098587580, 1361435347, 1640403810, 1905808397, 2197175160, 2460548119, 2722870694, 2987750089, 3280807620, 3553878443, 3811616794, 4084100981]

theorem nib_iter (m : Nat) (h : m < 16) : crcIter 4 m = nib.getD m 0 := by
  have : ∀ m : Fin 16, crcIter 4 m.1 = nib.getD m.1 0 := by decide
  exact this ⟨m, h⟩
theorem nib_step (r : Nat) : r / 16 ^^^ nib.getD (r % 16) 0 = crcIter 4 r := by
  have e : r = 2 ^ 4 * (r / 16) ^^^ r % 16 := by rw [← join_xor 4 _ _ (Nat.mod_lt _ (by omega))]; omega
  rw [← nib_iter _ (Nat.mod_lt _ (by omega))]
  conv => rhs; rw [e, crcIter_xor, crcIter_pow]

theorem crcStep_lt (r : Nat) (h : r < 4294967296) : crcStep r < 4294967296 := by
  unfold crcStep
  split
  · exact Nat.xor_lt_two_pow (n := 32) (by omega) (by omega)
  · omega
theorem crcIter_lt (n r : Nat) (h : r < 4294967296) : crcIter n r < 4294967296 := by
  induction n generalizing r with
  | zero => exact h
  | succ n ih => exact ih _ (crcStep_lt r h)
theorem crcByte_lt (r b : Nat) (h : r < 4294967296) (hb : b < 256) : crcByte r b < 4294967296 :=
  crcIter_lt 8 _ (Nat.xor_lt_two_pow (n := 32) h (by omega))
theorem crc_lt (l : List UInt8) (r : Nat) (h : r < 4294967296) : crc r l < 4294967296 := by
  induction l generalizing r with
  | nil => exact h
  | cons b l ih => exact ih _ (crcByte_lt r _ h b.toNat_lt)
theorem crc_snoc (l : List UInt8) (b : UInt8) (r : Nat) : crc r (l ++ [b]) = crcByte (crc r l) b.toNat := by simp [crc]
theorem sumN_lt (l : List UInt8) : sumN l < 4294967296 := Nat.xor_lt_two_pow (n := 32) (by omega) (crc_lt l _ (by omega))
end Go.Dial.Wire
