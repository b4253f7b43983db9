/-
  Plain laws of layer 1: encodings that are embedded, prefixes, and the checksum of strings that differ. No program occurs here.
-/
import Derived.Test.YtjhakonpnopcnaaWireM
import Derived.Test.YtjhakonpnopcnaaWireC
set_option linter.unusedVariables false
set_option linter.unusedSimpArgs false
namespace Go.Dial.Wire

/-- an encoding that is embedded anywhere -/
theorem intAt_embed (p q : List UInt8) (n : Int) (h1 : -maxInt ≤ n) (h2 : n ≤ maxInt) : intAt (p ++ enc n ++ q) p.length = (n, (p.length : Int) + (enc n).length, 0) := by
  unfold intAt
  rw [if_neg (by simp; omega)]
  have hd : dec 9 0 0 (List.drop (p.length : Int).toNat (p ++ enc n ++ q)) = some (n, (enc n).length) :=
    (dec_iff _ _ _).2 ⟨h1, h2, by rw [Int.toNat_natCast, List.append_assoc, List.drop_left]; exact List.prefix_append _ _, rfl⟩
  rw [hd]
theorem strAt_embed (p q t : List UInt8) (h : t.length ≤ 65536) : strAt (p ++ (enc t.length ++ t) ++ q) p.length = (t, (p.length : Int) + (enc t.length ++ t).length, 0) := by
  have hi : intAt (p ++ (enc t.length ++ t) ++ q) p.length = ((t.length : Int), (p.length : Int) + (enc t.length).length, 0) := by
    have := intAt_embed p (t ++ q) t.length (by unfold maxInt; omega) (by unfold maxInt; omega)
    rw [← this]; simp
  unfold strAt
  rw [hi]
  simp only [ne_eq, not_true_eq_false, if_false]
  rw [if_neg (by simp; omega)]
  have e1 : ((p.length : Int) + (enc t.length).length).toNat = (p ++ enc t.length).length := by simp; omega
  rw [e1, Int.toNat_natCast, show p ++ (enc t.length ++ t) ++ q = (p ++ enc t.length) ++ (t ++ q) by simp, List.drop_left, List.take_left]
  simp; omega

/-- what Int returns at an offset: nothing, or the number whose encoding stands there -/
theorem intAt_or (l : List UInt8) (k : Nat) (h : k ≤ l.length) :
    intAt l k = (0, 0, 10) ∨ ∃ (n : Int) (r : Nat), intAt l k = (n, ((r : Nat) : Int), 0) ∧ -maxInt ≤ n ∧ n ≤ maxInt ∧ k ≤ r ∧ r ≤ l.length ∧ (l.drop k).take (r - k) = enc n := by
  unfold intAt
  rw [if_neg (by omega), Int.toNat_natCast]
  cases hd : dec 9 0 0 (l.drop k) with
  | none => exact .inl rfl
  | some p =>
    obtain ⟨n, j⟩ := p
    obtain ⟨h1, h2, h3, h4⟩ := (dec_iff _ _ _).1 hd
    have hl := h3.length_le
    simp at hl
    refine .inr ⟨n, k + j, by simp, h1, h2, by omega, by omega, ?_⟩
    rw [show k + j - k = j by omega, h4]; exact (List.prefix_iff_eq_take.1 h3).symm
/-- what String returns at an offset: nothing, or the string whose encoding stands there -/
theorem strAt_or (l : List UInt8) (k : Nat) (h : k ≤ l.length) :
    strAt l k = ([], 0, 10) ∨ ∃ (v : List UInt8) (r : Nat), strAt l k = (v, ((r : Nat) : Int), 0) ∧ v.length ≤ 65536 ∧ k ≤ r ∧ r ≤ l.length ∧ (l.drop k).take (r - k) = enc v.length ++ v := by
  rcases intAt_or l k h with hi | ⟨n, r, hi, h1, h2, h3, h4, h5⟩
  · exact .inl (by unfold strAt; rw [hi]; rfl)
  · unfold strAt
    rw [hi]
    simp only [ne_eq, not_true_eq_false, if_false]
    by_cases hc : n < 0 ∨ 65536 < n ∨ (l.length : Int) - (r : Int) < n
    · rw [if_pos hc]; exact .inl rfl
    · rw [if_neg hc]
      obtain ⟨m, rfl⟩ := Int.eq_ofNat_of_zero_le (by omega : 0 ≤ n)
      rw [Int.toNat_natCast, Int.toNat_natCast]
      have hlen : ((l.drop r).take m).length = m := by simp; omega
      refine .inr ⟨(l.drop r).take m, r + m, by simp, by omega, by omega, by omega, ?_⟩
      rw [hlen, show r + m - k = (r - k) + m by omega, List.take_add, h5, List.drop_drop, show k + (r - k) = r by omega]

/-- a prefix of an encoding that is shorter is not accepted -/
theorem intAt_short (n : Int) (j : Nat) (h1 : -maxInt ≤ n) (h2 : n ≤ maxInt) (hj : j < (enc n).length) : intAt ((enc n).take j) 0 = (0, 0, 10) := by
  rcases intAt_or ((enc n).take j) 0 (Nat.zero_le _) with h | ⟨m, r, _, h3, h4, _, h6, h7⟩
  · exact h
  · simp at h7 h6
    have hm : enc m <+: enc n := by rw [← h7]; exact (List.take_prefix _ _).trans (List.take_prefix _ _)
    have := enc_inj_of_prefix h1 h2 h3 h4 (List.prefix_refl _) hm
    subst this
    have := congrArg List.length h7
    simp at this
    omega
theorem strAt_short (t : List UInt8) (j : Nat) (h : t.length ≤ 65536) (hj : j < (enc t.length ++ t).length) : strAt ((enc t.length ++ t).take j) 0 = ([], 0, 10) := by
  rcases strAt_or ((enc t.length ++ t).take j) 0 (Nat.zero_le _) with h' | ⟨v, r, _, h3, _, h6, h7⟩
  · exact h'
  · simp only [List.drop_zero, Nat.sub_zero] at h7
    have hp : enc v.length ++ v <+: enc t.length ++ t := by rw [← h7]; exact (List.take_prefix _ _).trans (List.take_prefix _ _)
    have hm : (v.length : Int) = t.length := enc_inj_of_prefix (by unfold maxInt; omega) (by unfold maxInt; omega) (by unfold maxInt; omega) (by unfold maxInt; omega) ((List.prefix_append _ _).trans hp) (List.prefix_append _ _)
    have := congrArg List.length h7
    simp at this h6 hj
    rw [hm] at this
    omega
theorem enc_prefix_iff (n m : Int) (h1 : -maxInt ≤ n) (h2 : n ≤ maxInt) (h3 : -maxInt ≤ m) (h4 : m ≤ maxInt) : ((enc n).length ≤ (enc m).length ∧ (enc m).take (enc n).length = enc n) ↔ n = m := by
  constructor
  · rintro ⟨_, h⟩
    exact enc_inj_of_prefix h1 h2 h3 h4 (by rw [← h]; exact List.take_prefix _ _) (List.prefix_refl _)
  · rintro rfl; exact ⟨Nat.le_refl _, by simp⟩

/-! ### the checksum of numbers -/
def crcN (r : Nat) (l : List Nat) : Nat := l.foldl crcByte r
theorem crc_crcN (r : Nat) (l : List UInt8) : crc r l = crcN r (l.map UInt8.toNat) := by
  unfold crc crcN; rw [List.foldl_map]
theorem crcByte_xor (a b x y : Nat) : crcByte (a ^^^ b) (x ^^^ y) = crcByte a x ^^^ crcByte b y := by
  unfold crcByte
  rw [← crcIter_xor]
  congr 1
  rw [Nat.xor_assoc, Nat.xor_assoc, ← Nat.xor_assoc b, Nat.xor_comm b x, Nat.xor_assoc]
theorem crcN_snoc (r : Nat) (l : List Nat) (b : Nat) : crcN r (l ++ [b]) = crcByte (crcN r l) b := by simp [crcN]
theorem crcN_xor (n : Nat) (f g : Nat → Nat) (r s : Nat) : crcN (r ^^^ s) ((List.range n).map fun j => f j ^^^ g j) = crcN r ((List.range n).map f) ^^^ crcN s ((List.range n).map g) := by
  induction n with
  | zero => rfl
  | succ n ih => simp only [List.range_succ, List.map_append, List.map_cons, List.map_nil, crcN_snoc, ih, crcByte_xor]
theorem crcN_xor3 (n : Nat) (f g h : Nat → Nat) (r : Nat) :
    crcN r ((List.range n).map fun j => (f j ^^^ g j) ^^^ h j) = (crcN r ((List.range n).map f) ^^^ crcN r ((List.range n).map g)) ^^^ crcN r ((List.range n).map h) := by
  have e : r = (r ^^^ r) ^^^ r := by rw [Nat.xor_self, Nat.zero_xor]
  conv => lhs; rw [e]
  rw [crcN_xor n (fun j => f j ^^^ g j) h, crcN_xor]
theorem xor_three (r a b c : Nat) : r ^^^ ((a ^^^ b) ^^^ c) = ((r ^^^ a) ^^^ (r ^^^ b)) ^^^ (r ^^^ c) := by
  have : (r ^^^ a) ^^^ (r ^^^ b) = a ^^^ b := by
    rw [Nat.xor_comm r a, Nat.xor_assoc, ← Nat.xor_assoc r r, Nat.xor_self, Nat.zero_xor]
  rw [this, ← Nat.xor_assoc r, Nat.xor_comm r (a ^^^ b), Nat.xor_assoc (a ^^^ b)]
theorem map_take (l : List UInt8) (n : Nat) (h : n ≤ l.length) : (l.take n).map UInt8.toNat = (List.range n).map fun j => (l.getD j 0).toNat := by
  apply List.ext_getElem
  · simp; omega
  · intro i h1 h2
    simp at h1 h2
    simp [List.getD_eq_getElem?_getD, List.getElem?_eq_getElem (show i < l.length by omega)]
theorem list_of_gets (l : List Nat) (n : Nat) (f : Nat → Nat) (h : l.length = n) (hf : ∀ m, m < n → l[m]? = some (f m)) : l = (List.range n).map f := by
  apply List.ext_getElem?
  intro i
  by_cases hi : i < n
  · rw [hf i hi]; simp [hi]
  · rw [List.getElem?_eq_none (by omega), List.getElem?_eq_none (by simp; omega)]

/-! ### a burst -/
theorem mul_xor (k a b : Nat) : 2 ^ k * (a ^^^ b) = 2 ^ k * a ^^^ 2 ^ k * b := by
  apply Nat.eq_of_testBit_eq
  intro i
  simp only [Nat.testBit_two_pow_mul, Nat.testBit_xor]
  by_cases h : k ≤ i <;> simp [h]
/-- the bytes as one number, the first one lowest -/
def valx : List Nat → Nat
  | [] => 0
  | b :: l => b ^^^ 2 ^ 8 * valx l
theorem crcIter_valx (l : List Nat) (r : Nat) : crcIter (8 * l.length) (r ^^^ valx l) = crcN r l := by
  induction l generalizing r with
  | nil => simp [valx, crcIter, crcN]
  | cons b l ih =>
    have e : 8 * (b :: l).length = 8 + 8 * l.length := by simp; omega
    rw [e, crcIter_add, valx, ← Nat.xor_assoc, crcIter_xor, crcIter_pow, ih]
    rfl
theorem valx_set (l : List Nat) (k j : Nat) (hk : k < l.length) : valx (l.set k (l[k] ^^^ 2 ^ j)) = valx l ^^^ 2 ^ (8 * k + j) := by
  induction l generalizing k with
  | nil => simp at hk
  | cons b l ih =>
    cases k with
    | zero => simp only [List.set_cons_zero, List.getElem_cons_zero, valx, Nat.mul_zero, Nat.zero_add]; rw [Nat.xor_assoc, Nat.xor_assoc, Nat.xor_comm (2 ^ j)]
    | succ k =>
      simp only [List.set_cons_succ, List.getElem_cons_succ, valx]
      rw [ih k (by simpa using hk), mul_xor, ← Nat.xor_assoc, ← Nat.pow_add, show 8 + (8 * k + j) = 8 * (k + 1) + j by omega]
theorem crcStep_ne (r : Nat) (h : r < 4294967296) (h0 : r ≠ 0) : crcStep r ≠ 0 := by
  unfold crcStep
  split
  · intro e
    have h1 : r / 2 = 2197175160 := by
      have := congrArg (· ^^^ 2197175160) e
      simpa [Nat.xor_assoc] using this
    omega
  · omega
theorem crcIter_ne (n r : Nat) (h : r < 4294967296) (h0 : r ≠ 0) : crcIter n r ≠ 0 := by
  induction n generalizing r with
  | zero => exact h0
  | succ n ih => exact ih _ (crcStep_lt r h) (crcStep_ne r h h0)
theorem xor_eq_self (a b : Nat) : a ^^^ b = a ↔ b = 0 := by
  constructor
  · intro h
    have := congrArg (a ^^^ ·) h
    simpa [← Nat.xor_assoc] using this
  · rintro rfl; simp
theorem xor_inj (r a b : Nat) : r ^^^ a = r ^^^ b ↔ a = b := by
  constructor
  · intro h
    have := congrArg (r ^^^ ·) h
    simpa [← Nat.xor_assoc] using this
  · rintro rfl; rfl
/-- a change of at most 32 consecutive bits changes the checksum -/
theorem burst (s t : List Nat) (f m : Nat) (hl : t.length = s.length) (hf : f ≤ 8 * s.length) (hm : m < 4294967296) (hv : valx t = valx s ^^^ 2 ^ f * m) (r : Nat) : crcN r t = crcN r s ↔ m = 0 := by
  rw [← crcIter_valx t, hv, hl, ← Nat.xor_assoc, crcIter_xor, crcIter_valx, xor_eq_self]
  rw [show 8 * s.length = f + (8 * s.length - f) by omega, crcIter_add, crcIter_pow]
  constructor
  · intro h
    rcases Nat.eq_zero_or_pos m with h0 | h0
    · exact h0
    · exact absurd h (crcIter_ne _ _ hm (by omega))
  · rintro rfl; exact crcIter_zero _
theorem bits_succ (b i : Nat) : b % 2 ^ (i + 1) = b % 2 ^ i ^^^ 2 ^ i * (b / 2 ^ i % 2) := by
  rw [Nat.xor_comm, ← join_xor i _ _ (Nat.mod_lt _ (Nat.pow_pos (by omega)))]
  rw [Nat.pow_succ, Nat.mod_mul]
  omega
theorem bits_succ0 (b i : Nat) (h : b / 2 ^ i % 2 = 0) : b % 2 ^ (i + 1) = b % 2 ^ i := by rw [bits_succ, h]; simp
theorem bits_succ1 (b i : Nat) (h : b / 2 ^ i % 2 = 1) : b % 2 ^ (i + 1) = b % 2 ^ i ^^^ 2 ^ i ∧ b % 2 ^ (i + 1) ≠ 0 := by
  refine ⟨by rw [bits_succ, h]; simp, ?_⟩
  rw [Nat.pow_succ, Nat.mod_mul, h]
  have : 0 < 2 ^ i := Nat.pow_pos (by omega)
  omega

end Go.Dial.Wire
