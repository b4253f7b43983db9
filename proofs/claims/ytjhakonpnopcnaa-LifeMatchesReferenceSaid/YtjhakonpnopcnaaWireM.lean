/-
  Plain mathematics of layer 1: the encoding of integers and strings on lists of bytes. No program occurs here.
-/
import Derived.Below
set_option linter.unusedVariables false
set_option linter.unusedSimpArgs false
namespace Go.Dial.Wire

def maxInt : Int := 4611686018427387903

/-- zigzag -/
def zz (n : Int) : Nat := if n < 0 then (-2 * n - 1).toNat else (2 * n).toNat
def unzz (z : Nat) : Int := if z % 2 = 1 then -((z / 2 : Nat) : Int) - 1 else ((z / 2 : Nat) : Int)

theorem unzz_zz (n : Int) : unzz (zz n) = n := by
  unfold unzz zz
  split <;> split <;> omega
theorem zz_unzz (z : Nat) : zz (unzz z) = z := by
  unfold unzz zz
  split <;> split <;> omega
theorem zz_lt (n : Int) (h1 : -maxInt ≤ n) (h2 : n ≤ maxInt) : zz n < 128 ^ 9 := by
  unfold zz; unfold maxInt at *
  split <;> omega
theorem unzz_le (z : Nat) (h : z < 128 ^ 9) : unzz z ≤ maxInt := by
  unfold unzz; unfold maxInt
  split <;> omega

/-- the groups of seven bits, with the mark of the last one -/
def grp : Nat → Nat → List (Nat × Bool)
  | 0, _ => []
  | f + 1, z => if z < 128 then [(z, true)] else (z % 128, false) :: grp f (z / 128)

def byteOf (g : Nat × Bool) : Nat := if g.2 then g.1 else g.1 + 128

def leb : Nat → Nat → List UInt8
  | 0, _ => []
  | f + 1, z => if z < 128 then [UInt8.ofNat z] else UInt8.ofNat (z % 128 + 128) :: leb f (z / 128)

theorem leb_grp (f z : Nat) : ((grp f z).map byteOf).map UInt8.ofNat = leb f z := by
  induction f generalizing z with
  | zero => rfl
  | succ f ih => unfold grp leb; split <;> simp [byteOf, ← ih]

theorem grp_lt (f z : Nat) : ∀ g ∈ grp f z, g.1 < 128 := by
  induction f generalizing z with
  | zero => simp [grp]
  | succ f ih =>
    unfold grp
    split
    · intro g hg; simp at hg; subst hg; assumption
    · intro g hg
      simp at hg
      rcases hg with rfl | hg
      · exact Nat.mod_lt _ (by omega)
      · exact ih _ g hg

def enc (n : Int) : List UInt8 := leb 9 (zz n)

/-- decoding: f bytes may still be read, i have been read, z is what they say -/
def dec : Nat → Nat → Nat → List UInt8 → Option (Int × Nat)
  | 0, _, _, _ => none
  | _ + 1, _, _, [] => none
  | f + 1, i, z, b :: l =>
    if 128 ≤ b.toNat then dec f (i + 1) (z + b.toNat % 128 * 128 ^ i) l
    else if b.toNat = 0 ∧ 0 < i then none
    else if unzz (z + b.toNat % 128 * 128 ^ i) < -maxInt then none
    else some (unzz (z + b.toNat % 128 * 128 ^ i), i + 1)

/-- the same without the test of the range -/
def raw : Nat → Nat → Nat → List UInt8 → Option (Nat × Nat)
  | 0, _, _, _ => none
  | _ + 1, _, _, [] => none
  | f + 1, i, z, b :: l =>
    if 128 ≤ b.toNat then raw f (i + 1) (z + b.toNat % 128 * 128 ^ i) l
    else if b.toNat = 0 ∧ 0 < i then none
    else some (z + b.toNat % 128 * 128 ^ i, i + 1)

theorem dec_raw (f i z : Nat) (l : List UInt8) : dec f i z l = (raw f i z l).bind fun p => if unzz p.1 < -maxInt then none else some (unzz p.1, p.2) := by
  induction f generalizing i z l with
  | zero => rfl
  | succ f ih =>
    cases l with
    | nil => rfl
    | cons b l =>
      unfold dec raw
      split
      · exact ih _ _ _
      · split
        · rfl
        · rfl

theorem ofNat_toNat {n : Nat} (h : n < 256) : (UInt8.ofNat n).toNat = n := by simp [UInt8.toNat_ofNat']; omega

theorem raw_leb (f i z v : Nat) (t : List UInt8) (hv : v < 128 ^ (f + 1)) (hi : 0 < i → 0 < v) :
    raw (f + 1) i z (leb (f + 1) v ++ t) = some (z + v * 128 ^ i, i + (leb (f + 1) v).length) := by
  induction f generalizing i z v with
  | zero =>
    have h : v < 128 := by simpa using hv
    simp only [leb, if_pos h, List.cons_append, List.nil_append, raw, ofNat_toNat (show v < 256 by omega)]
    rw [if_neg (by omega), if_neg (by omega), Nat.mod_eq_of_lt h]
    rfl
  | succ f ih =>
    by_cases h : v < 128
    · unfold leb raw
      simp only [if_pos h, List.cons_append, List.nil_append, ofNat_toNat (show v < 256 by omega)]
      rw [if_neg (by omega), if_neg (by omega), Nat.mod_eq_of_lt h]
      rfl
    · rw [leb, if_neg h, raw.eq_def]
      simp only [List.cons_append, ofNat_toNat (show v % 128 + 128 < 256 by omega)]
      rw [if_pos (by omega), ih (i + 1) _ (v / 128) (by rw [Nat.pow_succ] at hv; omega) (by omega)]
      have e1 : (v % 128 + 128) % 128 = v % 128 := by omega
      have e2 : v / 128 * 128 ^ (i + 1) = v / 128 * 128 * 128 ^ i := by rw [Nat.pow_succ, Nat.mul_assoc, Nat.mul_comm 128 (128 ^ i)]
      have e3 : v % 128 * 128 ^ i + v / 128 * 128 * 128 ^ i = v * 128 ^ i := by rw [← Nat.add_mul]; congr 1; omega
      rw [e1, e2]
      simp only [List.length_cons, Option.some.injEq, Prod.mk.injEq]
      constructor <;> omega

theorem raw_some (f i z : Nat) (l : List UInt8) (r : Nat × Nat) (h : raw f i z l = some r) :
    ∃ v, r.1 = z + v * 128 ^ i ∧ v < 128 ^ f ∧ r.2 = i + (leb f v).length ∧ leb f v <+: l ∧ (0 < i → 0 < v) := by
  induction f generalizing i z l with
  | zero => simp [raw] at h
  | succ f ih =>
    cases l with
    | nil => simp [raw] at h
    | cons b l =>
      unfold raw at h
      have hb := b.toNat_lt
      split at h
      · rename_i hb1
        obtain ⟨v, h1, h2, h3, h4, h5⟩ := ih _ _ _ h
        have h5 := h5 (by omega)
        have e2 : v * 128 ^ (i + 1) = v * 128 * 128 ^ i := by rw [Nat.pow_succ, Nat.mul_assoc, Nat.mul_comm 128 (128 ^ i)]
        have hl : leb (f + 1) (b.toNat % 128 + v * 128) = b :: leb f v := by
          rw [leb, if_neg (by omega), show (b.toNat % 128 + v * 128) % 128 + 128 = b.toNat by omega, show (b.toNat % 128 + v * 128) / 128 = v by omega]
          simp
        refine ⟨b.toNat % 128 + v * 128, ?_, ?_, ?_, ?_, fun _ => by omega⟩
        · rw [h1, e2, Nat.add_mul]; omega
        · rw [Nat.pow_succ]; omega
        · rw [h3, hl]; simp; omega
        · rw [hl]; simpa using h4
      · rename_i hb1
        split at h
        · cases h
        · rename_i hb2
          simp only [Option.some.injEq] at h
          have hm : b.toNat % 128 = b.toNat := by omega
          have hl : leb (f + 1) b.toNat = [b] := by rw [leb, if_pos (by omega)]; simp
          refine ⟨b.toNat, ?_, ?_, ?_, ?_, fun _ => by omega⟩
          · rw [← h, hm]
          · rw [Nat.pow_succ]; have : 0 < 128 ^ f := Nat.pow_pos (by omega); omega
          · rw [← h, hl]; rfl
          · rw [hl]; simp

theorem dec_iff (l : List UInt8) (n : Int) (k : Nat) : dec 9 0 0 l = some (n, k) ↔ (-maxInt ≤ n ∧ n ≤ maxInt ∧ enc n <+: l ∧ k = (enc n).length) := by
  rw [dec_raw]
  constructor
  · intro h
    cases hr : raw 9 0 0 l with
    | none => rw [hr] at h; cases h
    | some r =>
      rw [hr] at h
      obtain ⟨v, h1, h2, h3, h4, _⟩ := raw_some _ _ _ _ _ hr
      have hv : r.1 = v := by simpa using h1
      simp only [Option.bind_some] at h
      split at h
      · cases h
      · rename_i hlo
        simp only [Option.some.injEq, Prod.mk.injEq] at h
        obtain ⟨rfl, rfl⟩ := h
        rw [hv] at hlo ⊢
        refine ⟨by omega, unzz_le _ h2, ?_, ?_⟩
        · unfold enc; rw [zz_unzz]; exact h4
        · unfold enc; rw [zz_unzz, h3]; omega
  · rintro ⟨h1, h2, ⟨t, ht⟩, rfl⟩
    rw [← ht, show enc n = leb (8 + 1) (zz n) from rfl, show (9 : Nat) = 8 + 1 from rfl, raw_leb 8 0 0 _ t (zz_lt n h1 h2) (by omega)]
    simp [unzz_zz, if_neg (show ¬ n < -maxInt by omega)]

theorem enc_pos (n : Int) : 0 < (enc n).length := by unfold enc leb; split <;> simp

theorem enc_inj_of_prefix {l : List UInt8} {n m : Int} (h1 : -maxInt ≤ n) (h2 : n ≤ maxInt) (h3 : -maxInt ≤ m) (h4 : m ≤ maxInt) (hn : enc n <+: l) (hm : enc m <+: l) : n = m := by
  have a := (dec_iff l n _).2 ⟨h1, h2, hn, rfl⟩
  have b := (dec_iff l m _).2 ⟨h3, h4, hm, rfl⟩
  rw [a] at b
  simpa using congrArg (fun o => (o.getD (0, 0)).1) b

theorem leb_length (f v : Nat) : (leb f v).length ≤ f := by
  induction f generalizing v with
  | zero => simp [leb]
  | succ f ih => unfold leb; split
                 · simp
                 · have := ih (v / 128); simp; omega
theorem enc_length (n : Int) : (enc n).length ≤ 9 := leb_length 9 _

/-- PutInt -/
def putInt (n : Int) : List UInt8 × Int := if n < -maxInt ∨ maxInt < n then ([], 10) else (enc n, 0)

/-- Int at an offset -/
def intAt (l : List UInt8) (k : Int) : Int × Int × Int :=
  if k < 0 ∨ (l.length : Int) < k then (0, 0, 2)
  else match dec 9 0 0 (l.drop k.toNat) with
    | none => (0, 0, 10)
    | some (n, j) => (n, k + j, 0)

/-- PutString -/
def putStr (l : List UInt8) : List UInt8 × Int := if 65536 < l.length then ([], 10) else (enc l.length ++ l, 0)

/-- String at an offset -/
def strAt (l : List UInt8) (k : Int) : List UInt8 × Int × Int :=
  match intAt l k with
  | (n, next, e) =>
    if e ≠ 0 then ([], 0, e)
    else if n < 0 ∨ 65536 < n ∨ (l.length : Int) - next < n then ([], 0, 10)
    else ((l.drop next.toNat).take n.toNat, next + n, 0)

end Go.Dial.Wire
