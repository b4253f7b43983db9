/-
  Sets of carriers as integers; lists of integers as rows.
-/
import Derived.Test.YtgckmifmjiklmaaMa
import Derived.Test.YtgckmifmjiklmaaMrgO
set_option linter.unusedVariables false
set_option linter.unusedSimpArgs false
set_option maxRecDepth 100000
namespace Go.Proofs.Ytgckmifmjiklmaa
open Go Go.Sx Go.Dial.Blk Go.Dial.Mrg
theorem bit_table : ∀ (j : Fin 8) (k : Fin 256), decide (IOp.f .and (IOp.f .shr (k.val : Int) (j.val : Int)) 1 = 1) = has (k.val : Int) (j.val : Int) ∧ decide (Int.tmod (IOp.f .shr (k.val : Int) (j.val : Int)) 2 = 1) = has (k.val : Int) (j.val : Int)
    ∧ IOp.f .or (k.val : Int) (IOp.f .shl 1 (j.val : Int)) = addS (k.val : Int) (j.val : Int) ∧ IOp.f .andNot (k.val : Int) (IOp.f .shl 1 (j.val : Int)) = delS (k.val : Int) (j.val : Int) := by
  decide +kernel
theorem bit_all {s c : Int} (h0 : 0 ≤ s) (h1 : s ≤ 255) (c0 : 0 ≤ c) (c1 : c ≤ 7) : decide (IOp.f .and (IOp.f .shr s c) 1 = 1) = has s c ∧ decide (Int.tmod (IOp.f .shr s c) 2 = 1) = has s c
    ∧ IOp.f .or s (IOp.f .shl 1 c) = addS s c ∧ IOp.f .andNot s (IOp.f .shl 1 c) = delS s c := by
  refine fin8 (fun c => decide (IOp.f .and (IOp.f .shr s c) 1 = 1) = has s c ∧ decide (Int.tmod (IOp.f .shr s c) 2 = 1) = has s c
    ∧ IOp.f .or s (IOp.f .shl 1 c) = addS s c ∧ IOp.f .andNot s (IOp.f .shl 1 c) = delS s c) (fun j => ?_) c c0 c1
  exact fin256 (fun s => decide (IOp.f .and (IOp.f .shr s (j.val : Int)) 1 = 1) = has s (j.val : Int) ∧ decide (Int.tmod (IOp.f .shr s (j.val : Int)) 2 = 1) = has s (j.val : Int)
    ∧ IOp.f .or s (IOp.f .shl 1 (j.val : Int)) = addS s (j.val : Int) ∧ IOp.f .andNot s (IOp.f .shl 1 (j.val : Int)) = delS s (j.val : Int)) (fun k => bit_table j k) s h0 h1
theorem shr_and {s c : Int} (h0 : 0 ≤ s) (h1 : s ≤ 255) (c0 : 0 ≤ c) (c1 : c ≤ 7) : decide (IOp.f .and (IOp.f .shr s c) 1 = 1) = has s c := (bit_all h0 h1 c0 c1).1
theorem shr_mod {s c : Int} (h0 : 0 ≤ s) (h1 : s ≤ 255) (c0 : 0 ≤ c) (c1 : c ≤ 7) : decide (Int.tmod (IOp.f .shr s c) 2 = 1) = has s c := (bit_all h0 h1 c0 c1).2.1
theorem or_shl {s c : Int} (h0 : 0 ≤ s) (h1 : s ≤ 255) (c0 : 0 ≤ c) (c1 : c ≤ 7) : IOp.f .or s (IOp.f .shl 1 c) = addS s c := (bit_all h0 h1 c0 c1).2.2.1
theorem andnot_shl {s c : Int} (h0 : 0 ≤ s) (h1 : s ≤ 255) (c0 : 0 ≤ c) (c1 : c ≤ 7) : IOp.f .andNot s (IOp.f .shl 1 c) = delS s c := (bit_all h0 h1 c0 c1).2.2.2
theorem and_nat {a b : Int} (a0 : 0 ≤ a) (a1 : a ≤ 9223372036854775807) (b0 : 0 ≤ b) (b1 : b ≤ 255) : IOp.f .and a b = ((a.toNat &&& b.toNat : Nat) : Int) := by
  have ha : BitVec.ofInt 64 a = BitVec.ofNat 64 a.toNat := by
    rw [← BitVec.ofInt_natCast, Int.toNat_of_nonneg a0]
  have hb : BitVec.ofInt 64 b = BitVec.ofNat 64 b.toNat := by
    rw [← BitVec.ofInt_natCast, Int.toNat_of_nonneg b0]
  have hle : a.toNat &&& b.toNat ≤ b.toNat := Nat.and_le_right
  show IntKind.i64.wrap ((BitVec.ofInt 64 a &&& BitVec.ofInt 64 b).toNat : Int) = _
  rw [ha, hb, BitVec.toNat_and, BitVec.toNat_ofNat, BitVec.toNat_ofNat, Nat.mod_eq_of_lt (by omega), Nat.mod_eq_of_lt (by omega)]
  generalize a.toNat &&& b.toNat = x at hle
  have hx : x ≤ 255 := by omega
  have : ((x : Int)) % 18446744073709551616 = (x : Int) := by omega
  have hd : decide ((x : Int) ≥ 9223372036854775808) = false := by rw [decide_eq_false_iff_not]; omega
  show (if (true && decide ((x : Int) % 18446744073709551616 ≥ 9223372036854775808)) = true then (x : Int) % 18446744073709551616 - 18446744073709551616 else (x : Int) % 18446744073709551616) = _
  rw [this, hd]; rfl
theorem and_sub {a b : Int} (a0 : 0 ≤ a) (a1 : a ≤ 9223372036854775807) (b0 : 0 ≤ b) (b1 : b ≤ 255) : IOp.f .and a b = a ↔ subS a b := by
  rw [and_nat a0 a1 b0 b1]
  unfold subS
  omega
theorem gcell {l : List Int} (hl : l.length = 8) {c : Int} (c0 : 0 ≤ c) (c1 : c ≤ 7) : cI (iL l) c 0 = g l c := by
  obtain ⟨x, hx⟩ := get_lt (l := l) (i := c.toNat) (by omega)
  have := icell hx
  rw [Int.toNat_of_nonneg c0] at this
  rw [this]
  unfold g
  rw [List.getD_eq_getElem?_getD, hx]; rfl
theorem imod (l : List Int) (i : Nat) (v : Int) : List.modify (iL l) i (fun r => r.set 0 (AV.int v)) = iL (l.set i v) := by
  induction l generalizing i with
  | nil => cases i <;> rfl
  | cons x l ih =>
    cases i with
    | zero => rfl
    | succ i =>
      show iR x :: List.modify (iL l) i _ = iR x :: iL (l.set i v)
      rw [ih]
theorem iapp (l : List Int) (x : Int) : iL (l ++ [x]) = iL l ++ [[AV.int x]] := List.map_append
theorem ilen (l : List Int) : (iL l).length = l.length := by simp
theorem inR {x : Int} (h0 : -9223372036854775808 ≤ x) (h1 : x ≤ 9223372036854775807) : ((decide ((-9223372036854775808) ≤ x)) && (decide (x ≤ 9223372036854775807))) = true := by
  rw [decide_eq_true h0, decide_eq_true h1]; rfl
noncomputable instance (w : Wd) : Decidable (WV w) := Classical.propDecidable _
noncomputable def vB (w : Wd) : Bool := decide (WV w)
theorem vB_true {w : Wd} (h : WV w) : vB w = true := by unfold vB; exact decide_eq_true h
theorem vB_false {w : Wd} (h : ¬ WV w) : vB w = false := by unfold vB; exact decide_eq_false h
theorem vB_iff {w : Wd} : vB w = true ↔ WV w := by unfold vB; exact decide_eq_true_iff
end Go.Proofs.Ytgckmifmjiklmaa
