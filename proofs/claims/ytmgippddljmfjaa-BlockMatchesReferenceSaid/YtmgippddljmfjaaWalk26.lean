/-
  The laws' differs.
-/
import Derived.Test.YtmgippddljmfjaaWalk25
namespace Go.Proofs.Ytmgippddljmfjaa
open Go Go.RowKit Go.Dial Go.Dial.Blk

def anyIn (l : List B3) (n : Int) : Bool := l.any fun b => inR b.f b.t n
theorem anyIn_iff {l : List B3} {e k : Int} (h : Asc e k l) (n : Int) : anyIn l n = decide (hold l n ≠ -1) := by
  induction l generalizing e k with
  | nil => simp [anyIn, hold]
  | cons b l ih =>
    obtain ⟨h1, h2, h3, h4, h5, h6, h7, h8⟩ := h
    have ih := ih h8
    by_cases hb : b.f ≤ n ∧ n < b.t
    · have e1 : inR b.f b.t n = true := by simp [inR, hb]
      rw [hold_in l hb]
      simp only [anyIn, List.any_cons, e1, Bool.true_or]
      symm; rw [decide_eq_true_iff]; omega
    · have e1 : inR b.f b.t n = false := by simp [inR]; omega
      rw [hold_out l hb, ← ih]
      simp only [anyIn, List.any_cons, e1, Bool.false_or]
set_option maxHeartbeats 800000 in
theorem differs_any (v : Value) (l : List B3) (n : Int) (w : World) (hv : HoldsR w w.heap.size v l) : Calls Try.prog 28 #[v, .int .i64 n] w fun e w' => e = .returned (.bool (anyIn l n)) ∧ Below w.heap.size w w' := by
  obtain ⟨A, c, rfl, h0, h1, h2⟩ := hv
  have SP := Lib.hid h2
  clear h2
  unfold maxLen at h1
  go_enter Try.func28, Try.ntmps28
  go_wp2_with fail
  go_loopw [5] (fun i wr => ∃ j : Nat, j ≤ l.length ∧ i = .int .i64 j ∧ anyIn l n = anyIn (l.drop j) n ∧ Below w.heap.size w wr) (fun i _ => l.length - (intOf i).toNat)
  case atStart => exact ⟨0, by omega, rfl, rfl, Below.refl _ _⟩
  case round =>
    obtain ⟨j, hj, rfl, hq, hb⟩ := hrel
    by_cases hjn : j < l.length
    · obtain ⟨x, hx⟩ : ∃ x, x = l[j] := ⟨_, rfl⟩
      rw [List.drop_eq_getElem_cons hjn, ← hx] at hq
      obtain ⟨ad, e0, _, x0, x1⟩ := span_rng (SP.out.below hb (Nat.le_refl _)) (List.getElem?_eq_getElem hjn)
      subst e0
      rw [← hx] at x0 x1
      clear hx
      cases hi : inR x.f x.t n
      · have HQ : Hid (anyIn l n = anyIn (l.drop (j + 1)) n) := Lib.hid (by rw [hq]; simp only [anyIn, List.any_cons, hi, Bool.false_or])
        have HI := Lib.hid hi
        clear hq hi
        go_wp2_with (go_at_call 25; refine (in_any x.f x.t n _).mono ?_; rintro e w1 ⟨rfl, hb1⟩; rw [HI.out])
        exact ⟨⟨j + 1, by omega, by go_num, HQ.out, hb.trans (hb1.mono hb.size)⟩, by simp [intOf]; omega⟩
      · have HQ : Hid (anyIn l n = true) := Lib.hid (by rw [hq]; simp only [anyIn, List.any_cons, hi, Bool.true_or])
        have HI := Lib.hid hi
        clear hq hi
        go_wp2_with (go_at_call 25; refine (in_any x.f x.t n _).mono ?_; rintro e w1 ⟨rfl, hb1⟩; rw [HI.out])
        go_ret
        exact ⟨by rw [HQ.out]; rfl, hb.trans (hb1.mono hb.size)⟩
    · have HQ : Hid (anyIn l n = false) := Lib.hid (by rw [hq, List.drop_of_length_le (by omega)]; rfl)
      clear hq
      go_wp2_with fail
      go_ret
      exact ⟨by rw [HQ.out]; rfl, hb⟩
end Go.Proofs.Ytmgippddljmfjaa
