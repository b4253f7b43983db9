/-
  life: isIn, Valid, Formed, isUsed; the reference's in, Valid, named, Formed, used, First.
-/
import Derived.Test.YtjhakonpnopcnaaProg
import Derived.Test.YtjhakonpnopcnaaRows2
import Derived.Test.YtjhakonpnopcnaaLifS
set_option linter.unusedVariables false
set_option linter.unusedSimpArgs false
namespace Go.Proofs.Ytjhakonpnopcnaa
open Go Go.RowKit Go.Dial Go.Dial.Lif

def lnA (l : Ln) : Value := .agg #[.int .i64 l.s, .int .i64 l.h, .int .i64 l.e, .int .i64 l.t]
def evA (e : Ev) : Value := .agg #[.int .i64 e.k, .int .i64 e.a, .int .i64 e.h]
def evc (e : Ev) : List Value := [.int .i64 e.k, .int .i64 e.a, .int .i64 e.h]
theorem evc_len (e : Ev) : (evc e).length = 3 := rfl
def inB (n lo hi : Int) : Bool := decide (lo ≤ n) && decide (n ≤ hi)
theorem inB_iff {n lo hi : Int} : inB n lo hi = true ↔ lo ≤ n ∧ n ≤ hi := by simp [inB]
theorem inB_no {n lo hi : Int} : inB n lo hi = false ↔ ¬ (lo ≤ n ∧ n ≤ hi) := by rw [← inB_iff]; simp
theorem ret_bool {a b : Bool} (h : a = b) : Ending.returned (.bool a) = .returned (.bool b) := by rw [h]

theorem lisIn_any (n lo hi : Int) (w : World) : Calls Try.prog 38 #[.int .i64 n, .int .i64 lo, .int .i64 hi] w fun e w' => e = .returned (.bool (inB n lo hi)) ∧ w = w' := by
  have hv := Lib.hid (show inB n lo hi = (decide (lo ≤ n) && decide (n ≤ hi)) from rfl)
  by_cases h1 : lo ≤ n
  · go_enter Try.func38, Try.ntmps38
    go_wp2_with fail
    go_ret
    exact ⟨ret_bool (by rw [hv.out]; simp [h1]), rfl⟩
  · go_enter Try.func38, Try.ntmps38
    go_wp2_with fail
    go_ret
    exact ⟨ret_bool (by rw [hv.out]; simp; omega), rfl⟩
theorem rin_any (n lo hi : Int) (w : World) : Calls Try.prog 39 #[.int .i64 n, .int .i64 lo, .int .i64 hi] w fun e w' => e = .returned (.bool (inB n lo hi)) ∧ w = w' := by
  have hv := Lib.hid (show inB n lo hi = (decide (lo ≤ n) && decide (n ≤ hi)) from rfl)
  by_cases h1 : lo ≤ n
  · go_enter Try.func39, Try.ntmps39
    go_wp2_with fail
    go_ret
    exact ⟨ret_bool (by rw [hv.out]; simp [h1]), rfl⟩
  · go_enter Try.func39, Try.ntmps39
    go_wp2_with fail
    go_ret
    exact ⟨ret_bool (by rw [hv.out]; simp; omega), rfl⟩

theorem lvalid_any (l : Ln) (w : World) : Calls Try.prog 13 #[lnA l] w fun e w' => e = .returned (.bool (vldB l)) ∧ Below w.heap.size w w' := by
  unfold lnA
  go_enter Try.func13, Try.ntmps13
  go_wp2_with (go_at_call 38; refine (lisIn_any _ _ _ _).mono ?_; rintro e w1 ⟨rfl, rfl⟩)
  all_goals go_ret
  all_goals refine ⟨ret_bool ?_, below_new _ _⟩
  all_goals (rw [Bool.eq_iff_iff, vldB_iff]; simp [Vld, inB] at * <;> omega)
theorem rvalid_any (l : Ln) (w : World) : Calls Try.prog 14 #[lnA l] w fun e w' => e = .returned (.bool (vldB l)) ∧ Below w.heap.size w w' := by
  unfold lnA
  go_enter Try.func14, Try.ntmps14
  go_wp2_with (go_at_call 39; refine (rin_any _ _ _ _).mono ?_; rintro e w1 ⟨rfl, rfl⟩)
  all_goals go_ret
  all_goals refine ⟨ret_bool ?_, below_new _ _⟩
  all_goals (rw [Bool.eq_iff_iff, vldB_iff]; simp [Vld, inB] at * <;> omega)
theorem lused_any (l : Ln) (w : World) : Calls Try.prog 34 #[lnA l] w fun e w' => e = .returned (.bool (usedB l)) ∧ Below w.heap.size w w' := by
  unfold lnA
  go_enter Try.func34, Try.ntmps34
  go_wp2_with fail
  all_goals go_ret
  all_goals refine ⟨ret_bool ?_, below_new _ _⟩
  all_goals (rw [Bool.eq_iff_iff, usedB_iff]; simp [Used] at * <;> omega)
theorem rused_any (l : Ln) (w : World) : Calls Try.prog 37 #[lnA l] w fun e w' => e = .returned (.bool (usedB l)) ∧ Below w.heap.size w w' := by
  unfold lnA
  go_enter Try.func37, Try.ntmps37
  go_wp2_with fail
  all_goals go_ret
  all_goals refine ⟨ret_bool ?_, below_new _ _⟩
  all_goals (rw [Bool.eq_iff_iff, usedB_iff]; simp [Used] at * <;> omega)
theorem rnamed_any (k : Int) (w : World) : Calls Try.prog 43 #[.int .i64 k] w fun e w' => e = .returned (.bool (decide (Named k))) ∧ w = w' := by
  go_enter Try.func43, Try.ntmps43
  go_wp2_with fail
  all_goals go_ret
  all_goals refine ⟨ret_bool ?_, rfl⟩
  all_goals (rw [Bool.eq_iff_iff, decide_eq_true_iff]; simp [Named] at * <;> omega)
theorem rformed_any (e : Ev) (w : World) : Calls Try.prog 26 #[evA e] w fun x w' => x = .returned (.bool (frmB e)) ∧ Below w.heap.size w w' := by
  unfold evA
  go_enter Try.func26, Try.ntmps26
  go_wp2_with (first
    | (go_at_call 39; refine (rin_any _ _ _ _).mono ?_; rintro e w1 ⟨rfl, rfl⟩)
    | (go_at_call 43; refine (rnamed_any _ _).mono ?_; rintro e w1 ⟨rfl, rfl⟩))
  all_goals go_ret
  all_goals refine ⟨ret_bool ?_, below_new _ _⟩
  all_goals (rw [Bool.eq_iff_iff, frmB_iff]; simp [Frm, inB, Named] at * <;> omega)
theorem rfirst_any (w : World) : Calls Try.prog 30 #[] w fun e w' => e = .returned (lnA first) ∧ Below w.heap.size w w' := by
  go_enter Try.func30, Try.ntmps30
  go_wp2_with fail
  exact bodyPost_ret (v := lnA first) (by simp [results, Try.results30, go_sem, lnA, first]) rfl ⟨rfl, below_new _ _⟩
end Go.Proofs.Ytjhakonpnopcnaa
