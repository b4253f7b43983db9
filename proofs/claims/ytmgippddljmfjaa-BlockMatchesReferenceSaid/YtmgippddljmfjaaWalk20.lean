/-
  The laws' small functions: one, finds, holder, in.
-/
import Derived.Test.YtmgippddljmfjaaWalk19
namespace Go.Proofs.Ytmgippddljmfjaa
open Go Go.RowKit Go.Dial Go.Dial.Blk

theorem mk1_any (f t c : Int) (w : World) : Calls Try.prog 33 #[.int .i64 f, .int .i64 t, .int .i64 c] w fun e w' => e = .returned (.agg #[.int .i64 f, .int .i64 t, .int .i64 c]) ∧ Below w.heap.size w w' := by
  go_enter Try.func33, Try.ntmps33
  go_wp2_with fail
  exact bodyPost_ret (v := .agg #[.int .i64 f, .int .i64 t, .int .i64 c]) (by simp [results, Try.results33, go_sem]) rfl ⟨rfl, below_al _ _⟩
theorem findH_any (v : Value) (bs : List B3) (n : Int) (w : World) (hv : HoldsB w w.heap.size v bs) : Calls Try.prog 38 #[v, .int .i64 n] w fun e w' => e = .returned (.tuple #[.int .i64 (findV bs n).1, .bool (findV bs n).2]) ∧ Below w.heap.size w w' := by
  obtain ⟨A, c, rfl, h1, h2, h3⟩ := hv
  exact find_any A c bs n w (Nat.le_trans h1 h2) h3
theorem finds_any (v : Value) (bs : List B3) (n want : Int) (w : World) (hv : HoldsB w w.heap.size v bs) (h : findV bs n = if 0 ≤ want then (want, true) else (0, false)) :
    Calls Try.prog 34 #[v, .int .i64 n, .int .i64 want] w fun e w' => e = .returned (.bool true) ∧ Below w.heap.size w w' := by
  by_cases hw : 0 ≤ want
  · rw [if_pos hw] at h
    have H := Lib.hid h
    clear h
    go_enter Try.func34, Try.ntmps34
    go_wp2_with fail
    refine (findH_any v bs n _ hv).mono ?_
    rintro e w1 ⟨rfl, hb⟩
    rw [H.out]
    go_wp2_with fail
    all_goals first
      | (go_ret; exact ⟨by simp <;> omega, hb⟩)
      | (exfalso; omega)
      | trace_state
  · rw [if_neg hw] at h
    have H := Lib.hid h
    clear h
    go_enter Try.func34, Try.ntmps34
    go_wp2_with fail
    refine (findH_any v bs n _ hv).mono ?_
    rintro e w1 ⟨rfl, hb⟩
    rw [H.out]
    go_wp2_with fail
    all_goals first
      | (go_ret; exact ⟨by simp <;> omega, hb⟩)
      | (exfalso; omega)
      | trace_state
theorem holder_any (v : Value) (bs : List B3) (n : Int) (w : World) (hv : HoldsB w w.heap.size v bs) (hval : validB bs = true) :
    Calls Try.prog 24 #[v, .int .i64 n] w fun e w' => e = .returned (.int .i64 (hold bs n)) ∧ Below w.heap.size w w' := by
  have hr := hold_range (validB_iff.1 hval).2 n
  by_cases hh : 0 ≤ hold bs n
  · have H := Lib.hid (show findV bs n = (hold bs n, true) by rw [findV, if_pos ⟨hval, hh⟩])
    go_enter Try.func24, Try.ntmps24
    go_wp2_with fail
    refine (findH_any v bs n _ hv).mono ?_
    rintro e w1 ⟨rfl, hb⟩
    rw [H.out]
    go_wp2_with fail
    go_ret
    exact ⟨rfl, hb⟩
  · have H := Lib.hid (show findV bs n = (0, false) by rw [findV, if_neg (fun h => hh h.2)])
    have H2 := Lib.hid (show hold bs n = -1 by omega)
    go_enter Try.func24, Try.ntmps24
    go_wp2_with fail
    refine (findH_any v bs n _ hv).mono ?_
    rintro e w1 ⟨rfl, hb⟩
    rw [H.out]
    go_wp2_with fail
    go_ret
    exact ⟨by rw [H2.out]; rfl, hb⟩
def inR (f t n : Int) : Bool := decide (f ≤ n) && decide (n < t)
theorem in_any (f t n : Int) (w : World) : Calls Try.prog 25 #[.agg #[.int .i64 f, .int .i64 t], .int .i64 n] w fun e w' => e = .returned (.bool (inR f t n)) ∧ Below w.heap.size w w' := by
  go_enter Try.func25, Try.ntmps25
  go_wp2_with fail
  all_goals go_ret
  all_goals (refine ⟨?_, below_al _ _⟩; simp [inR]; try omega)
theorem holds_lit (w : World) (l : List B3) (hl : l.length ≤ 1000) : HoldsB (w.alloc (.cells (bcs l).toArray 53)) (w.heap.size + 1) (.slice (some ⟨w.heap.size, 0, none⟩) l.length l.length) l :=
  ⟨_, _, rfl, Nat.le_refl _, by unfold maxLen; omega, bcs_len l, fun j u hu => ⟨_, rfl, Nat.lt_succ_self _, World.news_of_block (cs := (bcs l).toArray) (new_heap _ _) j u (by simpa using hu)⟩⟩
end Go.Proofs.Ytmgippddljmfjaa
