/-
  dialtoneref13: Free, pick, Piece.
-/
import Derived.Test.YtmgippddljmfjaaWalk16
namespace Go.Proofs.Ytmgippddljmfjaa
open Go Go.RowKit Go.Dial Go.Dial.Blk

def freeN (l : List B3) (n : Int) : Int := l.foldl (fun n b => if b.f ≤ n ∧ n < b.t then b.t else n) n
/-- the least number from n on that nobody holds -/
def Least (H : Int → Int) (n m : Int) : Prop := n ≤ m ∧ H m = -1 ∧ ∀ k, n ≤ k → k < m → H k ≠ -1
theorem Least.uniq {H : Int → Int} {n m m' : Int} (h : Least H n m) (h' : Least H n m') : m = m' := by
  rcases Int.lt_trichotomy m m' with h1 | h1 | h1
  · exact absurd h.2.1 (h'.2.2 m h.1 h1)
  · exact h1
  · exact absurd h'.2.1 (h.2.2 m' h'.1 h1)
theorem freeN_least {l : List B3} {e k : Int} (h : Asc e k l) (n : Int) : Least (hold l) n (freeN l n) ∧ (n ≤ 100000000 → freeN l n ≤ 100000000) := by
  induction l generalizing e k n with
  | nil => exact ⟨⟨Int.le_refl _, rfl, fun k h1 h2 => by simp [freeN] at h2; omega⟩, fun h => h⟩
  | cons b l ih =>
    obtain ⟨h1, h2, h3, h4, h5, h6, h7, h8⟩ := h
    by_cases hb : b.f ≤ n ∧ n < b.t
    · have e : freeN (b :: l) n = freeN l b.t := by simp [freeN, hb]
      obtain ⟨⟨i1, i2, i3⟩, i4⟩ := ih h8 b.t
      rw [e]
      refine ⟨⟨by omega, by rw [hold_out l (by omega)]; exact i2, fun k hk1 hk2 => ?_⟩, fun _ => i4 h3⟩
      by_cases hkb : k < b.t
      · rw [hold_in l (by omega)]; omega
      · rw [hold_out l (by omega)]; exact i3 k (by omega) hk2
    · have e : freeN (b :: l) n = freeN l n := by
        simp only [freeN, List.foldl_cons]; rw [if_neg hb]
      obtain ⟨⟨i1, i2, i3⟩, i4⟩ := ih h8 n
      rw [e]
      by_cases hlt : n < b.f
      · have hm : freeN l n = n := by
          rcases Int.lt_or_le n (freeN l n) with h | h
          · exact absurd (hold_lt h8 (by omega)) (i3 n (Int.le_refl _) h)
          · omega
        rw [hm]
        exact ⟨⟨Int.le_refl _, by rw [hold_out l (by omega), hold_lt h8 (by omega)], fun k _ _ => by omega⟩, fun h => h⟩
      · exact ⟨⟨i1, by rw [hold_out l (by omega)]; exact i2, fun k hk1 hk2 => by rw [hold_out l (by omega)]; exact i3 k hk1 hk2⟩, i4⟩
theorem free_pieces (H : Int → Int) (n : Int) (hn : n < 100000000) {a : List B3} (ha : Some a) {s : Int} (hs : s ≤ 100000000) (hH : ∀ m, s ≤ m → hold a m = H m) (hl : ∀ k, n ≤ k → k < s → H k ≠ -1) :
    match (pieces a [] s).find? (freeP n) with
    | some p => Least H n (max n p.1) ∧ max n p.1 < 100000000
    | none => ∀ k, n ≤ k → k < 100000000 → H k ≠ -1 := by
  obtain ⟨d, hd⟩ : ∃ d, d = (100000000 - s).toNat := ⟨_, rfl⟩
  induction d using Nat.strongRecOn generalizing a s with
  | _ d ih =>
    by_cases h : s < 100000000
    · rw [pieces_cons a [] h]
      obtain ⟨s1, e1, e2, e3, x0, x7⟩ := at_spec ha s
      have g1 := at_gt a h
      have eb : at_ [] s = ([], -1, 100000000) := rfl
      simp only [eb]
      obtain ⟨t, ht⟩ : ∃ t, t = min (at_ a s).2.2 100000000 := ⟨_, rfl⟩
      rw [← ht]
      by_cases hp : (at_ a s).2.1 = -1 ∧ n < t
      · rw [List.find?_cons_of_pos (by simp [freeP, hp.1, hp.2])]
        simp only
        refine ⟨⟨by omega, ?_, fun k h1 h2 => ?_⟩, by omega⟩
        · rw [← hH _ (by omega), e2 _ (by omega) (by omega), hp.1]
        · exact hl k h1 (by omega)
      · rw [List.find?_cons_of_neg (by simp only [freeP, Bool.and_eq_true, decide_eq_true_eq]; exact hp)]
        refine ih ((100000000 - t).toNat) (by omega) s1 (by omega) (fun m hm => by rw [e3 m (by omega)]; exact hH m (by omega)) (fun k h1 h2 => ?_) rfl
        by_cases hks : k < s
        · exact hl k h1 hks
        · rw [← hH k (by omega), e2 k (by omega) (by omega)]
          intro hx; exact hp ⟨hx, by omega⟩
    · rw [pieces_end a [] h]
      simp only [List.find?_nil]
      intro k h1 h2
      exact hl k h1 (by omega)
theorem freeV_eq {bs : List B3} {n : Int} (hv : validB bs = true) (h0 : 0 ≤ n) (hn : n ≤ 99999999) : freeV bs n = if freeN bs n ≤ 99999999 then (freeN bs n, true) else (0, false) := by
  rw [freeV, if_pos ⟨hv, h0, hn⟩]
  have hc := (validB_iff.1 hv).2
  have hf := freeN_least hc n
  have hp := free_pieces (hold bs) n (by omega) hc.some (s := 0) (by omega) (fun _ _ => rfl) (fun k h1 h2 => by omega)
  cases hh : (pieces bs [] 0).find? (freeP n) with
  | some p =>
    rw [hh] at hp
    have := hp.1.uniq hf.1
    simp only
    rw [← this, if_pos (by omega)]
  | none =>
    rw [hh] at hp
    simp only
    rw [if_neg]
    intro hle
    exact hp (freeN bs n) hf.1.1 (by omega) hf.1.2.1
theorem freeN_take {l : List B3} {n : Int} {j : Nat} (hj : j < l.length) : freeN (l.take (j + 1)) n = if l[j].f ≤ freeN (l.take j) n ∧ freeN (l.take j) n < l[j].t then l[j].t else freeN (l.take j) n := by
  rw [List.take_succ_eq_append_getElem hj, freeN, List.foldl_append]; rfl
set_option maxHeartbeats 1600000 in
theorem rfree_any (v : Value) (bs : List B3) (n : Int) (w : World) (hv : HoldsB w w.heap.size v bs) :
    Calls Try.prog 46 #[v, .int .i64 n] w fun e w' => e = .returned (.tuple #[.int .i64 (freeV bs n).1, .bool (freeV bs n).2]) ∧ Below w.heap.size w w' := by
  by_cases t0 : validB bs = true
  · rcases Int.lt_or_le n 0 with hn | hn
    · have HV := Lib.hid (show freeV bs n = (0, false) from if_neg (fun h => by omega))
      go_enter Try.func46, Try.ntmps46
      go_wp2_with fail
      refine (rvalidH_any v bs _ hv).mono ?_
      rintro e w1 ⟨rfl, HB⟩
      rw [t0]
      go_wp2_with fail
      go_ret2
      exact ⟨by rw [HV.out]; rfl, HB⟩
    · rcases Int.lt_or_le 99999999 n with hn2 | hn2
      · have HV := Lib.hid (show freeV bs n = (0, false) from if_neg (fun h => by omega))
        go_enter Try.func46, Try.ntmps46
        go_wp2_with fail
        refine (rvalidH_any v bs _ hv).mono ?_
        rintro e w1 ⟨rfl, HB⟩
        rw [t0]
        go_wp2_with fail
        go_ret2
        exact ⟨by rw [HV.out]; rfl, HB⟩
      · have HV := Lib.hid (freeV_eq t0 hn hn2)
        have HC := Lib.hid (validB_iff.1 t0).2
        have hl40 := (validB_iff.1 t0).1
        go_enter Try.func46, Try.ntmps46
        go_wp2_with fail
        refine (rvalidH_any v bs _ hv).mono ?_
        rintro e w1 ⟨rfl, HB⟩
        rw [t0]
        have hv1 := hv.later HB
        obtain ⟨A, c, rfl, h0, h1, h2⟩ := hv1
        have SP := Lib.hid h2
        clear hv h2 t0
        unfold maxLen at h1
        go_wp2_with fail
        go_loopw [1, 6] (fun m i wr => ∃ (j : Nat) (q : Int), j ≤ bs.length ∧ i = .int .i64 j ∧ m = .int .i64 q ∧ freeN (bs.take j) n = q ∧ wr = w1) (fun _ i _ => bs.length - (intOf i).toNat)
        case atStart => exact ⟨0, n, by omega, rfl, rfl, rfl, rfl⟩
        case round =>
          obtain ⟨j, q, hj, rfl, rfl, hq, rfl⟩ := hrel
          by_cases hjn : j < bs.length
          · have hft := freeN_take (n := n) hjn
            obtain ⟨x, hx⟩ : ∃ x, x = bs[j] := ⟨_, rfl⟩
            rw [← hx, hq] at hft
            obtain ⟨ad, e0, _, x0, x1, x2⟩ := span_blk SP.out (List.getElem?_eq_getElem hjn)
            subst e0
            rw [← hx] at x0 x1
            clear hx x2 hq
            by_cases hin : x.f ≤ q ∧ q < x.t
            · rw [if_pos hin] at hft
              obtain ⟨hi1, hi2⟩ := hin
              have HFT := Lib.hid hft
              clear hft
              go_wp2_with fail
              exact ⟨⟨j + 1, _, by omega, by go_num, rfl, HFT.out, by trivial⟩, by simp [intOf]; omega⟩
            · rw [if_neg hin] at hft
              have HFT := Lib.hid hft
              clear hft
              have hin2 : q < x.f ∨ (x.f ≤ q ∧ x.t ≤ q) := by omega
              clear hin
              rcases hin2 with hi | ⟨hi, hi2⟩
              all_goals
                go_wp2_with fail
                exact ⟨⟨j + 1, _, by omega, by go_num, rfl, HFT.out, by trivial⟩, by simp [intOf]; omega⟩
          · rw [List.take_of_length_le (by omega)] at hq
            rcases Int.lt_or_le 99999999 q with h | h
            · have HV2 : Hid (freeV bs n = (0, false)) := Lib.hid (by rw [HV.out, hq, if_neg (by omega)])
              clear hq
              go_wp2_with fail
              go_ret2
              exact ⟨by rw [HV2.out]; rfl, HB⟩
            · have HV2 : Hid (freeV bs n = (q, true)) := Lib.hid (by rw [HV.out, hq, if_pos h])
              clear hq
              go_wp2_with fail
              go_ret2
              exact ⟨by rw [HV2.out]; rfl, HB⟩
  · have u0 : validB bs = false := by simpa using t0
    have HV := Lib.hid (show freeV bs n = (0, false) from if_neg (fun h => t0 h.1))
    clear t0
    go_enter Try.func46, Try.ntmps46
    go_wp2_with fail
    refine (rvalidH_any v bs _ hv).mono ?_
    rintro e w1 ⟨rfl, HB⟩
    rw [u0]
    go_wp2_with fail
    go_ret2
    exact ⟨by rw [HV.out]; rfl, HB⟩
end Go.Proofs.Ytmgippddljmfjaa
