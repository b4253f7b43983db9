/-
  dialtoneref13: holder, Valid, Find.
-/
import Derived.Test.YtmgippddljmfjaaWalk3
namespace Go.Proofs.Ytmgippddljmfjaa
open Go Go.RowKit Go.Dial Go.Dial.Blk

theorem hold_drop {bs : List B3} {n : Int} {i : Nat} (hi : i < bs.length) : hold (bs.drop i) n = if bs[i].f ≤ n ∧ n < bs[i].t then bs[i].c else hold (bs.drop (i + 1)) n := by
  rw [List.drop_eq_getElem_cons hi, hold]

theorem rholder_any (A : Option Addr) (c : Nat) (bs : List B3) (n : Int) (w : World) (hlen : bs.length ≤ maxLen) (hS : Span w w.heap.size 3 A bs.length (bcs bs)) :
    Calls Try.prog 64 #[.slice A bs.length c, .int .i64 n] w fun e w' => e = .returned (.int .i64 (hold bs n)) ∧ w' = w := by
  unfold maxLen at hlen
  have HS := Lib.hid hS
  clear hS
  go_enter Try.func64, Try.ntmps64
  go_wp2_with fail
  go_loopw [5] (fun i wr => ∃ j : Nat, j ≤ bs.length ∧ i = .int .i64 j ∧ wr = w ∧ hold bs n = hold (bs.drop j) n) (fun i _ => bs.length - (intOf i).toNat)
  case atStart => exact ⟨0, by omega, rfl, rfl, rfl⟩
  case round =>
    obtain ⟨j, hj, rfl, rfl, hh⟩ := hrel
    by_cases hjn : j < bs.length
    · obtain ⟨a, rfl, hab, c0, c1, c2⟩ := span_blk HS.out (List.getElem?_eq_getElem hjn)
      rw [hold_drop hjn] at hh
      by_cases h1 : bs[j].f ≤ n ∧ n < bs[j].t
      · rw [if_pos h1] at hh
        obtain ⟨h1, h2⟩ := h1
        have HH := Lib.hid hh
        clear hh
        go_wp2_with fail
        go_ret
        exact ⟨by rw [HH.out]; rfl, rfl⟩
      · rw [if_neg h1] at hh
        have HH := Lib.hid hh
        clear hh
        go_wp2_with fail
        all_goals first
          | (exfalso; omega)
          | (go_roundw
             case rel => exact ⟨j + 1, by omega, by go_num, by trivial, HH.out⟩
             case measure => simp [intOf]; omega)
    · have HH : Hid (hold bs n = -1) := Lib.hid (by rw [hh, List.drop_of_length_le (by omega)]; rfl)
      clear hh
      go_wp2_with fail
      go_ret
      exact ⟨by rw [HH.out]; rfl, rfl⟩

theorem badAt_zero (bs : List B3) (b : B3) (h : bs[0]? = some b) : badAt bs 0 = !(rngB b.f b.t && carB b.c) := by
  have e : bs.getD 0 ⟨0, 0, -1⟩ = b := by simp [List.getD_eq_getElem?_getD, h]
  simp only [badAt, if_true, e]
  cases hr : rngB b.f b.t <;> cases hc : carB b.c <;> simp [badB, hr, hc]
  simp [rngB] at hr
  simp [carB] at hc
  omega
theorem badAt_succ (bs : List B3) (i : Nat) (x b : B3) (hx : bs[i]? = some x) (h : bs[i + 1]? = some b) : badAt bs (i + 1) = !(rngB b.f b.t && carB b.c && !decide (b.f < x.t) && !decide (b.f = x.t ∧ b.c = x.c)) := by
  have e : bs.getD (i + 1) ⟨0, 0, -1⟩ = b := by simp [List.getD_eq_getElem?_getD, h]
  have e2 : bs.getD i ⟨0, 0, -1⟩ = x := by simp [List.getD_eq_getElem?_getD, hx]
  rw [badAt, if_neg (by omega), Nat.add_sub_cancel, e, e2]; rfl

theorem below_dN {B : Nat} {a w : World} (h : Below B a w) (n : Nat) : Below B a (w.drewN n) := h.trans ⟨rfl, rfl, rfl, Nat.le_refl _, fun _ _ => rfl⟩
theorem validB_no {bs : List B3} {i : Nat} (hi : i < bs.length) (h : badAt bs i = true) : validB bs = false := by
  simp only [validB, Bool.and_eq_false_iff, List.all_eq_false]
  exact .inr ⟨i, by simpa using hi, by simp [h]⟩
theorem validB_yes {bs : List B3} (h : bs.length ≤ 40) (hg : ∀ i, i < bs.length → badAt bs i = false) : validB bs = true := by
  simp only [validB, Bool.and_eq_true, List.all_eq_true, decide_eq_true_eq]
  exact ⟨h, fun i hi => by simp [hg i (by simpa using hi)]⟩
theorem lt_one {P : Nat → Prop} (h : P 0) (m : Nat) (hm : m < 1) : P m := by
  have : m = 0 := by omega
  rw [this]; exact h
theorem lt_more {P : Nat → Prop} {j : Nat} (h : ∀ m, m < j → P m) (hj : P j) (m : Nat) (hm : m < j + 1) : P m := by
  rcases Nat.lt_succ_iff_lt_or_eq.1 hm with h1 | h1
  · exact h m h1
  · rw [h1]; exact hj
theorem rvalid_any (A : Option Addr) (c : Nat) (bs : List B3) (w : World) (hlen : bs.length ≤ maxLen) (hS : Span w w.heap.size 3 A bs.length (bcs bs)) :
    Calls Try.prog 41 #[.slice A bs.length c] w fun e w' => e = .returned (.bool (validB bs)) ∧ Below w.heap.size w w' := by
  have HS := Lib.hid hS
  clear hS
  by_cases h40 : bs.length ≤ 40
  · go_enter Try.func41, Try.ntmps41
    go_wp2_with fail
    go_loopw [3] (fun i wr => ∃ j : Nat, j ≤ bs.length ∧ i = .int .i64 j ∧ Below w.heap.size w wr ∧ ∀ m, m < j → badAt bs m = false) (fun i _ => bs.length - (intOf i).toNat)
    case atStart => exact ⟨0, by omega, rfl, Below.refl _ _, fun _ h => by omega⟩
    case round =>
      obtain ⟨j, hj, rfl, hb, hg⟩ := hrel
      have HG := Lib.hid hg
      clear hg
      by_cases hjn : j < bs.length
      · obtain ⟨a, rfl, hab, c0, c1, c2⟩ := span_blk (HS.out.below hb (Nat.le_refl _)) (List.getElem?_eq_getElem hjn)
        obtain ⟨b, hbj⟩ : ∃ b, b = bs[j] := ⟨_, rfl⟩
        rw [← hbj] at c0 c1 c2
        have HB : Hid (bs[j]? = some b) := Lib.hid (by rw [hbj]; exact List.getElem?_eq_getElem hjn)
        clear hbj
        by_cases hr : rngB b.f b.t = true
        · by_cases hc : carB b.c = true
          · go_upto_region 8 with (first
              | (go_at_call 58; refine (rRange_any _ _ _).mono ?_; rintro e w2 ⟨rfl, hb2⟩; rw [hr]; have d2 := (hb2.cell (p := ⟨(a.add (j * 3)).block, (a.add (j * 3)).off + 2, none⟩) (by show (a.add (j * 3)).block < _; rw [add_block]; exact Nat.lt_of_lt_of_le hab hb.size)).trans c2)
              | (go_at_call 59; refine (rcarrier_any _ _).mono ?_; rintro e w3 ⟨rfl, hb3⟩; rw [hc]))
            have hb4 := hb.trans ((hb2.trans (hb3.mono hb2.size)).mono hb.size)
            clear c0 c1 c2 d2 hb hb2 hb3
            cases j with
            | zero =>
              have HZ : Hid (badAt bs 0 = false) := Lib.hid (by rw [badAt_zero bs b HB.out, hr, hc]; rfl)
              have t0 : ((0 : Nat) : Int) = 0 := rfl
              rw [t0]
              go_region
              all_goals go_wp2_with fail
              all_goals go_roundw
              case rel => exact ⟨1, by omega, by go_num, hb4.drew, lt_one HZ.out⟩
              case measure => simp [intOf]; omega
            | succ i =>
              have hil : i < bs.length := by omega
              obtain ⟨a', ha', _, x0, x1, x2⟩ := span_blk (HS.out.below hb4 (Nat.le_refl _)) (List.getElem?_eq_getElem hil)
              obtain ⟨a'', ha'', _, b0, b1, b2⟩ := span_blk (HS.out.below hb4 (Nat.le_refl _)) HB.out
              cases ha'; cases ha''
              obtain ⟨x, hx⟩ : ∃ x, x = bs[i] := ⟨_, rfl⟩
              rw [← hx] at x0 x1 x2
              have HX : Hid (bs[i]? = some x) := Lib.hid (by rw [hx]; exact List.getElem?_eq_getElem hil)
              have HZ : Hid (badAt bs (i + 1) = !(!decide (b.f < x.t) && !decide (b.f = x.t ∧ b.c = x.c))) := Lib.hid (by rw [badAt_succ bs i x b HX.out HB.out, hr, hc]; rfl)
              clear hx b1
              have s1 : IntKind.i64.wrap (((i + 1 : Nat) : Int) - 1) = (i : Int) := by rw [IntWalk.i64_in _ (by unfold maxLen at hlen; omega)]; omega
              have s2 : (0 : Int) < ((i + 1 : Nat) : Int) := by omega
              by_cases e1 : b.f < x.t
              · have HV : Hid (validB bs = false) := Lib.hid (validB_no hjn (by rw [HZ.out]; simp [e1]))
                go_quiet (fail)
                go_wp2_with fail
                go_ret
                exact ⟨by rw [HV.out]; rfl, below_dN hb4 _⟩
              · by_cases e2 : x.t = b.f
                · have t2 : (x.t == b.f) = true := by rw [beq_iff_eq]; exact e2
                  by_cases e3 : x.c = b.c
                  · have HV : Hid (validB bs = false) := Lib.hid (validB_no hjn (by rw [HZ.out]; simp [e2, e3]))
                    have t3 : (x.c == b.c) = true := by rw [beq_iff_eq]; exact e3
                    clear e2 e3
                    go_quiet (fail)
                    go_wp2_with fail
                    go_ret
                    exact ⟨by rw [HV.out]; rfl, below_dN hb4 _⟩
                  · have HG2 : Hid (badAt bs (i + 1) = false) := Lib.hid (by rw [HZ.out]; simp; exact ⟨by omega, fun _ h => e3 h.symm⟩)
                    have t3 : (x.c == b.c) = false := by rw [beq_eq_false_iff_ne]; exact e3
                    clear e2 e3
                    go_quiet (fail)
                    go_wp2_with fail
                    exact ⟨⟨i + 1 + 1, by omega, by go_num, below_dN hb4 _, lt_more HG.out HG2.out⟩, by simp [intOf]; omega⟩
                · have HG2 : Hid (badAt bs (i + 1) = false) := Lib.hid (by rw [HZ.out]; simp; omega)
                  have t2 : (x.t == b.f) = false := by rw [beq_eq_false_iff_ne]; exact e2
                  clear e2
                  go_quiet (fail)
                  go_wp2_with fail
                  exact ⟨⟨i + 1 + 1, by omega, by go_num, below_dN hb4 _, lt_more HG.out HG2.out⟩, by simp [intOf]; omega⟩
          · have hc' : carB b.c = false := by simpa using hc
            have HV : Hid (validB bs = false) := Lib.hid (validB_no hjn (by
              cases j with
              | zero => rw [badAt_zero bs b HB.out, hc']; simp
              | succ i => rw [badAt_succ bs i bs[i] b (List.getElem?_eq_getElem (by omega)) HB.out, hc']; simp))
            clear hc
            go_wp2_with (first
              | (go_at_call 58; refine (rRange_any _ _ _).mono ?_; rintro e w2 ⟨rfl, hb2⟩; rw [hr]; have d2 := (hb2.cell (p := ⟨(a.add (j * 3)).block, (a.add (j * 3)).off + 2, none⟩) (by show (a.add (j * 3)).block < _; rw [add_block]; exact Nat.lt_of_lt_of_le hab hb.size)).trans c2)
              | (go_at_call 59; refine (rcarrier_any _ _).mono ?_; rintro e w3 ⟨rfl, hb3⟩; rw [hc']))
            go_ret
            exact ⟨by rw [HV.out]; rfl, hb.trans ((hb2.trans (hb3.mono hb2.size)).mono hb.size)⟩
        · have hr' : rngB b.f b.t = false := by simpa using hr
          have HV : Hid (validB bs = false) := Lib.hid (validB_no hjn (by
            cases j with
            | zero => rw [badAt_zero bs b HB.out, hr']; simp
            | succ i => rw [badAt_succ bs i bs[i] b (List.getElem?_eq_getElem (by omega)) HB.out, hr']; simp))
          clear hr
          go_wp2_with (go_at_call 58; refine (rRange_any _ _ _).mono ?_; rintro e w2 ⟨rfl, hb2⟩; rw [hr'])
          go_ret
          exact ⟨by rw [HV.out]; rfl, hb.trans (hb2.mono hb.size)⟩
      · have HV : Hid (validB bs = true) := Lib.hid (validB_yes h40 (fun i hi => HG.out i (by omega)))
        go_wp2_with fail
        go_ret
        exact ⟨by rw [HV.out]; rfl, hb⟩
  · have HV : Hid (validB bs = false) := Lib.hid (by simp [validB, h40])
    go_enter Try.func41, Try.ntmps41
    go_wp2_with fail
    go_ret
    exact ⟨by rw [HV.out]; rfl, Below.refl _ _⟩
end Go.Proofs.Ytmgippddljmfjaa
