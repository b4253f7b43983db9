/-
  Counts: plain facts, and the laws' total.
-/
import Derived.Test.YtmgippddljmfjaaWalk23
namespace Go.Proofs.Ytmgippddljmfjaa
open Go Go.RowKit Go.Dial Go.Dial.Blk

/-- the sum of F over 0 .. k-1 -/
def sumTo (F : Int → Int) : Nat → Int
  | 0 => 0
  | k + 1 => sumTo F k + F k
theorem sumTo_congr {F G : Int → Int} {k : Nat} (h : ∀ n : Int, 0 ≤ n → n < k → F n = G n) : sumTo F k = sumTo G k := by
  induction k with
  | zero => rfl
  | succ k ih => rw [sumTo, sumTo, ih (fun n h1 h2 => h n h1 (by omega)), h k (by omega) (by omega)]
theorem sumTo_add (F G : Int → Int) (k : Nat) : sumTo (fun n => F n + G n) k = sumTo F k + sumTo G k := by
  induction k with
  | zero => rfl
  | succ k ih => simp only [sumTo, ih]; omega
theorem sumTo_zero (k : Nat) : sumTo (fun _ => 0) k = 0 := by
  induction k with
  | zero => rfl
  | succ k ih => simp [sumTo, ih]
theorem sumTo_range (f t : Int) (hf : 0 ≤ f) (k : Nat) : sumTo (fun n => if f ≤ n ∧ n < t then 1 else 0) k = if f ≤ t then (if t ≤ k then t - f else if f ≤ k then k - f else 0) else 0 := by
  induction k with
  | zero => simp only [sumTo]; repeat' split <;> omega
  | succ k ih => rw [sumTo, ih]; repeat' split <;> omega
/-- the indicator of a carrier -/
def ind (H : Int → Int) (c n : Int) : Int := if H n = c then 1 else 0
def held (H : Int → Int) (n : Int) : Int := if H n = -1 then 0 else 1
theorem cnt_sum {big : Nat} (big_eq : (big : Int) = 100000000) {l : List B3} {e k : Int} (h : Asc e k l) {c : Int} (hc : 0 ≤ c) : cntL l c = sumTo (ind (hold l) c) big := by
  induction l generalizing e k with
  | nil =>
    have : sumTo (ind (hold []) c) big = sumTo (fun _ => 0) big := sumTo_congr fun n _ _ => by
      unfold ind; split
      · rename_i h; rw [hold_nil] at h; omega
      · rfl
    rw [this, sumTo_zero]; rfl
  | cons b l ih =>
    obtain ⟨h1, h2, h3, h4, h5, h6, h7, h8⟩ := h
    have e1 : sumTo (ind (hold (b :: l)) c) big = sumTo (fun n => (if b.c = c then (if b.f ≤ n ∧ n < b.t then 1 else 0) else 0) + ind (hold l) c n) big := sumTo_congr fun n _ _ => by
      by_cases hb : b.f ≤ n ∧ n < b.t
      · simp only [ind, hold_in l hb, hold_lt h8 hb.2]
        rw [if_pos hb, if_neg (show ¬ (-1 : Int) = c by omega)]; omega
      · simp only [ind, hold_out l hb]
        rw [if_neg hb]; split <;> omega
    have e2 : sumTo (fun n => (if b.c = c then (if b.f ≤ n ∧ n < b.t then 1 else 0) else 0)) big = if b.c = c then b.t - b.f else 0 := by
      by_cases hbc : b.c = c
      · rw [if_pos hbc]
        have e3 : sumTo (fun n => (if b.c = c then (if b.f ≤ n ∧ n < b.t then 1 else 0) else 0)) big = sumTo (fun n => if b.f ≤ n ∧ n < b.t then 1 else 0) big := sumTo_congr fun n _ _ => by rw [if_pos hbc]
        rw [e3, sumTo_range b.f b.t h1 big, big_eq, if_pos (by omega), if_pos h3]
      · rw [if_neg hbc]
        have e3 : sumTo (fun n => (if b.c = c then (if b.f ≤ n ∧ n < b.t then 1 else 0) else 0)) big = sumTo (fun _ => 0) big := sumTo_congr fun n _ _ => by rw [if_neg hbc]
        rw [e3, sumTo_zero]
    rw [e1, sumTo_add, ← ih h8, cntL, e2]
def sumL : List B3 → Int
  | [] => 0
  | b :: l => b.t - b.f + sumL l
theorem sum_sum {big : Nat} (big_eq : (big : Int) = 100000000) {l : List B3} {e k : Int} (h : Asc e k l) : sumL l = sumTo (held (hold l)) big := by
  induction l generalizing e k with
  | nil =>
    have : sumTo (held (hold [])) big = sumTo (fun _ => 0) big := sumTo_congr fun n _ _ => by unfold held; rw [hold_nil]; rfl
    rw [this, sumTo_zero]; rfl
  | cons b l ih =>
    obtain ⟨h1, h2, h3, h4, h5, h6, h7, h8⟩ := h
    have e1 : sumTo (held (hold (b :: l))) big = sumTo (fun n => (if b.f ≤ n ∧ n < b.t then 1 else 0) + held (hold l) n) big := sumTo_congr fun n _ _ => by
      by_cases hb : b.f ≤ n ∧ n < b.t
      · simp only [held, hold_in l hb, hold_lt h8 hb.2]
        rw [if_pos hb, if_neg (show ¬ b.c = -1 by omega)]; simp
      · simp only [held, hold_out l hb]
        rw [if_neg hb]; omega
    rw [e1, sumTo_add, ← ih h8, sumL, sumTo_range b.f b.t h1 big, big_eq, if_pos (by omega), if_pos h3]
theorem sum_bd {l : List B3} {e k : Int} (h : Asc e k l) (he : e ≤ 100000000) : 0 ≤ sumL l ∧ sumL l ≤ 100000000 - e := by
  induction l generalizing e k with
  | nil => simp [sumL]; omega
  | cons b l ih =>
    obtain ⟨h1, h2, h3, h4, h5, h6, h7, h8⟩ := h
    have := ih h8 h3
    simp only [sumL]; omega
def totK (l : List B3) : Nat → Int
  | 0 => 0
  | k + 1 => totK l k + cntL l k
theorem totK_cons (b : B3) (l : List B3) (k : Nat) (hb : 0 ≤ b.c) : totK (b :: l) k = (if b.c < k then b.t - b.f else 0) + totK l k := by
  induction k with
  | zero => simp [totK]; omega
  | succ k ih =>
    simp only [totK, ih, cntL]
    repeat' split <;> omega
theorem tot_sum {l : List B3} {e k : Int} (h : Asc e k l) : totK l 8 = sumL l := by
  induction l generalizing e k with
  | nil => rfl
  | cons b l ih =>
    obtain ⟨h1, h2, h3, h4, h5, h6, h7, h8⟩ := h
    rw [totK_cons b l 8 h4, if_pos (by omega), ih h8, sumL]
theorem cnt_out {l : List B3} {e k : Int} (h : Asc e k l) {c : Int} (hc : c < 0 ∨ 7 < c) : cntL l c = 0 := by
  induction l generalizing e k with
  | nil => rfl
  | cons b l ih =>
    obtain ⟨h1, h2, h3, h4, h5, h6, h7, h8⟩ := h
    rw [cntL, if_neg (by omega), ih h8]; rfl
theorem totK_bd {l : List B3} (h : Canon l) (k : Nat) : 0 ≤ totK l k ∧ totK l k ≤ 100000000 * k := by
  induction k with
  | zero => simp [totK]
  | succ k ih =>
    have := cnt_bd h (by omega) (k : Int)
    simp only [totK]; omega
theorem sum_drop {l : List B3} {j : Nat} (hj : j < l.length) : sumL (l.drop j) = l[j].t - l[j].f + sumL (l.drop (j + 1)) := by
  rw [List.drop_eq_getElem_cons hj, sumL]
theorem some_sum {l : List B3} (h : Some l) : 0 ≤ sumL l := by
  obtain ⟨e, k, h⟩ := h
  induction l generalizing e k with
  | nil => simp [sumL]
  | cons b l ih =>
    obtain ⟨h1, h2, h3, h4, h5, h6, h7, h8⟩ := h
    have := ih _ _ h8
    simp only [sumL]; omega
theorem counts_spec {a gg le pa ww : List B3} {p p' u v : Int} (a_mk : Canon a) (m1 : Canon gg) (m2 : Canon le) (m3 : Canon pa) (m4 : Canon ww) (pb1 : 0 ≤ p) (pb2 : p < p') (pb3 : p' ≤ 100000000) (U_car : 0 ≤ u ∧ u ≤ 7) (V_car : 0 ≤ v ∧ v ≤ 7)
    (h1 : ∀ n, hold gg n = if p ≤ n ∧ n < p' then v else hold a n) (h2 : ∀ n, hold le n = if p ≤ n ∧ n < p' then -1 else hold a n) (h3 : ∀ n, hold pa n = if p ≤ n ∧ n < p' then hold a n else -1) (h4 : ∀ n, hold ww n = if hold a n = u then v else hold a n) :
    cntL gg v = cntL a v + p' - p - cntL pa v ∧ sumL le = sumL a - sumL pa ∧ sumL ww = sumL a ∧ (u = v → ww = a) ∧ (u ≠ v → cntL ww v = cntL a v + cntL a u ∧ cntL ww u = 0) := by
  obtain ⟨big, big_eq⟩ : ∃ k : Nat, (k : Int) = 100000000 := ⟨100000000, rfl⟩
  have f1 : cntL gg v = cntL a v + p' - p - cntL pa v := by
    have e : sumTo (ind (hold gg) v) big + sumTo (ind (hold pa) v) big = sumTo (ind (hold a) v) big + (p' - p) := by
      rw [← sumTo_add]
      have e2 : p' - p = sumTo (fun n => if p ≤ n ∧ n < p' then 1 else 0) big := by rw [sumTo_range p p' pb1 big, big_eq, if_pos (by omega), if_pos pb3]
      rw [e2, ← sumTo_add]
      exact sumTo_congr fun n _ _ => by
        unfold ind; rw [h1, h3]
        by_cases x : p ≤ n ∧ n < p' <;> by_cases y : hold a n = v <;> simp [x, y] <;> omega
    rw [cnt_sum big_eq m1 V_car.1, cnt_sum big_eq a_mk V_car.1, cnt_sum big_eq m3 V_car.1]; omega
  have f2 : sumL le = sumL a - sumL pa := by
    have e : sumTo (held (hold le)) big + sumTo (held (hold pa)) big = sumTo (held (hold a)) big := by
      rw [← sumTo_add]
      exact sumTo_congr fun n _ _ => by
        unfold held; rw [h2, h3]
        by_cases x : p ≤ n ∧ n < p' <;> by_cases y : hold a n = -1 <;> simp [x, y]
    rw [sum_sum big_eq m2, sum_sum big_eq a_mk, sum_sum big_eq m3]; omega
  have f3 : sumL ww = sumL a := by
    rw [sum_sum big_eq m4, sum_sum big_eq a_mk]
    exact sumTo_congr fun n _ _ => by
      unfold held; rw [h4]
      by_cases x : hold a n = u
      · rw [if_pos x, if_neg (by omega), if_neg (by omega)]
      · rw [if_neg x]
  have f4 : u = v → ww = a := fun e => same_hold m4 a_mk fun n => by rw [h4, e]; split <;> simp_all
  have f5 : u ≠ v → cntL ww v = cntL a v + cntL a u ∧ cntL ww u = 0 := fun e => by
    constructor
    · rw [cnt_sum big_eq m4 V_car.1, cnt_sum big_eq a_mk V_car.1, cnt_sum big_eq a_mk U_car.1, ← sumTo_add]
      exact sumTo_congr fun n _ _ => by
        unfold ind; rw [h4]
        by_cases x : hold a n = u
        · rw [if_pos x, if_pos rfl, if_pos x, if_neg (by omega)]; rfl
        · rw [if_neg x, if_neg x]; omega
    · have e3 : sumTo (ind (hold ww) u) big = sumTo (fun _ => 0) big := sumTo_congr fun n _ _ => by
        unfold ind; rw [h4]
        by_cases x : hold a n = u
        · rw [if_pos x, if_neg (by omega)]
        · rw [if_neg x, if_neg x]
      rw [cnt_sum big_eq m4 U_car.1, e3, sumTo_zero]
  exact ⟨f1, f2, f3, f4, f5⟩
theorem countH_any' (v : Value) (bs : List B3) (k : Int) (w : World) (hv : HoldsB w w.heap.size v bs) (hval : validB bs = true) : Calls Try.prog 30 #[v, .int .i64 k] w fun e w' => e = .returned (.int .i64 (cntL bs k)) ∧ Below w.heap.size w w' := by
  have := countH_any v bs k w hv
  rwa [countV, if_pos hval] at this
set_option maxHeartbeats 800000 in
theorem total_any (v : Value) (bs : List B3) (w : World) (hv : HoldsB w w.heap.size v bs) (hval : validB bs = true) : Calls Try.prog 29 #[v] w fun e w' => e = .returned (.int .i64 (sumL bs)) ∧ Below w.heap.size w w' := by
  have hc := (validB_iff.1 hval).2
  have HC := Lib.hid hc
  have HVL := Lib.hid hval
  have HV := Lib.hid hv
  have HT := Lib.hid (tot_sum hc)
  clear hc hval hv
  go_enter Try.func29, Try.ntmps29
  go_wp2_with fail
  go_loopw [3, 4] (fun s i wr => ∃ (j : Nat) (q : Int), j ≤ 8 ∧ i = .int .i64 j ∧ s = .int .i64 q ∧ totK bs j = q ∧ Below w.heap.size w wr) (fun _ i _ => 8 - (intOf i).toNat)
  case atStart => exact ⟨0, 0, by omega, rfl, rfl, rfl, Below.refl _ _⟩
  case round =>
    obtain ⟨j, q, hj, rfl, rfl, hq, hb⟩ := hrel
    have hbd := totK_bd HC.out j
    have hcb := cnt_bd HC.out (by omega) (j : Int)
    have hst : totK bs (j + 1) = q + cntL bs j := by rw [totK, hq]
    rw [hq] at hbd
    have HST := Lib.hid hst
    obtain ⟨r, hr⟩ : ∃ r, r = cntL bs j := ⟨_, rfl⟩
    rw [← hr] at hcb
    have HR := Lib.hid hr
    have HQ := Lib.hid hq
    clear hst hr hq
    by_cases hj8 : j < 8
    · go_wp2_with (go_at_call 30; refine (countH_any' v bs j _ (HV.out.later hb) HVL.out).mono ?_; rintro e w1 ⟨rfl, hb1⟩; rw [← HR.out])
      exact ⟨⟨j + 1, q + r, by omega, by go_num, by go_num, by rw [HST.out, HR.out], hb.trans (hb1.mono hb.size)⟩, by simp [intOf]; omega⟩
    · have e8 : j = 8 := by omega
      subst e8
      have HF : Hid (sumL bs = q) := Lib.hid (by rw [← HT.out, HQ.out])
      go_wp2_with fail
      go_ret
      exact ⟨by rw [HF.out]; rfl, hb⟩
end Go.Proofs.Ytmgippddljmfjaa
