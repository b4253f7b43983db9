/-
  dialtoneref13.Find; Count of both.
-/
import Derived.Test.YtmgippddljmfjaaWalk4
namespace Go.Proofs.Ytmgippddljmfjaa
open Go Go.RowKit Go.Dial Go.Dial.Blk

theorem rfind_any (A : Option Addr) (c : Nat) (bs : List B3) (n : Int) (w : World) (hlen : bs.length ≤ maxLen) (hS : Span w w.heap.size 3 A bs.length (bcs bs)) :
    Calls Try.prog 39 #[.slice A bs.length c, .int .i64 n] w fun e w' => e = .returned (.tuple #[.int .i64 (findV bs n).1, .bool (findV bs n).2]) ∧ Below w.heap.size w w' := by
  have HS := Lib.hid hS
  clear hS
  by_cases hv : validB bs = true
  · by_cases hh : 0 ≤ hold bs n
    · have HV : Hid (findV bs n = (hold bs n, true)) := Lib.hid (by rw [findV, if_pos ⟨hv, hh⟩])
      go_enter Try.func39, Try.ntmps39
      go_wp2_with (first
        | (go_at_call 41; refine (rvalid_any _ c bs _ hlen HS.out).mono ?_; rintro e w1 ⟨rfl, hb⟩; rw [hv])
        | (go_at_call 64; refine (rholder_any _ c bs n _ hlen ((HS.out.below hb (Nat.le_refl _)).mono hb.size)).mono ?_; rintro e w2 ⟨rfl, rfl⟩))
      go_ret2
      exact ⟨by rw [HV.out]; rfl, hb⟩
    · have HV : Hid (findV bs n = (0, false)) := Lib.hid (by rw [findV, if_neg (fun h => hh h.2)])
      go_enter Try.func39, Try.ntmps39
      go_wp2_with (first
        | (go_at_call 41; refine (rvalid_any _ c bs _ hlen HS.out).mono ?_; rintro e w1 ⟨rfl, hb⟩; rw [hv])
        | (go_at_call 64; refine (rholder_any _ c bs n _ hlen ((HS.out.below hb (Nat.le_refl _)).mono hb.size)).mono ?_; rintro e w2 ⟨rfl, rfl⟩))
      go_ret2
      exact ⟨by rw [HV.out]; rfl, hb⟩
  · have hv' : validB bs = false := by simpa using hv
    have HV : Hid (findV bs n = (0, false)) := Lib.hid (by rw [findV, if_neg (fun h => hv h.1)])
    clear hv
    go_enter Try.func39, Try.ntmps39
    go_wp2_with (go_at_call 41; refine (rvalid_any _ c bs _ hlen HS.out).mono ?_; rintro e w1 ⟨rfl, hb⟩; rw [hv'])
    go_ret2
    exact ⟨by rw [HV.out]; rfl, hb⟩

/-- how many numbers a carrier holds -/
def cntL : List B3 → Int → Int
  | [], _ => 0
  | b :: l, c => (if b.c = c then b.t - b.f else 0) + cntL l c
def countV (bs : List B3) (c : Int) : Int := if validB bs = true then cntL bs c else 0
theorem cnt_bd {l : List B3} {e k : Int} (h : Asc e k l) (he : e ≤ 100000000) (c : Int) : 0 ≤ cntL l c ∧ cntL l c ≤ 100000000 - e := by
  induction l generalizing e k with
  | nil => simp [cntL]; omega
  | cons b l ih =>
    obtain ⟨h1, h2, h3, h4, h5, h6, h7, h8⟩ := h
    have := ih h8 h3
    unfold cntL; split <;> omega
theorem cnt_drop {bs : List B3} {c : Int} {i : Nat} (hi : i < bs.length) : cntL (bs.drop i) c = (if bs[i].c = c then bs[i].t - bs[i].f else 0) + cntL (bs.drop (i + 1)) c := by
  rw [List.drop_eq_getElem_cons hi, cntL]
theorem asc_drop {bs : List B3} {e k : Int} (h : Asc e k bs) (i : Nat) : Some (bs.drop i) := by
  induction bs generalizing e k i with
  | nil => rw [List.drop_nil]; exact h.some
  | cons b l ih =>
    cases i with
    | zero => exact h.some
    | succ i => exact ih h.2.2.2.2.2.2.2 i
theorem some_cnt {l : List B3} (h : Some l) (c : Int) : 0 ≤ cntL l c := by
  obtain ⟨e, k, h⟩ := h
  induction l generalizing e k with
  | nil => simp [cntL]
  | cons b l ih =>
    obtain ⟨h1, h2, h3, h4, h5, h6, h7, h8⟩ := h
    have := ih _ _ h8
    unfold cntL; split <;> omega
theorem asc_get {bs : List B3} {e k : Int} (h : Asc e k bs) {i : Nat} (hi : i < bs.length) : 0 ≤ bs[i].f ∧ bs[i].f < bs[i].t ∧ bs[i].t ≤ 100000000 := by
  induction bs generalizing e k i with
  | nil => simp at hi
  | cons b l ih =>
    obtain ⟨h1, h2, h3, h4, h5, h6, h7, h8⟩ := h
    cases i with
    | zero => exact ⟨h1, h2, h3⟩
    | succ i => exact ih h8 (by simpa using hi)

theorem rcount_any (A : Option Addr) (c : Nat) (bs : List B3) (k : Int) (w : World) (hlen : bs.length ≤ maxLen) (hS : Span w w.heap.size 3 A bs.length (bcs bs)) :
    Calls Try.prog 42 #[.slice A bs.length c, .int .i64 k] w fun e w' => e = .returned (.int .i64 (countV bs k)) ∧ Below w.heap.size w w' := by
  have HS := Lib.hid hS
  clear hS
  by_cases hv : validB bs = true
  · have HC := Lib.hid (validB_iff.1 hv).2
    have HV : Hid (countV bs k = cntL bs k) := Lib.hid (by rw [countV, if_pos hv])
    have hlen4 := (validB_iff.1 hv).1
    have hbd := cnt_bd HC.out (by omega) k
    obtain ⟨T, hT⟩ : ∃ T, T = cntL bs k := ⟨_, rfl⟩
    rw [← hT] at hbd
    have HT := Lib.hid hT
    clear hT
    go_enter Try.func42, Try.ntmps42
    go_wp2_with fail
    go_loopw [5, 6] (fun s i wr => ∃ (j : Nat) (q : Int), j ≤ bs.length ∧ i = .int .i64 j ∧ s = .int .i64 q ∧ 0 ≤ q ∧ q ≤ T ∧ q + cntL (bs.drop j) k = T ∧ Below w.heap.size w wr) (fun _ i _ => bs.length - (intOf i).toNat)
    case atStart => exact ⟨0, 0, by omega, rfl, rfl, by omega, by omega, by rw [HT.out]; simp, Below.refl _ _⟩
    case round =>
      obtain ⟨j, q, hj, rfl, rfl, hq0, hq1, hq, hb⟩ := hrel
      by_cases hjn : j < bs.length
      · rw [cnt_drop hjn] at hq
        have hnn := some_cnt (asc_drop HC.out (j + 1)) k
        have hgt := asc_get HC.out hjn
        obtain ⟨r, hr⟩ : ∃ r, r = cntL (bs.drop (j + 1)) k := ⟨_, rfl⟩
        rw [← hr] at hq hnn
        have HR := Lib.hid hr
        obtain ⟨a, rfl, hab, c0, c1, c2⟩ := span_blk (HS.out.below hb (Nat.le_refl _)) (List.getElem?_eq_getElem hjn)
        obtain ⟨b, hbj⟩ : ∃ b, b = bs[j] := ⟨_, rfl⟩
        rw [← hbj] at c0 c1 c2 hq hgt
        clear hbj hr
        have HK : Hid (∀ W', Below wr.heap.size wr W' → W'.cell? (a.add (j * 3)) = some (.int .i64 b.f) ∧ W'.cell? ⟨(a.add (j * 3)).block, (a.add (j * 3)).off + 1, none⟩ = some (.int .i64 b.t) ∧ W'.cell? ⟨(a.add (j * 3)).block, (a.add (j * 3)).off + 2, none⟩ = some (.int .i64 b.c)) := Lib.hid fun W' hb' => by
          have hlt : (a.add (j * 3)).block < wr.heap.size := by rw [add_block]; exact Nat.lt_of_lt_of_le hab hb.size
          exact ⟨(hb'.cell hlt).trans c0, (hb'.cell (p := ⟨(a.add (j * 3)).block, (a.add (j * 3)).off + 1, none⟩) hlt).trans c1, (hb'.cell (p := ⟨(a.add (j * 3)).block, (a.add (j * 3)).off + 2, none⟩) hlt).trans c2⟩
        clear c0 c1 c2
        by_cases hc : b.c = k
        · rw [if_pos hc] at hq
          have t1 : (b.c == k) = true := by rw [beq_iff_eq]; exact hc
          clear hc
          go_wp2_with (go_at_call 41; refine (rvalid_any _ c bs _ hlen ((HS.out.below hb (Nat.le_refl _)).mono hb.size)).mono ?_; rintro e w1 ⟨rfl, hb1⟩; rw [hv]; obtain ⟨d0, d1, d2⟩ := HK.out _ hb1)
          have s1 : IntKind.i64.wrap (q + b.t) = q + b.t := IntWalk.i64_in _ (by omega)
          have s2 : IntKind.i64.wrap (q + b.t - b.f) = q + b.t - b.f := IntWalk.i64_in _ (by omega)
          have hb2 := hb.trans (hb1.mono hb.size)
          go_quiet (fail)
          clear s1 s2
          go_wp2_with fail
          exact ⟨⟨j + 1, q + b.t - b.f, by omega, by go_num, rfl, by omega, by omega, by rw [← HR.out]; omega, below_dN hb2 _⟩, by simp [intOf]; omega⟩
        · rw [if_neg hc] at hq
          have t1 : (b.c == k) = false := by rw [beq_eq_false_iff_ne]; exact hc
          clear hc
          go_wp2_with (go_at_call 41; refine (rvalid_any _ c bs _ hlen ((HS.out.below hb (Nat.le_refl _)).mono hb.size)).mono ?_; rintro e w1 ⟨rfl, hb1⟩; rw [hv]; obtain ⟨d0, d1, d2⟩ := HK.out _ hb1)
          exact ⟨⟨j + 1, q, by omega, by go_num, rfl, by omega, by omega, by rw [← HR.out]; omega, hb.trans (hb1.mono hb.size)⟩, by simp [intOf]; omega⟩
      · have hq2 : q = T := by
          rw [List.drop_of_length_le (by omega)] at hq
          simp [cntL] at hq; exact hq
        go_wp2_with fail
        go_ret
        exact ⟨by rw [HV.out, ← HT.out, hq2]; rfl, hb⟩
  · have hv' : validB bs = false := by simpa using hv
    have HV : Hid (countV bs k = 0) := Lib.hid (by rw [countV, if_neg hv])
    clear hv
    have hz : 0 < bs.length := by
      cases bs with
      | nil => exact absurd (show validB [] = true from rfl) (by rw [hv']; decide)
      | cons b l => simp
    go_enter Try.func42, Try.ntmps42
    go_wp2_with fail
    go_loopw [5, 6] (fun s i wr => i = .int .i64 0 ∧ s = .int .i64 0 ∧ Below w.heap.size w wr) (fun _ _ _ => 0)
    case atStart => exact ⟨rfl, rfl, Below.refl _ _⟩
    case round =>
      obtain ⟨rfl, rfl, hb⟩ := hrel
      go_wp2_with (go_at_call 41; refine (rvalid_any _ c bs _ hlen ((HS.out.below hb (Nat.le_refl _)).mono hb.size)).mono ?_; rintro e w1 ⟨rfl, hb1⟩; rw [hv'])
      go_ret
      exact ⟨by rw [HV.out]; rfl, hb.trans (hb1.mono hb.size)⟩

theorem count_any (A : Option Addr) (c : Nat) (bs : List B3) (k : Int) (w : World) (hlen : bs.length ≤ maxLen) (hS : Span w w.heap.size 3 A bs.length (bcs bs)) :
    Calls Try.prog 30 #[.slice A bs.length c, .int .i64 k] w fun e w' => e = .returned (.int .i64 (countV bs k)) ∧ Below w.heap.size w w' := by
  have HS := Lib.hid hS
  clear hS
  by_cases hv : validB bs = true
  · have HC := Lib.hid (validB_iff.1 hv).2
    have HV : Hid (countV bs k = cntL bs k) := Lib.hid (by rw [countV, if_pos hv])
    have hlen4 := (validB_iff.1 hv).1
    have hbd := cnt_bd HC.out (by omega) k
    obtain ⟨T, hT⟩ : ∃ T, T = cntL bs k := ⟨_, rfl⟩
    rw [← hT] at hbd
    have HT := Lib.hid hT
    clear hT
    go_enter Try.func30, Try.ntmps30
    go_wp2_with (go_at_call 23; refine (valid_any _ c bs _ hlen HS.out).mono ?_; rintro e w1 ⟨rfl, hb0⟩; rw [hv])
    go_loopw [5, 13] (fun s i wr => ∃ (j : Nat) (q : Int), j ≤ bs.length ∧ i = .int .i64 j ∧ s = .int .i64 q ∧ 0 ≤ q ∧ q ≤ T ∧ q + cntL (bs.drop j) k = T ∧ Below w.heap.size w wr) (fun _ i _ => bs.length - (intOf i).toNat)
    case atStart => exact ⟨0, 0, by omega, rfl, rfl, by omega, by omega, by rw [HT.out]; simp, hb0⟩
    case round =>
      obtain ⟨j, q, hj, rfl, rfl, hq0, hq1, hq, hb⟩ := hrel
      clear hb0
      by_cases hjn : j < bs.length
      · rw [cnt_drop hjn] at hq
        have hnn := some_cnt (asc_drop HC.out (j + 1)) k
        have hgt := asc_get HC.out hjn
        obtain ⟨r, hr⟩ : ∃ r, r = cntL (bs.drop (j + 1)) k := ⟨_, rfl⟩
        rw [← hr] at hq hnn
        have HR := Lib.hid hr
        obtain ⟨a, rfl, hab, c0, c1, c2⟩ := span_blk (HS.out.below hb (Nat.le_refl _)) (List.getElem?_eq_getElem hjn)
        obtain ⟨b, hbj⟩ : ∃ b, b = bs[j] := ⟨_, rfl⟩
        rw [← hbj] at c0 c1 c2 hq hgt
        clear hbj hr
        have hb3 := hb.alloc hb.size (.cells #[.int .i64 b.f, .int .i64 b.t, .int .i64 b.c] 53)
        by_cases hc : b.c = k
        · rw [if_pos hc] at hq
          have t1 : (b.c == k) = true := by rw [beq_iff_eq]; exact hc
          have s1 : IntKind.i64.wrap (b.t - b.f) = b.t - b.f := IntWalk.i64_in _ (by omega)
          clear hc
          go_wp2_with fail
          exact ⟨⟨j + 1, q + (b.t - b.f), by omega, by go_num, by go_num, by omega, by omega, by rw [← HR.out]; omega, hb3⟩, by simp [intOf]; omega⟩
        · rw [if_neg hc] at hq
          have t1 : (b.c == k) = false := by rw [beq_eq_false_iff_ne]; exact hc
          clear hc
          go_wp2_with fail
          exact ⟨⟨j + 1, q, by omega, by go_num, rfl, by omega, by omega, by rw [← HR.out]; omega, hb3⟩, by simp [intOf]; omega⟩
      · have hq2 : q = T := by
          rw [List.drop_of_length_le (by omega)] at hq
          simp [cntL] at hq; exact hq
        go_wp2_with fail
        go_ret
        exact ⟨by rw [HV.out, ← HT.out, hq2]; rfl, hb⟩
  · have hv' : validB bs = false := by simpa using hv
    have HV : Hid (countV bs k = 0) := Lib.hid (by rw [countV, if_neg hv])
    clear hv
    go_enter Try.func30, Try.ntmps30
    go_wp2_with (go_at_call 23; refine (valid_any _ c bs _ hlen HS.out).mono ?_; rintro e w1 ⟨rfl, hb0⟩; rw [hv'])
    go_ret
    exact ⟨by rw [HV.out]; rfl, hb0⟩
end Go.Proofs.Ytmgippddljmfjaa
