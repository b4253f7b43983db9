/-
  The contracts of the reference Int and String.
-/
import Derived.Test.YtoiikkfhbpeemaaDoorWalk5
namespace Go.Proofs.YtoiikkfhbpeemaaDoor
open Go Go.RowKit Go.Shelf Go.Dial Go.Dial.Wire

theorem intV_none {l : List UInt8} {k : Nat} (h : k ≤ l.length) (hd : dec 9 0 0 (l.drop k) = none) : intV l k = .tuple #[.int .i64 0, .int .i64 0, .int .i64 10] := by
  unfold intV; rw [intAt_none h hd]
theorem intV_some {l : List UInt8} {k : Nat} {n : Int} {j : Nat} (h : k ≤ l.length) (hd : dec 9 0 0 (l.drop k) = some (n, j)) : intV l k = .tuple #[.int .i64 n, .int .i64 ((k : Int) + j), .int .i64 0] := by
  unfold intV; rw [intAt_some h hd]

theorem dec_take {l : List UInt8} {n : Int} {j : Nat} (h : dec 9 0 0 l = some (n, j)) : enc n = l.take j := by
  obtain ⟨_, _, h3, rfl⟩ := (dec_iff _ _ _).1 h
  exact List.prefix_iff_eq_take.1 h3
theorem dec_take_ne {l : List UInt8} {n : Int} {j : Nat} (h : dec 9 0 0 l = none) (h1 : -maxInt ≤ n) (h2 : n ≤ maxInt) : enc n ≠ l.take j := by
  intro e
  have := (dec_iff l n _).2 ⟨h1, h2, e ▸ List.take_prefix _ _, rfl⟩
  rw [h] at this; cases this

set_option maxRecDepth 100000 in
set_option maxHeartbeats 1600000 in
theorem refInt_any (s : ByteArray) (k : Int) (w : World) (hs : s.size ≤ maxLen) (hk1 : -9223372036854775808 ≤ k) (hk2 : k ≤ 9223372036854775807) :
    Calls Tryd.prog 16 #[.string s, .int .i64 k] w fun e w' => e = .returned (intV s.data.toList k) ∧ Below w.heap.size w w' := by
  unfold maxLen at hs
  by_cases h1 : k < 0
  · have HV : Hid (intV s.data.toList k = .tuple #[.int .i64 0, .int .i64 0, .int .i64 2]) := Lib.hid (by simp [intV, intAt, h1])
    go_enter Tryd.func16, Tryd.ntmps16
    go_wp2
    go_ret3
    exact ⟨by rw [HV.out]; rfl, Below.refl _ _⟩
  by_cases h2 : (s.size : Int) < k
  · have HV : Hid (intV s.data.toList k = .tuple #[.int .i64 0, .int .i64 0, .int .i64 2]) := Lib.hid (by simp [intV, intAt, h2])
    go_enter Tryd.func16, Tryd.ntmps16
    go_wp2
    go_ret3
    exact ⟨by rw [HV.out]; rfl, Below.refl _ _⟩
  obtain ⟨k, rfl⟩ := Int.eq_ofNat_of_zero_le (by omega : 0 ≤ k)
  have hlen : k ≤ s.data.toList.length := by simp; show k ≤ s.size; omega
  go_enter Tryd.func16, Tryd.ntmps16
  go_wp2
  go_loopw [7, 8] (fun z i wr => ∃ j zn : Nat, j ≤ 9 ∧ k + j ≤ s.size ∧ i = .int .i64 j ∧ z = .int .u64 zn ∧ zn < 128 ^ j ∧ dec 9 0 0 (s.data.toList.drop k) = dec (9 - j) j zn (s.data.toList.drop (k + j)) ∧ w = wr) (fun _ i _ => 9 - (intOf i).toNat)
  case atStart => exact ⟨0, 0, by omega, by omega, rfl, rfl, by omega, rfl, rfl⟩
  case round =>
    obtain ⟨j, zn, hj, hkj, rfl, rfl, hz, hd, rfl⟩ := hrel
    by_cases hj9 : j < 9
    · by_cases hend : k + j < s.size
      · rw [drop_cons hend, show 9 - j = 9 - (j + 1) + 1 by omega, dec] at hd
        have hb := s[k + j].toNat_lt
        obtain ⟨x, hx⟩ : ∃ x, x = s[k + j].toNat % 128 := ⟨_, rfl⟩
        have hx1 : x < 128 := by omega
        have E0 : ((s[k + j].toNat : Nat) : Int) % 128 = (x : Int) := by omega
        rw [← hx] at hd
        have E1 := shl_u64 j x hx1 (by omega)
        have hz1 : zn + x * 128 ^ j < 128 ^ (j + 1) := by
          rw [Nat.pow_succ]
          have : x * 128 ^ j ≤ 127 * 128 ^ j := Nat.mul_le_mul_right _ (by omega)
          omega
        have hz2 : zn + x * 128 ^ j < 9223372036854775808 := Nat.lt_of_lt_of_le hz1 (Nat.le_trans (Nat.pow_le_pow_right (by omega) (show j + 1 ≤ 9 by omega)) (by decide))
        obtain ⟨y, hy⟩ : ∃ y, y = x * 128 ^ j := ⟨_, rfl⟩
        rw [← hy] at E1 hz1 hz2 hd
        obtain ⟨z, hzz⟩ : ∃ z, z = zn + y := ⟨_, rfl⟩
        have E2 : (zn : Int) + (y : Int) = (z : Int) := by omega
        rw [← hzz] at hz1 hz2 hd
        have hyz : y ≤ 9223372036854775807 := by omega
        have hznz : zn ≤ 9223372036854775807 := by omega
        have HZ := Lib.hid hz1
        clear hz1 hz hx hy hzz
        by_cases hc : 128 ≤ s[k + j].toNat
        · rw [if_pos hc] at hd
          have HD := Lib.hid hd
          clear hd
          go_wp2
          go_roundw
          case rel => exact ⟨j + 1, z, by omega, by omega, by go_num, rfl, HZ.out, by rw [HD.out]; rfl, by first | rfl | trivial⟩
          case measure => simp [intOf]; omega
        · rw [if_neg hc] at hd
          have hup := unzz_le z (Nat.lt_of_lt_of_le HZ.out (Nat.pow_le_pow_right (by omega) (by omega)))
          have hupar : (z % 2 = 1 ∧ -((z : Int) / 2) - 1 = unzz z) ∨ (z % 2 = 0 ∧ (z : Int) / 2 = unzz z) := by
            unfold unzz; split <;> omega
          obtain ⟨u, hu⟩ : ∃ u, u = unzz z := ⟨_, rfl⟩
          rw [← hu] at hd hup hupar
          unfold maxInt at hup
          by_cases hlo : u < -4611686018427387903
          · have hd' : dec 9 0 0 (s.data.toList.drop k) = none := by
              rw [hd, if_pos (show u < -maxInt from hlo)]; split <;> rfl
            have HV := Lib.hid (intV_none hlen hd')
            have HP : Hid (putV u = .tuple #[.string ⟨#[]⟩, .int .i64 10]) := Lib.hid (by simp [putV, putInt_bad (.inl hlo)])
            clear hd hd' hu
            rcases hupar with ⟨hp, E3⟩ | ⟨hp, E3⟩
            · have t1 : ((z : Int) % 2 == 1) = true := by simp; omega
              clear hp
              go_wp2_with (go_at_call 13; refine (refPutInt_any _ _).mono ?_; rintro e w1 ⟨rfl, hb1⟩; rw [HP.out])
              go_ret3
              exact ⟨by rw [HV.out]; rfl, hb1⟩
            · have t1 : ((z : Int) % 2 == 1) = false := by simp; omega
              clear hp
              go_wp2_with (go_at_call 13; refine (refPutInt_any _ _).mono ?_; rintro e w1 ⟨rfl, hb1⟩; rw [HP.out])
              all_goals go_ret3
              all_goals exact ⟨by rw [HV.out]; rfl, hb1⟩
          · have HP := Lib.hid (putV_ok (n := u) (by omega) hup)
            by_cases hb0 : s[k + j].toNat = 0 ∧ 0 < j
            · rw [if_pos hb0] at hd
              have HV := Lib.hid (intV_none hlen hd)
              have hne := dec_take_ne (j := j + 1) hd (show -maxInt ≤ u by unfold maxInt; omega) hup
              have c1 : (enc u == (s.extract k (k + j + 1)).toList) = false := by
                rw [beq_eq_false_iff_ne, ByteArray.toList_eq, Nat.add_assoc, bext]
                simpa using hne
              clear hd hu hb0 hne
              rcases hupar with ⟨hp, E3⟩ | ⟨hp, E3⟩
              · have t1 : ((z : Int) % 2 == 1) = true := by simp; omega
                clear hp
                go_wp2_with (go_at_call 13; refine (refPutInt_any _ _).mono ?_; rintro e w1 ⟨rfl, hb1⟩; rw [HP.out])
                go_ret3
                exact ⟨by rw [HV.out]; rfl, hb1⟩
              · have t1 : ((z : Int) % 2 == 1) = false := by simp; omega
                clear hp
                go_wp2_with (go_at_call 13; refine (refPutInt_any _ _).mono ?_; rintro e w1 ⟨rfl, hb1⟩; rw [HP.out])
                go_ret3
                exact ⟨by rw [HV.out]; rfl, hb1⟩
            · rw [if_neg hb0, if_neg (show ¬ u < -maxInt from hlo)] at hd
              have HV := Lib.hid (intV_some hlen hd)
              have hne := dec_take hd
              have c1 : (enc u == (s.extract k (k + j + 1)).toList) = true := by
                rw [beq_iff_eq, ByteArray.toList_eq, Nat.add_assoc, bext]
                simpa using hne
              clear hd hu hb0 hne
              rcases hupar with ⟨hp, E3⟩ | ⟨hp, E3⟩
              · have t1 : ((z : Int) % 2 == 1) = true := by simp; omega
                clear hp
                go_wp2_with (go_at_call 13; refine (refPutInt_any _ _).mono ?_; rintro e w1 ⟨rfl, hb1⟩; rw [HP.out])
                go_ret3
                exact ⟨by rw [HV.out]; simp [Int.add_assoc], hb1⟩
              · have t1 : ((z : Int) % 2 == 1) = false := by simp; omega
                clear hp
                go_wp2_with (go_at_call 13; refine (refPutInt_any _ _).mono ?_; rintro e w1 ⟨rfl, hb1⟩; rw [HP.out])
                go_ret3
                exact ⟨by rw [HV.out]; simp [Int.add_assoc], hb1⟩
      · have hd' : dec 9 0 0 (s.data.toList.drop k) = none := by
          rw [hd, List.drop_eq_nil_of_le (by simp; show s.size ≤ _; omega)]
          rw [show 9 - j = 9 - (j + 1) + 1 by omega]; rfl
        have HV := Lib.hid (intV_none hlen hd')
        clear hd hd' hz
        go_wp2
        go_ret3
        exact ⟨by rw [HV.out]; rfl, Below.refl _ _⟩
    · have hd' : dec 9 0 0 (s.data.toList.drop k) = none := by
        rw [hd, show 9 - j = 0 by omega]; rfl
      have HV := Lib.hid (intV_none hlen hd')
      clear hd hd' hz
      go_wp2
      go_ret3
      exact ⟨by rw [HV.out]; rfl, Below.refl _ _⟩
theorem intV_eq {l : List UInt8} {k a b c : Int} (h : intAt l k = (a, b, c)) : intV l k = .tuple #[.int .i64 a, .int .i64 b, .int .i64 c] := by rw [intV, h]
set_option maxRecDepth 100000 in
set_option maxHeartbeats 800000 in
theorem refString_any (s : ByteArray) (k : Int) (w : World) (hs : s.size ≤ maxLen) (hk1 : -9223372036854775808 ≤ k) (hk2 : k ≤ 9223372036854775807) :
    Calls Tryd.prog 18 #[.string s, .int .i64 k] w fun e w' => e = .returned (strV s.data.toList k) ∧ Below w.heap.size w w' := by
  have hs' := hs
  unfold maxLen at hs
  have hll : s.data.toList.length = s.size := by simp
  rcases intAt_cases s.data.toList k with ⟨hi, h⟩ | ⟨hi, h⟩ | ⟨n, hi, h1, h2, h3, h4, h5⟩
  · have HV : Hid (strV s.data.toList k = .tuple #[.string ⟨#[]⟩, .int .i64 0, .int .i64 2]) := Lib.hid (by simp [strV, strAt, hi])
    have HIV := Lib.hid (intV_eq hi)
    clear hi h hll
    go_enter Tryd.func18, Tryd.ntmps18
    go_wp2_with (go_at_call 16; refine (refInt_any s k _ hs' hk1 hk2).mono ?_; rintro e w1 ⟨rfl, hb1⟩; rw [HIV.out])
    go_ret3
    exact ⟨by rw [HV.out]; rfl, hb1⟩
  · have HV : Hid (strV s.data.toList k = .tuple #[.string ⟨#[]⟩, .int .i64 0, .int .i64 10]) := Lib.hid (by simp [strV, strAt, hi])
    have HIV := Lib.hid (intV_eq hi)
    clear hi h hll
    go_enter Tryd.func18, Tryd.ntmps18
    go_wp2_with (go_at_call 16; refine (refInt_any s k _ hs' hk1 hk2).mono ?_; rintro e w1 ⟨rfl, hb1⟩; rw [HIV.out])
    go_ret3
    exact ⟨by rw [HV.out]; rfl, hb1⟩
  · have hlp := enc_pos n
    obtain ⟨next, hnext⟩ : ∃ next : Int, next = k + (enc n).length := ⟨_, rfl⟩
    rw [← hnext] at hi h5
    have hn0 : 0 ≤ next := by omega
    unfold maxInt at h1 h2
    have HIV := Lib.hid (intV_eq hi)
    by_cases hc : n < 0 ∨ 65536 < n ∨ (s.size : Int) - next < n
    · have HV : Hid (strV s.data.toList k = .tuple #[.string ⟨#[]⟩, .int .i64 0, .int .i64 10]) := Lib.hid (by simp only [strV, strAt, hi, hll]; rw [if_neg (by simp), if_pos hc])
      clear hi h4 hnext
      rw [hll] at h5
      clear hll
      go_enter Tryd.func18, Tryd.ntmps18
      go_wp2_with (go_at_call 16; refine (refInt_any s k _ hs' hk1 hk2).mono ?_; rintro e w1 ⟨rfl, hb1⟩; rw [HIV.out])
      all_goals go_ret3
      all_goals exact ⟨by rw [HV.out]; rfl, hb1⟩
    · have HV : Hid (strV s.data.toList k = .tuple #[.string ⟨((s.data.toList.drop next.toNat).take n.toNat).toArray⟩, .int .i64 (next + n), .int .i64 0]) := Lib.hid (by simp only [strV, strAt, hi, hll]; rw [if_neg (by simp), if_neg hc])
      clear hi h4 hnext
      rw [hll] at h5
      clear hll
      have a1 : 0 ≤ n := by omega
      have a2 : n ≤ 65536 := by omega
      have a3 : n ≤ s.size - next := by omega
      clear hc
      obtain ⟨n, rfl⟩ := Int.eq_ofNat_of_zero_le a1
      obtain ⟨next, rfl⟩ := Int.eq_ofNat_of_zero_le hn0
      go_enter Tryd.func18, Tryd.ntmps18
      go_wp2_with (go_at_call 16; refine (refInt_any s k _ hs' hk1 hk2).mono ?_; rintro e w1 ⟨rfl, hb1⟩; rw [HIV.out])
      go_ret3
      exact ⟨by rw [HV.out, Int.toNat_natCast, Int.toNat_natCast, ← bext]; rfl, hb1⟩
end Go.Proofs.YtoiikkfhbpeemaaDoor
