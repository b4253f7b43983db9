/-
  The contract of wire.Int: it returns what the decoder on lists of bytes gives.
-/
import Derived.Test.YtoiikkfhbpeemaaDoorProg
import Derived.Test.YtoiikkfhbpeemaaDoorBase
import Derived.Test.YtoiikkfhbpeemaaDoorWireM
import Derived.Test.YtoiikkfhbpeemaaDoorWireB
namespace Go.Proofs.YtoiikkfhbpeemaaDoor
open Go Go.RowKit Go.Dial Go.Dial.Wire
theorem intAt_some {l : List UInt8} {k : Nat} {n : Int} {j : Nat} (h : k ≤ l.length) (hd : dec 9 0 0 (l.drop k) = some (n, j)) : intAt l k = (n, (k : Int) + j, 0) := by
  unfold intAt; rw [if_neg (by omega), Int.toNat_natCast, hd]
theorem intAt_none {l : List UInt8} {k : Nat} (h : k ≤ l.length) (hd : dec 9 0 0 (l.drop k) = none) : intAt l k = (0, 0, 10) := by
  unfold intAt; rw [if_neg (by omega), Int.toNat_natCast, hd]
theorem ret3 {a a' b b' c c' : Int} (h : (a', b', c') = (a, b, c)) : Ending.returned (.tuple #[.int .i64 a, .int .i64 b, .int .i64 c]) = .returned (.tuple #[.int .i64 a', .int .i64 b', .int .i64 c']) := by
  simp only [Prod.mk.injEq] at h; obtain ⟨rfl, rfl, rfl⟩ := h; rfl
theorem drop_cons {s : ByteArray} {j : Nat} (h : j < s.size) : s.data.toList.drop j = s[j] :: s.data.toList.drop (j + 1) := by
  rw [List.drop_eq_getElem_cons (by simpa using h)]; rfl
theorem unzz_eq (z : Nat) (h : z < 9223372036854775808) : bits .xor .i64 ((z : Int) / 2) (-((z % 2 : Nat) : Int)) = unzz z := by
  unfold unzz
  have e : (z : Int) / 2 = ((z / 2 : Nat) : Int) := by omega
  rw [e]
  split
  · rename_i h1; rw [h1]; exact xor_i64_m1 _ (by omega)
  · rename_i h1; rw [show z % 2 = 0 by omega]; exact xor_i64_0 _ (by omega)
set_option maxRecDepth 100000 in
set_option maxHeartbeats 800000 in
theorem int_any (s : ByteArray) (k : Int) (w : World) (hs : s.size ≤ maxLen) (hk1 : -9223372036854775808 ≤ k) (hk2 : k ≤ 9223372036854775807) :
    Calls Tryd.prog 15 #[.string s, .int .i64 k] w fun e w' => e = .returned (.tuple #[.int .i64 (intAt s.data.toList k).1, .int .i64 (intAt s.data.toList k).2.1, .int .i64 (intAt s.data.toList k).2.2]) ∧ w = w' := by
  unfold maxLen at hs
  by_cases h1 : k < 0
  · go_enter Tryd.func15, Tryd.ntmps15
    go_wp2
    go_ret3
    exact ⟨by simp [intAt, h1], rfl⟩
  by_cases h2 : (s.size : Int) < k
  · go_enter Tryd.func15, Tryd.ntmps15
    go_wp2
    go_ret3
    exact ⟨by simp [intAt, h2], rfl⟩
  obtain ⟨k, rfl⟩ := Int.eq_ofNat_of_zero_le (by omega : 0 ≤ k)
  have hlen : k ≤ s.data.toList.length := by simp; show k ≤ s.size; omega
  go_enter Tryd.func15, Tryd.ntmps15
  go_wp2
  go_loop [7, 19] (fun z i => ∃ j zn : Nat, j ≤ 9 ∧ k + j ≤ s.size ∧ i = .int .i64 j ∧ z = .int .u64 zn ∧ zn < 128 ^ j ∧ dec 9 0 0 (s.data.toList.drop k) = dec (9 - j) j zn (s.data.toList.drop (k + j))) (fun _ i => 9 - (intOf i).toNat)
  case atStart => exact ⟨0, 0, by omega, by omega, rfl, rfl, by omega, rfl⟩
  case round =>
    obtain ⟨j, zn, hj, hkj, rfl, rfl, hz, hd⟩ := hrel
    by_cases hj9 : j < 9
    · by_cases hend : k + j < s.size
      · rw [drop_cons hend, show 9 - j = 9 - (j + 1) + 1 by omega, dec] at hd
        have hb := s[k + j].toNat_lt
        obtain ⟨x, hx⟩ : ∃ x, x = s[k + j].toNat % 128 := ⟨_, rfl⟩
        have hx1 : x < 128 := by omega
        have E0 := and127_u8 s[k + j].toNat hb
        rw [← hx] at E0 hd
        have E1 := shl_u64 j x hx1 (by omega)
        have E2 := or_u64 j zn x hz hx1 (by omega)
        have hz1 : zn + x * 128 ^ j < 128 ^ (j + 1) := by
          rw [Nat.pow_succ]
          have : x * 128 ^ j ≤ 127 * 128 ^ j := Nat.mul_le_mul_right _ (by omega)
          omega
        have hz2 : zn + x * 128 ^ j < 9223372036854775808 := Nat.lt_of_lt_of_le hz1 (Nat.le_trans (Nat.pow_le_pow_right (by omega) (show j + 1 ≤ 9 by omega)) (by decide))
        obtain ⟨y, hy⟩ : ∃ y, y = x * 128 ^ j := ⟨_, rfl⟩
        rw [← hy] at E1 E2 hz1 hz2 hd
        obtain ⟨z, hzz⟩ : ∃ z, z = zn + y := ⟨_, rfl⟩
        rw [← hzz] at E2 hz1 hz2 hd
        have E3 := and1_u64 z (by omega)
        have E4 := unzz_eq z hz2
        obtain ⟨p, hp⟩ : ∃ p, p = z % 2 := ⟨_, rfl⟩
        rw [← hp] at E3 E4
        have hp1 : p ≤ 1 := by omega
        have HZ := Lib.hid hz1
        clear hz1 hz hx hy hzz hp
        by_cases hc : 128 ≤ s[k + j].toNat
        · rw [if_pos hc] at hd
          have HD := Lib.hid hd
          clear hd
          go_wp2
          go_round
          case rel => exact ⟨j + 1, z, by omega, by omega, by go_num, rfl, HZ.out, by rw [HD.out]; rfl⟩
          case measure => simp [intOf]; omega
        · rw [if_neg hc] at hd
          by_cases hb0 : s[k + j].toNat = 0 ∧ 0 < j
          · rw [if_pos hb0] at hd
            have HD := Lib.hid hd
            have t0 : (((s[k + j].toNat : Nat) : Int) == 0) = true := by simp [hb0.1]
            have t1 : 0 < j := hb0.2
            clear hd hb0
            go_wp2
            go_ret3
            exact ⟨ret3 (intAt_none hlen HD.out), rfl⟩
          · rw [if_neg hb0] at hd
            by_cases hu : unzz z < -maxInt
            · rw [if_pos hu] at hd
              have HD := Lib.hid hd
              have hu' : unzz z < -4611686018427387903 := hu
              by_cases h0 : s[k + j].toNat = 0
              · have t0 : (((s[k + j].toNat : Nat) : Int) == 0) = true := by simp [h0]
                have t1 : j ≤ 0 := by omega
                clear hd hb0 h0
                go_wp2
                go_ret3
                exact ⟨ret3 (intAt_none hlen HD.out), rfl⟩
              · have t0 : (((s[k + j].toNat : Nat) : Int) == 0) = false := by simp [h0]
                clear hd hb0 h0
                go_wp2
                go_ret3
                exact ⟨ret3 (intAt_none hlen HD.out), rfl⟩
            · rw [if_neg hu] at hd
              have HD := Lib.hid hd
              have hu' : -4611686018427387903 ≤ unzz z := by unfold maxInt at hu; omega
              by_cases h0 : s[k + j].toNat = 0
              · have t0 : (((s[k + j].toNat : Nat) : Int) == 0) = true := by simp [h0]
                have t1 : j ≤ 0 := by omega
                clear hd hb0 h0 hu
                go_wp2
                go_ret3
                exact ⟨ret3 ((intAt_some hlen HD.out).trans (by simp; omega)), rfl⟩
              · have t0 : (((s[k + j].toNat : Nat) : Int) == 0) = false := by simp [h0]
                clear hd hb0 h0 hu
                go_wp2
                go_ret3
                exact ⟨ret3 ((intAt_some hlen HD.out).trans (by simp; omega)), rfl⟩
      · have hd' : dec 9 0 0 (s.data.toList.drop k) = none := by
          rw [hd, List.drop_eq_nil_of_le (by simp; show s.size ≤ _; omega)]
          rw [show 9 - j = 9 - (j + 1) + 1 by omega]; rfl
        have HD := Lib.hid hd'
        clear hd hd' hz
        go_wp2
        go_ret3
        exact ⟨ret3 (intAt_none hlen HD.out), rfl⟩
    · have hd' : dec 9 0 0 (s.data.toList.drop k) = none := by
        rw [hd, show 9 - j = 0 by omega]; rfl
      have HD := Lib.hid hd'
      clear hd hd' hz
      go_wp2
      go_ret3
      exact ⟨ret3 (intAt_none hlen HD.out), rfl⟩
end Go.Proofs.YtoiikkfhbpeemaaDoor
