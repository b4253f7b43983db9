/-
  The contract of the law WireTruncated: it returns true.
-/
import Derived.Test.YtoiikkfhbpeemaaDoorWalk9
import Derived.Test.YtoiikkfhbpeemaaDoorWireL
import Derived.Deep.DeepCutAuto
namespace Go.Proofs.YtoiikkfhbpeemaaDoor
open Go Go.RowKit Go.Shelf Go.Dial Go.Dial.Wire

theorem ext0 (a : ByteArray) (j : Nat) : (a.extract 0 j).data.toList = a.data.toList.take j := by
  have := bext a 0 j
  rw [Nat.zero_add] at this
  rw [this]; simp

theorem putSV_ok' (t : ByteArray) (h : t.size ≤ 65536) : putSV t.data.toList = .tuple #[.string ⟨(enc t.size ++ t.data.toList).toArray⟩, .int .i64 0] := by
  have e : t.data.toList.length = t.size := by simp
  rw [putSV_ok (by omega), e]

set_option maxRecDepth 100000 in
set_option maxHeartbeats 3200000 in
theorem law5_any (c d : Int) (s : ByteArray) (k : Int) (w : World) (ht : Table w) (hs : s.size ≤ maxLen) (hc1 : -9223372036854775808 ≤ c) (hc2 : c ≤ 9223372036854775807) (hd1 : -9223372036854775808 ≤ d) (hd2 : d ≤ 9223372036854775807) (hk1 : -9223372036854775808 ≤ k) (hk2 : k ≤ 9223372036854775807) :
    Calls Tryd.prog 7 #[.int .i64 c, .int .i64 d, .string s, .int .i64 k] w fun e w' => e = .returned (.bool true) ∧ Below w.heap.size w w' := by
  have hpos := ht.pos
  have HT := Lib.hid ht
  clear ht
  unfold maxLen at hs
  have hm1 := numF_bd c
  have hm2 := numF_bd d
  obtain ⟨m1, e1⟩ : ∃ m, m = numF c := ⟨_, rfl⟩
  obtain ⟨m2, e2⟩ : ∃ m, m = numF d := ⟨_, rfl⟩
  rw [← e1] at hm1
  rw [← e2] at hm2
  have HM1 := Lib.hid e1.symm
  have HM2 := Lib.hid e2.symm
  clear e1 e2
  obtain ⟨a, ha⟩ : ∃ a : ByteArray, a = ⟨(enc m1).toArray⟩ := ⟨_, rfl⟩
  obtain ⟨b, hb⟩ : ∃ a : ByteArray, a = ⟨(enc m2).toArray⟩ := ⟨_, rfl⟩
  have hal : a.data.toList = enc m1 := by rw [ha]
  have hbl : b.data.toList = enc m2 := by rw [hb]
  have hasz : a.size = (enc m1).length := by rw [ha]; rfl
  have hbsz : b.size = (enc m2).length := by rw [hb]; rfl
  have HA := Lib.hid (show putV m1 = .tuple #[.string a, .int .i64 0] by rw [putV_ok hm1.1 hm1.2, ha])
  have HB := Lib.hid (show putV m2 = .tuple #[.string b, .int .i64 0] by rw [putV_ok hm2.1 hm2.2, hb])
  have ha0 : 0 < a.size := by rw [hasz]; exact enc_pos _
  have ha9 : a.size ≤ 9 := by rw [hasz]; exact enc_length _
  have hb9 : b.size ≤ 9 := by rw [hbsz]; exact enc_length _
  have hj := pickN_lt k a.size (by omega)
  obtain ⟨j, hjj⟩ := Int.eq_ofNat_of_zero_le hj.1
  have hj2 : j < a.size := by omega
  have HJ := Lib.hid hjj
  have HI : Hid (intV (a.extract 0 j).data.toList 0 = .tuple #[.int .i64 0, .int .i64 0, .int .i64 10]) := Lib.hid (intV_eq (by
    rw [ext0, hal]; exact intAt_short m1 j hm1.1 hm1.2 (by omega)))
  have hiff := enc_prefix_iff m1 m2 hm1.1 hm1.2 hm2.1 hm2.2
  rw [← hal, ← hbl] at hiff
  simp only [Array.length_toList] at hiff
  change (a.size ≤ b.size ∧ b.data.toList.take a.size = a.data.toList) ↔ m1 = m2 at hiff
  have HIFF := Lib.hid hiff
  clear hj hjj hal hbl hasz hbsz ha hb hiff
  go_enter Tryd.func7, Tryd.ntmps7
  go_wp2_with fail
  refine (sane_any _ HT.out).mono ?_
  rintro e w1 ⟨rfl, hb1⟩
  go_wp2_with fail
  refine (number_any c _ hc1 hc2).mono ?_
  rintro e w2 ⟨rfl, hb2⟩
  rw [HM1.out]
  go_wp2_with fail
  refine (putInt_any m1 _ (by omega) (by omega)).mono ?_
  rintro e w3 ⟨rfl, hb3⟩
  rw [HA.out]
  go_wp2_with fail
  refine (number_any d _ hd1 hd2).mono ?_
  rintro e w4 ⟨rfl, hb4⟩
  rw [HM2.out]
  go_wp2_with fail
  refine (putInt_any m2 _ (by omega) (by omega)).mono ?_
  rintro e w5 ⟨rfl, hb5⟩
  rw [HB.out]
  have hbel : Below w.heap.size w w5 := by
    have h2 := hb1.trans (hb2.mono hb1.size)
    have h3 := h2.trans (hb3.mono h2.size)
    have h4 := h3.trans (hb4.mono h3.size)
    exact h4.trans (hb5.mono h4.size)
  clear hb1 hb2 hb3 hb4 hb5
  go_upto_region 4 with (fail)
  go_cut [14, 15] (fun v er wx => ∃ t : ByteArray, v = .string ⟨(enc t.size ++ t.data.toList).toArray⟩ ∧ er = .int .i64 0 ∧ t.size ≤ 200 ∧ Below w.heap.size w wx)
  case first =>
    have hx : (s.extract 0 200).size ≤ 200 := by simp; omega
    obtain ⟨s', hs'⟩ : ∃ s', s' = s.extract 0 200 := ⟨_, rfl⟩
    rw [← hs'] at hx
    by_cases h200 : s.size ≤ 200
    · clear hs' hx
      go_wp2_with fail
      refine (putString_any s _ (by unfold maxLen; omega)).mono ?_
      rintro e w6 ⟨rfl, hb6⟩
      rw [putSV_ok' s (by omega)]
      go_wp2_with fail
      go_meet
      exact ⟨s, rfl, rfl, by omega, hbel.trans (hb6.mono hbel.size)⟩
    · have HS' := Lib.hid hs'
      clear hs'
      go_wp2_with fail
      rw [← HS'.out]
      refine (putString_any s' _ (by unfold maxLen; omega)).mono ?_
      rintro e w6 ⟨rfl, hb6⟩
      rw [putSV_ok' s' (by omega)]
      go_wp2_with fail
      go_meet
      exact ⟨s', rfl, rfl, by omega, hbel.trans (hb6.mono hbel.size)⟩
  case rest =>
    obtain ⟨t, rfl, rfl, ht, hbx⟩ := hcut
    clear hbel
    obtain ⟨u, hu⟩ : ∃ u : ByteArray, u = ⟨(enc t.size ++ t.data.toList).toArray⟩ := ⟨_, rfl⟩
    rw [← hu]
    have hul : u.data.toList = enc t.size ++ t.data.toList := by rw [hu]
    have husz : u.size = (enc t.size ++ t.data.toList).length := by rw [hu]; rfl
    have hu0 : 0 < u.size := by rw [husz]; have := enc_pos t.size; simp; omega
    have hu1 : u.size ≤ 300 := by rw [husz]; have := enc_length t.size; simp; omega
    have hi := pickN_lt k u.size (by omega)
    obtain ⟨i, hii⟩ := Int.eq_ofNat_of_zero_le hi.1
    have hi2 : i < u.size := by omega
    have HII := Lib.hid hii
    have HS : Hid (strV (u.extract 0 i).data.toList 0 = .tuple #[.string ⟨#[]⟩, .int .i64 0, .int .i64 10]) := Lib.hid (by
      have e : t.data.toList.length = t.size := by simp
      rw [strV, ext0, hul]
      have := strAt_short t.data.toList i (by simp; omega) (by rw [e]; omega)
      rw [e] at this
      rw [this])
    clear hu hul husz hi hii
    have n1 : ((a.size : Int) == 0) = false := by rw [beq_eq_false_iff_ne]; omega
    have n2 : ((u.size : Int) == 0) = false := by rw [beq_eq_false_iff_ne]; omega
    go_wp2_with fail
    refine (pick_any k a.size _ hk1 hk2 (by omega)).mono ?_
    rintro e w6 ⟨rfl, rfl⟩
    rw [HJ.out]
    go_wp2_with fail
    refine (int_any2 (a.extract 0 j) 0 _ (by unfold maxLen; simp; omega) (by omega) (by omega)).mono ?_
    rintro e w6 ⟨rfl, rfl⟩
    rw [HI.out]
    go_wp2_with fail
    refine (pick_any k u.size _ hk1 hk2 (by omega)).mono ?_
    rintro e w6 ⟨rfl, rfl⟩
    rw [HII.out]
    go_wp2_with fail
    refine (string_any (u.extract 0 i) 0 _ (by unfold maxLen; simp; omega) (by omega) (by omega)).mono ?_
    rintro e w6 ⟨rfl, rfl⟩
    rw [HS.out]
    have finish : Below w.heap.size w wc := hbx
    by_cases hle : a.size ≤ b.size
    · by_cases hm : m1 = m2
      · have t1 : ((b.extract 0 a.size).toList == a.toList) = true := by
          rw [beq_iff_eq, ByteArray.toList_eq, ByteArray.toList_eq, ext0]; exact (HIFF.out.2 hm).2
        have t2 : (m1 == m2) = true := by simpa using hm
        have HM := Lib.hid hm
        clear hm
        go_wp2_with fail
        refine (number_any c _ hc1 hc2).mono ?_
        rintro e w7 ⟨rfl, hb7⟩
        rw [HM1.out]
        go_wp2_with fail
        refine (number_any d _ hd1 hd2).mono ?_
        rintro e w8 ⟨rfl, hb8⟩
        rw [HM2.out]
        go_wp2_with fail
        go_ret
        exact ⟨rfl, (hbx.trans (hb7.mono hbx.size)).trans (hb8.mono (Nat.le_trans hbx.size hb7.size))⟩
      · have t1 : ((b.extract 0 a.size).toList == a.toList) = false := by
          rw [beq_eq_false_iff_ne, ByteArray.toList_eq, ByteArray.toList_eq, ext0]; exact fun h => hm (HIFF.out.1 ⟨hle, h⟩)
        have t2 : (m1 == m2) = false := by simpa using hm
        clear hm
        go_wp2_with fail
        refine (number_any c _ hc1 hc2).mono ?_
        rintro e w7 ⟨rfl, hb7⟩
        rw [HM1.out]
        go_wp2_with fail
        refine (number_any d _ hd1 hd2).mono ?_
        rintro e w8 ⟨rfl, hb8⟩
        rw [HM2.out]
        go_wp2_with fail
        go_ret
        exact ⟨rfl, (hbx.trans (hb7.mono hbx.size)).trans (hb8.mono (Nat.le_trans hbx.size hb7.size))⟩
    · have t2 : (m1 == m2) = false := by
        rw [beq_eq_false_iff_ne]; exact fun h => hle (HIFF.out.2 h).1
      go_wp2_with fail
      refine (number_any c _ hc1 hc2).mono ?_
      rintro e w7 ⟨rfl, hb7⟩
      rw [HM1.out]
      go_wp2_with fail
      refine (number_any d _ hd1 hd2).mono ?_
      rintro e w8 ⟨rfl, hb8⟩
      rw [HM2.out]
      go_wp2_with fail
      go_ret
      exact ⟨rfl, (hbx.trans (hb7.mono hbx.size)).trans (hb8.mono (Nat.le_trans hbx.size hb7.size))⟩
end Go.Proofs.YtoiikkfhbpeemaaDoor
