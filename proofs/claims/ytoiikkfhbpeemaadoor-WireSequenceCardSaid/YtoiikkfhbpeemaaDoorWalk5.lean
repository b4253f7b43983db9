/-
  The contracts of PutString (both) and wire.String.
-/
import Derived.Test.YtoiikkfhbpeemaaDoorWalk4
namespace Go.Proofs.YtoiikkfhbpeemaaDoor
open Go Go.RowKit Go.Shelf Go.Dial Go.Dial.Wire

theorem bapp (l : List UInt8) (s : ByteArray) : (⟨l.toArray⟩ : ByteArray) ++ s = ⟨(l ++ s.data.toList).toArray⟩ := by
  apply ByteArray.ext; rw [ByteArray.data_append]; simp
theorem bext (s : ByteArray) (a n : Nat) : s.extract a (a + n) = ⟨((s.data.toList.drop a).take n).toArray⟩ := by
  apply ByteArray.ext
  rw [ByteArray.data_extract]
  apply Array.ext'
  rw [Array.toList_extract, List.extract_eq_take_drop]
  simp
theorem bsize (l : List UInt8) : (⟨l.toArray⟩ : ByteArray).size = l.length := rfl
def putSV (l : List UInt8) : Value := .tuple #[.string ⟨(putStr l).1.toArray⟩, .int .i64 (putStr l).2]
theorem putSV_bad {l : List UInt8} (h : 65536 < l.length) : putSV l = .tuple #[.string ⟨#[]⟩, .int .i64 10] := by simp [putSV, putStr, h]
theorem putSV_ok {l : List UInt8} (h : l.length ≤ 65536) : putSV l = .tuple #[.string ⟨(enc l.length ++ l).toArray⟩, .int .i64 0] := by
  simp [putSV, putStr, if_neg (show ¬ 65536 < l.length by omega)]
theorem putV_ok {n : Int} (h1 : -4611686018427387903 ≤ n) (h2 : n ≤ 4611686018427387903) : putV n = .tuple #[.string ⟨(enc n).toArray⟩, .int .i64 0] := by
  simp [putV, putInt_ok h1 h2]

set_option maxHeartbeats 400000 in
theorem putString_any (s : ByteArray) (w : World) (hs : s.size ≤ maxLen) :
    Calls Tryd.prog 19 #[.string s] w fun e w' => e = .returned (putSV s.data.toList) ∧ Below w.heap.size w w' := by
  unfold maxLen at hs
  by_cases h : 65536 < s.size
  · have HP := Lib.hid (putSV_bad (l := s.data.toList) (by simpa using h))
    go_enter Tryd.func19, Tryd.ntmps19
    go_wp2
    go_ret2
    exact ⟨by rw [HP.out]; rfl, Below.refl _ _⟩
  · have HP := Lib.hid (putSV_ok (l := s.data.toList) (by simpa using h))
    have HV := Lib.hid (putV_ok (n := s.size) (by omega) (by omega))
    have hel := enc_length s.size
    go_enter Tryd.func19, Tryd.ntmps19
    go_wp2_with (go_at_call 12; refine (putInt_any _ _ (by omega) (by omega)).mono ?_; rintro e w1 ⟨rfl, hb1⟩; rw [HV.out])
    go_ret2
    exact ⟨by rw [HP.out, ← bapp]; rfl, hb1⟩

set_option maxHeartbeats 400000 in
theorem refPutString_any (s : ByteArray) (w : World) (hs : s.size ≤ maxLen) :
    Calls Tryd.prog 20 #[.string s] w fun e w' => e = .returned (putSV s.data.toList) ∧ Below w.heap.size w w' := by
  unfold maxLen at hs
  by_cases h : 65536 < s.size
  · have HP := Lib.hid (putSV_bad (l := s.data.toList) (by simpa using h))
    go_enter Tryd.func20, Tryd.ntmps20
    go_wp2
    go_ret2
    exact ⟨by rw [HP.out]; rfl, Below.refl _ _⟩
  · have HP := Lib.hid (putSV_ok (l := s.data.toList) (by simpa using h))
    have HV := Lib.hid (putV_ok (n := s.size) (by omega) (by omega))
    have hel := enc_length s.size
    go_enter Tryd.func20, Tryd.ntmps20
    go_wp2_with (go_at_call 13; refine (refPutInt_any _ _).mono ?_; rintro e w1 ⟨rfl, hb1⟩; rw [HV.out])
    go_ret2
    exact ⟨by rw [HP.out, ← bapp]; rfl, hb1⟩

def strV (l : List UInt8) (k : Int) : Value := .tuple #[.string ⟨(strAt l k).1.toArray⟩, .int .i64 (strAt l k).2.1, .int .i64 (strAt l k).2.2]
def intV (l : List UInt8) (k : Int) : Value := .tuple #[.int .i64 (intAt l k).1, .int .i64 (intAt l k).2.1, .int .i64 (intAt l k).2.2]

/-- what Int returns is within bounds -/
theorem intAt_cases (l : List UInt8) (k : Int) :
    (intAt l k = (0, 0, 2) ∧ (k < 0 ∨ (l.length : Int) < k)) ∨ (intAt l k = (0, 0, 10) ∧ 0 ≤ k ∧ k ≤ l.length) ∨
    (∃ n : Int, intAt l k = (n, k + (enc n).length, 0) ∧ -maxInt ≤ n ∧ n ≤ maxInt ∧ 0 ≤ k ∧ enc n <+: l.drop k.toNat ∧ k + (enc n).length ≤ l.length) := by
  unfold intAt
  split
  · exact .inl ⟨rfl, by assumption⟩
  · rename_i h
    cases hd : dec 9 0 0 (l.drop k.toNat) with
    | none => exact .inr (.inl ⟨rfl, by omega, by omega⟩)
    | some p =>
      obtain ⟨n, j⟩ := p
      obtain ⟨h1, h2, h3, h4⟩ := (dec_iff _ _ _).1 hd
      have := h3.length_le
      simp at this
      exact .inr (.inr ⟨n, by rw [h4], h1, h2, by omega, h3, by omega⟩)

set_option maxRecDepth 100000 in
set_option maxHeartbeats 800000 in
theorem string_any (s : ByteArray) (k : Int) (w : World) (hs : s.size ≤ maxLen) (hk1 : -9223372036854775808 ≤ k) (hk2 : k ≤ 9223372036854775807) :
    Calls Tryd.prog 17 #[.string s, .int .i64 k] w fun e w' => e = .returned (strV s.data.toList k) ∧ w = w' := by
  have hs' := hs
  unfold maxLen at hs
  have hll : s.data.toList.length = s.size := by simp
  rcases intAt_cases s.data.toList k with ⟨hi, h⟩ | ⟨hi, h⟩ | ⟨n, hi, h1, h2, h3, h4, h5⟩
  · have HV : Hid (strV s.data.toList k = .tuple #[.string ⟨#[]⟩, .int .i64 0, .int .i64 2]) := Lib.hid (by simp [strV, strAt, hi])
    have HI := Lib.hid hi
    clear hi h hll
    go_enter Tryd.func17, Tryd.ntmps17
    go_wp2_with (go_at_call 15; refine (int_any s k _ hs' hk1 hk2).mono ?_; rintro e w1 ⟨rfl, rfl⟩; rw [HI.out])
    go_ret3
    exact ⟨by rw [HV.out]; rfl, rfl⟩
  · have HV : Hid (strV s.data.toList k = .tuple #[.string ⟨#[]⟩, .int .i64 0, .int .i64 10]) := Lib.hid (by simp [strV, strAt, hi])
    have HI := Lib.hid hi
    clear hi h hll
    go_enter Tryd.func17, Tryd.ntmps17
    go_wp2_with (go_at_call 15; refine (int_any s k _ hs' hk1 hk2).mono ?_; rintro e w1 ⟨rfl, rfl⟩; rw [HI.out])
    go_ret3
    exact ⟨by rw [HV.out]; rfl, rfl⟩
  · have hlp := enc_pos n
    obtain ⟨next, hnext⟩ : ∃ next : Int, next = k + (enc n).length := ⟨_, rfl⟩
    rw [← hnext] at hi h5
    have hn0 : 0 ≤ next := by omega
    unfold maxInt at h1 h2
    have HI := Lib.hid hi
    by_cases hc : n < 0 ∨ 65536 < n ∨ (s.size : Int) - next < n
    · have HV : Hid (strV s.data.toList k = .tuple #[.string ⟨#[]⟩, .int .i64 0, .int .i64 10]) := Lib.hid (by simp only [strV, strAt, hi, hll]; rw [if_neg (by simp), if_pos hc])
      clear hi h4 hnext
      rw [hll] at h5
      clear hll
      go_enter Tryd.func17, Tryd.ntmps17
      go_wp2_with (go_at_call 15; refine (int_any s k _ hs' hk1 hk2).mono ?_; rintro e w1 ⟨rfl, rfl⟩; rw [HI.out])
      all_goals go_ret3
      all_goals exact ⟨by rw [HV.out]; rfl, rfl⟩
    · have HV : Hid (strV s.data.toList k = .tuple #[.string ⟨((s.data.toList.drop next.toNat).take n.toNat).toArray⟩, .int .i64 (next + n), .int .i64 0]) := Lib.hid (by simp only [strV, strAt, hi, hll]; rw [if_neg (by simp), if_neg hc])
      clear hi h4 hnext
      rw [hll] at h5
      clear hll
      have a1 : 0 ≤ n := by omega
      have a2 : n ≤ 65536 := by omega
      have a3 : n ≤ s.size - next := by omega
      clear hc
      obtain ⟨n, rfl⟩ := Int.eq_ofNat_of_zero_le a1
      obtain ⟨next, rfl⟩ := Int.eq_ofNat_of_zero_le hn0
      go_enter Tryd.func17, Tryd.ntmps17
      go_wp2_with (go_at_call 15; refine (int_any s k _ hs' hk1 hk2).mono ?_; rintro e w1 ⟨rfl, rfl⟩; rw [HI.out])
      go_ret3
      exact ⟨by rw [HV.out, Int.toNat_natCast, Int.toNat_natCast, ← bext]; rfl, rfl⟩
end Go.Proofs.YtoiikkfhbpeemaaDoor
