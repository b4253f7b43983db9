/-
  The contracts of Sum (both).
-/
import Derived.Test.YtoiikkfhbpeemaaDoorProg
import Derived.Test.YtoiikkfhbpeemaaDoorBase
import Derived.Test.YtoiikkfhbpeemaaDoorWireC
import Derived.Test.YtoiikkfhbpeemaaDoorWireB
namespace Go.Proofs.YtoiikkfhbpeemaaDoor
open Go Go.RowKit Go.Shelf Go.Dial Go.Dial.Wire

/-- the table, as it lies in memory -/
def Table (w : World) : Prop := ∀ k, k < 16 → w.cell? ⟨0, k, none⟩ = some (.int .u32 (nib.getD k 0 : Nat))

theorem take_snoc (s : ByteArray) (k : Nat) (h : k < s.size) : s.data.toList.take (k + 1) = s.data.toList.take k ++ [s[k]] := by
  rw [List.take_succ_eq_append_getElem (by simpa using h)]; rfl
theorem nib_lt (m : Nat) (h : m < 16) : nib.getD m 0 < 4294967296 := by
  have : ∀ m : Fin 16, nib.getD m.1 0 < 4294967296 := by decide
  exact this ⟨m, h⟩
theorem and15_u32 (r : Nat) (h : r < 4294967296) : bits .and .u32 (r : Int) 15 = ((r % 16 : Nat) : Int) := by
  rw [show (15 : Int) = ((15 : Nat) : Int) from rfl, u32_and_nat _ _ h (by omega), nat_mask4]

set_option maxHeartbeats 800000 in
theorem sum_any (s : ByteArray) (w : World) (hs : s.size ≤ maxLen) (ht : Table w) :
    Calls Tryd.prog 21 #[.string s] w fun e w' => e = .returned (.int .i64 (sumN s.data.toList)) ∧ w = w' := by
  unfold maxLen at hs
  have HT := Lib.hid ht
  clear ht
  go_enter Tryd.func21, Tryd.ntmps21
  go_wp2
  go_loop [3, 7] (fun r i => ∃ k rn : Nat, k ≤ s.size ∧ i = .int .i64 k ∧ r = .int .u32 rn ∧ rn = crc 4294967295 (s.data.toList.take k)) (fun _ i => s.size - (intOf i).toNat)
  case atStart => exact ⟨0, 4294967295, by omega, rfl, rfl, rfl⟩
  case round =>
    obtain ⟨k, rn, hk, rfl, rfl, hr⟩ := hrel
    have hrl : rn < 4294967296 := by rw [hr]; exact crc_lt _ _ (by omega)
    by_cases hlt : k < s.size
    · have hb := s[k].toNat_lt
      have hsn := take_snoc s k hlt
      have hrs : crc 4294967295 (s.data.toList.take (k + 1)) = crcByte rn s[k].toNat := by rw [hsn, crc_snoc, ← hr]
      have E0 := u32_xor_nat rn s[k].toNat hrl (by omega)
      unfold crcByte at hrs
      obtain ⟨x, hx⟩ : ∃ x, x = rn ^^^ s[k].toNat := ⟨_, rfl⟩
      have hxl : x < 4294967296 := by rw [hx]; exact Nat.xor_lt_two_pow (n := 32) hrl (by omega)
      rw [← hx] at E0 hrs
      have E1 := and15_u32 x hxl
      obtain ⟨m, hm⟩ : ∃ m, m = x % 16 := ⟨_, rfl⟩
      have hm16 : m < 16 := by omega
      rw [← hm] at E1
      have c1 := HT.out m hm16
      have hy0 : (x / 16) ^^^ nib.getD m 0 = crcIter 4 x := by rw [hm]; exact nib_step x
      have htl := nib_lt m hm16
      obtain ⟨t1, ht1⟩ : ∃ t1, t1 = nib.getD m 0 := ⟨_, rfl⟩
      rw [← ht1] at c1 hy0 htl
      have E2 := u32_xor_nat (x / 16) t1 (by omega) htl
      rw [hy0] at E2
      have hyl := crcIter_lt 4 x hxl
      rw [show crcIter 8 x = crcIter 4 (crcIter 4 x) from crcIter_add 4 4 x] at hrs
      obtain ⟨y, hy⟩ : ∃ y, y = crcIter 4 x := ⟨_, rfl⟩
      rw [← hy] at E2 hyl hrs
      have E3 := and15_u32 y hyl
      obtain ⟨m2, hm2⟩ : ∃ m, m = y % 16 := ⟨_, rfl⟩
      have hm216 : m2 < 16 := by omega
      rw [← hm2] at E3
      have c2 := HT.out m2 hm216
      have hy2 : (y / 16) ^^^ nib.getD m2 0 = crcIter 4 y := by rw [hm2]; exact nib_step y
      have htl2 := nib_lt m2 hm216
      obtain ⟨t2, ht2⟩ : ∃ t1, t1 = nib.getD m2 0 := ⟨_, rfl⟩
      rw [← ht2] at c2 hy2 htl2
      have E4 := u32_xor_nat (y / 16) t2 (by omega) htl2
      rw [hy2] at E4
      obtain ⟨z, hz⟩ : ∃ z, z = crcIter 4 y := ⟨_, rfl⟩
      rw [← hz] at E4 hrs
      have HR := Lib.hid hrs
      clear hrs hz hy2 ht2 hm2 hy hy0 ht1 hm hx hr hsn
      have E2' : bits .xor .u32 ((x : Int) / 16) (t1 : Int) = (y : Int) := by rw [show (x : Int) / 16 = ((x / 16 : Nat) : Int) by omega]; exact E2
      have E4' : bits .xor .u32 ((y : Int) / 16) (t2 : Int) = (z : Int) := by rw [show (y : Int) / 16 = ((y / 16 : Nat) : Int) by omega]; exact E4
      clear E2 E4
      go_wp2
      go_round
      case rel => exact ⟨k + 1, z, by omega, by go_num, rfl, HR.out.symm⟩
      case measure => simp [intOf]; omega
    · have hk' : k = s.size := by omega
      have hr2 : crc 4294967295 s.data.toList = rn := by rw [hr, List.take_of_length_le (by simp; omega)]
      have hmx : IntKind.u32.max = 4294967295 := rfl
      have hvl := sumN_lt s.data.toList
      have E0 : bits .xor .u32 4294967295 (rn : Int) = ((4294967295 ^^^ rn : Nat) : Int) := u32_xor_nat 4294967295 rn (by omega) hrl
      obtain ⟨v, hv⟩ : ∃ v, v = sumN s.data.toList := ⟨_, rfl⟩
      rw [show (4294967295 ^^^ rn) = v by rw [hv, sumN, hr2]] at E0
      rw [← hv] at hvl
      have HV := Lib.hid hv
      have E5 : wrap64 (v : Int) = v := IntWalk.wrap64_in _ ⟨by omega, by omega⟩
      clear hr hr2 hk' hv
      go_wp2
      go_ret
      exact ⟨by rw [← HV.out]; rfl, rfl⟩

set_option maxHeartbeats 800000 in
theorem refSum_any (s : ByteArray) (w : World) (hs : s.size ≤ maxLen) :
    Calls Tryd.prog 22 #[.string s] w fun e w' => e = .returned (.int .i64 (sumN s.data.toList)) ∧ w = w' := by
  unfold maxLen at hs
  go_enter Tryd.func22, Tryd.ntmps22
  go_wp2
  go_loop [3, 4] (fun r i => ∃ k rn : Nat, k ≤ s.size ∧ i = .int .i64 k ∧ r = .int .u32 rn ∧ rn = crc 4294967295 (s.data.toList.take k)) (fun _ i => s.size - (intOf i).toNat)
  case atStart => exact ⟨0, 4294967295, by omega, rfl, rfl, rfl⟩
  case round =>
    obtain ⟨k, rn, hk, rfl, rfl, hr⟩ := hrel
    have hrl : rn < 4294967296 := by rw [hr]; exact crc_lt _ _ (by omega)
    by_cases hlt : k < s.size
    · have hb := s[k].toNat_lt
      have hsn := take_snoc s k hlt
      have hrs : crc 4294967295 (s.data.toList.take (k + 1)) = crcByte rn s[k].toNat := by rw [hsn, crc_snoc, ← hr]
      have E0 := u32_xor_nat rn s[k].toNat hrl (by omega)
      unfold crcByte at hrs
      obtain ⟨x, hx⟩ : ∃ x, x = rn ^^^ s[k].toNat := ⟨_, rfl⟩
      have hxl : x < 4294967296 := by rw [hx]; exact Nat.xor_lt_two_pow (n := 32) hrl (by omega)
      rw [← hx] at E0 hrs
      have HR := Lib.hid hrs
      clear hrs hx hr hsn
      go_wp2
      go_loop [3, 5, 6] (fun r i o => ∃ j yn : Nat, j ≤ 8 ∧ i = .int .i64 j ∧ r = .int .u32 yn ∧ yn = crcIter j x) (fun _ i _ => 8 - (intOf i).toNat)
      case atStart => exact ⟨0, x, by omega, rfl, rfl, rfl⟩
      case round =>
        obtain ⟨j, yn, hj, rfl, rfl, hy⟩ := hrel
        have hyl : yn < 4294967296 := by rw [hy]; exact crcIter_lt _ _ hxl
        by_cases hj8 : j < 8
        · have hys : crcIter (j + 1) x = crcStep yn := by rw [crcIter_succ, hy]
          unfold crcStep at hys
          have E1 : bits .xor .u32 ((yn : Int) / 2) 2197175160 = ((yn / 2 ^^^ 2197175160 : Nat) : Int) := by
            rw [show (yn : Int) / 2 = ((yn / 2 : Nat) : Int) by omega]; exact u32_xor_nat _ 2197175160 (by omega) (by omega)
          by_cases hp : yn % 2 = 1
          · rw [if_pos hp] at hys
            have t1 : ((yn : Int) % 2 == 1) = true := by simp; omega
            obtain ⟨zn, hz⟩ : ∃ z, z = yn / 2 ^^^ 2197175160 := ⟨_, rfl⟩
            rw [← hz] at hys E1
            have HY := Lib.hid hys
            clear hz hys hp hy
            go_wp2
            go_round
            case rel => exact ⟨j + 1, zn, by omega, by go_num, rfl, HY.out.symm⟩
            case measure => simp [intOf]; omega
          · rw [if_neg hp] at hys
            have t1 : ((yn : Int) % 2 == 1) = false := by simp; omega
            have HY := Lib.hid hys
            clear hys hp hy
            go_wp2
            go_round
            case rel => exact ⟨j + 1, yn / 2, by omega, by go_num, by go_num, HY.out.symm⟩
            case measure => simp [intOf]; omega
        · have h8 : j = 8 := by omega
          have hy8 : crc 4294967295 (s.data.toList.take (k + 1)) = yn := by rw [HR.out, hy, h8]
          have HY := Lib.hid hy8
          clear hy8 h8 hy
          go_wp2
          go_round
          case rel => exact ⟨k + 1, yn, by omega, by go_num, rfl, HY.out.symm⟩
          case measure => simp [intOf]; omega
    · have hk' : k = s.size := by omega
      have hr2 : crc 4294967295 s.data.toList = rn := by rw [hr, List.take_of_length_le (by simp; omega)]
      have hmx : IntKind.u32.max = 4294967295 := rfl
      have hvl := sumN_lt s.data.toList
      have E0 : bits .xor .u32 4294967295 (rn : Int) = ((4294967295 ^^^ rn : Nat) : Int) := u32_xor_nat 4294967295 rn (by omega) hrl
      obtain ⟨v, hv⟩ : ∃ v, v = sumN s.data.toList := ⟨_, rfl⟩
      rw [show (4294967295 ^^^ rn) = v by rw [hv, sumN, hr2]] at E0
      rw [← hv] at hvl
      have HV := Lib.hid hv
      have E5 : wrap64 (v : Int) = v := IntWalk.wrap64_in _ ⟨by omega, by omega⟩
      clear hr hr2 hk' hv
      go_wp2
      go_ret
      exact ⟨by rw [← HV.out]; rfl, rfl⟩
end Go.Proofs.YtoiikkfhbpeemaaDoor
