/-
  The contract of the law WireUnique: it returns true.
-/
import Derived.Test.YtoiikkfhbpeemaaDoorLaw1
import Derived.Test.YtoiikkfhbpeemaaDoorWireL
import Derived.Deep.DeepCutAuto
namespace Go.Proofs.YtoiikkfhbpeemaaDoor
open Go Go.RowKit Go.Shelf Go.Dial Go.Dial.Wire

theorem conv1 (b : Int) (wx : World) : (convert 38 9 (.slice (some ⟨wx.heap.size, 0, none⟩) 1 1)).run Tryd.prog (wx.alloc (.cells #[.int .u8 b] 5)) = .ok (.string ⟨#[UInt8.ofNat b.toNat]⟩) (wx.alloc (.cells #[.int .u8 b] 5)) := by
  have := run_convert_bytes_arg (P := Tryd.prog) (wx.alloc (.cells #[.int .u8 b] 5)) 38 5 Tryd.underlying38 Tryd.underlying5 wx.heap.size 0 1 1 [b] rfl (by
    intro i hi
    obtain rfl : i = 0 := by omega
    rw [World.cell?_alloc_new]; rfl) 9 Tryd.underlying9
  rw [this]; rfl
theorem conv1d (b : Int) (wx : World) : (convert 38 9 (.slice (some ⟨wx.heap.size, 0, none⟩) 1 1)).run Tryd.prog (wx.alloc (.cells #[.int .u8 b] 5)).drew = .ok (.string ⟨#[UInt8.ofNat b.toNat]⟩) (wx.alloc (.cells #[.int .u8 b] 5)).drew := conv1 b wx.drew

theorem ext_eq (t : ByteArray) (x r : Nat) (h : x ≤ r) : (t.extract x r).toList = (t.data.toList.drop x).take (r - x) := by
  have := bext t x (r - x)
  rw [show x + (r - x) = r by omega] at this
  rw [this, ByteArray.toList_eq]
theorem intV_or (t : ByteArray) (x : Nat) (h : x ≤ t.size) : intV t.data.toList x = .tuple #[.int .i64 0, .int .i64 0, .int .i64 10] ∨
    ∃ (n : Int) (r : Nat), intV t.data.toList x = .tuple #[.int .i64 n, .int .i64 r, .int .i64 0] ∧ -4611686018427387903 ≤ n ∧ n ≤ 4611686018427387903 ∧ x ≤ r ∧ r ≤ t.size ∧ ((t.extract x r).toList == enc n) = true := by
  rcases intAt_or t.data.toList x (by simpa using h) with h | ⟨n, r, h1, h2, h3, h4, h5, h6⟩
  · exact .inl (by rw [intV, h])
  · exact .inr ⟨n, r, by rw [intV, h1], h2, h3, h4, by simpa using h5, by rw [beq_iff_eq, ext_eq _ _ _ h4, h6]⟩
theorem strV_or (t : ByteArray) (x : Nat) (h : x ≤ t.size) : strV t.data.toList x = .tuple #[.string ⟨#[]⟩, .int .i64 0, .int .i64 10] ∨
    ∃ (v : ByteArray) (r : Nat), strV t.data.toList x = .tuple #[.string v, .int .i64 r, .int .i64 0] ∧ v.size ≤ 65536 ∧ x ≤ r ∧ r ≤ t.size ∧ ((t.extract x r).toList == enc v.size ++ v.data.toList) = true := by
  rcases strAt_or t.data.toList x (by simpa using h) with h | ⟨n, r, h1, h2, h4, h5, h6⟩
  · exact .inl (by rw [strV, h])
  · exact .inr ⟨⟨n.toArray⟩, r, by rw [strV, h1], h2, h4, by simpa using h5, by rw [beq_iff_eq, ext_eq _ _ _ h4, h6]; rfl⟩

set_option maxRecDepth 100000 in
set_option maxHeartbeats 3200000 in
theorem law3_any (s : ByteArray) (k : Int) (b : Int) (w : World) (ht : Table w) (hs : s.size ≤ maxLen) (hk1 : -9223372036854775808 ≤ k) (hk2 : k ≤ 9223372036854775807) :
    Calls Tryd.prog 5 #[.string s, .int .i64 k, .int .u8 b] w fun e w' => e = .returned (.bool true) ∧ Below w.heap.size w w' := by
  have hpos := ht.pos
  have HT := Lib.hid ht
  clear ht
  unfold maxLen at hs
  go_enter Tryd.func5, Tryd.ntmps5
  go_upto_region 2 with (go_at_call 10; refine (sane_any _ HT.out).mono ?_; rintro e w1 ⟨rfl, hbw⟩)
  go_cut [8] (fun v wx => ∃ t : ByteArray, v = .string t ∧ t.size ≤ 301 ∧ Below w.heap.size w wx)
  case first =>
    by_cases hs3 : s.size ≤ 300
    · have k1 := conv1 b
      have k2 := conv1d b
      go_region
      all_goals go_wp2_with fail
      all_goals go_meet
      all_goals exact ⟨_, rfl, by simp [ByteArray.size_append, bsize]; omega, (hbw.alloc hbw.size _).drew⟩
    · have k1 := conv1 b
      have k2 := conv1d b
      go_region
      all_goals go_wp2_with fail
      all_goals go_meet
      all_goals exact ⟨_, rfl, by simp [ByteArray.size_append, bsize]; omega, (hbw.alloc hbw.size _).drew⟩
  case rest =>
    obtain ⟨t, rfl, ht, hb⟩ := hcut
    clear hbw
    go_wp2_with fail
    refine (pick_any k _ _ hk1 hk2 (by omega)).mono ?_
    rintro e w3 ⟨rfl, rfl⟩
    have hpb := pickN_lt k ((t.size : Int) + 1) (by omega)
    obtain ⟨q, hq⟩ : ∃ q, q = pickN k ((t.size : Int) + 1) := ⟨_, rfl⟩
    rw [← hq] at hpb ⊢
    clear hq
    go_wp2_with fail
    obtain ⟨W0, hW0⟩ : ∃ W0, wc.alloc (.cells #[.int .i64 0, .int .i64 q] 3) = W0 := ⟨_, rfl⟩
    have hc : ∀ j, j < 2 → W0.cell? ⟨wc.heap.size, j, none⟩ = some (.int .i64 (arr2 0 q j)) := fun j hj => by rw [← hW0]; exact arr2_cell wc 0 q j hj
    have hb4 : Below w.heap.size w W0 := by rw [← hW0]; exact hb.alloc hb.size _
    have hz : wc.heap.size < W0.heap.size := by rw [← hW0]; simp
    have HC := Lib.hid hc
    have HW := Lib.hid hW0
    rw [hW0]
    clear hW0 hc hb
    go_loopw [38] (fun i wr => ∃ j : Nat, j ≤ 2 ∧ i = .int .i64 j ∧ Below W0.heap.size W0 wr) (fun i _ => 2 - (intOf i).toNat)
    case atStart => exact ⟨0, by omega, rfl, Below.refl _ _⟩
    case round =>
      obtain ⟨j, hj, rfl, hbr⟩ := hrel
      by_cases hj2 : j < 2
      · have hcj := (hbr.cell (p := ⟨wc.heap.size, j, none⟩) hz).trans (HC.out j hj2)
        obtain ⟨x, hx⟩ : ∃ x : Nat, (x : Int) = arr2 0 q j := ⟨(arr2 0 q j).toNat, by unfold arr2; split <;> omega⟩
        have hxb : x ≤ t.size := by have : (x : Int) ≤ t.size := by rw [hx]; unfold arr2; split <;> omega
                                    omega
        rw [← hx] at hcj
        clear hx
        have hfm : t.size ≤ maxLen := by unfold maxLen; omega
        have HFM := Lib.hid hfm
        clear hfm
        rcases intV_or t x hxb with hi | ⟨n, r, hi, hn1, hn2, hr1, hr2, he1⟩
        · have HI := Lib.hid hi
          have HP := Lib.hid (putV_ok (n := 0) (by omega) (by omega))
          clear hi
          rcases strV_or t x hxb with hv | ⟨v, r', hv, hvl, hr3, hr4, he2⟩
          · have HV := Lib.hid hv
            have HS := Lib.hid (putSV_ok (l := []) (by simp))
            clear hv
            go_wp2_with fail
            refine (int_any2 t x _ HFM.out (by omega) (by omega)).mono ?_
            rintro e w4 ⟨rfl, rfl⟩
            rw [HI.out]
            go_wp2_with fail
            refine (putInt_any 0 _ (by omega) (by omega)).mono ?_
            rintro e w5 ⟨rfl, hb5⟩
            rw [HP.out]
            go_wp2_with fail
            refine (string_any t x _ HFM.out (by omega) (by omega)).mono ?_
            rintro e w6 ⟨rfl, rfl⟩
            rw [HV.out]
            go_wp2_with fail
            refine (putString_any ⟨#[]⟩ _ (by decide)).mono ?_
            rintro e w7 ⟨rfl, hb7⟩
            rw [HS.out]
            go_wp2_with fail
            go_roundw
            case rel => exact ⟨j + 1, by omega, by go_num, (hbr.trans (hb5.mono hbr.size)).trans (hb7.mono (Nat.le_trans hbr.size hb5.size))⟩
            case measure => simp [intOf]; omega
          · have HV := Lib.hid hv
            have HS := Lib.hid (putSV_ok (l := v.data.toList) (by simpa using hvl))
            have hlv : v.data.toList.length = v.size := by simp
            have HL := Lib.hid hlv
            clear hlv
            clear hv
            go_wp2_with fail
            refine (int_any2 t x _ HFM.out (by omega) (by omega)).mono ?_
            rintro e w4 ⟨rfl, rfl⟩
            rw [HI.out]
            go_wp2_with fail
            refine (putInt_any 0 _ (by omega) (by omega)).mono ?_
            rintro e w5 ⟨rfl, hb5⟩
            rw [HP.out]
            go_wp2_with fail
            refine (string_any t x _ HFM.out (by omega) (by omega)).mono ?_
            rintro e w6 ⟨rfl, rfl⟩
            rw [HV.out]
            go_wp2_with fail
            refine (putString_any v _ (by unfold maxLen; omega)).mono ?_
            rintro e w7 ⟨rfl, hb7⟩
            rw [HS.out, HL.out]
            go_wp2_with fail
            go_roundw
            case rel => exact ⟨j + 1, by omega, by go_num, (hbr.trans (hb5.mono hbr.size)).trans (hb7.mono (Nat.le_trans hbr.size hb5.size))⟩
            case measure => simp [intOf]; omega
        · have HI := Lib.hid hi
          have HP := Lib.hid (putV_ok (n := n) (by omega) (by omega))
          clear hi
          rcases strV_or t x hxb with hv | ⟨v, r', hv, hvl, hr3, hr4, he2⟩
          · have HV := Lib.hid hv
            have HS := Lib.hid (putSV_ok (l := []) (by simp))
            clear hv
            go_wp2_with fail
            refine (int_any2 t x _ HFM.out (by omega) (by omega)).mono ?_
            rintro e w4 ⟨rfl, rfl⟩
            rw [HI.out]
            go_wp2_with fail
            refine (putInt_any n _ (by omega) (by omega)).mono ?_
            rintro e w5 ⟨rfl, hb5⟩
            rw [HP.out]
            go_wp2_with fail
            refine (string_any t x _ HFM.out (by omega) (by omega)).mono ?_
            rintro e w6 ⟨rfl, rfl⟩
            rw [HV.out]
            go_wp2_with fail
            refine (putString_any ⟨#[]⟩ _ (by decide)).mono ?_
            rintro e w7 ⟨rfl, hb7⟩
            rw [HS.out]
            go_wp2_with fail
            go_roundw
            case rel => exact ⟨j + 1, by omega, by go_num, (hbr.trans (hb5.mono hbr.size)).trans (hb7.mono (Nat.le_trans hbr.size hb5.size))⟩
            case measure => simp [intOf]; omega
          · have HV := Lib.hid hv
            have HS := Lib.hid (putSV_ok (l := v.data.toList) (by simpa using hvl))
            have hlv : v.data.toList.length = v.size := by simp
            have HL := Lib.hid hlv
            clear hlv
            clear hv
            go_wp2_with fail
            refine (int_any2 t x _ HFM.out (by omega) (by omega)).mono ?_
            rintro e w4 ⟨rfl, rfl⟩
            rw [HI.out]
            go_wp2_with fail
            refine (putInt_any n _ (by omega) (by omega)).mono ?_
            rintro e w5 ⟨rfl, hb5⟩
            rw [HP.out]
            go_wp2_with fail
            refine (string_any t x _ HFM.out (by omega) (by omega)).mono ?_
            rintro e w6 ⟨rfl, rfl⟩
            rw [HV.out]
            go_wp2_with fail
            refine (putString_any v _ (by unfold maxLen; omega)).mono ?_
            rintro e w7 ⟨rfl, hb7⟩
            rw [HS.out, HL.out]
            go_wp2_with fail
            go_roundw
            case rel => exact ⟨j + 1, by omega, by go_num, (hbr.trans (hb5.mono hbr.size)).trans (hb7.mono (Nat.le_trans hbr.size hb5.size))⟩
            case measure => simp [intOf]; omega
      · go_wp2_with fail
        go_ret
        exact ⟨rfl, hb4.trans (hbr.mono hb4.size)⟩
end Go.Proofs.YtoiikkfhbpeemaaDoor
