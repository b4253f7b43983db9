/-
  The contract of the law WireMatchesReference: it returns true.
-/
import Derived.Test.YtoiikkfhbpeemaaDoorWalk9
import Derived.Deep.DeepCutAuto
namespace Go.Proofs.YtoiikkfhbpeemaaDoor
open Go Go.RowKit Go.Shelf Go.Dial Go.Dial.Wire

def arr2 (a b : Int) (k : Nat) : Int := if k = 0 then a else b
theorem arr2_at (a b : Int) (k : Nat) (hk : k < 2) : [Value.int .i64 a, Value.int .i64 b][k]'(hk) = .int .i64 (arr2 a b k) := by
  rcases (show k = 0 ∨ k = 1 by omega) with rfl | rfl <;> rfl
theorem arr2_cell (w : World) (a b : Int) (k : Nat) (hk : k < 2) : (w.alloc (.cells #[.int .i64 a, .int .i64 b] 3)).cell? ⟨w.heap.size, k, none⟩ = some (.int .i64 (arr2 a b k)) := by
  rw [World.cell?_alloc_new]
  rcases (show k = 0 ∨ k = 1 by omega) with rfl | rfl <;> rfl

set_option maxRecDepth 100000 in
set_option maxHeartbeats 1600000 in
theorem law1_any (n : Int) (s : ByteArray) (k : Int) (w : World) (ht : Table w) (hs : s.size ≤ maxLen) (hn1 : -9223372036854775808 ≤ n) (hn2 : n ≤ 9223372036854775807) (hk1 : -9223372036854775808 ≤ k) (hk2 : k ≤ 9223372036854775807) :
    Calls Tryd.prog 3 #[.int .i64 n, .string s, .int .i64 k] w fun e w' => e = .returned (.bool true) ∧ Below w.heap.size w w' := by
  have hpos := ht.pos
  have HT := Lib.hid ht
  clear ht
  unfold maxLen at hs
  go_enter Tryd.func3, Tryd.ntmps3
  go_upto_region 2 with (go_at_call 10; refine (sane_any _ HT.out).mono ?_; rintro e w1 ⟨rfl, hb1⟩)
  go_cut [8] (fun v wx => ∃ few : ByteArray, v = .string few ∧ few.size ≤ 300 ∧ Below w.heap.size w wx)
  case first =>
    go_wp2_with fail
    all_goals go_meet
    all_goals (first | exact ⟨_, rfl, by first | omega | (simp; omega), hb1⟩)
  case rest =>
    obtain ⟨few, rfl, hfew, hb⟩ := hcut
    clear hb1
    go_wp2_with fail
    refine (number_any n _ hn1 hn2).mono ?_
    rintro e w2 ⟨rfl, hb2⟩
    have hb3 := hb.trans (hb2.mono hb.size)
    clear hb hb2
    obtain ⟨m, hm⟩ : ∃ m, m = numF n := ⟨_, rfl⟩
    rw [← hm]
    have hmb := numF_bd n
    rw [← hm] at hmb
    have HM := Lib.hid hm
    clear hm
    go_wp2_with fail
    obtain ⟨W0, hW0⟩ : ∃ W0, w2.alloc (.cells #[.int .i64 n, .int .i64 m] 3) = W0 := ⟨_, rfl⟩
    have hc : ∀ k, k < 2 → W0.cell? ⟨w2.heap.size, k, none⟩ = some (.int .i64 (arr2 n m k)) := fun k hk => by rw [← hW0]; exact arr2_cell w2 n m k hk
    have hb4 : Below w.heap.size w W0 := by rw [← hW0]; exact hb3.alloc hb3.size _
    have hz : w2.heap.size < W0.heap.size := by rw [← hW0]; simp
    have HC := Lib.hid hc
    have HW := Lib.hid hW0
    rw [hW0]
    clear hW0 hc hb3
    go_loopw [44] (fun i wr => ∃ j : Nat, j ≤ 2 ∧ i = .int .i64 j ∧ Below W0.heap.size W0 wr) (fun i _ => 2 - (intOf i).toNat)
    case atStart => exact ⟨0, by omega, rfl, Below.refl _ _⟩
    case round =>
      obtain ⟨j, hj, rfl, hbr⟩ := hrel
      by_cases hj2 : j < 2
      · have hcj := (hbr.cell (p := ⟨w2.heap.size, j, none⟩) hz).trans (HC.out j hj2)
        have hxb : -9223372036854775808 ≤ arr2 n m j ∧ arr2 n m j ≤ 9223372036854775807 := by unfold arr2; split <;> omega
        obtain ⟨x, hx⟩ : ∃ x, x = arr2 n m j := ⟨_, rfl⟩
        rw [← hx] at hcj hxb
        clear hx
        obtain ⟨a, er, hv⟩ : ∃ a er, putV x = .tuple #[.string a, .int .i64 er] := ⟨_, _, rfl⟩
        have HV := Lib.hid hv
        clear hv
        go_wp2_with fail
        refine (putInt_any x _ hxb.1 hxb.2).mono ?_
        rintro e w3 ⟨rfl, hb5⟩
        rw [HV.out]
        go_wp2_with fail
        refine (refPutInt_any x _).mono ?_
        rintro e w4 ⟨rfl, hb6⟩
        rw [HV.out]
        go_wp2_with fail
        go_roundw
        case rel => exact ⟨j + 1, by omega, by go_num, (hbr.trans (hb5.mono hbr.size)).trans (hb6.mono (Nat.le_trans hbr.size hb5.size))⟩
        case measure => simp [intOf]; omega
      · go_wp2_with fail
        refine (pick_any k _ _ hk1 hk2 (by omega)).mono ?_
        rintro e w3 ⟨rfl, rfl⟩
        obtain ⟨wo, rfl⟩ : ∃ wo : World, wo = wr := ⟨_, rfl⟩
        have hpb := pickN_lt k ((few.size : Int) + 2) (by omega)
        obtain ⟨q, hq⟩ : ∃ q, q = pickN k ((few.size : Int) + 2) := ⟨_, rfl⟩
        rw [← hq] at hpb ⊢
        clear hq
        have hbo := hbr
        clear hbr
        have hb5 := hb4.trans (hbo.mono hb4.size)
        clear hb4 hbo
        go_wp2_with fail
        obtain ⟨W5, hW5⟩ : ∃ W5, wo.alloc (.cells #[.int .i64 k, .int .i64 q] 3) = W5 := ⟨_, rfl⟩
        have hc : ∀ j, j < 2 → W5.cell? ⟨wo.heap.size, j, none⟩ = some (.int .i64 (arr2 k q j)) := fun j hj => by rw [← hW5]; exact arr2_cell wo k q j hj
        have hb6 : Below w.heap.size w W5 := by rw [← hW5]; exact hb5.alloc hb5.size _
        have hz5 : wo.heap.size < W5.heap.size := by rw [← hW5]; simp
        have HC5 := Lib.hid hc
        have HW5 := Lib.hid hW5
        rw [hW5]
        clear hW5 hc hb5
        go_loopw [75] (fun i wx => ∃ j : Nat, j ≤ 2 ∧ i = .int .i64 j ∧ Below W5.heap.size W5 wx) (fun i _ => 2 - (intOf i).toNat)
        case atStart => exact ⟨0, by omega, rfl, Below.refl _ _⟩
        case round =>
          obtain ⟨j, hj, rfl, hbr⟩ := hrel
          by_cases hj2 : j < 2
          · have hcj := (hbr.cell (p := ⟨wo.heap.size, j, none⟩) hz5).trans (HC5.out j hj2)
            have hxb : -9223372036854775808 ≤ arr2 k q j ∧ arr2 k q j ≤ 9223372036854775807 := by unfold arr2; split <;> omega
            obtain ⟨x, hx⟩ : ∃ x, x = arr2 k q j := ⟨_, rfl⟩
            rw [← hx] at hcj hxb
            clear hx
            obtain ⟨a, b, er, hv⟩ : ∃ a b er, intV few.data.toList x = .tuple #[.int .i64 a, .int .i64 b, .int .i64 er] := ⟨_, _, _, rfl⟩
            obtain ⟨a', b', er', hv'⟩ : ∃ a b er, strV few.data.toList x = .tuple #[.string a, .int .i64 b, .int .i64 er] := ⟨_, _, _, rfl⟩
            have HV := Lib.hid hv
            have HV' := Lib.hid hv'
            have hfm : few.size ≤ maxLen := by unfold maxLen; omega
            have HFM := Lib.hid hfm
            clear hv hv' hfm
            go_wp2_with fail
            refine (int_any2 few x _ HFM.out hxb.1 hxb.2).mono ?_
            rintro e w4 ⟨rfl, rfl⟩
            rw [HV.out]
            go_wp2_with fail
            refine (refInt_any few x _ HFM.out hxb.1 hxb.2).mono ?_
            rintro e w5 ⟨rfl, hb7⟩
            rw [HV.out]
            go_wp2_with fail
            refine (string_any few x _ HFM.out hxb.1 hxb.2).mono ?_
            rintro e w6 ⟨rfl, rfl⟩
            rw [HV'.out]
            go_wp2_with fail
            refine (refString_any few x _ HFM.out hxb.1 hxb.2).mono ?_
            rintro e w7 ⟨rfl, hb8⟩
            rw [HV'.out]
            go_wp2_with fail
            go_roundw
            case rel => exact ⟨j + 1, by omega, by go_num, (hbr.trans (hb7.mono hbr.size)).trans (hb8.mono (Nat.le_trans hbr.size hb7.size))⟩
            case measure => simp [intOf]; omega
          · have hb7 := hb6.trans (hbr.mono hb6.size)
            have hfm : few.size ≤ maxLen := by unfold maxLen; omega
            have HFM := Lib.hid hfm
            obtain ⟨a', er', hv'⟩ : ∃ a er, putSV few.data.toList = .tuple #[.string a, .int .i64 er] := ⟨_, _, rfl⟩
            have HV' := Lib.hid hv'
            clear hv' hfm hb6 hbr
            go_wp2_with fail
            refine (putString_any few _ HFM.out).mono ?_
            rintro e w4 ⟨rfl, hb8⟩
            rw [HV'.out]
            go_wp2_with fail
            refine (refPutString_any few _ HFM.out).mono ?_
            rintro e w5 ⟨rfl, hb9⟩
            rw [HV'.out]
            go_wp2_with fail
            have hb10 := (hb7.trans (hb8.mono hb7.size)).trans (hb9.mono (Nat.le_trans hb7.size hb8.size))
            refine (sum_any few _ HFM.out (HT.out.below hb10 hpos)).mono ?_
            rintro e w6 ⟨rfl, rfl⟩
            go_wp2_with fail
            refine (refSum_any few _ HFM.out).mono ?_
            rintro e w6 ⟨rfl, rfl⟩
            go_wp2_with fail
            go_ret
            exact ⟨rfl, hb10⟩
end Go.Proofs.YtoiikkfhbpeemaaDoor
