/-
  The contract of sane: it returns true.
-/
import Derived.Test.YtoiikkfhbpeemaaDoorWalk8
namespace Go.Proofs.YtoiikkfhbpeemaaDoor
open Go Go.RowKit Go.Shelf Go.Dial Go.Dial.Wire

theorem Table.pos {w : World} (h : Table w) : 0 < w.heap.size := World.block_lt_of_cell? w ⟨0, 0, none⟩ (h 0 (by omega))
theorem Table.below {w w1 : World} {B : Nat} (h : Table w) (hb : Below B w w1) (hB : 0 < B) : Table w1 := fun k hk => (hb.cell (p := ⟨0, k, none⟩) hB).trans (h k hk)

theorem int_any2 (s : ByteArray) (k : Int) (w : World) (hs : s.size ≤ maxLen) (hk1 : -9223372036854775808 ≤ k) (hk2 : k ≤ 9223372036854775807) :
    Calls Tryd.prog 15 #[.string s, .int .i64 k] w fun e w' => e = .returned (intV s.data.toList k) ∧ w = w' := int_any s k w hs hk1 hk2

theorem v1 : putV (-64) = .tuple #[.string ⟨#[127]⟩, .int .i64 0] := by kernel_rfl
theorem v2 : putV 64 = .tuple #[.string ⟨#[128, 1]⟩, .int .i64 0] := by kernel_rfl
theorem v3 : intV [97, 172, 2, 98] 1 = .tuple #[.int .i64 150, .int .i64 3, .int .i64 0] := by kernel_rfl
theorem v4 : intV [128, 0] 0 = .tuple #[.int .i64 0, .int .i64 0, .int .i64 10] := by kernel_rfl
theorem v5 : putSV [97, 98] = .tuple #[.string ⟨#[4, 97, 98]⟩, .int .i64 0] := by kernel_rfl
theorem v6 : strV [4, 97, 98, 99] 0 = .tuple #[.string ⟨#[97, 98]⟩, .int .i64 3, .int .i64 0] := by kernel_rfl
theorem v7 : strV [4, 97] 0 = .tuple #[.string ⟨#[]⟩, .int .i64 0, .int .i64 10] := by kernel_rfl
theorem v8 : putV 4611686018427387904 = .tuple #[.string ⟨#[]⟩, .int .i64 10] := by kernel_rfl
theorem v9 : intV [] 1 = .tuple #[.int .i64 0, .int .i64 0, .int .i64 2] := by kernel_rfl
theorem v10 : ((sumN [49, 50, 51, 52, 53, 54, 55, 56, 57] : Nat) : Int) = 3808858755 := by kernel_rfl

set_option maxRecDepth 100000 in
set_option maxHeartbeats 1600000 in
theorem sane_any (w : World) (ht : Table w) : Calls Tryd.prog 10 #[] w fun e w' => e = .returned (.bool true) ∧ Below w.heap.size w w' := by
  have hpos := ht.pos
  have HT := Lib.hid ht
  clear ht
  go_enter Tryd.func10, Tryd.ntmps10
  go_wp2_with fail
  refine (putInt_any (-64) _ (by omega) (by omega)).mono ?_
  rintro e w1 ⟨rfl, hb1⟩
  rw [v1]
  go_wp2_with fail
  refine (putInt_any 64 _ (by omega) (by omega)).mono ?_
  rintro e w2 ⟨rfl, hb2⟩
  rw [v2]
  go_wp2_with fail
  refine (int_any2 ⟨#[97, 172, 2, 98]⟩ 1 _ (by decide) (by omega) (by omega)).mono ?_
  rintro e w3 ⟨rfl, rfl⟩
  rw [v3]
  go_wp2_with fail
  refine (int_any2 ⟨#[128, 0]⟩ 0 _ (by decide) (by omega) (by omega)).mono ?_
  rintro e w3 ⟨rfl, rfl⟩
  rw [v4]
  go_wp2_with fail
  refine (putString_any ⟨#[97, 98]⟩ _ (by decide)).mono ?_
  rintro e w3 ⟨rfl, hb3⟩
  rw [v5]
  go_wp2_with fail
  refine (string_any ⟨#[4, 97, 98, 99]⟩ 0 _ (by decide) (by omega) (by omega)).mono ?_
  rintro e w4 ⟨rfl, rfl⟩
  rw [v6]
  go_wp2_with fail
  refine (string_any ⟨#[4, 97]⟩ 0 _ (by decide) (by omega) (by omega)).mono ?_
  rintro e w4 ⟨rfl, rfl⟩
  rw [v7]
  go_wp2_with fail
  refine (putInt_any 4611686018427387904 _ (by omega) (by omega)).mono ?_
  rintro e w4 ⟨rfl, hb4⟩
  rw [v8]
  go_wp2_with fail
  refine (int_any2 ⟨#[]⟩ 1 _ (by decide) (by omega) (by omega)).mono ?_
  rintro e w5 ⟨rfl, rfl⟩
  rw [v9]
  go_wp2_with fail
  have hb : Below w.heap.size w w4 := hb1.trans ((hb2.mono hb1.size).trans ((hb3.mono (Nat.le_trans hb1.size hb2.size)).trans (hb4.mono (Nat.le_trans hb1.size (Nat.le_trans hb2.size hb3.size)))))
  refine (sum_any ⟨#[49, 50, 51, 52, 53, 54, 55, 56, 57]⟩ _ (by decide) (HT.out.below hb hpos)).mono ?_
  rintro e w5 ⟨rfl, rfl⟩
  rw [v10]
  go_wp2_with fail
  go_ret
  exact ⟨rfl, hb⟩
end Go.Proofs.YtoiikkfhbpeemaaDoor
