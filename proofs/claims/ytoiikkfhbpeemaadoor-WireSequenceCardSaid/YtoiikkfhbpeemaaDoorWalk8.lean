/-
  The contracts of pick and NumberFrom.
-/
import Derived.Test.YtoiikkfhbpeemaaDoorWalk6
import Derived.Test.YtoiikkfhbpeemaaDoorWalk7
namespace Go.Proofs.YtoiikkfhbpeemaaDoor
open Go Go.RowKit Go.Shelf Go.Dial Go.Dial.Wire

def pickN (c n : Int) : Int := (if c < 0 then -(c + 1) else c) % n
theorem pickN_lt (c n : Int) (h : 0 < n) : 0 ≤ pickN c n ∧ pickN c n < n := ⟨Int.emod_nonneg _ (by omega), Int.emod_lt_of_pos _ h⟩
theorem pickN_neg {c n : Int} (h : c < 0) : pickN c n = -(c + 1).tmod n := by
  rw [pickN, if_pos h, ← Int.neg_tmod, Int.tmod_eq_emod_of_nonneg (by omega)]
theorem pickN_pos {c n : Int} (h : 0 ≤ c) : pickN c n = c % n := by rw [pickN, if_neg (by omega)]

theorem pick_any (c n : Int) (w : World) (hc : -9223372036854775808 ≤ c) (hc2 : c ≤ 9223372036854775807) (h0 : 0 < n) :
    Calls Tryd.prog 14 #[.int .i64 c, .int .i64 n] w fun e w' => e = .returned (.int .i64 (pickN c n)) ∧ w = w' := by
  by_cases h : c < 0
  · have HP := Lib.hid (pickN_neg (n := n) h)
    go_enter Tryd.func14, Tryd.ntmps14
    go_wp2
    go_ret
    exact ⟨by rw [HP.out]; rfl, rfl⟩
  · have HP := Lib.hid (pickN_pos (c := c) (n := n) (by omega))
    go_enter Tryd.func14, Tryd.ntmps14
    go_wp2
    go_ret
    exact ⟨by rw [HP.out]; rfl, rfl⟩

def numTab : List Int := [64, 128, 8192, 16384, 1073741824, 36028797018963968, 576460752303423488, 2]
def numF (c : Int) : Int :=
  let n := pickN (pickN c 4611686018427387904 / 8) (numTab.getD (pickN c 8).toNat 1)
  if 8 ≤ pickN c 16 then -n else n

def numArr : Array Value := #[.int .i64 64, .int .i64 128, .int .i64 8192, .int .i64 16384, .int .i64 1073741824, .int .i64 36028797018963968, .int .i64 576460752303423488, .int .i64 2]
theorem numTab_bd (k : Nat) : 0 < numTab.getD k 1 ∧ numTab.getD k 1 ≤ 576460752303423488 := by
  rcases (show k = 0 ∨ k = 1 ∨ k = 2 ∨ k = 3 ∨ k = 4 ∨ k = 5 ∨ k = 6 ∨ k = 7 ∨ 8 ≤ k by omega) with rfl | rfl | rfl | rfl | rfl | rfl | rfl | rfl | h
  all_goals first | decide | skip
  have : numTab.getD k 1 = 1 := by simp [List.getD, List.getElem?_eq_none (show numTab.length ≤ k from h)]
  rw [this]; decide
theorem numArr_at (k : Nat) (hk : k < 8) : numArr[k]? = some (.int .i64 (numTab.getD k 1)) := by
  rcases (show k = 0 ∨ k = 1 ∨ k = 2 ∨ k = 3 ∨ k = 4 ∨ k = 5 ∨ k = 6 ∨ k = 7 by omega) with rfl | rfl | rfl | rfl | rfl | rfl | rfl | rfl <;> rfl
theorem numF_bd (c : Int) : -4611686018427387903 ≤ numF c ∧ numF c ≤ 4611686018427387903 := by
  have h := numTab_bd (pickN c 8).toNat
  have := pickN_lt (pickN c 4611686018427387904 / 8) _ h.1
  unfold numF; dsimp only; split <;> omega

set_option maxHeartbeats 800000 in
theorem number_any (c : Int) (w : World) (hc : -9223372036854775808 ≤ c) (hc2 : c ≤ 9223372036854775807) :
    Calls Tryd.prog 11 #[.int .i64 c] w fun e w' => e = .returned (.int .i64 (numF c)) ∧ Below w.heap.size w w' := by
  have h62 := pickN_lt c 4611686018427387904 (by omega)
  have h8 := pickN_lt c 8 (by omega)
  have h16 := pickN_lt c 16 (by omega)
  have hbd := numF_bd c
  obtain ⟨k, hk⟩ := Int.eq_ofNat_of_zero_le h8.1
  have hk8 : k < 8 := by omega
  have ht := numTab_bd k
  have hp := pickN_lt (pickN c 4611686018427387904 / 8) _ ht.1
  have hF : numF c = if 8 ≤ pickN c 16 then -(pickN (pickN c 4611686018427387904 / 8) (numTab.getD k 1)) else pickN (pickN c 4611686018427387904 / 8) (numTab.getD k 1) := by
    unfold numF; rw [hk]; rfl
  have hcell : numArr.toList[k]'(hk8) = .int .i64 (numTab.getD k 1) := by
    have := numArr_at k hk8
    rw [← Array.getElem?_toList, List.getElem?_eq_getElem (by exact hk8)] at this
    exact Option.some.inj this
  obtain ⟨t, htt⟩ : ∃ t, t = numTab.getD k 1 := ⟨_, rfl⟩
  rw [← htt] at hF ht hp hcell
  have HF := Lib.hid hF
  have HK := Lib.hid hk
  simp only [numArr] at hcell
  clear hF hk htt
  by_cases hs : 8 ≤ pickN c 16
  · go_enter Tryd.func11, Tryd.ntmps11
    go_wp2_with fail
    refine (pick_any c 4611686018427387904 _ hc hc2 (by omega)).mono ?_
    rintro e w1 ⟨rfl, rfl⟩
    go_wp2_with fail
    refine (pick_any c 8 _ hc hc2 (by omega)).mono ?_
    rintro e w1 ⟨rfl, rfl⟩
    rw [HK.out]
    go_wp2_with fail
    refine (pick_any _ t _ (by omega) (by omega) ht.1).mono ?_
    rintro e w1 ⟨rfl, rfl⟩
    go_wp2_with fail
    refine (pick_any c 16 _ hc hc2 (by omega)).mono ?_
    rintro e w1 ⟨rfl, rfl⟩
    go_wp2_with fail
    go_ret
    refine ⟨?_, (Below.refl _ _).alloc (Nat.le_refl _) _⟩
    rw [HF.out, if_pos hs]; rfl
  · go_enter Tryd.func11, Tryd.ntmps11
    go_wp2_with fail
    refine (pick_any c 4611686018427387904 _ hc hc2 (by omega)).mono ?_
    rintro e w1 ⟨rfl, rfl⟩
    go_wp2_with fail
    refine (pick_any c 8 _ hc hc2 (by omega)).mono ?_
    rintro e w1 ⟨rfl, rfl⟩
    rw [HK.out]
    go_wp2_with fail
    refine (pick_any _ t _ (by omega) (by omega) ht.1).mono ?_
    rintro e w1 ⟨rfl, rfl⟩
    go_wp2_with fail
    refine (pick_any c 16 _ hc hc2 (by omega)).mono ?_
    rintro e w1 ⟨rfl, rfl⟩
    go_wp2_with fail
    go_ret
    refine ⟨?_, (Below.refl _ _).alloc (Nat.le_refl _) _⟩
    rw [HF.out, if_neg (by omega)]; rfl
end Go.Proofs.YtoiikkfhbpeemaaDoor
