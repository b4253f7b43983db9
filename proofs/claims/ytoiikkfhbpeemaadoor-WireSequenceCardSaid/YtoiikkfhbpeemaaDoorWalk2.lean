/-
  The contracts of the reference zigzag and PutInt.
-/
import Derived.Test.YtoiikkfhbpeemaaDoorWalk1
namespace Go.Proofs.YtoiikkfhbpeemaaDoor
open Go Go.RowKit Go.Dial Go.Dial.Wire

theorem info5 : (Tryd.prog.info? 5).map (fun i => (i.zero, i.size, i.bytes)) = some (some (.int .u8 0), 1, 1) := by kernel_rfl

theorem wrapu (n : Nat) (h : n < 18446744073709551616) : IntKind.u64.wrap (n : Int) = n := by rw [IntKind.wrap_u64]; omega

theorem zigzag_any (n : Int) (w : World) (h1 : -4611686018427387903 ≤ n) (h2 : n ≤ 4611686018427387903) :
    Calls Tryd.prog 24 #[.int .i64 n] w fun e w' => e = .returned (.int .u64 (zz n)) ∧ w = w' := by
  by_cases h : n < 0
  · have hz : ((zz n : Nat) : Int) = -n * 2 - 1 := by unfold zz; rw [if_pos h]; omega
    have HZ := Lib.hid hz
    clear hz
    go_enter Tryd.func24, Tryd.ntmps24
    go_wp2
    go_ret
    exact ⟨by rw [HZ.out]; rfl, rfl⟩
  · have hz : ((zz n : Nat) : Int) = n * 2 := by unfold zz; rw [if_neg h]; omega
    have HZ := Lib.hid hz
    clear hz
    go_enter Tryd.func24, Tryd.ntmps24
    go_wp2
    go_ret
    exact ⟨by rw [HZ.out]; rfl, rfl⟩

theorem putInt_bad {n : Int} (h : n < -4611686018427387903 ∨ 4611686018427387903 < n) : putInt n = ([], 10) := if_pos h
theorem putInt_ok {n : Int} (h1 : -4611686018427387903 ≤ n) (h2 : n ≤ 4611686018427387903) : putInt n = (enc n, 0) := if_neg (by unfold maxInt; omega)

def putV (n : Int) : Value := .tuple #[.string ⟨(putInt n).1.toArray⟩, .int .i64 (putInt n).2]

theorem leb_last (f z : Nat) (h : z < 128) : leb (f + 1) z = [UInt8.ofNat z] := by rw [leb, if_pos h]
theorem leb_more (f z : Nat) (h : ¬ z < 128) : leb (f + 1) z = UInt8.ofNat (z % 128 + 128) :: leb f (z / 128) := by rw [leb, if_neg h]

set_option maxRecDepth 100000 in
set_option maxHeartbeats 800000 in
theorem refPutInt_any (n : Int) (w : World) :
    Calls Tryd.prog 13 #[.int .i64 n] w fun e w' => e = .returned (putV n) ∧ Below w.heap.size w w' := by
  by_cases h1 : n < -4611686018427387903
  · have HP := Lib.hid (putInt_bad (.inl h1))
    go_enter Tryd.func13, Tryd.ntmps13
    go_wp2
    go_ret2
    exact ⟨by rw [putV, HP.out]; rfl, Below.refl _ _⟩
  by_cases h2 : 4611686018427387903 < n
  · have HP := Lib.hid (putInt_bad (.inr h2))
    go_enter Tryd.func13, Tryd.ntmps13
    go_wp2
    go_ret2
    exact ⟨by rw [putV, HP.out]; rfl, Below.refl _ _⟩
  have HP := Lib.hid (putInt_ok (n := n) (by omega) (by omega))
  obtain ⟨i0, hi, hz0, hz1, hz2⟩ := info_parts info5
  have hzl := zz_lt n (by unfold maxInt; omega) (by unfold maxInt; omega)
  go_enter Tryd.func13, Tryd.ntmps13
  go_wp2_with (go_at_call 24; refine (zigzag_any n _ (by omega) (by omega)).mono ?_; rintro e w' ⟨rfl, rfl⟩)
  go_loopw [4, 5] (fun z v wr => ∃ (zn f : Nat) (bs : List Nat), z = .int .u64 zn ∧ zn < 128 ^ (f + 1) ∧ bs.length + f = 8 ∧ bytesOf bs ++ leb (f + 1) zn = enc n ∧ wr.ownsRow w.heap.size 5 1 v bs.length (u8s bs) ∧ Below w.heap.size w wr) (fun z _ _ => (intOf z).toNat)
  case atStart => exact ⟨zz n, 8, [], rfl, hzl, rfl, rfl, World.ownsRow_nil _ _ _ _, Below.refl _ _⟩
  case round =>
    obtain ⟨zn, f, bs, rfl, hz, hf, hb, hown, hbel⟩ := hrel
    have hb63 : zn < 9223372036854775808 := Nat.lt_of_lt_of_le hz (Nat.le_trans (Nat.pow_le_pow_right (by omega) (show f + 1 ≤ 9 by omega)) (by decide))
    have hsz := hbel.size
    by_cases hlt : zn < 128
    · rw [leb_last _ _ hlt] at hb
      have HB := Lib.hid hb
      clear hb hz
      go_wp2_with (at_builtin; refine wpList_append_own _ rfl _ _ 38 rfl w.heap.size 5 i0 (.int .u8 0) 1 1 Tryd.underlying38 hi hz0 hz1 hz2 rfl (by decide) _ _ _ rfl (hown.alloc _) ⟨wr.heap.size, 0, none⟩ 1 1 [.int .u8 zn] rfl rfl (cell_one_new _ _ _) (by simp [Value.oneCell']) (by unfold maxLen; omega) (by omega) (by simp; omega) ?_; intro v' w1 hown' hgrow hnil; clear hnil; have kc := run_convert_own (P := Tryd.prog) (bs := bs ++ [zn]) 38 9 Tryd.underlying38 Tryd.underlying5 Tryd.underlying9 (by simpa [u8s] using hown'))
      go_ret2
      refine ⟨?_, ?_⟩
      · show Ending.returned (.tuple #[.string _, .int .i64 0]) = _
        rw [putV, HP.out, ← HB.out]
        simp [bytesOf]
      · exact own_append_below hbel hgrow hown
    · rw [leb_more _ _ hlt] at hb
      obtain ⟨f, rfl⟩ : ∃ f', f = f' + 1 := by
        rcases f with _ | f
        · exact absurd (by simpa using hz) hlt
        · exact ⟨f, rfl⟩
      have hz' : zn / 128 < 128 ^ (f + 1) := by rw [Nat.pow_succ] at hz; omega
      have HB := Lib.hid hb
      have HZ := Lib.hid hz'
      clear hb hz hz'
      have ew : IntKind.u8.wrap ((zn : Int) % 128 + 128) = ((zn % 128 + 128 : Nat) : Int) := by rw [IntKind.wrap_u8']; omega
      go_wp2_with (at_builtin; refine wpList_append_own _ rfl _ _ 38 rfl w.heap.size 5 i0 (.int .u8 0) 1 1 Tryd.underlying38 hi hz0 hz1 hz2 rfl (by decide) _ _ _ rfl (hown.alloc _) ⟨wr.heap.size, 0, none⟩ 1 1 [.int .u8 _] rfl rfl (cell_one_new _ _ _) (by simp [Value.oneCell']) (by unfold maxLen; omega) (by omega) (by simp; omega) ?_; intro v' w1 hown' hgrow hnil; clear hnil)
      go_roundw
      case rel => exact ⟨zn / 128, f, bs ++ [zn % 128 + 128], by go_num, HZ.out, by simp; omega, by rw [← HB.out]; simp [bytesOf], by simpa [u8s] using hown', own_append_below hbel hgrow hown⟩
      case measure => simp [intOf]; omega
end Go.Proofs.YtoiikkfhbpeemaaDoor
