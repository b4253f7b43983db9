/-
  The contract of the law WireRoundTrip: it returns true.
-/
import Derived.Test.YtoiikkfhbpeemaaDoorWalk9
import Derived.Test.YtoiikkfhbpeemaaDoorWireL
import Derived.Deep.DeepCutAuto
namespace Go.Proofs.YtoiikkfhbpeemaaDoor
open Go Go.RowKit Go.Shelf Go.Dial Go.Dial.Wire

set_option maxRecDepth 100000 in
set_option maxHeartbeats 1600000 in
theorem law2_any (n : Int) (s a0 a1 : ByteArray) (w : World) (ht : Table w) (hs : s.size ≤ maxLen) (hs0 : a0.size ≤ maxLen) (hs1 : a1.size ≤ maxLen) (hn1 : -9223372036854775808 ≤ n) (hn2 : n ≤ 9223372036854775807) :
    Calls Tryd.prog 4 #[.int .i64 n, .string s, .agg #[.string a0, .string a1]] w fun e w' => e = .returned (.bool true) ∧ Below w.heap.size w w' := by
  have hpos := ht.pos
  have ht' : Table (w.alloc (.cells #[.string a0, .string a1] 36)) := ht.below ((Below.refl _ w).alloc (Nat.le_refl _) _) hpos
  have HT := Lib.hid ht'
  clear ht ht'
  unfold maxLen at hs hs0 hs1
  go_enter Tryd.func4, Tryd.ntmps4
  go_upto_region 3 with (first
    | (go_at_call 10; refine (sane_any _ HT.out).mono ?_; rintro e w1 ⟨rfl, hb1⟩)
    | (go_at_call 11; refine (number_any n _ hn1 hn2).mono ?_; rintro e w2 ⟨rfl, hb2⟩))
  have hmb := numF_bd n
  obtain ⟨m, hm⟩ : ∃ m, m = numF n := ⟨_, rfl⟩
  rw [← hm] at hmb ⊢
  clear hm
  have hb0 : Below w.heap.size w w1 := ((Below.refl _ w).alloc (Nat.le_refl _) _).trans (hb1.mono (by simp))
  have hbw : Below (w.heap.size + 1) (w.alloc (.cells #[.string a0, .string a1] 36)) w2 := (hb1.mono (by simp)).trans (hb2.mono (by have := hb1.size; simp at this; omega))
  have hb := hb0.trans (hb2.mono hb0.size)
  have hc0 : w2.cell? ⟨w.heap.size, 0, none⟩ = some (.string a0) := (hbw.cell (p := ⟨w.heap.size, 0, none⟩) (by simp)).trans (by rw [World.cell?_alloc_new]; rfl)
  have hc1 : w2.cell? ⟨w.heap.size, 1, none⟩ = some (.string a1) := (hbw.cell (p := ⟨w.heap.size, 1, none⟩) (by simp)).trans (by rw [World.cell?_alloc_new]; rfl)
  clear hb0 hb1 hb2 hbw
  go_cut [9] (fun v wx => ∃ p : ByteArray, v = .string p ∧ p.size ≤ 200 ∧ w2 = wx)
  case first =>
    go_wp2_with fail
    all_goals go_meet
    all_goals (first | exact ⟨_, rfl, by first | omega | (simp; omega), rfl⟩ | exact ⟨_, rfl, by first | omega | (simp; omega)⟩)
  case rest =>
    obtain ⟨p, rfl, hp, rfl⟩ := hcut
    go_upto_region 4 with (fail)
    go_cut [10] (fun v wx => ∃ p : ByteArray, v = .string p ∧ p.size ≤ 200 ∧ w2 = wx)
    case first =>
      go_wp2_with fail
      all_goals go_meet
      all_goals (first | exact ⟨_, rfl, by first | omega | (simp; omega), rfl⟩ | exact ⟨_, rfl, by first | omega | (simp; omega)⟩)
    case rest =>
      obtain ⟨q, rfl, hq, rfl⟩ := hcut
      clear hc0 hc1
      go_upto_region 5 with (fail)
      go_cut [11] (fun v wx => ∃ p : ByteArray, v = .string p ∧ p.size ≤ 200 ∧ w2 = wx)
      case first =>
        go_wp2_with fail
        all_goals go_meet
        all_goals (first | exact ⟨_, rfl, by first | omega | (simp; omega), rfl⟩ | exact ⟨_, rfl, by first | omega | (simp; omega)⟩)
      case rest =>
        obtain ⟨t, rfl, ht, rfl⟩ := hcut
        have HV := Lib.hid (putV_ok hmb.1 hmb.2)
        have HS := Lib.hid (putSV_ok (l := t.data.toList) (by simp; show t.size ≤ _; omega))
        have HI : Hid (intV (p ++ ⟨(enc m).toArray⟩ ++ q).data.toList p.size = .tuple #[.int .i64 m, .int .i64 ((p.size : Int) + (enc m).length), .int .i64 0]) := Lib.hid (intV_eq (by
          have := intAt_embed p.data.toList q.data.toList m hmb.1 hmb.2
          simpa [ByteArray.data_append] using this))
        have HT2 : Hid (strV (p ++ ⟨(enc t.size ++ t.data.toList).toArray⟩ ++ q).data.toList p.size = .tuple #[.string t, .int .i64 ((p.size : Int) + (enc t.size ++ t.data.toList).length), .int .i64 0]) := Lib.hid (by
          have := strAt_embed p.data.toList q.data.toList t.data.toList (by simp; show t.size ≤ _; omega)
          unfold strV
          rw [show (p ++ ⟨(enc t.size ++ t.data.toList).toArray⟩ ++ q).data.toList = p.data.toList ++ (enc t.size ++ t.data.toList) ++ q.data.toList by simp [ByteArray.data_append]]
          have e1 : p.data.toList.length = p.size := by simp
          have e2 : t.data.toList.length = t.size := by simp
          rw [e1, e2] at this
          rw [this])
        have hel := enc_length m
        have hel2 := enc_length t.size
        have hb' := hb
        go_wp2_with fail
        refine (putInt_any m _ (by omega) (by omega)).mono ?_
        rintro e w3 ⟨rfl, hb3⟩
        rw [HV.out]
        go_wp2_with fail
        refine (putString_any t _ (by unfold maxLen; omega)).mono ?_
        rintro e w4 ⟨rfl, hb4⟩
        rw [HS.out]
        go_wp2_with fail
        refine (int_any2 _ _ _ (by unfold maxLen; simp [ByteArray.size_append, bsize]; omega) (by omega) (by omega)).mono ?_
        rintro e w5 ⟨rfl, rfl⟩
        rw [HI.out]
        go_wp2_with fail
        refine (string_any _ _ _ (by unfold maxLen; simp [ByteArray.size_append, bsize]; omega) (by omega) (by omega)).mono ?_
        rintro e w6 ⟨rfl, rfl⟩
        rw [HT2.out]
        go_wp2_with fail
        go_ret
        exact ⟨rfl, (hb.trans (hb3.mono hb.size)).trans (hb4.mono (Nat.le_trans hb.size hb3.size))⟩
end Go.Proofs.YtoiikkfhbpeemaaDoor
