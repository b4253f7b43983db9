/-
  life: put, Encode, Decode.
-/
import Derived.Test.YtjhakonpnopcnaaL11
import Derived.Test.YtjhakonpnopcnaaWireP
import Derived.Test.YtjhakonpnopcnaaWireL
set_option linter.unusedVariables false
set_option linter.unusedSimpArgs false
namespace Go.Proofs.Ytjhakonpnopcnaa
open Go Go.RowKit Go.Dial Go.Dial.Lif Go.Dial.Wire

theorem bapp (l : List UInt8) (s : ByteArray) : (⟨l.toArray⟩ : ByteArray) ++ s = ⟨(l ++ s.data.toList).toArray⟩ := by
  apply ByteArray.ext; rw [ByteArray.data_append]; simp
def intc (n : Int) : List Value := [.int .i64 n]
theorem intc_len (n : Int) : (intc n).length = 1 := rfl
theorem enc_len (n : Int) : (enc n).length ≤ 9 := leb_length 9 (zz n)
theorem encs_len (ns : List Int) : (ns.flatMap enc).length ≤ 9 * ns.length := by
  induction ns with
  | nil => simp
  | cons n ns ih => have := enc_len n; simp only [List.flatMap_cons, List.length_append, List.length_cons]; omega
set_option maxHeartbeats 800000 in
theorem lput_any (v : Value) (ns : List Int) (w : World) (hv : HoldsG intc 1 w w.heap.size v ns) (hl : ns.length ≤ 1000) (hn : ∀ n ∈ ns, -4611686018427387903 ≤ n ∧ n ≤ 4611686018427387903) :
    Calls Try.prog 44 #[v] w fun e w' => e = .returned (.string ⟨(ns.flatMap enc).toArray⟩) ∧ Below w.heap.size w w' := by
  obtain ⟨A, c, rfl, h0, h1, h2⟩ := hv
  have SP := Lib.hid h2
  have HN := Lib.hid hn
  clear h2 hn
  go_enter Try.func44, Try.ntmps44
  go_wp2_with fail
  go_loopw [3, 10] (fun s i wr => ∃ j : Nat, j ≤ ns.length ∧ i = .int .i64 j ∧ s = .string ⟨((ns.take j).flatMap enc).toArray⟩ ∧ Below w.heap.size w wr) (fun _ i _ => ns.length - (intOf i).toNat)
  case atStart => exact ⟨0, by omega, rfl, rfl, Below.refl _ _⟩
  case round =>
    obtain ⟨j, hj, rfl, rfl, hb⟩ := hrel
    by_cases hjn : j < ns.length
    · obtain ⟨ad, rfl, hab, hat⟩ := rows_at intc_len (SP.out.below hb (Nat.le_refl _)) (by decide) (List.getElem?_eq_getElem hjn)
      obtain ⟨x, hx⟩ : ∃ x, x = ns[j] := ⟨_, rfl⟩
      rw [← hx] at hat
      have x0 : wr.cell? (ad.add (j * 1)) = some (.int .i64 x) := hat.c0
      rw [Nat.mul_one] at x0
      obtain ⟨b1, b2⟩ := HN.out ns[j] (List.getElem_mem hjn)
      rw [← hx] at b1 b2
      have HT := Lib.hid (show (ns.take (j + 1)).flatMap enc = (ns.take j).flatMap enc ++ enc x by rw [List.take_succ_eq_append_getElem hjn, ← hx]; simp)
      have HP := Lib.hid (putInt_ok b1 b2)
      have z0 : (0 : Int) ≤ (j : Int) := by omega
      have z1 : (j : Int) < (ns.length : Int) := by omega
      have hl1 : ((ns.take j).flatMap enc).length ≤ 9000 := by have := encs_len (ns.take j); simp only [List.length_take] at this; omega
      have hl2 := enc_len x
      obtain ⟨P, hP⟩ : ∃ P, P = (ns.take j).flatMap enc := ⟨_, rfl⟩
      obtain ⟨X, hX⟩ : ∃ X, X = enc x := ⟨_, rfl⟩
      rw [← hP] at hl1 HT ⊢
      rw [← hX] at hl2 HT HP
      clear hat hx hP hX
      go_wp2_with fail
      refine (putInt_any x wr (by omega) (by omega)).mono ?_
      rw [putV, HP.out]
      rintro e w1 ⟨rfl, hb1⟩
      dsimp only
      clear x0
      go_wp2_with fail
      go_roundw
      case rel => exact ⟨j + 1, by omega, by go_num, by rw [HT.out, bapp], hb.trans (hb1.mono hb.size)⟩
      case measure => simp [intOf]; omega
    · have HT := Lib.hid (show ns.take j = ns by rw [List.take_of_length_le (by omega)])
      go_wp2_with fail
      go_ret
      exact ⟨by rw [HT.out]; rfl, hb⟩
/-- what Encode returns -/
def encR (x : Ev) : List UInt8 × Int := if Frm x then (enc x.k ++ enc x.a ++ enc x.h, 0) else ([], 140)
theorem ev_cells {w : World} {p : Nat} {x : Ev} {t : TypeId} (h : w.heap[p]? = some (.cells #[.int .i64 x.k, .int .i64 x.a, .int .i64 x.h] t)) :
    w.cell? ⟨p, 0, none⟩ = some (.int .i64 x.k) ∧ w.cell? ⟨p, 1, none⟩ = some (.int .i64 x.a) ∧ w.cell? ⟨p, 2, none⟩ = some (.int .i64 x.h) ∧ w.frozen? ⟨p, 0, none⟩ = false ∧ w.frozen? ⟨p, 1, none⟩ = false ∧ w.frozen? ⟨p, 2, none⟩ = false ∧ p < w.heap.size := by
  refine ⟨?_, ?_, ?_, ?_, ?_, ?_, heap_lt h⟩ <;> simp [World.cell?, World.frozen?, h]
theorem lencode_any (x : Ev) (w : World) : Calls Try.prog 28 #[evA x] w fun e w' => e = .returned (.tuple #[.string ⟨(encR x).1.toArray⟩, .int .i64 (encR x).2]) ∧ Below w.heap.size w w' := by
  obtain ⟨w0, hw0⟩ : ∃ w0, w0 = w.alloc (.cells #[.int .i64 x.k, .int .i64 x.a, .int .i64 x.h] 54) := ⟨_, rfl⟩
  have b1 := Lib.hid (show w0.heap[w.heap.size]? = some (.cells #[.int .i64 x.k, .int .i64 x.a, .int .i64 x.h] 54) by rw [hw0]; exact newcell _ _)
  have HB0 := Lib.hid (show Below w.heap.size w w0 by rw [hw0]; exact below_new _ _)
  have HW := Lib.hid hw0
  obtain ⟨c0, c1, c2, _, _, _, lt⟩ := ev_cells b1.out
  clear hw0
  unfold evA
  go_enter Try.func28, Try.ntmps28
  go_wp2_with fail
  rw [← HW.out]
  go_wp2_with fail
  refine (lformed_any x _).mono ?_
  rintro e w1 ⟨rfl, hb1⟩
  have B1 := Lib.hid (keepcell b1.out hb1)
  have HB1 := Lib.hid (below_then HB0.out hb1)
  clear c0 c1 c2 lt hb1
  obtain ⟨c0, c1, c2, _, _, _, lt⟩ := ev_cells B1.out
  by_cases hf : Frm x
  · have HE := Lib.hid (show encR x = (enc x.k ++ enc x.a ++ enc x.h, 0) from if_pos hf)
    have HF := Lib.hid hf
    rw [frmB_iff.2 hf]
    clear hf
    go_wp2_with fail
    have hown := World.ownsRow_lit (base := w1.heap.size) (e := 3) (size := 1) w1 #[.int .i64 x.k, .int .i64 x.a, .int .i64 x.h] 3 (Nat.le_refl _) (by decide) rfl
    refine (lput_any _ [x.k, x.a, x.h] _ (HoldsG.of_own hown) (by simp) (fun n hn => ?_)).mono ?_
    · obtain ⟨f1, f2, f3, f4, f5, f6⟩ := HF.out
      have : -1 ≤ x.h ∧ x.h ≤ 63 := by
        by_cases hk : Named x.k
        · have := f5 hk; omega
        · have := f6 hk; omega
      simp at hn
      rcases hn with rfl | rfl | rfl <;> omega
    · rintro e w2 ⟨rfl, hb2⟩
      go_wp2_with fail
      go_ret2
      exact ⟨by rw [HE.out]; simp, below_then (below_then HB1.out (below_new _ _)) hb2⟩
  · have HE := Lib.hid (show encR x = ([], 140) from if_neg hf)
    rw [Bool.eq_false_iff.2 (fun e => hf (frmB_iff.1 e))]
    clear hf
    go_wp2_with fail
    go_ret2
    exact ⟨by rw [HE.out]; rfl, HB1.out⟩
end Go.Proofs.Ytjhakonpnopcnaa
