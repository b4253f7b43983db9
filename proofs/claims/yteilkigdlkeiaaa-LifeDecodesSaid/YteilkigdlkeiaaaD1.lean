/-
  Plain laws of what Encode and Decode return.
-/
import Derived.Test.YteilkigdlkeiaaaL14
namespace Go.Proofs.Yteilkigdlkeiaaa
open Go Go.RowKit Go.Dial Go.Dial.Lif Go.Dial.Wire

def E3 (x : Ev) : List UInt8 := enc x.k ++ enc x.a ++ enc x.h
theorem frm_bd {x : Ev} (h : Frm x) : -maxInt ≤ x.k ∧ x.k ≤ maxInt ∧ -maxInt ≤ x.a ∧ x.a ≤ maxInt ∧ -maxInt ≤ x.h ∧ x.h ≤ maxInt := by
  obtain ⟨f1, f2, f3, f4, f5, f6⟩ := h
  have : -1 ≤ x.h ∧ x.h ≤ 63 := by
    by_cases hk : Named x.k
    · have := f5 hk; omega
    · have := f6 hk; omega
  unfold maxInt; omega
theorem encR_ok {x : Ev} (h : Frm x) : encR x = (E3 x, 0) := if_pos h
theorem E3_pos (x : Ev) : 0 < (E3 x).length := by
  have := enc_pos x.k
  unfold E3; simp only [List.length_append]; omega
theorem E3_len (x : Ev) : (E3 x).length ≤ 27 := by
  have h1 := enc_length x.k
  have h2 := enc_length x.a
  have h3 := enc_length x.h
  unfold E3; simp only [List.length_append]; omega
theorem dec_enc {x : Ev} (h : Frm x) : decR (E3 x) = (x, 0) := by
  obtain ⟨b1, b2, b3, b4, b5, b6⟩ := frm_bd h
  have i1 := intAt_embed [] (enc x.a ++ enc x.h) x.k b1 b2
  have i2 := intAt_embed (enc x.k) (enc x.h) x.a b3 b4
  have i3 := intAt_embed (enc x.k ++ enc x.a) [] x.h b5 b6
  have e1 : [] ++ enc x.k ++ (enc x.a ++ enc x.h) = E3 x := by simp [E3]
  have e2 : enc x.k ++ enc x.a ++ enc x.h = E3 x := rfl
  have e3 : (enc x.k ++ enc x.a) ++ enc x.h ++ [] = E3 x := by simp [E3]
  rw [e1] at i1
  rw [e2] at i2
  rw [e3] at i3
  have j1 : intAt (E3 x) 0 = (x.k, ((enc x.k).length : Int), 0) := by simpa using i1
  have j3 : intAt (E3 x) (((enc x.k).length : Int) + ((enc x.a).length : Int)) = (x.h, ((enc x.k).length : Int) + ((enc x.a).length : Int) + (enc x.h).length, 0) := by simpa using i3
  have hok : decOk (E3 x) := by
    unfold decOk
    rw [j1]; dsimp only
    rw [i2]; dsimp only
    rw [j3]; dsimp only
    exact ⟨rfl, rfl, rfl, by simp [E3]; omega, h⟩
  rw [decR, if_pos hok, j1]; dsimp only
  rw [i2]; dsimp only
  rw [j3]
theorem pre_app {l : List UInt8} {n : Int} {p : Nat} (h : enc n <+: l.drop p) : l.drop p = enc n ++ l.drop (p + (enc n).length) := by
  obtain ⟨t, ht⟩ := h
  rw [← List.drop_drop, ← ht, List.drop_left]
theorem dec_some {l : List UInt8} {x : Ev} (h : decR l = (x, 0)) : Frm x ∧ l = E3 x := by
  unfold decR at h
  by_cases hd : decOk l
  · rw [if_pos hd] at h
    unfold decOk at hd
    rcases intAt_cases l 0 with ⟨e, _⟩ | ⟨e, _⟩ | ⟨n1, e1, _, _, _, p1, q1⟩
    · rw [e] at hd; exact absurd hd.1 (by decide)
    · rw [e] at hd; exact absurd hd.1 (by decide)
    rw [e1] at h hd
    dsimp only at h hd
    rcases intAt_cases l (0 + (enc n1).length) with ⟨e, _⟩ | ⟨e, _⟩ | ⟨n2, e2, _, _, _, p2, q2⟩
    · rw [e] at hd; exact absurd hd.2.1 (by decide)
    · rw [e] at hd; exact absurd hd.2.1 (by decide)
    rw [e2] at h hd
    dsimp only at h hd
    rcases intAt_cases l (0 + (enc n1).length + (enc n2).length) with ⟨e, _⟩ | ⟨e, _⟩ | ⟨n3, e3, _, _, _, p3, q3⟩
    · rw [e] at hd; exact absurd hd.2.2.1 (by decide)
    · rw [e] at hd; exact absurd hd.2.2.1 (by decide)
    rw [e3] at h hd
    dsimp only at h hd
    obtain ⟨_, _, _, hl, hf⟩ := hd
    have hx : x = ⟨n1, n2, n3⟩ := by cases h; rfl
    rw [hx]
    refine ⟨hf, ?_⟩
    have z1 := pre_app p1
    have z2 := pre_app p2
    have z3 := pre_app p3
    have t1 : (0 : Int).toNat = 0 := rfl
    have t2 : (0 + ((enc n1).length : Int)).toNat = (enc n1).length := by omega
    have t3 : (0 + ((enc n1).length : Int) + (enc n2).length).toNat = (enc n1).length + (enc n2).length := by omega
    rw [t1, List.drop_zero, Nat.zero_add] at z1
    rw [t2] at z2
    rw [t3] at z3
    have z4 : l.drop ((enc n1).length + (enc n2).length + (enc n3).length) = [] := List.drop_eq_nil_of_le (by omega)
    rw [z4, List.append_nil] at z3
    rw [z1, z2, z3]
    simp [E3]
  · rw [if_neg hd] at h; cases h
theorem E3_pre {x y : Ev} (hx : Frm x) (hy : Frm y) (h : E3 x <+: E3 y) : x = y := by
  obtain ⟨a1, a2, a3, a4, a5, a6⟩ := frm_bd hx
  obtain ⟨b1, b2, b3, b4, b5, b6⟩ := frm_bd hy
  have h1 : enc x.k <+: E3 y := (show enc x.k <+: E3 x from ⟨enc x.a ++ enc x.h, by simp [E3]⟩).trans h
  have h2 : enc y.k <+: E3 y := ⟨enc y.a ++ enc y.h, by simp [E3]⟩
  have k1 := enc_inj_of_prefix a1 a2 b1 b2 h1 h2
  unfold E3 at h
  rw [k1, List.append_assoc, List.append_assoc, List.prefix_append_right_inj] at h
  have h3 : enc x.a <+: enc y.a ++ enc y.h := (List.prefix_append ..).trans h
  have k2 := enc_inj_of_prefix a3 a4 b3 b4 h3 (List.prefix_append ..)
  rw [k2, List.prefix_append_right_inj] at h
  have k3 := enc_inj_of_prefix a5 a6 b5 b6 h (List.prefix_refl _)
  cases x; cases y; simp_all
end Go.Proofs.Yteilkigdlkeiaaa
