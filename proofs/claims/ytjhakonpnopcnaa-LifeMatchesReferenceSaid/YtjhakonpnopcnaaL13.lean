/-
  life.Decode.
-/
import Derived.Test.YtjhakonpnopcnaaL12
set_option linter.unusedVariables false
set_option linter.unusedSimpArgs false
namespace Go.Proofs.Ytjhakonpnopcnaa
open Go Go.RowKit Go.Dial Go.Dial.Lif Go.Dial.Wire

theorem intAt_cases (l : List UInt8) (k : Int) :
    (intAt l k = (0, 0, 2) ∧ (k < 0 ∨ (l.length : Int) < k)) ∨ (intAt l k = (0, 0, 10) ∧ 0 ≤ k ∧ k ≤ l.length) ∨
    (∃ n : Int, intAt l k = (n, k + (enc n).length, 0) ∧ -maxInt ≤ n ∧ n ≤ maxInt ∧ 0 ≤ k ∧ enc n <+: l.drop k.toNat ∧ k + (enc n).length ≤ l.length) := by
  unfold intAt
  split
  · exact .inl ⟨rfl, by assumption⟩
  · rename_i h
    cases hd : dec 9 0 0 (l.drop k.toNat) with
    | none => exact .inr (.inl ⟨rfl, by omega, by omega⟩)
    | some p =>
      obtain ⟨n, j⟩ := p
      obtain ⟨h1, h2, h3, h4⟩ := (dec_iff _ _ _).1 hd
      have := h3.length_le
      simp at this
      exact .inr (.inr ⟨n, by rw [h4], h1, h2, by omega, h3, by omega⟩)
theorem intAt_bd (l : List UInt8) (k : Int) : 0 ≤ (intAt l k).2.1 ∧ (intAt l k).2.1 ≤ l.length := by
  rcases intAt_cases l k with ⟨h, _⟩ | ⟨h, _⟩ | ⟨n, h, _, _, h0, _, h1⟩
  · rw [h]; simp
  · rw [h]; simp
  · rw [h]; simp only; omega
/-- the closure that reads the next number -/
theorem lnext_any (s : ByteArray) (hs : s.size ≤ maxLen) (B1 B4 B5 : Nat) (p : Int) (bd : Bool) (W : World) (hp1 : -9223372036854775808 ≤ p) (hp2 : p ≤ 9223372036854775807) (n14 : B1 ≠ B4) (n15 : B1 ≠ B5) (n45 : B4 ≠ B5)
    (b1 : Boxed W B1 9 (.string s)) (b4 : Boxed W B4 3 (.int .i64 p)) (b5 : Boxed W B5 4 (.bool bd)) :
    Calls Try.prog 45 #[.pointer (some ⟨B1, 0, none⟩), .pointer (some ⟨B4, 0, none⟩), .pointer (some ⟨B5, 0, none⟩)] W fun e W' =>
      e = .returned (.int .i64 (intAt s.data.toList p).1) ∧ Boxed W' B1 9 (.string s) ∧ Boxed W' B4 3 (.int .i64 (intAt s.data.toList p).2.1) ∧ Boxed W' B5 4 (.bool (bd || decide ((intAt s.data.toList p).2.2 ≠ 0))) ∧ Ext (fun k => k = B4 ∨ k = B5) W W' := by
  obtain ⟨⟨n, q, er⟩, hr⟩ : ∃ r, r = intAt s.data.toList p := ⟨_, rfl⟩
  have HR := Lib.hid hr
  rw [← hr]
  have c1 := b1.cell
  have c4 := b4.cell
  have c5 := b5.cell
  have f4 := b4.frozen
  have f5 := b5.frozen
  have G1 := Lib.hid b1
  have G4 := Lib.hid b4
  have G5 := Lib.hid b5
  have m14 := Ne.symm n14
  have m15 := Ne.symm n15
  have m45 := Ne.symm n45
  have fin : ∀ u : Bool, Boxed ((W.setCell ⟨B5, 0, none⟩ (.bool u)).setCell ⟨B4, 0, none⟩ (.int .i64 q)) B1 9 (.string s) ∧ Boxed ((W.setCell ⟨B5, 0, none⟩ (.bool u)).setCell ⟨B4, 0, none⟩ (.int .i64 q)) B4 3 (.int .i64 q) ∧
      Boxed ((W.setCell ⟨B5, 0, none⟩ (.bool u)).setCell ⟨B4, 0, none⟩ (.int .i64 q)) B5 4 (.bool u) ∧ Ext (fun k => k = B4 ∨ k = B5) W ((W.setCell ⟨B5, 0, none⟩ (.bool u)).setCell ⟨B4, 0, none⟩ (.int .i64 q)) := fun u => by
    refine ⟨?_, ?_, ?_, ?_⟩
    · exact (Below.heap_setCell _ _ _ _ n14).trans ((Below.heap_setCell _ _ _ _ n15).trans G1.out)
    · have : Boxed (W.setCell ⟨B5, 0, none⟩ (.bool u)) B4 3 (.int .i64 p) := (Below.heap_setCell _ _ _ _ n45).trans G4.out
      exact this.set _
    · exact (Below.heap_setCell _ _ _ _ m45).trans (G5.out.set _)
    · exact (Ext.setCell (fun k => k = B4 ∨ k = B5) W ⟨B5, 0, none⟩ _ (.inr rfl)).trans (Ext.setCell (fun k => k = B4 ∨ k = B5) _ ⟨B4, 0, none⟩ _ (.inl rfl))
  have FIN := Lib.hid fin
  clear hr b1 b4 b5 fin
  by_cases he : er = 0
  · have te : (er != 0) = false := by simp [he]
    have td : decide (er ≠ 0) = false := by simp [he]
    have TD := Lib.hid td
    clear he td
    go_enter Try.func45, Try.ntmps45
    go_wp2_with fail
    refine (int_any s p W hs hp1 hp2).mono ?_
    rw [← HR.out]
    dsimp only
    rintro e w1 ⟨rfl, rfl⟩
    cases bd
    all_goals
      go_wp2_with fail
      go_ret
      simp only [TD.out]
      exact ⟨rfl, FIN.out _⟩
  · have te : (er != 0) = true := by simp [he]
    have td : decide (er ≠ 0) = true := by simp [he]
    have TD := Lib.hid td
    clear he td
    go_enter Try.func45, Try.ntmps45
    go_wp2_with fail
    refine (int_any s p W hs hp1 hp2).mono ?_
    rw [← HR.out]
    dsimp only
    rintro e w1 ⟨rfl, rfl⟩
    cases bd
    all_goals
      go_wp2_with fail
      go_ret
      simp only [TD.out]
      exact ⟨rfl, FIN.out _⟩
end Go.Proofs.Ytjhakonpnopcnaa
