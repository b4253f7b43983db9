/-
  WireSequence: a concatenation of encodings of integers and strings is decoded into the same values, and ends exactly at its end; no condition beyond the row's own.
-/
import Derived.Test.YtoiikkfhbpeemaaDoorRows
import Derived.Test.YtoiikkfhbpeemaaDoorCards
import Derived.Test.YtoiikkfhbpeemaaDoorTie
import Derived.Test.YtoiikkfhbpeemaaDoorLaw
import Derived.Test.YtoiikkfhbpeemaaDoorStart
import Derived.Test.YtoiikkfhbpeemaaDoorLaw4
namespace Go.Proofs.YtoiikkfhbpeemaaDoor
open Go Go.ChangeShapes Go.WideShapes Go.ChangeAt Go.WideMaps Go.WideElems Go.RowKit Go.Dial Go.Dial.Wire

theorem flat_ints (l : List Int) : (l.flatMap fun n => [Value.int .i64 n]) = ints l := by
  induction l with
  | nil => rfl
  | cons x l ih => simp [ints] at ih ⊢; exact ih
theorem flat_strs (l : List ByteArray) : (l.flatMap fun n => [Value.string n]) = strs4 l := by
  induction l with
  | nil => rfl
  | cons x l ih => simp [strs4] at ih ⊢; exact ih

set_option maxRecDepth 100000 in
theorem lifted4 (os : Os) (started : os.Started) (H : Type) (enc : TypeId × Value → H) :
    ReturnsInHanded {} Tryd.checked os 6 .any (fun w args => (Rows.wireSequenceSpec.pre enc Tryd.prog Tryd.f6 [] false w args ∧ laidMetH Tryd.prog laidN w) ∧ sizedMet enc Tryd.prog Tryd.f6 (OpenSpec.ofChange Rows.wireSequenceSpec) false w args)
      (Rows.wireSequenceSpec.post enc Tryd.prog Tryd.f6 false true false false) := by
  refine returnsInHanded_of_change_and (C := Tryd.checked) (X := fun w _ => laidMetH Tryd.prog laidN w) (fun _ _ _ hh h => h.of_heap hh) own started (by kernel_rfl) Tryd.func6
    (ChangeSpec.witness_shaped (enc := enc) (C := Tryd.checked) (os := os) (X := fun w _ => laidMetH Tryd.prog laidN w) false (World.doorLaid Tryd.prog 400 os) #[.slice none 0 0, .slice none 0 0] 8 rfl (World.shaped_of_RefB (by kernel_rfl) (by kernel_rfl)) (by kernel_rfl) (by kernel_rfl) (by kernel_rfl) (door_met os _)) ?_
  intro W base args ds gs before hval0 hW _ hsz hL _
  have hval : ∀ (j : Nat) t v, Tryd.f6.params[j]? = some t → args[j]? = some v → Value.okWide Tryd.prog W .any base t v := hval0
  have hW' := hW
  obtain ⟨p, q, hA0, hV, rfl, hfz, hnd⟩ := hW
  have hA : DataW.TrodAll enc Tryd.prog W 0 (fun _ => true) true Tryd.f6.params.toList args.toList ds p := hA0
  rw [Tryd.params6] at hA hval
  obtain ⟨v0, vs0, d0, ds0, p0, q0, hargs, rfl, rfl, h0, r0⟩ := trodAll_cons hA
  obtain ⟨v1, vs1, d1, ds1, p1, q1, rfl, rfl, rfl, h1, r1⟩ := trodAll_cons r0
  obtain ⟨rfl, rfl, rfl⟩ := trodAll_nil r1
  obtain rfl : args = #[v0, v1] := by cases args; simp_all
  obtain ⟨s0, rfl, a0, b0, c0, e0⟩ := in_slice Tryd.underlying24 (rd_slice Tryd.underlying24 (sz := 1) (by kernel_rfl) (by simp) (rd_i64 Tryd.underlying3)) (hval 0 24 v0 rfl rfl) h0
  obtain ⟨s1, rfl, a1, b1, c1, e1⟩ := in_slice Tryd.underlying40 (rd_slice Tryd.underlying40 (sz := 1) (by kernel_rfl) (by simp) (rd_string Tryd.underlying9)) (hval 1 40 v1 rfl rfl) h1
  have c0' : Span W W.heap.size 1 s0.A s0.ys.length (ints s0.ys) := by rw [← flat_ints]; exact c0
  have c1' : Span W W.heap.size 1 s1.A s1.ys.length (strs4 s1.ys) := by rw [← flat_strs]; exact c1
  refine (law4_any s0.A s1.A s0.cap s1.cap s0.ys s1.ys W (table_of_laid hL) (by omega) (by omega) c0' c1' e0 e1).mono fun e W2 ⟨he, hb⟩ => ⟨_, he, ?_⟩
  exact law_post hW' rfl rfl rfl rfl laidOut (by rw [Tryd.params6]; exact all_read (by kernel_rfl)) rfl Tryd.underlying4 hb

theorem holds4 : Rows.WireSequenceSaid :=
  OpenClaim.holds_of_wide 6 Tryd.f6 rfl rfl rfl rfl rfl rfl rfl ⟨rfl, rfl, rfl, rfl, rfl⟩ rfl rfl rfl rfl rfl (by kernel_rfl) Tryd.func6 (by kernel_rfl)
    (of_decide_eq_true (by kernel_rfl)) (by unfold Func.isWrapper; first | (rw [if_pos (by decide +kernel)]; kernel_rfl) | (rw [if_neg (by decide +kernel)]; exact ⟨rfl, rfl⟩))
    (fun os started H enc _ => lifted4 os started H enc)

theorem card4 : Rows.WireSequenceCardSaid :=
  Claim7.holds_tied_plain_at .later [] [.data] true (true, "702e1e2cef83856bc72c8ff3f44ce74ff9092edd490cab8dfd188815a89734bc") false
    holds4 (fun _ h => by cases h) (by kernel_rfl) (fun _ h => by cases h) wireSequence_row_tie rfl ⟨rfl, rfl⟩ (by kernel_rfl) rfl
    (fun f fn hf hfn => by
      obtain rfl : f = 6 := Option.some.inj ((show Tryd.prog.funcNamed "dialtone/dialtonelaw01.WireSequence" = some 6 by kernel_rfl).symm.trans hf) |>.symm
      obtain rfl : fn = Tryd.f6 := (Option.some.inj (Tryd.func6.symm.trans hfn)).symm
      exact ⟨by kernel_rfl, fun j t ht => by
        rw [Tryd.params6] at ht
        exact none_wants (by kernel_rfl) j t ht⟩)
    (by kernel_rfl)
end Go.Proofs.YtoiikkfhbpeemaaDoor
