/-
  The contract of wire.PutInt.
-/
import Derived.Test.YtoiikkfhbpeemaaDoorWalk3
namespace Go.Proofs.YtoiikkfhbpeemaaDoor
open Go Go.RowKit Go.Shelf Go.Dial Go.Dial.Wire
attribute [local go_sem] Oper.semAt_some

theorem putInt_xor (n : Int) (h1 : -4611686018427387903 ≤ n) (h2 : n ≤ 4611686018427387903) (hn : n < 0) :
    bits .xor .u64 (IntKind.u64.wrap (IntKind.u64.wrap n * 2)) 18446744073709551615 = (zz n : Int) := by
  have e : IntKind.u64.wrap (IntKind.u64.wrap n * 2) = (((2 * n) % 18446744073709551616).toNat : Int) := by
    rw [IntKind.wrap_u64, IntKind.wrap_u64]; omega
  rw [e, xor_u64_m _ (by omega)]
  unfold zz; rw [if_pos hn]; omega
set_option maxRecDepth 100000 in
set_option maxHeartbeats 800000 in
theorem putInt_any (n : Int) (w : World) (hl : -9223372036854775808 ≤ n) (hu : n ≤ 9223372036854775807) :
    Calls Tryd.prog 12 #[.int .i64 n] w fun e w' => e = .returned (putV n) ∧ Below w.heap.size w w' := by
  refine (callsIn_wide (n := 0)).1 (callsIn_of_wp_marks Tryd.func12 rfl trivial ?_)
  simp only [Tryd.ntmps12, List.size_toArray, List.length_cons, List.length_nil, Nat.reduceAdd, Nat.reduceSub, Array.replicate_succ, Array.replicate_zero, List.push_toArray, List.append_toArray, List.nil_append, List.cons_append]
  by_cases h1 : n < -4611686018427387903
  · have HP := Lib.hid (putInt_bad (.inl h1))
    gi_wp2
    refine ⟨_, results_tmp2 rfl _ _ _, by rw [putV, HP.out]; rfl, Below.refl _ _⟩
  by_cases h2 : 4611686018427387903 < n
  · have HP := Lib.hid (putInt_bad (.inr h2))
    gi_wp2
    refine ⟨_, results_tmp2 rfl _ _ _, by rw [putV, HP.out]; rfl, Below.refl _ _⟩
  have HP := Lib.hid (putInt_ok (n := n) (by omega) (by omega))
  obtain ⟨i0, hi, hz0, hz1, hz2⟩ := info_parts info5
  have hzl := zz_lt n (by unfold maxInt; omega) (by unfold maxInt; omega)
  have HZ := Lib.hid hzl
  clear hzl
  have ex : bits .xor .u64 (IntKind.u64.wrap (IntKind.u64.wrap n * 2)) (IntKind.u64.wrap (n / 9223372036854775808)) = (zz n : Int) := by
    by_cases hn : n < 0
    · rw [show IntKind.u64.wrap (n / 9223372036854775808) = 18446744073709551615 by rw [IntKind.wrap_u64]; omega]
      exact putInt_xor n (by omega) (by omega) hn
    · rw [show IntKind.u64.wrap (n / 9223372036854775808) = 0 by rw [IntKind.wrap_u64]; omega,
        show IntKind.u64.wrap (IntKind.u64.wrap n * 2) = ((zz n : Nat) : Int) by rw [IntKind.wrap_u64, IntKind.wrap_u64]; unfold zz; rw [if_neg hn]; omega]
      exact xor_u64_0 _ (by have := HZ.out; omega)
  have EX := Lib.hid ex
  clear ex
  gi_wp2_with fail
  rw [EX.out]
  refine ((callsIn_wide (n := 0)).2 (groups_any (zz n) _)).mono ?_
  rintro e w' ⟨rfl, rfl⟩
  gi_wp2
  obtain ⟨w0, hw0⟩ : ∃ w0, (w.alloc (.cells #[.slice none 0 0] 38)).alloc (.cells #[.int .u64 (zz n)] 49) = w0 := ⟨_, rfl⟩
  have hbo : Boxed w0 w.heap.size 38 (.slice none 0 0) := by rw [← hw0]; exact (Boxed.new w _ _).alloc _
  have hbz : Boxed w0 (w.heap.size + 1) 49 (.int .u64 (zz n)) := by
    rw [← hw0]; have := Boxed.new (w.alloc (.cells #[.slice none 0 0] 38)) 49 (.int .u64 (zz n)); rwa [World.size_alloc] at this
  have hsz : w0.heap.size = w.heap.size + 2 := by rw [← hw0]; simp
  have hbel0 : Below w.heap.size w w0 := by rw [← hw0]; exact ((Below.refl _ w).alloc (Nat.le_refl _) _).alloc (by simp) _
  have HW := Lib.hid hw0
  rw [hw0]
  clear hw0
  have hI : ∀ (pre : List (Nat × Bool)) (X Y : World), (∃ v, Boxed X w.heap.size 38 v ∧ X.ownsRow (w.heap.size + 2) 5 1 v pre.length (u8s (pre.map Go.Dial.Wire.byteOf)) ∧ Below w.heap.size w X) → Ext (sideOf (· = w.heap.size + 1) w0.heap.size X) X Y →
      (∃ v, Boxed Y w.heap.size 38 v ∧ Y.ownsRow (w.heap.size + 2) 5 1 v pre.length (u8s (pre.map Go.Dial.Wire.byteOf)) ∧ Below w.heap.size w Y) := by
    rintro pre X Y ⟨v, h1, h2, h3⟩ hx
    exact ⟨v, boxed_side h1 hx (by omega), own_side h2 hx (by intro k hk; omega), below_side h3 hx (by rintro k rfl; omega) (by omega) (Nat.le_refl _)⟩
  refine wpIn_rangeIt (gf := 25) (lb := #[.pointer (some ⟨w.heap.size + 1, 0, none⟩)]) rfl (enters_of Tryd.func25 (by kernel_rfl) rfl) (encs := encG) (xs := grp 9 (zz n)) (mine := (· = w.heap.size + 1)) (needs := (· = w.heap.size + 1))
    (by rintro k rfl; omega) (by rintro k rfl; omega)
    (fun W1 hb => groups_iter (zz n) _ W1 HZ.out ((hb.block _ (by omega)).trans hbz)) (fun _ => rfl)
    (fun pre W => ∃ v, Boxed W w.heap.size 38 v ∧ W.ownsRow (w.heap.size + 2) 5 1 v pre.length (u8s (pre.map Go.Dial.Wire.byteOf)) ∧ Below w.heap.size w W)
    (fun _ _ _ => False)
    hI (fun _ _ _ _ h _ => h) ⟨_, hbo, World.ownsRow_nil _ _ _ _, hbel0⟩ ?round ?done (fun _ _ _ _ _ _ _ h => h.elim)
  case round =>
    rintro l pre ⟨g, last⟩ post W hxs hi0 hlt
    dsimp only [encG]
    gi_wp2
    refine ⟨KeepsFrom.refl _ _, by simp, fun W₂ hx => ?_⟩
    obtain ⟨v, h1, h2, h3⟩ := hI _ _ _ hi0 hx
    have hsz3 : w.heap.size + 2 < W₂.heap.size := by have := hx.size; omega
    clear hI hi0 hx
    have hc := h1.cell
    have hf := h1.frozen
    have hlen : pre.length ≤ 9 := by
      have h9 := congrArg List.length hxs
      have := leb_length 9 (zz n)
      rw [← leb_grp] at this
      simp at this h9
      omega
    have hg := grp_lt 9 (zz n) (g, last) (by rw [hxs]; simp)
    dsimp only at hg
    have hsz2 := h3.size
    have E := or128_u8 g hg
    cases last
    · have ee : u8s (pre.map Go.Dial.Wire.byteOf) ++ [.int .u8 ((g + 128 : Nat) : Int)] = u8s ((pre ++ [(g, false)]).map Go.Dial.Wire.byteOf) := by simp [u8s, Go.Dial.Wire.byteOf]
      gi_wp2_with (gi_at_builtin; refine wpListIn_append_own _ rfl _ _ 38 rfl (w.heap.size + 2) 5 i0 (.int .u8 0) 1 1 Tryd.underlying38 hi hz0 hz1 hz2 rfl (by decide) _ _ _ rfl (h2.alloc _) ⟨W₂.heap.size, 0, none⟩ 1 1 [.int .u8 _] rfl rfl (cell_one_new _ _ _) (by simp [Value.oneCell']) (by unfold maxLen; omega) (by omega) (by have := h1.lt; simp; omega) ?_; intro v' w1 hown' hgrow hnil; clear hnil; obtain ⟨hv1, hv2, hr2, hk2, hx2⟩ := box_append h1 (by decide) h2 hown' hgrow; obtain ⟨g', cap', rfl⟩ := ownsRow_succ hown'; have hc1 := hv1.cell; have hf1 := hv1.frozen)
      refine ⟨hk2.from _, ?_, _, hv2, ?_, ?_⟩
      · rintro k rfl; exact hx2.block _ (by omega) (by omega)
      · rw [← ee]; simpa using hr2
      · exact h3.trans (hx2.below (by omega) (by omega))
    · have ee : u8s (pre.map Go.Dial.Wire.byteOf) ++ [.int .u8 (g : Int)] = u8s ((pre ++ [(g, true)]).map Go.Dial.Wire.byteOf) := by simp [u8s, Go.Dial.Wire.byteOf]
      gi_wp2_with (gi_at_builtin; refine wpListIn_append_own _ rfl _ _ 38 rfl (w.heap.size + 2) 5 i0 (.int .u8 0) 1 1 Tryd.underlying38 hi hz0 hz1 hz2 rfl (by decide) _ _ _ rfl (h2.alloc _) ⟨W₂.heap.size, 0, none⟩ 1 1 [.int .u8 _] rfl rfl (cell_one_new _ _ _) (by simp [Value.oneCell']) (by unfold maxLen; omega) (by omega) (by have := h1.lt; simp; omega) ?_; intro v' w1 hown' hgrow hnil; clear hnil; obtain ⟨hv1, hv2, hr2, hk2, hx2⟩ := box_append h1 (by decide) h2 hown' hgrow; obtain ⟨g', cap', rfl⟩ := ownsRow_succ hown'; have hc1 := hv1.cell; have hf1 := hv1.frozen)
      refine ⟨hk2.from _, ?_, _, hv2, ?_, ?_⟩
      · rintro k rfl; exact hx2.block _ (by omega) (by omega)
      · rw [← ee]; simpa using hr2
      · exact h3.trans (hx2.below (by omega) (by omega))
  case done =>
    rintro D W ⟨v, h1, h2, h3⟩ hD hK
    have hc := h1.cell
    have hf := h1.frozen
    have kc := run_convert_own (P := Tryd.prog) 38 9 Tryd.underlying38 Tryd.underlying5 Tryd.underlying9 h2
    gi_wp2
    refine ⟨by simp, .inl ⟨_, _, rfl, run_takeDeferred hK, ?_⟩⟩
    refine ⟨_, results_tmp2 rfl _ _ _, ?_, ?_⟩
    · rw [putV, HP.out]; rw [enc, ← leb_grp]; rfl
    · exact h3.trans ((Ext.putObj (fun k => w0.heap.size ≤ k) _ _ _ hD).below (by intros; omega) (by have := h3.size; omega))
end Go.Proofs.YtoiikkfhbpeemaaDoor
