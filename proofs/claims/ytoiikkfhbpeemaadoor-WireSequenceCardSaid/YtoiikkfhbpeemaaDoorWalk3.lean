/-
  The contract of the iterator of groups of seven bits.
-/
import Derived.Test.YtoiikkfhbpeemaaDoorWalk2
namespace Go.Proofs.YtoiikkfhbpeemaaDoor
open Go Go.RowKit Go.Dial Go.Dial.Wire
attribute [local go_sem] Oper.semAt_some

theorem groups_any (z : Nat) (w : World) :
    Calls Tryd.prog 23 #[.int .u64 z] w fun e w' => e = .returned (.func (.func 25) #[] #[.pointer (some ⟨w.heap.size, 0, none⟩)]) ∧ w.alloc (.cells #[.int .u64 z] 49) = w' := by
  go_enter Tryd.func23, Tryd.ntmps23
  go_wp2
  go_ret
  exact ⟨rfl, rfl⟩

def encG (g : Nat × Bool) : Array Value := #[.int .u8 (g.1 : Int), .bool g.2]

set_option maxHeartbeats 800000 in
theorem groups_iter (z B : Nat) (W : World) (hz : z < 128 ^ 9) (hB : Boxed W B 49 (.int .u64 z)) :
    Iter Tryd.prog 25 #[.pointer (some ⟨B, 0, none⟩)] encG (grp 9 z) (· = B) (· = B) W := by
  intro l J Jx hJ hJx hY h0
  refine (callsIn_wide (n := 0)).1 (callsIn_of_wp Tryd.func25 rfl trivial ?_)
  simp only [Tryd.ntmps25, List.size_toArray, List.length_cons, List.length_nil, Nat.reduceAdd, Nat.reduceSub, Array.replicate_succ, Array.replicate_zero, List.push_toArray, List.append_toArray, List.nil_append, List.cons_append]
  gi_wp2
  gi_loopw [3] (fun _ wr => ∃ (pre : List (Nat × Bool)) (zn f : Nat), grp 9 z = pre ++ grp (f + 1) zn ∧ zn < 128 ^ (f + 1) ∧ f ≤ 8 ∧ Boxed wr B 49 (.int .u64 zn) ∧ J pre wr)
    (fun _ wr => match wr.cell? ⟨B, 0, none⟩ with | some v => (intOf v).toNat | none => 0)
  case atStart => exact ⟨[], z, 8, rfl, hz, Nat.le_refl _, hB, h0⟩
  case round =>
    obtain ⟨pre, zn, f, hg, hzn, hf, hbox, hJp⟩ := hrel
    have hb63 : zn < 9223372036854775808 := Nat.lt_of_lt_of_le hzn (Nat.le_trans (Nat.pow_le_pow_right (by omega) (show f + 1 ≤ 9 by omega)) (by decide))
    have hcell := hbox.cell
    have hfr := hbox.frozen
    have E0 := and127_u64 zn (by omega)
    by_cases hlt : zn < 128
    · rw [Nat.mod_eq_of_lt hlt] at E0
      have hgl : grp (f + 1) zn = [(zn, true)] := by rw [grp, if_pos hlt]
      rw [hgl] at hg
      obtain ⟨fn, tmps, assign, body, hy, hR⟩ := hY pre (zn, true) [] wr hg hJp
      have HG := Lib.hid hg
      have hdec : decide ((zn : Int) < 128) = true := by simp; omega
      clear hg hgl hzn hB
      dsimp only [encG] at hy
      gi_wp2
      refine hR.mono ?_
      rintro e W3 (⟨rfl, hJ3, hs3, hk3⟩ | ⟨rfl, hJx3⟩)
      · gi_wp2
        refine bodyPost_ret (results_none rfl _ _ _) rfl ?_
        exact ⟨⟨_, rfl⟩, .inl (by rw [HG.out]; exact hJ3)⟩
      · gi_wp2
        refine bodyPost_ret (results_none rfl _ _ _) rfl ?_
        exact ⟨⟨_, rfl⟩, .inr ⟨pre, (zn, true), [], HG.out, hJx3⟩⟩
    · obtain ⟨f, rfl⟩ : ∃ f', f = f' + 1 := by
        rcases f with _ | f
        · exact absurd (by simpa using hzn) hlt
        · exact ⟨f, rfl⟩
      have hgl : grp (f + 1 + 1) zn = (zn % 128, false) :: grp (f + 1) (zn / 128) := by rw [grp, if_neg hlt]
      rw [hgl] at hg
      obtain ⟨x, hx⟩ : ∃ x, x = zn % 128 := ⟨_, rfl⟩
      rw [← hx] at hg E0
      have hx1 : x < 128 := by omega
      obtain ⟨fn, tmps, assign, body, hy, hR⟩ := hY pre (x, false) _ wr hg hJp
      have hz' : zn / 128 < 128 ^ (f + 1) := by rw [Nat.pow_succ] at hzn; omega
      have HG := Lib.hid hg
      have HZ := Lib.hid hz'
      have hdec : decide ((zn : Int) < 128) = false := by simp; omega
      clear hg hgl hzn hB hx hz'
      dsimp only [encG] at hy
      gi_wp2
      refine hR.mono ?_
      rintro e W3 (⟨rfl, hJ3, hs3, hk3⟩ | ⟨rfl, hJx3⟩)
      · have hbox3 : Boxed W3 B 49 (.int .u64 zn) := (hk3 B rfl).trans hbox
        have hcell3 := hbox3.cell
        have hfr3 := hbox3.frozen
        gi_wp2
        go_roundw
        case rel => exact ⟨pre ++ [(x, false)], zn / 128, f, by rw [HG.out]; simp, HZ.out, by omega, hbox3.set _, hJ _ _ _ hJ3 (Ext.setCell _ _ _ _ rfl)⟩
        case measure => rw [(hbox3.set _).cell]; simp [intOf, hcell]; omega
      · gi_wp2
        refine bodyPost_ret (results_none rfl _ _ _) rfl ?_
        exact ⟨⟨_, rfl⟩, .inr ⟨pre, (x, false), _, HG.out, hJx3⟩⟩
end Go.Proofs.YtoiikkfhbpeemaaDoor
