/-
  dialtoneref13.Near; the laws' differs.
-/
import Derived.Test.YtmgippddljmfjaaWalk23
namespace Go.Proofs.Ytmgippddljmfjaa
open Go Go.RowKit Go.Dial Go.Dial.Blk

theorem quiet_lft {P : Program} {f : FuncId} {args : Array Value} {w : World} {n : Nat} {v : Value}
    (h : Calls P f args (w.drewN n) fun e w' => e = .returned v ∧ w.drewN n = w') : Calls P f args (w.drewN n) fun e w'' => e = .returned v ∧ ∃ m, w'' = w.drewN m :=
  h.mono fun _ _ ⟨he, hm⟩ => ⟨he, n, hm.symm⟩
def nearV (l : List B3) (which n : Int) : Int :=
  if l = [] ∨ pickV which 4 = 3 then n else
    if pickV (which.tdiv 4) 2 = 0 then (l.getD (pickV (which.tdiv 8) l.length).toNat ⟨0, 0, -1⟩).f - 1 + pickV n 3 else (l.getD (pickV (which.tdiv 8) l.length).toNat ⟨0, 0, -1⟩).t - 1 + pickV n 3
theorem tdiv_i64 {x k : Int} (hx : I64 x) (hk : 2 ≤ k) : I64 (x.tdiv k) := by
  obtain ⟨h1, h2⟩ := hx
  have h3 : (x.tdiv k).natAbs = x.natAbs / k.natAbs := Int.natAbs_tdiv x k
  have h4 : x.natAbs / k.natAbs ≤ x.natAbs / 2 := Nat.div_le_div_left (by omega) (by decide)
  constructor <;> omega
theorem near_i64 {l : List B3} (h : Canon l) (which n : Int) (hn : I64 n) : I64 (nearV l which n) := by
  have hp := pickV_bd n (show (0 : Int) < 3 by decide)
  obtain ⟨h1, h2⟩ := hn
  unfold nearV
  split
  · exact ⟨h1, h2⟩
  · rename_i hne
    have hb : ∀ i, 0 ≤ (l.getD i ⟨0, 0, -1⟩).f ∧ (l.getD i ⟨0, 0, -1⟩).f ≤ 100000000 ∧ 0 ≤ (l.getD i ⟨0, 0, -1⟩).t ∧ (l.getD i ⟨0, 0, -1⟩).t ≤ 100000000 := fun i => by
      by_cases hi : i < l.length
      · have := asc_get h hi
        simp only [List.getD_eq_getElem?_getD, List.getElem?_eq_getElem hi, Option.getD_some]; omega
      · simp only [List.getD_eq_getElem?_getD, List.getElem?_eq_none (Nat.le_of_not_lt hi), Option.getD_none]; omega
    have := hb (pickV (which.tdiv 8) l.length).toNat
    split <;> (constructor <;> omega)
set_option maxHeartbeats 1600000 in
theorem near_any (v : Value) (l : List B3) (which n : Int) (w : World) (hv : HoldsB w w.heap.size v l) (hval : validB l = true) (hwh : I64 which) (hn : I64 n) :
    Calls Try.prog 15 #[v, .int .i64 which, .int .i64 n] w fun e w' => e = .returned (.int .i64 (nearV l which n)) ∧ Below w.heap.size w w' := by
  obtain ⟨A, c, rfl, h0, h1, h2⟩ := hv
  have SP := Lib.hid h2
  have HC := Lib.hid (validB_iff.1 hval).2
  clear h2 hval
  unfold maxLen at h1
  by_cases hl : l.length = 0
  · have hl0 : l = [] := List.eq_nil_of_length_eq_zero hl
    have HV : Hid (nearV l which n = n) := Lib.hid (by rw [nearV, if_pos (.inl hl0)])
    have HL := Lib.hid hl
    subst hl0
    clear hl
    go_enter Try.func15, Try.ntmps15
    go_wp2_with fail
    go_ret
    exact ⟨by rw [HV.out]; rfl, Below.refl _ _⟩
  · have hlp : 0 < l.length := by omega
    have b4 := pickV_bd which (show (0 : Int) < 4 by decide)
    obtain ⟨p4, hp4⟩ : ∃ x, x = pickV which 4 := ⟨_, rfl⟩
    rw [← hp4] at b4
    have H4 := Lib.hid hp4
    have tl : ((l.length : Int) == 0) = false := by rw [beq_eq_false_iff_ne]; omega
    have hne : l ≠ [] := fun e => hl (by rw [e]; rfl)
    clear hl
    by_cases h3 : p4 = 3
    · have HV : Hid (nearV l which n = n) := Lib.hid (by rw [nearV, if_pos (.inr (by rw [← hp4]; exact h3))])
      clear hp4
      subst h3
      go_enter Try.func15, Try.ntmps15
      go_wp2_with (go_at_call 35; refine (rpick_any which 4 _ hwh (by decide) (by decide)).mono ?_; rintro e wq ⟨rfl, rfl⟩; rw [← H4.out])
      go_ret
      exact ⟨by rw [HV.out]; rfl, Below.refl _ _⟩
    · have t3 : (p4 == 3) = false := by rw [beq_eq_false_iff_ne]; exact h3
      have b8 := pickV_bd (which.tdiv 8) (show (0 : Int) < (l.length : Int) by omega)
      obtain ⟨k, hk⟩ := Int.eq_ofNat_of_zero_le b8.1
      have hkl : k < l.length := by omega
      have hkk : (pickV (which.tdiv 8) l.length).toNat = k := by omega
      have HK := Lib.hid hk
      have b2 := pickV_bd (which.tdiv 4) (show (0 : Int) < 2 by decide)
      obtain ⟨p2, hp2⟩ : ∃ x, x = pickV (which.tdiv 4) 2 := ⟨_, rfl⟩
      rw [← hp2] at b2
      have H2 := Lib.hid hp2
      have bn := pickV_bd n (show (0 : Int) < 3 by decide)
      obtain ⟨p3, hp3⟩ : ∃ x, x = pickV n 3 := ⟨_, rfl⟩
      rw [← hp3] at bn
      have H3 := Lib.hid hp3
      have hgt := asc_get HC.out hkl
      obtain ⟨ad, e0, _, x0, x1, x2⟩ := span_blk SP.out (List.getElem?_eq_getElem hkl)
      subst e0
      obtain ⟨b, hb⟩ : ∃ b, b = l[k] := ⟨_, rfl⟩
      rw [← hb] at x0 x1 x2 hgt
      have hgd : l.getD k ⟨0, 0, -1⟩ = b := by rw [hb]; simp [List.getD_eq_getElem?_getD, List.getElem?_eq_getElem hkl]
      have HV : Hid (nearV l which n = if p2 = 0 then b.f - 1 + p3 else b.t - 1 + p3) := Lib.hid (by
        rw [nearV, if_neg (fun h => h.elim hne (fun e => h3 (by rw [hp4]; exact e))), ← hp2, ← hp3, hkk, hgd])
      have d8 := tdiv_i64 hwh (show (2 : Int) ≤ 8 by decide)
      have d4 := tdiv_i64 hwh (show (2 : Int) ≤ 4 by decide)
      have e8 : IntKind.i64.wrap (which.tdiv 8) = which.tdiv 8 := IntWalk.i64_in _ (by obtain ⟨u1, u2⟩ := d8; omega)
      have e4 : IntKind.i64.wrap (which.tdiv 4) = which.tdiv 4 := IntWalk.i64_in _ (by obtain ⟨u1, u2⟩ := d4; omega)
      have z0 : (0 : Int) ≤ (k : Int) := by omega
      have z1 : (k : Int) < (l.length : Int) := by omega
      clear hp4 hk hp2 hp3 hb hgd hne h3 hkk
      have HQ : Hid (∀ W, Calls Try.prog 35 #[.int .i64 n, .int .i64 3] W fun e w' => e = .returned (.int .i64 p3) ∧ W = w') := Lib.hid fun W => by rw [H3.out]; exact rpick_any n 3 W hn (by decide) (by decide)
      by_cases hp20 : p2 = 0
      · have s1 : IntKind.i64.wrap (b.f - 1) = b.f - 1 := IntWalk.i64_in _ (by omega)
        have s2 : IntKind.i64.wrap (b.f - 1 + p3) = b.f - 1 + p3 := IntWalk.i64_in _ (by omega)
        have HV2 : Hid (nearV l which n = b.f - 1 + p3) := Lib.hid (by rw [HV.out, if_pos hp20])
        go_enter Try.func15, Try.ntmps15
        go_wp2_with (first
          | (go_at_call_of 35 (Value.int IntKind.i64 which); refine (rpick_any which 4 _ hwh (by decide) (by decide)).mono ?_; rintro e wq ⟨rfl, rfl⟩; rw [← H4.out])
          | (go_at_call_of 35 (Value.int IntKind.i64 (which.tdiv 8)); refine (rpick_any _ l.length _ d8 (by omega) (by omega)).mono ?_; rintro e wq ⟨rfl, rfl⟩; rw [HK.out])
          | (go_at_call_of 35 (Value.int IntKind.i64 (which.tdiv 4)); refine (rpick_any _ 2 _ d4 (by decide) (by decide)).mono ?_; rintro e wq ⟨rfl, rfl⟩; rw [← H2.out]))
        go_quiet ((go_at_call 35; exact quiet_lft (HQ.out _)))
        go_wp2_with fail
        go_ret
        exact ⟨by rw [HV2.out]; rfl, below_dN (below_al _ _) _⟩
      · have s1 : IntKind.i64.wrap (b.t - 1) = b.t - 1 := IntWalk.i64_in _ (by omega)
        have s2 : IntKind.i64.wrap (b.t - 1 + p3) = b.t - 1 + p3 := IntWalk.i64_in _ (by omega)
        have HV2 : Hid (nearV l which n = b.t - 1 + p3) := Lib.hid (by rw [HV.out, if_neg hp20])
        go_enter Try.func15, Try.ntmps15
        go_wp2_with (first
          | (go_at_call_of 35 (Value.int IntKind.i64 which); refine (rpick_any which 4 _ hwh (by decide) (by decide)).mono ?_; rintro e wq ⟨rfl, rfl⟩; rw [← H4.out])
          | (go_at_call_of 35 (Value.int IntKind.i64 (which.tdiv 8)); refine (rpick_any _ l.length _ d8 (by omega) (by omega)).mono ?_; rintro e wq ⟨rfl, rfl⟩; rw [HK.out])
          | (go_at_call_of 35 (Value.int IntKind.i64 (which.tdiv 4)); refine (rpick_any _ 2 _ d4 (by decide) (by decide)).mono ?_; rintro e wq ⟨rfl, rfl⟩; rw [← H2.out]))
        go_quiet ((go_at_call 35; exact quiet_lft (HQ.out _)))
        go_wp2_with fail
        go_ret
        exact ⟨by rw [HV2.out]; rfl, below_dN (below_al _ _) _⟩
end Go.Proofs.Ytmgippddljmfjaa
