/-
  What the plain functions of claims give: the reference's outcome and timeline; drawn rules.
-/
import Derived.Test.YtjllgiddmeiaoaaQ6
set_option linter.unusedVariables false
set_option linter.unusedSimpArgs false
set_option maxRecDepth 100000
namespace Go.Proofs.Ytjllgiddmeiaoaa
open Go Go.Sx Go.Dial.Clm
theorem ref16_Outcome_v (n : Nat) (r : Rl) (c : Cl) (es : List Ce) (t : Int) (hn : 200 < n) : ref16_Outcome n r.a r.c r.s r.r c.n c.f c.t c.h c.a c.b (ceL es) t = some ((outR r c es t).1.s, (outR r c es t).1.f, (outR r c es t).1.n, (outR r c es t).2) := by
  unfold ref16_Outcome ref16_Outcome_1 outR OkOut
  rw [ref16_Valid_v n r c es (by omega)]
  by_cases hv : ClmV r c es
  · simp only [hv, decide_true, Option.bind_some, Bool.not_true, cond_false, true_and]
    by_cases h0 : 0 ≤ t
    · by_cases h1 : t ≤ 20000000
      · by_cases h2 : t < c.a
        · simp only [h0, h1, h2, decide_true, Bool.not_true, cond_false, cond_true, and_self, if_true]
          have : upTo t (timeline r c es) = [] := by
            unfold timeline upTo
            rw [List.takeWhile_cons]
            simp [x0, st]; omega
          unfold outV
          rw [this]; rfl
        · obtain ⟨vd, hrun⟩ := ref16_run_v n r c es t hv hn (by omega) (by omega)
          simp only [h0, h1, h2, hrun, decide_true, decide_false, Bool.not_true, cond_false, cond_true, and_self, if_true, Option.bind_some]
          unfold outV
          obtain ⟨out, hout⟩ : ∃ out, out = upTo t (timeline r c es) := ⟨_, rfl⟩
          rw [← hout]
          have hne : out ≠ [] := by
            rw [hout]; unfold timeline
            rw [upTo_go (by simp [x0, st]; omega)]
            simp
          obtain ⟨now, hl⟩ : ∃ now, out.getLast? = some now := ⟨_, List.getLast?_eq_some_getLast hne⟩
          have hpos := last_pos hl
          have hlen : out.length ≤ 110 := by
            have k1 : (upTo t (timeline r c es)).length ≤ (timeline r c es).length := by unfold upTo; exact List.Sublist.length_le (List.takeWhile_sublist _)
            have k2 := tl_len (r := r) (b := c.b) _ (x0 r c) es (Nat.le_refl _)
            have k3 := rk_le (x0 r c).s
            have k4 := hv.2.2.1
            rw [← hout] at k1
            unfold timeline at k1
            simp only [List.length_cons] at k1
            omega
          have c2 : (-9223372036854775808 : Int) ≤ (out.length : Int) - 1 := by omega
          have c3 : (out.length : Int) - 1 ≤ (9223372036854775807 : Int) := by omega
          have c4 : (0 : Int) ≤ (out.length : Int) - 1 := by omega
          have c5 : (out.length : Int) - 1 < (out.length : Int) := by omega
          have l0 : cI (csL out) ((out.length : Int) - 1) 0 = now.s := by simp only [cI, last_cell hl]; rfl
          have l1 : cI (csL out) ((out.length : Int) - 1) 1 = now.f := by simp only [cI, last_cell hl]; rfl
          have l2 : cI (csL out) ((out.length : Int) - 1) 2 = now.n := by simp only [cI, last_cell hl]; rfl
          simp only [List.length_map, c2, c3, c4, c5, l0, l1, l2, decide_true, Bool.and_self]
          simp only [cond_true, hl, Option.getD_some]
      · have : ¬ (0 ≤ t ∧ t ≤ 20000000) := fun h => h1 h.2
        simp [h0, h1]
    · simp [h0]
  · simp [hv]
theorem takeWhile_all {α : Type} {p : α → Bool} : ∀ {l : List α}, (∀ x ∈ l, p x = true) → l.takeWhile p = l
  | [], _ => rfl
  | x :: l, h => by
    rw [List.takeWhile_cons, h x (List.mem_cons_self ..), if_pos rfl, takeWhile_all fun y hy => h y (List.mem_cons_of_mem _ hy)]
theorem upTo_all {r : Rl} {c : Cl} {es : List Ce} (h : ClmV r c es) {u : Int} (hu : 23000000 ≤ u) : upTo u (timeline r c es) = timeline r c es := by
  obtain ⟨hr, hc, hl, hE⟩ := h
  unfold ClV at hc
  unfold upTo
  refine takeWhile_all fun x hx => ?_
  unfold timeline at hx
  have h0 : (x0 r c).f = c.a := rfl
  rcases List.mem_cons.1 hx with rfl | hx
  · simp; omega
  · have := tl_le hr (b := c.b) (now := x0 r c) (es := es) (by rw [h0]; have := rk_le (x0 r c).s; omega) (fun _ => (st_n hr (s := 1) (f := c.a) (by omega)).2) (fun e he => (evV_ge hE e he).2) x hx
    simp; omega
theorem ref16_Timeline_v (n : Nat) (r : Rl) (c : Cl) (es : List Ce) (hn : 200 < n) : ref16_Timeline n r.a r.c r.s r.r c.n c.f c.t c.h c.a c.b (ceL es) = some (if ClmV r c es then (csL (timeline r c es), 0) else ([], 160)) := by
  unfold ref16_Timeline ref16_Timeline_1
  rw [ref16_Valid_v n r c es (by omega)]
  by_cases hv : ClmV r c es
  · have hc := hv.2.1
    unfold ClV at hc
    obtain ⟨vd, hrun⟩ := ref16_run_v n r c es 40000000 hv hn (by omega) (by omega)
    simp only [hv, hrun, decide_true, Option.bind_some, Bool.not_true, cond_false, if_true, upTo_all hv (show (23000000 : Int) ≤ 40000000 by decide)]
  · simp [hv]
/-- a drawn rule -/
def mr (v : Int) : Int := if pk (Int.tdiv v 16) 4 = 3 then 1 + pk v 86400 else 1 + pk v 12
theorem mr_bd (v : Int) : 1 ≤ mr v ∧ mr v ≤ 86400 := by
  have h1 := pk_bd v (k := 86400) (by decide)
  have h2 := pk_bd v (k := 12) (by decide)
  unfold mr
  split <;> omega
theorem tdiv16 {v : Int} (h : In64 v) : In64 (Int.tdiv v 16) := by
  unfold In64 at h ⊢
  rcases Int.le_total 0 v with h0 | h0
  · rw [Int.tdiv_eq_ediv_of_nonneg h0]; omega
  · obtain ⟨w, rfl⟩ : ∃ w, v = -w := ⟨-v, by omega⟩
    rw [Int.neg_tdiv, Int.tdiv_eq_ediv_of_nonneg (by omega)]; omega
theorem ref16_MadeRules_v (n : Nat) (a b c d : Int) (ha : In64 a) (hb : In64 b) (hc : In64 c) (hd : In64 d) : ref16_MadeRules n a b c d = some (mr a, mr b, mr c, mr d) := by
  have key : ∀ v, (0 ≤ pk v 12 ∧ pk v 12 < 12) ∧ 0 ≤ pk v 86400 ∧ pk v 86400 < 86400 := fun v => ⟨pk_bd v (by decide), pk_bd v (by decide)⟩
  have ta := tdiv16 ha
  have tb := tdiv16 hb
  have tc := tdiv16 hc
  have td := tdiv16 hd
  unfold ref16_MadeRules ref16_MadeRules_1 ref16_MadeRules_2 mr
  have p4 : (0 : Int) < 4 := by decide
  have p12 : (0 : Int) < 12 := by decide
  have pd : (0 : Int) < 86400 := by decide
  simp only [ref16_pick_v n ha p12, ref16_pick_v n hb p12, ref16_pick_v n hc p12, ref16_pick_v n hd p12, ref16_pick_v n ha pd, ref16_pick_v n hb pd, ref16_pick_v n hc pd, ref16_pick_v n hd pd,
    ref16_pick_v n ta p4, ref16_pick_v n tb p4, ref16_pick_v n tc p4, ref16_pick_v n td p4, Option.bind_some]
  have ka := key a
  have kb := key b
  have kc := key c
  have kd := key d
  unfold In64 at ta tb tc td
  generalize pk (Int.tdiv a 16) 4 = x1
  generalize pk (Int.tdiv b 16) 4 = x2
  generalize pk (Int.tdiv c 16) 4 = x3
  generalize pk (Int.tdiv d 16) 4 = x4
  generalize Int.tdiv a 16 = y1 at *
  generalize Int.tdiv b 16 = y2 at *
  generalize Int.tdiv c 16 = y3 at *
  generalize Int.tdiv d 16 = y4 at *
  generalize pk a 12 = a1 at *
  generalize pk b 12 = b1 at *
  generalize pk c 12 = c1 at *
  generalize pk d 12 = d1 at *
  generalize pk a 86400 = a2 at *
  generalize pk b 86400 = b2 at *
  generalize pk c 86400 = c2 at *
  generalize pk d 86400 = d2 at *
  have r1 : ∀ z : Int, 0 ≤ z → z < 86400 → (decide ((-9223372036854775808 : Int) ≤ 1 + z) && decide (1 + z ≤ 9223372036854775807)) = true := fun z h1 h2 => by simp; omega
  simp only [r1 a1 ka.1.1 (by omega), r1 b1 kb.1.1 (by omega), r1 c1 kc.1.1 (by omega), r1 d1 kd.1.1 (by omega), r1 a2 ka.2.1 (by omega), r1 b2 kb.2.1 (by omega), r1 c2 kc.2.1 (by omega), r1 d2 kd.2.1 (by omega), ta, tb, tc, td, decide_true, Bool.and_self]
  simp only [cond_true]
  by_cases h1 : x1 = 3 <;> by_cases h2 : x2 = 3 <;> by_cases h3 : x3 = 3 <;> by_cases h4 : x4 = 3 <;> simp only [h1, h2, h3, h4, decide_true, decide_false, if_true, if_false] <;> rfl
end Go.Proofs.Ytjllgiddmeiaoaa
