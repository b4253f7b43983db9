/-
  What the plain functions of claims give: drawn claims.
-/
import Derived.Test.YtjllgiddmeiaoaaQ7
import Derived.Test.YtjllgiddmeiaoaaQ4
set_option linter.unusedVariables false
set_option linter.unusedSimpArgs false
set_option maxRecDepth 100000
namespace Go.Proofs.Ytjllgiddmeiaoaa
open Go Go.Sx Go.Dial.Clm
theorem tdiv4 {v : Int} (h : In64 v) : In64 (Int.tdiv v 4) := by
  unfold In64 at h ⊢
  rcases Int.le_total 0 v with h0 | h0
  · rw [Int.tdiv_eq_ediv_of_nonneg h0]; omega
  · obtain ⟨w, rfl⟩ : ∃ w, v = -w := ⟨-v, by omega⟩
    rw [Int.neg_tdiv, Int.tdiv_eq_ediv_of_nonneg (by omega)]; omega
theorem evV_snoc {l : Int} {es : List Ce} {e : Ce} : EvV l (es ++ [e]) ↔ EvV l es ∧ CeV ((es.getLast?.map (·.a)).getD l) e := by
  induction es generalizing l with
  | nil => simp [EvV]
  | cons x es ih =>
    simp only [List.cons_append, EvV, ih, and_assoc]
    cases es with
    | nil => simp
    | cons y es =>
      have : ((y :: es).getLast?.map (·.a)).getD x.a = ((x :: y :: es).getLast?.map (·.a)).getD l := by
        rw [List.getLast?_cons_cons]
        cases h : (y :: es).getLast? with
        | none => simp at h
        | some z => rfl
      rw [this]
/-- a status of small rules ends soon -/
theorem out_n {r : Rl} (hr : r.a ≤ 86400 ∧ r.c ≤ 86400 ∧ r.s ≤ 86400 ∧ r.r ≤ 86400) {c : Cl} {es : List Ce} {t : Int} (h0 : c.a ≤ t) (ht : 0 ≤ t) : (outV r c es t).n ≤ t + 86400 := by
  have hd : ∀ s, dur r s ≤ 86400 := fun s => by unfold dur; split; omega; split; omega; split <;> omega
  have hst : ∀ s f, f ≤ t → 0 ≤ t → (st r s f).n ≤ t + 86400 := fun s f hf ht => by
    simp only [st]; split
    · have := hd s; omega
    · omega
  have hall : ∀ x ∈ timeline r c es, ∃ s f, x = st r s f := by
    intro x hx
    unfold timeline at hx
    rcases List.mem_cons.1 hx with rfl | hx
    · exact ⟨_, _, rfl⟩
    · exact tl_all (r := r) (b := c.b) (fun x => ∃ s f, x = st r s f) (fun _ _ => True) (fun _ _ _ _ _ _ => ⟨⟨_, _, rfl⟩, trivial⟩) (fun _ _ _ _ _ _ => trivial) (fun _ _ _ _ _ _ => ⟨⟨_, _, rfl⟩, trivial⟩) (fun _ _ _ => ⟨⟨_, _, rfl⟩, trivial⟩) _ _ _ (Nat.le_refl _) trivial x hx
  unfold outV
  cases hl : (upTo t (timeline r c es)).getLast? with
  | none => simp only [Option.getD_none]; omega
  | some x =>
    have hm := List.mem_of_getLast? hl
    have h1 : x.f ≤ t := by
      unfold upTo at hm
      have := List.all_eq_true.1 List.all_takeWhile x hm
      simpa using this
    have h2 : x ∈ timeline r c es := by unfold upTo at hm; exact (List.takeWhile_sublist _).subset hm
    obtain ⟨s, f, rfl⟩ := hall x h2
    simp only [Option.getD_some]
    have : f ≤ t := h1
    simp only [st]; split
    · have := hd s; omega
    · omega
/-- drawn rules, as rules -/
def mrR (a b c d : Int) : Rl := ⟨mr a, mr b, mr c, mr d⟩
theorem mrR_small (a b c d : Int) : (mrR a b c d).a ≤ 86400 ∧ (mrR a b c d).c ≤ 86400 ∧ (mrR a b c d).s ≤ 86400 ∧ (mrR a b c d).r ≤ 86400 := by
  have := mr_bd a; have := mr_bd b; have := mr_bd c; have := mr_bd d
  unfold mrR; simp only; omega
theorem mrR_v (a b c d : Int) : RlV (mrR a b c d) := by
  have := mr_bd a; have := mr_bd b; have := mr_bd c; have := mr_bd d
  unfold RlV mrR; simp only; omega
theorem ref16_Made_v (n : Nat) (a b c d e0 e1 e2 e3 e4 e5 : Int) (xs : List (Int × Int × Int)) (ha : In64 a) (hb : In64 b) (hc : In64 c) (hd : In64 d) (h0 : In64 e0) (h1 : In64 e1) (h2 : In64 e2) (h3 : In64 e3) (h4 : In64 e4) (h5 : In64 e5)
    (hx : ∀ x ∈ xs, In64 x.1 ∧ In64 x.2.1 ∧ In64 x.2.2) (hn : 200 < n) :
    ∃ (C : Cl) (es : List Ce), ref16_Made n a b c d e0 e1 e2 e3 e4 e5 (xs.map triR) = some (mr a, mr b, mr c, mr d, C.n, C.f, C.t, C.h, C.a, C.b, ceL es) ∧ ClmV (mrR a b c d) C es ∧ C.a < 1000 ∧ es.length ≤ 10 ∧ ∀ e ∈ es, e.a ≤ 900000 := by
  obtain ⟨y4, hy4⟩ : ∃ y, y = pk e0 100000000 := ⟨_, rfl⟩
  obtain ⟨y5, hy5⟩ : ∃ y, y = pk e1 8 := ⟨_, rfl⟩
  obtain ⟨y7, hy7⟩ : ∃ y, y = pk e3 64 := ⟨_, rfl⟩
  obtain ⟨y8, hy8⟩ : ∃ y, y = pk e4 1000 := ⟨_, rfl⟩
  obtain ⟨y9, hy9⟩ : ∃ y, y = pk e5 2 := ⟨_, rfl⟩
  obtain ⟨y6, hy6⟩ : ∃ y, y = pk e2 7 := ⟨_, rfl⟩
  have b4 := pk_bd e0 (k := 100000000) (by decide)
  have b5 := pk_bd e1 (k := 8) (by decide)
  have b7 := pk_bd e3 (k := 64) (by decide)
  have b8 := pk_bd e4 (k := 1000) (by decide)
  have b6 := pk_bd e2 (k := 7) (by decide)
  rw [← hy4] at b4; rw [← hy5] at b5; rw [← hy7] at b7; rw [← hy8] at b8; rw [← hy6] at b6
  obtain ⟨C, hC⟩ : ∃ C : Cl, C = ⟨y4, y5, Int.tmod ((y5 + 1) + y6) 8, y7, y8, decide (y9 = 0)⟩ := ⟨_, rfl⟩
  have hT : Int.tmod ((y5 + 1) + y6) 8 = ((y5 + 1) + y6) % 8 := Int.tmod_eq_emod_of_nonneg (by omega)
  have hCV : ClV C := by rw [hC]; unfold ClV; simp only [hT]; omega
  have hCa : C.a = y8 := by rw [hC]
  have main : ∃ q : ref16_Made_a, ref16_Made n a b c d e0 e1 e2 e3 e4 e5 (xs.map triR) = some q ∧ ∃ es, q = (mr a, mr b, mr c, mr d, C.n, C.f, C.t, C.h, C.a, C.b, ceL es) ∧ EvV C.a es ∧ es.length ≤ 10 ∧ ∀ e ∈ es, e.a ≤ 900000 := by
    unfold ref16_Made ref16_Made_1
    have n1 : (-9223372036854775808 : Int) ≤ y5 + 1 := by omega
    have n2 : y5 + 1 ≤ (9223372036854775807 : Int) := by omega
    have n3 : (-9223372036854775808 : Int) ≤ y5 + 1 + y6 := by omega
    have n4 : y5 + 1 + y6 ≤ (9223372036854775807 : Int) := by omega
    simp only [ref16_MadeRules_v n a b c d ha hb hc hd, ref16_pick_v n h0 (show (0 : Int) < 100000000 by decide), ref16_pick_v n h1 (show (0 : Int) < 8 by decide), ref16_pick_v n h3 (show (0 : Int) < 64 by decide), ref16_pick_v n h4 (show (0 : Int) < 1000 by decide), ref16_pick_v n h5 (show (0 : Int) < 2 by decide), ref16_pick_v n h2 (show (0 : Int) < 7 by decide), Option.bind_some, ← hy4, ← hy5, ← hy6, ← hy7, ← hy8, ← hy9, n1, n2, n3, n4, decide_true, Bool.and_self]
    simp only [cond_true]
    refine iterF_ex (fun s => ∃ (es : List Ce) (last : Int) (i : Nat), s = (ceL es, last, (i : Int)) ∧ es.length = i ∧ i ≤ 10 ∧ EvV C.a es ∧ last = (es.getLast?.map (·.a)).getD C.a ∧ C.a ≤ last ∧ last ≤ 1000 + 86402 * i ∧ ∀ e ∈ es, e.a ≤ 900000) (fun s => 10 - s.2.2.toNat) (fun q => ∃ es, q = (mr a, mr b, mr c, mr d, C.n, C.f, C.t, C.h, C.a, C.b, ceL es) ∧ EvV C.a es ∧ es.length ≤ 10 ∧ ∀ e ∈ es, e.a ≤ 900000) ?_ n _
      ⟨[], y8, 0, rfl, rfl, by omega, trivial, by rw [hCa]; rfl, by omega, by omega, fun e he => by cases he⟩ (by simp; omega)
    rintro _ go ⟨es, last, i, rfl, hl, hi, hE, hlast, hl0, hl1, hea⟩ ih
    simp only
    unfold ref16_Made_2 ref16_Made_3
    have done : ∃ q : ref16_Made_a, some (mr a, mr b, mr c, mr d, y4, y5, Int.tmod ((y5 + 1) + y6) 8, y7, y8, decide (y9 = 0), ceL es) = some q ∧ ∃ es, q = (mr a, mr b, mr c, mr d, C.n, C.f, C.t, C.h, C.a, C.b, ceL es) ∧ EvV C.a es ∧ es.length ≤ 10 ∧ ∀ e ∈ es, e.a ≤ 900000 :=
      ⟨_, rfl, es, by rw [hC], hE, by omega, hea⟩
    by_cases g1 : i < xs.length
    · have c1 : (i : Int) < (xs.length : Int) := by omega
      by_cases g2 : i < 10
      · obtain ⟨x, hxe⟩ := get_lt g1
        have hcell : ∀ k, cA (xs.map triR) (i : Int) k = (triR x).getD k (.int 0) := fun k => cA_map (by simpa using hxe)
        have z0 : cI (xs.map triR) i 0 = x.1 := by simp only [cI, hcell]; rfl
        have z1 : cI (xs.map triR) i 1 = x.2.1 := by simp only [cI, hcell]; rfl
        have z2 : cI (xs.map triR) i 2 = x.2.2 := by simp only [cI, hcell]; rfl
        obtain ⟨q1, q2, q3⟩ := hx x (List.mem_of_getElem? hxe)
        have q4 := tdiv4 q2
        obtain ⟨w0, hw0⟩ : ∃ y, y = pk x.1 6 := ⟨_, rfl⟩
        obtain ⟨w1, hw1⟩ : ∃ y, y = pk x.2.1 4 := ⟨_, rfl⟩
        obtain ⟨w2, hw2⟩ : ∃ y, y = pk x.2.1 3 := ⟨_, rfl⟩
        obtain ⟨w3, hw3⟩ : ∃ y, y = pk x.2.2 4 := ⟨_, rfl⟩
        obtain ⟨w4, hw4⟩ : ∃ y, y = pk (Int.tdiv x.2.1 4) 3 := ⟨_, rfl⟩
        have v0 := pk_bd x.1 (k := 6) (by decide)
        have v1 := pk_bd x.2.1 (k := 4) (by decide)
        have v2 := pk_bd x.2.1 (k := 3) (by decide)
        have v3 := pk_bd x.2.2 (k := 4) (by decide)
        rw [← hw0] at v0; rw [← hw1] at v1; rw [← hw2] at v2; rw [← hw3] at v3
        have hout := ref16_Outcome_v n (mrR a b c d) C es last hn
        have hOk : OkOut (mrR a b c d) C es last := ⟨⟨mrR_v a b c d, hCV, by omega, hE⟩, by omega, by omega⟩
        have hN := out_n (mrR_small a b c d) (c := C) (es := es) hl0 (by omega)
        unfold outR at hout
        rw [if_pos hOk] at hout
        obtain ⟨O, hO⟩ : ∃ O, O = outV (mrR a b c d) C es last := ⟨_, rfl⟩
        rw [← hO] at hout hN
        rw [hC] at hout
        simp only [mrR] at hout
        have c2 : (i : Int) < 10 := by omega
        have c3 : (0 : Int) ≤ (i : Int) := by omega
        have c4 : (-9223372036854775808 : Int) ≤ 1 + w0 := by omega
        have c5 : 1 + w0 ≤ (9223372036854775807 : Int) := by omega
        have c6 : (-9223372036854775808 : Int) ≤ last + w1 := by omega
        have c7 : last + w1 ≤ (9223372036854775807 : Int) := by omega
        have c8 : (-9223372036854775808 : Int) ≤ (i : Int) + 1 := by omega
        have c9 : (i : Int) + 1 ≤ (9223372036854775807 : Int) := by omega
        have c10 : (-9223372036854775808 : Int) ≤ 1 + w3 := by omega
        have c11 : 1 + w3 ≤ (9223372036854775807 : Int) := by omega
        have c12 : ((es.length : Int) + 1) * 24 ≤ 140737488355328 := by omega
        have hgo : ∀ A rr : Int, last ≤ A → A ≤ last + 86402 → (1 + w0 = 2 ∨ 1 + w0 = 6 → 1 ≤ rr ∧ rr ≤ 9) → (¬ (1 + w0 = 2 ∨ 1 + w0 = 6) → rr = 0) → ∃ q, go (ceL es ++ [[AV.int (1 + w0), AV.int A, AV.int rr]], A, (i : Int) + 1) = some q ∧ ∃ es, q = (mr a, mr b, mr c, mr d, C.n, C.f, C.t, C.h, C.a, C.b, ceL es) ∧ EvV C.a es ∧ es.length ≤ 10 ∧ ∀ e ∈ es, e.a ≤ 900000 := fun A rr k1 k2 k3 k4 =>
          ih _ ⟨es ++ [⟨1 + w0, A, rr⟩], A, i + 1, by simp, by simp; omega, by omega, by rw [evV_snoc, ← hlast]; exact ⟨hE, ⟨by simp only; omega, by simp only; omega, k1, by simp only; omega, k3, k4⟩⟩, by simp, by omega, by omega, fun e he => by
            rcases List.mem_append.1 he with he | he
            · exact hea e he
            · rw [List.mem_singleton.1 he]; simp only; omega⟩ (by simp only; omega)
        unfold ref16_Made_4
        simp only [z0, z1, z2, List.length_map, c1, c2, c3, ref16_pick_v n q1 (show (0 : Int) < 6 by decide), ref16_pick_v n q2 (show (0 : Int) < 4 by decide), ref16_pick_v n q2 (show (0 : Int) < 3 by decide), ref16_pick_v n q3 (show (0 : Int) < 4 by decide), ref16_pick_v n q4 (show (0 : Int) < 3 by decide), ← hw0, ← hw1, ← hw2, ← hw3, ← hw4, Option.bind_some, c4, c5, c6, c7, c8, c9, c10, c11, c12, hout, decide_true, Bool.and_self]
        simp only [cond_true]
        unfold In64 at q4
        by_cases k0 : 0 < O.n
        · have c13 : (-9223372036854775808 : Int) ≤ O.n - 1 := by omega
          have c14 : O.n - 1 ≤ (9223372036854775807 : Int) := by omega
          have c15 : (-9223372036854775808 : Int) ≤ O.n - 1 + w2 := by omega
          have c16 : O.n - 1 + w2 ≤ (9223372036854775807 : Int) := by omega
          have m1 : last ≤ imax last (O.n - 1 + w2) := by unfold imax; split <;> omega
          have m2 : imax last (O.n - 1 + w2) ≤ last + 86402 := by unfold imax; split <;> omega
          simp only [k0, q4.1, q4.2, c13, c14, c15, c16, decide_true, Bool.and_self]
          simp only [cond_true]
          by_cases k1 : 0 < w4 <;> by_cases k2 : 1 + w0 = 2 <;> by_cases k3 : 1 + w0 = 6 <;> simp only [k1, k2, k3, decide_true, decide_false] <;> simp only [cond_true, cond_false] <;>
            (try rw [k2] at hgo) <;> (try rw [k3] at hgo) <;> first | exact hgo _ _ m1 m2 (fun _ => by omega) (fun h => by omega) | exact hgo _ _ (by omega) (by omega) (fun _ => by omega) (fun h => by omega)
        · by_cases k2 : 1 + w0 = 2 <;> by_cases k3 : 1 + w0 = 6 <;> simp only [k0, k2, k3, decide_true, decide_false] <;> simp only [cond_true, cond_false] <;>
            (try rw [k2] at hgo) <;> (try rw [k3] at hgo) <;> exact hgo _ _ (by omega) (by omega) (fun _ => by omega) (fun h => by omega)
      · have c2 : ¬ (i : Int) < 10 := by omega
        simp only [List.length_map, c1, c2, decide_true, decide_false]
        simp only [cond_true, cond_false]
        exact done
    · have c1 : ¬ (i : Int) < (xs.length : Int) := by omega
      simp only [List.length_map, c1, decide_false]
      simp only [cond_false]
      exact done
  obtain ⟨q, g1, es, rfl, g2, g3, g4⟩ := main
  exact ⟨C, es, g1, ⟨mrR_v a b c d, hCV, by omega, g2⟩, by omega, g3, g4⟩
end Go.Proofs.Ytjllgiddmeiaoaa
