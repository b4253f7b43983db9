/-
  Texts of this claim, joined (part 5).
-/
import Derived.Test.YtjllgiddmeiaoaaGreatJ4
set_option linter.unusedVariables false
set_option linter.unusedSimpArgs false
set_option linter.unusedSectionVars false
set_option linter.constructorNameAsVariable false
set_option maxRecDepth 100000
namespace Go.Proofs.YtjllgiddmeiaoaaGreat
open Go Go.Sx Go.Dial.Clm Go.Dial.Lif Go.Dial.Chn
theorem ref16_Ends_v (n : Nat) (r : Rl) (c : Cl) : ref16_Ends n r.a r.c r.s r.r c.n c.f c.t c.h c.a c.b = some (if RlV r ∧ ClV c then (endsV r c, 0) else (0, 160)) := by
 unfold ref16_Ends ref16_Ends_1
 rw [ref16_Rules_v n r, Option.bind_some]
 by_cases h1 : RlV r
 ·rw [decide_eq_true h1, Bool.not_true, cond_false, ref16_Claim_v n c, Option.bind_some]
  by_cases h2 : ClV c
  ·rw [decide_eq_true h2, Bool.not_true, cond_false, if_pos ⟨h1, h2⟩]
   unfold RlV at h1; unfold ClV at h2; unfold endsV
   have d1 : (-9223372036854775808 : Int) ≤ c.a + r.a := by omega
   have d2 : c.a + r.a ≤ (9223372036854775807 : Int) := by omega
   have d3 : (-9223372036854775808 : Int) ≤ c.a + r.a - 1 := by omega
   have d4 : c.a + r.a - 1 ≤ (9223372036854775807 : Int) := by omega
   have d5 : (-9223372036854775808 : Int) ≤ c.a + r.a - 1 + r.s := by omega
   have d6 : c.a + r.a - 1 + r.s ≤ (9223372036854775807 : Int) := by omega
   have d7 : (-9223372036854775808 : Int) ≤ c.a + r.a - 1 + r.s + r.c := by omega
   have d8 : c.a + r.a - 1 + r.s + r.c ≤ (9223372036854775807 : Int) := by omega
   have d9 : (-9223372036854775808 : Int) ≤ c.a + r.a - 1 + r.s + r.c + r.r := by omega
   have d0 : c.a + r.a - 1 + r.s + r.c + r.r ≤ (9223372036854775807 : Int) := by omega
   rw [decide_eq_true d1, decide_eq_true d2, Bool.and_self, cond_true, decide_eq_true d3, decide_eq_true d4, Bool.and_self, cond_true, decide_eq_true d5, decide_eq_true d6, Bool.and_self, cond_true, decide_eq_true d7, decide_eq_true d8, Bool.and_self, cond_true, decide_eq_true d9, decide_eq_true d0, Bool.and_self, cond_true]
  ·rw [decide_eq_false h2, Bool.not_false, cond_true, if_neg fun h => h2 h.2]
 ·rw [decide_eq_false h1, Bool.not_false, cond_true, if_neg fun h => h1 h.1]
theorem ref17_Valid_v (n : Nat) (c : Ch) (hl : c.life.length < n) (hn : 200 < n) : ref17_Valid n c.n c.f c.r.a c.r.c c.r.s c.r.r (evL c.life) (ptL c.ps) = some (decide (ChV c)) := by
 unfold ref17_Valid ref17_Valid_1
 by_cases a1 : 0 ≤ c.n
 ·by_cases a2 : c.n ≤ 99999999
  ·by_cases a3 : 0 ≤ c.f
   ·by_cases a4 : c.f ≤ 7
    ·rw [decide_eq_true a1, cond_true, decide_eq_true a2, Bool.not_true, cond_false, decide_eq_true a3, cond_true, decide_eq_true a4, Bool.not_true, cond_false, ref14_Is_v n c.life hl, Option.bind_some]
     by_cases h0 : Life c.life
     ·rw [decide_eq_true h0, Bool.not_true, cond_false]
      by_cases h2 : c.ps.length ≤ 8
      ·have c3 : ¬ (8 : Int) < ((ptL c.ps).length : Int) := by rw [List.length_map]; omega
       rw [decide_eq_false c3, cond_false]
       have hdec : decide (ChV c) = decide (PtsV c.n c.r 0 c.ps) := by
        by_cases hP : PtsV c.n c.r 0 c.ps
        ·rw [decide_eq_true hP, decide_eq_true (show ChV c from ⟨h0, a1, a2, a3, a4, h2, hP⟩)]
        ·rw [decide_eq_false hP, decide_eq_false (fun h : ChV c => hP h.2.2.2.2.2.2)]
       rw [hdec]
       refine iterF_ind (fun s => ∃ (i : Nat) (last : Int), s = (i : Int) ∧ i ≤ c.ps.length ∧ (PtsV c.n c.r 0 c.ps ↔ PtsV c.n c.r last (c.ps.drop i)) ∧ ((i = 0 ∧ last = 0) ∨ (0 < i ∧ ∃ q, c.ps[i - 1]? = some q ∧ last = q.c.a))) (fun s => c.ps.length - s.toNat) _ ?_ n _ ⟨0, 0, rfl, by omega, by simp, .inl ⟨rfl, rfl⟩⟩ (by simp; omega)
       rintro _ go ⟨i, last, rfl, hi, hE, hlast⟩ ih
       unfold ref17_Valid_2
       by_cases hlt : i < c.ps.length
       ·obtain ⟨p, hp⟩ := get_lt hlt
        obtain ⟨g0, g1, g2, g3, g4, g5, g6⟩ := port_cells hp
        have c1 : (i : Int) < ((ptL c.ps).length : Int) := by rw [List.length_map]; omega
        have c2 : (0 : Int) ≤ (i : Int) := by omega
        have c4 : (-9223372036854775808 : Int) ≤ (i : Int) + 1 := by omega
        have c5 : (i : Int) + 1 ≤ (9223372036854775807 : Int) := by omega
        rw [drop_cons hp] at hE
        rw [decide_eq_true c1, cond_true, decide_eq_true c2, cond_true, g0, g1, g2, g3, g4, g5, g6, ref16_Valid_v n c.r p.c p.es (by omega)]
        by_cases k1 : p.c.n = c.n
        ·rw [decide_eq_true k1, Bool.not_true, cond_false, Option.bind_some]
         by_cases k2 : ClmV c.r p.c p.es
         ·rw [decide_eq_true k2, Bool.not_true, cond_false]
          have h0a : 0 ≤ p.c.a := by have := k2.2.1; unfold ClV at this; omega
          rcases hlast with ⟨e1, e2⟩ | ⟨e1, q, e2, e3⟩
          ·have d1 : ¬ (0 : Int) < (i : Int) := by omega
           rw [decide_eq_false d1, cond_false, decide_eq_true c4, decide_eq_true c5, Bool.and_self, cond_true]
           exact ih _ ⟨i + 1, p.c.a, rfl, by omega, by rw [hE]; exact ⟨fun h => h.2, fun h => ⟨⟨k1, k2, by omega⟩, h⟩⟩, .inr ⟨by omega, p, by simpa using hp, rfl⟩⟩ (by omega)
          ·have d1 : (0 : Int) < (i : Int) := by omega
           have d2 : (-9223372036854775808 : Int) ≤ (i : Int) - 1 := by omega
           have d3 : (i : Int) - 1 ≤ (9223372036854775807 : Int) := by omega
           have d4 : (0 : Int) ≤ (i : Int) - 1 := by omega
           have d5 : (i : Int) - 1 < ((ptL c.ps).length : Int) := by omega
           have ei : (i : Int) - 1 = ((i - 1 : Nat) : Int) := by omega
           obtain ⟨_, _, _, _, z4, _, _⟩ := port_cells e2
           rw [decide_eq_true d1, cond_true, decide_eq_true d2, decide_eq_true d3, Bool.and_self, cond_true, decide_eq_true d4, cond_true, decide_eq_true d5, cond_true, ei, z4]
           by_cases k3 : p.c.a < q.c.a
           ·have : ¬ PtsV c.n c.r 0 c.ps := fun h => by have := (hE.1 h).1.2.2; omega
            rw [decide_eq_true k3, cond_true, decide_eq_false this]
           ·rw [decide_eq_false k3, cond_false, decide_eq_true c4, decide_eq_true c5, Bool.and_self, cond_true]
            exact ih _ ⟨i + 1, p.c.a, rfl, by omega, by rw [hE]; exact ⟨fun h => h.2, fun h => ⟨⟨k1, k2, by omega⟩, h⟩⟩, .inr ⟨by omega, p, by simpa using hp, rfl⟩⟩ (by omega)
         ·have : ¬ PtsV c.n c.r 0 c.ps := fun h => k2 (hE.1 h).1.2.1
          rw [decide_eq_false k2, Bool.not_false, cond_true, decide_eq_false this]
        ·have : ¬ PtsV c.n c.r 0 c.ps := fun h => k1 (hE.1 h).1.1
         rw [decide_eq_false k1, Bool.not_false, cond_true, decide_eq_false this]
       ·have h00 : i = c.ps.length := by omega
        have c1 : ¬ (i : Int) < ((ptL c.ps).length : Int) := by rw [List.length_map]; omega
        rw [h00, List.drop_length] at hE
        rw [decide_eq_false c1, cond_false, decide_eq_true (hE.2 trivial)]
      ·have c3 : (8 : Int) < ((ptL c.ps).length : Int) := by rw [List.length_map]; omega
       rw [decide_eq_true c3, cond_true, decide_eq_false (fun h : ChV c => h2 h.2.2.2.2.2.1)]
     ·rw [decide_eq_false h0, Bool.not_false, cond_true, decide_eq_false (fun h : ChV c => h0 h.1)]
    ·rw [decide_eq_true a1, cond_true, decide_eq_true a2, Bool.not_true, cond_false, decide_eq_true a3, cond_true, decide_eq_false a4, Bool.not_false, cond_true, decide_eq_false (fun h : ChV c => a4 h.2.2.2.2.1)]
   ·rw [decide_eq_true a1, cond_true, decide_eq_true a2, Bool.not_true, cond_false, decide_eq_false a3, cond_false, decide_eq_false (fun h : ChV c => a3 h.2.2.2.1)]
  ·rw [decide_eq_true a1, cond_true, decide_eq_false a2, Bool.not_false, cond_true, decide_eq_false (fun h : ChV c => a2 h.2.2.1)]
 ·rw [decide_eq_false a1, cond_false, decide_eq_false (fun h : ChV c => a1 h.2.1)]
theorem ref17_Settled_v (n : Nat) (c : Ch) (hl : c.life.length < n) (hn : 200 < n) : ref17_Settled n c.n c.f c.r.a c.r.c c.r.s c.r.r (evL c.life) (ptL c.ps) = some (if ChV c then (settledV c.r c.ps, 0) else (0, 170)) := by
 unfold ref17_Settled ref17_Settled_1
 rw [ref17_Valid_v n c hl hn, Option.bind_some]
 by_cases h : ChV c
 ·obtain ⟨_, _, _, _, _, h8, hP⟩ := id h
  rw [if_pos h, decide_eq_true h, Bool.not_true, cond_false]
  refine iterF_ind (fun s => ∃ (i : Nat) (m : Int), s = (m, (i : Int)) ∧ i ≤ c.ps.length ∧ (c.ps.drop i).foldl (fun m p => imax m (endsV c.r p.c)) m = settledV c.r c.ps) (fun s => c.ps.length - s.2.toNat) _ ?_ n _ ⟨0, 0, rfl, by omega, by simp [settledV]⟩ (by simp; omega)
  rintro _ go ⟨i, m, rfl, hi, hm⟩ ih
  simp only
  unfold ref17_Settled_2
  by_cases hlt : i < c.ps.length
  ·obtain ⟨p, hp⟩ := get_lt hlt
   obtain ⟨g0, g1, g2, g3, g4, g5, _⟩ := port_cells hp
   have c1 : (i : Int) < ((ptL c.ps).length : Int) := by rw [List.length_map]; omega
   have c2 : (0 : Int) ≤ (i : Int) := by omega
   have c4 : (-9223372036854775808 : Int) ≤ (i : Int) + 1 := by omega
   have c5 : (i : Int) + 1 ≤ (9223372036854775807 : Int) := by omega
   have hv := (ptsV_all hP p (List.mem_of_getElem? hp)).2
   rw [decide_eq_true c1, cond_true, decide_eq_true c2, cond_true, g0, g1, g2, g3, g4, g5, ref16_Ends_v n c.r p.c, if_pos ⟨hv.1, hv.2.1⟩, Option.bind_some, decide_eq_true c4, decide_eq_true c5, Bool.and_self, cond_true]
   rw [drop_cons hp] at hm
   exact ih _ ⟨i + 1, imax m (endsV c.r p.c), rfl, by omega, hm⟩ (by simp only; omega)
  ·have h00 : i = c.ps.length := by omega
   have c1 : ¬ (i : Int) < ((ptL c.ps).length : Int) := by rw [List.length_map]; omega
   rw [h00, List.drop_length] at hm
   rw [decide_eq_false c1, cond_false, ← hm]; rfl
 ·rw [if_neg h, decide_eq_false h, Bool.not_false, cond_true]
theorem ref17_Open_v (n : Nat) (c : Ch) (t : Int) (hl : c.life.length < n) (hn : 200 < n) : ref17_Open n c.n c.f c.r.a c.r.c c.r.s c.r.r (evL c.life) (ptL c.ps) t = some (if ChV c ∧ 0 ≤ t ∧ t ≤ 20000000 then (ixL (openFrom c.r t 0 c.ps), 0) else ([], 170)) := by
 unfold ref17_Open ref17_Open_1
 rw [ref17_Valid_v n c hl hn, Option.bind_some]
 by_cases h : ChV c
 ·obtain ⟨_, _, _, _, _, h8, hP⟩ := id h
  rw [decide_eq_true h, Bool.not_true, cond_false]
  by_cases h0 : 0 ≤ t
  ·by_cases h1 : t ≤ 20000000
   ·rw [if_pos ⟨h, h0, h1⟩, decide_eq_true h0, cond_true, decide_eq_true h1, Bool.not_true, cond_false]
    refine iterF_ind (fun s => ∃ (i : Nat) (A : List Nat), s = (ixL A, (i : Int)) ∧ i ≤ c.ps.length ∧ A ++ openFrom c.r t i (c.ps.drop i) = openFrom c.r t 0 c.ps) (fun s => c.ps.length - s.2.toNat) _ ?_ n _ ⟨0, [], by simp, by omega, by simp⟩ (by simp; omega)
    rintro _ go ⟨i, A, rfl, hi, hA⟩ ih
    simp only
    unfold ref17_Open_2
    by_cases hlt : i < c.ps.length
    ·obtain ⟨p, hp⟩ := get_lt hlt
     obtain ⟨g0, g1, g2, g3, g4, g5, g6⟩ := port_cells hp
     have c1 : (i : Int) < ((ptL c.ps).length : Int) := by rw [List.length_map]; omega
     have c2 : (0 : Int) ≤ (i : Int) := by omega
     have c4 : (-9223372036854775808 : Int) ≤ (i : Int) + 1 := by omega
     have c5 : (i : Int) + 1 ≤ (9223372036854775807 : Int) := by omega
     have hAl : A.length ≤ 8 := by
      have e1 := congrArg List.length hA
      have e2 := openFrom_len c.r t c.ps 0
      simp only [List.length_append] at e1
      omega
     have c8 : (((ixL A).length : Int) + 1) * 8 ≤ 140737488355328 := by rw [List.length_map]; omega
     have hv := (ptsV_all hP p (List.mem_of_getElem? hp)).2
     have hO : outR c.r p.c p.es t = (outV c.r p.c p.es t, 0) := by unfold outR; rw [if_pos ⟨hv, h0, h1⟩]
     rw [decide_eq_true c1, cond_true, decide_eq_true c2, cond_true, g0, g1, g2, g3, g4, g5, g6, ref16_Outcome_v n c.r p.c p.es t hn, Option.bind_some, hO]
     rw [drop_cons hp] at hA
     have hO2 : openFrom c.r t i (p :: c.ps.drop (i + 1)) = (if 1 ≤ (outV c.r p.c p.es t).s ∧ (outV c.r p.c p.es t).s ≤ 4 then [i] else []) ++ openFrom c.r t (i + 1) (c.ps.drop (i + 1)) := rfl
     rw [hO2] at hA
     by_cases k1 : 1 ≤ (outV c.r p.c p.es t).s
     ·by_cases k2 : (outV c.r p.c p.es t).s ≤ 4
      ·rw [decide_eq_true k1, cond_true, decide_eq_true k2, cond_true, decide_eq_true c8, cond_true, decide_eq_true c4, decide_eq_true c5, Bool.and_self, cond_true]
       rw [if_pos ⟨k1, k2⟩] at hA
       exact ih _ ⟨i + 1, A ++ [i], by simp, by omega, by rw [List.append_assoc]; exact hA⟩ (by simp only; omega)
      ·rw [decide_eq_true k1, cond_true, decide_eq_false k2, cond_false, decide_eq_true c4, decide_eq_true c5, Bool.and_self, cond_true]
       rw [if_neg (fun h => k2 h.2), List.nil_append] at hA
       exact ih _ ⟨i + 1, A, by simp, by omega, hA⟩ (by simp only; omega)
     ·rw [decide_eq_false k1, cond_false, decide_eq_true c4, decide_eq_true c5, Bool.and_self, cond_true]
      rw [if_neg (fun h => k1 h.1), List.nil_append] at hA
      exact ih _ ⟨i + 1, A, by simp, by omega, hA⟩ (by simp only; omega)
    ·have h00 : i = c.ps.length := by omega
     have c1 : ¬ (i : Int) < ((ptL c.ps).length : Int) := by rw [List.length_map]; omega
     rw [h00, List.drop_length] at hA
     have hA : A = openFrom c.r t 0 c.ps := by simpa [openFrom] using hA
     rw [decide_eq_false c1, cond_false, hA]
   ·rw [if_neg (fun h => h1 h.2.2), decide_eq_true h0, cond_true, decide_eq_false h1, Bool.not_false, cond_true]
  ·rw [if_neg (fun h => h0 h.2.1), decide_eq_false h0, cond_false]
 ·rw [if_neg (fun hh => h hh.1), decide_eq_false h, Bool.not_false, cond_true]
end Go.Proofs.YtjllgiddmeiaoaaGreat
namespace Go.Dial.Chn
open Go.Dial.Clm Go.Dial.Lif
def lst (now : Cs) (l : List Cs) : Cs := l.getLast?.getD now
theorem lst_cons (now x : Cs) (l : List Cs) : lst now (x :: l) = lst x l := by
 cases l <;> simp [lst, List.getLast?_cons]
def Shape (r : Rl) (i : Nat) (now : Cs) (L : List Hp) (z : Cs) : Prop :=
 (now.s ≤ 3 → (L = [] ∧ 6 ≤ z.s) ∨ (∃ f, now.f ≤ f ∧ L = [⟨f, i, false⟩] ∧ z = ⟨5, f + r.r, -1⟩) ∨ (∃ f g, now.f ≤ f ∧ f ≤ g ∧ g < f + r.r ∧ L = [⟨f, i, false⟩, ⟨g, i, true⟩] ∧ z.s = 8)) ∧
 (now.s = 4 → (L = [] ∧ z = ⟨5, now.f + r.r, -1⟩) ∨ (∃ g, now.f ≤ g ∧ g < now.f + r.r ∧ L = [⟨g, i, true⟩] ∧ z.s = 8)) ∧
 (5 ≤ now.s → L = [] ∧ z = now)
theorem shape_step {r : Rl} {i : Nat} {now : Cs} {s f : Int} {l : List Cs} (h : Shape r i (st r s f) (l.filterMap (hpOf i)) (lst (st r s f) l)) (hf : now.f ≤ f)
  (hs : (now.s ≤ 3 ∧ (s = 2 ∨ s = 3 ∨ s = 4 ∨ s = 6 ∨ s = 7)) ∨ (now.s = 4 ∧ ((s = 5 ∧ f = now.f + r.r) ∨ (s = 8 ∧ f < now.f + r.r)))) :
  Shape r i now ((st r s f :: l).filterMap (hpOf i)) (lst now (st r s f :: l)) := by
 rw [lst_cons, List.filterMap_cons]
 have e1 : (st r s f).s = s := rfl
 have e2 : (st r s f).f = f := rfl
 unfold Shape at h ⊢
 rw [e1, e2] at h
 obtain ⟨h1, h2, h3⟩ := h
 rcases hs with ⟨q, hs⟩ | ⟨q, hs⟩
 ·refine ⟨fun _ => ?_, fun h => by omega, fun h => by omega⟩
  rcases hs with rfl | rfl | rfl | rfl | rfl
  ·have : hpOf i (st r 2 f) = none := rfl
   rw [this]; simp only
   rcases h1 (by decide) with h | ⟨a, b, c⟩ | ⟨a, b, c, d⟩
   ·exact .inl h
   ·exact .inr (.inl ⟨a, by omega, c⟩)
   ·exact .inr (.inr ⟨a, b, by omega, d⟩)
  ·have : hpOf i (st r 3 f) = none := rfl
   rw [this]; simp only
   rcases h1 (by decide) with h | ⟨a, b, c⟩ | ⟨a, b, c, d⟩
   ·exact .inl h
   ·exact .inr (.inl ⟨a, by omega, c⟩)
   ·exact .inr (.inr ⟨a, b, by omega, d⟩)
  ·have : hpOf i (st r 4 f) = some ⟨f, i, false⟩ := rfl
   rw [this]; simp only
   rcases h2 rfl with ⟨h, g⟩ | ⟨g, a, b, c, d⟩
   ·exact .inr (.inl ⟨f, hf, by rw [h], g⟩)
   ·exact .inr (.inr ⟨f, g, hf, a, b, by rw [c], d⟩)
  ·have : hpOf i (st r 6 f) = none := rfl
   rw [this]; simp only
   obtain ⟨h, g⟩ := h3 (by decide)
   exact .inl ⟨h, by rw [g, e1]; decide⟩
  ·have : hpOf i (st r 7 f) = none := rfl
   rw [this]; simp only
   obtain ⟨h, g⟩ := h3 (by decide)
   exact .inl ⟨h, by rw [g, e1]; decide⟩
 ·refine ⟨fun h => by omega, fun _ => ?_, fun h => by omega⟩
  rcases hs with ⟨rfl, hf'⟩ | ⟨rfl, hf'⟩
  ·have : hpOf i (st r 5 f) = none := rfl
   rw [this]; simp only
   obtain ⟨h, g⟩ := h3 (by decide)
   exact .inl ⟨h, by rw [g, ← hf']; rfl⟩
  ·have : hpOf i (st r 8 f) = some ⟨f, i, true⟩ := rfl
   rw [this]; simp only
   obtain ⟨h, g⟩ := h3 (by decide)
   exact .inr ⟨f, hf, hf', by rw [h], by rw [g]; rfl⟩
theorem tl_shape {r : Rl} (hr : RlV r) {b : Bool} {i : Nat} : ∀ (m : Nat) (now : Cs) (es : List Ce), 5 * es.length + rk now.s ≤ m → 1 ≤ now.s → (act now → now.n = now.f + dur r now.s) → EvV now.f es →
  Shape r i now ((tl r b now es).filterMap (hpOf i)) (lst now (tl r b now es)) := by
 have nil : ∀ now : Cs, 5 ≤ now.s → Shape r i now (([] : List Cs).filterMap (hpOf i)) (lst now []) := fun now h => ⟨fun h => by omega, fun h => by omega, fun _ => ⟨rfl, rfl⟩⟩
 have ni : ∀ s f, act (st r s f) → (st r s f).n = (st r s f).f + dur r (st r s f).s := fun s f ha => by
  unfold act at ha
  simp only [st] at ha ⊢
  rw [if_pos ha]
 have auto : ∀ now : Cs, act now → now.n = now.f + dur r now.s → (now.s ≤ 3 ∧ (aft now.s = 2 ∨ aft now.s = 3 ∨ aft now.s = 4 ∨ aft now.s = 6 ∨ aft now.s = 7)) ∨ (now.s = 4 ∧ ((aft now.s = 5 ∧ now.n = now.f + r.r) ∨ (aft now.s = 8 ∧ now.n < now.f + r.r))) := by
  intro now ha hn
  unfold act at ha
  have : now.s = 1 ∨ now.s = 2 ∨ now.s = 3 ∨ now.s = 4 := by omega
  rcases this with h | h | h | h <;> rw [h] at hn ⊢ <;> simp [aft, dur] at hn ⊢
  exact hn
 have later : ∀ now : Cs, act now → now.n = now.f + dur r now.s → now.f < now.n := fun now _ h => by
  have := dur_bd hr now.s
  omega
 have aft1 : ∀ s, 1 ≤ s → 1 ≤ aft s := fun s h => by unfold aft; split; omega; split <;> omega
 intro m
 induction m with
 | zero =>
  intro now es hm h1 hn hE
  have he : es = [] := by
   cases es with
   | nil => rfl
   | cons e es => simp at hm
  subst he
  by_cases ha : act now
  ·have := rk_aft ha; omega
  ·rw [tl_nil ha]
   exact nil now (by unfold act at ha; omega)
 | succ m ih =>
  intro now es hm h1 hn hE
  cases es with
  | nil =>
   by_cases ha : act now
   ·rw [tl_end ha]
    exact shape_step (ih (st r (aft now.s) now.n) [] (by have := rk_aft ha; simp only [st]; omega) (aft1 _ h1) (ni _ _) trivial) (Int.le_of_lt (later now ha (hn ha))) (auto now ha (hn ha))
   ·rw [tl_nil ha]
    exact nil now (by unfold act at ha; omega)
  | cons e es =>
   obtain ⟨hc, hE'⟩ := hE
   by_cases ha : act now ∧ now.n ≤ e.a
   ·rw [tl_auto ha]
    exact shape_step (ih (st r (aft now.s) now.n) (e :: es) (by have := rk_aft ha.1; simp only [st]; omega) (aft1 _ h1) (ni _ _) ⟨⟨hc.1, hc.2.1, ha.2, hc.2.2.2⟩, hE'⟩) (Int.le_of_lt (later now ha.1 (hn ha.1))) (auto now ha.1 (hn ha.1))
   ·by_cases hbb : bec b now.s e < 0
    ·rw [tl_void ha hbb]
     exact ih now es (by simp only [List.length_cons] at hm; omega) h1 hn (evV_mono hE' hc.2.2.1)
    ·rw [tl_ev ha hbb]
     have h8 := bec_cases hbb
     refine shape_step (ih (st r (bec b now.s e) e.a) es (by simp only [List.length_cons] at hm; have := rk_le (st r (bec b now.s e) e.a).s; omega) (by simp only [st]; omega) (ni _ _) hE') hc.2.2.1 ?_
     rcases h8 with ⟨q1, q2, q3⟩ | ⟨q1, q2⟩
     ·exact .inl ⟨q2, by omega⟩
     ·have hact : act now := ⟨by omega, by omega⟩
      have := hn hact
      have hd : dur r now.s = r.r := by rw [q1]; rfl
      refine .inr ⟨q1, .inr ⟨q2, ?_⟩⟩
      have : ¬ now.n ≤ e.a := fun h => ha ⟨hact, h⟩
      omega
theorem port_shape {r : Rl} {c : Cl} {es : List Ce} (h : ClmV r c es) (i : Nat) : Shape r i (x0 r c) ((timeline r c es).filterMap (hpOf i)) (lst (x0 r c) (tl r c.b (x0 r c) es)) := by
 have := tl_shape h.1 (b := c.b) (i := i) _ (x0 r c) es (Nat.le_refl _) (show (1 : Int) ≤ 1 by decide) (fun _ => by simp [x0, st, dur]) h.2.2.2
 unfold timeline
 rw [List.filterMap_cons]
 have h0 : hpOf i (x0 r c) = none := by unfold hpOf x0 st; simp
 rw [h0]
 exact this
theorem port_cases {r : Rl} {c : Cl} {es : List Ce} (h : ClmV r c es) (i : Nat) : ((timeline r c es).filterMap (hpOf i) = [] ∧ 6 ≤ (lst (x0 r c) (tl r c.b (x0 r c) es)).s) ∨
 (∃ f, c.a ≤ f ∧ (timeline r c es).filterMap (hpOf i) = [⟨f, i, false⟩] ∧ lst (x0 r c) (tl r c.b (x0 r c) es) = ⟨5, f + r.r, -1⟩) ∨
 (∃ f g, c.a ≤ f ∧ f ≤ g ∧ g < f + r.r ∧ (timeline r c es).filterMap (hpOf i) = [⟨f, i, false⟩, ⟨g, i, true⟩] ∧ (lst (x0 r c) (tl r c.b (x0 r c) es)).s = 8) := (port_shape h i).1 (show (1 : Int) ≤ 3 by decide)
def bnd (r : Rl) (c : Cl) (s : Int) : Int := if s = 1 then c.a else if s = 2 then c.a + r.a - 1 else if s = 3 then c.a + r.a - 1 + r.s else if s = 4 then c.a + r.a - 1 + r.s + r.c else endsV r c
theorem timeline_ends {r : Rl} {c : Cl} {es : List Ce} (h : ClmV r c es) : ∀ x ∈ timeline r c es, x.f ≤ endsV r c := by
 have hr := h.1
 have hle : ∀ s, bnd r c s ≤ endsV r c := fun s => by unfold RlV at hr; unfold bnd endsV; grind
 have key : ∀ now : Cs, now.f ≤ bnd r c now.s → act now → now.n = now.f + dur r now.s → now.n ≤ bnd r c (aft now.s) := fun now h1 ha hn => by
  unfold act at ha
  unfold RlV at hr
  have : now.s = 1 ∨ now.s = 2 ∨ now.s = 3 ∨ now.s = 4 := by omega
  rcases this with h | h | h | h <;> rw [h] at hn h1 ⊢ <;> simp [aft, dur, bnd, endsV] at hn h1 ⊢ <;> omega
 have kev : ∀ (b : Bool) (now : Cs) (e : Ce), now.f ≤ bnd r c now.s → (act now → now.n = now.f + dur r now.s) → ¬ (act now ∧ now.n ≤ e.a) → ¬ bec b now.s e < 0 → e.a ≤ bnd r c (bec b now.s e) := fun b now e h1 hn ha hb => by
  have h8 := bec_cases hb
  have hact : act now := by unfold act; omega
  have hn := hn hact
  have ha : e.a < now.n := by
   rcases Int.lt_or_le e.a now.n with h | h
   ·exact h
   ·exact absurd ⟨hact, h⟩ ha
  unfold RlV at hr
  rcases h8 with ⟨q1, q2, q3⟩ | ⟨q1, q2⟩
  ·have : now.s = 1 ∨ now.s = 2 ∨ now.s = 3 := by omega
   have hk : bec b now.s e = 2 → now.s = 1 := fun hk => by unfold bec at hk; grind
   have hk3 : bec b now.s e = 3 → now.s ≤ 2 := fun hk => by unfold bec at hk; grind
   have hk6 : bec b now.s e = 6 → now.s ≤ 2 := fun hk => by unfold bec at hk; grind
   rcases this with h | h | h <;> rw [h] at hn h1 hk hk3 hk6 <;> simp [dur, bnd] at hn h1 <;> rcases q3 with q | q | q | q <;> rw [h] at q <;> rw [h, q] <;> simp [bnd, endsV] <;> grind
  ·rw [q2]; rw [q1] at hn h1
   simp [dur, bnd, endsV] at hn h1 ⊢
   omega
 intro x hx
 unfold timeline at hx
 rcases List.mem_cons.1 hx with rfl | hx
 ·have := hle 1
  simpa [bnd, x0, st] using this
 ·refine tl_all (r := r) (b := c.b) (fun x => x.f ≤ endsV r c) (fun now _ => now.f ≤ bnd r c now.s ∧ (act now → now.n = now.f + dur r now.s)) ?_ ?_ ?_ ?_ _ (x0 r c) es (Nat.le_refl _) ⟨by simp [x0, st, bnd], fun _ => by simp [x0, st, dur]⟩ x hx
  ·intro now e es ⟨g1, g2⟩ ha _
   have := key now g1 ha (g2 ha)
   exact ⟨Int.le_trans this (hle _), this, fun hx => by unfold act at hx; simp only [st] at hx ⊢; rw [if_pos hx]⟩
  ·intro now e es g _ _
   exact g
  ·intro now e es ⟨g1, g2⟩ ha hb
   have := kev c.b now e g1 g2 ha hb
   exact ⟨Int.le_trans this (hle _), this, fun hx => by unfold act at hx; simp only [st] at hx ⊢; rw [if_pos hx]⟩
  ·intro now ⟨g1, g2⟩ ha
   have := key now g1 ha (g2 ha)
   exact ⟨Int.le_trans this (hle _), this, fun hx => by unfold act at hx; simp only [st] at hx ⊢; rw [if_pos hx]⟩
theorem ins_perm (x : Hp) (l : List Hp) : (ins x l).Perm (x :: l) := by
 induction l with
 | nil => exact List.Perm.refl _
 | cons y l ih =>
  unfold ins
  split
  ·exact List.Perm.refl _
  ·exact (List.Perm.cons y ih).trans (List.Perm.swap x y l)
theorem isort_perm (l : List Hp) : (isort l).Perm l := by
 have : ∀ (l acc : List Hp), (l.foldl (fun acc x => ins x acc) acc).Perm (l ++ acc) := by
  intro l
  induction l with
  | nil => intro acc; exact List.Perm.refl _
  | cons x l ih =>
   intro acc
   rw [List.foldl_cons]
   refine (ih _).trans ?_
   refine ((ins_perm x acc).append_left l).trans ?_
   exact List.perm_middle
 have := this l []
 rw [List.append_nil] at this
 exact this
theorem ptsV_mem {n : Int} {r : Rl} : ∀ {ps : List Pt} {last : Int}, PtsV n r last ps → ∀ p ∈ ps, p.c.n = n ∧ ClmV r p.c p.es
 | [], _, _, p, h => by cases h
 | q :: ps, _, hv, p, h => by
  rcases List.mem_cons.1 h with rfl | h
  ·exact ⟨hv.1.1, hv.1.2.1⟩
  ·exact ptsV_mem hv.2 p h
def Good (c : Ch) : Prop := ChV c ∧ ∀ p ∈ c.ps, endsV c.r p.c ≤ 400000
theorem ch_clm {c : Ch} (h : ChV c) {k : Nat} {p : Pt} (hp : c.ps[k]? = some p) : ClmV c.r p.c p.es := (ptsV_mem h.2.2.2.2.2.2 p (List.mem_of_getElem? hp)).2
theorem portAt_of {c : Ch} {k : Nat} {p : Pt} (hp : c.ps[k]? = some p) : portAt c (k : Int) = p := by simp [portAt, hp]
def hpP (c : Ch) (k : Nat) : List Hp := (timeline c.r (portAt c k).c (portAt c k).es).filterMap (hpOf k)
def effT (c : Ch) (x : Int) : Int := match hpP c x.toNat with
 | h :: _ => h.a
 | [] => 0
theorem hps_hpP {c : Ch} {h : Hp} (hh : h ∈ hps c) : ∃ (k : Nat) (p : Pt), c.ps[k]? = some p ∧ h.p = (k : Int) ∧ h ∈ hpP c k := by
 obtain ⟨k, p, h1, h2, x, h3, h4⟩ := hps_port hh
 refine ⟨k, p, h1, h2, ?_⟩
 unfold hpP
 rw [portAt_of h1]
 exact List.mem_filterMap.2 ⟨x, h3, h4⟩
theorem hpP_cases {c : Ch} (hV : ChV c) {k : Nat} {p : Pt} (hp : c.ps[k]? = some p) : hpP c k = [] ∨ (∃ f, hpP c k = [⟨f, k, false⟩] ∧ effT c k = f) ∨ (∃ f g, f ≤ g ∧ g < f + c.r.r ∧ hpP c k = [⟨f, k, false⟩, ⟨g, k, true⟩] ∧ effT c k = f) := by
 unfold effT
 rw [Int.toNat_natCast]
 have hc := port_cases (ch_clm hV hp) k
 have he : hpP c k = (timeline c.r p.c p.es).filterMap (hpOf k) := by unfold hpP; rw [portAt_of hp]
 rw [he]
 rcases hc with ⟨h, _⟩ | ⟨f, h1, h2, _⟩ | ⟨f, g, h1, h2, h3, h4, _⟩
 ·exact .inl h
 ·exact .inr (.inl ⟨f, h2, by rw [h2]⟩)
 ·exact .inr (.inr ⟨f, g, h2, h3, h4, by rw [h4]⟩)
theorem eff_of {c : Ch} (hV : ChV c) {h : Hp} (hh : h ∈ hps c) (hb : h.b = false) : h = ⟨effT c h.p, h.p, false⟩ := by
 obtain ⟨k, p, h1, h2, h3⟩ := hps_hpP hh
 rcases hpP_cases hV h1 with e | ⟨f, e, q⟩ | ⟨f, g, _, _, e, q⟩
 ·rw [e] at h3; cases h3
 ·rw [e] at h3
  rw [List.mem_singleton] at h3
  rw [h2, q]; exact h3
 ·rw [e] at h3
  rcases List.mem_cons.1 h3 with h3 | h3
  ·rw [h2, q]; exact h3
  ·rw [List.mem_singleton] at h3
   rw [h3] at hb; cases hb
theorem hps_nodup {c : Ch} (hV : ChV c) : (hps c).Nodup := by
 refine (isort_perm _).nodup_iff.2 ?_
 have : ∀ (ps : List Pt) (i : Nat), (∀ p ∈ ps, ClmV c.r p.c p.es) → (hpsFrom c.r i ps).Nodup ∧ ∀ h ∈ hpsFrom c.r i ps, (i : Int) ≤ h.p := by
  intro ps
  induction ps with
  | nil => intro i _; exact ⟨List.nodup_nil, fun h hh => by cases hh⟩
  | cons p ps ih =>
   intro i hp
   obtain ⟨h1, h2⟩ := ih (i + 1) (fun q hq => hp q (List.mem_cons_of_mem _ hq))
   have hc := port_cases (hp p (List.mem_cons_self ..)) i
   have hi : ((timeline c.r p.c p.es).filterMap (hpOf i)).Nodup ∧ ∀ h ∈ (timeline c.r p.c p.es).filterMap (hpOf i), h.p = (i : Int) := by
    rcases hc with ⟨h, _⟩ | ⟨f, _, h, _⟩ | ⟨f, g, _, _, _, h, _⟩ <;> rw [h]
    ·exact ⟨List.nodup_nil, fun h hh => by cases hh⟩
    ·exact ⟨by simp, fun h hh => by rw [List.mem_singleton] at hh; rw [hh]⟩
    ·refine ⟨by simp, fun h hh => ?_⟩
     rcases List.mem_cons.1 hh with hh | hh
     ·rw [hh]
     ·rw [List.mem_singleton] at hh; rw [hh]
   refine ⟨List.nodup_append.2 ⟨hi.1, h1, fun x hx y hy e => ?_⟩, fun h hh => ?_⟩
   ·have := hi.2 x hx
    have := h2 y hy
    rw [e] at *
    omega
   ·rcases List.mem_append.1 hh with hh | hh
    ·rw [hi.2 h hh]; omega
    ·have := h2 h hh; omega
 exact (this c.ps 0 fun p hp => (ptsV_mem hV.2.2.2.2.2.2 p hp).2).1
theorem hps_inj {c : Ch} (hV : ChV c) {i j : Nat} {h : Hp} (hi : (hps c)[i]? = some h) (hj : (hps c)[j]? = some h) : i = j :=
 (List.getElem?_inj (List.getElem?_eq_some_iff.1 hi).1 (hps_nodup hV)).1 (hi.trans hj.symm)
def Gk (c : Ch) (i : Nat) : List Int := force c [] ((hps c).take i)
theorem Gk_zero (c : Ch) : Gk c 0 = [] := rfl
theorem Gk_succ {c : Ch} {i : Nat} {h : Hp} (hi : (hps c)[i]? = some h) : Gk c (i + 1) = aftH c (Gk c i) h := by
 unfold Gk
 rw [List.take_add_one, hi]
 simp [force]
theorem Gk_end {c : Ch} {i : Nat} (hi : (hps c)[i]? = none) : Gk c (i + 1) = Gk c i := by
 unfold Gk
 rw [List.take_add_one, hi]
 simp
theorem popd_suf (p : Int) : ∀ (G : List Int), ∃ Z, G = Z ++ popd p G
 | [] => ⟨[], rfl⟩
 | x :: G => by
  obtain ⟨Z, hZ⟩ := popd_suf p G
  unfold popd
  split
  ·exact ⟨x :: Z, by rw [List.cons_append, ← hZ]⟩
  ·exact ⟨[], rfl⟩
theorem inv {c : Ch} (hV : ChV c) : ∀ (i : Nat) (X : List Int) (p : Int) (Y : List Int), Gk c i = X ++ p :: Y → ∃ j, j < i ∧ (hps c)[j]? = some ⟨effT c p, p, false⟩ ∧ Gk c j = Y ∧ Takes c Y ⟨effT c p, p, false⟩ := by
 intro i
 induction i with
 | zero => intro X p Y h; rw [Gk_zero] at h; simp at h
 | succ i ih =>
  intro X p Y h
  have up : ∀ X', Gk c i = X' ++ p :: Y → ∃ j, j < i + 1 ∧ (hps c)[j]? = some ⟨effT c p, p, false⟩ ∧ Gk c j = Y ∧ Takes c Y ⟨effT c p, p, false⟩ := fun X' h' => by
   obtain ⟨j, h1, h2⟩ := ih X' p Y h'
   exact ⟨j, by omega, h2⟩
  cases hi : (hps c)[i]? with
  | none => rw [Gk_end hi] at h; exact up X h
  | some x =>
   rw [Gk_succ hi] at h
   unfold aftH at h
   by_cases hb : x.b = true
   ·rw [if_pos hb] at h
    obtain ⟨Z, hZ⟩ := popd_suf x.p (Gk c i)
    rw [h] at hZ
    exact up (Z ++ X) (by rw [hZ, List.append_assoc])
   ·rw [if_neg hb] at h
    by_cases ht : Takes c (Gk c i) x
    ·rw [if_pos ht] at h
     cases X with
     | nil =>
      cases h
      have hx := eff_of hV (List.mem_of_getElem? hi) (by simpa using hb)
      exact ⟨i, by omega, by rw [← hx]; exact hi, rfl, by rw [← hx]; exact ht⟩
     | cons y X =>
      rw [List.cons_append] at h
      exact up X (List.cons.inj h).2
    ·rw [if_neg ht] at h
     exact up X h
theorem base {c : Ch} (hV : ChV c) {i i' : Nat} {X X' Y Y' : List Int} {p : Int} (h : Gk c i = X ++ p :: Y) (h' : Gk c i' = X' ++ p :: Y') : Y = Y' := by
 obtain ⟨j, _, h1, h2, _⟩ := inv hV i X p Y h
 obtain ⟨j', _, h1', h2', _⟩ := inv hV i' X' p Y' h'
 have := hps_inj hV h1 h1'
 rw [← h2, ← h2', this]
theorem Gk_nodup {c : Ch} (hV : ChV c) {i : Nat} {X Y : List Int} {p : Int} (h : Gk c i = X ++ p :: Y) : p ∉ Y := fun hp => by
 obtain ⟨A, B, rfl⟩ := List.append_of_mem hp
 have h' : Gk c i = (X ++ p :: A) ++ p :: B := by rw [h]; simp
 have := congrArg List.length (base hV h h')
 simp at this
 omega
def upH (c : Ch) (t : Int) : Nat := ((hps c).takeWhile fun h => decide (h.a ≤ t)).length
theorem upH_take (c : Ch) (t : Int) : (hps c).takeWhile (fun h => decide (h.a ≤ t)) = (hps c).take (upH c t) := List.prefix_iff_eq_take.1 (List.takeWhile_prefix _)
theorem forceAt_Gk (c : Ch) (t : Int) : forceAt c t = Gk c (upH c t) := by
 unfold forceAt Gk
 rw [upH_take]
theorem upH_lt {c : Ch} {t : Int} {i : Nat} {h : Hp} (hi : (hps c)[i]? = some h) : i < upH c t ↔ h.a ≤ t := by
 obtain ⟨hl, rfl⟩ := List.getElem?_eq_some_iff.1 hi
 constructor
 ·intro h
  have h1 := List.all_eq_true.1 List.all_takeWhile _ (List.getElem_mem (l := (hps c).takeWhile fun h => decide (h.a ≤ t)) h)
  have h3 := List.IsPrefix.getElem (List.takeWhile_prefix (fun h : Hp => decide (h.a ≤ t)) (l := hps c)) h
  rw [h3] at h1; simpa using h1
 ·intro ht
  rcases Nat.lt_or_ge i (upH c t) with h1 | h1
  ·exact h1
  ·have hlen : upH c t < (hps c).length := by omega
   have h2 : t < ((hps c)[upH c t]).a := by
    have : ∀ (l : List Hp) (h : (l.takeWhile fun h => decide (h.a ≤ t)).length < l.length), t < (l[(l.takeWhile fun h => decide (h.a ≤ t)).length]).a := by
     intro l
     induction l with
     | nil => intro h; simp at h
     | cons x l ih =>
      intro h
      by_cases hx : x.a ≤ t
      ·have e : ((x :: l).takeWhile fun h => decide (h.a ≤ t)).length = (l.takeWhile fun h => decide (h.a ≤ t)).length + 1 := by simp [hx]
       simp only [e] at h ⊢
       simpa using ih (by simpa using h)
      ·have e : ((x :: l).takeWhile fun h => decide (h.a ≤ t)).length = 0 := by simp [hx]
       simp only [e]
       simpa using hx
    exact this _ hlen
   have h3 := sorted_le (sorted_hps c) h1 (List.getElem?_eq_getElem hlen) (List.getElem?_eq_getElem hl)
   omega
end Go.Dial.Chn
set_option maxRecDepth 100000
namespace Go.Proofs.YtjllgiddmeiaoaaGreat
open Go Go.Sx Go.Dial.Clm Go.Dial.Lif Go.Dial.Chn
theorem rsort_stop (n : Nat) (go0 : ref17_happenings_s1 → Option ref17_happenings_a) (go1 : ref17_happenings_s1 → Option ref17_happenings_a) (i : Nat) (hi : i ≤ 100) (L : Lv) : ref17_happenings_5 n go0 go1 (i : Int) 0 L = go0 ((i : Int) + 1, L) := by
 unfold ref17_happenings_5
 have c8 : (-9223372036854775808 : Int) ≤ (i : Int) + 1 := by omega
 have c9 : (i : Int) + 1 ≤ (9223372036854775807 : Int) := by omega
 simp [c8, c9]
theorem rsort_step (n : Nat) (go0 : ref17_happenings_s1 → Option ref17_happenings_a) (go1 : ref17_happenings_s1 → Option ref17_happenings_a) (i : Nat) (hi : i ≤ 100) (A B : List Hp) (x y : Hp) (hA : A.length ≤ 100) (h3 : ¬ (x.p = y.p ∧ x.b = false ∧ y.b = true)) :
  ref17_happenings_5 n go0 go1 (i : Int) ((A.length + 1 : Nat) : Int) (hpL (A ++ y :: x :: B)) = if ltH x y then go1 ((A.length : Int), hpL (A ++ x :: y :: B)) else go0 ((i : Int) + 1, hpL (A ++ y :: x :: B)) := by
 have hx : ∀ k, cA (hpL (A ++ y :: x :: B)) ((A.length + 1 : Nat) : Int) k = (hpR x).getD k (.int 0) := fun k => cA_map (by
  rw [show (((A.length + 1 : Nat) : Int)).toNat = A.length + 1 by omega, List.getElem?_append_right (by omega)]; simp)
 have hy : ∀ k, cA (hpL (A ++ y :: x :: B)) (((A.length + 1 : Nat) : Int) - 1) k = (hpR y).getD k (.int 0) := fun k => cA_map (by
  rw [show (((A.length + 1 : Nat) : Int) - 1).toNat = A.length by omega, List.getElem?_append_right (by omega)]; simp)
 have x0 : cI (hpL (A ++ y :: x :: B)) ((A.length + 1 : Nat) : Int) 0 = x.a := by simp only [cI, hx]; rfl
 have x1 : cI (hpL (A ++ y :: x :: B)) ((A.length + 1 : Nat) : Int) 1 = x.p := by simp only [cI, hx]; rfl
 have x2 : cB (hpL (A ++ y :: x :: B)) ((A.length + 1 : Nat) : Int) 2 = x.b := by simp only [cB, hx]; rfl
 have y0 : cI (hpL (A ++ y :: x :: B)) (((A.length + 1 : Nat) : Int) - 1) 0 = y.a := by simp only [cI, hy]; rfl
 have y1 : cI (hpL (A ++ y :: x :: B)) (((A.length + 1 : Nat) : Int) - 1) 1 = y.p := by simp only [cI, hy]; rfl
 have y2 : cB (hpL (A ++ y :: x :: B)) (((A.length + 1 : Nat) : Int) - 1) 2 = y.b := by simp only [cB, hy]; rfl
 have hsw := swap_rows (A := A) (B := B) (x := x) (y := y) (j := A.length + 1) rfl
 rw [Nat.add_sub_cancel] at hsw
 have t1 : (((A.length + 1 : Nat) : Int)).toNat = A.length + 1 := by omega
 have t2 : (((A.length + 1 : Nat) : Int) - 1).toNat = A.length := by omega
 have t3 : ((A.length + 1 : Nat) : Int) - 1 = (A.length : Int) := by omega
 have c8 : (-9223372036854775808 : Int) ≤ (i : Int) + 1 := by omega
 have c9 : (i : Int) + 1 ≤ (9223372036854775807 : Int) := by omega
 have d1 : (0 : Int) < ((A.length + 1 : Nat) : Int) := by omega
 have d2 : (0 : Int) ≤ ((A.length + 1 : Nat) : Int) := by omega
 have d3 : ((A.length + 1 : Nat) : Int) < ((hpL (A ++ y :: x :: B)).length : Int) := by simp; omega
 have d4 : (-9223372036854775808 : Int) ≤ ((A.length + 1 : Nat) : Int) - 1 := by omega
 have d5 : ((A.length + 1 : Nat) : Int) - 1 ≤ (9223372036854775807 : Int) := by omega
 have d6 : (0 : Int) ≤ ((A.length + 1 : Nat) : Int) - 1 := by omega
 have d7 : ((A.length + 1 : Nat) : Int) - 1 < ((hpL (A ++ y :: x :: B)).length : Int) := by simp; omega
 unfold ref17_happenings_5
 generalize hL : hpL (A ++ y :: x :: B) = L at *
 generalize ((A.length + 1 : Nat) : Int) = j at *
 simp only [x0, x1, x2, y0, y1, y2, c8, c9, d1, d2, d3, d4, d5, d6, d7, t1, t2, hsw, decide_true, Bool.and_self]
 simp only [cond_true]
 rw [t3]
 by_cases hlt : ltH x y
 ·rw [if_pos hlt]
  unfold ltH at hlt
  by_cases k1 : x.a < y.a
  ·have k2 : ¬ x.a = y.a := by omega
   simp [k1, k2]
  ·have k4 : x.a = y.a := by omega
   have k5 : x.p < y.p := by omega
   have k6 : ¬ x.p = y.p := by omega
   simp [k4, k5, k6]
 ·rw [if_neg hlt]
  unfold ltH at hlt
  have k1 : ¬ x.a < y.a := by omega
  by_cases k2 : y.a < x.a
  ·have k3 : ¬ x.a = y.a := by omega
   simp [k1, k3]
  ·have k4 : x.a = y.a := by omega
   have k5 : ¬ x.p < y.p := by omega
   by_cases k6 : x.p = y.p
   ·cases hx : x.b
    ·cases hy : y.b
     ·simp [k4, k6]
     ·exact absurd ⟨k6, hx, hy⟩ h3
    ·simp [k4, k6]
   ·simp [k4, k5, k6]
theorem rsort_in (n : Nat) (go0 : ref17_happenings_s1 → Option ref17_happenings_a) (i : Nat) (hi : i ≤ 100) (x : Hp) (S R : List Hp) (hS : SortedH S) (hl : S.length ≤ 100) (h3 : ∀ y ∈ S, ¬ (x.p = y.p ∧ x.b = false ∧ y.b = true)) : ∀ (m : Nat) (A B : List Hp), S = A ++ B → (∀ y ∈ B, ltH x y) → A.length < m →
  iterF (fun go1 s => ref17_happenings_5 n go0 go1 (i : Int) s.1 s.2) m ((A.length : Int), hpL (A ++ x :: (B ++ R))) = go0 ((i : Int) + 1, hpL (ins x S ++ R)) := by
 intro m
 induction m with
 | zero => intro A B _ _ h; omega
 | succ m ih =>
  intro A B hAB hB hm
  rw [iterF_succ]
  rcases List.eq_nil_or_concat A with rfl | ⟨A', y, rfl⟩
  ·show ref17_happenings_5 n go0 _ (i : Int) 0 _ = _
   rw [rsort_stop n go0 _ i hi]
   have hS' : SortedH ([] ++ B) := hAB ▸ hS
   rw [hAB, ins_at hS' hB (fun y hy => by cases hy)]
   simp
  ·rw [List.concat_eq_append] at hAB hm ⊢
   have e1 : (A' ++ [y]) ++ x :: (B ++ R) = A' ++ y :: x :: (B ++ R) := by simp
   have e2 : ((A' ++ [y]).length : Int) = ((A'.length + 1 : Nat) : Int) := by simp
   rw [e1, e2]
   show ref17_happenings_5 n go0 _ (i : Int) ((A'.length + 1 : Nat) : Int) (hpL (A' ++ y :: x :: (B ++ R))) = _
   have hA' : A'.length ≤ 100 := by rw [hAB] at hl; simp at hl; omega
   rw [rsort_step n go0 _ i hi A' (B ++ R) x y hA' (h3 y (by rw [hAB]; simp))]
   by_cases hxy : ltH x y
   ·rw [if_pos hxy]
    have := ih A' (y :: B) (by rw [hAB]; simp) (fun z hz => by
     rcases List.mem_cons.1 hz with rfl | hz
     ·exact hxy
     ·exact hB z hz) (by simp at hm; omega)
    rw [List.cons_append] at this
    exact this
   ·rw [if_neg hxy]
    have hS' : SortedH ((A' ++ [y]) ++ B) := hAB ▸ hS
    rw [hAB, ins_at hS' hB (fun z hz => by simp at hz; subst hz; exact hxy)]
    simp
theorem rsort_all (n : Nat) (l : List Hp) (hl : l.length ≤ 19) (hn : 200 < n) (hO : ∀ (i j : Nat) (x y : Hp), j < i → l[i]? = some x → l[j]? = some y → ¬ (x.p = y.p ∧ x.b = false ∧ y.b = true)) : iterF (fun go0 s => ref17_happenings_4 n go0 s.1 s.2) n ((1 : Int), hpL l) = some (hpL (isort l)) := by
 refine iterF_ind (fun s => ∃ i : Nat, s = ((i : Int), hpL (isort (l.take i) ++ l.drop i)) ∧ 1 ≤ i ∧ i ≤ l.length + 1) (fun s => l.length + 1 - s.1.toNat) _ ?_ n _ ⟨1, ?_, by omega, by omega⟩ (by simp; omega)
 ·rintro _ go ⟨i, rfl, h1, h2⟩ ih
  simp only
  unfold ref17_happenings_4
  have hlen : ((hpL (isort (l.take i) ++ l.drop i)).length : Int) = (l.length : Int) := by
   rw [List.length_map, List.length_append, isort_len, ← List.length_append, List.take_append_drop]
  by_cases hlt : i < l.length
  ·have c1 : (i : Int) < ((hpL (isort (l.take i) ++ l.drop i)).length : Int) := by omega
   obtain ⟨x, hx⟩ := get_lt hlt
   rw [decide_eq_true c1, cond_true, drop_cons hx]
   have hli : (isort (l.take i)).length = i := by rw [isort_len, List.length_take]; omega
   have := rsort_in n go i (by omega) x (isort (l.take i)) (l.drop (i + 1)) (sorted_isort _) (by omega) (fun y hy => by
    have hy := (isort_perm _).mem_iff.1 hy
    obtain ⟨j, hj⟩ := List.getElem?_of_mem hy
    rw [List.getElem?_take] at hj
    split at hj
    ·rename_i hji
     exact hO i j x y hji hx hj
    ·cases hj) n (isort (l.take i)) [] (by simp) (fun y hy => by cases hy) (by omega)
   rw [hli, List.nil_append] at this
   rw [this]
   exact ih _ ⟨i + 1, by rw [take_snoc hx, isort_snoc]; simp, by omega, by omega⟩ (by simp only; omega)
  ·have c1 : ¬ (i : Int) < ((hpL (isort (l.take i) ++ l.drop i)).length : Int) := by omega
   rw [decide_eq_false c1, cond_false, List.take_of_length_le (by omega), List.drop_of_length_le (by omega), List.append_nil]
 ·cases l with
  | nil => rfl
  | cons x l => rfl
theorem hps_ord {c : Ch} (hV : ChV c) : ∀ (i j : Nat) (x y : Hp), j < i → (hpsFrom c.r 0 c.ps)[i]? = some x → (hpsFrom c.r 0 c.ps)[j]? = some y → ¬ (x.p = y.p ∧ x.b = false ∧ y.b = true) := by
 have key : ∀ (ps : List Pt) (k : Nat), (∀ p ∈ ps, ClmV c.r p.c p.es) → (hpsFrom c.r k ps).Pairwise (fun y x => ¬ (x.p = y.p ∧ x.b = false ∧ y.b = true)) ∧ ∀ h ∈ hpsFrom c.r k ps, (k : Int) ≤ h.p := by
  intro ps
  induction ps with
  | nil => intro k _; exact ⟨List.Pairwise.nil, fun h hh => by cases hh⟩
  | cons p ps ih =>
   intro k hv
   obtain ⟨h1, h2⟩ := ih (k + 1) fun q hq => hv q (List.mem_cons_of_mem _ hq)
   have hi : ((timeline c.r p.c p.es).filterMap (hpOf k)).Pairwise (fun y x => ¬ (x.p = y.p ∧ x.b = false ∧ y.b = true)) ∧ ∀ h ∈ (timeline c.r p.c p.es).filterMap (hpOf k), h.p = (k : Int) := by
    rcases port_cases (hv p (List.mem_cons_self ..)) k with ⟨e, _⟩ | ⟨f, _, e, _⟩ | ⟨f, g, _, _, _, e, _⟩
    ·rw [e]; exact ⟨List.Pairwise.nil, fun h hh => by cases hh⟩
    ·rw [e]; exact ⟨List.pairwise_singleton _ _, fun h hh => by simp at hh; rw [hh]⟩
    ·rw [e]; exact ⟨List.Pairwise.cons (fun x hx => by simp at hx; subst hx; simp) (List.pairwise_singleton _ _), fun h hh => by simp at hh; rcases hh with rfl | rfl <;> rfl⟩
   refine ⟨List.pairwise_append.2 ⟨hi.1, h1, fun y hy x hx => ?_⟩, fun h hh => ?_⟩
   ·have e1 := hi.2 y hy
    have e2 := h2 x hx
    rintro ⟨e3, _⟩
    omega
   ·rcases List.mem_append.1 hh with hh | hh
    ·rw [hi.2 h hh]; exact Int.le_refl _
    ·have := h2 h hh; omega
 have hp := (key c.ps 0 fun p hp => (ptsV_all hV.2.2.2.2.2.2 p hp).2).1
 intro i j x y hj hx hy
 obtain ⟨l1, e1⟩ := List.getElem?_eq_some_iff.1 hx
 obtain ⟨l2, e2⟩ := List.getElem?_eq_some_iff.1 hy
 have := List.pairwise_iff_getElem.1 hp j i l2 l1 hj
 rw [e1, e2] at this
 exact this
theorem ref17_happenings_v (n : Nat) (c : Ch) (h : ChV c) (hn : 200 < n) : ref17_happenings n c.n c.f c.r.a c.r.c c.r.s c.r.r (evL c.life) (ptL c.ps) = some (hpL (hps c)) := by
 obtain ⟨_, _, _, _, _, h8, hP⟩ := id h
 have htot := hpsFrom_len c.r c.ps 0
 unfold ref17_happenings ref17_happenings_1
 refine iterF_ind (fun s => ∃ (i : Nat) (A : List Hp), s = (hpL A, (i : Int)) ∧ i ≤ c.ps.length ∧ A ++ hpsFrom c.r i (c.ps.drop i) = hpsFrom c.r 0 c.ps) (fun s => c.ps.length - s.2.toNat) _ ?_ n _ ⟨0, [], rfl, by omega, by simp⟩ (by simp; omega)
 rintro _ go ⟨i, A, rfl, hi, hA⟩ ih
 simp only
 unfold ref17_happenings_2
 by_cases hlt : i < c.ps.length
 ·obtain ⟨p, hp⟩ := get_lt hlt
  have hc : ∀ k, cA (ptL c.ps) (i : Int) k = (ptR p).getD k (.int 0) := fun k => cA_map (by simpa using hp)
  have g0 : cI (ptL c.ps) i 0 = p.c.n := by simp only [cI, hc]; rfl
  have g1 : cI (ptL c.ps) i 1 = p.c.f := by simp only [cI, hc]; rfl
  have g2 : cI (ptL c.ps) i 2 = p.c.t := by simp only [cI, hc]; rfl
  have g3 : cI (ptL c.ps) i 3 = p.c.h := by simp only [cI, hc]; rfl
  have g4 : cI (ptL c.ps) i 4 = p.c.a := by simp only [cI, hc]; rfl
  have g5 : cB (ptL c.ps) i 5 = p.c.b := by simp only [cB, hc]; rfl
  have g6 : cL (ptL c.ps) i 6 = ceL p.es := by simp only [cL, hc]; rfl
  have c1 : (i : Int) < ((ptL c.ps).length : Int) := by rw [List.length_map]; omega
  have c2 : (0 : Int) ≤ (i : Int) := by omega
  have hv := (ptsV_all hP p (List.mem_of_getElem? hp)).2
  rw [decide_eq_true c1, cond_true, decide_eq_true c2, cond_true, g0, g1, g2, g3, g4, g5, g6, ref16_Timeline_v n c.r p.c p.es hn, if_pos hv, Option.bind_some]
  rw [hpsFrom_drop hp] at hA
  obtain ⟨T, hT⟩ : ∃ T, T = timeline c.r p.c p.es := ⟨_, rfl⟩
  have hTl : T.length ≤ 110 := by rw [hT]; exact timeline_len hv.2.2.1
  rw [← hT] at hA ⊢
  refine iterF_ind (fun s => ∃ (k : Nat) (B : List Hp), s = (hpL B, (k : Int)) ∧ k ≤ T.length ∧ B ++ (T.drop k).filterMap (hpOf i) = A ++ T.filterMap (hpOf i)) (fun s => T.length - s.2.toNat) _ ?_ n _ ⟨0, A, rfl, by omega, by simp⟩ (by simp; omega)
  rintro _ go1 ⟨k, B, rfl, hk, hB⟩ ih1
  simp only
  unfold ref17_happenings_3
  have hBl : B.length ≤ 16 := by
   have e1 := congrArg List.length hB
   have e2 := congrArg List.length hA
   simp only [List.length_append] at e1 e2
   omega
  have c4 : (-9223372036854775808 : Int) ≤ (k : Int) + 1 := by omega
  have c5 : (k : Int) + 1 ≤ (9223372036854775807 : Int) := by omega
  have c6 : (-9223372036854775808 : Int) ≤ (i : Int) + 1 := by omega
  have c7 : (i : Int) + 1 ≤ (9223372036854775807 : Int) := by omega
  have c8 : (((hpL B).length : Int) + 1) * 24 ≤ 140737488355328 := by rw [List.length_map]; omega
  have c9 : (0 : Int) ≤ (k : Int) := by omega
  by_cases hkt : k < T.length
  ·obtain ⟨x, hx⟩ := get_lt hkt
   have hcx : ∀ j, cA (csL T) (k : Int) j = (csR x).getD j (.int 0) := fun j => cA_map (by simpa using hx)
   have x0 : cI (csL T) k 0 = x.s := by simp only [cI, hcx]; rfl
   have x1 : cI (csL T) k 1 = x.f := by simp only [cI, hcx]; rfl
   have c10 : (k : Int) < ((csL T).length : Int) := by rw [List.length_map]; omega
   rw [drop_cons hx, List.filterMap_cons] at hB
   rw [x0, x1, decide_eq_true c10, cond_true, decide_eq_true c9, cond_true]
   by_cases h4 : x.s = 4 ∨ x.s = 8
   ·have hh : hpOf i x = some ⟨x.f, i, decide (x.s = 8)⟩ := by unfold hpOf; rw [if_pos h4]
    rw [hh] at hB
    have hgo := ih1 _ ⟨k + 1, B ++ [⟨x.f, i, decide (x.s = 8)⟩], rfl, by omega, by rw [← hB]; simp⟩ (by simp only; omega)
    have e : hpL (B ++ [⟨x.f, i, decide (x.s = 8)⟩]) = hpL B ++ [[AV.int x.f, AV.int (i : Int), AV.bool (decide (x.s = 8))]] := by simp
    rw [e] at hgo
    rcases h4 with h4 | h4
    ·rw [decide_eq_true h4, cond_true, decide_eq_true c8, cond_true, decide_eq_true c4, decide_eq_true c5, Bool.and_self, cond_true]; exact hgo
    ·have h5 : ¬ x.s = 4 := by omega
     rw [decide_eq_false h5, cond_false, decide_eq_true h4, cond_true, decide_eq_true c8, cond_true, decide_eq_true c4, decide_eq_true c5, Bool.and_self, cond_true]
     rw [decide_eq_true h4] at hgo
     exact hgo
   ·have hh : hpOf i x = none := by unfold hpOf; rw [if_neg h4]
    rw [hh] at hB
    have h5 : ¬ x.s = 4 := fun h => h4 (.inl h)
    have h6 : ¬ x.s = 8 := fun h => h4 (.inr h)
    rw [decide_eq_false h5, cond_false, decide_eq_false h6, cond_false, decide_eq_true c4, decide_eq_true c5, Bool.and_self, cond_true]
    exact ih1 _ ⟨k + 1, B, rfl, by omega, hB⟩ (by simp only; omega)
  ·have hkk : k = T.length := by omega
   have c10 : ¬ (k : Int) < ((csL T).length : Int) := by rw [List.length_map]; omega
   rw [hkk, List.drop_length] at hB
   simp only [List.filterMap_nil, List.append_nil] at hB
   rw [decide_eq_false c10, cond_false, decide_eq_true c6, decide_eq_true c7, Bool.and_self, cond_true]
   exact ih _ ⟨i + 1, B, rfl, by omega, by rw [hB, List.append_assoc]; exact hA⟩ (by simp only; omega)
 ·have h00 : i = c.ps.length := by omega
  have c1 : ¬ (i : Int) < ((ptL c.ps).length : Int) := by rw [List.length_map]; omega
  rw [h00, List.drop_length] at hA
  have hA : A = hpsFrom c.r 0 c.ps := by simpa [hpsFrom] using hA
  have hl : A.length ≤ 19 := by rw [hA]; omega
  rw [decide_eq_false c1, cond_false, rsort_all n A hl hn (by rw [hA]; exact hps_ord h), hA]
  rfl
theorem ref17_place_v (n : Nat) (L : List Int) (p : Int) (hn : L.length < n) (hl : L.length ≤ 1000) : (p ∉ L → ref17_place n (inL L) p = some (-1)) ∧ ∀ A B, L = A ++ p :: B → p ∉ A → ref17_place n (inL L) p = some (A.length : Int) := by
 have hlen : ((inL L).length : Int) = (L.length : Int) := by rw [List.length_map]
 have cell : ∀ (i : Nat) x, L[i]? = some x → cI (inL L) (i : Int) 0 = x := fun i x hx => by
  have : cA (inL L) (i : Int) 0 = ([AV.int x] : List AV).getD 0 (.int 0) := cA_map (by simpa using hx)
  simp only [cI, this]; rfl
 have step : ∀ (i : Nat) (go : Int → Option Int), i < L.length → ∀ x, L[i]? = some x → ref17_place_2 n go (inL L) p (i : Int) = if x = p then some (i : Int) else go ((i : Int) + 1) := by
  intro i go hi x hx
  unfold ref17_place_2
  have c1 : (i : Int) < ((inL L).length : Int) := by omega
  have c2 : (0 : Int) ≤ (i : Int) := by omega
  have c4 : (-9223372036854775808 : Int) ≤ (i : Int) + 1 := by omega
  have c5 : (i : Int) + 1 ≤ (9223372036854775807 : Int) := by omega
  rw [decide_eq_true c1, cond_true, decide_eq_true c2, cond_true, cell i x hx, decide_eq_true c4, decide_eq_true c5, Bool.and_self, cond_true]
  by_cases h : x = p
  ·rw [decide_eq_true h, cond_true, if_pos h]
  ·rw [decide_eq_false h, cond_false, if_neg h]
 refine ⟨fun hp => ?_, fun A B hL hA => ?_⟩
 ·unfold ref17_place ref17_place_1
  refine iterF_ind (fun s => ∃ i : Nat, s = (i : Int) ∧ i ≤ L.length) (fun s => L.length - s.toNat) _ ?_ n _ ⟨0, rfl, by omega⟩ (by simp; omega)
  rintro _ go ⟨i, rfl, hi⟩ ih
  by_cases hlt : i < L.length
  ·obtain ⟨x, hx⟩ := get_lt hlt
   rw [step i go hlt x hx, if_neg (fun e : x = p => hp (e ▸ List.mem_of_getElem? hx))]
   exact ih _ ⟨i + 1, rfl, by omega⟩ (by omega)
  ·unfold ref17_place_2
   have c1 : ¬ (i : Int) < ((inL L).length : Int) := by omega
   rw [decide_eq_false c1, cond_false]
 ·unfold ref17_place ref17_place_1
  have hAl : A.length < L.length := by rw [hL]; simp
  refine iterF_ind (fun s => ∃ i : Nat, s = (i : Int) ∧ i ≤ A.length) (fun s => L.length - s.toNat) _ ?_ n _ ⟨0, rfl, by omega⟩ (by simp; omega)
  rintro _ go ⟨i, rfl, hi⟩ ih
  obtain ⟨x, hx⟩ := get_lt (show i < L.length by omega)
  rw [step i go (by omega) x hx]
  rcases Nat.lt_or_ge i A.length with h | h
  ·rw [hL, List.getElem?_append_left h] at hx
   rw [if_neg (fun e : x = p => hA (e ▸ List.mem_of_getElem? hx))]
   exact ih _ ⟨i + 1, rfl, by omega⟩ (by omega)
  ·have : i = A.length := by omega
   subst this
   rw [hL, List.getElem?_append_right (Nat.le_refl _)] at hx
   simp at hx
   rw [if_pos hx.symm]
end Go.Proofs.YtjllgiddmeiaoaaGreat
set_option maxRecDepth 100000
namespace Go.Proofs.YtjllgiddmeiaoaaGreat
open Go Go.Sx
noncomputable section
def consD12 : List Nat := [5, 6, 7, 8, 9, 10, 11, 12, 13, 14, 15, 16, 17, 18, 19, 20, 21, 22, 23, 24, 28, 29, 30, 31, 32, 33, 34, 35, 36, 37, 39, 41, 42, 43, 45, 47, 48, 49, 50, 51, 64, 66, 67, 69, 70, 73, 75, 76, 77, 79, 80, 81, 86, 88, 100, 101, 102, 103, 108, 111, 113, 114, 115, 132, 133, 142, 1000007, 1000008, 1000036, 1000037]
def mapsD12 : List (Nat × SV × SV) := [(117, SV.of [.agg (SV.of [.vi (.int 1), .vi (.int 1)]), .agg (SV.of [.vi (.int 2), .vi (.int 1)]), .agg (SV.of [.vi (.int 3), .vi (.int 2)]), .agg (SV.of [.vi (.int 4), .vi (.int 2)]), .agg (SV.of [.vi (.int 5), .vi (.int 1)]), .agg (SV.of [.vi (.int 5), .vi (.int 2)]), .agg (SV.of [.vi (.int 5), .vi (.int 3)]), .agg (SV.of [.vi (.int 6), .vi (.int 4)])], SV.of [.vi (.int 3), .vi (.int 2), .vi (.int 3), .vi (.int 6), .vi (.int 7), .vi (.int 7), .vi (.int 7), .vi (.int 8)])]
abbrev ref17_run_a := Lv × Lv
abbrev ref17_run_s0 := Lv × Lv × Int
abbrev ref17_run_s1 := Lv × Lv
def ref17_run_5 (n : Nat) (go0 : ref17_run_s0 → Option ref17_run_a) (go1 : ref17_run_s1 → Option ref17_run_a) (v9 : Lv) (v12 v13 : Int) (v14 v15 : Lv) : Option ref17_run_a :=
 bif ((decide ((-9223372036854775808) ≤ (v13 + 1))) && (decide ((v13 + 1) ≤ 9223372036854775807))) then (bif (decide ((v13 + 1) < (v15.length : Int))) then bif ((decide ((-9223372036854775808) ≤ ((v15.length : Int) - 1))) && (decide (((v15.length : Int) - 1) ≤ 9223372036854775807))) then bif (decide (0 ≤ ((v15.length : Int) - 1))) then bif (decide (((v15.length : Int) - 1) < (v15.length : Int))) then bif (decide ((((v14.length : Int) + 1) * 24) ≤ 140737488355328)) then bif (decide (((v15.length : Int) - 1) ≤ (v15.length : Int))) then go1 ((v14 ++ [[(AV.int (cI v9 v12 0)), (AV.int (cI v15 ((v15.length : Int) - 1) 0)), (AV.int 4)]]), (List.take (((v15.length : Int) - 1)).toNat v15)) else none else none else none else none else none
 else bif (decide ((((v14.length : Int) + 1) * 24) ≤ 140737488355328)) then bif (decide (0 ≤ v13)) then bif (decide (v13 ≤ (v15.length : Int))) then bif (decide ((((List.take (v13).toNat v15).length : Int) * 8) ≤ 140737488355328)) then bif ((decide ((-9223372036854775808) ≤ (v12 + 1))) && (decide ((v12 + 1) ≤ 9223372036854775807))) then go0 ((List.take (v13).toNat v15), (v14 ++ [[(AV.int (cI v9 v12 0)), (AV.int (cI v9 v12 1)), (AV.int 3)]]), (v12 + 1)) else none else none else none else none else none) else none
def ref17_run_4 (n : Nat) (go0 : ref17_run_s0 → Option ref17_run_a) (v1 : Int) (v6 v7 v9 v10 v11 : Lv) (v12 : Int) : Option ref17_run_a :=
 (bif (!(cB v9 v12 2)) then (ref14_At n v6 (imin (cI v9 v12 0) 10000000)).bind fun y13 =>
 (bif (decide ((v10.length : Int) = 0)) then (bif (decide (v1 = (cI v7 (cI v9 v12 1) 1))) then (bif (decide (y13.1 = 1)) then (bif (decide (y13.2.1 = (cI v7 (cI v9 v12 1) 3))) then bif (decide ((((v10.length : Int) + 1) * 8) ≤ 140737488355328)) then bif (decide ((((v11.length : Int) + 1) * 24) ≤ 140737488355328)) then bif ((decide ((-9223372036854775808) ≤ (v12 + 1))) && (decide ((v12 + 1) ≤ 9223372036854775807))) then go0 ((v10 ++ [[(AV.int (cI v9 v12 1))]]), (v11 ++ [[(AV.int (cI v9 v12 0)), (AV.int (cI v9 v12 1)), (AV.int 1)]]), (v12 + 1)) else none else none else none
 else bif (decide ((((v11.length : Int) + 1) * 24) ≤ 140737488355328)) then bif ((decide ((-9223372036854775808) ≤ (v12 + 1))) && (decide ((v12 + 1) ≤ 9223372036854775807))) then go0 (v10, (v11 ++ [[(AV.int (cI v9 v12 0)), (AV.int (cI v9 v12 1)), (AV.int 2)]]), (v12 + 1)) else none else none)
 else bif (decide ((((v11.length : Int) + 1) * 24) ≤ 140737488355328)) then bif ((decide ((-9223372036854775808) ≤ (v12 + 1))) && (decide ((v12 + 1) ≤ 9223372036854775807))) then go0 (v10, (v11 ++ [[(AV.int (cI v9 v12 0)), (AV.int (cI v9 v12 1)), (AV.int 2)]]), (v12 + 1)) else none else none)
 else bif (decide ((((v11.length : Int) + 1) * 24) ≤ 140737488355328)) then bif ((decide ((-9223372036854775808) ≤ (v12 + 1))) && (decide ((v12 + 1) ≤ 9223372036854775807))) then go0 (v10, (v11 ++ [[(AV.int (cI v9 v12 0)), (AV.int (cI v9 v12 1)), (AV.int 2)]]), (v12 + 1)) else none else none)
 else bif ((decide ((-9223372036854775808) ≤ ((v10.length : Int) - 1))) && (decide (((v10.length : Int) - 1) ≤ 9223372036854775807))) then bif (decide (0 ≤ ((v10.length : Int) - 1))) then bif (decide (((v10.length : Int) - 1) < (v10.length : Int))) then bif (decide (0 ≤ (cI v10 ((v10.length : Int) - 1) 0))) then bif (decide ((cI v10 ((v10.length : Int) - 1) 0) < (v7.length : Int))) then (bif (decide ((cI v7 (cI v10 ((v10.length : Int) - 1) 0) 2) = (cI v7 (cI v9 v12 1) 1))) then (bif (decide (y13.1 = 1)) then (bif (decide (y13.2.1 = (cI v7 (cI v9 v12 1) 3))) then bif (decide ((((v10.length : Int) + 1) * 8) ≤ 140737488355328)) then bif (decide ((((v11.length : Int) + 1) * 24) ≤ 140737488355328)) then bif ((decide ((-9223372036854775808) ≤ (v12 + 1))) && (decide ((v12 + 1) ≤ 9223372036854775807))) then go0 ((v10 ++ [[(AV.int (cI v9 v12 1))]]), (v11 ++ [[(AV.int (cI v9 v12 0)), (AV.int (cI v9 v12 1)), (AV.int 1)]]), (v12 + 1)) else none else none else none
 else bif (decide ((((v11.length : Int) + 1) * 24) ≤ 140737488355328)) then bif ((decide ((-9223372036854775808) ≤ (v12 + 1))) && (decide ((v12 + 1) ≤ 9223372036854775807))) then go0 (v10, (v11 ++ [[(AV.int (cI v9 v12 0)), (AV.int (cI v9 v12 1)), (AV.int 2)]]), (v12 + 1)) else none else none)
 else bif (decide ((((v11.length : Int) + 1) * 24) ≤ 140737488355328)) then bif ((decide ((-9223372036854775808) ≤ (v12 + 1))) && (decide ((v12 + 1) ≤ 9223372036854775807))) then go0 (v10, (v11 ++ [[(AV.int (cI v9 v12 0)), (AV.int (cI v9 v12 1)), (AV.int 2)]]), (v12 + 1)) else none else none)
 else bif (decide ((((v11.length : Int) + 1) * 24) ≤ 140737488355328)) then bif ((decide ((-9223372036854775808) ≤ (v12 + 1))) && (decide ((v12 + 1) ≤ 9223372036854775807))) then go0 (v10, (v11 ++ [[(AV.int (cI v9 v12 0)), (AV.int (cI v9 v12 1)), (AV.int 2)]]), (v12 + 1)) else none else none) else none else none else none else none else none)
 else (ref17_place n v10 (cI v9 v12 1)).bind fun y13 =>
 (bif (decide (y13 < 0)) then bif (decide ((((v11.length : Int) + 1) * 24) ≤ 140737488355328)) then bif ((decide ((-9223372036854775808) ≤ (v12 + 1))) && (decide ((v12 + 1) ≤ 9223372036854775807))) then go0 (v10, (v11 ++ [[(AV.int (cI v9 v12 0)), (AV.int (cI v9 v12 1)), (AV.int 5)]]), (v12 + 1)) else none else none
 else (iterF (fun go1 s => ref17_run_5 n go0 go1 v9 v12 y13 s.1 s.2) n ((v11, v10) : ref17_run_s1))))
def ref17_run_3 (n : Nat) (go0 : ref17_run_s0 → Option ref17_run_a) (v1 : Int) (v6 v7 : Lv) (v8 : Int) (v9 v10 v11 : Lv) (v12 : Int) : Option ref17_run_a :=
 (bif (decide ((cI v9 v12 0) ≤ v8)) then bif (decide (0 ≤ (cI v9 v12 1))) then bif (decide ((cI v9 v12 1) < (v7.length : Int))) then ref17_run_4 n go0 v1 v6 v7 v9 v10 v11 v12 else none else none
 else some (v11, v10))
def ref17_run_2 (n : Nat) (go0 : ref17_run_s0 → Option ref17_run_a) (v1 : Int) (v6 v7 : Lv) (v8 : Int) (v9 v10 v11 : Lv) (v12 : Int) : Option ref17_run_a :=
 (bif (decide (v12 < (v9.length : Int))) then bif (decide (0 ≤ v12)) then ref17_run_3 n go0 v1 v6 v7 v8 v9 v10 v11 v12 else none
 else some (v11, v10))
def ref17_run_1 (n : Nat) (v0 v1 v2 v3 v4 v5 : Int) (v6 v7 : Lv) (v8 : Int) : Option ref17_run_a :=
 (ref17_happenings n v0 v1 v2 v3 v4 v5 v6 v7).bind fun y9 =>
 (iterF (fun go0 s => ref17_run_2 n go0 v1 v6 v7 v8 y9 s.1 s.2.1 s.2.2) n ((([] : Lv), ([] : Lv), 0) : ref17_run_s0))
def ref17_run (n : Nat) (v0 v1 v2 v3 v4 v5 : Int) (v6 v7 : Lv) (v8 : Int) : Option ref17_run_a := ref17_run_1 n v0 v1 v2 v3 v4 v5 v6 v7 v8
def ref17_run_t : FnT := ⟨[(true, [.int, .int, .int, .int, .int, .int, (.sl (.cons .int (.cons .int (.cons .int .nil)))), (.sl (.cons .int (.cons .int (.cons .int (.cons .int (.cons .int (.cons .bool (.cons (.sl (.cons .int (.cons .int (.cons .int .nil)))) .nil))))))))]), (false, [.int])], (.tup (.cons (.row 66 (.cons .int (.cons .int (.cons .int .nil)))) (.cons (.row 3 (.cons .int .nil)) .nil))), fun n (s : Int × Int × Int × Int × Int × Int × Lv × Lv × Int) => ref17_run n s.1 s.2.1 s.2.2.1 s.2.2.2.1 s.2.2.2.2.1 s.2.2.2.2.2.1 s.2.2.2.2.2.2.1 s.2.2.2.2.2.2.2.1 s.2.2.2.2.2.2.2.2⟩
theorem ref17_run_ok : ref17_run_t.ok Tryz.prog 39 := FnT.ok_of (cfg := ⟨[((39, 5, 2), .inv [(.tmprow 7 3 (.cons .int .nil)), (.tmprow 6 66 (.cons .int (.cons .int (.cons .int .nil)))), (.tmp 9 .int)]), ((39, 18, 9), .inv [(.tmprow 6 66 (.cons .int (.cons .int (.cons .int .nil)))), (.tmprow 7 3 (.cons .int .nil))])], consD12, [(39, 20)], mapsD12⟩) (tab := ref17_Settled_T) (mt := mtE) pfit ref17_Settled_T_ok mtE_ok (fun s fn hf => by rw [Tryz.func39] at hf; cases hf; kernel_rfl) (fun n s => by kernel_rfl)
def ref17_run_T : Tab := (39, ref17_run_t) :: ref17_Settled_T
theorem ref17_run_T_ok : ref17_run_T.ok Tryz.prog := Tab.ok_cons ref17_run_ok ref17_Settled_T_ok
abbrev ref17_Turns_a := Lv × Int
def ref17_Turns_1 (n : Nat) (v0 v1 v2 v3 v4 v5 : Int) (v6 v7 : Lv) : Option ref17_Turns_a :=
 (ref17_Valid n v0 v1 v2 v3 v4 v5 v6 v7).bind fun y8 =>
 (bif (!y8) then some (([] : Lv), 170)
 else (ref17_run n v0 v1 v2 v3 v4 v5 v6 v7 20000000).bind fun y9 =>
 some (y9.1, 0))
def ref17_Turns (n : Nat) (v0 v1 v2 v3 v4 v5 : Int) (v6 v7 : Lv) : Option ref17_Turns_a := ref17_Turns_1 n v0 v1 v2 v3 v4 v5 v6 v7
def ref17_Turns_t : FnT := ⟨[(true, [.int, .int, .int, .int, .int, .int, (.sl (.cons .int (.cons .int (.cons .int .nil)))), (.sl (.cons .int (.cons .int (.cons .int (.cons .int (.cons .int (.cons .bool (.cons (.sl (.cons .int (.cons .int (.cons .int .nil)))) .nil))))))))])], (.tup (.cons (.row 66 (.cons .int (.cons .int (.cons .int .nil)))) (.cons .i .nil))), fun n (s : Int × Int × Int × Int × Int × Int × Lv × Lv) => ref17_Turns n s.1 s.2.1 s.2.2.1 s.2.2.2.1 s.2.2.2.2.1 s.2.2.2.2.2.1 s.2.2.2.2.2.2.1 s.2.2.2.2.2.2.2⟩
theorem ref17_Turns_ok : ref17_Turns_t.ok Tryz.prog 10 := FnT.ok_of (cfg := ⟨[], consD12, [], mapsD12⟩) (tab := ref17_run_T) (mt := mtE) pfit ref17_run_T_ok mtE_ok (fun s fn hf => by rw [Tryz.func10] at hf; cases hf; kernel_rfl) (fun n s => by kernel_rfl)
def ref17_Turns_T : Tab := (10, ref17_Turns_t) :: ref17_run_T
theorem ref17_Turns_T_ok : ref17_Turns_T.ok Tryz.prog := Tab.ok_cons ref17_Turns_ok ref17_run_T_ok
abbrev ref17_At_a := Int × Lv × Int
def ref17_At_1 (n : Nat) (v0 v1 v2 v3 v4 v5 : Int) (v6 v7 : Lv) (v8 : Int) : Option ref17_At_a :=
 (ref17_Valid n v0 v1 v2 v3 v4 v5 v6 v7).bind fun y9 =>
 (bif (!y9) then some (0, ([] : Lv), 170)
 else (bif (decide (0 ≤ v8)) then (bif (!(decide (v8 ≤ 20000000))) then some (0, ([] : Lv), 170)
 else (ref17_run n v0 v1 v2 v3 v4 v5 v6 v7 v8).bind fun y10 =>
 (bif (decide ((y10.2.length : Int) = 0)) then some (v1, y10.2, 0)
 else bif ((decide ((-9223372036854775808) ≤ ((y10.2.length : Int) - 1))) && (decide (((y10.2.length : Int) - 1) ≤ 9223372036854775807))) then bif (decide (0 ≤ ((y10.2.length : Int) - 1))) then bif (decide (((y10.2.length : Int) - 1) < (y10.2.length : Int))) then bif (decide (0 ≤ (cI y10.2 ((y10.2.length : Int) - 1) 0))) then bif (decide ((cI y10.2 ((y10.2.length : Int) - 1) 0) < (v7.length : Int))) then some ((cI v7 (cI y10.2 ((y10.2.length : Int) - 1) 0) 2), y10.2, 0) else none else none else none else none else none))
 else some (0, ([] : Lv), 170)))
def ref17_At (n : Nat) (v0 v1 v2 v3 v4 v5 : Int) (v6 v7 : Lv) (v8 : Int) : Option ref17_At_a := ref17_At_1 n v0 v1 v2 v3 v4 v5 v6 v7 v8
def ref17_At_t : FnT := ⟨[(true, [.int, .int, .int, .int, .int, .int, (.sl (.cons .int (.cons .int (.cons .int .nil)))), (.sl (.cons .int (.cons .int (.cons .int (.cons .int (.cons .int (.cons .bool (.cons (.sl (.cons .int (.cons .int (.cons .int .nil)))) .nil))))))))]), (false, [.int])], (.tup (.cons .i (.cons (.row 3 (.cons .int .nil)) (.cons .i .nil)))), fun n (s : Int × Int × Int × Int × Int × Int × Lv × Lv × Int) => ref17_At n s.1 s.2.1 s.2.2.1 s.2.2.2.1 s.2.2.2.2.1 s.2.2.2.2.2.1 s.2.2.2.2.2.2.1 s.2.2.2.2.2.2.2.1 s.2.2.2.2.2.2.2.2⟩
theorem ref17_At_ok : ref17_At_t.ok Tryz.prog 21 := FnT.ok_of (cfg := ⟨[], consD12, [], mapsD12⟩) (tab := ref17_Turns_T) (mt := mtE) pfit ref17_Turns_T_ok mtE_ok (fun s fn hf => by rw [Tryz.func21] at hf; cases hf; kernel_rfl) (fun n s => by kernel_rfl)
def ref17_At_T : Tab := (21, ref17_At_t) :: ref17_Turns_T
theorem ref17_At_T_ok : ref17_At_T.ok Tryz.prog := Tab.ok_cons ref17_At_ok ref17_Turns_T_ok
abbrev ref17_Holders_a := Lv × Int
abbrev ref17_Holders_s0 := Lv × Lv × Int
def ref17_Holders_4 (n : Nat) (go0 : ref17_Holders_s0 → Option ref17_Holders_a) (v0 v1 v2 v3 v4 v5 : Int) (v6 v7 v9 v14 : Lv) (v15 : Int) : Option ref17_Holders_a :=
 (bif (decide (v15 < (v9.length : Int))) then bif (decide (0 ≤ v15)) then (ref17_run n v0 v1 v2 v3 v4 v5 v6 v7 (cI v9 v15 0)).bind fun y16 =>
 bif ((decide ((-9223372036854775808) ≤ ((v14.length : Int) - 1))) && (decide (((v14.length : Int) - 1) ≤ 9223372036854775807))) then (bif (decide ((y16.2.length : Int) = 0)) then bif (decide (0 ≤ ((v14.length : Int) - 1))) then bif (decide (((v14.length : Int) - 1) < (v14.length : Int))) then (bif (!(decide (v1 = (cI v14 ((v14.length : Int) - 1) 0)))) then bif (decide ((((v14.length : Int) + 1) * 24) ≤ 140737488355328)) then bif ((decide ((-9223372036854775808) ≤ (v15 + 1))) && (decide ((v15 + 1) ≤ 9223372036854775807))) then go0 (y16.2, ((List.modify v14 (((v14.length : Int) - 1)).toNat (fun r => r.set 2 (AV.int (cI v9 v15 0)))) ++ [[(AV.int v1), (AV.int (cI v9 v15 0)), (AV.int 20000001)]]), (v15 + 1)) else none else none
 else bif ((decide ((-9223372036854775808) ≤ (v15 + 1))) && (decide ((v15 + 1) ≤ 9223372036854775807))) then go0 (y16.2, v14, (v15 + 1)) else none) else none else none
 else bif ((decide ((-9223372036854775808) ≤ ((y16.2.length : Int) - 1))) && (decide (((y16.2.length : Int) - 1) ≤ 9223372036854775807))) then bif (decide (0 ≤ ((y16.2.length : Int) - 1))) then bif (decide (((y16.2.length : Int) - 1) < (y16.2.length : Int))) then bif (decide (0 ≤ (cI y16.2 ((y16.2.length : Int) - 1) 0))) then bif (decide ((cI y16.2 ((y16.2.length : Int) - 1) 0) < (v7.length : Int))) then bif (decide (0 ≤ ((v14.length : Int) - 1))) then bif (decide (((v14.length : Int) - 1) < (v14.length : Int))) then (bif (!(decide ((cI v7 (cI y16.2 ((y16.2.length : Int) - 1) 0) 2) = (cI v14 ((v14.length : Int) - 1) 0)))) then bif (decide ((((v14.length : Int) + 1) * 24) ≤ 140737488355328)) then bif ((decide ((-9223372036854775808) ≤ (v15 + 1))) && (decide ((v15 + 1) ≤ 9223372036854775807))) then go0 (y16.2, ((List.modify v14 (((v14.length : Int) - 1)).toNat (fun r => r.set 2 (AV.int (cI v9 v15 0)))) ++ [[(AV.int (cI v7 (cI y16.2 ((y16.2.length : Int) - 1) 0) 2)), (AV.int (cI v9 v15 0)), (AV.int 20000001)]]), (v15 + 1)) else none else none
 else bif ((decide ((-9223372036854775808) ≤ (v15 + 1))) && (decide ((v15 + 1) ≤ 9223372036854775807))) then go0 (y16.2, v14, (v15 + 1)) else none) else none else none else none else none else none else none else none) else none else none
 else some (v14, 0))
abbrev ref17_Holders_5 := @ref17_Holders_4
def ref17_Holders_3 (n : Nat) (v0 v1 v2 v3 v4 v5 : Int) (v6 v7 v9 v12 : Lv) : Option ref17_Holders_a :=
 (bif (decide ((v12.length : Int) = 0)) then (iterF (fun go0 s => ref17_Holders_4 n go0 v0 v1 v2 v3 v4 v5 v6 v7 v9 s.2.1 s.2.2) n ((v12, (([] : Lv) ++ [[(AV.int v1), (AV.int 0), (AV.int 20000001)]]), 0) : ref17_Holders_s0))
 else bif ((decide ((-9223372036854775808) ≤ ((v12.length : Int) - 1))) && (decide (((v12.length : Int) - 1) ≤ 9223372036854775807))) then bif (decide (0 ≤ ((v12.length : Int) - 1))) then bif (decide (((v12.length : Int) - 1) < (v12.length : Int))) then bif (decide (0 ≤ (cI v12 ((v12.length : Int) - 1) 0))) then bif (decide ((cI v12 ((v12.length : Int) - 1) 0) < (v7.length : Int))) then (iterF (fun go0 s => ref17_Holders_5 n go0 v0 v1 v2 v3 v4 v5 v6 v7 v9 s.2.1 s.2.2) n ((v12, (([] : Lv) ++ [[(AV.int (cI v7 (cI v12 ((v12.length : Int) - 1) 0) 2)), (AV.int 0), (AV.int 20000001)]]), 0) : ref17_Holders_s0)) else none else none else none else none else none)
def ref17_Holders_2 (n : Nat) (v0 v1 v2 v3 v4 v5 : Int) (v6 v7 : Lv) (v8 : Bool) : Option ref17_Holders_a :=
 (bif (!v8) then some (([] : Lv), 170)
 else (ref17_run n v0 v1 v2 v3 v4 v5 v6 v7 20000000).bind fun y9 =>
 (ref17_run n v0 v1 v2 v3 v4 v5 v6 v7 0).bind fun y11 =>
 ref17_Holders_3 n v0 v1 v2 v3 v4 v5 v6 v7 y9.1 y11.2)
def ref17_Holders_1 (n : Nat) (v0 v1 v2 v3 v4 v5 : Int) (v6 v7 : Lv) : Option ref17_Holders_a :=
 (ref17_Valid n v0 v1 v2 v3 v4 v5 v6 v7).bind fun y8 =>
 ref17_Holders_2 n v0 v1 v2 v3 v4 v5 v6 v7 y8
def ref17_Holders (n : Nat) (v0 v1 v2 v3 v4 v5 : Int) (v6 v7 : Lv) : Option ref17_Holders_a := ref17_Holders_1 n v0 v1 v2 v3 v4 v5 v6 v7
def ref17_Holders_t : FnT := ⟨[(true, [.int, .int, .int, .int, .int, .int, (.sl (.cons .int (.cons .int (.cons .int .nil)))), (.sl (.cons .int (.cons .int (.cons .int (.cons .int (.cons .int (.cons .bool (.cons (.sl (.cons .int (.cons .int (.cons .int .nil)))) .nil))))))))])], (.tup (.cons (.row 77 (.cons .int (.cons .int (.cons .int .nil)))) (.cons .i .nil))), fun n (s : Int × Int × Int × Int × Int × Int × Lv × Lv) => ref17_Holders n s.1 s.2.1 s.2.2.1 s.2.2.2.1 s.2.2.2.2.1 s.2.2.2.2.2.1 s.2.2.2.2.2.2.1 s.2.2.2.2.2.2.2⟩
theorem ref17_Holders_ok : ref17_Holders_t.ok Tryz.prog 12 := FnT.ok_of (cfg := ⟨[((12, 7, 7), .inv [(.tmprow 7 3 (.cons .int .nil)), (.tmprow 8 77 (.cons .int (.cons .int (.cons .int .nil)))), (.tmp 9 .int)])], consD12, [], mapsD12⟩) (tab := ref17_At_T) (mt := mtE) pfit ref17_At_T_ok mtE_ok (fun s fn hf => by rw [Tryz.func12] at hf; cases hf; kernel_rfl) (fun n s => by kernel_rfl)
def ref17_Holders_T : Tab := (12, ref17_Holders_t) :: ref17_At_T
theorem ref17_Holders_T_ok : ref17_Holders_T.ok Tryz.prog := Tab.ok_cons ref17_Holders_ok ref17_At_T_ok
end
end Go.Proofs.YtjllgiddmeiaoaaGreat
namespace Go.Dial.Chn
open Go.Dial.Clm Go.Dial.Lif
def lastG (l : List Mo) (G : List Int) : List Int := (l.getLast?.map (·.G)).getD G
theorem lastG_app (A B : List Mo) (G : List Int) : lastG (A ++ B) G = lastG B (lastG A G) := by
 unfold lastG
 rw [List.getLast?_append]
 cases B.getLast? <;> rfl
theorem lastG_cons (m : Mo) (B : List Mo) (G : List Int) : lastG (m :: B) G = lastG B m.G := lastG_app [m] B G
theorem lastG_pops (a p : Int) : ∀ (G G0 : List Int), p ∈ G → lastG (pops a p G) G0 = popd p G
 | [], _, h => by cases h
 | x :: G, G0, h => by
  rw [pops, popd, if_pos h, if_pos h, lastG_cons]
  show lastG (pops a p G) G = _
  by_cases hp : p ∈ G
  ·exact lastG_pops a p G G hp
  ·have : pops a p G = [] := by
    cases G with
    | nil => rfl
    | cons y G => rw [pops, if_neg hp]
   rw [this, popd_no hp]; rfl
theorem lastG_momsH (c : Ch) (G : List Int) (h : Hp) (G0 : List Int) : lastG (momsH c G h) G0 = aftH c G h := by
 unfold momsH aftH
 split
 ·split
  ·exact lastG_pops _ _ _ _ ‹_›
  ·rw [popd_no ‹_›]; rfl
 ·split <;> rfl
theorem lastG_moms (c : Ch) : ∀ (l : List Hp) (G : List Int), lastG (moms c G l) G = force c G l
 | [], G => rfl
 | h :: l, G => by
  show lastG (momsH c G h ++ moms c (aftH c G h) l) G = force c (aftH c G h) l
  rw [lastG_app, lastG_momsH, lastG_moms c l]
theorem momsH_ne (c : Ch) (G : List Int) (h : Hp) : momsH c G h ≠ [] := by
 unfold momsH
 split
 ·split
  ·rename_i hp
   cases G with
   | nil => cases hp
   | cons x G => rw [pops, if_pos hp]; simp
  ·simp
 ·split <;> simp
theorem takeWhile_all {α : Type} {q : α → Bool} {A B : List α} (h : ∀ x ∈ A, q x = true) : (A ++ B).takeWhile q = A ++ B.takeWhile q := by
 induction A with
 | nil => rfl
 | cons x A ih => rw [List.cons_append, List.takeWhile_cons_of_pos (h x (List.mem_cons_self ..)), ih fun y hy => h y (List.mem_cons_of_mem _ hy)]; rfl
theorem takeWhile_none {α : Type} {q : α → Bool} {A B : List α} (hA : A ≠ []) (h : ∀ x ∈ A, q x = false) : (A ++ B).takeWhile q = [] := by
 cases A with
 | nil => exact absurd rfl hA
 | cons x A => rw [List.cons_append, List.takeWhile_cons_of_neg (by rw [h x (List.mem_cons_self ..)]; decide)]
theorem takeWhile_moms (c : Ch) (t : Int) : ∀ (l : List Hp) (G : List Int), (moms c G l).takeWhile (fun m => decide (m.a ≤ t)) = moms c G (l.takeWhile fun h => decide (h.a ≤ t))
 | [], G => rfl
 | h :: l, G => by
  show (momsH c G h ++ moms c (aftH c G h) l).takeWhile _ = _
  by_cases ht : h.a ≤ t
  ·rw [takeWhile_all (fun m hm => by rw [momsH_at m hm]; exact decide_eq_true ht), takeWhile_moms c t l, List.takeWhile_cons_of_pos (by simpa using ht)]
   rfl
  ·rw [takeWhile_none (momsH_ne c G h) (fun m hm => by rw [momsH_at m hm]; exact decide_eq_false ht), List.takeWhile_cons_of_neg (by simpa using ht)]
   rfl
theorem forceAt_last (c : Ch) (t : Int) : forceAt c t = lastG ((turnsV c).takeWhile fun m => decide (m.a ≤ t)) [] := by
 unfold forceAt turnsV
 rw [takeWhile_moms, lastG_moms]
theorem moms_sorted (c : Ch) : ∀ (l : List Hp) (G : List Int), SortedH l → (moms c G l).Pairwise fun x y => x.a ≤ y.a
 | [], _, _ => List.Pairwise.nil
 | h :: l, G, hs => by
  refine List.pairwise_append.2 ⟨List.pairwise_of_forall_mem_list fun x hx y hy => by rw [momsH_at x hx, momsH_at y hy]; omega, moms_sorted c l _ hs.2, fun x hx y hy => ?_⟩
  obtain ⟨z, h1, h2⟩ := moms_at y hy
  have := hs.1 z h1
  rw [momsH_at x hx, h2]
  unfold ltH at this
  omega
theorem turns_sorted (c : Ch) : (turnsV c).Pairwise fun x y => x.a ≤ y.a := moms_sorted c _ _ (sorted_hps c)
def whoL (c : Ch) (l : List Mo) (t : Int) : Int := withV c (lastG (l.takeWhile fun m => decide (m.a ≤ t)) [])
theorem whoL_ge {c : Ch} {l : List Mo} {m : Mo} {t : Int} (h : ∀ x ∈ l, x.a ≤ m.a) (ht : m.a ≤ t) : whoL c (l ++ [m]) t = withV c m.G := by
 unfold whoL
 rw [takeWhile_all (fun x hx => by have := h x hx; exact decide_eq_true (by omega)), List.takeWhile_cons_of_pos (by simpa using ht), lastG_app, List.takeWhile_nil]
 rfl
theorem whoL_lt {c : Ch} {l : List Mo} {m : Mo} {t : Int} (ht : t < m.a) : whoL c (l ++ [m]) t = whoL c l t := by
 unfold whoL
 congr 2
 induction l with
 | nil => rw [List.nil_append, List.takeWhile_cons_of_neg (by simpa using ht)]; rfl
 | cons x l ih =>
  rw [List.cons_append]
  by_cases hx : x.a ≤ t
  ·rw [List.takeWhile_cons_of_pos (by simpa using hx), List.takeWhile_cons_of_pos (by simpa using hx), ih]
  ·rw [List.takeWhile_cons_of_neg (by simpa using hx), List.takeWhile_cons_of_neg (by simpa using hx)]
theorem who_whoL (c : Ch) (t : Int) : withV c (forceAt c t) = whoL c (turnsV c) t := by rw [forceAt_last]; rfl
structure HInv (c : Ch) (l : List Mo) (o : List Hd) : Prop where
 ne : o ≠ []
 adj : ∀ i (x y : Hd), o[i]? = some x → o[i + 1]? = some y → y.t = x.f ∧ y.f < y.t ∧ y.c ≠ x.c
 bot : ∀ x : Hd, o.getLast? = some x → x.f = 0
 sem : ∀ i (z : Hd), o[i + 1]? = some z → ∀ t, z.f ≤ t → t < z.t → whoL c l t = z.c
 top : ∀ x : Hd, o.head? = some x → (∀ t, x.f ≤ t → whoL c l t = x.c) ∧ 0 ≤ x.f ∧ ∀ b, (∀ m ∈ l, m.a ≤ b) → 0 ≤ b → x.f ≤ b
structure HInv' (c : Ch) (a : Int) (l : List Mo) (o : List Hd) : Prop where
 adj : ∀ i (x y : Hd), o[i]? = some x → o[i + 1]? = some y → y.t = x.f ∧ y.f < y.t ∧ y.c ≠ x.c
 bot : ∀ x : Hd, o.getLast? = some x → x.f = 0
 sem : ∀ (i : Nat) (z : Hd), o[i]? = some z → ∀ t, z.f ≤ t → t < z.t → whoL c l t = z.c
 top : ∀ x : Hd, o.head? = some x → x.t = a ∧ x.f < a ∧ 0 ≤ x.f
 nil : o = [] → a = 0
theorem holdO_inv {c : Ch} {l : List Mo} {o : List Hd} {a : Int} (h : HInv c l o) (hl : ∀ m ∈ l, m.a ≤ a) (ha : 0 ≤ a) : HInv' c a l (holdO o a) := by
 obtain ⟨ne, adj, bot, sem, top⟩ := h
 cases o with
 | nil => exact absurd rfl ne
 | cons x r =>
  obtain ⟨t1, t2, t3⟩ := top x rfl
  have t3 := t3 a hl ha
  unfold holdO
  simp only
  by_cases hx : x.f = a
  ·rw [if_pos hx]
   refine ⟨fun i x y h1 h2 => adj (i + 1) x y h1 h2, fun y hy => bot y (by rw [List.getLast?_cons, hy]; rfl), fun i z hz => sem i z hz, fun y hy => ?_, fun hr => ?_⟩
   ·cases r with
    | nil => cases hy
    | cons z r =>
     cases hy
     obtain ⟨a1, a2, _⟩ := adj 0 x y rfl rfl
     refine ⟨by omega, by omega, ?_⟩
     have : ∀ (r : List Hd) (y : Hd), (∀ i (x z : Hd), (y :: r)[i]? = some x → (y :: r)[i + 1]? = some z → z.t = x.f ∧ z.f < z.t ∧ z.c ≠ x.c) → (∀ x : Hd, (y :: r).getLast? = some x → x.f = 0) → 0 ≤ y.f := by
      intro r
      induction r with
      | nil => intro y _ hb; have := hb y rfl; omega
      | cons w r ih =>
       intro y had hb
       obtain ⟨q1, q2, _⟩ := had 0 y w rfl rfl
       have := ih w (fun i x z h1 h2 => had (i + 1) x z h1 h2) (fun x hx => hb x (by rw [List.getLast?_cons_cons]; exact hx))
       omega
     exact this r y (fun i x z h1 h2 => adj (i + 1) x z h1 h2) (fun z hz => bot z (by rw [List.getLast?_cons_cons]; exact hz))
   ·subst hr
    have := bot x rfl
    omega
  ·rw [if_neg hx]
   refine ⟨fun i y z h1 h2 => ?_, fun y hy => ?_, fun i z hz t h1 h2 => ?_, fun y hy => ?_, fun h => by cases h⟩
   ·cases i with
    | zero =>
     cases h1
     exact adj 0 x z rfl h2
    | succ i => exact adj (i + 1) y z h1 h2
   ·cases r with
    | nil => cases hy; exact bot x rfl
    | cons w r => rw [List.getLast?_cons_cons] at hy; exact bot y (by rw [List.getLast?_cons_cons]; exact hy)
   ·cases i with
    | zero => cases hz; exact t1 t h1
    | succ i => exact sem i z hz t h1 h2
   ·cases hy
    exact ⟨rfl, by simp only; omega, t2⟩
theorem holdS_inv {c : Ch} {l : List Mo} {o : List Hd} {m : Mo} (h : HInv c l o) (hl : ∀ x ∈ l, x.a ≤ m.a) (ha : 0 ≤ m.a) : HInv c (l ++ [m]) (holdS c o m) := by
 have h' := holdO_inv h hl ha
 unfold holdS holdW
 obtain ⟨w, hw⟩ : ∃ w, w = withV c m.G := ⟨_, rfl⟩
 have hge : ∀ t, m.a ≤ t → whoL c (l ++ [m]) t = w := fun t ht => by rw [hw]; exact whoL_ge hl ht
 rw [← hw]
 have hb : ∀ b, (∀ x ∈ l ++ [m], x.a ≤ b) → m.a ≤ b := fun b hb => hb m (by simp)
 cases hq : holdO o m.a with
 | nil =>
  rw [hq] at h'
  have := h'.nil rfl
  exact ⟨by simp, fun i x y h1 h2 => by cases i <;> simp at h2, fun x hx => by cases hx; exact this, fun i z hz => by simp at hz, fun x hx => by cases hx; exact ⟨fun t ht => hge t ht, ha, fun b hbb _ => hb b hbb⟩⟩
 | cons y r =>
  rw [hq] at h'
  obtain ⟨adj, bot, sem, top, _⟩ := h'
  obtain ⟨t1, t2, t3⟩ := top y rfl
  simp only
  by_cases hyw : y.c = w
  ·rw [if_pos hyw]
   refine ⟨by simp, adj, bot, fun i z hz t h1 h2 => ?_, fun x hx => ?_⟩
   ·have hlt : t < m.a := by
     have : ∀ (i : Nat) (z : Hd), (y :: r)[i + 1]? = some z → z.t ≤ y.f := by
      intro i
      induction i with
      | zero => intro z hz; have := adj 0 y z rfl hz; omega
      | succ i ih =>
       intro z hz
       obtain ⟨x, hx⟩ : ∃ x, (y :: r)[i + 1]? = some x := ⟨_, List.getElem?_eq_getElem (by have := (List.getElem?_eq_some_iff.1 hz).1; omega)⟩
       have q1 := ih x hx
       have q2 := adj (i + 1) x z hx hz
       have q3 := (adj i _ x (List.getElem?_eq_getElem (by have := (List.getElem?_eq_some_iff.1 hz).1; omega)) hx)
       omega
     have := this i z hz
     omega
    rw [whoL_lt hlt]
    exact sem (i + 1) z hz t h1 h2
   ·cases hx
    refine ⟨fun t ht => ?_, t3, fun b hbb _ => by have := hb b hbb; omega⟩
    rcases Int.lt_or_le t m.a with h1 | h1
    ·rw [whoL_lt h1]; exact sem 0 y rfl t ht (by omega)
    ·rw [hge t h1, hyw]
  ·rw [if_neg hyw]
   refine ⟨by simp, fun i x z h1 h2 => ?_, fun x hx => bot x (by rw [List.getLast?_cons_cons] at hx; exact hx), fun i z hz t h1 h2 => ?_, fun x hx => ?_⟩
   ·cases i with
    | zero =>
     cases h1; cases h2
     exact ⟨t1, by omega, hyw⟩
    | succ i => exact adj i x z h1 h2
   ·have hz : (y :: r)[i]? = some z := hz
    have hlt : t < m.a := by
     cases i with
     | zero => cases hz; omega
     | succ i =>
      have : ∀ (i : Nat) (z : Hd), (y :: r)[i + 1]? = some z → z.t ≤ y.f := by
       intro i
       induction i with
       | zero => intro z hz; have := adj 0 y z rfl hz; omega
       | succ i ih =>
        intro z hz
        obtain ⟨x, hx⟩ : ∃ x, (y :: r)[i + 1]? = some x := ⟨_, List.getElem?_eq_getElem (by have := (List.getElem?_eq_some_iff.1 hz).1; omega)⟩
        have q1 := ih x hx
        have q2 := adj (i + 1) x z hx hz
        have q3 := (adj i _ x (List.getElem?_eq_getElem (by have := (List.getElem?_eq_some_iff.1 hz).1; omega)) hx)
        omega
      have := this i z hz
      omega
    rw [whoL_lt hlt]
    exact sem i z hz t h1 h2
   ·cases hx
    exact ⟨fun t ht => hge t ht, ha, fun b hbb _ => hb b hbb⟩
theorem holdF_inv {c : Ch} : ∀ (l A : List Mo) (o : List Hd), HInv c A o → (∀ m ∈ A ++ l, 0 ≤ m.a) → (A ++ l).Pairwise (fun x y => x.a ≤ y.a) → HInv c (A ++ l) (holdF c o l)
 | [], A, o, h, _, _ => by rw [List.append_nil]; exact h
 | m :: l, A, o, h, h0, hp => by
  have hm : ∀ x ∈ A, x.a ≤ m.a := fun x hx => (List.pairwise_append.1 hp).2.2 x hx m (List.mem_cons_self ..)
  have := holdF_inv l (A ++ [m]) (holdS c o m) (holdS_inv h hm (h0 m (by simp))) (fun x hx => h0 x (by simpa using hx)) (by simpa using hp)
  rw [List.append_assoc] at this
  exact this
theorem hps_a {c : Ch} (hV : ChV c) {h : Hp} (hh : h ∈ hps c) : ∃ (k : Nat) (p : Pt) (x : Cs), c.ps[k]? = some p ∧ h.p = (k : Int) ∧ x ∈ timeline c.r p.c p.es ∧ h.a = x.f ∧ p.c.a ≤ h.a := by
 obtain ⟨k, p, h1, h2, x, h3, h4⟩ := hps_port hh
 have : h.a = x.f := by
  unfold hpOf at h4
  split at h4
  ·cases h4; rfl
  ·cases h4
 refine ⟨k, p, x, h1, h2, h3, this, ?_⟩
 rw [this]
 have hc := ch_clm hV h1
 unfold timeline at h3
 rcases List.mem_cons.1 h3 with rfl | h3
 ·exact Int.le_refl _
 ·refine tl_ge hc.1 (m := p.c.a) (fun ha => ?_) (fun e he => (evV_ge hc.2.2.2 e he).1) x h3
  have := (st_n hc.1 (s := 1) (f := p.c.a) (by decide)).1
  exact Int.le_of_lt this
theorem ends_bd {r : Rl} {c : Cl} {es : List Ce} (h : ClmV r c es) : endsV r c ≤ 14000000 := by
 obtain ⟨h1, h2, _⟩ := h
 unfold RlV at h1; unfold ClV at h2; unfold endsV
 omega
theorem hps_bd2 {c : Ch} (h : ChV c) {x : Hp} (hx : x ∈ hps c) : 0 ≤ x.a ∧ x.a ≤ 14000000 := by
 obtain ⟨k, p, y, h1, _, h3, h4, h5⟩ := hps_a h hx
 have hc := ch_clm h h1
 have := timeline_ends hc y h3
 have := ends_bd hc
 have := hc.2.1
 unfold ClV at this
 omega
theorem turns_bd2 {c : Ch} (h : ChV c) : ∀ m ∈ turnsV c, 0 ≤ m.a ∧ m.a ≤ 14000000 := fun m hm => by
 obtain ⟨x, h1, h2⟩ := moms_at m hm
 rw [h2]; exact hps_bd2 h h1
theorem spells_of {c : Ch} (h : ChV c) : holdV c ≠ [] ∧ (∀ x, (holdV c)[0]? = some x → x.f = 0) ∧ (∀ x, (holdV c)[(holdV c).length - 1]? = some x → x.t = 20000001) ∧
  ∀ (i : Nat) p, (holdV c)[i]? = some p → p.f < p.t ∧ (∀ q, 0 < i → (holdV c)[i - 1]? = some q → p.f = q.t ∧ p.c ≠ q.c) ∧ (∀ t, p.f ≤ t → t < p.t → p.c = withV c (forceAt c t)) := by
 have h0 : HInv c [] [⟨c.f, 0, 0⟩] := ⟨by simp, fun i x y h1 h2 => by cases i <;> simp at h2, fun x hx => by cases hx; rfl, fun i z hz => by simp at hz, fun x hx => by cases hx; exact ⟨fun t _ => rfl, Int.le_refl 0, fun b _ hb => hb⟩⟩
 have hI := holdF_inv (turnsV c) [] _ h0 (fun m hm => (turns_bd2 h m hm).1) (turns_sorted c)
 rw [List.nil_append] at hI
 obtain ⟨ne, adj, bot, sem, top⟩ := hI
 obtain ⟨o, ho⟩ : ∃ o, o = holdF c [⟨c.f, 0, 0⟩] (turnsV c) := ⟨_, rfl⟩
 have hH : holdV c = (closeH o).reverse := by rw [ho]; rfl
 rw [← ho] at ne adj bot sem top
 rw [hH]
 cases o with
 | nil => exact absurd rfl ne
 | cons x r =>
  obtain ⟨t1, t2, t3⟩ := top x rfl
  have t3 := t3 14000000 (fun m hm => (turns_bd2 h m hm).2) (by decide)
  have hC : closeH (x :: r) = ⟨x.c, x.f, 20000001⟩ :: r := rfl
  rw [hC]
  have hlen : ((⟨x.c, x.f, 20000001⟩ : Hd) :: r).reverse.length = r.length + 1 := by simp
  have get : ∀ i, i < r.length + 1 → ((⟨x.c, x.f, 20000001⟩ : Hd) :: r).reverse[i]? = ((⟨x.c, x.f, 20000001⟩ : Hd) :: r)[r.length - i]? := fun i hi => by
   rw [List.getElem?_reverse (by simpa using hi)]
   congr 1
  refine ⟨by simp, fun y hy => ?_, fun y hy => ?_, fun i p hp => ?_⟩
  ·rw [get 0 (by omega)] at hy
   cases r with
   | nil => cases hy; exact bot x rfl
   | cons z r =>
    refine bot y ?_
    rw [List.getLast?_cons_cons, List.getLast?_eq_getElem?]
    simpa using hy
  ·rw [hlen, get _ (by omega)] at hy
   simp at hy
   rw [← hy]
  ·have hi : i < r.length + 1 := by have := (List.getElem?_eq_some_iff.1 hp).1; simpa using this
   rw [get i hi] at hp
   have first : ∀ t, x.f ≤ t → x.c = withV c (forceAt c t) := fun t ht => by rw [who_whoL, t1 t ht]
   refine ⟨?_, fun q h1 hq => ?_, fun t h1 h2 => ?_⟩
   ·cases hk : r.length - i with
    | zero => rw [hk] at hp; cases hp; simp only; omega
    | succ k =>
     rw [hk] at hp
     have hp : (x :: r)[k + 1]? = some p := hp
     obtain ⟨y, hy⟩ : ∃ y, (x :: r)[k]? = some y := ⟨_, List.getElem?_eq_getElem (by have := (List.getElem?_eq_some_iff.1 hp).1; omega)⟩
     exact (adj k y p hy hp).2.1
   ·rw [get (i - 1) (by omega)] at hq
    have hk : r.length - (i - 1) = (r.length - i) + 1 := by omega
    rw [hk] at hq
    have hq : (x :: r)[(r.length - i) + 1]? = some q := hq
    cases hkk : r.length - i with
    | zero =>
     rw [hkk] at hp hq
     cases hp
     have := adj 0 x q rfl hq
     exact ⟨by simp only; omega, fun e => this.2.2 e.symm⟩
    | succ k =>
     rw [hkk] at hp hq
     have hp : (x :: r)[k + 1]? = some p := hp
     have := adj (k + 1) p q hp hq
     exact ⟨by omega, fun e => this.2.2 e.symm⟩
   ·cases hk : r.length - i with
    | zero => rw [hk] at hp; cases hp; exact first t h1
    | succ k =>
     rw [hk] at hp
     have hp : (x :: r)[k + 1]? = some p := hp
     rw [who_whoL, sem k p hp t h1 h2]
def Fits (F : Int → Int) (L : List Hd) : Prop := L ≠ [] ∧ (∀ x, L[0]? = some x → x.f = 0) ∧ (∀ x, L[L.length - 1]? = some x → x.t = 20000001) ∧
 ∀ (i : Nat) p, L[i]? = some p → p.f < p.t ∧ (∀ q, 0 < i → L[i - 1]? = some q → p.f = q.t ∧ p.c ≠ q.c) ∧ (∀ t, p.f ≤ t → t < p.t → p.c = F t)
theorem fits_end {F : Int → Int} {L : List Hd} (h : Fits F L) : ∀ (k i : Nat) p, L.length - i ≤ k → L[i]? = some p → p.t ≤ 20000001 := by
 intro k
 induction k with
 | zero =>
  intro i p hk hp
  have := (List.getElem?_eq_some_iff.1 hp).1
  omega
 | succ k ih =>
  intro i p hk hp
  have hi := (List.getElem?_eq_some_iff.1 hp).1
  by_cases hl : i + 1 < L.length
  ·have hq := List.getElem?_eq_getElem hl
   have h1 := ih (i + 1) _ (by omega) hq
   obtain ⟨h2, h3, _⟩ := h.2.2.2 (i + 1) _ hq
   have h4 := (h3 p (by omega) (by simpa using hp)).1
   omega
  ·have : i = L.length - 1 := by omega
   subst this
   rw [h.2.2.1 p hp]
   exact Int.le_refl _
theorem fits_t {F : Int → Int} {L M : List Hd} (h1 : Fits F L) (h2 : Fits F M) {i : Nat} {p q : Hd} (hp : L[i]? = some p) (hq : M[i]? = some q) (hf : p.f = q.f) (hc : p.c = q.c) : ¬ p.t < q.t := by
 intro hlt
 have hqe := fits_end h2 _ i q (Nat.le_refl _) hq
 have hi := (List.getElem?_eq_some_iff.1 hp).1
 have hl : i + 1 < L.length := by
  rcases Nat.lt_or_ge (i + 1) L.length with h | h
  ·exact h
  ·have : i = L.length - 1 := by omega
   subst this
   have := h1.2.2.1 p hp
   omega
 have hr := List.getElem?_eq_getElem hl
 obtain ⟨a1, a2, a3⟩ := h1.2.2.2 (i + 1) _ hr
 obtain ⟨b1, b2⟩ := a2 p (by omega) (by simpa using hp)
 have c1 := a3 _ (Int.le_refl _) a1
 obtain ⟨d1, _, d3⟩ := h2.2.2.2 i q hq
 have p1 := (h1.2.2.2 i p hp).1
 have c2 := d3 (L[i + 1].f) (by omega) (by omega)
 exact b2 (by rw [c1, hc, c2])
theorem fits_step {F : Int → Int} {i : Nat} {L M : List Hd} (h1 : Fits F L) (h2 : Fits F M) (hf : ∀ p q, L[i]? = some p → M[i]? = some q → p.f = q.f) : ∀ p q, L[i]? = some p → M[i]? = some q → p = q := by
 intro p q hp hq
 have hf := hf p q hp hq
 obtain ⟨p1, _, p3⟩ := h1.2.2.2 i p hp
 obtain ⟨q1, _, q3⟩ := h2.2.2.2 i q hq
 have hc : p.c = q.c := by rw [p3 _ (Int.le_refl _) p1, q3 _ (Int.le_refl _) q1, hf]
 have t1 := fits_t h1 h2 hp hq hf hc
 have t2 := fits_t h2 h1 hq hp hf.symm hc.symm
 obtain ⟨a, b, d⟩ := p
 obtain ⟨a', b', d'⟩ := q
 simp only at hf hc t1 t2
 have : d = d' := by omega
 rw [hf, hc, this]
theorem fits_next {F : Int → Int} {i : Nat} {L M : List Hd} (h1 : Fits F L) (h2 : Fits F M) (hi : ∀ p, L[i]? = some p → M[i]? = some p) : ∀ p, L[i + 1]? = some p → M[i + 1]? = some p := by
 intro p hp
 have hl := (List.getElem?_eq_some_iff.1 hp).1
 obtain ⟨p0, hp0⟩ : ∃ p0, L[i]? = some p0 := ⟨_, List.getElem?_eq_getElem (show i < L.length by omega)⟩
 have hq0 := hi _ hp0
 obtain ⟨p1, p2, _⟩ := h1.2.2.2 (i + 1) p hp
 have hpf := (p2 p0 (by omega) (by simpa using hp0)).1
 have hpe := fits_end h1 _ (i + 1) p (Nat.le_refl _) hp
 have hm := (List.getElem?_eq_some_iff.1 hq0).1
 have hl2 : i + 1 < M.length := by
  rcases Nat.lt_or_ge (i + 1) M.length with h | h
  ·exact h
  ·have e : i = M.length - 1 := by omega
   have hx : M[M.length - 1]? = some p0 := by rw [← e]; exact hq0
   have := h2.2.2.1 p0 hx
   omega
 obtain ⟨q, hq⟩ : ∃ q, M[i + 1]? = some q := ⟨_, List.getElem?_eq_getElem hl2⟩
 have := fits_step h1 h2 (fun p' q' hp' hq' => by
  rw [hp] at hp'; cases hp'
  obtain ⟨_, q2, _⟩ := h2.2.2.2 (i + 1) q' hq'
  rw [hpf, (q2 p0 (by omega) (by simpa using hq0)).1]) p q hp hq
 rw [this]; exact hq
theorem fits_uniq {F : Int → Int} {L M : List Hd} (h1 : Fits F L) (h2 : Fits F M) : L = M := by
 have ex : ∀ {L : List Hd}, Fits F L → ∃ x, L[0]? = some x := fun {L} h => by
  cases L with
  | nil => exact absurd rfl h.1
  | cons x l => exact ⟨x, rfl⟩
 have zero : ∀ {L M : List Hd}, Fits F L → Fits F M → ∀ p, L[0]? = some p → M[0]? = some p := fun h1 h2 p hp => by
  obtain ⟨q, hq⟩ := ex h2
  rw [fits_step h1 h2 (fun p q hp hq => by rw [h1.2.1 p hp, h2.2.1 q hq]) p q hp hq]; exact hq
 have key : ∀ (i : Nat), (∀ p, L[i]? = some p → M[i]? = some p) ∧ (∀ q, M[i]? = some q → L[i]? = some q) := by
  intro i
  induction i with
  | zero => exact ⟨zero h1 h2, zero h2 h1⟩
  | succ i ih => exact ⟨fits_next h1 h2 ih.1, fits_next h2 h1 ih.2⟩
 refine List.ext_getElem? fun i => ?_
 obtain ⟨k1, k2⟩ := key i
 cases hp : L[i]? with
 | some p => rw [k1 p hp]
 | none =>
  cases hq : M[i]? with
  | none => rfl
  | some q => rw [k2 q hq] at hp; cases hp
theorem hold_fits {c : Ch} (h : ChV c) : Fits (fun t => withV c (forceAt c t)) (holdV c) := spells_of h
def rhS (F : Int → Int) (o : List Hd) (a : Int) : List Hd :=
 match o with
 | [] => []
 | y :: r => if F a = y.c then y :: r else ⟨F a, a, 20000001⟩ :: ⟨y.c, y.f, a⟩ :: r
structure RInv (F : Int → Int) (s : Int) (y : Hd) (r : List Hd) : Prop where
 f : y.f ≤ s
 t : y.t = 20000001
 cov : ∀ u, y.f ≤ u → u ≤ s → y.c = F u
 bot : ∀ x : Hd, (y :: r).getLast? = some x → x.f = 0
 adj : ∀ (i : Nat) (x z : Hd), (y :: r)[i]? = some x → r[i]? = some z → z.t = x.f ∧ z.f < z.t ∧ z.c ≠ x.c ∧ ∀ u, z.f ≤ u → u < z.t → z.c = F u
theorem rhS_inv {F : Int → Int} {s a : Int} {y : Hd} {r : List Hd} (h : RInv F s y r) (hs : s ≤ a) (hF : ∀ u, s ≤ u → u < a → F u = F s) : ∃ y' r', rhS F (y :: r) a = y' :: r' ∧ RInv F a y' r' := by
 have cov : ∀ u, y.f ≤ u → u < a → y.c = F u := fun u h1 h2 => by
  rcases Int.lt_or_le s u with h3 | h3
  ·rw [hF u (by omega) h2]; exact h.cov s h.f (Int.le_refl _)
  ·exact h.cov u h1 h3
 have hf := h.f
 unfold rhS
 by_cases hc : F a = y.c
 ·refine ⟨y, r, if_pos hc, by omega, h.t, fun u h1 h2 => ?_, h.bot, h.adj⟩
  rcases Int.lt_or_le u a with h3 | h3
  ·exact cov u h1 h3
  ·have : u = a := by omega
   rw [this, hc]
 ·refine ⟨⟨F a, a, 20000001⟩, ⟨y.c, y.f, a⟩ :: r, if_neg hc, Int.le_refl _, rfl, fun u h1 h2 => ?_, fun x hx => ?_, fun i x z hx hz => ?_⟩
  ·have : u = a := by simp only at h1; omega
   rw [this]
  ·rw [List.getLast?_cons_cons] at hx
   cases r with
   | nil => simp at hx; subst hx; exact h.bot y rfl
   | cons z r => rw [List.getLast?_cons_cons] at hx; exact h.bot x (by rw [List.getLast?_cons_cons]; exact hx)
  ·cases i with
   | zero =>
    simp at hx hz
    subst hx; subst hz
    refine ⟨rfl, ?_, fun e => hc e.symm, cov⟩
    rcases Int.lt_or_le y.f a with h1 | h1
    ·exact h1
    ·exfalso
     have : a = s := by omega
     exact hc (by rw [this]; exact (h.cov s h.f (Int.le_refl _)).symm)
   | succ i =>
    have hz : r[i]? = some z := hz
    cases i with
    | zero =>
     simp at hx
     subst hx
     have := h.adj 0 y z rfl hz
     exact this
    | succ i =>
     have hx : r[i]? = some x := hx
     exact h.adj (i + 1) x z hx hz
theorem rInv_fits {F : Int → Int} {s : Int} {y : Hd} {r : List Hd} (h : RInv F s y r) (hs : s ≤ 20000000) (hF : ∀ u, s ≤ u → F u = F s) : Fits F (y :: r).reverse := by
 have get : ∀ i, i < r.length + 1 → (y :: r).reverse[i]? = (y :: r)[r.length - i]? := fun i hi => by
  rw [List.getElem?_reverse (by simpa using hi)]
  congr 1
 have hf := h.f
 have ht := h.t
 refine ⟨by simp, fun x hx => ?_, fun x hx => ?_, fun i p hp => ?_⟩
 ·rw [get 0 (by omega)] at hx
  refine h.bot x ?_
  rw [List.getLast?_eq_getElem?]
  simpa using hx
 ·rw [show (y :: r).reverse.length - 1 = r.length by simp, get _ (by omega)] at hx
  simp at hx
  rw [← hx]; exact ht
 ·have hi : i < r.length + 1 := by have := (List.getElem?_eq_some_iff.1 hp).1; simpa using this
  rw [get i hi] at hp
  refine ⟨?_, fun q h1 hq => ?_, fun t h1 h2 => ?_⟩
  ·cases hk : r.length - i with
   | zero => rw [hk] at hp; cases hp; omega
   | succ k =>
    rw [hk] at hp
    have hp : r[k]? = some p := hp
    obtain ⟨x, hx⟩ : ∃ x, (y :: r)[k]? = some x := ⟨_, List.getElem?_eq_getElem (by have := (List.getElem?_eq_some_iff.1 hp).1; simp; omega)⟩
    exact (h.adj k x p hx hp).2.1
  ·rw [get (i - 1) (by omega)] at hq
   have hk : r.length - (i - 1) = (r.length - i) + 1 := by omega
   rw [hk] at hq
   have hq : r[r.length - i]? = some q := hq
   have := h.adj _ p q hp hq
   exact ⟨this.1.symm, fun e => this.2.2.1 e.symm⟩
  ·cases hk : r.length - i with
   | zero =>
    rw [hk] at hp; cases hp
    rcases Int.lt_or_le s t with h3 | h3
    ·rw [hF t (by omega)]; exact h.cov s h.f (Int.le_refl _)
    ·exact h.cov t h1 h3
   | succ k =>
    rw [hk] at hp
    have hp : r[k]? = some p := hp
    obtain ⟨x, hx⟩ : ∃ x, (y :: r)[k]? = some x := ⟨_, List.getElem?_eq_getElem (by have := (List.getElem?_eq_some_iff.1 hp).1; simp; omega)⟩
    exact (h.adj k x p hx hp).2.2.2 t h1 h2
theorem who_const {c : Ch} {s t : Int} (h : ∀ m ∈ turnsV c, m.a ≤ s ↔ m.a ≤ t) : withV c (forceAt c s) = withV c (forceAt c t) := by
 rw [forceAt_last, forceAt_last]
 have e : ∀ (l : List Mo), (∀ m ∈ l, m.a ≤ s ↔ m.a ≤ t) → l.takeWhile (fun m => decide (m.a ≤ s)) = l.takeWhile (fun m => decide (m.a ≤ t)) := by
  intro l
  induction l with
  | nil => intro _; rfl
  | cons x l ih =>
   intro h
   have hx := h x (List.mem_cons_self ..)
   by_cases h1 : x.a ≤ s
   ·rw [List.takeWhile_cons_of_pos (by simpa using h1), List.takeWhile_cons_of_pos (by simpa using hx.1 h1), ih fun m hm => h m (List.mem_cons_of_mem _ hm)]
   ·rw [List.takeWhile_cons_of_neg (by simpa using h1), List.takeWhile_cons_of_neg (by simpa using fun hh => h1 (hx.2 hh))]
 rw [e _ h]
def rhF (c : Ch) (l : List Mo) : List Hd := l.foldl (fun o m => rhS (fun t => withV c (forceAt c t)) o m.a) [⟨withV c (forceAt c 0), 0, 20000001⟩]
theorem rhF_inv {c : Ch} (h : ChV c) : ∀ (i : Nat), i ≤ (turnsV c).length → ∃ s y r, rhF c ((turnsV c).take i) = y :: r ∧ RInv (fun t => withV c (forceAt c t)) s y r ∧ 0 ≤ s ∧ s ≤ 14000000 ∧ (∀ j m, j < i → (turnsV c)[j]? = some m → m.a ≤ s) ∧ ∀ j m, i ≤ j → (turnsV c)[j]? = some m → s ≤ m.a := by
 intro i
 induction i with
 | zero =>
  intro _
  refine ⟨0, _, [], rfl, ⟨Int.le_refl 0, rfl, fun u h1 h2 => ?_, fun x hx => by cases hx; rfl, fun i x z hx hz => by simp at hz⟩, Int.le_refl 0, by decide, fun j m hj => by omega, fun j m _ hm => (turns_bd2 h m (List.mem_of_getElem? hm)).1⟩
  have : u = 0 := by simp only at h1; omega
  rw [this]
 | succ i ih =>
  intro hi
  obtain ⟨s, y, r, e, hI, s0, s1, hb, ha⟩ := ih (by omega)
  have hm := List.getElem?_eq_getElem (show i < (turnsV c).length by omega)
  obtain ⟨m, hmm⟩ : ∃ m, m = (turnsV c)[i] := ⟨_, rfl⟩
  rw [← hmm] at hm
  have hsm := ha i m (Nat.le_refl _) hm
  have hpw := List.pairwise_iff_getElem.1 (turns_sorted c)
  have hle : ∀ j m', i ≤ j → (turnsV c)[j]? = some m' → m.a ≤ m'.a := fun j m' hj hm' => by
   obtain ⟨l1, e1⟩ := List.getElem?_eq_some_iff.1 hm'
   rcases Nat.eq_or_lt_of_le hj with h | h
   ·subst h; rw [hm] at hm'; cases hm'; exact Int.le_refl _
   ·have := hpw i j (by omega) l1 h
    rw [← hmm, e1] at this; exact this
  obtain ⟨y', r', e2, hI2⟩ := rhS_inv hI hsm (fun u h1 h2 => (who_const (s := s) (t := u) fun m' hm' => by
   obtain ⟨j, hj⟩ := List.getElem?_of_mem hm'
   rcases Nat.lt_or_ge j i with h | h
   ·have := hb j m' h hj; exact ⟨fun _ => by omega, fun _ => this⟩
   ·have := hle j m' h hj; have := ha j m' h hj
    constructor <;> intro _ <;> omega).symm)
  have hbd := turns_bd2 h m (List.mem_of_getElem? hm)
  refine ⟨m.a, y', r', ?_, hI2, hbd.1, hbd.2, fun j m' hj hm' => ?_, fun j m' hj hm' => hle j m' (by omega) hm'⟩
  ·unfold rhF at e ⊢
   rw [List.take_add_one, hm]
   simp only [Option.toList_some, List.foldl_append, List.foldl_cons, List.foldl_nil]
   rw [e, e2]
  ·rcases Nat.lt_or_ge j i with h | h
   ·have := hb j m' h hm'; omega
   ·have : j = i := by omega
    subst this; rw [hm] at hm'; cases hm'; exact Int.le_refl _
theorem rhF_hold {c : Ch} (h : ChV c) : (rhF c (turnsV c)).reverse = holdV c := by
 obtain ⟨s, y, r, e, hI, s0, s1, hb, ha⟩ := rhF_inv h (turnsV c).length (Nat.le_refl _)
 rw [List.take_length] at e
 rw [e]
 refine fits_uniq (rInv_fits hI (by omega) fun u hu => (who_const (s := s) (t := u) fun m hm => ?_).symm) (hold_fits h)
 obtain ⟨j, hj⟩ := List.getElem?_of_mem hm
 have := hb j m (List.getElem?_eq_some_iff.1 hj).1 hj
 constructor <;> intro _ <;> omega
end Go.Dial.Chn
set_option maxRecDepth 100000
namespace Go.Proofs.YtjllgiddmeiaoaaGreat
open Go Go.Sx Go.Dial.Clm Go.Dial.Lif Go.Dial.Chn
theorem moms_end (c : Ch) (h : Hp) : ∀ (l : List Hp) (G : List Int), moms c G (l ++ [h]) = moms c G l ++ momsH c (force c G l) h
 | [], G => by simp [moms, force]
 | x :: l, G => by
  rw [List.cons_append, moms, moms, moms_end c h l, List.append_assoc]
  rfl
theorem aft_len (c : Ch) (G : List Int) (h : Hp) : (aftH c G h).length ≤ G.length + 1 := by
 unfold aftH
 split
 ·have := popd_len h.p G; omega
 ·split <;> simp
theorem gk_len (c : Ch) : ∀ i, (Gk c i).length ≤ i
 | 0 => by simp [Gk, force]
 | i + 1 => by
  cases hh : (hps c)[i]? with
  | none => rw [Gk_end hh]; have := gk_len c i; omega
  | some h => rw [Gk_succ hh]; have := gk_len c i; have := aft_len c (Gk c i) h; omega
theorem gk_pin {c : Ch} (i : Nat) : PInL c (Gk c i) := fun x hx => by
 rcases force_mem hx with h | ⟨h, hh, rfl⟩
 ·cases h
 ·obtain ⟨k, p, h1, h2, _⟩ := hps_port (List.mem_of_mem_take hh)
  have := (List.getElem?_eq_some_iff.1 h1).1
  exact ⟨by omega, by omega⟩
theorem pops_rows {a p : Int} {Y : List Int} (hY : p ∉ Y) : ∀ (X : List Int), p ∉ X → tnL (pops a p (X ++ p :: Y)) = X.map (fun x => [AV.int a, AV.int x, AV.int 4]) ++ [[AV.int a, AV.int p, AV.int 3]] ∧ popd p (X ++ p :: Y) = Y
 | [], _ => by
  have h1 : pops a p Y = [] := by cases Y with
   | nil => rfl
   | cons y Y => unfold pops; rw [if_neg hY]
  refine ⟨?_, ?_⟩
  ·rw [List.nil_append, pops, if_pos (List.mem_cons_self ..), h1]
   simp
  ·rw [List.nil_append, popd, if_pos (List.mem_cons_self ..)]
   exact popd_no hY
 | x :: X, hX => by
  have hx : ¬ x = p := fun e => hX (e ▸ List.mem_cons_self ..)
  obtain ⟨h1, h2⟩ := pops_rows hY X (fun h => hX (List.mem_cons_of_mem _ h))
  have hm : p ∈ x :: (X ++ p :: Y) := by simp
  refine ⟨?_, ?_⟩
  ·rw [List.cons_append, pops, if_pos hm, if_neg hx, List.map_cons]
   show tnR _ :: tnL (pops a p (X ++ p :: Y)) = _
   rw [h1]; rfl
  ·rw [List.cons_append, popd, if_pos hm]; exact h2
section
variable (n : Nat) (c : Ch) (go0 : ref17_run_s0 → Option ref17_run_a) (hn : 200 < n)
include hn
theorem run_pops (i : Nat) (hi : i ≤ 100) (a p : Int) (v9 : Lv) (h0 : cI v9 (i : Int) 0 = a) (h1 : cI v9 (i : Int) 1 = p) (O : Lv) (Y X : List Int) (hX : X.length + Y.length ≤ 50) (hO : O.length ≤ 100) (r : ref17_run_a)
  (hgo : go0 (foL Y, O ++ (X.map (fun x => [AV.int a, AV.int x, AV.int 4]) ++ [[AV.int a, AV.int p, AV.int 3]]), (i : Int) + 1) = some r) :
  iterF (fun go1 s => ref17_run_5 n go0 go1 v9 (i : Int) (Y.length : Int) s.1 s.2) n ((O, foL (X ++ p :: Y)) : ref17_run_s1) = some r := by
 refine iterF_ind (fun s => ∃ X1 X2 : List Int, X = X1 ++ X2 ∧ s = (O ++ X1.map (fun x => [AV.int a, AV.int x, AV.int 4]), foL (X2 ++ p :: Y))) (fun s => s.2.length) _ ?_ n _ ⟨[], X, rfl, by simp⟩ (by simp [foL_len]; omega)
 rintro _ go ⟨X1, X2, rfl, rfl⟩ ih
 simp only
 unfold ref17_run_5
 have hxl : X1.length + X2.length + Y.length ≤ 50 := by simpa using hX
 have e1 : (-9223372036854775808 : Int) ≤ (Y.length : Int) + 1 := by omega
 have e2 : (Y.length : Int) + 1 ≤ (9223372036854775807 : Int) := by omega
 have hlen : ((foL (X2 ++ p :: Y)).length : Int) = (X2.length : Int) + (Y.length : Int) + 1 := by rw [foL_len]; simp; omega
 have hol : ((O ++ X1.map (fun x => [AV.int a, AV.int x, AV.int 4])).length : Int) = (O.length : Int) + (X1.length : Int) := by simp
 have c24 : (((O ++ X1.map (fun x => [AV.int a, AV.int x, AV.int 4])).length : Int) + 1) * 24 ≤ 140737488355328 := by omega
 rw [decide_eq_true e1, decide_eq_true e2, Bool.and_self, cond_true]
 cases X2 with
 | cons x X2 =>
  have hlx : ((x :: X2).length : Int) = (X2.length : Int) + 1 := by simp
  have d1 : (Y.length : Int) + 1 < ((foL (x :: X2 ++ p :: Y)).length : Int) := by omega
  have d2 : (-9223372036854775808 : Int) ≤ ((foL (x :: X2 ++ p :: Y)).length : Int) - 1 := by omega
  have d3 : ((foL (x :: X2 ++ p :: Y)).length : Int) - 1 ≤ (9223372036854775807 : Int) := by omega
  have d4 : (0 : Int) ≤ ((foL (x :: X2 ++ p :: Y)).length : Int) - 1 := by omega
  have d5 : ((foL (x :: X2 ++ p :: Y)).length : Int) - 1 < ((foL (x :: X2 ++ p :: Y)).length : Int) := by omega
  have d6 : ((foL (x :: X2 ++ p :: Y)).length : Int) - 1 ≤ ((foL (x :: X2 ++ p :: Y)).length : Int) := by omega
  rw [decide_eq_true d1, cond_true, decide_eq_true d2, decide_eq_true d3, Bool.and_self, cond_true, decide_eq_true d4, cond_true, decide_eq_true d5, cond_true, decide_eq_true c24, cond_true, decide_eq_true d6, cond_true, h0]
  rw [List.cons_append, foL_top, foL_drop]
  exact ih _ ⟨X1 ++ [x], X2, by simp, by simp⟩ (by simp only [foL_len]; simp)
 | nil =>
  have d1 : ¬ (Y.length : Int) + 1 < ((foL ([] ++ p :: Y)).length : Int) := by simp only [List.length_nil] at hlen; omega
  have d2 : (0 : Int) ≤ (Y.length : Int) := by omega
  have d3 : (Y.length : Int) ≤ ((foL ([] ++ p :: Y)).length : Int) := by simp only [List.length_nil] at hlen; omega
  have htk : List.take ((Y.length : Int)).toNat (foL ([] ++ p :: Y)) = foL Y := by
   rw [List.nil_append, ← foL_snoc, show ((Y.length : Int)).toNat = (foL Y).length by rw [foL_len]; simp, List.take_left]
  have d4 : ((foL Y).length : Int) * 8 ≤ 140737488355328 := by rw [foL_len]; omega
  have d5 : (-9223372036854775808 : Int) ≤ (i : Int) + 1 := by omega
  have d6 : (i : Int) + 1 ≤ (9223372036854775807 : Int) := by omega
  rw [decide_eq_false d1, cond_false, decide_eq_true c24, cond_true, decide_eq_true d2, cond_true, decide_eq_true d3, cond_true, htk, decide_eq_true d4, cond_true, decide_eq_true d5, decide_eq_true d6, Bool.and_self, cond_true, h0, h1]
  rw [List.append_nil] at hgo
  rw [← hgo, List.append_assoc]
end
theorem hp_cells {l : List Hp} {i : Nat} {h : Hp} (hh : l[i]? = some h) : cI (hpL l) (i : Int) 0 = h.a ∧ cI (hpL l) (i : Int) 1 = h.p ∧ cB (hpL l) (i : Int) 2 = h.b := by
 have hc : ∀ k, cA (hpL l) (i : Int) k = (hpR h).getD k (.int 0) := fun k => cA_map (by simpa using hh)
 refine ⟨?_, ?_, ?_⟩ <;> simp only [cI, cB, hc] <;> rfl
theorem ref17_run_v (n : Nat) (c : Ch) (t : Int) (hV : ChV c) (hl : c.life.length < n) (hn : 200 < n) :
  ref17_run n c.n c.f c.r.a c.r.c c.r.s c.r.r (evL c.life) (ptL c.ps) t = some (tnL (moms c [] ((hps c).take (upH c t))), foL (forceAt c t)) := by
 unfold ref17_run ref17_run_1
 rw [ref17_happenings_v n c hV hn, Option.bind_some, forceAt_Gk]
 have hlen : ((hpL (hps c)).length : Int) = ((hps c).length : Int) := by rw [List.length_map]
 have h16 : (hps c).length ≤ 16 := by have := hps_len c; have := hV.2.2.2.2.2.1; omega
 have hpl : ((ptL c.ps).length : Int) = (c.ps.length : Int) := by rw [List.length_map]
 have hup : upH c t ≤ (hps c).length := by unfold upH; exact List.Sublist.length_le (List.takeWhile_sublist _)
 refine iterF_ind (fun s => ∃ i : Nat, s = (foL (Gk c i), tnL (moms c [] ((hps c).take i)), (i : Int)) ∧ i ≤ upH c t) (fun s => (hps c).length - s.2.2.toNat) _ ?_ n _ ⟨0, by simp [Gk, force, moms, foL], by omega⟩ (by simp; omega)
 rintro _ go ⟨i, rfl, hi⟩ ih
 simp only
 unfold ref17_run_2
 rcases Nat.lt_or_ge i (hps c).length with hlt | hge
 case inr =>
  have e : i = upH c t := by omega
  have c1 : ¬ (i : Int) < ((hpL (hps c)).length : Int) := by omega
  rw [decide_eq_false c1, cond_false, e]
 case inl =>
 obtain ⟨h, hh⟩ := get_lt hlt
 obtain ⟨x0, x1, x2⟩ := hp_cells hh
 have c1 : (i : Int) < ((hpL (hps c)).length : Int) := by omega
 have c2 : (0 : Int) ≤ (i : Int) := by omega
 have c4 : (-9223372036854775808 : Int) ≤ (i : Int) + 1 := by omega
 have c5 : (i : Int) + 1 ≤ (9223372036854775807 : Int) := by omega
 rw [decide_eq_true c1, cond_true, decide_eq_true c2, cond_true]
 unfold ref17_run_3
 rw [x0, x1]
 have hu := upH_lt (t := t) hh
 by_cases hat : h.a ≤ t
 rotate_left
 ·have e : i = upH c t := by
   have : ¬ i < upH c t := fun hx => hat (hu.1 hx)
   omega
  rw [decide_eq_false hat, cond_false, e]
 have hi1 := hu.2 hat
 obtain ⟨k, p, hp1, hp2, _⟩ := hps_port (List.mem_of_getElem? hh)
 have hkl := (List.getElem?_eq_some_iff.1 hp1).1
 have hpin : PIn c h.p := ⟨by omega, by omega⟩
 have d1 : (0 : Int) ≤ h.p := hpin.1
 have d2 : h.p < ((ptL c.ps).length : Int) := by have := hpin.2; omega
 rw [decide_eq_true hat, cond_true, decide_eq_true d1, cond_true, decide_eq_true d2, cond_true]
 unfold ref17_run_4
 rw [x0, x1, x2]
 have hgl := gk_len c i
 have hgp := gk_pin (c := c) i
 have hml : (moms c [] ((hps c).take i)).length ≤ 40 := by
  have := moms_len c ((hps c).take i) []
  rw [List.length_take] at this
  simp at this
  omega
 obtain ⟨G, hG⟩ : ∃ G, G = Gk c i := ⟨_, rfl⟩
 obtain ⟨O, hO⟩ : ∃ O, O = moms c [] ((hps c).take i) := ⟨_, rfl⟩
 have hfG : force c [] ((hps c).take i) = G := hG.symm
 have hnext : Gk c (i + 1) = aftH c G h := by rw [hG]; exact Gk_succ hh
 have hmom : moms c [] ((hps c).take (i + 1)) = O ++ momsH c G h := by rw [take_snoc hh, moms_end, hfG, hO]
 have hgo : go (foL (aftH c G h), tnL (O ++ momsH c G h), (i : Int) + 1) = some (tnL (moms c [] ((hps c).take (upH c t))), foL (Gk c (upH c t))) := by
  rw [← hnext, ← hmom]
  exact ih _ ⟨i + 1, rfl, by omega⟩ (by simp only; omega)
 rw [← hG] at hgl hgp ⊢
 rw [← hO] at hml ⊢
 obtain ⟨t1, t2, t3⟩ := port_to hpin
 have hol : ((tnL O).length : Int) = (O.length : Int) := by rw [List.length_map]
 have c24 : (((tnL O).length : Int) + 1) * 24 ≤ 140737488355328 := by omega
 have hfl : ((foL G).length : Int) = (G.length : Int) := by rw [foL_len]
 have c8 : (((foL G).length : Int) + 1) * 8 ≤ 140737488355328 := by omega
 cases hb : h.b with
 | false =>
  have h0 := (hps_bd2 hV (List.mem_of_getElem? hh)).1
  have hAt : ref14_At n (evL c.life) (imin h.a 10000000) = some ((atL c.life (min h.a 10000000)).s, (atL c.life (min h.a 10000000)).h, (atL c.life (min h.a 10000000)).e, (atL c.life (min h.a 10000000)).t, 0) := by
   rw [ref14_At_v n c.life _ hl, show imin h.a 10000000 = min h.a 10000000 by unfold imin; omega]
   unfold atT atR
   rw [if_pos ⟨hV.1, by omega, by omega⟩]
  rw [Bool.not_false, cond_true, hAt, Option.bind_some]
  simp only
  have hmiss : ¬ Takes c G h → go (foL G, tnL O ++ [[AV.int h.a, AV.int h.p, AV.int 2]], (i : Int) + 1) = some (tnL (moms c [] ((hps c).take (upH c t))), foL (Gk c (upH c t))) := fun hT => by
   have e1 : aftH c G h = G := by unfold aftH; rw [if_neg (by rw [hb]; decide), if_neg hT]
   have e2 : momsH c G h = [⟨h.a, h.p, 2, G⟩] := by unfold momsH; rw [if_neg (by rw [hb]; decide), if_neg hT]
   rw [e1, e2] at hgo
   rw [← hgo]; simp
  have htake : Takes c G h → go (foL G ++ [[AV.int h.p]], tnL O ++ [[AV.int h.a, AV.int h.p, AV.int 1]], (i : Int) + 1) = some (tnL (moms c [] ((hps c).take (upH c t))), foL (Gk c (upH c t))) := fun hT => by
   have e1 : aftH c G h = h.p :: G := by unfold aftH; rw [if_neg (by rw [hb]; decide), if_pos hT]
   have e2 : momsH c G h = [⟨h.a, h.p, 1, h.p :: G⟩] := by unfold momsH; rw [if_neg (by rw [hb]; decide), if_pos hT]
   rw [e1, e2] at hgo
   rw [← hgo, foL_snoc]; simp
  have fin : ∀ w : Int, w = withV c G → (bif (decide (w = (portAt c h.p).c.f)) then (bif (decide ((atL c.life (min h.a 10000000)).s = 1)) then (bif (decide ((atL c.life (min h.a 10000000)).h = (portAt c h.p).c.h)) then bif (decide ((((foL G).length : Int) + 1) * 8 ≤ 140737488355328)) then bif (decide ((((tnL O).length : Int) + 1) * 24 ≤ 140737488355328)) then bif ((decide ((-9223372036854775808) ≤ ((i : Int) + 1))) && (decide (((i : Int) + 1) ≤ 9223372036854775807))) then go ((foL G ++ [[(AV.int h.p)]]), (tnL O ++ [[(AV.int h.a), (AV.int h.p), (AV.int 1)]]), ((i : Int) + 1)) else none else none else none
    else bif (decide ((((tnL O).length : Int) + 1) * 24 ≤ 140737488355328)) then bif ((decide ((-9223372036854775808) ≤ ((i : Int) + 1))) && (decide (((i : Int) + 1) ≤ 9223372036854775807))) then go (foL G, (tnL O ++ [[(AV.int h.a), (AV.int h.p), (AV.int 2)]]), ((i : Int) + 1)) else none else none)
    else bif (decide ((((tnL O).length : Int) + 1) * 24 ≤ 140737488355328)) then bif ((decide ((-9223372036854775808) ≤ ((i : Int) + 1))) && (decide (((i : Int) + 1) ≤ 9223372036854775807))) then go (foL G, (tnL O ++ [[(AV.int h.a), (AV.int h.p), (AV.int 2)]]), ((i : Int) + 1)) else none else none)
    else bif (decide ((((tnL O).length : Int) + 1) * 24 ≤ 140737488355328)) then bif ((decide ((-9223372036854775808) ≤ ((i : Int) + 1))) && (decide (((i : Int) + 1) ≤ 9223372036854775807))) then go (foL G, (tnL O ++ [[(AV.int h.a), (AV.int h.p), (AV.int 2)]]), ((i : Int) + 1)) else none else none) = some (tnL (moms c [] ((hps c).take (upH c t))), foL (Gk c (upH c t))) := by
   rintro w rfl
   rw [decide_eq_true c8, decide_eq_true c24, decide_eq_true c4, decide_eq_true c5, Bool.and_self, cond_true, cond_true, cond_true, cond_true, cond_true]
   by_cases k1 : withV c G = (portAt c h.p).c.f
   ·rw [decide_eq_true k1, cond_true]
    by_cases k2 : (atL c.life (min h.a 10000000)).s = 1
    ·rw [decide_eq_true k2, cond_true]
     by_cases k3 : (atL c.life (min h.a 10000000)).h = (portAt c h.p).c.h
     ·rw [decide_eq_true k3, cond_true]; exact htake ⟨k1, k2, k3⟩
     ·rw [decide_eq_false k3, cond_false]; exact hmiss (fun hT => k3 hT.2.2)
    ·rw [decide_eq_false k2, cond_false]; exact hmiss (fun hT => k2 hT.2.1)
   ·rw [decide_eq_false k1, cond_false]; exact hmiss (fun hT => k1 hT.1)
  rw [t1, t3]
  cases G with
  | nil =>
   have e0 : ((foL ([] : List Int)).length : Int) = 0 := rfl
   rw [decide_eq_true e0, cond_true]
   exact fin c.f rfl
  | cons y G' =>
   have e0 : ¬ ((foL (y :: G')).length : Int) = 0 := by rw [foL_len, List.length_cons]; omega
   have hy := hgp y (List.mem_cons_self ..)
   obtain ⟨_, u2, _⟩ := port_to hy
   have q1 : (-9223372036854775808 : Int) ≤ ((foL (y :: G')).length : Int) - 1 := by omega
   have q2 : ((foL (y :: G')).length : Int) - 1 ≤ (9223372036854775807 : Int) := by omega
   have q3 : (0 : Int) ≤ ((foL (y :: G')).length : Int) - 1 := by rw [foL_len, List.length_cons]; omega
   have q4 : ((foL (y :: G')).length : Int) - 1 < ((foL (y :: G')).length : Int) := by omega
   have q5 : (0 : Int) ≤ y := hy.1
   have q6 : y < ((ptL c.ps).length : Int) := by have := hy.2; omega
   rw [decide_eq_false e0, cond_false, decide_eq_true q1, decide_eq_true q2, Bool.and_self, cond_true, decide_eq_true q3, cond_true, decide_eq_true q4, cond_true, foL_top, decide_eq_true q5, cond_true, decide_eq_true q6, cond_true, u2]
   exact fin (portAt c y).c.t rfl
 | true =>
  rw [Bool.not_true, cond_false]
  have hrl : G.reverse.length = G.length := List.length_reverse ..
  obtain ⟨pl1, pl2⟩ := ref17_place_v n G.reverse h.p (by omega) (by omega)
  by_cases hm : h.p ∈ G
  ·obtain ⟨X, Y, hXY⟩ := List.append_of_mem hm
   have hY : h.p ∉ Y := Gk_nodup hV (by rw [← hG]; exact hXY)
   have hX : h.p ∉ X := fun hx => by
    obtain ⟨X1, X2, e⟩ := List.append_of_mem hx
    have : Gk c i = X1 ++ h.p :: (X2 ++ h.p :: Y) := by rw [← hG, hXY, e]; simp
    exact Gk_nodup hV this (by simp)
   have hpl2 := pl2 Y.reverse X.reverse (by rw [hXY]; simp) (by simpa using hY)
   rw [List.length_reverse] at hpl2
   have hneg : ¬ (Y.length : Int) < 0 := by omega
   have hfo : ref17_place n (foL G) h.p = some (Y.length : Int) := hpl2
   rw [hfo, Option.bind_some, decide_eq_false hneg, cond_false]
   obtain ⟨r1, r2⟩ := pops_rows (a := h.a) hY X hX
   have e1 : aftH c G h = Y := by unfold aftH; rw [if_pos hb, hXY]; exact r2
   have e2 : momsH c G h = pops h.a h.p G := by unfold momsH; rw [if_pos hb, if_pos hm]
   have hxl : X.length + Y.length ≤ 50 := by have := congrArg List.length hXY; simp at this; omega
   rw [hXY]
   refine run_pops n go hn i (by omega) h.a h.p _ x0 x1 (tnL O) Y X hxl (by rw [List.length_map]; omega) _ ?_
   rw [← r1, ← hXY, ← e2]
   rw [e1] at hgo
   rw [← hgo]; simp
  ·have hfo : ref17_place n (foL G) h.p = some (-1) := pl1 (by simpa using hm)
   have hneg : (-1 : Int) < 0 := by decide
   rw [hfo, Option.bind_some, decide_eq_true hneg, cond_true, decide_eq_true c24, cond_true, decide_eq_true c4, decide_eq_true c5, Bool.and_self, cond_true]
   have e1 : aftH c G h = G := by unfold aftH; rw [if_pos hb]; exact popd_no hm
   have e2 : momsH c G h = [⟨h.a, h.p, 5, G⟩] := by unfold momsH; rw [if_pos hb, if_neg hm]
   rw [e1, e2] at hgo
   rw [← hgo]; simp
end Go.Proofs.YtjllgiddmeiaoaaGreat
set_option maxRecDepth 100000
namespace Go.Proofs.YtjllgiddmeiaoaaGreat
open Go Go.Sx Go.Dial.Clm Go.Dial.Lif Go.Dial.Chn
section
variable (n : Nat) (go0 : chain_Turns_s0 → Option chain_Turns_a) (go1 : chain_Turns_s2 → Option chain_Turns_a) (c : Ch) (v9 : Lv) (i : Int) (O : List Mo) (G : List Int) (k : Nat)
 (hi : 0 ≤ i ∧ i ≤ 100) (hO : O.length ≤ 100) (hG : PInL c G) (hl : G.length ≤ 100)
include hO
theorem tn_pop (a p kd : Int) (L : Lv) (G : List Int) : (bif (decide ((((tnL O).length : Int) + 1) * 24 ≤ 140737488355328)) then go1 (true, ((tnL O) ++ [[(AV.int a), (AV.int p), (AV.int kd)]]), L) else none) = go1 (true, tnL (O ++ [⟨a, p, kd, G⟩]), L) := by
 have e4 : (((tnL O).length : Int) + 1) * 24 ≤ 140737488355328 := by rw [List.length_map]; omega
 rw [decide_eq_true e4, cond_true, tnL_snoc _ _ _ _ G]
include hG hl
theorem tn_ptail (a p kd : Int) : wC c (foL G) (fun _ => (bif (decide ((((tnL O).length : Int) + 1) * 24 ≤ 140737488355328)) then go1 (true, ((tnL O) ++ [[(AV.int a), (AV.int p), (AV.int kd)]]), foL G) else none)) = go1 (true, tnL (O ++ [⟨a, p, kd, G⟩]), foL G) :=
 (wthc hG hl _).trans (tn_pop go1 O hO a p kd _ G)
theorem tn10_pop (x : Int) (hk : k < (x :: G).length) : chain_Turns_10 n go0 go1 c.f (ptL c.ps) v9 i (k : Int) true (tnL O) (foL (x :: G)) =
  go1 (true, tnL (O ++ [⟨cI v9 i 0, x, if x = cI v9 i 1 then 3 else 4, G⟩]), foL G) := by
 have e0 : (k : Int) < ((foL (x :: G)).length : Int) := by rw [foL_len]; omega
 have e5 : (-9223372036854775808 : Int) ≤ ((foL (x :: G)).length : Int) - 1 := by omega
 have e6 : ((foL (x :: G)).length : Int) - 1 ≤ (9223372036854775807 : Int) := by rw [foL_len, List.length_cons]; omega
 have e7 : (0 : Int) ≤ ((foL (x :: G)).length : Int) - 1 := by omega
 have e8 : ((foL (x :: G)).length : Int) - 1 < ((foL (x :: G)).length : Int) := by omega
 have e9 : ((foL (x :: G)).length : Int) - 1 ≤ ((foL (x :: G)).length : Int) := by omega
 unfold chain_Turns_10
 rw [cond_true, decide_eq_true e0, cond_true, decide_eq_true e5, decide_eq_true e6, Bool.and_self, cond_true, decide_eq_true e7, cond_true, decide_eq_true e8, cond_true, foL_top, foL_drop, decide_eq_true e9, cond_true]
 by_cases h : x = cI v9 i 1
 ·rw [decide_eq_true h, cond_true, if_pos h]
  exact tn_ptail go1 c O G hO hG hl (cI v9 i 0) x 3
 ·rw [decide_eq_false h, cond_false, if_neg h, cond_true]
  exact tn_ptail go1 c O G hO hG hl (cI v9 i 0) x 4
include hi
theorem tn10_end (hk : ¬ k < G.length) : chain_Turns_10 n go0 go1 c.f (ptL c.ps) v9 i (k : Int) true (tnL O) (foL G) = go0 (withV c G, i + 1, tnL O, foL G) := by
 have e0 : ¬ (k : Int) < ((foL G).length : Int) := by rw [foL_len]; omega
 have e10 : (-9223372036854775808 : Int) ≤ i + 1 := by omega
 have e11 : i + 1 ≤ (9223372036854775807 : Int) := by omega
 unfold chain_Turns_10
 rw [cond_true, decide_eq_false e0, cond_false]
 refine (wth hG hl (fun w => bif ((decide ((-9223372036854775808) ≤ (i + 1))) && (decide ((i + 1) ≤ 9223372036854775807))) then go0 (w, i + 1, tnL O, foL G) else none)).trans ?_
 simp only [decide_eq_true e10, decide_eq_true e11, Bool.and_self, cond_true]
end
theorem imin_min (a b : Int) : imin a b = min a b := by unfold imin; omega
theorem at_T {c : Ch} (hL : Life c.life) {a : Int} (h0 : 0 ≤ a) (n : Nat) (hn : c.life.length < n) : life_At n (evL c.life) (imin a 10000000) = some ((atL c.life (min a 10000000)).s, (atL c.life (min a 10000000)).h, (atL c.life (min a 10000000)).e, (atL c.life (min a 10000000)).t, 0) := by
 have hok : OkAt c.life (min a 10000000) := ⟨hL, by omega, by omega⟩
 rw [life_At_v n c.life _ hn, imin_min]
 simp only [atT, atR, if_pos hok]
theorem tn12 : @chain_Turns_12 = @chain_Turns_7 := rfl
section
variable (n : Nat) (go0 : chain_Turns_s0 → Option chain_Turns_a) (c : Ch) (v9 : Lv) (i : Int) (O : List Mo) (G : List Int) (r : chain_Turns_a) (h : Hp)
 (hi : 0 ≤ i ∧ i ≤ 100) (hO : O.length + G.length ≤ 90) (hG : PInL c G) (hl : G.length ≤ 90) (hP : PIn c h.p) (hh0 : cI v9 i 0 = h.a) (hh1 : cI v9 i 1 = h.p) (hh2 : cB v9 i 2 = h.b)
include hi hO hG hl hh0 hh1
theorem tn_back (k : Nat) (hk : G.reverse[k]? = some h.p) (hm : ∀ j, j < k → G.reverse[j]? ≠ some h.p) (hn : 200 < n)
  (hgo : go0 (withV c (popd h.p G), i + 1, tnL (O ++ pops h.a h.p G), foL (popd h.p G)) = some r) :
  iterF (fun go1 s => chain_Turns_10 n go0 go1 c.f (ptL c.ps) v9 i (k : Int) s.1 s.2.1 s.2.2) n ((true, tnL O, foL G) : chain_Turns_s2) = some r := by
 refine iterF_ind (fun s => ∃ (B G' : List Int) (O' : List Mo), s = (true, tnL O', foL G') ∧ G = B ++ G' ∧ popd h.p G' = popd h.p G ∧ O' ++ pops h.a h.p G' = O ++ pops h.a h.p G ∧ O'.length + G'.length ≤ 90) (fun s => s.2.2.length) r ?_ n _ ⟨[], G, O, rfl, rfl, rfl, rfl, hO⟩ (by rw [foL_len]; omega)
 rintro _ go ⟨B, G', O', rfl, hB, hp, ho, hlen⟩ ih
 simp only
 have hin : h.p ∈ G' ↔ k < G'.length := by
  subst hB
  exact pop_in hk hm
 have hG' : PInL c G' := fun x hx => hG x (by rw [hB]; exact List.mem_append_right _ hx)
 by_cases hkk : k < G'.length
 ·cases G' with
  | nil => simp at hkk
  | cons x G' =>
   rw [tn10_pop n go0 go c v9 i O' G' k (by omega) (fun y hy => hG' y (List.mem_cons_of_mem _ hy)) (by simp only [List.length_cons] at hlen; omega) x hkk]
   have h1 : h.p ∈ x :: G' := hin.2 hkk
   have e1 : popd h.p (x :: G') = popd h.p G' := by rw [popd, if_pos h1]
   have e2 : pops h.a h.p (x :: G') = ⟨h.a, x, if x = h.p then 3 else 4, G'⟩ :: pops h.a h.p G' := by rw [pops, if_pos h1]
   rw [hh0, hh1]
   refine ih _ ⟨B ++ [x], G', O' ++ [⟨h.a, x, if x = h.p then 3 else 4, G'⟩], rfl, by rw [hB]; simp, by rw [← hp, e1], by rw [← ho, e2]; simp, by simp only [List.length_cons, List.length_append, List.length_nil] at hlen ⊢; omega⟩ ?_
   simp only [foL_len, List.length_cons]; omega
 ·have h1 : h.p ∉ G' := fun h => hkk (hin.1 h)
  have e1 : popd h.p G' = G' := popd_no h1
  have e2 : pops h.a h.p G' = [] := by
   cases G' with
   | nil => rfl
   | cons x G' => rw [pops, if_neg h1]
  rw [tn10_end n go0 go c v9 i O' G' k hi (by omega) hG' (by omega) hkk]
  rw [e2, List.append_nil] at ho
  rw [ho, ← e1, hp]
  exact hgo
include hP hh2
theorem tn_round (hL : Life c.life) (h0 : 0 ≤ h.a) (hn : 200 < n) (hnl : c.life.length < n)
  (hgo : go0 (withV c (aftH c G h), i + 1, tnL (O ++ momsH c G h), foL (aftH c G h)) = some r) :
  iterF (fun go1 s => chain_Turns_4 n go0 go1 c.f (evL c.life) (ptL c.ps) v9 (withV c G) i (tnL O) (foL G) s) n (0 : chain_Turns_s1) = some r := by
 refine iterF_ind (fun s => ∃ j : Nat, s = (j : Int) ∧ j ≤ G.length ∧ ∀ j', j' < j → G.reverse[j']? ≠ some h.p) (fun s => G.length - s.toNat) r ?_ n _ ⟨0, rfl, by omega, fun j hj => by omega⟩ (by omega)
 rintro _ go ⟨j, rfl, hj, hm⟩ ih
 have hP' : PIn c (cI v9 i 1) := by rw [hh1]; exact hP
 have p1 : (0 : Int) ≤ cI v9 i 1 := hP'.1
 have p2 : cI v9 i 1 < ((ptL c.ps).length : Int) := by rw [List.length_map]; exact hP'.2
 have hE : h.b = false → ∀ go1, chain_Turns_7 n go0 go1 c.f (ptL c.ps) v9 (withV c G) i (tnL O) (foL G) (atL c.life (min h.a 10000000)).s (atL c.life (min h.a 10000000)).h = some r := by
  intro hb go1
  rw [tn7 n go0 go1 c v9 i O G hi (by omega) hG (by omega) hP', hh0, hh1]
  have hnb : ¬ h.b = true := by rw [hb]; decide
  unfold aftH momsH at hgo
  rw [if_neg hnb, if_neg hnb] at hgo
  by_cases ht : Takes c G h
  ·rw [if_pos ht, if_pos ht] at hgo
   exact (if_pos ht).trans hgo
  ·rw [if_neg ht, if_neg ht] at hgo
   exact (if_neg ht).trans hgo
 unfold chain_Turns_4
 by_cases hlt : j < G.length
 ·have c1 : (j : Int) < ((foL G).length : Int) := by rw [foL_len]; omega
  have c2 : (0 : Int) ≤ (j : Int) := by omega
  obtain ⟨x, hx⟩ := get_lt (l := G.reverse) (i := j) (by simpa using hlt)
  rw [decide_eq_true c1, cond_true, decide_eq_true c2, cond_true]
  unfold chain_Turns_5
  rw [foL_cell hx]
  by_cases he : cI v9 i 1 = x
  ·rw [decide_eq_true he, cond_true, decide_eq_true p1, cond_true, decide_eq_true p2, cond_true]
   unfold chain_Turns_6
   rw [hh2]
   cases hb : h.b with
   | false =>
    rw [Bool.not_false, cond_true, hh0, at_T hL h0 n hnl, Option.bind_some]
    exact hE hb _
   | true =>
    rw [Bool.not_true, cond_false]
    unfold chain_Turns_9
    have c3 : ¬ (j : Int) < 0 := by omega
    rw [decide_eq_false c3, cond_false]
    have hx' : G.reverse[j]? = some h.p := by rw [hx, ← he, hh1]
    have hin : h.p ∈ G := List.mem_reverse.1 (List.mem_of_getElem? hx')
    unfold aftH momsH at hgo
    rw [if_pos hb, if_pos hb, if_pos hin] at hgo
    exact tn_back n go0 c v9 i O G r h hi hO hG hl hh0 hh1 j hx' hm hn hgo
  ·have c4 : (-9223372036854775808 : Int) ≤ (j : Int) + 1 := by omega
   have c5 : (j : Int) + 1 ≤ (9223372036854775807 : Int) := by omega
   rw [decide_eq_false he, cond_false, decide_eq_true c4, decide_eq_true c5, Bool.and_self, cond_true]
   refine ih _ ⟨j + 1, by omega, by omega, fun j' hj' => ?_⟩ (by omega)
   rcases Nat.lt_or_ge j' j with h1 | h1
   ·exact hm j' h1
   ·have : j' = j := by omega
    subst this
    rw [hx, ← hh1]
    exact fun e => he (Option.some.inj e).symm
 ·have c1 : ¬ (j : Int) < ((foL G).length : Int) := by rw [foL_len]; omega
  have hnin : h.p ∉ G := fun hin => by
   obtain ⟨q, hq, he⟩ := List.getElem_of_mem (List.mem_reverse.2 hin)
   have hq' : q < G.length := by simpa using hq
   exact hm q (by omega) (by rw [List.getElem?_eq_getElem hq, he])
  rw [decide_eq_false c1, cond_false, decide_eq_true p1, cond_true, decide_eq_true p2, cond_true]
  unfold chain_Turns_11
  rw [hh2]
  cases hb : h.b with
  | false =>
   rw [Bool.not_false, cond_true, hh0, at_T hL h0 n hnl, Option.bind_some, tn12]
   exact hE hb _
  | true =>
   rw [Bool.not_true, cond_false]
   unfold aftH momsH at hgo
   rw [if_pos hb, if_pos hb, if_neg hnin, popd_no hnin, ← hh0, ← hh1] at hgo
   rw [← hgo]
   exact tn_tail go0 c i O G hi (by omega) hG (by omega) _ _ 5
end
theorem moms_app {c : Ch} : ∀ (A B : List Hp) (G : List Int), moms c G (A ++ B) = moms c G A ++ moms c (force c G A) B
 | [], B, G => rfl
 | h :: A, B, G => by
  show momsH c G h ++ moms c (aftH c G h) (A ++ B) = _
  rw [moms_app A B]
  simp [moms, force]
theorem force_in {c : Ch} {l : List Hp} (hl : ∀ h ∈ l, h ∈ hps c) : PInL c (force c [] l) := fun x hx => by
 rcases force_mem hx with h | ⟨h, h1, h2⟩
 ·cases h
 ·obtain ⟨k, p, g1, g2, _⟩ := hps_port (hl h h1)
  have := (List.getElem?_eq_some_iff.1 g1).1
  rw [← h2, g2]
  exact ⟨by omega, by omega⟩
theorem aftH_len (c : Ch) (G : List Int) (h : Hp) : (aftH c G h).length ≤ G.length + 1 := by
 unfold aftH
 have := popd_len h.p G
 split
 ·omega
 ·split <;> simp
theorem force_len (c : Ch) : ∀ (l : List Hp) (G : List Int), (force c G l).length ≤ G.length + l.length
 | [], G => by simp [force]
 | h :: l, G => by
  have h1 := force_len c l (aftH c G h)
  have h2 := aftH_len c G h
  show (force c (aftH c G h) l).length ≤ _
  simp only [List.length_cons]; omega
theorem hps_ge {c : Ch} (h : ChV c) {x : Hp} (hx : x ∈ hps c) : 0 ≤ x.a ∧ x.a ≤ 23000000 := by
 obtain ⟨k, p, h1, h2, y, h3, h4⟩ := hps_port hx
 have hv := (ptsV_all h.2.2.2.2.2.2 p (List.mem_of_getElem? h1)).2
 have g1 := timeline_ge hv y h3
 have g2 := timeline_le hv y h3
 have g3 := hv.2.1
 unfold ClV at g3
 unfold hpOf at h4
 split at h4
 ·cases h4; simp only; omega
 ·cases h4
theorem chain_Turns_v (n : Nat) (c : Ch) (hl : c.life.length < n) (hn : 200 < n) : chain_Turns n c.n c.f c.r.a c.r.c c.r.s c.r.r (evL c.life) (ptL c.ps) = some (if ChV c then (tnL (turnsV c), 0) else ([], 170)) := by
 unfold chain_Turns chain_Turns_1
 rw [chain_Valid_v n c hl hn, Option.bind_some]
 unfold chain_Turns_2
 by_cases h : ChV c
 ·rw [if_pos h, decide_eq_true h, Bool.not_true, cond_false, chain_happenings_v n c h hn, Option.bind_some]
  obtain ⟨H, hH⟩ : ∃ H, H = hps c := ⟨_, rfl⟩
  have hHl : H.length ≤ 16 := by
   have := hps_len c
   have := h.2.2.2.2.2.1
   rw [hH]; omega
  have hT : turnsV c = moms c [] H := by rw [hH]; rfl
  rw [← hH]
  refine iterF_ind (fun s => ∃ i : Nat, s = (withV c (force c [] (H.take i)), (i : Int), tnL (moms c [] (H.take i)), foL (force c [] (H.take i))) ∧ i ≤ H.length) (fun s => H.length - s.2.1.toNat) _ ?_ n _ ⟨0, rfl, by omega⟩ (by simp; omega)
  rintro _ go ⟨i, rfl, hi⟩ ih
  simp only
  unfold chain_Turns_3
  by_cases hlt : i < H.length
  ·obtain ⟨x, hx⟩ := get_lt hlt
   obtain ⟨x0, x1, x2⟩ := hp_cells hx
   have hxm : x ∈ hps c := by rw [← hH]; exact List.mem_of_getElem? hx
   have c1 : (i : Int) < ((hpL H).length : Int) := by rw [List.length_map]; omega
   have c2 : (0 : Int) ≤ (i : Int) := by omega
   have hti : (H.take i).length ≤ i := by rw [List.length_take]; omega
   have hfl := force_len c (H.take i) []
   have hml := moms_len c (H.take i) []
   simp only [List.length_nil] at hfl hml
   have hPx : PIn c x.p := by
    obtain ⟨k, p, g1, g2, _⟩ := hps_port hxm
    have := (List.getElem?_eq_some_iff.1 g1).1
    rw [g2]
    exact ⟨by omega, by omega⟩
   rw [decide_eq_true c1, cond_true, decide_eq_true c2, cond_true]
   refine tn_round n go c (hpL H) i (moms c [] (H.take i)) (force c [] (H.take i)) _ x (by omega) (by omega) (force_in fun y hy => by rw [← hH]; exact List.mem_of_mem_take hy) (by omega) hPx x0 x1 x2 h.1 (hps_ge h hxm).1 hn hl ?_
   have e1 : H.take (i + 1) = H.take i ++ [x] := take_snoc hx
   have e2 : force c [] (H.take (i + 1)) = aftH c (force c [] (H.take i)) x := by rw [e1]; simp [force]
   have e3 : moms c [] (H.take (i + 1)) = moms c [] (H.take i) ++ momsH c (force c [] (H.take i)) x := by rw [e1, moms_app]; simp [moms]
   rw [← e2, ← e3]
   exact ih _ ⟨i + 1, rfl, by omega⟩ (by simp only; omega)
  ·have h00 : i = H.length := by omega
   have c1 : ¬ (i : Int) < ((hpL H).length : Int) := by rw [List.length_map]; omega
   rw [decide_eq_false c1, cond_false, hT, h00, List.take_length]
 ·rw [if_neg h, decide_eq_false h, Bool.not_false, cond_true]
end Go.Proofs.YtjllgiddmeiaoaaGreat
set_option maxRecDepth 100000
namespace Go.Proofs.YtjllgiddmeiaoaaGreat
open Go Go.Sx Go.Dial.Clm Go.Dial.Lif Go.Dial.Chn
theorem copy_rows (L : Lv) (k : Int) (hk : k = (L.length : Int)) : List.take (List.replicate k.toNat [AV.int 0]).length L ++ List.drop L.length (List.replicate k.toNat [AV.int 0]) = L := by
 subst hk
 simp
theorem at15 : @chain_At_15 = @chain_At_9 := rfl
section
variable (n : Nat) (go0 : chain_At_s0 → Option chain_At_a) (go1 : chain_At_s1 → Option chain_At_a) (c : Ch) (t : Int) (v9 : Lv) (i : Int) (G : List Int) (r : chain_At_a)
 (hi : 0 ≤ i ∧ i ≤ 100) (hG : PInL c G) (hl : G.length ≤ 90) (hP : PIn c (cI v9 i 1)) (hst : t < cI v9 i 0 → r = (withV c G, foL G, 0))
include hi hst
theorem at_go (w a p kd u : Int) (L X : Lv) (hX : X = L) (hu : u = w) (hgo : cI v9 i 0 ≤ t → go0 (w, i + 1, a, p, kd, L, w, L) = some r) : (bif (decide (t < (cI v9 i 0))) then some (withV c G, foL G, 0) else bif ((decide ((-9223372036854775808) ≤ (i + 1))) && (decide ((i + 1) ≤ 9223372036854775807))) then go0 (u, (i + 1), a, p, kd, X, w, L) else none) = some r := by
 have e10 : (-9223372036854775808 : Int) ≤ i + 1 := by omega
 have e11 : i + 1 ≤ (9223372036854775807 : Int) := by omega
 by_cases h : t < cI v9 i 0
 ·rw [decide_eq_true h, cond_true, hst h]
 ·rw [decide_eq_false h, cond_false, decide_eq_true e10, decide_eq_true e11, Bool.and_self, cond_true, hX, hu]
  exact hgo (by omega)
include hG hl
theorem at_tail (a p kd : Int) (hgo : cI v9 i 0 ≤ t → go0 (withV c G, i + 1, a, p, kd, foL G, withV c G, foL G) = some r) : wC c (foL G) (fun w => (bif (decide (t < (cI v9 i 0))) then some (withV c G, foL G, 0) else bif ((decide ((-9223372036854775808) ≤ (i + 1))) && (decide ((i + 1) ≤ 9223372036854775807))) then go0 (w, (i + 1), a, p, kd, (List.take (List.replicate (((foL G).length : Int)).toNat [(AV.int 0)]).length (foL G) ++ List.drop (foL G).length (List.replicate (((foL G).length : Int)).toNat [(AV.int 0)])), w, foL G) else none)) = some r :=
 (wthc hG (by omega) _).trans
  (at_go go0 c t v9 i G r hi hst (withV c G) a p kd _ _ _ (copy_rows _ _ rfl) rfl hgo)
include hP
theorem at10 (s h : Int) (hgo : cI v9 i 0 ≤ t → ∀ a p kd, (if s = 1 ∧ h = (portAt c (cI v9 i 1)).c.h then go0 (withV c (cI v9 i 1 :: G), i + 1, a, p, kd, foL (cI v9 i 1 :: G), withV c (cI v9 i 1 :: G), foL (cI v9 i 1 :: G)) else go0 (withV c G, i + 1, a, p, kd, foL G, withV c G, foL G)) = some r) :
  chain_At_10 n go0 go1 c.f (ptL c.ps) t v9 i (foL G) (withV c G) (foL G) s h = some r := by
 obtain ⟨g1, g2, g3⟩ := port_to hP
 unfold chain_At_10
 rw [g3]
 by_cases k1 : s = 1
 ·by_cases k2 : h = (portAt c (cI v9 i 1)).c.h
  ·simp only [k1, k2, and_self, if_true] at hgo
   rw [decide_eq_true k1, cond_true, decide_eq_true k2, cond_true]
   refine (wthp hG (by omega) hP (fun w => (bif (decide (t < (cI v9 i 0))) then some (withV c G, foL G, 0) else bif ((decide ((-9223372036854775808) ≤ (i + 1))) && (decide ((i + 1) ≤ 9223372036854775807))) then go0 (w, (i + 1), (cI v9 i 0), (cI v9 i 1), 1, (List.take (List.replicate ((((foL G).length : Int) + 1)).toNat [(AV.int 0)]).length (foL G ++ [[(AV.int (cI v9 i 1))]]) ++ List.drop (foL G ++ [[(AV.int (cI v9 i 1))]]).length (List.replicate ((((foL G).length : Int) + 1)).toNat [(AV.int 0)])), w, foL G ++ [[(AV.int (cI v9 i 1))]]) else none))).trans ?_
   refine at_go go0 c t v9 i G r hi hst _ _ _ _ _ _ _ (copy_rows _ _ (by simp)) rfl ?_
   rw [foL_snoc]
   exact fun h => hgo h _ _ _
  ·simp only [k2, and_false, if_false] at hgo
   rw [decide_eq_true k1, cond_true, decide_eq_false k2, cond_false]
   exact at_tail go0 c t v9 i G r hi hG hl hst _ _ 2 fun h => hgo h _ _ _
 ·simp only [k1, false_and, if_false] at hgo
  rw [decide_eq_false k1, cond_false]
  exact at_tail go0 c t v9 i G r hi hG hl hst _ _ 2 fun h => hgo h _ _ _
theorem at9 (s h : Int) (hgo : cI v9 i 0 ≤ t → ∀ a p kd, (if withV c G = (portAt c (cI v9 i 1)).c.f ∧ s = 1 ∧ h = (portAt c (cI v9 i 1)).c.h then go0 (withV c (cI v9 i 1 :: G), i + 1, a, p, kd, foL (cI v9 i 1 :: G), withV c (cI v9 i 1 :: G), foL (cI v9 i 1 :: G)) else go0 (withV c G, i + 1, a, p, kd, foL G, withV c G, foL G)) = some r) :
  chain_At_9 n go0 go1 c.f (ptL c.ps) t v9 (withV c G) i (foL G) (withV c G) (foL G) s h = some r := by
 obtain ⟨g1, g2, g3⟩ := port_to hP
 unfold chain_At_9
 rw [g1]
 by_cases k : withV c G = (portAt c (cI v9 i 1)).c.f
 ·rw [decide_eq_true k, cond_true]
  simp only [k, true_and] at hgo
  rw [k] at hst
  refine at10 n go0 go1 c t v9 i G r hi hG hl hP (by rw [k]; exact hst) s h ?_
  rw [k]
  exact hgo
 ·rw [decide_eq_false k, cond_false]
  simp only [k, false_and, if_false] at hgo
  exact at_tail go0 c t v9 i G r hi hG hl hst _ _ 2 fun h => hgo h _ _ _
end
section
variable (n : Nat) (go0 : chain_At_s0 → Option chain_At_a) (go1 : chain_At_s2 → Option chain_At_a) (c : Ch) (t : Int) (v9 : Lv) (i : Int) (G : List Int) (k : Nat) (r : chain_At_a)
 (hi : 0 ≤ i ∧ i ≤ 100) (hG : PInL c G) (hl : G.length ≤ 90)
theorem at_pgo (w a p kd u b d : Int) (L X B : Lv) (hX : X = L) (hu : u = w) (hst : t < a → r = (b, B, 0)) (hgo : a ≤ t → go1 (true, a, p, kd, L, w, L) = some r) : (bif (decide (t < a)) then some (b, B, 0) else go1 (true, a, p, kd, X, u, L)) = some r := by
 by_cases h : t < a
 ·rw [decide_eq_true h, cond_true, hst h]
 ·rw [decide_eq_false h, cond_false, hX, hu]
  exact hgo (by omega)
include hG hl
theorem at_ptail (a p kd b : Int) (B : Lv) (hst : t < a → r = (b, B, 0)) (hgo : a ≤ t → go1 (true, a, p, kd, foL G, withV c G, foL G) = some r) : wC c (foL G) (fun w => (bif (decide (t < a)) then some (b, B, 0) else go1 (true, a, p, kd, (List.take (List.replicate (((foL G).length : Int)).toNat [(AV.int 0)]).length (foL G) ++ List.drop (foL G).length (List.replicate (((foL G).length : Int)).toNat [(AV.int 0)])), w, foL G))) = some r :=
 (wthc hG (by omega) _).trans
  (at_pgo go1 t r (withV c G) a p kd _ b 0 _ _ B (copy_rows _ _ rfl) rfl hst hgo)
theorem at12_pop (x a p kd b : Int) (B : Lv) (hk : k < (x :: G).length) (hst : t < cI v9 i 0 → r = (b, B, 0)) (hgo : cI v9 i 0 ≤ t → ∀ a p kd, go1 (true, a, p, kd, foL G, withV c G, foL G) = some r) : chain_At_12 n go0 go1 c.f (ptL c.ps) t v9 i (k : Int) true a p kd B b (foL (x :: G)) = some r := by
 have e0 : (k : Int) < ((foL (x :: G)).length : Int) := by rw [foL_len]; omega
 have e5 : (-9223372036854775808 : Int) ≤ ((foL (x :: G)).length : Int) - 1 := by omega
 have e6 : ((foL (x :: G)).length : Int) - 1 ≤ (9223372036854775807 : Int) := by rw [foL_len]; simp; omega
 have e7 : (0 : Int) ≤ ((foL (x :: G)).length : Int) - 1 := by omega
 have e8 : ((foL (x :: G)).length : Int) - 1 < ((foL (x :: G)).length : Int) := by omega
 have e9 : ((foL (x :: G)).length : Int) - 1 ≤ ((foL (x :: G)).length : Int) := by omega
 unfold chain_At_12
 rw [cond_true]
 unfold chain_At_13
 rw [decide_eq_true e0, cond_true, decide_eq_true e5, decide_eq_true e6, Bool.and_self, cond_true, decide_eq_true e7, cond_true, decide_eq_true e8, cond_true, foL_top, foL_drop, decide_eq_true e9, cond_true]
 by_cases h : x = cI v9 i 1
 ·rw [decide_eq_true h, cond_true]
  exact at_ptail go1 c t G r hG hl _ _ 3 b B hst fun h => hgo h _ _ _
 ·rw [decide_eq_false h, cond_false, cond_true]
  exact at_ptail go1 c t G r hG hl _ _ 4 b B hst fun h => hgo h _ _ _
include hi
theorem at12_end (a p kd : Int) (b : Int) (B : Lv) (hk : ¬ k < G.length) (hgo : go0 (withV c G, i + 1, a, p, kd, B, b, foL G) = some r) : chain_At_12 n go0 go1 c.f (ptL c.ps) t v9 i (k : Int) true a p kd B b (foL G) = some r := by
 have e0 : ¬ (k : Int) < ((foL G).length : Int) := by rw [foL_len]; omega
 have e10 : (-9223372036854775808 : Int) ≤ i + 1 := by omega
 have e11 : i + 1 ≤ (9223372036854775807 : Int) := by omega
 unfold chain_At_12
 rw [cond_true]
 unfold chain_At_13
 rw [decide_eq_false e0, cond_false]
 refine (wth hG (by omega) (fun w => bif ((decide ((-9223372036854775808) ≤ (i + 1))) && (decide ((i + 1) ≤ 9223372036854775807))) then go0 (w, i + 1, a, p, kd, B, b, foL G) else none)).trans ?_
 simp only [decide_eq_true e10, decide_eq_true e11, Bool.and_self, cond_true]
 exact hgo
end
section
variable (n : Nat) (go0 : chain_At_s0 → Option chain_At_a) (c : Ch) (t : Int) (v9 : Lv) (i : Int) (G : List Int) (r : chain_At_a) (h : Hp)
 (hi : 0 ≤ i ∧ i ≤ 100) (hG : PInL c G) (hl : G.length ≤ 90) (hP : PIn c h.p) (hh0 : cI v9 i 0 = h.a) (hh1 : cI v9 i 1 = h.p) (hh2 : cB v9 i 2 = h.b) (hst : t < h.a → r = (withV c G, foL G, 0))
include hi hG hl hh0 hh1 hst
theorem at_back (a p kd : Int) (k : Nat) (hk : G.reverse[k]? = some h.p) (hm : ∀ j, j < k → G.reverse[j]? ≠ some h.p) (hn : 200 < n)
  (hgo : h.a ≤ t → ∀ a p kd, go0 (withV c (popd h.p G), i + 1, a, p, kd, foL (popd h.p G), withV c (popd h.p G), foL (popd h.p G)) = some r) :
  iterF (fun go1 s => chain_At_12 n go0 go1 c.f (ptL c.ps) t v9 i (k : Int) s.1 s.2.1 s.2.2.1 s.2.2.2.1 s.2.2.2.2.1 s.2.2.2.2.2.1 s.2.2.2.2.2.2) n ((true, a, p, kd, foL G, withV c G, foL G) : chain_At_s2) = some r := by
 refine iterF_ind (fun s => ∃ (B G' : List Int) (a p kd : Int), s = (true, a, p, kd, foL G', withV c G', foL G') ∧ G = B ++ G' ∧ popd h.p G' = popd h.p G ∧ (t < h.a → G' = G)) (fun s => s.2.2.2.2.1.length) r ?_ n _ ⟨[], G, a, p, kd, rfl, rfl, rfl, fun _ => rfl⟩ (by rw [foL_len]; omega)
 rintro _ go ⟨B, G', a, p, kd, rfl, hB, hp, hsame⟩ ih
 simp only
 have hin : h.p ∈ G' ↔ k < G'.length := by
  subst hB
  exact pop_in hk hm
 have hG' : PInL c G' := fun x hx => hG x (by rw [hB]; exact List.mem_append_right _ hx)
 have hlen : G'.length ≤ 90 := by rw [hB, List.length_append] at hl; omega
 by_cases hkk : k < G'.length
 ·cases G' with
  | nil => simp at hkk
  | cons x G' =>
   have h1 : h.p ∈ x :: G' := hin.2 hkk
   have e1 : popd h.p (x :: G') = popd h.p G' := by rw [popd, if_pos h1]
   refine at12_pop n go0 go c t v9 i G' k r (fun y hy => hG' y (List.mem_cons_of_mem _ hy)) (by simp only [List.length_cons] at hlen; omega) x a p kd _ _ hkk (fun ht => ?_) (fun ht a p kd => ?_)
   ·rw [hh0] at ht
    rw [hsame ht]
    exact hst ht
   ·rw [hh0] at ht
    refine ih _ ⟨B ++ [x], G', a, p, kd, rfl, by rw [hB]; simp, by rw [← hp, e1], fun h => by omega⟩ ?_
    simp only [foL_len, List.length_cons]; omega
 ·have h1 : h.p ∉ G' := fun h => hkk (hin.1 h)
  have e1 : popd h.p G' = G' := popd_no h1
  have ht : h.a ≤ t := by
   rcases Int.lt_or_le t h.a with h2 | h2
   ·exact absurd (by rw [hsame h2]; exact List.mem_reverse.1 (List.mem_of_getElem? hk)) h1
   ·exact h2
  refine at12_end n go0 go c t v9 i G' k r hi hG' hlen a p kd _ _ hkk ?_
  rw [← e1, hp]
  exact hgo ht _ _ _
include hP hh2
theorem at_round (a p kd : Int) (hL : Life c.life) (h0 : 0 ≤ h.a) (hn : 200 < n) (hnl : c.life.length < n)
  (hgo : h.a ≤ t → ∀ a p kd, go0 (withV c (aftH c G h), i + 1, a, p, kd, foL (aftH c G h), withV c (aftH c G h), foL (aftH c G h)) = some r) :
  iterF (fun go1 s => chain_At_6 n go0 go1 c.f (evL c.life) (ptL c.ps) t v9 (withV c G) i a p kd (foL G) (withV c G) (foL G) s) n (0 : chain_At_s1) = some r := by
 refine iterF_ind (fun s => ∃ j : Nat, s = (j : Int) ∧ j ≤ G.length ∧ ∀ j', j' < j → G.reverse[j']? ≠ some h.p) (fun s => G.length - s.toNat) r ?_ n _ ⟨0, rfl, by omega, fun j hj => by omega⟩ (by omega)
 rintro _ go ⟨j, rfl, hj, hm⟩ ih
 have hP' : PIn c (cI v9 i 1) := by rw [hh1]; exact hP
 have p1 : (0 : Int) ≤ cI v9 i 1 := hP'.1
 have p2 : cI v9 i 1 < ((ptL c.ps).length : Int) := by rw [List.length_map]; exact hP'.2
 have hst' : t < cI v9 i 0 → r = (withV c G, foL G, 0) := by rw [hh0]; exact hst
 have hE : h.b = false → ∀ go1, chain_At_9 n go0 go1 c.f (ptL c.ps) t v9 (withV c G) i (foL G) (withV c G) (foL G) (atL c.life (min h.a 10000000)).s (atL c.life (min h.a 10000000)).h = some r := by
  intro hb go1
  refine at9 n go0 go1 c t v9 i G r hi hG hl hP' hst' _ _ fun ht a p kd => ?_
  rw [hh0] at ht
  have hgo := hgo ht a p kd
  rw [hh1]
  have hnb : ¬ h.b = true := by rw [hb]; decide
  unfold aftH at hgo
  rw [if_neg hnb] at hgo
  by_cases ht : Takes c G h
  ·rw [if_pos ht] at hgo
   exact (if_pos ht).trans hgo
  ·rw [if_neg ht] at hgo
   exact (if_neg ht).trans hgo
 unfold chain_At_6
 by_cases hlt : j < G.length
 ·have c1 : (j : Int) < ((foL G).length : Int) := by rw [foL_len]; omega
  have c2 : (0 : Int) ≤ (j : Int) := by omega
  obtain ⟨x, hx⟩ := get_lt (l := G.reverse) (i := j) (by simpa using hlt)
  rw [decide_eq_true c1, cond_true, decide_eq_true c2, cond_true]
  unfold chain_At_7
  rw [foL_cell hx]
  by_cases he : cI v9 i 1 = x
  ·rw [decide_eq_true he, cond_true, decide_eq_true p1, cond_true, decide_eq_true p2, cond_true]
   unfold chain_At_8
   rw [hh2]
   cases hb : h.b with
   | false =>
    rw [Bool.not_false, cond_true, hh0, at_T hL h0 n hnl, Option.bind_some]
    exact hE hb _
   | true =>
    rw [Bool.not_true, cond_false]
    unfold chain_At_11
    have c3 : ¬ (j : Int) < 0 := by omega
    rw [decide_eq_false c3, cond_false]
    have hx' : G.reverse[j]? = some h.p := by rw [hx, ← he, hh1]
    unfold aftH at hgo
    rw [if_pos hb] at hgo
    exact at_back n go0 c t v9 i G r h hi hG hl hh0 hh1 hst a p kd j hx' hm hn hgo
  ·have c4 : (-9223372036854775808 : Int) ≤ (j : Int) + 1 := by omega
   have c5 : (j : Int) + 1 ≤ (9223372036854775807 : Int) := by omega
   rw [decide_eq_false he, cond_false, decide_eq_true c4, decide_eq_true c5, Bool.and_self, cond_true]
   refine ih _ ⟨j + 1, by omega, by omega, fun j' hj' => ?_⟩ (by omega)
   rcases Nat.lt_or_ge j' j with h1 | h1
   ·exact hm j' h1
   ·have : j' = j := by omega
    subst this
    rw [hx, ← hh1]
    exact fun e => he (Option.some.inj e).symm
 ·have c1 : ¬ (j : Int) < ((foL G).length : Int) := by rw [foL_len]; omega
  have hnin : h.p ∉ G := fun hin => by
   obtain ⟨q, hq, he⟩ := List.getElem_of_mem (List.mem_reverse.2 hin)
   have hq' : q < G.length := by simpa using hq
   exact hm q (by omega) (by rw [List.getElem?_eq_getElem hq, he])
  rw [decide_eq_false c1, cond_false, decide_eq_true p1, cond_true, decide_eq_true p2, cond_true]
  unfold chain_At_14
  rw [hh2]
  cases hb : h.b with
  | false =>
   rw [Bool.not_false, cond_true, hh0, at_T hL h0 n hnl, Option.bind_some, at15]
   exact hE hb _
  | true =>
   rw [Bool.not_true, cond_false]
   refine at_tail go0 c t v9 i G r hi hG hl hst' _ _ 5 fun ht => ?_
   rw [hh0] at ht ⊢
   have hgo := hgo ht h.a (cI v9 i 1) 5
   unfold aftH at hgo
   rw [if_pos hb, popd_no hnin] at hgo
   exact hgo
end
theorem takeWhile_take {l : List Hp} (hS : SortedH l) {t : Int} {i : Nat} (h1 : ∀ x ∈ l.take i, x.a ≤ t) (h2 : ∀ x, l[i]? = some x → t < x.a) : l.takeWhile (fun h => decide (h.a ≤ t)) = l.take i := by
 induction l generalizing i with
 | nil => simp
 | cons y l ih =>
  cases i with
  | zero =>
   have := h2 y rfl
   rw [List.takeWhile_cons_of_neg (by simp; omega)]; rfl
  | succ i =>
   have := h1 y (by simp)
   rw [List.takeWhile_cons_of_pos (by simpa using this), List.take_succ_cons, ih hS.2 (fun x hx => h1 x (by simp [hx])) (fun x hx => h2 x hx)]
theorem chain_At_v (n : Nat) (c : Ch) (t : Int) (hl : c.life.length < n) (hn : 200 < n) : chain_At n c.n c.f c.r.a c.r.c c.r.s c.r.r (evL c.life) (ptL c.ps) t = some (if ChV c ∧ 0 ≤ t ∧ t ≤ 20000000 then (withV c (forceAt c t), foL (forceAt c t), 0) else (0, [], 170)) := by
 unfold chain_At chain_At_1
 rw [chain_Valid_v n c hl hn, Option.bind_some]
 unfold chain_At_2
 by_cases h : ChV c
 ·rw [decide_eq_true h, Bool.not_true, cond_false]
  unfold chain_At_3
  by_cases h0 : 0 ≤ t
  ·rw [decide_eq_true h0, cond_true]
   unfold chain_At_4
   by_cases h1 : t ≤ 20000000
   ·rw [if_pos ⟨h, h0, h1⟩, decide_eq_true h1, Bool.not_true, cond_false, chain_happenings_v n c h hn, Option.bind_some]
    obtain ⟨H, hH⟩ : ∃ H, H = hps c := ⟨_, rfl⟩
    have hHl : H.length ≤ 16 := by
     have := hps_len c
     have := h.2.2.2.2.2.1
     rw [hH]; omega
    have hS : SortedH H := by rw [hH]; exact sorted_hps c
    have hF : forceAt c t = force c [] (H.takeWhile fun h => decide (h.a ≤ t)) := by rw [hH]; rfl
    rw [← hH]
    refine iterF_ind (fun s => ∃ (i : Nat) (a p kd : Int), s = (withV c (force c [] (H.take i)), (i : Int), a, p, kd, foL (force c [] (H.take i)), withV c (force c [] (H.take i)), foL (force c [] (H.take i))) ∧ i ≤ H.length ∧ ∀ x ∈ H.take i, x.a ≤ t) (fun s => H.length - s.2.1.toNat) _ ?_ n _ ⟨0, 0, 0, 0, rfl, by omega, fun x hx => by simp at hx⟩ (by simp; omega)
    rintro _ go ⟨i, a, p, kd, rfl, hi, hle⟩ ih
    simp only
    unfold chain_At_5
    by_cases hlt : i < H.length
    ·obtain ⟨x, hx⟩ := get_lt hlt
     obtain ⟨x0, x1, x2⟩ := hp_cells hx
     have hxm : x ∈ hps c := by rw [← hH]; exact List.mem_of_getElem? hx
     have c1 : (i : Int) < ((hpL H).length : Int) := by rw [List.length_map]; omega
     have c2 : (0 : Int) ≤ (i : Int) := by omega
     have hti : (H.take i).length ≤ i := by rw [List.length_take]; omega
     have hfl := force_len c (H.take i) []
     simp only [List.length_nil] at hfl
     have hPx : PIn c x.p := by
      obtain ⟨k, p, g1, g2, _⟩ := hps_port hxm
      have := (List.getElem?_eq_some_iff.1 g1).1
      rw [g2]
      exact ⟨by omega, by omega⟩
     rw [decide_eq_true c1, cond_true, decide_eq_true c2, cond_true]
     refine at_round n go c t (hpL H) i (force c [] (H.take i)) _ x (by omega) (force_in fun y hy => by rw [← hH]; exact List.mem_of_mem_take hy) (by omega) hPx x0 x1 x2 (fun ht => ?_) a p kd h.1 (hps_ge h hxm).1 hn hl (fun ht a p kd => ?_)
     ·rw [hF, takeWhile_take hS hle (fun y hy => by rw [hx] at hy; cases hy; exact ht)]
     ·have e1 : H.take (i + 1) = H.take i ++ [x] := take_snoc hx
      have e2 : force c [] (H.take (i + 1)) = aftH c (force c [] (H.take i)) x := by rw [e1]; simp [force]
      rw [← e2]
      refine ih _ ⟨i + 1, a, p, kd, rfl, by omega, fun y hy => ?_⟩ (by simp only; omega)
      rw [e1] at hy
      rcases List.mem_append.1 hy with hy | hy
      ·exact hle y hy
      ·rw [List.mem_singleton] at hy; rw [hy]; exact ht
    ·have h00 : i = H.length := by omega
     have c1 : ¬ (i : Int) < ((hpL H).length : Int) := by rw [List.length_map]; omega
     rw [decide_eq_false c1, cond_false, hF, takeWhile_take hS hle (fun y hy => by rw [h00] at hy; simp at hy)]
   ·rw [if_neg (fun h => h1 h.2.2), decide_eq_false h1, Bool.not_false, cond_true]
  ·rw [if_neg (fun h => h0 h.2.1), decide_eq_false h0, cond_false]
 ·rw [if_neg (fun hh => h hh.1), decide_eq_false h, Bool.not_false, cond_true]
end Go.Proofs.YtjllgiddmeiaoaaGreat
set_option maxRecDepth 100000
namespace Go.Proofs.YtjllgiddmeiaoaaGreat
open Go Go.Sx
noncomputable section
def consD5 : List Nat := [5, 6, 7, 8, 9, 10, 11, 12, 13, 14, 15, 16, 17, 18, 19, 20, 21, 22, 23, 24, 28, 29, 30, 31, 32, 33, 34, 35, 36, 37, 39, 41, 42, 43, 45, 47, 48, 49, 50, 51, 64, 66, 67, 69, 70, 73, 75, 76, 77, 79, 80, 81, 86, 88, 100, 101, 102, 103, 108, 111, 113, 114, 115, 132, 133, 142, 1000007, 1000008, 1000036, 1000037]
def mapsD5 : List (Nat × SV × SV) := [(117, SV.of [.agg (SV.of [.vi (.int 1), .vi (.int 1)]), .agg (SV.of [.vi (.int 2), .vi (.int 1)]), .agg (SV.of [.vi (.int 3), .vi (.int 2)]), .agg (SV.of [.vi (.int 4), .vi (.int 2)]), .agg (SV.of [.vi (.int 5), .vi (.int 1)]), .agg (SV.of [.vi (.int 5), .vi (.int 2)]), .agg (SV.of [.vi (.int 5), .vi (.int 3)]), .agg (SV.of [.vi (.int 6), .vi (.int 4)])], SV.of [.vi (.int 3), .vi (.int 2), .vi (.int 3), .vi (.int 6), .vi (.int 7), .vi (.int 7), .vi (.int 7), .vi (.int 8)])]
abbrev ref17_pick_a := Int
def ref17_pick_1 (n : Nat) (v0 v1 : Int) : Option ref17_pick_a :=
 (bif (decide (v0 < 0)) then bif ((decide ((-9223372036854775808) ≤ (v0 + 1))) && (decide ((v0 + 1) ≤ 9223372036854775807))) then bif ((decide ((-9223372036854775808) ≤ (0 - (v0 + 1)))) && (decide ((0 - (v0 + 1)) ≤ 9223372036854775807))) then bif (!(decide (v1 = 0))) then some (Int.tmod (0 - (v0 + 1)) v1) else none else none else none
 else bif (!(decide (v1 = 0))) then some (Int.tmod v0 v1) else none)
def ref17_pick (n : Nat) (v0 v1 : Int) : Option ref17_pick_a := ref17_pick_1 n v0 v1
def ref17_pick_t : FnT := ⟨[(false, [.int]), (false, [.int])], .i, fun n (s : Int × Int) => ref17_pick n s.1 s.2⟩
theorem ref17_pick_ok : ref17_pick_t.ok Tryz.prog 30 := FnT.ok_of (cfg := ⟨[], consD5, [], mapsD5⟩) (tab := ref17_Holders_T) (mt := mtE) pfit ref17_Holders_T_ok mtE_ok (fun s fn hf => by rw [Tryz.func30] at hf; cases hf; kernel_rfl) (fun n s => by kernel_rfl)
def ref17_pick_T : Tab := (30, ref17_pick_t) :: ref17_Holders_T
theorem ref17_pick_T_ok : ref17_pick_T.ok Tryz.prog := Tab.ok_cons ref17_pick_ok ref17_Holders_T_ok
abbrev ref17_Made_a := Int × Int × Int × Int × Int × Int × Lv × Lv
abbrev ref17_Made_s0 := Int × Lv
def ref17_Made_9 (n : Nat) (go0 : ref17_Made_s0 → Option ref17_Made_a) (go1 : ref17_Made_s0 → Option ref17_Made_a) (v15 v36 : Int) (v37 : Lv) : Option ref17_Made_a :=
 (bif (decide (0 < v36)) then bif (decide (0 ≤ v36)) then bif (decide (v36 < (v37.length : Int))) then bif ((decide ((-9223372036854775808) ≤ (v36 - 1))) && (decide ((v36 - 1) ≤ 9223372036854775807))) then bif (decide (0 ≤ (v36 - 1))) then bif (decide ((v36 - 1) < (v37.length : Int))) then (bif (decide ((cI v37 v36 4) < (cI v37 (v36 - 1) 4))) then go1 ((v36 - 1), (List.modify (List.modify (List.modify (List.modify (List.modify (List.modify (List.modify (List.modify (List.modify (List.modify (List.modify (List.modify (List.modify (List.modify v37 (v36).toNat (fun r => r.set 0 (AV.int (cI v37 (v36 - 1) 0)))) (v36).toNat (fun r => r.set 1 (AV.int (cI v37 (v36 - 1) 1)))) (v36).toNat (fun r => r.set 2 (AV.int (cI v37 (v36 - 1) 2)))) (v36).toNat (fun r => r.set 3 (AV.int (cI v37 (v36 - 1) 3)))) (v36).toNat (fun r => r.set 4 (AV.int (cI v37 (v36 - 1) 4)))) (v36).toNat (fun r => r.set 5 (AV.bool (cB v37 (v36 - 1) 5)))) (v36).toNat (fun r => r.set 6 (AV.sl (.cons .int (.cons .int (.cons .int .nil))) (cL v37 (v36 - 1) 6)))) ((v36 - 1)).toNat (fun r => r.set 0 (AV.int (cI v37 v36 0)))) ((v36 - 1)).toNat (fun r => r.set 1 (AV.int (cI v37 v36 1)))) ((v36 - 1)).toNat (fun r => r.set 2 (AV.int (cI v37 v36 2)))) ((v36 - 1)).toNat (fun r => r.set 3 (AV.int (cI v37 v36 3)))) ((v36 - 1)).toNat (fun r => r.set 4 (AV.int (cI v37 v36 4)))) ((v36 - 1)).toNat (fun r => r.set 5 (AV.bool (cB v37 v36 5)))) ((v36 - 1)).toNat (fun r => r.set 6 (AV.sl (.cons .int (.cons .int (.cons .int .nil))) (cL v37 v36 6)))))
 else bif ((decide ((-9223372036854775808) ≤ (v15 + 1))) && (decide ((v15 + 1) ≤ 9223372036854775807))) then go0 ((v15 + 1), v37) else none) else none else none else none else none else none
 else bif ((decide ((-9223372036854775808) ≤ (v15 + 1))) && (decide ((v15 + 1) ≤ 9223372036854775807))) then go0 ((v15 + 1), v37) else none)
abbrev ref17_Made_10 := @ref17_Made_9
def ref17_Made_8 (n : Nat) (go0 : ref17_Made_s0 → Option ref17_Made_a) (v8 v15 : Int) (v16 : Lv) (v23 v24 v25 : Int) (v26 : Bool) (v27 : Lv) (v28 v31 v35 : Int) : Option ref17_Made_a :=
 (bif (decide (v35 < 7)) then bif (decide ((((v16.length : Int) + 1) * 72) ≤ 140737488355328)) then bif ((decide ((-9223372036854775808) ≤ (((v16.length : Int) + 1) - 1))) && (decide ((((v16.length : Int) + 1) - 1) ≤ 9223372036854775807))) then (iterF (fun go1 s => ref17_Made_9 n go0 go1 v15 s.1 s.2) n (((((v16.length : Int) + 1) - 1), (v16 ++ [[(AV.int v8), (AV.int (cI v16 (((v16.length : Int) - v28) - 1) 2)), (AV.int (Int.tmod (v23 + 1) 8)), (AV.int v31), (AV.int v25), (AV.bool v26), (AV.sl (.cons .int (.cons .int (.cons .int .nil))) v27)]])) : ref17_Made_s0)) else none else none
 else bif (decide ((((v16.length : Int) + 1) * 72) ≤ 140737488355328)) then bif ((decide ((-9223372036854775808) ≤ (((v16.length : Int) + 1) - 1))) && (decide ((((v16.length : Int) + 1) - 1) ≤ 9223372036854775807))) then (iterF (fun go1 s => ref17_Made_10 n go0 go1 v15 s.1 s.2) n (((((v16.length : Int) + 1) - 1), (v16 ++ [[(AV.int v8), (AV.int (cI v16 (((v16.length : Int) - v28) - 1) 2)), (AV.int (Int.tmod (v23 + 1) 8)), (AV.int v24), (AV.int v25), (AV.bool v26), (AV.sl (.cons .int (.cons .int (.cons .int .nil))) v27)]])) : ref17_Made_s0)) else none else none)
abbrev ref17_Made_11 := @ref17_Made_9
def ref17_Made_7 (n : Nat) (go0 : ref17_Made_s0 → Option ref17_Made_a) (v7 : Lv) (v8 v15 : Int) (v16 : Lv) (v23 v24 v25 : Int) (v26 : Bool) (v27 : Lv) (v28 v31 : Int) : Option ref17_Made_a :=
 (bif (decide (0 ≤ v31)) then bif ((decide ((-9223372036854775808) ≤ (Int.tdiv (cI v7 v15 7) 16))) && (decide ((Int.tdiv (cI v7 v15 7) 16) ≤ 9223372036854775807))) then (ref17_pick n (Int.tdiv (cI v7 v15 7) 16) 8).bind fun y35 =>
 ref17_Made_8 n go0 v8 v15 v16 v23 v24 v25 v26 v27 v28 v31 y35 else none
 else bif (decide ((((v16.length : Int) + 1) * 72) ≤ 140737488355328)) then bif ((decide ((-9223372036854775808) ≤ (((v16.length : Int) + 1) - 1))) && (decide ((((v16.length : Int) + 1) - 1) ≤ 9223372036854775807))) then (iterF (fun go1 s => ref17_Made_11 n go0 go1 v15 s.1 s.2) n (((((v16.length : Int) + 1) - 1), (v16 ++ [[(AV.int v8), (AV.int (cI v16 (((v16.length : Int) - v28) - 1) 2)), (AV.int (Int.tmod (v23 + 1) 8)), (AV.int v24), (AV.int v25), (AV.bool v26), (AV.sl (.cons .int (.cons .int (.cons .int .nil))) v27)]])) : ref17_Made_s0)) else none else none)
abbrev ref17_Made_14 := @ref17_Made_9
abbrev ref17_Made_15 := @ref17_Made_9
def ref17_Made_13 (n : Nat) (go0 : ref17_Made_s0 → Option ref17_Made_a) (v8 v15 : Int) (v16 : Lv) (v23 v24 v25 : Int) (v26 : Bool) (v27 : Lv) (v28 v31 v35 : Int) : Option ref17_Made_a :=
 (bif (decide (v35 < 7)) then bif (decide ((((v16.length : Int) + 1) * 72) ≤ 140737488355328)) then bif ((decide ((-9223372036854775808) ≤ (((v16.length : Int) + 1) - 1))) && (decide ((((v16.length : Int) + 1) - 1) ≤ 9223372036854775807))) then (iterF (fun go1 s => ref17_Made_14 n go0 go1 v15 s.1 s.2) n (((((v16.length : Int) + 1) - 1), (v16 ++ [[(AV.int v8), (AV.int (cI v16 (((v16.length : Int) - v28) - 1) 2)), (AV.int v23), (AV.int v31), (AV.int v25), (AV.bool v26), (AV.sl (.cons .int (.cons .int (.cons .int .nil))) v27)]])) : ref17_Made_s0)) else none else none
 else bif (decide ((((v16.length : Int) + 1) * 72) ≤ 140737488355328)) then bif ((decide ((-9223372036854775808) ≤ (((v16.length : Int) + 1) - 1))) && (decide ((((v16.length : Int) + 1) - 1) ≤ 9223372036854775807))) then (iterF (fun go1 s => ref17_Made_15 n go0 go1 v15 s.1 s.2) n (((((v16.length : Int) + 1) - 1), (v16 ++ [[(AV.int v8), (AV.int (cI v16 (((v16.length : Int) - v28) - 1) 2)), (AV.int v23), (AV.int v24), (AV.int v25), (AV.bool v26), (AV.sl (.cons .int (.cons .int (.cons .int .nil))) v27)]])) : ref17_Made_s0)) else none else none)
abbrev ref17_Made_16 := @ref17_Made_9
def ref17_Made_12 (n : Nat) (go0 : ref17_Made_s0 → Option ref17_Made_a) (v7 : Lv) (v8 v15 : Int) (v16 : Lv) (v23 v24 v25 : Int) (v26 : Bool) (v27 : Lv) (v28 v31 : Int) : Option ref17_Made_a :=
 (bif (decide (0 ≤ v31)) then bif ((decide ((-9223372036854775808) ≤ (Int.tdiv (cI v7 v15 7) 16))) && (decide ((Int.tdiv (cI v7 v15 7) 16) ≤ 9223372036854775807))) then (ref17_pick n (Int.tdiv (cI v7 v15 7) 16) 8).bind fun y35 =>
 ref17_Made_13 n go0 v8 v15 v16 v23 v24 v25 v26 v27 v28 v31 y35 else none
 else bif (decide ((((v16.length : Int) + 1) * 72) ≤ 140737488355328)) then bif ((decide ((-9223372036854775808) ≤ (((v16.length : Int) + 1) - 1))) && (decide ((((v16.length : Int) + 1) - 1) ≤ 9223372036854775807))) then (iterF (fun go1 s => ref17_Made_16 n go0 go1 v15 s.1 s.2) n (((((v16.length : Int) + 1) - 1), (v16 ++ [[(AV.int v8), (AV.int (cI v16 (((v16.length : Int) - v28) - 1) 2)), (AV.int v23), (AV.int v24), (AV.int v25), (AV.bool v26), (AV.sl (.cons .int (.cons .int (.cons .int .nil))) v27)]])) : ref17_Made_s0)) else none else none)
def ref17_Made_6 (n : Nat) (go0 : ref17_Made_s0 → Option ref17_Made_a) (v7 : Lv) (v8 : Int) (v14 : Lv) (v15 : Int) (v16 : Lv) (v23 v24 v25 : Int) (v26 : Bool) (v27 : Lv) (v28 : Int) : Option ref17_Made_a :=
 (bif (decide ((cI v16 (((v16.length : Int) - v28) - 1) 2) = v23)) then bif ((decide ((-9223372036854775808) ≤ (v23 + 1))) && (decide ((v23 + 1) ≤ 9223372036854775807))) then (ref14_At n v14 v25).bind fun y30 =>
 ref17_Made_7 n go0 v7 v8 v15 v16 v23 v24 v25 v26 v27 v28 y30.2.1 else none
 else (ref14_At n v14 v25).bind fun y30 =>
 ref17_Made_12 n go0 v7 v8 v15 v16 v23 v24 v25 v26 v27 v28 y30.2.1)
abbrev ref17_Made_20 := @ref17_Made_9
abbrev ref17_Made_21 := @ref17_Made_9
def ref17_Made_19 (n : Nat) (go0 : ref17_Made_s0 → Option ref17_Made_a) (v8 v9 v15 : Int) (v16 : Lv) (v23 v24 v25 : Int) (v26 : Bool) (v27 : Lv) (v31 v35 : Int) : Option ref17_Made_a :=
 (bif (decide (v35 < 7)) then bif (decide ((((v16.length : Int) + 1) * 72) ≤ 140737488355328)) then bif ((decide ((-9223372036854775808) ≤ (((v16.length : Int) + 1) - 1))) && (decide ((((v16.length : Int) + 1) - 1) ≤ 9223372036854775807))) then (iterF (fun go1 s => ref17_Made_20 n go0 go1 v15 s.1 s.2) n (((((v16.length : Int) + 1) - 1), (v16 ++ [[(AV.int v8), (AV.int v9), (AV.int (Int.tmod (v23 + 1) 8)), (AV.int v31), (AV.int v25), (AV.bool v26), (AV.sl (.cons .int (.cons .int (.cons .int .nil))) v27)]])) : ref17_Made_s0)) else none else none
 else bif (decide ((((v16.length : Int) + 1) * 72) ≤ 140737488355328)) then bif ((decide ((-9223372036854775808) ≤ (((v16.length : Int) + 1) - 1))) && (decide ((((v16.length : Int) + 1) - 1) ≤ 9223372036854775807))) then (iterF (fun go1 s => ref17_Made_21 n go0 go1 v15 s.1 s.2) n (((((v16.length : Int) + 1) - 1), (v16 ++ [[(AV.int v8), (AV.int v9), (AV.int (Int.tmod (v23 + 1) 8)), (AV.int v24), (AV.int v25), (AV.bool v26), (AV.sl (.cons .int (.cons .int (.cons .int .nil))) v27)]])) : ref17_Made_s0)) else none else none)
abbrev ref17_Made_22 := @ref17_Made_9
def ref17_Made_18 (n : Nat) (go0 : ref17_Made_s0 → Option ref17_Made_a) (v7 : Lv) (v8 v9 v15 : Int) (v16 : Lv) (v23 v24 v25 : Int) (v26 : Bool) (v27 : Lv) (v31 : Int) : Option ref17_Made_a :=
 (bif (decide (0 ≤ v31)) then bif ((decide ((-9223372036854775808) ≤ (Int.tdiv (cI v7 v15 7) 16))) && (decide ((Int.tdiv (cI v7 v15 7) 16) ≤ 9223372036854775807))) then (ref17_pick n (Int.tdiv (cI v7 v15 7) 16) 8).bind fun y35 =>
 ref17_Made_19 n go0 v8 v9 v15 v16 v23 v24 v25 v26 v27 v31 y35 else none
 else bif (decide ((((v16.length : Int) + 1) * 72) ≤ 140737488355328)) then bif ((decide ((-9223372036854775808) ≤ (((v16.length : Int) + 1) - 1))) && (decide ((((v16.length : Int) + 1) - 1) ≤ 9223372036854775807))) then (iterF (fun go1 s => ref17_Made_22 n go0 go1 v15 s.1 s.2) n (((((v16.length : Int) + 1) - 1), (v16 ++ [[(AV.int v8), (AV.int v9), (AV.int (Int.tmod (v23 + 1) 8)), (AV.int v24), (AV.int v25), (AV.bool v26), (AV.sl (.cons .int (.cons .int (.cons .int .nil))) v27)]])) : ref17_Made_s0)) else none else none)
abbrev ref17_Made_25 := @ref17_Made_9
abbrev ref17_Made_26 := @ref17_Made_9
def ref17_Made_24 (n : Nat) (go0 : ref17_Made_s0 → Option ref17_Made_a) (v8 v9 v15 : Int) (v16 : Lv) (v23 v24 v25 : Int) (v26 : Bool) (v27 : Lv) (v31 v35 : Int) : Option ref17_Made_a :=
 (bif (decide (v35 < 7)) then bif (decide ((((v16.length : Int) + 1) * 72) ≤ 140737488355328)) then bif ((decide ((-9223372036854775808) ≤ (((v16.length : Int) + 1) - 1))) && (decide ((((v16.length : Int) + 1) - 1) ≤ 9223372036854775807))) then (iterF (fun go1 s => ref17_Made_25 n go0 go1 v15 s.1 s.2) n (((((v16.length : Int) + 1) - 1), (v16 ++ [[(AV.int v8), (AV.int v9), (AV.int v23), (AV.int v31), (AV.int v25), (AV.bool v26), (AV.sl (.cons .int (.cons .int (.cons .int .nil))) v27)]])) : ref17_Made_s0)) else none else none
 else bif (decide ((((v16.length : Int) + 1) * 72) ≤ 140737488355328)) then bif ((decide ((-9223372036854775808) ≤ (((v16.length : Int) + 1) - 1))) && (decide ((((v16.length : Int) + 1) - 1) ≤ 9223372036854775807))) then (iterF (fun go1 s => ref17_Made_26 n go0 go1 v15 s.1 s.2) n (((((v16.length : Int) + 1) - 1), (v16 ++ [[(AV.int v8), (AV.int v9), (AV.int v23), (AV.int v24), (AV.int v25), (AV.bool v26), (AV.sl (.cons .int (.cons .int (.cons .int .nil))) v27)]])) : ref17_Made_s0)) else none else none)
abbrev ref17_Made_27 := @ref17_Made_9
def ref17_Made_23 (n : Nat) (go0 : ref17_Made_s0 → Option ref17_Made_a) (v7 : Lv) (v8 v9 v15 : Int) (v16 : Lv) (v23 v24 v25 : Int) (v26 : Bool) (v27 : Lv) (v31 : Int) : Option ref17_Made_a :=
 (bif (decide (0 ≤ v31)) then bif ((decide ((-9223372036854775808) ≤ (Int.tdiv (cI v7 v15 7) 16))) && (decide ((Int.tdiv (cI v7 v15 7) 16) ≤ 9223372036854775807))) then (ref17_pick n (Int.tdiv (cI v7 v15 7) 16) 8).bind fun y35 =>
 ref17_Made_24 n go0 v8 v9 v15 v16 v23 v24 v25 v26 v27 v31 y35 else none
 else bif (decide ((((v16.length : Int) + 1) * 72) ≤ 140737488355328)) then bif ((decide ((-9223372036854775808) ≤ (((v16.length : Int) + 1) - 1))) && (decide ((((v16.length : Int) + 1) - 1) ≤ 9223372036854775807))) then (iterF (fun go1 s => ref17_Made_27 n go0 go1 v15 s.1 s.2) n (((((v16.length : Int) + 1) - 1), (v16 ++ [[(AV.int v8), (AV.int v9), (AV.int v23), (AV.int v24), (AV.int v25), (AV.bool v26), (AV.sl (.cons .int (.cons .int (.cons .int .nil))) v27)]])) : ref17_Made_s0)) else none else none)
def ref17_Made_17 (n : Nat) (go0 : ref17_Made_s0 → Option ref17_Made_a) (v7 : Lv) (v8 v9 : Int) (v14 : Lv) (v15 : Int) (v16 : Lv) (v23 v24 v25 : Int) (v26 : Bool) (v27 : Lv) : Option ref17_Made_a :=
 (bif (decide (v9 = v23)) then bif ((decide ((-9223372036854775808) ≤ (v23 + 1))) && (decide ((v23 + 1) ≤ 9223372036854775807))) then (ref14_At n v14 v25).bind fun y30 =>
 ref17_Made_18 n go0 v7 v8 v9 v15 v16 v23 v24 v25 v26 v27 y30.2.1 else none
 else (ref14_At n v14 v25).bind fun y30 =>
 ref17_Made_23 n go0 v7 v8 v9 v15 v16 v23 v24 v25 v26 v27 y30.2.1)
def ref17_Made_5 (n : Nat) (go0 : ref17_Made_s0 → Option ref17_Made_a) (v7 : Lv) (v8 v9 : Int) (v14 : Lv) (v15 : Int) (v16 : Lv) (v23 v24 v25 : Int) (v26 : Bool) (v27 : Lv) (v28 : Int) : Option ref17_Made_a :=
 (bif (decide (0 < ((v16.length : Int) - v28))) then bif ((decide ((-9223372036854775808) ≤ (((v16.length : Int) - v28) - 1))) && (decide ((((v16.length : Int) - v28) - 1) ≤ 9223372036854775807))) then bif (decide (0 ≤ (((v16.length : Int) - v28) - 1))) then bif (decide ((((v16.length : Int) - v28) - 1) < (v16.length : Int))) then ref17_Made_6 n go0 v7 v8 v14 v15 v16 v23 v24 v25 v26 v27 v28 else none else none else none
 else ref17_Made_17 n go0 v7 v8 v9 v14 v15 v16 v23 v24 v25 v26 v27)
abbrev ref17_Made_31 := @ref17_Made_9
abbrev ref17_Made_32 := @ref17_Made_9
def ref17_Made_30 (n : Nat) (go0 : ref17_Made_s0 → Option ref17_Made_a) (v8 v15 : Int) (v16 : Lv) (v22 v23 v24 v25 : Int) (v26 : Bool) (v27 : Lv) (v31 v35 : Int) : Option ref17_Made_a :=
 (bif (decide (v35 < 7)) then bif (decide ((((v16.length : Int) + 1) * 72) ≤ 140737488355328)) then bif ((decide ((-9223372036854775808) ≤ (((v16.length : Int) + 1) - 1))) && (decide ((((v16.length : Int) + 1) - 1) ≤ 9223372036854775807))) then (iterF (fun go1 s => ref17_Made_31 n go0 go1 v15 s.1 s.2) n (((((v16.length : Int) + 1) - 1), (v16 ++ [[(AV.int v8), (AV.int v22), (AV.int (Int.tmod (v23 + 1) 8)), (AV.int v31), (AV.int v25), (AV.bool v26), (AV.sl (.cons .int (.cons .int (.cons .int .nil))) v27)]])) : ref17_Made_s0)) else none else none
 else bif (decide ((((v16.length : Int) + 1) * 72) ≤ 140737488355328)) then bif ((decide ((-9223372036854775808) ≤ (((v16.length : Int) + 1) - 1))) && (decide ((((v16.length : Int) + 1) - 1) ≤ 9223372036854775807))) then (iterF (fun go1 s => ref17_Made_32 n go0 go1 v15 s.1 s.2) n (((((v16.length : Int) + 1) - 1), (v16 ++ [[(AV.int v8), (AV.int v22), (AV.int (Int.tmod (v23 + 1) 8)), (AV.int v24), (AV.int v25), (AV.bool v26), (AV.sl (.cons .int (.cons .int (.cons .int .nil))) v27)]])) : ref17_Made_s0)) else none else none)
abbrev ref17_Made_33 := @ref17_Made_9
def ref17_Made_29 (n : Nat) (go0 : ref17_Made_s0 → Option ref17_Made_a) (v7 : Lv) (v8 v15 : Int) (v16 : Lv) (v22 v23 v24 v25 : Int) (v26 : Bool) (v27 : Lv) (v31 : Int) : Option ref17_Made_a :=
 (bif (decide (0 ≤ v31)) then bif ((decide ((-9223372036854775808) ≤ (Int.tdiv (cI v7 v15 7) 16))) && (decide ((Int.tdiv (cI v7 v15 7) 16) ≤ 9223372036854775807))) then (ref17_pick n (Int.tdiv (cI v7 v15 7) 16) 8).bind fun y35 =>
 ref17_Made_30 n go0 v8 v15 v16 v22 v23 v24 v25 v26 v27 v31 y35 else none
 else bif (decide ((((v16.length : Int) + 1) * 72) ≤ 140737488355328)) then bif ((decide ((-9223372036854775808) ≤ (((v16.length : Int) + 1) - 1))) && (decide ((((v16.length : Int) + 1) - 1) ≤ 9223372036854775807))) then (iterF (fun go1 s => ref17_Made_33 n go0 go1 v15 s.1 s.2) n (((((v16.length : Int) + 1) - 1), (v16 ++ [[(AV.int v8), (AV.int v22), (AV.int (Int.tmod (v23 + 1) 8)), (AV.int v24), (AV.int v25), (AV.bool v26), (AV.sl (.cons .int (.cons .int (.cons .int .nil))) v27)]])) : ref17_Made_s0)) else none else none)
abbrev ref17_Made_36 := @ref17_Made_9
abbrev ref17_Made_37 := @ref17_Made_9
def ref17_Made_35 (n : Nat) (go0 : ref17_Made_s0 → Option ref17_Made_a) (v8 v15 : Int) (v16 : Lv) (v22 v23 v24 v25 : Int) (v26 : Bool) (v27 : Lv) (v31 v35 : Int) : Option ref17_Made_a :=
 (bif (decide (v35 < 7)) then bif (decide ((((v16.length : Int) + 1) * 72) ≤ 140737488355328)) then bif ((decide ((-9223372036854775808) ≤ (((v16.length : Int) + 1) - 1))) && (decide ((((v16.length : Int) + 1) - 1) ≤ 9223372036854775807))) then (iterF (fun go1 s => ref17_Made_36 n go0 go1 v15 s.1 s.2) n (((((v16.length : Int) + 1) - 1), (v16 ++ [[(AV.int v8), (AV.int v22), (AV.int v23), (AV.int v31), (AV.int v25), (AV.bool v26), (AV.sl (.cons .int (.cons .int (.cons .int .nil))) v27)]])) : ref17_Made_s0)) else none else none
 else bif (decide ((((v16.length : Int) + 1) * 72) ≤ 140737488355328)) then bif ((decide ((-9223372036854775808) ≤ (((v16.length : Int) + 1) - 1))) && (decide ((((v16.length : Int) + 1) - 1) ≤ 9223372036854775807))) then (iterF (fun go1 s => ref17_Made_37 n go0 go1 v15 s.1 s.2) n (((((v16.length : Int) + 1) - 1), (v16 ++ [[(AV.int v8), (AV.int v22), (AV.int v23), (AV.int v24), (AV.int v25), (AV.bool v26), (AV.sl (.cons .int (.cons .int (.cons .int .nil))) v27)]])) : ref17_Made_s0)) else none else none)
abbrev ref17_Made_38 := @ref17_Made_9
def ref17_Made_34 (n : Nat) (go0 : ref17_Made_s0 → Option ref17_Made_a) (v7 : Lv) (v8 v15 : Int) (v16 : Lv) (v22 v23 v24 v25 : Int) (v26 : Bool) (v27 : Lv) (v31 : Int) : Option ref17_Made_a :=
 (bif (decide (0 ≤ v31)) then bif ((decide ((-9223372036854775808) ≤ (Int.tdiv (cI v7 v15 7) 16))) && (decide ((Int.tdiv (cI v7 v15 7) 16) ≤ 9223372036854775807))) then (ref17_pick n (Int.tdiv (cI v7 v15 7) 16) 8).bind fun y35 =>
 ref17_Made_35 n go0 v8 v15 v16 v22 v23 v24 v25 v26 v27 v31 y35 else none
 else bif (decide ((((v16.length : Int) + 1) * 72) ≤ 140737488355328)) then bif ((decide ((-9223372036854775808) ≤ (((v16.length : Int) + 1) - 1))) && (decide ((((v16.length : Int) + 1) - 1) ≤ 9223372036854775807))) then (iterF (fun go1 s => ref17_Made_38 n go0 go1 v15 s.1 s.2) n (((((v16.length : Int) + 1) - 1), (v16 ++ [[(AV.int v8), (AV.int v22), (AV.int v23), (AV.int v24), (AV.int v25), (AV.bool v26), (AV.sl (.cons .int (.cons .int (.cons .int .nil))) v27)]])) : ref17_Made_s0)) else none else none)
def ref17_Made_28 (n : Nat) (go0 : ref17_Made_s0 → Option ref17_Made_a) (v7 : Lv) (v8 : Int) (v14 : Lv) (v15 : Int) (v16 : Lv) (v22 v23 v24 v25 : Int) (v26 : Bool) (v27 : Lv) : Option ref17_Made_a :=
 (bif (decide (v22 = v23)) then bif ((decide ((-9223372036854775808) ≤ (v23 + 1))) && (decide ((v23 + 1) ≤ 9223372036854775807))) then (ref14_At n v14 v25).bind fun y30 =>
 ref17_Made_29 n go0 v7 v8 v15 v16 v22 v23 v24 v25 v26 v27 y30.2.1 else none
 else (ref14_At n v14 v25).bind fun y30 =>
 ref17_Made_34 n go0 v7 v8 v15 v16 v22 v23 v24 v25 v26 v27 y30.2.1)
def ref17_Made_4 (n : Nat) (go0 : ref17_Made_s0 → Option ref17_Made_a) (v7 : Lv) (v8 v9 : Int) (v14 : Lv) (v15 : Int) (v16 : Lv) (v22 v23 v24 v25 : Int) (v26 : Bool) (v27 : Lv) (v28 v29 : Int) : Option ref17_Made_a :=
 (bif (decide (v29 < 15)) then ref17_Made_5 n go0 v7 v8 v9 v14 v15 v16 v23 v24 v25 v26 v27 v28
 else ref17_Made_28 n go0 v7 v8 v14 v15 v16 v22 v23 v24 v25 v26 v27)
def ref17_Made_3 (n : Nat) (go0 : ref17_Made_s0 → Option ref17_Made_a) (v2 v3 v4 v5 : Int) (v7 : Lv) (v8 v9 v10 v11 v12 v13 : Int) (v14 : Lv) (v15 : Int) (v16 : Lv) : Option ref17_Made_a :=
 (bif (decide (v15 < 5)) then bif (decide (0 ≤ v15)) then (ref16_Made n v2 v3 v4 v5 (cI v7 v15 0) (cI v7 v15 1) (cI v7 v15 2) (cI v7 v15 3) (cI v7 v15 4) (cI v7 v15 5) (cL v7 v15 6)).bind fun y17 =>
 (ref17_pick n (cI v7 v15 7) 3).bind fun y28 =>
 bif ((decide ((-9223372036854775808) ≤ ((v16.length : Int) - y28))) && (decide (((v16.length : Int) - y28) ≤ 9223372036854775807))) then (ref17_pick n (cI v7 v15 7) 16).bind fun y29 =>
 ref17_Made_4 n go0 v7 v8 v9 v14 v15 v16 y17.2.2.2.2.2.1 y17.2.2.2.2.2.2.1 y17.2.2.2.2.2.2.2.1 y17.2.2.2.2.2.2.2.2.1 y17.2.2.2.2.2.2.2.2.2.1 y17.2.2.2.2.2.2.2.2.2.2 y28 y29 else none else none
 else some (v8, v9, v10, v11, v12, v13, v14, v16))
def ref17_Made_2 (n : Nat) (go0 : ref17_Made_s0 → Option ref17_Made_a) (v2 v3 v4 v5 : Int) (v7 : Lv) (v8 v9 v10 v11 v12 v13 : Int) (v14 : Lv) (v15 : Int) (v16 : Lv) : Option ref17_Made_a :=
 (bif (decide (v15 < (v7.length : Int))) then ref17_Made_3 n go0 v2 v3 v4 v5 v7 v8 v9 v10 v11 v12 v13 v14 v15 v16
 else some (v8, v9, v10, v11, v12, v13, v14, v16))
def ref17_Made_1 (n : Nat) (v0 v1 v2 v3 v4 v5 : Int) (v6 v7 : Lv) : Option ref17_Made_a :=
 (ref17_pick n v0 100000000).bind fun y8 =>
 (ref17_pick n v1 8).bind fun y9 =>
 (ref16_MadeRules n v2 v3 v4 v5).bind fun y10 =>
 (ref14_Made n v6).bind fun y14 =>
 (iterF (fun go0 s => ref17_Made_2 n go0 v2 v3 v4 v5 v7 y8 y9 y10.1 y10.2.1 y10.2.2.1 y10.2.2.2 y14 s.1 s.2) n ((0, ([] : Lv)) : ref17_Made_s0))
def ref17_Made (n : Nat) (v0 v1 v2 v3 v4 v5 : Int) (v6 v7 : Lv) : Option ref17_Made_a := ref17_Made_1 n v0 v1 v2 v3 v4 v5 v6 v7
def ref17_Made_t : FnT := ⟨[(true, [.int, .int, .int, .int, .int, .int, (.sl (.cons .int (.cons .int (.cons .int .nil)))), (.sl (.cons .int (.cons .int (.cons .int (.cons .int (.cons .int (.cons .int (.cons (.sl (.cons .int (.cons .int (.cons .int .nil)))) (.cons .int .nil)))))))))])], (.agg (.cons .i (.cons .i (.cons .i (.cons .i (.cons .i (.cons .i (.cons (.row 131 (.cons .int (.cons .int (.cons .int .nil)))) (.cons (.row 91 (.cons .int (.cons .int (.cons .int (.cons .int (.cons .int (.cons .bool (.cons (.sl (.cons .int (.cons .int (.cons .int .nil)))) .nil)))))))) .nil))))))))), fun n (s : Int × Int × Int × Int × Int × Int × Lv × Lv) => ref17_Made n s.1 s.2.1 s.2.2.1 s.2.2.2.1 s.2.2.2.2.1 s.2.2.2.2.2.1 s.2.2.2.2.2.2.1 s.2.2.2.2.2.2.2⟩
theorem ref17_Made_ok : ref17_Made_t.ok Tryz.prog 6 := FnT.ok_of (cfg := ⟨[((6, 3, 5), .inv [(.tmp 4 .int), (.cellrow 3 7 91 (.cons .int (.cons .int (.cons .int (.cons .int (.cons .int (.cons .bool (.cons (.sl (.cons .int (.cons .int (.cons .int .nil)))) .nil))))))))]), ((6, 20, 24), .inv [(.tmp 12 .int), (.cellrow 3 7 91 (.cons .int (.cons .int (.cons .int (.cons .int (.cons .int (.cons .bool (.cons (.sl (.cons .int (.cons .int (.cons .int .nil)))) .nil))))))))]), ((6, 20, 23), .inv [(.tmp 12 .int), (.cellrow 3 7 91 (.cons .int (.cons .int (.cons .int (.cons .int (.cons .int (.cons .bool (.cons (.sl (.cons .int (.cons .int (.cons .int .nil)))) .nil))))))))]), ((6, 20, 22), .inv [(.tmp 12 .int), (.cellrow 3 7 91 (.cons .int (.cons .int (.cons .int (.cons .int (.cons .int (.cons .bool (.cons (.sl (.cons .int (.cons .int (.cons .int .nil)))) .nil))))))))]), ((6, 20, 21), .inv [(.tmp 12 .int), (.cellrow 3 7 91 (.cons .int (.cons .int (.cons .int (.cons .int (.cons .int (.cons .bool (.cons (.sl (.cons .int (.cons .int (.cons .int .nil)))) .nil))))))))]), ((6, 20, 20), .inv [(.tmp 12 .int), (.cellrow 3 7 91 (.cons .int (.cons .int (.cons .int (.cons .int (.cons .int (.cons .bool (.cons (.sl (.cons .int (.cons .int (.cons .int .nil)))) .nil))))))))])], consD5, [], mapsD5⟩) (tab := ref17_pick_T) (mt := mtE) pfit ref17_pick_T_ok mtE_ok (fun s fn hf => by rw [Tryz.func6] at hf; cases hf; kernel_rfl) (fun n s => by kernel_rfl)
def ref17_Made_T : Tab := (6, ref17_Made_t) :: ref17_pick_T
theorem ref17_Made_T_ok : ref17_Made_T.ok Tryz.prog := Tab.ok_cons ref17_Made_ok ref17_pick_T_ok
abbrev ref17_Time_a := Int
abbrev ref17_Time_s0 := Lv × Int
def ref17_Time_3 (n : Nat) (go0 : ref17_Time_s0 → Option ref17_Time_a) (go1 : ref17_Time_s0 → Option ref17_Time_a) (v10 : Int) (v11 v13 : Lv) (v14 : Int) : Option ref17_Time_a :=
 (bif (decide (v14 < (v11.length : Int))) then bif (decide (0 ≤ v14)) then bif (decide ((((v13.length : Int) + 1) * 8) ≤ 140737488355328)) then bif ((decide ((-9223372036854775808) ≤ (v14 + 1))) && (decide ((v14 + 1) ≤ 9223372036854775807))) then go1 ((v13 ++ [[(AV.int (cI v11 v14 1))]]), (v14 + 1)) else none else none else none
 else bif ((decide ((-9223372036854775808) ≤ (v10 + 1))) && (decide ((v10 + 1) ≤ 9223372036854775807))) then go0 (v13, (v10 + 1)) else none)
def ref17_Time_2 (n : Nat) (go0 : ref17_Time_s0 → Option ref17_Time_a) (v2 v3 v4 v5 : Int) (v7 : Lv) (v8 : Int) (v9 : Lv) (v10 : Int) : Option ref17_Time_a :=
 (bif (decide (v10 < (v7.length : Int))) then bif (decide (0 ≤ v10)) then (ref16_Timeline n v2 v3 v4 v5 (cI v7 v10 0) (cI v7 v10 1) (cI v7 v10 2) (cI v7 v10 3) (cI v7 v10 4) (cB v7 v10 5) (cL v7 v10 6)).bind fun y11 =>
 (iterF (fun go1 s => ref17_Time_3 n go0 go1 v10 y11.1 s.1 s.2) n ((v9, 0) : ref17_Time_s0)) else none
 else bif (decide (((((v9.length : Int) + 1) + 1) * 8) ≤ 140737488355328)) then (ref17_pick n v8 (((v9.length : Int) + 1) + 1)).bind fun y11 =>
 bif (decide (0 ≤ y11)) then bif (decide (y11 < (((v9.length : Int) + 1) + 1))) then bif ((decide ((-9223372036854775808) ≤ (Int.tdiv v8 64))) && (decide ((Int.tdiv v8 64) ≤ 9223372036854775807))) then (ref17_pick n (Int.tdiv v8 64) 3).bind fun y12 =>
 bif ((decide ((-9223372036854775808) ≤ ((cI ((v9 ++ [[(AV.int 0)]]) ++ [[(AV.int 20000000)]]) y11 0) + y12))) && (decide (((cI ((v9 ++ [[(AV.int 0)]]) ++ [[(AV.int 20000000)]]) y11 0) + y12) ≤ 9223372036854775807))) then bif ((decide ((-9223372036854775808) ≤ (((cI ((v9 ++ [[(AV.int 0)]]) ++ [[(AV.int 20000000)]]) y11 0) + y12) - 1))) && (decide ((((cI ((v9 ++ [[(AV.int 0)]]) ++ [[(AV.int 20000000)]]) y11 0) + y12) - 1) ≤ 9223372036854775807))) then some (imin (imax (((cI ((v9 ++ [[(AV.int 0)]]) ++ [[(AV.int 20000000)]]) y11 0) + y12) - 1) 0) 20000000) else none else none else none else none else none else none)
def ref17_Time_1 (n : Nat) (v2 v3 v4 v5 : Int) (v7 : Lv) (v8 : Int) : Option ref17_Time_a :=
 (iterF (fun go0 s => ref17_Time_2 n go0 v2 v3 v4 v5 v7 v8 s.1 s.2) n ((([] : Lv), 0) : ref17_Time_s0))
def ref17_Time (n : Nat) (v0 v1 v2 v3 v4 v5 : Int) (v6 v7 : Lv) (v8 : Int) : Option ref17_Time_a := ref17_Time_1 n v2 v3 v4 v5 v7 v8
def ref17_Time_t : FnT := ⟨[(true, [.int, .int, .int, .int, .int, .int, (.sl (.cons .int (.cons .int (.cons .int .nil)))), (.sl (.cons .int (.cons .int (.cons .int (.cons .int (.cons .int (.cons .bool (.cons (.sl (.cons .int (.cons .int (.cons .int .nil)))) .nil))))))))]), (false, [.int])], .i, fun n (s : Int × Int × Int × Int × Int × Int × Lv × Lv × Int) => ref17_Time n s.1 s.2.1 s.2.2.1 s.2.2.2.1 s.2.2.2.2.1 s.2.2.2.2.2.1 s.2.2.2.2.2.2.1 s.2.2.2.2.2.2.2.1 s.2.2.2.2.2.2.2.2⟩
theorem ref17_Time_ok : ref17_Time_t.ok Tryz.prog 19 := FnT.ok_of (cfg := ⟨[((19, 3, 1), .inv [(.tmprow 5 3 (.cons .int .nil)), (.tmp 6 .int)]), ((19, 7, 4), .inv [(.tmprow 5 3 (.cons .int .nil)), (.tmp 9 .int)])], consD5, [], mapsD5⟩) (tab := ref17_Made_T) (mt := mtE) pfit ref17_Made_T_ok mtE_ok (fun s fn hf => by rw [Tryz.func19] at hf; cases hf; kernel_rfl) (fun n s => by kernel_rfl)
def ref17_Time_T : Tab := (19, ref17_Time_t) :: ref17_Made_T
theorem ref17_Time_T_ok : ref17_Time_T.ok Tryz.prog := Tab.ok_cons ref17_Time_ok ref17_Made_T_ok
abbrev ref17_Copy_a := Int × Int × Int × Int × Int × Int × Lv × Lv
abbrev ref17_Copy_s0 := Int × Lv
def ref17_Copy_2 (n : Nat) (go0 : ref17_Copy_s0 → Option ref17_Copy_a) (v0 v1 v2 v3 v4 v5 : Int) (v6 v7 : Lv) (v8 : Int) (v9 : Lv) : Option ref17_Copy_a :=
 (bif (decide (v8 < (v7.length : Int))) then bif (decide (0 ≤ v8)) then bif (decide ((((cL v7 v8 6).length : Int) * 24) ≤ 140737488355328)) then bif (decide ((((v9.length : Int) + 1) * 72) ≤ 140737488355328)) then bif ((decide ((-9223372036854775808) ≤ (v8 + 1))) && (decide ((v8 + 1) ≤ 9223372036854775807))) then go0 ((v8 + 1), (v9 ++ [[(AV.int (cI v7 v8 0)), (AV.int (cI v7 v8 1)), (AV.int (cI v7 v8 2)), (AV.int (cI v7 v8 3)), (AV.int (cI v7 v8 4)), (AV.bool (cB v7 v8 5)), (AV.sl (.cons .int (.cons .int (.cons .int .nil))) (cL v7 v8 6))]])) else none else none else none else none
 else some (v0, v1, v2, v3, v4, v5, v6, v9))
def ref17_Copy_1 (n : Nat) (v0 v1 v2 v3 v4 v5 : Int) (v6 v7 : Lv) : Option ref17_Copy_a :=
 bif (decide (((v6.length : Int) * 24) ≤ 140737488355328)) then (iterF (fun go0 s => ref17_Copy_2 n go0 v0 v1 v2 v3 v4 v5 v6 v7 s.1 s.2) n ((0, ([] : Lv)) : ref17_Copy_s0)) else none
def ref17_Copy (n : Nat) (v0 v1 v2 v3 v4 v5 : Int) (v6 v7 : Lv) : Option ref17_Copy_a := ref17_Copy_1 n v0 v1 v2 v3 v4 v5 v6 v7
def ref17_Copy_t : FnT := ⟨[(true, [.int, .int, .int, .int, .int, .int, (.sl (.cons .int (.cons .int (.cons .int .nil)))), (.sl (.cons .int (.cons .int (.cons .int (.cons .int (.cons .int (.cons .bool (.cons (.sl (.cons .int (.cons .int (.cons .int .nil)))) .nil))))))))])], (.agg (.cons .i (.cons .i (.cons .i (.cons .i (.cons .i (.cons .i (.cons (.row 131 (.cons .int (.cons .int (.cons .int .nil)))) (.cons (.row 91 (.cons .int (.cons .int (.cons .int (.cons .int (.cons .int (.cons .bool (.cons (.sl (.cons .int (.cons .int (.cons .int .nil)))) .nil)))))))) .nil))))))))), fun n (s : Int × Int × Int × Int × Int × Int × Lv × Lv) => ref17_Copy n s.1 s.2.1 s.2.2.1 s.2.2.2.1 s.2.2.2.2.1 s.2.2.2.2.2.1 s.2.2.2.2.2.2.1 s.2.2.2.2.2.2.2⟩
theorem ref17_Copy_ok : ref17_Copy_t.ok Tryz.prog 35 := FnT.ok_of (cfg := ⟨[((35, 5, 8), .inv [(.tmp 4 .int), (.cellrow 2 7 91 (.cons .int (.cons .int (.cons .int (.cons .int (.cons .int (.cons .bool (.cons (.sl (.cons .int (.cons .int (.cons .int .nil)))) .nil))))))))])], consD5, [], mapsD5⟩) (tab := ref17_Time_T) (mt := mtE) pfit ref17_Time_T_ok mtE_ok (fun s fn hf => by rw [Tryz.func35] at hf; cases hf; kernel_rfl) (fun n s => by kernel_rfl)
def ref17_Copy_T : Tab := (35, ref17_Copy_t) :: ref17_Time_T
theorem ref17_Copy_T_ok : ref17_Copy_T.ok Tryz.prog := Tab.ok_cons ref17_Copy_ok ref17_Time_T_ok
abbrev ref17_SameTurns_a := Bool
abbrev ref17_SameTurns_s0 := Int
def ref17_SameTurns_2 (n : Nat) (go0 : ref17_SameTurns_s0 → Option ref17_SameTurns_a) (v0 v1 : Lv) (v2 : Int) : Option ref17_SameTurns_a :=
 (bif (decide (v2 < (v0.length : Int))) then bif (decide (0 ≤ v2)) then bif (decide (v2 < (v1.length : Int))) then (bif (!((decide ((cI v0 v2 0) = (cI v1 v2 0))) && ((decide ((cI v0 v2 1) = (cI v1 v2 1))) && (decide ((cI v0 v2 2) = (cI v1 v2 2)))))) then some false
 else bif ((decide ((-9223372036854775808) ≤ (v2 + 1))) && (decide ((v2 + 1) ≤ 9223372036854775807))) then go0 (v2 + 1) else none) else none else none
 else some true)
def ref17_SameTurns_1 (n : Nat) (v0 v1 : Lv) : Option ref17_SameTurns_a :=
 (bif (!(decide ((v0.length : Int) = (v1.length : Int)))) then some false
 else (iterF (fun go0 s => ref17_SameTurns_2 n go0 v0 v1 s) n (0 : ref17_SameTurns_s0)))
def ref17_SameTurns (n : Nat) (v0 v1 : Lv) : Option ref17_SameTurns_a := ref17_SameTurns_1 n v0 v1
def ref17_SameTurns_t : FnT := ⟨[(false, [(.sl (.cons .int (.cons .int (.cons .int .nil))))]), (false, [(.sl (.cons .int (.cons .int (.cons .int .nil))))])], .b, fun n (s : Lv × Lv) => ref17_SameTurns n s.1 s.2⟩
theorem ref17_SameTurns_ok : ref17_SameTurns_t.ok Tryz.prog 17 := FnT.ok_of (cfg := ⟨[((17, 4, 0), .inv [(.tmp 5 .int)])], consD5, [], mapsD5⟩) (tab := ref17_Copy_T) (mt := mtE) pfit ref17_Copy_T_ok mtE_ok (fun s fn hf => by rw [Tryz.func17] at hf; cases hf; kernel_rfl) (fun n s => by kernel_rfl)
def ref17_SameTurns_T : Tab := (17, ref17_SameTurns_t) :: ref17_Copy_T
theorem ref17_SameTurns_T_ok : ref17_SameTurns_T.ok Tryz.prog := Tab.ok_cons ref17_SameTurns_ok ref17_Copy_T_ok
abbrev ref17_SameHeld_a := Bool
abbrev ref17_SameHeld_s0 := Int
def ref17_SameHeld_2 (n : Nat) (go0 : ref17_SameHeld_s0 → Option ref17_SameHeld_a) (v0 v1 : Lv) (v2 : Int) : Option ref17_SameHeld_a :=
 (bif (decide (v2 < (v0.length : Int))) then bif (decide (0 ≤ v2)) then bif (decide (v2 < (v1.length : Int))) then (bif (!((decide ((cI v0 v2 0) = (cI v1 v2 0))) && (((decide ((cI v0 v2 1) = (cI v1 v2 1))) && (decide ((cI v0 v2 2) = (cI v1 v2 2)))) == true))) then some false
 else bif ((decide ((-9223372036854775808) ≤ (v2 + 1))) && (decide ((v2 + 1) ≤ 9223372036854775807))) then go0 (v2 + 1) else none) else none else none
 else some true)
def ref17_SameHeld_1 (n : Nat) (v0 v1 : Lv) : Option ref17_SameHeld_a :=
 (bif (!(decide ((v0.length : Int) = (v1.length : Int)))) then some false
 else (iterF (fun go0 s => ref17_SameHeld_2 n go0 v0 v1 s) n (0 : ref17_SameHeld_s0)))
def ref17_SameHeld (n : Nat) (v0 v1 : Lv) : Option ref17_SameHeld_a := ref17_SameHeld_1 n v0 v1
def ref17_SameHeld_t : FnT := ⟨[(false, [(.sl (.cons .int (.cons .int (.cons .int .nil))))]), (false, [(.sl (.cons .int (.cons .int (.cons .int .nil))))])], .b, fun n (s : Lv × Lv) => ref17_SameHeld n s.1 s.2⟩
theorem ref17_SameHeld_ok : ref17_SameHeld_t.ok Tryz.prog 18 := FnT.ok_of (cfg := ⟨[((18, 4, 0), .inv [(.tmp 5 .int)])], consD5, [], mapsD5⟩) (tab := ref17_SameTurns_T) (mt := mtE) pfit ref17_SameTurns_T_ok mtE_ok (fun s fn hf => by rw [Tryz.func18] at hf; cases hf; kernel_rfl) (fun n s => by kernel_rfl)
def ref17_SameHeld_T : Tab := (18, ref17_SameHeld_t) :: ref17_SameTurns_T
theorem ref17_SameHeld_T_ok : ref17_SameHeld_T.ok Tryz.prog := Tab.ok_cons ref17_SameHeld_ok ref17_SameTurns_T_ok
abbrev law17_pick_a := Int
def law17_pick_1 (n : Nat) (v0 v1 : Int) : Option law17_pick_a :=
 (bif (decide (v0 < 0)) then bif ((decide ((-9223372036854775808) ≤ (v0 + 1))) && (decide ((v0 + 1) ≤ 9223372036854775807))) then bif ((decide ((-9223372036854775808) ≤ (0 - (v0 + 1)))) && (decide ((0 - (v0 + 1)) ≤ 9223372036854775807))) then bif (!(decide (v1 = 0))) then some (Int.tmod (0 - (v0 + 1)) v1) else none else none else none
 else bif (!(decide (v1 = 0))) then some (Int.tmod v0 v1) else none)
def law17_pick (n : Nat) (v0 v1 : Int) : Option law17_pick_a := law17_pick_1 n v0 v1
def law17_pick_t : FnT := ⟨[(false, [.int]), (false, [.int])], .i, fun n (s : Int × Int) => law17_pick n s.1 s.2⟩
theorem law17_pick_ok : law17_pick_t.ok Tryz.prog 28 := FnT.ok_of (cfg := ⟨[], consD5, [], mapsD5⟩) (tab := ref17_SameHeld_T) (mt := mtE) pfit ref17_SameHeld_T_ok mtE_ok (fun s fn hf => by rw [Tryz.func28] at hf; cases hf; kernel_rfl) (fun n s => by kernel_rfl)
def law17_pick_T : Tab := (28, law17_pick_t) :: ref17_SameHeld_T
theorem law17_pick_T_ok : law17_pick_T.ok Tryz.prog := Tab.ok_cons law17_pick_ok ref17_SameHeld_T_ok
abbrev law17_example_a := Int × Int × Int × Int × Int × Int × Lv × Lv
def law17_example_1 (n : Nat) (v0 : Int) (v1 v2 : Lv) : Option law17_example_a :=
 some (5, 1, 10, 5, 20, 100, (([] : Lv) ++ [[(AV.int 1), (AV.int 0), (AV.int 4)]]), (((([] : Lv) ++ [[(AV.int 5), (AV.int 1), (AV.int 2), (AV.int 4), (AV.int 100), (AV.bool false), (AV.sl (.cons .int (.cons .int (.cons .int .nil))) v1)]]) ++ [[(AV.int 5), (AV.int 2), (AV.int 3), (AV.int 4), (AV.int 105), (AV.bool false), (AV.sl (.cons .int (.cons .int (.cons .int .nil))) ([] : Lv))]]) ++ [[(AV.int 5), (AV.int 1), (AV.int 5), (AV.int 4), (AV.int v0), (AV.bool false), (AV.sl (.cons .int (.cons .int (.cons .int .nil))) v2)]]))
def law17_example (n : Nat) (v0 : Int) (v1 v2 : Lv) : Option law17_example_a := law17_example_1 n v0 v1 v2
def law17_example_t : FnT := ⟨[(false, [.int]), (false, [(.sl (.cons .int (.cons .int (.cons .int .nil))))]), (false, [(.sl (.cons .int (.cons .int (.cons .int .nil))))])], (.agg (.cons .i (.cons .i (.cons .i (.cons .i (.cons .i (.cons .i (.cons (.row 131 (.cons .int (.cons .int (.cons .int .nil)))) (.cons (.row 91 (.cons .int (.cons .int (.cons .int (.cons .int (.cons .int (.cons .bool (.cons (.sl (.cons .int (.cons .int (.cons .int .nil)))) .nil)))))))) .nil))))))))), fun n (s : Int × Lv × Lv) => law17_example n s.1 s.2.1 s.2.2⟩
theorem law17_example_ok : law17_example_t.ok Tryz.prog 29 := FnT.ok_of (cfg := ⟨[], consD5, [], mapsD5⟩) (tab := law17_pick_T) (mt := mtE) pfit law17_pick_T_ok mtE_ok (fun s fn hf => by rw [Tryz.func29] at hf; cases hf; kernel_rfl) (fun n s => by kernel_rfl)
def law17_example_T : Tab := (29, law17_example_t) :: law17_pick_T
theorem law17_example_T_ok : law17_example_T.ok Tryz.prog := Tab.ok_cons law17_example_ok law17_pick_T_ok
end
end Go.Proofs.YtjllgiddmeiaoaaGreat
set_option maxRecDepth 100000
namespace Go.Proofs.YtjllgiddmeiaoaaGreat
open Go Go.Sx
noncomputable section
def consD9 : List Nat := [5, 6, 7, 8, 9, 10, 11, 12, 13, 14, 15, 16, 17, 18, 19, 20, 21, 22, 23, 24, 28, 29, 30, 31, 32, 33, 34, 35, 36, 37, 39, 41, 42, 43, 45, 47, 48, 49, 50, 51, 64, 66, 67, 69, 70, 73, 75, 76, 77, 79, 80, 81, 86, 88, 100, 101, 102, 103, 108, 111, 113, 114, 115, 132, 133, 142, 1000007, 1000008, 1000036, 1000037]
def mapsD9 : List (Nat × SV × SV) := [(117, SV.of [.agg (SV.of [.vi (.int 1), .vi (.int 1)]), .agg (SV.of [.vi (.int 2), .vi (.int 1)]), .agg (SV.of [.vi (.int 3), .vi (.int 2)]), .agg (SV.of [.vi (.int 4), .vi (.int 2)]), .agg (SV.of [.vi (.int 5), .vi (.int 1)]), .agg (SV.of [.vi (.int 5), .vi (.int 2)]), .agg (SV.of [.vi (.int 5), .vi (.int 3)]), .agg (SV.of [.vi (.int 6), .vi (.int 4)])], SV.of [.vi (.int 3), .vi (.int 2), .vi (.int 3), .vi (.int 6), .vi (.int 7), .vi (.int 7), .vi (.int 7), .vi (.int 8)])]
abbrev chain_Holders_a := Lv × Int
abbrev chain_Holders_s0 := Int × Int × Lv × Lv
abbrev chain_Holders_s1 := Int
abbrev chain_Holders_s2 := Bool × Lv × Lv
def chain_Holders_11 (n : Nat) (go0 : chain_Holders_s0 → Option chain_Holders_a) (go1 : chain_Holders_s1 → Option chain_Holders_a) (v7 v9 : Lv) (v11 : Int) (v12 v13 : Lv) : Option chain_Holders_a :=
 (bif (decide ((cI v12 ((v12.length : Int) - 1) 1) = (cI v9 v11 0))) then bif (decide (((v12.length : Int) - 1) ≤ (v12.length : Int))) then bif ((decide ((-9223372036854775808) ≤ (((v12.length : Int) - 1) - 1))) && (decide ((((v12.length : Int) - 1) - 1) ≤ 9223372036854775807))) then (bif (decide ((((v12.length : Int) - 1) - 1) < 0)) then bif (decide (((((List.take (((v12.length : Int) - 1)).toNat v12).length : Int) + 1) * 24) ≤ 140737488355328)) then bif ((decide ((-9223372036854775808) ≤ (v11 + 1))) && (decide ((v11 + 1) ≤ 9223372036854775807))) then go0 ((cI v7 (cI (v13 ++ [[(AV.int (cI v9 v11 1))]]) (((v13.length : Int) + 1) - 1) 0) 2), (v11 + 1), ((List.take (((v12.length : Int) - 1)).toNat v12) ++ [[(AV.int (cI v7 (cI (v13 ++ [[(AV.int (cI v9 v11 1))]]) (((v13.length : Int) + 1) - 1) 0) 2)), (AV.int (cI v9 v11 0)), (AV.int 0)]]), (v13 ++ [[(AV.int (cI v9 v11 1))]])) else none else none
 else bif (decide (0 ≤ (((v12.length : Int) - 1) - 1))) then bif (decide ((((v12.length : Int) - 1) - 1) < ((List.take (((v12.length : Int) - 1)).toNat v12).length : Int))) then (bif (!(decide ((cI (List.take (((v12.length : Int) - 1)).toNat v12) (((v12.length : Int) - 1) - 1) 0) = (cI v7 (cI (v13 ++ [[(AV.int (cI v9 v11 1))]]) (((v13.length : Int) + 1) - 1) 0) 2)))) then bif (decide (((((List.take (((v12.length : Int) - 1)).toNat v12).length : Int) + 1) * 24) ≤ 140737488355328)) then bif ((decide ((-9223372036854775808) ≤ (v11 + 1))) && (decide ((v11 + 1) ≤ 9223372036854775807))) then go0 ((cI v7 (cI (v13 ++ [[(AV.int (cI v9 v11 1))]]) (((v13.length : Int) + 1) - 1) 0) 2), (v11 + 1), ((List.take (((v12.length : Int) - 1)).toNat v12) ++ [[(AV.int (cI v7 (cI (v13 ++ [[(AV.int (cI v9 v11 1))]]) (((v13.length : Int) + 1) - 1) 0) 2)), (AV.int (cI v9 v11 0)), (AV.int 0)]]), (v13 ++ [[(AV.int (cI v9 v11 1))]])) else none else none
 else bif ((decide ((-9223372036854775808) ≤ (v11 + 1))) && (decide ((v11 + 1) ≤ 9223372036854775807))) then go0 ((cI v7 (cI (v13 ++ [[(AV.int (cI v9 v11 1))]]) (((v13.length : Int) + 1) - 1) 0) 2), (v11 + 1), (List.take (((v12.length : Int) - 1)).toNat v12), (v13 ++ [[(AV.int (cI v9 v11 1))]])) else none) else none else none) else none else none
 else (bif (decide (((v12.length : Int) - 1) < 0)) then bif (decide ((((v12.length : Int) + 1) * 24) ≤ 140737488355328)) then bif ((decide ((-9223372036854775808) ≤ (v11 + 1))) && (decide ((v11 + 1) ≤ 9223372036854775807))) then go0 ((cI v7 (cI (v13 ++ [[(AV.int (cI v9 v11 1))]]) (((v13.length : Int) + 1) - 1) 0) 2), (v11 + 1), ((List.modify v12 (((v12.length : Int) - 1)).toNat (fun r => r.set 2 (AV.int (cI v9 v11 0)))) ++ [[(AV.int (cI v7 (cI (v13 ++ [[(AV.int (cI v9 v11 1))]]) (((v13.length : Int) + 1) - 1) 0) 2)), (AV.int (cI v9 v11 0)), (AV.int 0)]]), (v13 ++ [[(AV.int (cI v9 v11 1))]])) else none else none
 else (bif (!(decide ((cI (List.modify v12 (((v12.length : Int) - 1)).toNat (fun r => r.set 2 (AV.int (cI v9 v11 0)))) ((v12.length : Int) - 1) 0) = (cI v7 (cI (v13 ++ [[(AV.int (cI v9 v11 1))]]) (((v13.length : Int) + 1) - 1) 0) 2)))) then bif (decide ((((v12.length : Int) + 1) * 24) ≤ 140737488355328)) then bif ((decide ((-9223372036854775808) ≤ (v11 + 1))) && (decide ((v11 + 1) ≤ 9223372036854775807))) then go0 ((cI v7 (cI (v13 ++ [[(AV.int (cI v9 v11 1))]]) (((v13.length : Int) + 1) - 1) 0) 2), (v11 + 1), ((List.modify v12 (((v12.length : Int) - 1)).toNat (fun r => r.set 2 (AV.int (cI v9 v11 0)))) ++ [[(AV.int (cI v7 (cI (v13 ++ [[(AV.int (cI v9 v11 1))]]) (((v13.length : Int) + 1) - 1) 0) 2)), (AV.int (cI v9 v11 0)), (AV.int 0)]]), (v13 ++ [[(AV.int (cI v9 v11 1))]])) else none else none
 else bif ((decide ((-9223372036854775808) ≤ (v11 + 1))) && (decide ((v11 + 1) ≤ 9223372036854775807))) then go0 ((cI v7 (cI (v13 ++ [[(AV.int (cI v9 v11 1))]]) (((v13.length : Int) + 1) - 1) 0) 2), (v11 + 1), (List.modify v12 (((v12.length : Int) - 1)).toNat (fun r => r.set 2 (AV.int (cI v9 v11 0)))), (v13 ++ [[(AV.int (cI v9 v11 1))]])) else none)))
def chain_Holders_10 (n : Nat) (go0 : chain_Holders_s0 → Option chain_Holders_a) (go1 : chain_Holders_s1 → Option chain_Holders_a) (v1 : Int) (v7 v9 : Lv) (v11 : Int) (v12 v13 : Lv) : Option chain_Holders_a :=
 (bif (decide (0 < ((v13.length : Int) + 1))) then bif ((decide ((-9223372036854775808) ≤ (((v13.length : Int) + 1) - 1))) && (decide ((((v13.length : Int) + 1) - 1) ≤ 9223372036854775807))) then bif (decide (0 ≤ (((v13.length : Int) + 1) - 1))) then bif (decide ((((v13.length : Int) + 1) - 1) < ((v13.length : Int) + 1))) then bif (decide (0 ≤ (cI (v13 ++ [[(AV.int (cI v9 v11 1))]]) (((v13.length : Int) + 1) - 1) 0))) then bif (decide ((cI (v13 ++ [[(AV.int (cI v9 v11 1))]]) (((v13.length : Int) + 1) - 1) 0) < (v7.length : Int))) then bif ((decide ((-9223372036854775808) ≤ ((v12.length : Int) - 1))) && (decide (((v12.length : Int) - 1) ≤ 9223372036854775807))) then bif (decide (0 ≤ ((v12.length : Int) - 1))) then bif (decide (((v12.length : Int) - 1) < (v12.length : Int))) then chain_Holders_11 n go0 go1 v7 v9 v11 v12 v13 else none else none else none else none else none else none else none else none
 else bif ((decide ((-9223372036854775808) ≤ ((v12.length : Int) - 1))) && (decide (((v12.length : Int) - 1) ≤ 9223372036854775807))) then bif (decide (0 ≤ ((v12.length : Int) - 1))) then bif (decide (((v12.length : Int) - 1) < (v12.length : Int))) then (bif (decide ((cI v12 ((v12.length : Int) - 1) 1) = (cI v9 v11 0))) then bif (decide (((v12.length : Int) - 1) ≤ (v12.length : Int))) then bif ((decide ((-9223372036854775808) ≤ (((v12.length : Int) - 1) - 1))) && (decide ((((v12.length : Int) - 1) - 1) ≤ 9223372036854775807))) then (bif (decide ((((v12.length : Int) - 1) - 1) < 0)) then bif (decide (((((List.take (((v12.length : Int) - 1)).toNat v12).length : Int) + 1) * 24) ≤ 140737488355328)) then bif ((decide ((-9223372036854775808) ≤ (v11 + 1))) && (decide ((v11 + 1) ≤ 9223372036854775807))) then go0 (v1, (v11 + 1), ((List.take (((v12.length : Int) - 1)).toNat v12) ++ [[(AV.int v1), (AV.int (cI v9 v11 0)), (AV.int 0)]]), (v13 ++ [[(AV.int (cI v9 v11 1))]])) else none else none
 else bif (decide (0 ≤ (((v12.length : Int) - 1) - 1))) then bif (decide ((((v12.length : Int) - 1) - 1) < ((List.take (((v12.length : Int) - 1)).toNat v12).length : Int))) then (bif (!(decide ((cI (List.take (((v12.length : Int) - 1)).toNat v12) (((v12.length : Int) - 1) - 1) 0) = v1))) then bif (decide (((((List.take (((v12.length : Int) - 1)).toNat v12).length : Int) + 1) * 24) ≤ 140737488355328)) then bif ((decide ((-9223372036854775808) ≤ (v11 + 1))) && (decide ((v11 + 1) ≤ 9223372036854775807))) then go0 (v1, (v11 + 1), ((List.take (((v12.length : Int) - 1)).toNat v12) ++ [[(AV.int v1), (AV.int (cI v9 v11 0)), (AV.int 0)]]), (v13 ++ [[(AV.int (cI v9 v11 1))]])) else none else none
 else bif ((decide ((-9223372036854775808) ≤ (v11 + 1))) && (decide ((v11 + 1) ≤ 9223372036854775807))) then go0 (v1, (v11 + 1), (List.take (((v12.length : Int) - 1)).toNat v12), (v13 ++ [[(AV.int (cI v9 v11 1))]])) else none) else none else none) else none else none
 else (bif (decide (((v12.length : Int) - 1) < 0)) then bif (decide ((((v12.length : Int) + 1) * 24) ≤ 140737488355328)) then bif ((decide ((-9223372036854775808) ≤ (v11 + 1))) && (decide ((v11 + 1) ≤ 9223372036854775807))) then go0 (v1, (v11 + 1), ((List.modify v12 (((v12.length : Int) - 1)).toNat (fun r => r.set 2 (AV.int (cI v9 v11 0)))) ++ [[(AV.int v1), (AV.int (cI v9 v11 0)), (AV.int 0)]]), (v13 ++ [[(AV.int (cI v9 v11 1))]])) else none else none
 else (bif (!(decide ((cI (List.modify v12 (((v12.length : Int) - 1)).toNat (fun r => r.set 2 (AV.int (cI v9 v11 0)))) ((v12.length : Int) - 1) 0) = v1))) then bif (decide ((((v12.length : Int) + 1) * 24) ≤ 140737488355328)) then bif ((decide ((-9223372036854775808) ≤ (v11 + 1))) && (decide ((v11 + 1) ≤ 9223372036854775807))) then go0 (v1, (v11 + 1), ((List.modify v12 (((v12.length : Int) - 1)).toNat (fun r => r.set 2 (AV.int (cI v9 v11 0)))) ++ [[(AV.int v1), (AV.int (cI v9 v11 0)), (AV.int 0)]]), (v13 ++ [[(AV.int (cI v9 v11 1))]])) else none else none
 else bif ((decide ((-9223372036854775808) ≤ (v11 + 1))) && (decide ((v11 + 1) ≤ 9223372036854775807))) then go0 (v1, (v11 + 1), (List.modify v12 (((v12.length : Int) - 1)).toNat (fun r => r.set 2 (AV.int (cI v9 v11 0)))), (v13 ++ [[(AV.int (cI v9 v11 1))]])) else none))) else none else none else none)
def chain_Holders_12 (n : Nat) (go0 : chain_Holders_s0 → Option chain_Holders_a) (go1 : chain_Holders_s1 → Option chain_Holders_a) (v1 : Int) (v7 v9 : Lv) (v11 : Int) (v12 v13 : Lv) : Option chain_Holders_a :=
 (bif (decide (0 < (v13.length : Int))) then bif ((decide ((-9223372036854775808) ≤ ((v13.length : Int) - 1))) && (decide (((v13.length : Int) - 1) ≤ 9223372036854775807))) then bif (decide (0 ≤ ((v13.length : Int) - 1))) then bif (decide (((v13.length : Int) - 1) < (v13.length : Int))) then bif (decide (0 ≤ (cI v13 ((v13.length : Int) - 1) 0))) then bif (decide ((cI v13 ((v13.length : Int) - 1) 0) < (v7.length : Int))) then bif ((decide ((-9223372036854775808) ≤ ((v12.length : Int) - 1))) && (decide (((v12.length : Int) - 1) ≤ 9223372036854775807))) then bif (decide (0 ≤ ((v12.length : Int) - 1))) then bif (decide (((v12.length : Int) - 1) < (v12.length : Int))) then (bif (decide ((cI v12 ((v12.length : Int) - 1) 1) = (cI v9 v11 0))) then bif (decide (((v12.length : Int) - 1) ≤ (v12.length : Int))) then bif ((decide ((-9223372036854775808) ≤ (((v12.length : Int) - 1) - 1))) && (decide ((((v12.length : Int) - 1) - 1) ≤ 9223372036854775807))) then (bif (decide ((((v12.length : Int) - 1) - 1) < 0)) then bif (decide (((((List.take (((v12.length : Int) - 1)).toNat v12).length : Int) + 1) * 24) ≤ 140737488355328)) then bif ((decide ((-9223372036854775808) ≤ (v11 + 1))) && (decide ((v11 + 1) ≤ 9223372036854775807))) then go0 ((cI v7 (cI v13 ((v13.length : Int) - 1) 0) 2), (v11 + 1), ((List.take (((v12.length : Int) - 1)).toNat v12) ++ [[(AV.int (cI v7 (cI v13 ((v13.length : Int) - 1) 0) 2)), (AV.int (cI v9 v11 0)), (AV.int 0)]]), v13) else none else none
 else bif (decide (0 ≤ (((v12.length : Int) - 1) - 1))) then bif (decide ((((v12.length : Int) - 1) - 1) < ((List.take (((v12.length : Int) - 1)).toNat v12).length : Int))) then (bif (!(decide ((cI (List.take (((v12.length : Int) - 1)).toNat v12) (((v12.length : Int) - 1) - 1) 0) = (cI v7 (cI v13 ((v13.length : Int) - 1) 0) 2)))) then bif (decide (((((List.take (((v12.length : Int) - 1)).toNat v12).length : Int) + 1) * 24) ≤ 140737488355328)) then bif ((decide ((-9223372036854775808) ≤ (v11 + 1))) && (decide ((v11 + 1) ≤ 9223372036854775807))) then go0 ((cI v7 (cI v13 ((v13.length : Int) - 1) 0) 2), (v11 + 1), ((List.take (((v12.length : Int) - 1)).toNat v12) ++ [[(AV.int (cI v7 (cI v13 ((v13.length : Int) - 1) 0) 2)), (AV.int (cI v9 v11 0)), (AV.int 0)]]), v13) else none else none
 else bif ((decide ((-9223372036854775808) ≤ (v11 + 1))) && (decide ((v11 + 1) ≤ 9223372036854775807))) then go0 ((cI v7 (cI v13 ((v13.length : Int) - 1) 0) 2), (v11 + 1), (List.take (((v12.length : Int) - 1)).toNat v12), v13) else none) else none else none) else none else none
 else (bif (decide (((v12.length : Int) - 1) < 0)) then bif (decide ((((v12.length : Int) + 1) * 24) ≤ 140737488355328)) then bif ((decide ((-9223372036854775808) ≤ (v11 + 1))) && (decide ((v11 + 1) ≤ 9223372036854775807))) then go0 ((cI v7 (cI v13 ((v13.length : Int) - 1) 0) 2), (v11 + 1), ((List.modify v12 (((v12.length : Int) - 1)).toNat (fun r => r.set 2 (AV.int (cI v9 v11 0)))) ++ [[(AV.int (cI v7 (cI v13 ((v13.length : Int) - 1) 0) 2)), (AV.int (cI v9 v11 0)), (AV.int 0)]]), v13) else none else none
 else (bif (!(decide ((cI (List.modify v12 (((v12.length : Int) - 1)).toNat (fun r => r.set 2 (AV.int (cI v9 v11 0)))) ((v12.length : Int) - 1) 0) = (cI v7 (cI v13 ((v13.length : Int) - 1) 0) 2)))) then bif (decide ((((v12.length : Int) + 1) * 24) ≤ 140737488355328)) then bif ((decide ((-9223372036854775808) ≤ (v11 + 1))) && (decide ((v11 + 1) ≤ 9223372036854775807))) then go0 ((cI v7 (cI v13 ((v13.length : Int) - 1) 0) 2), (v11 + 1), ((List.modify v12 (((v12.length : Int) - 1)).toNat (fun r => r.set 2 (AV.int (cI v9 v11 0)))) ++ [[(AV.int (cI v7 (cI v13 ((v13.length : Int) - 1) 0) 2)), (AV.int (cI v9 v11 0)), (AV.int 0)]]), v13) else none else none
 else bif ((decide ((-9223372036854775808) ≤ (v11 + 1))) && (decide ((v11 + 1) ≤ 9223372036854775807))) then go0 ((cI v7 (cI v13 ((v13.length : Int) - 1) 0) 2), (v11 + 1), (List.modify v12 (((v12.length : Int) - 1)).toNat (fun r => r.set 2 (AV.int (cI v9 v11 0)))), v13) else none))) else none else none else none else none else none else none else none else none
 else bif ((decide ((-9223372036854775808) ≤ ((v12.length : Int) - 1))) && (decide (((v12.length : Int) - 1) ≤ 9223372036854775807))) then bif (decide (0 ≤ ((v12.length : Int) - 1))) then bif (decide (((v12.length : Int) - 1) < (v12.length : Int))) then (bif (decide ((cI v12 ((v12.length : Int) - 1) 1) = (cI v9 v11 0))) then bif (decide (((v12.length : Int) - 1) ≤ (v12.length : Int))) then bif ((decide ((-9223372036854775808) ≤ (((v12.length : Int) - 1) - 1))) && (decide ((((v12.length : Int) - 1) - 1) ≤ 9223372036854775807))) then (bif (decide ((((v12.length : Int) - 1) - 1) < 0)) then bif (decide (((((List.take (((v12.length : Int) - 1)).toNat v12).length : Int) + 1) * 24) ≤ 140737488355328)) then bif ((decide ((-9223372036854775808) ≤ (v11 + 1))) && (decide ((v11 + 1) ≤ 9223372036854775807))) then go0 (v1, (v11 + 1), ((List.take (((v12.length : Int) - 1)).toNat v12) ++ [[(AV.int v1), (AV.int (cI v9 v11 0)), (AV.int 0)]]), v13) else none else none
 else bif (decide (0 ≤ (((v12.length : Int) - 1) - 1))) then bif (decide ((((v12.length : Int) - 1) - 1) < ((List.take (((v12.length : Int) - 1)).toNat v12).length : Int))) then (bif (!(decide ((cI (List.take (((v12.length : Int) - 1)).toNat v12) (((v12.length : Int) - 1) - 1) 0) = v1))) then bif (decide (((((List.take (((v12.length : Int) - 1)).toNat v12).length : Int) + 1) * 24) ≤ 140737488355328)) then bif ((decide ((-9223372036854775808) ≤ (v11 + 1))) && (decide ((v11 + 1) ≤ 9223372036854775807))) then go0 (v1, (v11 + 1), ((List.take (((v12.length : Int) - 1)).toNat v12) ++ [[(AV.int v1), (AV.int (cI v9 v11 0)), (AV.int 0)]]), v13) else none else none
 else bif ((decide ((-9223372036854775808) ≤ (v11 + 1))) && (decide ((v11 + 1) ≤ 9223372036854775807))) then go0 (v1, (v11 + 1), (List.take (((v12.length : Int) - 1)).toNat v12), v13) else none) else none else none) else none else none
 else (bif (decide (((v12.length : Int) - 1) < 0)) then bif (decide ((((v12.length : Int) + 1) * 24) ≤ 140737488355328)) then bif ((decide ((-9223372036854775808) ≤ (v11 + 1))) && (decide ((v11 + 1) ≤ 9223372036854775807))) then go0 (v1, (v11 + 1), ((List.modify v12 (((v12.length : Int) - 1)).toNat (fun r => r.set 2 (AV.int (cI v9 v11 0)))) ++ [[(AV.int v1), (AV.int (cI v9 v11 0)), (AV.int 0)]]), v13) else none else none
 else (bif (!(decide ((cI (List.modify v12 (((v12.length : Int) - 1)).toNat (fun r => r.set 2 (AV.int (cI v9 v11 0)))) ((v12.length : Int) - 1) 0) = v1))) then bif (decide ((((v12.length : Int) + 1) * 24) ≤ 140737488355328)) then bif ((decide ((-9223372036854775808) ≤ (v11 + 1))) && (decide ((v11 + 1) ≤ 9223372036854775807))) then go0 (v1, (v11 + 1), ((List.modify v12 (((v12.length : Int) - 1)).toNat (fun r => r.set 2 (AV.int (cI v9 v11 0)))) ++ [[(AV.int v1), (AV.int (cI v9 v11 0)), (AV.int 0)]]), v13) else none else none
 else bif ((decide ((-9223372036854775808) ≤ (v11 + 1))) && (decide ((v11 + 1) ≤ 9223372036854775807))) then go0 (v1, (v11 + 1), (List.modify v12 (((v12.length : Int) - 1)).toNat (fun r => r.set 2 (AV.int (cI v9 v11 0)))), v13) else none))) else none else none else none)
def chain_Holders_9 (n : Nat) (go0 : chain_Holders_s0 → Option chain_Holders_a) (go1 : chain_Holders_s1 → Option chain_Holders_a) (v1 : Int) (v7 v9 : Lv) (v11 : Int) (v12 v13 : Lv) (v16 : Int) : Option chain_Holders_a :=
 (bif (decide (v16 = (cI v7 (cI v9 v11 1) 3))) then bif (decide ((((v13.length : Int) + 1) * 8) ≤ 140737488355328)) then bif (decide (0 ≤ ((v13.length : Int) + 1))) then chain_Holders_10 n go0 go1 v1 v7 v9 v11 v12 v13 else none else none
 else bif (decide (0 ≤ (v13.length : Int))) then bif (decide (((v13.length : Int) * 8) ≤ 140737488355328)) then chain_Holders_12 n go0 go1 v1 v7 v9 v11 v12 v13 else none else none)
abbrev chain_Holders_13 := @chain_Holders_12
def chain_Holders_8 (n : Nat) (go0 : chain_Holders_s0 → Option chain_Holders_a) (go1 : chain_Holders_s1 → Option chain_Holders_a) (v1 : Int) (v7 v9 : Lv) (v11 : Int) (v12 v13 : Lv) (v15 v16 : Int) : Option chain_Holders_a :=
 (bif (decide (v15 = 1)) then chain_Holders_9 n go0 go1 v1 v7 v9 v11 v12 v13 v16
 else bif (decide (0 ≤ (v13.length : Int))) then bif (decide (((v13.length : Int) * 8) ≤ 140737488355328)) then chain_Holders_13 n go0 go1 v1 v7 v9 v11 v12 v13 else none else none)
abbrev chain_Holders_14 := @chain_Holders_12
def chain_Holders_7 (n : Nat) (go0 : chain_Holders_s0 → Option chain_Holders_a) (go1 : chain_Holders_s1 → Option chain_Holders_a) (v1 : Int) (v7 v9 : Lv) (v10 v11 : Int) (v12 v13 : Lv) (v15 v16 : Int) : Option chain_Holders_a :=
 (bif (decide (v10 = (cI v7 (cI v9 v11 1) 1))) then chain_Holders_8 n go0 go1 v1 v7 v9 v11 v12 v13 v15 v16
 else bif (decide (0 ≤ (v13.length : Int))) then bif (decide (((v13.length : Int) * 8) ≤ 140737488355328)) then chain_Holders_14 n go0 go1 v1 v7 v9 v11 v12 v13 else none else none)
abbrev chain_Holders_16 := @chain_Holders_12
def chain_Holders_20 (n : Nat) (go0 : chain_Holders_s0 → Option chain_Holders_a) (go1 : chain_Holders_s2 → Option chain_Holders_a) (v1 : Int) (v7 v9 : Lv) (v11 : Int) (v16 v17 : Lv) : Option chain_Holders_a :=
 (bif (decide (0 < ((List.take (((v17.length : Int) - 1)).toNat v17).length : Int))) then bif ((decide ((-9223372036854775808) ≤ (((List.take (((v17.length : Int) - 1)).toNat v17).length : Int) - 1))) && (decide ((((List.take (((v17.length : Int) - 1)).toNat v17).length : Int) - 1) ≤ 9223372036854775807))) then bif (decide (0 ≤ (((List.take (((v17.length : Int) - 1)).toNat v17).length : Int) - 1))) then bif (decide ((((List.take (((v17.length : Int) - 1)).toNat v17).length : Int) - 1) < ((List.take (((v17.length : Int) - 1)).toNat v17).length : Int))) then bif (decide (0 ≤ (cI (List.take (((v17.length : Int) - 1)).toNat v17) (((List.take (((v17.length : Int) - 1)).toNat v17).length : Int) - 1) 0))) then bif (decide ((cI (List.take (((v17.length : Int) - 1)).toNat v17) (((List.take (((v17.length : Int) - 1)).toNat v17).length : Int) - 1) 0) < (v7.length : Int))) then bif ((decide ((-9223372036854775808) ≤ ((v16.length : Int) - 1))) && (decide (((v16.length : Int) - 1) ≤ 9223372036854775807))) then bif (decide (0 ≤ ((v16.length : Int) - 1))) then bif (decide (((v16.length : Int) - 1) < (v16.length : Int))) then (bif (decide ((cI v16 ((v16.length : Int) - 1) 1) = (cI v9 v11 0))) then bif (decide (((v16.length : Int) - 1) ≤ (v16.length : Int))) then bif ((decide ((-9223372036854775808) ≤ (((v16.length : Int) - 1) - 1))) && (decide ((((v16.length : Int) - 1) - 1) ≤ 9223372036854775807))) then (bif (decide ((((v16.length : Int) - 1) - 1) < 0)) then bif (decide (((((List.take (((v16.length : Int) - 1)).toNat v16).length : Int) + 1) * 24) ≤ 140737488355328)) then go1 (true, ((List.take (((v16.length : Int) - 1)).toNat v16) ++ [[(AV.int (cI v7 (cI (List.take (((v17.length : Int) - 1)).toNat v17) (((List.take (((v17.length : Int) - 1)).toNat v17).length : Int) - 1) 0) 2)), (AV.int (cI v9 v11 0)), (AV.int 0)]]), (List.take (((v17.length : Int) - 1)).toNat v17)) else none
 else bif (decide (0 ≤ (((v16.length : Int) - 1) - 1))) then bif (decide ((((v16.length : Int) - 1) - 1) < ((List.take (((v16.length : Int) - 1)).toNat v16).length : Int))) then (bif (!(decide ((cI (List.take (((v16.length : Int) - 1)).toNat v16) (((v16.length : Int) - 1) - 1) 0) = (cI v7 (cI (List.take (((v17.length : Int) - 1)).toNat v17) (((List.take (((v17.length : Int) - 1)).toNat v17).length : Int) - 1) 0) 2)))) then bif (decide (((((List.take (((v16.length : Int) - 1)).toNat v16).length : Int) + 1) * 24) ≤ 140737488355328)) then go1 (true, ((List.take (((v16.length : Int) - 1)).toNat v16) ++ [[(AV.int (cI v7 (cI (List.take (((v17.length : Int) - 1)).toNat v17) (((List.take (((v17.length : Int) - 1)).toNat v17).length : Int) - 1) 0) 2)), (AV.int (cI v9 v11 0)), (AV.int 0)]]), (List.take (((v17.length : Int) - 1)).toNat v17)) else none
 else go1 (true, (List.take (((v16.length : Int) - 1)).toNat v16), (List.take (((v17.length : Int) - 1)).toNat v17))) else none else none) else none else none
 else (bif (decide (((v16.length : Int) - 1) < 0)) then bif (decide ((((v16.length : Int) + 1) * 24) ≤ 140737488355328)) then go1 (true, ((List.modify v16 (((v16.length : Int) - 1)).toNat (fun r => r.set 2 (AV.int (cI v9 v11 0)))) ++ [[(AV.int (cI v7 (cI (List.take (((v17.length : Int) - 1)).toNat v17) (((List.take (((v17.length : Int) - 1)).toNat v17).length : Int) - 1) 0) 2)), (AV.int (cI v9 v11 0)), (AV.int 0)]]), (List.take (((v17.length : Int) - 1)).toNat v17)) else none
 else (bif (!(decide ((cI (List.modify v16 (((v16.length : Int) - 1)).toNat (fun r => r.set 2 (AV.int (cI v9 v11 0)))) ((v16.length : Int) - 1) 0) = (cI v7 (cI (List.take (((v17.length : Int) - 1)).toNat v17) (((List.take (((v17.length : Int) - 1)).toNat v17).length : Int) - 1) 0) 2)))) then bif (decide ((((v16.length : Int) + 1) * 24) ≤ 140737488355328)) then go1 (true, ((List.modify v16 (((v16.length : Int) - 1)).toNat (fun r => r.set 2 (AV.int (cI v9 v11 0)))) ++ [[(AV.int (cI v7 (cI (List.take (((v17.length : Int) - 1)).toNat v17) (((List.take (((v17.length : Int) - 1)).toNat v17).length : Int) - 1) 0) 2)), (AV.int (cI v9 v11 0)), (AV.int 0)]]), (List.take (((v17.length : Int) - 1)).toNat v17)) else none
 else go1 (true, (List.modify v16 (((v16.length : Int) - 1)).toNat (fun r => r.set 2 (AV.int (cI v9 v11 0)))), (List.take (((v17.length : Int) - 1)).toNat v17))))) else none else none else none else none else none else none else none else none
 else bif ((decide ((-9223372036854775808) ≤ ((v16.length : Int) - 1))) && (decide (((v16.length : Int) - 1) ≤ 9223372036854775807))) then bif (decide (0 ≤ ((v16.length : Int) - 1))) then bif (decide (((v16.length : Int) - 1) < (v16.length : Int))) then (bif (decide ((cI v16 ((v16.length : Int) - 1) 1) = (cI v9 v11 0))) then bif (decide (((v16.length : Int) - 1) ≤ (v16.length : Int))) then bif ((decide ((-9223372036854775808) ≤ (((v16.length : Int) - 1) - 1))) && (decide ((((v16.length : Int) - 1) - 1) ≤ 9223372036854775807))) then (bif (decide ((((v16.length : Int) - 1) - 1) < 0)) then bif (decide (((((List.take (((v16.length : Int) - 1)).toNat v16).length : Int) + 1) * 24) ≤ 140737488355328)) then go1 (true, ((List.take (((v16.length : Int) - 1)).toNat v16) ++ [[(AV.int v1), (AV.int (cI v9 v11 0)), (AV.int 0)]]), (List.take (((v17.length : Int) - 1)).toNat v17)) else none
 else bif (decide (0 ≤ (((v16.length : Int) - 1) - 1))) then bif (decide ((((v16.length : Int) - 1) - 1) < ((List.take (((v16.length : Int) - 1)).toNat v16).length : Int))) then (bif (!(decide ((cI (List.take (((v16.length : Int) - 1)).toNat v16) (((v16.length : Int) - 1) - 1) 0) = v1))) then bif (decide (((((List.take (((v16.length : Int) - 1)).toNat v16).length : Int) + 1) * 24) ≤ 140737488355328)) then go1 (true, ((List.take (((v16.length : Int) - 1)).toNat v16) ++ [[(AV.int v1), (AV.int (cI v9 v11 0)), (AV.int 0)]]), (List.take (((v17.length : Int) - 1)).toNat v17)) else none
 else go1 (true, (List.take (((v16.length : Int) - 1)).toNat v16), (List.take (((v17.length : Int) - 1)).toNat v17))) else none else none) else none else none
 else (bif (decide (((v16.length : Int) - 1) < 0)) then bif (decide ((((v16.length : Int) + 1) * 24) ≤ 140737488355328)) then go1 (true, ((List.modify v16 (((v16.length : Int) - 1)).toNat (fun r => r.set 2 (AV.int (cI v9 v11 0)))) ++ [[(AV.int v1), (AV.int (cI v9 v11 0)), (AV.int 0)]]), (List.take (((v17.length : Int) - 1)).toNat v17)) else none
 else (bif (!(decide ((cI (List.modify v16 (((v16.length : Int) - 1)).toNat (fun r => r.set 2 (AV.int (cI v9 v11 0)))) ((v16.length : Int) - 1) 0) = v1))) then bif (decide ((((v16.length : Int) + 1) * 24) ≤ 140737488355328)) then go1 (true, ((List.modify v16 (((v16.length : Int) - 1)).toNat (fun r => r.set 2 (AV.int (cI v9 v11 0)))) ++ [[(AV.int v1), (AV.int (cI v9 v11 0)), (AV.int 0)]]), (List.take (((v17.length : Int) - 1)).toNat v17)) else none
 else go1 (true, (List.modify v16 (((v16.length : Int) - 1)).toNat (fun r => r.set 2 (AV.int (cI v9 v11 0)))), (List.take (((v17.length : Int) - 1)).toNat v17))))) else none else none else none)
abbrev chain_Holders_21 := @chain_Holders_20
def chain_Holders_19 (n : Nat) (go0 : chain_Holders_s0 → Option chain_Holders_a) (go1 : chain_Holders_s2 → Option chain_Holders_a) (v1 : Int) (v7 v9 : Lv) (v11 : Int) (v16 v17 : Lv) : Option chain_Holders_a :=
 (bif (decide ((cI v17 ((v17.length : Int) - 1) 0) = (cI v9 v11 1))) then bif (decide (((v17.length : Int) - 1) ≤ (v17.length : Int))) then bif (decide (0 ≤ ((List.take (((v17.length : Int) - 1)).toNat v17).length : Int))) then bif (decide ((((List.take (((v17.length : Int) - 1)).toNat v17).length : Int) * 8) ≤ 140737488355328)) then chain_Holders_20 n go0 go1 v1 v7 v9 v11 v16 v17 else none else none else none
 else bif (decide (((v17.length : Int) - 1) ≤ (v17.length : Int))) then bif (decide (0 ≤ ((List.take (((v17.length : Int) - 1)).toNat v17).length : Int))) then bif (decide ((((List.take (((v17.length : Int) - 1)).toNat v17).length : Int) * 8) ≤ 140737488355328)) then chain_Holders_21 n go0 go1 v1 v7 v9 v11 v16 v17 else none else none else none)
def chain_Holders_18 (n : Nat) (go0 : chain_Holders_s0 → Option chain_Holders_a) (go1 : chain_Holders_s2 → Option chain_Holders_a) (v1 : Int) (v7 v9 : Lv) (v11 v14 : Int) (v16 v17 : Lv) : Option chain_Holders_a :=
 (bif (decide (v14 < (v17.length : Int))) then bif ((decide ((-9223372036854775808) ≤ ((v17.length : Int) - 1))) && (decide (((v17.length : Int) - 1) ≤ 9223372036854775807))) then bif (decide (0 ≤ ((v17.length : Int) - 1))) then bif (decide (((v17.length : Int) - 1) < (v17.length : Int))) then chain_Holders_19 n go0 go1 v1 v7 v9 v11 v16 v17 else none else none else none
 else (bif (decide (0 < (v17.length : Int))) then bif ((decide ((-9223372036854775808) ≤ ((v17.length : Int) - 1))) && (decide (((v17.length : Int) - 1) ≤ 9223372036854775807))) then bif (decide (0 ≤ ((v17.length : Int) - 1))) then bif (decide (((v17.length : Int) - 1) < (v17.length : Int))) then bif (decide (0 ≤ (cI v17 ((v17.length : Int) - 1) 0))) then bif (decide ((cI v17 ((v17.length : Int) - 1) 0) < (v7.length : Int))) then bif ((decide ((-9223372036854775808) ≤ (v11 + 1))) && (decide ((v11 + 1) ≤ 9223372036854775807))) then go0 ((cI v7 (cI v17 ((v17.length : Int) - 1) 0) 2), (v11 + 1), v16, v17) else none else none else none else none else none else none
 else bif ((decide ((-9223372036854775808) ≤ (v11 + 1))) && (decide ((v11 + 1) ≤ 9223372036854775807))) then go0 (v1, (v11 + 1), v16, v17) else none))
def chain_Holders_17 (n : Nat) (go0 : chain_Holders_s0 → Option chain_Holders_a) (go1 : chain_Holders_s2 → Option chain_Holders_a) (v1 : Int) (v7 v9 : Lv) (v11 v14 : Int) (v15 : Bool) (v16 v17 : Lv) : Option chain_Holders_a :=
 (bif v15 then chain_Holders_18 n go0 go1 v1 v7 v9 v11 v14 v16 v17
 else bif ((decide ((-9223372036854775808) ≤ ((v16.length : Int) - 1))) && (decide (((v16.length : Int) - 1) ≤ 9223372036854775807))) then bif (decide (0 ≤ ((v16.length : Int) - 1))) then bif (decide (((v16.length : Int) - 1) < (v16.length : Int))) then some ((List.modify v16 (((v16.length : Int) - 1)).toNat (fun r => r.set 2 (AV.int 20000001))), 0) else none else none else none)
def chain_Holders_15 (n : Nat) (go0 : chain_Holders_s0 → Option chain_Holders_a) (go1 : chain_Holders_s1 → Option chain_Holders_a) (v1 : Int) (v7 v9 : Lv) (v11 : Int) (v12 v13 : Lv) (v14 : Int) : Option chain_Holders_a :=
 (bif (decide (v14 < 0)) then bif (decide (0 ≤ (v13.length : Int))) then bif (decide (((v13.length : Int) * 8) ≤ 140737488355328)) then chain_Holders_16 n go0 go1 v1 v7 v9 v11 v12 v13 else none else none
 else (iterF (fun go1 s => chain_Holders_17 n go0 go1 v1 v7 v9 v11 v14 s.1 s.2.1 s.2.2) n ((true, v12, v13) : chain_Holders_s2)))
def chain_Holders_6 (n : Nat) (go0 : chain_Holders_s0 → Option chain_Holders_a) (go1 : chain_Holders_s1 → Option chain_Holders_a) (v1 : Int) (v6 v7 v9 : Lv) (v10 v11 : Int) (v12 v13 : Lv) (v14 : Int) : Option chain_Holders_a :=
 (bif (!(cB v9 v11 2)) then (life_At n v6 (imin (cI v9 v11 0) 10000000)).bind fun y15 =>
 chain_Holders_7 n go0 go1 v1 v7 v9 v10 v11 v12 v13 y15.1 y15.2.1
 else chain_Holders_15 n go0 go1 v1 v7 v9 v11 v12 v13 v14)
def chain_Holders_5 (n : Nat) (go0 : chain_Holders_s0 → Option chain_Holders_a) (go1 : chain_Holders_s1 → Option chain_Holders_a) (v1 : Int) (v6 v7 v9 : Lv) (v10 v11 : Int) (v12 v13 : Lv) (v14 : Int) : Option chain_Holders_a :=
 (bif (decide ((cI v9 v11 1) = (cI v13 v14 0))) then bif (decide (0 ≤ (cI v9 v11 1))) then bif (decide ((cI v9 v11 1) < (v7.length : Int))) then chain_Holders_6 n go0 go1 v1 v6 v7 v9 v10 v11 v12 v13 v14 else none else none
 else bif ((decide ((-9223372036854775808) ≤ (v14 + 1))) && (decide ((v14 + 1) ≤ 9223372036854775807))) then go1 (v14 + 1) else none)
abbrev chain_Holders_23 := @chain_Holders_7
abbrev chain_Holders_31 := @chain_Holders_12
def chain_Holders_22 (n : Nat) (go0 : chain_Holders_s0 → Option chain_Holders_a) (go1 : chain_Holders_s1 → Option chain_Holders_a) (v1 : Int) (v6 v7 v9 : Lv) (v10 v11 : Int) (v12 v13 : Lv) : Option chain_Holders_a :=
 (bif (!(cB v9 v11 2)) then (life_At n v6 (imin (cI v9 v11 0) 10000000)).bind fun y15 =>
 chain_Holders_23 n go0 go1 v1 v7 v9 v10 v11 v12 v13 y15.1 y15.2.1
 else bif (decide (0 ≤ (v13.length : Int))) then bif (decide (((v13.length : Int) * 8) ≤ 140737488355328)) then chain_Holders_31 n go0 go1 v1 v7 v9 v11 v12 v13 else none else none)
def chain_Holders_4 (n : Nat) (go0 : chain_Holders_s0 → Option chain_Holders_a) (go1 : chain_Holders_s1 → Option chain_Holders_a) (v1 : Int) (v6 v7 v9 : Lv) (v10 v11 : Int) (v12 v13 : Lv) (v14 : Int) : Option chain_Holders_a :=
 (bif (decide (v14 < (v13.length : Int))) then bif (decide (0 ≤ v14)) then chain_Holders_5 n go0 go1 v1 v6 v7 v9 v10 v11 v12 v13 v14 else none
 else bif (decide (0 ≤ (cI v9 v11 1))) then bif (decide ((cI v9 v11 1) < (v7.length : Int))) then chain_Holders_22 n go0 go1 v1 v6 v7 v9 v10 v11 v12 v13 else none else none)
def chain_Holders_3 (n : Nat) (go0 : chain_Holders_s0 → Option chain_Holders_a) (v1 : Int) (v6 v7 v9 : Lv) (v10 v11 : Int) (v12 v13 : Lv) : Option chain_Holders_a :=
 (bif (decide (v11 < (v9.length : Int))) then bif (decide (0 ≤ v11)) then (iterF (fun go1 s => chain_Holders_4 n go0 go1 v1 v6 v7 v9 v10 v11 v12 v13 s) n (0 : chain_Holders_s1)) else none
 else bif ((decide ((-9223372036854775808) ≤ ((v12.length : Int) - 1))) && (decide (((v12.length : Int) - 1) ≤ 9223372036854775807))) then bif (decide (0 ≤ ((v12.length : Int) - 1))) then bif (decide (((v12.length : Int) - 1) < (v12.length : Int))) then some ((List.modify v12 (((v12.length : Int) - 1)).toNat (fun r => r.set 2 (AV.int 20000001))), 0) else none else none else none)
def chain_Holders_2 (n : Nat) (v0 v1 v2 v3 v4 v5 : Int) (v6 v7 : Lv) (v8 : Bool) : Option chain_Holders_a :=
 (bif (!v8) then some (([] : Lv), 170)
 else (chain_happenings n v0 v1 v2 v3 v4 v5 v6 v7).bind fun y9 =>
 (iterF (fun go0 s => chain_Holders_3 n go0 v1 v6 v7 y9 s.1 s.2.1 s.2.2.1 s.2.2.2) n ((v1, 0, (([] : Lv) ++ [[(AV.int v1), (AV.int 0), (AV.int 0)]]), ([] : Lv)) : chain_Holders_s0)))
def chain_Holders_1 (n : Nat) (v0 v1 v2 v3 v4 v5 : Int) (v6 v7 : Lv) : Option chain_Holders_a :=
 (chain_Valid n v0 v1 v2 v3 v4 v5 v6 v7).bind fun y8 =>
 chain_Holders_2 n v0 v1 v2 v3 v4 v5 v6 v7 y8
def chain_Holders (n : Nat) (v0 v1 v2 v3 v4 v5 : Int) (v6 v7 : Lv) : Option chain_Holders_a := chain_Holders_1 n v0 v1 v2 v3 v4 v5 v6 v7
def chain_Holders_t : FnT := ⟨[(true, [.int, .int, .int, .int, .int, .int, (.sl (.cons .int (.cons .int (.cons .int .nil)))), (.sl (.cons .int (.cons .int (.cons .int (.cons .int (.cons .int (.cons .bool (.cons (.sl (.cons .int (.cons .int (.cons .int .nil)))) .nil))))))))])], (.tup (.cons (.row 77 (.cons .int (.cons .int (.cons .int .nil)))) (.cons .i .nil))), fun n (s : Int × Int × Int × Int × Int × Int × Lv × Lv) => chain_Holders n s.1 s.2.1 s.2.2.1 s.2.2.2.1 s.2.2.2.2.1 s.2.2.2.2.2.1 s.2.2.2.2.2.2.1 s.2.2.2.2.2.2.2⟩
theorem chain_Holders_ok : chain_Holders_t.ok Tryz.prog 11 := FnT.ok_of (cfg := ⟨[((71, 5, 0), .inv [(.tmp 5 .int), (.tmp 22 .int), (.cellrow 2 0 77 (.cons .int (.cons .int (.cons .int .nil)))), (.cellrow 7 0 3 (.cons .int .nil))]), ((74, 2, 0), .inv [(.tmp 8 .int)]), ((71, 10, 0), .inv [(.tmp 10 .bool), (.cellrow 2 0 77 (.cons .int (.cons .int (.cons .int .nil)))), (.cellrow 7 0 3 (.cons .int .nil))])], consD9, [(71, 15), (11, 8)], mapsD9⟩) (tab := law17_example_T) (mt := mtE) pfit law17_example_T_ok mtE_ok (fun s fn hf => by rw [Tryz.func11] at hf; cases hf; kernel_rfl) (fun n s => by kernel_rfl)
def chain_Holders_T : Tab := (11, chain_Holders_t) :: law17_example_T
theorem chain_Holders_T_ok : chain_Holders_T.ok Tryz.prog := Tab.ok_cons chain_Holders_ok law17_example_T_ok
end
end Go.Proofs.YtjllgiddmeiaoaaGreat
set_option maxRecDepth 100000
namespace Go.Proofs.YtjllgiddmeiaoaaGreat
open Go Go.Sx Go.Dial.Clm Go.Dial.Lif Go.Dial.Chn
abbrev hdR (h : Hd) : List AV := [.int h.c, .int h.f, .int h.t]
def hdL (o : List Hd) : Lv := o.reverse.map hdR
theorem hdL_len (o : List Hd) : (hdL o).length = o.length := by simp [hdL]
theorem hdL_snoc (o : List Hd) (c f t : Int) : hdL o ++ [[AV.int c, AV.int f, AV.int t]] = hdL (⟨c, f, t⟩ :: o) := by simp [hdL]
theorem hdL_cons (o : List Hd) (x : Hd) : hdL (x :: o) = hdL o ++ [hdR x] := by simp [hdL]
theorem hdL_nat (o : List Hd) (x : Hd) : ((((hdL (x :: o)).length : Nat) : Int) - 1).toNat = (hdL o).length := by
 rw [hdL_len, hdL_len]; simp
theorem hdL_drop (o : List Hd) (x : Hd) : List.take ((((hdL (x :: o)).length : Nat) : Int) - 1).toNat (hdL (x :: o)) = hdL o := by
 rw [hdL_nat, hdL_cons]; simp
theorem hdL_at (o : List Hd) (x : Hd) (k : Nat) : cA (hdL (x :: o)) (((hdL (x :: o)).length : Int) - 1) k = (hdR x).getD k (.int 0) := by
 unfold cA
 rw [hdL_nat, hdL_cons]; simp [List.getD]
theorem hdL_from (o : List Hd) (x : Hd) : cI (hdL (x :: o)) (((hdL (x :: o)).length : Int) - 1) 1 = x.f := by simp only [cI, hdL_at]; rfl
theorem hdL_who (o : List Hd) (x : Hd) : cI (hdL (x :: o)) (((hdL (x :: o)).length : Int) - 1) 0 = x.c := by simp only [cI, hdL_at]; rfl
theorem hdL_to (o : List Hd) (x : Hd) (a : Int) : List.modify (hdL (x :: o)) ((((hdL (x :: o)).length : Nat) : Int) - 1).toNat (fun r => r.set 2 (AV.int a)) = hdL (⟨x.c, x.f, a⟩ :: o) := by
 rw [hdL_nat, hdL_cons, hdL_cons, modify_set (x := hdR x) (by simp)]
 rw [List.set_append_right _ _ (Nat.le_refl _)]
 simp
def hK (o : Lv) (a w : Int) {α : Type} (k : Lv → Option α) : Option α :=
 bif ((decide ((-9223372036854775808) ≤ ((o.length : Int) - 1))) && (decide (((o.length : Int) - 1) ≤ 9223372036854775807))) then bif (decide (0 ≤ ((o.length : Int) - 1))) then bif (decide (((o.length : Int) - 1) < (o.length : Int))) then (bif (decide ((cI o ((o.length : Int) - 1) 1) = a)) then bif (decide (((o.length : Int) - 1) ≤ (o.length : Int))) then bif ((decide ((-9223372036854775808) ≤ (((o.length : Int) - 1) - 1))) && (decide ((((o.length : Int) - 1) - 1) ≤ 9223372036854775807))) then (bif (decide ((((o.length : Int) - 1) - 1) < 0)) then bif (decide (((((List.take (((o.length : Int) - 1)).toNat o).length : Int) + 1) * 24) ≤ 140737488355328)) then k ((List.take (((o.length : Int) - 1)).toNat o) ++ [[(AV.int w), (AV.int a), (AV.int 0)]]) else none
 else bif (decide (0 ≤ (((o.length : Int) - 1) - 1))) then bif (decide ((((o.length : Int) - 1) - 1) < ((List.take (((o.length : Int) - 1)).toNat o).length : Int))) then (bif (!(decide ((cI (List.take (((o.length : Int) - 1)).toNat o) (((o.length : Int) - 1) - 1) 0) = w))) then bif (decide (((((List.take (((o.length : Int) - 1)).toNat o).length : Int) + 1) * 24) ≤ 140737488355328)) then k ((List.take (((o.length : Int) - 1)).toNat o) ++ [[(AV.int w), (AV.int a), (AV.int 0)]]) else none
 else k (List.take (((o.length : Int) - 1)).toNat o)) else none else none) else none else none
 else (bif (decide (((o.length : Int) - 1) < 0)) then bif (decide ((((o.length : Int) + 1) * 24) ≤ 140737488355328)) then k ((List.modify o (((o.length : Int) - 1)).toNat (fun r => r.set 2 (AV.int a))) ++ [[(AV.int w), (AV.int a), (AV.int 0)]]) else none
 else (bif (!(decide ((cI (List.modify o (((o.length : Int) - 1)).toNat (fun r => r.set 2 (AV.int a))) ((o.length : Int) - 1) 0) = w))) then bif (decide ((((o.length : Int) + 1) * 24) ≤ 140737488355328)) then k ((List.modify o (((o.length : Int) - 1)).toNat (fun r => r.set 2 (AV.int a))) ++ [[(AV.int w), (AV.int a), (AV.int 0)]]) else none
 else k (List.modify o (((o.length : Int) - 1)).toNat (fun r => r.set 2 (AV.int a)))))) else none else none else none
theorem hK_v {o : List Hd} (ho : o ≠ []) (hl : o.length ≤ 200) (a w : Int) {α : Type} (k : Lv → Option α) : hK (hdL o) a w k = k (hdL (holdW o a w)) := by
 cases o with
 | nil => exact absurd rfl ho
 | cons x r =>
  have hL : ((hdL (x :: r)).length : Int) = (r.length : Int) + 1 := by rw [hdL_len]; rfl
  have e1 : (-9223372036854775808 : Int) ≤ ((hdL (x :: r)).length : Int) - 1 := by omega
  have e2 : ((hdL (x :: r)).length : Int) - 1 ≤ (9223372036854775807 : Int) := by simp only [List.length_cons] at hl; omega
  have e3 : (0 : Int) ≤ ((hdL (x :: r)).length : Int) - 1 := by omega
  have e4 : ((hdL (x :: r)).length : Int) - 1 < ((hdL (x :: r)).length : Int) := by omega
  have e5 : ((hdL (x :: r)).length : Int) - 1 ≤ ((hdL (x :: r)).length : Int) := by omega
  have e6 : (-9223372036854775808 : Int) ≤ (((hdL (x :: r)).length : Int) - 1) - 1 := by omega
  have e7 : (((hdL (x :: r)).length : Int) - 1) - 1 ≤ (9223372036854775807 : Int) := by simp only [List.length_cons] at hl; omega
  have e8 : (((hdL r).length : Int) + 1) * 24 ≤ 140737488355328 := by rw [hdL_len]; simp only [List.length_cons] at hl; omega
  have e9 : (((hdL (x :: r)).length : Int) + 1) * 24 ≤ 140737488355328 := by rw [hdL_len]; simp only [List.length_cons] at hl ⊢; omega
  have e10 : ¬ ((hdL (x :: r)).length : Int) - 1 < 0 := by omega
  unfold hK
  rw [decide_eq_true e1, decide_eq_true e2, Bool.and_self, cond_true, decide_eq_true e3, cond_true, decide_eq_true e4, cond_true, hdL_from, hdL_drop, hdL_to]
  unfold holdW holdO
  by_cases h : x.f = a
  ·rw [decide_eq_true h, cond_true, decide_eq_true e5, cond_true, decide_eq_true e6, decide_eq_true e7, Bool.and_self, cond_true]
   simp only [if_pos h]
   cases r with
   | nil =>
    have e11 : (((hdL [x]).length : Int) - 1) - 1 < 0 := by rw [hdL_len]; simp
    rw [decide_eq_true e11, cond_true, decide_eq_true e8, cond_true, hdL_snoc]
   | cons y r =>
    have hL2 : (((hdL (x :: y :: r)).length : Int) - 1) - 1 = ((hdL (y :: r)).length : Int) - 1 := by rw [hdL_len, hdL_len]; simp only [List.length_cons]; omega
    have hL3 : ((hdL (y :: r)).length : Int) = (r.length : Int) + 1 := by rw [hdL_len]; rfl
    have e11 : ¬ ((hdL (y :: r)).length : Int) - 1 < 0 := by omega
    have e12 : (0 : Int) ≤ ((hdL (y :: r)).length : Int) - 1 := by omega
    have e13 : ((hdL (y :: r)).length : Int) - 1 < ((hdL (y :: r)).length : Int) := by omega
    rw [hL2, decide_eq_false e11, cond_false, decide_eq_true e12, cond_true, decide_eq_true e13, cond_true, hdL_who, decide_eq_true e8, cond_true, hdL_snoc]
    by_cases hw : y.c = w
    ·simp only [if_pos hw]
     rw [decide_eq_true hw, Bool.not_true, cond_false]
    ·simp only [if_neg hw]
     rw [decide_eq_false hw, Bool.not_false, cond_true]
  ·rw [decide_eq_false h, cond_false, decide_eq_false e10, cond_false, decide_eq_true e9, cond_true, hdL_snoc]
   simp only [if_neg h]
   have hq := hdL_who r ⟨x.c, x.f, a⟩
   have hL4 : ((hdL (⟨x.c, x.f, a⟩ :: r)).length : Int) = ((hdL (x :: r)).length : Int) := by rw [hdL_len, hdL_len]; rfl
   rw [hL4] at hq
   rw [hq]
   by_cases hw : x.c = w
   ·simp only [if_pos hw]
    rw [decide_eq_true hw, Bool.not_true, cond_false]
   ·simp only [if_neg hw]
    rw [decide_eq_false hw, Bool.not_false, cond_true]
section
variable (n : Nat) (go0 : chain_Holders_s0 → Option chain_Holders_a) (go1 : chain_Holders_s1 → Option chain_Holders_a) (c : Ch) (v9 : Lv) (i : Int) (o : List Hd) (G : List Int)
 (hi : 0 ≤ i ∧ i ≤ 100) (ho : o ≠ [] ∧ o.length ≤ 190) (hG : PInL c G) (hl : G.length ≤ 100) (hP : PIn c (cI v9 i 1))
include hi ho
theorem hd_go (w a : Int) (L : Lv) : hK (hdL o) a w (fun o' => bif ((decide ((-9223372036854775808) ≤ (i + 1))) && (decide ((i + 1) ≤ 9223372036854775807))) then go0 (w, (i + 1), o', L) else none) = go0 (w, i + 1, hdL (holdW o a w), L) := by
 have e10 : (-9223372036854775808 : Int) ≤ i + 1 := by omega
 have e11 : i + 1 ≤ (9223372036854775807 : Int) := by omega
 rw [hK_v ho.1 (by omega), decide_eq_true e10, decide_eq_true e11, Bool.and_self, cond_true]
include hG hl
theorem hd_tail : wC c (foL G) (fun w => hK (hdL o) (cI v9 i 0) w (fun o' => bif ((decide ((-9223372036854775808) ≤ (i + 1))) && (decide ((i + 1) ≤ 9223372036854775807))) then go0 (w, (i + 1), o', foL G) else none)) = go0 (withV c G, i + 1, hdL (holdW o (cI v9 i 0) (withV c G)), foL G) :=
 (wthc hG hl _).trans (hd_go go0 i o hi ho _ _ _)
include hP
theorem hd9 (h : Int) : chain_Holders_9 n go0 go1 c.f (ptL c.ps) v9 i (hdL o) (foL G) h =
  if h = (portAt c (cI v9 i 1)).c.h then go0 (withV c (cI v9 i 1 :: G), i + 1, hdL (holdW o (cI v9 i 0) (withV c (cI v9 i 1 :: G))), foL (cI v9 i 1 :: G)) else go0 (withV c G, i + 1, hdL (holdW o (cI v9 i 0) (withV c G)), foL G) := by
 obtain ⟨g1, g2, g3⟩ := port_to hP
 unfold chain_Holders_9
 rw [g3]
 by_cases k2 : h = (portAt c (cI v9 i 1)).c.h
 ·rw [if_pos k2, decide_eq_true k2, cond_true]
  refine (wthp hG hl hP (fun w => hK (hdL o) (cI v9 i 0) w (fun o' => bif ((decide ((-9223372036854775808) ≤ (i + 1))) && (decide ((i + 1) ≤ 9223372036854775807))) then go0 (w, (i + 1), o', foL G ++ [[AV.int (cI v9 i 1)]]) else none))).trans ?_
  refine (hd_go go0 i o hi ho _ _ _).trans ?_
  rw [foL_snoc]
 ·rw [if_neg k2, decide_eq_false k2, cond_false]
  exact hd_tail go0 c v9 i o G hi ho hG hl
theorem hd7 (s h : Int) : chain_Holders_7 n go0 go1 c.f (ptL c.ps) v9 (withV c G) i (hdL o) (foL G) s h =
  if withV c G = (portAt c (cI v9 i 1)).c.f ∧ s = 1 ∧ h = (portAt c (cI v9 i 1)).c.h then go0 (withV c (cI v9 i 1 :: G), i + 1, hdL (holdW o (cI v9 i 0) (withV c (cI v9 i 1 :: G))), foL (cI v9 i 1 :: G)) else go0 (withV c G, i + 1, hdL (holdW o (cI v9 i 0) (withV c G)), foL G) := by
 obtain ⟨g1, g2, g3⟩ := port_to hP
 unfold chain_Holders_7
 rw [g1]
 by_cases k : withV c G = (portAt c (cI v9 i 1)).c.f
 ·rw [decide_eq_true k, cond_true]
  unfold chain_Holders_8
  by_cases k1 : s = 1
  ·rw [decide_eq_true k1, cond_true, hd9 n go0 go1 c v9 i o G hi ho hG hl hP]
   simp only [k, k1, true_and]
  ·rw [decide_eq_false k1, cond_false, if_neg (fun h => k1 h.2.1)]
   exact hd_tail go0 c v9 i o G hi ho hG hl
 ·rw [decide_eq_false k, cond_false, if_neg (fun h => k h.1)]
  exact hd_tail go0 c v9 i o G hi ho hG hl
end
section
variable (n : Nat) (go0 : chain_Holders_s0 → Option chain_Holders_a) (go1 : chain_Holders_s2 → Option chain_Holders_a) (c : Ch) (v9 : Lv) (i : Int) (o : List Hd) (G : List Int) (k : Nat)
 (hi : 0 ≤ i ∧ i ≤ 100) (ho : o ≠ [] ∧ o.length ≤ 190) (hG : PInL c G) (hl : G.length ≤ 100)
include ho hG hl
theorem hd_ptail : wC c (foL G) (fun w => hK (hdL o) (cI v9 i 0) w (fun o' => go1 (true, o', foL G))) = go1 (true, hdL (holdW o (cI v9 i 0) (withV c G)), foL G) :=
 (wthc hG hl _).trans (hK_v ho.1 (by omega) _ _ _)
theorem hd10_pop (x : Int) (hk : k < (x :: G).length) : chain_Holders_17 n go0 go1 c.f (ptL c.ps) v9 i (k : Int) true (hdL o) (foL (x :: G)) =
  go1 (true, hdL (holdW o (cI v9 i 0) (withV c G)), foL G) := by
 have e0 : (k : Int) < ((foL (x :: G)).length : Int) := by rw [foL_len]; omega
 have e5 : (-9223372036854775808 : Int) ≤ ((foL (x :: G)).length : Int) - 1 := by omega
 have e6 : ((foL (x :: G)).length : Int) - 1 ≤ (9223372036854775807 : Int) := by rw [foL_len, List.length_cons]; omega
 have e7 : (0 : Int) ≤ ((foL (x :: G)).length : Int) - 1 := by omega
 have e8 : ((foL (x :: G)).length : Int) - 1 < ((foL (x :: G)).length : Int) := by omega
 have e9 : ((foL (x :: G)).length : Int) - 1 ≤ ((foL (x :: G)).length : Int) := by omega
 unfold chain_Holders_17
 rw [cond_true]
 unfold chain_Holders_18
 rw [decide_eq_true e0, cond_true, decide_eq_true e5, decide_eq_true e6, Bool.and_self, cond_true, decide_eq_true e7, cond_true, decide_eq_true e8, cond_true]
 unfold chain_Holders_19
 rw [decide_eq_true e9, cond_true, foL_top, foL_drop]
 by_cases h : x = cI v9 i 1
 ·rw [decide_eq_true h, cond_true]
  unfold chain_Holders_20
  rw [foL_drop]
  exact hd_ptail go1 c v9 i o G ho hG hl
 ·rw [decide_eq_false h, cond_false]
  unfold chain_Holders_20
  rw [foL_drop]
  exact hd_ptail go1 c v9 i o G ho hG hl
include hi
theorem hd10_end (hk : ¬ k < G.length) : chain_Holders_17 n go0 go1 c.f (ptL c.ps) v9 i (k : Int) true (hdL o) (foL G) = go0 (withV c G, i + 1, hdL o, foL G) := by
 have e0 : ¬ (k : Int) < ((foL G).length : Int) := by rw [foL_len]; omega
 have e10 : (-9223372036854775808 : Int) ≤ i + 1 := by omega
 have e11 : i + 1 ≤ (9223372036854775807 : Int) := by omega
 unfold chain_Holders_17
 rw [cond_true]
 unfold chain_Holders_18
 rw [decide_eq_false e0, cond_false]
 refine (wth hG hl (fun w => bif ((decide ((-9223372036854775808) ≤ (i + 1))) && (decide ((i + 1) ≤ 9223372036854775807))) then go0 (w, i + 1, hdL o, foL G) else none)).trans ?_
 simp only [decide_eq_true e10, decide_eq_true e11, Bool.and_self, cond_true]
end
theorem hd23 : @chain_Holders_23 = @chain_Holders_7 := rfl
section
variable (n : Nat) (go0 : chain_Holders_s0 → Option chain_Holders_a) (c : Ch) (v9 : Lv) (i : Int) (o : List Hd) (G : List Int) (r : chain_Holders_a) (h : Hp)
 (hi : 0 ≤ i ∧ i ≤ 100) (ho : o ≠ [] ∧ o.length + G.length ≤ 180) (hG : PInL c G) (hl : G.length ≤ 90) (hP : PIn c h.p) (hh0 : cI v9 i 0 = h.a) (hh1 : cI v9 i 1 = h.p) (hh2 : cB v9 i 2 = h.b)
include hi ho hG hl hh0 hh1
theorem hd_back (k : Nat) (hk : G.reverse[k]? = some h.p) (hm : ∀ j, j < k → G.reverse[j]? ≠ some h.p) (hn : 200 < n)
  (hgo : go0 (withV c (popd h.p G), i + 1, hdL (holdF c o (pops h.a h.p G)), foL (popd h.p G)) = some r) :
  iterF (fun go1 s => chain_Holders_17 n go0 go1 c.f (ptL c.ps) v9 i (k : Int) s.1 s.2.1 s.2.2) n ((true, hdL o, foL G) : chain_Holders_s2) = some r := by
 refine iterF_ind (fun s => ∃ (B G' : List Int) (o' : List Hd), s = (true, hdL o', foL G') ∧ G = B ++ G' ∧ popd h.p G' = popd h.p G ∧ holdF c o' (pops h.a h.p G') = holdF c o (pops h.a h.p G) ∧ o' ≠ [] ∧ o'.length + G'.length ≤ 180) (fun s => s.2.2.length) r ?_ n _ ⟨[], G, o, rfl, rfl, rfl, rfl, ho.1, ho.2⟩ (by rw [foL_len]; omega)
 rintro _ go ⟨B, G', o', rfl, hB, hp, hoo, hne, hlen⟩ ih
 simp only
 have hin : h.p ∈ G' ↔ k < G'.length := by
  subst hB
  exact pop_in hk hm
 have hG' : PInL c G' := fun x hx => hG x (by rw [hB]; exact List.mem_append_right _ hx)
 have hlG : G'.length ≤ 90 := by rw [hB, List.length_append] at hl; omega
 by_cases hkk : k < G'.length
 ·cases G' with
  | nil => simp at hkk
  | cons x G' =>
   simp only [List.length_cons] at hlG
   rw [hd10_pop n go0 go c v9 i o' G' k ⟨hne, by omega⟩ (fun y hy => hG' y (List.mem_cons_of_mem _ hy)) (by omega) x hkk]
   have h1 : h.p ∈ x :: G' := hin.2 hkk
   have e1 : popd h.p (x :: G') = popd h.p G' := by rw [popd, if_pos h1]
   have e2 : pops h.a h.p (x :: G') = ⟨h.a, x, if x = h.p then 3 else 4, G'⟩ :: pops h.a h.p G' := by rw [pops, if_pos h1]
   rw [hh0]
   have hw := holdW_len o' h.a (withV c G')
   refine ih _ ⟨B ++ [x], G', holdW o' h.a (withV c G'), rfl, by rw [hB]; simp, by rw [← hp, e1], by rw [← hoo, e2]; rfl, holdW_ne _ _ _, by simp only [List.length_cons] at hlen; omega⟩ ?_
   simp only [foL_len, List.length_cons]; omega
 ·have h1 : h.p ∉ G' := fun h => hkk (hin.1 h)
  have e1 : popd h.p G' = G' := popd_no h1
  have e2 : pops h.a h.p G' = [] := by
   cases G' with
   | nil => rfl
   | cons x G' => rw [pops, if_neg h1]
  rw [hd10_end n go0 go c v9 i o' G' k hi ⟨hne, by omega⟩ hG' (by omega) hkk]
  rw [e2] at hoo
  have hoo : o' = holdF c o (pops h.a h.p G) := hoo
  rw [hoo, ← e1, hp]
  exact hgo
include hP hh2
theorem hd_round (hL : Life c.life) (h0 : 0 ≤ h.a) (hn : 200 < n) (hnl : c.life.length < n)
  (hgo : go0 (withV c (aftH c G h), i + 1, hdL (holdF c o (momsH c G h)), foL (aftH c G h)) = some r) :
  iterF (fun go1 s => chain_Holders_4 n go0 go1 c.f (evL c.life) (ptL c.ps) v9 (withV c G) i (hdL o) (foL G) s) n (0 : chain_Holders_s1) = some r := by
 refine iterF_ind (fun s => ∃ j : Nat, s = (j : Int) ∧ j ≤ G.length ∧ ∀ j', j' < j → G.reverse[j']? ≠ some h.p) (fun s => G.length - s.toNat) r ?_ n _ ⟨0, rfl, by omega, fun j hj => by omega⟩ (by omega)
 rintro _ go ⟨j, rfl, hj, hm⟩ ih
 have hP' : PIn c (cI v9 i 1) := by rw [hh1]; exact hP
 have p1 : (0 : Int) ≤ cI v9 i 1 := hP'.1
 have p2 : cI v9 i 1 < ((ptL c.ps).length : Int) := by rw [List.length_map]; exact hP'.2
 have hE : h.b = false → ∀ go1, chain_Holders_7 n go0 go1 c.f (ptL c.ps) v9 (withV c G) i (hdL o) (foL G) (atL c.life (min h.a 10000000)).s (atL c.life (min h.a 10000000)).h = some r := by
  intro hb go1
  rw [hd7 n go0 go1 c v9 i o G hi ⟨ho.1, by omega⟩ hG (by omega) hP', hh0, hh1]
  have hnb : ¬ h.b = true := by rw [hb]; decide
  unfold aftH momsH at hgo
  rw [if_neg hnb, if_neg hnb] at hgo
  by_cases ht : Takes c G h
  ·rw [if_pos ht, if_pos ht] at hgo
   exact (if_pos ht).trans hgo
  ·rw [if_neg ht, if_neg ht] at hgo
   exact (if_neg ht).trans hgo
 unfold chain_Holders_4
 by_cases hlt : j < G.length
 ·have c1 : (j : Int) < ((foL G).length : Int) := by rw [foL_len]; omega
  have c2 : (0 : Int) ≤ (j : Int) := by omega
  obtain ⟨x, hx⟩ := get_lt (l := G.reverse) (i := j) (by simpa using hlt)
  rw [decide_eq_true c1, cond_true, decide_eq_true c2, cond_true]
  unfold chain_Holders_5
  rw [foL_cell hx]
  by_cases he : cI v9 i 1 = x
  ·rw [decide_eq_true he, cond_true, decide_eq_true p1, cond_true, decide_eq_true p2, cond_true]
   unfold chain_Holders_6
   rw [hh2]
   cases hb : h.b with
   | false =>
    rw [Bool.not_false, cond_true, hh0, at_T hL h0 n hnl, Option.bind_some]
    exact hE hb _
   | true =>
    rw [Bool.not_true, cond_false]
    unfold chain_Holders_15
    have c3 : ¬ (j : Int) < 0 := by omega
    rw [decide_eq_false c3, cond_false]
    have hx' : G.reverse[j]? = some h.p := by rw [hx, ← he, hh1]
    have hin : h.p ∈ G := List.mem_reverse.1 (List.mem_of_getElem? hx')
    unfold aftH momsH at hgo
    rw [if_pos hb, if_pos hb, if_pos hin] at hgo
    exact hd_back n go0 c v9 i o G r h hi ho hG hl hh0 hh1 j hx' hm hn hgo
  ·have c4 : (-9223372036854775808 : Int) ≤ (j : Int) + 1 := by omega
   have c5 : (j : Int) + 1 ≤ (9223372036854775807 : Int) := by omega
   rw [decide_eq_false he, cond_false, decide_eq_true c4, decide_eq_true c5, Bool.and_self, cond_true]
   refine ih _ ⟨j + 1, by omega, by omega, fun j' hj' => ?_⟩ (by omega)
   rcases Nat.lt_or_ge j' j with h1 | h1
   ·exact hm j' h1
   ·have : j' = j := by omega
    subst this
    rw [hx, ← hh1]
    exact fun e => he (Option.some.inj e).symm
 ·have c1 : ¬ (j : Int) < ((foL G).length : Int) := by rw [foL_len]; omega
  have hnin : h.p ∉ G := fun hin => by
   obtain ⟨q, hq, he⟩ := List.getElem_of_mem (List.mem_reverse.2 hin)
   have hq' : q < G.length := by simpa using hq
   exact hm q (by omega) (by rw [List.getElem?_eq_getElem hq, he])
  rw [decide_eq_false c1, cond_false, decide_eq_true p1, cond_true, decide_eq_true p2, cond_true]
  unfold chain_Holders_22
  rw [hh2]
  cases hb : h.b with
  | false =>
   rw [Bool.not_false, cond_true, hh0, at_T hL h0 n hnl, Option.bind_some, hd23]
   exact hE hb _
  | true =>
   rw [Bool.not_true, cond_false]
   unfold aftH momsH at hgo
   rw [if_pos hb, if_pos hb, if_neg hnin, popd_no hnin, ← hh0] at hgo
   rw [← hgo]
   exact hd_tail go0 c v9 i o G hi ⟨ho.1, by omega⟩ hG (by omega)
end
theorem holdF_app (c : Ch) (o : List Hd) (A B : List Mo) : holdF c o (A ++ B) = holdF c (holdF c o A) B := by simp [holdF]
theorem holdF_ne (c : Ch) : ∀ (l : List Mo) (o : List Hd), o ≠ [] → holdF c o l ≠ []
 | [], o, h => h
 | m :: l, o, _ => holdF_ne c l (holdS c o m) (holdW_ne _ _ _)
theorem holdF_len (c : Ch) : ∀ (l : List Mo) (o : List Hd), (holdF c o l).length ≤ o.length + l.length
 | [], o => by simp [holdF]
 | m :: l, o => by
  have h1 := holdF_len c l (holdS c o m)
  have h2 := holdW_len o m.a (withV c m.G)
  show (holdF c (holdS c o m) l).length ≤ _
  unfold holdS at h1 ⊢
  simp only [List.length_cons]; omega
abbrev hdV (l : List Hd) : Lv := l.map hdR
theorem chain_Holders_v (n : Nat) (c : Ch) (hl : c.life.length < n) (hn : 200 < n) : chain_Holders n c.n c.f c.r.a c.r.c c.r.s c.r.r (evL c.life) (ptL c.ps) = some (if ChV c then (hdV (holdV c), 0) else ([], 170)) := by
 unfold chain_Holders chain_Holders_1
 rw [chain_Valid_v n c hl hn, Option.bind_some]
 unfold chain_Holders_2
 by_cases h : ChV c
 ·rw [if_pos h, decide_eq_true h, Bool.not_true, cond_false, chain_happenings_v n c h hn, Option.bind_some]
  obtain ⟨H, hH⟩ : ∃ H, H = hps c := ⟨_, rfl⟩
  have hHl : H.length ≤ 16 := by
   have := hps_len c
   have := h.2.2.2.2.2.1
   rw [hH]; omega
  have hT : turnsV c = moms c [] H := by rw [hH]; rfl
  rw [← hH]
  refine iterF_ind (fun s => ∃ i : Nat, s = (withV c (force c [] (H.take i)), (i : Int), hdL (holdF c [⟨c.f, 0, 0⟩] (moms c [] (H.take i))), foL (force c [] (H.take i))) ∧ i ≤ H.length) (fun s => H.length - s.2.1.toNat) _ ?_ n _ ⟨0, rfl, by omega⟩ (by simp; omega)
  rintro _ go ⟨i, rfl, hi⟩ ih
  simp only
  unfold chain_Holders_3
  have hti : (H.take i).length ≤ i := by rw [List.length_take]; omega
  have hfl := force_len c (H.take i) []
  have hml := moms_len c (H.take i) []
  simp only [List.length_nil] at hfl hml
  have hne := holdF_ne c (moms c [] (H.take i)) [⟨c.f, 0, 0⟩] (by simp)
  have hhl := holdF_len c (moms c [] (H.take i)) [⟨c.f, 0, 0⟩]
  simp only [List.length_cons, List.length_nil] at hhl
  by_cases hlt : i < H.length
  ·obtain ⟨x, hx⟩ := get_lt hlt
   obtain ⟨x0, x1, x2⟩ := hp_cells hx
   have hxm : x ∈ hps c := by rw [← hH]; exact List.mem_of_getElem? hx
   have c1 : (i : Int) < ((hpL H).length : Int) := by rw [List.length_map]; omega
   have c2 : (0 : Int) ≤ (i : Int) := by omega
   have hPx : PIn c x.p := by
    obtain ⟨k, p, g1, g2, _⟩ := hps_port hxm
    have := (List.getElem?_eq_some_iff.1 g1).1
    rw [g2]
    exact ⟨by omega, by omega⟩
   rw [decide_eq_true c1, cond_true, decide_eq_true c2, cond_true]
   refine hd_round n go c (hpL H) i _ (force c [] (H.take i)) _ x (by omega) ⟨hne, by omega⟩ (force_in fun y hy => by rw [← hH]; exact List.mem_of_mem_take hy) (by omega) hPx x0 x1 x2 h.1 (hps_ge h hxm).1 hn hl ?_
   have e1 : H.take (i + 1) = H.take i ++ [x] := take_snoc hx
   have e2 : force c [] (H.take (i + 1)) = aftH c (force c [] (H.take i)) x := by rw [e1]; simp [force]
   have e3 : moms c [] (H.take (i + 1)) = moms c [] (H.take i) ++ momsH c (force c [] (H.take i)) x := by rw [e1, moms_app]; simp [moms]
   rw [← e2, ← holdF_app, ← e3]
   exact ih _ ⟨i + 1, rfl, by omega⟩ (by simp only; omega)
  ·have h00 : i = H.length := by omega
   have c1 : ¬ (i : Int) < ((hpL H).length : Int) := by rw [List.length_map]; omega
   rw [decide_eq_false c1, cond_false]
   have hV : holdV c = (closeH (holdF c [⟨c.f, 0, 0⟩] (moms c [] (H.take i)))).reverse := by rw [h00, List.take_length, ← hT]; rfl
   rw [hV]
   cases hq : holdF c [⟨c.f, 0, 0⟩] (moms c [] (H.take i)) with
   | nil => exact absurd hq hne
   | cons x r =>
    rw [hq] at hhl
    have hL : ((hdL (x :: r)).length : Int) = (r.length : Int) + 1 := by rw [hdL_len]; rfl
    have e1 : (-9223372036854775808 : Int) ≤ ((hdL (x :: r)).length : Int) - 1 := by omega
    have e2 : ((hdL (x :: r)).length : Int) - 1 ≤ (9223372036854775807 : Int) := by simp only [List.length_cons] at hhl; omega
    have e3 : (0 : Int) ≤ ((hdL (x :: r)).length : Int) - 1 := by omega
    have e4 : ((hdL (x :: r)).length : Int) - 1 < ((hdL (x :: r)).length : Int) := by omega
    rw [decide_eq_true e1, decide_eq_true e2, Bool.and_self, cond_true, decide_eq_true e3, cond_true, decide_eq_true e4, cond_true, hdL_to]
    rfl
 ·rw [if_neg h, decide_eq_false h, Bool.not_false, cond_true]
end Go.Proofs.YtjllgiddmeiaoaaGreat
set_option maxRecDepth 100000
namespace Go.Proofs.YtjllgiddmeiaoaaGreat
open Go Go.Sx Go.Dial.Clm Go.Dial.Lif Go.Dial.Chn
theorem upH_all {c : Ch} (hV : ChV c) {t : Int} (ht : 14000000 ≤ t) : (hps c).take (upH c t) = hps c := by
 rw [← upH_take]
 have : ∀ (l : List Hp), (∀ h ∈ l, h.a ≤ t) → l.takeWhile (fun h => decide (h.a ≤ t)) = l := by
  intro l
  induction l with
  | nil => intro _; rfl
  | cons x l ih =>
   intro h
   rw [List.takeWhile_cons_of_pos (by simpa using h x (List.mem_cons_self ..)), ih fun y hy => h y (List.mem_cons_of_mem _ hy)]
 exact this _ fun h hh => by have := (hps_bd2 hV hh).2; omega
theorem ref17_Turns_v (n : Nat) (c : Ch) (hl : c.life.length < n) (hn : 200 < n) : ref17_Turns n c.n c.f c.r.a c.r.c c.r.s c.r.r (evL c.life) (ptL c.ps) = some (if ChV c then (tnL (turnsV c), 0) else ([], 170)) := by
 unfold ref17_Turns ref17_Turns_1
 rw [ref17_Valid_v n c hl hn, Option.bind_some]
 by_cases h : ChV c
 ·rw [decide_eq_true h, Bool.not_true, cond_false, ref17_run_v n c _ h hl hn, Option.bind_some, upH_all h (by decide), if_pos h]
  rfl
 ·rw [decide_eq_false h, Bool.not_false, cond_true, if_neg h]
theorem force_pin {c : Ch} (t : Int) : PInL c (forceAt c t) := by rw [forceAt_Gk]; exact gk_pin _
theorem force_16 {c : Ch} (hV : ChV c) (t : Int) : (forceAt c t).length ≤ 16 := by
 rw [forceAt_Gk]
 have h1 := gk_len c (upH c t)
 have h2 : upH c t ≤ (hps c).length := by unfold upH; exact List.Sublist.length_le (List.takeWhile_sublist _)
 have h3 := hps_len c
 have h4 := hV.2.2.2.2.2.1
 omega
theorem with_ref {α : Type} (c : Ch) (G : List Int) (hG : PInL c G) (hl : G.length ≤ 100) (K : Int → Option α) (r : Option α) (hK : K (withV c G) = r) :
  (bif (decide (((foL G).length : Int) = 0)) then K c.f
   else bif ((decide ((-9223372036854775808) ≤ (((foL G).length : Int) - 1))) && (decide ((((foL G).length : Int) - 1) ≤ 9223372036854775807))) then bif (decide (0 ≤ (((foL G).length : Int) - 1))) then bif (decide ((((foL G).length : Int) - 1) < ((foL G).length : Int))) then bif (decide (0 ≤ (cI (foL G) (((foL G).length : Int) - 1) 0))) then bif (decide ((cI (foL G) (((foL G).length : Int) - 1) 0) < ((ptL c.ps).length : Int))) then K (cI (ptL c.ps) (cI (foL G) (((foL G).length : Int) - 1) 0) 2) else none else none else none else none else none) = r := by
 have hpl : ((ptL c.ps).length : Int) = (c.ps.length : Int) := by rw [List.length_map]
 have hfl : ((foL G).length : Int) = (G.length : Int) := by rw [foL_len]
 cases G with
 | nil =>
  have e0 : ((foL ([] : List Int)).length : Int) = 0 := rfl
  rw [decide_eq_true e0, cond_true]; exact hK
 | cons y G =>
  have e0 : ¬ ((foL (y :: G)).length : Int) = 0 := by rw [foL_len, List.length_cons]; omega
  have hy := hG y (List.mem_cons_self ..)
  obtain ⟨_, u2, _⟩ := port_to hy
  have q1 : (-9223372036854775808 : Int) ≤ ((foL (y :: G)).length : Int) - 1 := by omega
  have q2 : ((foL (y :: G)).length : Int) - 1 ≤ (9223372036854775807 : Int) := by omega
  have q3 : (0 : Int) ≤ ((foL (y :: G)).length : Int) - 1 := by rw [foL_len, List.length_cons]; omega
  have q4 : ((foL (y :: G)).length : Int) - 1 < ((foL (y :: G)).length : Int) := by omega
  have q5 : (0 : Int) ≤ y := hy.1
  have q6 : y < ((ptL c.ps).length : Int) := by have := hy.2; omega
  rw [decide_eq_false e0, cond_false, decide_eq_true q1, decide_eq_true q2, Bool.and_self, cond_true, decide_eq_true q3, cond_true, decide_eq_true q4, cond_true, foL_top, decide_eq_true q5, cond_true, decide_eq_true q6, cond_true, u2]
  exact hK
theorem ref17_At_v (n : Nat) (c : Ch) (t : Int) (hl : c.life.length < n) (hn : 200 < n) : ref17_At n c.n c.f c.r.a c.r.c c.r.s c.r.r (evL c.life) (ptL c.ps) t = some (if ChV c ∧ 0 ≤ t ∧ t ≤ 20000000 then (withV c (forceAt c t), foL (forceAt c t), 0) else (0, [], 170)) := by
 unfold ref17_At ref17_At_1
 rw [ref17_Valid_v n c hl hn, Option.bind_some]
 by_cases h : ChV c
 ·rw [decide_eq_true h, Bool.not_true, cond_false]
  by_cases h0 : 0 ≤ t
  ·by_cases h1 : t ≤ 20000000
   ·rw [decide_eq_true h0, cond_true, decide_eq_true h1, Bool.not_true, cond_false, ref17_run_v n c _ h hl hn, Option.bind_some, if_pos ⟨h, h0, h1⟩]
    exact with_ref c (forceAt c t) (force_pin t) (by have := force_16 h t; omega) (fun w => some (w, foL (forceAt c t), 0)) _ rfl
   ·rw [if_neg (fun h => h1 h.2.2), decide_eq_true h0, cond_true, decide_eq_false h1, Bool.not_false, cond_true]
  ·rw [if_neg (fun h => h0 h.2.1), decide_eq_false h0, cond_false]
 ·rw [if_neg (fun hh => h hh.1), decide_eq_false h, Bool.not_false, cond_true]
theorem rhF_snoc {c : Ch} {i : Nat} {m : Mo} (hm : (turnsV c)[i]? = some m) : rhF c ((turnsV c).take (i + 1)) = rhS (fun t => withV c (forceAt c t)) (rhF c ((turnsV c).take i)) m.a := by
 unfold rhF
 rw [take_snoc hm]
 simp
theorem rhF_len (c : Ch) : ∀ (l : List Mo), (rhF c l).length ≤ l.length + 1 := by
 have : ∀ (l : List Mo) (o : List Hd), (l.foldl (fun o m => rhS (fun t => withV c (forceAt c t)) o m.a) o).length ≤ l.length + o.length := by
  intro l
  induction l with
  | nil => intro o; simp
  | cons m l ih =>
   intro o
   have h1 := ih (rhS (fun t => withV c (forceAt c t)) o m.a)
   have h2 : (rhS (fun t => withV c (forceAt c t)) o m.a).length ≤ o.length + 1 := by
    unfold rhS
    cases o with
    | nil => simp
    | cons y r => simp only; split <;> simp
   simp only [List.foldl_cons, List.length_cons]
   omega
 intro l
 exact this l [⟨withV c (forceAt c 0), 0, 20000001⟩]
theorem ref17_Holders_v (n : Nat) (c : Ch) (hl : c.life.length < n) (hn : 200 < n) : ref17_Holders n c.n c.f c.r.a c.r.c c.r.s c.r.r (evL c.life) (ptL c.ps) = some (if ChV c then (hdV (holdV c), 0) else ([], 170)) := by
 unfold ref17_Holders ref17_Holders_1
 rw [ref17_Valid_v n c hl hn, Option.bind_some]
 unfold ref17_Holders_2
 by_cases h : ChV c
 rotate_left
 ·rw [decide_eq_false h, Bool.not_false, cond_true, if_neg h]
 rw [decide_eq_true h, Bool.not_true, cond_false, ref17_run_v n c _ h hl hn, Option.bind_some, ref17_run_v n c _ h hl hn, Option.bind_some, upH_all h (by decide), if_pos h]
 show ref17_Holders_3 n c.n c.f c.r.a c.r.c c.r.s c.r.r (evL c.life) (ptL c.ps) (tnL (turnsV c)) (foL (forceAt c 0)) = _
 unfold ref17_Holders_3
 have hT32 : (turnsV c).length ≤ 32 := by
  have h1 := moms_len c (hps c) []
  have h2 := hps_len c
  have h3 := h.2.2.2.2.2.1
  have h4 : turnsV c = moms c [] (hps c) := rfl
  rw [h4]
  simp only [List.length_nil] at h1
  omega
 have hpl : ((ptL c.ps).length : Int) = (c.ps.length : Int) := by rw [List.length_map]
 have hTl : ((tnL (turnsV c)).length : Int) = ((turnsV c).length : Int) := by rw [List.length_map]
 have main : ∀ fo : Lv, iterF (fun go0 s => ref17_Holders_4 n go0 c.n c.f c.r.a c.r.c c.r.s c.r.r (evL c.life) (ptL c.ps) (tnL (turnsV c)) s.2.1 s.2.2) n ((fo, (([] : Lv) ++ [[(AV.int (withV c (forceAt c 0))), (AV.int 0), (AV.int 20000001)]]), 0) : ref17_Holders_s0) = some (hdV (holdV c), 0) := by
  intro fo
  refine iterF_ind (fun s => ∃ (i : Nat) (fo : Lv), s = (fo, hdL (rhF c ((turnsV c).take i)), (i : Int)) ∧ i ≤ (turnsV c).length) (fun s => (turnsV c).length - s.2.2.toNat) _ ?_ n _ ⟨0, fo, rfl, by omega⟩ (by simp; omega)
  rintro _ go ⟨i, fo, rfl, hi⟩ ih
  simp only
  unfold ref17_Holders_4
  rcases Nat.lt_or_ge i (turnsV c).length with hlt | hge
  case inr =>
   have c1 : ¬ (i : Int) < ((tnL (turnsV c)).length : Int) := by omega
   have e : i = (turnsV c).length := by omega
   rw [decide_eq_false c1, cond_false, e, List.take_length, ← rhF_hold h]
   rfl
  case inl =>
  obtain ⟨m, hm⟩ := get_lt hlt
  have hc : ∀ k, cA (tnL (turnsV c)) (i : Int) k = (tnR m).getD k (.int 0) := fun k => cA_map (by simpa using hm)
  have x0 : cI (tnL (turnsV c)) (i : Int) 0 = m.a := by simp only [cI, hc]; rfl
  have c1 : (i : Int) < ((tnL (turnsV c)).length : Int) := by omega
  have c2 : (0 : Int) ≤ (i : Int) := by omega
  have c4 : (-9223372036854775808 : Int) ≤ (i : Int) + 1 := by omega
  have c5 : (i : Int) + 1 ≤ (9223372036854775807 : Int) := by omega
  obtain ⟨s, y, r, e, _, _⟩ := rhF_inv h i (by omega)
  have hrl := rhF_len c ((turnsV c).take i)
  rw [List.length_take, e] at hrl
  have hgo := ih (foL (forceAt c m.a), hdL (rhF c ((turnsV c).take (i + 1))), (i : Int) + 1) ⟨i + 1, _, rfl, by omega⟩ (by simp only; omega)
  rw [rhF_snoc hm, e] at hgo
  rw [e, decide_eq_true c1, cond_true, decide_eq_true c2, cond_true, x0, ref17_run_v n c m.a h hl hn]
  simp only [Option.bind_some]
  have hll : ((hdL (y :: r)).length : Int) = (r.length : Int) + 1 := by rw [hdL_len]; simp
  have hr : r.length ≤ 40 := by simp only [List.length_cons] at hrl; omega
  have d1 : (-9223372036854775808 : Int) ≤ ((hdL (y :: r)).length : Int) - 1 := by omega
  have d2 : ((hdL (y :: r)).length : Int) - 1 ≤ (9223372036854775807 : Int) := by omega
  have d3 : (0 : Int) ≤ ((hdL (y :: r)).length : Int) - 1 := by omega
  have d4 : ((hdL (y :: r)).length : Int) - 1 < ((hdL (y :: r)).length : Int) := by omega
  have d5 : (((hdL (y :: r)).length : Int) + 1) * 24 ≤ 140737488355328 := by omega
  rw [decide_eq_true d1, decide_eq_true d2, Bool.and_self, cond_true]
  refine with_ref c (forceAt c m.a) (force_pin m.a) (by have := force_16 h m.a; omega) (fun w => bif (decide (0 ≤ (((hdL (y :: r)).length : Int) - 1))) then bif (decide ((((hdL (y :: r)).length : Int) - 1) < ((hdL (y :: r)).length : Int))) then (bif (!(decide (w = (cI (hdL (y :: r)) (((hdL (y :: r)).length : Int) - 1) 0)))) then bif (decide (((((hdL (y :: r)).length : Int) + 1) * 24) ≤ 140737488355328)) then bif ((decide ((-9223372036854775808) ≤ ((i : Int) + 1))) && (decide (((i : Int) + 1) ≤ 9223372036854775807))) then go (foL (forceAt c m.a), ((List.modify (hdL (y :: r)) ((((hdL (y :: r)).length : Int) - 1)).toNat (fun r => r.set 2 (AV.int m.a))) ++ [[(AV.int w), (AV.int m.a), (AV.int 20000001)]]), ((i : Int) + 1)) else none else none
   else bif ((decide ((-9223372036854775808) ≤ ((i : Int) + 1))) && (decide (((i : Int) + 1) ≤ 9223372036854775807))) then go (foL (forceAt c m.a), hdL (y :: r), ((i : Int) + 1)) else none) else none else none) _ ?_
  rw [decide_eq_true d3, cond_true, decide_eq_true d4, cond_true, hdL_who, decide_eq_true d5, cond_true, decide_eq_true c4, decide_eq_true c5, Bool.and_self, cond_true, cond_true, hdL_to, hdL_snoc]
  have hR : rhS (fun t => withV c (forceAt c t)) (y :: r) m.a = if withV c (forceAt c m.a) = y.c then y :: r else ⟨withV c (forceAt c m.a), m.a, 20000001⟩ :: ⟨y.c, y.f, m.a⟩ :: r := rfl
  rw [hR] at hgo
  by_cases hw : withV c (forceAt c m.a) = y.c
  ·rw [if_pos hw] at hgo
   rw [decide_eq_true hw, Bool.not_true, cond_false]; exact hgo
  ·rw [if_neg hw] at hgo
   rw [decide_eq_false hw, Bool.not_false, cond_true]; exact hgo
 exact with_ref c (forceAt c 0) (force_pin 0) (by have := force_16 h 0; omega) (fun w => iterF (fun go0 s => ref17_Holders_4 n go0 c.n c.f c.r.a c.r.c c.r.s c.r.r (evL c.life) (ptL c.ps) (tnL (turnsV c)) s.2.1 s.2.2) n ((foL (forceAt c 0), (([] : Lv) ++ [[(AV.int w), (AV.int 0), (AV.int 20000001)]]), 0) : ref17_Holders_s0)) _ (main _)
end Go.Proofs.YtjllgiddmeiaoaaGreat
set_option maxRecDepth 100000
namespace Go.Proofs.YtjllgiddmeiaoaaGreat
open Go Go.Sx
noncomputable section
def consD7 : List Nat := [5, 6, 7, 8, 9, 10, 11, 12, 13, 14, 15, 16, 17, 18, 19, 20, 21, 22, 23, 24, 28, 29, 30, 31, 32, 33, 34, 35, 36, 37, 39, 41, 42, 43, 45, 47, 48, 49, 50, 51, 64, 66, 67, 69, 70, 73, 75, 76, 77, 79, 80, 81, 86, 88, 100, 101, 102, 103, 108, 111, 113, 114, 115, 132, 133, 142, 1000007, 1000008, 1000036, 1000037]
def mapsD7 : List (Nat × SV × SV) := [(117, SV.of [.agg (SV.of [.vi (.int 1), .vi (.int 1)]), .agg (SV.of [.vi (.int 2), .vi (.int 1)]), .agg (SV.of [.vi (.int 3), .vi (.int 2)]), .agg (SV.of [.vi (.int 4), .vi (.int 2)]), .agg (SV.of [.vi (.int 5), .vi (.int 1)]), .agg (SV.of [.vi (.int 5), .vi (.int 2)]), .agg (SV.of [.vi (.int 5), .vi (.int 3)]), .agg (SV.of [.vi (.int 6), .vi (.int 4)])], SV.of [.vi (.int 3), .vi (.int 2), .vi (.int 3), .vi (.int 6), .vi (.int 7), .vi (.int 7), .vi (.int 7), .vi (.int 8)])]
abbrev law17_saneX_a := Bool
abbrev law17_saneX_s0 := Int
def law17_saneX_5 (n : Nat) (go0 : law17_saneX_s0 → Option law17_saneX_a) (v0 v1 v2 v3 v4 v5 : Int) (v6 v7 : Lv) (v45 : Int) : Option law17_saneX_a :=
 (bif (decide (v45 < 3)) then bif (decide (0 ≤ v45)) then (chain_Open n v0 v1 v2 v3 v4 v5 v6 v7 (cI (((([] : Lv) ++ [[(AV.int 119)]]) ++ [[(AV.int 125)]]) ++ [[(AV.int 300)]]) v45 0)).bind fun y46 =>
 (bif (!(decide (y46.2 = 0))) then some false
 else (ref16_Ints n y46.1 (cL (((([] : Lv) ++ [[(AV.sl (.cons .int .nil) ((([] : Lv) ++ [[(AV.int 0)]]) ++ [[(AV.int 1)]]))]]) ++ [[(AV.sl (.cons .int .nil) (((([] : Lv) ++ [[(AV.int 0)]]) ++ [[(AV.int 1)]]) ++ [[(AV.int 2)]]))]]) ++ [[(AV.sl (.cons .int .nil) ([] : Lv))]]) v45 0)).bind fun y48 =>
 (bif (!y48) then some false
 else bif ((decide ((-9223372036854775808) ≤ (v45 + 1))) && (decide ((v45 + 1) ≤ 9223372036854775807))) then go0 (v45 + 1) else none)) else none
 else (chain_Settled n v0 v1 v2 v3 v4 v5 v6 v7).bind fun y46 =>
 (chain_At n v0 v1 v2 v3 v4 v5 v6 v7 20000001).bind fun y48 =>
 (bif (decide (y46.2 = 0)) then (bif (decide (y46.1 = 254)) then (bif (decide (y48.2.2 = 170)) then (chain_Valid n v0 v1 v2 v3 v4 v5 v6 v7).bind fun y51 =>
 (bif y51 then (chain_Valid n 0 8 0 0 0 0 ([] : Lv) ([] : Lv)).bind fun y52 =>
 some (!y52)
 else some false)
 else some false)
 else some false)
 else some false))
def law17_saneX_4 (n : Nat) (go0 : law17_saneX_s0 → Option law17_saneX_a) (v0 v1 v2 v3 v4 v5 : Int) (v6 v7 : Lv) (v11 : Int) : Option law17_saneX_a :=
 (bif (decide (v11 < 3)) then bif (decide (0 ≤ v11)) then (chain_At n v0 v1 v2 v3 v4 v5 v6 v7 (cI (((([] : Lv) ++ [[(AV.int 114)]]) ++ [[(AV.int 115)]]) ++ [[(AV.int 120)]]) v11 0)).bind fun y12 =>
 (bif (!(decide (y12.2.2 = 0))) then some false
 else (bif (!(decide (y12.1 = (cI (((([] : Lv) ++ [[(AV.int 1)]]) ++ [[(AV.int 2)]]) ++ [[(AV.int 3)]]) v11 0)))) then some false
 else bif (decide (v11 ≤ 2)) then (ref16_Ints n y12.2.1 (List.take (v11).toNat ((([] : Lv) ++ [[(AV.int 0)]]) ++ [[(AV.int 1)]]))).bind fun y15 =>
 (bif (!y15) then some false
 else bif ((decide ((-9223372036854775808) ≤ (v11 + 1))) && (decide ((v11 + 1) ≤ 9223372036854775807))) then go0 (v11 + 1) else none) else none)) else none
 else (law17_example n 120 (([] : Lv) ++ [[(AV.int 6), (AV.int 150), (AV.int 2)]]) (([] : Lv) ++ [[(AV.int 1), (AV.int 121), (AV.int 0)]])).bind fun y12 =>
 (chain_Turns n y12.1 y12.2.1 y12.2.2.1 y12.2.2.2.1 y12.2.2.2.2.1 y12.2.2.2.2.2.1 y12.2.2.2.2.2.2.1 y12.2.2.2.2.2.2.2).bind fun y20 =>
 (law17_example n 120 (([] : Lv) ++ [[(AV.int 6), (AV.int 150), (AV.int 2)]]) (([] : Lv) ++ [[(AV.int 1), (AV.int 121), (AV.int 0)]])).bind fun y22 =>
 (chain_Holders n y22.1 y22.2.1 y22.2.2.1 y22.2.2.2.1 y22.2.2.2.2.1 y22.2.2.2.2.2.1 y22.2.2.2.2.2.2.1 y22.2.2.2.2.2.2.2).bind fun y30 =>
 (law17_example n 135 (([] : Lv) ++ [[(AV.int 6), (AV.int 150), (AV.int 2)]]) ([] : Lv)).bind fun y32 =>
 (chain_Turns n y32.1 y32.2.1 y32.2.2.1 y32.2.2.2.1 y32.2.2.2.2.1 y32.2.2.2.2.2.1 y32.2.2.2.2.2.2.1 y32.2.2.2.2.2.2.2).bind fun y40 =>
 (bif (!(decide (y20.2 = 0))) then some false
 else (bif (!(decide (y30.2 = 0))) then some false
 else (bif (!(decide (y40.2 = 0))) then some false
 else (ref17_SameTurns n y20.1 (((((([] : Lv) ++ [[(AV.int 115), (AV.int 0), (AV.int 1)]]) ++ [[(AV.int 120), (AV.int 1), (AV.int 1)]]) ++ [[(AV.int 126), (AV.int 2), (AV.int 2)]]) ++ [[(AV.int 150), (AV.int 1), (AV.int 4)]]) ++ [[(AV.int 150), (AV.int 0), (AV.int 3)]])).bind fun y42 =>
 (bif (!y42) then some false
 else (ref17_SameHeld n y30.1 ((((([] : Lv) ++ [[(AV.int 1), (AV.int 0), (AV.int 115)]]) ++ [[(AV.int 2), (AV.int 115), (AV.int 120)]]) ++ [[(AV.int 3), (AV.int 120), (AV.int 150)]]) ++ [[(AV.int 1), (AV.int 150), (AV.int 20000001)]])).bind fun y43 =>
 (bif (!y43) then some false
 else (ref17_SameTurns n y40.1 (((((([] : Lv) ++ [[(AV.int 115), (AV.int 0), (AV.int 1)]]) ++ [[(AV.int 120), (AV.int 1), (AV.int 1)]]) ++ [[(AV.int 150), (AV.int 1), (AV.int 4)]]) ++ [[(AV.int 150), (AV.int 0), (AV.int 3)]]) ++ [[(AV.int 150), (AV.int 2), (AV.int 1)]])).bind fun y44 =>
 (bif (!y44) then some false
 else (iterF (fun go0 s => law17_saneX_5 n go0 v0 v1 v2 v3 v4 v5 v6 v7 s) n (0 : law17_saneX_s0)))))))))
def law17_saneX_3 (n : Nat) (v0 v1 v2 v3 v4 v5 : Int) (v6 v7 : Lv) (v10 : Bool) : Option law17_saneX_a :=
 (bif (!v10) then some false
 else (iterF (fun go0 s => law17_saneX_4 n go0 v0 v1 v2 v3 v4 v5 v6 v7 s) n (0 : law17_saneX_s0)))
def law17_saneX_2 (n : Nat) (v0 v1 v2 v3 v4 v5 : Int) (v6 v7 v8 : Lv) (v9 : Int) : Option law17_saneX_a :=
 (bif (!(decide (v9 = 0))) then some false
 else (ref17_SameTurns n v8 (((([] : Lv) ++ [[(AV.int 115), (AV.int 0), (AV.int 1)]]) ++ [[(AV.int 120), (AV.int 1), (AV.int 1)]]) ++ [[(AV.int 126), (AV.int 2), (AV.int 2)]])).bind fun y10 =>
 law17_saneX_3 n v0 v1 v2 v3 v4 v5 v6 v7 y10)
def law17_saneX_1 (n : Nat) : Option law17_saneX_a :=
 (law17_example n 120 ([] : Lv) (([] : Lv) ++ [[(AV.int 1), (AV.int 121), (AV.int 0)]])).bind fun y0 =>
 (chain_Turns n y0.1 y0.2.1 y0.2.2.1 y0.2.2.2.1 y0.2.2.2.2.1 y0.2.2.2.2.2.1 y0.2.2.2.2.2.2.1 y0.2.2.2.2.2.2.2).bind fun y8 =>
 law17_saneX_2 n y0.1 y0.2.1 y0.2.2.1 y0.2.2.2.1 y0.2.2.2.2.1 y0.2.2.2.2.2.1 y0.2.2.2.2.2.2.1 y0.2.2.2.2.2.2.2 y8.1 y8.2
def law17_saneX (n : Nat) : Option law17_saneX_a := law17_saneX_1 n
def law17_saneX_t : FnT := ⟨[], .b, fun n (s : Unit) => law17_saneX n⟩
theorem law17_saneX_ok : law17_saneX_t.ok Tryz.prog 5 := FnT.ok_of (cfg := ⟨[((5, 11, 14), .inv [(.tmp 9 .int)]), ((5, 27, 37), .inv [(.tmp 24 .int)])], consD7, [], mapsD7⟩) (tab := chain_Holders_T) (mt := mtE) pfit chain_Holders_T_ok mtE_ok (fun s fn hf => by rw [Tryz.func5] at hf; cases hf; kernel_rfl) (fun n s => by kernel_rfl)
def law17_saneX_T : Tab := (5, law17_saneX_t) :: chain_Holders_T
theorem law17_saneX_T_ok : law17_saneX_T.ok Tryz.prog := Tab.ok_cons law17_saneX_ok chain_Holders_T_ok
end
end Go.Proofs.YtjllgiddmeiaoaaGreat
set_option maxRecDepth 100000
namespace Go.Proofs.YtjllgiddmeiaoaaGreat
open Go Go.Sx
noncomputable section
theorem law17_saneX_v : law17_saneX 300 = some true := by kernel_rfl
def law17_sane (_ : Nat) : Option Bool := some true
def law17_sane_t : FnT := ⟨[], .b, fun n (_ : Unit) => law17_sane n⟩
theorem law17_sane_ok : law17_sane_t.ok Tryz.prog 5 := fun n s z h => law17_saneX_ok 300 s z (by
 have h : some true = some z := h
 cases h
 exact law17_saneX_v)
def law17_sane_T : Tab := (5, law17_sane_t) :: law17_saneX_T
theorem law17_sane_T_ok : law17_sane_T.ok Tryz.prog := Tab.ok_cons law17_sane_ok law17_saneX_T_ok
end
end Go.Proofs.YtjllgiddmeiaoaaGreat
set_option maxRecDepth 100000
namespace Go.Proofs.YtjllgiddmeiaoaaGreat
open Go Go.Sx
noncomputable section
def consD11 : List Nat := [5, 6, 7, 8, 9, 10, 11, 12, 13, 14, 15, 16, 17, 18, 19, 20, 21, 22, 23, 24, 28, 29, 30, 31, 32, 33, 34, 35, 36, 37, 39, 41, 42, 43, 45, 47, 48, 49, 50, 51, 64, 66, 67, 69, 70, 73, 75, 76, 77, 79, 80, 81, 86, 88, 100, 101, 102, 103, 108, 111, 113, 114, 115, 132, 133, 142, 1000007, 1000008, 1000036, 1000037]
def mapsD11 : List (Nat × SV × SV) := [(117, SV.of [.agg (SV.of [.vi (.int 1), .vi (.int 1)]), .agg (SV.of [.vi (.int 2), .vi (.int 1)]), .agg (SV.of [.vi (.int 3), .vi (.int 2)]), .agg (SV.of [.vi (.int 4), .vi (.int 2)]), .agg (SV.of [.vi (.int 5), .vi (.int 1)]), .agg (SV.of [.vi (.int 5), .vi (.int 2)]), .agg (SV.of [.vi (.int 5), .vi (.int 3)]), .agg (SV.of [.vi (.int 6), .vi (.int 4)])], SV.of [.vi (.int 3), .vi (.int 2), .vi (.int 3), .vi (.int 6), .vi (.int 7), .vi (.int 7), .vi (.int 7), .vi (.int 8)])]
abbrev ref14_Bent_a := Lv
abbrev ref14_Bent_s0 := Lv
def ref14_Bent_2 (n : Nat) (go0 : ref14_Bent_s0 → Option ref14_Bent_a) (v2 : Int) (v6 : Lv) : Option ref14_Bent_a :=
 (ref14_pick n v2 4).bind fun y7 =>
 bif ((decide ((-9223372036854775808) ≤ (38 + y7))) && (decide ((38 + y7) ≤ 9223372036854775807))) then (bif (decide ((v6.length : Int) < (38 + y7))) then bif ((decide ((-9223372036854775808) ≤ ((v6.length : Int) - 1))) && (decide (((v6.length : Int) - 1) ≤ 9223372036854775807))) then bif (decide (0 ≤ ((v6.length : Int) - 1))) then bif (decide (((v6.length : Int) - 1) < (v6.length : Int))) then (bif (decide ((cI v6 ((v6.length : Int) - 1) 1) < 10000000)) then (bif (decide ((cI v6 ((v6.length : Int) - 1) 0) = 3)) then bif (decide ((((v6.length : Int) + 1) * 24) ≤ 140737488355328)) then go0 (v6 ++ [[(AV.int 4), (AV.int (cI v6 ((v6.length : Int) - 1) 1)), (AV.int (-1))]]) else none
 else bif (decide ((((v6.length : Int) + 1) * 24) ≤ 140737488355328)) then go0 (v6 ++ [[(AV.int 3), (AV.int (cI v6 ((v6.length : Int) - 1) 1)), (AV.int (-1))]]) else none)
 else some v6) else none else none else none
 else some v6) else none
def ref14_Bent_1 (n : Nat) (v0 : Lv) (v1 v2 v3 : Int) : Option ref14_Bent_a :=
 bif (decide (((v0.length : Int) * 24) ≤ 140737488355328)) then (bif (decide ((v0.length : Int) = 0)) then some (([] : Lv) ++ [[(AV.int v2), (AV.int 0), (AV.int v3)]])
 else (ref14_pick n v3 (v0.length : Int)).bind fun y4 =>
 (ref14_pick n v1 6).bind fun y5 =>
 (bif (decide (y5 = 0)) then bif (decide (0 ≤ y4)) then bif (decide (y4 < (v0.length : Int))) then some (List.modify v0 (y4).toNat (fun r => r.set 0 (AV.int v2))) else none else none
 else (bif (decide (y5 = 1)) then bif (decide (0 ≤ y4)) then bif (decide (y4 < (v0.length : Int))) then some (List.modify v0 (y4).toNat (fun r => r.set 1 (AV.int v2))) else none else none
 else (bif (decide (y5 = 2)) then bif (decide (0 ≤ y4)) then bif (decide (y4 < (v0.length : Int))) then some (List.modify v0 (y4).toNat (fun r => r.set 2 (AV.int v2))) else none else none
 else (bif (decide (y5 = 3)) then bif (decide (0 ≤ y4)) then bif (decide (y4 ≤ (v0.length : Int))) then bif ((decide ((-9223372036854775808) ≤ (y4 + 1))) && (decide ((y4 + 1) ≤ 9223372036854775807))) then bif (decide (0 ≤ (y4 + 1))) then bif (decide ((y4 + 1) ≤ (v0.length : Int))) then bif (decide ((v0.length : Int) ≤ (v0.length : Int))) then bif (decide (((((List.take (y4).toNat v0) ++ (List.drop ((y4 + 1)).toNat (List.take ((v0.length : Int)).toNat v0))).length : Int) * 24) ≤ 140737488355328)) then some ((List.take (y4).toNat v0) ++ (List.drop ((y4 + 1)).toNat (List.take ((v0.length : Int)).toNat v0))) else none else none else none else none else none else none else none
 else (bif (decide (y5 = 4)) then bif (decide (0 ≤ y4)) then bif (decide (y4 < (v0.length : Int))) then bif (decide ((((v0.length : Int) + 1) * 24) ≤ 140737488355328)) then some (v0 ++ [[(AV.int (cI v0 y4 0)), (AV.int (cI v0 y4 1)), (AV.int (cI v0 y4 2))]]) else none else none else none
 else (iterF (fun go0 s => ref14_Bent_2 n go0 v2 s) n (v0 : ref14_Bent_s0)))))))) else none
def ref14_Bent (n : Nat) (v0 : Lv) (v1 v2 v3 : Int) : Option ref14_Bent_a := ref14_Bent_1 n v0 v1 v2 v3
def ref14_Bent_t : FnT := ⟨[(false, [(.sl (.cons .int (.cons .int (.cons .int .nil))))]), (false, [.int]), (false, [.int]), (false, [.int])], (.row 1000131 (.cons .int (.cons .int (.cons .int .nil)))), fun n (s : Lv × Int × Int × Int) => ref14_Bent n s.1 s.2.1 s.2.2.1 s.2.2.2⟩
theorem ref14_Bent_ok : ref14_Bent_t.ok Tryz.prog 36 := FnT.ok_of (cfg := ⟨[((36, 6, 2), .inv [(.tmprow 9 131 (.cons .int (.cons .int (.cons .int .nil))))])], consD11, [], mapsD11⟩) (tab := law17_sane_T) (mt := mtE) pfit law17_sane_T_ok mtE_ok (fun s fn hf => by rw [Tryz.func36] at hf; cases hf; kernel_rfl) (fun n s => by kernel_rfl)
def ref14_Bent_T : Tab := (36, ref14_Bent_t) :: law17_sane_T
theorem ref14_Bent_T_ok : ref14_Bent_T.ok Tryz.prog := Tab.ok_cons ref14_Bent_ok law17_sane_T_ok
abbrev ref16_Bent_a := Int × Int × Int × Int × Int × Int × Int × Int × Int × Bool × Lv
abbrev ref16_Bent_s0 := Lv
def ref16_Bent_4 (n : Nat) (go0 : ref16_Bent_s0 → Option ref16_Bent_a) (v0 v1 v2 v3 v4 v5 v6 v7 v8 : Int) (v9 : Bool) (v12 : Int) (v15 : Lv) : Option ref16_Bent_a :=
 (ref16_pick n v12 2).bind fun y16 =>
 bif ((decide ((-9223372036854775808) ≤ (20 + y16))) && (decide ((20 + y16) ≤ 9223372036854775807))) then (bif (decide ((v15.length : Int) < (20 + y16))) then bif (decide ((((v15.length : Int) + 1) * 24) ≤ 140737488355328)) then go0 (v15 ++ [[(AV.int 1), (AV.int 20000000), (AV.int 0)]]) else none
 else some (v0, v1, v2, v3, v4, v5, v6, v7, v8, v9, v15)) else none
def ref16_Bent_3 (n : Nat) (v0 v1 v2 v3 v4 v5 v6 v7 v8 : Int) (v9 : Bool) (v10 : Lv) (v12 v13 v14 : Int) : Option ref16_Bent_a :=
 (bif (decide (0 < (v10.length : Int))) then (ref16_pick n v13 (v10.length : Int)).bind fun y15 =>
 bif (decide (0 ≤ y15)) then bif (decide (y15 < (v10.length : Int))) then (bif (decide (v14 = 11)) then some (v0, v1, v2, v3, v4, v5, v6, v7, v8, v9, (List.modify v10 (y15).toNat (fun r => r.set 0 (AV.int v12))))
 else (bif (decide (v14 = 12)) then some (v0, v1, v2, v3, v4, v5, v6, v7, v8, v9, (List.modify v10 (y15).toNat (fun r => r.set 1 (AV.int v12))))
 else some (v0, v1, v2, v3, v4, v5, v6, v7, v8, v9, (List.modify v10 (y15).toNat (fun r => r.set 2 (AV.int v12)))))) else none else none
 else (bif (decide (v14 = 0)) then some (v12, v1, v2, v3, v4, v5, v6, v7, v8, v9, v10)
 else (bif (decide (v14 = 1)) then some (v0, v12, v2, v3, v4, v5, v6, v7, v8, v9, v10)
 else (bif (decide (v14 = 2)) then some (v0, v1, v12, v3, v4, v5, v6, v7, v8, v9, v10)
 else (bif (decide (v14 = 3)) then some (v0, v1, v2, v12, v4, v5, v6, v7, v8, v9, v10)
 else (bif (decide (v14 = 4)) then some (v0, v1, v2, v3, v12, v5, v6, v7, v8, v9, v10)
 else (bif (decide (v14 = 5)) then some (v0, v1, v2, v3, v4, v12, v6, v7, v8, v9, v10)
 else (bif (decide (v14 = 6)) then some (v0, v1, v2, v3, v4, v5, v12, v7, v8, v9, v10)
 else (bif (decide (v14 = 7)) then some (v0, v1, v2, v3, v4, v5, v6, v12, v8, v9, v10)
 else (bif (decide (v14 = 8)) then some (v0, v1, v2, v3, v4, v5, v6, v7, v12, v9, v10)
 else (bif (decide (v14 = 9)) then some (v0, v1, v2, v3, v4, v5, v5, v7, v8, v9, v10)
 else (iterF (fun go0 s => ref16_Bent_4 n go0 v0 v1 v2 v3 v4 v5 v6 v7 v8 v9 v12 s) n (v10 : ref16_Bent_s0)))))))))))))
abbrev ref16_Bent_5 := @ref16_Bent_4
def ref16_Bent_2 (n : Nat) (v0 v1 v2 v3 v4 v5 v6 v7 v8 : Int) (v9 : Bool) (v10 : Lv) (v12 v13 v14 : Int) : Option ref16_Bent_a :=
 (bif (decide (11 ≤ v14)) then ref16_Bent_3 n v0 v1 v2 v3 v4 v5 v6 v7 v8 v9 v10 v12 v13 v14
 else (bif (decide (v14 = 0)) then some (v12, v1, v2, v3, v4, v5, v6, v7, v8, v9, v10)
 else (bif (decide (v14 = 1)) then some (v0, v12, v2, v3, v4, v5, v6, v7, v8, v9, v10)
 else (bif (decide (v14 = 2)) then some (v0, v1, v12, v3, v4, v5, v6, v7, v8, v9, v10)
 else (bif (decide (v14 = 3)) then some (v0, v1, v2, v12, v4, v5, v6, v7, v8, v9, v10)
 else (bif (decide (v14 = 4)) then some (v0, v1, v2, v3, v12, v5, v6, v7, v8, v9, v10)
 else (bif (decide (v14 = 5)) then some (v0, v1, v2, v3, v4, v12, v6, v7, v8, v9, v10)
 else (bif (decide (v14 = 6)) then some (v0, v1, v2, v3, v4, v5, v12, v7, v8, v9, v10)
 else (bif (decide (v14 = 7)) then some (v0, v1, v2, v3, v4, v5, v6, v12, v8, v9, v10)
 else (bif (decide (v14 = 8)) then some (v0, v1, v2, v3, v4, v5, v6, v7, v12, v9, v10)
 else (bif (decide (v14 = 9)) then some (v0, v1, v2, v3, v4, v5, v5, v7, v8, v9, v10)
 else (iterF (fun go0 s => ref16_Bent_5 n go0 v0 v1 v2 v3 v4 v5 v6 v7 v8 v9 v12 s) n (v10 : ref16_Bent_s0)))))))))))))
def ref16_Bent_1 (n : Nat) (v0 v1 v2 v3 v4 v5 v6 v7 v8 : Int) (v9 : Bool) (v10 : Lv) (v11 v12 v13 : Int) : Option ref16_Bent_a :=
 bif (decide (((v10.length : Int) * 24) ≤ 140737488355328)) then (ref16_pick n v11 14).bind fun y14 =>
 ref16_Bent_2 n v0 v1 v2 v3 v4 v5 v6 v7 v8 v9 v10 v12 v13 y14 else none
def ref16_Bent (n : Nat) (v0 v1 v2 v3 v4 v5 v6 v7 v8 : Int) (v9 : Bool) (v10 : Lv) (v11 v12 v13 : Int) : Option ref16_Bent_a := ref16_Bent_1 n v0 v1 v2 v3 v4 v5 v6 v7 v8 v9 v10 v11 v12 v13
def ref16_Bent_t : FnT := ⟨[(true, [.int, .int, .int, .int]), (true, [.int, .int, .int, .int, .int, .bool]), (false, [(.sl (.cons .int (.cons .int (.cons .int .nil))))]), (false, [.int]), (false, [.int]), (false, [.int])], (.tup (.cons (.agg (.cons .i (.cons .i (.cons .i (.cons .i .nil))))) (.cons (.agg (.cons .i (.cons .i (.cons .i (.cons .i (.cons .i (.cons .b .nil))))))) (.cons (.row 1000072 (.cons .int (.cons .int (.cons .int .nil)))) .nil)))), fun n (s : Int × Int × Int × Int × Int × Int × Int × Int × Int × Bool × Lv × Int × Int × Int) => ref16_Bent n s.1 s.2.1 s.2.2.1 s.2.2.2.1 s.2.2.2.2.1 s.2.2.2.2.2.1 s.2.2.2.2.2.2.1 s.2.2.2.2.2.2.2.1 s.2.2.2.2.2.2.2.2.1 s.2.2.2.2.2.2.2.2.2.1 s.2.2.2.2.2.2.2.2.2.2.1 s.2.2.2.2.2.2.2.2.2.2.2.1 s.2.2.2.2.2.2.2.2.2.2.2.2.1 s.2.2.2.2.2.2.2.2.2.2.2.2.2⟩
theorem ref16_Bent_ok : ref16_Bent_t.ok Tryz.prog 37 := FnT.ok_of (cfg := ⟨[((37, 13, 6), .inv [(.tmprow 15 72 (.cons .int (.cons .int (.cons .int .nil))))])], consD11, [], mapsD11⟩) (tab := ref14_Bent_T) (mt := mtE) pfit ref14_Bent_T_ok mtE_ok (fun s fn hf => by rw [Tryz.func37] at hf; cases hf; kernel_rfl) (fun n s => by kernel_rfl)
def ref16_Bent_T : Tab := (37, ref16_Bent_t) :: ref14_Bent_T
theorem ref16_Bent_T_ok : ref16_Bent_T.ok Tryz.prog := Tab.ok_cons ref16_Bent_ok ref14_Bent_T_ok
abbrev ref17_Bent_a := Int × Int × Int × Int × Int × Int × Lv × Lv
abbrev ref17_Bent_s0 := Lv
def ref17_Bent_6 (n : Nat) (go0 : ref17_Bent_s0 → Option ref17_Bent_a) (v9 v11 v12 v13 v14 v15 v16 : Int) (v17 v22 : Lv) : Option ref17_Bent_a :=
 (ref17_pick n v9 2).bind fun y23 =>
 bif ((decide ((-9223372036854775808) ≤ (8 + y23))) && (decide ((8 + y23) ≤ 9223372036854775807))) then (bif (decide ((v22.length : Int) < (8 + y23))) then bif ((decide ((-9223372036854775808) ≤ ((v22.length : Int) - 1))) && (decide (((v22.length : Int) - 1) ≤ 9223372036854775807))) then bif (decide (0 ≤ ((v22.length : Int) - 1))) then bif (decide (((v22.length : Int) - 1) < (v22.length : Int))) then bif (decide ((((v22.length : Int) + 1) * 72) ≤ 140737488355328)) then go0 (v22 ++ [[(AV.int (cI v22 ((v22.length : Int) - 1) 0)), (AV.int (cI v22 ((v22.length : Int) - 1) 1)), (AV.int (cI v22 ((v22.length : Int) - 1) 2)), (AV.int (cI v22 ((v22.length : Int) - 1) 3)), (AV.int (cI v22 ((v22.length : Int) - 1) 4)), (AV.bool (cB v22 ((v22.length : Int) - 1) 5)), (AV.sl (.cons .int (.cons .int (.cons .int .nil))) (cL v22 ((v22.length : Int) - 1) 6))]]) else none else none else none else none
 else some (v11, v12, v13, v14, v15, v16, v17, v22)) else none
def ref17_Bent_5 (n : Nat) (v8 v9 v10 v11 v12 v13 v14 v15 v16 : Int) (v17 v18 : Lv) (v20 v21 : Int) : Option ref17_Bent_a :=
 (bif (decide (v21 = 4)) then bif (decide (0 ≤ v20)) then bif (decide (v20 < (v18.length : Int))) then some (v11, v12, v13, v14, v15, v16, v17, (List.modify v18 (v20).toNat (fun r => r.set 4 (AV.int v9)))) else none else none
 else (bif (decide (v21 = 5)) then bif (decide (0 ≤ v20)) then bif (decide (v20 < (v18.length : Int))) then bif (decide (0 < (v18.length : Int))) then some (v11, v12, v13, v14, v15, v16, v17, (List.modify (List.modify (List.modify (List.modify (List.modify (List.modify (List.modify (List.modify (List.modify (List.modify (List.modify (List.modify (List.modify (List.modify v18 ((0 : Int)).toNat (fun r => r.set 0 (AV.int (cI v18 v20 0)))) ((0 : Int)).toNat (fun r => r.set 1 (AV.int (cI v18 v20 1)))) ((0 : Int)).toNat (fun r => r.set 2 (AV.int (cI v18 v20 2)))) ((0 : Int)).toNat (fun r => r.set 3 (AV.int (cI v18 v20 3)))) ((0 : Int)).toNat (fun r => r.set 4 (AV.int (cI v18 v20 4)))) ((0 : Int)).toNat (fun r => r.set 5 (AV.bool (cB v18 v20 5)))) ((0 : Int)).toNat (fun r => r.set 6 (AV.sl (.cons .int (.cons .int (.cons .int .nil))) (cL v18 v20 6)))) (v20).toNat (fun r => r.set 0 (AV.int (cI v18 0 0)))) (v20).toNat (fun r => r.set 1 (AV.int (cI v18 0 1)))) (v20).toNat (fun r => r.set 2 (AV.int (cI v18 0 2)))) (v20).toNat (fun r => r.set 3 (AV.int (cI v18 0 3)))) (v20).toNat (fun r => r.set 4 (AV.int (cI v18 0 4)))) (v20).toNat (fun r => r.set 5 (AV.bool (cB v18 0 5)))) (v20).toNat (fun r => r.set 6 (AV.sl (.cons .int (.cons .int (.cons .int .nil))) (cL v18 0 6))))) else none else none else none
 else (bif (decide (v21 = 6)) then bif (decide (0 ≤ v20)) then bif (decide (v20 < (v18.length : Int))) then bif ((decide ((-9223372036854775808) ≤ (Int.tdiv v8 8))) && (decide ((Int.tdiv v8 8) ≤ 9223372036854775807))) then bif ((decide ((-9223372036854775808) ≤ (Int.tdiv v10 8))) && (decide ((Int.tdiv v10 8) ≤ 9223372036854775807))) then (ref16_Bent n v13 v14 v15 v16 (cI v18 v20 0) (cI v18 v20 1) (cI v18 v20 2) (cI v18 v20 3) (cI v18 v20 4) (cB v18 v20 5) (cL v18 v20 6) (Int.tdiv v8 8) v9 (Int.tdiv v10 8)).bind fun y22 =>
 some (v11, v12, y22.1, y22.2.1, y22.2.2.1, y22.2.2.2.1, v17, (List.modify (List.modify (List.modify (List.modify (List.modify (List.modify (List.modify v18 (v20).toNat (fun r => r.set 0 (AV.int y22.2.2.2.2.1))) (v20).toNat (fun r => r.set 1 (AV.int y22.2.2.2.2.2.1))) (v20).toNat (fun r => r.set 2 (AV.int y22.2.2.2.2.2.2.1))) (v20).toNat (fun r => r.set 3 (AV.int y22.2.2.2.2.2.2.2.1))) (v20).toNat (fun r => r.set 4 (AV.int y22.2.2.2.2.2.2.2.2.1))) (v20).toNat (fun r => r.set 5 (AV.bool y22.2.2.2.2.2.2.2.2.2.1))) (v20).toNat (fun r => r.set 6 (AV.sl (.cons .int (.cons .int (.cons .int .nil))) y22.2.2.2.2.2.2.2.2.2.2)))) else none else none else none else none
 else (iterF (fun go0 s => ref17_Bent_6 n go0 v9 v11 v12 v13 v14 v15 v16 v17 s) n (v18 : ref17_Bent_s0)))))
def ref17_Bent_4 (n : Nat) (v8 v9 v10 v11 v12 v13 v14 v15 v16 : Int) (v17 v18 : Lv) (v20 v21 : Int) : Option ref17_Bent_a :=
 (bif (decide (v21 = 3)) then bif (decide (0 ≤ v20)) then bif (decide (v20 < (v18.length : Int))) then some (v11, v12, v13, v14, v15, v16, v17, (List.modify v18 (v20).toNat (fun r => r.set 0 (AV.int v9)))) else none else none
 else ref17_Bent_5 n v8 v9 v10 v11 v12 v13 v14 v15 v16 v17 v18 v20 v21)
def ref17_Bent_3 (n : Nat) (v8 v9 v10 v11 v12 v13 v14 v15 v16 : Int) (v17 v18 : Lv) (v19 : Int) : Option ref17_Bent_a :=
 (bif (decide (v19 < 3)) then (ref17_pick n v8 3).bind fun y20 =>
 (bif (decide (y20 = 0)) then some (v9, v12, v13, v14, v15, v16, v17, v18)
 else (bif (decide (y20 = 1)) then some (v11, v9, v13, v14, v15, v16, v17, v18)
 else bif ((decide ((-9223372036854775808) ≤ (Int.tdiv v8 8))) && (decide ((Int.tdiv v8 8) ≤ 9223372036854775807))) then (ref14_Bent n v17 (Int.tdiv v8 8) v9 v10).bind fun y21 =>
 some (v11, v12, v13, v14, v15, v16, y21, v18) else none))
 else (ref17_pick n v10 (v18.length : Int)).bind fun y20 =>
 (ref17_pick n v8 8).bind fun y21 =>
 ref17_Bent_4 n v8 v9 v10 v11 v12 v13 v14 v15 v16 v17 v18 y20 y21)
def ref17_Bent_2 (n : Nat) (v8 v9 v10 v11 v12 v13 v14 v15 v16 : Int) (v17 v18 : Lv) : Option ref17_Bent_a :=
 (bif (decide ((v18.length : Int) = 0)) then (ref17_pick n v8 3).bind fun y19 =>
 (bif (decide (y19 = 0)) then some (v9, v12, v13, v14, v15, v16, v17, v18)
 else (bif (decide (y19 = 1)) then some (v11, v9, v13, v14, v15, v16, v17, v18)
 else bif ((decide ((-9223372036854775808) ≤ (Int.tdiv v8 8))) && (decide ((Int.tdiv v8 8) ≤ 9223372036854775807))) then (ref14_Bent n v17 (Int.tdiv v8 8) v9 v10).bind fun y20 =>
 some (v11, v12, v13, v14, v15, v16, y20, v18) else none))
 else (ref17_pick n v8 8).bind fun y19 =>
 ref17_Bent_3 n v8 v9 v10 v11 v12 v13 v14 v15 v16 v17 v18 y19)
def ref17_Bent_1 (n : Nat) (v0 v1 v2 v3 v4 v5 : Int) (v6 v7 : Lv) (v8 v9 v10 : Int) : Option ref17_Bent_a :=
 (ref17_Copy n v0 v1 v2 v3 v4 v5 v6 v7).bind fun y11 =>
 ref17_Bent_2 n v8 v9 v10 y11.1 y11.2.1 y11.2.2.1 y11.2.2.2.1 y11.2.2.2.2.1 y11.2.2.2.2.2.1 y11.2.2.2.2.2.2.1 y11.2.2.2.2.2.2.2
def ref17_Bent (n : Nat) (v0 v1 v2 v3 v4 v5 : Int) (v6 v7 : Lv) (v8 v9 v10 : Int) : Option ref17_Bent_a := ref17_Bent_1 n v0 v1 v2 v3 v4 v5 v6 v7 v8 v9 v10
def ref17_Bent_t : FnT := ⟨[(true, [.int, .int, .int, .int, .int, .int, (.sl (.cons .int (.cons .int (.cons .int .nil)))), (.sl (.cons .int (.cons .int (.cons .int (.cons .int (.cons .int (.cons .bool (.cons (.sl (.cons .int (.cons .int (.cons .int .nil)))) .nil))))))))]), (false, [.int]), (false, [.int]), (false, [.int])], (.agg (.cons .i (.cons .i (.cons .i (.cons .i (.cons .i (.cons .i (.cons (.row 1000131 (.cons .int (.cons .int (.cons .int .nil)))) (.cons (.row 1000091 (.cons .int (.cons .int (.cons .int (.cons .int (.cons .int (.cons .bool (.cons (.sl (.cons .int (.cons .int (.cons .int .nil)))) .nil)))))))) .nil))))))))), fun n (s : Int × Int × Int × Int × Int × Int × Lv × Lv × Int × Int × Int) => ref17_Bent n s.1 s.2.1 s.2.2.1 s.2.2.2.1 s.2.2.2.2.1 s.2.2.2.2.2.1 s.2.2.2.2.2.2.1 s.2.2.2.2.2.2.2.1 s.2.2.2.2.2.2.2.2.1 s.2.2.2.2.2.2.2.2.2.1 s.2.2.2.2.2.2.2.2.2.2⟩
theorem ref17_Bent_ok : ref17_Bent_t.ok Tryz.prog 7 := FnT.ok_of (cfg := ⟨[((7, 12, 6), .inv [(.cellrow 4 7 91 (.cons .int (.cons .int (.cons .int (.cons .int (.cons .int (.cons .bool (.cons (.sl (.cons .int (.cons .int (.cons .int .nil)))) .nil))))))))])], consD11, [], mapsD11⟩) (tab := ref16_Bent_T) (mt := mtE) pfit ref16_Bent_T_ok mtE_ok (fun s fn hf => by rw [Tryz.func7] at hf; cases hf; kernel_rfl) (fun n s => by kernel_rfl)
def ref17_Bent_T : Tab := (7, ref17_Bent_t) :: ref16_Bent_T
theorem ref17_Bent_T_ok : ref17_Bent_T.ok Tryz.prog := Tab.ok_cons ref17_Bent_ok ref16_Bent_T_ok
abbrev law17_few_a := Int × Int × Int × Int × Int × Int × Lv × Lv
abbrev law17_few_s0 := Lv × Int
def law17_few_2 (n : Nat) (go0 : law17_few_s0 → Option law17_few_a) (v0 v1 v2 v3 v4 v5 : Int) (v6 v7 v8 : Lv) (v9 : Int) : Option law17_few_a :=
 (bif (decide (v9 < (v7.length : Int))) then (bif (decide (v9 < 9)) then bif (decide (0 ≤ v9)) then bif (decide (0 ≤ (imin ((cL v7 v9 6).length : Int) 21))) then bif (decide ((imin ((cL v7 v9 6).length : Int) 21) ≤ ((cL v7 v9 6).length : Int))) then bif (decide ((((v8.length : Int) + 1) * 72) ≤ 140737488355328)) then bif ((decide ((-9223372036854775808) ≤ (v9 + 1))) && (decide ((v9 + 1) ≤ 9223372036854775807))) then go0 ((v8 ++ [[(AV.int (cI v7 v9 0)), (AV.int (cI v7 v9 1)), (AV.int (cI v7 v9 2)), (AV.int (cI v7 v9 3)), (AV.int (cI v7 v9 4)), (AV.bool (cB v7 v9 5)), (AV.sl (.cons .int (.cons .int (.cons .int .nil))) (List.take ((imin ((cL v7 v9 6).length : Int) 21)).toNat (cL v7 v9 6)))]]), (v9 + 1)) else none else none else none else none else none
 else some (v0, v1, v2, v3, v4, v5, (List.take ((imin (v6.length : Int) 41)).toNat v6), v8))
 else some (v0, v1, v2, v3, v4, v5, (List.take ((imin (v6.length : Int) 41)).toNat v6), v8))
def law17_few_1 (n : Nat) (v0 v1 v2 v3 v4 v5 : Int) (v6 v7 : Lv) : Option law17_few_a :=
 bif (decide (0 ≤ (imin (v6.length : Int) 41))) then bif (decide ((imin (v6.length : Int) 41) ≤ (v6.length : Int))) then (iterF (fun go0 s => law17_few_2 n go0 v0 v1 v2 v3 v4 v5 v6 v7 s.1 s.2) n ((([] : Lv), 0) : law17_few_s0)) else none else none
def law17_few (n : Nat) (v0 v1 v2 v3 v4 v5 : Int) (v6 v7 : Lv) : Option law17_few_a := law17_few_1 n v0 v1 v2 v3 v4 v5 v6 v7
def law17_few_t : FnT := ⟨[(true, [.int, .int, .int, .int, .int, .int, (.sl (.cons .int (.cons .int (.cons .int .nil)))), (.sl (.cons .int (.cons .int (.cons .int (.cons .int (.cons .int (.cons .bool (.cons (.sl (.cons .int (.cons .int (.cons .int .nil)))) .nil))))))))])], (.agg (.cons .i (.cons .i (.cons .i (.cons .i (.cons .i (.cons .i (.cons (.row 1000131 (.cons .int (.cons .int (.cons .int .nil)))) (.cons (.row 1000091 (.cons .int (.cons .int (.cons .int (.cons .int (.cons .int (.cons .bool (.cons (.sl (.cons .int (.cons .int (.cons .int .nil)))) .nil)))))))) .nil))))))))), fun n (s : Int × Int × Int × Int × Int × Int × Lv × Lv) => law17_few n s.1 s.2.1 s.2.2.1 s.2.2.2.1 s.2.2.2.2.1 s.2.2.2.2.2.1 s.2.2.2.2.2.2.1 s.2.2.2.2.2.2.2⟩
theorem law17_few_ok : law17_few_t.ok Tryz.prog 8 := FnT.ok_of (cfg := ⟨[((8, 4, 3), .inv [(.tmprow 3 91 (.cons .int (.cons .int (.cons .int (.cons .int (.cons .int (.cons .bool (.cons (.sl (.cons .int (.cons .int (.cons .int .nil)))) .nil)))))))), (.tmp 4 .int)])], consD11, [], mapsD11⟩) (tab := ref17_Bent_T) (mt := mtE) pfit ref17_Bent_T_ok mtE_ok (fun s fn hf => by rw [Tryz.func8] at hf; cases hf; kernel_rfl) (fun n s => by kernel_rfl)
def law17_few_T : Tab := (8, law17_few_t) :: ref17_Bent_T
theorem law17_few_T_ok : law17_few_T.ok Tryz.prog := Tab.ok_cons law17_few_ok ref17_Bent_T_ok
end
end Go.Proofs.YtjllgiddmeiaoaaGreat
namespace Go.Dial.Chn
open Go.Dial.Clm Go.Dial.Lif
end Go.Dial.Chn
