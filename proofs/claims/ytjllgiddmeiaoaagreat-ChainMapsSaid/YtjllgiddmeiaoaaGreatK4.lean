/-
  Texts of this claim, joined (part 4).
-/
import Derived.Test.YtjllgiddmeiaoaaGreatK3
set_option linter.unusedVariables false
set_option linter.unusedSimpArgs false
set_option linter.unusedSectionVars false
set_option linter.constructorNameAsVariable false
namespace Go.Sx
open Go
theorem iterF_succ {σ α : Type} (step : (σ → Option α) → σ → Option α) (n : Nat) (s : σ) : iterF step (n + 1) s = step (iterF step n) s := rfl
theorem iterF_ind {σ α : Type} {step : (σ → Option α) → σ → Option α} (Inv : σ → Prop) (mu : σ → Nat) (r : α)
  (h : ∀ s go, Inv s → (∀ s', Inv s' → mu s' < mu s → go s' = some r) → step go s = some r) : ∀ (n : Nat) (s : σ), Inv s → mu s < n → iterF step n s = some r := by
 intro n
 induction n with
 | zero => intro s _ hm; omega
 | succ n ih =>
  intro s hi hm
  exact h s _ hi fun s' hi' hm' => ih s' hi' (by omega)
theorem iterF_ex {σ α : Type} {step : (σ → Option α) → σ → Option α} (Inv : σ → Prop) (mu : σ → Nat) (Post : α → Prop)
  (h : ∀ s go, Inv s → (∀ s', Inv s' → mu s' < mu s → ∃ r, go s' = some r ∧ Post r) → ∃ r, step go s = some r ∧ Post r) : ∀ (n : Nat) (s : σ), Inv s → mu s < n → ∃ r, iterF step n s = some r ∧ Post r := by
 intro n
 induction n with
 | zero => intro s _ hm; omega
 | succ n ih =>
  intro s hi hm
  exact h s _ hi fun s' hi' hm' => ih s' hi' (by omega)
theorem cA_map {α : Type} {f : α → List AV} {l : List α} {i : Int} {k : Nat} {x : α} (h : l[i.toNat]? = some x) : cA (l.map f) i k = (f x).getD k (.int 0) := by
 simp [cA, List.getD, h]
theorem take_snoc {α : Type} {l : List α} {i : Nat} {x : α} (h : l[i]? = some x) : l.take (i + 1) = l.take i ++ [x] := by
 rw [List.take_add_one, h]; rfl
theorem get_lt {α : Type} {l : List α} {i : Nat} (h : i < l.length) : ∃ x, l[i]? = some x := ⟨_, List.getElem?_eq_getElem h⟩
end Go.Sx
set_option maxRecDepth 100000
namespace Go.Proofs.YtjllgiddmeiaoaaGreat
open Go Go.Sx Go.Dial.Lif
abbrev evR (e : Ev) : List AV := [.int e.k, .int e.a, .int e.h]
abbrev evL (es : List Ev) : Lv := es.map evR
abbrev runT (es : List Ev) : Int × Int × Int × Int × Int × Int := ((runR es).1.1.s, (runR es).1.1.h, (runR es).1.1.e, (runR es).1.1.t, ((runR es).1.2 : Int), (runR es).2)
theorem run_stopped {es : List Ev} {i : Nat} {e : Ev} (hA : All first (es.take i)) (h40 : i ≤ 40) (he : es[i]? = some e) (hs : i = 40 ∨ ¬ Ok (fin first (es.take i)) e) : runR es = ((zero, i), 140) := by
 have hi : i < es.length := (List.getElem?_eq_some_iff.1 he).1
 have e1 : es.take 40 = es.take i ++ (es.drop i).take (40 - i) := by
  rw [← List.take_append_drop i (es.take 40), List.take_take, List.drop_take]
  congr 2
  omega
 have e2 : (runF first (es.take 40)).2 = i := by
  rw [e1, runF_app hA]
  have hl : (es.take i).length = i := by simp; omega
  have : (runF (fin first (es.take i)) ((es.drop i).take (40 - i))).2 = 0 := by
   rcases hs with hs | hs
   ·subst hs; simp [runF]
   ·cases hk : 40 - i with
    | zero => simp [runF]
    | succ k =>
     have : es.drop i = e :: es.drop (i + 1) := by
      rw [List.drop_eq_getElem_cons hi]
      congr 1
      exact (List.getElem?_eq_some_iff.1 he).2
     rw [this, List.take_succ_cons, runF, if_neg hs]
  simp [hl, this]
 rw [runR_no (fun h => ?_), e2]
 have := life_iff.2 h
 omega
theorem run_ended {es : List Ev} {i : Nat} (hA : All first (es.take i)) (h40 : i ≤ 40) (he : i = es.length) : runR es = ((fin first (es.take i), i), 0) := by
 subst he
 rw [List.take_length] at hA ⊢
 exact runR_life ⟨hA, h40⟩
theorem ref14_Run_v (n : Nat) (es : List Ev) (hn : es.length < n) : ref14_Run n (evL es) = some (runT es) := by
 unfold ref14_Run ref14_Run_1
 refine iterF_ind (fun s => ∃ (i : Nat) (l : Ln), s = ((i : Int), l.s, l.h, l.e, l.t) ∧ i ≤ es.length ∧ i ≤ 40 ∧ All first (es.take i) ∧ l = fin first (es.take i)) (fun s => es.length - s.1.toNat) _ ?_ n _ ⟨0, first, rfl, by omega, by omega, trivial, rfl⟩ (by simp; omega)
 rintro _ go ⟨i, l, rfl, hi, h40, hA, hl⟩ ih
 simp only
 unfold ref14_Run_2
 have c2 : (0 : Int) ≤ (i : Int) := by omega
 have c4 : (-9223372036854775808 : Int) ≤ (i : Int) + 1 := by omega
 have c5 : (i : Int) + 1 ≤ (9223372036854775807 : Int) := by omega
 by_cases hlt : i < es.length
 ·obtain ⟨e, he⟩ := get_lt hlt
  have hc : ∀ k, cA (evL es) (i : Int) k = (evR e).getD k (.int 0) := fun k => cA_map (by simpa using he)
  have hs : ref14_Step n l.s l.h l.e l.t (cI (evL es) i 0) (cI (evL es) i 1) (cI (evL es) i 2) = some (stepT l e) := by
   simp only [cI, hc]
   exact ref14_Step_v n l e
  have c1 : (i : Int) < (es.length : Int) := by omega
  simp only [hs, List.length_map, Option.bind_some, c1, c2, c4, c5, decide_true, cond_true, Bool.and_self, stepT]
  by_cases hok : Ok l e
  ·simp only [stepR_ok hok, decide_true, Bool.not_true, cond_false]
   by_cases h4 : i = 40
   ·have h4' : (i : Int) = 40 := by omega
    simp only [h4', decide_true, cond_true]
    unfold runT
    rw [run_stopped hA h40 he (.inl h4), h4]; rfl
   ·have h4' : ¬ (i : Int) = 40 := by omega
    simp only [h4', decide_false, cond_false]
    exact ih _ ⟨i + 1, nxt l e, rfl, by omega, by omega, by rw [take_snoc he, all_app]; exact ⟨hA, by rw [← hl]; exact ⟨hok, trivial⟩⟩, by rw [take_snoc he, fin_app, ← hl]; rfl⟩ (by simp only; omega)
  ·have e140 : decide ((140 : Int) = 0) = false := rfl
   simp only [stepR_no hok, e140, Bool.not_false, cond_true]
   unfold runT
   rw [run_stopped hA h40 he (.inr (by rw [← hl]; exact hok))]; rfl
 ·have h0 : i = es.length := by omega
  have c1 : ¬ (i : Int) < (es.length : Int) := by omega
  simp only [List.length_map, c1, decide_false, cond_false]
  unfold runT
  rw [run_ended hA h40 h0, ← hl, h0]
theorem life_Run_v (n : Nat) (es : List Ev) (hn : es.length < n) : life_Run n (evL es) = some (runT es) := by
 unfold life_Run life_Run_1
 have c1 : 0 ≤ imin ((evL es).length : Int) 40 := by unfold imin; split <;> omega
 have c2 : imin ((evL es).length : Int) 40 ≤ ((evL es).length : Int) := by unfold imin; split <;> omega
 have hT : List.take (imin ((evL es).length : Int) 40).toNat (evL es) = evL (es.take 40) := by
  unfold evL imin
  rw [← List.map_take]
  congr 1
  split
  ·rfl
  ·rw [List.take_of_length_le (by simp), List.take_of_length_le (by simp at *; omega)]
 simp only [c1, c2, decide_true, cond_true]
 refine iterF_ind (fun s => ∃ (i : Nat) (l : Ln), s = ((i : Int), (i : Int), l.s, l.h, l.e, l.t, l.s, l.h, l.e, l.t) ∧ i ≤ es.length ∧ i ≤ 40 ∧ All first (es.take i) ∧ l = fin first (es.take i)) (fun s => es.length - s.1.toNat) _ ?_ n _ ⟨0, first, rfl, by omega, by omega, trivial, rfl⟩ (by simp; omega)
 rintro _ go ⟨i, l, rfl, hi, h40, hA, hl⟩ ih
 simp only
 unfold life_Run_2
 rw [hT]
 have c2 : (0 : Int) ≤ (i : Int) := by omega
 have c4 : (-9223372036854775808 : Int) ≤ (i : Int) + 1 := by omega
 have c5 : (i : Int) + 1 ≤ (9223372036854775807 : Int) := by omega
 by_cases hlt : i < es.length
 ·obtain ⟨e, he⟩ := get_lt hlt
  have c3 : (i : Int) < (es.length : Int) := by omega
  by_cases h4 : i = 40
  ·have c1 : ¬ (i : Int) < ((es.take 40).length : Int) := by rw [List.length_take]; omega
   simp only [List.length_map, c1, decide_false, cond_false, c3, decide_true, cond_true]
   unfold runT
   rw [run_stopped hA h40 he (.inl h4)]; rfl
  ·have hc : ∀ k, cA (evL (es.take 40)) (i : Int) k = (evR e).getD k (.int 0) := fun k => cA_map (by
    rw [show (i : Int).toNat = i by simp, List.getElem?_take, if_pos (by omega)]; exact he)
   have hs : life_Step n l.s l.h l.e l.t (cI (evL (es.take 40)) i 0) (cI (evL (es.take 40)) i 1) (cI (evL (es.take 40)) i 2) = some (stepT l e) := by
    simp only [cI, hc]
    exact life_Step_v n l e
   have c1 : (i : Int) < ((es.take 40).length : Int) := by rw [List.length_take]; omega
   simp only [hs, List.length_map, c1, c2, c4, c5, decide_true, cond_true, Bool.and_self, Option.bind_some, stepT]
   by_cases hok : Ok l e
   ·simp only [stepR_ok hok, decide_true, Bool.not_true, cond_false]
    exact ih _ ⟨i + 1, nxt l e, rfl, by omega, by omega, by rw [take_snoc he, all_app]; exact ⟨hA, by rw [← hl]; exact ⟨hok, trivial⟩⟩, by rw [take_snoc he, fin_app, ← hl]; rfl⟩ (by simp only; omega)
   ·have e140 : decide ((140 : Int) = 0) = false := rfl
    simp only [stepR_no hok, e140, Bool.not_false, cond_true, List.length_map, c3, decide_true]
    unfold runT
    rw [run_stopped hA h40 he (.inr (by rw [← hl]; exact hok))]; rfl
 ·have h0 : i = es.length := by omega
  have c1 : ¬ (i : Int) < ((es.take 40).length : Int) := by rw [List.length_take]; omega
  have c3 : ¬ (i : Int) < (es.length : Int) := by omega
  simp only [List.length_map, c1, c3, decide_false, cond_false]
  unfold runT
  rw [run_ended hA h40 h0, ← hl]
end Go.Proofs.YtjllgiddmeiaoaaGreat
set_option maxRecDepth 100000
namespace Go.Proofs.YtjllgiddmeiaoaaGreat
open Go Go.Sx
def In64 (n : Int) : Prop := -9223372036854775808 ≤ n ∧ n ≤ 9223372036854775807
def pk (c k : Int) : Int := if c < 0 then Int.tmod (0 - (c + 1)) k else Int.tmod c k
theorem tmod_bd {a k : Int} (ha : 0 ≤ a) (hk : 0 < k) : 0 ≤ Int.tmod a k ∧ Int.tmod a k < k := ⟨Int.tmod_nonneg _ ha, Int.tmod_lt_of_pos _ hk⟩
theorem pk_bd (c : Int) {k : Int} (hk : 0 < k) : 0 ≤ pk c k ∧ pk c k < k := by
 unfold pk
 split
 ·exact tmod_bd (by omega) hk
 ·exact tmod_bd (by omega) hk
abbrev triR (x : Int × Int × Int) : List AV := [.int x.1, .int x.2.1, .int x.2.2]
end Go.Proofs.YtjllgiddmeiaoaaGreat
set_option maxRecDepth 100000
namespace Go.Proofs.YtjllgiddmeiaoaaGreat
open Go Go.Sx Go.Dial.Lif
theorem ref14_pick_v (n : Nat) {c k : Int} (hc : In64 c) (hk : 0 < k) : ref14_pick n c k = some (pk c k) := by
 unfold ref14_pick ref14_pick_1 pk
 unfold In64 at hc
 grind
theorem fin_upto {es : List Ev} {t : Int} {i : Nat} {e : Ev} (he : es[i]? = some e) (hi : i ≤ upto es t) : (i < upto es t ↔ e.a ≤ t) := by
 have hlt := (List.getElem?_eq_some_iff.1 he)
 obtain ⟨hl, rfl⟩ := hlt
 constructor
 ·intro h; exact upto_lt h
 ·intro h
  rcases Nat.lt_or_ge i (upto es t) with h1 | h1
  ·exact h1
  ·have : i = upto es t := by omega
   subst this
   have := upto_at hl
   omega
theorem ref14_at_v (n : Nat) (es : List Ev) (t : Int) (hL : Life es) (hn : es.length < n) : ref14_at n (evL es) t = some ((atL es t).s, (atL es t).h, (atL es t).e, (atL es t).t) := by
 unfold ref14_at ref14_at_1
 refine iterF_ind (fun s => ∃ (i : Nat) (l : Ln), s = ((i : Int), l.s, l.h, l.e, l.t) ∧ i ≤ upto es t ∧ l = fin first (es.take i)) (fun s => es.length - s.1.toNat) _ ?_ n _ ⟨0, first, rfl, by omega, rfl⟩ (by simp; omega)
 rintro _ go ⟨i, l, rfl, hi, hl⟩ ih
 simp only
 unfold ref14_at_2
 have hle := upto_le es t
 have h40 := hL.2
 have c2 : (0 : Int) ≤ (i : Int) := by omega
 have c4 : (-9223372036854775808 : Int) ≤ (i : Int) + 1 := by omega
 have c5 : (i : Int) + 1 ≤ (9223372036854775807 : Int) := by omega
 by_cases hlt : i < es.length
 ·obtain ⟨e, he⟩ := get_lt hlt
  have hc : ∀ k, cA (evL es) (i : Int) k = (evR e).getD k (.int 0) := fun k => cA_map (by simpa using he)
  have h0 : cI (evL es) i 0 = e.k := by simp only [cI, hc]; rfl
  have h1 : cI (evL es) i 1 = e.a := by simp only [cI, hc]; rfl
  have h2 : cI (evL es) i 2 = e.h := by simp only [cI, hc]; rfl
  have c1 : (i : Int) < (es.length : Int) := by omega
  simp only [h0, h1, h2, ref14_Step_v n l e, List.length_map, Option.bind_some, c1, c2, c4, c5, decide_true, cond_true, Bool.and_self, stepT]
  have hu := fin_upto he hi
  by_cases ht : e.a ≤ t
  ·have hok : Ok l e := by
    have := (all_take hL.1 (i + 1))
    rw [take_snoc he, all_app, ← hl] at this
    exact this.2.1
   simp only [ht, decide_true, cond_true, stepR_ok hok]
   exact ih _ ⟨i + 1, nxt l e, rfl, by have := hu.2 ht; omega, by rw [take_snoc he, fin_app, ← hl]; rfl⟩ (by simp only; omega)
  ·simp only [ht, decide_false, cond_false]
   have : i = upto es t := by
    have : ¬ i < upto es t := fun h => ht (hu.1 h)
    omega
   unfold atL
   rw [← this, ← hl]
 ·have h0 : i = es.length := by omega
  have c1 : ¬ (i : Int) < (es.length : Int) := by omega
  simp only [List.length_map, c1, decide_false, cond_false]
  have : i = upto es t := by omega
  unfold atL
  rw [← this, ← hl]
theorem ref14_Is_v (n : Nat) (es : List Ev) (hn : es.length < n) : ref14_Is n (evL es) = some (decide (Life es)) := by
 unfold ref14_Is ref14_Is_1
 rw [ref14_Run_v n es hn]
 simp only [Option.bind_some, runT]
 by_cases h : Life es
 ·rw [runR_life h]; simp [h]
 ·rw [runR_no h]; simp [h]
abbrev atT (es : List Ev) (t : Int) : Int × Int × Int × Int × Int := ((atR es t).1.s, (atR es t).1.h, (atR es t).1.e, (atR es t).1.t, (atR es t).2)
theorem ref14_At_v (n : Nat) (es : List Ev) (t : Int) (hn : es.length < n) : ref14_At n (evL es) t = some (atT es t) := by
 unfold ref14_At ref14_At_1 atT atR OkAt
 rw [ref14_Is_v n es hn]
 by_cases h : Life es
 ·rw [ref14_at_v n es t h hn]
  simp only [h, decide_true, Option.bind_some, Bool.not_true, cond_false, true_and]
  unfold zero
  grind
 ·simp [h, zero]
theorem half {a b : Int} (ha : 0 ≤ a) (hb : 0 ≤ b) (h : a + b ≤ 9223372036854775807) : IntKind.wrap .i64 (kopf .shr .u64 (IntKind.wrap .u64 (a + b)) 1) = (a + b) / 2 := by
 have h1 : IntKind.wrap .u64 (a + b) = a + b := by
  unfold IntKind.wrap
  simp only [IntKind.bits, IntKind.signed, Bool.false_and]
  simp
  omega
 rw [h1]
 have h2 : kopf .shr .u64 (a + b) 1 = (a + b) / 2 := by
  unfold kopf
  simp only [IntKind.bits]
  rw [Int.fdiv_eq_ediv_of_nonneg _ (by decide)]
  rfl
 rw [h2]
 unfold IntKind.wrap
 simp only [IntKind.bits, IntKind.signed, Bool.true_and]
 have h3 : (a + b) / 2 % 2 ^ 64 = (a + b) / 2 := Int.emod_eq_of_lt (by omega) (by omega)
 simp only [h3]
 rw [if_neg (by simp; omega)]
end Go.Proofs.YtjllgiddmeiaoaaGreat
set_option maxRecDepth 100000
namespace Go.Proofs.YtjllgiddmeiaoaaGreat
open Go Go.Sx Go.Dial.Clm
abbrev ceR (e : Ce) : List AV := [.int e.k, .int e.a, .int e.r]
abbrev ceL (es : List Ce) : Lv := es.map ceR
abbrev csR (x : Cs) : List AV := [.int x.s, .int x.f, .int x.n]
abbrev csL (l : List Cs) : Lv := l.map csR
theorem ref16_pick_v (n : Nat) {c k : Int} (hc : In64 c) (hk : 0 < k) : ref16_pick n c k = some (pk c k) := by
 unfold ref16_pick ref16_pick_1 pk
 unfold In64 at hc
 grind
theorem ref16_Rules_v (n : Nat) (r : Rl) : ref16_Rules n r.a r.c r.s r.r = some (decide (RlV r)) := by
 by_cases h : RlV r <;> simp only [h, decide_true, decide_false] <;> unfold RlV at h <;> unfold ref16_Rules ref16_Rules_1 <;> grind
theorem ref16_Claim_v (n : Nat) (c : Cl) : ref16_Claim n c.n c.f c.t c.h c.a c.b = some (decide (ClV c)) := by
 by_cases h : ClV c <;> simp only [h, decide_true, decide_false] <;> unfold ClV at h <;> unfold ref16_Claim ref16_Claim_1 <;> grind
theorem drop_cons {α : Type} {l : List α} {i : Nat} {x : α} (h : l[i]? = some x) : l.drop i = x :: l.drop (i + 1) := by
 obtain ⟨hl, rfl⟩ := List.getElem?_eq_some_iff.1 h
 exact List.drop_eq_getElem_cons hl
theorem ref16_Valid_v (n : Nat) (r : Rl) (c : Cl) (es : List Ce) (hn : 25 < n) : ref16_Valid n r.a r.c r.s r.r c.n c.f c.t c.h c.a c.b (ceL es) = some (decide (ClmV r c es)) := by
 unfold ref16_Valid ref16_Valid_1 ClmV
 rw [ref16_Rules_v, ref16_Claim_v]
 by_cases h1 : RlV r
 ·by_cases h2 : ClV c
  ·by_cases h3 : es.length ≤ 20
   ·have c3 : ¬ (20 : Int) < (es.length : Int) := by omega
    simp only [h1, h2, h3, decide_true, Option.bind_some, Bool.not_true, cond_false, List.length_map, c3, decide_false, true_and]
    refine iterF_ind (fun s => ∃ (i : Nat) (last : Int), s = (last, (i : Int)) ∧ i ≤ es.length ∧ (EvV c.a es ↔ EvV last (es.drop i))) (fun s => es.length - s.2.toNat) _ ?_ n _ ⟨0, c.a, rfl, by omega, by simp⟩ (by simp; omega)
    rintro _ go ⟨i, last, rfl, hi, hE⟩ ih
    simp only
    unfold ref16_Valid_2
    by_cases hlt : i < es.length
    ·obtain ⟨e, he⟩ := get_lt hlt
     have hc : ∀ k, cA (ceL es) (i : Int) k = (ceR e).getD k (.int 0) := fun k => cA_map (by simpa using he)
     have g0 : cI (ceL es) i 0 = e.k := by simp only [cI, hc]; rfl
     have g1 : cI (ceL es) i 1 = e.a := by simp only [cI, hc]; rfl
     have g2 : cI (ceL es) i 2 = e.r := by simp only [cI, hc]; rfl
     have c1 : (i : Int) < (es.length : Int) := by omega
     have c2 : (0 : Int) ≤ (i : Int) := by omega
     have c4 : (-9223372036854775808 : Int) ≤ (i : Int) + 1 := by omega
     have c5 : (i : Int) + 1 ≤ (9223372036854775807 : Int) := by omega
     simp only [g0, g1, g2, List.length_map, c1, c2, c4, c5, decide_true, cond_true, Bool.and_self]
     rw [drop_cons he] at hE
     have hgo : CeV last e → go (e.a, (i : Int) + 1) = some (decide (EvV c.a es)) := fun hv => ih _ ⟨i + 1, e.a, by simp, by omega, by rw [hE]; exact ⟨fun h => h.2, fun h => ⟨hv, h⟩⟩⟩ (by simp only; omega)
     by_cases hv : CeV last e
     ·rw [hgo hv]
      unfold CeV at hv
      grind
     ·have : ¬ EvV c.a es := fun h => hv (hE.1 h).1
      simp only [this, decide_false]
      unfold CeV at hv
      grind
    ·have h0 : i = es.length := by omega
     have c1 : ¬ (i : Int) < (es.length : Int) := by omega
     simp only [List.length_map, c1, decide_false, cond_false]
     subst h0
     rw [List.drop_length] at hE
     have : EvV c.a es := hE.2 trivial
     simp [this]
   ·have c3 : (20 : Int) < (es.length : Int) := by omega
    simp only [h1, h2, h3, decide_true, Option.bind_some, Bool.not_true, cond_false, List.length_map, c3, cond_true, true_and, false_and, decide_false]
  ·simp [h1, h2]
 ·simp [h1]
abbrev stT (x : Cs) : Int × Int × Int := (x.s, x.f, x.n)
theorem ref16_status_v (n : Nat) (r : Rl) (hr : RlV r) (s f : Int) (h1 : 0 ≤ f) (h2 : f ≤ 100000000) : ref16_status n r.a r.c r.s r.r s f = some (stT (st r s f)) := by
 unfold ref16_status ref16_status_1 stT st dur
 unfold RlV at hr
 grind
theorem ref16_after_v (n : Nat) (s : Int) : ref16_after n s = some (aft s) := by
 unfold ref16_after ref16_after_1 aft
 grind
theorem ref16_becomes_v (n : Nat) (c : Cl) (s : Int) (e : Ce) : ref16_becomes n c.n c.f c.t c.h c.a c.b s e.k e.a e.r = some (bec c.b s e) := by
 unfold ref16_becomes ref16_becomes_1 bec
 grind
set_option maxRecDepth 100000
theorem last_cell {out : List Cs} {now : Cs} (h : out.getLast? = some now) (k : Nat) : cA (csL out) ((out.length : Int) - 1) k = (csR now).getD k (.int 0) := by
 refine cA_map ?_
 rw [List.getLast?_eq_getElem?] at h
 rw [show ((out.length : Int) - 1).toNat = out.length - 1 by omega]
 exact h
theorem last_pos {out : List Cs} {now : Cs} (h : out.getLast? = some now) : 1 ≤ out.length := by
 cases out with
 | nil => cases h
 | cons x l => simp
structure RunI (r : Rl) (c : Cl) (es : List Ce) (u : Int) (out : List Cs) (now : Cs) (i : Nat) : Prop where
 le : i ≤ es.length
 last : out.getLast? = some now
 form : ∃ s f, now = st r s f ∧ 0 ≤ f ∧ f ≤ 40000000
 rest : upTo u (timeline r c es) = out ++ upTo u (tl r c.b now (es.drop i))
 evs : ∃ l, 0 ≤ l ∧ EvV l (es.drop i)
theorem RunI.len {r : Rl} {c : Cl} {es : List Ce} {u : Int} {out : List Cs} {now : Cs} {i : Nat} (h : RunI r c es u out now i) (hl : es.length ≤ 20) : out.length ≤ 110 := by
 have h1 : (upTo u (timeline r c es)).length ≤ (timeline r c es).length := by unfold upTo; exact List.Sublist.length_le (List.takeWhile_sublist _)
 have h2 := tl_len (r := r) (b := c.b) _ (x0 r c) es (Nat.le_refl _)
 have h3 := rk_le (x0 r c).s
 have h4 := congrArg List.length h.rest
 unfold timeline at h1 h4
 simp only [List.length_cons, List.length_append] at h1 h4
 omega
theorem act_n {r : Rl} (hr : RlV r) {s f : Int} (h0 : 0 ≤ f) : 0 ≤ (st r s f).n ↔ act (st r s f) := by
 unfold act
 by_cases h : 1 ≤ s ∧ s ≤ 4
 ·have := (st_n hr (f := f) h).1
  exact ⟨fun _ => h, fun _ => by omega⟩
 ·simp only [st]
  rw [if_neg h]
  exact ⟨fun h' => by omega, fun h' => absurd h' h⟩
theorem upTo_stop {u : Int} {l : List Cs} (h : ∀ x ∈ l, u < x.f) : upTo u l = [] := by
 cases l with
 | nil => rfl
 | cons x l =>
  have := h x (List.mem_cons_self ..)
  unfold upTo
  rw [List.takeWhile_cons]
  simp; omega
theorem upTo_go {u : Int} {x : Cs} {l : List Cs} (h : x.f ≤ u) : upTo u (x :: l) = x :: upTo u l := by
 unfold upTo
 rw [List.takeWhile_cons]
 simp [h]
theorem RunI.auto {r : Rl} {c : Cl} {es : List Ce} {u : Int} {out : List Cs} {now : Cs} {i : Nat} (hr : RlV r) (hu : u ≤ 40000000) (h : RunI r c es u out now i) (ha : act now) (h1 : ∀ e, es[i]? = some e → now.n ≤ e.a) (h2 : now.n ≤ u) :
  RunI r c es u (out ++ [st r (aft now.s) now.n]) (st r (aft now.s) now.n) i := by
 obtain ⟨s, f, hf, f0, f1⟩ := h.form
 have h0 : 0 ≤ now.n := by rw [hf]; exact (act_n hr f0).2 (hf ▸ ha)
 refine ⟨h.le, by simp, ⟨_, _, rfl, h0, by omega⟩, ?_, h.evs⟩
 rw [h.rest]
 have : tl r c.b now (es.drop i) = st r (aft now.s) now.n :: tl r c.b (st r (aft now.s) now.n) (es.drop i) := by
  cases hd : es.drop i with
  | nil => exact tl_end ha
  | cons e rest =>
   have he : es[i]? = some e := by
    have := congrArg (fun l => l[0]?) hd
    simpa using this
   exact tl_auto ⟨ha, h1 e he⟩
 rw [this, upTo_go (by exact h2)]
 simp
theorem RunI.done {r : Rl} {c : Cl} {es : List Ce} {u : Int} {out : List Cs} {now : Cs} {i : Nat} (hr : RlV r) (h : RunI r c es u out now i) (h1 : act now → u < now.n) (h2 : ∀ e, es[i]? = some e → u < e.a) : upTo u (timeline r c es) = out := by
 rw [h.rest]
 obtain ⟨l, l0, hE⟩ := h.evs
 have : upTo u (tl r c.b now (es.drop i)) = [] := by
  refine upTo_stop fun x hx => ?_
  have := tl_ge hr (b := c.b) (now := now) (es := es.drop i) (m := u + 1) (fun ha => by have := h1 ha; omega) (fun e he => ?_) x hx
  ·omega
  ·cases hd : es.drop i with
   | nil => rw [hd] at he; cases he
   | cons y rest =>
    have hy : es[i]? = some y := by
     have := congrArg (fun l => l[0]?) hd
     simpa using this
    have h3 := h2 y hy
    rw [hd] at he hE
    rcases List.mem_cons.1 he with rfl | he
    ·omega
    ·have := (evV_ge hE.2 e he).1; omega
 rw [this]; simp
theorem RunI.event {r : Rl} {c : Cl} {es : List Ce} {u : Int} {out : List Cs} {now : Cs} {i : Nat} {e : Ce} (h : RunI r c es u out now i) (he : es[i]? = some e) (h1 : ¬ (act now ∧ now.n ≤ e.a)) (hb : ¬ bec c.b now.s e < 0) (h2 : e.a ≤ u) :
  RunI r c es u (out ++ [st r (bec c.b now.s e) e.a]) (st r (bec c.b now.s e) e.a) (i + 1) := by
 obtain ⟨l, l0, hE⟩ := h.evs
 have hd := drop_cons he
 rw [hd] at hE
 have hlt := (List.getElem?_eq_some_iff.1 he).1
 refine ⟨hlt, by simp, ⟨_, _, rfl, by have := hE.1.2.2.1; omega, by have := hE.1.2.2.2.1; omega⟩, ?_, ⟨e.a, by have := hE.1.2.2.1; omega, hE.2⟩⟩
 rw [h.rest, hd, tl_ev h1 hb, upTo_go (by exact h2)]
 simp
theorem RunI.void {r : Rl} {c : Cl} {es : List Ce} {u : Int} {out : List Cs} {now : Cs} {i : Nat} {e : Ce} (h : RunI r c es u out now i) (he : es[i]? = some e) (h1 : ¬ (act now ∧ now.n ≤ e.a)) (hb : bec c.b now.s e < 0) : RunI r c es u out now (i + 1) := by
 obtain ⟨l, l0, hE⟩ := h.evs
 have hd := drop_cons he
 rw [hd] at hE
 have hlt := (List.getElem?_eq_some_iff.1 he).1
 refine ⟨hlt, h.last, h.form, ?_, ⟨e.a, by have := hE.1.2.2.1; omega, hE.2⟩⟩
 rw [h.rest, hd, tl_void h1 hb]
theorem run_end {n : Nat} {r : Rl} {c : Cl} {es : List Ce} {u : Int} {out : List Cs} {now : Cs} {i : Nat} {go : ref16_run_s0 → Option ref16_run_a} (hr : RlV r) (hu2 : u ≤ 40000000) (hlen : es.length ≤ 20) (hI : RunI r c es u out now i) (h0 : i = es.length) (hn : rk now.s < n) (vd : Lv) (hv : True) :
  ∃ q : Lv × Lv, (bif decide ((i : Int) < (es.length : Int)) then none else iterF (fun go1 s => ref16_run_5 n go go1 r.a r.c r.s r.r c.n c.f c.t c.h c.a c.b (ceL es) u vd (i : Int) s.1 s.2.1 s.2.2.2) n (csL out, now.s, now.f, now.n)) = some q ∧ q.1 = csL (upTo u (timeline r c es)) := by
 have c7 : ¬ (i : Int) < (es.length : Int) := by omega
 have hnone : ∀ e, ¬ es[i]? = some e := fun e he => by have := (List.getElem?_eq_some_iff.1 he).1; omega
 simp only [c7, decide_false, cond_false]
 refine iterF_ex (fun s => ∃ (out : List Cs) (now : Cs), s = (csL out, now.s, now.f, now.n) ∧ RunI r c es u out now i) (fun s => rk s.2.1) (fun q : Lv × Lv => q.1 = csL (upTo u (timeline r c es))) ?_ n _ ⟨out, now, rfl, hI⟩ hn
 rintro _ go1 ⟨out, now, rfl, hI⟩ ih1
 simp only
 unfold ref16_run_5
 have hol := hI.len hlen
 obtain ⟨s, f, hf, f0, f1⟩ := hI.form
 have hact := act_n hr (s := s) f0
 rw [← hf] at hact
 have c11 : ((out.length : Int) + 1) * 24 ≤ 140737488355328 := by omega
 have hne : (i : Int) = ((ceL es).length : Int) := by simp; omega
 rw [show decide ((i : Int) = ((ceL es).length : Int)) = true from decide_eq_true hne]
 simp only [List.length_map, c11, decide_true]
 simp only [cond_true, ref16_after_v, Option.bind_some]
 by_cases hn0 : 0 ≤ now.n
 ·simp only [hn0, decide_true, cond_true]
  by_cases hnm : now.n ≤ u
  ·simp only [hnm, decide_true, cond_true, ref16_status_v n r hr (aft now.s) now.n hn0 (by omega), Option.bind_some, stT]
   exact ih1 _ ⟨out ++ [st r (aft now.s) now.n], _, by simp, hI.auto hr hu2 (hact.1 hn0) (fun e' he' => absurd he' (hnone e')) hnm⟩ (rk_aft (hact.1 hn0))
  ·simp only [hnm, decide_false, cond_false]
   exact ⟨_, rfl, by rw [hI.done hr (fun _ => by omega) (fun e' he' => absurd he' (hnone e'))]⟩
 ·simp only [hn0, decide_false, cond_false]
  exact ⟨_, rfl, by rw [hI.done hr (fun h => absurd (hact.2 h) hn0) (fun e' he' => absurd he' (hnone e'))]⟩
theorem ref16_run_v (n : Nat) (r : Rl) (c : Cl) (es : List Ce) (u : Int) (h : ClmV r c es) (hn : 200 < n) (hu1 : c.a ≤ u) (hu2 : u ≤ 40000000) :
  ∃ vd, ref16_run n r.a r.c r.s r.r c.n c.f c.t c.h c.a c.b (ceL es) u = some (csL (upTo u (timeline r c es)), vd) := by
 obtain ⟨hr, hcl, hlen, hE⟩ := h
 have ha0 : 0 ≤ c.a ∧ c.a ≤ 10000000 := by unfold ClV at hcl; omega
 have main : ∃ q : Lv × Lv, ref16_run n r.a r.c r.s r.r c.n c.f c.t c.h c.a c.b (ceL es) u = some q ∧ q.1 = csL (upTo u (timeline r c es)) := by
  unfold ref16_run ref16_run_1
  rw [ref16_status_v n r hr 1 c.a (by omega) (by omega)]
  simp only [Option.bind_some]
  refine iterF_ex (fun s => ∃ (out : List Cs) (vd : Lv) (i : Nat) (now : Cs), s = (csL out, vd, (i : Int)) ∧ vd.length ≤ i ∧ RunI r c es u out now i) (fun s => es.length + 1 - s.2.2.toNat) (fun q : Lv × Lv => q.1 = csL (upTo u (timeline r c es))) ?_ n _
   ⟨[x0 r c], [], 0, x0 r c, rfl, by simp, by omega, rfl, ⟨1, c.a, rfl, by omega, by omega⟩, by unfold timeline; rw [upTo_go (by exact hu1)]; simp, ⟨c.a, by omega, by simpa using hE⟩⟩ (by simp; omega)
  rintro _ go ⟨out, vd, i, now, rfl, hvd, hI⟩ ih
  simp only
  unfold ref16_run_2 ref16_run_3
  have hpos := last_pos hI.last
  have hol := hI.len hlen
  have hle := hI.le
  have c1 : (i : Int) ≤ (es.length : Int) := by omega
  have c2 : (-9223372036854775808 : Int) ≤ (out.length : Int) - 1 := by omega
  have c3 : (out.length : Int) - 1 ≤ (9223372036854775807 : Int) := by omega
  have c4 : (0 : Int) ≤ (out.length : Int) - 1 := by omega
  have c5 : (out.length : Int) - 1 < (out.length : Int) := by omega
  have l0 : cI (csL out) ((out.length : Int) - 1) 0 = now.s := by simp only [cI, last_cell hI.last]; rfl
  have l1 : cI (csL out) ((out.length : Int) - 1) 1 = now.f := by simp only [cI, last_cell hI.last]; rfl
  have l2 : cI (csL out) ((out.length : Int) - 1) 2 = now.n := by simp only [cI, last_cell hI.last]; rfl
  have c6 : (0 : Int) ≤ (i : Int) := by omega
  have c8 : (-9223372036854775808 : Int) ≤ (i : Int) + 1 := by omega
  have c9 : (i : Int) + 1 ≤ (9223372036854775807 : Int) := by omega
  have c10 : ((vd.length : Int) + 1) * 8 ≤ 140737488355328 := by omega
  simp only [List.length_map, c1, c2, c3, c4, c5, c6, l0, l1, l2, decide_true, cond_true, Bool.and_self]
  have stat : ∀ (out : List Cs) (now : Cs), RunI r c es u out now i → ∃ s f, now = st r s f ∧ 0 ≤ f ∧ f ≤ 40000000 := fun _ _ h => h.form
  by_cases hlt : i < es.length
  ·as_aux_lemma =>
   have c7 : (i : Int) < (es.length : Int) := by omega
   obtain ⟨e, he⟩ := get_lt hlt
   have hc : ∀ k, cA (ceL es) (i : Int) k = (ceR e).getD k (.int 0) := fun k => cA_map (by simpa using he)
   have g0 : cI (ceL es) i 0 = e.k := by simp only [cI, hc]; rfl
   have g1 : cI (ceL es) i 1 = e.a := by simp only [cI, hc]; rfl
   have g2 : cI (ceL es) i 2 = e.r := by simp only [cI, hc]; rfl
   simp only [c7, decide_true, cond_true]
   refine iterF_ex (fun s => ∃ (out : List Cs) (now : Cs), s = (csL out, now.s, now.f, now.n) ∧ RunI r c es u out now i) (fun s => rk s.2.1) (fun q : Lv × Lv => q.1 = csL (upTo u (timeline r c es))) ?_ n _ ⟨out, now, rfl, hI⟩ (by have := rk_le now.s; simp only; omega)
   rintro _ go1 ⟨out, now, rfl, hI⟩ ih1
   simp only
   unfold ref16_run_4
   have hol := hI.len hlen
   obtain ⟨s, f, hf, f0, f1⟩ := hI.form
   have hact := act_n hr (s := s) f0
   rw [← hf] at hact
   have e0 : 0 ≤ e.a ∧ e.a ≤ 20000000 := by
    obtain ⟨l, l0, hE'⟩ := hI.evs
    rw [drop_cons he] at hE'
    have := hE'.1.2.2
    omega
   have c11 : ((out.length : Int) + 1) * 24 ≤ 140737488355328 := by omega
   have hne : ¬ (i : Int) = (es.length : Int) := by omega
   simp only [g0, g1, g2, List.length_map, c8, c9, c10, c11, hne, decide_true, decide_false, cond_true, cond_false, Bool.and_self, ref16_after_v, ref16_becomes_v, Option.bind_some]
   have tail : ¬ (act now ∧ now.n ≤ imin e.a u) → ∃ q : Lv × Lv, (bif decide (u < e.a) then some (csL out, vd) else bif decide (bec c.b now.s e < 0) then go (csL out, vd ++ [[AV.int (i : Int)]], (i : Int) + 1) else
     (ref16_status n r.a r.c r.s r.r (bec c.b now.s e) e.a).bind fun y23 => go (csL out ++ [[AV.int y23.1, AV.int y23.2.1, AV.int y23.2.2]], vd, (i : Int) + 1)) = some q ∧ q.1 = csL (upTo u (timeline r c es)) := fun hna => by
    by_cases hue : u < e.a
    ·simp only [hue, decide_true, cond_true]
     refine ⟨_, rfl, ?_⟩
     have hm : imin e.a u = u := by unfold imin; rw [if_pos hue]
     rw [hm] at hna
     rw [hI.done hr (fun ha => by have : ¬ now.n ≤ u := fun h => hna ⟨ha, h⟩; omega) (fun e' he' => by rw [he] at he'; cases he'; exact hue)]
    ·have hm : imin e.a u = e.a := by unfold imin; rw [if_neg hue]
     rw [hm] at hna
     simp only [hue, decide_false, cond_false]
     by_cases hb : bec c.b now.s e < 0
     ·simp only [hb, decide_true, cond_true]
      exact ih _ ⟨out, vd ++ [[AV.int (i : Int)]], i + 1, now, by simp, by simp; omega, hI.void he hna hb⟩ (by simp only; omega)
     ·simp only [hb, decide_false, cond_false, ref16_status_v n r hr (bec c.b now.s e) e.a e0.1 (by omega), Option.bind_some, stT]
      exact ih _ ⟨out ++ [st r (bec c.b now.s e) e.a], vd, i + 1, _, by simp, by omega, hI.event he hna hb (by omega)⟩ (by simp only; omega)
   by_cases hn0 : 0 ≤ now.n
   ·simp only [hn0, decide_true, cond_true]
    by_cases hnm : now.n ≤ imin e.a u
    ·have hle : now.n ≤ e.a ∧ now.n ≤ u := by unfold imin at hnm; split at hnm <;> omega
     simp only [hnm, decide_true, cond_true, ref16_status_v n r hr (aft now.s) now.n hn0 (by omega), Option.bind_some, stT]
     exact ih1 _ ⟨out ++ [st r (aft now.s) now.n], _, by simp, hI.auto hr hu2 (hact.1 hn0) (fun e' he' => by rw [he] at he'; cases he'; exact hle.1) hle.2⟩ (rk_aft (hact.1 hn0))
    ·simp only [hnm, decide_false, cond_false]
     exact tail fun h => hnm h.2
   ·simp only [hn0, decide_false, cond_false]
    exact tail fun h => hn0 (hact.2 h.1)
  ·have c7 : ¬ (i : Int) < (es.length : Int) := by omega
   have := run_end (n := n) (go := go) hr hu2 hlen hI (by omega) (by have := rk_le now.s; omega) vd trivial
   simp only [c7, decide_false, cond_false] at this ⊢
   exact this
 obtain ⟨⟨q1, q2⟩, h1, h2⟩ := main
 exact ⟨q2, by rw [h1]; simp only at h2; rw [h2]⟩
set_option maxRecDepth 100000
theorem ref16_Outcome_v (n : Nat) (r : Rl) (c : Cl) (es : List Ce) (t : Int) (hn : 200 < n) : ref16_Outcome n r.a r.c r.s r.r c.n c.f c.t c.h c.a c.b (ceL es) t = some ((outR r c es t).1.s, (outR r c es t).1.f, (outR r c es t).1.n, (outR r c es t).2) := by
 unfold ref16_Outcome ref16_Outcome_1 outR OkOut
 rw [ref16_Valid_v n r c es (by omega)]
 by_cases hv : ClmV r c es
 ·simp only [hv, decide_true, Option.bind_some, Bool.not_true, cond_false, true_and]
  by_cases h0 : 0 ≤ t
  ·by_cases h1 : t ≤ 20000000
   ·by_cases h2 : t < c.a
    ·simp only [h0, h1, h2, decide_true, Bool.not_true, cond_false, cond_true, and_self, if_true]
     have : upTo t (timeline r c es) = [] := by
      unfold timeline upTo
      rw [List.takeWhile_cons]
      simp [x0, st]; omega
     unfold outV
     rw [this]; rfl
    ·obtain ⟨vd, hrun⟩ := ref16_run_v n r c es t hv hn (by omega) (by omega)
     simp only [h0, h1, h2, hrun, decide_true, decide_false, Bool.not_true, cond_false, cond_true, and_self, if_true, Option.bind_some]
     unfold outV
     obtain ⟨out, hout⟩ : ∃ out, out = upTo t (timeline r c es) := ⟨_, rfl⟩
     rw [← hout]
     have hne : out ≠ [] := by
      rw [hout]; unfold timeline
      rw [upTo_go (by simp [x0, st]; omega)]
      simp
     obtain ⟨now, hl⟩ : ∃ now, out.getLast? = some now := ⟨_, List.getLast?_eq_some_getLast hne⟩
     have hpos := last_pos hl
     have hlen : out.length ≤ 110 := by
      have k1 : (upTo t (timeline r c es)).length ≤ (timeline r c es).length := by unfold upTo; exact List.Sublist.length_le (List.takeWhile_sublist _)
      have k2 := tl_len (r := r) (b := c.b) _ (x0 r c) es (Nat.le_refl _)
      have k3 := rk_le (x0 r c).s
      have k4 := hv.2.2.1
      rw [← hout] at k1
      unfold timeline at k1
      simp only [List.length_cons] at k1
      omega
     have c2 : (-9223372036854775808 : Int) ≤ (out.length : Int) - 1 := by omega
     have c3 : (out.length : Int) - 1 ≤ (9223372036854775807 : Int) := by omega
     have c4 : (0 : Int) ≤ (out.length : Int) - 1 := by omega
     have c5 : (out.length : Int) - 1 < (out.length : Int) := by omega
     have l0 : cI (csL out) ((out.length : Int) - 1) 0 = now.s := by simp only [cI, last_cell hl]; rfl
     have l1 : cI (csL out) ((out.length : Int) - 1) 1 = now.f := by simp only [cI, last_cell hl]; rfl
     have l2 : cI (csL out) ((out.length : Int) - 1) 2 = now.n := by simp only [cI, last_cell hl]; rfl
     simp only [List.length_map, c2, c3, c4, c5, l0, l1, l2, decide_true, Bool.and_self]
     simp only [cond_true, hl, Option.getD_some]
   ·have : ¬ (0 ≤ t ∧ t ≤ 20000000) := fun h => h1 h.2
    simp [h0, h1]
  ·simp [h0]
 ·simp [hv]
theorem takeWhile_all {α : Type} {p : α → Bool} : ∀ {l : List α}, (∀ x ∈ l, p x = true) → l.takeWhile p = l
 | [], _ => rfl
 | x :: l, h => by
  rw [List.takeWhile_cons, h x (List.mem_cons_self ..), if_pos rfl, takeWhile_all fun y hy => h y (List.mem_cons_of_mem _ hy)]
theorem upTo_all {r : Rl} {c : Cl} {es : List Ce} (h : ClmV r c es) {u : Int} (hu : 23000000 ≤ u) : upTo u (timeline r c es) = timeline r c es := by
 obtain ⟨hr, hc, hl, hE⟩ := h
 unfold ClV at hc
 unfold upTo
 refine takeWhile_all fun x hx => ?_
 unfold timeline at hx
 have h0 : (x0 r c).f = c.a := rfl
 rcases List.mem_cons.1 hx with rfl | hx
 ·simp; omega
 ·have := tl_le hr (b := c.b) (now := x0 r c) (es := es) (by rw [h0]; have := rk_le (x0 r c).s; omega) (fun _ => (st_n hr (s := 1) (f := c.a) (by omega)).2) (fun e he => (evV_ge hE e he).2) x hx
  simp; omega
theorem ref16_Timeline_v (n : Nat) (r : Rl) (c : Cl) (es : List Ce) (hn : 200 < n) : ref16_Timeline n r.a r.c r.s r.r c.n c.f c.t c.h c.a c.b (ceL es) = some (if ClmV r c es then (csL (timeline r c es), 0) else ([], 160)) := by
 unfold ref16_Timeline ref16_Timeline_1
 rw [ref16_Valid_v n r c es (by omega)]
 by_cases hv : ClmV r c es
 ·have hc := hv.2.1
  unfold ClV at hc
  obtain ⟨vd, hrun⟩ := ref16_run_v n r c es 40000000 hv hn (by omega) (by omega)
  simp only [hv, hrun, decide_true, Option.bind_some, Bool.not_true, cond_false, if_true, upTo_all hv (show (23000000 : Int) ≤ 40000000 by decide)]
 ·simp [hv]
def mr (v : Int) : Int := if pk (Int.tdiv v 16) 4 = 3 then 1 + pk v 86400 else 1 + pk v 12
theorem mr_bd (v : Int) : 1 ≤ mr v ∧ mr v ≤ 86400 := by
 have h1 := pk_bd v (k := 86400) (by decide)
 have h2 := pk_bd v (k := 12) (by decide)
 unfold mr
 split <;> omega
theorem tdiv16 {v : Int} (h : In64 v) : In64 (Int.tdiv v 16) := by
 unfold In64 at h ⊢
 rcases Int.le_total 0 v with h0 | h0
 ·rw [Int.tdiv_eq_ediv_of_nonneg h0]; omega
 ·obtain ⟨w, rfl⟩ : ∃ w, v = -w := ⟨-v, by omega⟩
  rw [Int.neg_tdiv, Int.tdiv_eq_ediv_of_nonneg (by omega)]; omega
theorem ref16_MadeRules_v (n : Nat) (a b c d : Int) (ha : In64 a) (hb : In64 b) (hc : In64 c) (hd : In64 d) : ref16_MadeRules n a b c d = some (mr a, mr b, mr c, mr d) := by
 have key : ∀ v, (0 ≤ pk v 12 ∧ pk v 12 < 12) ∧ 0 ≤ pk v 86400 ∧ pk v 86400 < 86400 := fun v => ⟨pk_bd v (by decide), pk_bd v (by decide)⟩
 have ta := tdiv16 ha
 have tb := tdiv16 hb
 have tc := tdiv16 hc
 have td := tdiv16 hd
 unfold ref16_MadeRules ref16_MadeRules_1 ref16_MadeRules_2 mr
 have p4 : (0 : Int) < 4 := by decide
 have p12 : (0 : Int) < 12 := by decide
 have pd : (0 : Int) < 86400 := by decide
 simp only [ref16_pick_v n ha p12, ref16_pick_v n hb p12, ref16_pick_v n hc p12, ref16_pick_v n hd p12, ref16_pick_v n ha pd, ref16_pick_v n hb pd, ref16_pick_v n hc pd, ref16_pick_v n hd pd,
  ref16_pick_v n ta p4, ref16_pick_v n tb p4, ref16_pick_v n tc p4, ref16_pick_v n td p4, Option.bind_some]
 have ka := key a
 have kb := key b
 have kc := key c
 have kd := key d
 unfold In64 at ta tb tc td
 generalize pk (Int.tdiv a 16) 4 = x1
 generalize pk (Int.tdiv b 16) 4 = x2
 generalize pk (Int.tdiv c 16) 4 = x3
 generalize pk (Int.tdiv d 16) 4 = x4
 generalize Int.tdiv a 16 = y1 at *
 generalize Int.tdiv b 16 = y2 at *
 generalize Int.tdiv c 16 = y3 at *
 generalize Int.tdiv d 16 = y4 at *
 generalize pk a 12 = a1 at *
 generalize pk b 12 = b1 at *
 generalize pk c 12 = c1 at *
 generalize pk d 12 = d1 at *
 generalize pk a 86400 = a2 at *
 generalize pk b 86400 = b2 at *
 generalize pk c 86400 = c2 at *
 generalize pk d 86400 = d2 at *
 have r1 : ∀ z : Int, 0 ≤ z → z < 86400 → (decide ((-9223372036854775808 : Int) ≤ 1 + z) && decide (1 + z ≤ 9223372036854775807)) = true := fun z h1 h2 => by simp; omega
 simp only [r1 a1 ka.1.1 (by omega), r1 b1 kb.1.1 (by omega), r1 c1 kc.1.1 (by omega), r1 d1 kd.1.1 (by omega), r1 a2 ka.2.1 (by omega), r1 b2 kb.2.1 (by omega), r1 c2 kc.2.1 (by omega), r1 d2 kd.2.1 (by omega), ta, tb, tc, td, decide_true, Bool.and_self]
 simp only [cond_true]
 by_cases h1 : x1 = 3 <;> by_cases h2 : x2 = 3 <;> by_cases h3 : x3 = 3 <;> by_cases h4 : x4 = 3 <;> simp only [h1, h2, h3, h4, decide_true, decide_false, if_true, if_false] <;> rfl
end Go.Proofs.YtjllgiddmeiaoaaGreat
set_option maxRecDepth 100000
namespace Go.Proofs.YtjllgiddmeiaoaaGreat
open Go Go.Sx Go.Dial.Lif
theorem upto_sorted {es : List Ev} (h : All first es) {t : Int} {i : Nat} {e : Ev} (he : es[i]? = some e) : i < upto es t ↔ e.a ≤ t := by
 obtain ⟨hl, rfl⟩ := List.getElem?_eq_some_iff.1 he
 constructor
 ·intro h; exact upto_lt h
 ·intro ht
  rcases Nat.lt_or_ge i (upto es t) with h1 | h1
  ·exact h1
  ·have h2 := upto_at (es := es) (t := t) (by omega)
   have h3 := all_sorted h h1 hl
   omega
theorem life_at_v (n : Nat) (es : List Ev) (t : Int) (hn : es.length < n) : life_at n (evL es) t = some (if OkAt es t then ((atL es t).s, (atL es t).h, (atL es t).e, (atL es t).t, true) else (0, 0, 0, 0, false)) := by
 unfold life_at life_at_1
 rw [life_Run_v n es hn]
 simp only [Option.bind_some, runT]
 by_cases hL : Life es
 ·by_cases ht : 0 ≤ t ∧ t ≤ 10000000
  ·have hA : OkAt es t := ⟨hL, ht⟩
   simp only [runR_life hL, hA, ht.1, ht.2, decide_true, Bool.not_true, cond_false, cond_true, if_true]
   have hle := upto_le es t
   have h40 := hL.2
   refine iterF_ind (fun s => ∃ i j : Nat, s = ((i : Int), (j : Int)) ∧ i ≤ upto es t ∧ upto es t ≤ j ∧ j ≤ es.length) (fun s => (s.2 - s.1).toNat) _ ?_ n _ ⟨0, es.length, by simp, by omega, by omega, by omega⟩ (by simp; omega)
   rintro _ go ⟨i, j, rfl, h1, h2, h3⟩ ih
   simp only
   unfold life_at_2
   by_cases hij : i < j
   ·have c1 : (i : Int) < (j : Int) := by omega
    have c2 : (-9223372036854775808 : Int) ≤ (i : Int) + j := by omega
    have c3 : (i : Int) + j ≤ (9223372036854775807 : Int) := by omega
    obtain ⟨k, hk⟩ : ∃ k, k = (i + j) / 2 := ⟨_, rfl⟩
    have hh : IntKind.wrap .i64 (kopf .shr .u64 (IntKind.wrap .u64 ((i : Int) + j)) 1) = (k : Int) := by
     rw [half (by omega) (by omega) (by omega)]; omega
    have c4 : (0 : Int) ≤ (k : Int) := by omega
    have c5 : (k : Int) < (es.length : Int) := by omega
    have c6 : (-9223372036854775808 : Int) ≤ (k : Int) + 1 := by omega
    have c7 : (k : Int) + 1 ≤ (9223372036854775807 : Int) := by omega
    have c8 : (0 : Int) ≤ 1 := by omega
    obtain ⟨e, he⟩ := get_lt (show k < es.length by omega)
    have hc : cI (evL es) k 1 = e.a := by simp only [cI]; rw [cA_map (by simpa using he)]; rfl
    have hu := upto_sorted hL.1 (t := t) he
    simp only [c1, c2, c3, hh, c4, c5, c6, c7, c8, hc, List.length_map, decide_true, cond_true, Bool.and_self]
    by_cases hlt : t < e.a
    ·simp only [hlt, decide_true, Bool.not_true, cond_false]
     refine ih _ ⟨i, k, rfl, h1, ?_, by omega⟩ (by simp only; omega)
     have : ¬ k < upto es t := fun h => by have := hu.1 h; omega
     omega
    ·simp only [hlt, decide_false, Bool.not_false, cond_true]
     refine ih _ ⟨k + 1, j, rfl, ?_, h2, h3⟩ (by simp only; omega)
     have := hu.2 (by omega)
     omega
   ·have c1 : ¬ (i : Int) < (j : Int) := by omega
    have c2 : (0 : Int) ≤ (i : Int) := by omega
    have c3 : (i : Int) ≤ (es.length : Int) := by omega
    have hi : i = upto es t := by omega
    have hT : List.take (i : Int).toNat (evL es) = evL (es.take i) := by
     rw [← List.map_take]; rfl
    simp only [c1, c2, c3, List.length_map, decide_true, decide_false, cond_true, cond_false, hT]
    rw [life_Run_v n (es.take i) (by simp; omega)]
    simp only [Option.bind_some, runT, runR_life (life_take hL i)]
    unfold atL
    rw [← hi]
  ·have hA : ¬ OkAt es t := fun h => ht h.2
   simp only [runR_life hL, hA, decide_true, Bool.not_true, cond_false, if_false]
   grind
 ·have hA : ¬ OkAt es t := fun h => hL h.1
  simp [runR_no hL, hA]
theorem life_At_v (n : Nat) (es : List Ev) (t : Int) (hn : es.length < n) : life_At n (evL es) t = some (atT es t) := by
 unfold life_At life_At_1
 rw [life_at_v n es t hn]
 unfold atT atR
 by_cases h : OkAt es t <;> simp [h, zero]
theorem ref14_After_v (n : Nat) (l : Ln) (x : Int × Int × Int) (hl : Vld l) (h1 : In64 x.1) (h2 : In64 x.2.1) (h3 : In64 x.2.2) : ∃ e : Ev, ref14_After n l.s l.h l.e l.t x.1 x.2.1 x.2.2 = some (e.k, e.a, e.h) := by
 obtain ⟨s, g, p, t⟩ := l
 obtain ⟨x, y, z⟩ := x
 unfold Vld at hl
 simp only at hl h1 h2 h3 ⊢
 have q5 := pk_bd x (k := 5) (by decide)
 have q3 := pk_bd x (k := 3) (by decide)
 have q2 := pk_bd x (k := 2) (by decide)
 have q1 := pk_bd x (k := 1) (by decide)
 have r6 := pk_bd y (k := 6) (by decide)
 have w5 := pk_bd z (k := 5) (by decide)
 have key : ∃ w : Int × Int × Int, ref14_After n s g p t x y z = some w := by
  unfold ref14_After ref14_After_1 ref14_After_2
  simp only [ref14_pick_v n h1 (show (0 : Int) < 5 by decide), ref14_pick_v n h1 (show (0 : Int) < 3 by decide), ref14_pick_v n h1 (show (0 : Int) < 2 by decide), ref14_pick_v n h1 (show (0 : Int) < 1 by decide),
   ref14_pick_v n h2 (show (0 : Int) < 6 by decide), ref14_pick_v n h3 (show (0 : Int) < 5 by decide), Option.bind_some]
  generalize pk x 5 = a5 at *
  generalize pk x 3 = a3 at *
  generalize pk x 2 = a2 at *
  generalize pk x 1 = a1 at *
  generalize pk y 6 = b at *
  generalize pk z 5 = c at *
  have n1 : (-9223372036854775808 : Int) ≤ b + 2592000 := by omega
  have n2 : b + 2592000 ≤ (9223372036854775807 : Int) := by omega
  have n3 : (-9223372036854775808 : Int) ≤ t + (b + 2592000) := by omega
  have n4 : t + (b + 2592000) ≤ (9223372036854775807 : Int) := by omega
  have n5 : (-9223372036854775808 : Int) ≤ t + b := by omega
  have n6 : t + b ≤ (9223372036854775807 : Int) := by omega
  have n7 : (-9223372036854775808 : Int) ≤ c + 1 := by omega
  have n8 : c + 1 ≤ (9223372036854775807 : Int) := by omega
  simp only [q5, q3, q2, q1, n1, n2, n3, n4, n5, n6, n7, n8, decide_true, Bool.and_self, cond_true]
  cases decide (s = 1) <;> cases decide (s = 2) <;> cases decide (s = 3) <;> simp only [cond_true, cond_false] <;> (repeat' (split <;> try exact ⟨_, rfl⟩)) <;> first | exact ⟨_, rfl⟩ | (simp only [Bool.cond_eq_ite]; repeat' (split <;> try exact ⟨_, rfl⟩))
 obtain ⟨w, hw⟩ := key
 exact ⟨⟨w.1, w.2.1, w.2.2⟩, hw⟩
theorem ref14_Made_v (n : Nat) (xs : List (Int × Int × Int)) (hx : ∀ x ∈ xs, In64 x.1 ∧ In64 x.2.1 ∧ In64 x.2.2) (hn : 16 < n) : ∃ es, ref14_Made n (xs.map triR) = some (evL es) ∧ All first es ∧ es.length ≤ 16 := by
 have main : ∃ r, ref14_Made n (xs.map triR) = some r ∧ ∃ es, r = evL es ∧ All first es ∧ es.length ≤ 16 := by
  unfold ref14_Made ref14_Made_1
  refine iterF_ex (fun s => ∃ (i : Nat) (es : List Ev) (l : Ln), s = (evL es, (i : Int), l.s, l.h, l.e, l.t) ∧ All first es ∧ es.length ≤ i ∧ i ≤ 16 ∧ l = fin first es) (fun s => 16 - s.2.1.toNat) (fun r => ∃ es, r = evL es ∧ All first es ∧ es.length ≤ 16) ?_ n _ ⟨0, [], first, rfl, trivial, by simp, by omega, rfl⟩ (by simp; omega)
  rintro _ go ⟨i, es, l, rfl, hA, hle, hi, hl⟩ ih
  simp only
  unfold ref14_Made_2
  have done : ∃ r, some (evL es) = some r ∧ ∃ es, r = evL es ∧ All first es ∧ es.length ≤ 16 := ⟨_, rfl, es, rfl, hA, by omega⟩
  by_cases h1 : i < xs.length
  ·by_cases h2 : i < 16
   ·obtain ⟨x, hxe⟩ := get_lt h1
    have hc : ∀ k, cA (xs.map triR) (i : Int) k = (triR x).getD k (.int 0) := fun k => cA_map (by simpa using hxe)
    have g0 : cI (xs.map triR) i 0 = x.1 := by simp only [cI, hc]; rfl
    have g1 : cI (xs.map triR) i 1 = x.2.1 := by simp only [cI, hc]; rfl
    have g2 : cI (xs.map triR) i 2 = x.2.2 := by simp only [cI, hc]; rfl
    obtain ⟨b1, b2, b3⟩ := hx x (List.mem_of_getElem? hxe)
    have hv : Vld l := by rw [hl]; exact all_vld vld_first hA
    obtain ⟨e, he⟩ := ref14_After_v n l x hv b1 b2 b3
    have c1 : (i : Int) < (xs.length : Int) := by omega
    have c2 : (i : Int) < 16 := by omega
    have c3 : (0 : Int) ≤ (i : Int) := by omega
    have c4 : (-9223372036854775808 : Int) ≤ (i : Int) + 1 := by omega
    have c5 : (i : Int) + 1 ≤ (9223372036854775807 : Int) := by omega
    have c6 : ((es.length : Int) + 1) * 24 ≤ 140737488355328 := by omega
    simp only [g0, g1, g2, he, ref14_Step_v n l e, List.length_map, c1, c2, c3, c4, c5, c6, decide_true, cond_true, Bool.and_self, Option.bind_some, stepT]
    by_cases hok : Ok l e
    ·simp only [stepR_ok hok, decide_true, cond_true]
     exact ih _ ⟨i + 1, es ++ [e], nxt l e, by simp, by rw [all_app]; exact ⟨hA, by rw [← hl]; exact ⟨hok, trivial⟩⟩, by simp; omega, by omega, by rw [fin_app, ← hl]; rfl⟩ (by simp only; omega)
    ·have e140 : decide ((140 : Int) = 0) = false := rfl
     simp only [stepR_no hok, e140, cond_false]
     exact ih _ ⟨i + 1, es, l, by simp, hA, by omega, by omega, hl⟩ (by simp only; omega)
   ·have c1 : (i : Int) < (xs.length : Int) := by omega
    have c2 : ¬ (i : Int) < 16 := by omega
    simp only [List.length_map, c1, c2, decide_true, decide_false, cond_true, cond_false]
    exact done
  ·have c1 : ¬ (i : Int) < (xs.length : Int) := by omega
   simp only [List.length_map, c1, decide_false, cond_false]
   exact done
 obtain ⟨r, h1, es, rfl, h2, h3⟩ := main
 exact ⟨es, h1, h2, h3⟩
end Go.Proofs.YtjllgiddmeiaoaaGreat
set_option maxRecDepth 100000
namespace Go.Proofs.YtjllgiddmeiaoaaGreat
open Go Go.Sx Go.Dial.Clm
theorem tdiv4 {v : Int} (h : In64 v) : In64 (Int.tdiv v 4) := by
 unfold In64 at h ⊢
 rcases Int.le_total 0 v with h0 | h0
 ·rw [Int.tdiv_eq_ediv_of_nonneg h0]; omega
 ·obtain ⟨w, rfl⟩ : ∃ w, v = -w := ⟨-v, by omega⟩
  rw [Int.neg_tdiv, Int.tdiv_eq_ediv_of_nonneg (by omega)]; omega
theorem evV_snoc {l : Int} {es : List Ce} {e : Ce} : EvV l (es ++ [e]) ↔ EvV l es ∧ CeV ((es.getLast?.map (·.a)).getD l) e := by
 induction es generalizing l with
 | nil => simp [EvV]
 | cons x es ih =>
  simp only [List.cons_append, EvV, ih, and_assoc]
  cases es with
  | nil => simp
  | cons y es =>
   have : ((y :: es).getLast?.map (·.a)).getD x.a = ((x :: y :: es).getLast?.map (·.a)).getD l := by
    rw [List.getLast?_cons_cons]
    cases h : (y :: es).getLast? with
    | none => simp at h
    | some z => rfl
   rw [this]
theorem out_n {r : Rl} (hr : r.a ≤ 86400 ∧ r.c ≤ 86400 ∧ r.s ≤ 86400 ∧ r.r ≤ 86400) {c : Cl} {es : List Ce} {t : Int} (h0 : c.a ≤ t) (ht : 0 ≤ t) : (outV r c es t).n ≤ t + 86400 := by
 have hd : ∀ s, dur r s ≤ 86400 := fun s => by unfold dur; split; omega; split; omega; split <;> omega
 have hst : ∀ s f, f ≤ t → 0 ≤ t → (st r s f).n ≤ t + 86400 := fun s f hf ht => by
  simp only [st]; split
  ·have := hd s; omega
  ·omega
 have hall : ∀ x ∈ timeline r c es, ∃ s f, x = st r s f := by
  intro x hx
  unfold timeline at hx
  rcases List.mem_cons.1 hx with rfl | hx
  ·exact ⟨_, _, rfl⟩
  ·exact tl_all (r := r) (b := c.b) (fun x => ∃ s f, x = st r s f) (fun _ _ => True) (fun _ _ _ _ _ _ => ⟨⟨_, _, rfl⟩, trivial⟩) (fun _ _ _ _ _ _ => trivial) (fun _ _ _ _ _ _ => ⟨⟨_, _, rfl⟩, trivial⟩) (fun _ _ _ => ⟨⟨_, _, rfl⟩, trivial⟩) _ _ _ (Nat.le_refl _) trivial x hx
 unfold outV
 cases hl : (upTo t (timeline r c es)).getLast? with
 | none => simp only [Option.getD_none]; omega
 | some x =>
  have hm := List.mem_of_getLast? hl
  have h1 : x.f ≤ t := by
   unfold upTo at hm
   have := List.all_eq_true.1 List.all_takeWhile x hm
   simpa using this
  have h2 : x ∈ timeline r c es := by unfold upTo at hm; exact (List.takeWhile_sublist _).subset hm
  obtain ⟨s, f, rfl⟩ := hall x h2
  simp only [Option.getD_some]
  have : f ≤ t := h1
  simp only [st]; split
  ·have := hd s; omega
  ·omega
def mrR (a b c d : Int) : Rl := ⟨mr a, mr b, mr c, mr d⟩
theorem mrR_small (a b c d : Int) : (mrR a b c d).a ≤ 86400 ∧ (mrR a b c d).c ≤ 86400 ∧ (mrR a b c d).s ≤ 86400 ∧ (mrR a b c d).r ≤ 86400 := by
 have := mr_bd a; have := mr_bd b; have := mr_bd c; have := mr_bd d
 unfold mrR; simp only; omega
theorem mrR_v (a b c d : Int) : RlV (mrR a b c d) := by
 have := mr_bd a; have := mr_bd b; have := mr_bd c; have := mr_bd d
 unfold RlV mrR; simp only; omega
theorem ref16_Made_v (n : Nat) (a b c d e0 e1 e2 e3 e4 e5 : Int) (xs : List (Int × Int × Int)) (ha : In64 a) (hb : In64 b) (hc : In64 c) (hd : In64 d) (h0 : In64 e0) (h1 : In64 e1) (h2 : In64 e2) (h3 : In64 e3) (h4 : In64 e4) (h5 : In64 e5)
  (hx : ∀ x ∈ xs, In64 x.1 ∧ In64 x.2.1 ∧ In64 x.2.2) (hn : 200 < n) :
  ∃ (C : Cl) (es : List Ce), ref16_Made n a b c d e0 e1 e2 e3 e4 e5 (xs.map triR) = some (mr a, mr b, mr c, mr d, C.n, C.f, C.t, C.h, C.a, C.b, ceL es) ∧ ClmV (mrR a b c d) C es ∧ C.a < 1000 ∧ es.length ≤ 10 ∧ ∀ e ∈ es, e.a ≤ 900000 := by
 obtain ⟨y4, hy4⟩ : ∃ y, y = pk e0 100000000 := ⟨_, rfl⟩
 obtain ⟨y5, hy5⟩ : ∃ y, y = pk e1 8 := ⟨_, rfl⟩
 obtain ⟨y7, hy7⟩ : ∃ y, y = pk e3 64 := ⟨_, rfl⟩
 obtain ⟨y8, hy8⟩ : ∃ y, y = pk e4 1000 := ⟨_, rfl⟩
 obtain ⟨y9, hy9⟩ : ∃ y, y = pk e5 2 := ⟨_, rfl⟩
 obtain ⟨y6, hy6⟩ : ∃ y, y = pk e2 7 := ⟨_, rfl⟩
 have b4 := pk_bd e0 (k := 100000000) (by decide)
 have b5 := pk_bd e1 (k := 8) (by decide)
 have b7 := pk_bd e3 (k := 64) (by decide)
 have b8 := pk_bd e4 (k := 1000) (by decide)
 have b6 := pk_bd e2 (k := 7) (by decide)
 rw [← hy4] at b4; rw [← hy5] at b5; rw [← hy7] at b7; rw [← hy8] at b8; rw [← hy6] at b6
 obtain ⟨C, hC⟩ : ∃ C : Cl, C = ⟨y4, y5, Int.tmod ((y5 + 1) + y6) 8, y7, y8, decide (y9 = 0)⟩ := ⟨_, rfl⟩
 have hT : Int.tmod ((y5 + 1) + y6) 8 = ((y5 + 1) + y6) % 8 := Int.tmod_eq_emod_of_nonneg (by omega)
 have hCV : ClV C := by rw [hC]; unfold ClV; simp only [hT]; omega
 have hCa : C.a = y8 := by rw [hC]
 have main : ∃ q : ref16_Made_a, ref16_Made n a b c d e0 e1 e2 e3 e4 e5 (xs.map triR) = some q ∧ ∃ es, q = (mr a, mr b, mr c, mr d, C.n, C.f, C.t, C.h, C.a, C.b, ceL es) ∧ EvV C.a es ∧ es.length ≤ 10 ∧ ∀ e ∈ es, e.a ≤ 900000 := by
  unfold ref16_Made ref16_Made_1
  have n1 : (-9223372036854775808 : Int) ≤ y5 + 1 := by omega
  have n2 : y5 + 1 ≤ (9223372036854775807 : Int) := by omega
  have n3 : (-9223372036854775808 : Int) ≤ y5 + 1 + y6 := by omega
  have n4 : y5 + 1 + y6 ≤ (9223372036854775807 : Int) := by omega
  simp only [ref16_MadeRules_v n a b c d ha hb hc hd, ref16_pick_v n h0 (show (0 : Int) < 100000000 by decide), ref16_pick_v n h1 (show (0 : Int) < 8 by decide), ref16_pick_v n h3 (show (0 : Int) < 64 by decide), ref16_pick_v n h4 (show (0 : Int) < 1000 by decide), ref16_pick_v n h5 (show (0 : Int) < 2 by decide), ref16_pick_v n h2 (show (0 : Int) < 7 by decide), Option.bind_some, ← hy4, ← hy5, ← hy6, ← hy7, ← hy8, ← hy9, n1, n2, n3, n4, decide_true, Bool.and_self]
  simp only [cond_true]
  refine iterF_ex (fun s => ∃ (es : List Ce) (last : Int) (i : Nat), s = (ceL es, last, (i : Int)) ∧ es.length = i ∧ i ≤ 10 ∧ EvV C.a es ∧ last = (es.getLast?.map (·.a)).getD C.a ∧ C.a ≤ last ∧ last ≤ 1000 + 86402 * i ∧ ∀ e ∈ es, e.a ≤ 900000) (fun s => 10 - s.2.2.toNat) (fun q => ∃ es, q = (mr a, mr b, mr c, mr d, C.n, C.f, C.t, C.h, C.a, C.b, ceL es) ∧ EvV C.a es ∧ es.length ≤ 10 ∧ ∀ e ∈ es, e.a ≤ 900000) ?_ n _
   ⟨[], y8, 0, rfl, rfl, by omega, trivial, by rw [hCa]; rfl, by omega, by omega, fun e he => by cases he⟩ (by simp; omega)
  rintro _ go ⟨es, last, i, rfl, hl, hi, hE, hlast, hl0, hl1, hea⟩ ih
  simp only
  unfold ref16_Made_2 ref16_Made_3
  have done : ∃ q : ref16_Made_a, some (mr a, mr b, mr c, mr d, y4, y5, Int.tmod ((y5 + 1) + y6) 8, y7, y8, decide (y9 = 0), ceL es) = some q ∧ ∃ es, q = (mr a, mr b, mr c, mr d, C.n, C.f, C.t, C.h, C.a, C.b, ceL es) ∧ EvV C.a es ∧ es.length ≤ 10 ∧ ∀ e ∈ es, e.a ≤ 900000 :=
   ⟨_, rfl, es, by rw [hC], hE, by omega, hea⟩
  by_cases g1 : i < xs.length
  ·have c1 : (i : Int) < (xs.length : Int) := by omega
   by_cases g2 : i < 10
   ·obtain ⟨x, hxe⟩ := get_lt g1
    have hcell : ∀ k, cA (xs.map triR) (i : Int) k = (triR x).getD k (.int 0) := fun k => cA_map (by simpa using hxe)
    have z0 : cI (xs.map triR) i 0 = x.1 := by simp only [cI, hcell]; rfl
    have z1 : cI (xs.map triR) i 1 = x.2.1 := by simp only [cI, hcell]; rfl
    have z2 : cI (xs.map triR) i 2 = x.2.2 := by simp only [cI, hcell]; rfl
    obtain ⟨q1, q2, q3⟩ := hx x (List.mem_of_getElem? hxe)
    have q4 := tdiv4 q2
    obtain ⟨w0, hw0⟩ : ∃ y, y = pk x.1 6 := ⟨_, rfl⟩
    obtain ⟨w1, hw1⟩ : ∃ y, y = pk x.2.1 4 := ⟨_, rfl⟩
    obtain ⟨w2, hw2⟩ : ∃ y, y = pk x.2.1 3 := ⟨_, rfl⟩
    obtain ⟨w3, hw3⟩ : ∃ y, y = pk x.2.2 4 := ⟨_, rfl⟩
    obtain ⟨w4, hw4⟩ : ∃ y, y = pk (Int.tdiv x.2.1 4) 3 := ⟨_, rfl⟩
    have v0 := pk_bd x.1 (k := 6) (by decide)
    have v1 := pk_bd x.2.1 (k := 4) (by decide)
    have v2 := pk_bd x.2.1 (k := 3) (by decide)
    have v3 := pk_bd x.2.2 (k := 4) (by decide)
    rw [← hw0] at v0; rw [← hw1] at v1; rw [← hw2] at v2; rw [← hw3] at v3
    have hout := ref16_Outcome_v n (mrR a b c d) C es last hn
    have hOk : OkOut (mrR a b c d) C es last := ⟨⟨mrR_v a b c d, hCV, by omega, hE⟩, by omega, by omega⟩
    have hN := out_n (mrR_small a b c d) (c := C) (es := es) hl0 (by omega)
    unfold outR at hout
    rw [if_pos hOk] at hout
    obtain ⟨O, hO⟩ : ∃ O, O = outV (mrR a b c d) C es last := ⟨_, rfl⟩
    rw [← hO] at hout hN
    rw [hC] at hout
    simp only [mrR] at hout
    have c2 : (i : Int) < 10 := by omega
    have c3 : (0 : Int) ≤ (i : Int) := by omega
    have c4 : (-9223372036854775808 : Int) ≤ 1 + w0 := by omega
    have c5 : 1 + w0 ≤ (9223372036854775807 : Int) := by omega
    have c6 : (-9223372036854775808 : Int) ≤ last + w1 := by omega
    have c7 : last + w1 ≤ (9223372036854775807 : Int) := by omega
    have c8 : (-9223372036854775808 : Int) ≤ (i : Int) + 1 := by omega
    have c9 : (i : Int) + 1 ≤ (9223372036854775807 : Int) := by omega
    have c10 : (-9223372036854775808 : Int) ≤ 1 + w3 := by omega
    have c11 : 1 + w3 ≤ (9223372036854775807 : Int) := by omega
    have c12 : ((es.length : Int) + 1) * 24 ≤ 140737488355328 := by omega
    have hgo : ∀ A rr : Int, last ≤ A → A ≤ last + 86402 → (1 + w0 = 2 ∨ 1 + w0 = 6 → 1 ≤ rr ∧ rr ≤ 9) → (¬ (1 + w0 = 2 ∨ 1 + w0 = 6) → rr = 0) → ∃ q, go (ceL es ++ [[AV.int (1 + w0), AV.int A, AV.int rr]], A, (i : Int) + 1) = some q ∧ ∃ es, q = (mr a, mr b, mr c, mr d, C.n, C.f, C.t, C.h, C.a, C.b, ceL es) ∧ EvV C.a es ∧ es.length ≤ 10 ∧ ∀ e ∈ es, e.a ≤ 900000 := fun A rr k1 k2 k3 k4 =>
     ih _ ⟨es ++ [⟨1 + w0, A, rr⟩], A, i + 1, by simp, by simp; omega, by omega, by rw [evV_snoc, ← hlast]; exact ⟨hE, ⟨by simp only; omega, by simp only; omega, k1, by simp only; omega, k3, k4⟩⟩, by simp, by omega, by omega, fun e he => by
      rcases List.mem_append.1 he with he | he
      ·exact hea e he
      ·rw [List.mem_singleton.1 he]; simp only; omega⟩ (by simp only; omega)
    unfold ref16_Made_4
    simp only [z0, z1, z2, List.length_map, c1, c2, c3, ref16_pick_v n q1 (show (0 : Int) < 6 by decide), ref16_pick_v n q2 (show (0 : Int) < 4 by decide), ref16_pick_v n q2 (show (0 : Int) < 3 by decide), ref16_pick_v n q3 (show (0 : Int) < 4 by decide), ref16_pick_v n q4 (show (0 : Int) < 3 by decide), ← hw0, ← hw1, ← hw2, ← hw3, ← hw4, Option.bind_some, c4, c5, c6, c7, c8, c9, c10, c11, c12, hout, decide_true, Bool.and_self]
    simp only [cond_true]
    unfold In64 at q4
    by_cases k0 : 0 < O.n
    ·have c13 : (-9223372036854775808 : Int) ≤ O.n - 1 := by omega
     have c14 : O.n - 1 ≤ (9223372036854775807 : Int) := by omega
     have c15 : (-9223372036854775808 : Int) ≤ O.n - 1 + w2 := by omega
     have c16 : O.n - 1 + w2 ≤ (9223372036854775807 : Int) := by omega
     have m1 : last ≤ imax last (O.n - 1 + w2) := by unfold imax; split <;> omega
     have m2 : imax last (O.n - 1 + w2) ≤ last + 86402 := by unfold imax; split <;> omega
     simp only [k0, q4.1, q4.2, c13, c14, c15, c16, decide_true, Bool.and_self]
     simp only [cond_true]
     by_cases k1 : 0 < w4 <;> by_cases k2 : 1 + w0 = 2 <;> by_cases k3 : 1 + w0 = 6 <;> simp only [k1, k2, k3, decide_true, decide_false] <;> simp only [cond_true, cond_false] <;>
      (try rw [k2] at hgo) <;> (try rw [k3] at hgo) <;> first | exact hgo _ _ m1 m2 (fun _ => by omega) (fun h => by omega) | exact hgo _ _ (by omega) (by omega) (fun _ => by omega) (fun h => by omega)
    ·by_cases k2 : 1 + w0 = 2 <;> by_cases k3 : 1 + w0 = 6 <;> simp only [k0, k2, k3, decide_true, decide_false] <;> simp only [cond_true, cond_false] <;>
      (try rw [k2] at hgo) <;> (try rw [k3] at hgo) <;> exact hgo _ _ (by omega) (by omega) (fun _ => by omega) (fun h => by omega)
   ·have c2 : ¬ (i : Int) < 10 := by omega
    simp only [List.length_map, c1, c2, decide_true, decide_false]
    simp only [cond_true, cond_false]
    exact done
  ·have c1 : ¬ (i : Int) < (xs.length : Int) := by omega
   simp only [List.length_map, c1, decide_false]
   simp only [cond_false]
   exact done
 obtain ⟨q, g1, es, rfl, g2, g3, g4⟩ := main
 exact ⟨C, es, g1, ⟨mrR_v a b c d, hCV, by omega, g2⟩, by omega, g3, g4⟩
set_option maxRecDepth 100000
theorem claim_isClaim_v (n : Nat) (c : Cl) : claim_isClaim n c.n c.f c.t c.h c.a c.b = some (decide (ClV c)) := by
 by_cases h : ClV c <;> simp only [h, decide_true, decide_false] <;> unfold ClV at h <;> unfold claim_isClaim claim_isClaim_1 <;> grind
def ruleAt (r : Rl) (i : Nat) : Int := if i = 0 then r.a else if i = 1 then r.s else if i = 2 then r.c else r.r
theorem rule_cell (r : Rl) {i : Nat} (h : i < 4) : cI ((((([] : Lv) ++ [[(AV.int r.a)]]) ++ [[(AV.int r.s)]]) ++ [[(AV.int r.c)]]) ++ [[(AV.int r.r)]]) (i : Int) 0 = ruleAt r i := by
 match i, h with
 | 0, _ => rfl
 | 1, _ => rfl
 | 2, _ => rfl
 | 3, _ => rfl
theorem rules_all {r : Rl} : RlV r ↔ ∀ i, i < 4 → 1 ≤ ruleAt r i ∧ ruleAt r i ≤ 1000000 := by
 constructor
 ·intro h i hi
  unfold RlV at h
  unfold ruleAt
  split; omega; split; omega; split <;> omega
 ·intro h
  have h0 := h 0 (by omega)
  have h1 := h 1 (by omega)
  have h2 := h 2 (by omega)
  have h3 := h 3 (by omega)
  simp [ruleAt] at h0 h1 h2 h3
  unfold RlV
  omega
theorem claim_Ends_v (n : Nat) (r : Rl) (c : Cl) (hn : 10 < n) : claim_Ends n r.a r.c r.s r.r c.n c.f c.t c.h c.a c.b = some (if RlV r ∧ ClV c then (endsV r c, 0) else (0, 160)) := by
 unfold claim_Ends claim_Ends_1
 refine iterF_ind (fun s => ∃ i : Nat, s = (i : Int) ∧ i ≤ 4 ∧ ∀ j, j < i → 1 ≤ ruleAt r j ∧ ruleAt r j ≤ 1000000) (fun s => 4 - s.toNat) _ ?_ n _ ⟨0, rfl, by omega, fun j hj => by omega⟩ (by simp; omega)
 rintro _ go ⟨i, rfl, hi, hj⟩ ih
 unfold claim_Ends_2
 have c2 : (0 : Int) ≤ (i : Int) := by omega
 have c8 : (-9223372036854775808 : Int) ≤ (i : Int) + 1 := by omega
 have c9 : (i : Int) + 1 ≤ (9223372036854775807 : Int) := by omega
 by_cases h4 : i < 4
 ·have c1 : (i : Int) < 4 := by omega
  simp only [c1, c2, c8, c9, rule_cell r h4, decide_true, Bool.and_self]
  simp only [cond_true]
  by_cases k1 : 1 ≤ ruleAt r i
  ·by_cases k2 : ruleAt r i ≤ 1000000
   ·simp only [k1, k2, decide_true, Bool.not_true]
    simp only [cond_true, cond_false]
    exact ih _ ⟨i + 1, by simp, by omega, fun j hj' => by
     rcases Nat.lt_or_ge j i with h | h
     ·exact hj j h
     ·have : j = i := by omega
      subst this; exact ⟨k1, k2⟩⟩ (by simp; omega)
   ·have : ¬ (RlV r ∧ ClV c) := fun h => k2 (rules_all.1 h.1 i h4).2
    simp [k1, k2, this]
  ·have : ¬ (RlV r ∧ ClV c) := fun h => k1 (rules_all.1 h.1 i h4).1
   simp [k1, this]
 ·have hr : RlV r := rules_all.2 fun j hj' => hj j (by omega)
  have c1 : ¬ (i : Int) < 4 := by omega
  rw [claim_isClaim_v]
  by_cases hc : ClV c
  ·simp only [c1, hr, hc, decide_true, decide_false, Option.bind_some, Bool.not_true, and_self, if_true]
   simp only [cond_false]
   unfold endsV
   unfold RlV at hr
   unfold ClV at hc
   have n1 : (-9223372036854775808 : Int) ≤ c.a + r.a ∧ c.a + r.a ≤ 9223372036854775807 := by omega
   have n2 : (-9223372036854775808 : Int) ≤ c.a + r.a - 1 ∧ c.a + r.a - 1 ≤ 9223372036854775807 := by omega
   have n3 : (-9223372036854775808 : Int) ≤ c.a + r.a - 1 + r.s ∧ c.a + r.a - 1 + r.s ≤ 9223372036854775807 := by omega
   have n4 : (-9223372036854775808 : Int) ≤ c.a + r.a - 1 + r.s + r.c ∧ c.a + r.a - 1 + r.s + r.c ≤ 9223372036854775807 := by omega
   have n5 : (-9223372036854775808 : Int) ≤ c.a + r.a - 1 + r.s + r.c + r.r ∧ c.a + r.a - 1 + r.s + r.c + r.r ≤ 9223372036854775807 := by omega
   simp only [n1, n2, n3, n4, n5, decide_true, Bool.and_self]
   simp only [cond_true]
  ·simp [c1, hc]
theorem claim_Valid_v (n : Nat) (r : Rl) (c : Cl) (es : List Ce) (hn : 25 < n) : claim_Valid n r.a r.c r.s r.r c.n c.f c.t c.h c.a c.b (ceL es) = some (decide (ClmV r c es)) := by
 unfold claim_Valid claim_Valid_1
 refine iterF_ind (fun s => ∃ i : Nat, s = (i : Int) ∧ i ≤ 4 ∧ ∀ j, j < i → 1 ≤ ruleAt r j ∧ ruleAt r j ≤ 1000000) (fun s => 4 - s.toNat) _ ?_ n _ ⟨0, rfl, by omega, fun j hj => by omega⟩ (by simp; omega)
 rintro _ go ⟨i, rfl, hi, hj⟩ ih
 unfold claim_Valid_2
 have c2 : (0 : Int) ≤ (i : Int) := by omega
 have c8 : (-9223372036854775808 : Int) ≤ (i : Int) + 1 := by omega
 have c9 : (i : Int) + 1 ≤ (9223372036854775807 : Int) := by omega
 by_cases h4 : i < 4
 ·have c1 : (i : Int) < 4 := by omega
  simp only [c1, c2, c8, c9, rule_cell r h4, decide_true, Bool.and_self]
  simp only [cond_true]
  by_cases k1 : 1 ≤ ruleAt r i
  ·by_cases k2 : ruleAt r i ≤ 1000000
   ·simp only [k1, k2, decide_true, Bool.not_true]
    simp only [cond_true, cond_false]
    exact ih _ ⟨i + 1, by simp, by omega, fun j hj' => by
     rcases Nat.lt_or_ge j i with h | h
     ·exact hj j h
     ·have : j = i := by omega
      subst this; exact ⟨k1, k2⟩⟩ (by simp; omega)
   ·have : ¬ ClmV r c es := fun h => k2 (rules_all.1 h.1 i h4).2
    simp [k1, k2, this]
  ·have : ¬ ClmV r c es := fun h => k1 (rules_all.1 h.1 i h4).1
   simp [k1, this]
 ·have hr : RlV r := rules_all.2 fun j hj' => hj j (by omega)
  have c1 : ¬ (i : Int) < 4 := by omega
  clear ih
  rw [claim_isClaim_v]
  unfold ClmV
  by_cases h2 : ClV c
  ·by_cases h3 : es.length ≤ 20
   ·have c3 : ¬ (20 : Int) < (es.length : Int) := by omega
    simp only [c1, hr, h2, h3, decide_true, decide_false, Option.bind_some, Bool.not_true, List.length_map, c3, true_and]
    simp only [cond_false]
    refine iterF_ind (fun s => ∃ (i : Nat) (last : Int), s = ((i : Int), last) ∧ i ≤ es.length ∧ (EvV c.a es ↔ EvV last (es.drop i))) (fun s => es.length - s.1.toNat) _ ?_ n _ ⟨0, c.a, rfl, by omega, by simp⟩ (by simp; omega)
    rintro _ go ⟨i, last, rfl, hi, hE⟩ ih
    simp only
    unfold claim_Valid_3
    by_cases hlt : i < es.length
    ·obtain ⟨e, he⟩ := get_lt hlt
     have hc : ∀ k, cA (ceL es) (i : Int) k = (ceR e).getD k (.int 0) := fun k => cA_map (by simpa using he)
     have g0 : cI (ceL es) i 0 = e.k := by simp only [cI, hc]; rfl
     have g1 : cI (ceL es) i 1 = e.a := by simp only [cI, hc]; rfl
     have g2 : cI (ceL es) i 2 = e.r := by simp only [cI, hc]; rfl
     have c1 : (i : Int) < (es.length : Int) := by omega
     have c2 : (0 : Int) ≤ (i : Int) := by omega
     have c4 : (-9223372036854775808 : Int) ≤ (i : Int) + 1 := by omega
     have c5 : (i : Int) + 1 ≤ (9223372036854775807 : Int) := by omega
     simp only [g0, g1, g2, List.length_map, c1, c2, c4, c5, decide_true, Bool.and_self, Bool.not_true]
     simp only [cond_true]
     rw [drop_cons he] at hE
     have hgo : CeV last e → go ((i : Int) + 1, e.a) = some (decide (EvV c.a es)) := fun hv => ih _ ⟨i + 1, e.a, by simp, by omega, by rw [hE]; exact ⟨fun h => h.2, fun h => ⟨hv, h⟩⟩⟩ (by simp only; omega)
     by_cases hv : CeV last e
     ·rw [hgo hv]
      unfold CeV at hv
      grind
     ·have : ¬ EvV c.a es := fun h => hv (hE.1 h).1
      simp only [this, decide_false]
      unfold CeV at hv
      grind
    ·have h0 : i = es.length := by omega
     have c1 : ¬ (i : Int) < (es.length : Int) := by omega
     simp only [List.length_map, c1, decide_false]
     simp only [cond_false]
     subst h0
     rw [List.drop_length] at hE
     have : EvV c.a es := hE.2 trivial
     simp [this]
   ·have c3 : (20 : Int) < (es.length : Int) := by omega
    simp only [c1, h2, h3, decide_true, decide_false, Option.bind_some, Bool.not_true, List.length_map, c3, false_and, and_false]
    simp only [cond_true, cond_false]
  ·simp [c1, h2]
end Go.Proofs.YtjllgiddmeiaoaaGreat
set_option maxRecDepth 100000
namespace Go.Proofs.YtjllgiddmeiaoaaGreat
open Go Go.Sx Go.RowKit Go.Dial
def mtE : MTab := [(117, SV.of [.agg (SV.of [.vi (.int 1), .vi (.int 1)]), .agg (SV.of [.vi (.int 2), .vi (.int 1)]), .agg (SV.of [.vi (.int 3), .vi (.int 2)]), .agg (SV.of [.vi (.int 4), .vi (.int 2)]), .agg (SV.of [.vi (.int 5), .vi (.int 1)]), .agg (SV.of [.vi (.int 5), .vi (.int 2)]), .agg (SV.of [.vi (.int 5), .vi (.int 3)]), .agg (SV.of [.vi (.int 6), .vi (.int 4)])], SV.of [.vi (.int 3), .vi (.int 2), .vi (.int 3), .vi (.int 6), .vi (.int 7), .vi (.int 7), .vi (.int 7), .vi (.int 8)])]
def effTbl : List (Int × Int × Int) := [(1, 1, 3), (2, 1, 2), (3, 2, 3), (4, 2, 6), (5, 1, 7), (5, 2, 7), (5, 3, 7), (6, 4, 8)]
def keyE (k s : Int) : Value := .agg #[.int .i64 k, .int .i64 s]
theorem wpAny_inv {P : Program} {md : Region.Mode} {ops : Array Oper} {Q : Exit → Act → World → Prop} (J : Array Bool → Act → World → Prop)
  (hz : ∀ l a w, J l a w → l.size = ops.size)
  (hs : ∀ l a w i, J l a w → i ∈ Region.ready md ops l → wpOp P ops Q i (J (l.setIfInBounds i true)) a w)
  (he : ∀ l a w, J l a w → Region.ready md ops l = [] → Q .normal a w) :
  ∀ (fuel : Nat) (l : Array Bool) (a : Act) (w : World), J l a w → (l.toList.filter fun b => !b).length ≤ fuel → wpAny P md ops Q fuel l a w := by
 have none_left : ∀ l : Array Bool, (l.toList.filter fun b => !b).length = 0 → Region.ready md ops l = [] := fun l hl => by
  unfold Region.ready
  rw [List.filter_eq_nil_iff]
  intro i _ hi
  rw [Bool.and_eq_true] at hi
  have h1 := hi.1
  cases hc : l[i]? with
  | none => simp [hc] at h1
  | some b =>
   have : b = false := by simpa [hc] using h1
   subst this
   have hm : false ∈ l.toList.filter fun b => !b := List.mem_filter.2 ⟨by simpa using Array.mem_of_getElem? hc, rfl⟩
   rw [List.length_eq_zero_iff.1 hl] at hm
   cases hm
 have less : ∀ (l : List Bool) (i : Nat), l[i]? = some false → ((l.set i true).filter fun b => !b).length + 1 = (l.filter fun b => !b).length := by
  intro l
  induction l with
  | nil => intro i h; simp at h
  | cons b l ih =>
   intro i h
   cases i with
   | zero => cases h; simp
   | succ i =>
    have := ih i h
    cases b <;> simp [List.filter_cons] at this ⊢ <;> omega
 intro fuel
 induction fuel with
 | zero =>
  intro l a w hJ hl
  exact ⟨none_left l (by omega), he l a w hJ (none_left l (by omega))⟩
 | succ fuel ih =>
  intro l a w hJ hl
  refine ⟨fun h => he l a w hJ h, fun i hi => ?_⟩
  have h1 : l[i]? = some false := by
   unfold Region.ready at hi
   rw [List.mem_filter, Bool.and_eq_true] at hi
   have h1 := hi.2.1
   cases hc : l[i]? with
   | none => simp [hc] at h1
   | some b => cases b <;> simp [hc] at h1 ⊢
  have hf : ((l.setIfInBounds i true).toList.filter fun b => !b).length ≤ fuel := by
   have := less l.toList i (by simpa using h1)
   rw [Array.toList_setIfInBounds]
   omega
  exact wpOp_mono (fun a w h => ih _ a w h hf) (hs l a w i hJ hi)
structure JE (w0 : World) (l : Array Bool) (a : Act) (w : World) : Prop where
 sz : l.size = 19
 ts : a.tmps.size = 11
 df : a.defers = []
 below : Below w0.heap.size w0 w
 m : l[0]? = some true → ∃ r es c, a.tmps[1]? = some (.map (some r)) ∧ w0.heap.size ≤ r ∧ w.heap[r]? = some (.map es c) ∧
  (∀ (j : Nat) k s v, effTbl[j]? = some (k, s, v) → l[2 * j + 2]? = some true → ∃ e ∈ es.toList, e.key = keyE k s ∧ e.val = .int .i64 v) ∧
  (∀ e ∈ es.toList, ∃ (j : Nat) (k s v : Int), effTbl[j]? = some (k, s, v) ∧ l[2 * j + 2]? = some true ∧ e.key = keyE k s ∧ e.val = .int .i64 v)
 b : ∀ (j : Nat) k s v, effTbl[j]? = some (k, s, v) → l[2 * j + 1]? = some true → a.tmps[j + 2]? = some (keyE k s)
 n : ∀ (j : Nat), j < 8 → l[2 * j + 2]? = some true → l[0]? = some true
 o17 : l[17]? = some true → l[0]? = some true ∧ a.tmps[10]? = a.tmps[1]?
 o18 : l[18]? = some true → l[17]? = some true ∧ a.tmps[0]? = a.tmps[10]?
noncomputable def opsE : Array Oper := match Tryz.f117.body with
 | some (.seq _ (.seq (.region _ ops _) _)) => ops
 | _ => #[]
theorem bodyE : Tryz.f117.body = some (.seq (.region 0 #[{ dst := some 0, op := .assign (.const (.map none)), type := 185, pos := "claim.go:76", after := #[], guard := none }] false) (.seq (.region 1 opsE true) .ret)) := by kernel_rfl
theorem sizeE : opsE.size = 19 := by kernel_rfl
theorem tyE : Tryz.prog.underlying 185 = some (.map 209 ((Tryz.prog.underlying 185).elim 0 fun | .map _ e => e | _ => 0)) := by kernel_rfl
theorem keyv (k s : Int) : KeyV Tryz.prog 209 (keyE k s) := by
 have h : keyOk Tryz.prog 209 (.agg (SV.of [.vi (.int k), .vi (.int s)])) = true := by kernel_rfl
 exact key_view (env := []) (κ := fun _ => undef) (F := fun _ => False) (w := default) h ⟨#[.int .i64 k, .int .i64 s], rfl, rfl, ⟨_, [.int .i64 s], rfl, ⟨rfl, rfl⟩, ⟨_, [], rfl, ⟨rfl, rfl⟩, rfl⟩⟩⟩
theorem depsE (l : Array Bool) (i : Nat) (h : i ∈ Region.ready .any opsE l) : i < 19 ∧ l[i]? = some false ∧ ∀ o, opsE[i]? = some o → ∀ e ∈ o.after, Region.binds .any e = true → l[e.on]? = some true := by
 unfold Region.ready at h
 rw [List.mem_filter, Bool.and_eq_true, List.mem_range, sizeE] at h
 obtain ⟨h1, h2, h3⟩ := h
 refine ⟨h1, ?_, fun o ho e he hb => ?_⟩
 ·cases hc : l[i]? with
  | none => simp [hc] at h2
  | some b => cases b <;> simp [hc] at h2 ⊢
 ·rw [ho] at h3
  simp only [Option.map_some, Option.getD_some, Array.all_eq_true_iff_forall_mem] at h3
  have := h3 e he
  rw [hb] at this
  cases hc : l[e.on]? with
  | none => simp [hc] at this
  | some b => cases b <;> simp [hc] at this ⊢
theorem op_of {i : Nat} {x : Op × Option Tmp × Option (Nat × Bool) × List Edge} {q : Nat} (h : (opsE[i]?).map (fun o => (o.op, o.dst, o.guard, o.after.toList.take q)) = some x) : ∃ o, opsE[i]? = some o ∧ o.op = x.1 ∧ o.dst = x.2.1 ∧ o.guard = x.2.2.1 ∧ ∀ e ∈ x.2.2.2, e ∈ o.after := by
 obtain ⟨o, h1, rfl⟩ := Option.map_eq_some_iff.1 h
 exact ⟨o, h1, rfl, rfl, rfl, fun e he => by simpa using List.mem_of_mem_take he⟩
theorem op0 : (opsE[0]?).map (fun o => (o.op, o.dst, o.guard, o.after.toList.take 0)) = some (.makeMap 185 none, some 1, none, []) := by kernel_rfl
theorem opB (j : Nat) (k s v : Int) (h : effTbl[j]? = some (k, s, v)) : (opsE[2 * j + 1]?).map (fun o => (o.op, o.dst, o.guard, o.after.toList.take 0)) = some (.build 209 #[(0, .const (.int .i64 k)), (1, .const (.int .i64 s))], some (j + 2), none, []) := by
 have hj : j < 8 := (List.getElem?_eq_some_iff.1 h).1
 have : j = 0 ∨ j = 1 ∨ j = 2 ∨ j = 3 ∨ j = 4 ∨ j = 5 ∨ j = 6 ∨ j = 7 := by omega
 rcases this with rfl | rfl | rfl | rfl | rfl | rfl | rfl | rfl <;> (simp only [effTbl, List.getElem?_cons_zero, List.getElem?_cons_succ, Option.some.injEq, Prod.mk.injEq] at h; obtain ⟨rfl, rfl, rfl⟩ := h)
 all_goals (show _ = _; kernel_rfl)
theorem opI (j : Nat) (k s v : Int) (h : effTbl[j]? = some (k, s, v)) : (opsE[2 * j + 2]?).map (fun o => (o.op, o.dst, o.guard, o.after.toList.take 2)) = some (.insert 185 (.tmp 1) (.tmp (j + 2)) (.const (.int .i64 v)), none, none, [{ on := 0, ground := .data }, { on := 2 * j + 1, ground := .data }]) := by
 have hj : j < 8 := (List.getElem?_eq_some_iff.1 h).1
 have : j = 0 ∨ j = 1 ∨ j = 2 ∨ j = 3 ∨ j = 4 ∨ j = 5 ∨ j = 6 ∨ j = 7 := by omega
 rcases this with rfl | rfl | rfl | rfl | rfl | rfl | rfl | rfl <;> (simp only [effTbl, List.getElem?_cons_zero, List.getElem?_cons_succ, Option.some.injEq, Prod.mk.injEq] at h; obtain ⟨rfl, rfl, rfl⟩ := h)
 all_goals (show _ = _; kernel_rfl)
theorem op17 : (opsE[17]?).map (fun o => (o.op, o.dst, o.guard, o.after.toList.take 1)) = some (.move (.tmp 1), some 10, none, [{ on := 0, ground := .data }]) := by kernel_rfl
theorem op18 : (opsE[18]?).map (fun o => (o.op, o.dst, o.guard, o.after.toList.take 1)) = some (.assign (.tmp 10), some 0, none, [{ on := 17, ground := .data }]) := by kernel_rfl
theorem builtE (k s : Int) : Tryz.prog.built 209 [(0, .int .i64 k), (1, .int .i64 s)] = some #[.int .i64 k, .int .i64 s] := by kernel_rfl
theorem wpOp_run {P : Program} {ops : Array Oper} {Q : Exit → Act → World → Prop} {i : Nat} {o : Oper} {a : Act} {w w' : World} {u : Value} {K : Act → World → Prop} (ho : ops[i]? = some o) (hg : o.guard = none) (hr : Runs P o a w u w') (hk : K (a.put o.dst u) w') : wpOp P ops Q i K a w := by
 unfold wpOp
 rw [ho]
 simp only
 have hw : Region.wanted o (yielded ops a.tmps) = true := by unfold Region.wanted; rw [hg]
 rw [if_pos hw]
 left
 unfold Oper.wp
 rcases hr with h | ⟨rfl, h⟩ <;> rw [h] <;> exact hk
theorem put_at {a : Act} {d : Nat} {v : Value} (hd : d < a.tmps.size) : (a.put (some d) v).tmps[d]? = some v := by
 simp [Act.put, hd]
theorem put_ne {a : Act} {d x : Nat} {v : Value} (h : d ≠ x) : (a.put (some d) v).tmps[x]? = a.tmps[x]? := by
 simp [Act.put, Array.getElem?_setIfInBounds, h]
theorem put_sz {a : Act} {d : Option Nat} {v : Value} : (a.put d v).tmps.size = a.tmps.size := by
 cases d <;> simp [Act.put]
theorem put_df {a : Act} {d : Option Nat} {v : Value} : (a.put d v).defers = a.defers := by
 cases d <;> simp [Act.put]
theorem set_same {l : Array Bool} {i : Nat} (h : i < l.size) : (l.setIfInBounds i true)[i]? = some true := by simp [h]
theorem set_ne {l : Array Bool} {i x : Nat} (h : i ≠ x) : (l.setIfInBounds i true)[x]? = l[x]? := by simp [Array.getElem?_setIfInBounds, h]
theorem eval_tmp {a : Act} {d : Nat} {v : Value} (h : a.tmps[d]? = some v) : a.eval (.tmp d) = v := by
 simp [Act.eval, h]
theorem lt8 {j : Nat} {x : Int × Int × Int} (h : effTbl[j]? = some x) : j < 8 := (List.getElem?_eq_some_iff.1 h).1
section
variable {w0 : World} {l : Array Bool} {a : Act} {w : World} {Q : Exit → Act → World → Prop}
theorem stepB (h : JE w0 l a w) {j : Nat} {k s v : Int} (hj : effTbl[j]? = some (k, s, v)) (hi : 2 * j + 1 ∈ Region.ready .any opsE l) : wpOp Tryz.prog opsE Q (2 * j + 1) (JE w0 (l.setIfInBounds (2 * j + 1) true)) a w := by
 obtain ⟨o, ho, h1, h2, h3, _⟩ := op_of (opB j k s v hj)
 have hj8 : j < 8 := (List.getElem?_eq_some_iff.1 hj).1
 refine wpOp_run (u := keyE k s) (w' := w) ho h3 (.inl ?_) ?_
 ·have hrun := run_build (P := Tryz.prog) w 209 [(0, .int .i64 k), (1, .int .i64 s)].toArray _ (builtE k s)
  simp only [execOp, h1]
  rw [Sem.run_bind]
  have hmap : Array.map (fun x => (x.fst, a.eval x.snd)) #[(0, Operand.const (Value.int .i64 k)), (1, Operand.const (Value.int .i64 s))] = #[(0, Value.int .i64 k), (1, Value.int .i64 s)] := by simp [Act.eval]
  have hrun' : Sem.run Tryz.prog (Instr.build 209 #[(0, Value.int .i64 k), (1, Value.int .i64 s)]) w = .ok (keyE k s) w := hrun
  rw [hmap, hrun', Result.andThen_ok, Sem.run_pure]
 ·rw [h2]
  have hs := h.sz
  have ht := h.ts
  refine ⟨by simpa using hs, by rw [put_sz]; exact ht, by rw [put_df]; exact h.df, h.below, fun h0 => ?_, fun j' k' s' v' hj' hl => ?_, fun j' hj' hl => ?_, fun h17 => ?_, fun h18 => ?_⟩
  ·rw [set_ne (by omega)] at h0
   obtain ⟨r, es, c, q1, q2, q3, q4, q5⟩ := h.m h0
   refine ⟨r, es, c, by rw [put_ne (by omega)]; exact q1, q2, q3, fun j' k' s' v' hj' hl => ?_, fun e he => ?_⟩
   ·rw [set_ne (by omega)] at hl; exact q4 j' k' s' v' hj' hl
   ·obtain ⟨j', k', s', v', e1, e2, e3⟩ := q5 e he
    exact ⟨j', k', s', v', e1, by rw [set_ne (by omega)]; exact e2, e3⟩
  ·by_cases e : j' = j
   ·subst e
    rw [hj] at hj'; cases hj'
    exact put_at (by omega)
   ·rw [set_ne (by omega)] at hl
    rw [put_ne (by omega)]
    exact h.b j' k' s' v' hj' hl
  ·rw [set_ne (by omega)] at hl ⊢; exact h.n j' hj' hl
  ·rw [set_ne (by omega)] at h17
   rw [set_ne (by omega), put_ne (by omega), put_ne (by omega)]; exact h.o17 h17
  ·rw [set_ne (by omega)] at h18
   rw [set_ne (by omega), put_ne (by omega), put_ne (by omega)]; exact h.o18 h18
theorem step0 (h : JE w0 l a w) (hi : 0 ∈ Region.ready .any opsE l) : wpOp Tryz.prog opsE Q 0 (JE w0 (l.setIfInBounds 0 true)) a w := by
 obtain ⟨o, ho, h1, h2, h3, _⟩ := op_of op0
 obtain ⟨_, hl0, _⟩ := depsE l 0 hi
 refine wpOp_run (u := .map (some w.heap.size)) (w' := w.alloc (.map #[] 0)) ho h3 (.inl ?_) ?_
 ·simp [execOp, h1, Instr.makeMap]
 ·rw [h2]
  have hs := h.sz
  have ht := h.ts
  have no : ∀ j, j < 8 → l[2 * j + 2]? ≠ some true := fun j hj hl => by
   have := h.n j hj hl
   rw [hl0] at this; cases this
  refine ⟨by simpa using hs, by rw [put_sz]; exact ht, by rw [put_df]; exact h.df, h.below.alloc h.below.size _, fun h0 => ?_, fun j' k' s' v' hj' hl => ?_, fun j' hj' hl => ?_, fun h17 => ?_, fun h18 => ?_⟩
  ·refine ⟨w.heap.size, #[], 0, put_at (by omega), h.below.size, World.alloc_heap_new _ _, fun j' k' s' v' hj' hl => ?_, fun e he => by simp at he⟩
   rw [set_ne (by omega)] at hl
   exact absurd hl (no j' (List.getElem?_eq_some_iff.1 hj').1)
  ·rw [set_ne (by omega)] at hl
   rw [put_ne (by omega)]
   exact h.b j' k' s' v' hj' hl
  ·rw [set_ne (by omega)] at hl
   exact absurd hl (no j' hj')
  ·rw [set_ne (by omega)] at h17
   have := (h.o17 h17).1
   rw [hl0] at this; cases this
  ·rw [set_ne (by omega)] at h18
   have := (h.o17 (h.o18 h18).1).1
   rw [hl0] at this; cases this
theorem step17 (h : JE w0 l a w) (hi : 17 ∈ Region.ready .any opsE l) : wpOp Tryz.prog opsE Q 17 (JE w0 (l.setIfInBounds 17 true)) a w := by
 obtain ⟨o, ho, h1, h2, h3, h4⟩ := op_of op17
 obtain ⟨_, hl0, hd⟩ := depsE l 17 hi
 have h0 : l[0]? = some true := hd o ho _ (h4 _ (List.mem_cons_self ..)) rfl
 obtain ⟨r, es, c, q1, q2, q3, q4, q5⟩ := h.m h0
 refine wpOp_run (u := .map (some r)) (w' := w) ho h3 (.inl ?_) ?_
 ·simp [execOp, h1, eval_tmp q1]
 ·rw [h2]
  have hs := h.sz
  have ht := h.ts
  refine ⟨by simpa using hs, by rw [put_sz]; exact ht, by rw [put_df]; exact h.df, h.below, fun _ => ?_, fun j' k' s' v' hj' hl => ?_, fun j' hj' hl => ?_, fun h17 => ?_, fun h18 => ?_⟩
  ·refine ⟨r, es, c, by rw [put_ne (by omega)]; exact q1, q2, q3, fun j' k' s' v' hj' hl => ?_, fun e he => ?_⟩
   ·have := lt8 hj'
    rw [set_ne (by omega)] at hl; exact q4 j' k' s' v' hj' hl
   ·obtain ⟨j', k', s', v', e1, e2, e3⟩ := q5 e he
    exact ⟨j', k', s', v', e1, by rw [set_ne (by omega)]; exact e2, e3⟩
  ·have hj8 : j' < 8 := (List.getElem?_eq_some_iff.1 hj').1
   rw [set_ne (by omega)] at hl
   rw [put_ne (by omega)]
   exact h.b j' k' s' v' hj' hl
  ·rw [set_ne (by omega)] at hl ⊢; exact h.n j' hj' hl
  ·exact ⟨by rw [set_ne (by omega)]; exact h0, by rw [put_at (by omega), put_ne (by omega)]; exact q1.symm⟩
  ·rw [set_ne (by omega)] at h18
   have := (h.o18 h18).1
   rw [hl0] at this; cases this
theorem step18 (h : JE w0 l a w) (hi : 18 ∈ Region.ready .any opsE l) : wpOp Tryz.prog opsE Q 18 (JE w0 (l.setIfInBounds 18 true)) a w := by
 obtain ⟨o, ho, h1, h2, h3, h4⟩ := op_of op18
 obtain ⟨_, hl0, hd⟩ := depsE l 18 hi
 have h17 : l[17]? = some true := hd o ho _ (h4 _ (List.mem_cons_self ..)) rfl
 obtain ⟨h0, h10⟩ := h.o17 h17
 obtain ⟨r, es, c, q1, q2, q3, q4, q5⟩ := h.m h0
 refine wpOp_run (u := .map (some r)) (w' := w) ho h3 (.inl ?_) ?_
 ·simp [execOp, h1, eval_tmp (h10.trans q1)]
 ·rw [h2]
  have hs := h.sz
  have ht := h.ts
  refine ⟨by simpa using hs, by rw [put_sz]; exact ht, by rw [put_df]; exact h.df, h.below, fun _ => ?_, fun j' k' s' v' hj' hl => ?_, fun j' hj' hl => ?_, fun h17 => ?_, fun h18 => ?_⟩
  ·refine ⟨r, es, c, by rw [put_ne (by omega)]; exact q1, q2, q3, fun j' k' s' v' hj' hl => ?_, fun e he => ?_⟩
   ·have := lt8 hj'
    rw [set_ne (by omega)] at hl; exact q4 j' k' s' v' hj' hl
   ·obtain ⟨j', k', s', v', e1, e2, e3⟩ := q5 e he
    have := lt8 e1
    exact ⟨j', k', s', v', e1, by rw [set_ne (by omega)]; exact e2, e3⟩
  ·have hj8 : j' < 8 := (List.getElem?_eq_some_iff.1 hj').1
   rw [set_ne (by omega)] at hl
   rw [put_ne (by omega)]
   exact h.b j' k' s' v' hj' hl
  ·rw [set_ne (by omega)] at hl ⊢; exact h.n j' hj' hl
  ·exact ⟨by rw [set_ne (by omega)]; exact h0, by rw [put_ne (by omega), put_ne (by omega)]; exact h10⟩
  ·exact ⟨by rw [set_ne (by omega)]; exact h17, by rw [put_at (by omega), put_ne (by omega), h10]; exact q1.symm⟩
theorem tbl_key {j j' : Nat} {k s v v' : Int} (h : effTbl[j]? = some (k, s, v)) (h' : effTbl[j']? = some (k, s, v')) : j = j' := by
 have e : ∀ i : Nat, i < 8 → ∀ i' : Nat, i' < 8 → (effTbl[i]?).map (fun x => (x.1, x.2.1)) = (effTbl[i']?).map (fun x => (x.1, x.2.1)) → i = i' := by decide
 exact e j (List.getElem?_eq_some_iff.1 h).1 j' (List.getElem?_eq_some_iff.1 h').1 (by rw [h, h']; rfl)
theorem keyE_inj {k s k' s' : Int} (h : keyE k s = keyE k' s') : k = k' ∧ s = s' := by
 unfold keyE at h
 simpa using h
theorem stepI (h : JE w0 l a w) {j : Nat} {k s v : Int} (hj : effTbl[j]? = some (k, s, v)) (hi : 2 * j + 2 ∈ Region.ready .any opsE l) : wpOp Tryz.prog opsE Q (2 * j + 2) (JE w0 (l.setIfInBounds (2 * j + 2) true)) a w := by
 obtain ⟨o, ho, h1, h2, h3, h4⟩ := op_of (opI j k s v hj)
 have hj8 : j < 8 := (List.getElem?_eq_some_iff.1 hj).1
 obtain ⟨_, hl0, hd⟩ := depsE l _ hi
 have h0 : l[0]? = some true := hd o ho _ (h4 _ (List.mem_cons_self ..)) rfl
 have hb : l[2 * j + 1]? = some true := hd o ho _ (h4 _ (List.mem_cons_of_mem _ (List.mem_cons_self ..))) rfl
 obtain ⟨r, es, c, q1, q2, q3, q4, q5⟩ := h.m h0
 have hk := h.b j k s v hj hb
 have hkes : ∀ e ∈ es.toList, KeyV Tryz.prog 209 e.key := fun e he => by
  obtain ⟨j', k', s', v', _, _, e3, _⟩ := q5 e he
  rw [e3]; exact keyv _ _
 obtain ⟨fr, f1, f2⟩ := find_run (w := w) (keyv k s) es.toList hkes
 have hno : ∀ e ∈ es.toList, e.key ≠ keyE k s := fun e he hh => by
  obtain ⟨j', k', s', v', e1, e2, e3, _⟩ := q5 e he
  rw [e3] at hh
  obtain ⟨rfl, rfl⟩ := keyE_inj hh
  have := tbl_key hj e1
  subst this
  rw [hl0] at e2; cases e2
 have hfr : fr = none := by
  rcases f2 with ⟨f2, _⟩ | ⟨i, e, he, f3, _⟩
  ·exact f2
  ·exact absurd f3 (hno e he)
 subst hfr
 obtain ⟨W, hW⟩ : ∃ W, W = { w with heap := w.heap.setIfInBounds r (.map (es.push { key := keyE k s, val := .int .i64 v, born := c }) (c + 1)) } := ⟨_, rfl⟩
 have hlt := heap_lt q3
 have hrun : (Instr.mapUpdate 185 (.map (some r)) (keyE k s) (.int .i64 v)).run Tryz.prog w = .ok () W := by
  rw [hW]
  simp only [Instr.mapUpdate, run_underlying tyE, Sem.run_bind, Result.andThen_ok, run_getObj_map w r es c q3, key_check (keyv k s), f1, run_setObj_map _ q3]
 have hR : Runs Tryz.prog o a w undef W := .inr ⟨rfl, by
  simp only [execOp, h1, eval_tmp q1, eval_tmp hk]
  show Sem.run Tryz.prog (Instr.mapUpdate 185 (.map (some r)) (keyE k s) (.int .i64 v) >>= fun _ => pure Next.skip) w = _
  rw [Sem.run_bind, hrun, Result.andThen_ok, Sem.run_pure]⟩
 refine wpOp_run ho h3 hR ?_
 rw [h2]
 have hs := h.sz
 have ht := h.ts
 have hBW : Below w0.heap.size w0 W := by
  have hB := h.below
  rw [hW]
  exact ⟨hB.os, hB.tape, hB.output, by simpa using hB.size, fun k hk => by
   have : r ≠ k := by omega
   simp [this]
   exact hB.block k hk⟩
 refine ⟨by simpa using hs, ht, h.df, hBW, fun _ => ?_, fun j' k' s' v' hj' hl => ?_, fun j' hj' hl => ?_, fun h17 => ?_, fun h18 => ?_⟩
 ·refine ⟨r, es.push { key := keyE k s, val := .int .i64 v, born := c }, c + 1, q1, q2, by rw [hW]; simp [hlt], fun j' k' s' v' hj' hl => ?_, fun e he => ?_⟩
  ·by_cases e : j' = j
   ·subst e
    rw [hj] at hj'; cases hj'
    exact ⟨{ key := keyE k s, val := .int .i64 v, born := c }, by simp, rfl, rfl⟩
   ·rw [set_ne (by omega)] at hl
    obtain ⟨e, he, e1⟩ := q4 j' k' s' v' hj' hl
    exact ⟨e, by simp at he ⊢; exact .inl he, e1⟩
  ·simp only [Array.toList_push, List.mem_append, List.mem_singleton] at he
   rcases he with he | rfl
   ·obtain ⟨j', k', s', v', e1, e2, e3⟩ := q5 e he
    by_cases e : j' = j
    ·subst e
     rw [hl0] at e2; cases e2
    ·exact ⟨j', k', s', v', e1, by rw [set_ne (by omega)]; exact e2, e3⟩
   ·exact ⟨j, k, s, v, hj, set_same (by omega), rfl, rfl⟩
 ·rw [set_ne (by omega)] at hl; exact h.b j' k' s' v' hj' hl
 ·rw [set_ne (by omega)]; exact h0
 ·rw [set_ne (by omega)] at h17 ⊢; exact h.o17 h17
 ·by_cases e : 2 * j + 2 = 18
  ·omega
  ·rw [set_ne (by omega)] at h18 ⊢; exact h.o18 h18
end
theorem backE : (opsE.toList.zipIdx.all fun x => x.1.after.toList.all fun e => decide (e.on < x.2)) = true := by kernel_rfl
theorem allE {l : Array Bool} (hs : l.size = 19) (h : Region.ready .any opsE l = []) : ∀ i, i < 19 → l[i]? = some true := by
 intro i
 induction i using Nat.strongRecOn with
 | _ i ih =>
  intro hi
  cases hc : l[i]? with
  | none => rw [Array.getElem?_eq_none_iff] at hc; omega
  | some b =>
   cases b with
   | true => rfl
   | false =>
    exfalso
    have hsz := sizeE
    have hm : i ∈ Region.ready .any opsE l := by
     unfold Region.ready
     rw [List.mem_filter, Bool.and_eq_true, List.mem_range]
     refine ⟨by omega, by simp [hc], ?_⟩
     have ho : opsE[i]? = some opsE[i] := Array.getElem?_eq_getElem (by omega)
     rw [ho]
     simp only [Option.map_some, Option.getD_some, Array.all_eq_true_iff_forall_mem]
     intro e he
     have hb := List.all_eq_true.1 backE (opsE[i], i) (by
      rw [List.mem_iff_getElem?]
      exact ⟨i, by rw [List.getElem?_zipIdx, Array.getElem?_toList, ho]; simp⟩)
     have hlt := List.all_eq_true.1 hb e (by simpa using he)
     have hlt : e.on < i := by simpa using hlt
     have := ih e.on hlt (by omega)
     rw [Bool.or_eq_true]
     right
     simp [this]
    rw [h] at hm
    cases hm
theorem listE : ((SV.of [.agg (SV.of [.vi (.int 1), .vi (.int 1)]), .agg (SV.of [.vi (.int 2), .vi (.int 1)]), .agg (SV.of [.vi (.int 3), .vi (.int 2)]), .agg (SV.of [.vi (.int 4), .vi (.int 2)]), .agg (SV.of [.vi (.int 5), .vi (.int 1)]), .agg (SV.of [.vi (.int 5), .vi (.int 2)]), .agg (SV.of [.vi (.int 5), .vi (.int 3)]), .agg (SV.of [.vi (.int 6), .vi (.int 4)])]).list = effTbl.map fun x => .agg (SV.of [.vi (.int x.1), .vi (.int x.2.1)])) ∧
 (SV.of [.vi (.int 3), .vi (.int 2), .vi (.int 3), .vi (.int 6), .vi (.int 7), .vi (.int 7), .vi (.int 7), .vi (.int 8)]).list = effTbl.map fun x => .vi (.int x.2.2) := ⟨rfl, rfl⟩
theorem keyden (w : World) (k s : Int) : SVden [] (fun _ => undef) (fun _ => False) w (.agg (SV.of [.vi (.int k), .vi (.int s)])) (keyE k s) :=
 ⟨#[.int .i64 k, .int .i64 s], rfl, rfl, ⟨_, [.int .i64 s], rfl, ⟨rfl, rfl⟩, ⟨_, [], rfl, ⟨rfl, rfl⟩, rfl⟩⟩⟩
theorem mtE_ok : mtE.ok Tryz.prog := by
 intro x hx
 unfold mtE at hx
 rw [List.mem_singleton] at hx
 subst hx
 intro w
 refine calls_of_wp Tryz.func117 bodyE ?_
 refine wp_seq (wp_region ?_)
 show wpOps _ _ _ [0] _ _
 rw [wpOps_cons]
 refine wpOp_run (o := { dst := some 0, op := .assign (.const (.map none)), type := 185, pos := "claim.go:76", after := #[], guard := none }) (u := .map none) (w' := w) rfl rfl (.inl (by simp [execOp, Act.eval])) ?_
 show Code.wp _ _ _ _ _
 refine wp_seq (wp_region_any try_mix ?_)
 refine wpAny_inv (JE w) (fun l a w h => by rw [h.sz, sizeE]) (fun l a w' i h hi => ?_) (fun l a w' h hr => ?_) _ _ _ _ ?_ ?_
 ·have hlt := (depsE l i hi).1
  rcases Nat.lt_or_ge i 17 with h17 | h17
  ·rcases Nat.eq_zero_or_pos i with rfl | hp
   ·exact step0 h hi
   ·obtain ⟨j, hj⟩ : ∃ j, i = 2 * j + 1 ∨ i = 2 * j + 2 := ⟨(i - 1) / 2, by omega⟩
    have hj8 : j < effTbl.length := by show j < 8; omega
    obtain ⟨⟨k, s, v⟩, hx⟩ : ∃ x, effTbl[j]? = some x := ⟨_, List.getElem?_eq_getElem hj8⟩
    rcases hj with rfl | rfl
    ·exact stepB h hx hi
    ·exact stepI h hx hi
  ·have : i = 17 ∨ i = 18 := by omega
   rcases this with rfl | rfl
   ·exact step17 h hi
   ·exact step18 h hi
 ·have hall := allE h.sz hr
  obtain ⟨r, es, c, q1, q2, q3, q4, q5⟩ := h.m (hall 0 (by omega))
  have h10 := (h.o17 (hall 17 (by omega))).2
  have h0 := (h.o18 (hall 18 (by omega))).2
  have hv : a.tmps[0]? = some (.map (some r)) := by rw [h0, h10, q1]
  refine wp_ret ⟨h.df, .map (some r), ?_, r, es, c, rfl, q2, q3, rfl, rfl, rfl, ⟨fun i k v hk hv => ?_, fun e he => ?_, fun e he e' he' hee => ?_⟩, h.below⟩
  ·simp [results, Tryz.f117, hv]
  ·rw [listE.1, List.getElem?_map] at hk
   rw [listE.2, List.getElem?_map] at hv
   obtain ⟨⟨k1, s1, v1⟩, e1, rfl⟩ := Option.map_eq_some_iff.1 hk
   rw [e1] at hv
   cases hv
   obtain ⟨e, he, e2, e3⟩ := q4 i k1 s1 v1 e1 (hall _ (by have := lt8 e1; omega))
   exact ⟨e, he, by rw [e2]; exact keyden _ _ _, by rw [e3]; exact ⟨rfl, rfl⟩⟩
  ·obtain ⟨j, k, s, v, e1, _, e2, e3⟩ := q5 e he
   exact ⟨j, _, _, by rw [listE.1, List.getElem?_map, e1]; rfl, by rw [listE.2, List.getElem?_map, e1]; rfl, by rw [e2]; exact keyden _ _ _, by rw [e3]; exact ⟨rfl, rfl⟩⟩
  ·obtain ⟨j, k, s, v, e1, _, e2, e3⟩ := q5 e he
   obtain ⟨j', k', s', v', e1', _, e2', e3'⟩ := q5 e' he'
   rw [e2, e2'] at hee
   obtain ⟨rfl, rfl⟩ := keyE_inj hee
   have := tbl_key e1 e1'
   subst this
   rw [e1] at e1'
   cases e1'
   rw [e3, e3']
 ·refine ⟨by rw [Array.size_replicate, sizeE], by rw [put_sz]; rfl, by rw [put_df], ⟨rfl, rfl, rfl, Nat.le_refl _, fun _ _ => rfl⟩, fun h => ?_, fun j k s v _ h => ?_, fun j _ h => ?_, fun h => ?_, fun h => ?_⟩ <;> (rw [Array.getElem?_replicate] at h; split at h <;> cases h)
 ·rw [sizeE]; exact Nat.le_of_eq rfl
end Go.Proofs.YtjllgiddmeiaoaaGreat
set_option maxRecDepth 100000
namespace Go.Proofs.YtjllgiddmeiaoaaGreat
open Go Go.Sx
noncomputable section
def consD3 : List Nat := [5, 6, 7, 8, 9, 10, 11, 12, 13, 14, 15, 16, 17, 18, 19, 20, 21, 22, 23, 24, 28, 29, 30, 31, 32, 33, 34, 35, 36, 37, 39, 41, 42, 43, 45, 47, 48, 49, 50, 51, 64, 66, 67, 69, 70, 73, 75, 76, 77, 79, 80, 81, 86, 88, 100, 101, 102, 103, 108, 111, 113, 114, 115, 132, 133, 142, 1000007, 1000008, 1000036, 1000037]
def mapsD3 : List (Nat × SV × SV) := [(117, SV.of [.agg (SV.of [.vi (.int 1), .vi (.int 1)]), .agg (SV.of [.vi (.int 2), .vi (.int 1)]), .agg (SV.of [.vi (.int 3), .vi (.int 2)]), .agg (SV.of [.vi (.int 4), .vi (.int 2)]), .agg (SV.of [.vi (.int 5), .vi (.int 1)]), .agg (SV.of [.vi (.int 5), .vi (.int 2)]), .agg (SV.of [.vi (.int 5), .vi (.int 3)]), .agg (SV.of [.vi (.int 6), .vi (.int 4)])], SV.of [.vi (.int 3), .vi (.int 2), .vi (.int 3), .vi (.int 6), .vi (.int 7), .vi (.int 7), .vi (.int 7), .vi (.int 8)])]
abbrev claim_Outcome_a := Int × Int × Int × Int
abbrev claim_Outcome_s0 := Int × Lv × Int × Int × Int × Int × Int × Int
abbrev claim_Outcome_s1 := Int × Int × Int × Int × Int × Int
def claim_Outcome_14 (n : Nat) (go0 : claim_Outcome_s0 → Option claim_Outcome_a) (go1 : claim_Outcome_s1 → Option claim_Outcome_a) (v9 : Bool) (v10 : Lv) (v11 v13 : Int) (v14 : Lv) (v21 v22 v23 v24 v25 v26 : Int) : Option claim_Outcome_a :=
 (bif ((decide ((cI v10 v13 0) = 5)) && (decide (v24 = 2))) then (bif (decide ((cI v10 v13 2) = 1)) then (bif (v9 == true) then bif (decide ((((v14.length : Int) + 1) * 8) ≤ 140737488355328)) then bif ((decide ((-9223372036854775808) ≤ (v13 + 1))) && (decide ((v13 + 1) ≤ 9223372036854775807))) then go0 ((v13 + 1), (v14 ++ [[(AV.int v13)]]), v21, v22, v23, v24, v25, v26) else none else none
 else (bif (decide (v11 < (cI v10 v13 1))) then some (v21, v22, v23, 0)
 else bif ((decide ((-9223372036854775808) ≤ (v13 + 1))) && (decide ((v13 + 1) ≤ 9223372036854775807))) then go0 ((v13 + 1), v14, 7, (cI v10 v13 1), (-1), 7, (cI v10 v13 1), (-1)) else none))
 else (bif (decide (v11 < (cI v10 v13 1))) then some (v21, v22, v23, 0)
 else bif ((decide ((-9223372036854775808) ≤ (v13 + 1))) && (decide ((v13 + 1) ≤ 9223372036854775807))) then go0 ((v13 + 1), v14, 7, (cI v10 v13 1), (-1), 7, (cI v10 v13 1), (-1)) else none))
 else (bif ((decide ((cI v10 v13 0) = 5)) && (decide (v24 = 3))) then (bif (decide ((cI v10 v13 2) = 1)) then (bif (v9 == true) then bif (decide ((((v14.length : Int) + 1) * 8) ≤ 140737488355328)) then bif ((decide ((-9223372036854775808) ≤ (v13 + 1))) && (decide ((v13 + 1) ≤ 9223372036854775807))) then go0 ((v13 + 1), (v14 ++ [[(AV.int v13)]]), v21, v22, v23, v24, v25, v26) else none else none
 else (bif (decide (v11 < (cI v10 v13 1))) then some (v21, v22, v23, 0)
 else bif ((decide ((-9223372036854775808) ≤ (v13 + 1))) && (decide ((v13 + 1) ≤ 9223372036854775807))) then go0 ((v13 + 1), v14, 7, (cI v10 v13 1), (-1), 7, (cI v10 v13 1), (-1)) else none))
 else (bif (decide (v11 < (cI v10 v13 1))) then some (v21, v22, v23, 0)
 else bif ((decide ((-9223372036854775808) ≤ (v13 + 1))) && (decide ((v13 + 1) ≤ 9223372036854775807))) then go0 ((v13 + 1), v14, 7, (cI v10 v13 1), (-1), 7, (cI v10 v13 1), (-1)) else none))
 else (bif ((decide ((cI v10 v13 0) = 6)) && (decide (v24 = 4))) then (bif (decide ((cI v10 v13 2) = 1)) then (bif (v9 == true) then bif (decide ((((v14.length : Int) + 1) * 8) ≤ 140737488355328)) then bif ((decide ((-9223372036854775808) ≤ (v13 + 1))) && (decide ((v13 + 1) ≤ 9223372036854775807))) then go0 ((v13 + 1), (v14 ++ [[(AV.int v13)]]), v21, v22, v23, v24, v25, v26) else none else none
 else (bif (decide (v11 < (cI v10 v13 1))) then some (v21, v22, v23, 0)
 else bif ((decide ((-9223372036854775808) ≤ (v13 + 1))) && (decide ((v13 + 1) ≤ 9223372036854775807))) then go0 ((v13 + 1), v14, 8, (cI v10 v13 1), (-1), 8, (cI v10 v13 1), (-1)) else none))
 else (bif (decide (v11 < (cI v10 v13 1))) then some (v21, v22, v23, 0)
 else bif ((decide ((-9223372036854775808) ≤ (v13 + 1))) && (decide ((v13 + 1) ≤ 9223372036854775807))) then go0 ((v13 + 1), v14, 8, (cI v10 v13 1), (-1), 8, (cI v10 v13 1), (-1)) else none))
 else (bif (decide ((cI v10 v13 2) = 1)) then (bif (decide ((cI v10 v13 0) = 2)) then bif (decide ((((v14.length : Int) + 1) * 8) ≤ 140737488355328)) then bif ((decide ((-9223372036854775808) ≤ (v13 + 1))) && (decide ((v13 + 1) ≤ 9223372036854775807))) then go0 ((v13 + 1), (v14 ++ [[(AV.int v13)]]), v21, v22, v23, v24, v25, v26) else none else none
 else bif (decide ((((v14.length : Int) + 1) * 8) ≤ 140737488355328)) then bif ((decide ((-9223372036854775808) ≤ (v13 + 1))) && (decide ((v13 + 1) ≤ 9223372036854775807))) then go0 ((v13 + 1), (v14 ++ [[(AV.int v13)]]), v21, v22, v23, v24, v25, v26) else none else none)
 else bif (decide ((((v14.length : Int) + 1) * 8) ≤ 140737488355328)) then bif ((decide ((-9223372036854775808) ≤ (v13 + 1))) && (decide ((v13 + 1) ≤ 9223372036854775807))) then go0 ((v13 + 1), (v14 ++ [[(AV.int v13)]]), v21, v22, v23, v24, v25, v26) else none else none))))
def claim_Outcome_13 (n : Nat) (go0 : claim_Outcome_s0 → Option claim_Outcome_a) (go1 : claim_Outcome_s1 → Option claim_Outcome_a) (v9 : Bool) (v10 : Lv) (v11 v13 : Int) (v14 : Lv) (v21 v22 v23 v24 v25 v26 : Int) : Option claim_Outcome_a :=
 (bif ((decide ((cI v10 v13 0) = 5)) && (decide (v24 = 1))) then (bif (decide ((cI v10 v13 2) = 1)) then (bif (v9 == true) then bif (decide ((((v14.length : Int) + 1) * 8) ≤ 140737488355328)) then bif ((decide ((-9223372036854775808) ≤ (v13 + 1))) && (decide ((v13 + 1) ≤ 9223372036854775807))) then go0 ((v13 + 1), (v14 ++ [[(AV.int v13)]]), v21, v22, v23, v24, v25, v26) else none else none
 else (bif (decide (v11 < (cI v10 v13 1))) then some (v21, v22, v23, 0)
 else bif ((decide ((-9223372036854775808) ≤ (v13 + 1))) && (decide ((v13 + 1) ≤ 9223372036854775807))) then go0 ((v13 + 1), v14, 7, (cI v10 v13 1), (-1), 7, (cI v10 v13 1), (-1)) else none))
 else (bif (decide (v11 < (cI v10 v13 1))) then some (v21, v22, v23, 0)
 else bif ((decide ((-9223372036854775808) ≤ (v13 + 1))) && (decide ((v13 + 1) ≤ 9223372036854775807))) then go0 ((v13 + 1), v14, 7, (cI v10 v13 1), (-1), 7, (cI v10 v13 1), (-1)) else none))
 else claim_Outcome_14 n go0 go1 v9 v10 v11 v13 v14 v21 v22 v23 v24 v25 v26)
def claim_Outcome_12 (n : Nat) (go0 : claim_Outcome_s0 → Option claim_Outcome_a) (go1 : claim_Outcome_s1 → Option claim_Outcome_a) (v9 : Bool) (v10 : Lv) (v11 v13 : Int) (v14 : Lv) (v21 v22 v23 v24 v25 v26 : Int) : Option claim_Outcome_a :=
 (bif ((decide ((cI v10 v13 0) = 4)) && (decide (v24 = 2))) then (bif (decide ((cI v10 v13 2) = 1)) then (bif (v9 == true) then bif (decide ((((v14.length : Int) + 1) * 8) ≤ 140737488355328)) then bif ((decide ((-9223372036854775808) ≤ (v13 + 1))) && (decide ((v13 + 1) ≤ 9223372036854775807))) then go0 ((v13 + 1), (v14 ++ [[(AV.int v13)]]), v21, v22, v23, v24, v25, v26) else none else none
 else (bif (decide (v11 < (cI v10 v13 1))) then some (v21, v22, v23, 0)
 else bif ((decide ((-9223372036854775808) ≤ (v13 + 1))) && (decide ((v13 + 1) ≤ 9223372036854775807))) then go0 ((v13 + 1), v14, 6, (cI v10 v13 1), (-1), 6, (cI v10 v13 1), (-1)) else none))
 else (bif (decide (v11 < (cI v10 v13 1))) then some (v21, v22, v23, 0)
 else bif ((decide ((-9223372036854775808) ≤ (v13 + 1))) && (decide ((v13 + 1) ≤ 9223372036854775807))) then go0 ((v13 + 1), v14, 6, (cI v10 v13 1), (-1), 6, (cI v10 v13 1), (-1)) else none))
 else claim_Outcome_13 n go0 go1 v9 v10 v11 v13 v14 v21 v22 v23 v24 v25 v26)
def claim_Outcome_11 (n : Nat) (go0 : claim_Outcome_s0 → Option claim_Outcome_a) (go1 : claim_Outcome_s1 → Option claim_Outcome_a) (v1 : Int) (v9 : Bool) (v10 : Lv) (v11 v13 : Int) (v14 : Lv) (v21 v22 v23 v24 v25 v26 : Int) : Option claim_Outcome_a :=
 (bif ((decide ((cI v10 v13 0) = 3)) && (decide (v24 = 2))) then (bif (decide ((cI v10 v13 2) = 1)) then (bif (v9 == true) then bif (decide ((((v14.length : Int) + 1) * 8) ≤ 140737488355328)) then bif ((decide ((-9223372036854775808) ≤ (v13 + 1))) && (decide ((v13 + 1) ≤ 9223372036854775807))) then go0 ((v13 + 1), (v14 ++ [[(AV.int v13)]]), v21, v22, v23, v24, v25, v26) else none else none
 else bif ((decide ((-9223372036854775808) ≤ ((cI v10 v13 1) + v1))) && (decide (((cI v10 v13 1) + v1) ≤ 9223372036854775807))) then (bif (decide (v11 < (cI v10 v13 1))) then some (v21, v22, v23, 0)
 else bif ((decide ((-9223372036854775808) ≤ (v13 + 1))) && (decide ((v13 + 1) ≤ 9223372036854775807))) then go0 ((v13 + 1), v14, 3, (cI v10 v13 1), ((cI v10 v13 1) + v1), 3, (cI v10 v13 1), ((cI v10 v13 1) + v1)) else none) else none)
 else bif ((decide ((-9223372036854775808) ≤ ((cI v10 v13 1) + v1))) && (decide (((cI v10 v13 1) + v1) ≤ 9223372036854775807))) then (bif (decide (v11 < (cI v10 v13 1))) then some (v21, v22, v23, 0)
 else bif ((decide ((-9223372036854775808) ≤ (v13 + 1))) && (decide ((v13 + 1) ≤ 9223372036854775807))) then go0 ((v13 + 1), v14, 3, (cI v10 v13 1), ((cI v10 v13 1) + v1), 3, (cI v10 v13 1), ((cI v10 v13 1) + v1)) else none) else none)
 else claim_Outcome_12 n go0 go1 v9 v10 v11 v13 v14 v21 v22 v23 v24 v25 v26)
def claim_Outcome_10 (n : Nat) (go0 : claim_Outcome_s0 → Option claim_Outcome_a) (go1 : claim_Outcome_s1 → Option claim_Outcome_a) (v1 v2 : Int) (v9 : Bool) (v10 : Lv) (v11 v13 : Int) (v14 : Lv) (v21 v22 v23 v24 v25 v26 : Int) : Option claim_Outcome_a :=
 (bif ((decide ((cI v10 v13 0) = 2)) && (decide (v24 = 1))) then (bif (decide ((cI v10 v13 2) = 1)) then (bif (v9 == true) then bif (decide ((((v14.length : Int) + 1) * 8) ≤ 140737488355328)) then bif ((decide ((-9223372036854775808) ≤ (v13 + 1))) && (decide ((v13 + 1) ≤ 9223372036854775807))) then go0 ((v13 + 1), (v14 ++ [[(AV.int v13)]]), v21, v22, v23, v24, v25, v26) else none else none
 else (bif (decide (v11 < (cI v10 v13 1))) then some (v21, v22, v23, 0)
 else bif ((decide ((-9223372036854775808) ≤ (v13 + 1))) && (decide ((v13 + 1) ≤ 9223372036854775807))) then go0 ((v13 + 1), v14, 6, (cI v10 v13 1), (-1), 6, (cI v10 v13 1), (-1)) else none))
 else bif ((decide ((-9223372036854775808) ≤ ((cI v10 v13 1) + v2))) && (decide (((cI v10 v13 1) + v2) ≤ 9223372036854775807))) then (bif (decide (v11 < (cI v10 v13 1))) then some (v21, v22, v23, 0)
 else bif ((decide ((-9223372036854775808) ≤ (v13 + 1))) && (decide ((v13 + 1) ≤ 9223372036854775807))) then go0 ((v13 + 1), v14, 2, (cI v10 v13 1), ((cI v10 v13 1) + v2), 2, (cI v10 v13 1), ((cI v10 v13 1) + v2)) else none) else none)
 else claim_Outcome_11 n go0 go1 v1 v9 v10 v11 v13 v14 v21 v22 v23 v24 v25 v26)
def claim_Outcome_9 (n : Nat) (go0 : claim_Outcome_s0 → Option claim_Outcome_a) (go1 : claim_Outcome_s1 → Option claim_Outcome_a) (v1 v2 : Int) (v9 : Bool) (v10 : Lv) (v11 v13 : Int) (v14 : Lv) (v21 v22 v23 v24 v25 v26 : Int) : Option claim_Outcome_a :=
 (bif ((decide ((cI v10 v13 0) = 1)) && (decide (v24 = 1))) then (bif (decide ((cI v10 v13 2) = 1)) then (bif (v9 == true) then bif (decide ((((v14.length : Int) + 1) * 8) ≤ 140737488355328)) then bif ((decide ((-9223372036854775808) ≤ (v13 + 1))) && (decide ((v13 + 1) ≤ 9223372036854775807))) then go0 ((v13 + 1), (v14 ++ [[(AV.int v13)]]), v21, v22, v23, v24, v25, v26) else none else none
 else bif ((decide ((-9223372036854775808) ≤ ((cI v10 v13 1) + v1))) && (decide (((cI v10 v13 1) + v1) ≤ 9223372036854775807))) then (bif (decide (v11 < (cI v10 v13 1))) then some (v21, v22, v23, 0)
 else bif ((decide ((-9223372036854775808) ≤ (v13 + 1))) && (decide ((v13 + 1) ≤ 9223372036854775807))) then go0 ((v13 + 1), v14, 3, (cI v10 v13 1), ((cI v10 v13 1) + v1), 3, (cI v10 v13 1), ((cI v10 v13 1) + v1)) else none) else none)
 else bif ((decide ((-9223372036854775808) ≤ ((cI v10 v13 1) + v1))) && (decide (((cI v10 v13 1) + v1) ≤ 9223372036854775807))) then (bif (decide (v11 < (cI v10 v13 1))) then some (v21, v22, v23, 0)
 else bif ((decide ((-9223372036854775808) ≤ (v13 + 1))) && (decide ((v13 + 1) ≤ 9223372036854775807))) then go0 ((v13 + 1), v14, 3, (cI v10 v13 1), ((cI v10 v13 1) + v1), 3, (cI v10 v13 1), ((cI v10 v13 1) + v1)) else none) else none)
 else claim_Outcome_10 n go0 go1 v1 v2 v9 v10 v11 v13 v14 v21 v22 v23 v24 v25 v26)
def claim_Outcome_8 (n : Nat) (go0 : claim_Outcome_s0 → Option claim_Outcome_a) (go1 : claim_Outcome_s1 → Option claim_Outcome_a) (v1 v2 v3 : Int) (v9 : Bool) (v10 : Lv) (v11 v13 : Int) (v14 : Lv) (v21 v22 v23 v24 v25 v26 : Int) : Option claim_Outcome_a :=
 (bif (decide (v26 ≤ (cI v10 v13 1))) then (bif (decide (v24 = 1)) then bif ((decide ((-9223372036854775808) ≤ (v26 + v1))) && (decide ((v26 + v1) ≤ 9223372036854775807))) then (bif (decide (v11 < v26)) then some (v21, v22, v23, 0)
 else go1 (3, v26, (v26 + v1), 3, v26, (v26 + v1))) else none
 else (bif (decide (v24 = 2)) then bif ((decide ((-9223372036854775808) ≤ (v26 + v1))) && (decide ((v26 + v1) ≤ 9223372036854775807))) then (bif (decide (v11 < v26)) then some (v21, v22, v23, 0)
 else go1 (3, v26, (v26 + v1), 3, v26, (v26 + v1))) else none
 else (bif (decide (v24 = 3)) then bif ((decide ((-9223372036854775808) ≤ (v26 + v3))) && (decide ((v26 + v3) ≤ 9223372036854775807))) then (bif (decide (v11 < v26)) then some (v21, v22, v23, 0)
 else go1 (4, v26, (v26 + v3), 4, v26, (v26 + v3))) else none
 else (bif (decide (v24 = 4)) then (bif (decide (v11 < v26)) then some (v21, v22, v23, 0)
 else go1 (5, v26, (-1), 5, v26, (-1)))
 else (bif (decide (v11 < v26)) then some (v21, v22, v23, 0)
 else go1 (0, v26, (-1), 0, v26, (-1)))))))
 else claim_Outcome_9 n go0 go1 v1 v2 v9 v10 v11 v13 v14 v21 v22 v23 v24 v25 v26)
abbrev claim_Outcome_15 := @claim_Outcome_9
def claim_Outcome_7 (n : Nat) (go0 : claim_Outcome_s0 → Option claim_Outcome_a) (go1 : claim_Outcome_s1 → Option claim_Outcome_a) (v1 v2 v3 : Int) (v9 : Bool) (v10 : Lv) (v11 v13 : Int) (v14 : Lv) (v21 v22 v23 v24 v25 v26 : Int) : Option claim_Outcome_a :=
 (bif (decide (0 ≤ v26)) then claim_Outcome_8 n go0 go1 v1 v2 v3 v9 v10 v11 v13 v14 v21 v22 v23 v24 v25 v26
 else claim_Outcome_15 n go0 go1 v1 v2 v9 v10 v11 v13 v14 v21 v22 v23 v24 v25 v26)
def claim_Outcome_21 (n : Nat) (go0 : claim_Outcome_s1 → Option claim_Outcome_a) (v1 v3 v11 v21 v22 v23 v24 v26 : Int) : Option claim_Outcome_a :=
 (bif (decide (0 ≤ v26)) then (bif (decide (v26 ≤ 4611686018427387904)) then (bif (decide (v24 = 1)) then bif ((decide ((-9223372036854775808) ≤ (v26 + v1))) && (decide ((v26 + v1) ≤ 9223372036854775807))) then (bif (decide (v11 < v26)) then some (v21, v22, v23, 0)
 else go0 (3, v26, (v26 + v1), 3, v26, (v26 + v1))) else none
 else (bif (decide (v24 = 2)) then bif ((decide ((-9223372036854775808) ≤ (v26 + v1))) && (decide ((v26 + v1) ≤ 9223372036854775807))) then (bif (decide (v11 < v26)) then some (v21, v22, v23, 0)
 else go0 (3, v26, (v26 + v1), 3, v26, (v26 + v1))) else none
 else (bif (decide (v24 = 3)) then bif ((decide ((-9223372036854775808) ≤ (v26 + v3))) && (decide ((v26 + v3) ≤ 9223372036854775807))) then (bif (decide (v11 < v26)) then some (v21, v22, v23, 0)
 else go0 (4, v26, (v26 + v3), 4, v26, (v26 + v3))) else none
 else (bif (decide (v24 = 4)) then (bif (decide (v11 < v26)) then some (v21, v22, v23, 0)
 else go0 (5, v26, (-1), 5, v26, (-1)))
 else (bif (decide (v11 < v26)) then some (v21, v22, v23, 0)
 else go0 (0, v26, (-1), 0, v26, (-1)))))))
 else some (v21, v22, v23, 0))
 else some (v21, v22, v23, 0))
def claim_Outcome_6 (n : Nat) (go0 : claim_Outcome_s0 → Option claim_Outcome_a) (v1 v2 v3 : Int) (v9 : Bool) (v10 : Lv) (v11 v13 : Int) (v14 : Lv) (v15 v16 v17 v18 v19 v20 : Int) : Option claim_Outcome_a :=
 (bif (decide (v13 < (v10.length : Int))) then bif (decide (0 ≤ v13)) then (iterF (fun go1 s => claim_Outcome_7 n go0 go1 v1 v2 v3 v9 v10 v11 v13 v14 s.1 s.2.1 s.2.2.1 s.2.2.2.1 s.2.2.2.2.1 s.2.2.2.2.2) n ((v15, v16, v17, v18, v19, v20) : claim_Outcome_s1)) else none
 else (iterF (fun go0 s => claim_Outcome_21 n go0 v1 v3 v11 s.1 s.2.1 s.2.2.1 s.2.2.2.1 s.2.2.2.2.2) n ((v15, v16, v17, v18, v19, v20) : claim_Outcome_s1)))
def claim_Outcome_5 (n : Nat) (v0 v1 v2 v3 v8 : Int) (v9 : Bool) (v10 : Lv) (v11 : Int) : Option claim_Outcome_a :=
 (bif (decide (v11 < v8)) then some (0, 0, v8, 0)
 else (iterF (fun go0 s => claim_Outcome_6 n go0 v1 v2 v3 v9 v10 v11 s.1 s.2.1 s.2.2.1 s.2.2.2.1 s.2.2.2.2.1 s.2.2.2.2.2.1 s.2.2.2.2.2.2.1 s.2.2.2.2.2.2.2) n ((0, ([] : Lv), 1, v8, (v8 + v0), 1, v8, (v8 + v0)) : claim_Outcome_s0)))
def claim_Outcome_4 (n : Nat) (v0 v1 v2 v3 v8 : Int) (v9 : Bool) (v10 : Lv) (v11 : Int) : Option claim_Outcome_a :=
 (bif (!(decide (v11 ≤ 20000000))) then some (0, 0, 0, 160)
 else bif ((decide ((-9223372036854775808) ≤ (v8 + v0))) && (decide ((v8 + v0) ≤ 9223372036854775807))) then claim_Outcome_5 n v0 v1 v2 v3 v8 v9 v10 v11 else none)
def claim_Outcome_3 (n : Nat) (v0 v1 v2 v3 v8 : Int) (v9 : Bool) (v10 : Lv) (v11 : Int) : Option claim_Outcome_a :=
 (bif (decide (0 ≤ v11)) then claim_Outcome_4 n v0 v1 v2 v3 v8 v9 v10 v11
 else some (0, 0, 0, 160))
def claim_Outcome_2 (n : Nat) (v0 v1 v2 v3 v8 : Int) (v9 : Bool) (v10 : Lv) (v11 : Int) (v12 : Bool) : Option claim_Outcome_a :=
 (bif (!v12) then some (0, 0, 0, 160)
 else claim_Outcome_3 n v0 v1 v2 v3 v8 v9 v10 v11)
def claim_Outcome_1 (n : Nat) (v0 v1 v2 v3 v4 v5 v6 v7 v8 : Int) (v9 : Bool) (v10 : Lv) (v11 : Int) : Option claim_Outcome_a :=
 (claim_Valid n v0 v1 v2 v3 v4 v5 v6 v7 v8 v9 v10).bind fun y12 =>
 claim_Outcome_2 n v0 v1 v2 v3 v8 v9 v10 v11 y12
def claim_Outcome (n : Nat) (v0 v1 v2 v3 v4 v5 v6 v7 v8 : Int) (v9 : Bool) (v10 : Lv) (v11 : Int) : Option claim_Outcome_a := claim_Outcome_1 n v0 v1 v2 v3 v4 v5 v6 v7 v8 v9 v10 v11
def claim_Outcome_t : FnT := ⟨[(true, [.int, .int, .int, .int]), (true, [.int, .int, .int, .int, .int, .bool]), (false, [(.sl (.cons .int (.cons .int (.cons .int .nil))))]), (false, [.int])], (.tup (.cons (.agg (.cons .i (.cons .i (.cons .i .nil)))) (.cons .i .nil))), fun n (s : Int × Int × Int × Int × Int × Int × Int × Int × Int × Bool × Lv × Int) => claim_Outcome n s.1 s.2.1 s.2.2.1 s.2.2.2.1 s.2.2.2.2.1 s.2.2.2.2.2.1 s.2.2.2.2.2.2.1 s.2.2.2.2.2.2.2.1 s.2.2.2.2.2.2.2.2.1 s.2.2.2.2.2.2.2.2.2.1 s.2.2.2.2.2.2.2.2.2.2.1 s.2.2.2.2.2.2.2.2.2.2.2⟩
theorem claim_Outcome_ok : claim_Outcome_t.ok Tryz.prog 50 := FnT.ok_of (cfg := ⟨[((118, 5, 32), .inv [(.tmp 24 .int), (.cellrow 12 12 3 (.cons .int .nil)), (.cell 13 0 .int), (.cell 13 1 .int), (.cell 13 2 .int), (.cell 27 0 .int), (.cell 27 1 .int), (.cell 27 2 .int)]), ((120, 1, 42), .inv [(.cell 13 0 .int), (.cell 13 1 .int), (.cell 13 2 .int), (.cell 27 0 .int), (.cell 27 1 .int), (.cell 27 2 .int)]), ((120, 1, 40), .inv [(.cell 13 0 .int), (.cell 13 1 .int), (.cell 13 2 .int), (.cell 27 0 .int), (.cell 27 1 .int), (.cell 27 2 .int)])], consD3, [], mapsD3⟩) (tab := claim_Ends_T) (mt := mtE) pfit claim_Ends_T_ok mtE_ok (fun s fn hf => by rw [Tryz.func50] at hf; cases hf; kernel_rfl) (fun n s => by kernel_rfl)
def claim_Outcome_T : Tab := (50, claim_Outcome_t) :: claim_Ends_T
theorem claim_Outcome_T_ok : claim_Outcome_T.ok Tryz.prog := Tab.ok_cons claim_Outcome_ok claim_Ends_T_ok
abbrev claim_Timeline_a := Lv × Int
abbrev claim_Timeline_s0 := Int × Lv × Lv × Int × Int × Int
abbrev claim_Timeline_s1 := Lv × Int × Int × Int
def claim_Timeline_11 (n : Nat) (go0 : claim_Timeline_s0 → Option claim_Timeline_a) (go1 : claim_Timeline_s1 → Option claim_Timeline_a) (v9 : Bool) (v10 : Lv) (v12 : Int) (v13 v18 : Lv) (v19 v20 v21 : Int) : Option claim_Timeline_a :=
 (bif ((decide ((cI v10 v12 0) = 5)) && (decide (v19 = 2))) then (bif (decide ((cI v10 v12 2) = 1)) then (bif (v9 == true) then bif (decide ((((v13.length : Int) + 1) * 8) ≤ 140737488355328)) then bif ((decide ((-9223372036854775808) ≤ (v12 + 1))) && (decide ((v12 + 1) ≤ 9223372036854775807))) then go0 ((v12 + 1), (v13 ++ [[(AV.int v12)]]), v18, v19, v20, v21) else none else none
 else bif (decide ((((v18.length : Int) + 1) * 24) ≤ 140737488355328)) then bif ((decide ((-9223372036854775808) ≤ (v12 + 1))) && (decide ((v12 + 1) ≤ 9223372036854775807))) then go0 ((v12 + 1), v13, (v18 ++ [[(AV.int 7), (AV.int (cI v10 v12 1)), (AV.int (-1))]]), 7, (cI v10 v12 1), (-1)) else none else none)
 else bif (decide ((((v18.length : Int) + 1) * 24) ≤ 140737488355328)) then bif ((decide ((-9223372036854775808) ≤ (v12 + 1))) && (decide ((v12 + 1) ≤ 9223372036854775807))) then go0 ((v12 + 1), v13, (v18 ++ [[(AV.int 7), (AV.int (cI v10 v12 1)), (AV.int (-1))]]), 7, (cI v10 v12 1), (-1)) else none else none)
 else (bif ((decide ((cI v10 v12 0) = 5)) && (decide (v19 = 3))) then (bif (decide ((cI v10 v12 2) = 1)) then (bif (v9 == true) then bif (decide ((((v13.length : Int) + 1) * 8) ≤ 140737488355328)) then bif ((decide ((-9223372036854775808) ≤ (v12 + 1))) && (decide ((v12 + 1) ≤ 9223372036854775807))) then go0 ((v12 + 1), (v13 ++ [[(AV.int v12)]]), v18, v19, v20, v21) else none else none
 else bif (decide ((((v18.length : Int) + 1) * 24) ≤ 140737488355328)) then bif ((decide ((-9223372036854775808) ≤ (v12 + 1))) && (decide ((v12 + 1) ≤ 9223372036854775807))) then go0 ((v12 + 1), v13, (v18 ++ [[(AV.int 7), (AV.int (cI v10 v12 1)), (AV.int (-1))]]), 7, (cI v10 v12 1), (-1)) else none else none)
 else bif (decide ((((v18.length : Int) + 1) * 24) ≤ 140737488355328)) then bif ((decide ((-9223372036854775808) ≤ (v12 + 1))) && (decide ((v12 + 1) ≤ 9223372036854775807))) then go0 ((v12 + 1), v13, (v18 ++ [[(AV.int 7), (AV.int (cI v10 v12 1)), (AV.int (-1))]]), 7, (cI v10 v12 1), (-1)) else none else none)
 else (bif ((decide ((cI v10 v12 0) = 6)) && (decide (v19 = 4))) then (bif (decide ((cI v10 v12 2) = 1)) then (bif (v9 == true) then bif (decide ((((v13.length : Int) + 1) * 8) ≤ 140737488355328)) then bif ((decide ((-9223372036854775808) ≤ (v12 + 1))) && (decide ((v12 + 1) ≤ 9223372036854775807))) then go0 ((v12 + 1), (v13 ++ [[(AV.int v12)]]), v18, v19, v20, v21) else none else none
 else bif (decide ((((v18.length : Int) + 1) * 24) ≤ 140737488355328)) then bif ((decide ((-9223372036854775808) ≤ (v12 + 1))) && (decide ((v12 + 1) ≤ 9223372036854775807))) then go0 ((v12 + 1), v13, (v18 ++ [[(AV.int 8), (AV.int (cI v10 v12 1)), (AV.int (-1))]]), 8, (cI v10 v12 1), (-1)) else none else none)
 else bif (decide ((((v18.length : Int) + 1) * 24) ≤ 140737488355328)) then bif ((decide ((-9223372036854775808) ≤ (v12 + 1))) && (decide ((v12 + 1) ≤ 9223372036854775807))) then go0 ((v12 + 1), v13, (v18 ++ [[(AV.int 8), (AV.int (cI v10 v12 1)), (AV.int (-1))]]), 8, (cI v10 v12 1), (-1)) else none else none)
 else (bif (decide ((cI v10 v12 2) = 1)) then (bif (decide ((cI v10 v12 0) = 2)) then bif (decide ((((v13.length : Int) + 1) * 8) ≤ 140737488355328)) then bif ((decide ((-9223372036854775808) ≤ (v12 + 1))) && (decide ((v12 + 1) ≤ 9223372036854775807))) then go0 ((v12 + 1), (v13 ++ [[(AV.int v12)]]), v18, v19, v20, v21) else none else none
 else bif (decide ((((v13.length : Int) + 1) * 8) ≤ 140737488355328)) then bif ((decide ((-9223372036854775808) ≤ (v12 + 1))) && (decide ((v12 + 1) ≤ 9223372036854775807))) then go0 ((v12 + 1), (v13 ++ [[(AV.int v12)]]), v18, v19, v20, v21) else none else none)
 else bif (decide ((((v13.length : Int) + 1) * 8) ≤ 140737488355328)) then bif ((decide ((-9223372036854775808) ≤ (v12 + 1))) && (decide ((v12 + 1) ≤ 9223372036854775807))) then go0 ((v12 + 1), (v13 ++ [[(AV.int v12)]]), v18, v19, v20, v21) else none else none))))
def claim_Timeline_10 (n : Nat) (go0 : claim_Timeline_s0 → Option claim_Timeline_a) (go1 : claim_Timeline_s1 → Option claim_Timeline_a) (v9 : Bool) (v10 : Lv) (v12 : Int) (v13 v18 : Lv) (v19 v20 v21 : Int) : Option claim_Timeline_a :=
 (bif ((decide ((cI v10 v12 0) = 5)) && (decide (v19 = 1))) then (bif (decide ((cI v10 v12 2) = 1)) then (bif (v9 == true) then bif (decide ((((v13.length : Int) + 1) * 8) ≤ 140737488355328)) then bif ((decide ((-9223372036854775808) ≤ (v12 + 1))) && (decide ((v12 + 1) ≤ 9223372036854775807))) then go0 ((v12 + 1), (v13 ++ [[(AV.int v12)]]), v18, v19, v20, v21) else none else none
 else bif (decide ((((v18.length : Int) + 1) * 24) ≤ 140737488355328)) then bif ((decide ((-9223372036854775808) ≤ (v12 + 1))) && (decide ((v12 + 1) ≤ 9223372036854775807))) then go0 ((v12 + 1), v13, (v18 ++ [[(AV.int 7), (AV.int (cI v10 v12 1)), (AV.int (-1))]]), 7, (cI v10 v12 1), (-1)) else none else none)
 else bif (decide ((((v18.length : Int) + 1) * 24) ≤ 140737488355328)) then bif ((decide ((-9223372036854775808) ≤ (v12 + 1))) && (decide ((v12 + 1) ≤ 9223372036854775807))) then go0 ((v12 + 1), v13, (v18 ++ [[(AV.int 7), (AV.int (cI v10 v12 1)), (AV.int (-1))]]), 7, (cI v10 v12 1), (-1)) else none else none)
 else claim_Timeline_11 n go0 go1 v9 v10 v12 v13 v18 v19 v20 v21)
def claim_Timeline_9 (n : Nat) (go0 : claim_Timeline_s0 → Option claim_Timeline_a) (go1 : claim_Timeline_s1 → Option claim_Timeline_a) (v9 : Bool) (v10 : Lv) (v12 : Int) (v13 v18 : Lv) (v19 v20 v21 : Int) : Option claim_Timeline_a :=
 (bif ((decide ((cI v10 v12 0) = 4)) && (decide (v19 = 2))) then (bif (decide ((cI v10 v12 2) = 1)) then (bif (v9 == true) then bif (decide ((((v13.length : Int) + 1) * 8) ≤ 140737488355328)) then bif ((decide ((-9223372036854775808) ≤ (v12 + 1))) && (decide ((v12 + 1) ≤ 9223372036854775807))) then go0 ((v12 + 1), (v13 ++ [[(AV.int v12)]]), v18, v19, v20, v21) else none else none
 else bif (decide ((((v18.length : Int) + 1) * 24) ≤ 140737488355328)) then bif ((decide ((-9223372036854775808) ≤ (v12 + 1))) && (decide ((v12 + 1) ≤ 9223372036854775807))) then go0 ((v12 + 1), v13, (v18 ++ [[(AV.int 6), (AV.int (cI v10 v12 1)), (AV.int (-1))]]), 6, (cI v10 v12 1), (-1)) else none else none)
 else bif (decide ((((v18.length : Int) + 1) * 24) ≤ 140737488355328)) then bif ((decide ((-9223372036854775808) ≤ (v12 + 1))) && (decide ((v12 + 1) ≤ 9223372036854775807))) then go0 ((v12 + 1), v13, (v18 ++ [[(AV.int 6), (AV.int (cI v10 v12 1)), (AV.int (-1))]]), 6, (cI v10 v12 1), (-1)) else none else none)
 else claim_Timeline_10 n go0 go1 v9 v10 v12 v13 v18 v19 v20 v21)
def claim_Timeline_8 (n : Nat) (go0 : claim_Timeline_s0 → Option claim_Timeline_a) (go1 : claim_Timeline_s1 → Option claim_Timeline_a) (v1 : Int) (v9 : Bool) (v10 : Lv) (v12 : Int) (v13 v18 : Lv) (v19 v20 v21 : Int) : Option claim_Timeline_a :=
 (bif ((decide ((cI v10 v12 0) = 3)) && (decide (v19 = 2))) then (bif (decide ((cI v10 v12 2) = 1)) then (bif (v9 == true) then bif (decide ((((v13.length : Int) + 1) * 8) ≤ 140737488355328)) then bif ((decide ((-9223372036854775808) ≤ (v12 + 1))) && (decide ((v12 + 1) ≤ 9223372036854775807))) then go0 ((v12 + 1), (v13 ++ [[(AV.int v12)]]), v18, v19, v20, v21) else none else none
 else bif ((decide ((-9223372036854775808) ≤ ((cI v10 v12 1) + v1))) && (decide (((cI v10 v12 1) + v1) ≤ 9223372036854775807))) then bif (decide ((((v18.length : Int) + 1) * 24) ≤ 140737488355328)) then bif ((decide ((-9223372036854775808) ≤ (v12 + 1))) && (decide ((v12 + 1) ≤ 9223372036854775807))) then go0 ((v12 + 1), v13, (v18 ++ [[(AV.int 3), (AV.int (cI v10 v12 1)), (AV.int ((cI v10 v12 1) + v1))]]), 3, (cI v10 v12 1), ((cI v10 v12 1) + v1)) else none else none else none)
 else bif ((decide ((-9223372036854775808) ≤ ((cI v10 v12 1) + v1))) && (decide (((cI v10 v12 1) + v1) ≤ 9223372036854775807))) then bif (decide ((((v18.length : Int) + 1) * 24) ≤ 140737488355328)) then bif ((decide ((-9223372036854775808) ≤ (v12 + 1))) && (decide ((v12 + 1) ≤ 9223372036854775807))) then go0 ((v12 + 1), v13, (v18 ++ [[(AV.int 3), (AV.int (cI v10 v12 1)), (AV.int ((cI v10 v12 1) + v1))]]), 3, (cI v10 v12 1), ((cI v10 v12 1) + v1)) else none else none else none)
 else claim_Timeline_9 n go0 go1 v9 v10 v12 v13 v18 v19 v20 v21)
def claim_Timeline_7 (n : Nat) (go0 : claim_Timeline_s0 → Option claim_Timeline_a) (go1 : claim_Timeline_s1 → Option claim_Timeline_a) (v1 v2 : Int) (v9 : Bool) (v10 : Lv) (v12 : Int) (v13 v18 : Lv) (v19 v20 v21 : Int) : Option claim_Timeline_a :=
 (bif ((decide ((cI v10 v12 0) = 2)) && (decide (v19 = 1))) then (bif (decide ((cI v10 v12 2) = 1)) then (bif (v9 == true) then bif (decide ((((v13.length : Int) + 1) * 8) ≤ 140737488355328)) then bif ((decide ((-9223372036854775808) ≤ (v12 + 1))) && (decide ((v12 + 1) ≤ 9223372036854775807))) then go0 ((v12 + 1), (v13 ++ [[(AV.int v12)]]), v18, v19, v20, v21) else none else none
 else bif (decide ((((v18.length : Int) + 1) * 24) ≤ 140737488355328)) then bif ((decide ((-9223372036854775808) ≤ (v12 + 1))) && (decide ((v12 + 1) ≤ 9223372036854775807))) then go0 ((v12 + 1), v13, (v18 ++ [[(AV.int 6), (AV.int (cI v10 v12 1)), (AV.int (-1))]]), 6, (cI v10 v12 1), (-1)) else none else none)
 else bif ((decide ((-9223372036854775808) ≤ ((cI v10 v12 1) + v2))) && (decide (((cI v10 v12 1) + v2) ≤ 9223372036854775807))) then bif (decide ((((v18.length : Int) + 1) * 24) ≤ 140737488355328)) then bif ((decide ((-9223372036854775808) ≤ (v12 + 1))) && (decide ((v12 + 1) ≤ 9223372036854775807))) then go0 ((v12 + 1), v13, (v18 ++ [[(AV.int 2), (AV.int (cI v10 v12 1)), (AV.int ((cI v10 v12 1) + v2))]]), 2, (cI v10 v12 1), ((cI v10 v12 1) + v2)) else none else none else none)
 else claim_Timeline_8 n go0 go1 v1 v9 v10 v12 v13 v18 v19 v20 v21)
def claim_Timeline_6 (n : Nat) (go0 : claim_Timeline_s0 → Option claim_Timeline_a) (go1 : claim_Timeline_s1 → Option claim_Timeline_a) (v1 v2 : Int) (v9 : Bool) (v10 : Lv) (v12 : Int) (v13 v18 : Lv) (v19 v20 v21 : Int) : Option claim_Timeline_a :=
 (bif ((decide ((cI v10 v12 0) = 1)) && (decide (v19 = 1))) then (bif (decide ((cI v10 v12 2) = 1)) then (bif (v9 == true) then bif (decide ((((v13.length : Int) + 1) * 8) ≤ 140737488355328)) then bif ((decide ((-9223372036854775808) ≤ (v12 + 1))) && (decide ((v12 + 1) ≤ 9223372036854775807))) then go0 ((v12 + 1), (v13 ++ [[(AV.int v12)]]), v18, v19, v20, v21) else none else none
 else bif ((decide ((-9223372036854775808) ≤ ((cI v10 v12 1) + v1))) && (decide (((cI v10 v12 1) + v1) ≤ 9223372036854775807))) then bif (decide ((((v18.length : Int) + 1) * 24) ≤ 140737488355328)) then bif ((decide ((-9223372036854775808) ≤ (v12 + 1))) && (decide ((v12 + 1) ≤ 9223372036854775807))) then go0 ((v12 + 1), v13, (v18 ++ [[(AV.int 3), (AV.int (cI v10 v12 1)), (AV.int ((cI v10 v12 1) + v1))]]), 3, (cI v10 v12 1), ((cI v10 v12 1) + v1)) else none else none else none)
 else bif ((decide ((-9223372036854775808) ≤ ((cI v10 v12 1) + v1))) && (decide (((cI v10 v12 1) + v1) ≤ 9223372036854775807))) then bif (decide ((((v18.length : Int) + 1) * 24) ≤ 140737488355328)) then bif ((decide ((-9223372036854775808) ≤ (v12 + 1))) && (decide ((v12 + 1) ≤ 9223372036854775807))) then go0 ((v12 + 1), v13, (v18 ++ [[(AV.int 3), (AV.int (cI v10 v12 1)), (AV.int ((cI v10 v12 1) + v1))]]), 3, (cI v10 v12 1), ((cI v10 v12 1) + v1)) else none else none else none)
 else claim_Timeline_7 n go0 go1 v1 v2 v9 v10 v12 v13 v18 v19 v20 v21)
def claim_Timeline_5 (n : Nat) (go0 : claim_Timeline_s0 → Option claim_Timeline_a) (go1 : claim_Timeline_s1 → Option claim_Timeline_a) (v1 v2 v3 : Int) (v9 : Bool) (v10 : Lv) (v12 : Int) (v13 v18 : Lv) (v19 v20 v21 : Int) : Option claim_Timeline_a :=
 (bif (decide (v21 ≤ (cI v10 v12 1))) then (bif (decide (v19 = 1)) then bif ((decide ((-9223372036854775808) ≤ (v21 + v1))) && (decide ((v21 + v1) ≤ 9223372036854775807))) then bif (decide ((((v18.length : Int) + 1) * 24) ≤ 140737488355328)) then go1 ((v18 ++ [[(AV.int 3), (AV.int v21), (AV.int (v21 + v1))]]), 3, v21, (v21 + v1)) else none else none
 else (bif (decide (v19 = 2)) then bif ((decide ((-9223372036854775808) ≤ (v21 + v1))) && (decide ((v21 + v1) ≤ 9223372036854775807))) then bif (decide ((((v18.length : Int) + 1) * 24) ≤ 140737488355328)) then go1 ((v18 ++ [[(AV.int 3), (AV.int v21), (AV.int (v21 + v1))]]), 3, v21, (v21 + v1)) else none else none
 else (bif (decide (v19 = 3)) then bif ((decide ((-9223372036854775808) ≤ (v21 + v3))) && (decide ((v21 + v3) ≤ 9223372036854775807))) then bif (decide ((((v18.length : Int) + 1) * 24) ≤ 140737488355328)) then go1 ((v18 ++ [[(AV.int 4), (AV.int v21), (AV.int (v21 + v3))]]), 4, v21, (v21 + v3)) else none else none
 else (bif (decide (v19 = 4)) then bif (decide ((((v18.length : Int) + 1) * 24) ≤ 140737488355328)) then go1 ((v18 ++ [[(AV.int 5), (AV.int v21), (AV.int (-1))]]), 5, v21, (-1)) else none
 else bif (decide ((((v18.length : Int) + 1) * 24) ≤ 140737488355328)) then go1 ((v18 ++ [[(AV.int 0), (AV.int v21), (AV.int (-1))]]), 0, v21, (-1)) else none))))
 else claim_Timeline_6 n go0 go1 v1 v2 v9 v10 v12 v13 v18 v19 v20 v21)
abbrev claim_Timeline_12 := @claim_Timeline_6
def claim_Timeline_4 (n : Nat) (go0 : claim_Timeline_s0 → Option claim_Timeline_a) (go1 : claim_Timeline_s1 → Option claim_Timeline_a) (v1 v2 v3 : Int) (v9 : Bool) (v10 : Lv) (v12 : Int) (v13 v18 : Lv) (v19 v20 v21 : Int) : Option claim_Timeline_a :=
 (bif (decide (0 ≤ v21)) then claim_Timeline_5 n go0 go1 v1 v2 v3 v9 v10 v12 v13 v18 v19 v20 v21
 else claim_Timeline_12 n go0 go1 v1 v2 v9 v10 v12 v13 v18 v19 v20 v21)
def claim_Timeline_18 (n : Nat) (go0 : claim_Timeline_s1 → Option claim_Timeline_a) (v1 v3 : Int) (v18 : Lv) (v19 v21 : Int) : Option claim_Timeline_a :=
 (bif (decide (0 ≤ v21)) then (bif (decide (v21 ≤ 4611686018427387904)) then (bif (decide (v19 = 1)) then bif ((decide ((-9223372036854775808) ≤ (v21 + v1))) && (decide ((v21 + v1) ≤ 9223372036854775807))) then bif (decide ((((v18.length : Int) + 1) * 24) ≤ 140737488355328)) then go0 ((v18 ++ [[(AV.int 3), (AV.int v21), (AV.int (v21 + v1))]]), 3, v21, (v21 + v1)) else none else none
 else (bif (decide (v19 = 2)) then bif ((decide ((-9223372036854775808) ≤ (v21 + v1))) && (decide ((v21 + v1) ≤ 9223372036854775807))) then bif (decide ((((v18.length : Int) + 1) * 24) ≤ 140737488355328)) then go0 ((v18 ++ [[(AV.int 3), (AV.int v21), (AV.int (v21 + v1))]]), 3, v21, (v21 + v1)) else none else none
 else (bif (decide (v19 = 3)) then bif ((decide ((-9223372036854775808) ≤ (v21 + v3))) && (decide ((v21 + v3) ≤ 9223372036854775807))) then bif (decide ((((v18.length : Int) + 1) * 24) ≤ 140737488355328)) then go0 ((v18 ++ [[(AV.int 4), (AV.int v21), (AV.int (v21 + v3))]]), 4, v21, (v21 + v3)) else none else none
 else (bif (decide (v19 = 4)) then bif (decide ((((v18.length : Int) + 1) * 24) ≤ 140737488355328)) then go0 ((v18 ++ [[(AV.int 5), (AV.int v21), (AV.int (-1))]]), 5, v21, (-1)) else none
 else bif (decide ((((v18.length : Int) + 1) * 24) ≤ 140737488355328)) then go0 ((v18 ++ [[(AV.int 0), (AV.int v21), (AV.int (-1))]]), 0, v21, (-1)) else none))))
 else some (v18, 0))
 else some (v18, 0))
def claim_Timeline_3 (n : Nat) (go0 : claim_Timeline_s0 → Option claim_Timeline_a) (v1 v2 v3 : Int) (v9 : Bool) (v10 : Lv) (v12 : Int) (v13 v14 : Lv) (v15 v16 v17 : Int) : Option claim_Timeline_a :=
 (bif (decide (v12 < (v10.length : Int))) then bif (decide (0 ≤ v12)) then (iterF (fun go1 s => claim_Timeline_4 n go0 go1 v1 v2 v3 v9 v10 v12 v13 s.1 s.2.1 s.2.2.1 s.2.2.2) n ((v14, v15, v16, v17) : claim_Timeline_s1)) else none
 else (iterF (fun go0 s => claim_Timeline_18 n go0 v1 v3 s.1 s.2.1 s.2.2.2) n ((v14, v15, v16, v17) : claim_Timeline_s1)))
def claim_Timeline_2 (n : Nat) (v0 v1 v2 v3 v8 : Int) (v9 : Bool) (v10 : Lv) (v11 : Bool) : Option claim_Timeline_a :=
 (bif (!v11) then some (([] : Lv), 160)
 else bif ((decide ((-9223372036854775808) ≤ (v8 + v0))) && (decide ((v8 + v0) ≤ 9223372036854775807))) then (iterF (fun go0 s => claim_Timeline_3 n go0 v1 v2 v3 v9 v10 s.1 s.2.1 s.2.2.1 s.2.2.2.1 s.2.2.2.2.1 s.2.2.2.2.2) n ((0, ([] : Lv), (([] : Lv) ++ [[(AV.int 1), (AV.int v8), (AV.int (v8 + v0))]]), 1, v8, (v8 + v0)) : claim_Timeline_s0)) else none)
def claim_Timeline_1 (n : Nat) (v0 v1 v2 v3 v4 v5 v6 v7 v8 : Int) (v9 : Bool) (v10 : Lv) : Option claim_Timeline_a :=
 (claim_Valid n v0 v1 v2 v3 v4 v5 v6 v7 v8 v9 v10).bind fun y11 =>
 claim_Timeline_2 n v0 v1 v2 v3 v8 v9 v10 y11
def claim_Timeline (n : Nat) (v0 v1 v2 v3 v4 v5 v6 v7 v8 : Int) (v9 : Bool) (v10 : Lv) : Option claim_Timeline_a := claim_Timeline_1 n v0 v1 v2 v3 v4 v5 v6 v7 v8 v9 v10
def claim_Timeline_t : FnT := ⟨[(true, [.int, .int, .int, .int]), (true, [.int, .int, .int, .int, .int, .bool]), (false, [(.sl (.cons .int (.cons .int (.cons .int .nil))))])], (.tup (.cons (.row 116 (.cons .int (.cons .int (.cons .int .nil)))) (.cons .i .nil))), fun n (s : Int × Int × Int × Int × Int × Int × Int × Int × Int × Bool × Lv) => claim_Timeline n s.1 s.2.1 s.2.2.1 s.2.2.2.1 s.2.2.2.2.1 s.2.2.2.2.2.1 s.2.2.2.2.2.2.1 s.2.2.2.2.2.2.2.1 s.2.2.2.2.2.2.2.2.1 s.2.2.2.2.2.2.2.2.2.1 s.2.2.2.2.2.2.2.2.2.2⟩
theorem claim_Timeline_ok : claim_Timeline_t.ok Tryz.prog 103 := FnT.ok_of (cfg := ⟨[((118, 5, 31), .inv [(.tmp 24 .int), (.cellrow 10 12 3 (.cons .int .nil)), (.cellrow 13 0 116 (.cons .int (.cons .int (.cons .int .nil)))), (.cell 24 0 .int), (.cell 24 1 .int), (.cell 24 2 .int)]), ((120, 1, 39), .inv [(.cellrow 13 0 116 (.cons .int (.cons .int (.cons .int .nil)))), (.cell 24 0 .int), (.cell 24 1 .int), (.cell 24 2 .int)]), ((120, 1, 37), .inv [(.cellrow 13 0 116 (.cons .int (.cons .int (.cons .int .nil)))), (.cell 24 0 .int), (.cell 24 1 .int), (.cell 24 2 .int)])], consD3, [], mapsD3⟩) (tab := claim_Outcome_T) (mt := mtE) pfit claim_Outcome_T_ok mtE_ok (fun s fn hf => by rw [Tryz.func103] at hf; cases hf; kernel_rfl) (fun n s => by kernel_rfl)
def claim_Timeline_T : Tab := (103, claim_Timeline_t) :: claim_Outcome_T
theorem claim_Timeline_T_ok : claim_Timeline_T.ok Tryz.prog := Tab.ok_cons claim_Timeline_ok claim_Outcome_T_ok
end
end Go.Proofs.YtjllgiddmeiaoaaGreat
set_option maxRecDepth 100000
namespace Go.Proofs.YtjllgiddmeiaoaaGreat
open Go Go.Sx Go.Dial.Clm
theorem timeline_le {r : Rl} {c : Cl} {es : List Ce} (h : ClmV r c es) : ∀ x ∈ timeline r c es, x.f ≤ 23000000 := by
 obtain ⟨hr, hc, hl, hE⟩ := h
 unfold ClV at hc
 intro x hx
 unfold timeline at hx
 have h0 : (x0 r c).f = c.a := rfl
 rcases List.mem_cons.1 hx with rfl | hx
 ·omega
 ·exact tl_le hr (b := c.b) (now := x0 r c) (es := es) (by rw [h0]; have := rk_le (x0 r c).s; omega) (fun _ => (st_n hr (s := 1) (f := c.a) (by omega)).2) (fun e he => (evV_ge hE e he).2) x hx
theorem timeline_ge {r : Rl} {c : Cl} {es : List Ce} (h : ClmV r c es) : ∀ x ∈ timeline r c es, c.a ≤ x.f := by
 obtain ⟨hr, hc, hl, hE⟩ := h
 intro x hx
 unfold timeline at hx
 rcases List.mem_cons.1 hx with rfl | hx
 ·exact Int.le_refl _
 ·exact tl_ge hr (b := c.b) (now := x0 r c) (es := es) (fun ha => by have := (st_n hr (s := 1) (f := c.a) (by omega)).1; unfold x0; omega) (fun e he => (evV_ge hE e he).1) x hx
theorem timeline_st {r : Rl} {c : Cl} {es : List Ce} : ∀ x ∈ timeline r c es, ∃ s f, x = st r s f := by
 intro x hx
 unfold timeline at hx
 rcases List.mem_cons.1 hx with rfl | hx
 ·exact ⟨_, _, rfl⟩
 ·exact tl_all (r := r) (b := c.b) (fun x => ∃ s f, x = st r s f) (fun _ _ => True) (fun _ _ _ _ _ _ => ⟨⟨_, _, rfl⟩, trivial⟩) (fun _ _ _ _ _ _ => trivial) (fun _ _ _ _ _ _ => ⟨⟨_, _, rfl⟩, trivial⟩) (fun _ _ _ => ⟨⟨_, _, rfl⟩, trivial⟩) _ _ _ (Nat.le_refl _) trivial x hx
theorem timeline_len {r : Rl} {c : Cl} {es : List Ce} (hl : es.length ≤ 20) : (timeline r c es).length ≤ 110 := by
 have h2 := tl_len (r := r) (b := c.b) _ (x0 r c) es (Nat.le_refl _)
 have h3 := rk_le (x0 r c).s
 unfold timeline
 simp only [List.length_cons]
 omega
structure RunJ (r : Rl) (c : Cl) (es : List Ce) (out : List Cs) (now : Cs) (i : Nat) : Prop where
 le : i ≤ es.length
 last : out.getLast? = some now
 rest : timeline r c es = out ++ tl r c.b now (es.drop i)
section
variable {r : Rl} {c : Cl} {es : List Ce} {out : List Cs} {now : Cs} {i : Nat}
theorem RunJ.mem (h : RunJ r c es out now i) : now ∈ timeline r c es := by
 rw [h.rest]; exact List.mem_append_left _ (List.mem_of_getLast? h.last)
theorem RunJ.len (h : RunJ r c es out now i) (hl : es.length ≤ 20) : out.length ≤ 110 := by
 have h1 := timeline_len (r := r) (c := c) hl
 rw [h.rest, List.length_append] at h1
 omega
theorem RunJ.auto (h : RunJ r c es out now i) (ha : act now) (h1 : ∀ e, es[i]? = some e → now.n ≤ e.a) : RunJ r c es (out ++ [st r (aft now.s) now.n]) (st r (aft now.s) now.n) i := by
 refine ⟨h.le, by simp, ?_⟩
 rw [h.rest]
 have : tl r c.b now (es.drop i) = st r (aft now.s) now.n :: tl r c.b (st r (aft now.s) now.n) (es.drop i) := by
  cases hd : es.drop i with
  | nil => exact tl_end ha
  | cons e rest =>
   have he : es[i]? = some e := by
    have := congrArg (fun l => l[0]?) hd
    simpa using this
   exact tl_auto ⟨ha, h1 e he⟩
 rw [this]
 simp
theorem RunJ.event {e : Ce} (h : RunJ r c es out now i) (he : es[i]? = some e) (h1 : ¬ (act now ∧ now.n ≤ e.a)) (hb : ¬ bec c.b now.s e < 0) : RunJ r c es (out ++ [st r (bec c.b now.s e) e.a]) (st r (bec c.b now.s e) e.a) (i + 1) := by
 refine ⟨(List.getElem?_eq_some_iff.1 he).1, by simp, ?_⟩
 rw [h.rest, drop_cons he, tl_ev h1 hb]
 simp
theorem RunJ.void {e : Ce} (h : RunJ r c es out now i) (he : es[i]? = some e) (h1 : ¬ (act now ∧ now.n ≤ e.a)) (hb : bec c.b now.s e < 0) : RunJ r c es out now (i + 1) :=
 ⟨(List.getElem?_eq_some_iff.1 he).1, h.last, by rw [h.rest, drop_cons he, tl_void h1 hb]⟩
theorem RunJ.done (h : RunJ r c es out now i) (h0 : i = es.length) (h1 : ¬ act now) : timeline r c es = out := by
 rw [h.rest, h0, List.drop_length, tl_nil h1]; simp
end
theorem tl_event (n : Nat) (go0 : claim_Timeline_s0 → Option claim_Timeline_a) (go1 : claim_Timeline_s1 → Option claim_Timeline_a) (r : Rl) (hr : RlV r) (b : Bool) (es : List Ce) (i : Nat) (e : Ce) (he : es[i]? = some e) (vd : Lv) (out : List Cs) (s f m l : Int)
  (hce : CeV l e) (hl : 0 ≤ l) (h1 : vd.length ≤ 20) (h2 : out.length ≤ 110) (h3 : i ≤ 20) :
  claim_Timeline_6 n go0 go1 r.c r.s b (ceL es) (i : Int) vd (csL out) s f m = if bec b s e < 0 then go0 ((i : Int) + 1, vd ++ [[AV.int (i : Int)]], csL out, s, f, m) else go0 ((i : Int) + 1, vd, csL out ++ [csR (st r (bec b s e) e.a)], (st r (bec b s e) e.a).s, (st r (bec b s e) e.a).f, (st r (bec b s e) e.a).n) := by
 have hc : ∀ k, cA (ceL es) (i : Int) k = (ceR e).getD k (.int 0) := fun k => cA_map (by simpa using he)
 have g0 : cI (ceL es) i 0 = e.k := by simp only [cI, hc]; rfl
 have g1 : cI (ceL es) i 1 = e.a := by simp only [cI, hc]; rfl
 have g2 : cI (ceL es) i 2 = e.r := by simp only [cI, hc]; rfl
 have c4 : (-9223372036854775808 : Int) ≤ (i : Int) + 1 := by omega
 have c5 : (i : Int) + 1 ≤ (9223372036854775807 : Int) := by omega
 have c10 : ((vd.length : Int) + 1) * 8 ≤ 140737488355328 := by omega
 have c11 : ((out.length : Int) + 1) * 24 ≤ 140737488355328 := by omega
 have hrr := hr
 unfold RlV at hr
 unfold CeV at hce
 have c6 : (-9223372036854775808 : Int) ≤ e.a + r.c := by omega
 have c7 : e.a + r.c ≤ (9223372036854775807 : Int) := by omega
 have c8 : (-9223372036854775808 : Int) ≤ e.a + r.s := by omega
 have c9 : e.a + r.s ≤ (9223372036854775807 : Int) := by omega
 unfold claim_Timeline_6 claim_Timeline_7 claim_Timeline_8 claim_Timeline_9 claim_Timeline_10 claim_Timeline_11
 simp only [g0, g1, g2, List.length_map, c4, c5, c6, c7, c8, c9, c10, c11, decide_true, Bool.and_self]
 simp only [cond_true]
 clear g0 g1 g2 hc c4 c5 c6 c7 c8 c9 c10 c11
 unfold bec st dur
 have hk : e.k = 1 ∨ e.k = 2 ∨ e.k = 3 ∨ e.k = 4 ∨ e.k = 5 ∨ e.k = 6 := by omega
 have hs : s = 1 ∨ s = 2 ∨ s = 3 ∨ s = 4 ∨ (s ≠ 1 ∧ s ≠ 2 ∧ s ≠ 3 ∧ s ≠ 4) := by omega
 cases b <;> by_cases hq : e.r = 1 <;> rcases hk with hk | hk | hk | hk | hk | hk <;> rcases hs with hs | hs | hs | hs | ⟨q1, q2, q3, q4⟩ <;> simp_all
theorem tl12 : @claim_Timeline_12 = @claim_Timeline_6 := rfl
theorem tl_auto5 (n : Nat) (go0 : claim_Timeline_s0 → Option claim_Timeline_a) (go1 : claim_Timeline_s1 → Option claim_Timeline_a) (r : Rl) (hr : RlV r) (b : Bool) (L : Lv) (i : Int) (vd O : Lv) (s f m : Int) (ha : 1 ≤ s ∧ s ≤ 4) (hm : m ≤ cI L i 1) (h1 : -100000000 ≤ m) (h2 : m ≤ 100000000) (h3 : O.length ≤ 110) :
  claim_Timeline_5 n go0 go1 r.c r.s r.r b L i vd O s f m = go1 (O ++ [csR (st r (aft s) m)], (st r (aft s) m).s, (st r (aft s) m).f, (st r (aft s) m).n) := by
 have hs : s = 1 ∨ s = 2 ∨ s = 3 ∨ s = 4 := by omega
 unfold RlV at hr
 unfold claim_Timeline_5
 rcases hs with hs | hs | hs | hs <;> subst hs <;> simp only [csR, aft, st, dur] <;> grind
theorem tl_auto18 (n : Nat) (go1 : claim_Timeline_s1 → Option claim_Timeline_a) (r : Rl) (hr : RlV r) (O : Lv) (s m : Int) (ha : 1 ≤ s ∧ s ≤ 4) (h1 : 0 ≤ m) (h2 : m ≤ 100000000) (h3 : O.length ≤ 110) :
  claim_Timeline_18 n go1 r.c r.r O s m = go1 (O ++ [csR (st r (aft s) m)], (st r (aft s) m).s, (st r (aft s) m).f, (st r (aft s) m).n) := by
 have hs : s = 1 ∨ s = 2 ∨ s = 3 ∨ s = 4 := by omega
 unfold RlV at hr
 unfold claim_Timeline_18
 rcases hs with hs | hs | hs | hs <;> subst hs <;> simp only [csR, aft, st, dur] <;> grind
theorem claim_Timeline_v (n : Nat) (r : Rl) (c : Cl) (es : List Ce) (hn : 200 < n) : claim_Timeline n r.a r.c r.s r.r c.n c.f c.t c.h c.a c.b (ceL es) = some (if ClmV r c es then (csL (timeline r c es), 0) else ([], 160)) := by
 unfold claim_Timeline claim_Timeline_1 claim_Timeline_2
 rw [claim_Valid_v n r c es (by omega)]
 by_cases hv : ClmV r c es
 ·obtain ⟨hr, hcl, hlen, hE⟩ := id hv
  have hrb := hr
  unfold RlV at hrb
  have hca : 0 ≤ c.a ∧ c.a ≤ 10000000 := by unfold ClV at hcl; omega
  have n1 : (-9223372036854775808 : Int) ≤ c.a + r.a := by omega
  have n2 : c.a + r.a ≤ (9223372036854775807 : Int) := by omega
  simp only [hv, decide_true, Option.bind_some, Bool.not_true, n1, n2, Bool.and_self, if_true]
  simp only [cond_true, cond_false]
  have facts : ∀ out now i, RunJ r c es out now i → (0 ≤ now.n ↔ act now) ∧ now.f ≤ 23000000 ∧ now.n ≤ 24000000 ∧ out.length ≤ 110 := fun out now i h => by
   have h1 := timeline_le hv now h.mem
   have h2 := timeline_ge hv now h.mem
   obtain ⟨s, f, hf⟩ := timeline_st now h.mem
   have h3 : (st r s f).f = f := rfl
   refine ⟨by rw [hf]; exact act_n hr (by rw [hf, h3] at h2; omega), h1, ?_, h.len hlen⟩
   rw [hf] at h1 ⊢
   have h1 : f ≤ 23000000 := h1
   by_cases ha : 1 ≤ s ∧ s ≤ 4
   ·have := (st_n hr (f := f) ha).2; omega
   ·simp only [st]; rw [if_neg ha]; omega
  refine iterF_ind (fun s => ∃ (i : Nat) (vd : Lv) (out : List Cs) (now : Cs), s = ((i : Int), vd, csL out, now.s, now.f, now.n) ∧ vd.length ≤ i ∧ RunJ r c es out now i) (fun s => es.length + 1 - s.1.toNat) _ ?_ n _
   ⟨0, [], [x0 r c], x0 r c, rfl, by simp, ⟨by omega, rfl, by unfold timeline; simp⟩⟩ (by simp; omega)
  rintro _ go ⟨i, vd, out, now, rfl, hvd, hJ⟩ ih
  simp only
  unfold claim_Timeline_3
  have hle := hJ.le
  have c6 : (0 : Int) ≤ (i : Int) := by omega
  by_cases hlt : i < es.length
  ·have c7 : (i : Int) < (es.length : Int) := by omega
   obtain ⟨e, he⟩ := get_lt hlt
   have hce : ∃ l, 0 ≤ l ∧ CeV l e := by
    have := (evV_ge hE)
    have key : ∀ (es : List Ce) (l : Int) (i : Nat) (e : Ce), 0 ≤ l → EvV l es → es[i]? = some e → ∃ l, 0 ≤ l ∧ CeV l e := by
     intro es
     induction es with
     | nil => intro l i e _ _ h; simp at h
     | cons x es ih =>
      intro l i e hl hE h
      cases i with
      | zero => simp at h; subst h; exact ⟨l, hl, hE.1⟩
      | succ i => exact ih x.a i e (by have := hE.1.2.2.1; omega) hE.2 (by simpa using h)
    exact key es c.a i e hca.1 hE he
   obtain ⟨l, hl0, hce⟩ := hce
   simp only [List.length_map, c6, c7, decide_true]
   simp only [cond_true]
   refine iterF_ind (fun s => ∃ (out : List Cs) (now : Cs), s = (csL out, now.s, now.f, now.n) ∧ RunJ r c es out now i) (fun s => rk s.2.1) _ ?_ n _ ⟨out, now, rfl, hJ⟩ (by have := rk_le now.s; simp only; omega)
   rintro _ go1 ⟨out, now, rfl, hJ⟩ ih1
   simp only
   obtain ⟨f1, f2, f3, f4⟩ := facts out now i hJ
   have tail : ¬ (act now ∧ now.n ≤ e.a) → claim_Timeline_6 n go go1 r.c r.s c.b (ceL es) (i : Int) vd (csL out) now.s now.f now.n = some (csL (timeline r c es), 0) := fun hna => by
    rw [tl_event n go go1 r hr c.b es i e he vd out now.s now.f now.n l hce hl0 (by omega) f4 (by omega)]
    by_cases hb : bec c.b now.s e < 0
    ·rw [if_pos hb]
     exact ih _ ⟨i + 1, vd ++ [[AV.int (i : Int)]], out, now, by simp, by simp; omega, hJ.void he hna hb⟩ (by simp only; omega)
    ·rw [if_neg hb]
     exact ih _ ⟨i + 1, vd, out ++ [st r (bec c.b now.s e) e.a], _, by simp, by omega, hJ.event he hna hb⟩ (by simp only; omega)
   unfold claim_Timeline_4
   have g1 : cI (ceL es) i 1 = e.a := by simp only [cI]; rw [cA_map (by simpa using he)]; rfl
   rw [tl12]
   by_cases hn0 : 0 ≤ now.n
   ·have ha := f1.1 hn0
    rw [decide_eq_true hn0, cond_true]
    by_cases hnm : now.n ≤ e.a
    ·rw [tl_auto5 n go go1 r hr c.b (ceL es) i vd (csL out) now.s now.f now.n ha (by rw [g1]; exact hnm) (by omega) (by omega) (by rw [List.length_map]; exact f4)]
     have := ih1 _ ⟨out ++ [st r (aft now.s) now.n], _, rfl, hJ.auto ha (fun e' he' => by rw [he] at he'; cases he'; exact hnm)⟩ (rk_aft ha)
     rw [← this]; simp
    ·unfold claim_Timeline_5
     rw [g1, decide_eq_false hnm, cond_false]
     exact tail fun h => hnm h.2
   ·rw [decide_eq_false hn0, cond_false]
    exact tail fun h => hn0 (f1.2 h.1)
  ·have h0 : i = es.length := by omega
   have c7 : ¬ (i : Int) < (es.length : Int) := by omega
   have hnone : ∀ e, ¬ es[i]? = some e := fun e he => by have := (List.getElem?_eq_some_iff.1 he).1; omega
   simp only [List.length_map, c7, decide_false]
   simp only [cond_false]
   refine iterF_ind (fun s => ∃ (out : List Cs) (now : Cs), s = (csL out, now.s, now.f, now.n) ∧ RunJ r c es out now i) (fun s => rk s.2.1) _ ?_ n _ ⟨out, now, rfl, hJ⟩ (by have := rk_le now.s; simp only; omega)
   rintro _ go1 ⟨out, now, rfl, hJ⟩ ih1
   simp only
   obtain ⟨f1, f2, f3, f4⟩ := facts out now i hJ
   by_cases hn0 : 0 ≤ now.n
   ·have ha := f1.1 hn0
    rw [tl_auto18 n go1 r hr (csL out) now.s now.n ha hn0 (by omega) (by rw [List.length_map]; exact f4)]
    have := ih1 _ ⟨out ++ [st r (aft now.s) now.n], _, rfl, hJ.auto ha (fun e' he' => absurd he' (hnone e'))⟩ (rk_aft ha)
    rw [← this]; simp
   ·unfold claim_Timeline_18
    rw [decide_eq_false hn0, cond_false, hJ.done h0 (fun ha => hn0 (f1.2 ha))]
 ·simp [hv]
end Go.Proofs.YtjllgiddmeiaoaaGreat
set_option maxRecDepth 100000
namespace Go.Proofs.YtjllgiddmeiaoaaGreat
open Go Go.Sx Go.Dial.Clm
theorem upTo_out {t : Int} : ∀ {out rest : List Cs}, (∀ x ∈ out, x.f ≤ t) → (∀ x, rest.head? = some x → t < x.f) → upTo t (out ++ rest) = out
 | [], [], _, _ => rfl
 | [], x :: rest, _, h => by
  have := h x rfl
  unfold upTo
  rw [List.nil_append, List.takeWhile_cons]
  simp; omega
 | y :: out, rest, h1, h2 => by
  rw [List.cons_append, upTo_go (h1 y (List.mem_cons_self ..)), upTo_out (fun x hx => h1 x (List.mem_cons_of_mem _ hx)) h2]
structure RunO (r : Rl) (c : Cl) (es : List Ce) (t : Int) (out : List Cs) (now : Cs) (i : Nat) : Prop where
 j : RunJ r c es out now i
 up : ∀ x ∈ out, x.f ≤ t
section
variable {r : Rl} {c : Cl} {es : List Ce} {t : Int} {out : List Cs} {now x : Cs} {i : Nat} {rest : List Cs}
theorem RunO.stop (h : RunO r c es t out now i) (hr : tl r c.b now (es.drop i) = rest) (hx : ∀ x, rest.head? = some x → t < x.f) : outV r c es t = now := by
 unfold outV
 rw [h.j.rest, hr, upTo_out h.up hx, h.j.last]; rfl
end
end Go.Proofs.YtjllgiddmeiaoaaGreat
set_option maxRecDepth 100000
namespace Go.Proofs.YtjllgiddmeiaoaaGreat
open Go Go.Sx
noncomputable section
def consD4 : List Nat := [5, 6, 7, 8, 9, 10, 11, 12, 13, 14, 15, 16, 17, 18, 19, 20, 21, 22, 23, 24, 28, 29, 30, 31, 32, 33, 34, 35, 36, 37, 39, 41, 42, 43, 45, 47, 48, 49, 50, 51, 64, 66, 67, 69, 70, 73, 75, 76, 77, 79, 80, 81, 86, 88, 100, 101, 102, 103, 108, 111, 113, 114, 115, 132, 133, 142, 1000007, 1000008, 1000036, 1000037]
def mapsD4 : List (Nat × SV × SV) := [(117, SV.of [.agg (SV.of [.vi (.int 1), .vi (.int 1)]), .agg (SV.of [.vi (.int 2), .vi (.int 1)]), .agg (SV.of [.vi (.int 3), .vi (.int 2)]), .agg (SV.of [.vi (.int 4), .vi (.int 2)]), .agg (SV.of [.vi (.int 5), .vi (.int 1)]), .agg (SV.of [.vi (.int 5), .vi (.int 2)]), .agg (SV.of [.vi (.int 5), .vi (.int 3)]), .agg (SV.of [.vi (.int 6), .vi (.int 4)])], SV.of [.vi (.int 3), .vi (.int 2), .vi (.int 3), .vi (.int 6), .vi (.int 7), .vi (.int 7), .vi (.int 7), .vi (.int 8)])]
abbrev chain_Valid_a := Bool
abbrev chain_Valid_s0 := Int × Int
def chain_Valid_2 (n : Nat) (go0 : chain_Valid_s0 → Option chain_Valid_a) (v0 v2 v3 v4 v5 : Int) (v7 : Lv) (v14 v15 : Int) : Option chain_Valid_a :=
 (bif (decide (v15 < (v7.length : Int))) then bif (decide (0 ≤ v15)) then (bif (!(decide ((cI v7 v15 0) = v0))) then some false
 else (claim_Valid n v2 v3 v4 v5 (cI v7 v15 0) (cI v7 v15 1) (cI v7 v15 2) (cI v7 v15 3) (cI v7 v15 4) (cB v7 v15 5) (cL v7 v15 6)).bind fun y16 =>
 (bif (!y16) then some false
 else (bif (decide ((cI v7 v15 4) < v14)) then some false
 else bif ((decide ((-9223372036854775808) ≤ (v15 + 1))) && (decide ((v15 + 1) ≤ 9223372036854775807))) then go0 ((cI v7 v15 4), (v15 + 1)) else none))) else none
 else some true)
def chain_Valid_1 (n : Nat) (v0 v1 v2 v3 v4 v5 : Int) (v6 v7 : Lv) : Option chain_Valid_a :=
 (life_Run n v6).bind fun y8 =>
 (bif (!(decide (y8.2.2.2.2.2 = 0))) then some false
 else (bif (decide (0 ≤ v0)) then (bif (!(decide (v0 ≤ 99999999))) then some false
 else (bif (decide (0 ≤ v1)) then (bif (!(decide (v1 ≤ 7))) then some false
 else (bif (decide (8 < (v7.length : Int))) then some false
 else (iterF (fun go0 s => chain_Valid_2 n go0 v0 v2 v3 v4 v5 v7 s.1 s.2) n ((0, 0) : chain_Valid_s0))))
 else some false))
 else some false))
def chain_Valid (n : Nat) (v0 v1 v2 v3 v4 v5 : Int) (v6 v7 : Lv) : Option chain_Valid_a := chain_Valid_1 n v0 v1 v2 v3 v4 v5 v6 v7
def chain_Valid_t : FnT := ⟨[(true, [.int, .int, .int, .int, .int, .int, (.sl (.cons .int (.cons .int (.cons .int .nil)))), (.sl (.cons .int (.cons .int (.cons .int (.cons .int (.cons .int (.cons .bool (.cons (.sl (.cons .int (.cons .int (.cons .int .nil)))) .nil))))))))])], .b, fun n (s : Int × Int × Int × Int × Int × Int × Lv × Lv) => chain_Valid n s.1 s.2.1 s.2.2.1 s.2.2.2.1 s.2.2.2.2.1 s.2.2.2.2.2.1 s.2.2.2.2.2.2.1 s.2.2.2.2.2.2.2⟩
theorem chain_Valid_ok : chain_Valid_t.ok Tryz.prog 15 := FnT.ok_of (cfg := ⟨[((15, 6, 3), .inv [(.tmp 6 .int), (.tmp 39 .int)])], consD4, [], mapsD4⟩) (tab := claim_Timeline_T) (mt := mtE) pfit claim_Timeline_T_ok mtE_ok (fun s fn hf => by rw [Tryz.func15] at hf; cases hf; kernel_rfl) (fun n s => by kernel_rfl)
def chain_Valid_T : Tab := (15, chain_Valid_t) :: claim_Timeline_T
theorem chain_Valid_T_ok : chain_Valid_T.ok Tryz.prog := Tab.ok_cons chain_Valid_ok claim_Timeline_T_ok
abbrev chain_happenings_a := Lv
abbrev chain_happenings_s0 := Lv × Int
abbrev chain_happenings_s1 := Int × Lv
abbrev chain_happenings_s2 := Unit
def chain_happenings_3 (n : Nat) (go0 : chain_happenings_s0 → Option chain_happenings_a) (go1 : chain_happenings_s0 → Option chain_happenings_a) (v9 : Int) (v10 v12 : Lv) (v13 : Int) : Option chain_happenings_a :=
 (bif (decide (v13 < (v10.length : Int))) then bif (decide (0 ≤ v13)) then (bif (decide ((cI v10 v13 0) = 4)) then bif (decide ((((v12.length : Int) + 1) * 24) ≤ 140737488355328)) then bif ((decide ((-9223372036854775808) ≤ (v13 + 1))) && (decide ((v13 + 1) ≤ 9223372036854775807))) then go1 ((v12 ++ [[(AV.int (cI v10 v13 1)), (AV.int v9), (AV.bool (decide ((cI v10 v13 0) = 8)))]]), (v13 + 1)) else none else none
 else (bif (decide ((cI v10 v13 0) = 8)) then bif (decide ((((v12.length : Int) + 1) * 24) ≤ 140737488355328)) then bif ((decide ((-9223372036854775808) ≤ (v13 + 1))) && (decide ((v13 + 1) ≤ 9223372036854775807))) then go1 ((v12 ++ [[(AV.int (cI v10 v13 1)), (AV.int v9), (AV.bool (decide ((cI v10 v13 0) = 8)))]]), (v13 + 1)) else none else none
 else bif ((decide ((-9223372036854775808) ≤ (v13 + 1))) && (decide ((v13 + 1) ≤ 9223372036854775807))) then go1 (v12, (v13 + 1)) else none)) else none
 else bif ((decide ((-9223372036854775808) ≤ (v9 + 1))) && (decide ((v9 + 1) ≤ 9223372036854775807))) then go0 (v12, (v9 + 1)) else none)
def chain_happenings_6 (n : Nat) (go0 : chain_happenings_s1 → Option chain_happenings_a) (go1 : chain_happenings_s1 → Option chain_happenings_a) (v10 v12 : Int) (v13 : Lv) : Option chain_happenings_a :=
 (bif (decide (0 < v12)) then bif (decide (0 ≤ v12)) then bif (decide (v12 < (v13.length : Int))) then bif ((decide ((-9223372036854775808) ≤ (v12 - 1))) && (decide ((v12 - 1) ≤ 9223372036854775807))) then bif (decide (0 ≤ (v12 - 1))) then bif (decide ((v12 - 1) < (v13.length : Int))) then (bif (decide ((cI v13 v12 0) < (cI v13 (v12 - 1) 0))) then (bif (decide ((cI v13 v12 1) < (cI v13 (v12 - 1) 1))) then go1 ((v12 - 1), (List.modify (List.modify (List.modify (List.modify (List.modify (List.modify v13 (v12).toNat (fun r => r.set 0 (AV.int (cI v13 (v12 - 1) 0)))) (v12).toNat (fun r => r.set 1 (AV.int (cI v13 (v12 - 1) 1)))) (v12).toNat (fun r => r.set 2 (AV.bool (cB v13 (v12 - 1) 2)))) ((v12 - 1)).toNat (fun r => r.set 0 (AV.int (cI v13 v12 0)))) ((v12 - 1)).toNat (fun r => r.set 1 (AV.int (cI v13 v12 1)))) ((v12 - 1)).toNat (fun r => r.set 2 (AV.bool (cB v13 v12 2)))))
 else (bif (decide ((cI v13 (v12 - 1) 1) < (cI v13 v12 1))) then go1 ((v12 - 1), (List.modify (List.modify (List.modify (List.modify (List.modify (List.modify v13 (v12).toNat (fun r => r.set 0 (AV.int (cI v13 (v12 - 1) 0)))) (v12).toNat (fun r => r.set 1 (AV.int (cI v13 (v12 - 1) 1)))) (v12).toNat (fun r => r.set 2 (AV.bool (cB v13 (v12 - 1) 2)))) ((v12 - 1)).toNat (fun r => r.set 0 (AV.int (cI v13 v12 0)))) ((v12 - 1)).toNat (fun r => r.set 1 (AV.int (cI v13 v12 1)))) ((v12 - 1)).toNat (fun r => r.set 2 (AV.bool (cB v13 v12 2)))))
 else go1 ((v12 - 1), (List.modify (List.modify (List.modify (List.modify (List.modify (List.modify v13 (v12).toNat (fun r => r.set 0 (AV.int (cI v13 (v12 - 1) 0)))) (v12).toNat (fun r => r.set 1 (AV.int (cI v13 (v12 - 1) 1)))) (v12).toNat (fun r => r.set 2 (AV.bool (cB v13 (v12 - 1) 2)))) ((v12 - 1)).toNat (fun r => r.set 0 (AV.int (cI v13 v12 0)))) ((v12 - 1)).toNat (fun r => r.set 1 (AV.int (cI v13 v12 1)))) ((v12 - 1)).toNat (fun r => r.set 2 (AV.bool (cB v13 v12 2)))))))
 else (bif (decide ((cI v13 (v12 - 1) 0) < (cI v13 v12 0))) then (bif (decide ((cI v13 v12 1) < (cI v13 (v12 - 1) 1))) then bif ((decide ((-9223372036854775808) ≤ (v10 + 1))) && (decide ((v10 + 1) ≤ 9223372036854775807))) then go0 ((v10 + 1), v13) else none
 else (bif (decide ((cI v13 (v12 - 1) 1) < (cI v13 v12 1))) then bif ((decide ((-9223372036854775808) ≤ (v10 + 1))) && (decide ((v10 + 1) ≤ 9223372036854775807))) then go0 ((v10 + 1), v13) else none
 else bif ((decide ((-9223372036854775808) ≤ (v10 + 1))) && (decide ((v10 + 1) ≤ 9223372036854775807))) then go0 ((v10 + 1), v13) else none))
 else (bif (decide ((cI v13 v12 1) < (cI v13 (v12 - 1) 1))) then go1 ((v12 - 1), (List.modify (List.modify (List.modify (List.modify (List.modify (List.modify v13 (v12).toNat (fun r => r.set 0 (AV.int (cI v13 (v12 - 1) 0)))) (v12).toNat (fun r => r.set 1 (AV.int (cI v13 (v12 - 1) 1)))) (v12).toNat (fun r => r.set 2 (AV.bool (cB v13 (v12 - 1) 2)))) ((v12 - 1)).toNat (fun r => r.set 0 (AV.int (cI v13 v12 0)))) ((v12 - 1)).toNat (fun r => r.set 1 (AV.int (cI v13 v12 1)))) ((v12 - 1)).toNat (fun r => r.set 2 (AV.bool (cB v13 v12 2)))))
 else (bif (decide ((cI v13 (v12 - 1) 1) < (cI v13 v12 1))) then bif ((decide ((-9223372036854775808) ≤ (v10 + 1))) && (decide ((v10 + 1) ≤ 9223372036854775807))) then go0 ((v10 + 1), v13) else none
 else bif ((decide ((-9223372036854775808) ≤ (v10 + 1))) && (decide ((v10 + 1) ≤ 9223372036854775807))) then go0 ((v10 + 1), v13) else none)))) else none else none else none else none else none
 else bif ((decide ((-9223372036854775808) ≤ (v10 + 1))) && (decide ((v10 + 1) ≤ 9223372036854775807))) then go0 ((v10 + 1), v13) else none)
def chain_happenings_5 (n : Nat) (go0 : chain_happenings_s1 → Option chain_happenings_a) (v10 : Int) (v11 : Lv) : Option chain_happenings_a :=
 (bif (decide (v10 < 20)) then (iterF (fun go1 s => chain_happenings_6 n go0 go1 v10 s.1 s.2) n ((v10, v11) : chain_happenings_s1))
 else none)
abbrev chain_happenings_8 := @chain_happenings_6
def chain_happenings_9 (n : Nat) (go0 : chain_happenings_s2 → Option chain_happenings_a) : Option chain_happenings_a :=
 none
def chain_happenings_7 (n : Nat) (go0 : chain_happenings_s1 → Option chain_happenings_a) (v8 : Lv) (v10 : Int) (v11 : Lv) : Option chain_happenings_a :=
 (bif (decide (v10 < (v8.length : Int))) then (iterF (fun go1 s => chain_happenings_8 n go0 go1 v10 s.1 s.2) n ((v10, v11) : chain_happenings_s1))
 else (bif (decide (20 < (v8.length : Int))) then (iterF (fun go0 s => chain_happenings_9 n go0 ) n (() : chain_happenings_s2))
 else some v11))
def chain_happenings_4 (n : Nat) (go0 : chain_happenings_s0 → Option chain_happenings_a) (v8 : Lv) : Option chain_happenings_a :=
 (bif (decide (20 ≤ (v8.length : Int))) then (iterF (fun go0 s => chain_happenings_5 n go0 s.1 s.2) n ((1, v8) : chain_happenings_s1))
 else (iterF (fun go0 s => chain_happenings_7 n go0 v8 s.1 s.2) n ((1, v8) : chain_happenings_s1)))
def chain_happenings_2 (n : Nat) (go0 : chain_happenings_s0 → Option chain_happenings_a) (v2 v3 v4 v5 : Int) (v7 v8 : Lv) (v9 : Int) : Option chain_happenings_a :=
 (bif (decide (v9 < (v7.length : Int))) then bif (decide (0 ≤ v9)) then (claim_Timeline n v2 v3 v4 v5 (cI v7 v9 0) (cI v7 v9 1) (cI v7 v9 2) (cI v7 v9 3) (cI v7 v9 4) (cB v7 v9 5) (cL v7 v9 6)).bind fun y10 =>
 (iterF (fun go1 s => chain_happenings_3 n go0 go1 v9 y10.1 s.1 s.2) n ((v8, 0) : chain_happenings_s0)) else none
 else chain_happenings_4 n go0 v8)
def chain_happenings_1 (n : Nat) (v2 v3 v4 v5 : Int) (v7 : Lv) : Option chain_happenings_a :=
 (iterF (fun go0 s => chain_happenings_2 n go0 v2 v3 v4 v5 v7 s.1 s.2) n ((([] : Lv), 0) : chain_happenings_s0))
def chain_happenings (n : Nat) (v0 v1 v2 v3 v4 v5 : Int) (v6 v7 : Lv) : Option chain_happenings_a := chain_happenings_1 n v2 v3 v4 v5 v7
def chain_happenings_t : FnT := ⟨[(true, [.int, .int, .int, .int, .int, .int, (.sl (.cons .int (.cons .int (.cons .int .nil)))), (.sl (.cons .int (.cons .int (.cons .int (.cons .int (.cons .int (.cons .bool (.cons (.sl (.cons .int (.cons .int (.cons .int .nil)))) .nil))))))))])], (.row 141 (.cons .int (.cons .int (.cons .bool .nil)))), fun n (s : Int × Int × Int × Int × Int × Int × Lv × Lv) => chain_happenings n s.1 s.2.1 s.2.2.1 s.2.2.2.1 s.2.2.2.2.1 s.2.2.2.2.2.1 s.2.2.2.2.2.2.1 s.2.2.2.2.2.2.2⟩
theorem chain_happenings_ok : chain_happenings_t.ok Tryz.prog 73 := FnT.ok_of (cfg := ⟨[((127, 2, 0), .unroll 1), ((127, 7, 0), .unroll 1), ((106, 3, 0), .unroll 3), ((73, 3, 1), .inv [(.tmprow 3 141 (.cons .int (.cons .int (.cons .bool .nil)))), (.tmp 13 .int)]), ((73, 7, 6), .inv [(.tmprow 3 141 (.cons .int (.cons .int (.cons .bool .nil)))), (.tmp 30 .int)]), ((141, 1, 3), .inv [(.tmp 8 .int), (.inrow 1 141 (.cons .int (.cons .int (.cons .bool .nil))))]), ((141, 4, 5), .inv [(.tmp 9 .int), (.inrow 1 141 (.cons .int (.cons .int (.cons .bool .nil))))]), ((127, 9, 5), .inv [])], consD4, [], mapsD4⟩) (tab := chain_Valid_T) (mt := mtE) pfit chain_Valid_T_ok mtE_ok (fun s fn hf => by rw [Tryz.func73] at hf; cases hf; kernel_rfl) (fun n s => by kernel_rfl)
def chain_happenings_T : Tab := (73, chain_happenings_t) :: chain_Valid_T
theorem chain_happenings_T_ok : chain_happenings_T.ok Tryz.prog := Tab.ok_cons chain_happenings_ok chain_Valid_T_ok
end
end Go.Proofs.YtjllgiddmeiaoaaGreat
namespace Go.Dial.Chn
open Go.Dial.Clm Go.Dial.Lif
structure Pt where
 c : Cl
 es : List Ce
structure Ch where
 n : Int
 f : Int
 r : Rl
 life : List Ev
 ps : List Pt
def PtsV (n : Int) (r : Rl) : Int → List Pt → Prop
 | _, [] => True
 | last, p :: ps => (p.c.n = n ∧ ClmV r p.c p.es ∧ last ≤ p.c.a) ∧ PtsV n r p.c.a ps
instance PtsV.dec (n : Int) (r : Rl) : (last : Int) → (ps : List Pt) → Decidable (PtsV n r last ps)
 | _, [] => .isTrue trivial
 | last, p :: ps => by
  have := PtsV.dec n r p.c.a ps
  unfold PtsV
  infer_instance
def ChV (c : Ch) : Prop := Life c.life ∧ 0 ≤ c.n ∧ c.n ≤ 99999999 ∧ 0 ≤ c.f ∧ c.f ≤ 7 ∧ c.ps.length ≤ 8 ∧ PtsV c.n c.r 0 c.ps
instance (c : Ch) : Decidable (ChV c) := by unfold ChV; infer_instance
structure Hp where
 a : Int
 p : Int
 b : Bool
deriving DecidableEq
def hpOf (i : Nat) (x : Cs) : Option Hp := if x.s = 4 ∨ x.s = 8 then some ⟨x.f, i, decide (x.s = 8)⟩ else none
def hpsFrom (r : Rl) : Nat → List Pt → List Hp
 | _, [] => []
 | i, p :: ps => (timeline r p.c p.es).filterMap (hpOf i) ++ hpsFrom r (i + 1) ps
def ltH (x y : Hp) : Prop := x.a < y.a ∨ (x.a = y.a ∧ x.p < y.p)
instance (x y : Hp) : Decidable (ltH x y) := by unfold ltH; infer_instance
def ins (x : Hp) : List Hp → List Hp
 | [] => [x]
 | y :: l => if ltH x y then x :: y :: l else y :: ins x l
def isort (l : List Hp) : List Hp := l.foldl (fun acc x => ins x acc) []
def SortedH : List Hp → Prop
 | [] => True
 | x :: l => (∀ y ∈ l, ¬ ltH y x) ∧ SortedH l
theorem ltH_trans {x y z : Hp} (h1 : ¬ ltH y x) (h2 : ¬ ltH z y) : ¬ ltH z x := by unfold ltH at *; omega
theorem ltH_asymm {x y : Hp} (h : ltH x y) : ¬ ltH y x := by unfold ltH at *; omega
theorem mem_ins {x y : Hp} {l : List Hp} : y ∈ ins x l ↔ y = x ∨ y ∈ l := by
 induction l with
 | nil => simp [ins]
 | cons z l ih =>
  unfold ins
  split
  ·simp
  ·simp only [List.mem_cons, ih]
   constructor
   ·rintro (h | h | h)
    ·exact .inr (.inl h)
    ·exact .inl h
    ·exact .inr (.inr h)
   ·rintro (h | h | h)
    ·exact .inr (.inl h)
    ·exact .inl h
    ·exact .inr (.inr h)
theorem sorted_ins {x : Hp} {l : List Hp} (h : SortedH l) : SortedH (ins x l) := by
 induction l with
 | nil => exact ⟨fun y hy => (by cases hy), trivial⟩
 | cons z l ih =>
  unfold ins
  split
  ·rename_i hx
   refine ⟨fun y hy => ?_, h⟩
   rcases List.mem_cons.1 hy with rfl | hy
   ·exact ltH_asymm hx
   ·exact ltH_trans (ltH_asymm hx) (h.1 y hy)
  ·rename_i hx
   refine ⟨fun y hy => ?_, ih h.2⟩
   rcases mem_ins.1 hy with rfl | hy
   ·exact hx
   ·exact h.1 y hy
theorem sorted_isort (l : List Hp) : SortedH (isort l) := by
 have : ∀ (l acc : List Hp), SortedH acc → SortedH (l.foldl (fun acc x => ins x acc) acc) := by
  intro l
  induction l with
  | nil => intro acc h; exact h
  | cons x l ih => intro acc h; exact ih _ (sorted_ins h)
 exact this l [] trivial
theorem isort_snoc (l : List Hp) (x : Hp) : isort (l ++ [x]) = ins x (isort l) := by simp [isort]
theorem ins_len (x : Hp) (l : List Hp) : (ins x l).length = l.length + 1 := by
 induction l with
 | nil => rfl
 | cons y l ih => unfold ins; split <;> simp [ih]
theorem isort_len (l : List Hp) : (isort l).length = l.length := by
 have : ∀ (l acc : List Hp), (l.foldl (fun acc x => ins x acc) acc).length = acc.length + l.length := by
  intro l
  induction l with
  | nil => intro acc; simp
  | cons x l ih => intro acc; rw [List.foldl_cons, ih, ins_len, List.length_cons]; omega
 have := this l []
 simpa [isort] using this
theorem ins_at {x : Hp} : ∀ {A B : List Hp}, SortedH (A ++ B) → (∀ y ∈ B, ltH x y) → (∀ y, A.getLast? = some y → ¬ ltH x y) → ins x (A ++ B) = A ++ x :: B
 | [], [], _, _, _ => rfl
 | [], z :: B, _, h, _ => by
  show ins x (z :: B) = _
  rw [ins, if_pos (h z (List.mem_cons_self ..))]; rfl
 | z :: A, B, hS, hB, hA => by
  have hz : ¬ ltH x z := by
   cases A with
   | nil => exact hA z rfl
   | cons w A =>
    obtain ⟨y, hy⟩ : ∃ y, (w :: A).getLast? = some y := ⟨_, List.getLast?_eq_some_getLast (by simp)⟩
    have h1 := hA y (by rw [List.getLast?_cons_cons]; exact hy)
    have h2 := hS.1 y (List.mem_append_left _ (List.mem_of_getLast? hy))
    exact ltH_trans h2 h1
  rw [List.cons_append, ins, if_neg hz, ins_at hS.2 hB (fun y hy => hA y (by
   cases A with
   | nil => cases hy
   | cons w A => rw [List.getLast?_cons_cons]; exact hy))]
  rfl
def hb (s : Int) : Nat := if 1 ≤ s ∧ s ≤ 3 then 2 else if s = 4 then 1 else 0
theorem bec_cases {b : Bool} {s : Int} {e : Ce} (h : ¬ bec b s e < 0) : (1 ≤ s ∧ s ≤ 3 ∧ (bec b s e = 2 ∨ bec b s e = 3 ∨ bec b s e = 6 ∨ bec b s e = 7)) ∨ (s = 4 ∧ bec b s e = 8) := by
 unfold bec at *
 grind
theorem tl_hps {r : Rl} {b : Bool} {i : Nat} : ∀ (m : Nat) (now : Cs) (es : List Ce), 5 * es.length + rk now.s ≤ m → ((tl r b now es).filterMap (hpOf i)).length ≤ hb now.s := by
 intro m
 have auto : ∀ (now : Cs) (k : Nat), act now → k ≤ hb (aft now.s) → (if aft now.s = 4 ∨ aft now.s = 8 then 1 else 0) + k ≤ hb now.s := by
  intro now k ha hk
  have : now.s = 1 ∨ now.s = 2 ∨ now.s = 3 ∨ now.s = 4 := by unfold act at ha; omega
  rcases this with h | h | h | h <;> rw [h] at hk ⊢ <;> simp [aft, hb] at hk ⊢ <;> omega
 have cons : ∀ (x : Cs) (l : List Cs), ((x :: l).filterMap (hpOf i)).length = (if x.s = 4 ∨ x.s = 8 then 1 else 0) + (l.filterMap (hpOf i)).length := by
  intro x l
  rw [List.filterMap_cons]
  unfold hpOf
  split
  ·rename_i h; split at h
   ·cases h
   ·rename_i h2; rw [if_neg h2]; omega
  ·rename_i h; split at h
   ·rename_i h2; rw [if_pos h2]; simp; omega
   ·cases h
 induction m with
 | zero =>
  intro now es hm
  have he : es = [] := by
   cases es with
   | nil => rfl
   | cons e es => simp at hm
  subst he
  by_cases ha : act now
  ·have := rk_aft ha; omega
  ·rw [tl_nil ha]; simp
 | succ m ih =>
  intro now es hm
  cases es with
  | nil =>
   by_cases ha : act now
   ·rw [tl_end ha, cons]
    exact auto now _ ha (ih (st r (aft now.s) now.n) [] (by have := rk_aft ha; simp only [st]; omega))
   ·rw [tl_nil ha]; simp
  | cons e es =>
   by_cases ha : act now ∧ now.n ≤ e.a
   ·rw [tl_auto ha, cons]
    exact auto now _ ha.1 (ih (st r (aft now.s) now.n) (e :: es) (by have := rk_aft ha.1; simp only [st]; omega))
   ·by_cases hbb : bec b now.s e < 0
    ·rw [tl_void ha hbb]
     exact ih now es (by simp only [List.length_cons] at hm; omega)
    ·rw [tl_ev ha hbb, cons]
     have := ih (st r (bec b now.s e) e.a) es (by simp only [List.length_cons] at hm; have := rk_le (st r (bec b now.s e) e.a).s; omega)
     have hs : (st r (bec b now.s e) e.a).s = bec b now.s e := rfl
     rw [hs] at this ⊢
     rcases bec_cases hbb with ⟨h1, h2, h3⟩ | ⟨h1, h2⟩
     ·have h4 : hb now.s = 2 := by unfold hb; rw [if_pos ⟨h1, h2⟩]
      rw [h4]
      have q2 : hb 2 = 2 := rfl
      have q3 : hb 3 = 2 := rfl
      have q6 : hb 6 = 0 := rfl
      have q7 : hb 7 = 0 := rfl
      rcases h3 with h | h | h | h <;> rw [h] at this ⊢ <;> (try rw [q2] at this) <;> (try rw [q3] at this) <;> (try rw [q6] at this) <;> (try rw [q7] at this) <;> split <;> omega
     ·rw [h2] at this ⊢
      rw [h1]
      have q8 : hb 8 = 0 := rfl
      have q4 : hb 4 = 1 := rfl
      rw [q8] at this
      rw [q4]
      split <;> omega
theorem timeline_hps {r : Rl} {c : Cl} {es : List Ce} {i : Nat} : ((timeline r c es).filterMap (hpOf i)).length ≤ 2 := by
 have := tl_hps (r := r) (b := c.b) (i := i) _ (x0 r c) es (Nat.le_refl _)
 unfold timeline
 rw [List.filterMap_cons]
 have h0 : hpOf i (x0 r c) = none := by unfold hpOf x0 st; simp
 rw [h0]
 have h1 : hb (x0 r c).s = 2 := rfl
 rw [h1] at this
 exact this
theorem hpsFrom_len (r : Rl) : ∀ (ps : List Pt) (i : Nat), (hpsFrom r i ps).length ≤ 2 * ps.length
 | [], i => by simp [hpsFrom]
 | p :: ps, i => by
  have h1 := timeline_hps (r := r) (c := p.c) (es := p.es) (i := i)
  have h2 := hpsFrom_len r ps (i + 1)
  simp only [hpsFrom, List.length_append, List.length_cons]
  omega
def hps (c : Ch) : List Hp := isort (hpsFrom c.r 0 c.ps)
end Go.Dial.Chn
set_option maxRecDepth 100000
namespace Go.Proofs.YtjllgiddmeiaoaaGreat
open Go Go.Sx Go.Dial.Clm Go.Dial.Lif Go.Dial.Chn
abbrev ptR (p : Pt) : List AV := [.int p.c.n, .int p.c.f, .int p.c.t, .int p.c.h, .int p.c.a, .bool p.c.b, .sl (.cons .int (.cons .int (.cons .int .nil))) (ceL p.es)]
abbrev ptL (ps : List Pt) : Lv := ps.map ptR
theorem chain_Valid_v (n : Nat) (c : Ch) (hl : c.life.length < n) (hn : 200 < n) : chain_Valid n c.n c.f c.r.a c.r.c c.r.s c.r.r (evL c.life) (ptL c.ps) = some (decide (ChV c)) := by
 unfold chain_Valid chain_Valid_1 ChV
 rw [life_Run_v n c.life hl]
 simp only [Option.bind_some, runT]
 by_cases h0 : Life c.life
 ·rw [runR_life h0]
  by_cases h1 : 0 ≤ c.n ∧ c.n ≤ 99999999 ∧ 0 ≤ c.f ∧ c.f ≤ 7
  ·by_cases h2 : c.ps.length ≤ 8
   ·have c3 : ¬ (8 : Int) < ((ptL c.ps).length : Int) := by rw [List.length_map]; omega
    simp only [h0, h1, h2, decide_true, Bool.not_true, true_and]
    simp only [cond_true, cond_false]
    rw [decide_eq_false c3, cond_false]
    refine iterF_ind (fun s => ∃ (i : Nat) (last : Int), s = (last, (i : Int)) ∧ i ≤ c.ps.length ∧ (PtsV c.n c.r 0 c.ps ↔ PtsV c.n c.r last (c.ps.drop i))) (fun s => c.ps.length - s.2.toNat) _ ?_ n _ ⟨0, 0, rfl, by omega, by simp⟩ (by simp; omega)
    rintro _ go ⟨i, last, rfl, hi, hE⟩ ih
    simp only
    unfold chain_Valid_2
    by_cases hlt : i < c.ps.length
    ·obtain ⟨p, hp⟩ := get_lt hlt
     have hc : ∀ k, cA (ptL c.ps) (i : Int) k = (ptR p).getD k (.int 0) := fun k => cA_map (by simpa using hp)
     have g0 : cI (ptL c.ps) i 0 = p.c.n := by simp only [cI, hc]; rfl
     have g1 : cI (ptL c.ps) i 1 = p.c.f := by simp only [cI, hc]; rfl
     have g2 : cI (ptL c.ps) i 2 = p.c.t := by simp only [cI, hc]; rfl
     have g3 : cI (ptL c.ps) i 3 = p.c.h := by simp only [cI, hc]; rfl
     have g4 : cI (ptL c.ps) i 4 = p.c.a := by simp only [cI, hc]; rfl
     have g5 : cB (ptL c.ps) i 5 = p.c.b := by simp only [cB, hc]; rfl
     have g6 : cL (ptL c.ps) i 6 = ceL p.es := by simp only [cL, hc]; rfl
     have c1 : (i : Int) < ((ptL c.ps).length : Int) := by rw [List.length_map]; omega
     have c2 : (0 : Int) ≤ (i : Int) := by omega
     have c4 : (-9223372036854775808 : Int) ≤ (i : Int) + 1 := by omega
     have c5 : (i : Int) + 1 ≤ (9223372036854775807 : Int) := by omega
     rw [drop_cons hp] at hE
     simp only [g0, g1, g2, g3, g4, g5, g6, claim_Valid_v n c.r p.c p.es (by omega), c1, c2, c4, c5, decide_true, Bool.and_self, Option.bind_some]
     simp only [cond_true]
     by_cases k1 : p.c.n = c.n
     ·by_cases k2 : ClmV c.r p.c p.es
      ·by_cases k3 : p.c.a < last
       ·have : ¬ PtsV c.n c.r 0 c.ps := fun h => by have := (hE.1 h).1.2.2; omega
        simp [k1, k2, k3, this]
       ·have hgo := ih _ ⟨i + 1, p.c.a, rfl, by omega, by rw [hE]; exact ⟨fun h => h.2, fun h => ⟨⟨k1, k2, by omega⟩, h⟩⟩⟩ (by simp only; omega)
        rw [← hgo]
        simp [k1, k2, k3]
      ·have : ¬ PtsV c.n c.r 0 c.ps := fun h => k2 (hE.1 h).1.2.1
       simp [k1, k2, this]
     ·have : ¬ PtsV c.n c.r 0 c.ps := fun h => k1 (hE.1 h).1.1
      simp [k1, this]
    ·have h00 : i = c.ps.length := by omega
     have c1 : ¬ (i : Int) < ((ptL c.ps).length : Int) := by rw [List.length_map]; omega
     rw [decide_eq_false c1, cond_false]
     subst h00
     rw [List.drop_length] at hE
     have : PtsV c.n c.r 0 c.ps := hE.2 trivial
     simp [this]
   ·have c3 : (8 : Int) < ((ptL c.ps).length : Int) := by rw [List.length_map]; omega
    simp only [h0, h1, h2, c3, decide_true, Bool.not_true, false_and, and_false, decide_false]
    simp only [cond_true, cond_false]
  ·have : ¬ (Life c.life ∧ 0 ≤ c.n ∧ c.n ≤ 99999999 ∧ 0 ≤ c.f ∧ c.f ≤ 7 ∧ c.ps.length ≤ 8 ∧ PtsV c.n c.r 0 c.ps) := fun h => h1 ⟨h.2.1, h.2.2.1, h.2.2.2.1, h.2.2.2.2.1⟩
   simp only [this, decide_false]
   grind
 ·rw [runR_no h0]
  simp [h0]
set_option maxRecDepth 100000
abbrev hpR (h : Hp) : List AV := [.int h.a, .int h.p, .bool h.b]
abbrev hpL (l : List Hp) : Lv := l.map hpR
theorem modify_set {α : Type} {l : List α} {i : Nat} {f : α → α} {x : α} (h : l[i]? = some x) : l.modify i f = l.set i (f x) := by
 apply List.ext_getElem?
 intro j
 rw [List.getElem?_modify, List.getElem?_set]
 by_cases e : i = j
 ·subst e
  obtain ⟨h1, h2⟩ := List.getElem?_eq_some_iff.1 h
  simp [h1, h2]
 ·simp [e]
theorem swap_rows {A B : List Hp} {x y : Hp} {j : Nat} (hj : j = A.length + 1) :
  (List.modify (List.modify (List.modify (List.modify (List.modify (List.modify (hpL (A ++ y :: x :: B)) j (fun r => r.set 0 (AV.int y.a))) j (fun r => r.set 1 (AV.int y.p))) j (fun r => r.set 2 (AV.bool y.b))) (j - 1) (fun r => r.set 0 (AV.int x.a))) (j - 1) (fun r => r.set 1 (AV.int x.p))) (j - 1) (fun r => r.set 2 (AV.bool x.b))) = hpL (A ++ x :: y :: B) := by
 subst hj
 have e1 : ∀ (a b : List AV), ((A.map hpR) ++ a :: b :: B.map hpR)[A.length + 1]? = some b := fun a b => by
  rw [List.getElem?_append_right (by simp)]; simp
 have e2 : ∀ (a b : List AV), ((A.map hpR) ++ a :: b :: B.map hpR)[A.length]? = some a := fun a b => by
  rw [List.getElem?_append_right (by simp)]; simp
 have s1 : ∀ (a b c : List AV), ((A.map hpR) ++ a :: b :: B.map hpR).set (A.length + 1) c = (A.map hpR) ++ a :: c :: B.map hpR := fun a b c => by
  rw [List.set_append_right _ _ (by simp)]; simp
 have s2 : ∀ (a b c : List AV), ((A.map hpR) ++ a :: b :: B.map hpR).set A.length c = (A.map hpR) ++ c :: b :: B.map hpR := fun a b c => by
  rw [List.set_append_right _ _ (by simp)]; simp
 simp only [hpL, List.map_append, List.map_cons, Nat.add_sub_cancel]
 rw [modify_set (e1 _ _), s1, modify_set (e1 _ _), s1, modify_set (e1 _ _), s1, modify_set (e2 _ _), s2, modify_set (e2 _ _), s2, modify_set (e2 _ _), s2]
 rfl
theorem sort_stop (n : Nat) (go0 : chain_happenings_s1 → Option chain_happenings_a) (go1 : chain_happenings_s1 → Option chain_happenings_a) (i : Nat) (hi : i ≤ 100) (L : Lv) : chain_happenings_8 n go0 go1 (i : Int) 0 L = go0 ((i : Int) + 1, L) := by
 unfold chain_happenings_8
 try unfold chain_happenings_6
 have c8 : (-9223372036854775808 : Int) ≤ (i : Int) + 1 := by omega
 have c9 : (i : Int) + 1 ≤ (9223372036854775807 : Int) := by omega
 simp [c8, c9]
theorem sort_step (n : Nat) (go0 : chain_happenings_s1 → Option chain_happenings_a) (go1 : chain_happenings_s1 → Option chain_happenings_a) (i : Nat) (hi : i ≤ 100) (A B : List Hp) (x y : Hp) (hA : A.length ≤ 100) :
  chain_happenings_8 n go0 go1 (i : Int) ((A.length + 1 : Nat) : Int) (hpL (A ++ y :: x :: B)) = if ltH x y then go1 ((A.length : Int), hpL (A ++ x :: y :: B)) else go0 ((i : Int) + 1, hpL (A ++ y :: x :: B)) := by
 have hx : ∀ k, cA (hpL (A ++ y :: x :: B)) ((A.length + 1 : Nat) : Int) k = (hpR x).getD k (.int 0) := fun k => cA_map (by
  rw [show (((A.length + 1 : Nat) : Int)).toNat = A.length + 1 by omega, List.getElem?_append_right (by omega)]; simp)
 have hy : ∀ k, cA (hpL (A ++ y :: x :: B)) (((A.length + 1 : Nat) : Int) - 1) k = (hpR y).getD k (.int 0) := fun k => cA_map (by
  rw [show (((A.length + 1 : Nat) : Int) - 1).toNat = A.length by omega, List.getElem?_append_right (by omega)]; simp)
 have x0 : cI (hpL (A ++ y :: x :: B)) ((A.length + 1 : Nat) : Int) 0 = x.a := by simp only [cI, hx]; rfl
 have x1 : cI (hpL (A ++ y :: x :: B)) ((A.length + 1 : Nat) : Int) 1 = x.p := by simp only [cI, hx]; rfl
 have x2 : cB (hpL (A ++ y :: x :: B)) ((A.length + 1 : Nat) : Int) 2 = x.b := by simp only [cB, hx]; rfl
 have y0 : cI (hpL (A ++ y :: x :: B)) (((A.length + 1 : Nat) : Int) - 1) 0 = y.a := by simp only [cI, hy]; rfl
 have y1 : cI (hpL (A ++ y :: x :: B)) (((A.length + 1 : Nat) : Int) - 1) 1 = y.p := by simp only [cI, hy]; rfl
 have y2 : cB (hpL (A ++ y :: x :: B)) (((A.length + 1 : Nat) : Int) - 1) 2 = y.b := by simp only [cB, hy]; rfl
 have hsw := swap_rows (A := A) (B := B) (x := x) (y := y) (j := A.length + 1) rfl
 rw [Nat.add_sub_cancel] at hsw
 have t1 : (((A.length + 1 : Nat) : Int)).toNat = A.length + 1 := by omega
 have t2 : (((A.length + 1 : Nat) : Int) - 1).toNat = A.length := by omega
 have t3 : ((A.length + 1 : Nat) : Int) - 1 = (A.length : Int) := by omega
 have c8 : (-9223372036854775808 : Int) ≤ (i : Int) + 1 := by omega
 have c9 : (i : Int) + 1 ≤ (9223372036854775807 : Int) := by omega
 have d1 : (0 : Int) < ((A.length + 1 : Nat) : Int) := by omega
 have d2 : (0 : Int) ≤ ((A.length + 1 : Nat) : Int) := by omega
 have d3 : ((A.length + 1 : Nat) : Int) < ((hpL (A ++ y :: x :: B)).length : Int) := by simp; omega
 have d4 : (-9223372036854775808 : Int) ≤ ((A.length + 1 : Nat) : Int) - 1 := by omega
 have d5 : ((A.length + 1 : Nat) : Int) - 1 ≤ (9223372036854775807 : Int) := by omega
 have d6 : (0 : Int) ≤ ((A.length + 1 : Nat) : Int) - 1 := by omega
 have d7 : ((A.length + 1 : Nat) : Int) - 1 < ((hpL (A ++ y :: x :: B)).length : Int) := by simp; omega
 unfold chain_happenings_8
 try unfold chain_happenings_6
 generalize hL : hpL (A ++ y :: x :: B) = L at *
 generalize ((A.length + 1 : Nat) : Int) = j at *
 simp only [x0, x1, x2, y0, y1, y2, c8, c9, d1, d2, d3, d4, d5, d6, d7, t1, t2, hsw, decide_true, Bool.and_self]
 simp only [cond_true]
 rw [t3]
 by_cases hlt : ltH x y
 ·rw [if_pos hlt]
  unfold ltH at hlt
  by_cases k1 : x.a < y.a
  ·simp [k1]
  ·have k4 : x.a = y.a := by omega
   have k5 : x.p < y.p := by omega
   simp [k4, k5]
 ·rw [if_neg hlt]
  unfold ltH at hlt
  have k1 : ¬ x.a < y.a := by omega
  by_cases k2 : y.a < x.a
  ·simp [k1, k2]
  ·have k4 : x.a = y.a := by omega
   have k5 : ¬ x.p < y.p := by omega
   simp [k4, k5]
theorem sort_in (n : Nat) (go0 : chain_happenings_s1 → Option chain_happenings_a) (i : Nat) (hi : i ≤ 100) (x : Hp) (S R : List Hp) (hS : SortedH S) (hl : S.length ≤ 100) : ∀ (m : Nat) (A B : List Hp), S = A ++ B → (∀ y ∈ B, ltH x y) → A.length < m →
  iterF (fun go1 s => chain_happenings_8 n go0 go1 (i : Int) s.1 s.2) m ((A.length : Int), hpL (A ++ x :: (B ++ R))) = go0 ((i : Int) + 1, hpL (ins x S ++ R)) := by
 intro m
 induction m with
 | zero => intro A B _ _ h; omega
 | succ m ih =>
  intro A B hAB hB hm
  rw [iterF_succ]
  rcases List.eq_nil_or_concat A with rfl | ⟨A', y, rfl⟩
  ·show chain_happenings_8 n go0 _ (i : Int) 0 _ = _
   rw [sort_stop n go0 _ i hi]
   have hS' : SortedH ([] ++ B) := hAB ▸ hS
   rw [hAB, ins_at hS' hB (fun y hy => by cases hy)]
   simp
  ·rw [List.concat_eq_append] at hAB hm ⊢
   have e1 : (A' ++ [y]) ++ x :: (B ++ R) = A' ++ y :: x :: (B ++ R) := by simp
   have e2 : ((A' ++ [y]).length : Int) = ((A'.length + 1 : Nat) : Int) := by simp
   rw [e1, e2]
   show chain_happenings_8 n go0 _ (i : Int) ((A'.length + 1 : Nat) : Int) (hpL (A' ++ y :: x :: (B ++ R))) = _
   have hA' : A'.length ≤ 100 := by rw [hAB] at hl; simp at hl; omega
   rw [sort_step n go0 _ i hi A' (B ++ R) x y hA']
   by_cases hxy : ltH x y
   ·rw [if_pos hxy]
    have := ih A' (y :: B) (by rw [hAB]; simp) (fun z hz => by
     rcases List.mem_cons.1 hz with rfl | hz
     ·exact hxy
     ·exact hB z hz) (by simp at hm; omega)
    rw [List.cons_append] at this
    exact this
   ·rw [if_neg hxy]
    have hS' : SortedH ((A' ++ [y]) ++ B) := hAB ▸ hS
    rw [hAB, ins_at hS' hB (fun z hz => by simp at hz; subst hz; exact hxy)]
    simp
theorem sort_all (n : Nat) (l : List Hp) (hl : l.length ≤ 19) (hn : 200 < n) : iterF (fun go0 s => chain_happenings_7 n go0 (hpL l) s.1 s.2) n ((1 : Int), hpL l) = some (hpL (isort l)) := by
 refine iterF_ind (fun s => ∃ i : Nat, s = ((i : Int), hpL (isort (l.take i) ++ l.drop i)) ∧ 1 ≤ i ∧ i ≤ l.length + 1) (fun s => l.length + 1 - s.1.toNat) _ ?_ n _ ⟨1, ?_, by omega, by omega⟩ (by simp; omega)
 ·rintro _ go ⟨i, rfl, h1, h2⟩ ih
  simp only
  unfold chain_happenings_7
  by_cases hlt : i < l.length
  ·have c1 : (i : Int) < ((hpL l).length : Int) := by rw [List.length_map]; omega
   obtain ⟨x, hx⟩ := get_lt hlt
   rw [decide_eq_true c1, cond_true, drop_cons hx]
   have hli : (isort (l.take i)).length = i := by rw [isort_len, List.length_take]; omega
   have := sort_in n go i (by omega) x (isort (l.take i)) (l.drop (i + 1)) (sorted_isort _) (by omega) n (isort (l.take i)) [] (by simp) (fun y hy => by cases hy) (by omega)
   rw [hli, List.nil_append] at this
   rw [this]
   exact ih _ ⟨i + 1, by rw [take_snoc hx, isort_snoc]; simp, by omega, by omega⟩ (by simp only; omega)
  ·have c1 : ¬ (i : Int) < ((hpL l).length : Int) := by rw [List.length_map]; omega
   have c2 : ¬ (20 : Int) < ((hpL l).length : Int) := by rw [List.length_map]; omega
   rw [decide_eq_false c1, cond_false, decide_eq_false c2, cond_false, List.take_of_length_le (by omega), List.drop_of_length_le (by omega), List.append_nil]
 ·cases l with
  | nil => rfl
  | cons x l => rfl
set_option maxRecDepth 100000
theorem ptsV_all {n : Int} {r : Rl} : ∀ {ps : List Pt} {last : Int}, PtsV n r last ps → ∀ p ∈ ps, p.c.n = n ∧ ClmV r p.c p.es
 | [], _, _, p, hp => by cases hp
 | q :: ps, _, h, p, hp => by
  rcases List.mem_cons.1 hp with rfl | hp
  ·exact ⟨h.1.1, h.1.2.1⟩
  ·exact ptsV_all h.2 p hp
theorem hpsFrom_drop {r : Rl} {ps : List Pt} {i : Nat} {p : Pt} (h : ps[i]? = some p) : hpsFrom r i (ps.drop i) = (timeline r p.c p.es).filterMap (hpOf i) ++ hpsFrom r (i + 1) (ps.drop (i + 1)) := by
 rw [drop_cons h]; rfl
theorem chain_happenings_v (n : Nat) (c : Ch) (h : ChV c) (hn : 200 < n) : chain_happenings n c.n c.f c.r.a c.r.c c.r.s c.r.r (evL c.life) (ptL c.ps) = some (hpL (hps c)) := by
 obtain ⟨_, _, _, _, _, h8, hP⟩ := h
 have htot := hpsFrom_len c.r c.ps 0
 unfold chain_happenings chain_happenings_1
 refine iterF_ind (fun s => ∃ (i : Nat) (A : List Hp), s = (hpL A, (i : Int)) ∧ i ≤ c.ps.length ∧ A ++ hpsFrom c.r i (c.ps.drop i) = hpsFrom c.r 0 c.ps) (fun s => c.ps.length - s.2.toNat) _ ?_ n _ ⟨0, [], rfl, by omega, by simp⟩ (by simp; omega)
 rintro _ go ⟨i, A, rfl, hi, hA⟩ ih
 simp only
 unfold chain_happenings_2
 by_cases hlt : i < c.ps.length
 ·obtain ⟨p, hp⟩ := get_lt hlt
  have hc : ∀ k, cA (ptL c.ps) (i : Int) k = (ptR p).getD k (.int 0) := fun k => cA_map (by simpa using hp)
  have g0 : cI (ptL c.ps) i 0 = p.c.n := by simp only [cI, hc]; rfl
  have g1 : cI (ptL c.ps) i 1 = p.c.f := by simp only [cI, hc]; rfl
  have g2 : cI (ptL c.ps) i 2 = p.c.t := by simp only [cI, hc]; rfl
  have g3 : cI (ptL c.ps) i 3 = p.c.h := by simp only [cI, hc]; rfl
  have g4 : cI (ptL c.ps) i 4 = p.c.a := by simp only [cI, hc]; rfl
  have g5 : cB (ptL c.ps) i 5 = p.c.b := by simp only [cB, hc]; rfl
  have g6 : cL (ptL c.ps) i 6 = ceL p.es := by simp only [cL, hc]; rfl
  have c1 : (i : Int) < ((ptL c.ps).length : Int) := by rw [List.length_map]; omega
  have c2 : (0 : Int) ≤ (i : Int) := by omega
  have hv := (ptsV_all hP p (List.mem_of_getElem? hp)).2
  rw [decide_eq_true c1, cond_true, decide_eq_true c2, cond_true, g0, g1, g2, g3, g4, g5, g6, claim_Timeline_v n c.r p.c p.es hn, if_pos hv, Option.bind_some]
  rw [hpsFrom_drop hp] at hA
  obtain ⟨T, hT⟩ : ∃ T, T = timeline c.r p.c p.es := ⟨_, rfl⟩
  have hTl : T.length ≤ 110 := by rw [hT]; exact timeline_len hv.2.2.1
  rw [← hT] at hA ⊢
  refine iterF_ind (fun s => ∃ (k : Nat) (B : List Hp), s = (hpL B, (k : Int)) ∧ k ≤ T.length ∧ B ++ (T.drop k).filterMap (hpOf i) = A ++ T.filterMap (hpOf i)) (fun s => T.length - s.2.toNat) _ ?_ n _ ⟨0, A, rfl, by omega, by simp⟩ (by simp; omega)
  rintro _ go1 ⟨k, B, rfl, hk, hB⟩ ih1
  simp only
  unfold chain_happenings_3
  have hBl : B.length ≤ 16 := by
   have e1 := congrArg List.length hB
   have e2 := congrArg List.length hA
   simp only [List.length_append] at e1 e2
   omega
  have c4 : (-9223372036854775808 : Int) ≤ (k : Int) + 1 := by omega
  have c5 : (k : Int) + 1 ≤ (9223372036854775807 : Int) := by omega
  have c6 : (-9223372036854775808 : Int) ≤ (i : Int) + 1 := by omega
  have c7 : (i : Int) + 1 ≤ (9223372036854775807 : Int) := by omega
  have c8 : (((hpL B).length : Int) + 1) * 24 ≤ 140737488355328 := by rw [List.length_map]; omega
  have c9 : (0 : Int) ≤ (k : Int) := by omega
  by_cases hkt : k < T.length
  ·obtain ⟨x, hx⟩ := get_lt hkt
   have hcx : ∀ j, cA (csL T) (k : Int) j = (csR x).getD j (.int 0) := fun j => cA_map (by simpa using hx)
   have x0 : cI (csL T) k 0 = x.s := by simp only [cI, hcx]; rfl
   have x1 : cI (csL T) k 1 = x.f := by simp only [cI, hcx]; rfl
   have c10 : (k : Int) < ((csL T).length : Int) := by rw [List.length_map]; omega
   rw [drop_cons hx, List.filterMap_cons] at hB
   rw [x0, x1, decide_eq_true c10, cond_true, decide_eq_true c9, cond_true]
   by_cases h4 : x.s = 4 ∨ x.s = 8
   ·have hh : hpOf i x = some ⟨x.f, i, decide (x.s = 8)⟩ := by unfold hpOf; rw [if_pos h4]
    rw [hh] at hB
    have hgo := ih1 _ ⟨k + 1, B ++ [⟨x.f, i, decide (x.s = 8)⟩], rfl, by omega, by rw [← hB]; simp⟩ (by simp only; omega)
    have e : hpL (B ++ [⟨x.f, i, decide (x.s = 8)⟩]) = hpL B ++ [[AV.int x.f, AV.int (i : Int), AV.bool (decide (x.s = 8))]] := by simp
    rw [e] at hgo
    rcases h4 with h4 | h4
    ·rw [decide_eq_true h4, cond_true, decide_eq_true c8, cond_true, decide_eq_true c4, decide_eq_true c5, Bool.and_self, cond_true]; exact hgo
    ·have h5 : ¬ x.s = 4 := by omega
     rw [decide_eq_false h5, cond_false, decide_eq_true h4, cond_true, decide_eq_true c8, cond_true, decide_eq_true c4, decide_eq_true c5, Bool.and_self, cond_true]
     rw [decide_eq_true h4] at hgo
     exact hgo
   ·have hh : hpOf i x = none := by unfold hpOf; rw [if_neg h4]
    rw [hh] at hB
    have h5 : ¬ x.s = 4 := fun h => h4 (.inl h)
    have h6 : ¬ x.s = 8 := fun h => h4 (.inr h)
    rw [decide_eq_false h5, cond_false, decide_eq_false h6, cond_false, decide_eq_true c4, decide_eq_true c5, Bool.and_self, cond_true]
    exact ih1 _ ⟨k + 1, B, rfl, by omega, hB⟩ (by simp only; omega)
  ·have hkk : k = T.length := by omega
   have c10 : ¬ (k : Int) < ((csL T).length : Int) := by rw [List.length_map]; omega
   rw [hkk, List.drop_length] at hB
   simp only [List.filterMap_nil, List.append_nil] at hB
   rw [decide_eq_false c10, cond_false, decide_eq_true c6, decide_eq_true c7, Bool.and_self, cond_true]
   exact ih _ ⟨i + 1, B, rfl, by omega, by rw [hB, List.append_assoc]; exact hA⟩ (by simp only; omega)
 ·have h00 : i = c.ps.length := by omega
  have c1 : ¬ (i : Int) < ((ptL c.ps).length : Int) := by rw [List.length_map]; omega
  rw [h00, List.drop_length] at hA
  have hA : A = hpsFrom c.r 0 c.ps := by simpa [hpsFrom] using hA
  have hl : A.length ≤ 19 := by rw [hA]; omega
  have c2 : ¬ (20 : Int) ≤ ((hpL A).length : Int) := by rw [List.length_map]; omega
  rw [decide_eq_false c1, cond_false]
  unfold chain_happenings_4
  rw [decide_eq_false c2, cond_false, sort_all n A hl hn, hA]
  rfl
end Go.Proofs.YtjllgiddmeiaoaaGreat
set_option maxRecDepth 100000
namespace Go.Proofs.YtjllgiddmeiaoaaGreat
open Go Go.Sx
noncomputable section
def consD6 : List Nat := [5, 6, 7, 8, 9, 10, 11, 12, 13, 14, 15, 16, 17, 18, 19, 20, 21, 22, 23, 24, 28, 29, 30, 31, 32, 33, 34, 35, 36, 37, 39, 41, 42, 43, 45, 47, 48, 49, 50, 51, 64, 66, 67, 69, 70, 73, 75, 76, 77, 79, 80, 81, 86, 88, 100, 101, 102, 103, 108, 111, 113, 114, 115, 132, 133, 142, 1000007, 1000008, 1000036, 1000037]
def mapsD6 : List (Nat × SV × SV) := [(117, SV.of [.agg (SV.of [.vi (.int 1), .vi (.int 1)]), .agg (SV.of [.vi (.int 2), .vi (.int 1)]), .agg (SV.of [.vi (.int 3), .vi (.int 2)]), .agg (SV.of [.vi (.int 4), .vi (.int 2)]), .agg (SV.of [.vi (.int 5), .vi (.int 1)]), .agg (SV.of [.vi (.int 5), .vi (.int 2)]), .agg (SV.of [.vi (.int 5), .vi (.int 3)]), .agg (SV.of [.vi (.int 6), .vi (.int 4)])], SV.of [.vi (.int 3), .vi (.int 2), .vi (.int 3), .vi (.int 6), .vi (.int 7), .vi (.int 7), .vi (.int 7), .vi (.int 8)])]
abbrev chain_Turns_a := Lv × Int
abbrev chain_Turns_s0 := Int × Int × Lv × Lv
abbrev chain_Turns_s1 := Int
abbrev chain_Turns_s2 := Bool × Lv × Lv
def chain_Turns_8 (n : Nat) (go0 : chain_Turns_s0 → Option chain_Turns_a) (go1 : chain_Turns_s1 → Option chain_Turns_a) (v1 : Int) (v7 v9 : Lv) (v11 : Int) (v12 v13 : Lv) (v15 v16 : Int) : Option chain_Turns_a :=
 (bif (decide (v15 = 1)) then (bif (decide (v16 = (cI v7 (cI v9 v11 1) 3))) then bif (decide ((((v13.length : Int) + 1) * 8) ≤ 140737488355328)) then bif (decide (0 ≤ ((v13.length : Int) + 1))) then (bif (decide (0 < ((v13.length : Int) + 1))) then bif ((decide ((-9223372036854775808) ≤ (((v13.length : Int) + 1) - 1))) && (decide ((((v13.length : Int) + 1) - 1) ≤ 9223372036854775807))) then bif (decide (0 ≤ (((v13.length : Int) + 1) - 1))) then bif (decide ((((v13.length : Int) + 1) - 1) < ((v13.length : Int) + 1))) then bif (decide (0 ≤ (cI (v13 ++ [[(AV.int (cI v9 v11 1))]]) (((v13.length : Int) + 1) - 1) 0))) then bif (decide ((cI (v13 ++ [[(AV.int (cI v9 v11 1))]]) (((v13.length : Int) + 1) - 1) 0) < (v7.length : Int))) then bif (decide ((((v12.length : Int) + 1) * 24) ≤ 140737488355328)) then bif ((decide ((-9223372036854775808) ≤ (v11 + 1))) && (decide ((v11 + 1) ≤ 9223372036854775807))) then go0 ((cI v7 (cI (v13 ++ [[(AV.int (cI v9 v11 1))]]) (((v13.length : Int) + 1) - 1) 0) 2), (v11 + 1), (v12 ++ [[(AV.int (cI v9 v11 0)), (AV.int (cI v9 v11 1)), (AV.int 1)]]), (v13 ++ [[(AV.int (cI v9 v11 1))]])) else none else none else none else none else none else none else none
 else bif (decide ((((v12.length : Int) + 1) * 24) ≤ 140737488355328)) then bif ((decide ((-9223372036854775808) ≤ (v11 + 1))) && (decide ((v11 + 1) ≤ 9223372036854775807))) then go0 (v1, (v11 + 1), (v12 ++ [[(AV.int (cI v9 v11 0)), (AV.int (cI v9 v11 1)), (AV.int 1)]]), (v13 ++ [[(AV.int (cI v9 v11 1))]])) else none else none) else none else none
 else bif (decide (0 ≤ (v13.length : Int))) then bif (decide (((v13.length : Int) * 8) ≤ 140737488355328)) then (bif (decide (0 < (v13.length : Int))) then bif ((decide ((-9223372036854775808) ≤ ((v13.length : Int) - 1))) && (decide (((v13.length : Int) - 1) ≤ 9223372036854775807))) then bif (decide (0 ≤ ((v13.length : Int) - 1))) then bif (decide (((v13.length : Int) - 1) < (v13.length : Int))) then bif (decide (0 ≤ (cI v13 ((v13.length : Int) - 1) 0))) then bif (decide ((cI v13 ((v13.length : Int) - 1) 0) < (v7.length : Int))) then bif (decide ((((v12.length : Int) + 1) * 24) ≤ 140737488355328)) then bif ((decide ((-9223372036854775808) ≤ (v11 + 1))) && (decide ((v11 + 1) ≤ 9223372036854775807))) then go0 ((cI v7 (cI v13 ((v13.length : Int) - 1) 0) 2), (v11 + 1), (v12 ++ [[(AV.int (cI v9 v11 0)), (AV.int (cI v9 v11 1)), (AV.int 2)]]), v13) else none else none else none else none else none else none else none
 else bif (decide ((((v12.length : Int) + 1) * 24) ≤ 140737488355328)) then bif ((decide ((-9223372036854775808) ≤ (v11 + 1))) && (decide ((v11 + 1) ≤ 9223372036854775807))) then go0 (v1, (v11 + 1), (v12 ++ [[(AV.int (cI v9 v11 0)), (AV.int (cI v9 v11 1)), (AV.int 2)]]), v13) else none else none) else none else none)
 else bif (decide (0 ≤ (v13.length : Int))) then bif (decide (((v13.length : Int) * 8) ≤ 140737488355328)) then (bif (decide (0 < (v13.length : Int))) then bif ((decide ((-9223372036854775808) ≤ ((v13.length : Int) - 1))) && (decide (((v13.length : Int) - 1) ≤ 9223372036854775807))) then bif (decide (0 ≤ ((v13.length : Int) - 1))) then bif (decide (((v13.length : Int) - 1) < (v13.length : Int))) then bif (decide (0 ≤ (cI v13 ((v13.length : Int) - 1) 0))) then bif (decide ((cI v13 ((v13.length : Int) - 1) 0) < (v7.length : Int))) then bif (decide ((((v12.length : Int) + 1) * 24) ≤ 140737488355328)) then bif ((decide ((-9223372036854775808) ≤ (v11 + 1))) && (decide ((v11 + 1) ≤ 9223372036854775807))) then go0 ((cI v7 (cI v13 ((v13.length : Int) - 1) 0) 2), (v11 + 1), (v12 ++ [[(AV.int (cI v9 v11 0)), (AV.int (cI v9 v11 1)), (AV.int 2)]]), v13) else none else none else none else none else none else none else none
 else bif (decide ((((v12.length : Int) + 1) * 24) ≤ 140737488355328)) then bif ((decide ((-9223372036854775808) ≤ (v11 + 1))) && (decide ((v11 + 1) ≤ 9223372036854775807))) then go0 (v1, (v11 + 1), (v12 ++ [[(AV.int (cI v9 v11 0)), (AV.int (cI v9 v11 1)), (AV.int 2)]]), v13) else none else none) else none else none)
def chain_Turns_7 (n : Nat) (go0 : chain_Turns_s0 → Option chain_Turns_a) (go1 : chain_Turns_s1 → Option chain_Turns_a) (v1 : Int) (v7 v9 : Lv) (v10 v11 : Int) (v12 v13 : Lv) (v15 v16 : Int) : Option chain_Turns_a :=
 (bif (decide (v10 = (cI v7 (cI v9 v11 1) 1))) then chain_Turns_8 n go0 go1 v1 v7 v9 v11 v12 v13 v15 v16
 else bif (decide (0 ≤ (v13.length : Int))) then bif (decide (((v13.length : Int) * 8) ≤ 140737488355328)) then (bif (decide (0 < (v13.length : Int))) then bif ((decide ((-9223372036854775808) ≤ ((v13.length : Int) - 1))) && (decide (((v13.length : Int) - 1) ≤ 9223372036854775807))) then bif (decide (0 ≤ ((v13.length : Int) - 1))) then bif (decide (((v13.length : Int) - 1) < (v13.length : Int))) then bif (decide (0 ≤ (cI v13 ((v13.length : Int) - 1) 0))) then bif (decide ((cI v13 ((v13.length : Int) - 1) 0) < (v7.length : Int))) then bif (decide ((((v12.length : Int) + 1) * 24) ≤ 140737488355328)) then bif ((decide ((-9223372036854775808) ≤ (v11 + 1))) && (decide ((v11 + 1) ≤ 9223372036854775807))) then go0 ((cI v7 (cI v13 ((v13.length : Int) - 1) 0) 2), (v11 + 1), (v12 ++ [[(AV.int (cI v9 v11 0)), (AV.int (cI v9 v11 1)), (AV.int 2)]]), v13) else none else none else none else none else none else none else none
 else bif (decide ((((v12.length : Int) + 1) * 24) ≤ 140737488355328)) then bif ((decide ((-9223372036854775808) ≤ (v11 + 1))) && (decide ((v11 + 1) ≤ 9223372036854775807))) then go0 (v1, (v11 + 1), (v12 ++ [[(AV.int (cI v9 v11 0)), (AV.int (cI v9 v11 1)), (AV.int 2)]]), v13) else none else none) else none else none)
def chain_Turns_10 (n : Nat) (go0 : chain_Turns_s0 → Option chain_Turns_a) (go1 : chain_Turns_s2 → Option chain_Turns_a) (v1 : Int) (v7 v9 : Lv) (v11 v14 : Int) (v15 : Bool) (v16 v17 : Lv) : Option chain_Turns_a :=
 (bif v15 then (bif (decide (v14 < (v17.length : Int))) then bif ((decide ((-9223372036854775808) ≤ ((v17.length : Int) - 1))) && (decide (((v17.length : Int) - 1) ≤ 9223372036854775807))) then bif (decide (0 ≤ ((v17.length : Int) - 1))) then bif (decide (((v17.length : Int) - 1) < (v17.length : Int))) then (bif (decide ((cI v17 ((v17.length : Int) - 1) 0) = (cI v9 v11 1))) then bif (decide (((v17.length : Int) - 1) ≤ (v17.length : Int))) then bif (decide (0 ≤ ((List.take (((v17.length : Int) - 1)).toNat v17).length : Int))) then bif (decide ((((List.take (((v17.length : Int) - 1)).toNat v17).length : Int) * 8) ≤ 140737488355328)) then (bif (decide (0 < ((List.take (((v17.length : Int) - 1)).toNat v17).length : Int))) then bif ((decide ((-9223372036854775808) ≤ (((List.take (((v17.length : Int) - 1)).toNat v17).length : Int) - 1))) && (decide ((((List.take (((v17.length : Int) - 1)).toNat v17).length : Int) - 1) ≤ 9223372036854775807))) then bif (decide (0 ≤ (((List.take (((v17.length : Int) - 1)).toNat v17).length : Int) - 1))) then bif (decide ((((List.take (((v17.length : Int) - 1)).toNat v17).length : Int) - 1) < ((List.take (((v17.length : Int) - 1)).toNat v17).length : Int))) then bif (decide (0 ≤ (cI (List.take (((v17.length : Int) - 1)).toNat v17) (((List.take (((v17.length : Int) - 1)).toNat v17).length : Int) - 1) 0))) then bif (decide ((cI (List.take (((v17.length : Int) - 1)).toNat v17) (((List.take (((v17.length : Int) - 1)).toNat v17).length : Int) - 1) 0) < (v7.length : Int))) then bif (decide ((((v16.length : Int) + 1) * 24) ≤ 140737488355328)) then go1 (true, (v16 ++ [[(AV.int (cI v9 v11 0)), (AV.int (cI v17 ((v17.length : Int) - 1) 0)), (AV.int 3)]]), (List.take (((v17.length : Int) - 1)).toNat v17)) else none else none else none else none else none else none
 else bif (decide ((((v16.length : Int) + 1) * 24) ≤ 140737488355328)) then go1 (true, (v16 ++ [[(AV.int (cI v9 v11 0)), (AV.int (cI v17 ((v17.length : Int) - 1) 0)), (AV.int 3)]]), (List.take (((v17.length : Int) - 1)).toNat v17)) else none) else none else none else none
 else bif (decide (((v17.length : Int) - 1) ≤ (v17.length : Int))) then bif (decide (0 ≤ ((List.take (((v17.length : Int) - 1)).toNat v17).length : Int))) then bif (decide ((((List.take (((v17.length : Int) - 1)).toNat v17).length : Int) * 8) ≤ 140737488355328)) then (bif (decide (0 < ((List.take (((v17.length : Int) - 1)).toNat v17).length : Int))) then bif ((decide ((-9223372036854775808) ≤ (((List.take (((v17.length : Int) - 1)).toNat v17).length : Int) - 1))) && (decide ((((List.take (((v17.length : Int) - 1)).toNat v17).length : Int) - 1) ≤ 9223372036854775807))) then bif (decide (0 ≤ (((List.take (((v17.length : Int) - 1)).toNat v17).length : Int) - 1))) then bif (decide ((((List.take (((v17.length : Int) - 1)).toNat v17).length : Int) - 1) < ((List.take (((v17.length : Int) - 1)).toNat v17).length : Int))) then bif (decide (0 ≤ (cI (List.take (((v17.length : Int) - 1)).toNat v17) (((List.take (((v17.length : Int) - 1)).toNat v17).length : Int) - 1) 0))) then bif (decide ((cI (List.take (((v17.length : Int) - 1)).toNat v17) (((List.take (((v17.length : Int) - 1)).toNat v17).length : Int) - 1) 0) < (v7.length : Int))) then bif (decide ((((v16.length : Int) + 1) * 24) ≤ 140737488355328)) then go1 (true, (v16 ++ [[(AV.int (cI v9 v11 0)), (AV.int (cI v17 ((v17.length : Int) - 1) 0)), (AV.int 4)]]), (List.take (((v17.length : Int) - 1)).toNat v17)) else none else none else none else none else none else none
 else bif (decide ((((v16.length : Int) + 1) * 24) ≤ 140737488355328)) then go1 (true, (v16 ++ [[(AV.int (cI v9 v11 0)), (AV.int (cI v17 ((v17.length : Int) - 1) 0)), (AV.int 4)]]), (List.take (((v17.length : Int) - 1)).toNat v17)) else none) else none else none else none) else none else none else none
 else (bif (decide (0 < (v17.length : Int))) then bif ((decide ((-9223372036854775808) ≤ ((v17.length : Int) - 1))) && (decide (((v17.length : Int) - 1) ≤ 9223372036854775807))) then bif (decide (0 ≤ ((v17.length : Int) - 1))) then bif (decide (((v17.length : Int) - 1) < (v17.length : Int))) then bif (decide (0 ≤ (cI v17 ((v17.length : Int) - 1) 0))) then bif (decide ((cI v17 ((v17.length : Int) - 1) 0) < (v7.length : Int))) then bif ((decide ((-9223372036854775808) ≤ (v11 + 1))) && (decide ((v11 + 1) ≤ 9223372036854775807))) then go0 ((cI v7 (cI v17 ((v17.length : Int) - 1) 0) 2), (v11 + 1), v16, v17) else none else none else none else none else none else none
 else bif ((decide ((-9223372036854775808) ≤ (v11 + 1))) && (decide ((v11 + 1) ≤ 9223372036854775807))) then go0 (v1, (v11 + 1), v16, v17) else none))
 else some (v16, 0))
def chain_Turns_9 (n : Nat) (go0 : chain_Turns_s0 → Option chain_Turns_a) (go1 : chain_Turns_s1 → Option chain_Turns_a) (v1 : Int) (v7 v9 : Lv) (v11 : Int) (v12 v13 : Lv) (v14 : Int) : Option chain_Turns_a :=
 (bif (decide (v14 < 0)) then bif (decide (0 ≤ (v13.length : Int))) then bif (decide (((v13.length : Int) * 8) ≤ 140737488355328)) then (bif (decide (0 < (v13.length : Int))) then bif ((decide ((-9223372036854775808) ≤ ((v13.length : Int) - 1))) && (decide (((v13.length : Int) - 1) ≤ 9223372036854775807))) then bif (decide (0 ≤ ((v13.length : Int) - 1))) then bif (decide (((v13.length : Int) - 1) < (v13.length : Int))) then bif (decide (0 ≤ (cI v13 ((v13.length : Int) - 1) 0))) then bif (decide ((cI v13 ((v13.length : Int) - 1) 0) < (v7.length : Int))) then bif (decide ((((v12.length : Int) + 1) * 24) ≤ 140737488355328)) then bif ((decide ((-9223372036854775808) ≤ (v11 + 1))) && (decide ((v11 + 1) ≤ 9223372036854775807))) then go0 ((cI v7 (cI v13 ((v13.length : Int) - 1) 0) 2), (v11 + 1), (v12 ++ [[(AV.int (cI v9 v11 0)), (AV.int (cI v9 v11 1)), (AV.int 5)]]), v13) else none else none else none else none else none else none else none
 else bif (decide ((((v12.length : Int) + 1) * 24) ≤ 140737488355328)) then bif ((decide ((-9223372036854775808) ≤ (v11 + 1))) && (decide ((v11 + 1) ≤ 9223372036854775807))) then go0 (v1, (v11 + 1), (v12 ++ [[(AV.int (cI v9 v11 0)), (AV.int (cI v9 v11 1)), (AV.int 5)]]), v13) else none else none) else none else none
 else (iterF (fun go1 s => chain_Turns_10 n go0 go1 v1 v7 v9 v11 v14 s.1 s.2.1 s.2.2) n ((true, v12, v13) : chain_Turns_s2)))
def chain_Turns_6 (n : Nat) (go0 : chain_Turns_s0 → Option chain_Turns_a) (go1 : chain_Turns_s1 → Option chain_Turns_a) (v1 : Int) (v6 v7 v9 : Lv) (v10 v11 : Int) (v12 v13 : Lv) (v14 : Int) : Option chain_Turns_a :=
 (bif (!(cB v9 v11 2)) then (life_At n v6 (imin (cI v9 v11 0) 10000000)).bind fun y15 =>
 chain_Turns_7 n go0 go1 v1 v7 v9 v10 v11 v12 v13 y15.1 y15.2.1
 else chain_Turns_9 n go0 go1 v1 v7 v9 v11 v12 v13 v14)
def chain_Turns_5 (n : Nat) (go0 : chain_Turns_s0 → Option chain_Turns_a) (go1 : chain_Turns_s1 → Option chain_Turns_a) (v1 : Int) (v6 v7 v9 : Lv) (v10 v11 : Int) (v12 v13 : Lv) (v14 : Int) : Option chain_Turns_a :=
 (bif (decide ((cI v9 v11 1) = (cI v13 v14 0))) then bif (decide (0 ≤ (cI v9 v11 1))) then bif (decide ((cI v9 v11 1) < (v7.length : Int))) then chain_Turns_6 n go0 go1 v1 v6 v7 v9 v10 v11 v12 v13 v14 else none else none
 else bif ((decide ((-9223372036854775808) ≤ (v14 + 1))) && (decide ((v14 + 1) ≤ 9223372036854775807))) then go1 (v14 + 1) else none)
abbrev chain_Turns_12 := @chain_Turns_7
def chain_Turns_11 (n : Nat) (go0 : chain_Turns_s0 → Option chain_Turns_a) (go1 : chain_Turns_s1 → Option chain_Turns_a) (v1 : Int) (v6 v7 v9 : Lv) (v10 v11 : Int) (v12 v13 : Lv) : Option chain_Turns_a :=
 (bif (!(cB v9 v11 2)) then (life_At n v6 (imin (cI v9 v11 0) 10000000)).bind fun y15 =>
 chain_Turns_12 n go0 go1 v1 v7 v9 v10 v11 v12 v13 y15.1 y15.2.1
 else bif (decide (0 ≤ (v13.length : Int))) then bif (decide (((v13.length : Int) * 8) ≤ 140737488355328)) then (bif (decide (0 < (v13.length : Int))) then bif ((decide ((-9223372036854775808) ≤ ((v13.length : Int) - 1))) && (decide (((v13.length : Int) - 1) ≤ 9223372036854775807))) then bif (decide (0 ≤ ((v13.length : Int) - 1))) then bif (decide (((v13.length : Int) - 1) < (v13.length : Int))) then bif (decide (0 ≤ (cI v13 ((v13.length : Int) - 1) 0))) then bif (decide ((cI v13 ((v13.length : Int) - 1) 0) < (v7.length : Int))) then bif (decide ((((v12.length : Int) + 1) * 24) ≤ 140737488355328)) then bif ((decide ((-9223372036854775808) ≤ (v11 + 1))) && (decide ((v11 + 1) ≤ 9223372036854775807))) then go0 ((cI v7 (cI v13 ((v13.length : Int) - 1) 0) 2), (v11 + 1), (v12 ++ [[(AV.int (cI v9 v11 0)), (AV.int (cI v9 v11 1)), (AV.int 5)]]), v13) else none else none else none else none else none else none else none
 else bif (decide ((((v12.length : Int) + 1) * 24) ≤ 140737488355328)) then bif ((decide ((-9223372036854775808) ≤ (v11 + 1))) && (decide ((v11 + 1) ≤ 9223372036854775807))) then go0 (v1, (v11 + 1), (v12 ++ [[(AV.int (cI v9 v11 0)), (AV.int (cI v9 v11 1)), (AV.int 5)]]), v13) else none else none) else none else none)
def chain_Turns_4 (n : Nat) (go0 : chain_Turns_s0 → Option chain_Turns_a) (go1 : chain_Turns_s1 → Option chain_Turns_a) (v1 : Int) (v6 v7 v9 : Lv) (v10 v11 : Int) (v12 v13 : Lv) (v14 : Int) : Option chain_Turns_a :=
 (bif (decide (v14 < (v13.length : Int))) then bif (decide (0 ≤ v14)) then chain_Turns_5 n go0 go1 v1 v6 v7 v9 v10 v11 v12 v13 v14 else none
 else bif (decide (0 ≤ (cI v9 v11 1))) then bif (decide ((cI v9 v11 1) < (v7.length : Int))) then chain_Turns_11 n go0 go1 v1 v6 v7 v9 v10 v11 v12 v13 else none else none)
def chain_Turns_3 (n : Nat) (go0 : chain_Turns_s0 → Option chain_Turns_a) (v1 : Int) (v6 v7 v9 : Lv) (v10 v11 : Int) (v12 v13 : Lv) : Option chain_Turns_a :=
 (bif (decide (v11 < (v9.length : Int))) then bif (decide (0 ≤ v11)) then (iterF (fun go1 s => chain_Turns_4 n go0 go1 v1 v6 v7 v9 v10 v11 v12 v13 s) n (0 : chain_Turns_s1)) else none
 else some (v12, 0))
def chain_Turns_2 (n : Nat) (v0 v1 v2 v3 v4 v5 : Int) (v6 v7 : Lv) (v8 : Bool) : Option chain_Turns_a :=
 (bif (!v8) then some (([] : Lv), 170)
 else (chain_happenings n v0 v1 v2 v3 v4 v5 v6 v7).bind fun y9 =>
 (iterF (fun go0 s => chain_Turns_3 n go0 v1 v6 v7 y9 s.1 s.2.1 s.2.2.1 s.2.2.2) n ((v1, 0, ([] : Lv), ([] : Lv)) : chain_Turns_s0)))
def chain_Turns_1 (n : Nat) (v0 v1 v2 v3 v4 v5 : Int) (v6 v7 : Lv) : Option chain_Turns_a :=
 (chain_Valid n v0 v1 v2 v3 v4 v5 v6 v7).bind fun y8 =>
 chain_Turns_2 n v0 v1 v2 v3 v4 v5 v6 v7 y8
def chain_Turns (n : Nat) (v0 v1 v2 v3 v4 v5 : Int) (v6 v7 : Lv) : Option chain_Turns_a := chain_Turns_1 n v0 v1 v2 v3 v4 v5 v6 v7
def chain_Turns_t : FnT := ⟨[(true, [.int, .int, .int, .int, .int, .int, (.sl (.cons .int (.cons .int (.cons .int .nil)))), (.sl (.cons .int (.cons .int (.cons .int (.cons .int (.cons .int (.cons .bool (.cons (.sl (.cons .int (.cons .int (.cons .int .nil)))) .nil))))))))])], (.tup (.cons (.row 66 (.cons .int (.cons .int (.cons .int .nil)))) (.cons .i .nil))), fun n (s : Int × Int × Int × Int × Int × Int × Lv × Lv) => chain_Turns n s.1 s.2.1 s.2.2.1 s.2.2.2.1 s.2.2.2.2.1 s.2.2.2.2.2.1 s.2.2.2.2.2.2.1 s.2.2.2.2.2.2.2⟩
theorem chain_Turns_ok : chain_Turns_t.ok Tryz.prog 9 := FnT.ok_of (cfg := ⟨[((71, 5, 7), .inv [(.tmp 5 .int), (.tmp 22 .int), (.cellrow 1 0 66 (.cons .int (.cons .int (.cons .int .nil)))), (.cellrow 5 0 3 (.cons .int .nil))]), ((74, 2, 13), .inv [(.tmp 8 .int)]), ((71, 10, 16), .inv [(.tmp 10 .bool), (.cellrow 1 0 66 (.cons .int (.cons .int (.cons .int .nil)))), (.cellrow 5 0 3 (.cons .int .nil))])], consD6, [(71, 15), (11, 8)], mapsD6⟩) (tab := chain_happenings_T) (mt := mtE) pfit chain_happenings_T_ok mtE_ok (fun s fn hf => by rw [Tryz.func9] at hf; cases hf; kernel_rfl) (fun n s => by kernel_rfl)
def chain_Turns_T : Tab := (9, chain_Turns_t) :: chain_happenings_T
theorem chain_Turns_T_ok : chain_Turns_T.ok Tryz.prog := Tab.ok_cons chain_Turns_ok chain_happenings_T_ok
abbrev chain_Open_a := Lv × Int
abbrev chain_Open_s0 := Lv × Int
def chain_Open_2 (n : Nat) (go0 : chain_Open_s0 → Option chain_Open_a) (v2 v3 v4 v5 : Int) (v7 : Lv) (v8 : Int) (v10 : Lv) (v11 : Int) : Option chain_Open_a :=
 (bif (decide (v11 < (v7.length : Int))) then bif (decide (0 ≤ v11)) then (claim_Outcome n v2 v3 v4 v5 (cI v7 v11 0) (cI v7 v11 1) (cI v7 v11 2) (cI v7 v11 3) (cI v7 v11 4) (cB v7 v11 5) (cL v7 v11 6) v8).bind fun y12 =>
 (bif (decide (1 ≤ y12.1)) then (bif (decide (y12.1 ≤ 4)) then bif (decide ((((v10.length : Int) + 1) * 8) ≤ 140737488355328)) then bif ((decide ((-9223372036854775808) ≤ (v11 + 1))) && (decide ((v11 + 1) ≤ 9223372036854775807))) then go0 ((v10 ++ [[(AV.int v11)]]), (v11 + 1)) else none else none
 else bif ((decide ((-9223372036854775808) ≤ (v11 + 1))) && (decide ((v11 + 1) ≤ 9223372036854775807))) then go0 (v10, (v11 + 1)) else none)
 else bif ((decide ((-9223372036854775808) ≤ (v11 + 1))) && (decide ((v11 + 1) ≤ 9223372036854775807))) then go0 (v10, (v11 + 1)) else none) else none
 else some (v10, 0))
def chain_Open_1 (n : Nat) (v0 v1 v2 v3 v4 v5 : Int) (v6 v7 : Lv) (v8 : Int) : Option chain_Open_a :=
 (chain_Valid n v0 v1 v2 v3 v4 v5 v6 v7).bind fun y9 =>
 (bif (!y9) then some (([] : Lv), 170)
 else (bif (decide (0 ≤ v8)) then (bif (!(decide (v8 ≤ 20000000))) then some (([] : Lv), 170)
 else (iterF (fun go0 s => chain_Open_2 n go0 v2 v3 v4 v5 v7 v8 s.1 s.2) n ((([] : Lv), 0) : chain_Open_s0)))
 else some (([] : Lv), 170)))
def chain_Open (n : Nat) (v0 v1 v2 v3 v4 v5 : Int) (v6 v7 : Lv) (v8 : Int) : Option chain_Open_a := chain_Open_1 n v0 v1 v2 v3 v4 v5 v6 v7 v8
def chain_Open_t : FnT := ⟨[(true, [.int, .int, .int, .int, .int, .int, (.sl (.cons .int (.cons .int (.cons .int .nil)))), (.sl (.cons .int (.cons .int (.cons .int (.cons .int (.cons .int (.cons .bool (.cons (.sl (.cons .int (.cons .int (.cons .int .nil)))) .nil))))))))]), (false, [.int])], (.tup (.cons (.row 3 (.cons .int .nil)) (.cons .i .nil))), fun n (s : Int × Int × Int × Int × Int × Int × Lv × Lv × Int) => chain_Open n s.1 s.2.1 s.2.2.1 s.2.2.2.1 s.2.2.2.2.1 s.2.2.2.2.2.1 s.2.2.2.2.2.2.1 s.2.2.2.2.2.2.2.1 s.2.2.2.2.2.2.2.2⟩
theorem chain_Open_ok : chain_Open_t.ok Tryz.prog 22 := FnT.ok_of (cfg := ⟨[((22, 5, 1), .inv [(.tmprow 6 3 (.cons .int .nil)), (.tmp 22 .int)])], consD6, [], mapsD6⟩) (tab := chain_Turns_T) (mt := mtE) pfit chain_Turns_T_ok mtE_ok (fun s fn hf => by rw [Tryz.func22] at hf; cases hf; kernel_rfl) (fun n s => by kernel_rfl)
def chain_Open_T : Tab := (22, chain_Open_t) :: chain_Turns_T
theorem chain_Open_T_ok : chain_Open_T.ok Tryz.prog := Tab.ok_cons chain_Open_ok chain_Turns_T_ok
abbrev chain_Settled_a := Int × Int
abbrev chain_Settled_s0 := Int × Int
def chain_Settled_2 (n : Nat) (go0 : chain_Settled_s0 → Option chain_Settled_a) (v2 v3 v4 v5 : Int) (v7 : Lv) (v9 v10 : Int) : Option chain_Settled_a :=
 (bif (decide (v10 < (v7.length : Int))) then bif (decide (0 ≤ v10)) then (claim_Ends n v2 v3 v4 v5 (cI v7 v10 0) (cI v7 v10 1) (cI v7 v10 2) (cI v7 v10 3) (cI v7 v10 4) (cB v7 v10 5)).bind fun y11 =>
 bif ((decide ((-9223372036854775808) ≤ (v10 + 1))) && (decide ((v10 + 1) ≤ 9223372036854775807))) then go0 ((imax v9 y11.1), (v10 + 1)) else none else none
 else some (v9, 0))
def chain_Settled_1 (n : Nat) (v0 v1 v2 v3 v4 v5 : Int) (v6 v7 : Lv) : Option chain_Settled_a :=
 (chain_Valid n v0 v1 v2 v3 v4 v5 v6 v7).bind fun y8 =>
 (bif (!y8) then some (0, 170)
 else (iterF (fun go0 s => chain_Settled_2 n go0 v2 v3 v4 v5 v7 s.1 s.2) n ((0, 0) : chain_Settled_s0)))
def chain_Settled (n : Nat) (v0 v1 v2 v3 v4 v5 : Int) (v6 v7 : Lv) : Option chain_Settled_a := chain_Settled_1 n v0 v1 v2 v3 v4 v5 v6 v7
def chain_Settled_t : FnT := ⟨[(true, [.int, .int, .int, .int, .int, .int, (.sl (.cons .int (.cons .int (.cons .int .nil)))), (.sl (.cons .int (.cons .int (.cons .int (.cons .int (.cons .int (.cons .bool (.cons (.sl (.cons .int (.cons .int (.cons .int .nil)))) .nil))))))))])], (.tup (.cons .i (.cons .i .nil))), fun n (s : Int × Int × Int × Int × Int × Int × Lv × Lv) => chain_Settled n s.1 s.2.1 s.2.2.1 s.2.2.2.1 s.2.2.2.2.1 s.2.2.2.2.2.1 s.2.2.2.2.2.2.1 s.2.2.2.2.2.2.2⟩
theorem chain_Settled_ok : chain_Settled_t.ok Tryz.prog 13 := FnT.ok_of (cfg := ⟨[((13, 5, 1), .inv [(.tmp 4 .int), (.tmp 15 .int)])], consD6, [], mapsD6⟩) (tab := chain_Open_T) (mt := mtE) pfit chain_Open_T_ok mtE_ok (fun s fn hf => by rw [Tryz.func13] at hf; cases hf; kernel_rfl) (fun n s => by kernel_rfl)
def chain_Settled_T : Tab := (13, chain_Settled_t) :: chain_Open_T
theorem chain_Settled_T_ok : chain_Settled_T.ok Tryz.prog := Tab.ok_cons chain_Settled_ok chain_Open_T_ok
end
end Go.Proofs.YtjllgiddmeiaoaaGreat
set_option maxRecDepth 100000
namespace Go.Proofs.YtjllgiddmeiaoaaGreat
open Go Go.Sx Go.Dial.Clm Go.Dial.Lif Go.Dial.Chn
section
variable (c : Ch)
theorem port_cells {ps : List Pt} {i : Nat} {p : Pt} (hp : ps[i]? = some p) : cI (ptL ps) i 0 = p.c.n ∧ cI (ptL ps) i 1 = p.c.f ∧ cI (ptL ps) i 2 = p.c.t ∧ cI (ptL ps) i 3 = p.c.h ∧ cI (ptL ps) i 4 = p.c.a ∧ cB (ptL ps) i 5 = p.c.b ∧ cL (ptL ps) i 6 = ceL p.es := by
 have hc : ∀ k, cA (ptL ps) (i : Int) k = (ptR p).getD k (.int 0) := fun k => cA_map (by simpa using hp)
 refine ⟨?_, ?_, ?_, ?_, ?_, ?_, ?_⟩ <;> simp only [cI, cB, cL, hc] <;> rfl
end
end Go.Proofs.YtjllgiddmeiaoaaGreat
namespace Go.Dial.Chn
open Go.Dial.Clm Go.Dial.Lif
def noPt : Pt := ⟨⟨0, 0, 0, 0, 0, false⟩, []⟩
def portAt (c : Ch) (i : Int) : Pt := (c.ps[i.toNat]?).getD noPt
def withV (c : Ch) : List Int → Int
 | [] => c.f
 | x :: _ => (portAt c x).c.t
structure Mo where
 a : Int
 p : Int
 k : Int
 G : List Int
def Takes (c : Ch) (G : List Int) (h : Hp) : Prop := withV c G = (portAt c h.p).c.f ∧ (atL c.life (min h.a 10000000)).s = 1 ∧ (atL c.life (min h.a 10000000)).h = (portAt c h.p).c.h
instance (c : Ch) (G : List Int) (h : Hp) : Decidable (Takes c G h) := by unfold Takes; infer_instance
def pops (a p : Int) : List Int → List Mo
 | [] => []
 | x :: G => if p ∈ x :: G then ⟨a, x, if x = p then 3 else 4, G⟩ :: pops a p G else []
def popd (p : Int) : List Int → List Int
 | [] => []
 | x :: G => if p ∈ x :: G then popd p G else x :: G
def momsH (c : Ch) (G : List Int) (h : Hp) : List Mo :=
 if h.b = true then (if h.p ∈ G then pops h.a h.p G else [⟨h.a, h.p, 5, G⟩]) else if Takes c G h then [⟨h.a, h.p, 1, h.p :: G⟩] else [⟨h.a, h.p, 2, G⟩]
def aftH (c : Ch) (G : List Int) (h : Hp) : List Int := if h.b = true then popd h.p G else if Takes c G h then h.p :: G else G
def moms (c : Ch) : List Int → List Hp → List Mo
 | _, [] => []
 | G, h :: l => momsH c G h ++ moms c (aftH c G h) l
def force (c : Ch) (G : List Int) (l : List Hp) : List Int := l.foldl (aftH c) G
def turnsV (c : Ch) : List Mo := moms c [] (hps c)
def forceAt (c : Ch) (t : Int) : List Int := force c [] ((hps c).takeWhile fun h => decide (h.a ≤ t))
structure Hd where
 c : Int
 f : Int
 t : Int
deriving DecidableEq
theorem popd_no {p : Int} {G : List Int} (h : p ∉ G) : popd p G = G := by
 cases G with
 | nil => rfl
 | cons x G => unfold popd; rw [if_neg h]
theorem popd_len (p : Int) (G : List Int) : (popd p G).length ≤ G.length := by
 induction G with
 | nil => simp [popd]
 | cons x G ih => unfold popd; split <;> simp; omega
theorem pops_len (a p : Int) (G : List Int) : (pops a p G).length = G.length - (popd p G).length := by
 induction G with
 | nil => rfl
 | cons x G ih =>
  unfold pops popd
  have := popd_len p G
  split
  ·simp only [List.length_cons, ih]; omega
  ·simp
theorem popd_mem {p x : Int} {G : List Int} (h : x ∈ popd p G) : x ∈ G := by
 induction G with
 | nil => exact h
 | cons y G ih =>
  unfold popd at h
  split at h
  ·exact List.mem_cons_of_mem _ (ih h)
  ·exact h
theorem pops_at {a p : Int} {G : List Int} : ∀ m ∈ pops a p G, m.a = a := by
 induction G with
 | nil => intro m h; cases h
 | cons y G ih =>
  intro m h
  unfold pops at h
  split at h
  ·rcases List.mem_cons.1 h with rfl | h
   ·rfl
   ·exact ih m h
  ·cases h
theorem momsH_at {c : Ch} {G : List Int} {h : Hp} : ∀ m ∈ momsH c G h, m.a = h.a := by
 intro m hm
 unfold momsH at hm
 split at hm
 ·split at hm
  ·exact pops_at m hm
  ·rw [List.mem_singleton] at hm; rw [hm]
 ·split at hm
  ·rw [List.mem_singleton] at hm; rw [hm]
  ·rw [List.mem_singleton] at hm; rw [hm]
theorem moms_at {c : Ch} : ∀ {l : List Hp} {G : List Int}, ∀ m ∈ moms c G l, ∃ h ∈ l, m.a = h.a
 | [], _, m, h => by cases h
 | x :: l, G, m, h => by
  rcases List.mem_append.1 h with h | h
  ·exact ⟨x, List.mem_cons_self .., momsH_at m h⟩
  ·obtain ⟨y, h1, h2⟩ := moms_at m h
   exact ⟨y, List.mem_cons_of_mem _ h1, h2⟩
theorem moms_len (c : Ch) : ∀ (l : List Hp) (G : List Int), (moms c G l).length ≤ 2 * l.length + G.length
 | [], G => by simp [moms]
 | h :: l, G => by
  have ih := moms_len c l (aftH c G h)
  have : (momsH c G h).length + (aftH c G h).length ≤ G.length + 2 := by
   unfold momsH aftH
   have := pops_len h.a h.p G
   have := popd_len h.p G
   split
   ·split
    ·omega
    ·simp; omega
   ·split <;> simp <;> omega
  simp only [moms, List.length_append, List.length_cons]
  omega
theorem force_mem {c : Ch} {x : Int} : ∀ {l : List Hp} {G : List Int}, x ∈ force c G l → x ∈ G ∨ ∃ h ∈ l, h.p = x
 | [], _, h => .inl h
 | y :: l, G, h => by
  have h : x ∈ force c (aftH c G y) l := h
  rcases force_mem h with h | ⟨z, h1, h2⟩
  ·unfold aftH at h
   split at h
   ·exact .inl (popd_mem h)
   ·split at h
    ·rcases List.mem_cons.1 h with rfl | h
     ·exact .inr ⟨y, List.mem_cons_self .., rfl⟩
     ·exact .inl h
    ·exact .inl h
  ·exact .inr ⟨z, List.mem_cons_of_mem _ h1, h2⟩
theorem mem_hpsFrom {r : Rl} {h : Hp} : ∀ {ps : List Pt} {i : Nat}, h ∈ hpsFrom r i ps → ∃ k p, ps[k]? = some p ∧ h.p = ((i + k : Nat) : Int) ∧ ∃ x ∈ timeline r p.c p.es, hpOf (i + k) x = some h
 | [], _, hh => by cases hh
 | p :: ps, i, hh => by
  rcases List.mem_append.1 hh with hh | hh
  ·obtain ⟨x, h1, h2⟩ := List.mem_filterMap.1 hh
   refine ⟨0, p, rfl, ?_, x, h1, h2⟩
   unfold hpOf at h2
   split at h2
   ·cases h2; rfl
   ·cases h2
  ·obtain ⟨k, q, h1, h2, h3⟩ := mem_hpsFrom hh
   exact ⟨k + 1, q, h1, by rw [h2]; congr 1; omega, by rw [show i + (k + 1) = i + 1 + k by omega]; exact h3⟩
theorem mem_isort {x : Hp} : ∀ {l acc : List Hp}, x ∈ l.foldl (fun acc x => ins x acc) acc ↔ x ∈ acc ∨ x ∈ l
 | [], acc => by simp
 | y :: l, acc => by
  rw [List.foldl_cons, mem_isort, mem_ins, List.mem_cons]
  constructor
  ·rintro ((h | h) | h)
   ·exact .inr (.inl h)
   ·exact .inl h
   ·exact .inr (.inr h)
  ·rintro (h | h | h)
   ·exact .inl (.inr h)
   ·exact .inl (.inl h)
   ·exact .inr h
theorem mem_hps {c : Ch} {h : Hp} : h ∈ hps c ↔ h ∈ hpsFrom c.r 0 c.ps := by
 unfold hps isort
 rw [mem_isort]
 simp
theorem hps_port {c : Ch} {h : Hp} (hh : h ∈ hps c) : ∃ (k : Nat) (p : Pt), c.ps[k]? = some p ∧ h.p = (k : Int) ∧ ∃ x ∈ timeline c.r p.c p.es, hpOf k x = some h := by
 obtain ⟨k, p, h1, h2, h3⟩ := mem_hpsFrom (mem_hps.1 hh)
 rw [Nat.zero_add] at h2 h3
 exact ⟨k, p, h1, h2, h3⟩
theorem hps_len (c : Ch) : (hps c).length ≤ 2 * c.ps.length := by
 unfold hps
 rw [isort_len]
 exact hpsFrom_len c.r c.ps 0
theorem sorted_hps (c : Ch) : SortedH (hps c) := sorted_isort _
end Go.Dial.Chn
set_option maxRecDepth 100000
namespace Go.Proofs.YtjllgiddmeiaoaaGreat
open Go Go.Sx Go.Dial.Clm Go.Dial.Lif Go.Dial.Chn
abbrev inL (l : List Int) : Lv := l.map fun i => [AV.int i]
def foL (G : List Int) : Lv := inL G.reverse
theorem foL_len (G : List Int) : (foL G).length = G.length := by simp [foL]
theorem foL_snoc (G : List Int) (x : Int) : foL G ++ [[AV.int x]] = foL (x :: G) := by simp [foL]
theorem foL_drop (G : List Int) (x : Int) : List.take ((((foL (x :: G)).length : Nat) : Int) - 1).toNat (foL (x :: G)) = foL G := by
 rw [foL_len]
 have : ((((x :: G).length : Nat) : Int) - 1).toNat = (foL G).length := by rw [foL_len]; simp
 rw [this, ← foL_snoc]
 simp
theorem cell_top (L : Lv) (y : Int) : cI (L ++ [[AV.int y]]) (((L.length : Int) + 1) - 1) 0 = y := by
 have : (((L.length : Int) + 1) - 1).toNat = L.length := by omega
 simp [cI, cA, this, List.getD, AV.i]
theorem foL_top (G : List Int) (x : Int) : cI (foL (x :: G)) ((((foL (x :: G)).length : Nat) : Int) - 1) 0 = x := by
 have h := cell_top (foL G) x
 rw [foL_snoc] at h
 rw [foL_len] at h ⊢
 exact h
theorem foL_cell {G : List Int} {k : Nat} {x : Int} (h : G.reverse[k]? = some x) : cI (foL G) (k : Int) 0 = x := by
 have : cA (foL G) (k : Int) 0 = ([AV.int x] : List AV).getD 0 (.int 0) := cA_map (by simpa using h)
 simp only [cI, this]; rfl
def PIn (c : Ch) (x : Int) : Prop := 0 ≤ x ∧ x < (c.ps.length : Int)
def PInL (c : Ch) (G : List Int) : Prop := ∀ x ∈ G, PIn c x
theorem port_to {c : Ch} {x : Int} (h : PIn c x) : cI (ptL c.ps) x 1 = (portAt c x).c.f ∧ cI (ptL c.ps) x 2 = (portAt c x).c.t ∧ cI (ptL c.ps) x 3 = (portAt c x).c.h := by
 obtain ⟨h1, h2⟩ := h
 obtain ⟨k, rfl⟩ : ∃ k : Nat, x = (k : Int) := ⟨x.toNat, by omega⟩
 obtain ⟨p, hp⟩ := get_lt (l := c.ps) (i := k) (by omega)
 obtain ⟨_, g1, g2, g3, _⟩ := port_cells hp
 have : portAt c (k : Int) = p := by simp [portAt, hp]
 rw [this]
 exact ⟨g1, g2, g3⟩
def wT (c : Ch) (L : Lv) {α : Type} (K : Int → Option α) : Option α :=
 (bif (decide (0 < (L.length : Int))) then bif ((decide ((-9223372036854775808) ≤ ((L.length : Int) - 1))) && (decide (((L.length : Int) - 1) ≤ 9223372036854775807))) then bif (decide (0 ≤ ((L.length : Int) - 1))) then bif (decide (((L.length : Int) - 1) < (L.length : Int))) then bif (decide (0 ≤ (cI L ((L.length : Int) - 1) 0))) then bif (decide ((cI L ((L.length : Int) - 1) 0) < ((ptL c.ps).length : Int))) then K (cI (ptL c.ps) (cI L ((L.length : Int) - 1) 0) 2) else none else none else none else none else none else K c.f)
def wC (c : Ch) (L : Lv) {α : Type} (K : Int → Option α) : Option α :=
 (bif (decide (0 ≤ (L.length : Int))) then bif (decide (((L.length : Int) * 8) ≤ 140737488355328)) then (bif (decide (0 < (L.length : Int))) then bif ((decide ((-9223372036854775808) ≤ ((L.length : Int) - 1))) && (decide (((L.length : Int) - 1) ≤ 9223372036854775807))) then bif (decide (0 ≤ ((L.length : Int) - 1))) then bif (decide (((L.length : Int) - 1) < (L.length : Int))) then bif (decide (0 ≤ (cI L ((L.length : Int) - 1) 0))) then bif (decide ((cI L ((L.length : Int) - 1) 0) < ((ptL c.ps).length : Int))) then K (cI (ptL c.ps) (cI L ((L.length : Int) - 1) 0) 2) else none else none else none else none else none else K c.f) else none else none)
def wP (c : Ch) (L : Lv) (p : Int) {α : Type} (K : Int → Option α) : Option α :=
 (bif (decide (((L.length : Int) + 1) * 8 ≤ 140737488355328)) then bif (decide (0 ≤ ((L.length : Int) + 1))) then (bif (decide (0 < ((L.length : Int) + 1))) then bif ((decide ((-9223372036854775808) ≤ (((L.length : Int) + 1) - 1))) && (decide ((((L.length : Int) + 1) - 1) ≤ 9223372036854775807))) then bif (decide (0 ≤ (((L.length : Int) + 1) - 1))) then bif (decide ((((L.length : Int) + 1) - 1) < ((L.length : Int) + 1))) then bif (decide (0 ≤ (cI (L ++ [[AV.int p]]) (((L.length : Int) + 1) - 1) 0))) then bif (decide ((cI (L ++ [[AV.int p]]) (((L.length : Int) + 1) - 1) 0) < ((ptL c.ps).length : Int))) then K (cI (ptL c.ps) (cI (L ++ [[AV.int p]]) (((L.length : Int) + 1) - 1) 0) 2) else none else none else none else none else none else K c.f) else none else none)
theorem wth {c : Ch} {G : List Int} (hG : PInL c G) (hl : G.length ≤ 100) {α : Type} (K : Int → Option α) : wT c (foL G) K = K (withV c G) := by
 unfold wT
 cases G with
 | nil => rfl
 | cons x G =>
  have hx := hG x (List.mem_cons_self ..)
  obtain ⟨_, x2, _⟩ := port_to hx
  obtain ⟨q1, q2⟩ := hx
  have e1 : (0 : Int) < ((foL (x :: G)).length : Int) := by rw [foL_len, List.length_cons]; omega
  have e5 : (-9223372036854775808 : Int) ≤ ((foL (x :: G)).length : Int) - 1 := by omega
  have e6 : ((foL (x :: G)).length : Int) - 1 ≤ (9223372036854775807 : Int) := by rw [foL_len, List.length_cons]; simp only [List.length_cons] at hl; omega
  have e7 : (0 : Int) ≤ ((foL (x :: G)).length : Int) - 1 := by omega
  have e8 : ((foL (x :: G)).length : Int) - 1 < ((foL (x :: G)).length : Int) := by omega
  have e9 : x < ((ptL c.ps).length : Int) := by rw [List.length_map]; exact q2
  rw [decide_eq_true e1, cond_true, decide_eq_true e5, decide_eq_true e6, Bool.and_self, cond_true, decide_eq_true e7, cond_true, decide_eq_true e8, cond_true, foL_top, decide_eq_true q1, cond_true, decide_eq_true e9, cond_true, x2]
  rfl
theorem wthc {c : Ch} {G : List Int} (hG : PInL c G) (hl : G.length ≤ 100) {α : Type} (K : Int → Option α) : wC c (foL G) K = K (withV c G) := by
 unfold wC
 have e12 : (0 : Int) ≤ ((foL G).length : Int) := by omega
 have e13 : ((foL G).length : Int) * 8 ≤ 140737488355328 := by rw [foL_len]; omega
 rw [decide_eq_true e12, cond_true, decide_eq_true e13, cond_true]
 exact wth hG hl K
theorem wthp {c : Ch} {G : List Int} {p : Int} (hG : PInL c G) (hl : G.length ≤ 100) (hP : PIn c p) {α : Type} (K : Int → Option α) : wP c (foL G) p K = K (withV c (p :: G)) := by
 unfold wP
 obtain ⟨g1, g2, g3⟩ := port_to hP
 obtain ⟨p1, p2⟩ := hP
 have e0 : (0 : Int) < ((foL G).length : Int) + 1 := by omega
 have e2 : (0 : Int) ≤ ((foL G).length : Int) + 1 := by omega
 have e3 : (((foL G).length : Int) + 1) * 8 ≤ 140737488355328 := by rw [foL_len]; omega
 have e5 : (-9223372036854775808 : Int) ≤ (((foL G).length : Int) + 1) - 1 := by omega
 have e6 : (((foL G).length : Int) + 1) - 1 ≤ (9223372036854775807 : Int) := by rw [foL_len]; omega
 have e7 : (0 : Int) ≤ (((foL G).length : Int) + 1) - 1 := by omega
 have e8 : (((foL G).length : Int) + 1) - 1 < ((foL G).length : Int) + 1 := by omega
 have e9 : p < ((ptL c.ps).length : Int) := by rw [List.length_map]; exact p2
 rw [decide_eq_true e3, cond_true, decide_eq_true e2, cond_true, decide_eq_true e0, cond_true, decide_eq_true e5, decide_eq_true e6, Bool.and_self, cond_true, decide_eq_true e7, cond_true, decide_eq_true e8, cond_true, cell_top, decide_eq_true p1, cond_true, decide_eq_true e9, cond_true, g2]
 rfl
abbrev tnR (m : Mo) : List AV := [.int m.a, .int m.p, .int m.k]
abbrev tnL (l : List Mo) : Lv := l.map tnR
theorem tnL_snoc (O : List Mo) (a p k : Int) (G : List Int) : tnL O ++ [[AV.int a, AV.int p, AV.int k]] = tnL (O ++ [⟨a, p, k, G⟩]) := by simp
section
variable (n : Nat) (go0 : chain_Turns_s0 → Option chain_Turns_a) (go1 : chain_Turns_s1 → Option chain_Turns_a) (c : Ch) (v9 : Lv) (i : Int) (O : List Mo) (G : List Int)
 (hi : 0 ≤ i ∧ i ≤ 100) (hO : O.length ≤ 100) (hG : PInL c G) (hl : G.length ≤ 100) (hP : PIn c (cI v9 i 1))
include hi hO
theorem tn_go (w a p kd : Int) (L : Lv) (G : List Int) : (bif (decide ((((tnL O).length : Int) + 1) * 24 ≤ 140737488355328)) then bif ((decide ((-9223372036854775808) ≤ (i + 1))) && (decide ((i + 1) ≤ 9223372036854775807))) then go0 (w, (i + 1), ((tnL O) ++ [[(AV.int a), (AV.int p), (AV.int kd)]]), L) else none else none) = go0 (w, i + 1, tnL (O ++ [⟨a, p, kd, G⟩]), L) := by
 have e4 : (((tnL O).length : Int) + 1) * 24 ≤ 140737488355328 := by rw [List.length_map]; omega
 have e10 : (-9223372036854775808 : Int) ≤ i + 1 := by omega
 have e11 : i + 1 ≤ (9223372036854775807 : Int) := by omega
 rw [decide_eq_true e4, cond_true, decide_eq_true e10, decide_eq_true e11, Bool.and_self, cond_true, tnL_snoc _ _ _ _ G]
include hG hl
theorem tn_tail (a p kd : Int) : wC c (foL G) (fun w => (bif (decide ((((tnL O).length : Int) + 1) * 24 ≤ 140737488355328)) then bif ((decide ((-9223372036854775808) ≤ (i + 1))) && (decide ((i + 1) ≤ 9223372036854775807))) then go0 (w, (i + 1), ((tnL O) ++ [[(AV.int a), (AV.int p), (AV.int kd)]]), foL G) else none else none)) = go0 (withV c G, i + 1, tnL (O ++ [⟨a, p, kd, G⟩]), foL G) :=
 (wthc hG hl _).trans (tn_go go0 i O hi hO _ a p kd _ G)
include hP
theorem tn8 (s h : Int) : chain_Turns_8 n go0 go1 c.f (ptL c.ps) v9 i (tnL O) (foL G) s h =
  if s = 1 ∧ h = (portAt c (cI v9 i 1)).c.h then go0 (withV c (cI v9 i 1 :: G), i + 1, tnL (O ++ [⟨cI v9 i 0, cI v9 i 1, 1, cI v9 i 1 :: G⟩]), foL (cI v9 i 1 :: G)) else go0 (withV c G, i + 1, tnL (O ++ [⟨cI v9 i 0, cI v9 i 1, 2, G⟩]), foL G) := by
 obtain ⟨g1, g2, g3⟩ := port_to hP
 unfold chain_Turns_8
 rw [g3]
 by_cases k1 : s = 1
 ·by_cases k2 : h = (portAt c (cI v9 i 1)).c.h
  ·rw [if_pos ⟨k1, k2⟩, decide_eq_true k1, cond_true, decide_eq_true k2, cond_true]
   refine (wthp hG hl hP (fun w => (bif (decide ((((tnL O).length : Int) + 1) * 24 ≤ 140737488355328)) then bif ((decide ((-9223372036854775808) ≤ (i + 1))) && (decide ((i + 1) ≤ 9223372036854775807))) then go0 (w, (i + 1), ((tnL O) ++ [[(AV.int (cI v9 i 0)), (AV.int (cI v9 i 1)), (AV.int 1)]]), foL G ++ [[AV.int (cI v9 i 1)]]) else none else none))).trans ?_
   refine (tn_go go0 i O hi hO _ _ _ _ _ (cI v9 i 1 :: G)).trans ?_
   rw [foL_snoc]
  ·rw [if_neg (fun h => k2 h.2), decide_eq_true k1, cond_true, decide_eq_false k2, cond_false]
   exact tn_tail go0 c i O G hi hO hG hl _ _ 2
 ·rw [if_neg (fun h => k1 h.1), decide_eq_false k1, cond_false]
  exact tn_tail go0 c i O G hi hO hG hl _ _ 2
theorem tn7 (s h : Int) : chain_Turns_7 n go0 go1 c.f (ptL c.ps) v9 (withV c G) i (tnL O) (foL G) s h =
  if withV c G = (portAt c (cI v9 i 1)).c.f ∧ s = 1 ∧ h = (portAt c (cI v9 i 1)).c.h then go0 (withV c (cI v9 i 1 :: G), i + 1, tnL (O ++ [⟨cI v9 i 0, cI v9 i 1, 1, cI v9 i 1 :: G⟩]), foL (cI v9 i 1 :: G)) else go0 (withV c G, i + 1, tnL (O ++ [⟨cI v9 i 0, cI v9 i 1, 2, G⟩]), foL G) := by
 obtain ⟨g1, g2, g3⟩ := port_to hP
 unfold chain_Turns_7
 rw [g1, tn8 n go0 go1 c v9 i O G hi hO hG hl hP]
 by_cases k : withV c G = (portAt c (cI v9 i 1)).c.f
 ·rw [decide_eq_true k, cond_true]; simp only [k, true_and]
 ·rw [decide_eq_false k, cond_false, if_neg (fun h => k h.1)]
  exact tn_tail go0 c i O G hi hO hG hl _ _ 2
end
theorem pop_in {B G' : List Int} {p : Int} {k : Nat} (hk : (B ++ G').reverse[k]? = some p) (hn : ∀ j, j < k → (B ++ G').reverse[j]? ≠ some p) : p ∈ G' ↔ k < G'.length := by
 rw [List.reverse_append] at hk hn
 constructor
 ·intro h
  rcases Nat.lt_or_ge k G'.length with h1 | h1
  ·exact h1
  ·obtain ⟨j, hj, he⟩ := List.getElem_of_mem (List.mem_reverse.2 h)
   have hj' : j < G'.length := by simpa using hj
   refine absurd ?_ (hn j (by omega))
   rw [List.getElem?_append_left hj, List.getElem?_eq_getElem hj, he]
 ·intro h
  rw [List.getElem?_append_left (by simpa using h)] at hk
  exact List.mem_reverse.1 (List.mem_of_getElem? hk)
end Go.Proofs.YtjllgiddmeiaoaaGreat
set_option maxRecDepth 100000
namespace Go.Proofs.YtjllgiddmeiaoaaGreat
open Go Go.Sx Go.Dial.Clm Go.Dial.Lif Go.Dial.Chn
section
variable (n : Nat) (go0 : chain_Turns_s0 → Option chain_Turns_a) (go1 : chain_Turns_s2 → Option chain_Turns_a) (c : Ch) (v9 : Lv) (i : Int) (O : List Mo) (G : List Int) (k : Nat)
 (hi : 0 ≤ i ∧ i ≤ 100) (hO : O.length ≤ 100) (hG : PInL c G) (hl : G.length ≤ 100)
include hO
theorem tn_pop (a p kd : Int) (L : Lv) (G : List Int) : (bif (decide ((((tnL O).length : Int) + 1) * 24 ≤ 140737488355328)) then go1 (true, ((tnL O) ++ [[(AV.int a), (AV.int p), (AV.int kd)]]), L) else none) = go1 (true, tnL (O ++ [⟨a, p, kd, G⟩]), L) := by
 have e4 : (((tnL O).length : Int) + 1) * 24 ≤ 140737488355328 := by rw [List.length_map]; omega
 rw [decide_eq_true e4, cond_true, tnL_snoc _ _ _ _ G]
include hG hl
theorem tn_ptail (a p kd : Int) : wC c (foL G) (fun _ => (bif (decide ((((tnL O).length : Int) + 1) * 24 ≤ 140737488355328)) then go1 (true, ((tnL O) ++ [[(AV.int a), (AV.int p), (AV.int kd)]]), foL G) else none)) = go1 (true, tnL (O ++ [⟨a, p, kd, G⟩]), foL G) :=
 (wthc hG hl _).trans (tn_pop go1 O hO a p kd _ G)
theorem tn10_pop (x : Int) (hk : k < (x :: G).length) : chain_Turns_10 n go0 go1 c.f (ptL c.ps) v9 i (k : Int) true (tnL O) (foL (x :: G)) =
  go1 (true, tnL (O ++ [⟨cI v9 i 0, x, if x = cI v9 i 1 then 3 else 4, G⟩]), foL G) := by
 have e0 : (k : Int) < ((foL (x :: G)).length : Int) := by rw [foL_len]; omega
 have e5 : (-9223372036854775808 : Int) ≤ ((foL (x :: G)).length : Int) - 1 := by omega
 have e6 : ((foL (x :: G)).length : Int) - 1 ≤ (9223372036854775807 : Int) := by rw [foL_len, List.length_cons]; omega
 have e7 : (0 : Int) ≤ ((foL (x :: G)).length : Int) - 1 := by omega
 have e8 : ((foL (x :: G)).length : Int) - 1 < ((foL (x :: G)).length : Int) := by omega
 have e9 : ((foL (x :: G)).length : Int) - 1 ≤ ((foL (x :: G)).length : Int) := by omega
 unfold chain_Turns_10
 rw [cond_true, decide_eq_true e0, cond_true, decide_eq_true e5, decide_eq_true e6, Bool.and_self, cond_true, decide_eq_true e7, cond_true, decide_eq_true e8, cond_true, foL_top, foL_drop, decide_eq_true e9, cond_true]
 by_cases h : x = cI v9 i 1
 ·rw [decide_eq_true h, cond_true, if_pos h]
  exact tn_ptail go1 c O G hO hG hl (cI v9 i 0) x 3
 ·rw [decide_eq_false h, cond_false, if_neg h, cond_true]
  exact tn_ptail go1 c O G hO hG hl (cI v9 i 0) x 4
include hi
theorem tn10_end (hk : ¬ k < G.length) : chain_Turns_10 n go0 go1 c.f (ptL c.ps) v9 i (k : Int) true (tnL O) (foL G) = go0 (withV c G, i + 1, tnL O, foL G) := by
 have e0 : ¬ (k : Int) < ((foL G).length : Int) := by rw [foL_len]; omega
 have e10 : (-9223372036854775808 : Int) ≤ i + 1 := by omega
 have e11 : i + 1 ≤ (9223372036854775807 : Int) := by omega
 unfold chain_Turns_10
 rw [cond_true, decide_eq_false e0, cond_false]
 refine (wth hG hl (fun w => bif ((decide ((-9223372036854775808) ≤ (i + 1))) && (decide ((i + 1) ≤ 9223372036854775807))) then go0 (w, i + 1, tnL O, foL G) else none)).trans ?_
 simp only [decide_eq_true e10, decide_eq_true e11, Bool.and_self, cond_true]
end
theorem imin_min (a b : Int) : imin a b = min a b := by unfold imin; omega
theorem at_T {c : Ch} (hL : Life c.life) {a : Int} (h0 : 0 ≤ a) (n : Nat) (hn : c.life.length < n) : life_At n (evL c.life) (imin a 10000000) = some ((atL c.life (min a 10000000)).s, (atL c.life (min a 10000000)).h, (atL c.life (min a 10000000)).e, (atL c.life (min a 10000000)).t, 0) := by
 have hok : OkAt c.life (min a 10000000) := ⟨hL, by omega, by omega⟩
 rw [life_At_v n c.life _ hn, imin_min]
 simp only [atT, atR, if_pos hok]
theorem tn12 : @chain_Turns_12 = @chain_Turns_7 := rfl
section
variable (n : Nat) (go0 : chain_Turns_s0 → Option chain_Turns_a) (c : Ch) (v9 : Lv) (i : Int) (O : List Mo) (G : List Int) (r : chain_Turns_a) (h : Hp)
 (hi : 0 ≤ i ∧ i ≤ 100) (hO : O.length + G.length ≤ 90) (hG : PInL c G) (hl : G.length ≤ 90) (hP : PIn c h.p) (hh0 : cI v9 i 0 = h.a) (hh1 : cI v9 i 1 = h.p) (hh2 : cB v9 i 2 = h.b)
include hi hO hG hl hh0 hh1
theorem tn_back (k : Nat) (hk : G.reverse[k]? = some h.p) (hm : ∀ j, j < k → G.reverse[j]? ≠ some h.p) (hn : 200 < n)
  (hgo : go0 (withV c (popd h.p G), i + 1, tnL (O ++ pops h.a h.p G), foL (popd h.p G)) = some r) :
  iterF (fun go1 s => chain_Turns_10 n go0 go1 c.f (ptL c.ps) v9 i (k : Int) s.1 s.2.1 s.2.2) n ((true, tnL O, foL G) : chain_Turns_s2) = some r := by
 refine iterF_ind (fun s => ∃ (B G' : List Int) (O' : List Mo), s = (true, tnL O', foL G') ∧ G = B ++ G' ∧ popd h.p G' = popd h.p G ∧ O' ++ pops h.a h.p G' = O ++ pops h.a h.p G ∧ O'.length + G'.length ≤ 90) (fun s => s.2.2.length) r ?_ n _ ⟨[], G, O, rfl, rfl, rfl, rfl, hO⟩ (by rw [foL_len]; omega)
 rintro _ go ⟨B, G', O', rfl, hB, hp, ho, hlen⟩ ih
 simp only
 have hin : h.p ∈ G' ↔ k < G'.length := by
  subst hB
  exact pop_in hk hm
 have hG' : PInL c G' := fun x hx => hG x (by rw [hB]; exact List.mem_append_right _ hx)
 by_cases hkk : k < G'.length
 ·cases G' with
  | nil => simp at hkk
  | cons x G' =>
   rw [tn10_pop n go0 go c v9 i O' G' k (by omega) (fun y hy => hG' y (List.mem_cons_of_mem _ hy)) (by simp only [List.length_cons] at hlen; omega) x hkk]
   have h1 : h.p ∈ x :: G' := hin.2 hkk
   have e1 : popd h.p (x :: G') = popd h.p G' := by rw [popd, if_pos h1]
   have e2 : pops h.a h.p (x :: G') = ⟨h.a, x, if x = h.p then 3 else 4, G'⟩ :: pops h.a h.p G' := by rw [pops, if_pos h1]
   rw [hh0, hh1]
   refine ih _ ⟨B ++ [x], G', O' ++ [⟨h.a, x, if x = h.p then 3 else 4, G'⟩], rfl, by rw [hB]; simp, by rw [← hp, e1], by rw [← ho, e2]; simp, by simp only [List.length_cons, List.length_append, List.length_nil] at hlen ⊢; omega⟩ ?_
   simp only [foL_len, List.length_cons]; omega
 ·have h1 : h.p ∉ G' := fun h => hkk (hin.1 h)
  have e1 : popd h.p G' = G' := popd_no h1
  have e2 : pops h.a h.p G' = [] := by
   cases G' with
   | nil => rfl
   | cons x G' => rw [pops, if_neg h1]
  rw [tn10_end n go0 go c v9 i O' G' k hi (by omega) hG' (by omega) hkk]
  rw [e2, List.append_nil] at ho
  rw [ho, ← e1, hp]
  exact hgo
include hP hh2
theorem tn_round (hL : Life c.life) (h0 : 0 ≤ h.a) (hn : 200 < n) (hnl : c.life.length < n)
  (hgo : go0 (withV c (aftH c G h), i + 1, tnL (O ++ momsH c G h), foL (aftH c G h)) = some r) :
  iterF (fun go1 s => chain_Turns_4 n go0 go1 c.f (evL c.life) (ptL c.ps) v9 (withV c G) i (tnL O) (foL G) s) n (0 : chain_Turns_s1) = some r := by
 refine iterF_ind (fun s => ∃ j : Nat, s = (j : Int) ∧ j ≤ G.length ∧ ∀ j', j' < j → G.reverse[j']? ≠ some h.p) (fun s => G.length - s.toNat) r ?_ n _ ⟨0, rfl, by omega, fun j hj => by omega⟩ (by omega)
 rintro _ go ⟨j, rfl, hj, hm⟩ ih
 have hP' : PIn c (cI v9 i 1) := by rw [hh1]; exact hP
 have p1 : (0 : Int) ≤ cI v9 i 1 := hP'.1
 have p2 : cI v9 i 1 < ((ptL c.ps).length : Int) := by rw [List.length_map]; exact hP'.2
 have hE : h.b = false → ∀ go1, chain_Turns_7 n go0 go1 c.f (ptL c.ps) v9 (withV c G) i (tnL O) (foL G) (atL c.life (min h.a 10000000)).s (atL c.life (min h.a 10000000)).h = some r := by
  intro hb go1
  rw [tn7 n go0 go1 c v9 i O G hi (by omega) hG (by omega) hP', hh0, hh1]
  have hnb : ¬ h.b = true := by rw [hb]; decide
  unfold aftH momsH at hgo
  rw [if_neg hnb, if_neg hnb] at hgo
  by_cases ht : Takes c G h
  ·rw [if_pos ht, if_pos ht] at hgo
   exact (if_pos ht).trans hgo
  ·rw [if_neg ht, if_neg ht] at hgo
   exact (if_neg ht).trans hgo
 unfold chain_Turns_4
 by_cases hlt : j < G.length
 ·have c1 : (j : Int) < ((foL G).length : Int) := by rw [foL_len]; omega
  have c2 : (0 : Int) ≤ (j : Int) := by omega
  obtain ⟨x, hx⟩ := get_lt (l := G.reverse) (i := j) (by simpa using hlt)
  rw [decide_eq_true c1, cond_true, decide_eq_true c2, cond_true]
  unfold chain_Turns_5
  rw [foL_cell hx]
  by_cases he : cI v9 i 1 = x
  ·rw [decide_eq_true he, cond_true, decide_eq_true p1, cond_true, decide_eq_true p2, cond_true]
   unfold chain_Turns_6
   rw [hh2]
   cases hb : h.b with
   | false =>
    rw [Bool.not_false, cond_true, hh0, at_T hL h0 n hnl, Option.bind_some]
    exact hE hb _
   | true =>
    rw [Bool.not_true, cond_false]
    unfold chain_Turns_9
    have c3 : ¬ (j : Int) < 0 := by omega
    rw [decide_eq_false c3, cond_false]
    have hx' : G.reverse[j]? = some h.p := by rw [hx, ← he, hh1]
    have hin : h.p ∈ G := List.mem_reverse.1 (List.mem_of_getElem? hx')
    unfold aftH momsH at hgo
    rw [if_pos hb, if_pos hb, if_pos hin] at hgo
    exact tn_back n go0 c v9 i O G r h hi hO hG hl hh0 hh1 j hx' hm hn hgo
  ·have c4 : (-9223372036854775808 : Int) ≤ (j : Int) + 1 := by omega
   have c5 : (j : Int) + 1 ≤ (9223372036854775807 : Int) := by omega
   rw [decide_eq_false he, cond_false, decide_eq_true c4, decide_eq_true c5, Bool.and_self, cond_true]
   refine ih _ ⟨j + 1, by omega, by omega, fun j' hj' => ?_⟩ (by omega)
   rcases Nat.lt_or_ge j' j with h1 | h1
   ·exact hm j' h1
   ·have : j' = j := by omega
    subst this
    rw [hx, ← hh1]
    exact fun e => he (Option.some.inj e).symm
 ·have c1 : ¬ (j : Int) < ((foL G).length : Int) := by rw [foL_len]; omega
  have hnin : h.p ∉ G := fun hin => by
   obtain ⟨q, hq, he⟩ := List.getElem_of_mem (List.mem_reverse.2 hin)
   have hq' : q < G.length := by simpa using hq
   exact hm q (by omega) (by rw [List.getElem?_eq_getElem hq, he])
  rw [decide_eq_false c1, cond_false, decide_eq_true p1, cond_true, decide_eq_true p2, cond_true]
  unfold chain_Turns_11
  rw [hh2]
  cases hb : h.b with
  | false =>
   rw [Bool.not_false, cond_true, hh0, at_T hL h0 n hnl, Option.bind_some, tn12]
   exact hE hb _
  | true =>
   rw [Bool.not_true, cond_false]
   unfold aftH momsH at hgo
   rw [if_pos hb, if_pos hb, if_neg hnin, popd_no hnin, ← hh0, ← hh1] at hgo
   rw [← hgo]
   exact tn_tail go0 c i O G hi (by omega) hG (by omega) _ _ 5
end
theorem moms_app {c : Ch} : ∀ (A B : List Hp) (G : List Int), moms c G (A ++ B) = moms c G A ++ moms c (force c G A) B
 | [], B, G => rfl
 | h :: A, B, G => by
  show momsH c G h ++ moms c (aftH c G h) (A ++ B) = _
  rw [moms_app A B]
  simp [moms, force]
theorem force_in {c : Ch} {l : List Hp} (hl : ∀ h ∈ l, h ∈ hps c) : PInL c (force c [] l) := fun x hx => by
 rcases force_mem hx with h | ⟨h, h1, h2⟩
 ·cases h
 ·obtain ⟨k, p, g1, g2, _⟩ := hps_port (hl h h1)
  have := (List.getElem?_eq_some_iff.1 g1).1
  rw [← h2, g2]
  exact ⟨by omega, by omega⟩
theorem aftH_len (c : Ch) (G : List Int) (h : Hp) : (aftH c G h).length ≤ G.length + 1 := by
 unfold aftH
 have := popd_len h.p G
 split
 ·omega
 ·split <;> simp
theorem force_len (c : Ch) : ∀ (l : List Hp) (G : List Int), (force c G l).length ≤ G.length + l.length
 | [], G => by simp [force]
 | h :: l, G => by
  have h1 := force_len c l (aftH c G h)
  have h2 := aftH_len c G h
  show (force c (aftH c G h) l).length ≤ _
  simp only [List.length_cons]; omega
theorem hps_ge {c : Ch} (h : ChV c) {x : Hp} (hx : x ∈ hps c) : 0 ≤ x.a ∧ x.a ≤ 23000000 := by
 obtain ⟨k, p, h1, h2, y, h3, h4⟩ := hps_port hx
 have hv := (ptsV_all h.2.2.2.2.2.2 p (List.mem_of_getElem? h1)).2
 have g1 := timeline_ge hv y h3
 have g2 := timeline_le hv y h3
 have g3 := hv.2.1
 unfold ClV at g3
 unfold hpOf at h4
 split at h4
 ·cases h4; simp only; omega
 ·cases h4
theorem hp_cells {H : List Hp} {i : Nat} {h : Hp} (hx : H[i]? = some h) : cI (hpL H) (i : Int) 0 = h.a ∧ cI (hpL H) (i : Int) 1 = h.p ∧ cB (hpL H) (i : Int) 2 = h.b := by
 have hc : ∀ k, cA (hpL H) (i : Int) k = (hpR h).getD k (.int 0) := fun k => cA_map (by simpa using hx)
 refine ⟨?_, ?_, ?_⟩ <;> simp only [cI, cB, hc] <;> rfl
theorem chain_Turns_v (n : Nat) (c : Ch) (hl : c.life.length < n) (hn : 200 < n) : chain_Turns n c.n c.f c.r.a c.r.c c.r.s c.r.r (evL c.life) (ptL c.ps) = some (if ChV c then (tnL (turnsV c), 0) else ([], 170)) := by
 unfold chain_Turns chain_Turns_1
 rw [chain_Valid_v n c hl hn, Option.bind_some]
 unfold chain_Turns_2
 by_cases h : ChV c
 ·rw [if_pos h, decide_eq_true h, Bool.not_true, cond_false, chain_happenings_v n c h hn, Option.bind_some]
  obtain ⟨H, hH⟩ : ∃ H, H = hps c := ⟨_, rfl⟩
  have hHl : H.length ≤ 16 := by
   have := hps_len c
   have := h.2.2.2.2.2.1
   rw [hH]; omega
  have hT : turnsV c = moms c [] H := by rw [hH]; rfl
  rw [← hH]
  refine iterF_ind (fun s => ∃ i : Nat, s = (withV c (force c [] (H.take i)), (i : Int), tnL (moms c [] (H.take i)), foL (force c [] (H.take i))) ∧ i ≤ H.length) (fun s => H.length - s.2.1.toNat) _ ?_ n _ ⟨0, rfl, by omega⟩ (by simp; omega)
  rintro _ go ⟨i, rfl, hi⟩ ih
  simp only
  unfold chain_Turns_3
  by_cases hlt : i < H.length
  ·obtain ⟨x, hx⟩ := get_lt hlt
   obtain ⟨x0, x1, x2⟩ := hp_cells hx
   have hxm : x ∈ hps c := by rw [← hH]; exact List.mem_of_getElem? hx
   have c1 : (i : Int) < ((hpL H).length : Int) := by rw [List.length_map]; omega
   have c2 : (0 : Int) ≤ (i : Int) := by omega
   have hti : (H.take i).length ≤ i := by rw [List.length_take]; omega
   have hfl := force_len c (H.take i) []
   have hml := moms_len c (H.take i) []
   simp only [List.length_nil] at hfl hml
   have hPx : PIn c x.p := by
    obtain ⟨k, p, g1, g2, _⟩ := hps_port hxm
    have := (List.getElem?_eq_some_iff.1 g1).1
    rw [g2]
    exact ⟨by omega, by omega⟩
   rw [decide_eq_true c1, cond_true, decide_eq_true c2, cond_true]
   refine tn_round n go c (hpL H) i (moms c [] (H.take i)) (force c [] (H.take i)) _ x (by omega) (by omega) (force_in fun y hy => by rw [← hH]; exact List.mem_of_mem_take hy) (by omega) hPx x0 x1 x2 h.1 (hps_ge h hxm).1 hn hl ?_
   have e1 : H.take (i + 1) = H.take i ++ [x] := take_snoc hx
   have e2 : force c [] (H.take (i + 1)) = aftH c (force c [] (H.take i)) x := by rw [e1]; simp [force]
   have e3 : moms c [] (H.take (i + 1)) = moms c [] (H.take i) ++ momsH c (force c [] (H.take i)) x := by rw [e1, moms_app]; simp [moms]
   rw [← e2, ← e3]
   exact ih _ ⟨i + 1, rfl, by omega⟩ (by simp only; omega)
  ·have h00 : i = H.length := by omega
   have c1 : ¬ (i : Int) < ((hpL H).length : Int) := by rw [List.length_map]; omega
   rw [decide_eq_false c1, cond_false, hT, h00, List.take_length]
 ·rw [if_neg h, decide_eq_false h, Bool.not_false, cond_true]
end Go.Proofs.YtjllgiddmeiaoaaGreat
set_option maxRecDepth 100000
namespace Go.Proofs.YtjllgiddmeiaoaaGreat
open Go Go.Sx
noncomputable section
def consD8 : List Nat := [5, 6, 7, 8, 9, 10, 11, 12, 13, 14, 15, 16, 17, 18, 19, 20, 21, 22, 23, 24, 28, 29, 30, 31, 32, 33, 34, 35, 36, 37, 39, 41, 42, 43, 45, 47, 48, 49, 50, 51, 64, 66, 67, 69, 70, 73, 75, 76, 77, 79, 80, 81, 86, 88, 100, 101, 102, 103, 108, 111, 113, 114, 115, 132, 133, 142, 1000007, 1000008, 1000036, 1000037]
def mapsD8 : List (Nat × SV × SV) := [(117, SV.of [.agg (SV.of [.vi (.int 1), .vi (.int 1)]), .agg (SV.of [.vi (.int 2), .vi (.int 1)]), .agg (SV.of [.vi (.int 3), .vi (.int 2)]), .agg (SV.of [.vi (.int 4), .vi (.int 2)]), .agg (SV.of [.vi (.int 5), .vi (.int 1)]), .agg (SV.of [.vi (.int 5), .vi (.int 2)]), .agg (SV.of [.vi (.int 5), .vi (.int 3)]), .agg (SV.of [.vi (.int 6), .vi (.int 4)])], SV.of [.vi (.int 3), .vi (.int 2), .vi (.int 3), .vi (.int 6), .vi (.int 7), .vi (.int 7), .vi (.int 7), .vi (.int 8)])]
abbrev chain_At_a := Int × Lv × Int
abbrev chain_At_s0 := Int × Int × Int × Int × Int × Lv × Int × Lv
abbrev chain_At_s1 := Int
abbrev chain_At_s2 := Bool × Int × Int × Int × Lv × Int × Lv
def chain_At_10 (n : Nat) (go0 : chain_At_s0 → Option chain_At_a) (go1 : chain_At_s1 → Option chain_At_a) (v1 : Int) (v7 : Lv) (v8 : Int) (v10 : Lv) (v12 : Int) (v16 : Lv) (v17 : Int) (v18 : Lv) (v20 v21 : Int) : Option chain_At_a :=
 (bif (decide (v20 = 1)) then (bif (decide (v21 = (cI v7 (cI v10 v12 1) 3))) then bif (decide ((((v18.length : Int) + 1) * 8) ≤ 140737488355328)) then bif (decide (0 ≤ ((v18.length : Int) + 1))) then (bif (decide (0 < ((v18.length : Int) + 1))) then bif ((decide ((-9223372036854775808) ≤ (((v18.length : Int) + 1) - 1))) && (decide ((((v18.length : Int) + 1) - 1) ≤ 9223372036854775807))) then bif (decide (0 ≤ (((v18.length : Int) + 1) - 1))) then bif (decide ((((v18.length : Int) + 1) - 1) < ((v18.length : Int) + 1))) then bif (decide (0 ≤ (cI (v18 ++ [[(AV.int (cI v10 v12 1))]]) (((v18.length : Int) + 1) - 1) 0))) then bif (decide ((cI (v18 ++ [[(AV.int (cI v10 v12 1))]]) (((v18.length : Int) + 1) - 1) 0) < (v7.length : Int))) then (bif (decide (v8 < (cI v10 v12 0))) then some (v17, v16, 0)
 else bif ((decide ((-9223372036854775808) ≤ (v12 + 1))) && (decide ((v12 + 1) ≤ 9223372036854775807))) then go0 ((cI v7 (cI (v18 ++ [[(AV.int (cI v10 v12 1))]]) (((v18.length : Int) + 1) - 1) 0) 2), (v12 + 1), (cI v10 v12 0), (cI v10 v12 1), 1, (List.take (List.replicate (((v18.length : Int) + 1)).toNat [(AV.int 0)]).length (v18 ++ [[(AV.int (cI v10 v12 1))]]) ++ List.drop (v18 ++ [[(AV.int (cI v10 v12 1))]]).length (List.replicate (((v18.length : Int) + 1)).toNat [(AV.int 0)])), (cI v7 (cI (v18 ++ [[(AV.int (cI v10 v12 1))]]) (((v18.length : Int) + 1) - 1) 0) 2), (v18 ++ [[(AV.int (cI v10 v12 1))]])) else none) else none else none else none else none else none
 else (bif (decide (v8 < (cI v10 v12 0))) then some (v17, v16, 0)
 else bif ((decide ((-9223372036854775808) ≤ (v12 + 1))) && (decide ((v12 + 1) ≤ 9223372036854775807))) then go0 (v1, (v12 + 1), (cI v10 v12 0), (cI v10 v12 1), 1, (List.take (List.replicate (((v18.length : Int) + 1)).toNat [(AV.int 0)]).length (v18 ++ [[(AV.int (cI v10 v12 1))]]) ++ List.drop (v18 ++ [[(AV.int (cI v10 v12 1))]]).length (List.replicate (((v18.length : Int) + 1)).toNat [(AV.int 0)])), v1, (v18 ++ [[(AV.int (cI v10 v12 1))]])) else none)) else none else none
 else bif (decide (0 ≤ (v18.length : Int))) then bif (decide (((v18.length : Int) * 8) ≤ 140737488355328)) then (bif (decide (0 < (v18.length : Int))) then bif ((decide ((-9223372036854775808) ≤ ((v18.length : Int) - 1))) && (decide (((v18.length : Int) - 1) ≤ 9223372036854775807))) then bif (decide (0 ≤ ((v18.length : Int) - 1))) then bif (decide (((v18.length : Int) - 1) < (v18.length : Int))) then bif (decide (0 ≤ (cI v18 ((v18.length : Int) - 1) 0))) then bif (decide ((cI v18 ((v18.length : Int) - 1) 0) < (v7.length : Int))) then (bif (decide (v8 < (cI v10 v12 0))) then some (v17, v16, 0)
 else bif ((decide ((-9223372036854775808) ≤ (v12 + 1))) && (decide ((v12 + 1) ≤ 9223372036854775807))) then go0 ((cI v7 (cI v18 ((v18.length : Int) - 1) 0) 2), (v12 + 1), (cI v10 v12 0), (cI v10 v12 1), 2, (List.take (List.replicate ((v18.length : Int)).toNat [(AV.int 0)]).length v18 ++ List.drop v18.length (List.replicate ((v18.length : Int)).toNat [(AV.int 0)])), (cI v7 (cI v18 ((v18.length : Int) - 1) 0) 2), v18) else none) else none else none else none else none else none
 else (bif (decide (v8 < (cI v10 v12 0))) then some (v17, v16, 0)
 else bif ((decide ((-9223372036854775808) ≤ (v12 + 1))) && (decide ((v12 + 1) ≤ 9223372036854775807))) then go0 (v1, (v12 + 1), (cI v10 v12 0), (cI v10 v12 1), 2, (List.take (List.replicate ((v18.length : Int)).toNat [(AV.int 0)]).length v18 ++ List.drop v18.length (List.replicate ((v18.length : Int)).toNat [(AV.int 0)])), v1, v18) else none)) else none else none)
 else bif (decide (0 ≤ (v18.length : Int))) then bif (decide (((v18.length : Int) * 8) ≤ 140737488355328)) then (bif (decide (0 < (v18.length : Int))) then bif ((decide ((-9223372036854775808) ≤ ((v18.length : Int) - 1))) && (decide (((v18.length : Int) - 1) ≤ 9223372036854775807))) then bif (decide (0 ≤ ((v18.length : Int) - 1))) then bif (decide (((v18.length : Int) - 1) < (v18.length : Int))) then bif (decide (0 ≤ (cI v18 ((v18.length : Int) - 1) 0))) then bif (decide ((cI v18 ((v18.length : Int) - 1) 0) < (v7.length : Int))) then (bif (decide (v8 < (cI v10 v12 0))) then some (v17, v16, 0)
 else bif ((decide ((-9223372036854775808) ≤ (v12 + 1))) && (decide ((v12 + 1) ≤ 9223372036854775807))) then go0 ((cI v7 (cI v18 ((v18.length : Int) - 1) 0) 2), (v12 + 1), (cI v10 v12 0), (cI v10 v12 1), 2, (List.take (List.replicate ((v18.length : Int)).toNat [(AV.int 0)]).length v18 ++ List.drop v18.length (List.replicate ((v18.length : Int)).toNat [(AV.int 0)])), (cI v7 (cI v18 ((v18.length : Int) - 1) 0) 2), v18) else none) else none else none else none else none else none
 else (bif (decide (v8 < (cI v10 v12 0))) then some (v17, v16, 0)
 else bif ((decide ((-9223372036854775808) ≤ (v12 + 1))) && (decide ((v12 + 1) ≤ 9223372036854775807))) then go0 (v1, (v12 + 1), (cI v10 v12 0), (cI v10 v12 1), 2, (List.take (List.replicate ((v18.length : Int)).toNat [(AV.int 0)]).length v18 ++ List.drop v18.length (List.replicate ((v18.length : Int)).toNat [(AV.int 0)])), v1, v18) else none)) else none else none)
def chain_At_9 (n : Nat) (go0 : chain_At_s0 → Option chain_At_a) (go1 : chain_At_s1 → Option chain_At_a) (v1 : Int) (v7 : Lv) (v8 : Int) (v10 : Lv) (v11 v12 : Int) (v16 : Lv) (v17 : Int) (v18 : Lv) (v20 v21 : Int) : Option chain_At_a :=
 (bif (decide (v11 = (cI v7 (cI v10 v12 1) 1))) then chain_At_10 n go0 go1 v1 v7 v8 v10 v12 v16 v17 v18 v20 v21
 else bif (decide (0 ≤ (v18.length : Int))) then bif (decide (((v18.length : Int) * 8) ≤ 140737488355328)) then (bif (decide (0 < (v18.length : Int))) then bif ((decide ((-9223372036854775808) ≤ ((v18.length : Int) - 1))) && (decide (((v18.length : Int) - 1) ≤ 9223372036854775807))) then bif (decide (0 ≤ ((v18.length : Int) - 1))) then bif (decide (((v18.length : Int) - 1) < (v18.length : Int))) then bif (decide (0 ≤ (cI v18 ((v18.length : Int) - 1) 0))) then bif (decide ((cI v18 ((v18.length : Int) - 1) 0) < (v7.length : Int))) then (bif (decide (v8 < (cI v10 v12 0))) then some (v17, v16, 0)
 else bif ((decide ((-9223372036854775808) ≤ (v12 + 1))) && (decide ((v12 + 1) ≤ 9223372036854775807))) then go0 ((cI v7 (cI v18 ((v18.length : Int) - 1) 0) 2), (v12 + 1), (cI v10 v12 0), (cI v10 v12 1), 2, (List.take (List.replicate ((v18.length : Int)).toNat [(AV.int 0)]).length v18 ++ List.drop v18.length (List.replicate ((v18.length : Int)).toNat [(AV.int 0)])), (cI v7 (cI v18 ((v18.length : Int) - 1) 0) 2), v18) else none) else none else none else none else none else none
 else (bif (decide (v8 < (cI v10 v12 0))) then some (v17, v16, 0)
 else bif ((decide ((-9223372036854775808) ≤ (v12 + 1))) && (decide ((v12 + 1) ≤ 9223372036854775807))) then go0 (v1, (v12 + 1), (cI v10 v12 0), (cI v10 v12 1), 2, (List.take (List.replicate ((v18.length : Int)).toNat [(AV.int 0)]).length v18 ++ List.drop v18.length (List.replicate ((v18.length : Int)).toNat [(AV.int 0)])), v1, v18) else none)) else none else none)
def chain_At_13 (n : Nat) (go0 : chain_At_s0 → Option chain_At_a) (go1 : chain_At_s2 → Option chain_At_a) (v1 : Int) (v7 : Lv) (v8 : Int) (v10 : Lv) (v12 v19 v21 v22 v23 : Int) (v24 : Lv) (v25 : Int) (v26 : Lv) : Option chain_At_a :=
 (bif (decide (v19 < (v26.length : Int))) then bif ((decide ((-9223372036854775808) ≤ ((v26.length : Int) - 1))) && (decide (((v26.length : Int) - 1) ≤ 9223372036854775807))) then bif (decide (0 ≤ ((v26.length : Int) - 1))) then bif (decide (((v26.length : Int) - 1) < (v26.length : Int))) then (bif (decide ((cI v26 ((v26.length : Int) - 1) 0) = (cI v10 v12 1))) then bif (decide (((v26.length : Int) - 1) ≤ (v26.length : Int))) then bif (decide (0 ≤ ((List.take (((v26.length : Int) - 1)).toNat v26).length : Int))) then bif (decide ((((List.take (((v26.length : Int) - 1)).toNat v26).length : Int) * 8) ≤ 140737488355328)) then (bif (decide (0 < ((List.take (((v26.length : Int) - 1)).toNat v26).length : Int))) then bif ((decide ((-9223372036854775808) ≤ (((List.take (((v26.length : Int) - 1)).toNat v26).length : Int) - 1))) && (decide ((((List.take (((v26.length : Int) - 1)).toNat v26).length : Int) - 1) ≤ 9223372036854775807))) then bif (decide (0 ≤ (((List.take (((v26.length : Int) - 1)).toNat v26).length : Int) - 1))) then bif (decide ((((List.take (((v26.length : Int) - 1)).toNat v26).length : Int) - 1) < ((List.take (((v26.length : Int) - 1)).toNat v26).length : Int))) then bif (decide (0 ≤ (cI (List.take (((v26.length : Int) - 1)).toNat v26) (((List.take (((v26.length : Int) - 1)).toNat v26).length : Int) - 1) 0))) then bif (decide ((cI (List.take (((v26.length : Int) - 1)).toNat v26) (((List.take (((v26.length : Int) - 1)).toNat v26).length : Int) - 1) 0) < (v7.length : Int))) then (bif (decide (v8 < (cI v10 v12 0))) then some (v25, v24, 0)
 else go1 (true, (cI v10 v12 0), (cI v26 ((v26.length : Int) - 1) 0), 3, (List.take (List.replicate (((List.take (((v26.length : Int) - 1)).toNat v26).length : Int)).toNat [(AV.int 0)]).length (List.take (((v26.length : Int) - 1)).toNat v26) ++ List.drop (List.take (((v26.length : Int) - 1)).toNat v26).length (List.replicate (((List.take (((v26.length : Int) - 1)).toNat v26).length : Int)).toNat [(AV.int 0)])), (cI v7 (cI (List.take (((v26.length : Int) - 1)).toNat v26) (((List.take (((v26.length : Int) - 1)).toNat v26).length : Int) - 1) 0) 2), (List.take (((v26.length : Int) - 1)).toNat v26))) else none else none else none else none else none
 else (bif (decide (v8 < (cI v10 v12 0))) then some (v25, v24, 0)
 else go1 (true, (cI v10 v12 0), (cI v26 ((v26.length : Int) - 1) 0), 3, (List.take (List.replicate (((List.take (((v26.length : Int) - 1)).toNat v26).length : Int)).toNat [(AV.int 0)]).length (List.take (((v26.length : Int) - 1)).toNat v26) ++ List.drop (List.take (((v26.length : Int) - 1)).toNat v26).length (List.replicate (((List.take (((v26.length : Int) - 1)).toNat v26).length : Int)).toNat [(AV.int 0)])), v1, (List.take (((v26.length : Int) - 1)).toNat v26)))) else none else none else none
 else bif (decide (((v26.length : Int) - 1) ≤ (v26.length : Int))) then bif (decide (0 ≤ ((List.take (((v26.length : Int) - 1)).toNat v26).length : Int))) then bif (decide ((((List.take (((v26.length : Int) - 1)).toNat v26).length : Int) * 8) ≤ 140737488355328)) then (bif (decide (0 < ((List.take (((v26.length : Int) - 1)).toNat v26).length : Int))) then bif ((decide ((-9223372036854775808) ≤ (((List.take (((v26.length : Int) - 1)).toNat v26).length : Int) - 1))) && (decide ((((List.take (((v26.length : Int) - 1)).toNat v26).length : Int) - 1) ≤ 9223372036854775807))) then bif (decide (0 ≤ (((List.take (((v26.length : Int) - 1)).toNat v26).length : Int) - 1))) then bif (decide ((((List.take (((v26.length : Int) - 1)).toNat v26).length : Int) - 1) < ((List.take (((v26.length : Int) - 1)).toNat v26).length : Int))) then bif (decide (0 ≤ (cI (List.take (((v26.length : Int) - 1)).toNat v26) (((List.take (((v26.length : Int) - 1)).toNat v26).length : Int) - 1) 0))) then bif (decide ((cI (List.take (((v26.length : Int) - 1)).toNat v26) (((List.take (((v26.length : Int) - 1)).toNat v26).length : Int) - 1) 0) < (v7.length : Int))) then (bif (decide (v8 < (cI v10 v12 0))) then some (v25, v24, 0)
 else go1 (true, (cI v10 v12 0), (cI v26 ((v26.length : Int) - 1) 0), 4, (List.take (List.replicate (((List.take (((v26.length : Int) - 1)).toNat v26).length : Int)).toNat [(AV.int 0)]).length (List.take (((v26.length : Int) - 1)).toNat v26) ++ List.drop (List.take (((v26.length : Int) - 1)).toNat v26).length (List.replicate (((List.take (((v26.length : Int) - 1)).toNat v26).length : Int)).toNat [(AV.int 0)])), (cI v7 (cI (List.take (((v26.length : Int) - 1)).toNat v26) (((List.take (((v26.length : Int) - 1)).toNat v26).length : Int) - 1) 0) 2), (List.take (((v26.length : Int) - 1)).toNat v26))) else none else none else none else none else none
 else (bif (decide (v8 < (cI v10 v12 0))) then some (v25, v24, 0)
 else go1 (true, (cI v10 v12 0), (cI v26 ((v26.length : Int) - 1) 0), 4, (List.take (List.replicate (((List.take (((v26.length : Int) - 1)).toNat v26).length : Int)).toNat [(AV.int 0)]).length (List.take (((v26.length : Int) - 1)).toNat v26) ++ List.drop (List.take (((v26.length : Int) - 1)).toNat v26).length (List.replicate (((List.take (((v26.length : Int) - 1)).toNat v26).length : Int)).toNat [(AV.int 0)])), v1, (List.take (((v26.length : Int) - 1)).toNat v26)))) else none else none else none) else none else none else none
 else (bif (decide (0 < (v26.length : Int))) then bif ((decide ((-9223372036854775808) ≤ ((v26.length : Int) - 1))) && (decide (((v26.length : Int) - 1) ≤ 9223372036854775807))) then bif (decide (0 ≤ ((v26.length : Int) - 1))) then bif (decide (((v26.length : Int) - 1) < (v26.length : Int))) then bif (decide (0 ≤ (cI v26 ((v26.length : Int) - 1) 0))) then bif (decide ((cI v26 ((v26.length : Int) - 1) 0) < (v7.length : Int))) then bif ((decide ((-9223372036854775808) ≤ (v12 + 1))) && (decide ((v12 + 1) ≤ 9223372036854775807))) then go0 ((cI v7 (cI v26 ((v26.length : Int) - 1) 0) 2), (v12 + 1), v21, v22, v23, v24, v25, v26) else none else none else none else none else none else none
 else bif ((decide ((-9223372036854775808) ≤ (v12 + 1))) && (decide ((v12 + 1) ≤ 9223372036854775807))) then go0 (v1, (v12 + 1), v21, v22, v23, v24, v25, v26) else none))
def chain_At_12 (n : Nat) (go0 : chain_At_s0 → Option chain_At_a) (go1 : chain_At_s2 → Option chain_At_a) (v1 : Int) (v7 : Lv) (v8 : Int) (v10 : Lv) (v12 v19 : Int) (v20 : Bool) (v21 v22 v23 : Int) (v24 : Lv) (v25 : Int) (v26 : Lv) : Option chain_At_a :=
 (bif v20 then chain_At_13 n go0 go1 v1 v7 v8 v10 v12 v19 v21 v22 v23 v24 v25 v26
 else some (v25, v24, 0))
def chain_At_11 (n : Nat) (go0 : chain_At_s0 → Option chain_At_a) (go1 : chain_At_s1 → Option chain_At_a) (v1 : Int) (v7 : Lv) (v8 : Int) (v10 : Lv) (v12 v13 v14 v15 : Int) (v16 : Lv) (v17 : Int) (v18 : Lv) (v19 : Int) : Option chain_At_a :=
 (bif (decide (v19 < 0)) then bif (decide (0 ≤ (v18.length : Int))) then bif (decide (((v18.length : Int) * 8) ≤ 140737488355328)) then (bif (decide (0 < (v18.length : Int))) then bif ((decide ((-9223372036854775808) ≤ ((v18.length : Int) - 1))) && (decide (((v18.length : Int) - 1) ≤ 9223372036854775807))) then bif (decide (0 ≤ ((v18.length : Int) - 1))) then bif (decide (((v18.length : Int) - 1) < (v18.length : Int))) then bif (decide (0 ≤ (cI v18 ((v18.length : Int) - 1) 0))) then bif (decide ((cI v18 ((v18.length : Int) - 1) 0) < (v7.length : Int))) then (bif (decide (v8 < (cI v10 v12 0))) then some (v17, v16, 0)
 else bif ((decide ((-9223372036854775808) ≤ (v12 + 1))) && (decide ((v12 + 1) ≤ 9223372036854775807))) then go0 ((cI v7 (cI v18 ((v18.length : Int) - 1) 0) 2), (v12 + 1), (cI v10 v12 0), (cI v10 v12 1), 5, (List.take (List.replicate ((v18.length : Int)).toNat [(AV.int 0)]).length v18 ++ List.drop v18.length (List.replicate ((v18.length : Int)).toNat [(AV.int 0)])), (cI v7 (cI v18 ((v18.length : Int) - 1) 0) 2), v18) else none) else none else none else none else none else none
 else (bif (decide (v8 < (cI v10 v12 0))) then some (v17, v16, 0)
 else bif ((decide ((-9223372036854775808) ≤ (v12 + 1))) && (decide ((v12 + 1) ≤ 9223372036854775807))) then go0 (v1, (v12 + 1), (cI v10 v12 0), (cI v10 v12 1), 5, (List.take (List.replicate ((v18.length : Int)).toNat [(AV.int 0)]).length v18 ++ List.drop v18.length (List.replicate ((v18.length : Int)).toNat [(AV.int 0)])), v1, v18) else none)) else none else none
 else (iterF (fun go1 s => chain_At_12 n go0 go1 v1 v7 v8 v10 v12 v19 s.1 s.2.1 s.2.2.1 s.2.2.2.1 s.2.2.2.2.1 s.2.2.2.2.2.1 s.2.2.2.2.2.2) n ((true, v13, v14, v15, v16, v17, v18) : chain_At_s2)))
def chain_At_8 (n : Nat) (go0 : chain_At_s0 → Option chain_At_a) (go1 : chain_At_s1 → Option chain_At_a) (v1 : Int) (v6 v7 : Lv) (v8 : Int) (v10 : Lv) (v11 v12 v13 v14 v15 : Int) (v16 : Lv) (v17 : Int) (v18 : Lv) (v19 : Int) : Option chain_At_a :=
 (bif (!(cB v10 v12 2)) then (life_At n v6 (imin (cI v10 v12 0) 10000000)).bind fun y20 =>
 chain_At_9 n go0 go1 v1 v7 v8 v10 v11 v12 v16 v17 v18 y20.1 y20.2.1
 else chain_At_11 n go0 go1 v1 v7 v8 v10 v12 v13 v14 v15 v16 v17 v18 v19)
def chain_At_7 (n : Nat) (go0 : chain_At_s0 → Option chain_At_a) (go1 : chain_At_s1 → Option chain_At_a) (v1 : Int) (v6 v7 : Lv) (v8 : Int) (v10 : Lv) (v11 v12 v13 v14 v15 : Int) (v16 : Lv) (v17 : Int) (v18 : Lv) (v19 : Int) : Option chain_At_a :=
 (bif (decide ((cI v10 v12 1) = (cI v18 v19 0))) then bif (decide (0 ≤ (cI v10 v12 1))) then bif (decide ((cI v10 v12 1) < (v7.length : Int))) then chain_At_8 n go0 go1 v1 v6 v7 v8 v10 v11 v12 v13 v14 v15 v16 v17 v18 v19 else none else none
 else bif ((decide ((-9223372036854775808) ≤ (v19 + 1))) && (decide ((v19 + 1) ≤ 9223372036854775807))) then go1 (v19 + 1) else none)
abbrev chain_At_15 := @chain_At_9
def chain_At_14 (n : Nat) (go0 : chain_At_s0 → Option chain_At_a) (go1 : chain_At_s1 → Option chain_At_a) (v1 : Int) (v6 v7 : Lv) (v8 : Int) (v10 : Lv) (v11 v12 : Int) (v16 : Lv) (v17 : Int) (v18 : Lv) : Option chain_At_a :=
 (bif (!(cB v10 v12 2)) then (life_At n v6 (imin (cI v10 v12 0) 10000000)).bind fun y20 =>
 chain_At_15 n go0 go1 v1 v7 v8 v10 v11 v12 v16 v17 v18 y20.1 y20.2.1
 else bif (decide (0 ≤ (v18.length : Int))) then bif (decide (((v18.length : Int) * 8) ≤ 140737488355328)) then (bif (decide (0 < (v18.length : Int))) then bif ((decide ((-9223372036854775808) ≤ ((v18.length : Int) - 1))) && (decide (((v18.length : Int) - 1) ≤ 9223372036854775807))) then bif (decide (0 ≤ ((v18.length : Int) - 1))) then bif (decide (((v18.length : Int) - 1) < (v18.length : Int))) then bif (decide (0 ≤ (cI v18 ((v18.length : Int) - 1) 0))) then bif (decide ((cI v18 ((v18.length : Int) - 1) 0) < (v7.length : Int))) then (bif (decide (v8 < (cI v10 v12 0))) then some (v17, v16, 0)
 else bif ((decide ((-9223372036854775808) ≤ (v12 + 1))) && (decide ((v12 + 1) ≤ 9223372036854775807))) then go0 ((cI v7 (cI v18 ((v18.length : Int) - 1) 0) 2), (v12 + 1), (cI v10 v12 0), (cI v10 v12 1), 5, (List.take (List.replicate ((v18.length : Int)).toNat [(AV.int 0)]).length v18 ++ List.drop v18.length (List.replicate ((v18.length : Int)).toNat [(AV.int 0)])), (cI v7 (cI v18 ((v18.length : Int) - 1) 0) 2), v18) else none) else none else none else none else none else none
 else (bif (decide (v8 < (cI v10 v12 0))) then some (v17, v16, 0)
 else bif ((decide ((-9223372036854775808) ≤ (v12 + 1))) && (decide ((v12 + 1) ≤ 9223372036854775807))) then go0 (v1, (v12 + 1), (cI v10 v12 0), (cI v10 v12 1), 5, (List.take (List.replicate ((v18.length : Int)).toNat [(AV.int 0)]).length v18 ++ List.drop v18.length (List.replicate ((v18.length : Int)).toNat [(AV.int 0)])), v1, v18) else none)) else none else none)
def chain_At_6 (n : Nat) (go0 : chain_At_s0 → Option chain_At_a) (go1 : chain_At_s1 → Option chain_At_a) (v1 : Int) (v6 v7 : Lv) (v8 : Int) (v10 : Lv) (v11 v12 v13 v14 v15 : Int) (v16 : Lv) (v17 : Int) (v18 : Lv) (v19 : Int) : Option chain_At_a :=
 (bif (decide (v19 < (v18.length : Int))) then bif (decide (0 ≤ v19)) then chain_At_7 n go0 go1 v1 v6 v7 v8 v10 v11 v12 v13 v14 v15 v16 v17 v18 v19 else none
 else bif (decide (0 ≤ (cI v10 v12 1))) then bif (decide ((cI v10 v12 1) < (v7.length : Int))) then chain_At_14 n go0 go1 v1 v6 v7 v8 v10 v11 v12 v16 v17 v18 else none else none)
def chain_At_5 (n : Nat) (go0 : chain_At_s0 → Option chain_At_a) (v1 : Int) (v6 v7 : Lv) (v8 : Int) (v10 : Lv) (v11 v12 v13 v14 v15 : Int) (v16 : Lv) (v17 : Int) (v18 : Lv) : Option chain_At_a :=
 (bif (decide (v12 < (v10.length : Int))) then bif (decide (0 ≤ v12)) then (iterF (fun go1 s => chain_At_6 n go0 go1 v1 v6 v7 v8 v10 v11 v12 v13 v14 v15 v16 v17 v18 s) n (0 : chain_At_s1)) else none
 else some (v17, v16, 0))
def chain_At_4 (n : Nat) (v0 v1 v2 v3 v4 v5 : Int) (v6 v7 : Lv) (v8 : Int) : Option chain_At_a :=
 (bif (!(decide (v8 ≤ 20000000))) then some (0, ([] : Lv), 170)
 else (chain_happenings n v0 v1 v2 v3 v4 v5 v6 v7).bind fun y10 =>
 (iterF (fun go0 s => chain_At_5 n go0 v1 v6 v7 v8 y10 s.1 s.2.1 s.2.2.1 s.2.2.2.1 s.2.2.2.2.1 s.2.2.2.2.2.1 s.2.2.2.2.2.2.1 s.2.2.2.2.2.2.2) n ((v1, 0, 0, 0, 0, ([] : Lv), v1, ([] : Lv)) : chain_At_s0)))
def chain_At_3 (n : Nat) (v0 v1 v2 v3 v4 v5 : Int) (v6 v7 : Lv) (v8 : Int) : Option chain_At_a :=
 (bif (decide (0 ≤ v8)) then chain_At_4 n v0 v1 v2 v3 v4 v5 v6 v7 v8
 else some (0, ([] : Lv), 170))
def chain_At_2 (n : Nat) (v0 v1 v2 v3 v4 v5 : Int) (v6 v7 : Lv) (v8 : Int) (v9 : Bool) : Option chain_At_a :=
 (bif (!v9) then some (0, ([] : Lv), 170)
 else chain_At_3 n v0 v1 v2 v3 v4 v5 v6 v7 v8)
def chain_At_1 (n : Nat) (v0 v1 v2 v3 v4 v5 : Int) (v6 v7 : Lv) (v8 : Int) : Option chain_At_a :=
 (chain_Valid n v0 v1 v2 v3 v4 v5 v6 v7).bind fun y9 =>
 chain_At_2 n v0 v1 v2 v3 v4 v5 v6 v7 v8 y9
def chain_At (n : Nat) (v0 v1 v2 v3 v4 v5 : Int) (v6 v7 : Lv) (v8 : Int) : Option chain_At_a := chain_At_1 n v0 v1 v2 v3 v4 v5 v6 v7 v8
def chain_At_t : FnT := ⟨[(true, [.int, .int, .int, .int, .int, .int, (.sl (.cons .int (.cons .int (.cons .int .nil)))), (.sl (.cons .int (.cons .int (.cons .int (.cons .int (.cons .int (.cons .bool (.cons (.sl (.cons .int (.cons .int (.cons .int .nil)))) .nil))))))))]), (false, [.int])], (.tup (.cons .i (.cons (.row 3 (.cons .int .nil)) (.cons .i .nil)))), fun n (s : Int × Int × Int × Int × Int × Int × Lv × Lv × Int) => chain_At n s.1 s.2.1 s.2.2.1 s.2.2.2.1 s.2.2.2.2.1 s.2.2.2.2.2.1 s.2.2.2.2.2.2.1 s.2.2.2.2.2.2.2.1 s.2.2.2.2.2.2.2.2⟩
theorem chain_At_ok : chain_At_t.ok Tryz.prog 20 := FnT.ok_of (cfg := ⟨[((71, 5, 9), .inv [(.tmp 5 .int), (.tmp 22 .int), (.cell 2 0 .int), (.cell 2 1 .int), (.cell 2 2 .int), (.cellrow 2 3 3 (.cons .int .nil)), (.cell 2 4 .int), (.cellrow 7 0 3 (.cons .int .nil))]), ((74, 2, 19), .inv [(.tmp 8 .int)]), ((71, 10, 22), .inv [(.tmp 10 .bool), (.cell 2 0 .int), (.cell 2 1 .int), (.cell 2 2 .int), (.cellrow 2 3 3 (.cons .int .nil)), (.cell 2 4 .int), (.cellrow 7 0 3 (.cons .int .nil))])], consD8, [(71, 15), (11, 8)], mapsD8⟩) (tab := chain_Settled_T) (mt := mtE) pfit chain_Settled_T_ok mtE_ok (fun s fn hf => by rw [Tryz.func20] at hf; cases hf; kernel_rfl) (fun n s => by kernel_rfl)
def chain_At_T : Tab := (20, chain_At_t) :: chain_Settled_T
theorem chain_At_T_ok : chain_At_T.ok Tryz.prog := Tab.ok_cons chain_At_ok chain_Settled_T_ok
end
end Go.Proofs.YtjllgiddmeiaoaaGreat
