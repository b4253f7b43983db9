/-
  Plain mathematics of chains: a claim's status and its happenings at a time; a port alone.
-/
import Derived.Test.YtjllgiddmeiaoaaChnX
set_option linter.unusedVariables false
set_option linter.unusedSimpArgs false
namespace Go.Dial.Chn
open Go.Dial.Clm Go.Dial.Lif
/-- the happenings of the first statuses behind one, and the last of them -/
def Pre (i : Nat) (now : Cs) (L : List Hp) (z : Cs) : Prop :=
  (now.s ≤ 3 → (L = [] ∧ z.s ≠ 4 ∧ z.s ≠ 5) ∨ (∃ f, L = [⟨f, i, false⟩] ∧ (z.s = 4 ∨ z.s = 5)) ∨ (∃ f g, L = [⟨f, i, false⟩, ⟨g, i, true⟩] ∧ z.s = 8)) ∧
  (now.s = 4 → (L = [] ∧ (z.s = 4 ∨ z.s = 5)) ∨ (∃ g, L = [⟨g, i, true⟩] ∧ z.s = 8)) ∧
  (5 ≤ now.s → L = [] ∧ z = now)
theorem pre_step {r : Rl} {i : Nat} {now : Cs} {s f : Int} {l : List Cs} (h : Pre i (st r s f) (l.filterMap (hpOf i)) (lst (st r s f) l))
    (hs : (now.s ≤ 3 ∧ (s = 2 ∨ s = 3 ∨ s = 4 ∨ s = 6 ∨ s = 7)) ∨ (now.s = 4 ∧ (s = 5 ∨ s = 8))) : Pre i now ((st r s f :: l).filterMap (hpOf i)) (lst now (st r s f :: l)) := by
  rw [lst_cons, List.filterMap_cons]
  have e1 : (st r s f).s = s := rfl
  unfold Pre at h ⊢
  rw [e1] at h
  obtain ⟨h1, h2, h3⟩ := h
  rcases hs with ⟨q, hs⟩ | ⟨q, hs⟩
  · refine ⟨fun _ => ?_, fun h => by omega, fun h => by omega⟩
    rcases hs with rfl | rfl | rfl | rfl | rfl
    · have : hpOf i (st r 2 f) = none := rfl
      rw [this]; exact h1 (by decide)
    · have : hpOf i (st r 3 f) = none := rfl
      rw [this]; exact h1 (by decide)
    · have : hpOf i (st r 4 f) = some ⟨f, i, false⟩ := rfl
      rw [this]; simp only
      rcases h2 rfl with ⟨h, g⟩ | ⟨g, c, d⟩
      · exact .inr (.inl ⟨f, by rw [h], g⟩)
      · exact .inr (.inr ⟨f, g, by rw [c], d⟩)
    · have : hpOf i (st r 6 f) = none := rfl
      rw [this]; simp only
      obtain ⟨h, g⟩ := h3 (by decide)
      exact .inl ⟨h, by rw [g, e1]; decide, by rw [g, e1]; decide⟩
    · have : hpOf i (st r 7 f) = none := rfl
      rw [this]; simp only
      obtain ⟨h, g⟩ := h3 (by decide)
      exact .inl ⟨h, by rw [g, e1]; decide, by rw [g, e1]; decide⟩
  · refine ⟨fun h => by omega, fun _ => ?_, fun h => by omega⟩
    rcases hs with rfl | rfl
    · have : hpOf i (st r 5 f) = none := rfl
      rw [this]; simp only
      obtain ⟨h, g⟩ := h3 (by decide)
      exact .inl ⟨h, .inr (by rw [g]; rfl)⟩
    · have : hpOf i (st r 8 f) = some ⟨f, i, true⟩ := rfl
      rw [this]; simp only
      obtain ⟨h, g⟩ := h3 (by decide)
      exact .inr ⟨f, by rw [h], by rw [g]; rfl⟩
theorem force_cons (c : Ch) (G : List Int) (h : Hp) (l : List Hp) : force c G (h :: l) = force c (aftH c G h) l := rfl
theorem force_nil (c : Ch) (G : List Int) : force c G [] = G := rfl
theorem tl_pre {r : Rl} {b : Bool} {i : Nat} : ∀ (m : Nat) (now : Cs) (es : List Ce) (k : Nat), 5 * es.length + rk now.s ≤ m → 1 ≤ now.s → Pre i now (((tl r b now es).take k).filterMap (hpOf i)) (lst now ((tl r b now es).take k)) := by
  have nil : ∀ now : Cs, Pre i now (([] : List Cs).filterMap (hpOf i)) (lst now []) := fun now => ⟨fun h => .inl ⟨rfl, by show now.s ≠ 4; omega, by show now.s ≠ 5; omega⟩, fun h => .inl ⟨rfl, .inl h⟩, fun _ => ⟨rfl, rfl⟩⟩
  have auto : ∀ now : Cs, act now → (now.s ≤ 3 ∧ (aft now.s = 2 ∨ aft now.s = 3 ∨ aft now.s = 4 ∨ aft now.s = 6 ∨ aft now.s = 7)) ∨ (now.s = 4 ∧ (aft now.s = 5 ∨ aft now.s = 8)) := by
    intro now ha
    unfold act at ha
    have : now.s = 1 ∨ now.s = 2 ∨ now.s = 3 ∨ now.s = 4 := by omega
    rcases this with h | h | h | h <;> rw [h] <;> decide
  have aft1 : ∀ s, 1 ≤ s → 1 ≤ aft s := fun s h => by unfold aft; split; omega; split <;> omega
  intro m
  induction m with
  | zero =>
    intro now es k hm h1
    have he : es = [] := by
      cases es with
      | nil => rfl
      | cons e es => simp at hm
    subst he
    by_cases ha : act now
    · have := rk_aft ha; omega
    · rw [tl_nil ha, List.take_nil]
      exact nil now
  | succ m ih =>
    intro now es k hm h1
    cases k with
    | zero => rw [List.take_zero]; exact nil now
    | succ k =>
      cases es with
      | nil =>
        by_cases ha : act now
        · rw [tl_end ha, List.take_succ_cons]
          exact pre_step (ih (st r (aft now.s) now.n) [] k (by have := rk_aft ha; simp only [st]; omega) (aft1 _ h1)) (auto now ha)
        · rw [tl_nil ha, List.take_nil]
          exact nil now
      | cons e es =>
        by_cases ha : act now ∧ now.n ≤ e.a
        · rw [tl_auto ha, List.take_succ_cons]
          exact pre_step (ih (st r (aft now.s) now.n) (e :: es) k (by have := rk_aft ha.1; simp only [st]; omega) (aft1 _ h1)) (auto now ha.1)
        · by_cases hbb : bec b now.s e < 0
          · rw [tl_void ha hbb]
            exact ih now es (k + 1) (by simp only [List.length_cons] at hm; omega) h1
          · rw [tl_ev ha hbb, List.take_succ_cons]
            have h8 := bec_cases hbb
            refine pre_step (ih (st r (bec b now.s e) e.a) es k (by simp only [List.length_cons] at hm; have := rk_le (st r (bec b now.s e) e.a).s; omega) (by simp only [st]; omega)) ?_
            rcases h8 with ⟨q1, q2, q3⟩ | ⟨q1, q2⟩
            · exact .inl ⟨q2, by omega⟩
            · exact .inr ⟨q1, .inr q2⟩
/-- statuses are in order -/
theorem tl_sorted {r : Rl} (hr : RlV r) {b : Bool} : ∀ (m : Nat) (now : Cs) (es : List Ce), 5 * es.length + rk now.s ≤ m → (act now → now.n = now.f + dur r now.s) → EvV now.f es → (now :: tl r b now es).Pairwise fun x y => x.f ≤ y.f := by
  have ni : ∀ s f, act (st r s f) → (st r s f).n = (st r s f).f + dur r (st r s f).s := fun s f ha => by
    unfold act at ha
    simp only [st] at ha ⊢
    rw [if_pos ha]
  have later : ∀ now : Cs, act now → now.n = now.f + dur r now.s → now.f < now.n := fun now _ h => by
    have := dur_bd hr now.s
    omega
  intro m
  induction m with
  | zero =>
    intro now es hm hn hE
    have he : es = [] := by
      cases es with
      | nil => rfl
      | cons e es => simp at hm
    subst he
    by_cases ha : act now
    · have := rk_aft ha; omega
    · rw [tl_nil ha]; exact List.pairwise_singleton _ _
  | succ m ih =>
    intro now es hm hn hE
    refine List.pairwise_cons.2 ⟨tl_ge hr (fun ha => Int.le_of_lt (later now ha (hn ha))) fun e he => (evV_ge hE e he).1, ?_⟩
    cases es with
    | nil =>
      by_cases ha : act now
      · rw [tl_end ha]
        exact ih (st r (aft now.s) now.n) [] (by have := rk_aft ha; simp only [st]; omega) (ni _ _) trivial
      · rw [tl_nil ha]; exact List.Pairwise.nil
    | cons e es =>
      obtain ⟨hc, hE'⟩ := hE
      by_cases ha : act now ∧ now.n ≤ e.a
      · rw [tl_auto ha]
        exact ih (st r (aft now.s) now.n) (e :: es) (by have := rk_aft ha.1; simp only [st]; omega) (ni _ _) ⟨⟨hc.1, hc.2.1, ha.2, hc.2.2.2⟩, hE'⟩
      · by_cases hbb : bec b now.s e < 0
        · rw [tl_void ha hbb]
          exact (List.pairwise_cons.1 (ih now es (by simp only [List.length_cons] at hm; omega) hn (evV_mono hE' hc.2.2.1))).2
        · rw [tl_ev ha hbb]
          exact ih (st r (bec b now.s e) e.a) es (by simp only [List.length_cons] at hm; have := rk_le (st r (bec b now.s e) e.a).s; omega) (ni _ _) hE'
theorem timeline_sorted {r : Rl} {c : Cl} {es : List Ce} (h : ClmV r c es) : (timeline r c es).Pairwise fun x y => x.f ≤ y.f :=
  tl_sorted h.1 _ (x0 r c) es (Nat.le_refl _) (fun _ => by simp [x0, st, dur]) h.2.2.2
theorem hpOf_a {i : Nat} {x : Cs} {h : Hp} (hh : hpOf i x = some h) : h.a = x.f := by
  unfold hpOf at hh
  split at hh
  · cases hh; rfl
  · cases hh
/-- the happenings up to a time are those of the statuses up to it -/
theorem upTo_hps {i : Nat} {t : Int} : ∀ {l : List Cs}, l.Pairwise (fun x y => x.f ≤ y.f) → (upTo t l).filterMap (hpOf i) = (l.filterMap (hpOf i)).takeWhile fun h => decide (h.a ≤ t)
  | [], _ => rfl
  | x :: l, hs => by
    obtain ⟨h1, h2⟩ := List.pairwise_cons.1 hs
    have ih := upTo_hps (i := i) (t := t) h2
    unfold upTo at ih ⊢
    by_cases hx : x.f ≤ t
    · rw [List.takeWhile_cons_of_pos (by simpa using hx), List.filterMap_cons, List.filterMap_cons]
      cases hh : hpOf i x with
      | none => exact ih
      | some h =>
        simp only
        rw [List.takeWhile_cons_of_pos (by have := hpOf_a hh; simp; omega), ih]
    · rw [List.takeWhile_cons_of_neg (by simpa using hx)]
      have : ∀ h ∈ (x :: l).filterMap (hpOf i), t < h.a := fun h hh => by
        obtain ⟨y, hy, e⟩ := List.mem_filterMap.1 hh
        have := hpOf_a e
        rcases List.mem_cons.1 hy with rfl | hy
        · omega
        · have := h1 y hy; omega
      cases hq : (x :: l).filterMap (hpOf i) with
      | nil => rfl
      | cons h q =>
        rw [hq] at this
        have := this h (List.mem_cons_self ..)
        rw [List.takeWhile_cons_of_neg (by simp; omega)]
        rfl
/-- a claim's status at a time, and its happenings up to it -/
theorem out_pre {r : Rl} {c : Cl} {es : List Ce} (h : ClmV r c es) (i : Nat) (t : Int) : 
    (((timeline r c es).filterMap (hpOf i)).takeWhile (fun h => decide (h.a ≤ t)) = [] ∧ (outV r c es t).s ≠ 4 ∧ (outV r c es t).s ≠ 5) ∨
    (∃ f, ((timeline r c es).filterMap (hpOf i)).takeWhile (fun h => decide (h.a ≤ t)) = [⟨f, i, false⟩] ∧ ((outV r c es t).s = 4 ∨ (outV r c es t).s = 5)) ∨
    (∃ f g, ((timeline r c es).filterMap (hpOf i)).takeWhile (fun h => decide (h.a ≤ t)) = [⟨f, i, false⟩, ⟨g, i, true⟩] ∧ (outV r c es t).s = 8) := by
  rw [← upTo_hps (timeline_sorted h)]
  by_cases h0 : (x0 r c).f ≤ t
  · have hk : upTo t (timeline r c es) = x0 r c :: (tl r c.b (x0 r c) es).take (upTo t (tl r c.b (x0 r c) es)).length := by
      unfold upTo timeline
      rw [List.takeWhile_cons_of_pos (by simpa using h0)]
      congr 1
      exact List.prefix_iff_eq_take.1 (List.takeWhile_prefix _)
    have hp := (tl_pre (r := r) (b := c.b) (i := i) _ (x0 r c) es (upTo t (tl r c.b (x0 r c) es)).length (Nat.le_refl _) (show (1 : Int) ≤ 1 by decide)).1 (show (1 : Int) ≤ 3 by decide)
    have ho : outV r c es t = lst (x0 r c) ((tl r c.b (x0 r c) es).take (upTo t (tl r c.b (x0 r c) es)).length) := by
      unfold outV lst
      rw [hk, List.getLast?_cons]
      rfl
    have hf : (upTo t (timeline r c es)).filterMap (hpOf i) = ((tl r c.b (x0 r c) es).take (upTo t (tl r c.b (x0 r c) es)).length).filterMap (hpOf i) := by
      rw [hk, List.filterMap_cons]
      have : hpOf i (x0 r c) = none := by unfold hpOf x0 st; simp
      rw [this]
    rw [hf, ho]
    exact hp
  · have hk : upTo t (timeline r c es) = [] := by
      unfold upTo timeline
      rw [List.takeWhile_cons_of_neg (by simpa using h0)]
    have ho : outV r c es t = ⟨0, 0, c.a⟩ := by unfold outV; rw [hk]; rfl
    rw [hk, ho]
    exact .inl ⟨rfl, by simp, by simp⟩
/-- a port alone -/
theorem alone_law {c : Ch} {p : Pt} (hV : ChV c) (hp : c.ps = [p]) (hf : c.f = p.c.f) (t : Int) :
    (turnsV c = [] ∧ withV c (forceAt c t) = c.f) ∨ (∃ m T, turnsV c = m :: T ∧ m.k = 2 ∧ withV c (forceAt c t) = c.f) ∨
    (∃ m T, turnsV c = m :: T ∧ m.k = 1 ∧ withV c (forceAt c t) = if (outV c.r p.c p.es t).s = 4 ∨ (outV c.r p.c p.es t).s = 5 then p.c.t else p.c.f) := by
  have hp0 : c.ps[0]? = some p := by rw [hp]; rfl
  have hv := ch_clm hV hp0
  have hH : hps c = isort ((timeline c.r p.c p.es).filterMap (hpOf 0)) := by
    unfold hps
    rw [hp]
    show isort (_ ++ []) = _
    rw [List.append_nil]
  have hport : portAt c 0 = p := portAt_of hp0
  have ho := out_pre hv 0 t
  rcases port_cases hv 0 with ⟨e, _⟩ | ⟨f, h1, e, _⟩ | ⟨f, g, h1, h2, h3, e, _⟩
  · left
    have hN : hps c = [] := by rw [hH, e]; rfl
    exact ⟨by unfold turnsV; rw [hN]; rfl, by unfold forceAt; rw [hN]; rfl⟩
  · right
    have hN : hps c = [⟨f, 0, false⟩] := by rw [hH, e]; rfl
    have hT : turnsV c = momsH c [] ⟨f, 0, false⟩ := by
      unfold turnsV; rw [hN]
      show momsH c [] ⟨f, 0, false⟩ ++ [] = _
      rw [List.append_nil]
    by_cases ht : Takes c [] ⟨f, 0, false⟩
    · right
      refine ⟨⟨f, 0, 1, [0]⟩, [], ?_, rfl, ?_⟩
      · rw [hT]; unfold momsH; rw [if_neg (by simp), if_pos ht]
      · rw [e] at ho
        unfold forceAt
        rw [hN]
        by_cases hft : f ≤ t
        · have htw : ([⟨f, 0, false⟩] : List Hp).takeWhile (fun h => decide (h.a ≤ t)) = [⟨f, 0, false⟩] := by simp [hft]
          have htw' : ([⟨f, ((0 : Nat) : Int), false⟩] : List Hp).takeWhile (fun h => decide (h.a ≤ t)) = [⟨f, 0, false⟩] := htw
          rw [htw'] at ho
          rw [htw]
          have hfo : force c [] [⟨f, 0, false⟩] = [0] := by
            rw [force_cons, force_nil]
            unfold aftH; rw [if_neg (by simp), if_pos ht]
          rw [hfo]
          rcases ho with ⟨h, _⟩ | ⟨f', h, hs⟩ | ⟨f', g', h, _⟩
          · cases h
          · rw [if_pos hs]; show (portAt c 0).c.t = _; rw [hport]
          · simp at h
        · have htw : ([⟨f, 0, false⟩] : List Hp).takeWhile (fun h => decide (h.a ≤ t)) = [] := by simp [hft]
          have htw' : ([⟨f, ((0 : Nat) : Int), false⟩] : List Hp).takeWhile (fun h => decide (h.a ≤ t)) = [] := htw
          rw [htw'] at ho
          rw [htw]
          rcases ho with ⟨_, h4, h5⟩ | ⟨f', h, hs⟩ | ⟨f', g', h, _⟩
          · rw [if_neg (by rintro (h | h); exact h4 h; exact h5 h)]; exact hf
          · cases h
          · cases h
    · left
      refine ⟨⟨f, 0, 2, []⟩, [], ?_, rfl, ?_⟩
      · rw [hT]; unfold momsH; rw [if_neg (by simp), if_neg ht]
      · have : forceAt c t = [] := by
          unfold forceAt
          rw [hN]
          by_cases hft : f ≤ t
          · have htw : ([⟨f, 0, false⟩] : List Hp).takeWhile (fun h => decide (h.a ≤ t)) = [⟨f, 0, false⟩] := by simp [hft]
            rw [htw]
            rw [force_cons, force_nil]
            unfold aftH; rw [if_neg (by simp), if_neg ht]
          · have htw : ([⟨f, 0, false⟩] : List Hp).takeWhile (fun h => decide (h.a ≤ t)) = [] := by simp [hft]
            rw [htw]; rfl
        rw [this]; rfl
  · right
    have hN : hps c = [⟨f, 0, false⟩, ⟨g, 0, true⟩] := by
      rw [hH, e]
      show ins ⟨g, 0, true⟩ [⟨f, 0, false⟩] = _
      unfold ins
      rw [if_neg (by unfold ltH; simp; omega)]
      rfl
    have hT : turnsV c = momsH c [] ⟨f, 0, false⟩ ++ (momsH c (aftH c [] ⟨f, 0, false⟩) ⟨g, 0, true⟩ ++ []) := by
      unfold turnsV; rw [hN]; rfl
    by_cases ht : Takes c [] ⟨f, 0, false⟩
    · right
      have ha : aftH c [] ⟨f, 0, false⟩ = [0] := by unfold aftH; rw [if_neg (by simp), if_pos ht]
      refine ⟨⟨f, 0, 1, [0]⟩, momsH c (aftH c [] ⟨f, 0, false⟩) ⟨g, 0, true⟩ ++ [], ?_, rfl, ?_⟩
      · rw [hT]
        have : momsH c [] ⟨f, 0, false⟩ = [⟨f, 0, 1, [0]⟩] := by unfold momsH; rw [if_neg (by simp), if_pos ht]
        rw [this]; rfl
      · rw [e] at ho
        unfold forceAt
        rw [hN]
        have ho : ((([⟨f, 0, false⟩, ⟨g, 0, true⟩] : List Hp).takeWhile (fun h => decide (h.a ≤ t)) = [] ∧ (outV c.r p.c p.es t).s ≠ 4 ∧ (outV c.r p.c p.es t).s ≠ 5) ∨ (∃ f', ([⟨f, 0, false⟩, ⟨g, 0, true⟩] : List Hp).takeWhile (fun h => decide (h.a ≤ t)) = [⟨f', 0, false⟩] ∧ ((outV c.r p.c p.es t).s = 4 ∨ (outV c.r p.c p.es t).s = 5)) ∨
          (∃ f' g', ([⟨f, 0, false⟩, ⟨g, 0, true⟩] : List Hp).takeWhile (fun h => decide (h.a ≤ t)) = [⟨f', 0, false⟩, ⟨g', 0, true⟩] ∧ (outV c.r p.c p.es t).s = 8)) := ho
        rcases ho with ⟨h, h4, h5⟩ | ⟨f', h, hs⟩ | ⟨f', g', h, hs⟩
        · rw [h, if_neg (by rintro (h | h); exact h4 h; exact h5 h)]; exact hf
        · rw [h, if_pos hs]
          have hff : f' = f := by
            have h1 : ([⟨f, 0, false⟩, ⟨g, 0, true⟩] : List Hp).takeWhile (fun h => decide (h.a ≤ t)) <+: _ := List.takeWhile_prefix _
            rw [h] at h1
            obtain ⟨q, hq⟩ := h1
            simp at hq
            exact hq.1
          rw [hff]
          have hfo : force c [] [⟨f, 0, false⟩] = [0] := ha
          rw [hfo]
          show (portAt c 0).c.t = _; rw [hport]
        · rw [h, if_neg (by rw [hs]; decide)]
          have hff : f' = f ∧ g' = g := by
            have h1 : ([⟨f, 0, false⟩, ⟨g, 0, true⟩] : List Hp).takeWhile (fun h => decide (h.a ≤ t)) <+: _ := List.takeWhile_prefix _
            rw [h] at h1
            obtain ⟨q, hq⟩ := h1
            simp at hq
            exact ⟨hq.1, hq.2.1⟩
          rw [hff.1, hff.2]
          have hfo : force c [] [⟨f, 0, false⟩, ⟨g, 0, true⟩] = [] := by
            rw [force_cons, force_cons, force_nil, ha]; rfl
          rw [hfo]; exact hf
    · left
      have ha : aftH c [] ⟨f, 0, false⟩ = [] := by unfold aftH; rw [if_neg (by simp), if_neg ht]
      refine ⟨⟨f, 0, 2, []⟩, momsH c (aftH c [] ⟨f, 0, false⟩) ⟨g, 0, true⟩ ++ [], ?_, rfl, ?_⟩
      · rw [hT]
        have : momsH c [] ⟨f, 0, false⟩ = [⟨f, 0, 2, []⟩] := by unfold momsH; rw [if_neg (by simp), if_neg ht]
        rw [this]; rfl
      · have hany : ∀ l : List Hp, l <+: [⟨f, 0, false⟩, ⟨g, 0, true⟩] → force c [] l = [] := by
          intro l hl
          rcases l with _ | ⟨x, _ | ⟨y, _ | ⟨z, l⟩⟩⟩
          · rfl
          · obtain ⟨q, hq⟩ := hl
            simp at hq
            rw [hq.1]; exact ha
          · obtain ⟨q, hq⟩ := hl
            simp at hq
            rw [hq.1, hq.2.1]
            rw [force_cons, force_cons, force_nil, ha]; rfl
          · obtain ⟨q, hq⟩ := hl
            simp at hq
        have : forceAt c t = [] := by
          unfold forceAt
          rw [hN]
          exact hany _ (List.takeWhile_prefix _)
        rw [this]; rfl
end Go.Dial.Chn
