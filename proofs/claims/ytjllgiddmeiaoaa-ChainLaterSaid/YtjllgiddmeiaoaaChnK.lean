/-
  Plain laws, joined.
-/
import Derived.Test.YtjllgiddmeiaoaaChnX
set_option linter.unusedVariables false
set_option linter.unusedSimpArgs false
set_option linter.unusedSectionVars false
namespace Go.Dial.Chn
open Go.Dial.Clm Go.Dial.Lif
/-- statuses are in order -/
theorem tl_sorted {r : Rl} (hr : RlV r) {b : Bool} : ∀ (m : Nat) (now : Cs) (es : List Ce), 5 * es.length + rk now.s ≤ m → (act now → now.n = now.f + dur r now.s) → EvV now.f es → (now :: tl r b now es).Pairwise fun x y => x.f ≤ y.f := by
  have ni : ∀ s f, act (st r s f) → (st r s f).n = (st r s f).f + dur r (st r s f).s := fun s f ha => by
    unfold act at ha
    simp only [st] at ha ⊢
    rw [if_pos ha]
  have later : ∀ now : Cs, act now → now.n = now.f + dur r now.s → now.f < now.n := fun now _ h => by
    have := dur_bd hr now.s
    omega
  intro m
  induction m with
  | zero =>
    intro now es hm hn hE
    have he : es = [] := by
      cases es with
      | nil => rfl
      | cons e es => simp at hm
    subst he
    by_cases ha : act now
    · have := rk_aft ha; omega
    · rw [tl_nil ha]; exact List.pairwise_singleton _ _
  | succ m ih =>
    intro now es hm hn hE
    refine List.pairwise_cons.2 ⟨tl_ge hr (fun ha => Int.le_of_lt (later now ha (hn ha))) fun e he => (evV_ge hE e he).1, ?_⟩
    cases es with
    | nil =>
      by_cases ha : act now
      · rw [tl_end ha]
        exact ih (st r (aft now.s) now.n) [] (by have := rk_aft ha; simp only [st]; omega) (ni _ _) trivial
      · rw [tl_nil ha]; exact List.Pairwise.nil
    | cons e es =>
      obtain ⟨hc, hE'⟩ := hE
      by_cases ha : act now ∧ now.n ≤ e.a
      · rw [tl_auto ha]
        exact ih (st r (aft now.s) now.n) (e :: es) (by have := rk_aft ha.1; simp only [st]; omega) (ni _ _) ⟨⟨hc.1, hc.2.1, ha.2, hc.2.2.2⟩, hE'⟩
      · by_cases hbb : bec b now.s e < 0
        · rw [tl_void ha hbb]
          exact (List.pairwise_cons.1 (ih now es (by simp only [List.length_cons] at hm; omega) hn (evV_mono hE' hc.2.2.1))).2
        · rw [tl_ev ha hbb]
          exact ih (st r (bec b now.s e) e.a) es (by simp only [List.length_cons] at hm; have := rk_le (st r (bec b now.s e) e.a).s; omega) (ni _ _) hE'
theorem timeline_sorted {r : Rl} {c : Cl} {es : List Ce} (h : ClmV r c es) : (timeline r c es).Pairwise fun x y => x.f ≤ y.f :=
  tl_sorted h.1 _ (x0 r c) es (Nat.le_refl _) (fun _ => by simp [x0, st, dur]) h.2.2.2
theorem hpOf_a {i : Nat} {x : Cs} {h : Hp} (hh : hpOf i x = some h) : h.a = x.f := by
  unfold hpOf at hh
  split at hh
  · cases hh; rfl
  · cases hh
end Go.Dial.Chn

namespace Go.Dial.Chn
open Go.Dial.Clm Go.Dial.Lif
theorem ins_front {x : Hp} {l : List Hp} (h : ∀ z ∈ l, ltH x z) : ins x l = x :: l := by
  cases l with
  | nil => rfl
  | cons y l => rw [ins, if_pos (h y (List.mem_cons_self ..))]
theorem filter_ins (q : Hp → Bool) (x : Hp) : ∀ {l : List Hp}, SortedH l → (ins x l).filter q = if q x = true then ins x (l.filter q) else l.filter q
  | [], _ => by
    show List.filter q [x] = _
    by_cases hq : q x = true
    · rw [if_pos hq]; simp [hq, ins]
    · rw [if_neg hq]; simp [hq]
  | y :: l, hs => by
    have hins : ins x (y :: l) = if ltH x y then x :: y :: l else y :: ins x l := rfl
    rw [hins]
    by_cases hxy : ltH x y
    · rw [if_pos hxy, List.filter_cons]
      by_cases hq : q x = true
      · rw [if_pos hq, if_pos hq]
        refine (ins_front fun z hz => ?_).symm
        have hz := (List.mem_filter.1 hz).1
        rcases List.mem_cons.1 hz with rfl | hz
        · exact hxy
        · have := hs.1 z hz
          unfold ltH at *
          omega
      · rw [if_neg hq, if_neg hq]
    · rw [if_neg hxy, List.filter_cons, List.filter_cons, filter_ins q x hs.2]
      by_cases hy : q y = true
      · rw [if_pos hy, if_pos hy]
        by_cases hq : q x = true
        · rw [if_pos hq, if_pos hq]
          show _ = if ltH x y then x :: y :: l.filter q else y :: ins x (l.filter q)
          rw [if_neg hxy]
        · rw [if_neg hq, if_neg hq]
      · rw [if_neg hy, if_neg hy]
theorem filter_isort (q : Hp → Bool) (l : List Hp) : (isort l).filter q = isort (l.filter q) := by
  have : ∀ (l acc : List Hp), SortedH acc → (l.foldl (fun acc x => ins x acc) acc).filter q = (l.filter q).foldl (fun acc x => ins x acc) (acc.filter q) := by
    intro l
    induction l with
    | nil => intro acc _; rfl
    | cons x l ih =>
      intro acc ha
      rw [List.foldl_cons, ih _ (sorted_ins ha), filter_ins q x ha, List.filter_cons]
      by_cases hq : q x = true
      · rw [if_pos hq, if_pos hq, List.foldl_cons]
      · rw [if_neg hq, if_neg hq]
  exact this l [] trivial
section
variable {c : Ch} {k : Nat} (hk : k < c.ps.length)
include hk
end
end Go.Dial.Chn

namespace Go.Dial.Chn
open Go.Dial.Clm Go.Dial.Lif
def evUp (t : Int) (es : List Ce) : List Ce := es.takeWhile fun e => decide (e.a ≤ t)
theorem upTo_none {t : Int} {l : List Cs} (h : ∀ x ∈ l, t < x.f) : upTo t l = [] := by
  unfold upTo
  cases l with
  | nil => rfl
  | cons x l =>
    have := h x (List.mem_cons_self ..)
    rw [List.takeWhile_cons_of_neg (by simp; omega)]
theorem upTo_cons {t : Int} {x : Cs} {l : List Cs} (h : x.f ≤ t) : upTo t (x :: l) = x :: upTo t l := by
  unfold upTo
  rw [List.takeWhile_cons_of_pos (by simpa using h)]
theorem tl_early {r : Rl} (hr : RlV r) {b : Bool} {t : Int} : ∀ (m : Nat) (now : Cs) (es : List Ce), 5 * es.length + rk now.s ≤ m → (∃ l, EvV l es) → upTo t (tl r b now es) = upTo t (tl r b now (evUp t es)) := by
  have late : ∀ (now : Cs) (es : List Ce), (act now → t < now.n) → (∀ e ∈ es, t < e.a) → upTo t (tl r b now es) = [] := fun now es h1 h2 =>
    upTo_none fun x hx => by
      have := tl_ge hr (m := t + 1) (fun ha => by have := h1 ha; omega) (fun e he => by have := h2 e he; omega) x hx
      omega
  intro m
  induction m with
  | zero =>
    intro now es hm _
    have he : es = [] := by
      cases es with
      | nil => rfl
      | cons e es => simp at hm
    subst he
    rfl
  | succ m ih =>
    intro now es hm hE
    cases es with
    | nil => rfl
    | cons e es =>
      obtain ⟨l, hc, hE'⟩ := hE
      by_cases he : e.a ≤ t
      · have hw : evUp t (e :: es) = e :: evUp t es := by
          unfold evUp
          rw [List.takeWhile_cons_of_pos (by simpa using he)]
        rw [hw]
        by_cases ha : act now ∧ now.n ≤ e.a
        · rw [tl_auto ha, tl_auto ha, upTo_cons (show now.n ≤ t by omega), upTo_cons (show now.n ≤ t by omega), ih (st r (aft now.s) now.n) (e :: es) (by have := rk_aft ha.1; simp only [st]; omega) ⟨l, hc, hE'⟩, hw]
        · by_cases hbb : bec b now.s e < 0
          · rw [tl_void ha hbb, tl_void ha hbb]
            exact ih now es (by simp only [List.length_cons] at hm; omega) ⟨_, hE'⟩
          · rw [tl_ev ha hbb, tl_ev ha hbb, upTo_cons (show e.a ≤ t by omega), upTo_cons (show e.a ≤ t by omega), ih (st r (bec b now.s e) e.a) es (by simp only [List.length_cons] at hm; have := rk_le (st r (bec b now.s e) e.a).s; omega) ⟨_, hE'⟩]
      · have hw : evUp t (e :: es) = [] := by
          unfold evUp
          rw [List.takeWhile_cons_of_neg (by simpa using he)]
        rw [hw]
        have hall : ∀ x ∈ e :: es, t < x.a := fun x hx => by
          rcases List.mem_cons.1 hx with rfl | hx
          · omega
          · have := (evV_ge hE' x hx).1; omega
        by_cases ha : act now ∧ now.n ≤ t
        · have ha2 : act now ∧ now.n ≤ e.a := ⟨ha.1, by omega⟩
          rw [tl_auto ha2, tl_end ha.1, upTo_cons (show now.n ≤ t from ha.2), upTo_cons (show now.n ≤ t from ha.2), ih (st r (aft now.s) now.n) (e :: es) (by have := rk_aft ha.1; simp only [st]; omega) ⟨l, hc, hE'⟩, hw]
        · have hn : act now → t < now.n := fun h => by
            rcases Int.lt_or_le t now.n with h1 | h1
            · exact h1
            · exact absurd ⟨h, h1⟩ ha
          rw [late now _ hn hall, late now [] hn (fun x hx => by cases hx)]
theorem timeline_early {r : Rl} {c : Cl} {es : List Ce} (h : ClmV r c es) (t : Int) : upTo t (timeline r c es) = upTo t (timeline r c (evUp t es)) := by
  unfold timeline
  have := tl_early h.1 (b := c.b) (t := t) _ (x0 r c) es (Nat.le_refl _) ⟨_, h.2.2.2⟩
  by_cases h0 : (x0 r c).f ≤ t
  · rw [upTo_cons h0, upTo_cons h0, this]
  · unfold upTo
    rw [List.takeWhile_cons_of_neg (by simpa using h0), List.takeWhile_cons_of_neg (by simpa using h0)]
theorem out_early {r : Rl} {c : Cl} {es : List Ce} (h : ClmV r c es) (t : Int) : outV r c (evUp t es) t = outV r c es t := by
  unfold outV
  rw [← timeline_early h]
theorem evV_up {l t : Int} {es : List Ce} (h : EvV l es) : EvV l (evUp t es) := by
  induction es generalizing l with
  | nil => exact h
  | cons e es ih =>
    unfold evUp
    by_cases he : e.a ≤ t
    · rw [List.takeWhile_cons_of_pos (by simpa using he)]; exact ⟨h.1, ih h.2⟩
    · rw [List.takeWhile_cons_of_neg (by simpa using he)]; trivial
theorem clm_up {r : Rl} {c : Cl} {es : List Ce} (h : ClmV r c es) (t : Int) : ClmV r c (evUp t es) :=
  ⟨h.1, h.2.1, Nat.le_trans (List.Sublist.length_le (List.takeWhile_sublist _)) h.2.2.1, evV_up h.2.2.2⟩
def ptUp (t : Int) (p : Pt) : Pt := ⟨p.c, evUp t p.es⟩
def psUp (t : Int) (ps : List Pt) : List Pt := (ps.takeWhile fun p => decide (p.c.a ≤ t)).map (ptUp t)
def lifeUp (t : Int) (es : List Ev) : List Ev := es.takeWhile fun e => decide (e.a ≤ t)
def early (c : Ch) (t : Int) : Ch := ⟨c.n, c.f, c.r, lifeUp t c.life, psUp t c.ps⟩
theorem ptsV_up {n : Int} {r : Rl} {t : Int} : ∀ {ps : List Pt} {last : Int}, PtsV n r last ps → PtsV n r last (psUp t ps)
  | [], _, _ => trivial
  | p :: ps, last, h => by
    unfold psUp
    by_cases hp : p.c.a ≤ t
    · rw [List.takeWhile_cons_of_pos (by simpa using hp)]
      exact ⟨⟨h.1.1, clm_up h.1.2.1 t, h.1.2.2⟩, ptsV_up h.2⟩
    · rw [List.takeWhile_cons_of_neg (by simpa using hp)]; trivial
theorem life_up {es : List Ev} (h : Life es) (t : Int) : Life (lifeUp t es) := by
  unfold lifeUp
  rw [upto_take]
  exact life_take h _
theorem chV_early {c : Ch} (h : ChV c) (t : Int) : ChV (early c t) := by
  obtain ⟨q1, q2, q3, q4, q5, q6, q7⟩ := h
  refine ⟨life_up q1 t, q2, q3, q4, q5, ?_, ptsV_up q7⟩
  show (psUp t c.ps).length ≤ 8
  unfold psUp
  rw [List.length_map]
  exact Nat.le_trans (List.Sublist.length_le (List.takeWhile_sublist _)) q6
theorem takeWhile_two {α : Type} {p q : α → Bool} (h : ∀ x, p x = true → q x = true) : ∀ (l : List α), (l.takeWhile q).takeWhile p = l.takeWhile p
  | [] => rfl
  | x :: l => by
    by_cases hq : q x = true
    · rw [List.takeWhile_cons_of_pos hq]
      by_cases hp : p x = true
      · rw [List.takeWhile_cons_of_pos hp, List.takeWhile_cons_of_pos hp, takeWhile_two h l]
      · rw [List.takeWhile_cons_of_neg hp, List.takeWhile_cons_of_neg hp]
    · rw [List.takeWhile_cons_of_neg hq, List.takeWhile_cons_of_neg (fun hp => hq (h x hp))]; rfl
theorem atL_up {es : List Ev} {t u : Int} (h : u ≤ t) : atL (lifeUp t es) u = atL es u := by
  unfold atL lifeUp
  rw [← upto_take, ← upto_take, takeWhile_two fun e he => by simp at he ⊢; omega]
/-- happenings up to a time, as a filter -/
theorem filter_takeWhile {t : Int} : ∀ {l : List Hp}, SortedH l → l.filter (fun h => decide (h.a ≤ t)) = l.takeWhile fun h => decide (h.a ≤ t)
  | [], _ => rfl
  | x :: l, hs => by
    by_cases hx : x.a ≤ t
    · rw [List.takeWhile_cons_of_pos (by simpa using hx), List.filter_cons_of_pos (by simpa using hx), filter_takeWhile hs.2]
    · rw [List.takeWhile_cons_of_neg (by simpa using hx)]
      refine List.filter_eq_nil_iff.2 fun z hz => ?_
      rcases List.mem_cons.1 hz with rfl | hz
      · simpa using hx
      · have := hs.1 z hz
        unfold ltH at this
        simp; omega
theorem filter_hps {i : Nat} {t : Int} : ∀ {l : List Cs}, l.Pairwise (fun x y => x.f ≤ y.f) → (l.filterMap (hpOf i)).filter (fun h => decide (h.a ≤ t)) = (upTo t l).filterMap (hpOf i)
  | [], _ => rfl
  | x :: l, hs => by
    obtain ⟨h1, h2⟩ := List.pairwise_cons.1 hs
    by_cases hx : x.f ≤ t
    · rw [upTo_cons hx, List.filterMap_cons, List.filterMap_cons]
      cases hh : hpOf i x with
      | none => exact filter_hps h2
      | some h =>
        simp only
        rw [List.filter_cons_of_pos (by have := hpOf_a hh; simp; omega), filter_hps h2]
    · have : upTo t (x :: l) = [] := upTo_none fun y hy => by
        rcases List.mem_cons.1 hy with rfl | hy
        · omega
        · have := h1 y hy; omega
      rw [this]
      refine List.filter_eq_nil_iff.2 fun h hh => ?_
      obtain ⟨y, hy, e⟩ := List.mem_filterMap.1 hh
      have := hpOf_a e
      rcases List.mem_cons.1 hy with rfl | hy
      · simp; omega
      · have := h1 y hy
        simp; omega
theorem port_late {r : Rl} {c : Cl} {es : List Ce} (h : ClmV r c es) : ∀ x ∈ timeline r c es, c.a ≤ x.f := by
  intro x hx
  unfold timeline at hx
  rcases List.mem_cons.1 hx with rfl | hx
  · exact Int.le_refl _
  · refine tl_ge h.1 (m := c.a) (fun ha => ?_) (fun e he => (evV_ge h.2.2.2 e he).1) x hx
    exact Int.le_of_lt (st_n h.1 (s := 1) (f := c.a) (by decide)).1
theorem ptsV_ge {n : Int} {r : Rl} : ∀ {ps : List Pt} {last : Int}, PtsV n r last ps → ∀ p ∈ ps, last ≤ p.c.a
  | [], _, _, p, h => by cases h
  | q :: ps, last, hv, p, h => by
    rcases List.mem_cons.1 h with rfl | h
    · exact hv.1.2.2
    · have h1 := ptsV_ge hv.2 p h
      have h2 := hv.1.2.2
      omega
theorem from_late {r : Rl} {t : Int} : ∀ {ps : List Pt} {i : Nat}, (∀ p ∈ ps, ClmV r p.c p.es ∧ t < p.c.a) → (hpsFrom r i ps).filter (fun h => decide (h.a ≤ t)) = []
  | [], _, _ => rfl
  | p :: ps, i, h => by
    obtain ⟨h1, h2⟩ := h p (List.mem_cons_self ..)
    rw [hpsFrom, List.filter_append, from_late fun q hq => h q (List.mem_cons_of_mem _ hq), List.append_nil]
    refine List.filter_eq_nil_iff.2 fun x hx => ?_
    obtain ⟨y, hy, e⟩ := List.mem_filterMap.1 hx
    have := hpOf_a e
    have := port_late h1 y hy
    simp; omega
theorem from_early {n : Int} {r : Rl} {t : Int} : ∀ {ps : List Pt} {i : Nat} {last : Int}, PtsV n r last ps → (hpsFrom r i ps).filter (fun h => decide (h.a ≤ t)) = (hpsFrom r i (psUp t ps)).filter fun h => decide (h.a ≤ t)
  | [], _, _, _ => rfl
  | p :: ps, i, last, h => by
    have hv := h.1.2.1
    by_cases hp : p.c.a ≤ t
    · have e : psUp t (p :: ps) = ptUp t p :: psUp t ps := by
        unfold psUp
        rw [List.takeWhile_cons_of_pos (by simpa using hp), List.map_cons]
      rw [e, hpsFrom, hpsFrom, List.filter_append, List.filter_append, from_early (i := i + 1) h.2]
      congr 1
      show _ = ((timeline r p.c (evUp t p.es)).filterMap (hpOf i)).filter _
      rw [filter_hps (timeline_sorted hv), filter_hps (timeline_sorted (clm_up hv t)), timeline_early hv]
    · have e : psUp t (p :: ps) = [] := by
        unfold psUp
        rw [List.takeWhile_cons_of_neg (by simpa using hp), List.map_nil]
      rw [e]
      refine from_late fun q hq => ?_
      rcases List.mem_cons.1 hq with rfl | hq
      · exact ⟨hv, by omega⟩
      · have := ptsV_ge h.2 q hq
        exact ⟨(ptsV_mem h.2 q hq).2, by omega⟩
theorem hps_early {c : Ch} (hV : ChV c) (t : Int) : (hps c).takeWhile (fun h => decide (h.a ≤ t)) = (hps (early c t)).takeWhile fun h => decide (h.a ≤ t) := by
  rw [← filter_takeWhile (sorted_hps c), ← filter_takeWhile (sorted_hps _)]
  unfold hps
  rw [filter_isort, filter_isort]
  congr 1
  exact from_early hV.2.2.2.2.2.2
theorem portAt_early {c : Ch} {t x : Int} (h0 : 0 ≤ x) (hx : x < ((early c t).ps.length : Int)) : (portAt (early c t) x).c = (portAt c x).c := by
  have hlen : x.toNat < (c.ps.takeWhile fun p => decide (p.c.a ≤ t)).length := by
    have : (early c t).ps.length = (c.ps.takeWhile fun p => decide (p.c.a ≤ t)).length := by
      show (psUp t c.ps).length = _
      unfold psUp
      rw [List.length_map]
    omega
  unfold portAt
  have e1 : (early c t).ps[x.toNat]? = some (ptUp t ((c.ps.takeWhile fun p => decide (p.c.a ≤ t))[x.toNat])) := by
    show (psUp t c.ps)[x.toNat]? = _
    unfold psUp
    rw [List.getElem?_map, List.getElem?_eq_getElem hlen]
    rfl
  have e2 : c.ps[x.toNat]? = some ((c.ps.takeWhile fun p => decide (p.c.a ≤ t))[x.toNat]) := by
    have hp := List.takeWhile_prefix (fun p : Pt => decide (p.c.a ≤ t)) (l := c.ps)
    obtain ⟨q, hq⟩ := hp
    conv => lhs; rw [← hq]
    rw [List.getElem?_append_left hlen, List.getElem?_eq_getElem hlen]
  rw [e1, e2]
  rfl
theorem withV_early {c : Ch} {t : Int} {G : List Int} (hG : ∀ x ∈ G, 0 ≤ x ∧ x < ((early c t).ps.length : Int)) : withV (early c t) G = withV c G := by
  cases G with
  | nil => rfl
  | cons x G =>
    have := hG x (List.mem_cons_self ..)
    show (portAt (early c t) x).c.t = (portAt c x).c.t
    rw [portAt_early this.1 this.2]
theorem force_early {c : Ch} {t : Int} : ∀ {l : List Hp} {G : List Int}, (∀ h ∈ l, h.a ≤ t ∧ 0 ≤ h.p ∧ h.p < ((early c t).ps.length : Int)) → (∀ x ∈ G, 0 ≤ x ∧ x < ((early c t).ps.length : Int)) →
    force (early c t) G l = force c G l ∧ ∀ x ∈ force c G l, 0 ≤ x ∧ x < ((early c t).ps.length : Int)
  | [], G, _, hG => ⟨rfl, hG⟩
  | h :: l, G, hl, hG => by
    obtain ⟨h1, h2, h3⟩ := hl h (List.mem_cons_self ..)
    have ht : Takes (early c t) G h ↔ Takes c G h := by
      unfold Takes
      rw [withV_early hG, portAt_early h2 h3]
      show _ ∧ (atL (lifeUp t c.life) _).s = 1 ∧ (atL (lifeUp t c.life) _).h = _ ↔ _
      rw [atL_up (by omega)]
    have ha : aftH (early c t) G h = aftH c G h := by
      unfold aftH
      by_cases hb : h.b = true
      · rw [if_pos hb, if_pos hb]
      · rw [if_neg hb, if_neg hb]
        by_cases q : Takes c G h
        · rw [if_pos q, if_pos (ht.2 q)]
        · rw [if_neg q, if_neg (fun hh => q (ht.1 hh))]
    have hG' : ∀ x ∈ aftH c G h, 0 ≤ x ∧ x < ((early c t).ps.length : Int) := fun x hx => by
      unfold aftH at hx
      split at hx
      · exact hG x (popd_mem hx)
      · split at hx
        · rcases List.mem_cons.1 hx with rfl | hx
          · exact ⟨h2, h3⟩
          · exact hG x hx
        · exact hG x hx
    have := force_early (l := l) (G := aftH c G h) (fun x hx => hl x (List.mem_cons_of_mem _ hx)) hG'
    show force (early c t) (aftH (early c t) G h) l = force c (aftH c G h) l ∧ _
    rw [ha]
    exact this
theorem later_law {c : Ch} (hV : ChV c) (t : Int) : forceAt (early c t) t = forceAt c t ∧ withV (early c t) (forceAt (early c t) t) = withV c (forceAt c t) := by
  have hl : ∀ h ∈ (hps c).takeWhile (fun h => decide (h.a ≤ t)), h.a ≤ t ∧ 0 ≤ h.p ∧ h.p < ((early c t).ps.length : Int) := fun h hh => by
    have h1 : h.a ≤ t := by
      have := List.all_eq_true.1 List.all_takeWhile h hh
      simpa using this
    rw [hps_early hV] at hh
    exact ⟨h1, hps_in ((List.takeWhile_sublist _).subset hh)⟩
  obtain ⟨h1, h2⟩ := force_early (c := c) (t := t) (G := []) hl (fun x hx => by cases hx)
  have hf : forceAt (early c t) t = forceAt c t := by
    unfold forceAt
    rw [← hps_early hV]; exact h1
  exact ⟨hf, by rw [hf]; exact withV_early h2⟩
end Go.Dial.Chn
