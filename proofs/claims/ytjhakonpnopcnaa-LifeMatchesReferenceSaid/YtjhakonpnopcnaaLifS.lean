/-
  Plain laws of stays.
-/
import Derived.Test.YtjhakonpnopcnaaLifP
set_option linter.unusedVariables false
set_option linter.unusedSimpArgs false
namespace Go.Dial.Lif

theorem toOf_lt {es : List Ev} {i : Nat} (h : i < es.length) : toOf es i = es[i].a := dif_pos h
theorem toOf_ge {es : List Ev} {i : Nat} (h : ¬ i < es.length) : toOf es i = 10000001 := dif_neg h
theorem toOf_from {es : List Ev} (h : All first es) {k : Nat} (hk : k < es.length) : es[k].a ≤ toOf es (k + 1) ∧ toOf es (k + 1) ≤ 10000001 := by
  by_cases h1 : k + 1 < es.length
  · rw [toOf_lt h1]
    have := all_sorted h (show k ≤ k + 1 by omega) h1
    have := (life_ev h h1).2
    omega
  · rw [toOf_ge h1]
    have := (life_ev h hk).2
    omega
theorem upto_in {es : List Ev} (h : All first es) {k : Nat} (hk : k < es.length) {t : Int} (h1 : es[k].a ≤ t) (h2 : t < toOf es (k + 1)) : upto es t = k + 1 := by
  have h0 := (life_ev h hk).1
  refine ((upto_iff h (by omega) (by omega)).2 ⟨by rw [lnK_t hk]; exact h1, fun hi => ?_⟩).symm
  rw [toOf_lt hi] at h2; exact h2
theorem upto_to {es : List Ev} (h : All first es) {k : Nat} (hk : k < es.length) {t : Int} (ht : 0 ≤ t) (ht2 : t ≤ 10000000) (hu : upto es t = k + 1) : es[k].a ≤ t ∧ t < toOf es (k + 1) := by
  obtain ⟨h1, h2⟩ := (upto_iff h (show k + 1 ≤ es.length by omega) ht).1 hu.symm
  rw [lnK_t hk] at h1
  refine ⟨h1, ?_⟩
  by_cases h3 : k + 1 < es.length
  · rw [toOf_lt h3]; exact h2 h3
  · rw [toOf_ge h3]; omega
/-- what holds between a stay and the next one -/
def Adj (es : List Ev) (a b : St) : Prop := a.t ≤ b.f ∧ (a.t = b.f → a.e ≠ b.e) ∧ a.e ≤ b.e ∧ (a.e = b.e → a.h = b.h) ∧
  (a.e = b.e ∨ a.t + 2592000 ≤ b.f ∨ ∃ m, ∃ h : m < es.length, es[m].k = 2 ∧ a.t ≤ es[m].a ∧ es[m].a ≤ b.f)
structure StInv (es : List Ev) (k : Nat) (out : List St) : Prop where
  each : ∀ y ∈ out, 0 ≤ y.f ∧ y.f < y.t ∧ y.t ≤ 10000001 ∧ ∀ t, y.f ≤ t → t < y.t → Used (atL es t) ∧ (atL es t).e = y.e ∧ (atL es t).h = y.h
  adj : ∀ i a b, out[i]? = some a → out[i + 1]? = some b → Adj es a b
  last : ∀ y, out.getLast? = some y → ∃ j, 1 ≤ j ∧ j ≤ k ∧ y.t = toOf es j ∧ Used (lnK es j) ∧ y.e = (lnK es j).e ∧ y.h = (lnK es j).h
  cover : ∀ t, 0 ≤ t → t ≤ 10000000 → 1 ≤ upto es t → upto es t ≤ k → Used (atL es t) → ∃ y ∈ out, y.f ≤ t ∧ t < y.t

theorem used_ne {l : Ln} (h : Used l) : l.s ≠ 0 := by unfold Used at h; omega
theorem StInv.step {es : List Ev} (h : All first es) {k : Nat} (hk : k < es.length) {out : List St} (hi : StInv es k out) : StInv es (k + 1) (stS out (lnK es (k + 1)) (toOf es (k + 1))) := by
  obtain ⟨hE, hA, hL, hC⟩ := hi
  have hft := toOf_from h hk
  have hev := life_ev h hk
  have hLt := lnK_t hk
  have hin : ∀ t, es[k].a ≤ t → t < toOf es (k + 1) → atL es t = lnK es (k + 1) := fun t h1 h2 => by rw [atL_eq, upto_in h hk h1 h2]
  obtain ⟨L, hLd⟩ : ∃ L, L = lnK es (k + 1) := ⟨_, rfl⟩
  obtain ⟨T, hTd⟩ : ∃ T, T = toOf es (k + 1) := ⟨_, rfl⟩
  obtain ⟨F, hFd⟩ : ∃ F, F = es[k].a := ⟨_, rfl⟩
  rw [← hLd] at hLt hin ⊢
  rw [← hTd] at hft hin ⊢
  rw [← hFd] at hft hev hLt hin
  by_cases hc : Used L ∧ L.t ≠ T
  · have hFT : F < T := by have := hc.2; omega
    have cov : ∀ t, 0 ≤ t → t ≤ 10000000 → upto es t = k + 1 → F ≤ t ∧ t < T := fun t h0 h1 h2 => by rw [hFd, hTd]; exact upto_to h hk h0 h1 h2
    rcases List.eq_nil_or_concat out with rfl | ⟨o, y, rfl⟩
    · rw [stS_nil hc]
      refine ⟨fun z hz => ?_, fun i a b h1 h2 => by simp at h2, fun z hz => ?_, fun t h0 h1 h2 h3 hu => ?_⟩
      · simp at hz; subst hz
        refine ⟨by simp only; omega, by simp only; omega, by simp only; omega, fun t h1 h2 => ?_⟩
        simp only at h1 h2
        rw [hin t (by omega) h2]; exact ⟨hc.1, rfl, rfl⟩
      · simp at hz; subst hz
        exact ⟨k + 1, by omega, Nat.le_refl _, hTd, by rw [← hLd]; exact hc.1, by rw [← hLd], by rw [← hLd]⟩
      · by_cases h4 : upto es t = k + 1
        · obtain ⟨h5, h6⟩ := cov t h0 h1 h4
          exact ⟨_, List.mem_singleton.2 rfl, by simp only; omega, h6⟩
        · obtain ⟨y, hy, _⟩ := hC t h0 h1 h2 (by omega) hu
          simp at hy
    · rw [List.concat_eq_append] at *
      rw [stS_snoc hc]
      obtain ⟨j, j1, j2, j3, j4, j5, j6⟩ := hL y (by simp)
      have hj : j < es.length := by omega
      have hlat := lnK_later h (show j ≤ k + 1 by omega)
      rw [← hLd] at hlat
      have hyF : y.t ≤ F := by
        rw [j3, toOf_lt hj, hFd]; exact all_sorted h j2 hk
      have hyh : y.e = L.e → y.h = L.h := fun e => by
        rw [j6, ← hlat.2.2.1 (by omega) (used_ne hc.1)]
      have hye := hE y (by simp)
      split
      · rename_i hm
        obtain ⟨m1, m2⟩ := hm
        refine ⟨fun z hz => ?_, fun i a b h1 h2 => ?_, fun z hz => ?_, fun t h0 h1 h2 h3 hu => ?_⟩
        · rcases List.mem_append.1 hz with hz | hz
          · exact hE z (by simp [hz])
          · simp at hz; subst hz
            refine ⟨hye.1, by simp only; omega, by simp only; omega, fun t h1 h2 => ?_⟩
            simp only at h1 h2 ⊢
            by_cases h3 : t < y.t
            · exact hye.2.2.2 t h1 h3
            · rw [hin t (by omega) h2]; exact ⟨hc.1, m1.symm, (hyh m1).symm⟩
        · by_cases h3 : i + 1 < o.length
          · rw [List.getElem?_append_left (by omega)] at h1 h2
            exact hA i a b (by rw [List.getElem?_append_left (by omega)]; exact h1) (by rw [List.getElem?_append_left h3]; exact h2)
          · have h4 := (List.getElem?_eq_some_iff.1 h2).1
            simp at h4
            have h5 : i + 1 = o.length := by omega
            rw [List.getElem?_append_left (by omega)] at h1
            rw [List.getElem?_append_right (by omega), h5] at h2
            simp at h2; subst h2
            exact hA i a y (by rw [List.getElem?_append_left (by omega)]; exact h1) (by rw [List.getElem?_append_right (by omega), h5]; simp)
        · simp at hz; subst hz
          exact ⟨k + 1, by omega, Nat.le_refl _, hTd, by rw [← hLd]; exact hc.1, by rw [← hLd]; exact m1, by rw [← hLd]; exact hyh m1⟩
        · by_cases h4 : upto es t = k + 1
          · obtain ⟨h5, h6⟩ := cov t h0 h1 h4
            exact ⟨⟨y.h, y.e, y.f, T⟩, by simp, by simp only; omega, h6⟩
          · obtain ⟨z, hz, z1, z2⟩ := hC t h0 h1 h2 (by omega) hu
            rcases List.mem_append.1 hz with hz | hz
            · exact ⟨z, by simp [hz], z1, z2⟩
            · simp at hz; subst hz
              exact ⟨⟨z.h, z.e, z.f, T⟩, by simp, z1, by simp only; omega⟩
      · rename_i hm
        refine ⟨fun z hz => ?_, fun i a b h1 h2 => ?_, fun z hz => ?_, fun t h0 h1 h2 h3 hu => ?_⟩
        · rcases List.mem_append.1 hz with hz | hz
          · exact hE z hz
          · simp at hz; subst hz
            refine ⟨by simp only; omega, by simp only; omega, by simp only; omega, fun t h1 h2 => ?_⟩
            simp only at h1 h2 ⊢
            rw [hin t (by omega) h2]; exact ⟨hc.1, rfl, rfl⟩
        · by_cases h3 : i + 1 < (o ++ [y]).length
          · rw [List.getElem?_append_left (by omega)] at h1 h2
            exact hA i a b h1 h2
          · have h4 := (List.getElem?_eq_some_iff.1 h2).1
            have h5 : i + 1 = (o ++ [y]).length := by simp at h3 h4 ⊢; omega
            rw [List.getElem?_append_right (by omega), h5] at h2
            have h6 : i = o.length := by simp at h5; omega
            rw [List.getElem?_append_left (by omega), h6] at h1
            simp at h1 h2
            subst h1; subst h2
            refine ⟨by simp only; omega, fun e => ?_, by simp only; have := hlat.1; omega, hyh, ?_⟩
            · simp only at e ⊢; exact fun e2 => hm ⟨e2, by omega⟩
            · simp only
              by_cases he : y.e = L.e
              · exact .inl he
              · right
                by_cases hp : ∃ m, ∃ hh : m < es.length, j ≤ m ∧ m ≤ k ∧ es[m].k = 2
                · obtain ⟨m, hh, p1, p2, p3⟩ := hp
                  right
                  refine ⟨m, hh, p3, ?_, ?_⟩
                  · rw [j3, toOf_lt hj]; exact all_sorted h p1 hh
                  · rw [hLt, hFd]; exact all_sorted h p2 hk
                · left
                  have e1 : es.take (k + 1) = es.take j ++ (es.drop j).take (k + 1 - j) := by
                    rw [← List.take_add]; congr 1; omega
                  have hall := all_take h (k + 1)
                  rw [e1, all_app] at hall
                  have hmem : ∀ x ∈ (es.drop j).take (k + 1 - j), ∃ m, ∃ hh : m < es.length, j ≤ m ∧ m ≤ k ∧ x = es[m] := fun x hx => by
                    obtain ⟨i, hi, rfl⟩ := List.getElem_of_mem hx
                    have hi2 : i < k + 1 - j := by simp at hi; omega
                    exact ⟨j + i, by omega, by omega, by omega, by simp⟩
                  have q := quar (T := es[j].a) (e0 := (lnK es j).e) hall.2 (fun x hx => by
                      obtain ⟨m, hh, p1, p2, rfl⟩ := hmem x hx
                      exact all_sorted h p1 hh) (fun x hx => by
                      obtain ⟨m, hh, p1, p2, rfl⟩ := hmem x hx
                      exact fun e => hp ⟨m, hh, p1, p2, e⟩)
                    (.inl ⟨rfl, by have := j4; unfold Used at this; rcases this with h | h; exact .inl h; exact .inr (.inl h)⟩)
                  have e2 : fin (lnK es j) ((es.drop j).take (k + 1 - j)) = L := by
                    rw [hLd]; unfold lnK; rw [e1, fin_app]
                  have e3 : fin (fin first (es.take j)) ((es.drop j).take (k + 1 - j)) = L := e2
                  rw [e3] at q
                  rw [j3, toOf_lt hj]
                  rcases q with q | q
                  · exact absurd (j5.trans q.1.symm) he
                  · exact q
        · simp at hz; subst hz
          exact ⟨k + 1, by omega, Nat.le_refl _, hTd, by rw [← hLd]; exact hc.1, by rw [← hLd], by rw [← hLd]⟩
        · by_cases h4 : upto es t = k + 1
          · obtain ⟨h5, h6⟩ := cov t h0 h1 h4
            exact ⟨⟨L.h, L.e, L.t, T⟩, by simp, by simp only; omega, h6⟩
          · obtain ⟨z, hz, z1, z2⟩ := hC t h0 h1 h2 (by omega) hu
            exact ⟨z, List.mem_append_left _ hz, z1, z2⟩
  · rw [stS_no hc]
    refine ⟨hE, hA, fun y hy => ?_, fun t h0 h1 h2 h3 hu => ?_⟩
    · obtain ⟨j, j1, j2, r⟩ := hL y hy
      exact ⟨j, j1, by omega, r⟩
    · by_cases h4 : upto es t = k + 1
      · exfalso
        have h5 : F ≤ t ∧ t < T := by rw [hFd, hTd]; exact upto_to h hk h0 h1 h4
        rw [atL_eq, h4, ← hLd] at hu
        exact hc ⟨hu, by omega⟩
      · exact hC t h0 h1 h2 (by omega) hu
theorem stays_inv {es : List Ev} (h : All first es) (k : Nat) (hk : k ≤ es.length) : StInv es k (staysK es k) := by
  induction k with
  | zero => exact ⟨by simp [staysK], by simp [staysK], by simp [staysK], fun t _ _ h1 h2 _ => by omega⟩
  | succ k ih => exact (ih (by omega)).step h (by omega)
theorem staysL_inv {es : List Ev} (h : All first es) : StInv es es.length (staysL es) := stays_inv h _ (Nat.le_refl _)

/-- how many stays have a time -/
def inS (y : St) (t : Int) : Bool := decide (y.f ≤ t ∧ t < y.t)
def cntS (l : List St) (t : Int) : Nat := (l.filter fun y => inS y t).length
theorem cnt_zero {l : List St} {t : Int} (h : ∀ y ∈ l, inS y t = false) : cntS l t = 0 := by
  unfold cntS; rw [List.filter_eq_nil_iff.2 (fun y hy => by simp [h y hy])]; rfl
theorem cnt_one {es : List Ev} {l : List St} (hA : ∀ i a b, l[i]? = some a → l[i + 1]? = some b → a.t ≤ b.f) (hE : ∀ y ∈ l, y.f < y.t) (t : Int) : cntS l t ≤ 1 := by
  induction l with
  | nil => simp [cntS]
  | cons y l ih =>
    have ih := ih (fun i a b h1 h2 => hA (i + 1) a b (by simpa using h1) (by simpa using h2)) (fun z hz => hE z (List.mem_cons_of_mem _ hz))
    have far : ∀ (l : List St) (y : St), (∀ i a b, (y :: l)[i]? = some a → (y :: l)[i + 1]? = some b → a.t ≤ b.f) → (∀ z ∈ y :: l, z.f < z.t) → ∀ z ∈ l, y.t ≤ z.f := fun l => by
      induction l with
      | nil => simp
      | cons x l ih2 =>
        intro y h1 h2 z hz
        have h3 := h1 0 y x rfl rfl
        rcases List.mem_cons.1 hz with rfl | hz
        · exact h3
        · have h4 := ih2 x (fun i a b g1 g2 => h1 (i + 1) a b (by simpa using g1) (by simpa using g2)) (fun z hz => h2 z (List.mem_cons_of_mem _ hz)) z hz
          have := h2 x (by simp)
          omega
    by_cases hy : inS y t = true
    · have : cntS l t = 0 := cnt_zero fun z hz => by
        have h1 := far l y hA hE z hz
        simp [inS] at hy ⊢; omega
      unfold cntS at this ⊢
      rw [List.filter_cons, if_pos hy, List.length_cons]; omega
    · unfold cntS at ih ⊢
      rw [List.filter_cons, if_neg hy]; exact ih
theorem cnt_used {es : List Ev} (h : All first es) {t : Int} (h0 : 0 ≤ t) (h1 : t ≤ 10000000) : cntS (staysL es) t = if Used (atL es t) then 1 else 0 := by
  obtain ⟨hE, hA, _, hC⟩ := staysL_inv h
  by_cases hu : Used (atL es t)
  · rw [if_pos hu]
    have hne : 1 ≤ upto es t := by
      rcases Nat.eq_zero_or_pos (upto es t) with h2 | h2
      · rw [atL_eq, h2] at hu; exact absurd hu (by rw [lnK_0]; decide)
      · exact h2
    obtain ⟨y, hy, y1, y2⟩ := hC t h0 h1 hne (upto_le _ _) hu
    have hle := cnt_one (es := es) (fun i a b h1 h2 => (hA i a b h1 h2).1) (fun y hy => (hE y hy).2.1) t
    have hge : 0 < cntS (staysL es) t := by
      unfold cntS
      exact List.length_pos_of_mem (List.mem_filter.2 ⟨hy, by simp [inS, y1, y2]⟩)
    omega
  · rw [if_neg hu]
    refine cnt_zero fun y hy => ?_
    have := (hE y hy).2.2.2 t
    simp only [inS, decide_eq_false_iff_not]
    rintro ⟨a, b⟩
    exact hu (this a b).1
end Go.Dial.Lif
