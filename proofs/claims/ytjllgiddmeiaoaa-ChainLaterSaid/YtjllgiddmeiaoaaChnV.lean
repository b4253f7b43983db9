/-
  Plain mathematics of chains: what is in force, and since when.
-/
import Derived.Test.YtjllgiddmeiaoaaChnU
set_option linter.unusedVariables false
set_option linter.unusedSimpArgs false
namespace Go.Dial.Chn
open Go.Dial.Clm Go.Dial.Lif
theorem ins_perm (x : Hp) (l : List Hp) : (ins x l).Perm (x :: l) := by
  induction l with
  | nil => exact List.Perm.refl _
  | cons y l ih =>
    unfold ins
    split
    · exact List.Perm.refl _
    · exact (List.Perm.cons y ih).trans (List.Perm.swap x y l)
theorem isort_perm (l : List Hp) : (isort l).Perm l := by
  have : ∀ (l acc : List Hp), (l.foldl (fun acc x => ins x acc) acc).Perm (l ++ acc) := by
    intro l
    induction l with
    | nil => intro acc; exact List.Perm.refl _
    | cons x l ih =>
      intro acc
      rw [List.foldl_cons]
      refine (ih _).trans ?_
      refine ((ins_perm x acc).append_left l).trans ?_
      exact List.perm_middle
  have := this l []
  rw [List.append_nil] at this
  exact this
theorem ptsV_mem {n : Int} {r : Rl} : ∀ {ps : List Pt} {last : Int}, PtsV n r last ps → ∀ p ∈ ps, p.c.n = n ∧ ClmV r p.c p.es
  | [], _, _, p, h => by cases h
  | q :: ps, _, hv, p, h => by
    rcases List.mem_cons.1 h with rfl | h
    · exact ⟨hv.1.1, hv.1.2.1⟩
    · exact ptsV_mem hv.2 p h
/-- a chain whose deadlines have all passed early -/
def Good (c : Ch) : Prop := ChV c ∧ ∀ p ∈ c.ps, endsV c.r p.c ≤ 400000
theorem ch_clm {c : Ch} (h : ChV c) {k : Nat} {p : Pt} (hp : c.ps[k]? = some p) : ClmV c.r p.c p.es := (ptsV_mem h.2.2.2.2.2.2 p (List.mem_of_getElem? hp)).2
theorem portAt_of {c : Ch} {k : Nat} {p : Pt} (hp : c.ps[k]? = some p) : portAt c (k : Int) = p := by simp [portAt, hp]
/-- the happenings of a port -/
def hpP (c : Ch) (k : Nat) : List Hp := (timeline c.r (portAt c k).c (portAt c k).es).filterMap (hpOf k)
/-- when a port takes effect, if it does -/
def effT (c : Ch) (x : Int) : Int := match hpP c x.toNat with
  | h :: _ => h.a
  | [] => 0
theorem hps_hpP {c : Ch} {h : Hp} (hh : h ∈ hps c) : ∃ (k : Nat) (p : Pt), c.ps[k]? = some p ∧ h.p = (k : Int) ∧ h ∈ hpP c k := by
  obtain ⟨k, p, h1, h2, x, h3, h4⟩ := hps_port hh
  refine ⟨k, p, h1, h2, ?_⟩
  unfold hpP
  rw [portAt_of h1]
  exact List.mem_filterMap.2 ⟨x, h3, h4⟩
theorem hpsFrom_mem {r : Rl} : ∀ {ps : List Pt} {i k : Nat} {p : Pt} {h : Hp}, ps[k]? = some p → h ∈ (timeline r p.c p.es).filterMap (hpOf (i + k)) → h ∈ hpsFrom r i ps
  | [], _, _, _, _, hp, _ => by cases hp
  | q :: ps, i, 0, p, h, hp, hh => by
    cases hp
    exact List.mem_append_left _ hh
  | q :: ps, i, k + 1, p, h, hp, hh => List.mem_append_right _ (hpsFrom_mem (i := i + 1) (k := k) hp (by rw [show i + 1 + k = i + (k + 1) by omega]; exact hh))
theorem hpP_hps {c : Ch} {k : Nat} {p : Pt} {h : Hp} (hp : c.ps[k]? = some p) (hh : h ∈ hpP c k) : h ∈ hps c := by
  unfold hpP at hh
  rw [portAt_of hp] at hh
  exact mem_hps.2 (hpsFrom_mem (i := 0) hp (by rw [Nat.zero_add]; exact hh))
theorem hpP_cases {c : Ch} (hV : ChV c) {k : Nat} {p : Pt} (hp : c.ps[k]? = some p) : hpP c k = [] ∨ (∃ f, hpP c k = [⟨f, k, false⟩] ∧ effT c k = f) ∨ (∃ f g, f ≤ g ∧ g < f + c.r.r ∧ hpP c k = [⟨f, k, false⟩, ⟨g, k, true⟩] ∧ effT c k = f) := by
  unfold effT
  rw [Int.toNat_natCast]
  have hc := port_cases (ch_clm hV hp) k
  have he : hpP c k = (timeline c.r p.c p.es).filterMap (hpOf k) := by unfold hpP; rw [portAt_of hp]
  rw [he]
  rcases hc with ⟨h, _⟩ | ⟨f, h1, h2, _⟩ | ⟨f, g, h1, h2, h3, h4, _⟩
  · exact .inl h
  · exact .inr (.inl ⟨f, h2, by rw [h2]⟩)
  · exact .inr (.inr ⟨f, g, h2, h3, h4, by rw [h4]⟩)
theorem eff_of {c : Ch} (hV : ChV c) {h : Hp} (hh : h ∈ hps c) (hb : h.b = false) : h = ⟨effT c h.p, h.p, false⟩ := by
  obtain ⟨k, p, h1, h2, h3⟩ := hps_hpP hh
  rcases hpP_cases hV h1 with e | ⟨f, e, q⟩ | ⟨f, g, _, _, e, q⟩
  · rw [e] at h3; cases h3
  · rw [e] at h3
    rw [List.mem_singleton] at h3
    rw [h2, q]; exact h3
  · rw [e] at h3
    rcases List.mem_cons.1 h3 with h3 | h3
    · rw [h2, q]; exact h3
    · rw [List.mem_singleton] at h3
      rw [h3] at hb; cases hb
theorem rev_of {c : Ch} (hV : ChV c) {h : Hp} (hh : h ∈ hps c) (hb : h.b = true) : effT c h.p ≤ h.a ∧ h.a < effT c h.p + c.r.r ∧ (⟨effT c h.p, h.p, false⟩ : Hp) ∈ hps c := by
  obtain ⟨k, p, h1, h2, h3⟩ := hps_hpP hh
  rcases hpP_cases hV h1 with e | ⟨f, e, q⟩ | ⟨f, g, g1, g2, e, q⟩
  · rw [e] at h3; cases h3
  · rw [e] at h3
    rw [List.mem_singleton] at h3
    rw [h3] at hb; cases hb
  · have hm : (⟨f, k, false⟩ : Hp) ∈ hps c := hpP_hps h1 (by rw [e]; exact List.mem_cons_self ..)
    rw [e] at h3
    rcases List.mem_cons.1 h3 with h3 | h3
    · rw [h3] at hb; cases hb
    · rw [List.mem_singleton] at h3
      rw [h2, q, h3]
      exact ⟨g1, g2, hm⟩
/-- no happening is there twice -/
theorem hps_nodup {c : Ch} (hV : ChV c) : (hps c).Nodup := by
  refine (isort_perm _).nodup_iff.2 ?_
  have : ∀ (ps : List Pt) (i : Nat), (∀ p ∈ ps, ClmV c.r p.c p.es) → (hpsFrom c.r i ps).Nodup ∧ ∀ h ∈ hpsFrom c.r i ps, (i : Int) ≤ h.p := by
    intro ps
    induction ps with
    | nil => intro i _; exact ⟨List.nodup_nil, fun h hh => by cases hh⟩
    | cons p ps ih =>
      intro i hp
      obtain ⟨h1, h2⟩ := ih (i + 1) (fun q hq => hp q (List.mem_cons_of_mem _ hq))
      have hc := port_cases (hp p (List.mem_cons_self ..)) i
      have hi : ((timeline c.r p.c p.es).filterMap (hpOf i)).Nodup ∧ ∀ h ∈ (timeline c.r p.c p.es).filterMap (hpOf i), h.p = (i : Int) := by
        rcases hc with ⟨h, _⟩ | ⟨f, _, h, _⟩ | ⟨f, g, _, _, _, h, _⟩ <;> rw [h]
        · exact ⟨List.nodup_nil, fun h hh => by cases hh⟩
        · exact ⟨by simp, fun h hh => by rw [List.mem_singleton] at hh; rw [hh]⟩
        · refine ⟨by simp, fun h hh => ?_⟩
          rcases List.mem_cons.1 hh with hh | hh
          · rw [hh]
          · rw [List.mem_singleton] at hh; rw [hh]
      refine ⟨List.nodup_append.2 ⟨hi.1, h1, fun x hx y hy e => ?_⟩, fun h hh => ?_⟩
      · have := hi.2 x hx
        have := h2 y hy
        rw [e] at *
        omega
      · rcases List.mem_append.1 hh with hh | hh
        · rw [hi.2 h hh]; omega
        · have := h2 h hh; omega
  exact (this c.ps 0 fun p hp => (ptsV_mem hV.2.2.2.2.2.2 p hp).2).1
theorem hps_inj {c : Ch} (hV : ChV c) {i j : Nat} {h : Hp} (hi : (hps c)[i]? = some h) (hj : (hps c)[j]? = some h) : i = j :=
  (List.getElem?_inj (List.getElem?_eq_some_iff.1 hi).1 (hps_nodup hV)).1 (hi.trans hj.symm)
/-- what is in force after the first happenings -/
def Gk (c : Ch) (i : Nat) : List Int := force c [] ((hps c).take i)
theorem Gk_zero (c : Ch) : Gk c 0 = [] := rfl
theorem Gk_succ {c : Ch} {i : Nat} {h : Hp} (hi : (hps c)[i]? = some h) : Gk c (i + 1) = aftH c (Gk c i) h := by
  unfold Gk
  rw [List.take_add_one, hi]
  simp [force]
theorem Gk_end {c : Ch} {i : Nat} (hi : (hps c)[i]? = none) : Gk c (i + 1) = Gk c i := by
  unfold Gk
  rw [List.take_add_one, hi]
  simp
theorem popd_suf (p : Int) : ∀ (G : List Int), ∃ Z, G = Z ++ popd p G
  | [] => ⟨[], rfl⟩
  | x :: G => by
    obtain ⟨Z, hZ⟩ := popd_suf p G
    unfold popd
    split
    · exact ⟨x :: Z, by rw [List.cons_append, ← hZ]⟩
    · exact ⟨[], rfl⟩
theorem popd_not (p : Int) : ∀ (G : List Int), p ∉ popd p G
  | [] => by simp [popd]
  | x :: G => by
    unfold popd
    split
    · exact popd_not p G
    · assumption
/-- what lies below a port that is in force was in force when it took effect -/
theorem inv {c : Ch} (hV : ChV c) : ∀ (i : Nat) (X : List Int) (p : Int) (Y : List Int), Gk c i = X ++ p :: Y → ∃ j, j < i ∧ (hps c)[j]? = some ⟨effT c p, p, false⟩ ∧ Gk c j = Y ∧ Takes c Y ⟨effT c p, p, false⟩ := by
  intro i
  induction i with
  | zero => intro X p Y h; rw [Gk_zero] at h; simp at h
  | succ i ih =>
    intro X p Y h
    have up : ∀ X', Gk c i = X' ++ p :: Y → ∃ j, j < i + 1 ∧ (hps c)[j]? = some ⟨effT c p, p, false⟩ ∧ Gk c j = Y ∧ Takes c Y ⟨effT c p, p, false⟩ := fun X' h' => by
      obtain ⟨j, h1, h2⟩ := ih X' p Y h'
      exact ⟨j, by omega, h2⟩
    cases hi : (hps c)[i]? with
    | none => rw [Gk_end hi] at h; exact up X h
    | some x =>
      rw [Gk_succ hi] at h
      unfold aftH at h
      by_cases hb : x.b = true
      · rw [if_pos hb] at h
        obtain ⟨Z, hZ⟩ := popd_suf x.p (Gk c i)
        rw [h] at hZ
        exact up (Z ++ X) (by rw [hZ, List.append_assoc])
      · rw [if_neg hb] at h
        by_cases ht : Takes c (Gk c i) x
        · rw [if_pos ht] at h
          cases X with
          | nil =>
            cases h
            have hx := eff_of hV (List.mem_of_getElem? hi) (by simpa using hb)
            exact ⟨i, by omega, by rw [← hx]; exact hi, rfl, by rw [← hx]; exact ht⟩
          | cons y X =>
            rw [List.cons_append] at h
            exact up X (List.cons.inj h).2
        · rw [if_neg ht] at h
          exact up X h
theorem base {c : Ch} (hV : ChV c) {i i' : Nat} {X X' Y Y' : List Int} {p : Int} (h : Gk c i = X ++ p :: Y) (h' : Gk c i' = X' ++ p :: Y') : Y = Y' := by
  obtain ⟨j, _, h1, h2, _⟩ := inv hV i X p Y h
  obtain ⟨j', _, h1', h2', _⟩ := inv hV i' X' p Y' h'
  have := hps_inj hV h1 h1'
  rw [← h2, ← h2', this]
theorem Gk_nodup {c : Ch} (hV : ChV c) {i : Nat} {X Y : List Int} {p : Int} (h : Gk c i = X ++ p :: Y) : p ∉ Y := fun hp => by
  obtain ⟨A, B, rfl⟩ := List.append_of_mem hp
  have h' : Gk c i = (X ++ p :: A) ++ p :: B := by rw [h]; simp
  have := congrArg List.length (base hV h h')
  simp at this
  omega
/-- a port is in force without a break -/
theorem stays_in {c : Ch} (hV : ChV c) {p : Int} {j i : Nat} (hj : (hps c)[j]? = some ⟨effT c p, p, false⟩) (hji : j < i) : ∀ i', i ≤ i' → p ∈ Gk c i' → p ∈ Gk c i := by
  intro i'
  induction i' with
  | zero => intro h; omega
  | succ i' ih =>
    intro h hp
    rcases Nat.lt_or_ge i' i with h1 | h1
    · have : i = i' + 1 := by omega
      rw [this]; exact hp
    · refine ih h1 ?_
      cases hi : (hps c)[i']? with
      | none => rw [Gk_end hi] at hp; exact hp
      | some x =>
        rw [Gk_succ hi] at hp
        unfold aftH at hp
        by_cases hb : x.b = true
        · rw [if_pos hb] at hp; exact popd_mem hp
        · rw [if_neg hb] at hp
          split at hp
          · rcases List.mem_cons.1 hp with hp | hp
            · have hx := eff_of hV (List.mem_of_getElem? hi) (by simpa using hb)
              rw [← hp] at hx
              rw [hx] at hi
              have := hps_inj hV hi hj
              omega
            · exact hp
          · exact hp
/-- how many happenings have been at a time -/
def upH (c : Ch) (t : Int) : Nat := ((hps c).takeWhile fun h => decide (h.a ≤ t)).length
theorem upH_take (c : Ch) (t : Int) : (hps c).takeWhile (fun h => decide (h.a ≤ t)) = (hps c).take (upH c t) := List.prefix_iff_eq_take.1 (List.takeWhile_prefix _)
theorem forceAt_Gk (c : Ch) (t : Int) : forceAt c t = Gk c (upH c t) := by
  unfold forceAt Gk
  rw [upH_take]
theorem upH_lt {c : Ch} {t : Int} {i : Nat} {h : Hp} (hi : (hps c)[i]? = some h) : i < upH c t ↔ h.a ≤ t := by
  obtain ⟨hl, rfl⟩ := List.getElem?_eq_some_iff.1 hi
  constructor
  · intro h
    have h1 := List.all_eq_true.1 List.all_takeWhile _ (List.getElem_mem (l := (hps c).takeWhile fun h => decide (h.a ≤ t)) h)
    have h3 := List.IsPrefix.getElem (List.takeWhile_prefix (fun h : Hp => decide (h.a ≤ t)) (l := hps c)) h
    rw [h3] at h1; simpa using h1
  · intro ht
    rcases Nat.lt_or_ge i (upH c t) with h1 | h1
    · exact h1
    · have hlen : upH c t < (hps c).length := by omega
      have h2 : t < ((hps c)[upH c t]).a := by
        have : ∀ (l : List Hp) (h : (l.takeWhile fun h => decide (h.a ≤ t)).length < l.length), t < (l[(l.takeWhile fun h => decide (h.a ≤ t)).length]).a := by
          intro l
          induction l with
          | nil => intro h; simp at h
          | cons x l ih =>
            intro h
            by_cases hx : x.a ≤ t
            · have e : ((x :: l).takeWhile fun h => decide (h.a ≤ t)).length = (l.takeWhile fun h => decide (h.a ≤ t)).length + 1 := by simp [hx]
              simp only [e] at h ⊢
              simpa using ih (by simpa using h)
            · have e : ((x :: l).takeWhile fun h => decide (h.a ≤ t)).length = 0 := by simp [hx]
              simp only [e]
              simpa using hx
        exact this _ hlen
      have h3 := sorted_le (sorted_hps c) h1 (List.getElem?_eq_getElem hlen) (List.getElem?_eq_getElem hl)
      omega
theorem upH_mono {c : Ch} {s t : Int} (h : s ≤ t) : upH c s ≤ upH c t := by
  rcases Nat.lt_or_ge (upH c t) (upH c s) with h1 | h1
  · have hl : upH c t < (hps c).length := Nat.lt_of_lt_of_le h1 (List.Sublist.length_le (List.takeWhile_sublist _))
    have := (upH_lt (t := s) (List.getElem?_eq_getElem hl)).1 h1
    have := (upH_lt (t := t) (List.getElem?_eq_getElem hl)).2 (by omega)
    omega
  · exact h1
/-- times of taking effect ascend -/
theorem eff_le {c : Ch} (hV : ChV c) {i : Nat} {X Y : List Int} {p q : Int} (h : Gk c i = X ++ p :: Y) (hq : q ∈ Y) : effT c q ≤ effT c p := by
  obtain ⟨A, B, rfl⟩ := List.append_of_mem hq
  obtain ⟨j, _, h1, h2, _⟩ := inv hV i X p _ h
  obtain ⟨j', h0', h1', _⟩ := inv hV j A q B h2
  exact sorted_le (sorted_hps c) (Nat.le_of_lt h0') h1' h1
/-- a port that is final stays as it is -/
theorem final_keep {c : Ch} (hV : ChV c) {k : Int} {s t : Int} (hk : ∀ h ∈ hps c, h.p = k → h.b = false ∧ h.a + c.r.r ≤ s) (hst : s ≤ t) : k ∈ forceAt c s ↔ k ∈ forceAt c t := by
  rw [forceAt_Gk, forceAt_Gk]
  have hr : 0 < c.r.r ∨ (hps c) = [] := by
    cases hq : hps c with
    | nil => exact .inr rfl
    | cons x l =>
      obtain ⟨k, p, h1, _⟩ := hps_hpP (c := c) (h := x) (by rw [hq]; exact List.mem_cons_self ..)
      have := (ch_clm hV h1).1
      unfold RlV at this
      exact .inl (by omega)
  have main : ∀ d, k ∈ Gk c (upH c s) ↔ k ∈ Gk c (upH c s + d) := by
    intro d
    induction d with
    | zero => exact Iff.rfl
    | succ d ih =>
      rw [ih]
      rw [← Nat.add_assoc]
      cases hi : (hps c)[upH c s + d]? with
      | none => rw [Gk_end hi]
      | some x =>
        have hx := List.mem_of_getElem? hi
        have hr : 0 < c.r.r := by
          rcases hr with h | h
          · exact h
          · rw [h] at hx; cases hx
        have hlate : s < x.a := by
          rcases Int.lt_or_le s x.a with h | h
          · exact h
          · have := (upH_lt hi).2 h; omega
        rw [Gk_succ hi]
        unfold aftH
        by_cases hb : x.b = true
        · rw [if_pos hb]
          constructor
          · intro hkm
            obtain ⟨r1, r2, r3⟩ := rev_of hV hx hb
            by_cases hp : x.p ∈ Gk c (upH c s + d)
            · obtain ⟨X, Y, hXY⟩ := List.append_of_mem hp
              have hpop : popd x.p (X ++ x.p :: Y) = Y := by
                have hn := Gk_nodup hV hXY
                clear hXY hkm hp
                induction X with
                | nil => show popd x.p (x.p :: Y) = Y; rw [popd, if_pos (List.mem_cons_self ..), popd_no hn]
                | cons y X ih => rw [List.cons_append, popd, if_pos (by simp)]; exact ih
              rw [hXY] at hkm ⊢
              rw [hpop]
              rcases List.mem_append.1 hkm with h | h
              · -- k lies above
                exfalso
                obtain ⟨A, B, rfl⟩ := List.append_of_mem h
                have := eff_le hV (p := k) (q := x.p) (X := A) (Y := B ++ x.p :: Y) (i := upH c s + d) (by rw [hXY]; simp) (by simp)
                obtain ⟨j, _, e1, _⟩ := inv hV (upH c s + d) A k (B ++ x.p :: Y) (by rw [hXY]; simp)
                have := (hk _ (List.mem_of_getElem? e1) rfl).2
                simp only at this
                omega
              · rcases List.mem_cons.1 h with h | h
                · have := (hk x hx h.symm).1
                  rw [hb] at this; cases this
                · exact h
            · rw [popd_no hp]; exact hkm
          · exact popd_mem
        · rw [if_neg hb]
          split
          · constructor
            · intro h; exact List.mem_cons_of_mem _ h
            · intro h
              rcases List.mem_cons.1 h with h | h
              · have := (hk x hx h.symm).2
                omega
              · exact h
          · exact Iff.rfl
  have := main (upH c t - upH c s)
  rw [show upH c s + (upH c t - upH c s) = upH c t by have := upH_mono (c := c) hst; omega] at this
  exact this
end Go.Dial.Chn
