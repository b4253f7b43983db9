/-
  Plain mathematics of chains: reversals, holders, the last status.
-/
import Derived.Test.YtjllgiddmeiaoaaChnW
set_option linter.unusedVariables false
set_option linter.unusedSimpArgs false
namespace Go.Dial.Chn
open Go.Dial.Clm Go.Dial.Lif
theorem moms_split (c : Ch) : ∀ (l : List Hp) (G : List Int) (A : List Mo) (b : Mo) (B : List Mo), moms c G l = A ++ b :: B →
    ∃ l1 h l2 A' B', l = l1 ++ h :: l2 ∧ A = moms c G l1 ++ A' ∧ momsH c (force c G l1) h = A' ++ b :: B'
  | [], G, A, b, B, h => by
    have : ([] : List Mo) = A ++ b :: B := h
    simp at this
  | x :: l, G, A, b, B, h => by
    have h : momsH c G x ++ moms c (aftH c G x) l = A ++ b :: B := h
    rcases List.append_eq_append_iff.1 h with ⟨D, h1, h2⟩ | ⟨D, h1, h2⟩
    · obtain ⟨l1, y, l2, A', B', e1, e2, e3⟩ := moms_split c l (aftH c G x) D b B h2
      exact ⟨x :: l1, y, l2, A', B', by rw [e1]; rfl, by rw [h1, e2]; simp [moms], e3⟩
    · cases D with
      | nil =>
        simp only [List.append_nil, List.nil_append] at h1 h2
        obtain ⟨l1, y, l2, A', B', e1, e2, e3⟩ := moms_split c l (aftH c G x) [] b B (by rw [List.nil_append]; exact h2.symm)
        refine ⟨x :: l1, y, l2, A', B', by rw [e1]; rfl, ?_, e3⟩
        have e2 : moms c (aftH c G x) l1 ++ A' = [] := e2.symm
        show A = momsH c G x ++ moms c (aftH c G x) l1 ++ A'
        rw [List.append_assoc, e2, List.append_nil, h1]
      | cons d D =>
        rw [List.cons_append] at h2
        obtain ⟨rfl, h2⟩ := List.cons.inj h2
        exact ⟨[], x, l, A, D, rfl, rfl, h1⟩
theorem moms_mem {c : Ch} {m : Mo} (hm : m ∈ turnsV c) : ∃ i h, (hps c)[i]? = some h ∧ m ∈ momsH c (Gk c i) h := by
  obtain ⟨A, B, hAB⟩ := List.append_of_mem hm
  obtain ⟨l1, h, l2, A', B', e1, _, e3⟩ := moms_split c _ _ A m B hAB
  refine ⟨l1.length, h, by rw [e1]; simp, ?_⟩
  have : Gk c l1.length = force c [] l1 := by unfold Gk; rw [e1]; simp
  rw [this, e3]
  simp
theorem pops_kind {a p : Int} : ∀ {G : List Int} {m : Mo}, m ∈ pops a p G → m.k = 3 ∨ m.k = 4
  | [], m, h => by cases h
  | x :: G, m, h => by
    unfold pops at h
    split at h
    · rcases List.mem_cons.1 h with rfl | h
      · simp only; split <;> simp
      · exact pops_kind h
    · cases h
theorem pops_three {a p : Int} : ∀ {G : List Int} {m : Mo}, m ∈ pops a p G → m.k = 3 → m.p = p ∧ ∃ X, G = X ++ p :: m.G
  | [], m, h, _ => by cases h
  | x :: G, m, h, hk => by
    unfold pops at h
    split at h
    · rcases List.mem_cons.1 h with rfl | h
      · simp only at hk ⊢
        split at hk
        · rename_i hx
          exact ⟨hx, [], by rw [hx]; rfl⟩
        · cases hk
      · obtain ⟨h1, X, h2⟩ := pops_three h hk
        exact ⟨h1, x :: X, by rw [h2]; rfl⟩
    · cases h
theorem momsH_one {c : Ch} {G : List Int} {h : Hp} {m : Mo} (hm : m ∈ momsH c G h) (hk : m.k = 1) : h.b = false ∧ Takes c G h ∧ m = ⟨h.a, h.p, 1, h.p :: G⟩ := by
  unfold momsH at hm
  by_cases hb : h.b = true
  · rw [if_pos hb] at hm
    split at hm
    · have := pops_kind hm; omega
    · rw [List.mem_singleton] at hm; rw [hm] at hk; cases hk
  · rw [if_neg hb] at hm
    split at hm
    · rw [List.mem_singleton] at hm; exact ⟨by simpa using hb, ‹_›, hm⟩
    · rw [List.mem_singleton] at hm; rw [hm] at hk; cases hk
theorem momsH_two {c : Ch} {G : List Int} {h : Hp} {m : Mo} (hm : m ∈ momsH c G h) (hk : m.k = 2) : h.b = false ∧ ¬ Takes c G h ∧ m.p = h.p := by
  unfold momsH at hm
  by_cases hb : h.b = true
  · rw [if_pos hb] at hm
    split at hm
    · have := pops_kind hm; omega
    · rw [List.mem_singleton] at hm; rw [hm] at hk; cases hk
  · rw [if_neg hb] at hm
    split at hm
    · rw [List.mem_singleton] at hm; rw [hm] at hk; cases hk
    · rw [List.mem_singleton] at hm; exact ⟨by simpa using hb, ‹_›, by rw [hm]⟩
theorem momsH_three {c : Ch} {G : List Int} {h : Hp} {m : Mo} (hm : m ∈ momsH c G h) (hk : m.k = 3) : m.p = h.p ∧ m.a = h.a ∧ ∃ X, G = X ++ h.p :: m.G := by
  have ha := momsH_at m hm
  unfold momsH at hm
  by_cases hb : h.b = true
  · rw [if_pos hb] at hm
    split at hm
    · obtain ⟨h1, h2⟩ := pops_three hm hk
      exact ⟨h1, ha, h2⟩
    · rw [List.mem_singleton] at hm; rw [hm] at hk; cases hk
  · rw [if_neg hb] at hm
    split at hm
    · rw [List.mem_singleton] at hm; rw [hm] at hk; cases hk
    · rw [List.mem_singleton] at hm; rw [hm] at hk; cases hk
theorem hps_in {c : Ch} {h : Hp} (hh : h ∈ hps c) : 0 ≤ h.p ∧ h.p < (c.ps.length : Int) := by
  obtain ⟨k, p, h1, h2, _⟩ := hps_port hh
  have := (List.getElem?_eq_some_iff.1 h1).1
  omega
theorem Gk_in {c : Ch} {i : Nat} {x : Int} (h : x ∈ Gk c i) : 0 ≤ x ∧ x < (c.ps.length : Int) := by
  rcases force_mem h with h | ⟨y, h1, h2⟩
  · cases h
  · rw [← h2]; exact hps_in (List.mem_of_mem_take h1)
/-- when a port takes effect, as its turn says -/
theorem turn_eff {c : Ch} (hV : ChV c) {d : Mo} (hd : d ∈ turnsV c) (hk : d.k = 1) : d.a = effT c d.p := by
  obtain ⟨i, h, h1, h2⟩ := moms_mem hd
  obtain ⟨e1, _, e3⟩ := momsH_one h2 hk
  have := eff_of hV (List.mem_of_getElem? h1) e1
  rw [e3]
  simp only
  rw [this]
theorem back_law {c : Ch} (hV : ChV c) {A B : List Mo} {b : Mo} (hT : turnsV c = A ++ b :: B) (hk : b.k = 3) (hB : ∀ y, B.head? = some y → y.a ≠ b.a) :
    (0 ≤ b.p ∧ b.p < (c.ps.length : Int)) ∧ (∃ d ∈ A, d.k = 1 ∧ d.p = b.p) ∧ withV c (forceAt c b.a) = (portAt c b.p).c.f ∧ b.p ∉ forceAt c b.a ∧
      ((∃ X, forceAt c (effT c b.p) = X ++ b.p :: forceAt c b.a) ∨ (b.p ∉ forceAt c (effT c b.p) ∧ effT c b.p = b.a)) := by
  obtain ⟨l1, h, l2, A', B', e1, e2, e3⟩ := moms_split c _ _ A b B hT
  have hi : (hps c)[l1.length]? = some h := by rw [e1]; simp
  have hG : Gk c l1.length = force c [] l1 := by unfold Gk; rw [e1]; simp
  have hbm : b ∈ momsH c (Gk c l1.length) h := by rw [hG, e3]; simp
  obtain ⟨p1, p2, X, hX⟩ := momsH_three hbm hk
  rw [← p1] at hX
  have hfa : forceAt c b.a = b.G := by
    have hs := turns_sorted c
    rw [hT] at hs
    rw [forceAt_last, hT, takeWhile_all (fun x hx => decide_eq_true ((List.pairwise_append.1 hs).2.2 x hx b (List.mem_cons_self ..))), List.takeWhile_cons_of_pos (by simp)]
    have : B.takeWhile (fun m => decide (m.a ≤ b.a)) = [] := by
      cases B with
      | nil => rfl
      | cons y B =>
        have h1 := hB y rfl
        have h2 := (List.pairwise_cons.1 (List.pairwise_append.1 hs).2.1).1 y (List.mem_cons_self ..)
        rw [List.takeWhile_cons_of_neg (by simp; omega)]
    rw [this, lastG_app]
    rfl
  obtain ⟨j, hj, j1, j2, j3⟩ := inv hV l1.length X b.p b.G hX
  have hnot := Gk_nodup hV hX
  refine ⟨by rw [p1]; exact hps_in (List.mem_of_getElem? hi), ?_, ?_, ?_, ?_⟩
  · -- the turn with which it takes effect
    have hl1 : l1 = l1.take j ++ (⟨effT c b.p, b.p, false⟩ : Hp) :: l1.drop (j + 1) := by
      have : l1[j]? = some ⟨effT c b.p, b.p, false⟩ := by rw [← j1, e1, List.getElem?_append_left hj]
      obtain ⟨q1, q2⟩ := List.getElem?_eq_some_iff.1 this
      rw [← q2]; simp
    have hGj : force c [] (l1.take j) = b.G := by
      rw [← j2]; unfold Gk
      rw [e1, List.take_append_of_le_length (by omega)]
    refine ⟨⟨effT c b.p, b.p, 1, b.p :: b.G⟩, ?_, rfl, rfl⟩
    rw [e2]
    refine List.mem_append_left _ ?_
    have app : ∀ (A B : List Hp) (G : List Int), moms c G (A ++ B) = moms c G A ++ moms c (force c G A) B := by
      intro A
      induction A with
      | nil => intro B G; rfl
      | cons h A ih => intro B G; show momsH c G h ++ moms c (aftH c G h) (A ++ B) = _; rw [ih]; simp [moms, force]
    rw [hl1, app, hGj]
    refine List.mem_append_right _ (List.mem_append_left _ ?_)
    unfold momsH
    rw [if_neg (by simp), if_pos j3]
    simp
  · rw [hfa]; exact j3.1
  · rw [hfa]; exact hnot
  · rw [hfa]
    have jm : j < upH c (effT c b.p) := (upH_lt j1).2 (Int.le_refl _)
    rw [forceAt_Gk]
    rcases Nat.lt_or_ge l1.length (upH c (effT c b.p)) with h1 | h1
    · have h2 := (upH_lt hi).1 h1
      have h3 := sorted_le (sorted_hps c) (Nat.le_of_lt hj) j1 hi
      simp only at h3
      have h4 : effT c b.p = b.a := by omega
      refine .inr ⟨?_, h4⟩
      rw [h4, ← forceAt_Gk, hfa]
      exact hnot
    · have hin : b.p ∈ Gk c (upH c (effT c b.p)) := stays_in hV j1 jm _ h1 (by rw [hX]; simp)
      obtain ⟨X', Y', hX'⟩ := List.append_of_mem hin
      exact .inl ⟨X', by rw [hX', base hV hX' hX]⟩
/-- each port in force was claimed from the carrier to which the one before it leads -/
theorem force_from {c : Ch} (hV : ChV c) {t : Int} {X Y : List Int} {p : Int} (h : forceAt c t = X ++ p :: Y) : (0 ≤ p ∧ p < (c.ps.length : Int)) ∧ withV c Y = (portAt c p).c.f := by
  rw [forceAt_Gk] at h
  obtain ⟨j, _, _, _, h3⟩ := inv hV _ X p Y h
  exact ⟨Gk_in (i := upH c t) (by rw [h]; simp), h3.1⟩
/-- a port takes effect for its holder -/
theorem turn_holder {c : Ch} {m : Mo} (hm : m ∈ turnsV c) (hk : m.k = 1) : (0 ≤ m.p ∧ m.p < (c.ps.length : Int)) ∧ (atL c.life (min m.a 10000000)).s = 1 ∧ (atL c.life (min m.a 10000000)).h = (portAt c m.p).c.h := by
  obtain ⟨i, h, h1, h2⟩ := moms_mem hm
  obtain ⟨_, e2, e3⟩ := momsH_one h2 hk
  have := hps_in (List.mem_of_getElem? h1)
  rw [e3]
  exact ⟨this, e2.2⟩
/-- without a life, no port takes effect -/
theorem bare_hold {c : Ch} (hl : c.life = []) : holdV c = [⟨c.f, 0, 20000001⟩] := by
  have hno : ∀ G h, ¬ Takes c G h := fun G h ht => by
    have := ht.2.1
    rw [hl] at this
    have e : ∀ t, (atL [] t) = first := fun t => by simp [atL, upto, fin]
    rw [e] at this
    cases this
  have hm : ∀ (l : List Hp), ∀ m ∈ moms c [] l, m.G = [] := by
    intro l
    induction l with
    | nil => intro m hm; cases hm
    | cons h l ih =>
      intro m hm
      have ha : aftH c [] h = [] := by
        unfold aftH
        split
        · rfl
        · rw [if_neg (hno _ _)]
      rcases List.mem_append.1 hm with hm | hm
      · unfold momsH at hm
        split at hm
        · split at hm
          · cases ‹h.p ∈ []›
          · rw [List.mem_singleton] at hm; rw [hm]
        · rw [if_neg (hno _ _), List.mem_singleton] at hm; rw [hm]
      · rw [ha] at hm; exact ih m hm
  have hF : ∀ (l : List Mo) (t : Int), (∀ m ∈ l, m.G = []) → ∃ t', holdF c [⟨c.f, 0, t⟩] l = [⟨c.f, 0, t'⟩] := by
    intro l
    induction l with
    | nil => intro t _; exact ⟨t, rfl⟩
    | cons m l ih =>
      intro t hml
      have h1 := hml m (List.mem_cons_self ..)
      have h2 : ∃ t', holdS c [⟨c.f, 0, t⟩] m = [⟨c.f, 0, t'⟩] := by
        unfold holdS holdW holdO
        rw [h1]
        simp only
        by_cases h0 : (0 : Int) = m.a
        · rw [if_pos h0, ← h0]; exact ⟨0, rfl⟩
        · rw [if_neg h0]; exact ⟨m.a, by simp [withV]⟩
      obtain ⟨t', h2⟩ := h2
      show ∃ t', holdF c (holdS c [⟨c.f, 0, t⟩] m) l = _
      rw [h2]
      exact ih t' fun x hx => hml x (List.mem_cons_of_mem _ hx)
  unfold holdV
  obtain ⟨t', h⟩ := hF (turnsV c) 0 (hm _)
  rw [h]
  rfl
/-- the last status of a port that is final -/
theorem final_hps {c : Ch} (hV : ChV c) {k : Nat} {p : Pt} (hp : c.ps[k]? = some p) (hz : (lst (x0 c.r p.c) (tl c.r p.c.b (x0 c.r p.c) p.es)).s = 5) :
    ∀ h ∈ hps c, h.p = (k : Int) → h.b = false ∧ h.a + c.r.r ≤ (lst (x0 c.r p.c) (tl c.r p.c.b (x0 c.r p.c) p.es)).f := by
  intro h hh hk
  obtain ⟨k', p', h1, h2, h3⟩ := hps_hpP hh
  have hkk : k' = k := by omega
  subst hkk
  rw [h1] at hp
  cases hp
  unfold hpP at h3
  rw [portAt_of h1] at h3
  rcases port_cases (ch_clm hV h1) k' with ⟨_, e⟩ | ⟨f, _, e, e2⟩ | ⟨f, g, _, _, _, _, e⟩
  · omega
  · rw [e, List.mem_singleton] at h3
    rw [h3, e2]
    exact ⟨rfl, Int.le_refl _⟩
  · omega
/-- at the end, a claim is closed -/
theorem out_end {r : Rl} {c : Cl} {es : List Ce} (h : ClmV r c es) {t : Int} (ht : endsV r c ≤ t) : 5 ≤ (outV r c es t).s := by
  have hall : upTo t (timeline r c es) = timeline r c es := by
    have := takeWhile_all (q := fun x : Cs => decide (x.f ≤ t)) (A := timeline r c es) (B := []) (fun x hx => by have := timeline_ends h x hx; exact decide_eq_true (by omega))
    simpa [upTo] using this
  have e : outV r c es t = lst (x0 r c) (tl r c.b (x0 r c) es) := by
    unfold outV
    rw [hall]
    unfold timeline lst
    rw [List.getLast?_cons]; rfl
  rw [e]
  rcases port_cases h 0 with ⟨_, e⟩ | ⟨f, _, _, e⟩ | ⟨f, g, _, _, _, _, e⟩
  · omega
  · rw [e]; exact Int.le_refl 5
  · omega
end Go.Dial.Chn
