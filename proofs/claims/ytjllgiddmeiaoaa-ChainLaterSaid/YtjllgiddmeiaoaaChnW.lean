/-
  Plain mathematics of chains: turns in order, what is in force after them, spells of carriers, reversals.
-/
import Derived.Test.YtjllgiddmeiaoaaChnV
set_option linter.unusedVariables false
set_option linter.unusedSimpArgs false
namespace Go.Dial.Chn
open Go.Dial.Clm Go.Dial.Lif
def lastG (l : List Mo) (G : List Int) : List Int := (l.getLast?.map (·.G)).getD G
theorem lastG_nil (G : List Int) : lastG [] G = G := rfl
theorem lastG_app (A B : List Mo) (G : List Int) : lastG (A ++ B) G = lastG B (lastG A G) := by
  unfold lastG
  rw [List.getLast?_append]
  cases B.getLast? <;> rfl
theorem lastG_cons (m : Mo) (B : List Mo) (G : List Int) : lastG (m :: B) G = lastG B m.G := lastG_app [m] B G
theorem lastG_pops (a p : Int) : ∀ (G G0 : List Int), p ∈ G → lastG (pops a p G) G0 = popd p G
  | [], _, h => by cases h
  | x :: G, G0, h => by
    rw [pops, popd, if_pos h, if_pos h, lastG_cons]
    show lastG (pops a p G) G = _
    by_cases hp : p ∈ G
    · exact lastG_pops a p G G hp
    · have : pops a p G = [] := by
        cases G with
        | nil => rfl
        | cons y G => rw [pops, if_neg hp]
      rw [this, popd_no hp]; rfl
theorem lastG_momsH (c : Ch) (G : List Int) (h : Hp) (G0 : List Int) : lastG (momsH c G h) G0 = aftH c G h := by
  unfold momsH aftH
  split
  · split
    · exact lastG_pops _ _ _ _ ‹_›
    · rw [popd_no ‹_›]; rfl
  · split <;> rfl
theorem lastG_moms (c : Ch) : ∀ (l : List Hp) (G : List Int), lastG (moms c G l) G = force c G l
  | [], G => rfl
  | h :: l, G => by
    show lastG (momsH c G h ++ moms c (aftH c G h) l) G = force c (aftH c G h) l
    rw [lastG_app, lastG_momsH, lastG_moms c l]
theorem momsH_ne (c : Ch) (G : List Int) (h : Hp) : momsH c G h ≠ [] := by
  unfold momsH
  split
  · split
    · rename_i hp
      cases G with
      | nil => cases hp
      | cons x G => rw [pops, if_pos hp]; simp
    · simp
  · split <;> simp
theorem takeWhile_all {α : Type} {q : α → Bool} {A B : List α} (h : ∀ x ∈ A, q x = true) : (A ++ B).takeWhile q = A ++ B.takeWhile q := by
  induction A with
  | nil => rfl
  | cons x A ih => rw [List.cons_append, List.takeWhile_cons_of_pos (h x (List.mem_cons_self ..)), ih fun y hy => h y (List.mem_cons_of_mem _ hy)]; rfl
theorem takeWhile_none {α : Type} {q : α → Bool} {A B : List α} (hA : A ≠ []) (h : ∀ x ∈ A, q x = false) : (A ++ B).takeWhile q = [] := by
  cases A with
  | nil => exact absurd rfl hA
  | cons x A => rw [List.cons_append, List.takeWhile_cons_of_neg (by rw [h x (List.mem_cons_self ..)]; decide)]
theorem takeWhile_moms (c : Ch) (t : Int) : ∀ (l : List Hp) (G : List Int), (moms c G l).takeWhile (fun m => decide (m.a ≤ t)) = moms c G (l.takeWhile fun h => decide (h.a ≤ t))
  | [], G => rfl
  | h :: l, G => by
    show (momsH c G h ++ moms c (aftH c G h) l).takeWhile _ = _
    by_cases ht : h.a ≤ t
    · rw [takeWhile_all (fun m hm => by rw [momsH_at m hm]; exact decide_eq_true ht), takeWhile_moms c t l, List.takeWhile_cons_of_pos (by simpa using ht)]
      rfl
    · rw [takeWhile_none (momsH_ne c G h) (fun m hm => by rw [momsH_at m hm]; exact decide_eq_false ht), List.takeWhile_cons_of_neg (by simpa using ht)]
      rfl
theorem forceAt_last (c : Ch) (t : Int) : forceAt c t = lastG ((turnsV c).takeWhile fun m => decide (m.a ≤ t)) [] := by
  unfold forceAt turnsV
  rw [takeWhile_moms, lastG_moms]
/-- turns are in order -/
theorem moms_sorted (c : Ch) : ∀ (l : List Hp) (G : List Int), SortedH l → (moms c G l).Pairwise fun x y => x.a ≤ y.a
  | [], _, _ => List.Pairwise.nil
  | h :: l, G, hs => by
    refine List.pairwise_append.2 ⟨List.pairwise_of_forall_mem_list fun x hx y hy => by rw [momsH_at x hx, momsH_at y hy]; omega, moms_sorted c l _ hs.2, fun x hx y hy => ?_⟩
    obtain ⟨z, h1, h2⟩ := moms_at y hy
    have := hs.1 z h1
    rw [momsH_at x hx, h2]
    unfold ltH at this
    omega
theorem turns_sorted (c : Ch) : (turnsV c).Pairwise fun x y => x.a ≤ y.a := moms_sorted c _ _ (sorted_hps c)
/-- the carrier at a time, by turns -/
def whoL (c : Ch) (l : List Mo) (t : Int) : Int := withV c (lastG (l.takeWhile fun m => decide (m.a ≤ t)) [])
theorem whoL_nil (c : Ch) (t : Int) : whoL c [] t = c.f := rfl
theorem whoL_ge {c : Ch} {l : List Mo} {m : Mo} {t : Int} (h : ∀ x ∈ l, x.a ≤ m.a) (ht : m.a ≤ t) : whoL c (l ++ [m]) t = withV c m.G := by
  unfold whoL
  rw [takeWhile_all (fun x hx => by have := h x hx; exact decide_eq_true (by omega)), List.takeWhile_cons_of_pos (by simpa using ht), lastG_app, List.takeWhile_nil]
  rfl
theorem whoL_lt {c : Ch} {l : List Mo} {m : Mo} {t : Int} (ht : t < m.a) : whoL c (l ++ [m]) t = whoL c l t := by
  unfold whoL
  congr 2
  induction l with
  | nil => rw [List.nil_append, List.takeWhile_cons_of_neg (by simpa using ht)]; rfl
  | cons x l ih =>
    rw [List.cons_append]
    by_cases hx : x.a ≤ t
    · rw [List.takeWhile_cons_of_pos (by simpa using hx), List.takeWhile_cons_of_pos (by simpa using hx), ih]
    · rw [List.takeWhile_cons_of_neg (by simpa using hx), List.takeWhile_cons_of_neg (by simpa using hx)]
theorem who_whoL (c : Ch) (t : Int) : withV c (forceAt c t) = whoL c (turnsV c) t := by rw [forceAt_last]; rfl
/-- what holds of the spells (the last one first) behind turns -/
structure HInv (c : Ch) (l : List Mo) (o : List Hd) : Prop where
  ne : o ≠ []
  adj : ∀ i (x y : Hd), o[i]? = some x → o[i + 1]? = some y → y.t = x.f ∧ y.f < y.t ∧ y.c ≠ x.c
  bot : ∀ x : Hd, o.getLast? = some x → x.f = 0
  sem : ∀ i (z : Hd), o[i + 1]? = some z → ∀ t, z.f ≤ t → t < z.t → whoL c l t = z.c
  top : ∀ x : Hd, o.head? = some x → (∀ t, x.f ≤ t → whoL c l t = x.c) ∧ 0 ≤ x.f ∧ ∀ b, (∀ m ∈ l, m.a ≤ b) → 0 ≤ b → x.f ≤ b
/-- the same without what is said of the last one's end -/
structure HInv' (c : Ch) (a : Int) (l : List Mo) (o : List Hd) : Prop where
  adj : ∀ i (x y : Hd), o[i]? = some x → o[i + 1]? = some y → y.t = x.f ∧ y.f < y.t ∧ y.c ≠ x.c
  bot : ∀ x : Hd, o.getLast? = some x → x.f = 0
  sem : ∀ (i : Nat) (z : Hd), o[i]? = some z → ∀ t, z.f ≤ t → t < z.t → whoL c l t = z.c
  top : ∀ x : Hd, o.head? = some x → x.t = a ∧ x.f < a ∧ 0 ≤ x.f
  nil : o = [] → a = 0
theorem holdO_inv {c : Ch} {l : List Mo} {o : List Hd} {a : Int} (h : HInv c l o) (hl : ∀ m ∈ l, m.a ≤ a) (ha : 0 ≤ a) : HInv' c a l (holdO o a) := by
  obtain ⟨ne, adj, bot, sem, top⟩ := h
  cases o with
  | nil => exact absurd rfl ne
  | cons x r =>
    obtain ⟨t1, t2, t3⟩ := top x rfl
    have t3 := t3 a hl ha
    unfold holdO
    simp only
    by_cases hx : x.f = a
    · rw [if_pos hx]
      refine ⟨fun i x y h1 h2 => adj (i + 1) x y h1 h2, fun y hy => bot y (by rw [List.getLast?_cons, hy]; rfl), fun i z hz => sem i z hz, fun y hy => ?_, fun hr => ?_⟩
      · cases r with
        | nil => cases hy
        | cons z r =>
          cases hy
          obtain ⟨a1, a2, _⟩ := adj 0 x y rfl rfl
          refine ⟨by omega, by omega, ?_⟩
          have : ∀ (r : List Hd) (y : Hd), (∀ i (x z : Hd), (y :: r)[i]? = some x → (y :: r)[i + 1]? = some z → z.t = x.f ∧ z.f < z.t ∧ z.c ≠ x.c) → (∀ x : Hd, (y :: r).getLast? = some x → x.f = 0) → 0 ≤ y.f := by
            intro r
            induction r with
            | nil => intro y _ hb; have := hb y rfl; omega
            | cons w r ih =>
              intro y had hb
              obtain ⟨q1, q2, _⟩ := had 0 y w rfl rfl
              have := ih w (fun i x z h1 h2 => had (i + 1) x z h1 h2) (fun x hx => hb x (by rw [List.getLast?_cons_cons]; exact hx))
              omega
          exact this r y (fun i x z h1 h2 => adj (i + 1) x z h1 h2) (fun z hz => bot z (by rw [List.getLast?_cons_cons]; exact hz))
      · subst hr
        have := bot x rfl
        omega
    · rw [if_neg hx]
      refine ⟨fun i y z h1 h2 => ?_, fun y hy => ?_, fun i z hz t h1 h2 => ?_, fun y hy => ?_, fun h => by cases h⟩
      · cases i with
        | zero =>
          cases h1
          exact adj 0 x z rfl h2
        | succ i => exact adj (i + 1) y z h1 h2
      · cases r with
        | nil => cases hy; exact bot x rfl
        | cons w r => rw [List.getLast?_cons_cons] at hy; exact bot y (by rw [List.getLast?_cons_cons]; exact hy)
      · cases i with
        | zero => cases hz; exact t1 t h1
        | succ i => exact sem i z hz t h1 h2
      · cases hy
        exact ⟨rfl, by simp only; omega, t2⟩
theorem holdS_inv {c : Ch} {l : List Mo} {o : List Hd} {m : Mo} (h : HInv c l o) (hl : ∀ x ∈ l, x.a ≤ m.a) (ha : 0 ≤ m.a) : HInv c (l ++ [m]) (holdS c o m) := by
  have h' := holdO_inv h hl ha
  unfold holdS holdW
  obtain ⟨w, hw⟩ : ∃ w, w = withV c m.G := ⟨_, rfl⟩
  have hge : ∀ t, m.a ≤ t → whoL c (l ++ [m]) t = w := fun t ht => by rw [hw]; exact whoL_ge hl ht
  rw [← hw]
  have hb : ∀ b, (∀ x ∈ l ++ [m], x.a ≤ b) → m.a ≤ b := fun b hb => hb m (by simp)
  cases hq : holdO o m.a with
  | nil =>
    rw [hq] at h'
    have := h'.nil rfl
    exact ⟨by simp, fun i x y h1 h2 => by cases i <;> simp at h2, fun x hx => by cases hx; exact this, fun i z hz => by simp at hz, fun x hx => by cases hx; exact ⟨fun t ht => hge t ht, ha, fun b hbb _ => hb b hbb⟩⟩
  | cons y r =>
    rw [hq] at h'
    obtain ⟨adj, bot, sem, top, _⟩ := h'
    obtain ⟨t1, t2, t3⟩ := top y rfl
    simp only
    by_cases hyw : y.c = w
    · rw [if_pos hyw]
      refine ⟨by simp, adj, bot, fun i z hz t h1 h2 => ?_, fun x hx => ?_⟩
      · have hlt : t < m.a := by
          -- below the top everything ends before
          have : ∀ (i : Nat) (z : Hd), (y :: r)[i + 1]? = some z → z.t ≤ y.f := by
            intro i
            induction i with
            | zero => intro z hz; have := adj 0 y z rfl hz; omega
            | succ i ih =>
              intro z hz
              obtain ⟨x, hx⟩ : ∃ x, (y :: r)[i + 1]? = some x := ⟨_, List.getElem?_eq_getElem (by have := (List.getElem?_eq_some_iff.1 hz).1; omega)⟩
              have q1 := ih x hx
              have q2 := adj (i + 1) x z hx hz
              have q3 := (adj i _ x (List.getElem?_eq_getElem (by have := (List.getElem?_eq_some_iff.1 hz).1; omega)) hx)
              omega
          have := this i z hz
          omega
        rw [whoL_lt hlt]
        exact sem (i + 1) z hz t h1 h2
      · cases hx
        refine ⟨fun t ht => ?_, t3, fun b hbb _ => by have := hb b hbb; omega⟩
        rcases Int.lt_or_le t m.a with h1 | h1
        · rw [whoL_lt h1]; exact sem 0 y rfl t ht (by omega)
        · rw [hge t h1, hyw]
    · rw [if_neg hyw]
      refine ⟨by simp, fun i x z h1 h2 => ?_, fun x hx => bot x (by rw [List.getLast?_cons_cons] at hx; exact hx), fun i z hz t h1 h2 => ?_, fun x hx => ?_⟩
      · cases i with
        | zero =>
          cases h1; cases h2
          exact ⟨t1, by omega, hyw⟩
        | succ i => exact adj i x z h1 h2
      · have hz : (y :: r)[i]? = some z := hz
        have hlt : t < m.a := by
          cases i with
          | zero => cases hz; omega
          | succ i =>
            have : ∀ (i : Nat) (z : Hd), (y :: r)[i + 1]? = some z → z.t ≤ y.f := by
              intro i
              induction i with
              | zero => intro z hz; have := adj 0 y z rfl hz; omega
              | succ i ih =>
                intro z hz
                obtain ⟨x, hx⟩ : ∃ x, (y :: r)[i + 1]? = some x := ⟨_, List.getElem?_eq_getElem (by have := (List.getElem?_eq_some_iff.1 hz).1; omega)⟩
                have q1 := ih x hx
                have q2 := adj (i + 1) x z hx hz
                have q3 := (adj i _ x (List.getElem?_eq_getElem (by have := (List.getElem?_eq_some_iff.1 hz).1; omega)) hx)
                omega
            have := this i z hz
            omega
        rw [whoL_lt hlt]
        exact sem i z hz t h1 h2
      · cases hx
        exact ⟨fun t ht => hge t ht, ha, fun b hbb _ => hb b hbb⟩
theorem holdF_inv {c : Ch} : ∀ (l A : List Mo) (o : List Hd), HInv c A o → (∀ m ∈ A ++ l, 0 ≤ m.a) → (A ++ l).Pairwise (fun x y => x.a ≤ y.a) → HInv c (A ++ l) (holdF c o l)
  | [], A, o, h, _, _ => by rw [List.append_nil]; exact h
  | m :: l, A, o, h, h0, hp => by
    have hm : ∀ x ∈ A, x.a ≤ m.a := fun x hx => (List.pairwise_append.1 hp).2.2 x hx m (List.mem_cons_self ..)
    have := holdF_inv l (A ++ [m]) (holdS c o m) (holdS_inv h hm (h0 m (by simp))) (fun x hx => h0 x (by simpa using hx)) (by simpa using hp)
    rw [List.append_assoc] at this
    exact this
theorem hps_a {c : Ch} (hV : ChV c) {h : Hp} (hh : h ∈ hps c) : ∃ (k : Nat) (p : Pt) (x : Cs), c.ps[k]? = some p ∧ h.p = (k : Int) ∧ x ∈ timeline c.r p.c p.es ∧ h.a = x.f ∧ p.c.a ≤ h.a := by
  obtain ⟨k, p, h1, h2, x, h3, h4⟩ := hps_port hh
  have : h.a = x.f := by
    unfold hpOf at h4
    split at h4
    · cases h4; rfl
    · cases h4
  refine ⟨k, p, x, h1, h2, h3, this, ?_⟩
  rw [this]
  have hc := ch_clm hV h1
  unfold timeline at h3
  rcases List.mem_cons.1 h3 with rfl | h3
  · exact Int.le_refl _
  · refine tl_ge hc.1 (m := p.c.a) (fun ha => ?_) (fun e he => (evV_ge hc.2.2.2 e he).1) x h3
    have := (st_n hc.1 (s := 1) (f := p.c.a) (by decide)).1
    exact Int.le_of_lt this
theorem hps_bd {c : Ch} (h : Good c) {x : Hp} (hx : x ∈ hps c) : 0 ≤ x.a ∧ x.a ≤ 400000 := by
  obtain ⟨k, p, y, h1, _, h3, h4, h5⟩ := hps_a h.1 hx
  have hc := ch_clm h.1 h1
  have := timeline_ends hc y h3
  have := h.2 p (List.mem_of_getElem? h1)
  have := hc.2.1
  unfold ClV at this
  omega
theorem turns_bd {c : Ch} (h : Good c) : ∀ m ∈ turnsV c, 0 ≤ m.a ∧ m.a ≤ 400000 := fun m hm => by
  obtain ⟨x, h1, h2⟩ := moms_at m hm
  rw [h2]; exact hps_bd h h1
/-- the spells of carriers -/
theorem one_spells {c : Ch} (h : Good c) : holdV c ≠ [] ∧ (∀ x, (holdV c)[0]? = some x → x.f = 0) ∧ (∀ x, (holdV c)[(holdV c).length - 1]? = some x → x.t = 20000001) ∧
    ∀ (i : Nat) p, (holdV c)[i]? = some p → p.f < p.t ∧ (∀ q, 0 < i → (holdV c)[i - 1]? = some q → p.f = q.t ∧ p.c ≠ q.c) ∧ (∀ t, p.f ≤ t → t < p.t → p.c = withV c (forceAt c t)) := by
  have h0 : HInv c [] [⟨c.f, 0, 0⟩] := ⟨by simp, fun i x y h1 h2 => by cases i <;> simp at h2, fun x hx => by cases hx; rfl, fun i z hz => by simp at hz, fun x hx => by cases hx; exact ⟨fun t _ => rfl, Int.le_refl 0, fun b _ hb => hb⟩⟩
  have hI := holdF_inv (turnsV c) [] _ h0 (fun m hm => (turns_bd h m hm).1) (turns_sorted c)
  rw [List.nil_append] at hI
  obtain ⟨ne, adj, bot, sem, top⟩ := hI
  obtain ⟨o, ho⟩ : ∃ o, o = holdF c [⟨c.f, 0, 0⟩] (turnsV c) := ⟨_, rfl⟩
  have hH : holdV c = (closeH o).reverse := by rw [ho]; rfl
  rw [← ho] at ne adj bot sem top
  rw [hH]
  cases o with
  | nil => exact absurd rfl ne
  | cons x r =>
    obtain ⟨t1, t2, t3⟩ := top x rfl
    have t3 := t3 400000 (fun m hm => (turns_bd h m hm).2) (by decide)
    have hC : closeH (x :: r) = ⟨x.c, x.f, 20000001⟩ :: r := rfl
    rw [hC]
    have hlen : ((⟨x.c, x.f, 20000001⟩ : Hd) :: r).reverse.length = r.length + 1 := by simp
    -- cells of the reversed list
    have get : ∀ i, i < r.length + 1 → ((⟨x.c, x.f, 20000001⟩ : Hd) :: r).reverse[i]? = ((⟨x.c, x.f, 20000001⟩ : Hd) :: r)[r.length - i]? := fun i hi => by
      rw [List.getElem?_reverse (by simpa using hi)]
      congr 1
    refine ⟨by simp, fun y hy => ?_, fun y hy => ?_, fun i p hp => ?_⟩
    · rw [get 0 (by omega)] at hy
      cases r with
      | nil => cases hy; exact bot x rfl
      | cons z r =>
        refine bot y ?_
        rw [List.getLast?_cons_cons, List.getLast?_eq_getElem?]
        simpa using hy
    · rw [hlen, get _ (by omega)] at hy
      simp at hy
      rw [← hy]
    · have hi : i < r.length + 1 := by have := (List.getElem?_eq_some_iff.1 hp).1; simpa using this
      rw [get i hi] at hp
      have first : ∀ t, x.f ≤ t → x.c = withV c (forceAt c t) := fun t ht => by rw [who_whoL, t1 t ht]
      refine ⟨?_, fun q h1 hq => ?_, fun t h1 h2 => ?_⟩
      · cases hk : r.length - i with
        | zero => rw [hk] at hp; cases hp; simp only; omega
        | succ k =>
          rw [hk] at hp
          have hp : (x :: r)[k + 1]? = some p := hp
          obtain ⟨y, hy⟩ : ∃ y, (x :: r)[k]? = some y := ⟨_, List.getElem?_eq_getElem (by have := (List.getElem?_eq_some_iff.1 hp).1; omega)⟩
          exact (adj k y p hy hp).2.1
      · rw [get (i - 1) (by omega)] at hq
        have hk : r.length - (i - 1) = (r.length - i) + 1 := by omega
        rw [hk] at hq
        have hq : (x :: r)[(r.length - i) + 1]? = some q := hq
        cases hkk : r.length - i with
        | zero =>
          rw [hkk] at hp hq
          cases hp
          have := adj 0 x q rfl hq
          exact ⟨by simp only; omega, fun e => this.2.2 e.symm⟩
        | succ k =>
          rw [hkk] at hp hq
          have hp : (x :: r)[k + 1]? = some p := hp
          have := adj (k + 1) p q hp hq
          exact ⟨by omega, fun e => this.2.2 e.symm⟩
      · cases hk : r.length - i with
        | zero => rw [hk] at hp; cases hp; exact first t h1
        | succ k =>
          rw [hk] at hp
          have hp : (x :: r)[k + 1]? = some p := hp
          rw [who_whoL, sem k p hp t h1 h2]
end Go.Dial.Chn
