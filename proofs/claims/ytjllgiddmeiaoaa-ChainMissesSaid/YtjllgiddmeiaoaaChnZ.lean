/-
  Plain mathematics of chains: a port that misses is left out.
-/
import Derived.Test.YtjllgiddmeiaoaaChnX
set_option linter.unusedVariables false
set_option linter.unusedSimpArgs false
set_option linter.unusedSectionVars false
namespace Go.Dial.Chn
open Go.Dial.Clm Go.Dial.Lif
theorem ins_front {x : Hp} {l : List Hp} (h : ∀ z ∈ l, ltH x z) : ins x l = x :: l := by
  cases l with
  | nil => rfl
  | cons y l => rw [ins, if_pos (h y (List.mem_cons_self ..))]
theorem filter_ins (q : Hp → Bool) (x : Hp) : ∀ {l : List Hp}, SortedH l → (ins x l).filter q = if q x = true then ins x (l.filter q) else l.filter q
  | [], _ => by
    show List.filter q [x] = _
    by_cases hq : q x = true
    · rw [if_pos hq]; simp [hq, ins]
    · rw [if_neg hq]; simp [hq]
  | y :: l, hs => by
    have hins : ins x (y :: l) = if ltH x y then x :: y :: l else y :: ins x l := rfl
    rw [hins]
    by_cases hxy : ltH x y
    · rw [if_pos hxy, List.filter_cons]
      by_cases hq : q x = true
      · rw [if_pos hq, if_pos hq]
        refine (ins_front fun z hz => ?_).symm
        have hz := (List.mem_filter.1 hz).1
        rcases List.mem_cons.1 hz with rfl | hz
        · exact hxy
        · have := hs.1 z hz
          unfold ltH at *
          omega
      · rw [if_neg hq, if_neg hq]
    · rw [if_neg hxy, List.filter_cons, List.filter_cons, filter_ins q x hs.2]
      by_cases hy : q y = true
      · rw [if_pos hy, if_pos hy]
        by_cases hq : q x = true
        · rw [if_pos hq, if_pos hq]
          show _ = if ltH x y then x :: y :: l.filter q else y :: ins x (l.filter q)
          rw [if_neg hxy]
        · rw [if_neg hq, if_neg hq]
      · rw [if_neg hy, if_neg hy]
theorem filter_isort (q : Hp → Bool) (l : List Hp) : (isort l).filter q = isort (l.filter q) := by
  have : ∀ (l acc : List Hp), SortedH acc → (l.foldl (fun acc x => ins x acc) acc).filter q = (l.filter q).foldl (fun acc x => ins x acc) (acc.filter q) := by
    intro l
    induction l with
    | nil => intro acc _; rfl
    | cons x l ih =>
      intro acc ha
      rw [List.foldl_cons, ih _ (sorted_ins ha), filter_ins q x ha, List.filter_cons]
      by_cases hq : q x = true
      · rw [if_pos hq, if_pos hq, List.foldl_cons]
      · rw [if_neg hq, if_neg hq]
  exact this l [] trivial
theorem map_ins (f : Hp → Hp) (x : Hp) : ∀ {l : List Hp}, (∀ y ∈ l, ltH (f x) (f y) ↔ ltH x y) → (ins x l).map f = ins (f x) (l.map f)
  | [], _ => rfl
  | y :: l, h => by
    rw [List.map_cons, ins, ins]
    by_cases hxy : ltH x y
    · rw [if_pos hxy, if_pos ((h y (List.mem_cons_self ..)).2 hxy)]; rfl
    · rw [if_neg hxy, if_neg (fun hh => hxy ((h y (List.mem_cons_self ..)).1 hh)), List.map_cons, map_ins f x fun z hz => h z (List.mem_cons_of_mem _ hz)]
theorem map_isort (f : Hp → Hp) (l : List Hp) (h : ∀ x ∈ l, ∀ y ∈ l, ltH (f x) (f y) ↔ ltH x y) : (isort l).map f = isort (l.map f) := by
  have : ∀ (l acc : List Hp), (∀ x ∈ l ++ acc, ∀ y ∈ l ++ acc, ltH (f x) (f y) ↔ ltH x y) → (l.foldl (fun acc x => ins x acc) acc).map f = (l.map f).foldl (fun acc x => ins x acc) (acc.map f) := by
    intro l
    induction l with
    | nil => intro acc _; rfl
    | cons x l ih =>
      intro acc ha
      rw [List.foldl_cons, List.map_cons, List.foldl_cons, ih]
      · rw [map_ins f x fun y hy => ha x (by simp) y (by simp [hy])]
      · intro y hy z hz
        have mem : ∀ y ∈ l ++ ins x acc, y ∈ x :: l ++ acc := fun y hy => by
          rcases List.mem_append.1 hy with hy | hy
          · simp [hy]
          · rcases mem_ins.1 hy with rfl | hy
            · simp
            · simp [hy]
        exact ha y (mem y hy) z (mem z hz)
  exact this l [] (by simpa using h)
theorem hpsFrom_app (r : Rl) : ∀ (A B : List Pt) (i : Nat), hpsFrom r i (A ++ B) = hpsFrom r i A ++ hpsFrom r (i + A.length) B
  | [], B, i => by simp [hpsFrom]
  | p :: A, B, i => by
    rw [List.cons_append, hpsFrom, hpsFrom, hpsFrom_app r A B (i + 1), List.append_assoc]
    congr 3
    simp; omega
theorem hpsFrom_p (r : Rl) : ∀ (ps : List Pt) (i : Nat), ∀ h ∈ hpsFrom r i ps, (i : Int) ≤ h.p ∧ h.p < ((i + ps.length : Nat) : Int)
  | [], i, h, hh => by cases hh
  | p :: ps, i, h, hh => by
    rcases List.mem_append.1 hh with hh | hh
    · obtain ⟨x, _, e⟩ := List.mem_filterMap.1 hh
      have : h.p = (i : Int) := by
        unfold hpOf at e
        split at e
        · cases e; rfl
        · cases e
      simp only [List.length_cons]
      omega
    · have := hpsFrom_p r ps (i + 1) h hh
      simp only [List.length_cons]
      omega
theorem hpsFrom_bump (r : Rl) : ∀ (ps : List Pt) (i : Nat), hpsFrom r (i + 1) ps = (hpsFrom r i ps).map fun h => ⟨h.a, h.p + 1, h.b⟩
  | [], i => rfl
  | p :: ps, i => by
    rw [hpsFrom, hpsFrom, List.map_append, hpsFrom_bump r ps (i + 1)]
    congr 1
    rw [List.map_filterMap]
    congr 1
    funext x
    unfold hpOf
    split
    · simp
    · rfl
/-- an index behind a port that is left out -/
def shI (k : Nat) (x : Int) : Int := if (k : Int) < x then x - 1 else x
def shH (k : Nat) (h : Hp) : Hp := ⟨h.a, shI k h.p, h.b⟩
def shM (k : Nat) (m : Mo) : Mo := ⟨m.a, shI k m.p, m.k, m.G.map (shI k)⟩
def less (c : Ch) (k : Nat) : Ch := ⟨c.n, c.f, c.r, c.life, c.ps.take k ++ c.ps.drop (k + 1)⟩
theorem shI_inj {k : Nat} {x y : Int} (hx : x ≠ (k : Int)) (hy : y ≠ (k : Int)) : shI k x = shI k y ↔ x = y := by
  unfold shI
  constructor
  · intro h; split at h <;> split at h <;> omega
  · rintro rfl; rfl
theorem split_at {α : Type} {l : List α} {k : Nat} {p : α} (h : l[k]? = some p) : l = l.take k ++ p :: l.drop (k + 1) := by
  obtain ⟨q1, q2⟩ := List.getElem?_eq_some_iff.1 h
  rw [← q2]; simp
theorem ptsV_less {n : Int} {r : Rl} : ∀ {A : List Pt} {p : Pt} {B : List Pt} {last : Int}, PtsV n r last (A ++ p :: B) → PtsV n r last (A ++ B)
  | [], p, [], last, h => trivial
  | [], p, q :: B, last, h => ⟨⟨h.2.1.1, h.2.1.2.1, by have h1 := h.1.2.2; have h2 := h.2.1.2.2; omega⟩, h.2.2⟩
  | a :: A, p, B, last, h => ⟨h.1, ptsV_less h.2⟩
theorem chV_less {c : Ch} (hV : ChV c) {k : Nat} {p : Pt} (hp : c.ps[k]? = some p) : ChV (less c k) := by
  obtain ⟨q1, q2, q3, q4, q5, q6, q7⟩ := hV
  refine ⟨q1, q2, q3, q4, q5, ?_, ?_⟩
  · show (c.ps.take k ++ c.ps.drop (k + 1)).length ≤ 8
    simp; omega
  · show PtsV c.n c.r 0 (c.ps.take k ++ c.ps.drop (k + 1))
    rw [split_at hp] at q7
    exact ptsV_less q7
theorem hps_less {c : Ch} {k : Nat} {p : Pt} (hp : c.ps[k]? = some p) : hps (less c k) = ((hps c).filter fun h => decide (h.p ≠ (k : Int))).map (shH k) := by
  unfold hps
  rw [filter_isort]
  have hklt := (List.getElem?_eq_some_iff.1 hp).1
  have hlen : (c.ps.take k).length = k := by rw [List.length_take]; omega
  have hall : hpsFrom c.r 0 c.ps = hpsFrom c.r 0 (c.ps.take k) ++ ((timeline c.r p.c p.es).filterMap (hpOf k) ++ hpsFrom c.r (k + 1) (c.ps.drop (k + 1))) := by
    conv => lhs; rw [split_at hp]
    rw [hpsFrom_app, hlen, Nat.zero_add]
    rfl
  have hkeep : ∀ h ∈ hpsFrom c.r 0 (c.ps.take k), h.p < (k : Int) := fun h hh => by
    have := (hpsFrom_p c.r _ 0 h hh).2
    rw [hlen] at this
    omega
  have hown : ∀ h ∈ (timeline c.r p.c p.es).filterMap (hpOf k), h.p = (k : Int) := fun h hh => by
    obtain ⟨x, _, e⟩ := List.mem_filterMap.1 hh
    unfold hpOf at e
    split at e
    · cases e; rfl
    · cases e
  have hbehind : ∀ h ∈ hpsFrom c.r (k + 1) (c.ps.drop (k + 1)), (k : Int) < h.p := fun h hh => by
    have := (hpsFrom_p c.r _ (k + 1) h hh).1
    omega
  have hfil : (hpsFrom c.r 0 c.ps).filter (fun h => decide (h.p ≠ (k : Int))) = hpsFrom c.r 0 (c.ps.take k) ++ hpsFrom c.r (k + 1) (c.ps.drop (k + 1)) := by
    rw [hall, List.filter_append, List.filter_append]
    have e1 : (hpsFrom c.r 0 (c.ps.take k)).filter (fun h => decide (h.p ≠ (k : Int))) = hpsFrom c.r 0 (c.ps.take k) := List.filter_eq_self.2 fun h hh => by have := hkeep h hh; simp; omega
    have e2 : ((timeline c.r p.c p.es).filterMap (hpOf k)).filter (fun h => decide (h.p ≠ (k : Int))) = [] := List.filter_eq_nil_iff.2 fun h hh => by have := hown h hh; simp [this]
    have e3 : (hpsFrom c.r (k + 1) (c.ps.drop (k + 1))).filter (fun h => decide (h.p ≠ (k : Int))) = hpsFrom c.r (k + 1) (c.ps.drop (k + 1)) := List.filter_eq_self.2 fun h hh => by have := hbehind h hh; simp; omega
    rw [e1, e2, e3, List.nil_append]
  rw [map_isort]
  · congr 1
    show hpsFrom c.r 0 (c.ps.take k ++ c.ps.drop (k + 1)) = _
    rw [hfil, hpsFrom_app, hlen, Nat.zero_add, List.map_append, hpsFrom_bump c.r _ k, List.map_map]
    congr 1
    · have : ∀ h ∈ hpsFrom c.r 0 (c.ps.take k), shH k h = h := fun h hh => by
        have := hkeep h hh
        unfold shH shI
        rw [if_neg (by omega)]
      conv => lhs; rw [← List.map_id (hpsFrom c.r 0 (c.ps.take k))]
      exact List.map_congr_left fun h hh => (this h hh).symm
    · conv => lhs; rw [← List.map_id (hpsFrom c.r k (c.ps.drop (k + 1)))]
      refine List.map_congr_left fun h hh => ?_
      have := (hpsFrom_p c.r _ k h hh).1
      show h = shH k ⟨h.a, h.p + 1, h.b⟩
      unfold shH shI
      rw [if_pos (by simp only; omega)]
      simp
  · intro x hx y hy
    have hx := (List.mem_filter.1 hx).2
    have hy := (List.mem_filter.1 hy).2
    simp at hx hy
    unfold ltH shH shI
    simp only
    split <;> split <;> omega
theorem portAt_less {c : Ch} {k : Nat} {x : Int} (hk : k < c.ps.length) (hx : x ≠ (k : Int)) (h0 : 0 ≤ x) : portAt (less c k) (shI k x) = portAt c x := by
  unfold portAt
  congr 1
  show (c.ps.take k ++ c.ps.drop (k + 1))[(shI k x).toNat]? = c.ps[x.toNat]?
  have hlen : (c.ps.take k).length = k := by rw [List.length_take]; omega
  unfold shI
  by_cases h : (k : Int) < x
  · rw [if_pos h, List.getElem?_append_right (by rw [hlen]; omega), hlen, List.getElem?_drop]
    congr 1
    omega
  · rw [if_neg h, List.getElem?_append_left (by rw [hlen]; omega), List.getElem?_take, if_pos (by omega)]
/-- a list of ports without the one that is left out -/
def NoK (k : Nat) (G : List Int) : Prop := ∀ x ∈ G, x ≠ (k : Int) ∧ 0 ≤ x
section
variable {c : Ch} {k : Nat} (hk : k < c.ps.length)
include hk
theorem withV_less {G : List Int} (hG : NoK k G) : withV (less c k) (G.map (shI k)) = withV c G := by
  cases G with
  | nil => rfl
  | cons x G =>
    have := hG x (List.mem_cons_self ..)
    show (portAt (less c k) (shI k x)).c.t = (portAt c x).c.t
    rw [portAt_less hk this.1 this.2]
theorem mem_sh {G : List Int} (hG : NoK k G) {x : Int} (hx : x ≠ (k : Int)) : shI k x ∈ G.map (shI k) ↔ x ∈ G := by
  constructor
  · intro h
    obtain ⟨y, hy, e⟩ := List.mem_map.1 h
    rw [(shI_inj (hG y hy).1 hx).1 e] at hy
    exact hy
  · exact fun h => List.mem_map_of_mem h
theorem popd_sh {p : Int} (hp : p ≠ (k : Int)) : ∀ {G : List Int}, NoK k G → popd (shI k p) (G.map (shI k)) = (popd p G).map (shI k)
  | [], _ => rfl
  | x :: G, hG => by
    have hG' : NoK k G := fun y hy => hG y (List.mem_cons_of_mem _ hy)
    have hm := mem_sh hk hG hp
    rw [List.map_cons] at hm ⊢
    rw [popd, popd]
    by_cases h : p ∈ x :: G
    · rw [if_pos h, if_pos (hm.2 h), popd_sh hp hG']
    · rw [if_neg h, if_neg (fun hh => h (hm.1 hh))]; rfl
theorem pops_sh {a p : Int} (hp : p ≠ (k : Int)) : ∀ {G : List Int}, NoK k G → pops a (shI k p) (G.map (shI k)) = (pops a p G).map (shM k)
  | [], _ => rfl
  | x :: G, hG => by
    have hG' : NoK k G := fun y hy => hG y (List.mem_cons_of_mem _ hy)
    have hm := mem_sh hk hG hp
    rw [List.map_cons] at hm ⊢
    rw [pops, pops]
    by_cases h : p ∈ x :: G
    · rw [if_pos h, if_pos (hm.2 h), pops_sh hp hG', List.map_cons]
      congr 1
      unfold shM
      simp only
      congr 1
      have := shI_inj (k := k) (hG x (List.mem_cons_self ..)).1 hp
      by_cases e : x = p
      · rw [if_pos e, if_pos (this.2 e)]
      · rw [if_neg e, if_neg (fun hh => e (this.1 hh))]
    · rw [if_neg h, if_neg (fun hh => h (hm.1 hh))]; rfl
theorem takes_sh {G : List Int} (hG : NoK k G) {h : Hp} (hp : h.p ≠ (k : Int)) (h0 : 0 ≤ h.p) : Takes (less c k) (G.map (shI k)) (shH k h) ↔ Takes c G h := by
  unfold Takes
  rw [withV_less hk hG]
  show _ = (portAt (less c k) (shI k h.p)).c.f ∧ (atL c.life (min h.a 10000000)).s = 1 ∧ _ = (portAt (less c k) (shI k h.p)).c.h ↔ _
  rw [portAt_less hk hp h0]
  exact Iff.rfl
theorem aftH_sh {G : List Int} (hG : NoK k G) {h : Hp} (hp : h.p ≠ (k : Int)) (h0 : 0 ≤ h.p) : aftH (less c k) (G.map (shI k)) (shH k h) = (aftH c G h).map (shI k) := by
  have ht := takes_sh hk hG hp h0
  unfold aftH
  by_cases hb : h.b = true
  · rw [if_pos hb, if_pos (show (shH k h).b = true from hb)]
    exact popd_sh hk hp hG
  · rw [if_neg hb, if_neg (show ¬ (shH k h).b = true from hb)]
    by_cases q : Takes c G h
    · rw [if_pos q, if_pos (ht.2 q)]; rfl
    · rw [if_neg q, if_neg (fun hh => q (ht.1 hh))]
theorem momsH_sh {G : List Int} (hG : NoK k G) {h : Hp} (hp : h.p ≠ (k : Int)) (h0 : 0 ≤ h.p) : momsH (less c k) (G.map (shI k)) (shH k h) = (momsH c G h).map (shM k) := by
  have ht := takes_sh hk hG hp h0
  have hm := mem_sh hk hG hp
  unfold momsH
  by_cases hb : h.b = true
  · rw [if_pos hb, if_pos (show (shH k h).b = true from hb)]
    by_cases q : h.p ∈ G
    · rw [if_pos q, if_pos (show (shH k h).p ∈ G.map (shI k) from hm.2 q)]
      exact pops_sh hk hp hG
    · rw [if_neg q, if_neg (show ¬ (shH k h).p ∈ G.map (shI k) from fun hh => q (hm.1 hh))]; rfl
  · rw [if_neg hb, if_neg (show ¬ (shH k h).b = true from hb)]
    by_cases q : Takes c G h
    · rw [if_pos q, if_pos (ht.2 q)]; rfl
    · rw [if_neg q, if_neg (fun hh => q (ht.1 hh))]; rfl
end
theorem momsH_p {c : Ch} {G : List Int} {h : Hp} : ∀ m ∈ momsH c G h, m.p = h.p ∨ m.p ∈ G := by
  have pp : ∀ (a p : Int) (G : List Int), ∀ m ∈ pops a p G, m.p ∈ G := by
    intro a p G
    induction G with
    | nil => intro m hm; cases hm
    | cons x G ih =>
      intro m hm
      unfold pops at hm
      split at hm
      · rcases List.mem_cons.1 hm with rfl | hm
        · exact List.mem_cons_self ..
        · exact List.mem_cons_of_mem _ (ih m hm)
      · cases hm
  intro m hm
  unfold momsH at hm
  split at hm
  · split at hm
    · exact .inr (pp _ _ _ m hm)
    · rw [List.mem_singleton] at hm; rw [hm]; exact .inl rfl
  · split at hm
    · rw [List.mem_singleton] at hm; rw [hm]; exact .inl rfl
    · rw [List.mem_singleton] at hm; rw [hm]; exact .inl rfl
/-- a port that misses is never in force -/
theorem miss_never {c : Ch} (hV : ChV c) {m : Mo} (hm : m ∈ turnsV c) (hk : m.k = 2) (i : Nat) : m.p ∉ Gk c i := fun hin => by
  obtain ⟨i0, h, h1, h2⟩ := moms_mem hm
  obtain ⟨e1, e2, e3⟩ := momsH_two h2 hk
  obtain ⟨X, Y, hXY⟩ := List.append_of_mem hin
  obtain ⟨j, _, j1, j2, j3⟩ := inv hV i X m.p Y hXY
  have he := eff_of hV (List.mem_of_getElem? h1) e1
  rw [← e3] at he
  rw [he] at h1
  have := hps_inj hV h1 j1
  subst this
  rw [j2, he] at e2
  exact e2 j3
theorem moms_app2 {c : Ch} : ∀ (A B : List Hp) (G : List Int), moms c G (A ++ B) = moms c G A ++ moms c (force c G A) B
  | [], B, G => rfl
  | h :: A, B, G => by
    show momsH c G h ++ moms c (aftH c G h) (A ++ B) = _
    rw [moms_app2 A B]
    simp [moms, force]
theorem force_app2 (c : Ch) (G : List Int) (A B : List Hp) : force c G (A ++ B) = force c (force c G A) B := by simp [force]
theorem miss_run {c : Ch} {k : Nat} (hk : k < c.ps.length) (hno : ∀ i, (k : Int) ∉ Gk c i) : ∀ i,
    force (less c k) [] (((hps c).take i).filter (fun h => decide (h.p ≠ (k : Int))) |>.map (shH k)) = (Gk c i).map (shI k) ∧
    moms (less c k) [] (((hps c).take i).filter (fun h => decide (h.p ≠ (k : Int))) |>.map (shH k)) = ((moms c [] ((hps c).take i)).filter fun m => decide (m.p ≠ (k : Int))).map (shM k) := by
  intro i
  induction i with
  | zero => exact ⟨rfl, rfl⟩
  | succ i ih =>
    cases hi : (hps c)[i]? with
    | none =>
      have e : (hps c).take (i + 1) = (hps c).take i := by rw [List.take_add_one, hi]; simp
      rw [e, Gk_end hi]; exact ih
    | some h =>
      have e : (hps c).take (i + 1) = (hps c).take i ++ [h] := by rw [List.take_add_one, hi]; rfl
      have hG : NoK k (Gk c i) := fun x hx => ⟨fun e => hno i (by rw [← e]; exact hx), (Gk_in hx).1⟩
      have h0 := (hps_in (List.mem_of_getElem? hi)).1
      have hGk : force c [] ((hps c).take i) = Gk c i := rfl
      have hone : ∀ (c : Ch) (G : List Int) (h : Hp), moms c G [h] = momsH c G h := fun c G h => by
        show momsH c G h ++ [] = _
        rw [List.append_nil]
      rw [e, Gk_succ hi, moms_app2, hGk, List.filter_append, List.filter_append, hone]
      by_cases hp : h.p = (k : Int)
      · have ha : aftH c (Gk c i) h = Gk c i := by
          unfold aftH
          by_cases hb : h.b = true
          · rw [if_pos hb, popd_no (by rw [hp]; exact hno i)]
          · rw [if_neg hb]
            by_cases q : Takes c (Gk c i) h
            · exfalso
              have := hno (i + 1)
              rw [Gk_succ hi] at this
              unfold aftH at this
              rw [if_neg hb, if_pos q] at this
              exact this (by rw [hp]; exact List.mem_cons_self ..)
            · rw [if_neg q]
        have hm : (momsH c (Gk c i) h).filter (fun m => decide (m.p ≠ (k : Int))) = [] := List.filter_eq_nil_iff.2 fun m hm => by
          have : m.p = (k : Int) := by
            unfold momsH at hm
            by_cases hb : h.b = true
            · rw [if_pos hb, if_neg (by rw [hp]; exact hno i), List.mem_singleton] at hm
              rw [hm]; exact hp
            · rw [if_neg hb] at hm
              split at hm <;> (rw [List.mem_singleton] at hm; rw [hm]; exact hp)
          simp [this]
        have hf : List.filter (fun h => decide (h.p ≠ (k : Int))) [h] = [] := by simp [hp]
        rw [ha, hm, hf, List.append_nil, List.append_nil]
        exact ih
      · have hf : List.filter (fun h => decide (h.p ≠ (k : Int))) [h] = [h] := by simp [hp]
        have hm : (momsH c (Gk c i) h).filter (fun m => decide (m.p ≠ (k : Int))) = momsH c (Gk c i) h := List.filter_eq_self.2 fun m hm => by
          rcases momsH_p m hm with e | e
          · simp [e, hp]
          · simp [(hG _ e).1]
        rw [hf, hm, List.map_append, List.map_append, force_app2, moms_app2, ih.1, ih.2]
        refine ⟨aftH_sh hk hG hp h0, ?_⟩
        congr 1
        show moms (less c k) ((Gk c i).map (shI k)) [shH k h] = _
        rw [hone]
        exact momsH_sh hk hG hp h0
theorem takeWhile_filter {t : Int} {q : Hp → Bool} : ∀ {l : List Hp}, SortedH l → (l.filter q).takeWhile (fun h => decide (h.a ≤ t)) = (l.takeWhile fun h => decide (h.a ≤ t)).filter q
  | [], _ => rfl
  | x :: l, hs => by
    by_cases hx : x.a ≤ t
    · rw [List.takeWhile_cons_of_pos (by simpa using hx), List.filter_cons, List.filter_cons]
      split
      · rw [List.takeWhile_cons_of_pos (by simpa using hx), takeWhile_filter hs.2]
      · exact takeWhile_filter hs.2
    · rw [List.takeWhile_cons_of_neg (by simpa using hx)]
      have : ∀ z ∈ (x :: l).filter q, t < z.a := fun z hz => by
        rcases List.mem_cons.1 (List.mem_filter.1 hz).1 with rfl | hz
        · omega
        · have := hs.1 z hz
          unfold ltH at this
          omega
      cases hq : (x :: l).filter q with
      | nil => rfl
      | cons z w =>
        rw [hq] at this
        have := this z (List.mem_cons_self ..)
        rw [List.takeWhile_cons_of_neg (by simp; omega)]
        rfl
/-- if a port that misses is left out -/
theorem miss_law {c : Ch} (hV : ChV c) {m : Mo} (hm : m ∈ turnsV c) (hk : m.k = 2) : ∃ (k : Nat) (p : Pt), m.p = (k : Int) ∧ c.ps[k]? = some p ∧ ChV (less c k) ∧
    turnsV (less c k) = ((turnsV c).filter fun y => decide (y.p ≠ (k : Int))).map (shM k) ∧ ∀ t, withV (less c k) (forceAt (less c k) t) = withV c (forceAt c t) := by
  obtain ⟨i0, h, h1, h2⟩ := moms_mem hm
  have h3 := (momsH_two h2 hk).2.2
  obtain ⟨k, p, g1, g2, _⟩ := hps_port (List.mem_of_getElem? h1)
  have hmk : m.p = (k : Int) := by rw [h3, g2]
  have hno : ∀ i, (k : Int) ∉ Gk c i := fun i => by rw [← hmk]; exact miss_never hV hm hk i
  have hkl := (List.getElem?_eq_some_iff.1 g1).1
  have hrun := miss_run hkl hno
  refine ⟨k, p, hmk, g1, chV_less hV g1, ?_, fun t => ?_⟩
  · unfold turnsV
    rw [hps_less g1]
    have := (hrun (hps c).length).2
    rw [List.take_length] at this
    exact this
  · have hfa : forceAt (less c k) t = (forceAt c t).map (shI k) := by
      unfold forceAt
      rw [hps_less g1, List.takeWhile_map]
      have e : ((hps c).filter fun h => decide (h.p ≠ (k : Int))).takeWhile ((fun h => decide (h.a ≤ t)) ∘ shH k) = ((hps c).filter fun h => decide (h.p ≠ (k : Int))).takeWhile fun h => decide (h.a ≤ t) := rfl
      rw [e, takeWhile_filter (sorted_hps c), upH_take]
      exact (hrun (upH c t)).1
    rw [hfa]
    refine withV_less hkl fun x hx => ?_
    rw [forceAt_Gk] at hx
    exact ⟨fun e => hno _ (by rw [← e]; exact hx), (Gk_in hx).1⟩
end Go.Dial.Chn
