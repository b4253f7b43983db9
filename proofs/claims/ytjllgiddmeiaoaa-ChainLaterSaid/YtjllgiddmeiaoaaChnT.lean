/-
  Plain mathematics of chains: turns, what is in force, spells of carriers.
-/
import Derived.Test.YtjllgiddmeiaoaaChnM
set_option linter.unusedVariables false
set_option linter.unusedSimpArgs false
namespace Go.Dial.Chn
open Go.Dial.Clm Go.Dial.Lif
def noPt : Pt := ⟨⟨0, 0, 0, 0, 0, false⟩, []⟩
def portAt (c : Ch) (i : Int) : Pt := (c.ps[i.toNat]?).getD noPt
/-- the carrier, if ports are in force (the last one first) -/
def withV (c : Ch) : List Int → Int
  | [] => c.f
  | x :: _ => (portAt c x).c.t
/-- a turn, and what is in force after it -/
structure Mo where
  a : Int
  p : Int
  k : Int
  G : List Int
def Takes (c : Ch) (G : List Int) (h : Hp) : Prop := withV c G = (portAt c h.p).c.f ∧ (atL c.life (min h.a 10000000)).s = 1 ∧ (atL c.life (min h.a 10000000)).h = (portAt c h.p).c.h
instance (c : Ch) (G : List Int) (h : Hp) : Decidable (Takes c G h) := by unfold Takes; infer_instance
/-- the turns of a reversal -/
def pops (a p : Int) : List Int → List Mo
  | [] => []
  | x :: G => if p ∈ x :: G then ⟨a, x, if x = p then 3 else 4, G⟩ :: pops a p G else []
def popd (p : Int) : List Int → List Int
  | [] => []
  | x :: G => if p ∈ x :: G then popd p G else x :: G
def momsH (c : Ch) (G : List Int) (h : Hp) : List Mo :=
  if h.b = true then (if h.p ∈ G then pops h.a h.p G else [⟨h.a, h.p, 5, G⟩]) else if Takes c G h then [⟨h.a, h.p, 1, h.p :: G⟩] else [⟨h.a, h.p, 2, G⟩]
def aftH (c : Ch) (G : List Int) (h : Hp) : List Int := if h.b = true then popd h.p G else if Takes c G h then h.p :: G else G
/-- the turns of happenings -/
def moms (c : Ch) : List Int → List Hp → List Mo
  | _, [] => []
  | G, h :: l => momsH c G h ++ moms c (aftH c G h) l
/-- what is in force after happenings -/
def force (c : Ch) (G : List Int) (l : List Hp) : List Int := l.foldl (aftH c) G
def turnsV (c : Ch) : List Mo := moms c [] (hps c)
/-- what is in force at a time -/
def forceAt (c : Ch) (t : Int) : List Int := force c [] ((hps c).takeWhile fun h => decide (h.a ≤ t))
/-- a spell of a carrier -/
structure Hd where
  c : Int
  f : Int
  t : Int
deriving DecidableEq
/-- what is left of the spells (the last one first) at a turn's time -/
def holdO (o : List Hd) (a : Int) : List Hd :=
  match o with
  | [] => []
  | x :: r => if x.f = a then r else ⟨x.c, x.f, a⟩ :: r
/-- the spells after a turn at a time to a carrier -/
def holdW (o : List Hd) (a w : Int) : List Hd :=
  match holdO o a with
  | [] => [⟨w, a, 0⟩]
  | y :: r => if y.c = w then y :: r else ⟨w, a, 0⟩ :: y :: r
def holdS (c : Ch) (o : List Hd) (m : Mo) : List Hd := holdW o m.a (withV c m.G)
theorem holdO_len (o : List Hd) (a : Int) : (holdO o a).length ≤ o.length := by
  unfold holdO
  cases o with
  | nil => simp
  | cons x r => simp only; split <;> simp
theorem holdW_ne (o : List Hd) (a w : Int) : holdW o a w ≠ [] := by
  unfold holdW
  split
  · simp
  · split <;> simp
theorem holdW_len (o : List Hd) (a w : Int) : (holdW o a w).length ≤ o.length + 1 := by
  have := holdO_len o a
  unfold holdW
  split
  · simp
  · rename_i y r h
    rw [h] at this
    split <;> simp only [List.length_cons] at this ⊢ <;> omega
def holdF (c : Ch) (o : List Hd) (l : List Mo) : List Hd := l.foldl (holdS c) o
def closeH : List Hd → List Hd
  | [] => []
  | x :: r => ⟨x.c, x.f, 20000001⟩ :: r
def holdV (c : Ch) : List Hd := (closeH (holdF c [⟨c.f, 0, 0⟩] (turnsV c))).reverse
theorem popd_no {p : Int} {G : List Int} (h : p ∉ G) : popd p G = G := by
  cases G with
  | nil => rfl
  | cons x G => unfold popd; rw [if_neg h]
theorem popd_len (p : Int) (G : List Int) : (popd p G).length ≤ G.length := by
  induction G with
  | nil => simp [popd]
  | cons x G ih => unfold popd; split <;> simp; omega
theorem pops_len (a p : Int) (G : List Int) : (pops a p G).length = G.length - (popd p G).length := by
  induction G with
  | nil => rfl
  | cons x G ih =>
    unfold pops popd
    have := popd_len p G
    split
    · simp only [List.length_cons, ih]; omega
    · simp
theorem popd_mem {p x : Int} {G : List Int} (h : x ∈ popd p G) : x ∈ G := by
  induction G with
  | nil => exact h
  | cons y G ih =>
    unfold popd at h
    split at h
    · exact List.mem_cons_of_mem _ (ih h)
    · exact h
theorem pops_at {a p : Int} {G : List Int} : ∀ m ∈ pops a p G, m.a = a := by
  induction G with
  | nil => intro m h; cases h
  | cons y G ih =>
    intro m h
    unfold pops at h
    split at h
    · rcases List.mem_cons.1 h with rfl | h
      · rfl
      · exact ih m h
    · cases h
theorem momsH_at {c : Ch} {G : List Int} {h : Hp} : ∀ m ∈ momsH c G h, m.a = h.a := by
  intro m hm
  unfold momsH at hm
  split at hm
  · split at hm
    · exact pops_at m hm
    · rw [List.mem_singleton] at hm; rw [hm]
  · split at hm
    · rw [List.mem_singleton] at hm; rw [hm]
    · rw [List.mem_singleton] at hm; rw [hm]
theorem moms_at {c : Ch} : ∀ {l : List Hp} {G : List Int}, ∀ m ∈ moms c G l, ∃ h ∈ l, m.a = h.a
  | [], _, m, h => by cases h
  | x :: l, G, m, h => by
    rcases List.mem_append.1 h with h | h
    · exact ⟨x, List.mem_cons_self .., momsH_at m h⟩
    · obtain ⟨y, h1, h2⟩ := moms_at m h
      exact ⟨y, List.mem_cons_of_mem _ h1, h2⟩
/-- the number of turns: those behind a state, with what is in force -/
theorem moms_len (c : Ch) : ∀ (l : List Hp) (G : List Int), (moms c G l).length ≤ 2 * l.length + G.length
  | [], G => by simp [moms]
  | h :: l, G => by
    have ih := moms_len c l (aftH c G h)
    have : (momsH c G h).length + (aftH c G h).length ≤ G.length + 2 := by
      unfold momsH aftH
      have := pops_len h.a h.p G
      have := popd_len h.p G
      split
      · split
        · omega
        · simp; omega
      · split <;> simp <;> omega
    simp only [moms, List.length_append, List.length_cons]
    omega
theorem force_mem {c : Ch} {x : Int} : ∀ {l : List Hp} {G : List Int}, x ∈ force c G l → x ∈ G ∨ ∃ h ∈ l, h.p = x
  | [], _, h => .inl h
  | y :: l, G, h => by
    have h : x ∈ force c (aftH c G y) l := h
    rcases force_mem h with h | ⟨z, h1, h2⟩
    · unfold aftH at h
      split at h
      · exact .inl (popd_mem h)
      · split at h
        · rcases List.mem_cons.1 h with rfl | h
          · exact .inr ⟨y, List.mem_cons_self .., rfl⟩
          · exact .inl h
        · exact .inl h
    · exact .inr ⟨z, List.mem_cons_of_mem _ h1, h2⟩
theorem mem_hpsFrom {r : Rl} {h : Hp} : ∀ {ps : List Pt} {i : Nat}, h ∈ hpsFrom r i ps → ∃ k p, ps[k]? = some p ∧ h.p = ((i + k : Nat) : Int) ∧ ∃ x ∈ timeline r p.c p.es, hpOf (i + k) x = some h
  | [], _, hh => by cases hh
  | p :: ps, i, hh => by
    rcases List.mem_append.1 hh with hh | hh
    · obtain ⟨x, h1, h2⟩ := List.mem_filterMap.1 hh
      refine ⟨0, p, rfl, ?_, x, h1, h2⟩
      unfold hpOf at h2
      split at h2
      · cases h2; rfl
      · cases h2
    · obtain ⟨k, q, h1, h2, h3⟩ := mem_hpsFrom hh
      exact ⟨k + 1, q, h1, by rw [h2]; congr 1; omega, by rw [show i + (k + 1) = i + 1 + k by omega]; exact h3⟩
theorem mem_isort {x : Hp} : ∀ {l acc : List Hp}, x ∈ l.foldl (fun acc x => ins x acc) acc ↔ x ∈ acc ∨ x ∈ l
  | [], acc => by simp
  | y :: l, acc => by
    rw [List.foldl_cons, mem_isort, mem_ins, List.mem_cons]
    constructor
    · rintro ((h | h) | h)
      · exact .inr (.inl h)
      · exact .inl h
      · exact .inr (.inr h)
    · rintro (h | h | h)
      · exact .inl (.inr h)
      · exact .inl (.inl h)
      · exact .inr h
theorem mem_hps {c : Ch} {h : Hp} : h ∈ hps c ↔ h ∈ hpsFrom c.r 0 c.ps := by
  unfold hps isort
  rw [mem_isort]
  simp
theorem hps_port {c : Ch} {h : Hp} (hh : h ∈ hps c) : ∃ (k : Nat) (p : Pt), c.ps[k]? = some p ∧ h.p = (k : Int) ∧ ∃ x ∈ timeline c.r p.c p.es, hpOf k x = some h := by
  obtain ⟨k, p, h1, h2, h3⟩ := mem_hpsFrom (mem_hps.1 hh)
  rw [Nat.zero_add] at h2 h3
  exact ⟨k, p, h1, h2, h3⟩
theorem hps_len (c : Ch) : (hps c).length ≤ 2 * c.ps.length := by
  unfold hps
  rw [isort_len]
  exact hpsFrom_len c.r c.ps 0
theorem sorted_hps (c : Ch) : SortedH (hps c) := sorted_isort _
/-- happenings in order -/
theorem sorted_le {l : List Hp} (h : SortedH l) {i j : Nat} (hij : i ≤ j) {x y : Hp} (hx : l[i]? = some x) (hy : l[j]? = some y) : x.a ≤ y.a := by
  induction l generalizing i j with
  | nil => cases hx
  | cons z l ih =>
    cases i with
    | zero =>
      cases hx
      cases j with
      | zero => cases hy; omega
      | succ j =>
        have := h.1 y (List.mem_of_getElem? hy)
        unfold ltH at this
        omega
    | succ i =>
      cases j with
      | zero => omega
      | succ j => exact ih h.2 (by omega) hx hy
end Go.Dial.Chn
