/-
  Plain mathematics of lives: lines, events, what is possible, runs, the line at a time, stays.
-/
import Derived.Lib.Hide
set_option linter.unusedVariables false
set_option linter.unusedSimpArgs false
namespace Go.Dial.Lif

structure Ev where
  k : Int
  a : Int
  h : Int
deriving DecidableEq
structure Ln where
  s : Int
  h : Int
  e : Int
  t : Int
deriving DecidableEq
structure St where
  h : Int
  e : Int
  f : Int
  t : Int
deriving DecidableEq

def first : Ln := ⟨0, -1, 0, 0⟩
def zero : Ln := ⟨0, 0, 0, 0⟩
def Vld (l : Ln) : Prop := 0 ≤ l.s ∧ l.s ≤ 3 ∧ 0 ≤ l.e ∧ l.e ≤ 1000 ∧ 0 ≤ l.t ∧ l.t ≤ 10000000 ∧ (l.s = 0 → l.h = -1) ∧ (l.s ≠ 0 → 0 ≤ l.h ∧ l.h ≤ 63 ∧ 1 ≤ l.e)
instance (l : Ln) : Decidable (Vld l) := by unfold Vld; infer_instance
def vldB (l : Ln) : Bool := decide (Vld l)
def Named (k : Int) : Prop := k = 1 ∨ k = 2
instance (k : Int) : Decidable (Named k) := by unfold Named; infer_instance
def Frm (e : Ev) : Prop := 1 ≤ e.k ∧ e.k ≤ 7 ∧ 0 ≤ e.a ∧ e.a ≤ 10000000 ∧ (Named e.k → 0 ≤ e.h ∧ e.h ≤ 63) ∧ (¬ Named e.k → e.h = -1)
instance (e : Ev) : Decidable (Frm e) := by unfold Frm; infer_instance
def frmB (e : Ev) : Bool := decide (Frm e)
def Pos (l : Ln) (e : Ev) : Prop := l.t ≤ e.a ∧ ((e.k = 1 ∧ l.s = 0 ∧ l.e < 1000) ∨ (e.k = 2 ∧ l.s = 1 ∧ l.h ≠ e.h ∧ l.e < 1000) ∨ (e.k = 3 ∧ l.s = 1) ∨ (e.k = 4 ∧ l.s = 2) ∨ (e.k = 5 ∧ (l.s = 1 ∨ l.s = 2)) ∨ (e.k = 6 ∧ l.s = 3) ∨ (e.k = 7 ∧ l.s = 3 ∧ l.t + 2592000 ≤ e.a))
instance (l : Ln) (e : Ev) : Decidable (Pos l e) := by unfold Pos; infer_instance
def nxt (l : Ln) (e : Ev) : Ln :=
  if e.k = 1 ∨ e.k = 2 then ⟨1, e.h, l.e + 1, e.a⟩ else if e.k = 3 then ⟨2, l.h, l.e, e.a⟩ else if e.k = 4 ∨ e.k = 6 then ⟨1, l.h, l.e, e.a⟩ else if e.k = 5 then ⟨3, l.h, l.e, e.a⟩ else ⟨0, -1, l.e, e.a⟩
def Ok (l : Ln) (e : Ev) : Prop := Vld l ∧ Frm e ∧ Pos l e
instance (l : Ln) (e : Ev) : Decidable (Ok l e) := by unfold Ok; infer_instance
/-- what Step returns -/
def stepR (l : Ln) (e : Ev) : Ln × Int := if Ok l e then (nxt l e, 0) else (zero, 140)
theorem stepR_ok {l : Ln} {e : Ev} (h : Ok l e) : stepR l e = (nxt l e, 0) := if_pos h
theorem stepR_no {l : Ln} {e : Ev} (h : ¬ Ok l e) : stepR l e = (zero, 140) := if_neg h
theorem vld_first : Vld first := by decide
theorem nxt_vld {l : Ln} {e : Ev} (h : Ok l e) : Vld (nxt l e) := by
  obtain ⟨⟨h1, h2, h3, h4, h5, h6, h7, h8⟩, ⟨f1, f2, f3, f4, f5, f6⟩, p1, p2⟩ := h
  unfold Named at f5 f6
  unfold nxt
  by_cases c1 : e.k = 1 ∨ e.k = 2
  · rw [if_pos c1]; have := f5 c1; refine ⟨?_, ?_, ?_, ?_, ?_, ?_, ?_, ?_⟩ <;> simp only <;> omega
  rw [if_neg c1]
  by_cases c3 : e.k = 3
  · rw [if_pos c3]; have := h8 (by omega); refine ⟨?_, ?_, ?_, ?_, ?_, ?_, ?_, ?_⟩ <;> simp only <;> omega
  rw [if_neg c3]
  by_cases c4 : e.k = 4 ∨ e.k = 6
  · rw [if_pos c4]; have := h8 (by omega); refine ⟨?_, ?_, ?_, ?_, ?_, ?_, ?_, ?_⟩ <;> simp only <;> omega
  rw [if_neg c4]
  by_cases c5 : e.k = 5
  · rw [if_pos c5]; have := h8 (by omega); refine ⟨?_, ?_, ?_, ?_, ?_, ?_, ?_, ?_⟩ <;> simp only <;> omega
  rw [if_neg c5]
  refine ⟨?_, ?_, ?_, ?_, ?_, ?_, ?_, ?_⟩ <;> simp <;> omega
theorem nxt_t (l : Ln) (e : Ev) : (nxt l e).t = e.a := by unfold nxt; split; rfl; split; rfl; split; rfl; split <;> rfl

/-- the line after as many events as are possible, and their number -/
def runF : Ln → List Ev → Ln × Nat
  | l, [] => (l, 0)
  | l, e :: es => if Ok l e then ((runF (nxt l e) es).1, (runF (nxt l e) es).2 + 1) else (l, 0)
theorem runF_le (l : Ln) (es : List Ev) : (runF l es).2 ≤ es.length := by
  induction es generalizing l with
  | nil => simp [runF]
  | cons e es ih => unfold runF; split <;> simp; exact ih _
/-- all events are possible -/
def All : Ln → List Ev → Prop
  | _, [] => True
  | l, e :: es => Ok l e ∧ All (nxt l e) es
def fin (l : Ln) (es : List Ev) : Ln := es.foldl nxt l
theorem runF_all {l : Ln} {es : List Ev} : (runF l es).2 = es.length ↔ All l es := by
  induction es generalizing l with
  | nil => simp [runF, All]
  | cons e es ih =>
    unfold runF All
    by_cases h : Ok l e
    · rw [if_pos h]; simp only [List.length_cons, Nat.add_right_cancel_iff, ih, h, true_and]
    · rw [if_neg h]; simp [h]
theorem runF_fin {l : Ln} {es : List Ev} (h : All l es) : runF l es = (fin l es, es.length) := by
  induction es generalizing l with
  | nil => rfl
  | cons e es ih =>
    obtain ⟨h1, h2⟩ := h
    rw [runF, if_pos h1, ih h2]; rfl
theorem runF_vld {l : Ln} (hl : Vld l) (es : List Ev) : Vld (runF l es).1 := by
  induction es generalizing l with
  | nil => exact hl
  | cons e es ih =>
    unfold runF
    by_cases h : Ok l e
    · rw [if_pos h]; exact ih (nxt_vld h)
    · rw [if_neg h]; exact hl
theorem runF_app {l : Ln} {a b : List Ev} (h : All l a) : runF l (a ++ b) = ((runF (fin l a) b).1, a.length + (runF (fin l a) b).2) := by
  induction a generalizing l with
  | nil => simp [fin]
  | cons e a ih =>
    obtain ⟨h1, h2⟩ := h
    rw [List.cons_append, runF, if_pos h1, ih h2]
    simp [fin]; omega
theorem runF_no {l : Ln} {a b : List Ev} (h : ¬ All l a) : runF l (a ++ b) = runF l a := by
  induction a generalizing l with
  | nil => exact absurd trivial h
  | cons e a ih =>
    rw [List.cons_append, runF, runF]
    by_cases h1 : Ok l e
    · rw [if_pos h1, if_pos h1, ih (fun h2 => h ⟨h1, h2⟩)]
    · rw [if_neg h1, if_neg h1]
theorem all_app {l : Ln} {a b : List Ev} : All l (a ++ b) ↔ All l a ∧ All (fin l a) b := by
  induction a generalizing l with
  | nil => simp [All, fin]
  | cons e a ih => simp only [List.cons_append, All, ih, fin, List.foldl_cons, and_assoc]
theorem fin_app (l : Ln) (a b : List Ev) : fin l (a ++ b) = fin (fin l a) b := by simp [fin]
theorem all_vld {l : Ln} {es : List Ev} (hl : Vld l) (h : All l es) : Vld (fin l es) := by
  have := runF_vld hl es
  rwa [runF_fin h] at this
theorem all_take {l : Ln} {es : List Ev} (h : All l es) (k : Nat) : All l (es.take k) := by
  rw [← List.take_append_drop k es, all_app] at h; exact h.1

/-- what Run returns -/
def runR (es : List Ev) : (Ln × Nat) × Int := if (runF first (es.take 40)).2 = es.length then (((runF first (es.take 40)).1, es.length), 0) else ((zero, (runF first (es.take 40)).2), 140)
def Life (es : List Ev) : Prop := All first es ∧ es.length ≤ 40
theorem life_iff {es : List Ev} : (runF first (es.take 40)).2 = es.length ↔ Life es := by
  constructor
  · intro h
    have h1 := runF_le first (es.take 40)
    have h2 : es.length ≤ 40 := by simp at h1; omega
    rw [List.take_of_length_le h2] at h
    exact ⟨runF_all.1 h, h2⟩
  · rintro ⟨h1, h2⟩
    rw [List.take_of_length_le h2]; exact runF_all.2 h1
instance (es : List Ev) : Decidable (Life es) := decidable_of_iff _ life_iff
theorem runR_life {es : List Ev} (h : Life es) : runR es = ((fin first es, es.length), 0) := by
  rw [runR, if_pos (life_iff.2 h), List.take_of_length_le h.2, runF_fin h.1]
theorem runR_no {es : List Ev} (h : ¬ Life es) : runR es = ((zero, (runF first (es.take 40)).2), 140) := by
  rw [runR, if_neg (fun e => h (life_iff.1 e))]
theorem life_take {es : List Ev} (h : Life es) (k : Nat) : Life (es.take k) := ⟨all_take h.1 k, by have := h.2; simp; omega⟩

/-- times ascend -/
theorem all_times {l : Ln} {es : List Ev} (h : All l es) : ∀ e ∈ es, l.t ≤ e.a := by
  induction es generalizing l with
  | nil => simp
  | cons x es ih =>
    obtain ⟨h1, h2⟩ := h
    intro e he
    have hx := h1.2.2.1
    rcases List.mem_cons.1 he with rfl | he
    · exact hx
    · have := ih h2 e he; rw [nxt_t] at this; omega
theorem all_sorted {l : Ln} {es : List Ev} (h : All l es) {i j : Nat} (hij : i ≤ j) (hj : j < es.length) : (es[i]'(by omega)).a ≤ es[j].a := by
  induction es generalizing l i j with
  | nil => simp at hj
  | cons x es ih =>
    obtain ⟨h1, h2⟩ := h
    cases i with
    | zero =>
      cases j with
      | zero => exact Int.le_refl _
      | succ j =>
        have := all_times h2 (es[j]'(by simpa using hj)) (List.getElem_mem _)
        rw [nxt_t] at this
        simpa using this
    | succ i =>
      cases j with
      | zero => omega
      | succ j => simpa using ih h2 (i := i) (j := j) (by omega) (by simpa using hj)
theorem all_frm {l : Ln} {es : List Ev} (h : All l es) : ∀ e ∈ es, Frm e := by
  induction es generalizing l with
  | nil => simp
  | cons x es ih =>
    obtain ⟨h1, h2⟩ := h
    intro e he
    rcases List.mem_cons.1 he with rfl | he
    · exact h1.2.1
    · exact ih h2 e he

/-- how many events are not later than t, counted from the first one on -/
def upto (es : List Ev) (t : Int) : Nat := (es.takeWhile fun e => decide (e.a ≤ t)).length
theorem upto_le (es : List Ev) (t : Int) : upto es t ≤ es.length := by
  unfold upto; exact List.Sublist.length_le (List.takeWhile_sublist _)
theorem upto_take (es : List Ev) (t : Int) : es.takeWhile (fun e => decide (e.a ≤ t)) = es.take (upto es t) := by
  unfold upto
  exact List.prefix_iff_eq_take.1 (List.takeWhile_prefix _)
theorem upto_lt {es : List Ev} {t : Int} {i : Nat} (h : i < upto es t) : (es[i]'(Nat.lt_of_lt_of_le h (upto_le es t))).a ≤ t := by
  have h1 : i < (es.takeWhile fun e => decide (e.a ≤ t)).length := h
  have h2 := List.all_eq_true.1 List.all_takeWhile _ (List.getElem_mem h1)
  have h3 : (es.takeWhile fun e => decide (e.a ≤ t))[i] = es[i]'(Nat.lt_of_lt_of_le h (upto_le es t)) := by
    have := (List.takeWhile_prefix (fun e : Ev => decide (e.a ≤ t)) (l := es))
    exact List.IsPrefix.getElem this h1
  rw [h3] at h2; simpa using h2
theorem upto_at {es : List Ev} {t : Int} (h : upto es t < es.length) : t < (es[upto es t]).a := by
  induction es with
  | nil => simp at h
  | cons x es ih =>
    by_cases hx : x.a ≤ t
    · have e : upto (x :: es) t = upto es t + 1 := by simp [upto, hx]
      simp only [e] at h ⊢
      simpa using ih (by simpa using h)
    · have e : upto (x :: es) t = 0 := by simp [upto, hx]
      simp only [e]
      simpa using hx
theorem upto_uniq {es : List Ev} {t : Int} {k : Nat} (hk : k ≤ es.length) (h1 : ∀ i (hi : i < k), (es[i]'(by omega)).a ≤ t) (h2 : ∀ hi : k < es.length, t < es[k].a) : k = upto es t := by
  have hle := upto_le es t
  rcases Nat.lt_trichotomy k (upto es t) with h | h | h
  · have := h2 (by omega)
    have := upto_lt h
    omega
  · exact h
  · have := upto_at (es := es) (t := t) (by omega)
    have := h1 _ h
    omega
/-- the line at a time -/
def atL (es : List Ev) (t : Int) : Ln := fin first (es.take (upto es t))
/-- what At returns -/
def OkAt (es : List Ev) (t : Int) : Prop := Life es ∧ 0 ≤ t ∧ t ≤ 10000000
instance (es : List Ev) (t : Int) : Decidable (OkAt es t) := by unfold OkAt; infer_instance
def atR (es : List Ev) (t : Int) : Ln × Int := if OkAt es t then (atL es t, 0) else (zero, 140)
def Used (l : Ln) : Prop := l.s = 1 ∨ l.s = 2
instance (l : Ln) : Decidable (Used l) := by unfold Used; infer_instance
def usedB (l : Ln) : Bool := decide (Used l)
theorem vldB_iff {l : Ln} : vldB l = true ↔ Vld l := decide_eq_true_iff
theorem frmB_iff {e : Ev} : frmB e = true ↔ Frm e := decide_eq_true_iff
theorem usedB_iff {l : Ln} : usedB l = true ↔ Used l := decide_eq_true_iff
/-- what Keep returns -/
def OkKeep (es : List Ev) (t : Int) : Prop := OkAt es t ∧ Used (atL es t)
instance (es : List Ev) (t : Int) : Decidable (OkKeep es t) := by unfold OkKeep; infer_instance
def keepR (es : List Ev) (t : Int) : (Int × Int) × Int := if OkKeep es t then (((atL es t).e, t), 0) else ((0, 0), 140)
/-- what Fate returns -/
def OkFate (es : List Ev) (me ma t : Int) : Prop := OkKeep es ma ∧ (atL es ma).e = me ∧ ma ≤ t ∧ t ≤ 10000000
instance (es : List Ev) (me ma t : Int) : Decidable (OkFate es me ma t) := by unfold OkFate; infer_instance
def fateV (l : Ln) (me : Int) : Int × Int := if l.s = 0 ∨ l.e ≠ me then (3, -1) else if l.s = 1 then (1, l.h) else (2, -1)
def fateR (es : List Ev) (me ma t : Int) : (Int × Int) × Int := if OkFate es me ma t then (fateV (atL es t) me, 0) else ((0, 0), 140)

theorem atL_vld {es : List Ev} (h : Life es) (t : Int) : Vld (atL es t) := all_vld vld_first (all_take h.1 _)

/-- one more line behind stays -/
def stS (out : List St) (l : Ln) (to : Int) : List St :=
  if Used l ∧ l.t ≠ to then
    match out.getLast? with
    | some y => if y.e = l.e ∧ y.t = l.t then out.dropLast ++ [⟨y.h, y.e, y.f, to⟩] else out ++ [⟨l.h, l.e, l.t, to⟩]
    | none => [⟨l.h, l.e, l.t, to⟩]
  else out
theorem stS_no {out : List St} {l : Ln} {to : Int} (h : ¬ (Used l ∧ l.t ≠ to)) : stS out l to = out := if_neg h
theorem stS_nil {l : Ln} {to : Int} (h : Used l ∧ l.t ≠ to) : stS [] l to = [⟨l.h, l.e, l.t, to⟩] := by simp [stS, h]
theorem stS_snoc {out : List St} {y : St} {l : Ln} {to : Int} (h : Used l ∧ l.t ≠ to) : stS (out ++ [y]) l to = if y.e = l.e ∧ y.t = l.t then out ++ [⟨y.h, y.e, y.f, to⟩] else (out ++ [y]) ++ [⟨l.h, l.e, l.t, to⟩] := by simp [stS, h]
theorem stS_len (out : List St) (l : Ln) (to : Int) : (stS out l to).length ≤ out.length + 1 := by
  by_cases h : Used l ∧ l.t ≠ to
  · rcases List.eq_nil_or_concat out with rfl | ⟨o, y, rfl⟩
    · rw [stS_nil h]; simp
    · rw [List.concat_eq_append, stS_snoc h]; split <;> simp
  · rw [stS_no h]; omega
/-- when the line after the event i ends -/
def toOf (es : List Ev) (i : Nat) : Int := if h : i < es.length then es[i].a else 10000001
/-- the stays of the first k events' lines -/
def staysK (es : List Ev) : Nat → List St
  | 0 => []
  | k + 1 => stS (staysK es k) (fin first (es.take (k + 1))) (toOf es (k + 1))
theorem staysK_len (es : List Ev) (k : Nat) : (staysK es k).length ≤ k := by
  induction k with
  | zero => simp [staysK]
  | succ k ih => have := stS_len (staysK es k) (fin first (es.take (k + 1))) (toOf es (k + 1)); rw [staysK]; omega
def staysL (es : List Ev) : List St := staysK es es.length
/-- what Stays returns -/
def staysR (es : List Ev) : List St × Int := if Life es then (staysL es, 0) else ([], 140)

/-- the lines that the iterator hands over, with the index of the event -/
def linesA : Int → Ln → List Ev → List (Int × Ln)
  | _, _, [] => []
  | i, l, e :: es => if Ok l e then (i, nxt l e) :: linesA (i + 1) (nxt l e) es else []
def linesL (es : List Ev) : List (Int × Ln) := (-1, first) :: linesA 0 first es
theorem linesA_len (i : Int) (l : Ln) (es : List Ev) : (linesA i l es).length = (runF l es).2 := by
  induction es generalizing i l with
  | nil => rfl
  | cons e es ih => unfold linesA runF; split <;> simp [ih]
theorem linesA_get {i : Int} {l : Ln} {es : List Ev} {k : Nat} (h : k < (linesA i l es).length) : (linesA i l es)[k] = (i + k, fin l (es.take (k + 1))) := by
  induction es generalizing i l k with
  | nil => simp [linesA] at h
  | cons e es ih =>
    unfold linesA at h ⊢
    by_cases ho : Ok l e
    · simp only [if_pos ho] at h ⊢
      cases k with
      | zero => simp [fin]
      | succ k =>
        have := ih (i := i + 1) (l := nxt l e) (k := k) (by simpa using h)
        simp only [List.getElem_cons_succ, this, List.take_succ_cons]
        simp [fin]; omega
    · simp only [if_neg ho] at h
      simp at h
theorem runF_1 (l : Ln) (es : List Ev) : (runF l es).1 = fin l (es.take (runF l es).2) := by
  induction es generalizing l with
  | nil => rfl
  | cons e es ih =>
    unfold runF
    by_cases h : Ok l e
    · simp only [if_pos h, ih (nxt l e), List.take_succ_cons]; rfl
    · simp [if_neg h, fin]
end Go.Dial.Lif
