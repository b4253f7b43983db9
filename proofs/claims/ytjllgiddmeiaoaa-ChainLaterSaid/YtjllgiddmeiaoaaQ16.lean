/-
  What the plain functions of chains give: ports in force as rows, and the turns.
-/
import Derived.Test.YtjllgiddmeiaoaaQ15
import Derived.Test.YtjllgiddmeiaoaaChnT
set_option linter.unusedVariables false
set_option linter.unusedSimpArgs false
set_option maxRecDepth 100000
namespace Go.Proofs.Ytjllgiddmeiaoaa
open Go Go.Sx Go.Dial.Clm Go.Dial.Lif Go.Dial.Chn
abbrev inL (l : List Int) : Lv := l.map fun i => [AV.int i]
/-- the ports in force, as rows -/
def foL (G : List Int) : Lv := inL G.reverse
theorem foL_nil : foL [] = [] := rfl
theorem foL_len (G : List Int) : (foL G).length = G.length := by simp [foL]
theorem foL_snoc (G : List Int) (x : Int) : foL G ++ [[AV.int x]] = foL (x :: G) := by simp [foL]
theorem foL_drop (G : List Int) (x : Int) : List.take ((((foL (x :: G)).length : Nat) : Int) - 1).toNat (foL (x :: G)) = foL G := by
  rw [foL_len]
  have : ((((x :: G).length : Nat) : Int) - 1).toNat = (foL G).length := by rw [foL_len]; simp
  rw [this, ← foL_snoc]
  simp
theorem cell_top (L : Lv) (y : Int) : cI (L ++ [[AV.int y]]) (((L.length : Int) + 1) - 1) 0 = y := by
  have : (((L.length : Int) + 1) - 1).toNat = L.length := by omega
  simp [cI, cA, this, List.getD, AV.i]
theorem foL_top (G : List Int) (x : Int) : cI (foL (x :: G)) ((((foL (x :: G)).length : Nat) : Int) - 1) 0 = x := by
  have h := cell_top (foL G) x
  rw [foL_snoc] at h
  rw [foL_len] at h ⊢
  exact h
theorem foL_cell {G : List Int} {k : Nat} {x : Int} (h : G.reverse[k]? = some x) : cI (foL G) (k : Int) 0 = x := by
  have : cA (foL G) (k : Int) 0 = ([AV.int x] : List AV).getD 0 (.int 0) := cA_map (by simpa using h)
  simp only [cI, this]; rfl
/-- ports that are there -/
def PIn (c : Ch) (x : Int) : Prop := 0 ≤ x ∧ x < (c.ps.length : Int)
def PInL (c : Ch) (G : List Int) : Prop := ∀ x ∈ G, PIn c x
theorem port_to {c : Ch} {x : Int} (h : PIn c x) : cI (ptL c.ps) x 1 = (portAt c x).c.f ∧ cI (ptL c.ps) x 2 = (portAt c x).c.t ∧ cI (ptL c.ps) x 3 = (portAt c x).c.h := by
  obtain ⟨h1, h2⟩ := h
  obtain ⟨k, rfl⟩ : ∃ k : Nat, x = (k : Int) := ⟨x.toNat, by omega⟩
  obtain ⟨p, hp⟩ := get_lt (l := c.ps) (i := k) (by omega)
  obtain ⟨_, g1, g2, g3, _⟩ := port_cells hp
  have : portAt c (k : Int) = p := by simp [portAt, hp]
  rw [this]
  exact ⟨g1, g2, g3⟩
/-- the carrier with which the number is, as it is reckoned -/
def wT (c : Ch) (L : Lv) {α : Type} (K : Int → Option α) : Option α :=
  (bif (decide (0 < (L.length : Int))) then bif ((decide ((-9223372036854775808) ≤ ((L.length : Int) - 1))) && (decide (((L.length : Int) - 1) ≤ 9223372036854775807))) then bif (decide (0 ≤ ((L.length : Int) - 1))) then bif (decide (((L.length : Int) - 1) < (L.length : Int))) then bif (decide (0 ≤ (cI L ((L.length : Int) - 1) 0))) then bif (decide ((cI L ((L.length : Int) - 1) 0) < ((ptL c.ps).length : Int))) then K (cI (ptL c.ps) (cI L ((L.length : Int) - 1) 0) 2) else none else none else none else none else none else K c.f)
/-- the same behind a copy -/
def wC (c : Ch) (L : Lv) {α : Type} (K : Int → Option α) : Option α :=
  (bif (decide (0 ≤ (L.length : Int))) then bif (decide (((L.length : Int) * 8) ≤ 140737488355328)) then (bif (decide (0 < (L.length : Int))) then bif ((decide ((-9223372036854775808) ≤ ((L.length : Int) - 1))) && (decide (((L.length : Int) - 1) ≤ 9223372036854775807))) then bif (decide (0 ≤ ((L.length : Int) - 1))) then bif (decide (((L.length : Int) - 1) < (L.length : Int))) then bif (decide (0 ≤ (cI L ((L.length : Int) - 1) 0))) then bif (decide ((cI L ((L.length : Int) - 1) 0) < ((ptL c.ps).length : Int))) then K (cI (ptL c.ps) (cI L ((L.length : Int) - 1) 0) 2) else none else none else none else none else none else K c.f) else none else none)
/-- the same behind a port that takes effect -/
def wP (c : Ch) (L : Lv) (p : Int) {α : Type} (K : Int → Option α) : Option α :=
  (bif (decide (((L.length : Int) + 1) * 8 ≤ 140737488355328)) then bif (decide (0 ≤ ((L.length : Int) + 1))) then (bif (decide (0 < ((L.length : Int) + 1))) then bif ((decide ((-9223372036854775808) ≤ (((L.length : Int) + 1) - 1))) && (decide ((((L.length : Int) + 1) - 1) ≤ 9223372036854775807))) then bif (decide (0 ≤ (((L.length : Int) + 1) - 1))) then bif (decide ((((L.length : Int) + 1) - 1) < ((L.length : Int) + 1))) then bif (decide (0 ≤ (cI (L ++ [[AV.int p]]) (((L.length : Int) + 1) - 1) 0))) then bif (decide ((cI (L ++ [[AV.int p]]) (((L.length : Int) + 1) - 1) 0) < ((ptL c.ps).length : Int))) then K (cI (ptL c.ps) (cI (L ++ [[AV.int p]]) (((L.length : Int) + 1) - 1) 0) 2) else none else none else none else none else none else K c.f) else none else none)
/-- the carrier with which the number is, reckoned -/
theorem wth {c : Ch} {G : List Int} (hG : PInL c G) (hl : G.length ≤ 100) {α : Type} (K : Int → Option α) : wT c (foL G) K = K (withV c G) := by
  unfold wT
  cases G with
  | nil => rfl
  | cons x G =>
    have hx := hG x (List.mem_cons_self ..)
    obtain ⟨_, x2, _⟩ := port_to hx
    obtain ⟨q1, q2⟩ := hx
    have e1 : (0 : Int) < ((foL (x :: G)).length : Int) := by rw [foL_len, List.length_cons]; omega
    have e5 : (-9223372036854775808 : Int) ≤ ((foL (x :: G)).length : Int) - 1 := by omega
    have e6 : ((foL (x :: G)).length : Int) - 1 ≤ (9223372036854775807 : Int) := by rw [foL_len, List.length_cons]; simp only [List.length_cons] at hl; omega
    have e7 : (0 : Int) ≤ ((foL (x :: G)).length : Int) - 1 := by omega
    have e8 : ((foL (x :: G)).length : Int) - 1 < ((foL (x :: G)).length : Int) := by omega
    have e9 : x < ((ptL c.ps).length : Int) := by rw [List.length_map]; exact q2
    rw [decide_eq_true e1, cond_true, decide_eq_true e5, decide_eq_true e6, Bool.and_self, cond_true, decide_eq_true e7, cond_true, decide_eq_true e8, cond_true, foL_top, decide_eq_true q1, cond_true, decide_eq_true e9, cond_true, x2]
    rfl
/-- the same behind a copy -/
theorem wthc {c : Ch} {G : List Int} (hG : PInL c G) (hl : G.length ≤ 100) {α : Type} (K : Int → Option α) : wC c (foL G) K = K (withV c G) := by
  unfold wC
  have e12 : (0 : Int) ≤ ((foL G).length : Int) := by omega
  have e13 : ((foL G).length : Int) * 8 ≤ 140737488355328 := by rw [foL_len]; omega
  rw [decide_eq_true e12, cond_true, decide_eq_true e13, cond_true]
  exact wth hG hl K
/-- the same behind a port that takes effect -/
theorem wthp {c : Ch} {G : List Int} {p : Int} (hG : PInL c G) (hl : G.length ≤ 100) (hP : PIn c p) {α : Type} (K : Int → Option α) : wP c (foL G) p K = K (withV c (p :: G)) := by
  unfold wP
  obtain ⟨g1, g2, g3⟩ := port_to hP
  obtain ⟨p1, p2⟩ := hP
  have e0 : (0 : Int) < ((foL G).length : Int) + 1 := by omega
  have e2 : (0 : Int) ≤ ((foL G).length : Int) + 1 := by omega
  have e3 : (((foL G).length : Int) + 1) * 8 ≤ 140737488355328 := by rw [foL_len]; omega
  have e5 : (-9223372036854775808 : Int) ≤ (((foL G).length : Int) + 1) - 1 := by omega
  have e6 : (((foL G).length : Int) + 1) - 1 ≤ (9223372036854775807 : Int) := by rw [foL_len]; omega
  have e7 : (0 : Int) ≤ (((foL G).length : Int) + 1) - 1 := by omega
  have e8 : (((foL G).length : Int) + 1) - 1 < ((foL G).length : Int) + 1 := by omega
  have e9 : p < ((ptL c.ps).length : Int) := by rw [List.length_map]; exact p2
  rw [decide_eq_true e3, cond_true, decide_eq_true e2, cond_true, decide_eq_true e0, cond_true, decide_eq_true e5, decide_eq_true e6, Bool.and_self, cond_true, decide_eq_true e7, cond_true, decide_eq_true e8, cond_true, cell_top, decide_eq_true p1, cond_true, decide_eq_true e9, cond_true, g2]
  rfl
abbrev tnR (m : Mo) : List AV := [.int m.a, .int m.p, .int m.k]
abbrev tnL (l : List Mo) : Lv := l.map tnR
theorem tnL_snoc (O : List Mo) (a p k : Int) (G : List Int) : tnL O ++ [[AV.int a, AV.int p, AV.int k]] = tnL (O ++ [⟨a, p, k, G⟩]) := by simp
section
variable (n : Nat) (go0 : chain_Turns_s0 → Option chain_Turns_a) (go1 : chain_Turns_s1 → Option chain_Turns_a) (c : Ch) (v9 : Lv) (i : Int) (O : List Mo) (G : List Int)
  (hi : 0 ≤ i ∧ i ≤ 100) (hO : O.length ≤ 100) (hG : PInL c G) (hl : G.length ≤ 100) (hP : PIn c (cI v9 i 1))
include hi hO
/-- a turn is yielded, and the next happening -/
theorem tn_go (w a p kd : Int) (L : Lv) (G : List Int) : (bif (decide ((((tnL O).length : Int) + 1) * 24 ≤ 140737488355328)) then bif ((decide ((-9223372036854775808) ≤ (i + 1))) && (decide ((i + 1) ≤ 9223372036854775807))) then go0 (w, (i + 1), ((tnL O) ++ [[(AV.int a), (AV.int p), (AV.int kd)]]), L) else none else none) = go0 (w, i + 1, tnL (O ++ [⟨a, p, kd, G⟩]), L) := by
  have e4 : (((tnL O).length : Int) + 1) * 24 ≤ 140737488355328 := by rw [List.length_map]; omega
  have e10 : (-9223372036854775808 : Int) ≤ i + 1 := by omega
  have e11 : i + 1 ≤ (9223372036854775807 : Int) := by omega
  rw [decide_eq_true e4, cond_true, decide_eq_true e10, decide_eq_true e11, Bool.and_self, cond_true, tnL_snoc _ _ _ _ G]
include hG hl
theorem tn_tail (a p kd : Int) : wC c (foL G) (fun w => (bif (decide ((((tnL O).length : Int) + 1) * 24 ≤ 140737488355328)) then bif ((decide ((-9223372036854775808) ≤ (i + 1))) && (decide ((i + 1) ≤ 9223372036854775807))) then go0 (w, (i + 1), ((tnL O) ++ [[(AV.int a), (AV.int p), (AV.int kd)]]), foL G) else none else none)) = go0 (withV c G, i + 1, tnL (O ++ [⟨a, p, kd, G⟩]), foL G) :=
  (wthc hG hl _).trans (tn_go go0 i O hi hO _ a p kd _ G)
include hP
/-- a port takes effect, or misses -/
theorem tn8 (s h : Int) : chain_Turns_8 n go0 go1 c.f (ptL c.ps) v9 i (tnL O) (foL G) s h =
    if s = 1 ∧ h = (portAt c (cI v9 i 1)).c.h then go0 (withV c (cI v9 i 1 :: G), i + 1, tnL (O ++ [⟨cI v9 i 0, cI v9 i 1, 1, cI v9 i 1 :: G⟩]), foL (cI v9 i 1 :: G)) else go0 (withV c G, i + 1, tnL (O ++ [⟨cI v9 i 0, cI v9 i 1, 2, G⟩]), foL G) := by
  obtain ⟨g1, g2, g3⟩ := port_to hP
  unfold chain_Turns_8
  rw [g3]
  by_cases k1 : s = 1
  · by_cases k2 : h = (portAt c (cI v9 i 1)).c.h
    · rw [if_pos ⟨k1, k2⟩, decide_eq_true k1, cond_true, decide_eq_true k2, cond_true]
      refine (wthp hG hl hP (fun w => (bif (decide ((((tnL O).length : Int) + 1) * 24 ≤ 140737488355328)) then bif ((decide ((-9223372036854775808) ≤ (i + 1))) && (decide ((i + 1) ≤ 9223372036854775807))) then go0 (w, (i + 1), ((tnL O) ++ [[(AV.int (cI v9 i 0)), (AV.int (cI v9 i 1)), (AV.int 1)]]), foL G ++ [[AV.int (cI v9 i 1)]]) else none else none))).trans ?_
      refine (tn_go go0 i O hi hO _ _ _ _ _ (cI v9 i 1 :: G)).trans ?_
      rw [foL_snoc]
    · rw [if_neg (fun h => k2 h.2), decide_eq_true k1, cond_true, decide_eq_false k2, cond_false]
      exact tn_tail go0 c i O G hi hO hG hl _ _ 2
  · rw [if_neg (fun h => k1 h.1), decide_eq_false k1, cond_false]
    exact tn_tail go0 c i O G hi hO hG hl _ _ 2
theorem tn7 (s h : Int) : chain_Turns_7 n go0 go1 c.f (ptL c.ps) v9 (withV c G) i (tnL O) (foL G) s h =
    if withV c G = (portAt c (cI v9 i 1)).c.f ∧ s = 1 ∧ h = (portAt c (cI v9 i 1)).c.h then go0 (withV c (cI v9 i 1 :: G), i + 1, tnL (O ++ [⟨cI v9 i 0, cI v9 i 1, 1, cI v9 i 1 :: G⟩]), foL (cI v9 i 1 :: G)) else go0 (withV c G, i + 1, tnL (O ++ [⟨cI v9 i 0, cI v9 i 1, 2, G⟩]), foL G) := by
  obtain ⟨g1, g2, g3⟩ := port_to hP
  unfold chain_Turns_7
  rw [g1, tn8 n go0 go1 c v9 i O G hi hO hG hl hP]
  by_cases k : withV c G = (portAt c (cI v9 i 1)).c.f
  · rw [decide_eq_true k, cond_true]; simp only [k, true_and]
  · rw [decide_eq_false k, cond_false, if_neg (fun h => k h.1)]
    exact tn_tail go0 c i O G hi hO hG hl _ _ 2
end
/-- a state of the loop that takes ports out of force -/
theorem pop_in {B G' : List Int} {p : Int} {k : Nat} (hk : (B ++ G').reverse[k]? = some p) (hn : ∀ j, j < k → (B ++ G').reverse[j]? ≠ some p) : p ∈ G' ↔ k < G'.length := by
  rw [List.reverse_append] at hk hn
  constructor
  · intro h
    rcases Nat.lt_or_ge k G'.length with h1 | h1
    · exact h1
    · obtain ⟨j, hj, he⟩ := List.getElem_of_mem (List.mem_reverse.2 h)
      have hj' : j < G'.length := by simpa using hj
      refine absurd ?_ (hn j (by omega))
      rw [List.getElem?_append_left hj, List.getElem?_eq_getElem hj, he]
  · intro h
    rw [List.getElem?_append_left (by simpa using h)] at hk
    exact List.mem_reverse.1 (List.mem_of_getElem? hk)
end Go.Proofs.Ytjllgiddmeiaoaa
