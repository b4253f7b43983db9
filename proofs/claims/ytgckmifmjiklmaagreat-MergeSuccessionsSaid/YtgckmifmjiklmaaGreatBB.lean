/-
  Joined: Bd Bw Bf Ma Mb.
-/
import Derived.Test.YtgckmifmjiklmaaGreatD5
import Derived.Test.YtgckmifmjiklmaaGreatBA
import Derived.Test.YtgckmifmjiklmaaGreatBlkA
import Derived.Test.YtgckmifmjiklmaaGreatMrgA
set_option linter.unusedVariables false
set_option linter.unusedSimpArgs false
set_option maxRecDepth 100000
namespace Go.Proofs.YtgckmifmjiklmaaGreat
open Go Go.Sx Go.Dial.Blk
theorem block_Valid_v (n : Nat) (l : List B3) (hn : 41 < n) : block_Valid n (bL l) = some (vldB l) := by
  unfold block_Valid block_Valid_1
  by_cases h3 : l.length ≤ 40
  · have c3 : (l.length : Int) ≤ (40 : Int) := by omega
    have e3 : vldB l = ascB 0 (-1) l := by simp [vldB, h3]
    simp only [List.length_map, c3, decide_true, cond_true, e3]
    refine iterF_ind (fun s => ∃ (i : Nat) (z e k : Int), s = ((i : Int), z, e, k) ∧ i ≤ l.length ∧ ascB 0 (-1) l = ascB e k (l.drop i)) (fun s => l.length - s.1.toNat) _ ?_ n _ ⟨0, 0, 0, -1, rfl, by omega, by simp⟩ (by simp; omega)
    rintro _ go ⟨i, z, e, k, rfl, hi, hE⟩ ih
    simp only at ih ⊢
    unfold block_Valid_2
    by_cases hlt : i < l.length
    · obtain ⟨b, hb⟩ := get_lt hlt
      obtain ⟨g0, g1, g2⟩ := bcell hb
      have c1 : (i : Int) < (l.length : Int) := by omega
      have c2 : (0 : Int) ≤ (i : Int) := by omega
      have c4 : (-9223372036854775808 : Int) ≤ (i : Int) + 1 := by omega
      have c5 : (i : Int) + 1 ≤ (9223372036854775807 : Int) := by omega
      simp only [g0, g1, g2, List.length_map, c1, c2, c4, c5, decide_true, cond_true, Bool.and_self, Bool.not_true]
      rw [bdrop hb, ascB] at hE
      have hgo : (0 ≤ b.f ∧ b.f < b.t ∧ b.t ≤ 100000000 ∧ 0 ≤ b.c ∧ b.c ≤ 7 ∧ e ≤ b.f ∧ (b.f = e → b.c ≠ k)) → go ((i : Int) + 1, b.f, b.t, b.c) = some (ascB 0 (-1) l) := fun hv => ih _ ⟨i + 1, b.f, b.t, b.c, by simp, by omega, by rw [hE, decide_eq_true hv, Bool.true_and]⟩ (by first | omega | (simp only; omega))
      by_cases hv : (0 ≤ b.f ∧ b.f < b.t ∧ b.t ≤ 100000000 ∧ 0 ≤ b.c ∧ b.c ≤ 7 ∧ e ≤ b.f ∧ (b.f = e → b.c ≠ k))
      · rw [hgo hv]; grind
      · have hf : ascB 0 (-1) l = false := by rw [hE, decide_eq_false hv, Bool.false_and]
        rw [hf]; grind
    · have h0 : i = l.length := by omega
      have c1 : ¬ (i : Int) < (l.length : Int) := by omega
      simp only [List.length_map, c1, decide_false, cond_false]
      rw [hE, h0, List.drop_length]; rfl
  · have c3 : ¬ (l.length : Int) ≤ (40 : Int) := by omega
    have e3 : vldB l = false := by simp [vldB, h3]
    simp only [List.length_map, c3, decide_false, cond_false, e3]
theorem block_pieces_1_v (n : Nat) (l : List B3) (k : Int) (hn : l.length < n) : block_pieces_1 n (bL l) k = some (bL (at_ l k).1, (at_ l k).2.1, (at_ l k).2.2) := by
  unfold block_pieces_1 block_pieces_1_1
  refine iterF_ind (fun s => ∃ m : List B3, s = bL m ∧ at_ m k = at_ l k) (fun s => s.length) _ ?_ n _ ⟨l, rfl, rfl⟩ (by simp; omega)
  rintro _ go ⟨m, rfl, hE⟩ ih
  unfold block_pieces_1_2
  cases m with
  | nil =>
    rw [← hE]
    simp [at_]
  | cons b m =>
    have hb : (b :: m)[0]? = some b := rfl
    obtain ⟨g0, g1, g2⟩ := bcell hb
    have c1 : (0 : Int) < ((bL (b :: m)).length : Int) := by simp
    have c2 : (1 : Int) ≤ ((bL (b :: m)).length : Int) := by omega
    have c3 : ((bL (b :: m)).length : Int) ≤ ((bL (b :: m)).length : Int) := Int.le_refl _
    have c4 : ¬ ((bL (b :: m)).length : Int) = 0 := by omega
    have hd : List.drop ((1 : Int)).toNat (List.take (((bL (b :: m)).length : Int)).toNat (bL (b :: m))) = bL m := by
      rw [show (((bL (b :: m)).length : Int)).toNat = (bL (b :: m)).length from by omega, List.take_length]; rfl
    have g0 : cI (bL (b :: m)) 0 0 = b.f := g0
    have g1 : cI (bL (b :: m)) 0 1 = b.t := g1
    have g2 : cI (bL (b :: m)) 0 2 = b.c := g2
    rw [decide_eq_true c1, cond_true, decide_eq_true c2, cond_true, decide_eq_true c3, cond_true, decide_eq_false c4, cond_false, hd, g0, g1, g2]
    rw [at_] at hE
    by_cases h1 : b.t ≤ k
    · rw [if_pos h1] at hE
      rw [decide_eq_true h1, cond_true]
      exact ih _ ⟨m, rfl, hE⟩ (by simp)
    · rw [if_neg h1] at hE
      rw [decide_eq_false h1, cond_false]
      by_cases h2 : k < b.f
      · rw [if_pos h2] at hE; rw [decide_eq_true h2, cond_true, ← hE]
      · rw [if_neg h2] at hE; rw [decide_eq_false h2, cond_false, ← hE]
/-- a range laid behind a list of blocks: as the program does it -/
def growP {α : Type} (go : Lv → Option α) (v6 : Lv) (P Q y : Int) : Option α :=
  (bif (decide (0 < (v6.length : Int))) then bif ((decide ((-9223372036854775808) ≤ ((v6.length : Int) - 1))) && (decide (((v6.length : Int) - 1) ≤ 9223372036854775807))) then bif (decide (0 ≤ ((v6.length : Int) - 1))) then bif (decide (((v6.length : Int) - 1) < (v6.length : Int))) then (bif (decide ((cI v6 ((v6.length : Int) - 1) 1) = P)) then (bif (decide ((cI v6 ((v6.length : Int) - 1) 2) = y)) then go (List.modify v6 (((v6.length : Int) - 1)).toNat (fun r => r.set 1 (AV.int Q)))
  else bif (decide ((((v6.length : Int) + 1) * 24) ≤ 140737488355328)) then go (v6 ++ [[(AV.int P), (AV.int Q), (AV.int y)]]) else none)
  else bif (decide ((((v6.length : Int) + 1) * 24) ≤ 140737488355328)) then go (v6 ++ [[(AV.int P), (AV.int Q), (AV.int y)]]) else none) else none else none else none
  else bif (decide ((((v6.length : Int) + 1) * 24) ≤ 140737488355328)) then go (v6 ++ [[(AV.int P), (AV.int Q), (AV.int y)]]) else none)
theorem growP_v {α : Type} (go : Lv → Option α) (o : List B3) (p q y : Int) (hy : y ≠ -1) (hl : o.length ≤ 100000000) : growP go (bL o) p q y = go (bL (Dial.Blk.step o p q y)) := by
  unfold growP
  rcases List.eq_nil_or_concat o with rfl | ⟨l, b, rfl⟩
  · rw [step_nil _ _ _ hy, decide_eq_false (by simp : ¬ (0 : Int) < ((bL []).length : Int)), cond_false, decide_eq_true (by simp : (((bL []).length : Int) + 1) * 24 ≤ 140737488355328), cond_true]
    rfl
  · rw [List.concat_eq_append] at *
    have hb : (l ++ [b])[l.length]? = some b := by simp
    obtain ⟨g0, g1, g2⟩ := bcell hb
    have hlen : ((bL (l ++ [b])).length : Int) = (l.length : Int) + 1 := by simp
    have hle : l.length ≤ 100000000 := by simp at hl; omega
    have e1 : ((bL (l ++ [b])).length : Int) - 1 = (l.length : Int) := by omega
    have e3 : (l.length : Int).toNat = l.length := by omega
    rw [e1, g1, g2, e3, bmod]
    have k1 : (0 : Int) < ((bL (l ++ [b])).length : Int) := by omega
    have k2 : (-9223372036854775808 : Int) ≤ (l.length : Int) := by omega
    have k3 : (l.length : Int) ≤ 9223372036854775807 := by omega
    have k4 : (0 : Int) ≤ (l.length : Int) := by omega
    have k5 : (l.length : Int) < ((bL (l ++ [b])).length : Int) := by omega
    have k6 : (((bL (l ++ [b])).length : Int) + 1) * 24 ≤ 140737488355328 := by omega
    rw [step_snoc _ _ _ _ _ hy, decide_eq_true k1, cond_true, decide_eq_true k2, decide_eq_true k3, Bool.and_self, cond_true, decide_eq_true k4, cond_true, decide_eq_true k5, cond_true, decide_eq_true k6]
    simp only [cond_true]
    by_cases h1 : b.t = p
    · by_cases h2 : b.c = y
      · rw [decide_eq_true h1, decide_eq_true h2, if_pos ⟨h1, h2⟩, ← h2]; simp only [cond_true]
      · rw [decide_eq_true h1, decide_eq_false h2, if_neg (fun h => h2 h.2)]; simp only [cond_true, cond_false]; rw [bL_app (l ++ [b])]; rfl
    · rw [decide_eq_false h1, if_neg (fun h => h1 h.1)]; simp only [cond_false]; rw [bL_app (l ++ [b])]; rfl
theorem imin_min (a b : Int) : imin a b = min a b := by unfold imin; omega
/-- who holds a number if a map is laid over another one -/
def overR (x y : Int) : Int := if y = -1 then x else y
theorem overR_bd (x y : Int) (h1 : -1 ≤ x) (h2 : x ≤ 7) (h3 : -1 ≤ y) (h4 : y ≤ 7) : -1 ≤ overR x y ∧ overR x y ≤ 7 := by unfold overR; split <;> omega
end Go.Proofs.YtgckmifmjiklmaaGreat
namespace Go.Proofs.YtgckmifmjiklmaaGreat
open Go Go.Sx Go.Dial.Blk
theorem walk_v {α : Type} (n : Nat) (g : Int → Int → Int) (gbd : ∀ x y, -1 ≤ x → x ≤ 7 → -1 ≤ y → y ≤ 7 → -1 ≤ g x y ∧ g x y ≤ 7) (A B : List B3) (hA : Canon A) (hB : Canon B) (stp : (Int × Lv × Lv × Lv → Option α) → Int × Lv × Lv × Lv → Option α) (R : List B3 → Option α)
    (h1 : ∀ go p (o a b : List B3), p ≤ 99999999 → 0 ≤ p → o.length ≤ 100000000 → a.length ≤ A.length → b.length ≤ B.length → stp go (p, bL o, bL a, bL b) = go (min (at_ a p).2.2 (at_ b p).2.2, bL (Dial.Blk.step o p (min (at_ a p).2.2 (at_ b p).2.2) (g (at_ a p).2.1 (at_ b p).2.1)), bL (at_ a p).1, bL (at_ b p).1))
    (h2 : ∀ go p (o a b : List B3), ¬ p ≤ 99999999 → stp go (p, bL o, bL a, bL b) = R o) (hn : 100000001 < n) (r : α) (hR : ∀ o, IsMap (fun m => g (hold A m) (hold B m)) o → R o = some r) :
    iterF stp n (0, bL [], bL A, bL B) = some r := by
  refine iterF_ind (fun s => ∃ (p : Int) (o a b : List B3), s = (p, bL o, bL a, bL b) ∧ PInv g (hold A) (hold B) p o a b ∧ a.length ≤ A.length ∧ b.length ≤ B.length) (fun s => (100000000 - s.1).toNat) _ ?_ n _ ⟨0, [], A, B, rfl, PInv.begin _ hA hB, Nat.le_refl _, Nat.le_refl _⟩ (by first | omega | (simp only; omega))
  rintro _ go ⟨p, o, a, b, rfl, hI, hal, hbl⟩ ih
  simp only at ih
  have hlo := hI.lo
  have hhi := hI.hi
  have hlen := hI.len
  by_cases hp : p ≤ 99999999
  · obtain ⟨n1, n2⟩ := hI.next gbd (by omega)
    have sa := at_suffix a p
    have sb := at_suffix b p
    have la : (at_ a p).1.length ≤ a.length := by obtain ⟨pre, h⟩ := sa; have := congrArg List.length h; simp at this; omega
    have lb : (at_ b p).1.length ≤ b.length := by obtain ⟨pre, h⟩ := sb; have := congrArg List.length h; simp at this; omega
    rw [h1 go p o a b hp hlo (by omega) hal hbl]
    exact ih _ ⟨_, _, _, _, rfl, n2, by omega, by omega⟩ (by first | omega | (simp only; omega))
  · obtain ⟨d1, d2, d3⟩ := hI.done hp
    rw [h2 go p o a b hp, hR o d1]
end Go.Proofs.YtgckmifmjiklmaaGreat
namespace Go.Proofs.YtgckmifmjiklmaaGreat
open Go Go.Sx Go.Dial.Blk
/-- who holds a number, if somebody does -/
def findR (l : List B3) (k : Int) : Int × Bool := if hold l k = -1 then (0, false) else (hold l k, true)
theorem block_Find_v (n : Nat) (l : List B3) (k : Int) (hc : Canon l) (hl : l.length ≤ 40) (hn : 41 < n) : block_Find n (bL l) k = some (findR l k) := by
  have hV : vldB l = true := (vldB_iff l).2 ⟨hl, hc⟩
  unfold block_Find block_Find_1
  refine iterF_ind (fun s => ∃ i : Nat, s = (i : Int) ∧ i ≤ l.length ∧ hold l k = hold (l.drop i) k) (fun s => l.length - s.toNat) _ ?_ n _ ⟨0, rfl, by omega, by simp⟩ (by simp; omega)
  rintro _ go ⟨i, rfl, hi, hE⟩ ih
  unfold block_Find_2
  by_cases hlt : i < l.length
  · obtain ⟨b, hb⟩ := get_lt hlt
    obtain ⟨g0, g1, g2⟩ := bcell hb
    have hbd := asc_bd hc (List.mem_of_getElem? hb)
    have c1 : (i : Int) < (l.length : Int) := by omega
    have c2 : (0 : Int) ≤ (i : Int) := by omega
    have c3 : ¬ (i : Int) < 0 := by omega
    have c4 : (-9223372036854775808 : Int) ≤ (i : Int) + 1 := by omega
    have c5 : (i : Int) + 1 ≤ (9223372036854775807 : Int) := by omega
    simp only [g0, g1, g2, List.length_map, c1, c2, c3, c4, c5, decide_true, decide_false, cond_true, cond_false, Bool.and_self, block_Valid_v n l hn, Option.bind_some, hV, Bool.not_true]
    rw [bdrop hb, hold] at hE
    have hgo : ¬ (b.f ≤ k ∧ k < b.t) → go ((i : Int) + 1) = some (findR l k) := fun hv => ih _ ⟨i + 1, by simp, by omega, by rw [hE, if_neg hv]⟩ (by first | omega | (simp only; omega))
    by_cases hv : b.f ≤ k ∧ k < b.t
    · rw [if_pos hv] at hE
      rw [decide_eq_true hv.1, decide_eq_true hv.2]
      unfold findR
      rw [hE, if_neg (by omega)]; rfl
    · rw [hgo hv]; grind
  · have h0 : i = l.length := by omega
    have c1 : ¬ (i : Int) < (l.length : Int) := by omega
    rw [h0, List.drop_length] at hE
    simp only [List.length_map, c1, decide_false, cond_false]
    unfold findR
    rw [hE]
    rfl
end Go.Proofs.YtgckmifmjiklmaaGreat
namespace Go.Proofs.YtgckmifmjiklmaaGreat
open Go Go.Sx Go.Dial.Blk
/-- what Only says of a number -/
def onlyG (l : List B3) (f t : Int) : Int → Int := fun n => if f ≤ n ∧ n < t then hold l n else -1
def onlyR (x y : Int) : Int := if y = -1 then -1 else x
theorem onlyR_bd (x y : Int) (h1 : -1 ≤ x) (h2 : x ≤ 7) (h3 : -1 ≤ y) (h4 : y ≤ 7) : -1 ≤ onlyR x y ∧ onlyR x y ≤ 7 := by unfold onlyR; split <;> omega
theorem hold_one (f t c n : Int) : hold [⟨f, t, c⟩] n = if f ≤ n ∧ n < t then c else -1 := by
  by_cases h : f ≤ n ∧ n < t
  · rw [if_pos h]; exact hold_in (b := ⟨f, t, c⟩) [] h
  · rw [if_neg h]; exact hold_out (b := ⟨f, t, c⟩) [] h
theorem only_eq (l : List B3) (f t : Int) : (fun m => onlyR (hold l m) (hold [⟨f, t, 0⟩] m)) = onlyG l f t := by
  funext m
  unfold onlyR onlyG
  rw [hold_one]
  by_cases h : f ≤ m ∧ m < t
  · rw [if_pos h, if_pos h, if_neg (by decide)]
  · rw [if_neg h, if_neg h, if_pos rfl]
theorem only_map {l : List B3} {f t : Int} (hc : Canon l) (h0 : 0 ≤ f) (h1 : f < t) (h2 : t ≤ 100000000) : IsMap (onlyG l f t) (mapOf (onlyG l f t)) := by
  have := comb_map hc (canon_one h0 h1 h2 (c := 0) (by decide) (by decide)) onlyR onlyR_bd
  rwa [only_eq] at this
theorem block_Only_v (n : Nat) (l : List B3) (f t : Int) (hc : Canon l) (hl : l.length ≤ 40) (h0 : 0 ≤ f) (h1 : f < t) (h2 : t ≤ 100000000) (hn : 100000001 < n) : block_Only n (bL l) f t = some (bL (mapOf (onlyG l f t)), 0) := by
  have hV : vldB l = true := (vldB_iff l).2 ⟨hl, hc⟩
  have hM := only_map hc h0 h1 h2
  have hlen := only_len hc f t hM
  unfold block_Only block_Only_1
  rw [block_Valid_v n l (by omega), Option.bind_some, hV, Bool.not_true, cond_false, decide_eq_true h0, cond_true, decide_eq_true h1, cond_true, decide_eq_true h2, Bool.not_true, cond_false]
  refine walk_v n onlyR onlyR_bd l [⟨f, t, 0⟩] hc (canon_one h0 h1 h2 (by decide) (by decide)) _ (fun o => bif (decide (40 < ((bL o).length : Int))) then some (([] : Lv), 130) else some (bL o, 0)) ?_ ?_ hn _ ?_
  · intro go p o a b hp hp0 hol hal hbl
    simp only
    unfold block_Only_2
    have hbl' : b.length ≤ 1 := hbl
    rw [decide_eq_true hp, cond_true, block_pieces_1_v n a p (by omega), Option.bind_some, block_pieces_1_v n b p (by omega), Option.bind_some]
    simp only [imin_min]
    by_cases hy : (at_ b p).2.1 = -1
    · rw [decide_eq_true hy, cond_true]
      have e : onlyR (at_ a p).2.1 (at_ b p).2.1 = -1 := by unfold onlyR; rw [if_pos hy]
      rw [e, step_none]
    · rw [decide_eq_false hy, cond_false]
      have e : onlyR (at_ a p).2.1 (at_ b p).2.1 = (at_ a p).2.1 := by unfold onlyR; rw [if_neg hy]
      rw [e]
      by_cases hx : (at_ a p).2.1 = -1
      · rw [decide_eq_true hx, cond_true, hx, step_none]
      · rw [decide_eq_false hx, cond_false]
        exact growP_v (fun out => go (min (at_ a p).2.2 (at_ b p).2.2, out, bL (at_ a p).1, bL (at_ b p).1)) o p _ _ hx (by omega)
  · intro go p o a b hp
    simp only
    unfold block_Only_2
    rw [decide_eq_false hp, cond_false]
  · intro o ho
    rw [only_eq] at ho
    have : o = mapOf (onlyG l f t) := (mapOf_eq ho).symm
    subst this
    simp only [List.length_map]
    rw [decide_eq_false (by omega), cond_false]
theorem block_Overlay_v (n : Nat) (a b : List B3) (ha : Canon a) (hal : a.length ≤ 40) (hb : Canon b) (hbl : b.length ≤ 40) (hn : 100000001 < n) :
    block_Overlay n (bL a) (bL b) = some (bL (combR fun m => overR (hold a m) (hold b m)).1, (combR fun m => overR (hold a m) (hold b m)).2) := by
  have hV : vldB a = true := (vldB_iff a).2 ⟨hal, ha⟩
  have hW : vldB b = true := (vldB_iff b).2 ⟨hbl, hb⟩
  unfold block_Overlay block_Overlay_1
  rw [block_Valid_v n a (by omega), Option.bind_some, hV]
  unfold block_Overlay_2
  rw [Bool.not_true, cond_false, block_Valid_v n b (by omega), Option.bind_some, hW]
  unfold block_Overlay_3
  rw [Bool.not_true, cond_false]
  refine walk_v n overR overR_bd a b ha hb _ (fun o => bif (decide (40 < ((bL o).length : Int))) then some (([] : Lv), 130) else some (bL o, 0)) ?_ ?_ hn _ ?_
  · intro go p o a' b' hp hp0 hol hal' hbl'
    simp only
    unfold block_Overlay_4
    rw [decide_eq_true hp, cond_true, block_pieces_1_v n a' p (by omega), Option.bind_some, block_pieces_1_v n b' p (by omega), Option.bind_some]
    simp only [imin_min]
    by_cases hy : (at_ b' p).2.1 = -1
    · rw [decide_eq_true hy, Bool.not_true, cond_false]
      have e : overR (at_ a' p).2.1 (at_ b' p).2.1 = (at_ a' p).2.1 := by unfold overR; rw [if_pos hy]
      rw [e]
      by_cases hx : (at_ a' p).2.1 = -1
      · rw [decide_eq_true hx, cond_true, hx, step_none]
      · rw [decide_eq_false hx, cond_false]
        exact growP_v (fun out => go (min (at_ a' p).2.2 (at_ b' p).2.2, out, bL (at_ a' p).1, bL (at_ b' p).1)) o p _ _ hx (by omega)
    · rw [decide_eq_false hy, Bool.not_false, cond_true]
      have e : overR (at_ a' p).2.1 (at_ b' p).2.1 = (at_ b' p).2.1 := by unfold overR; rw [if_neg hy]
      rw [e]
      exact growP_v (fun out => go (min (at_ a' p).2.2 (at_ b' p).2.2, out, bL (at_ a' p).1, bL (at_ b' p).1)) o p _ _ hy (by omega)
  · intro go p o a' b' hp
    simp only
    unfold block_Overlay_4
    rw [decide_eq_false hp, cond_false]
  · intro o ho
    unfold combR
    rw [mapOf_eq ho]
    simp only [List.length_map]
    by_cases h40 : o.length ≤ 40
    · rw [decide_eq_false (by omega : ¬ (40 : Int) < (o.length : Int)), if_pos h40]; rfl
    · rw [decide_eq_true (by omega : (40 : Int) < (o.length : Int)), if_neg h40]; rfl
/-- what Swap says of a number -/
def swR (f t x : Int) : Int := if x = f then t else x
theorem swap_map {l : List B3} (hc : Canon l) {f t : Int} (t0 : 0 ≤ t) (t1 : t ≤ 7) : IsMap (fun m => swR f t (hold l m)) (mapOf fun m => swR f t (hold l m)) :=
  comb_map hc (b := []) trivial (fun x _ => swR f t x) fun x y a b _ _ => by unfold swR; split <;> omega
theorem block_Swap_v (n : Nat) (l : List B3) (f t : Int) (hc : Canon l) (hl : l.length ≤ 40) (f0 : 0 ≤ f) (f1 : f ≤ 7) (t0 : 0 ≤ t) (t1 : t ≤ 7) (hn : 100000001 < n) : block_Swap n (bL l) f t = some (bL (mapOf fun m => swR f t (hold l m)), 0) := by
  have hV : vldB l = true := (vldB_iff l).2 ⟨hl, hc⟩
  have hM := swap_map hc (f := f) t0 t1
  have hlen := relabel_len hc (swR f t) (by unfold swR; rw [if_neg (by omega)]) hM
  unfold block_Swap block_Swap_1
  rw [block_Valid_v n l (by omega), Option.bind_some, hV]
  unfold block_Swap_2 block_Swap_3 block_Swap_4 block_Swap_5 block_Swap_6
  rw [Bool.not_true, cond_false, decide_eq_true f0, cond_true, decide_eq_true f1, Bool.not_true, cond_false, decide_eq_true t0, cond_true, decide_eq_true t1, Bool.not_true, cond_false]
  refine walk_v n (fun x _ => swR f t x) (fun x y a b _ _ => by unfold swR; split <;> omega) l [] hc trivial _ (fun o => bif (decide (40 < ((bL o).length : Int))) then some (([] : Lv), 130) else some (bL o, 0)) ?_ ?_ hn _ ?_
  · intro go p o a b hp hp0 hol hal hbl
    simp only
    unfold block_Swap_7
    have hbl' : b.length ≤ 0 := hbl
    rw [decide_eq_true hp, cond_true, block_pieces_1_v n a p (by omega), Option.bind_some, block_pieces_1_v n b p (by omega), Option.bind_some]
    simp only [imin_min]
    by_cases hy : (at_ a p).2.1 = f
    · rw [decide_eq_true hy, cond_true, decide_eq_false (by omega : ¬ t = -1), cond_false]
      have e : swR f t (at_ a p).2.1 = t := by unfold swR; rw [if_pos hy]
      rw [e]
      exact growP_v (fun out => go (min (at_ a p).2.2 (at_ b p).2.2, out, bL (at_ a p).1, bL (at_ b p).1)) o p _ _ (by omega) (by omega)
    · rw [decide_eq_false hy, cond_false]
      have e : swR f t (at_ a p).2.1 = (at_ a p).2.1 := by unfold swR; rw [if_neg hy]
      rw [e]
      by_cases hx : (at_ a p).2.1 = -1
      · rw [decide_eq_true hx, cond_true, hx, step_none]
      · rw [decide_eq_false hx, cond_false]
        exact growP_v (fun out => go (min (at_ a p).2.2 (at_ b p).2.2, out, bL (at_ a p).1, bL (at_ b p).1)) o p _ _ hx (by omega)
  · intro go p o a b hp
    simp only
    unfold block_Swap_7
    rw [decide_eq_false hp, cond_false]
  · intro o ho
    have : o = mapOf (fun m => swR f t (hold l m)) := (mapOf_eq ho).symm
    subst this
    simp only [List.length_map]
    rw [decide_eq_false (by omega), cond_false]
theorem block_Count_v (n : Nat) (l : List B3) (c : Int) (hc : Canon l) (hl : l.length ≤ 40) (hn : 41 < n) : block_Count n (bL l) c = some (cntL l c) := by
  have hV : vldB l = true := (vldB_iff l).2 ⟨hl, hc⟩
  unfold block_Count block_Count_1
  rw [block_Valid_v n l hn, Option.bind_some, hV, Bool.not_true, cond_false]
  refine iterF_ind (fun s => ∃ i : Nat, s = (cntL (l.take i) c, (i : Int)) ∧ i ≤ l.length) (fun s => l.length - s.2.toNat) _ ?_ n _ ⟨0, rfl, by omega⟩ (by simp; omega)
  rintro _ go ⟨i, rfl, hi⟩ ih
  simp only at ih ⊢
  unfold block_Count_2
  by_cases hlt : i < l.length
  · obtain ⟨b, hb⟩ := get_lt hlt
    obtain ⟨g0, g1, g2⟩ := bcell hb
    have hbd := asc_bd hc (List.mem_of_getElem? hb)
    have ht := take_snoc hb
    have hcanT : ∀ k, 0 ≤ cntL (l.take k) c ∧ cntL (l.take k) c ≤ 100000000 := fun k => by
      have h1 := cnt_bd hc (by omega) c
      have h2 : cntL l c = cntL (l.take k) c + cntL (l.drop k) c := by
        clear hV hi ih hlt hb g0 g1 g2 hbd ht h1 hl hc
        induction l generalizing k with
        | nil => simp [cntL]
        | cons x l ih =>
          cases k with
          | zero => simp [cntL]
          | succ k => simp only [List.take_succ_cons, List.drop_succ_cons, cntL]; rw [ih k]; omega
      have h3 : ∀ (l : List B3) (e k : Int), Asc e k l → ∀ j, 0 ≤ cntL (l.take j) c ∧ 0 ≤ cntL (l.drop j) c := by
        intro l
        induction l with
        | nil => intro e k _ j; simp [cntL]
        | cons x l ih =>
          intro e k hx j
          obtain ⟨x1, x2, x3, x4, x5, x6, x7, x8⟩ := hx
          cases j with
          | zero =>
            have := ih _ _ x8 0
            simp only [List.take_zero, List.drop_zero, cntL] at this ⊢
            split <;> omega
          | succ j =>
            have := ih _ _ x8 j
            simp only [List.take_succ_cons, List.drop_succ_cons, cntL]
            split <;> omega
      have := h3 l _ _ hc k
      omega
    have b1 := hcanT i
    have b2 := hcanT (i + 1)
    rw [ht, cnt_snoc] at b2
    have hgo := ih (cntL (l.take (i + 1)) c, ((i + 1 : Nat) : Int)) ⟨i + 1, rfl, by omega⟩ (by first | omega | (simp only; omega))
    rw [ht, cnt_snoc] at hgo
    have c1 : (i : Int) < ((bL l).length : Int) := by rw [List.length_map]; omega
    have c2 : (0 : Int) ≤ (i : Int) := by omega
    rw [g0, g1, g2]
    have e1 : ((i + 1 : Nat) : Int) = (i : Int) + 1 := by omega
    rw [e1] at hgo
    by_cases hv : b.c = c
    · rw [if_pos hv] at hgo b2
      grind
    · rw [if_neg hv, Int.add_zero] at hgo
      grind
  · have h0 : i = l.length := by omega
    have c1 : ¬ (i : Int) < ((bL l).length : Int) := by rw [List.length_map]; omega
    rw [decide_eq_false c1, cond_false, h0, List.take_length]
theorem ref13_Swap_v (n : Nat) (l : List B3) (f t : Int) (hc : Canon l) (hl : l.length ≤ 40) (f0 : 0 ≤ f) (f1 : f ≤ 7) (t0 : 0 ≤ t) (t1 : t ≤ 7) (hn : 210 < n) : ref13_Swap n (bL l) f t = some (bL (mapOf fun m => swR f t (hold l m)), 0) := by
  have hV : vldB l = true := (vldB_iff l).2 ⟨hl, hc⟩
  have hM := swap_map hc (f := f) t0 t1
  have hlen := relabel_len hc (swR f t) (by unfold swR; rw [if_neg (by omega)]) hM
  obtain ⟨e1, e2⟩ := ref13_combine_v n l [] 0 f t hc trivial (by omega) (by simp) (.inl rfl) (by omega) hn
  have hE : (fun m => gcR 0 f t (hold l m) (hold [] m)) = fun m => swR f t (hold l m) := by
    funext m
    have := hold_range hc m
    rw [hold_nil]
    unfold gcR swR
    repeat' split
    all_goals first | rfl | omega
  rw [hE] at e1
  unfold ref13_Swap ref13_Swap_1
  rw [ref13_Valid_v n l (by omega), Option.bind_some, hV, Bool.not_true, cond_false, decide_eq_true f0, cond_true, decide_eq_true f1, Bool.not_true, cond_false, decide_eq_true t0, cond_true, decide_eq_true t1, Bool.not_true, cond_false]
  have e1' : ref13_combine n (bL l) ([] : Lv) 0 f t = _ := e1
  rw [e1', Option.bind_some]
  unfold combR
  rw [if_pos (by omega)]
end Go.Proofs.YtgckmifmjiklmaaGreat
namespace Go.Proofs.YtgckmifmjiklmaaGreat
open Go Go.Sx Go.Dial.Blk Go.Dial.Mrg
theorem bit_table : ∀ (j : Fin 8) (k : Fin 256), decide (IOp.f .and (IOp.f .shr (k.val : Int) (j.val : Int)) 1 = 1) = has (k.val : Int) (j.val : Int) ∧ decide (Int.tmod (IOp.f .shr (k.val : Int) (j.val : Int)) 2 = 1) = has (k.val : Int) (j.val : Int)
    ∧ IOp.f .or (k.val : Int) (IOp.f .shl 1 (j.val : Int)) = addS (k.val : Int) (j.val : Int) ∧ IOp.f .andNot (k.val : Int) (IOp.f .shl 1 (j.val : Int)) = delS (k.val : Int) (j.val : Int) := by
  decide +kernel
theorem bit_all {s c : Int} (h0 : 0 ≤ s) (h1 : s ≤ 255) (c0 : 0 ≤ c) (c1 : c ≤ 7) : decide (IOp.f .and (IOp.f .shr s c) 1 = 1) = has s c ∧ decide (Int.tmod (IOp.f .shr s c) 2 = 1) = has s c
    ∧ IOp.f .or s (IOp.f .shl 1 c) = addS s c ∧ IOp.f .andNot s (IOp.f .shl 1 c) = delS s c := by
  refine fin8 (fun c => decide (IOp.f .and (IOp.f .shr s c) 1 = 1) = has s c ∧ decide (Int.tmod (IOp.f .shr s c) 2 = 1) = has s c
    ∧ IOp.f .or s (IOp.f .shl 1 c) = addS s c ∧ IOp.f .andNot s (IOp.f .shl 1 c) = delS s c) (fun j => ?_) c c0 c1
  exact fin256 (fun s => decide (IOp.f .and (IOp.f .shr s (j.val : Int)) 1 = 1) = has s (j.val : Int) ∧ decide (Int.tmod (IOp.f .shr s (j.val : Int)) 2 = 1) = has s (j.val : Int)
    ∧ IOp.f .or s (IOp.f .shl 1 (j.val : Int)) = addS s (j.val : Int) ∧ IOp.f .andNot s (IOp.f .shl 1 (j.val : Int)) = delS s (j.val : Int)) (fun k => bit_table j k) s h0 h1
theorem shr_and {s c : Int} (h0 : 0 ≤ s) (h1 : s ≤ 255) (c0 : 0 ≤ c) (c1 : c ≤ 7) : decide (IOp.f .and (IOp.f .shr s c) 1 = 1) = has s c := (bit_all h0 h1 c0 c1).1
theorem shr_mod {s c : Int} (h0 : 0 ≤ s) (h1 : s ≤ 255) (c0 : 0 ≤ c) (c1 : c ≤ 7) : decide (Int.tmod (IOp.f .shr s c) 2 = 1) = has s c := (bit_all h0 h1 c0 c1).2.1
theorem or_shl {s c : Int} (h0 : 0 ≤ s) (h1 : s ≤ 255) (c0 : 0 ≤ c) (c1 : c ≤ 7) : IOp.f .or s (IOp.f .shl 1 c) = addS s c := (bit_all h0 h1 c0 c1).2.2.1
theorem andnot_shl {s c : Int} (h0 : 0 ≤ s) (h1 : s ≤ 255) (c0 : 0 ≤ c) (c1 : c ≤ 7) : IOp.f .andNot s (IOp.f .shl 1 c) = delS s c := (bit_all h0 h1 c0 c1).2.2.2
theorem and_nat {a b : Int} (a0 : 0 ≤ a) (a1 : a ≤ 9223372036854775807) (b0 : 0 ≤ b) (b1 : b ≤ 255) : IOp.f .and a b = ((a.toNat &&& b.toNat : Nat) : Int) := by
  have ha : BitVec.ofInt 64 a = BitVec.ofNat 64 a.toNat := by
    rw [← BitVec.ofInt_natCast, Int.toNat_of_nonneg a0]
  have hb : BitVec.ofInt 64 b = BitVec.ofNat 64 b.toNat := by
    rw [← BitVec.ofInt_natCast, Int.toNat_of_nonneg b0]
  have hle : a.toNat &&& b.toNat ≤ b.toNat := Nat.and_le_right
  show IntKind.i64.wrap ((BitVec.ofInt 64 a &&& BitVec.ofInt 64 b).toNat : Int) = _
  rw [ha, hb, BitVec.toNat_and, BitVec.toNat_ofNat, BitVec.toNat_ofNat, Nat.mod_eq_of_lt (by omega), Nat.mod_eq_of_lt (by omega)]
  generalize a.toNat &&& b.toNat = x at hle
  have hx : x ≤ 255 := by omega
  have : ((x : Int)) % 18446744073709551616 = (x : Int) := by omega
  have hd : decide ((x : Int) ≥ 9223372036854775808) = false := by rw [decide_eq_false_iff_not]; omega
  show (if (true && decide ((x : Int) % 18446744073709551616 ≥ 9223372036854775808)) = true then (x : Int) % 18446744073709551616 - 18446744073709551616 else (x : Int) % 18446744073709551616) = _
  rw [this, hd]; rfl
theorem and_sub {a b : Int} (a0 : 0 ≤ a) (a1 : a ≤ 9223372036854775807) (b0 : 0 ≤ b) (b1 : b ≤ 255) : IOp.f .and a b = a ↔ subS a b := by
  rw [and_nat a0 a1 b0 b1]
  unfold subS
  omega
theorem gcell {l : List Int} (hl : l.length = 8) {c : Int} (c0 : 0 ≤ c) (c1 : c ≤ 7) : cI (iL l) c 0 = g l c := by
  obtain ⟨x, hx⟩ := get_lt (l := l) (i := c.toNat) (by omega)
  have := icell hx
  rw [Int.toNat_of_nonneg c0] at this
  rw [this]
  unfold g
  rw [List.getD_eq_getElem?_getD, hx]; rfl
theorem imod (l : List Int) (i : Nat) (v : Int) : List.modify (iL l) i (fun r => r.set 0 (AV.int v)) = iL (l.set i v) := by
  induction l generalizing i with
  | nil => cases i <;> rfl
  | cons x l ih =>
    cases i with
    | zero => rfl
    | succ i =>
      show iR x :: List.modify (iL l) i _ = iR x :: iL (l.set i v)
      rw [ih]
theorem iapp (l : List Int) (x : Int) : iL (l ++ [x]) = iL l ++ [[AV.int x]] := List.map_append
theorem ilen (l : List Int) : (iL l).length = l.length := by simp
theorem inR {x : Int} (h0 : -9223372036854775808 ≤ x) (h1 : x ≤ 9223372036854775807) : ((decide ((-9223372036854775808) ≤ x)) && (decide (x ≤ 9223372036854775807))) = true := by
  rw [decide_eq_true h0, decide_eq_true h1]; rfl
noncomputable instance (w : Wd) : Decidable (WV w) := Classical.propDecidable _
noncomputable def vB (w : Wd) : Bool := decide (WV w)
theorem vB_true {w : Wd} (h : WV w) : vB w = true := by unfold vB; exact decide_eq_true h
theorem vB_false {w : Wd} (h : ¬ WV w) : vB w = false := by unfold vB; exact decide_eq_false h
theorem vB_iff {w : Wd} : vB w = true ↔ WV w := by unfold vB; exact decide_eq_true_iff
theorem some_bit {s : Int} (h0 : 1 ≤ s) (h1 : s ≤ 255) : ∃ c, 0 ≤ c ∧ c ≤ 7 ∧ has s c = true := by
  apply Classical.byContradiction
  intro h
  have : s = 0 := set_ext (by omega) h1 (by decide) (by decide) fun c c0 c1 => by
    have h2 : has 0 c = false := by unfold has; simp
    rw [h2]
    cases hc : has s c with
    | false => rfl
    | true => exact absurd ⟨c, c0, c1, hc⟩ h
  omega
end Go.Proofs.YtgckmifmjiklmaaGreat
