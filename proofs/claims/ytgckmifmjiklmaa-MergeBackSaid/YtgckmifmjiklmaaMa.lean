/-
  Maps of blocks, the program: Only, Overlay, Swap, Count; the reference's Swap.
-/
import Derived.Test.YtgckmifmjiklmaaBw
import Derived.Test.YtgckmifmjiklmaaBlkP
set_option linter.unusedVariables false
set_option linter.unusedSimpArgs false
set_option maxRecDepth 100000
namespace Go.Proofs.Ytgckmifmjiklmaa
open Go Go.Sx Go.Dial.Blk
/-- what Only says of a number -/
def onlyG (l : List B3) (f t : Int) : Int → Int := fun n => if f ≤ n ∧ n < t then hold l n else -1
def onlyR (x y : Int) : Int := if y = -1 then -1 else x
theorem onlyR_bd (x y : Int) (h1 : -1 ≤ x) (h2 : x ≤ 7) (h3 : -1 ≤ y) (h4 : y ≤ 7) : -1 ≤ onlyR x y ∧ onlyR x y ≤ 7 := by unfold onlyR; split <;> omega
theorem hold_one (f t c n : Int) : hold [⟨f, t, c⟩] n = if f ≤ n ∧ n < t then c else -1 := by
  by_cases h : f ≤ n ∧ n < t
  · rw [if_pos h]; exact hold_in (b := ⟨f, t, c⟩) [] h
  · rw [if_neg h]; exact hold_out (b := ⟨f, t, c⟩) [] h
theorem only_eq (l : List B3) (f t : Int) : (fun m => onlyR (hold l m) (hold [⟨f, t, 0⟩] m)) = onlyG l f t := by
  funext m
  unfold onlyR onlyG
  rw [hold_one]
  by_cases h : f ≤ m ∧ m < t
  · rw [if_pos h, if_pos h, if_neg (by decide)]
  · rw [if_neg h, if_neg h, if_pos rfl]
theorem only_map {l : List B3} {f t : Int} (hc : Canon l) (h0 : 0 ≤ f) (h1 : f < t) (h2 : t ≤ 100000000) : IsMap (onlyG l f t) (mapOf (onlyG l f t)) := by
  have := comb_map hc (canon_one h0 h1 h2 (c := 0) (by decide) (by decide)) onlyR onlyR_bd
  rwa [only_eq] at this
theorem block_Only_v (n : Nat) (l : List B3) (f t : Int) (hc : Canon l) (hl : l.length ≤ 40) (h0 : 0 ≤ f) (h1 : f < t) (h2 : t ≤ 100000000) (hn : 100000001 < n) : block_Only n (bL l) f t = some (bL (mapOf (onlyG l f t)), 0) := by
  have hV : vldB l = true := (vldB_iff l).2 ⟨hl, hc⟩
  have hM := only_map hc h0 h1 h2
  have hlen := only_len hc f t hM
  unfold block_Only block_Only_1
  rw [block_Valid_v n l (by omega), Option.bind_some, hV, Bool.not_true, cond_false, decide_eq_true h0, cond_true, decide_eq_true h1, cond_true, decide_eq_true h2, Bool.not_true, cond_false]
  refine walk_v n onlyR onlyR_bd l [⟨f, t, 0⟩] hc (canon_one h0 h1 h2 (by decide) (by decide)) _ (fun o => bif (decide (40 < ((bL o).length : Int))) then some (([] : Lv), 130) else some (bL o, 0)) ?_ ?_ hn _ ?_
  · intro go p o a b hp hp0 hol hal hbl
    simp only
    unfold block_Only_2
    have hbl' : b.length ≤ 1 := hbl
    rw [decide_eq_true hp, cond_true, block_pieces_1_v n a p (by omega), Option.bind_some, block_pieces_1_v n b p (by omega), Option.bind_some]
    simp only [imin_min]
    by_cases hy : (at_ b p).2.1 = -1
    · rw [decide_eq_true hy, cond_true]
      have e : onlyR (at_ a p).2.1 (at_ b p).2.1 = -1 := by unfold onlyR; rw [if_pos hy]
      rw [e, step_none]
    · rw [decide_eq_false hy, cond_false]
      have e : onlyR (at_ a p).2.1 (at_ b p).2.1 = (at_ a p).2.1 := by unfold onlyR; rw [if_neg hy]
      rw [e]
      by_cases hx : (at_ a p).2.1 = -1
      · rw [decide_eq_true hx, cond_true, hx, step_none]
      · rw [decide_eq_false hx, cond_false]
        exact growP_v (fun out => go (min (at_ a p).2.2 (at_ b p).2.2, out, bL (at_ a p).1, bL (at_ b p).1)) o p _ _ hx (by omega)
  · intro go p o a b hp
    simp only
    unfold block_Only_2
    rw [decide_eq_false hp, cond_false]
  · intro o ho
    rw [only_eq] at ho
    have : o = mapOf (onlyG l f t) := (mapOf_eq ho).symm
    subst this
    simp only [List.length_map]
    rw [decide_eq_false (by omega), cond_false]
theorem block_Overlay_v (n : Nat) (a b : List B3) (ha : Canon a) (hal : a.length ≤ 40) (hb : Canon b) (hbl : b.length ≤ 40) (hn : 100000001 < n) :
    block_Overlay n (bL a) (bL b) = some (bL (combR fun m => overR (hold a m) (hold b m)).1, (combR fun m => overR (hold a m) (hold b m)).2) := by
  have hV : vldB a = true := (vldB_iff a).2 ⟨hal, ha⟩
  have hW : vldB b = true := (vldB_iff b).2 ⟨hbl, hb⟩
  unfold block_Overlay block_Overlay_1
  rw [block_Valid_v n a (by omega), Option.bind_some, hV]
  unfold block_Overlay_2
  rw [Bool.not_true, cond_false, block_Valid_v n b (by omega), Option.bind_some, hW]
  unfold block_Overlay_3
  rw [Bool.not_true, cond_false]
  refine walk_v n overR overR_bd a b ha hb _ (fun o => bif (decide (40 < ((bL o).length : Int))) then some (([] : Lv), 130) else some (bL o, 0)) ?_ ?_ hn _ ?_
  · intro go p o a' b' hp hp0 hol hal' hbl'
    simp only
    unfold block_Overlay_4
    rw [decide_eq_true hp, cond_true, block_pieces_1_v n a' p (by omega), Option.bind_some, block_pieces_1_v n b' p (by omega), Option.bind_some]
    simp only [imin_min]
    by_cases hy : (at_ b' p).2.1 = -1
    · rw [decide_eq_true hy, Bool.not_true, cond_false]
      have e : overR (at_ a' p).2.1 (at_ b' p).2.1 = (at_ a' p).2.1 := by unfold overR; rw [if_pos hy]
      rw [e]
      by_cases hx : (at_ a' p).2.1 = -1
      · rw [decide_eq_true hx, cond_true, hx, step_none]
      · rw [decide_eq_false hx, cond_false]
        exact growP_v (fun out => go (min (at_ a' p).2.2 (at_ b' p).2.2, out, bL (at_ a' p).1, bL (at_ b' p).1)) o p _ _ hx (by omega)
    · rw [decide_eq_false hy, Bool.not_false, cond_true]
      have e : overR (at_ a' p).2.1 (at_ b' p).2.1 = (at_ b' p).2.1 := by unfold overR; rw [if_neg hy]
      rw [e]
      exact growP_v (fun out => go (min (at_ a' p).2.2 (at_ b' p).2.2, out, bL (at_ a' p).1, bL (at_ b' p).1)) o p _ _ hy (by omega)
  · intro go p o a' b' hp
    simp only
    unfold block_Overlay_4
    rw [decide_eq_false hp, cond_false]
  · intro o ho
    unfold combR
    rw [mapOf_eq ho]
    simp only [List.length_map]
    by_cases h40 : o.length ≤ 40
    · rw [decide_eq_false (by omega : ¬ (40 : Int) < (o.length : Int)), if_pos h40]; rfl
    · rw [decide_eq_true (by omega : (40 : Int) < (o.length : Int)), if_neg h40]; rfl
/-- what Swap says of a number -/
def swR (f t x : Int) : Int := if x = f then t else x
theorem swap_map {l : List B3} (hc : Canon l) {f t : Int} (t0 : 0 ≤ t) (t1 : t ≤ 7) : IsMap (fun m => swR f t (hold l m)) (mapOf fun m => swR f t (hold l m)) :=
  comb_map hc (b := []) trivial (fun x _ => swR f t x) fun x y a b _ _ => by unfold swR; split <;> omega
theorem block_Swap_v (n : Nat) (l : List B3) (f t : Int) (hc : Canon l) (hl : l.length ≤ 40) (f0 : 0 ≤ f) (f1 : f ≤ 7) (t0 : 0 ≤ t) (t1 : t ≤ 7) (hn : 100000001 < n) : block_Swap n (bL l) f t = some (bL (mapOf fun m => swR f t (hold l m)), 0) := by
  have hV : vldB l = true := (vldB_iff l).2 ⟨hl, hc⟩
  have hM := swap_map hc (f := f) t0 t1
  have hlen := relabel_len hc (swR f t) (by unfold swR; rw [if_neg (by omega)]) hM
  unfold block_Swap block_Swap_1
  rw [block_Valid_v n l (by omega), Option.bind_some, hV]
  unfold block_Swap_2 block_Swap_3 block_Swap_4 block_Swap_5 block_Swap_6
  rw [Bool.not_true, cond_false, decide_eq_true f0, cond_true, decide_eq_true f1, Bool.not_true, cond_false, decide_eq_true t0, cond_true, decide_eq_true t1, Bool.not_true, cond_false]
  refine walk_v n (fun x _ => swR f t x) (fun x y a b _ _ => by unfold swR; split <;> omega) l [] hc trivial _ (fun o => bif (decide (40 < ((bL o).length : Int))) then some (([] : Lv), 130) else some (bL o, 0)) ?_ ?_ hn _ ?_
  · intro go p o a b hp hp0 hol hal hbl
    simp only
    unfold block_Swap_7
    have hbl' : b.length ≤ 0 := hbl
    rw [decide_eq_true hp, cond_true, block_pieces_1_v n a p (by omega), Option.bind_some, block_pieces_1_v n b p (by omega), Option.bind_some]
    simp only [imin_min]
    by_cases hy : (at_ a p).2.1 = f
    · rw [decide_eq_true hy, cond_true, decide_eq_false (by omega : ¬ t = -1), cond_false]
      have e : swR f t (at_ a p).2.1 = t := by unfold swR; rw [if_pos hy]
      rw [e]
      exact growP_v (fun out => go (min (at_ a p).2.2 (at_ b p).2.2, out, bL (at_ a p).1, bL (at_ b p).1)) o p _ _ (by omega) (by omega)
    · rw [decide_eq_false hy, cond_false]
      have e : swR f t (at_ a p).2.1 = (at_ a p).2.1 := by unfold swR; rw [if_neg hy]
      rw [e]
      by_cases hx : (at_ a p).2.1 = -1
      · rw [decide_eq_true hx, cond_true, hx, step_none]
      · rw [decide_eq_false hx, cond_false]
        exact growP_v (fun out => go (min (at_ a p).2.2 (at_ b p).2.2, out, bL (at_ a p).1, bL (at_ b p).1)) o p _ _ hx (by omega)
  · intro go p o a b hp
    simp only
    unfold block_Swap_7
    rw [decide_eq_false hp, cond_false]
  · intro o ho
    have : o = mapOf (fun m => swR f t (hold l m)) := (mapOf_eq ho).symm
    subst this
    simp only [List.length_map]
    rw [decide_eq_false (by omega), cond_false]
theorem block_Count_v (n : Nat) (l : List B3) (c : Int) (hc : Canon l) (hl : l.length ≤ 40) (hn : 41 < n) : block_Count n (bL l) c = some (cntL l c) := by
  have hV : vldB l = true := (vldB_iff l).2 ⟨hl, hc⟩
  unfold block_Count block_Count_1
  rw [block_Valid_v n l hn, Option.bind_some, hV, Bool.not_true, cond_false]
  refine iterF_ind (fun s => ∃ i : Nat, s = (cntL (l.take i) c, (i : Int)) ∧ i ≤ l.length) (fun s => l.length - s.2.toNat) _ ?_ n _ ⟨0, rfl, by omega⟩ (by simp; omega)
  rintro _ go ⟨i, rfl, hi⟩ ih
  simp only at ih ⊢
  unfold block_Count_2
  by_cases hlt : i < l.length
  · obtain ⟨b, hb⟩ := get_lt hlt
    obtain ⟨g0, g1, g2⟩ := bcell hb
    have hbd := asc_bd hc (List.mem_of_getElem? hb)
    have ht := take_snoc hb
    have hcanT : ∀ k, 0 ≤ cntL (l.take k) c ∧ cntL (l.take k) c ≤ 100000000 := fun k => by
      have h1 := cnt_bd hc (by omega) c
      have h2 : cntL l c = cntL (l.take k) c + cntL (l.drop k) c := by
        clear hV hi ih hlt hb g0 g1 g2 hbd ht h1 hl hc
        induction l generalizing k with
        | nil => simp [cntL]
        | cons x l ih =>
          cases k with
          | zero => simp [cntL]
          | succ k => simp only [List.take_succ_cons, List.drop_succ_cons, cntL]; rw [ih k]; omega
      have h3 : ∀ (l : List B3) (e k : Int), Asc e k l → ∀ j, 0 ≤ cntL (l.take j) c ∧ 0 ≤ cntL (l.drop j) c := by
        intro l
        induction l with
        | nil => intro e k _ j; simp [cntL]
        | cons x l ih =>
          intro e k hx j
          obtain ⟨x1, x2, x3, x4, x5, x6, x7, x8⟩ := hx
          cases j with
          | zero =>
            have := ih _ _ x8 0
            simp only [List.take_zero, List.drop_zero, cntL] at this ⊢
            split <;> omega
          | succ j =>
            have := ih _ _ x8 j
            simp only [List.take_succ_cons, List.drop_succ_cons, cntL]
            split <;> omega
      have := h3 l _ _ hc k
      omega
    have b1 := hcanT i
    have b2 := hcanT (i + 1)
    rw [ht, cnt_snoc] at b2
    have hgo := ih (cntL (l.take (i + 1)) c, ((i + 1 : Nat) : Int)) ⟨i + 1, rfl, by omega⟩ (by first | omega | (simp only; omega))
    rw [ht, cnt_snoc] at hgo
    have c1 : (i : Int) < ((bL l).length : Int) := by rw [List.length_map]; omega
    have c2 : (0 : Int) ≤ (i : Int) := by omega
    rw [g0, g1, g2]
    have e1 : ((i + 1 : Nat) : Int) = (i : Int) + 1 := by omega
    rw [e1] at hgo
    by_cases hv : b.c = c
    · rw [if_pos hv] at hgo b2
      grind
    · rw [if_neg hv, Int.add_zero] at hgo
      grind
  · have h0 : i = l.length := by omega
    have c1 : ¬ (i : Int) < ((bL l).length : Int) := by rw [List.length_map]; omega
    rw [decide_eq_false c1, cond_false, h0, List.take_length]
theorem ref13_Swap_v (n : Nat) (l : List B3) (f t : Int) (hc : Canon l) (hl : l.length ≤ 40) (f0 : 0 ≤ f) (f1 : f ≤ 7) (t0 : 0 ≤ t) (t1 : t ≤ 7) (hn : 210 < n) : ref13_Swap n (bL l) f t = some (bL (mapOf fun m => swR f t (hold l m)), 0) := by
  have hV : vldB l = true := (vldB_iff l).2 ⟨hl, hc⟩
  have hM := swap_map hc (f := f) t0 t1
  have hlen := relabel_len hc (swR f t) (by unfold swR; rw [if_neg (by omega)]) hM
  obtain ⟨e1, e2⟩ := ref13_combine_v n l [] 0 f t hc trivial (by omega) (by simp) (.inl rfl) (by omega) hn
  have hE : (fun m => gcR 0 f t (hold l m) (hold [] m)) = fun m => swR f t (hold l m) := by
    funext m
    have := hold_range hc m
    rw [hold_nil]
    unfold gcR swR
    repeat' split
    all_goals first | rfl | omega
  rw [hE] at e1
  unfold ref13_Swap ref13_Swap_1
  rw [ref13_Valid_v n l (by omega), Option.bind_some, hV, Bool.not_true, cond_false, decide_eq_true f0, cond_true, decide_eq_true f1, Bool.not_true, cond_false, decide_eq_true t0, cond_true, decide_eq_true t1, Bool.not_true, cond_false]
  have e1' : ref13_combine n (bL l) ([] : Lv) 0 f t = _ := e1
  rw [e1', Option.bind_some]
  unfold combR
  rw [if_pos (by omega)]
end Go.Proofs.Ytgckmifmjiklmaa
