/-
  The reference's maps: Only, Overlay, hand, outside.
-/
import Derived.Test.YtgckmifmjiklmaaGreatRa
import Derived.Test.YtgckmifmjiklmaaGreatMrgA
set_option linter.unusedVariables false
set_option linter.unusedSimpArgs false
set_option maxRecDepth 100000
namespace Go.Proofs.YtgckmifmjiklmaaGreat
open Go Go.Sx Go.Dial.Blk Go.Dial.Mrg
theorem ref13_Only_v (n : Nat) (l : List B3) (f t : Int) (hc : Canon l) (hl : l.length ≤ 40) (h0 : 0 ≤ f) (h1 : f < t) (h2 : t ≤ 100000000) (hn : 210 < n) : ref13_Only n (bL l) f t = some (bL (mapOf (onlyG l f t)), 0) := by
  have hV : vldB l = true := (vldB_iff l).2 ⟨hl, hc⟩
  have hM := only_map hc h0 h1 h2
  have hlen := only_len hc f t hM
  obtain ⟨e1, e2⟩ := ref13_combine_v n l [⟨f, t, 0⟩] 2 (-1) (-1) hc (canon_one h0 h1 h2 (by decide) (by decide)) (by omega) (by simp) (.inr (.inr rfl)) (by decide) hn
  have hE : (fun m => gcR 2 (-1) (-1) (hold l m) (hold [⟨f, t, 0⟩] m)) = onlyG l f t := by
    funext m
    have := hold_range hc m
    rw [hold_one]
    unfold gcR onlyG
    by_cases hm : f ≤ m ∧ m < t
    · simp [hm]
      try omega
    · simp [hm]
  rw [hE] at e1
  unfold ref13_Only ref13_Only_1
  rw [ref13_Valid_v n l (by omega), Option.bind_some, hV, Bool.not_true, cond_false, decide_eq_true h0, cond_true, decide_eq_true h1, cond_true, decide_eq_true h2, Bool.not_true, cond_false]
  have e1' : ref13_combine n (bL l) (([] : Lv) ++ [[AV.int f, AV.int t, AV.int 0]]) 2 (-1) (-1) = _ := e1
  rw [e1', Option.bind_some]
  unfold combR
  rw [if_pos (by omega)]
theorem ref13_Overlay_v (n : Nat) (a b : List B3) (ha : Canon a) (hal : a.length ≤ 40) (hb : Canon b) (hbl : b.length ≤ 40) (hn : 210 < n) :
    ref13_Overlay n (bL a) (bL b) = some (bL (combR fun m => overR (hold a m) (hold b m)).1, (combR fun m => overR (hold a m) (hold b m)).2) := by
  have hV : vldB a = true := (vldB_iff a).2 ⟨hal, ha⟩
  have hW : vldB b = true := (vldB_iff b).2 ⟨hbl, hb⟩
  obtain ⟨e1, e2⟩ := ref13_combine_v n a b 0 (-1) (-1) ha hb (by omega) (by omega) (.inl rfl) (by decide) hn
  have hE : (fun m => gcR 0 (-1) (-1) (hold a m) (hold b m)) = fun m => overR (hold a m) (hold b m) := by
    funext m
    have := hold_range ha m
    have := hold_range hb m
    unfold gcR overR
    repeat' split
    all_goals first | rfl | omega
  rw [hE] at e1
  unfold ref13_Overlay ref13_Overlay_1
  rw [ref13_Valid_v n a (by omega), Option.bind_some, hV, Bool.not_true, cond_false, ref13_Valid_v n b (by omega), Option.bind_some, hW, Bool.not_true, cond_false, e1, Option.bind_some]
/-- a range handed over: as an event that splits -/
theorem ref42_hand_v (n : Nat) (l : List B3) (hc : Canon l) (hl : l.length ≤ 40) {e : Ev} (hf : Frm e) (hk : e.k = 2) (hn : 210 < n) :
    ref42_hand n (bL l) e.a e.b e.f e.t = some (bL (combR fun m => rho e m (hold l m)).1, decide ((combR fun m => rho e m (hold l m)).2 = 0)) := by
  obtain ⟨f0, f1, f2, _, _⟩ := hf.full (.inl hk)
  have a0 := hf.a0
  have hM1 := only_map hc f0 f1 f2
  have hl1 := only_len hc e.f e.t hM1
  have hM2 := swap_map hM1.1 (f := e.a) hf.b0 hf.b1
  have hl2 := relabel_len hM1.1 (swR e.a e.b) (by unfold swR; rw [if_neg (by omega)]) hM2
  have hovl := ovl_rho hc hf (.inl hk)
  rw [if_pos hk] at hovl
  unfold ref42_hand ref42_hand_1
  rw [ref13_Only_v n l e.f e.t hc hl f0 f1 f2 hn, Option.bind_some, ref13_Swap_v n _ e.a e.b hM1.1 (by omega) hf.a0 hf.a1 hf.b0 hf.b1 hn, Option.bind_some, ref13_Overlay_v n l _ hc hl hM2.1 (by omega) hn, Option.bind_some, hovl]
  exact cF (fun _ => cF (fun _ => rfl) (fun h => absurd rfl h)) (fun h => absurd rfl h)
theorem imax_max (a b : Int) : imax a b = max a b := by unfold imax; omega
/-- a range laid behind a list of blocks: as the reference's outside does it -/
def growO {α : Type} (go1 : Lv × Int → Option α) (v8 : Lv) (v9 P Q y : Int) : Option α :=
  (bif (decide (0 < (v8.length : Int))) then bif ((decide ((-9223372036854775808) ≤ ((v8.length : Int) - 1))) && (decide (((v8.length : Int) - 1) ≤ 9223372036854775807))) then bif (decide (0 ≤ (imax ((v8.length : Int) - 1) 0))) then bif (decide ((imax ((v8.length : Int) - 1) 0) < (v8.length : Int))) then (bif (decide ((cI v8 (imax ((v8.length : Int) - 1) 0) 1) = P)) then (bif (decide ((cI v8 (imax ((v8.length : Int) - 1) 0) 2) = y)) then bif (decide (0 ≤ ((v8.length : Int) - 1))) then bif (decide (((v8.length : Int) - 1) < (v8.length : Int))) then go1 ((List.modify v8 (((v8.length : Int) - 1)).toNat (fun r => r.set 1 (AV.int Q))), (v9 + 1)) else none else none
  else bif (decide ((((v8.length : Int) + 1) * 24) ≤ 140737488355328)) then go1 ((v8 ++ [[(AV.int P), (AV.int Q), (AV.int y)]]), (v9 + 1)) else none)
  else bif (decide ((((v8.length : Int) + 1) * 24) ≤ 140737488355328)) then go1 ((v8 ++ [[(AV.int P), (AV.int Q), (AV.int y)]]), (v9 + 1)) else none) else none else none else none
  else bif (decide ((((v8.length : Int) + 1) * 24) ≤ 140737488355328)) then go1 ((v8 ++ [[(AV.int P), (AV.int Q), (AV.int y)]]), (v9 + 1)) else none)
theorem growO_v {α : Type} (go1 : Lv × Int → Option α) (o : List B3) (v9 p q y : Int) (hy : y ≠ -1) (hl : o.length ≤ 1000) : growO go1 (bL o) v9 p q y = go1 (bL (Dial.Blk.step o p q y), v9 + 1) := by
  unfold growO
  have hlen : ((bL o).length : Int) = (o.length : Int) := by simp
  rw [hlen]
  rcases List.eq_nil_or_concat o with rfl | ⟨l, b, rfl⟩
  · rw [step_nil _ _ _ hy]
    exact cF (fun h => absurd h (by decide)) (fun _ => gN (by decide) rfl)
  · rw [List.concat_eq_append] at *
    have hb : (l ++ [b])[l.length]? = some b := by simp
    obtain ⟨g0, g1, g2⟩ := bcell hb
    have hln : ((l ++ [b]).length : Int) = (l.length : Int) + 1 := by simp
    have e1 : ((l ++ [b]).length : Int) - 1 = (l.length : Int) := by omega
    have e2 : imax (l.length : Int) 0 = (l.length : Int) := by rw [imax_max]; omega
    have e3 : (l.length : Int).toNat = l.length := by omega
    rw [e1, e2, g1, g2, e3, bmod, step_snoc _ _ _ _ _ hy]
    have happ : bL (l ++ [b]) ++ [[AV.int p, AV.int q, AV.int y]] = bL (l ++ [b] ++ [⟨p, q, y⟩]) := by rw [bL_app (l ++ [b])]; rfl
    rw [happ]
    have hl' : l.length ≤ 1000 := by simp at hl; omega
    refine gN (by omega) (gO (by omega) (by omega) (gN (by omega) (gN (by omega) (cF (fun h1 => cF (fun h2 => gN (by omega) (gN (by omega) ?_)) (fun h2 => gN (by omega) ?_)) (fun h1 => gN (by omega) ?_)))))
    · rw [if_pos ⟨h1, h2⟩, ← h2]
    · rw [if_neg (fun h => h2 h.2)]
    · rw [if_neg (fun h => h1 h.1)]
/-- the parts of a block, one after the other -/
def parts (x y z f t : Int) (o : List B3) (b : B3) : Nat → List B3
  | 0 => o
  | 1 => prt o b.f (end1 b f) (car b x y z false)
  | 2 => prt (prt o b.f (end1 b f) (car b x y z false)) (end1 b f) (end1 b t) (car b x y z true)
  | _ => outB x y z f t o b
theorem ref42_outside_v (n : Nat) (l : List B3) (hc : Canon l) (hl : l.length ≤ 40) {x y z f t : Int} (ft : f < t) (x0 : 0 ≤ x) (y0 : 0 ≤ y) (z0 : 0 ≤ z) (hn : 100 < n) :
    ref42_outside n (bL l) x y z f t = some (bL (l.foldl (outB x y z f t) [])) := by
  unfold ref42_outside ref42_outside_1
  refine iterF_ind (fun s => ∃ i : Nat, s = (bL ((l.take i).foldl (outB x y z f t) []), (i : Int)) ∧ i ≤ l.length ∧ ((l.take i).foldl (outB x y z f t) []).length ≤ 3 * i) (fun s => l.length - s.2.toNat) _ ?_ n _ ⟨0, rfl, by omega, by simp⟩ (by first | omega | (simp only; omega))
  rintro _ go ⟨i, rfl, hi, hol⟩ ih
  simp only at ih ⊢
  unfold ref42_outside_2
  have hlm : ((bL l).length : Int) = (l.length : Int) := by rw [List.length_map]
  rw [hlm]
  refine cF (fun hlt => gN (by omega) ?_) (fun hlt => ?_)
  · obtain ⟨b, hb⟩ := get_lt (l := l) (i := i) (by omega)
    obtain ⟨g0, g1, g2⟩ := bcell hb
    have hbd := asc_bd hc (List.mem_of_getElem? hb)
    obtain ⟨o, ho⟩ : ∃ o, o = (l.take i).foldl (outB x y z f t) [] := ⟨_, rfl⟩
    rw [← ho] at hol ⊢
    have hstep : (l.take (i + 1)).foldl (outB x y z f t) [] = outB x y z f t o b := by rw [take_snoc hb, List.foldl_append, ← ho]; rfl
    have hol2 := outB_len x y z f t o b
    have hgo : go (bL (outB x y z f t o b), (i : Int) + 1) = some (bL (l.foldl (outB x y z f t) [])) := ih _ ⟨i + 1, by rw [hstep]; rfl, by omega, by rw [hstep]; omega⟩ (by first | omega | (simp only; omega))
    have hpl : ∀ k, (parts x y z f t o b k).length ≤ o.length + 3 := fun k => by
      match k with
      | 0 => show o.length ≤ _; omega
      | 1 => have := part_len o b.f (end1 b f) (car b x y z false); show (prt o b.f (end1 b f) (car b x y z false)).length ≤ _; omega
      | 2 =>
        have h1 := part_len o b.f (end1 b f) (car b x y z false)
        have h2 := part_len (prt o b.f (end1 b f) (car b x y z false)) (end1 b f) (end1 b t) (car b x y z true)
        show (prt (prt o b.f (end1 b f) (car b x y z false)) (end1 b f) (end1 b t) (car b x y z true)).length ≤ _; omega
      | k + 3 => exact hol2
    refine iterF_ind (fun s => ∃ k : Nat, s = (bL (parts x y z f t o b k), (k : Int)) ∧ k ≤ 3) (fun s => 3 - s.2.toNat) _ ?_ n _ ⟨0, rfl, by omega⟩ (by first | omega | (simp only; omega))
    rintro _ go1 ⟨k, rfl, hk⟩ ih1
    simp only at ih1 ⊢
    unfold ref42_outside_3
    refine cF (fun hk3 => gN (by omega) (gN (by omega) (gO (by omega) (by omega) (gN (by omega) (gN (by omega) ?_))))) (fun hk3 => ?_)
    · have hmx : imax b.f (imin f b.t) = end1 b f := by rw [imax_max, imin_min]; rfl
      have hmy : imax b.f (imin t b.t) = end1 b t := by rw [imax_max, imin_min]; rfl
      have h0 : cI (iL [b.f, end1 b f, end1 b t, b.t]) 0 0 = b.f := rfl
      have h1 : cI (iL [b.f, end1 b f, end1 b t, b.t]) 1 0 = end1 b f := rfl
      have h2 : cI (iL [b.f, end1 b f, end1 b t, b.t]) 2 0 = end1 b t := rfl
      have h3 : cI (iL [b.f, end1 b f, end1 b t, b.t]) 3 0 = b.t := rfl
      have hL : (((([] : Lv) ++ [[AV.int b.f]]) ++ [[AV.int (end1 b f)]]) ++ [[AV.int (end1 b t)]]) ++ [[AV.int b.t]] = iL [b.f, end1 b f, end1 b t, b.t] := rfl
      have key : ∀ (p q : Int) (mid : Bool), cI (iL [b.f, end1 b f, end1 b t, b.t]) (k : Int) 0 = p → cI (iL [b.f, end1 b f, end1 b t, b.t]) ((k : Int) + 1) 0 = q → (((k : Int) = 1) ↔ mid = true) → parts x y z f t o b (k + 1) = prt (parts x y z f t o b k) p q (car b x y z mid) →
          ref42_outside_4 n go go1 (bL l) x y z f t (i : Int) (bL (parts x y z f t o b k)) (k : Int) = some (bL (l.foldl (outB x y z f t) [])) := fun p q mid hp hq hm hpt => by
        have hgo1 := ih1 (bL (parts x y z f t o b (k + 1)), (k : Int) + 1) ⟨k + 1, rfl, by omega⟩ (by first | omega | (simp only; omega))
        rw [hpt] at hgo1
        have hplk := hpl k
        unfold prt at hgo1
        unfold ref42_outside_4
        rw [g0, g1, hmx, hmy, hL, hp, hq]
        refine cF (fun he => ?_) (fun he => ?_)
        · rw [if_pos he] at hgo1; exact hgo1
        · rw [if_neg he] at hgo1
          unfold ref42_outside_5
          rw [g0, g1, g2, hmx, hmy, hL, hp, hq]
          refine cF (fun hx => ?_) (fun hx => ?_)
          · unfold ref42_outside_6
            rw [g0, g1, hmx, hmy, hL, hp, hq]
            refine cF (fun h1 => ?_) (fun h1 => ?_)
            · have hmt := hm.1 h1
              have hcar : car b x y z mid = y := by unfold car; rw [if_pos hx, hmt]; rfl
              rw [hcar] at hgo1
              exact (growO_v go1 (parts x y z f t o b k) (k : Int) p q y (by omega) (by omega)).trans hgo1
            · have hmf : mid = false := by cases mid; rfl; exact absurd (hm.2 rfl) h1
              have hcar : car b x y z mid = z := by unfold car; rw [if_pos hx, hmf]; rfl
              rw [hcar] at hgo1
              exact (growO_v go1 (parts x y z f t o b k) (k : Int) p q z (by omega) (by omega)).trans hgo1
          · have hcar : car b x y z mid = b.c := by unfold car; rw [if_neg hx]
            rw [hcar] at hgo1
            exact (growO_v go1 (parts x y z f t o b k) (k : Int) p q b.c (by omega) (by omega)).trans hgo1
      match k, hk3 with
      | 0, _ => exact key _ _ false h0 h1 (by simp) rfl
      | 1, _ => exact key _ _ true h1 h2 (by simp) rfl
      | 2, _ => exact key _ _ false h2 h3 (by simp) rfl
      | k + 3, h => exact absurd h (by omega)
    · have : k = 3 := by omega
      subst this
      exact gO (by omega) (by omega) hgo
  · have : i = l.length := by omega
    subst this
    rw [List.take_length]
end Go.Proofs.YtgckmifmjiklmaaGreat
