/-
  What merge.At gives.
-/
import Derived.Test.YtgckmifmjiklmaaGreatNa
set_option linter.unusedVariables false
set_option linter.unusedSimpArgs false
set_option maxRecDepth 100000
namespace Go.Proofs.YtgckmifmjiklmaaGreat
open Go Go.Sx Go.Dial.Blk Go.Dial.Mrg
structure AtOk (w : Wd) (l : List Ev) (t : Int) : Prop where
  g : Dial.Mrg.Good w l
  t0 : 0 ≤ t
  t1 : t ≤ 20000000
noncomputable instance (w : Wd) (l : List Ev) (t : Int) : Decidable (AtOk w l t) := Classical.propDecidable _
noncomputable def atW (w : Wd) (l : List Ev) (t : Int) : Option Wd := if AtOk w l t then some (aftL w (untl l t)) else none
theorem noA {w : Wd} {l : List Ev} {t : Int} (h : ¬ AtOk w l t) : (some (0, 0, ([] : Lv), ([] : Lv), ([] : Lv), 420) : Option (Int × Int × Lv × Lv × Lv × Int)) = some (outW (atW w l t)) := by
  unfold atW; rw [if_neg h]; rfl
theorem untl_cons_le {e : Ev} {l : List Ev} {t : Int} (h : e.at_ ≤ t) : untl (e :: l) t = e :: untl l t := by unfold untl; rw [List.takeWhile_cons, decide_eq_true h]; rfl
theorem untl_cons_gt {e : Ev} {l : List Ev} {t : Int} (h : t < e.at_) : untl (e :: l) t = [] := by unfold untl; rw [List.takeWhile_cons, decide_eq_false (by omega)]; rfl
theorem merge_At_v (n : Nat) (w : Wd) (ha : In64 w.al) (l : List Ev) (hl : l.length ≤ 1000000) (t : Int) (hn : 100000001 < n) : merge_At n w.al w.ev (bL w.bl) (iL w.ba) (iL w.le) (evL l) t = some (outW (atW w l t)) := by
  unfold merge_At merge_At_1
  obtain ⟨r, h1, h2⟩ := merge_isPossible_v n w ha l hl t hn
  rw [h1, Option.bind_some]
  refine cBN (fun hr => ?_) (fun hr => noA fun p => by rw [h2.2 ⟨p.g, p.t0, p.t1⟩] at hr; cases hr)
  obtain ⟨hg, t0, t1⟩ := h2.1 hr
  have e1 : atW w l t = some (aftL w (untl l t)) := if_pos ⟨hg, t0, t1⟩
  rw [e1]
  have fin : ∀ i : Nat, untl l t = l.take i → (merge_Run n w.al w.ev (bL w.bl) (iL w.ba) (iL w.le) (evL (l.take i))).bind (fun y10 => some (y10.1, y10.2.1, y10.2.2.1, y10.2.2.2.1, y10.2.2.2.2.1, (0 : Int))) = some (outW (some (aftL w (untl l t)))) := fun i hi => by
    rw [← hi, merge_Run_v n w ha _ (by rw [hi]; simp; omega) hn, Option.bind_some, runW_good (hg.untl t)]; rfl
  refine iterF_ind (fun s => ∃ i : Nat, s = ((i : Int), evL (l.take i)) ∧ i ≤ l.length ∧ untl l t = l.take i ++ untl (l.drop i) t) (fun s => l.length - s.1.toNat) _ ?_ n _ ⟨0, rfl, by omega, rfl⟩ (by first | omega | (simp only; omega))
  rintro _ go ⟨i, rfl, hi, hE⟩ ih
  simp only at ih ⊢
  unfold merge_At_2
  rw [elen]
  refine cF (fun hlt => gN (by omega) ?_) (fun hlt => fin i ?_)
  · obtain ⟨e, he⟩ := get_lt (l := l) (i := i) (by omega)
    obtain ⟨g0, g1, g2, g3, g4, g5, g6, g7⟩ := ecell he
    rw [bdrop he] at hE
    rw [g0, g1, g2, g3, g4, g5, g6, g7]
    refine cF (fun ht => fin i ?_) (fun ht => gN (by rw [elen, List.length_take]; omega) (gO (by omega) (by omega) ?_))
    · rw [hE, untl_cons_gt ht, List.append_nil]
    · have e2 : evL (l.take i) ++ [[AV.int e.k, AV.int e.at_, AV.int e.a, AV.int e.b, AV.int e.c, AV.int e.f, AV.int e.t, AV.int e.m]] = evL (l.take (i + 1)) := by rw [take_snoc he, evL, evL, List.map_append]; rfl
      rw [e2]
      refine ih _ ⟨i + 1, rfl, by omega, ?_⟩ (by first | omega | (simp only; omega))
      rw [hE, untl_cons_le (by omega), take_snoc he, List.append_assoc]; rfl
  · rw [hE, List.drop_of_length_le (by omega)]
    show _ ++ [] = _
    rw [List.append_nil]
end Go.Proofs.YtgckmifmjiklmaaGreat
