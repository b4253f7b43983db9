/-
  What merge.Debts gives.
-/
import Derived.Test.YtgckmifmjiklmaaGreatNa
import Derived.Test.YtgckmifmjiklmaaGreatD10
import Derived.Test.YtgckmifmjiklmaaGreatMrgA
set_option linter.unusedVariables false
set_option linter.unusedSimpArgs false
set_option maxRecDepth 100000
namespace Go.Proofs.YtgckmifmjiklmaaGreat
open Go Go.Sx Go.Dial.Blk Go.Dial.Mrg
theorem tcell' {xs : List (Int × Int × Int)} {i : Nat} {x : Int × Int × Int} (h : xs[i]? = some x) : cI (xs.map triR) (i : Int) 0 = x.1 ∧ cI (xs.map triR) (i : Int) 1 = x.2.1 ∧ cI (xs.map triR) (i : Int) 2 = x.2.2 := by
  have hc : ∀ k, Sx.cA (xs.map triR) (i : Int) k = (triR x).getD k (.int 0) := fun k => cA_map (by simpa using h)
  refine ⟨?_, ?_, ?_⟩ <;> (simp only [cI, hc]; rfl)
theorem tmod_row (xs : List Dt) (i : Nat) (f : List AV → List AV) (h : Dt → Dt) (hf : ∀ x, f (triR x) = triR (h x)) : List.modify (xs.map triR) i f = (xs.modify i h).map triR := by
  induction xs generalizing i with
  | nil => cases i <;> rfl
  | cons x xs ih =>
    cases i with
    | zero => simp [List.modify_zero_cons, hf]
    | succ i => simp only [List.map_cons, List.modify_succ_cons, ih]
theorem set0 (xs : List Dt) (i : Nat) (v : Int) : List.modify (xs.map triR) i (fun r => r.set 0 (AV.int v)) = (xs.modify i fun d => (v, d.2)).map triR := tmod_row xs i _ _ fun _ => rfl
theorem set1 (xs : List Dt) (i : Nat) (v : Int) : List.modify (xs.map triR) i (fun r => r.set 1 (AV.int v)) = (xs.modify i fun d => (d.1, v, d.2.2)).map triR := tmod_row xs i _ _ fun _ => rfl
theorem set2 (xs : List Dt) (i : Nat) (v : Int) : List.modify (xs.map triR) i (fun r => r.set 2 (AV.int v)) = (xs.modify i fun d => (d.1, d.2.1, v)).map triR := tmod_row xs i _ _ fun _ => rfl
theorem modify_at {α : Type} {xs : List α} {i : Nat} {x : α} (h : xs[i]? = some x) (f : α → α) : xs.modify i f = xs.take i ++ f x :: xs.drop (i + 1) := by
  induction xs generalizing i with
  | nil => simp at h
  | cons y ys ih =>
    cases i with
    | zero => simp at h; subst h; rfl
    | succ i =>
      rw [List.modify_succ_cons, ih (by simpa using h)]; rfl
theorem merge_del8 (n : Nat) {α : Type} (go0 : Lv × Int → Option merge_Debts_a) (v17 : Int) (r : merge_Debts_a) (xs : List Dt) (hl : xs.length ≤ 1000000) (i0 j0 : Nat) (h0 : i0 ≤ j0) (hj : j0 ≤ xs.length) (v0 : -1 ≤ v17) (v1 : v17 ≤ 1000000) (hf : (xs.take j0).filter real = xs.take i0) (hi0 : i0 < j0)
    (hgo : go0 ((xs.filter real).map triR, v17 + 1) = some r) (hn : 1000001 < n) :
    (iterF (fun go1 s => merge_Debts_8 n go0 go1 v17 s.1 s.2.1 s.2.2) n (((i0 : Int), (j0 : Int), xs.map triR) : merge_Debts_s1)) = some r := by
  refine iterF_ind (fun s => ∃ (i j : Nat) (ys : List Dt), s = ((i : Int), (j : Int), ys.map triR) ∧ i < j ∧ j ≤ xs.length ∧ ys.length = xs.length ∧ ys.take i = (xs.take j).filter real ∧ ys.drop j = xs.drop j ∧ i ≤ ys.length) (fun s => xs.length - s.2.1.toNat) _ ?_ n _ ⟨i0, j0, xs, rfl, hi0, hj, rfl, hf.symm, rfl, by omega⟩ (by first | omega | (simp only; omega))
  rintro _ go ⟨i, j, ys, rfl, hij, hjl, hyl, htk, hdr, hil⟩ ih
  simp only at ih ⊢
  unfold merge_Debts_8
  rw [List.length_map]
  refine cF (fun hlt => gN (by omega) ?_) (fun hlt => ?_)
  · obtain ⟨y, hy⟩ := get_lt (l := ys) (i := j) (by omega)
    obtain ⟨g0, g1, g2⟩ := tcell' hy
    have hx : xs[j]? = some y := by
      have : (ys.drop j)[0]? = (xs.drop j)[0]? := by rw [hdr]
      rw [List.getElem?_drop, List.getElem?_drop] at this
      simp only [Nat.add_zero] at this
      rw [← this]; exact hy
    have htx : (xs.take (j + 1)).filter real = (xs.take j).filter real ++ [y].filter real := by rw [take_snoc hx, List.filter_append]
    have hd1 : ys.drop (j + 1) = xs.drop (j + 1) := by
      have := congrArg (List.drop 1) hdr
      rwa [List.drop_drop, List.drop_drop] at this
    rw [g0, g1, g2]
    by_cases hr : y.1 = y.2.1
    · have hy0 : real y = false := by unfold real; simp [hr]
      rw [decide_eq_true hr, Bool.not_true, cond_false]
      refine gO (by omega) (by omega) (ih _ ⟨i, j + 1, ys, rfl, by omega, by omega, hyl, ?_, hd1, hil⟩ (by first | omega | (simp only; omega)))
      rw [htx, htk]; simp [hy0]
    · have hy0 : real y = true := by unfold real; simp [hr]
      rw [decide_eq_false hr, Bool.not_false, cond_true]
      refine gN (by omega) (gN (by omega) (gO (by omega) (by omega) (gO (by omega) (by omega) ?_)))
      have e3 : (i : Int).toNat = i := by omega
      rw [e3, set0, set1, set2]
      obtain ⟨z, hz⟩ := get_lt (l := ys) (i := i) (by omega)
      have hm : ((ys.modify i fun d => (y.1, d.2)).modify i fun d => (d.1, y.2.1, d.2.2)).modify i (fun d => (d.1, d.2.1, y.2.2)) = ys.take i ++ y :: ys.drop (i + 1) := by
        rw [← modify_at hz fun _ => y]
        rw [List.modify_modify_eq, List.modify_modify_eq]; rfl
      rw [hm]
      have hyl' : (ys.take i ++ y :: ys.drop (i + 1)).length = xs.length := by simp; omega
      refine ih _ ⟨i + 1, j + 1, _, rfl, by omega, by omega, hyl', ?_, ?_, by omega⟩ (by first | omega | (simp only; omega))
      · rw [htx, ← htk]
        have : (ys.take i).length = i := by simp; omega
        rw [List.take_append, this, List.take_of_length_le (by omega)]
        simp [hy0]
      · have : (ys.take i).length = i := by simp; omega
        rw [List.drop_append, this, List.drop_of_length_le (by omega), List.nil_append, show j + 1 - i = (j - i) + 1 by omega, List.drop_succ_cons, List.drop_drop, ← hd1]
        congr 1; omega
  · have hje : j = xs.length := by omega
    subst hje
    rw [List.take_length] at htk
    have e1 : (i : Int).toNat = i := by omega
    have e2 : List.take i ((List.take i (ys.map triR)) ++ (List.replicate ((ys.length : Int) - (i : Int)).toNat [AV.int 0, AV.int 0, AV.int 0])) = (xs.filter real).map triR := by
      rw [List.take_append_of_le_length (by simp; omega), List.take_take, Nat.min_self, ← List.map_take, htk]
    rw [e1, e2]
    refine gN (by omega) (gN (by omega) (gN ?_ (gO (by omega) (by omega) hgo)))
    simp; omega
theorem merge_del (n : Nat) (go0 : Lv × Int → Option merge_Debts_a) (v17 : Int) (r : merge_Debts_a) (xs : List Dt) (hl : xs.length ≤ 1000000) (v0 : -1 ≤ v17) (v1 : v17 ≤ 1000000)
    (hgo : go0 ((xs.filter real).map triR, v17 + 1) = some r) (hn : 1000001 < n) :
    (iterF (fun go1 s => merge_Debts_7 n go0 go1 v17 (xs.map triR) s) n (0 : merge_Debts_s2)) = some r := by
  refine iterF_ind (fun s => ∃ i : Nat, s = (i : Int) ∧ i ≤ xs.length ∧ (xs.take i).filter real = xs.take i) (fun s => xs.length - s.toNat) _ ?_ n _ ⟨0, rfl, by omega, rfl⟩ (by first | omega | (simp only; omega))
  rintro _ go ⟨i, rfl, hi, hall⟩ ih
  unfold merge_Debts_7
  rw [List.length_map]
  refine cF (fun hlt => gN (by omega) ?_) (fun hlt => ?_)
  · obtain ⟨x, hx⟩ := get_lt (l := xs) (i := i) (by omega)
    obtain ⟨g0, g1, g2⟩ := tcell' hx
    have htx : (xs.take (i + 1)).filter real = (xs.take i).filter real ++ [x].filter real := by rw [take_snoc hx, List.filter_append]
    rw [g0, g1]
    refine cF (fun he => ?_) (fun he => gO (by omega) (by omega) (ih _ ⟨i + 1, rfl, by omega, ?_⟩ (by first | omega | (simp only; omega))))
    · have hx0 : real x = false := by unfold real; simp [he]
      rw [decide_eq_false (by omega : ¬ (i : Int) = -1), cond_false]
      refine gO (by omega) (by omega) ?_
      have := merge_del8 (α := Int) n go0 v17 r xs hl i (i + 1) (by omega) (by omega) v0 v1 (by rw [htx, hall]; simp [hx0]) (by omega) hgo hn
      rw [show (((i + 1 : Nat)) : Int) = (i : Int) + 1 by omega] at this
      exact this
    · have hx0 : real x = true := by unfold real; simp [he]
      rw [htx, hall, take_snoc hx]; simp [hx0]
  · have : i = xs.length := by omega
    subst this
    rw [List.take_length] at hall
    rw [hall] at hgo
    exact gO (by omega) (by omega) hgo
theorem merge_ren (n : Nat) (go0 : Lv × Int → Option merge_Debts_a) (v5 : Lv) (v17 a c : Int) (r : merge_Debts_a) (xs zs : List Dt) (hz : zs.length = xs.length) (hl : xs.length ≤ 1000000) (v0 : -1 ≤ v17) (v1 : v17 ≤ 1000000) (ha : cI v5 v17 2 = a) (hc : cI v5 v17 3 = c)
    (hgo : go0 ((Dial.Mrg.renamed xs a c).map triR, v17 + 1) = some r) (hn : 1000001 < n) :
    (iterF (fun go1 s => merge_Debts_6 n go0 go1 v5 (zs.map triR) v17 s.1 s.2) n ((0, xs.map triR) : merge_Debts_s3)) = some r := by
  refine iterF_ind (fun s => ∃ i : Nat, s = ((i : Int), ((xs.take i).map (ren a c) ++ xs.drop i).map triR) ∧ i ≤ xs.length) (fun s => xs.length - s.1.toNat) _ ?_ n _ ⟨0, rfl, by omega⟩ (by first | omega | (simp only; omega))
  rintro _ go ⟨i, rfl, hi⟩ ih
  simp only at ih ⊢
  unfold merge_Debts_6
  have hzl : ((zs.map triR).length : Int) = (xs.length : Int) := by rw [List.length_map, hz]
  rw [hzl]
  have hyl : ((xs.take i).map (ren a c) ++ xs.drop i).length = xs.length := by simp; omega
  refine cF (fun hlt => gN (by omega) (gN (by rw [List.length_map]; omega) ?_)) (fun hlt => ?_)
  · obtain ⟨x, hx⟩ := get_lt (l := xs) (i := i) (by omega)
    obtain ⟨ys, hys⟩ : ∃ ys, ys = (xs.take i).map (ren a c) ++ xs.drop i := ⟨_, rfl⟩
    have hlen : ((xs.take i).map (ren a c)).length = i := by simp; omega
    have hyx : ys[i]? = some x := by
      rw [hys, List.getElem?_append_right (by omega), hlen, Nat.sub_self, List.getElem?_drop]; exact hx
    rw [← hys]
    obtain ⟨g0, g1, g2⟩ := tcell' hyx
    have hst : ∀ g : Dt → Dt, g x = ren a c x → ys.modify i g = (xs.take (i + 1)).map (ren a c) ++ xs.drop (i + 1) := fun g hg => by
      rw [modify_at hyx, hg, hys, List.take_append_of_le_length (by omega), List.take_of_length_le (by omega), List.drop_append, hlen, List.drop_of_length_le (by omega), take_snoc hx, List.map_append, List.drop_drop]
      simp
    have hfin : ∀ g : Dt → Dt, g x = ren a c x → go ((i : Int) + 1, (ys.modify i g).map triR) = some r := fun g hg => by
      refine ih _ ⟨i + 1, by rw [hst g hg]; rfl, by omega⟩ (by first | omega | (simp only; omega))
    have e3 : (i : Int).toNat = i := by omega
    rw [g0, g1, ha, hc, e3]
    refine cF (fun h1 => cF (fun h2 => ?_) (fun h2 => ?_)) (fun h1 => cF (fun h2 => ?_) (fun h2 => ?_))
    · rw [set0, set1, List.modify_modify_eq]
      exact gO (by omega) (by omega) (hfin _ (by unfold ren; rw [if_pos h1, if_pos h2]; rfl))
    · rw [set0]
      exact gO (by omega) (by omega) (hfin _ (by unfold ren; rw [if_pos h1, if_neg h2]))
    · rw [set1]
      exact gO (by omega) (by omega) (hfin _ (by unfold ren; rw [if_neg h1, if_pos h2]))
    · refine gO (by omega) (by omega) ?_
      have := hfin id (by unfold ren; rw [if_neg h1, if_neg h2]; rfl)
      rwa [List.modify_id] at this
  · have : i = xs.length := by omega
    subst this
    rw [List.take_length, List.drop_length, List.append_nil]
    exact merge_del n go0 v17 r (xs.map (ren a c)) (by simpa using hl) v0 v1 hgo hn
theorem merge_ren2 (n : Nat) (go0 : Lv × Int → Option merge_Debts_a) (v5 : Lv) (v17 a c : Int) (r : merge_Debts_a) (xs zs : List Dt) (hz : zs.length + 1 = xs.length) (hl : xs.length ≤ 1000000) (v0 : -1 ≤ v17) (v1 : v17 ≤ 1000000) (ha : cI v5 v17 2 = a) (hc : cI v5 v17 4 = c)
    (hgo : go0 ((Dial.Mrg.renamed xs a c).map triR, v17 + 1) = some r) (hn : 1000001 < n) :
    (iterF (fun go1 s => merge_Debts_12 n go0 go1 v5 (zs.map triR) v17 s.1 s.2) n ((0, xs.map triR) : merge_Debts_s3)) = some r := by
  refine iterF_ind (fun s => ∃ i : Nat, s = ((i : Int), ((xs.take i).map (ren a c) ++ xs.drop i).map triR) ∧ i ≤ xs.length) (fun s => xs.length - s.1.toNat) _ ?_ n _ ⟨0, rfl, by omega⟩ (by first | omega | (simp only; omega))
  rintro _ go ⟨i, rfl, hi⟩ ih
  simp only at ih ⊢
  unfold merge_Debts_12
  have hzl : ((zs.map triR).length : Int) + 1 = (xs.length : Int) := by rw [List.length_map]; omega
  rw [hzl]
  have hyl : ((xs.take i).map (ren a c) ++ xs.drop i).length = xs.length := by simp; omega
  refine cF (fun hlt => gN (by omega) (gN (by rw [List.length_map]; omega) ?_)) (fun hlt => ?_)
  · obtain ⟨x, hx⟩ := get_lt (l := xs) (i := i) (by omega)
    obtain ⟨ys, hys⟩ : ∃ ys, ys = (xs.take i).map (ren a c) ++ xs.drop i := ⟨_, rfl⟩
    have hlen : ((xs.take i).map (ren a c)).length = i := by simp; omega
    have hyx : ys[i]? = some x := by
      rw [hys, List.getElem?_append_right (by omega), hlen, Nat.sub_self, List.getElem?_drop]; exact hx
    rw [← hys]
    obtain ⟨g0, g1, g2⟩ := tcell' hyx
    have hst : ∀ g : Dt → Dt, g x = ren a c x → ys.modify i g = (xs.take (i + 1)).map (ren a c) ++ xs.drop (i + 1) := fun g hg => by
      rw [modify_at hyx, hg, hys, List.take_append_of_le_length (by omega), List.take_of_length_le (by omega), List.drop_append, hlen, List.drop_of_length_le (by omega), take_snoc hx, List.map_append, List.drop_drop]
      simp
    have hfin : ∀ g : Dt → Dt, g x = ren a c x → go ((i : Int) + 1, (ys.modify i g).map triR) = some r := fun g hg => by
      refine ih _ ⟨i + 1, by rw [hst g hg]; rfl, by omega⟩ (by first | omega | (simp only; omega))
    have e3 : (i : Int).toNat = i := by omega
    rw [g0, g1, ha, hc, e3]
    refine cF (fun h1 => cF (fun h2 => ?_) (fun h2 => ?_)) (fun h1 => cF (fun h2 => ?_) (fun h2 => ?_))
    · rw [set0, set1, List.modify_modify_eq]
      exact gO (by omega) (by omega) (hfin _ (by unfold ren; rw [if_pos h1, if_pos h2]; rfl))
    · rw [set0]
      exact gO (by omega) (by omega) (hfin _ (by unfold ren; rw [if_pos h1, if_neg h2]))
    · rw [set1]
      exact gO (by omega) (by omega) (hfin _ (by unfold ren; rw [if_neg h1, if_pos h2]))
    · refine gO (by omega) (by omega) ?_
      have := hfin id (by unfold ren; rw [if_neg h1, if_neg h2]; rfl)
      rwa [List.modify_id] at this
  · have : i = xs.length := by omega
    subst this
    rw [List.take_length, List.drop_length, List.append_nil]
    exact merge_del n go0 v17 r (xs.map (ren a c)) (by simpa using hl) v0 v1 hgo hn
theorem merge_ren3 (n : Nat) (go0 : Lv × Int → Option merge_Debts_a) (v5 : Lv) (v17 a c : Int) (r : merge_Debts_a) (xs : List Dt) (hl : xs.length ≤ 1000000) (v0 : -1 ≤ v17) (v1 : v17 ≤ 1000000) (ha : cI v5 v17 2 = a) (hc : cI v5 v17 4 = c)
    (hgo : go0 ((Dial.Mrg.renamed xs a c).map triR, v17 + 1) = some r) (hn : 1000001 < n) :
    (iterF (fun go1 s => merge_Debts_19 n go0 go1 v5 (xs.map triR) v17 s.1 s.2) n ((0, xs.map triR) : merge_Debts_s3)) = some r := by
  refine iterF_ind (fun s => ∃ i : Nat, s = ((i : Int), ((xs.take i).map (ren a c) ++ xs.drop i).map triR) ∧ i ≤ xs.length) (fun s => xs.length - s.1.toNat) _ ?_ n _ ⟨0, rfl, by omega⟩ (by first | omega | (simp only; omega))
  rintro _ go ⟨i, rfl, hi⟩ ih
  simp only at ih ⊢
  unfold merge_Debts_19
  have hzl : ((xs.map triR).length : Int) = (xs.length : Int) := by rw [List.length_map]
  rw [hzl]
  have hyl : ((xs.take i).map (ren a c) ++ xs.drop i).length = xs.length := by simp; omega
  refine cF (fun hlt => gN (by omega) (gN (by rw [List.length_map]; omega) ?_)) (fun hlt => ?_)
  · obtain ⟨x, hx⟩ := get_lt (l := xs) (i := i) (by omega)
    obtain ⟨ys, hys⟩ : ∃ ys, ys = (xs.take i).map (ren a c) ++ xs.drop i := ⟨_, rfl⟩
    have hlen : ((xs.take i).map (ren a c)).length = i := by simp; omega
    have hyx : ys[i]? = some x := by
      rw [hys, List.getElem?_append_right (by omega), hlen, Nat.sub_self, List.getElem?_drop]; exact hx
    rw [← hys]
    obtain ⟨g0, g1, g2⟩ := tcell' hyx
    have hst : ∀ g : Dt → Dt, g x = ren a c x → ys.modify i g = (xs.take (i + 1)).map (ren a c) ++ xs.drop (i + 1) := fun g hg => by
      rw [modify_at hyx, hg, hys, List.take_append_of_le_length (by omega), List.take_of_length_le (by omega), List.drop_append, hlen, List.drop_of_length_le (by omega), take_snoc hx, List.map_append, List.drop_drop]
      simp
    have hfin : ∀ g : Dt → Dt, g x = ren a c x → go ((i : Int) + 1, (ys.modify i g).map triR) = some r := fun g hg => by
      refine ih _ ⟨i + 1, by rw [hst g hg]; rfl, by omega⟩ (by first | omega | (simp only; omega))
    have e3 : (i : Int).toNat = i := by omega
    rw [g0, g1, ha, hc, e3]
    refine cF (fun h1 => cF (fun h2 => ?_) (fun h2 => ?_)) (fun h1 => cF (fun h2 => ?_) (fun h2 => ?_))
    · rw [set0, set1, List.modify_modify_eq]
      exact gO (by omega) (by omega) (hfin _ (by unfold ren; rw [if_pos h1, if_pos h2]; rfl))
    · rw [set0]
      exact gO (by omega) (by omega) (hfin _ (by unfold ren; rw [if_pos h1, if_neg h2]))
    · rw [set1]
      exact gO (by omega) (by omega) (hfin _ (by unfold ren; rw [if_neg h1, if_pos h2]))
    · refine gO (by omega) (by omega) ?_
      have := hfin id (by unfold ren; rw [if_neg h1, if_neg h2]; rfl)
      rwa [List.modify_id] at this
  · have : i = xs.length := by omega
    subst this
    rw [List.take_length, List.drop_length, List.append_nil]
    exact merge_del n go0 v17 r (xs.map (ren a c)) (by simpa using hl) v0 v1 hgo hn
/-- debts after events, or an error -/
def outD : Option (List Dt) → Lv × Int
  | some ds => (ds.map triR, 0)
  | none => (([] : Lv), 420)
structure DebtsOk (w : Wd) (l : List Ev) (ds : List Dt) : Prop where
  g : Dial.Mrg.Good w l
  c : ∀ d ∈ ds, DC d
noncomputable instance (w : Wd) (l : List Ev) (ds : List Dt) : Decidable (DebtsOk w l ds) := Classical.propDecidable _
noncomputable def debtsW (w : Wd) (l : List Ev) (ds : List Dt) : Option (List Dt) := if DebtsOk w l ds then some (debtsL ds l) else none
theorem noD {w : Wd} {l : List Ev} {ds : List Dt} (h : ¬ DebtsOk w l ds) : (some (([] : Lv), 420) : Option (Lv × Int)) = some (outD (debtsW w l ds)) := by
  unfold debtsW; rw [if_neg h]; rfl
theorem merge_Debts_v (n : Nat) (w : Wd) (ha : In64 w.al) (l : List Ev) (hl : l.length ≤ 1000000) (ds : List Dt) (hdl : ds.length ≤ 1000) (hn : 100000001 < n) : merge_Debts n w.al w.ev (bL w.bl) (iL w.ba) (iL w.le) (evL l) (ds.map triR) = some (outD (debtsW w l ds)) := by
  unfold merge_Debts merge_Debts_1
  rw [merge_Run_v n w ha l hl hn, Option.bind_some]
  unfold merge_Debts_2
  cases hr : runW w l with
  | mk o j =>
    cases o with
    | none =>
      refine cN (fun h => absurd h (by show ¬ (420 : Int) = 0; decide)) (fun _ => noD fun p => ?_)
      rw [runW_good p.g] at hr; cases hr
    | some v =>
      have hg := runW_some hr
      refine cN (fun _ => ?_) (fun h => absurd rfl h)
      refine iterF_ind (fun s => ∃ i : Nat, s = (i : Int) ∧ i ≤ ds.length ∧ ∀ (k : Nat) d, k < i → ds[k]? = some d → DC d) (fun s => ds.length - s.toNat) _ ?_ n _ ⟨0, rfl, by omega, fun k d h => by omega⟩ (by first | omega | (simp only; omega))
      rintro _ go ⟨i, rfl, hi, hall⟩ ih
      unfold merge_Debts_3
      rw [List.length_map]
      refine cF (fun hlt => gN (by omega) ?_) (fun hlt => ?_)
      · obtain ⟨d, hd⟩ := get_lt (l := ds) (i := i) (by omega)
        have hdm := List.mem_of_getElem? hd
        obtain ⟨g0, g1, g2⟩ := tcell' hd
        rw [g0, g1]
        refine cF (fun a0 => cN (fun a1 => cF (fun b0 => cN (fun b1 => gO (by omega) (by omega) (ih _ ⟨i + 1, rfl, by omega, fun k x hk hx => ?_⟩ (by first | omega | (simp only; omega)))) (fun h => noD fun p => h (p.c d hdm).2.2)) (fun h => noD fun p => h (p.c d hdm).2.1)) (fun h => noD fun p => h (p.c d hdm).1.2)) (fun h => noD fun p => h (p.c d hdm).1.1)
        by_cases hki : k < i
        · exact hall k x hki hx
        · have : k = i := by omega
          subst this; rw [hd] at hx; cases hx; exact ⟨⟨a0, a1⟩, b0, b1⟩
      · have hDC : ∀ d ∈ ds, DC d := fun d hd => by
          obtain ⟨k, hk⟩ := List.getElem?_of_mem hd
          exact hall k d (by have := (List.getElem?_eq_some_iff.1 hk).1; omega) hk
        have hok : debtsW w l ds = some (debtsL ds l) := if_pos ⟨hg, hDC⟩
        have hcl : slices_Clone___api_Debt_api_Debt n (ds.map triR) = some (ds.map triR) := by
          unfold slices_Clone___api_Debt_api_Debt slices_Clone___api_Debt_api_Debt_1
          rw [decide_eq_true (by rw [List.length_map]; omega)]; rfl
        rw [hok, hcl, Option.bind_some]
        clear ih
        have h20 := hg.few
        refine iterF_ind (fun s => ∃ (i : Nat) (xs : List Dt), s = (xs.map triR, (i : Int)) ∧ i ≤ l.length ∧ debtsL xs (l.drop i) = debtsL ds l ∧ xs.length ≤ ds.length + i) (fun s => l.length - s.2.toNat) _ ?_ n _ ⟨0, ds, rfl, by omega, rfl, by omega⟩ (by first | omega | (simp only; omega))
        rintro _ go ⟨i, xs, rfl, hi, hE, hxl⟩ ih
        simp only at ih ⊢
        unfold merge_Debts_4
        rw [elen]
        refine cF (fun hlt => gN (by omega) ?_) (fun hlt => ?_)
        · obtain ⟨e, he⟩ := get_lt (l := l) (i := i) (by omega)
          obtain ⟨g0, g1, g2, g3, g4, g5, g6, g7⟩ := ecell he
          have hf := hg.p.forms e (List.mem_of_getElem? he)
          rw [bdrop he] at hE
          have hE : debtsL (debtE xs e) (l.drop (i + 1)) = debtsL ds l := hE
          have hel := debtE_len xs e
          have hgo : ∀ ys, debtE xs e = ys → go (ys.map triR, (i : Int) + 1) = some (outD (some (debtsL ds l))) := fun ys hy => by
            subst hy
            exact ih _ ⟨i + 1, _, rfl, by omega, hE, by omega⟩ (by first | omega | (simp only; omega))
          have hm : -1000000000000 ≤ e.m ∧ e.m ≤ 1000000000000 := by
            by_cases h : e.k = 1 ∨ e.k = 4
            · have := hf.bare h; omega
            · have := hf.kind; have := hf.full (by omega); omega
          unfold merge_Debts_5
          rw [g0]
          refine cF (fun h1 => merge_ren n go (evL l) i e.a e.b _ xs xs rfl (by omega) (by omega) (by omega) g2 g3 (hgo _ (by unfold debtE; rw [if_pos h1])) (by omega)) (fun h1 => ?_)
          unfold merge_Debts_9
          rw [g0, g2, g3, g7]
          have happ : ∀ x : Dt, xs.map triR ++ [[AV.int x.1, AV.int x.2.1, AV.int x.2.2]] = (xs ++ [x]).map triR := fun x => by rw [List.map_append]; rfl
          have hlm : ((xs.map triR).length : Int) = (xs.length : Int) := by rw [List.length_map]
          refine cF (fun h2 => cF (fun hp => gN (by omega) (gO (by omega) (by omega) ?_)) (fun hp => cF (fun hq => gO (by omega) (by omega) (gN (by omega) (gO (by omega) (by omega) ?_))) (fun hq => gO (by omega) (by omega) (hgo _ ?_)))) (fun h2 => ?_)
          · rw [happ (e.a, e.b, e.m)]
            exact hgo _ (by unfold debtE owed; rw [if_neg h1, if_pos h2, if_pos hp])
          · rw [happ (e.b, e.a, 0 - e.m)]
            exact hgo _ (by unfold debtE owed; rw [if_neg h1, if_pos h2, if_neg hp, if_pos hq])
          · unfold debtE owed; rw [if_neg h1, if_pos h2, if_neg hp, if_neg hq]
          unfold merge_Debts_10
          rw [g0]
          refine cF (fun h3 => ?_) (fun h3 => gO (by omega) (by omega) (hgo _ (by unfold debtE; rw [if_neg h1, if_neg h2, if_neg h3])))
          unfold merge_Debts_11
          rw [g2, g3, g7]
          refine cF (fun hp => gN (by omega) ?_) (fun hp => ?_)
          · rw [happ (e.a, e.b, e.m)]
            exact merge_ren2 n go (evL l) i e.a e.c _ _ xs (by simp) (by simp; omega) (by omega) (by omega) g2 g4 (hgo _ (by unfold debtE owed; rw [if_neg h1, if_neg h2, if_pos h3, if_pos hp])) (by omega)
          · unfold merge_Debts_15
            rw [g2, g3, g7]
            refine cF (fun hq => gO (by omega) (by omega) (gN (by omega) ?_)) (fun hq => ?_)
            · rw [happ (e.b, e.a, 0 - e.m)]
              exact merge_ren2 n go (evL l) i e.a e.c _ _ xs (by simp) (by simp; omega) (by omega) (by omega) g2 g4 (hgo _ (by unfold debtE owed; rw [if_neg h1, if_neg h2, if_pos h3, if_neg hp, if_pos hq])) (by omega)
            · exact merge_ren3 n go (evL l) i e.a e.c _ xs (by omega) (by omega) (by omega) g2 g4 (hgo _ (by unfold debtE owed; rw [if_neg h1, if_neg h2, if_pos h3, if_neg hp, if_neg hq])) (by omega)
        · rw [List.drop_of_length_le (by omega)] at hE
          rw [← hE]; rfl
end Go.Proofs.YtgckmifmjiklmaaGreat
