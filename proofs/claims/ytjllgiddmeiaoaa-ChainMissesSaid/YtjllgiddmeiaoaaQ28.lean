/-
  The law ChainMisses as a plain function: it gives true.
-/
import Derived.Test.YtjllgiddmeiaoaaQN
import Derived.Test.YtjllgiddmeiaoaaE7
import Derived.Test.YtjllgiddmeiaoaaChnZ
set_option linter.unusedVariables false
set_option linter.unusedSimpArgs false
set_option linter.unusedSectionVars false
set_option maxRecDepth 100000
namespace Go.Proofs.Ytjllgiddmeiaoaa
open Go Go.Sx Go.Dial.Clm Go.Dial.Lif Go.Dial.Chn
theorem tn_cells {T : List Mo} {i : Nat} {m : Mo} (hm : T[i]? = some m) : cI (tnL T) (i : Int) 0 = m.a ∧ cI (tnL T) (i : Int) 1 = m.p ∧ cI (tnL T) (i : Int) 2 = m.k := by
  have hc : ∀ k, cA (tnL T) (i : Int) k = (tnR m).getD k (.int 0) := fun k => cA_map (by simpa using hm)
  refine ⟨?_, ?_, ?_⟩ <;> simp only [cI, hc] <;> rfl
/-- the ports that miss -/
def missd (T : List Mo) : List Int := (T.filter fun m => decide (m.k = 2)).map (·.p)
theorem missd_snoc (T : List Mo) (m : Mo) : missd (T ++ [m]) = if m.k = 2 then missd T ++ [m.p] else missd T := by
  unfold missd
  rw [List.filter_append, List.map_append]
  by_cases h : m.k = 2
  · rw [if_pos h]; simp [h]
  · rw [if_neg h]; simp [h]
/-- the turns without those of a port -/
def wantT (k : Nat) (T : List Mo) : List T3 := (T.filter fun m => decide (m.p ≠ (k : Int))).map fun m => (m.a, shI k m.p, m.k)
theorem wantT_snoc (k : Nat) (T : List Mo) (m : Mo) : wantT k (T ++ [m]) = if m.p = (k : Int) then wantT k T else wantT k T ++ [(m.a, shI k m.p, m.k)] := by
  unfold wantT
  rw [List.filter_append, List.map_append]
  by_cases h : m.p = (k : Int)
  · rw [if_pos h]; simp [h]
  · rw [if_neg h]; simp [h]
theorem drop_pt (ps : List Pt) (k : Nat) : List.take ((k : Int)).toNat (ptL ps) ++ List.drop ((k : Int) + 1).toNat (List.take (((ptL ps).length : Int)).toNat (ptL ps)) = ptL (ps.take k ++ ps.drop (k + 1)) := by
  rw [show (k : Int).toNat = k by omega, show ((k : Int) + 1).toNat = k + 1 by omega, show (((ptL ps).length : Int)).toNat = (ptL ps).length by omega, List.take_length]
  simp
section
variable (n : Nat) (c : Ch) (k : Nat) (p : Pt) (m : Mo) (v9 : Int) (go1 : law17_ChainMisses_s1 → Option law17_ChainMisses_a) (M : Lv) (q : Int)
theorem ms7 (hG : Go.Dial.Chn.Good c) (hl : c.life.length ≤ 16) (hps : c.ps.length ≤ 5) (hes : ∀ p ∈ c.ps, p.es.length ≤ 10) (h9 : In64 v9) (hn : 200 < n) (hq : cI M q 0 = (k : Int)) (hk : c.ps[k]? = some p)
    (hV : ChV (less c k)) (hT : turnsV (less c k) = ((turnsV c).filter fun y => decide (y.p ≠ (k : Int))).map (shM k)) (hw : ∀ t, withV (less c k) (forceAt (less c k) t) = withV c (forceAt c t)) :
    law17_ChainMisses_7 n go1 v9 c.n c.f c.r.a c.r.c c.r.s c.r.r (evL c.life) (ptL c.ps) (tnL (turnsV c)) M q = some true := by
  unfold law17_ChainMisses_7
  have hkl := (List.getElem?_eq_some_iff.1 hk).1
  have hpl : ((ptL c.ps).length : Int) = (c.ps.length : Int) := by rw [List.length_map]
  have e1 : ¬ ((ptL c.ps).length : Int) ≤ (k : Int) := by omega
  have e2 : (0 : Int) ≤ (k : Int) := by omega
  have e3 : (k : Int) ≤ ((ptL c.ps).length : Int) := by omega
  have e4 : ((List.take ((k : Int)).toNat (ptL c.ps)).length : Int) * 72 ≤ 140737488355328 := by
    have : (List.take ((k : Int)).toNat (ptL c.ps)).length ≤ (ptL c.ps).length := List.length_take_le' _ _
    omega
  have e5 : (-9223372036854775808 : Int) ≤ (k : Int) + 1 := by omega
  have e6 : (k : Int) + 1 ≤ (9223372036854775807 : Int) := by omega
  have e7 : (0 : Int) ≤ (k : Int) + 1 := by omega
  have e8 : (k : Int) + 1 ≤ ((ptL c.ps).length : Int) := by omega
  have e9 : ((ptL c.ps).length : Int) ≤ ((ptL c.ps).length : Int) := Int.le_refl _
  have e10 : ((ptL (c.ps.take k ++ c.ps.drop (k + 1))).length : Int) * 72 ≤ 140737488355328 := by
    rw [List.length_map, List.length_append, List.length_take, List.length_drop]; omega
  rw [hq, decide_eq_false e1, cond_false, ref17_Copy_v n c (by omega) (by omega) (fun p hp => by have := hes p hp; omega) (by omega), Option.bind_some]
  simp only
  rw [decide_eq_true e2, cond_true, decide_eq_true e3, cond_true, decide_eq_true e4, cond_true, decide_eq_true e5, decide_eq_true e6, Bool.and_self, cond_true, decide_eq_true e7, cond_true, decide_eq_true e8, cond_true, decide_eq_true e9, cond_true, drop_pt, decide_eq_true e10, cond_true]
  have hTl := turnsV_len hG.1
  obtain ⟨T, hTT⟩ : ∃ T, T = turnsV c := ⟨_, rfl⟩
  rw [← hTT] at hT hTl ⊢
  have hbd : ∀ x ∈ T, 0 ≤ x.p ∧ x.p < (c.ps.length : Int) := fun x hx => by
    rw [hTT] at hx
    obtain ⟨i, h, h1, h2⟩ := moms_mem hx
    rcases momsH_p x h2 with e | e
    · rw [e]; exact hps_in (List.mem_of_getElem? h1)
    · exact Gk_in e
  have hTll : ((tnL T).length : Int) = (T.length : Int) := by rw [List.length_map]
  obtain ⟨t, hTm, t0, t1⟩ := ref17_Time_v n c v9 hG.1 h9 hn
  have hwl : ∀ i, (wantT k (T.take i)).length ≤ 32 := fun i => by
    unfold wantT
    rw [List.length_map]
    have h1 := List.length_filter_le (fun m : Mo => decide (m.p ≠ (k : Int))) (T.take i)
    have h2 : (T.take i).length ≤ T.length := List.length_take_le' _ _
    omega
  refine iterF_ind (fun s => ∃ i : Nat, s = (t3L (wantT k (T.take i)), (i : Int)) ∧ i ≤ T.length) (fun s => T.length - s.2.toNat) _ ?_ n _ ⟨0, rfl, by omega⟩ (by simp; omega)
  rintro _ go ⟨i, rfl, hi⟩ ih
  simp only
  unfold law17_ChainMisses_8
  by_cases hlt : i < T.length
  · obtain ⟨x, hx⟩ := get_lt hlt
    obtain ⟨x0, x1, x2⟩ := tn_cells hx
    have hb := hbd x (List.mem_of_getElem? hx)
    have c1 : (i : Int) < ((tnL T).length : Int) := by omega
    have c2 : (0 : Int) ≤ (i : Int) := by omega
    have c4 : (-9223372036854775808 : Int) ≤ (i : Int) + 1 := by omega
    have c5 : (i : Int) + 1 ≤ (9223372036854775807 : Int) := by omega
    have hw1 := hwl i
    have c6 : (((t3L (wantT k (T.take i))).length : Int) + 1) * 24 ≤ 140737488355328 := by rw [List.length_map]; omega
    have hs := wantT_snoc k (T.take i) x
    rw [← take_snoc hx] at hs
    rw [decide_eq_true c1, cond_true, decide_eq_true c2, cond_true, x0, x1, x2, hq]
    by_cases h1 : x.p = (k : Int)
    · rw [if_pos h1] at hs
      rw [decide_eq_true h1, cond_true, decide_eq_true c4, decide_eq_true c5, Bool.and_self, cond_true]
      exact ih _ ⟨i + 1, by rw [hs]; rfl, by omega⟩ (by simp only; omega)
    · rw [if_neg h1] at hs
      rw [decide_eq_false h1, cond_false]
      by_cases h2 : (k : Int) < x.p
      · have d1 : (-9223372036854775808 : Int) ≤ x.p - 1 := by omega
        have d2 : x.p - 1 ≤ (9223372036854775807 : Int) := by omega
        have hsh : shI k x.p = x.p - 1 := by unfold shI; rw [if_pos h2]
        rw [hsh] at hs
        rw [decide_eq_true h2, cond_true, decide_eq_true d1, decide_eq_true d2, Bool.and_self, cond_true, decide_eq_true c6, cond_true, decide_eq_true c4, decide_eq_true c5, Bool.and_self, cond_true]
        exact ih _ ⟨i + 1, by rw [hs]; simp, by omega⟩ (by simp only; omega)
      · have hsh : shI k x.p = x.p := by unfold shI; rw [if_neg h2]
        rw [hsh] at hs
        rw [decide_eq_false h2, cond_false, decide_eq_true c6, cond_true, decide_eq_true c4, decide_eq_true c5, Bool.and_self, cond_true]
        exact ih _ ⟨i + 1, by rw [hs]; simp, by omega⟩ (by simp only; omega)
  · have h0 : i = T.length := by omega
    have c1 : ¬ (i : Int) < ((tnL T).length : Int) := by omega
    have hTu := chain_Turns_v n (less c k) (show c.life.length < n by omega) hn
    rw [if_pos hV] at hTu
    have hTu : chain_Turns n c.n c.f c.r.a c.r.c c.r.s c.r.r (evL c.life) (ptL (c.ps.take k ++ c.ps.drop (k + 1))) = some (tnL (turnsV (less c k)), 0) := hTu
    have hA := chain_At_v n c t (by omega) hn
    rw [if_pos ⟨hG.1, t0, t1⟩] at hA
    have hB := chain_At_v n (less c k) t (show c.life.length < n by omega) hn
    rw [if_pos ⟨hV, t0, t1⟩] at hB
    have hB : chain_At n c.n c.f c.r.a c.r.c c.r.s c.r.r (evL c.life) (ptL (c.ps.take k ++ c.ps.drop (k + 1))) t = some (withV (less c k) (forceAt (less c k) t), foL (forceAt (less c k) t), 0) := hB
    have hsame : (turnsV (less c k)).map tnT = wantT k T := by
      rw [hT, List.map_map]
      rfl
    rw [decide_eq_false c1, cond_false, hq, drop_pt, hTu, Option.bind_some, hTm, Option.bind_some, hA, Option.bind_some, hB, Option.bind_some]
    simp only
    rw [decide_eq_true True.intro, cond_true, cond_true, cond_true, tnL_t3, h0, List.take_length, ref17_SameTurns_v n _ _ (by rw [hsame]; have := hwl T.length; rw [List.take_length] at this; omega) (by rw [hsame]; have := hwl T.length; rw [List.take_length] at this; omega), Option.bind_some, decide_eq_true hsame, cond_true, decide_eq_true (hw t).symm]
end
theorem law17_ChainMisses_v (n : Nat) (X : Nums) (hX : X.ok) (v8 v9 : Int) (h8 : In64 v8) (h9 : In64 v9) (hn : 200 < n) : law17_ChainMisses n X.v0 X.v1 X.v2 X.v3 X.v4 X.v5 (X.xs.map triR) (X.ys.map pnR) v8 v9 = some true := by
  obtain ⟨c, hM, hG, hl, hp, hgp⟩ := made_of n X hX hn
  have hTu := chain_Turns_v n c (by omega) hn
  rw [if_pos hG.1] at hTu
  unfold law17_ChainMisses law17_ChainMisses_1
  rw [show law17_sane n = some true from rfl, Option.bind_some]
  unfold law17_ChainMisses_2
  rw [Bool.not_true, cond_false, hM, Option.bind_some]
  simp only
  rw [hTu, Option.bind_some]
  simp only
  have hTl := turnsV_len hG.1
  obtain ⟨T, hTT⟩ : ∃ T, T = turnsV c := ⟨_, rfl⟩
  rw [← hTT] at hTl ⊢
  have hTll : ((tnL T).length : Int) = (T.length : Int) := by rw [List.length_map]
  have hml : ∀ i, (missd (T.take i)).length ≤ 32 := fun i => by
    unfold missd
    rw [List.length_map]
    have h1 := List.length_filter_le (fun m : Mo => decide (m.k = 2)) (T.take i)
    have h2 : (T.take i).length ≤ T.length := List.length_take_le' _ _
    omega
  refine iterF_ind (fun s => ∃ i : Nat, s = (inL (missd (T.take i)), (i : Int)) ∧ i ≤ T.length) (fun s => T.length - s.2.toNat) _ ?_ n _ ⟨0, rfl, by omega⟩ (by simp; omega)
  rintro _ go ⟨i, rfl, hi⟩ ih
  simp only
  unfold law17_ChainMisses_3
  by_cases hlt : i < T.length
  · obtain ⟨x, hx⟩ := get_lt hlt
    obtain ⟨x0, x1, x2⟩ := tn_cells hx
    have c1 : (i : Int) < ((tnL T).length : Int) := by omega
    have c2 : (0 : Int) ≤ (i : Int) := by omega
    have c4 : (-9223372036854775808 : Int) ≤ (i : Int) + 1 := by omega
    have c5 : (i : Int) + 1 ≤ (9223372036854775807 : Int) := by omega
    have hm1 := hml i
    have c6 : (((inL (missd (T.take i))).length : Int) + 1) * 8 ≤ 140737488355328 := by rw [List.length_map]; omega
    have hs := missd_snoc (T.take i) x
    rw [← take_snoc hx] at hs
    rw [decide_eq_true c1, cond_true, decide_eq_true c2, cond_true, x1, x2]
    by_cases h1 : x.k = 2
    · rw [if_pos h1] at hs
      rw [decide_eq_true h1, cond_true, decide_eq_true c6, cond_true, decide_eq_true c4, decide_eq_true c5, Bool.and_self, cond_true]
      exact ih _ ⟨i + 1, by rw [hs]; simp, by omega⟩ (by simp only; omega)
    · rw [if_neg h1] at hs
      rw [decide_eq_false h1, cond_false, decide_eq_true c4, decide_eq_true c5, Bool.and_self, cond_true]
      exact ih _ ⟨i + 1, by rw [hs]; rfl, by omega⟩ (by simp only; omega)
  · have h0 : i = T.length := by omega
    have c1 : ¬ (i : Int) < ((tnL T).length : Int) := by omega
    rw [decide_eq_false c1, cond_false, h0, List.take_length]
    unfold law17_ChainMisses_4
    rw [decide_eq_true (rfl : (0 : Int) = 0), Bool.not_true, cond_false]
    unfold law17_ChainMisses_5
    have hMl : ((inL (missd T)).length : Int) = ((missd T).length : Int) := by rw [List.length_map]
    by_cases hz : (missd T).length = 0
    · have e0 : ((inL (missd T)).length : Int) = 0 := by omega
      rw [decide_eq_true e0, cond_true]
    · have e0 : ¬ ((inL (missd T)).length : Int) = 0 := by omega
      have bk := pk_bd v8 (k := ((inL (missd T)).length : Int)) (by omega)
      obtain ⟨j, hj⟩ : ∃ j : Nat, pk v8 ((inL (missd T)).length : Int) = (j : Int) := ⟨(pk v8 ((inL (missd T)).length : Int)).toNat, by omega⟩
      rw [hj] at bk
      obtain ⟨y, hy⟩ := get_lt (l := missd T) (i := j) (by omega)
      have hym := List.mem_of_getElem? hy
      unfold missd at hym
      obtain ⟨m, hm, hmy⟩ := List.mem_map.1 hym
      obtain ⟨hm1, hm2⟩ := List.mem_filter.1 hm
      rw [hTT] at hm1
      obtain ⟨k, p, q1, q2, q3, q4, q5⟩ := miss_law hG.1 hm1 (by simpa using hm2)
      have hc : cI (inL (missd T)) (j : Int) 0 = (k : Int) := by rw [cell_in hy, ← hmy, q1]
      have hkl := (List.getElem?_eq_some_iff.1 q2).1
      have d1 : ¬ (k : Int) < 0 := by omega
      rw [decide_eq_false e0, cond_false, law17_pick_v n h8 (show (0 : Int) < ((inL (missd T)).length : Int) by omega), Option.bind_some, hj, decide_eq_true bk.1, cond_true, decide_eq_true bk.2, cond_true]
      unfold law17_ChainMisses_6
      rw [hc, decide_eq_false d1, cond_false, hTT]
      rw [hTT] at hc
      exact ms7 n c k p v9 go _ _ hG hl hp (fun p hpp => (hgp p hpp).2.2.2.1) h9 hn hc q2 q3 q4 q5
theorem law17_ChainMisses_law : ∀ s : tupT (Ps.tys law17_ChainMisses_t.ps), TupOk (Ps.tys law17_ChainMisses_t.ps) s → ∃ n z, law17_ChainMisses_t.fn n s = some z ∧ rdec law17_ChainMisses_t.sh z = .b true := by
  rintro ⟨v0, v1, v2, v3, v4, v5, v6, v7, v8, v9⟩ hs
  obtain ⟨⟨X, hX, rfl, rfl, rfl, rfl, rfl, rfl, rfl, rfl⟩, hr⟩ := nums_of (rest := [.int v8, .int v9]) hs
  exact ⟨300, true, law17_ChainMisses_v 300 X hX v8 v9 (int_of (hr _ (by simp))) (int_of (hr _ (by simp))) (by decide), rfl⟩
end Go.Proofs.Ytjllgiddmeiaoaa
