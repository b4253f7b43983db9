/-
  The law ChainSettles as a plain function: it gives true.
-/
import Derived.Test.YtjllgiddmeiaoaaQN
import Derived.Test.YtjllgiddmeiaoaaE4
set_option linter.unusedVariables false
set_option linter.unusedSimpArgs false
set_option maxRecDepth 100000
namespace Go.Proofs.Ytjllgiddmeiaoaa
open Go Go.Sx Go.Dial.Clm Go.Dial.Lif Go.Dial.Chn
theorem imax_l (a b : Int) : a ≤ imax a b := by unfold imax; split <;> omega
theorem imax_r (a b : Int) : b ≤ imax a b := by unfold imax; split <;> omega
theorem imax_le {a b m : Int} (h1 : a ≤ m) (h2 : b ≤ m) : imax a b ≤ m := by unfold imax; split <;> omega
theorem settled_ge (r : Rl) : ∀ (ps : List Pt) (m : Int), m ≤ ps.foldl (fun m p => imax m (endsV r p.c)) m ∧ ∀ p ∈ ps, endsV r p.c ≤ ps.foldl (fun m p => imax m (endsV r p.c)) m
  | [], m => ⟨Int.le_refl _, fun p h => by cases h⟩
  | p :: ps, m => by
    obtain ⟨h1, h2⟩ := settled_ge r ps (imax m (endsV r p.c))
    have := imax_l m (endsV r p.c)
    have := imax_r m (endsV r p.c)
    rw [List.foldl_cons]
    refine ⟨by omega, fun q hq => ?_⟩
    rcases List.mem_cons.1 hq with rfl | hq
    · omega
    · exact h2 q hq
theorem settled_le (r : Rl) {B : Int} : ∀ (ps : List Pt) (m : Int), m ≤ B → (∀ p ∈ ps, endsV r p.c ≤ B) → ps.foldl (fun m p => imax m (endsV r p.c)) m ≤ B
  | [], m, h, _ => h
  | p :: ps, m, h, hp => by
    rw [List.foldl_cons]
    exact settled_le r ps _ (imax_le h (hp p (List.mem_cons_self ..))) fun q hq => hp q (List.mem_cons_of_mem _ hq)
theorem open_nil {r : Rl} {t : Int} : ∀ (ps : List Pt) (i : Nat), (∀ p ∈ ps, 5 ≤ (outV r p.c p.es t).s) → openFrom r t i ps = []
  | [], _, _ => rfl
  | p :: ps, i, h => by
    have := h p (List.mem_cons_self ..)
    unfold openFrom
    rw [if_neg (by omega), open_nil ps (i + 1) fun q hq => h q (List.mem_cons_of_mem _ hq)]
    rfl
theorem settled_hps {c : Ch} (hV : ChV c) {h : Hp} (hh : h ∈ hps c) : h.a ≤ settledV c.r c.ps := by
  obtain ⟨k, p, x, h1, _, h3, h4, _⟩ := hps_a hV hh
  have hc := ch_clm hV h1
  have h5 := timeline_ends hc x h3
  have h6 := (settled_ge c.r c.ps 0).2 p (List.mem_of_getElem? h1)
  unfold settledV
  omega
theorem settled_force {c : Ch} (hV : ChV c) {t : Int} (ht : settledV c.r c.ps ≤ t) : forceAt c t = force c [] (hps c) := by
  unfold forceAt
  have := Go.Dial.Chn.takeWhile_all (q := fun h : Hp => decide (h.a ≤ t)) (A := hps c) (B := []) (fun h hh => by have := settled_hps hV hh; exact decide_eq_true (by omega))
  rw [List.append_nil] at this
  rw [this]; simp
theorem law17_ChainSettles_v (n : Nat) (X : Nums) (hX : X.ok) (v8 : Int) (h8 : In64 v8) (hn : 200 < n) : law17_ChainSettles n X.v0 X.v1 X.v2 X.v3 X.v4 X.v5 (X.xs.map triR) (X.ys.map pnR) v8 = some true := by
  obtain ⟨c, hM, hG, hl, hp, _⟩ := made_of n X hX hn
  obtain ⟨S, hS⟩ : ∃ S, S = settledV c.r c.ps := ⟨_, rfl⟩
  have hSt := chain_Settled_v n c (by omega) hn
  rw [if_pos hG.1, ← hS] at hSt
  have s0 : 0 ≤ S := by rw [hS]; exact (settled_ge c.r c.ps 0).1
  have s1 : S ≤ 400000 := by rw [hS]; exact settled_le c.r c.ps 0 (by decide) hG.2
  have bk := pk_bd v8 (k := 20000000 - S + 1) (by omega)
  obtain ⟨t, ht⟩ : ∃ t, t = S + pk v8 (20000000 - S + 1) := ⟨_, rfl⟩
  have t0 : 0 ≤ t := by omega
  have t1 : t ≤ 20000000 := by omega
  have hO := chain_Open_v n c t (by omega) hn
  rw [if_pos ⟨hG.1, t0, t1⟩, open_nil c.ps 0 (fun p hpp => out_end (ptsV_mem hG.1.2.2.2.2.2.2 p hpp).2 (by have := (settled_ge c.r c.ps 0).2 p hpp; unfold settledV at hS; omega))] at hO
  have hA := chain_At_v n c S (by omega) hn
  rw [if_pos ⟨hG.1, s0, by omega⟩, settled_force hG.1 (by omega)] at hA
  have hB := chain_At_v n c t (by omega) hn
  rw [if_pos ⟨hG.1, t0, t1⟩, settled_force hG.1 (by omega)] at hB
  have hT := chain_Turns_v n c (by omega) hn
  rw [if_pos hG.1] at hT
  have c1 : ¬ S < 0 := by omega
  have c2 : ¬ (20000000 : Int) < S := by omega
  have c3 : (-9223372036854775808 : Int) ≤ 20000000 - S := by omega
  have c4 : 20000000 - S ≤ (9223372036854775807 : Int) := by omega
  have c5 : (-9223372036854775808 : Int) ≤ 20000000 - S + 1 := by omega
  have c6 : 20000000 - S + 1 ≤ (9223372036854775807 : Int) := by omega
  have c7 : (-9223372036854775808 : Int) ≤ t := by omega
  have c8 : t ≤ (9223372036854775807 : Int) := by omega
  have hfl : (force c [] (hps c)).length ≤ 16 := by
    have := forceAt_len hG.1 S
    rw [settled_force hG.1 (by omega)] at this
    exact this
  unfold law17_ChainSettles law17_ChainSettles_1
  rw [show law17_sane n = some true from rfl, Option.bind_some, Bool.not_true, cond_false, hM, Option.bind_some]
  simp only
  rw [hSt, Option.bind_some]
  simp only
  rw [decide_true, Bool.not_true, cond_false, decide_eq_false c1, cond_false, decide_eq_false c2, cond_false, decide_eq_true c3, decide_eq_true c4, Bool.and_self, cond_true, decide_eq_true c5, decide_eq_true c6, Bool.and_self, cond_true, law17_pick_v n h8 (show (0 : Int) < 20000000 - S + 1 by omega), Option.bind_some, ← ht, decide_eq_true c7, decide_eq_true c8, Bool.and_self, cond_true, hO, Option.bind_some, hA, Option.bind_some, hB, Option.bind_some, hT, Option.bind_some]
  simp only
  have e0 : ((([] : Lv).length : Nat) : Int) = 0 := rfl
  rw [decide_true, Bool.not_true, cond_false, cond_false, cond_false, cond_false]
  have e1 : ((ixL ([] : List Nat)).length : Int) = 0 := rfl
  rw [decide_eq_true e1, Bool.not_true, cond_false, cond_false, ints_fo n _ _ (by omega) (by omega), Option.bind_some, decide_eq_true rfl, Bool.not_true, cond_false]
  obtain ⟨T, hTT⟩ : ∃ T, T = turnsV c := ⟨_, rfl⟩
  have hsort := turns_sorted c
  have hle : ∀ m ∈ T, m.a ≤ S := fun m hm => by
    rw [hTT] at hm
    obtain ⟨x, h1, h2⟩ := moms_at m hm
    rw [h2, hS]; exact settled_hps hG.1 h1
  have hTl : T.length ≤ 32 := by rw [hTT]; exact turnsV_len hG.1
  rw [← hTT] at hsort ⊢
  have hTll : ((tnL T).length : Int) = (T.length : Int) := by rw [List.length_map]
  refine iterF_ind (fun s => ∃ i : Nat, s = (i : Int) ∧ i ≤ T.length) (fun s => T.length - s.toNat) _ ?_ n _ ⟨0, rfl, by omega⟩ (by simp; omega)
  rintro _ go ⟨i, rfl, hi⟩ ih
  unfold law17_ChainSettles_2
  have cell : ∀ (j : Nat) (m : Mo), T[j]? = some m → cI (tnL T) (j : Int) 0 = m.a := fun j m hm => by
    have : cA (tnL T) (j : Int) 0 = (tnR m).getD 0 (.int 0) := cA_map (by simpa using hm)
    simp only [cI, this]; rfl
  by_cases hlt : i < T.length
  · obtain ⟨m, hm⟩ := get_lt hlt
    have d1 : (i : Int) < ((tnL T).length : Int) := by omega
    have d2 : (0 : Int) ≤ (i : Int) := by omega
    have d3 : ¬ S < m.a := by have := hle m (List.mem_of_getElem? hm); omega
    have d4 : (-9223372036854775808 : Int) ≤ (i : Int) + 1 := by omega
    have d5 : (i : Int) + 1 ≤ (9223372036854775807 : Int) := by omega
    have hgo := ih ((i : Int) + 1) ⟨i + 1, by omega, by omega⟩ (by omega)
    rw [decide_eq_true d1, cond_true, decide_eq_true d2, cond_true, cell i m hm, decide_eq_false d3, cond_false]
    by_cases h0 : 0 < i
    · obtain ⟨q, hq⟩ := get_lt (l := T) (i := i - 1) (by omega)
      have f1 : (0 : Int) < (i : Int) := by omega
      have f2 : (-9223372036854775808 : Int) ≤ (i : Int) - 1 := by omega
      have f3 : (i : Int) - 1 ≤ (9223372036854775807 : Int) := by omega
      have f4 : (0 : Int) ≤ (i : Int) - 1 := by omega
      have f5 : (i : Int) - 1 < ((tnL T).length : Int) := by omega
      have f6 : (i : Int) - 1 = ((i - 1 : Nat) : Int) := by omega
      have f7 : ¬ m.a < q.a := by
        obtain ⟨a1, a2⟩ := List.getElem?_eq_some_iff.1 hm
        obtain ⟨b1, b2⟩ := List.getElem?_eq_some_iff.1 hq
        have := List.pairwise_iff_getElem.1 hsort (i - 1) i b1 a1 (by omega)
        rw [a2, b2] at this
        omega
      rw [decide_eq_true f1, cond_true, decide_eq_true f2, decide_eq_true f3, Bool.and_self, cond_true, decide_eq_true f4, cond_true, decide_eq_true f5, cond_true, f6, cell (i - 1) q hq, decide_eq_false f7, cond_false, decide_eq_true d4, decide_eq_true d5, Bool.and_self, cond_true]
      exact hgo
    · have f1 : ¬ (0 : Int) < (i : Int) := by omega
      rw [decide_eq_false f1, cond_false, decide_eq_true d4, decide_eq_true d5, Bool.and_self, cond_true]
      exact hgo
  · have d1 : ¬ (i : Int) < ((tnL T).length : Int) := by omega
    rw [decide_eq_false d1, cond_false]
theorem law17_ChainSettles_law : ∀ s : tupT (Ps.tys law17_ChainSettles_t.ps), TupOk (Ps.tys law17_ChainSettles_t.ps) s → ∃ n z, law17_ChainSettles_t.fn n s = some z ∧ rdec law17_ChainSettles_t.sh z = .b true := by
  rintro ⟨v0, v1, v2, v3, v4, v5, v6, v7, v8⟩ hs
  obtain ⟨⟨X, hX, rfl, rfl, rfl, rfl, rfl, rfl, rfl, rfl⟩, hr⟩ := nums_of (rest := [.int v8]) hs
  exact ⟨300, true, law17_ChainSettles_v 300 X hX v8 (int_of (hr _ (by simp))) (by decide), rfl⟩
end Go.Proofs.Ytjllgiddmeiaoaa
