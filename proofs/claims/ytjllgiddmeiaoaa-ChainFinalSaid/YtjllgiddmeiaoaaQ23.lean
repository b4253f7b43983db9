/-
  The law ChainFinal as a plain function: it gives true.
-/
import Derived.Test.YtjllgiddmeiaoaaQN
import Derived.Test.YtjllgiddmeiaoaaE5
set_option linter.unusedVariables false
set_option linter.unusedSimpArgs false
set_option maxRecDepth 100000
namespace Go.Proofs.Ytjllgiddmeiaoaa
open Go Go.Sx Go.Dial.Clm Go.Dial.Lif Go.Dial.Chn
theorem csL_last {x : Cs} {l : List Cs} : cI (csL (x :: l)) (((csL (x :: l)).length : Int) - 1) 0 = (lst x l).s ∧ cI (csL (x :: l)) (((csL (x :: l)).length : Int) - 1) 1 = (lst x l).f := by
  have e : ((csL (x :: l)).length : Int) - 1 = (l.length : Int) := by simp
  have h : (x :: l)[l.length]? = some (lst x l) := by
    unfold lst
    rw [← List.getLast?_cons, List.getLast?_eq_getElem?]
    simp
  have hc : ∀ k, cA (csL (x :: l)) (l.length : Int) k = (csR (lst x l)).getD k (.int 0) := fun k => cA_map (by simpa using h)
  rw [e]
  refine ⟨?_, ?_⟩ <;> simp only [cI, hc] <;> rfl
theorem law17_ChainFinal_v (n : Nat) (X : Nums) (hX : X.ok) (v8 v9 : Int) (h8 : In64 v8) (h9 : In64 v9) (hn : 200 < n) : law17_ChainFinal n X.v0 X.v1 X.v2 X.v3 X.v4 X.v5 (X.xs.map triR) (X.ys.map pnR) v8 v9 = some true := by
  obtain ⟨c, hM, hG, hl, hp, _⟩ := made_of n X hX hn
  unfold law17_ChainFinal law17_ChainFinal_1
  rw [show law17_sane n = some true from rfl, Option.bind_some, Bool.not_true, cond_false, hM, Option.bind_some]
  simp only
  have hpl : ((ptL c.ps).length : Int) = (c.ps.length : Int) := by rw [List.length_map]
  by_cases h0 : c.ps.length = 0
  · have e0 : ((ptL c.ps).length : Int) = 0 := by omega
    rw [decide_eq_true e0, cond_true, chain_Valid_v n c (by omega) hn, Option.bind_some, decide_eq_true hG.1]
  · have e0 : ¬ ((ptL c.ps).length : Int) = 0 := by omega
    have bk := pk_bd v8 (k := ((ptL c.ps).length : Int)) (by omega)
    obtain ⟨k, hk⟩ : ∃ k : Nat, pk v8 ((ptL c.ps).length : Int) = (k : Int) := ⟨(pk v8 ((ptL c.ps).length : Int)).toNat, by omega⟩
    rw [hk] at bk
    obtain ⟨p, hpp⟩ := get_lt (l := c.ps) (i := k) (by omega)
    obtain ⟨g0, g1, g2, g3, g4, g5, g6⟩ := port_cells hpp
    have hv := ch_clm hG.1 hpp
    obtain ⟨T, hT⟩ : ∃ T, T = tl c.r p.c.b (x0 c.r p.c) p.es := ⟨_, rfl⟩
    have hTL : timeline c.r p.c p.es = x0 c.r p.c :: T := by rw [hT]; rfl
    have hfin := final_hps hG.1 hpp
    rw [← hT] at hfin
    obtain ⟨z, hz⟩ : ∃ z, z = lst (x0 c.r p.c) T := ⟨_, rfl⟩
    rw [← hz] at hfin
    obtain ⟨l0, l1⟩ := csL_last (x := x0 c.r p.c) (l := T)
    rw [← hz] at l0 l1
    have hTlen : ((csL (x0 c.r p.c :: T)).length : Int) = (T.length : Int) + 1 := by rw [List.length_map]; rfl
    have hTb : T.length ≤ 110 := by
      have := timeline_len (r := c.r) (c := p.c) (es := p.es) hv.2.2.1
      rw [hTL] at this
      simp only [List.length_cons] at this; omega
    have c1 : ¬ ((csL (x0 c.r p.c :: T)).length : Int) = 0 := by omega
    have c2 : (-9223372036854775808 : Int) ≤ ((csL (x0 c.r p.c :: T)).length : Int) - 1 := by omega
    have c3 : ((csL (x0 c.r p.c :: T)).length : Int) - 1 ≤ (9223372036854775807 : Int) := by omega
    have c4 : (0 : Int) ≤ ((csL (x0 c.r p.c :: T)).length : Int) - 1 := by omega
    have c5 : ((csL (x0 c.r p.c :: T)).length : Int) - 1 < ((csL (x0 c.r p.c :: T)).length : Int) := by omega
    rw [decide_eq_false e0, cond_false, law17_pick_v n h8 (show (0 : Int) < ((ptL c.ps).length : Int) by omega), Option.bind_some, hk, decide_eq_true bk.1, cond_true, decide_eq_true bk.2, cond_true, g0, g1, g2, g3, g4, g5, g6, claim_Timeline_v n c.r p.c p.es hn, if_pos hv, Option.bind_some, hTL]
    simp only
    rw [decide_true, Bool.not_true, cond_false, decide_eq_false c1, cond_false, decide_eq_true c2, decide_eq_true c3, Bool.and_self, cond_true, decide_eq_true c4, cond_true, decide_eq_true c5, cond_true, l0, l1]
    by_cases k1 : z.s = 5
    · have hm : z.f ≤ endsV c.r p.c := timeline_ends hv z (by rw [hTL, hz]; exact lst_mem _ _)
      have hg : 0 ≤ z.f := by
        have hmem : z ∈ timeline c.r p.c p.es := by rw [hTL, hz]; exact lst_mem _ _
        have := timeline_ge hv z hmem
        have := hv.2.1
        unfold ClV at this
        omega
      have hb := hG.2 p (List.mem_of_getElem? hpp)
      have d1 : ¬ z.f < 0 := by omega
      have d2 : ¬ (20000000 : Int) < z.f := by omega
      obtain ⟨t, hTm, t0, t1⟩ := ref17_Time_v n c v9 hG.1 h9 hn
      obtain ⟨u, hu⟩ : ∃ u, u = imax t z.f := ⟨_, rfl⟩
      have u1 : z.f ≤ u := by rw [hu]; unfold imax; split <;> omega
      have u2 : u ≤ 20000000 := by rw [hu]; unfold imax; split <;> omega
      have hA := chain_At_v n c z.f (by omega) hn
      rw [if_pos ⟨hG.1, hg, by omega⟩] at hA
      have hB := chain_At_v n c u (by omega) hn
      rw [if_pos ⟨hG.1, by omega, u2⟩] at hB
      have hkeep := final_keep hG.1 (k := (k : Int)) (s := z.f) (t := u) (fun h hh hhk => hfin k1 h hh hhk) u1
      have f1 := forceAt_len hG.1 z.f
      have f2 := forceAt_len hG.1 u
      rw [decide_eq_true k1, Bool.not_true, cond_false, decide_eq_false d1, cond_false, decide_eq_false d2, cond_false, hA, Option.bind_some, hTm, Option.bind_some, ← hu, hB, Option.bind_some]
      simp only
      rw [decide_true, cond_true, cond_true, has_fo n _ _ (by omega) (by omega), Option.bind_some, has_fo n _ _ (by omega) (by omega), Option.bind_some]
      by_cases q : (k : Int) ∈ forceAt c z.f
      · rw [decide_eq_true q, decide_eq_true (hkeep.1 q)]; rfl
      · rw [decide_eq_false q, decide_eq_false (fun h => q (hkeep.2 h))]; rfl
    · rw [decide_eq_false k1, Bool.not_false, cond_true]
theorem law17_ChainFinal_law : ∀ s : tupT (Ps.tys law17_ChainFinal_t.ps), TupOk (Ps.tys law17_ChainFinal_t.ps) s → ∃ n z, law17_ChainFinal_t.fn n s = some z ∧ rdec law17_ChainFinal_t.sh z = .b true := by
  rintro ⟨v0, v1, v2, v3, v4, v5, v6, v7, v8, v9⟩ hs
  obtain ⟨⟨X, hX, rfl, rfl, rfl, rfl, rfl, rfl, rfl, rfl⟩, hr⟩ := nums_of (rest := [.int v8, .int v9]) hs
  exact ⟨300, true, law17_ChainFinal_v 300 X hX v8 v9 (int_of (hr _ (by simp))) (int_of (hr _ (by simp))) (by decide), rfl⟩
end Go.Proofs.Ytjllgiddmeiaoaa
