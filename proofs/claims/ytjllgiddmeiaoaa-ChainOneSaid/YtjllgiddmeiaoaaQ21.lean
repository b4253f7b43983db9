/-
  The law ChainOne as a plain function: it gives true.
-/
import Derived.Test.YtjllgiddmeiaoaaQN
import Derived.Test.YtjllgiddmeiaoaaE3
set_option linter.unusedVariables false
set_option linter.unusedSimpArgs false
set_option maxRecDepth 100000
namespace Go.Proofs.Ytjllgiddmeiaoaa
open Go Go.Sx Go.Dial.Clm Go.Dial.Lif Go.Dial.Chn
theorem hdc {L : List Hd} {i : Nat} {p : Hd} (h : L[i]? = some p) : cI (hdV L) (i : Int) 0 = p.c ∧ cI (hdV L) (i : Int) 1 = p.f ∧ cI (hdV L) (i : Int) 2 = p.t := by
  have hc : ∀ k, cA (hdV L) (i : Int) k = (hdR p).getD k (.int 0) := fun k => cA_map (by simpa using h)
  refine ⟨?_, ?_, ?_⟩ <;> simp only [cI, hc] <;> rfl
theorem holdV_len {c : Ch} (h : ChV c) : (holdV c).length ≤ 100 := by
  have h1 := holdF_len c (turnsV c) [⟨c.f, 0, 0⟩]
  have h2 := moms_len c (hps c) []
  have h3 := hps_len c
  have h4 := h.2.2.2.2.2.1
  have : (closeH (holdF c [⟨c.f, 0, 0⟩] (turnsV c))).length = (holdF c [⟨c.f, 0, 0⟩] (turnsV c)).length := by
    cases holdF c [⟨c.f, 0, 0⟩] (turnsV c) <;> rfl
  unfold holdV
  rw [List.length_reverse, this]
  have h5 : (turnsV c).length ≤ 2 * (hps c).length := by
    show (moms c [] (hps c)).length ≤ _
    simpa using h2
  simp only [List.length_cons, List.length_nil] at h1
  omega
theorem one_links (n : Nat) (c : Ch) (t : Int) (hV : ChV c) (hn : 200 < n) : iterF (fun go0 s => law17_ChainOne_4 n go0 (ptL c.ps) (withV c (forceAt c t)) (foL (forceAt c t)) s.1 s.2) n ((c.f, 0) : law17_ChainOne_s0) = some true := by
  obtain ⟨F, hF⟩ : ∃ F, F = (forceAt c t).reverse := ⟨_, rfl⟩
  have hG : forceAt c t = F.reverse := by rw [hF, List.reverse_reverse]
  have hlen : F.length ≤ 16 := by rw [hF, List.length_reverse]; exact forceAt_len hV t
  refine iterF_ind (fun s => ∃ i : Nat, s = (withV c (F.take i).reverse, (i : Int)) ∧ i ≤ F.length) (fun s => F.length - s.2.toNat) _ ?_ n _ ⟨0, rfl, by omega⟩ (by simp; omega)
  rintro _ go ⟨i, rfl, hi⟩ ih
  simp only
  unfold law17_ChainOne_4
  have hfl : ((foL (forceAt c t)).length : Int) = (F.length : Int) := by rw [foL_len, hG, List.length_reverse]
  by_cases hlt : i < F.length
  · obtain ⟨x, hx⟩ := get_lt hlt
    have hsplit : forceAt c t = (F.drop (i + 1)).reverse ++ x :: (F.take i).reverse := by
      have : F = F.take i ++ x :: F.drop (i + 1) := by
        obtain ⟨q1, q2⟩ := List.getElem?_eq_some_iff.1 hx
        rw [← q2]; simp
      rw [hG]
      conv => lhs; rw [this]
      simp
    obtain ⟨hin, hfrom⟩ := force_from hV hsplit
    obtain ⟨g1, g2, _⟩ := port_to (c := c) hin
    have hcx : cI (foL (forceAt c t)) (i : Int) 0 = x := foL_cell (by rw [← hF]; exact hx)
    have c1 : (i : Int) < ((foL (forceAt c t)).length : Int) := by omega
    have c2 : (0 : Int) ≤ (i : Int) := by omega
    have c3 : ¬ x < 0 := by omega
    have hpl : ((ptL c.ps).length : Int) = (c.ps.length : Int) := by rw [List.length_map]
    have c4 : ¬ ((ptL c.ps).length : Int) ≤ x := by omega
    have c5 : (0 : Int) ≤ x := hin.1
    have c6 : x < ((ptL c.ps).length : Int) := by omega
    have c7 : (portAt c x).c.f = withV c (F.take i).reverse := hfrom.symm
    have c8 : (-9223372036854775808 : Int) ≤ (i : Int) + 1 := by omega
    have c9 : (i : Int) + 1 ≤ (9223372036854775807 : Int) := by omega
    rw [decide_eq_true c1, cond_true, decide_eq_true c2, cond_true, hcx, decide_eq_false c3, cond_false, decide_eq_false c4, cond_false, decide_eq_true c5, cond_true, decide_eq_true c6, cond_true, g1, g2, decide_eq_true c7, Bool.not_true, cond_false, decide_eq_true c8, decide_eq_true c9, Bool.and_self, cond_true]
    refine ih _ ⟨i + 1, ?_, by omega⟩ (by simp only; omega)
    rw [take_snoc hx]
    simp [withV]
  · have h0 : i = F.length := by omega
    have c1 : ¬ (i : Int) < ((foL (forceAt c t)).length : Int) := by omega
    rw [decide_eq_false c1, cond_false, h0, List.take_length, ← hG, decide_eq_true rfl]
theorem law17_ChainOne_v (n : Nat) (X : Nums) (hX : X.ok) (v8 : Int) (h8 : In64 v8) (hn : 200 < n) : law17_ChainOne n X.v0 X.v1 X.v2 X.v3 X.v4 X.v5 (X.xs.map triR) (X.ys.map pnR) v8 = some true := by
  obtain ⟨c, hM, hG, hl, hp, _⟩ := made_of n X hX hn
  obtain ⟨t, hT, t0, t1⟩ := ref17_Time_v n c v8 hG.1 h8 hn
  have hH := chain_Holders_v n c (by omega) hn
  rw [if_pos hG.1] at hH
  have hA := chain_At_v n c t (by omega) hn
  rw [if_pos ⟨hG.1, t0, t1⟩] at hA
  unfold law17_ChainOne law17_ChainOne_1
  rw [show law17_sane n = some true from rfl, Option.bind_some]
  unfold law17_ChainOne_2
  rw [Bool.not_true, cond_false, hM, Option.bind_some]
  simp only
  rw [hT, Option.bind_some, hH, Option.bind_some, hA, Option.bind_some]
  simp only
  rw [decide_true, Bool.not_true, cond_false, cond_false]
  obtain ⟨s1, s2, s3, s4⟩ := one_spells hG
  have hlen := holdV_len hG.1
  obtain ⟨L, hL⟩ : ∃ L, L = holdV c := ⟨_, rfl⟩
  rw [← hL] at s1 s2 s3 s4 hlen ⊢
  have hLl : ((hdV L).length : Int) = (L.length : Int) := by rw [List.length_map]
  have hpos : 0 < L.length := List.length_pos_iff.2 s1
  obtain ⟨p0, hp0⟩ := get_lt hpos
  obtain ⟨pz, hpz⟩ := get_lt (l := L) (i := L.length - 1) (by omega)
  have e1 : ¬ ((hdV L).length : Int) = 0 := by omega
  have e2 : (0 : Int) < ((hdV L).length : Int) := by omega
  have e3 : cI (hdV L) 0 1 = 0 := (hdc hp0).2.1.trans (s2 p0 hp0)
  have e4 : (-9223372036854775808 : Int) ≤ ((hdV L).length : Int) - 1 := by omega
  have e5 : ((hdV L).length : Int) - 1 ≤ (9223372036854775807 : Int) := by omega
  have e6 : (0 : Int) ≤ ((hdV L).length : Int) - 1 := by omega
  have e7 : ((hdV L).length : Int) - 1 < ((hdV L).length : Int) := by omega
  have e8 : cI (hdV L) (((hdV L).length : Int) - 1) 2 = 20000001 := by
    rw [← s3 pz hpz, show ((hdV L).length : Int) - 1 = ((L.length - 1 : Nat) : Int) by omega]; exact (hdc hpz).2.2
  rw [decide_eq_false e1, cond_false, decide_eq_true e2, cond_true, decide_eq_true e3, Bool.not_true, cond_false, decide_eq_true e4, decide_eq_true e5, Bool.and_self, cond_true, decide_eq_true e6, cond_true, decide_eq_true e7, cond_true, decide_eq_true e8, Bool.not_true, cond_false]
  refine iterF_ind (fun s => ∃ i : Nat, s = (i : Int) ∧ i ≤ L.length) (fun s => L.length - s.toNat) _ ?_ n _ ⟨0, rfl, by omega⟩ (by simp; omega)
  rintro _ go ⟨i, rfl, hi⟩ ih
  unfold law17_ChainOne_3
  by_cases hlt : i < L.length
  · obtain ⟨p, hpp⟩ := get_lt hlt
    obtain ⟨g0, g1, g2⟩ := hdc hpp
    obtain ⟨q1, q2, q3⟩ := s4 i p hpp
    have c1 : (i : Int) < ((hdV L).length : Int) := by omega
    have c2 : (0 : Int) ≤ (i : Int) := by omega
    have c3 : ¬ p.t ≤ p.f := by omega
    have c8 : (-9223372036854775808 : Int) ≤ (i : Int) + 1 := by omega
    have c9 : (i : Int) + 1 ≤ (9223372036854775807 : Int) := by omega
    have hgo := ih ((i : Int) + 1) ⟨i + 1, by omega, by omega⟩ (by omega)
    have hrest : (bif (decide (p.f ≤ t)) then (bif (decide (t < p.t)) then (bif (!(decide (p.c = withV c (forceAt c t)))) then some false
      else bif ((decide ((-9223372036854775808) ≤ ((i : Int) + 1))) && (decide (((i : Int) + 1) ≤ 9223372036854775807))) then go ((i : Int) + 1) else none)
      else bif ((decide ((-9223372036854775808) ≤ ((i : Int) + 1))) && (decide (((i : Int) + 1) ≤ 9223372036854775807))) then go ((i : Int) + 1) else none)
      else bif ((decide ((-9223372036854775808) ≤ ((i : Int) + 1))) && (decide (((i : Int) + 1) ≤ 9223372036854775807))) then go ((i : Int) + 1) else none) = some true := by
      rw [decide_eq_true c8, decide_eq_true c9, Bool.and_self, cond_true]
      by_cases k1 : p.f ≤ t
      · rw [decide_eq_true k1, cond_true]
        by_cases k2 : t < p.t
        · rw [decide_eq_true k2, cond_true, decide_eq_true (q3 t k1 k2), Bool.not_true, cond_false]; exact hgo
        · rw [decide_eq_false k2, cond_false]; exact hgo
      · rw [decide_eq_false k1, cond_false]; exact hgo
    rw [decide_eq_true c1, cond_true, decide_eq_true c2, cond_true, g0, g1, g2, decide_eq_false c3, cond_false]
    by_cases h0 : 0 < i
    · obtain ⟨q, hq⟩ := get_lt (l := L) (i := i - 1) (by omega)
      obtain ⟨r1, r2⟩ := q2 q h0 hq
      obtain ⟨f0, _, f2⟩ := hdc hq
      have d1 : (0 : Int) < (i : Int) := by omega
      have d2 : (-9223372036854775808 : Int) ≤ (i : Int) - 1 := by omega
      have d3 : (i : Int) - 1 ≤ (9223372036854775807 : Int) := by omega
      have d4 : (0 : Int) ≤ (i : Int) - 1 := by omega
      have d5 : (i : Int) - 1 < ((hdV L).length : Int) := by omega
      have d6 : (i : Int) - 1 = ((i - 1 : Nat) : Int) := by omega
      rw [decide_eq_true d1, cond_true, decide_eq_true d2, decide_eq_true d3, Bool.and_self, cond_true, decide_eq_true d4, cond_true, decide_eq_true d5, cond_true, d6, f0, f2, decide_eq_true r1, Bool.not_true, cond_false, decide_eq_false r2, cond_false]
      exact hrest
    · have d1 : ¬ (0 : Int) < (i : Int) := by omega
      rw [decide_eq_false d1, cond_false]
      exact hrest
  · have c1 : ¬ (i : Int) < ((hdV L).length : Int) := by omega
    rw [decide_eq_false c1, cond_false]
    exact one_links n c t hG.1 hn
theorem law17_ChainOne_law : ∀ s : tupT (Ps.tys law17_ChainOne_t.ps), TupOk (Ps.tys law17_ChainOne_t.ps) s → ∃ n z, law17_ChainOne_t.fn n s = some z ∧ rdec law17_ChainOne_t.sh z = .b true := by
  rintro ⟨v0, v1, v2, v3, v4, v5, v6, v7, v8⟩ hs
  obtain ⟨⟨X, hX, rfl, rfl, rfl, rfl, rfl, rfl, rfl, rfl⟩, hr⟩ := nums_of (rest := [.int v8]) hs
  exact ⟨300, true, law17_ChainOne_v 300 X hX v8 (int_of (hr _ (by simp))) (by decide), rfl⟩
end Go.Proofs.Ytjllgiddmeiaoaa
