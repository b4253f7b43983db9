/-
  The law ChainHolder as a plain function: it gives true.
-/
import Derived.Test.YtjllgiddmeiaoaaQN
import Derived.Test.YtjllgiddmeiaoaaE8
set_option linter.unusedVariables false
set_option linter.unusedSimpArgs false
set_option maxRecDepth 100000
namespace Go.Proofs.Ytjllgiddmeiaoaa
open Go Go.Sx Go.Dial.Clm Go.Dial.Lif Go.Dial.Chn
theorem law17_ChainHolder_v (n : Nat) (X : Nums) (hX : X.ok) (hn : 200 < n) : law17_ChainHolder n X.v0 X.v1 X.v2 X.v3 X.v4 X.v5 (X.xs.map triR) (X.ys.map pnR) = some true := by
  obtain ⟨c, hM, hG, hl, hp, _⟩ := made_of n X hX hn
  have hT := chain_Turns_v n c (by omega) hn
  rw [if_pos hG.1] at hT
  unfold law17_ChainHolder law17_ChainHolder_1
  rw [show law17_sane n = some true from rfl, Option.bind_some, Bool.not_true, cond_false, hM, Option.bind_some]
  simp only
  rw [hT, Option.bind_some]
  simp only
  rw [decide_true, Bool.not_true, cond_false]
  obtain ⟨T, hTT⟩ : ∃ T, T = turnsV c := ⟨_, rfl⟩
  have hTl : T.length ≤ 32 := by rw [hTT]; exact turnsV_len hG.1
  have hmem : ∀ m ∈ T, m ∈ turnsV c := fun m hm => by rw [← hTT]; exact hm
  rw [← hTT]
  have hTll : ((tnL T).length : Int) = (T.length : Int) := by rw [List.length_map]
  have hpl : ((ptL c.ps).length : Int) = (c.ps.length : Int) := by rw [List.length_map]
  refine iterF_ind (fun s => ∃ i : Nat, s = (i : Int) ∧ i ≤ T.length) (fun s => T.length - s.toNat) _ ?_ n _ ⟨0, rfl, by omega⟩ (by simp; omega)
  rintro _ go ⟨i, rfl, hi⟩ ih
  unfold law17_ChainHolder_2
  by_cases hlt : i < T.length
  · obtain ⟨m, hm⟩ := get_lt hlt
    have hc : ∀ k, cA (tnL T) (i : Int) k = (tnR m).getD k (.int 0) := fun k => cA_map (by simpa using hm)
    have m0 : cI (tnL T) (i : Int) 0 = m.a := by simp only [cI, hc]; rfl
    have m1 : cI (tnL T) (i : Int) 1 = m.p := by simp only [cI, hc]; rfl
    have m2 : cI (tnL T) (i : Int) 2 = m.k := by simp only [cI, hc]; rfl
    have hmm := hmem m (List.mem_of_getElem? hm)
    have hbd := turns_bd hG m hmm
    have d1 : (i : Int) < ((tnL T).length : Int) := by omega
    have d2 : (0 : Int) ≤ (i : Int) := by omega
    have d4 : (-9223372036854775808 : Int) ≤ (i : Int) + 1 := by omega
    have d5 : (i : Int) + 1 ≤ (9223372036854775807 : Int) := by omega
    have hgo := ih ((i : Int) + 1) ⟨i + 1, by omega, by omega⟩ (by omega)
    rw [decide_eq_true d1, cond_true, decide_eq_true d2, cond_true, m0, m1, m2]
    by_cases k1 : m.k = 1
    · obtain ⟨hin, t1, t2⟩ := turn_holder hmm k1
      have hx : imax m.a 0 = m.a := by unfold imax; rw [if_neg (by omega)]
      obtain ⟨_, _, g3⟩ := port_to (c := c) hin
      have e1 : ¬ m.p < 0 := by omega
      have e2 : ¬ ((ptL c.ps).length : Int) ≤ m.p := by omega
      have e3 : m.p < ((ptL c.ps).length : Int) := by omega
      rw [decide_eq_true k1, Bool.not_true, cond_false, hx, at_T hG.1.1 hbd.1 n (by omega), Option.bind_some]
      simp only
      rw [decide_true, Bool.not_true, cond_false, decide_eq_false e1, cond_false, decide_eq_false e2, cond_false, decide_eq_true t1, Bool.not_true, cond_false, decide_eq_true hin.1, cond_true, decide_eq_true e3, cond_true, g3, decide_eq_true t2, Bool.not_true, cond_false, decide_eq_true d4, decide_eq_true d5, Bool.and_self, cond_true]
      exact hgo
    · rw [decide_eq_false k1, Bool.not_false, cond_true, decide_eq_true d4, decide_eq_true d5, Bool.and_self, cond_true]
      exact hgo
  · have d1 : ¬ (i : Int) < ((tnL T).length : Int) := by omega
    have hV2 : ChV ⟨c.n, c.f, c.r, [], c.ps⟩ := ⟨⟨trivial, by simp⟩, hG.1.2⟩
    have hH := chain_Holders_v n ⟨c.n, c.f, c.r, [], c.ps⟩ (by simp; omega) hn
    rw [if_pos hV2, bare_hold rfl] at hH
    have hH : chain_Holders n c.n c.f c.r.a c.r.c c.r.s c.r.r ([] : Lv) (ptL c.ps) = some (hdV [⟨c.f, 0, 20000001⟩], 0) := hH
    rw [decide_eq_false d1, cond_false, hH, Option.bind_some]
    simp only
    have e1 : ((hdV [⟨c.f, 0, 20000001⟩]).length : Int) = 1 := rfl
    have e2 : (0 : Int) < ((hdV [⟨c.f, 0, 20000001⟩]).length : Int) := by rw [e1]; decide
    have e3 : cI (hdV [⟨c.f, 0, 20000001⟩]) 0 0 = c.f := rfl
    rw [decide_true, cond_true, decide_eq_true e1, cond_true, decide_eq_true e2, cond_true, e3, decide_eq_true rfl]
theorem law17_ChainHolder_law : ∀ s : tupT (Ps.tys law17_ChainHolder_t.ps), TupOk (Ps.tys law17_ChainHolder_t.ps) s → ∃ n z, law17_ChainHolder_t.fn n s = some z ∧ rdec law17_ChainHolder_t.sh z = .b true := by
  rintro ⟨v0, v1, v2, v3, v4, v5, v6, v7⟩ hs
  obtain ⟨⟨X, hX, rfl, rfl, rfl, rfl, rfl, rfl, rfl, rfl⟩, hr⟩ := nums_of (rest := []) hs
  exact ⟨300, true, law17_ChainHolder_v 300 X hX (by decide), rfl⟩
end Go.Proofs.Ytjllgiddmeiaoaa
