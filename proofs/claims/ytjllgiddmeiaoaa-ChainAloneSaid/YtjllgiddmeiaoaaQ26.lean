/-
  The law ChainAlone as a plain function: it gives true.
-/
import Derived.Test.YtjllgiddmeiaoaaQN
import Derived.Test.YtjllgiddmeiaoaaE11
import Derived.Test.YtjllgiddmeiaoaaChnY
set_option linter.unusedVariables false
set_option linter.unusedSimpArgs false
set_option maxRecDepth 100000
namespace Go.Proofs.Ytjllgiddmeiaoaa
open Go Go.Sx Go.Dial.Clm Go.Dial.Lif Go.Dial.Chn
theorem tn_first (m : Mo) (T : List Mo) : cI (tnL (m :: T)) 0 2 = m.k := rfl
theorem law17_ChainAlone_v (n : Nat) (X : Nums) (hX : X.ok) (v8 v9 : Int) (h8 : In64 v8) (h9 : In64 v9) (hn : 200 < n) : law17_ChainAlone n X.v0 X.v1 X.v2 X.v3 X.v4 X.v5 (X.xs.map triR) (X.ys.map pnR) v8 v9 = some true := by
  obtain ⟨c, hM, hG, hl, hp, hgp⟩ := made_of n X hX hn
  unfold law17_ChainAlone law17_ChainAlone_1
  rw [show law17_sane n = some true from rfl, Option.bind_some, Bool.not_true, cond_false, hM, Option.bind_some]
  simp only
  have hpl : ((ptL c.ps).length : Int) = (c.ps.length : Int) := by rw [List.length_map]
  by_cases h0 : c.ps.length = 0
  · have e0 : ((ptL c.ps).length : Int) = 0 := by omega
    rw [decide_eq_true e0, cond_true, chain_Valid_v n c (by omega) hn, Option.bind_some, decide_eq_true hG.1]
  · have e0 : ¬ ((ptL c.ps).length : Int) = 0 := by omega
    have bk := pk_bd v8 (k := ((ptL c.ps).length : Int)) (by omega)
    obtain ⟨k, hk⟩ : ∃ k : Nat, pk v8 ((ptL c.ps).length : Int) = (k : Int) := ⟨(pk v8 ((ptL c.ps).length : Int)).toNat, by omega⟩
    rw [hk] at bk
    obtain ⟨p, hpp⟩ := get_lt (l := c.ps) (i := k) (by omega)
    obtain ⟨g0, g1, g2, g3, g4, g5, g6⟩ := port_cells hpp
    have hv := ch_clm hG.1 hpp
    have hpg := hgp p (List.mem_of_getElem? hpp)
    obtain ⟨d, hd⟩ : ∃ d : Ch, d = ⟨c.n, p.c.f, c.r, c.life, [p]⟩ := ⟨_, rfl⟩
    have hcl := hv.2.1
    have hdV : ChV d := by
      obtain ⟨q1, q2, q3, q4, q5, q6, q7⟩ := hG.1
      unfold ClV at hcl
      rw [hd]
      refine ⟨q1, q2, q3, ?_, ?_, by simp, ⟨⟨hpg.1, hv, ?_⟩, trivial⟩⟩ <;> (try simp only) <;> omega
    have hrow : ([] : Lv) ++ [[(AV.int p.c.n), (AV.int p.c.f), (AV.int p.c.t), (AV.int p.c.h), (AV.int p.c.a), (AV.bool p.c.b), (AV.sl (.cons .int (.cons .int (.cons .int .nil))) (ceL p.es))]] = ptL d.ps := by rw [hd]; rfl
    obtain ⟨t, hTm, t0, t1⟩ := ref17_Time_v n d v9 hdV h9 hn
    have hT := chain_Turns_v n d (by rw [hd]; show c.life.length < n; omega) hn
    rw [if_pos hdV] at hT
    have hA := chain_At_v n d t (by rw [hd]; show c.life.length < n; omega) hn
    rw [if_pos ⟨hdV, t0, t1⟩] at hA
    have hW := claim_With_v n c.r p.c p.es t hn
    rw [if_pos ⟨hv, t0, t1⟩] at hW
    have hdn : d.n = c.n ∧ d.f = p.c.f ∧ d.r = c.r ∧ d.life = c.life := by rw [hd]; exact ⟨rfl, rfl, rfl, rfl⟩
    obtain ⟨n1, n2, n3, n4⟩ := hdn
    have hal := alone_law hdV (p := p) (by rw [hd]) n2 t
    rw [n1, n2, n3, n4] at hTm hT hA
    rw [n2, n3] at hal
    rw [decide_eq_false e0, cond_false, law17_pick_v n h8 (show (0 : Int) < ((ptL c.ps).length : Int) by omega), Option.bind_some, hk, decide_eq_true bk.1, cond_true, decide_eq_true bk.2, cond_true, g0, g1, g2, g3, g4, g5, g6, hrow, hTm, Option.bind_some, hT, Option.bind_some, hA, Option.bind_some, hW, Option.bind_some]
    simp only
    rw [decide_true, Bool.not_true, cond_false, cond_false, cond_false]
    rcases hal with ⟨e1, e2⟩ | ⟨m, T, e1, e2, e3⟩ | ⟨m, T, e1, e2, e3⟩
    · have f1 : ((tnL (turnsV d)).length : Int) = 0 := by rw [e1]; rfl
      rw [decide_eq_true f1, cond_true, decide_eq_true e2]
    · have f1 : ¬ ((tnL (m :: T)).length : Int) = 0 := by simp; omega
      have f2 : (0 : Int) < ((tnL (m :: T)).length : Int) := by simp
      rw [e1, decide_eq_false f1, cond_false, decide_eq_true f2, cond_true, tn_first, decide_eq_true e2, cond_true, decide_eq_true e3]
    · have f1 : ¬ ((tnL (m :: T)).length : Int) = 0 := by simp; omega
      have f2 : (0 : Int) < ((tnL (m :: T)).length : Int) := by simp
      have f3 : ¬ m.k = 2 := by omega
      rw [e1, decide_eq_false f1, cond_false, decide_eq_true f2, cond_true, tn_first, decide_eq_false f3, cond_false, decide_eq_true e2, cond_true, decide_eq_true e3]
theorem law17_ChainAlone_law : ∀ s : tupT (Ps.tys law17_ChainAlone_t.ps), TupOk (Ps.tys law17_ChainAlone_t.ps) s → ∃ n z, law17_ChainAlone_t.fn n s = some z ∧ rdec law17_ChainAlone_t.sh z = .b true := by
  rintro ⟨v0, v1, v2, v3, v4, v5, v6, v7, v8, v9⟩ hs
  obtain ⟨⟨X, hX, rfl, rfl, rfl, rfl, rfl, rfl, rfl, rfl⟩, hr⟩ := nums_of (rest := [.int v8, .int v9]) hs
  exact ⟨300, true, law17_ChainAlone_v 300 X hX v8 v9 (int_of (hr _ (by simp))) (int_of (hr _ (by simp))) (by decide), rfl⟩
end Go.Proofs.Ytjllgiddmeiaoaa
