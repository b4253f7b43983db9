/-
  The law ChainNumbers as a plain function: it gives true.
-/
import Derived.Test.YtjllgiddmeiaoaaQN
import Derived.Test.YtjllgiddmeiaoaaE10
set_option linter.unusedVariables false
set_option linter.unusedSimpArgs false
set_option maxRecDepth 100000
namespace Go.Proofs.Ytjllgiddmeiaoaa
open Go Go.Sx Go.Dial.Clm Go.Dial.Lif Go.Dial.Chn
theorem not_life (es : List Ev) : ¬ Life (es ++ [⟨7, 0, -1⟩]) := fun h => by
  have h1 := h.1
  rw [all_app] at h1
  obtain ⟨ha, hb, _⟩ := h1
  have hv := all_vld vld_first ha
  have hp := hb.2.2
  unfold Pos at hp
  unfold Vld at hv
  simp only at hp
  omega
theorem set_port {ps : List Pt} {k : Nat} {p : Pt} (hp : ps[k]? = some p) (v : Int) : List.modify (ptL ps) ((k : Int)).toNat (fun r => r.set 0 (AV.int v)) = ptL (ps.set k ⟨⟨v, p.c.f, p.c.t, p.c.h, p.c.a, p.c.b⟩, p.es⟩) := by
  rw [show (k : Int).toNat = k by omega, modify_set (x := ptR p) (by simp [hp])]
  show _ = (ps.set k _).map ptR
  rw [List.map_set]
  rfl
theorem law17_ChainNumbers_v (n : Nat) (X : Nums) (hX : X.ok) (v8 v9 : Int) (h8 : In64 v8) (hn : 200 < n) : law17_ChainNumbers n X.v0 X.v1 X.v2 X.v3 X.v4 X.v5 (X.xs.map triR) (X.ys.map pnR) v8 v9 = some true := by
  obtain ⟨c, hM, hG, hl, hp, hgp⟩ := made_of n X hX hn
  unfold law17_ChainNumbers law17_ChainNumbers_1
  rw [show law17_sane n = some true from rfl, Option.bind_some, Bool.not_true, cond_false, hM, Option.bind_some]
  simp only
  have hpl : ((ptL c.ps).length : Int) = (c.ps.length : Int) := by rw [List.length_map]
  have hnl := not_life c.life
  have e1 : (((evL c.life).length : Int) + 1) * 24 ≤ 140737488355328 := by rw [List.length_map]; omega
  have hev : evL c.life ++ [[(AV.int 7), (AV.int 0), (AV.int (-1))]] = evL (c.life ++ [⟨7, 0, -1⟩]) := by simp
  have hV2 := chain_Valid_v n ⟨c.n, c.f, c.r, c.life ++ [⟨7, 0, -1⟩], c.ps⟩ (by simp; omega) hn
  have hn2 : ¬ ChV ⟨c.n, c.f, c.r, c.life ++ [⟨7, 0, -1⟩], c.ps⟩ := fun h => hnl h.1
  rw [decide_eq_false hn2] at hV2
  simp only at hV2
  have hR := life_Run_v n (c.life ++ [⟨7, 0, -1⟩]) (by simp; omega)
  rw [runT, runR_no hnl] at hR
  have hI := ref14_Is_v n (c.life ++ [⟨7, 0, -1⟩]) (by simp; omega)
  rw [decide_eq_false hnl] at hI
  have e140 : ¬ (140 : Int) = 0 := by decide
  rw [chain_Valid_v n c (by omega) hn, Option.bind_some, decide_eq_true hG.1, Bool.not_true, cond_false, ref17_Copy_v n c (by omega) (by omega) (fun p hpp => by have := (hgp p hpp).2.2.2.1; omega) (by omega), Option.bind_some]
  simp only
  rw [decide_eq_true e1, cond_true, hev, hR, Option.bind_some]
  simp only
  rw [decide_eq_false e140, cond_false, hV2, Option.bind_some, cond_false, hI, Option.bind_some, cond_false]
  by_cases h0 : c.ps.length = 0
  · have e0 : ((ptL c.ps).length : Int) = 0 := by omega
    rw [decide_eq_true e0, cond_true]
  · have e0 : ¬ ((ptL c.ps).length : Int) = 0 := by omega
    have e2 : ((ptL c.ps).length : Int) * 72 ≤ 140737488355328 := by omega
    have bk := pk_bd v8 (k := ((ptL c.ps).length : Int)) (by omega)
    obtain ⟨k, hk⟩ : ∃ k : Nat, pk v8 ((ptL c.ps).length : Int) = (k : Int) := ⟨(pk v8 ((ptL c.ps).length : Int)).toNat, by omega⟩
    rw [hk] at bk
    obtain ⟨p, hpp⟩ := get_lt (l := c.ps) (i := k) (by omega)
    have hv := ch_clm hG.1 hpp
    have hpn := (hgp p (List.mem_of_getElem? hpp)).1
    rw [decide_eq_false e0, cond_false, decide_eq_true e2, cond_true, law17_pick_v n h8 (show (0 : Int) < ((ptL c.ps).length : Int) by omega), Option.bind_some, hk, decide_eq_true bk.1, cond_true, decide_eq_true bk.2, cond_true, set_port hpp]
    have hV3 := chain_Valid_v n ⟨c.n, c.f, c.r, c.life, c.ps.set k ⟨⟨v9, p.c.f, p.c.t, p.c.h, p.c.a, p.c.b⟩, p.es⟩⟩ (by simp only; omega) hn
    simp only at hV3
    rw [hV3, Option.bind_some]
    by_cases q : v9 = c.n
    · have hsame : c.ps.set k ⟨⟨v9, p.c.f, p.c.t, p.c.h, p.c.a, p.c.b⟩, p.es⟩ = c.ps := by
        have : (⟨⟨v9, p.c.f, p.c.t, p.c.h, p.c.a, p.c.b⟩, p.es⟩ : Pt) = p := by rw [q, ← hpn]
        rw [this]
        obtain ⟨a1, a2⟩ := List.getElem?_eq_some_iff.1 hpp
        rw [← a2]; exact List.set_getElem_self a1
      rw [hsame, decide_eq_true q, decide_eq_true (show ChV ⟨c.n, c.f, c.r, c.life, c.ps⟩ from hG.1)]; rfl
    · have hno : ¬ ChV ⟨c.n, c.f, c.r, c.life, c.ps.set k ⟨⟨v9, p.c.f, p.c.t, p.c.h, p.c.a, p.c.b⟩, p.es⟩⟩ := fun h => by
        have := (ptsV_mem h.2.2.2.2.2.2 ⟨⟨v9, p.c.f, p.c.t, p.c.h, p.c.a, p.c.b⟩, p.es⟩ (List.mem_set (by have := (List.getElem?_eq_some_iff.1 hpp).1; omega) _)).1
        exact q this
      rw [decide_eq_false q, decide_eq_false hno]; rfl
theorem law17_ChainNumbers_law : ∀ s : tupT (Ps.tys law17_ChainNumbers_t.ps), TupOk (Ps.tys law17_ChainNumbers_t.ps) s → ∃ n z, law17_ChainNumbers_t.fn n s = some z ∧ rdec law17_ChainNumbers_t.sh z = .b true := by
  rintro ⟨v0, v1, v2, v3, v4, v5, v6, v7, v8, v9⟩ hs
  obtain ⟨⟨X, hX, rfl, rfl, rfl, rfl, rfl, rfl, rfl, rfl⟩, hr⟩ := nums_of (rest := [.int v8, .int v9]) hs
  exact ⟨300, true, law17_ChainNumbers_v 300 X hX v8 v9 (int_of (hr _ (by simp))) (by decide), rfl⟩
end Go.Proofs.Ytjllgiddmeiaoaa
