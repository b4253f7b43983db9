/-
  The law ChainLater as a plain function: it gives true.
-/
import Derived.Test.YtjllgiddmeiaoaaQN
import Derived.Test.YtjllgiddmeiaoaaE9
import Derived.Test.YtjllgiddmeiaoaaChnK
set_option linter.unusedVariables false
set_option linter.unusedSimpArgs false
set_option linter.unusedSectionVars false
set_option maxRecDepth 100000
namespace Go.Proofs.Ytjllgiddmeiaoaa
open Go Go.Sx Go.Dial.Clm Go.Dial.Lif Go.Dial.Chn
theorem open_late {r : Rl} {t : Int} : ∀ {ps : List Pt} {i : Nat}, (∀ p ∈ ps, t < p.c.a) → openFrom r t i ps = []
  | [], _, _ => rfl
  | p :: ps, i, h => by
    have h1 := h p (List.mem_cons_self ..)
    have h0 : (outV r p.c p.es t).s = 0 := by
      unfold outV upTo timeline
      rw [List.takeWhile_cons_of_neg (by show ¬ decide (p.c.a ≤ t) = true; simp; omega)]
      rfl
    rw [openFrom, open_late fun q hq => h q (List.mem_cons_of_mem _ hq), h0, if_neg (by decide)]
    rfl
theorem open_early {n : Int} {r : Rl} {t : Int} : ∀ {ps : List Pt} {i : Nat} {last : Int}, PtsV n r last ps → openFrom r t i (psUp t ps) = openFrom r t i ps
  | [], _, _, _ => rfl
  | p :: ps, i, last, h => by
    by_cases hp : p.c.a ≤ t
    · have e : psUp t (p :: ps) = ptUp t p :: psUp t ps := by
        unfold psUp
        rw [List.takeWhile_cons_of_pos (by simpa using hp), List.map_cons]
      rw [e, openFrom, openFrom, open_early (i := i + 1) h.2]
      show (if 1 ≤ (outV r p.c (evUp t p.es) t).s ∧ (outV r p.c (evUp t p.es) t).s ≤ 4 then _ else _) ++ _ = _
      rw [out_early h.1.2.1]
    · have e : psUp t (p :: ps) = [] := by
        unfold psUp
        rw [List.takeWhile_cons_of_neg (by simpa using hp), List.map_nil]
      rw [e]
      refine (open_late fun q hq => ?_).symm
      rcases List.mem_cons.1 hq with rfl | hq
      · omega
      · have := ptsV_ge h.2 q hq
        omega
theorem tw_snoc {α : Type} {q : α → Bool} {l : List α} {i : Nat} {x : α} (hx : l[i]? = some x) (hall : ∀ y ∈ l.take i, q y = true) : (q x = true → ∀ y ∈ l.take (i + 1), q y = true) ∧ (q x = false → l.takeWhile q = l.take i) := by
  refine ⟨fun h y hy => ?_, fun h => ?_⟩
  · rw [take_snoc hx] at hy
    rcases List.mem_append.1 hy with hy | hy
    · exact hall y hy
    · rw [List.mem_singleton] at hy; rw [hy]; exact h
  · obtain ⟨q1, q2⟩ := List.getElem?_eq_some_iff.1 hx
    have hs : l = l.take i ++ x :: l.drop (i + 1) := by rw [← q2]; simp
    conv => lhs; rw [hs]
    rw [Go.Dial.Chn.takeWhile_all hall, List.takeWhile_cons_of_neg (by rw [h]; decide), List.append_nil]
theorem tw_end {α : Type} {q : α → Bool} {l : List α} (hall : ∀ y ∈ l, q y = true) : l.takeWhile q = l := by
  have := Go.Dial.Chn.takeWhile_all (A := l) (B := []) hall
  rw [List.append_nil] at this
  rw [this]; simp
theorem late8 : @law17_ChainLater_8 = @law17_ChainLater_6 := rfl
theorem late7 : @law17_ChainLater_7 = @law17_ChainLater_5 := rfl
theorem ixL_in (l : List Nat) : ixL l = inL (l.map fun i : Nat => (i : Int)) := by simp
section
variable (n : Nat) (c : Ch) (t : Int) (hG : Go.Dial.Chn.Good c) (hl : c.life.length ≤ 16) (hps : c.ps.length ≤ 5) (hes : ∀ p ∈ c.ps, p.es.length ≤ 10) (t0 : 0 ≤ t) (t1 : t ≤ 20000000) (hn : 200 < n)
include hG hl t0 t1 hn
theorem lt_end : ((chain_At n c.n c.f c.r.a c.r.c c.r.s c.r.r (evL c.life) (ptL c.ps) t).bind fun y23 =>
  (chain_At n c.n c.f c.r.a c.r.c c.r.s c.r.r (evL (lifeUp t c.life)) (ptL (psUp t c.ps)) t).bind fun y26 =>
  (chain_Open n c.n c.f c.r.a c.r.c c.r.s c.r.r (evL c.life) (ptL c.ps) t).bind fun y29 =>
  (chain_Open n c.n c.f c.r.a c.r.c c.r.s c.r.r (evL (lifeUp t c.life)) (ptL (psUp t c.ps)) t).bind fun y31 =>
  (bif (decide (y23.2.2 = 0)) then (bif (decide (y26.2.2 = 0)) then (bif (decide (y29.2 = 0)) then (bif (decide (y31.2 = 0)) then (bif (decide (y23.1 = y26.1)) then (ref16_Ints n y23.2.1 y26.2.1).bind fun y33 =>
  (bif y33 then (ref16_Ints n y29.1 y31.1).bind fun y34 =>
  some y34
  else some false)
  else some false)
  else some false)
  else some false)
  else some false)
  else some false)) = some true := by
  have hE := chV_early hG.1 t
  obtain ⟨f1, f2⟩ := later_law hG.1 t
  have hlu : (lifeUp t c.life).length < n := by
    have : (lifeUp t c.life).length ≤ c.life.length := List.Sublist.length_le (List.takeWhile_sublist _)
    omega
  have hA := chain_At_v n c t (by omega) hn
  rw [if_pos ⟨hG.1, t0, t1⟩] at hA
  have hB := chain_At_v n (Go.Dial.Chn.early c t) t hlu hn
  rw [if_pos ⟨hE, t0, t1⟩, f2, f1] at hB
  have hB : chain_At n c.n c.f c.r.a c.r.c c.r.s c.r.r (evL (lifeUp t c.life)) (ptL (psUp t c.ps)) t = _ := hB
  have hO := chain_Open_v n c t (by omega) hn
  rw [if_pos ⟨hG.1, t0, t1⟩] at hO
  have hP := chain_Open_v n (Go.Dial.Chn.early c t) t hlu hn
  rw [if_pos ⟨hE, t0, t1⟩, show openFrom (Go.Dial.Chn.early c t).r t 0 (Go.Dial.Chn.early c t).ps = openFrom c.r t 0 c.ps from open_early hG.1.2.2.2.2.2.2] at hP
  have hP : chain_Open n c.n c.f c.r.a c.r.c c.r.s c.r.r (evL (lifeUp t c.life)) (ptL (psUp t c.ps)) t = _ := hP
  have hfl := forceAt_len hG.1 t
  have hol := openFrom_len c.r t c.ps 0
  have h8 := hG.1.2.2.2.2.2.1
  rw [hA, Option.bind_some, hB, Option.bind_some, hO, Option.bind_some, hP, Option.bind_some]
  simp only
  rw [decide_eq_true True.intro, cond_true, cond_true, cond_true, cond_true, cond_true, ints_fo n _ _ (by omega) (by omega), Option.bind_some, decide_eq_true rfl, cond_true, ixL_in, ref16_Ints_v n _ _ (by rw [List.length_map]; omega) (by rw [List.length_map]; omega), Option.bind_some, decide_eq_true rfl]
include hps hes
theorem lt_ports : iterF (fun go0 s => law17_ChainLater_5 n go0 c.n c.f c.r.a c.r.c c.r.s c.r.r (evL c.life) (ptL c.ps) t (evL (lifeUp t c.life)) s.1 s.2) n ((0, ([] : Lv)) : law17_ChainLater_s0) = some true := by
  have hpl : ((ptL c.ps).length : Int) = (c.ps.length : Int) := by rw [List.length_map]
  have hend := lt_end n c t hG hl t0 t1 hn
  refine iterF_ind (fun s => ∃ i : Nat, s = ((i : Int), ptL ((c.ps.take i).map (ptUp t))) ∧ i ≤ c.ps.length ∧ ∀ p ∈ c.ps.take i, decide (p.c.a ≤ t) = true) (fun s => c.ps.length - s.1.toNat) _ ?_ n _ ⟨0, rfl, by omega, fun p hp => by simp at hp⟩ (by simp; omega)
  rintro _ go ⟨i, rfl, hi, hall⟩ ih
  simp only
  unfold law17_ChainLater_5
  by_cases hlt : i < c.ps.length
  · obtain ⟨p, hp⟩ := get_lt hlt
    obtain ⟨g0, g1, g2, g3, g4, g5, g6⟩ := port_cells hp
    obtain ⟨w1, w2⟩ := tw_snoc hp hall
    have c1 : (i : Int) < ((ptL c.ps).length : Int) := by omega
    have c2 : (0 : Int) ≤ (i : Int) := by omega
    have c4 : (-9223372036854775808 : Int) ≤ (i : Int) + 1 := by omega
    have c5 : (i : Int) + 1 ≤ (9223372036854775807 : Int) := by omega
    rw [decide_eq_true c1, cond_true, decide_eq_true c2, cond_true, g4]
    by_cases ha : p.c.a ≤ t
    · rw [decide_eq_true ha, cond_true]
      have hpe := hes p (List.mem_of_getElem? hp)
      have c6 : (((ptL ((c.ps.take i).map (ptUp t))).length : Int) + 1) * 72 ≤ 140737488355328 := by rw [List.length_map, List.length_map, List.length_take]; omega
      have hnext : go ((i : Int) + 1, ptL ((c.ps.take i).map (ptUp t)) ++ [[(AV.int p.c.n), (AV.int p.c.f), (AV.int p.c.t), (AV.int p.c.h), (AV.int p.c.a), (AV.bool p.c.b), (AV.sl (.cons .int (.cons .int (.cons .int .nil))) (ceL (evUp t p.es)))]]) = some true := by
        refine ih _ ⟨i + 1, ?_, by omega, w1 (by simpa using ha)⟩ (by simp only; omega)
        rw [take_snoc hp]
        simp [ptUp]
      have hcl : ((ceL p.es).length : Int) = (p.es.length : Int) := by rw [List.length_map]
      refine iterF_ind (fun s => ∃ j : Nat, s = ((j : Int), ceL (p.es.take j)) ∧ j ≤ p.es.length ∧ ∀ e ∈ p.es.take j, decide (e.a ≤ t) = true) (fun s => p.es.length - s.1.toNat) _ ?_ n _ ⟨0, rfl, by omega, fun p hp => by simp at hp⟩ (by simp; omega)
      rintro _ go2 ⟨j, rfl, hj, hall2⟩ ih2
      simp only
      unfold law17_ChainLater_6
      rw [g0, g1, g2, g3, g4, g5, g6]
      by_cases hjl : j < p.es.length
      · obtain ⟨e, he⟩ := get_lt hjl
        have hc : ∀ k, cA (ceL p.es) (j : Int) k = (ceR e).getD k (.int 0) := fun k => cA_map (by simpa using he)
        have e0 : cI (ceL p.es) (j : Int) 0 = e.k := by simp only [cI, hc]; rfl
        have e1 : cI (ceL p.es) (j : Int) 1 = e.a := by simp only [cI, hc]; rfl
        have e2 : cI (ceL p.es) (j : Int) 2 = e.r := by simp only [cI, hc]; rfl
        obtain ⟨u1, u2⟩ := tw_snoc he hall2
        have d1 : (j : Int) < ((ceL p.es).length : Int) := by omega
        have d2 : (0 : Int) ≤ (j : Int) := by omega
        have d3 : (((ceL (p.es.take j)).length : Int) + 1) * 24 ≤ 140737488355328 := by rw [List.length_map, List.length_take]; omega
        have d4 : (-9223372036854775808 : Int) ≤ (j : Int) + 1 := by omega
        have d5 : (j : Int) + 1 ≤ (9223372036854775807 : Int) := by omega
        rw [decide_eq_true d1, cond_true, decide_eq_true d2, cond_true, e0, e1, e2]
        by_cases hea : e.a ≤ t
        · rw [decide_eq_true hea, cond_true, decide_eq_true d3, cond_true, decide_eq_true d4, decide_eq_true d5, Bool.and_self, cond_true]
          refine ih2 _ ⟨j + 1, ?_, by omega, u1 (by simpa using hea)⟩ (by simp only; omega)
          rw [take_snoc he]; simp
        · rw [decide_eq_false hea, cond_false, decide_eq_true c6, cond_true, decide_eq_true c4, decide_eq_true c5, Bool.and_self, cond_true, ← u2 (by simpa using hea)]
          exact hnext
      · have h0 : j = p.es.length := by omega
        have d1 : ¬ (j : Int) < ((ceL p.es).length : Int) := by omega
        subst h0
        rw [List.take_length] at hall2
        have hw := tw_end hall2
        rw [decide_eq_false d1, cond_false, decide_eq_true c6, cond_true, decide_eq_true c4, decide_eq_true c5, Bool.and_self, cond_true, List.take_length]
        have : evUp t p.es = p.es := hw
        rw [this] at hnext
        exact hnext
    · rw [decide_eq_false ha, cond_false]
      have : psUp t c.ps = (c.ps.take i).map (ptUp t) := by unfold psUp; rw [w2 (by simpa using ha)]
      rw [← this]
      exact hend
  · have h0 : i = c.ps.length := by omega
    have c1 : ¬ (i : Int) < ((ptL c.ps).length : Int) := by omega
    subst h0
    rw [List.take_length] at hall
    have : psUp t c.ps = (c.ps.take c.ps.length).map (ptUp t) := by unfold psUp; rw [tw_end hall, List.take_length]
    rw [decide_eq_false c1, cond_false, ← this]
    exact hend
end
theorem law17_ChainLater_v (n : Nat) (X : Nums) (hX : X.ok) (v8 : Int) (h8 : In64 v8) (hn : 200 < n) : law17_ChainLater n X.v0 X.v1 X.v2 X.v3 X.v4 X.v5 (X.xs.map triR) (X.ys.map pnR) v8 = some true := by
  obtain ⟨c, hM, hG, hl, hp, hgp⟩ := made_of n X hX hn
  obtain ⟨t, hTm, t0, t1⟩ := ref17_Time_v n c v8 hG.1 h8 hn
  have hports := lt_ports n c t hG hl hp (fun p hpp => (hgp p hpp).2.2.2.1) t0 t1 hn
  unfold law17_ChainLater law17_ChainLater_1
  rw [show law17_sane n = some true from rfl, Option.bind_some]
  unfold law17_ChainLater_2
  rw [Bool.not_true, cond_false, hM, Option.bind_some]
  simp only
  rw [hTm, Option.bind_some]
  have hll : ((evL c.life).length : Int) = (c.life.length : Int) := by rw [List.length_map]
  refine iterF_ind (fun s => ∃ i : Nat, s = ((i : Int), evL (c.life.take i)) ∧ i ≤ c.life.length ∧ ∀ e ∈ c.life.take i, decide (e.a ≤ t) = true) (fun s => c.life.length - s.1.toNat) _ ?_ n _ ⟨0, rfl, by omega, fun p hp => by simp at hp⟩ (by simp; omega)
  rintro _ go ⟨i, rfl, hi, hall⟩ ih
  simp only
  unfold law17_ChainLater_3
  by_cases hlt : i < c.life.length
  · obtain ⟨e, he⟩ := get_lt hlt
    have hc : ∀ k, cA (evL c.life) (i : Int) k = (evR e).getD k (.int 0) := fun k => cA_map (by simpa using he)
    have e0 : cI (evL c.life) (i : Int) 0 = e.k := by simp only [cI, hc]; rfl
    have e1 : cI (evL c.life) (i : Int) 1 = e.a := by simp only [cI, hc]; rfl
    have e2 : cI (evL c.life) (i : Int) 2 = e.h := by simp only [cI, hc]; rfl
    obtain ⟨u1, u2⟩ := tw_snoc he hall
    have c1 : (i : Int) < ((evL c.life).length : Int) := by omega
    have c2 : (0 : Int) ≤ (i : Int) := by omega
    have c3 : (((evL (c.life.take i)).length : Int) + 1) * 24 ≤ 140737488355328 := by rw [List.length_map, List.length_take]; omega
    have c4 : (-9223372036854775808 : Int) ≤ (i : Int) + 1 := by omega
    have c5 : (i : Int) + 1 ≤ (9223372036854775807 : Int) := by omega
    rw [decide_eq_true c1, cond_true, decide_eq_true c2, cond_true]
    unfold law17_ChainLater_4
    rw [e0, e1, e2]
    by_cases hea : e.a ≤ t
    · rw [decide_eq_true hea, cond_true, decide_eq_true c3, cond_true, decide_eq_true c4, decide_eq_true c5, Bool.and_self, cond_true]
      refine ih _ ⟨i + 1, ?_, by omega, u1 (by simpa using hea)⟩ (by simp only; omega)
      rw [take_snoc he]; simp
    · rw [decide_eq_false hea, cond_false]
      have : lifeUp t c.life = c.life.take i := u2 (by simpa using hea)
      rw [← this]
      exact hports
  · have h0 : i = c.life.length := by omega
    have c1 : ¬ (i : Int) < ((evL c.life).length : Int) := by omega
    subst h0
    rw [List.take_length] at hall
    have : lifeUp t c.life = c.life.take c.life.length := by rw [List.take_length]; exact tw_end hall
    rw [decide_eq_false c1, cond_false, ← this, late7]
    exact hports
theorem law17_ChainLater_law : ∀ s : tupT (Ps.tys law17_ChainLater_t.ps), TupOk (Ps.tys law17_ChainLater_t.ps) s → ∃ n z, law17_ChainLater_t.fn n s = some z ∧ rdec law17_ChainLater_t.sh z = .b true := by
  rintro ⟨v0, v1, v2, v3, v4, v5, v6, v7, v8⟩ hs
  obtain ⟨⟨X, hX, rfl, rfl, rfl, rfl, rfl, rfl, rfl, rfl⟩, hr⟩ := nums_of (rest := [.int v8]) hs
  exact ⟨300, true, law17_ChainLater_v 300 X hX v8 (int_of (hr _ (by simp))) (by decide), rfl⟩
end Go.Proofs.Ytjllgiddmeiaoaa
