/-
  The law ChainBack as a plain function: it gives true.
-/
import Derived.Test.YtjllgiddmeiaoaaQN
import Derived.Test.YtjllgiddmeiaoaaE6
set_option linter.unusedVariables false
set_option linter.unusedSectionVars false
set_option linter.unusedSimpArgs false
set_option maxRecDepth 100000
namespace Go.Proofs.Ytjllgiddmeiaoaa
open Go Go.Sx Go.Dial.Clm Go.Dial.Lif Go.Dial.Chn
theorem tn_cells {T : List Mo} {i : Nat} {m : Mo} (hm : T[i]? = some m) : cI (tnL T) (i : Int) 0 = m.a ∧ cI (tnL T) (i : Int) 1 = m.p ∧ cI (tnL T) (i : Int) 2 = m.k := by
  have hc : ∀ k, cA (tnL T) (i : Int) k = (tnR m).getD k (.int 0) := fun k => cA_map (by simpa using hm)
  refine ⟨?_, ?_, ?_⟩ <;> simp only [cI, hc] <;> rfl
theorem first_at {p : Int} : ∀ {A B A' B' : List Int}, A ++ p :: B = A' ++ p :: B' → p ∉ A → p ∉ A' → A = A'
  | [], _, [], _, _, _, _ => rfl
  | [], _, y :: A', _, h, _, h2 => by
    rw [List.nil_append, List.cons_append] at h
    exact absurd (by rw [(List.cons.inj h).1]; exact List.mem_cons_self ..) h2
  | x :: A, _, [], _, h, h1, _ => by
    rw [List.nil_append, List.cons_append] at h
    exact absurd (by rw [← (List.cons.inj h).1]; exact List.mem_cons_self ..) h1
  | x :: A, _, y :: A', _, h, h1, h2 => by
    rw [List.cons_append, List.cons_append] at h
    have he := List.cons.inj h
    rw [he.1, first_at he.2 (fun hh => h1 (List.mem_cons_of_mem _ hh)) (fun hh => h2 (List.mem_cons_of_mem _ hh))]
theorem bk12 : @law17_ChainBack_12 = @law17_ChainBack_11 := rfl
theorem bk16 : @law17_ChainBack_16 = @law17_ChainBack_11 := rfl
theorem bk15 : @law17_ChainBack_15 = @law17_ChainBack_10 := rfl
theorem bk14 : @law17_ChainBack_14 = @law17_ChainBack_9 := rfl
theorem bk13 : @law17_ChainBack_13 = @law17_ChainBack_8 := rfl
section
variable (n : Nat) (go0 : law17_ChainBack_s0 → Option law17_ChainBack_a) (c : Ch) (T : List Mo) (i k : Nat) (b d : Mo) (r : law17_ChainBack_a)
theorem bk11 (hV : ChV c) (hn : 200 < n) (hb : T[i]? = some b) (hd : T[k]? = some d) (hin : 0 ≤ b.p ∧ b.p < (c.ps.length : Int)) (hw : withV c (forceAt c b.a) = (portAt c b.p).c.f) (hnot : b.p ∉ forceAt c b.a)
    (hor : (∃ X, forceAt c d.a = X ++ b.p :: forceAt c b.a) ∨ (b.p ∉ forceAt c d.a ∧ d.a = b.a)) (hgo : go0 ((i : Int) + 1) = some r) :
    iterF (fun go1 s => law17_ChainBack_11 n go0 go1 (ptL c.ps) (tnL T) (i : Int) (k : Int) (foL (forceAt c d.a)) 0 (withV c (forceAt c b.a)) (foL (forceAt c b.a)) 0 s) n (0 : law17_ChainBack_s0) = some r := by
  obtain ⟨B, hB⟩ : ∃ B, B = forceAt c d.a := ⟨_, rfl⟩
  have hBl := forceAt_len hV d.a
  have hYl := forceAt_len hV b.a
  rw [← hB] at hor hBl ⊢
  obtain ⟨Y, hY⟩ : ∃ Y, Y = forceAt c b.a := ⟨_, rfl⟩
  rw [← hY] at hor hw hnot hYl ⊢
  obtain ⟨b0, b1, b2⟩ := tn_cells hb
  obtain ⟨d0, _, _⟩ := tn_cells hd
  obtain ⟨p1, _, _⟩ := port_to (c := c) hin
  have hfl : ((foL B).length : Int) = (B.length : Int) := by rw [foL_len]
  have hpl : b.p < ((ptL c.ps).length : Int) := by rw [List.length_map]; exact hin.2
  refine iterF_ind (fun s => ∃ j : Nat, s = (j : Int) ∧ j ≤ B.length ∧ ∀ j', j' < j → B.reverse[j']? ≠ some b.p) (fun s => B.length - s.toNat) r ?_ n _ ⟨0, rfl, by omega, fun j hj => by omega⟩ (by simp; omega)
  rintro _ go ⟨j, rfl, hj, hm⟩ ih
  unfold law17_ChainBack_11
  by_cases hlt : j < B.length
  · obtain ⟨x, hx⟩ := get_lt (l := B.reverse) (i := j) (by simpa using hlt)
    have c1 : (j : Int) < ((foL B).length : Int) := by omega
    have c2 : (0 : Int) ≤ (j : Int) := by omega
    rw [decide_eq_true c1, cond_true, decide_eq_true c2, cond_true, foL_cell hx, b1]
    by_cases he : x = b.p
    · have hne : ¬ (j : Int) = ((foL B).length : Int) := by omega
      have hle : (j : Int) ≤ ((foL B).length : Int) := by omega
      have htake : List.take ((j : Int)).toNat (foL B) = foL Y := by
        rw [show (j : Int).toNat = j by omega]
        unfold foL
        rw [← List.map_take]
        congr 1
        rcases hor with ⟨X, hX⟩ | ⟨hno, _⟩
        · have hr : B.reverse = Y.reverse ++ b.p :: X.reverse := by rw [hX]; simp
          have hs : B.reverse = B.reverse.take j ++ b.p :: B.reverse.drop (j + 1) := by
            obtain ⟨q1, q2⟩ := List.getElem?_eq_some_iff.1 hx
            rw [← he, ← q2, ← List.drop_eq_getElem_cons q1, List.take_append_drop]
          refine first_at (hs.symm.trans hr) (fun hmem => ?_) (by simpa using hnot)
          obtain ⟨q, hq, e⟩ := List.getElem_of_mem hmem
          have hq' : q < j := by rw [List.length_take] at hq; omega
          exact hm q hq' (by rw [List.getElem_take] at e; rw [← e]; exact List.getElem?_eq_getElem _)
        · exact absurd (List.mem_reverse.1 (by rw [← he]; exact List.mem_of_getElem? hx)) hno
      rw [decide_eq_true he, Bool.not_true, cond_false, decide_eq_true (rfl : (0 : Int) = 0), Bool.not_true, cond_false, cond_false, decide_eq_true hin.1, cond_true, decide_eq_true hpl, cond_true, p1, decide_eq_true hw, Bool.not_true, cond_false, decide_eq_false hne, cond_false, decide_eq_true hle, cond_true, htake, ints_fo n _ _ (by omega) (by omega), Option.bind_some, decide_eq_true rfl, Bool.not_true, cond_false]
      exact hgo
    · have c4 : (-9223372036854775808 : Int) ≤ (j : Int) + 1 := by omega
      have c5 : (j : Int) + 1 ≤ (9223372036854775807 : Int) := by omega
      rw [decide_eq_false he, Bool.not_false, cond_true, decide_eq_true c4, decide_eq_true c5, Bool.and_self, cond_true]
      refine ih _ ⟨j + 1, by omega, by omega, fun j' hj' => ?_⟩ (by omega)
      rcases Nat.lt_or_ge j' j with h1 | h1
      · exact hm j' h1
      · have : j' = j := by omega
        subst this
        rw [hx]
        exact fun e => he (Option.some.inj e)
  · have c1 : ¬ (j : Int) < ((foL B).length : Int) := by omega
    have he : (j : Int) = ((foL B).length : Int) := by omega
    have hno : b.p ∉ B := fun hmem => by
      obtain ⟨q, hq, e⟩ := List.getElem_of_mem (List.mem_reverse.2 hmem)
      have hq' : q < B.length := by simpa using hq
      exact hm q (by omega) (by rw [← e]; exact List.getElem?_eq_getElem _)
    have hda : d.a = b.a := by
      rcases hor with ⟨X, hX⟩ | ⟨_, h⟩
      · exact absurd (by rw [hX]; simp) hno
      · exact h
    rw [decide_eq_false c1, cond_false, b1, decide_eq_true (rfl : (0 : Int) = 0), Bool.not_true, cond_false, cond_false, decide_eq_true hin.1, cond_true, decide_eq_true hpl, cond_true, p1, decide_eq_true hw, Bool.not_true, cond_false, decide_eq_true he, cond_true, d0, b0, decide_eq_true hda, Bool.not_true, cond_false]
    exact hgo
/-- the turn with which the port took effect -/
theorem bk10 (hG : Go.Dial.Chn.Good c) (hT : T = turnsV c) (hn : 200 < n) (hl : c.life.length < n) (hb : T[i]? = some b) (hin : 0 ≤ b.p ∧ b.p < (c.ps.length : Int)) (hw : withV c (forceAt c b.a) = (portAt c b.p).c.f) (hnot : b.p ∉ forceAt c b.a)
    (hor : (∃ X, forceAt c (effT c b.p) = X ++ b.p :: forceAt c b.a) ∨ (b.p ∉ forceAt c (effT c b.p) ∧ effT c b.p = b.a)) (hex : ∃ j d, j ≤ i ∧ T[j]? = some d ∧ d.k = 1 ∧ d.p = b.p) (hgo : go0 ((i : Int) + 1) = some r) :
    iterF (fun go1 s => law17_ChainBack_10 n go0 go1 c.n c.f c.r.a c.r.c c.r.s c.r.r (evL c.life) (ptL c.ps) (tnL T) (i : Int) s) n ((i : Int) : law17_ChainBack_s0) = some r := by
  have hTl : T.length ≤ 32 := by rw [hT]; exact turnsV_len hG.1
  have hiT : i < T.length := (List.getElem?_eq_some_iff.1 hb).1
  obtain ⟨b0, b1, b2⟩ := tn_cells hb
  have hbb := turns_bd hG b (by rw [← hT]; exact List.mem_of_getElem? hb)
  have hB := chain_At_v n c b.a hl hn
  rw [if_pos ⟨hG.1, hbb.1, by omega⟩] at hB
  refine iterF_ind (fun s => ∃ k : Nat, s = (k : Int) ∧ k ≤ i ∧ ∃ j d, j ≤ k ∧ T[j]? = some d ∧ d.k = 1 ∧ d.p = b.p) (fun s => s.toNat) r ?_ n _ ⟨i, rfl, Nat.le_refl _, hex⟩ (by simp; omega)
  rintro _ go ⟨k, rfl, hk, j, d', hjk, hd', hd1, hd2⟩ ih
  obtain ⟨d, hd⟩ := get_lt (l := T) (i := k) (by omega)
  obtain ⟨d0, e1, e2⟩ := tn_cells hd
  have hTll : ((tnL T).length : Int) = (T.length : Int) := by rw [List.length_map]
  have c1 : (0 : Int) ≤ (k : Int) := by omega
  have c2 : (k : Int) < ((tnL T).length : Int) := by omega
  have hdd := turns_bd hG d (by rw [← hT]; exact List.mem_of_getElem? hd)
  have hA := chain_At_v n c d.a hl hn
  rw [if_pos ⟨hG.1, hdd.1, by omega⟩] at hA
  unfold law17_ChainBack_10
  rw [e1, e2, b1, d0, b0]
  have take : d.k = 1 → d.p = b.p → iterF (fun go1 s => law17_ChainBack_11 n go0 go1 (ptL c.ps) (tnL T) (i : Int) (k : Int) (foL (forceAt c d.a)) 0 (withV c (forceAt c b.a)) (foL (forceAt c b.a)) 0 s) n (0 : law17_ChainBack_s0) = some r := fun h1 h2 => by
    have hde : d.a = effT c b.p := by rw [turn_eff hG.1 (by rw [← hT]; exact List.mem_of_getElem? hd) h1, h2]
    exact bk11 n go0 c T i k b d r hG.1 hn hb hd hin hw hnot (by rw [hde]; exact hor) hgo
  have hyes : d.k = 1 ∧ d.p = b.p ∨ 0 < k ∧ ∃ j d, j ≤ k - 1 ∧ T[j]? = some d ∧ d.k = 1 ∧ d.p = b.p := by
    by_cases h : d.k = 1 ∧ d.p = b.p
    · exact .inl h
    · right
      have hjne : j ≠ k := fun e => by
        subst e
        rw [hd] at hd'; cases hd'
        exact h ⟨hd1, hd2⟩
      exact ⟨by omega, j, d', by omega, hd', hd1, hd2⟩
  by_cases h0 : 0 < k
  · have f0 : (0 : Int) < (k : Int) := by omega
    have f1 : (-9223372036854775808 : Int) ≤ (k : Int) - 1 := by omega
    have f2 : (k : Int) - 1 ≤ (9223372036854775807 : Int) := by omega
    have hgo1 : (∃ j d, j ≤ k - 1 ∧ T[j]? = some d ∧ d.k = 1 ∧ d.p = b.p) → go ((k : Int) - 1) = some r := fun h =>
      ih _ ⟨k - 1, by omega, by omega, h⟩ (by omega)
    rw [decide_eq_true f0, cond_true, decide_eq_true c1, cond_true, decide_eq_true c2, cond_true]
    by_cases k1 : d.k = 1
    · rw [decide_eq_true k1, Bool.not_true, cond_false]
      by_cases k2 : d.p = b.p
      · rw [decide_eq_true k2, Bool.not_true, cond_false, hA, Option.bind_some, hB, Option.bind_some]
        exact take k1 k2
      · rw [decide_eq_false k2, Bool.not_false, cond_true, decide_eq_true f1, decide_eq_true f2, Bool.and_self, cond_true]
        rcases hyes with h | h
        · exact absurd h.2 k2
        · exact hgo1 h.2
    · rw [decide_eq_false k1, Bool.not_false, cond_true, decide_eq_true f1, decide_eq_true f2, Bool.and_self, cond_true]
      rcases hyes with h | h
      · exact absurd h.1 k1
      · exact hgo1 h.2
  · have f0 : ¬ (0 : Int) < (k : Int) := by omega
    rcases hyes with ⟨k1, k2⟩ | h
    · rw [decide_eq_false f0, cond_false, decide_eq_true c1, cond_true, decide_eq_true c2, cond_true, decide_eq_true k1, Bool.not_true, cond_false, decide_eq_true k2, Bool.not_true, cond_false, hA, Option.bind_some, hB, Option.bind_some, bk12]
      exact take k1 k2
    · omega
end
theorem law17_ChainBack_v (n : Nat) (X : Nums) (hX : X.ok) (hn : 200 < n) : law17_ChainBack n X.v0 X.v1 X.v2 X.v3 X.v4 X.v5 (X.xs.map triR) (X.ys.map pnR) = some true := by
  obtain ⟨c, hM, hG, hl, hp, _⟩ := made_of n X hX hn
  have hTu := chain_Turns_v n c (by omega) hn
  rw [if_pos hG.1] at hTu
  unfold law17_ChainBack law17_ChainBack_1
  rw [show law17_sane n = some true from rfl, Option.bind_some]
  unfold law17_ChainBack_2
  rw [Bool.not_true, cond_false, hM, Option.bind_some]
  simp only
  rw [hTu, Option.bind_some]
  simp only
  unfold law17_ChainBack_3
  rw [decide_eq_true rfl, Bool.not_true, cond_false]
  obtain ⟨T, hT⟩ : ∃ T, T = turnsV c := ⟨_, rfl⟩
  rw [← hT]
  have hTl : T.length ≤ 32 := by rw [hT]; exact turnsV_len hG.1
  have hTll : ((tnL T).length : Int) = (T.length : Int) := by rw [List.length_map]
  refine iterF_ind (fun s => ∃ i : Nat, s = (i : Int) ∧ i ≤ T.length) (fun s => T.length - s.toNat) _ ?_ n _ ⟨0, rfl, by omega⟩ (by simp; omega)
  rintro _ go ⟨i, rfl, hi⟩ ih
  unfold law17_ChainBack_4
  by_cases hlt : i < T.length
  · obtain ⟨b, hb⟩ := get_lt hlt
    obtain ⟨b0, b1, b2⟩ := tn_cells hb
    have c1 : (i : Int) < ((tnL T).length : Int) := by omega
    have c2 : (0 : Int) ≤ (i : Int) := by omega
    have c4 : (-9223372036854775808 : Int) ≤ (i : Int) + 1 := by omega
    have c5 : (i : Int) + 1 ≤ (9223372036854775807 : Int) := by omega
    have hgo := ih ((i : Int) + 1) ⟨i + 1, by omega, by omega⟩ (by omega)
    rw [decide_eq_true c1, cond_true, decide_eq_true c2, cond_true]
    unfold law17_ChainBack_5
    rw [b2]
    by_cases k3 : b.k = 3
    · rw [decide_eq_true k3, Bool.not_true, cond_false, decide_eq_true c4, decide_eq_true c5, Bool.and_self, cond_true]
      unfold law17_ChainBack_6
      -- the last turn of its time
      have main : (∀ y, T[i + 1]? = some y → y.a ≠ b.a) → law17_ChainBack_8 n go c.n c.f c.r.a c.r.c c.r.s c.r.r (evL c.life) (ptL c.ps) (tnL T) (i : Int) = some true := fun hlast => by
        have hsplit : turnsV c = T.take i ++ b :: T.drop (i + 1) := by
          obtain ⟨q1, q2⟩ := List.getElem?_eq_some_iff.1 hb
          rw [← hT, ← q2]; simp
        obtain ⟨hin, ⟨d, hd, hd1, hd2⟩, hw, hnot, hor⟩ := back_law hG.1 hsplit k3 (fun y hy => hlast y (by rw [List.head?_drop] at hy; exact hy))
        have hpl : ((ptL c.ps).length : Int) = (c.ps.length : Int) := by rw [List.length_map]
        have f1 : ¬ b.p < 0 := by omega
        have f2 : ¬ ((ptL c.ps).length : Int) ≤ b.p := by omega
        unfold law17_ChainBack_8
        rw [b1, decide_eq_false f1, cond_false]
        unfold law17_ChainBack_9
        rw [b1, decide_eq_false f2, cond_false]
        refine bk10 n go c T i b true hG hT hn (by omega) hb hin hw hnot hor ?_ hgo
        obtain ⟨j, hj, e⟩ := List.getElem_of_mem hd
        rw [List.length_take] at hj
        refine ⟨j, d, by omega, ?_, hd1, hd2⟩
        rw [List.getElem_take] at e
        rw [← e]
        exact List.getElem?_eq_getElem _
      by_cases h1 : i + 1 < T.length
      · obtain ⟨y, hy⟩ := get_lt h1
        obtain ⟨y0, _, _⟩ := tn_cells hy
        have e1 : (i : Int) + 1 < ((tnL T).length : Int) := by omega
        have e2 : (0 : Int) ≤ (i : Int) + 1 := by omega
        have e3 : (i : Int) + 1 = ((i + 1 : Nat) : Int) := by omega
        rw [decide_eq_true e1, cond_true, decide_eq_true e2, cond_true]
        unfold law17_ChainBack_7
        by_cases h2 : y.a = b.a
        · rw [e3, y0, b0, decide_eq_true h2, cond_true, ← e3]
          exact hgo
        · rw [e3, y0, b0, decide_eq_false h2, cond_false]
          exact main fun z hz => by rw [hy] at hz; cases hz; exact h2
      · have e1 : ¬ (i : Int) + 1 < ((tnL T).length : Int) := by omega
        rw [decide_eq_false e1, cond_false, bk13]
        exact main fun z hz => by have := (List.getElem?_eq_some_iff.1 hz).1; omega
    · rw [decide_eq_false k3, Bool.not_false, cond_true, decide_eq_true c4, decide_eq_true c5, Bool.and_self, cond_true]
      exact hgo
  · have c1 : ¬ (i : Int) < ((tnL T).length : Int) := by omega
    rw [decide_eq_false c1, cond_false]
theorem law17_ChainBack_law : ∀ s : tupT (Ps.tys law17_ChainBack_t.ps), TupOk (Ps.tys law17_ChainBack_t.ps) s → ∃ n z, law17_ChainBack_t.fn n s = some z ∧ rdec law17_ChainBack_t.sh z = .b true := by
  rintro ⟨v0, v1, v2, v3, v4, v5, v6, v7⟩ hs
  obtain ⟨⟨X, hX, rfl, rfl, rfl, rfl, rfl, rfl, rfl, rfl⟩, hr⟩ := nums_of (rest := []) hs
  exact ⟨300, true, law17_ChainBack_v 300 X hX (by decide), rfl⟩
end Go.Proofs.Ytjllgiddmeiaoaa
