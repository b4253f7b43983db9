/-
  What the plain functions of claims give: the program's outcome.
-/
import Derived.Test.YtjllgiddmeiaoaaQ10
set_option linter.unusedVariables false
set_option linter.unusedSimpArgs false
set_option maxRecDepth 100000
namespace Go.Proofs.Ytjllgiddmeiaoaa
open Go Go.Sx Go.Dial.Clm
theorem ot15 : @claim_Outcome_15 = @claim_Outcome_9 := rfl
theorem ot_event (n : Nat) (go0 : claim_Outcome_s0 → Option claim_Outcome_a) (go1 : claim_Outcome_s1 → Option claim_Outcome_a) (r : Rl) (hr : RlV r) (b : Bool) (es : List Ce) (t : Int) (i : Nat) (e : Ce) (he : es[i]? = some e) (vd : Lv) (s f m s' f' m' l : Int)
    (hce : CeV l e) (hl : 0 ≤ l) (h1 : vd.length ≤ 20) (h3 : i ≤ 20) :
    claim_Outcome_9 n go0 go1 r.c r.s b (ceL es) t (i : Int) vd s' f' m' s f m = if bec b s e < 0 then go0 ((i : Int) + 1, vd ++ [[AV.int (i : Int)]], s', f', m', s, f, m) else if t < e.a then some (s', f', m', 0) else
      go0 ((i : Int) + 1, vd, (st r (bec b s e) e.a).s, (st r (bec b s e) e.a).f, (st r (bec b s e) e.a).n, (st r (bec b s e) e.a).s, (st r (bec b s e) e.a).f, (st r (bec b s e) e.a).n) := by
  have hc : ∀ k, cA (ceL es) (i : Int) k = (ceR e).getD k (.int 0) := fun k => cA_map (by simpa using he)
  have g0 : cI (ceL es) i 0 = e.k := by simp only [cI, hc]; rfl
  have g1 : cI (ceL es) i 1 = e.a := by simp only [cI, hc]; rfl
  have g2 : cI (ceL es) i 2 = e.r := by simp only [cI, hc]; rfl
  have c4 : (-9223372036854775808 : Int) ≤ (i : Int) + 1 := by omega
  have c5 : (i : Int) + 1 ≤ (9223372036854775807 : Int) := by omega
  have c10 : ((vd.length : Int) + 1) * 8 ≤ 140737488355328 := by omega
  have hrr := hr
  unfold RlV at hr
  unfold CeV at hce
  have c6 : (-9223372036854775808 : Int) ≤ e.a + r.c := by omega
  have c7 : e.a + r.c ≤ (9223372036854775807 : Int) := by omega
  have c8 : (-9223372036854775808 : Int) ≤ e.a + r.s := by omega
  have c9 : e.a + r.s ≤ (9223372036854775807 : Int) := by omega
  unfold claim_Outcome_9 claim_Outcome_10 claim_Outcome_11 claim_Outcome_12 claim_Outcome_13 claim_Outcome_14
  simp only [g0, g1, g2, c4, c5, c6, c7, c8, c9, c10, decide_true, Bool.and_self]
  simp only [cond_true]
  clear g0 g1 g2 hc c4 c5 c6 c7 c8 c9 c10
  unfold bec st dur
  have hk : e.k = 1 ∨ e.k = 2 ∨ e.k = 3 ∨ e.k = 4 ∨ e.k = 5 ∨ e.k = 6 := by omega
  have hs : s = 1 ∨ s = 2 ∨ s = 3 ∨ s = 4 ∨ (s ≠ 1 ∧ s ≠ 2 ∧ s ≠ 3 ∧ s ≠ 4) := by omega
  by_cases ht : t < e.a <;> cases b <;> by_cases hq : e.r = 1 <;> rcases hk with hk | hk | hk | hk | hk | hk <;> rcases hs with hs | hs | hs | hs | ⟨q1, q2, q3, q4⟩ <;> simp_all
theorem ot_auto8 (n : Nat) (go0 : claim_Outcome_s0 → Option claim_Outcome_a) (go1 : claim_Outcome_s1 → Option claim_Outcome_a) (r : Rl) (hr : RlV r) (b : Bool) (L : Lv) (t i : Int) (vd : Lv) (s f m s' f' m' : Int) (ha : 1 ≤ s ∧ s ≤ 4) (hm : m ≤ cI L i 1) (h1 : -100000000 ≤ m) (h2 : m ≤ 100000000) :
    claim_Outcome_8 n go0 go1 r.c r.s r.r b L t i vd s' f' m' s f m = if t < m then some (s', f', m', 0) else go1 ((st r (aft s) m).s, (st r (aft s) m).f, (st r (aft s) m).n, (st r (aft s) m).s, (st r (aft s) m).f, (st r (aft s) m).n) := by
  have hs : s = 1 ∨ s = 2 ∨ s = 3 ∨ s = 4 := by omega
  unfold RlV at hr
  unfold claim_Outcome_8
  rcases hs with hs | hs | hs | hs <;> subst hs <;> simp only [aft, st, dur] <;> grind
theorem ot_auto21 (n : Nat) (go1 : claim_Outcome_s1 → Option claim_Outcome_a) (r : Rl) (hr : RlV r) (t s m s' f' m' : Int) (ha : 1 ≤ s ∧ s ≤ 4) (h1 : 0 ≤ m) (h2 : m ≤ 100000000) :
    claim_Outcome_21 n go1 r.c r.r t s' f' m' s m = if t < m then some (s', f', m', 0) else go1 ((st r (aft s) m).s, (st r (aft s) m).f, (st r (aft s) m).n, (st r (aft s) m).s, (st r (aft s) m).f, (st r (aft s) m).n) := by
  have hs : s = 1 ∨ s = 2 ∨ s = 3 ∨ s = 4 := by omega
  unfold RlV at hr
  unfold claim_Outcome_21
  rcases hs with hs | hs | hs | hs <;> subst hs <;> simp only [aft, st, dur] <;> grind
theorem upTo_out {t : Int} : ∀ {out rest : List Cs}, (∀ x ∈ out, x.f ≤ t) → (∀ x, rest.head? = some x → t < x.f) → upTo t (out ++ rest) = out
  | [], [], _, _ => rfl
  | [], x :: rest, _, h => by
    have := h x rfl
    unfold upTo
    rw [List.nil_append, List.takeWhile_cons]
    simp; omega
  | y :: out, rest, h1, h2 => by
    rw [List.cons_append, upTo_go (h1 y (List.mem_cons_self ..)), upTo_out (fun x hx => h1 x (List.mem_cons_of_mem _ hx)) h2]
/-- where the outcome's run stands -/
structure RunO (r : Rl) (c : Cl) (es : List Ce) (t : Int) (out : List Cs) (now : Cs) (i : Nat) : Prop where
  j : RunJ r c es out now i
  up : ∀ x ∈ out, x.f ≤ t
section
variable {r : Rl} {c : Cl} {es : List Ce} {t : Int} {out : List Cs} {now x : Cs} {i : Nat} {rest : List Cs}
theorem RunO.stop (h : RunO r c es t out now i) (hr : tl r c.b now (es.drop i) = rest) (hx : ∀ x, rest.head? = some x → t < x.f) : outV r c es t = now := by
  unfold outV
  rw [h.j.rest, hr, upTo_out h.up hx, h.j.last]; rfl
theorem RunO.go (h : RunO r c es t out now i) {k : Nat} (hj : RunJ r c es (out ++ [x]) x k) (hx : x.f ≤ t) : RunO r c es t (out ++ [x]) x k :=
  ⟨hj, fun y hy => by
    rcases List.mem_append.1 hy with hy | hy
    · exact h.up y hy
    · rw [List.mem_singleton.1 hy]; exact hx⟩
end
theorem claim_Outcome_v (n : Nat) (r : Rl) (c : Cl) (es : List Ce) (t : Int) (hn : 200 < n) : claim_Outcome n r.a r.c r.s r.r c.n c.f c.t c.h c.a c.b (ceL es) t = some ((outR r c es t).1.s, (outR r c es t).1.f, (outR r c es t).1.n, (outR r c es t).2) := by
  unfold claim_Outcome claim_Outcome_1
  rw [claim_Valid_v n r c es (by omega)]
  unfold outR OkOut
  by_cases hv : ClmV r c es
  · obtain ⟨hr, hcl, hlen, hE⟩ := id hv
    have hrb := hr
    unfold RlV at hrb
    have hca : 0 ≤ c.a ∧ c.a ≤ 10000000 := by unfold ClV at hcl; omega
    have n1 : (-9223372036854775808 : Int) ≤ c.a + r.a := by omega
    have n2 : c.a + r.a ≤ (9223372036854775807 : Int) := by omega
    unfold claim_Outcome_2 claim_Outcome_3 claim_Outcome_4 claim_Outcome_5
    by_cases h0 : 0 ≤ t
    · by_cases h1 : t ≤ 20000000
      · simp only [hv, h0, h1, decide_true, Option.bind_some, Bool.not_true, n1, n2, Bool.and_self, and_self, if_true]
        simp only [cond_true, cond_false]
        by_cases h2 : t < c.a
        · rw [decide_eq_true h2, cond_true]
          have : upTo t (timeline r c es) = [] := by
            unfold timeline upTo
            rw [List.takeWhile_cons]
            simp [x0, st]; omega
          unfold outV
          rw [this]; rfl
        · rw [decide_eq_false h2, cond_false]
          have facts : ∀ out now i, RunJ r c es out now i → (0 ≤ now.n ↔ act now) ∧ now.f ≤ 23000000 ∧ now.n ≤ 24000000 ∧ out.length ≤ 110 := fun out now i h => by
            have h1 := timeline_le hv now h.mem
            have h2 := timeline_ge hv now h.mem
            obtain ⟨s, f, hf⟩ := timeline_st now h.mem
            have h3 : (st r s f).f = f := rfl
            refine ⟨by rw [hf]; exact act_n hr (by rw [hf, h3] at h2; omega), h1, ?_, h.len hlen⟩
            rw [hf] at h1 ⊢
            have h1 : f ≤ 23000000 := h1
            by_cases ha : 1 ≤ s ∧ s ≤ 4
            · have := (st_n hr (f := f) ha).2; omega
            · simp only [st]; rw [if_neg ha]; omega
          refine iterF_ind (fun s => ∃ (i : Nat) (vd : Lv) (out : List Cs) (now : Cs), s = ((i : Int), vd, now.s, now.f, now.n, now.s, now.f, now.n) ∧ vd.length ≤ i ∧ RunO r c es t out now i) (fun s => es.length + 1 - s.1.toNat) _ ?_ n _
            ⟨0, [], [x0 r c], x0 r c, rfl, by simp, ⟨⟨by omega, rfl, by unfold timeline; simp⟩, fun x hx => by rw [List.mem_singleton.1 hx]; simp only [x0, st]; omega⟩⟩ (by simp; omega)
          rintro _ go ⟨i, vd, out, now, rfl, hvd, hO⟩ ih
          simp only
          unfold claim_Outcome_6
          have hle := hO.j.le
          have c6 : (0 : Int) ≤ (i : Int) := by omega
          by_cases hlt : i < es.length
          · have c7 : (i : Int) < ((ceL es).length : Int) := by rw [List.length_map]; omega
            obtain ⟨e, he⟩ := get_lt hlt
            have hce : ∃ l, 0 ≤ l ∧ CeV l e := by
              have key : ∀ (es : List Ce) (l : Int) (i : Nat) (e : Ce), 0 ≤ l → EvV l es → es[i]? = some e → ∃ l, 0 ≤ l ∧ CeV l e := by
                intro es
                induction es with
                | nil => intro l i e _ _ h; simp at h
                | cons x es ih =>
                  intro l i e hl hE h
                  cases i with
                  | zero => simp at h; subst h; exact ⟨l, hl, hE.1⟩
                  | succ i => exact ih x.a i e (by have := hE.1.2.2.1; omega) hE.2 (by simpa using h)
              exact key es c.a i e hca.1 hE he
            obtain ⟨l, hl0, hce⟩ := hce
            rw [decide_eq_true c7, cond_true, decide_eq_true c6, cond_true]
            refine iterF_ind (fun s => ∃ (out : List Cs) (now : Cs), s = (now.s, now.f, now.n, now.s, now.f, now.n) ∧ RunO r c es t out now i) (fun s => rk s.1) _ ?_ n _ ⟨out, now, rfl, hO⟩ (by have := rk_le now.s; simp only; omega)
            rintro _ go1 ⟨out, now, rfl, hO⟩ ih1
            simp only
            obtain ⟨f1, f2, f3, f4⟩ := facts out now i hO.j
            have g1 : cI (ceL es) i 1 = e.a := by simp only [cI]; rw [cA_map (by simpa using he)]; rfl
            have tail : ¬ (act now ∧ now.n ≤ e.a) → claim_Outcome_9 n go go1 r.c r.s c.b (ceL es) t (i : Int) vd now.s now.f now.n now.s now.f now.n = some ((outV r c es t).s, (outV r c es t).f, (outV r c es t).n, 0) := fun hna => by
              rw [ot_event n go go1 r hr c.b es t i e he vd now.s now.f now.n now.s now.f now.n l hce hl0 (by omega) (by omega)]
              by_cases hb : bec c.b now.s e < 0
              · rw [if_pos hb]
                exact ih _ ⟨i + 1, vd ++ [[AV.int (i : Int)]], out, now, by simp, by simp; omega, ⟨hO.j.void he hna hb, hO.up⟩⟩ (by simp only; omega)
              · rw [if_neg hb]
                by_cases hte : t < e.a
                · rw [if_pos hte, hO.stop (by rw [drop_cons he, tl_ev hna hb]) (fun x hx => by simp at hx; subst hx; exact hte)]
                · rw [if_neg hte]
                  exact ih _ ⟨i + 1, vd, out ++ [st r (bec c.b now.s e) e.a], _, by simp, by omega, hO.go (hO.j.event he hna hb) (by simp only [st]; omega)⟩ (by simp only; omega)
            unfold claim_Outcome_7
            rw [ot15]
            by_cases hn0 : 0 ≤ now.n
            · have ha := f1.1 hn0
              rw [decide_eq_true hn0, cond_true]
              by_cases hnm : now.n ≤ e.a
              · rw [ot_auto8 n go go1 r hr c.b (ceL es) t i vd now.s now.f now.n now.s now.f now.n ha (by rw [g1]; exact hnm) (by omega) (by omega)]
                by_cases htn : t < now.n
                · rw [if_pos htn, hO.stop (by rw [drop_cons he, tl_auto ⟨ha, hnm⟩]) (fun x hx => by simp at hx; subst hx; exact htn)]
                · rw [if_neg htn]
                  exact ih1 _ ⟨out ++ [st r (aft now.s) now.n], _, rfl, hO.go (hO.j.auto ha (fun e' he' => by rw [he] at he'; cases he'; exact hnm)) (by simp only [st]; omega)⟩ (rk_aft ha)
              · unfold claim_Outcome_8
                rw [g1, decide_eq_false hnm, cond_false]
                exact tail fun h => hnm h.2
            · rw [decide_eq_false hn0, cond_false]
              exact tail fun h => hn0 (f1.2 h.1)
          · have h00 : i = es.length := by omega
            have c7 : ¬ (i : Int) < ((ceL es).length : Int) := by rw [List.length_map]; omega
            have hnone : ∀ e, ¬ es[i]? = some e := fun e he => by have := (List.getElem?_eq_some_iff.1 he).1; omega
            have hdr : es.drop i = [] := by rw [h00, List.drop_length]
            rw [decide_eq_false c7, cond_false]
            refine iterF_ind (fun s => ∃ (out : List Cs) (now : Cs), s = (now.s, now.f, now.n, now.s, now.f, now.n) ∧ RunO r c es t out now i) (fun s => rk s.1) _ ?_ n _ ⟨out, now, rfl, hO⟩ (by have := rk_le now.s; simp only; omega)
            rintro _ go1 ⟨out, now, rfl, hO⟩ ih1
            simp only
            obtain ⟨f1, f2, f3, f4⟩ := facts out now i hO.j
            by_cases hn0 : 0 ≤ now.n
            · have ha := f1.1 hn0
              rw [ot_auto21 n go1 r hr t now.s now.n now.s now.f now.n ha hn0 (by omega)]
              by_cases htn : t < now.n
              · rw [if_pos htn, hO.stop (by rw [hdr, tl_end ha]) (fun x hx => by simp at hx; subst hx; exact htn)]
              · rw [if_neg htn]
                exact ih1 _ ⟨out ++ [st r (aft now.s) now.n], _, rfl, hO.go (hO.j.auto ha (fun e' he' => absurd he' (hnone e'))) (by simp only [st]; omega)⟩ (rk_aft ha)
            · unfold claim_Outcome_21
              rw [decide_eq_false hn0, cond_false, hO.stop (by rw [hdr, tl_nil (fun ha => hn0 (f1.2 ha))]) (fun x hx => by cases hx)]
      · have : ¬ (ClmV r c es ∧ 0 ≤ t ∧ t ≤ 20000000) := fun h => h1 h.2.2
        simp [hv, h0, h1]
    · simp [hv, h0]
  · unfold claim_Outcome_2
    simp [hv]
theorem claim_With_v (n : Nat) (r : Rl) (c : Cl) (es : List Ce) (t : Int) (hn : 200 < n) : claim_With n r.a r.c r.s r.r c.n c.f c.t c.h c.a c.b (ceL es) t = some (if OkOut r c es t then (if (outV r c es t).s = 4 ∨ (outV r c es t).s = 5 then c.t else c.f, 0) else (0, 160)) := by
  unfold claim_With claim_With_1
  rw [claim_Outcome_v n r c es t hn]
  unfold outR
  by_cases h : OkOut r c es t
  · simp only [h, if_true, Option.bind_some]
    grind
  · simp [h]
end Go.Proofs.Ytjllgiddmeiaoaa
