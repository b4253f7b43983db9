/-
  What the plain functions of claims give: the reference's run, outcome, timeline.
-/
import Derived.Test.YtjllgiddmeiaoaaQ5
set_option linter.unusedVariables false
set_option linter.unusedSimpArgs false
set_option maxRecDepth 100000
namespace Go.Proofs.Ytjllgiddmeiaoaa
open Go Go.Sx Go.Dial.Clm
theorem last_cell {out : List Cs} {now : Cs} (h : out.getLast? = some now) (k : Nat) : cA (csL out) ((out.length : Int) - 1) k = (csR now).getD k (.int 0) := by
  refine cA_map ?_
  rw [List.getLast?_eq_getElem?] at h
  rw [show ((out.length : Int) - 1).toNat = out.length - 1 by omega]
  exact h
theorem last_pos {out : List Cs} {now : Cs} (h : out.getLast? = some now) : 1 ≤ out.length := by
  cases out with
  | nil => cases h
  | cons x l => simp
/-- where the reference's run stands -/
structure RunI (r : Rl) (c : Cl) (es : List Ce) (u : Int) (out : List Cs) (now : Cs) (i : Nat) : Prop where
  le : i ≤ es.length
  last : out.getLast? = some now
  form : ∃ s f, now = st r s f ∧ 0 ≤ f ∧ f ≤ 40000000
  rest : upTo u (timeline r c es) = out ++ upTo u (tl r c.b now (es.drop i))
  evs : ∃ l, 0 ≤ l ∧ EvV l (es.drop i)
theorem RunI.len {r : Rl} {c : Cl} {es : List Ce} {u : Int} {out : List Cs} {now : Cs} {i : Nat} (h : RunI r c es u out now i) (hl : es.length ≤ 20) : out.length ≤ 110 := by
  have h1 : (upTo u (timeline r c es)).length ≤ (timeline r c es).length := by unfold upTo; exact List.Sublist.length_le (List.takeWhile_sublist _)
  have h2 := tl_len (r := r) (b := c.b) _ (x0 r c) es (Nat.le_refl _)
  have h3 := rk_le (x0 r c).s
  have h4 := congrArg List.length h.rest
  unfold timeline at h1 h4
  simp only [List.length_cons, List.length_append] at h1 h4
  omega
theorem act_n {r : Rl} (hr : RlV r) {s f : Int} (h0 : 0 ≤ f) : 0 ≤ (st r s f).n ↔ act (st r s f) := by
  unfold act
  by_cases h : 1 ≤ s ∧ s ≤ 4
  · have := (st_n hr (f := f) h).1
    exact ⟨fun _ => h, fun _ => by omega⟩
  · simp only [st]
    rw [if_neg h]
    exact ⟨fun h' => by omega, fun h' => absurd h' h⟩
theorem upTo_stop {u : Int} {l : List Cs} (h : ∀ x ∈ l, u < x.f) : upTo u l = [] := by
  cases l with
  | nil => rfl
  | cons x l =>
    have := h x (List.mem_cons_self ..)
    unfold upTo
    rw [List.takeWhile_cons]
    simp; omega
theorem upTo_go {u : Int} {x : Cs} {l : List Cs} (h : x.f ≤ u) : upTo u (x :: l) = x :: upTo u l := by
  unfold upTo
  rw [List.takeWhile_cons]
  simp [h]
theorem RunI.auto {r : Rl} {c : Cl} {es : List Ce} {u : Int} {out : List Cs} {now : Cs} {i : Nat} (hr : RlV r) (hu : u ≤ 40000000) (h : RunI r c es u out now i) (ha : act now) (h1 : ∀ e, es[i]? = some e → now.n ≤ e.a) (h2 : now.n ≤ u) :
    RunI r c es u (out ++ [st r (aft now.s) now.n]) (st r (aft now.s) now.n) i := by
  obtain ⟨s, f, hf, f0, f1⟩ := h.form
  have h0 : 0 ≤ now.n := by rw [hf]; exact (act_n hr f0).2 (hf ▸ ha)
  refine ⟨h.le, by simp, ⟨_, _, rfl, h0, by omega⟩, ?_, h.evs⟩
  rw [h.rest]
  have : tl r c.b now (es.drop i) = st r (aft now.s) now.n :: tl r c.b (st r (aft now.s) now.n) (es.drop i) := by
    cases hd : es.drop i with
    | nil => exact tl_end ha
    | cons e rest =>
      have he : es[i]? = some e := by
        have := congrArg (fun l => l[0]?) hd
        simpa using this
      exact tl_auto ⟨ha, h1 e he⟩
  rw [this, upTo_go (by exact h2)]
  simp
theorem RunI.done {r : Rl} {c : Cl} {es : List Ce} {u : Int} {out : List Cs} {now : Cs} {i : Nat} (hr : RlV r) (h : RunI r c es u out now i) (h1 : act now → u < now.n) (h2 : ∀ e, es[i]? = some e → u < e.a) : upTo u (timeline r c es) = out := by
  rw [h.rest]
  obtain ⟨l, l0, hE⟩ := h.evs
  have : upTo u (tl r c.b now (es.drop i)) = [] := by
    refine upTo_stop fun x hx => ?_
    have := tl_ge hr (b := c.b) (now := now) (es := es.drop i) (m := u + 1) (fun ha => by have := h1 ha; omega) (fun e he => ?_) x hx
    · omega
    · cases hd : es.drop i with
      | nil => rw [hd] at he; cases he
      | cons y rest =>
        have hy : es[i]? = some y := by
          have := congrArg (fun l => l[0]?) hd
          simpa using this
        have h3 := h2 y hy
        rw [hd] at he hE
        rcases List.mem_cons.1 he with rfl | he
        · omega
        · have := (evV_ge hE.2 e he).1; omega
  rw [this]; simp
theorem RunI.event {r : Rl} {c : Cl} {es : List Ce} {u : Int} {out : List Cs} {now : Cs} {i : Nat} {e : Ce} (h : RunI r c es u out now i) (he : es[i]? = some e) (h1 : ¬ (act now ∧ now.n ≤ e.a)) (hb : ¬ bec c.b now.s e < 0) (h2 : e.a ≤ u) :
    RunI r c es u (out ++ [st r (bec c.b now.s e) e.a]) (st r (bec c.b now.s e) e.a) (i + 1) := by
  obtain ⟨l, l0, hE⟩ := h.evs
  have hd := drop_cons he
  rw [hd] at hE
  have hlt := (List.getElem?_eq_some_iff.1 he).1
  refine ⟨hlt, by simp, ⟨_, _, rfl, by have := hE.1.2.2.1; omega, by have := hE.1.2.2.2.1; omega⟩, ?_, ⟨e.a, by have := hE.1.2.2.1; omega, hE.2⟩⟩
  rw [h.rest, hd, tl_ev h1 hb, upTo_go (by exact h2)]
  simp
theorem RunI.void {r : Rl} {c : Cl} {es : List Ce} {u : Int} {out : List Cs} {now : Cs} {i : Nat} {e : Ce} (h : RunI r c es u out now i) (he : es[i]? = some e) (h1 : ¬ (act now ∧ now.n ≤ e.a)) (hb : bec c.b now.s e < 0) : RunI r c es u out now (i + 1) := by
  obtain ⟨l, l0, hE⟩ := h.evs
  have hd := drop_cons he
  rw [hd] at hE
  have hlt := (List.getElem?_eq_some_iff.1 he).1
  refine ⟨hlt, h.last, h.form, ?_, ⟨e.a, by have := hE.1.2.2.1; omega, hE.2⟩⟩
  rw [h.rest, hd, tl_void h1 hb]
theorem run_end {n : Nat} {r : Rl} {c : Cl} {es : List Ce} {u : Int} {out : List Cs} {now : Cs} {i : Nat} {go : ref16_run_s0 → Option ref16_run_a} (hr : RlV r) (hu2 : u ≤ 40000000) (hlen : es.length ≤ 20) (hI : RunI r c es u out now i) (h0 : i = es.length) (hn : rk now.s < n) (vd : Lv) (hv : True) :
    ∃ q : Lv × Lv, (bif decide ((i : Int) < (es.length : Int)) then none else iterF (fun go1 s => ref16_run_5 n go go1 r.a r.c r.s r.r c.n c.f c.t c.h c.a c.b (ceL es) u vd (i : Int) s.1 s.2.1 s.2.2.2) n (csL out, now.s, now.f, now.n)) = some q ∧ q.1 = csL (upTo u (timeline r c es)) := by
  have c7 : ¬ (i : Int) < (es.length : Int) := by omega
  have hnone : ∀ e, ¬ es[i]? = some e := fun e he => by have := (List.getElem?_eq_some_iff.1 he).1; omega
  simp only [c7, decide_false, cond_false]
  refine iterF_ex (fun s => ∃ (out : List Cs) (now : Cs), s = (csL out, now.s, now.f, now.n) ∧ RunI r c es u out now i) (fun s => rk s.2.1) (fun q : Lv × Lv => q.1 = csL (upTo u (timeline r c es))) ?_ n _ ⟨out, now, rfl, hI⟩ hn
  rintro _ go1 ⟨out, now, rfl, hI⟩ ih1
  simp only
  unfold ref16_run_5
  have hol := hI.len hlen
  obtain ⟨s, f, hf, f0, f1⟩ := hI.form
  have hact := act_n hr (s := s) f0
  rw [← hf] at hact
  have c11 : ((out.length : Int) + 1) * 24 ≤ 140737488355328 := by omega
  have hne : (i : Int) = ((ceL es).length : Int) := by simp; omega
  rw [show decide ((i : Int) = ((ceL es).length : Int)) = true from decide_eq_true hne]
  simp only [List.length_map, c11, decide_true]
  simp only [cond_true, ref16_after_v, Option.bind_some]
  by_cases hn0 : 0 ≤ now.n
  · simp only [hn0, decide_true, cond_true]
    by_cases hnm : now.n ≤ u
    · simp only [hnm, decide_true, cond_true, ref16_status_v n r hr (aft now.s) now.n hn0 (by omega), Option.bind_some, stT]
      exact ih1 _ ⟨out ++ [st r (aft now.s) now.n], _, by simp, hI.auto hr hu2 (hact.1 hn0) (fun e' he' => absurd he' (hnone e')) hnm⟩ (rk_aft (hact.1 hn0))
    · simp only [hnm, decide_false, cond_false]
      exact ⟨_, rfl, by rw [hI.done hr (fun _ => by omega) (fun e' he' => absurd he' (hnone e'))]⟩
  · simp only [hn0, decide_false, cond_false]
    exact ⟨_, rfl, by rw [hI.done hr (fun h => absurd (hact.2 h) hn0) (fun e' he' => absurd he' (hnone e'))]⟩
theorem ref16_run_v (n : Nat) (r : Rl) (c : Cl) (es : List Ce) (u : Int) (h : ClmV r c es) (hn : 200 < n) (hu1 : c.a ≤ u) (hu2 : u ≤ 40000000) :
    ∃ vd, ref16_run n r.a r.c r.s r.r c.n c.f c.t c.h c.a c.b (ceL es) u = some (csL (upTo u (timeline r c es)), vd) := by
  obtain ⟨hr, hcl, hlen, hE⟩ := h
  have ha0 : 0 ≤ c.a ∧ c.a ≤ 10000000 := by unfold ClV at hcl; omega
  have main : ∃ q : Lv × Lv, ref16_run n r.a r.c r.s r.r c.n c.f c.t c.h c.a c.b (ceL es) u = some q ∧ q.1 = csL (upTo u (timeline r c es)) := by
    unfold ref16_run ref16_run_1
    rw [ref16_status_v n r hr 1 c.a (by omega) (by omega)]
    simp only [Option.bind_some]
    refine iterF_ex (fun s => ∃ (out : List Cs) (vd : Lv) (i : Nat) (now : Cs), s = (csL out, vd, (i : Int)) ∧ vd.length ≤ i ∧ RunI r c es u out now i) (fun s => es.length + 1 - s.2.2.toNat) (fun q : Lv × Lv => q.1 = csL (upTo u (timeline r c es))) ?_ n _
      ⟨[x0 r c], [], 0, x0 r c, rfl, by simp, by omega, rfl, ⟨1, c.a, rfl, by omega, by omega⟩, by unfold timeline; rw [upTo_go (by exact hu1)]; simp, ⟨c.a, by omega, by simpa using hE⟩⟩ (by simp; omega)
    rintro _ go ⟨out, vd, i, now, rfl, hvd, hI⟩ ih
    simp only
    unfold ref16_run_2 ref16_run_3
    have hpos := last_pos hI.last
    have hol := hI.len hlen
    have hle := hI.le
    have c1 : (i : Int) ≤ (es.length : Int) := by omega
    have c2 : (-9223372036854775808 : Int) ≤ (out.length : Int) - 1 := by omega
    have c3 : (out.length : Int) - 1 ≤ (9223372036854775807 : Int) := by omega
    have c4 : (0 : Int) ≤ (out.length : Int) - 1 := by omega
    have c5 : (out.length : Int) - 1 < (out.length : Int) := by omega
    have l0 : cI (csL out) ((out.length : Int) - 1) 0 = now.s := by simp only [cI, last_cell hI.last]; rfl
    have l1 : cI (csL out) ((out.length : Int) - 1) 1 = now.f := by simp only [cI, last_cell hI.last]; rfl
    have l2 : cI (csL out) ((out.length : Int) - 1) 2 = now.n := by simp only [cI, last_cell hI.last]; rfl
    have c6 : (0 : Int) ≤ (i : Int) := by omega
    have c8 : (-9223372036854775808 : Int) ≤ (i : Int) + 1 := by omega
    have c9 : (i : Int) + 1 ≤ (9223372036854775807 : Int) := by omega
    have c10 : ((vd.length : Int) + 1) * 8 ≤ 140737488355328 := by omega
    simp only [List.length_map, c1, c2, c3, c4, c5, c6, l0, l1, l2, decide_true, cond_true, Bool.and_self]
    have stat : ∀ (out : List Cs) (now : Cs), RunI r c es u out now i → ∃ s f, now = st r s f ∧ 0 ≤ f ∧ f ≤ 40000000 := fun _ _ h => h.form
    by_cases hlt : i < es.length
    · as_aux_lemma =>
      have c7 : (i : Int) < (es.length : Int) := by omega
      obtain ⟨e, he⟩ := get_lt hlt
      have hc : ∀ k, cA (ceL es) (i : Int) k = (ceR e).getD k (.int 0) := fun k => cA_map (by simpa using he)
      have g0 : cI (ceL es) i 0 = e.k := by simp only [cI, hc]; rfl
      have g1 : cI (ceL es) i 1 = e.a := by simp only [cI, hc]; rfl
      have g2 : cI (ceL es) i 2 = e.r := by simp only [cI, hc]; rfl
      simp only [c7, decide_true, cond_true]
      refine iterF_ex (fun s => ∃ (out : List Cs) (now : Cs), s = (csL out, now.s, now.f, now.n) ∧ RunI r c es u out now i) (fun s => rk s.2.1) (fun q : Lv × Lv => q.1 = csL (upTo u (timeline r c es))) ?_ n _ ⟨out, now, rfl, hI⟩ (by have := rk_le now.s; simp only; omega)
      rintro _ go1 ⟨out, now, rfl, hI⟩ ih1
      simp only
      unfold ref16_run_4
      have hol := hI.len hlen
      obtain ⟨s, f, hf, f0, f1⟩ := hI.form
      have hact := act_n hr (s := s) f0
      rw [← hf] at hact
      have e0 : 0 ≤ e.a ∧ e.a ≤ 20000000 := by
        obtain ⟨l, l0, hE'⟩ := hI.evs
        rw [drop_cons he] at hE'
        have := hE'.1.2.2
        omega
      have c11 : ((out.length : Int) + 1) * 24 ≤ 140737488355328 := by omega
      have hne : ¬ (i : Int) = (es.length : Int) := by omega
      simp only [g0, g1, g2, List.length_map, c8, c9, c10, c11, hne, decide_true, decide_false, cond_true, cond_false, Bool.and_self, ref16_after_v, ref16_becomes_v, Option.bind_some]
      -- what comes when nothing happens by itself any more
      have tail : ¬ (act now ∧ now.n ≤ imin e.a u) → ∃ q : Lv × Lv, (bif decide (u < e.a) then some (csL out, vd) else bif decide (bec c.b now.s e < 0) then go (csL out, vd ++ [[AV.int (i : Int)]], (i : Int) + 1) else
          (ref16_status n r.a r.c r.s r.r (bec c.b now.s e) e.a).bind fun y23 => go (csL out ++ [[AV.int y23.1, AV.int y23.2.1, AV.int y23.2.2]], vd, (i : Int) + 1)) = some q ∧ q.1 = csL (upTo u (timeline r c es)) := fun hna => by
        by_cases hue : u < e.a
        · simp only [hue, decide_true, cond_true]
          refine ⟨_, rfl, ?_⟩
          have hm : imin e.a u = u := by unfold imin; rw [if_pos hue]
          rw [hm] at hna
          rw [hI.done hr (fun ha => by have : ¬ now.n ≤ u := fun h => hna ⟨ha, h⟩; omega) (fun e' he' => by rw [he] at he'; cases he'; exact hue)]
        · have hm : imin e.a u = e.a := by unfold imin; rw [if_neg hue]
          rw [hm] at hna
          simp only [hue, decide_false, cond_false]
          by_cases hb : bec c.b now.s e < 0
          · simp only [hb, decide_true, cond_true]
            exact ih _ ⟨out, vd ++ [[AV.int (i : Int)]], i + 1, now, by simp, by simp; omega, hI.void he hna hb⟩ (by simp only; omega)
          · simp only [hb, decide_false, cond_false, ref16_status_v n r hr (bec c.b now.s e) e.a e0.1 (by omega), Option.bind_some, stT]
            exact ih _ ⟨out ++ [st r (bec c.b now.s e) e.a], vd, i + 1, _, by simp, by omega, hI.event he hna hb (by omega)⟩ (by simp only; omega)
      by_cases hn0 : 0 ≤ now.n
      · simp only [hn0, decide_true, cond_true]
        by_cases hnm : now.n ≤ imin e.a u
        · have hle : now.n ≤ e.a ∧ now.n ≤ u := by unfold imin at hnm; split at hnm <;> omega
          simp only [hnm, decide_true, cond_true, ref16_status_v n r hr (aft now.s) now.n hn0 (by omega), Option.bind_some, stT]
          exact ih1 _ ⟨out ++ [st r (aft now.s) now.n], _, by simp, hI.auto hr hu2 (hact.1 hn0) (fun e' he' => by rw [he] at he'; cases he'; exact hle.1) hle.2⟩ (rk_aft (hact.1 hn0))
        · simp only [hnm, decide_false, cond_false]
          exact tail fun h => hnm h.2
      · simp only [hn0, decide_false, cond_false]
        exact tail fun h => hn0 (hact.2 h.1)
    · have c7 : ¬ (i : Int) < (es.length : Int) := by omega
      have := run_end (n := n) (go := go) hr hu2 hlen hI (by omega) (by have := rk_le now.s; omega) vd trivial
      simp only [c7, decide_false, cond_false] at this ⊢
      exact this
  obtain ⟨⟨q1, q2⟩, h1, h2⟩ := main
  exact ⟨q2, by rw [h1]; simp only at h2; rw [h2]⟩
end Go.Proofs.Ytjllgiddmeiaoaa
