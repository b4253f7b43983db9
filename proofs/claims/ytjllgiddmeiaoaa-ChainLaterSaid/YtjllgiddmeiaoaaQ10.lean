/-
  What the plain functions of claims give: the program's timeline.
-/
import Derived.Test.YtjllgiddmeiaoaaQ9
import Derived.Test.YtjllgiddmeiaoaaD3
set_option linter.unusedVariables false
set_option linter.unusedSimpArgs false
set_option maxRecDepth 100000
namespace Go.Proofs.Ytjllgiddmeiaoaa
open Go Go.Sx Go.Dial.Clm
theorem timeline_le {r : Rl} {c : Cl} {es : List Ce} (h : ClmV r c es) : ∀ x ∈ timeline r c es, x.f ≤ 23000000 := by
  obtain ⟨hr, hc, hl, hE⟩ := h
  unfold ClV at hc
  intro x hx
  unfold timeline at hx
  have h0 : (x0 r c).f = c.a := rfl
  rcases List.mem_cons.1 hx with rfl | hx
  · omega
  · exact tl_le hr (b := c.b) (now := x0 r c) (es := es) (by rw [h0]; have := rk_le (x0 r c).s; omega) (fun _ => (st_n hr (s := 1) (f := c.a) (by omega)).2) (fun e he => (evV_ge hE e he).2) x hx
theorem timeline_ge {r : Rl} {c : Cl} {es : List Ce} (h : ClmV r c es) : ∀ x ∈ timeline r c es, c.a ≤ x.f := by
  obtain ⟨hr, hc, hl, hE⟩ := h
  intro x hx
  unfold timeline at hx
  rcases List.mem_cons.1 hx with rfl | hx
  · exact Int.le_refl _
  · exact tl_ge hr (b := c.b) (now := x0 r c) (es := es) (fun ha => by have := (st_n hr (s := 1) (f := c.a) (by omega)).1; unfold x0; omega) (fun e he => (evV_ge hE e he).1) x hx
theorem timeline_st {r : Rl} {c : Cl} {es : List Ce} : ∀ x ∈ timeline r c es, ∃ s f, x = st r s f := by
  intro x hx
  unfold timeline at hx
  rcases List.mem_cons.1 hx with rfl | hx
  · exact ⟨_, _, rfl⟩
  · exact tl_all (r := r) (b := c.b) (fun x => ∃ s f, x = st r s f) (fun _ _ => True) (fun _ _ _ _ _ _ => ⟨⟨_, _, rfl⟩, trivial⟩) (fun _ _ _ _ _ _ => trivial) (fun _ _ _ _ _ _ => ⟨⟨_, _, rfl⟩, trivial⟩) (fun _ _ _ => ⟨⟨_, _, rfl⟩, trivial⟩) _ _ _ (Nat.le_refl _) trivial x hx
theorem timeline_len {r : Rl} {c : Cl} {es : List Ce} (hl : es.length ≤ 20) : (timeline r c es).length ≤ 110 := by
  have h2 := tl_len (r := r) (b := c.b) _ (x0 r c) es (Nat.le_refl _)
  have h3 := rk_le (x0 r c).s
  unfold timeline
  simp only [List.length_cons]
  omega
/-- where the program's run stands -/
structure RunJ (r : Rl) (c : Cl) (es : List Ce) (out : List Cs) (now : Cs) (i : Nat) : Prop where
  le : i ≤ es.length
  last : out.getLast? = some now
  rest : timeline r c es = out ++ tl r c.b now (es.drop i)
section
variable {r : Rl} {c : Cl} {es : List Ce} {out : List Cs} {now : Cs} {i : Nat}
theorem RunJ.mem (h : RunJ r c es out now i) : now ∈ timeline r c es := by
  rw [h.rest]; exact List.mem_append_left _ (List.mem_of_getLast? h.last)
theorem RunJ.len (h : RunJ r c es out now i) (hl : es.length ≤ 20) : out.length ≤ 110 := by
  have h1 := timeline_len (r := r) (c := c) hl
  rw [h.rest, List.length_append] at h1
  omega
theorem RunJ.auto (h : RunJ r c es out now i) (ha : act now) (h1 : ∀ e, es[i]? = some e → now.n ≤ e.a) : RunJ r c es (out ++ [st r (aft now.s) now.n]) (st r (aft now.s) now.n) i := by
  refine ⟨h.le, by simp, ?_⟩
  rw [h.rest]
  have : tl r c.b now (es.drop i) = st r (aft now.s) now.n :: tl r c.b (st r (aft now.s) now.n) (es.drop i) := by
    cases hd : es.drop i with
    | nil => exact tl_end ha
    | cons e rest =>
      have he : es[i]? = some e := by
        have := congrArg (fun l => l[0]?) hd
        simpa using this
      exact tl_auto ⟨ha, h1 e he⟩
  rw [this]
  simp
theorem RunJ.event {e : Ce} (h : RunJ r c es out now i) (he : es[i]? = some e) (h1 : ¬ (act now ∧ now.n ≤ e.a)) (hb : ¬ bec c.b now.s e < 0) : RunJ r c es (out ++ [st r (bec c.b now.s e) e.a]) (st r (bec c.b now.s e) e.a) (i + 1) := by
  refine ⟨(List.getElem?_eq_some_iff.1 he).1, by simp, ?_⟩
  rw [h.rest, drop_cons he, tl_ev h1 hb]
  simp
theorem RunJ.void {e : Ce} (h : RunJ r c es out now i) (he : es[i]? = some e) (h1 : ¬ (act now ∧ now.n ≤ e.a)) (hb : bec c.b now.s e < 0) : RunJ r c es out now (i + 1) :=
  ⟨(List.getElem?_eq_some_iff.1 he).1, h.last, by rw [h.rest, drop_cons he, tl_void h1 hb]⟩
theorem RunJ.done (h : RunJ r c es out now i) (h0 : i = es.length) (h1 : ¬ act now) : timeline r c es = out := by
  rw [h.rest, h0, List.drop_length, tl_nil h1]; simp
end
/-- an event, as the program takes it -/
theorem tl_event (n : Nat) (go0 : claim_Timeline_s0 → Option claim_Timeline_a) (go1 : claim_Timeline_s1 → Option claim_Timeline_a) (r : Rl) (hr : RlV r) (b : Bool) (es : List Ce) (i : Nat) (e : Ce) (he : es[i]? = some e) (vd : Lv) (out : List Cs) (s f m l : Int)
    (hce : CeV l e) (hl : 0 ≤ l) (h1 : vd.length ≤ 20) (h2 : out.length ≤ 110) (h3 : i ≤ 20) :
    claim_Timeline_6 n go0 go1 r.c r.s b (ceL es) (i : Int) vd (csL out) s f m = if bec b s e < 0 then go0 ((i : Int) + 1, vd ++ [[AV.int (i : Int)]], csL out, s, f, m) else go0 ((i : Int) + 1, vd, csL out ++ [csR (st r (bec b s e) e.a)], (st r (bec b s e) e.a).s, (st r (bec b s e) e.a).f, (st r (bec b s e) e.a).n) := by
  have hc : ∀ k, cA (ceL es) (i : Int) k = (ceR e).getD k (.int 0) := fun k => cA_map (by simpa using he)
  have g0 : cI (ceL es) i 0 = e.k := by simp only [cI, hc]; rfl
  have g1 : cI (ceL es) i 1 = e.a := by simp only [cI, hc]; rfl
  have g2 : cI (ceL es) i 2 = e.r := by simp only [cI, hc]; rfl
  have c4 : (-9223372036854775808 : Int) ≤ (i : Int) + 1 := by omega
  have c5 : (i : Int) + 1 ≤ (9223372036854775807 : Int) := by omega
  have c10 : ((vd.length : Int) + 1) * 8 ≤ 140737488355328 := by omega
  have c11 : ((out.length : Int) + 1) * 24 ≤ 140737488355328 := by omega
  have hrr := hr
  unfold RlV at hr
  unfold CeV at hce
  have c6 : (-9223372036854775808 : Int) ≤ e.a + r.c := by omega
  have c7 : e.a + r.c ≤ (9223372036854775807 : Int) := by omega
  have c8 : (-9223372036854775808 : Int) ≤ e.a + r.s := by omega
  have c9 : e.a + r.s ≤ (9223372036854775807 : Int) := by omega
  unfold claim_Timeline_6 claim_Timeline_7 claim_Timeline_8 claim_Timeline_9 claim_Timeline_10 claim_Timeline_11
  simp only [g0, g1, g2, List.length_map, c4, c5, c6, c7, c8, c9, c10, c11, decide_true, Bool.and_self]
  simp only [cond_true]
  clear g0 g1 g2 hc c4 c5 c6 c7 c8 c9 c10 c11
  unfold bec st dur
  have hk : e.k = 1 ∨ e.k = 2 ∨ e.k = 3 ∨ e.k = 4 ∨ e.k = 5 ∨ e.k = 6 := by omega
  have hs : s = 1 ∨ s = 2 ∨ s = 3 ∨ s = 4 ∨ (s ≠ 1 ∧ s ≠ 2 ∧ s ≠ 3 ∧ s ≠ 4) := by omega
  cases b <;> by_cases hq : e.r = 1 <;> rcases hk with hk | hk | hk | hk | hk | hk <;> rcases hs with hs | hs | hs | hs | ⟨q1, q2, q3, q4⟩ <;> simp_all
theorem tl12 : @claim_Timeline_12 = @claim_Timeline_6 := rfl
/-- what happens by itself, as the program takes it -/
theorem aft_cases {now : Cs} (h : act now) : now.s = 1 ∨ now.s = 2 ∨ now.s = 3 ∨ now.s = 4 := by unfold act at h; omega
theorem tl_auto5 (n : Nat) (go0 : claim_Timeline_s0 → Option claim_Timeline_a) (go1 : claim_Timeline_s1 → Option claim_Timeline_a) (r : Rl) (hr : RlV r) (b : Bool) (L : Lv) (i : Int) (vd O : Lv) (s f m : Int) (ha : 1 ≤ s ∧ s ≤ 4) (hm : m ≤ cI L i 1) (h1 : -100000000 ≤ m) (h2 : m ≤ 100000000) (h3 : O.length ≤ 110) :
    claim_Timeline_5 n go0 go1 r.c r.s r.r b L i vd O s f m = go1 (O ++ [csR (st r (aft s) m)], (st r (aft s) m).s, (st r (aft s) m).f, (st r (aft s) m).n) := by
  have hs : s = 1 ∨ s = 2 ∨ s = 3 ∨ s = 4 := by omega
  unfold RlV at hr
  unfold claim_Timeline_5
  rcases hs with hs | hs | hs | hs <;> subst hs <;> simp only [csR, aft, st, dur] <;> grind
theorem tl_auto18 (n : Nat) (go1 : claim_Timeline_s1 → Option claim_Timeline_a) (r : Rl) (hr : RlV r) (O : Lv) (s m : Int) (ha : 1 ≤ s ∧ s ≤ 4) (h1 : 0 ≤ m) (h2 : m ≤ 100000000) (h3 : O.length ≤ 110) :
    claim_Timeline_18 n go1 r.c r.r O s m = go1 (O ++ [csR (st r (aft s) m)], (st r (aft s) m).s, (st r (aft s) m).f, (st r (aft s) m).n) := by
  have hs : s = 1 ∨ s = 2 ∨ s = 3 ∨ s = 4 := by omega
  unfold RlV at hr
  unfold claim_Timeline_18
  rcases hs with hs | hs | hs | hs <;> subst hs <;> simp only [csR, aft, st, dur] <;> grind
theorem claim_Timeline_v (n : Nat) (r : Rl) (c : Cl) (es : List Ce) (hn : 200 < n) : claim_Timeline n r.a r.c r.s r.r c.n c.f c.t c.h c.a c.b (ceL es) = some (if ClmV r c es then (csL (timeline r c es), 0) else ([], 160)) := by
  unfold claim_Timeline claim_Timeline_1 claim_Timeline_2
  rw [claim_Valid_v n r c es (by omega)]
  by_cases hv : ClmV r c es
  · obtain ⟨hr, hcl, hlen, hE⟩ := id hv
    have hrb := hr
    unfold RlV at hrb
    have hca : 0 ≤ c.a ∧ c.a ≤ 10000000 := by unfold ClV at hcl; omega
    have n1 : (-9223372036854775808 : Int) ≤ c.a + r.a := by omega
    have n2 : c.a + r.a ≤ (9223372036854775807 : Int) := by omega
    simp only [hv, decide_true, Option.bind_some, Bool.not_true, n1, n2, Bool.and_self, if_true]
    simp only [cond_true, cond_false]
    have facts : ∀ out now i, RunJ r c es out now i → (0 ≤ now.n ↔ act now) ∧ now.f ≤ 23000000 ∧ now.n ≤ 24000000 ∧ out.length ≤ 110 := fun out now i h => by
      have h1 := timeline_le hv now h.mem
      have h2 := timeline_ge hv now h.mem
      obtain ⟨s, f, hf⟩ := timeline_st now h.mem
      have h3 : (st r s f).f = f := rfl
      refine ⟨by rw [hf]; exact act_n hr (by rw [hf, h3] at h2; omega), h1, ?_, h.len hlen⟩
      rw [hf] at h1 ⊢
      have h1 : f ≤ 23000000 := h1
      by_cases ha : 1 ≤ s ∧ s ≤ 4
      · have := (st_n hr (f := f) ha).2; omega
      · simp only [st]; rw [if_neg ha]; omega
    refine iterF_ind (fun s => ∃ (i : Nat) (vd : Lv) (out : List Cs) (now : Cs), s = ((i : Int), vd, csL out, now.s, now.f, now.n) ∧ vd.length ≤ i ∧ RunJ r c es out now i) (fun s => es.length + 1 - s.1.toNat) _ ?_ n _
      ⟨0, [], [x0 r c], x0 r c, rfl, by simp, ⟨by omega, rfl, by unfold timeline; simp⟩⟩ (by simp; omega)
    rintro _ go ⟨i, vd, out, now, rfl, hvd, hJ⟩ ih
    simp only
    unfold claim_Timeline_3
    have hle := hJ.le
    have c6 : (0 : Int) ≤ (i : Int) := by omega
    by_cases hlt : i < es.length
    · have c7 : (i : Int) < (es.length : Int) := by omega
      obtain ⟨e, he⟩ := get_lt hlt
      have hce : ∃ l, 0 ≤ l ∧ CeV l e := by
        have := (evV_ge hE)
        have key : ∀ (es : List Ce) (l : Int) (i : Nat) (e : Ce), 0 ≤ l → EvV l es → es[i]? = some e → ∃ l, 0 ≤ l ∧ CeV l e := by
          intro es
          induction es with
          | nil => intro l i e _ _ h; simp at h
          | cons x es ih =>
            intro l i e hl hE h
            cases i with
            | zero => simp at h; subst h; exact ⟨l, hl, hE.1⟩
            | succ i => exact ih x.a i e (by have := hE.1.2.2.1; omega) hE.2 (by simpa using h)
        exact key es c.a i e hca.1 hE he
      obtain ⟨l, hl0, hce⟩ := hce
      simp only [List.length_map, c6, c7, decide_true]
      simp only [cond_true]
      refine iterF_ind (fun s => ∃ (out : List Cs) (now : Cs), s = (csL out, now.s, now.f, now.n) ∧ RunJ r c es out now i) (fun s => rk s.2.1) _ ?_ n _ ⟨out, now, rfl, hJ⟩ (by have := rk_le now.s; simp only; omega)
      rintro _ go1 ⟨out, now, rfl, hJ⟩ ih1
      simp only
      obtain ⟨f1, f2, f3, f4⟩ := facts out now i hJ
      have tail : ¬ (act now ∧ now.n ≤ e.a) → claim_Timeline_6 n go go1 r.c r.s c.b (ceL es) (i : Int) vd (csL out) now.s now.f now.n = some (csL (timeline r c es), 0) := fun hna => by
        rw [tl_event n go go1 r hr c.b es i e he vd out now.s now.f now.n l hce hl0 (by omega) f4 (by omega)]
        by_cases hb : bec c.b now.s e < 0
        · rw [if_pos hb]
          exact ih _ ⟨i + 1, vd ++ [[AV.int (i : Int)]], out, now, by simp, by simp; omega, hJ.void he hna hb⟩ (by simp only; omega)
        · rw [if_neg hb]
          exact ih _ ⟨i + 1, vd, out ++ [st r (bec c.b now.s e) e.a], _, by simp, by omega, hJ.event he hna hb⟩ (by simp only; omega)
      unfold claim_Timeline_4
      have g1 : cI (ceL es) i 1 = e.a := by simp only [cI]; rw [cA_map (by simpa using he)]; rfl
      rw [tl12]
      by_cases hn0 : 0 ≤ now.n
      · have ha := f1.1 hn0
        rw [decide_eq_true hn0, cond_true]
        by_cases hnm : now.n ≤ e.a
        · rw [tl_auto5 n go go1 r hr c.b (ceL es) i vd (csL out) now.s now.f now.n ha (by rw [g1]; exact hnm) (by omega) (by omega) (by rw [List.length_map]; exact f4)]
          have := ih1 _ ⟨out ++ [st r (aft now.s) now.n], _, rfl, hJ.auto ha (fun e' he' => by rw [he] at he'; cases he'; exact hnm)⟩ (rk_aft ha)
          rw [← this]; simp
        · unfold claim_Timeline_5
          rw [g1, decide_eq_false hnm, cond_false]
          exact tail fun h => hnm h.2
      · rw [decide_eq_false hn0, cond_false]
        exact tail fun h => hn0 (f1.2 h.1)
    · have h0 : i = es.length := by omega
      have c7 : ¬ (i : Int) < (es.length : Int) := by omega
      have hnone : ∀ e, ¬ es[i]? = some e := fun e he => by have := (List.getElem?_eq_some_iff.1 he).1; omega
      simp only [List.length_map, c7, decide_false]
      simp only [cond_false]
      refine iterF_ind (fun s => ∃ (out : List Cs) (now : Cs), s = (csL out, now.s, now.f, now.n) ∧ RunJ r c es out now i) (fun s => rk s.2.1) _ ?_ n _ ⟨out, now, rfl, hJ⟩ (by have := rk_le now.s; simp only; omega)
      rintro _ go1 ⟨out, now, rfl, hJ⟩ ih1
      simp only
      obtain ⟨f1, f2, f3, f4⟩ := facts out now i hJ
      by_cases hn0 : 0 ≤ now.n
      · have ha := f1.1 hn0
        rw [tl_auto18 n go1 r hr (csL out) now.s now.n ha hn0 (by omega) (by rw [List.length_map]; exact f4)]
        have := ih1 _ ⟨out ++ [st r (aft now.s) now.n], _, rfl, hJ.auto ha (fun e' he' => absurd he' (hnone e'))⟩ (rk_aft ha)
        rw [← this]; simp
      · unfold claim_Timeline_18
        rw [decide_eq_false hn0, cond_false, hJ.done h0 (fun ha => hn0 (f1.2 ha))]
  · simp [hv]
end Go.Proofs.Ytjllgiddmeiaoaa
