/-
  Plain mathematics of carriers that merge: two events in both orders; a part that is split off and comes back.
-/
import Derived.Test.YtgckmifmjiklmaaMrgM
set_option linter.unusedVariables false
set_option linter.unusedSimpArgs false
namespace Go.Dial.Mrg
open Go.Dial.Blk
theorem al_aft {w : Wd} {e : Ev} (hf : Frm e) {c : Int} (c0 : 0 ≤ c) (c1 : c ≤ 7) : has (aft w e).al c = if e.k = 2 then (has w.al c || decide (c = e.b)) else if e.k = 4 then has w.al c else (has w.al c && decide (c ≠ e.a)) := by
  show has (if e.k = 2 then addS w.al e.b else if e.k = 4 then w.al else delS w.al e.a) c = _
  by_cases h : e.k = 2
  · rw [if_pos h, if_pos h, has_add hf.b0 c0]
  · rw [if_neg h, if_neg h]
    by_cases h4 : e.k = 4
    · rw [if_pos h4, if_pos h4]
    · rw [if_neg h4, if_neg h4, has_del hf.a0 hf.a1 c0 c1]
theorem ev_aft {w : Wd} {e : Ev} (hf : Frm e) {c : Int} (c0 : 0 ≤ c) : has (aft w e).ev c = if e.k = 2 then (has w.ev c || decide (c = e.b)) else has w.ev c := by
  show has (if e.k = 2 then addS w.ev e.b else w.ev) c = _
  by_cases h : e.k = 2
  · rw [if_pos h, if_pos h, has_add hf.b0 c0]
  · rw [if_neg h, if_neg h]
theorem bal_len (ba : List Int) (e : Ev) : (balA ba e).length = ba.length := by
  unfold balA
  repeat' split
  all_goals simp only [List.length_set]
theorem lev_len (le : List Int) (e : Ev) : (levA le e).length = le.length := by
  unfold levA
  repeat' split
  all_goals simp only [List.length_set]
theorem g_bal {ba : List Int} {e : Ev} (hl : ba.length = 8) (hf : Frm e) {c : Int} (c0 : 0 ≤ c) (c1 : c ≤ 7) : g (balA ba e) c =
    if e.k = 1 then (if c = e.a then 0 else if c = e.b then g ba e.b + g ba e.a else g ba c)
    else if e.k = 2 then (if c = e.b then e.m else if c = e.a then g ba e.a - e.m else g ba c)
    else if e.k = 3 then (if c = e.a then 0 else if c = e.c then (if e.c = e.b then g ba e.b + e.m else g ba e.c) + (g ba e.a - e.m) else if c = e.b then g ba e.b + e.m else g ba c)
    else g ba c := by
  obtain ⟨h2, h3, a0, a1, b0, b1, x0, x1, h9⟩ := hf
  have l1 : ∀ i v, (ba.set i v).length = 8 := fun i v => by rw [List.length_set, hl]
  have l2 : ∀ i v j u, ((ba.set i v).set j u).length = 8 := fun i v j u => by rw [List.length_set, List.length_set, hl]
  unfold balA
  by_cases h1 : e.k = 1
  · rw [if_pos h1, if_pos h1, g_set (l1 _ _) a0 a1 c0 c1, g_set hl b0 b1 c0 c1]
  · rw [if_neg h1, if_neg h1]
    by_cases h2 : e.k = 2
    · rw [if_pos h2, if_pos h2, g_set (l1 _ _) b0 b1 c0 c1, g_set hl a0 a1 c0 c1]
    · rw [if_neg h2, if_neg h2]
      by_cases h3 : e.k = 3
      · rw [if_pos h3, if_pos h3, g_set (l2 _ _ _ _) a0 a1 c0 c1, g_set (l1 _ _) x0 x1 c0 c1, g_set hl b0 b1 x0 x1, g_set hl b0 b1 c0 c1]
      · rw [if_neg h3, if_neg h3]
theorem g_lev {le : List Int} {e : Ev} (hl : le.length = 8) (hf : Frm e) {c : Int} (c0 : 0 ≤ c) (c1 : c ≤ 7) : g (levA le e) c =
    if e.k = 2 then (if c = e.b then g le e.a else g le c) else if e.k = 4 then (if c = e.a then g le e.a + 1 else g le c) else (if c = e.a then 0 else g le c) := by
  obtain ⟨h2, h3, a0, a1, b0, b1, x0, x1, h9⟩ := hf
  unfold levA
  by_cases h2 : e.k = 2
  · rw [if_pos h2, if_pos h2, g_set hl b0 b1 c0 c1]
  · rw [if_neg h2, if_neg h2]
    by_cases h4 : e.k = 4
    · rw [if_pos h4, if_pos h4, g_set hl a0 a1 c0 c1]
    · rw [if_neg h4, if_neg h4, g_set hl a0 a1 c0 c1]
theorem bal_sum {ba : List Int} {e : Ev} (hl : ba.length = 8) (hf : Frm e) (hz : e.k = 2 → g ba e.b = 0) : (balA ba e).sum = ba.sum := by
  have hf' := hf
  obtain ⟨h2, h3, a0, a1, b0, b1, x0, x1, h9, h10, h11, h12, h13, h14, h15⟩ := hf
  have l1 : ∀ i v, (ba.set i v).length = 8 := fun i v => by rw [List.length_set, hl]
  have l2 : ∀ i v j u, ((ba.set i v).set j u).length = 8 := fun i v j u => by rw [List.length_set, List.length_set, hl]
  unfold balA
  by_cases h1 : e.k = 1
  · have := h14 (by omega)
    rw [if_pos h1, sum_s (l1 _ _) _ a0 a1, sum_s hl _ b0 b1, g_set hl b0 b1 a0 a1, if_neg this]; omega
  · rw [if_neg h1]
    by_cases h2 : e.k = 2
    · have := h14 (by omega)
      have hz := hz h2
      rw [if_pos h2, sum_s (l1 _ _) _ b0 b1, sum_s hl _ a0 a1, g_set hl a0 a1 b0 b1, if_neg (Ne.symm this)]; omega
    · rw [if_neg h2]
      by_cases h3 : e.k = 3
      · have := h14 (by omega)
        have h16 := h15 h3
        rw [if_pos h3, sum_s (l2 _ _ _ _) _ a0 a1, sum_s (l1 _ _) _ x0 x1, sum_s hl _ b0 b1, g_set (l1 _ _) x0 x1 a0 a1, if_neg h16, g_set hl b0 b1 a0 a1, if_neg this]; omega
      · rw [if_neg h3]
/-- two events that have no carrier in common -/
structure Apart (d e : Ev) : Prop where
  aa : d.a ≠ e.a
  ab : d.a ≠ e.b
  ba : d.b ≠ e.a
  bb : d.b ≠ e.b
  ac : e.k = 3 → d.a ≠ e.c ∧ d.b ≠ e.c
  ca : d.k = 3 → d.c ≠ e.a ∧ d.c ≠ e.b
  cc : d.k = 3 → e.k = 3 → d.c ≠ e.c
theorem rho_comm {d e : Ev} (h : Apart d e) (hd : d.k ≠ 4) (he : e.k ≠ 4) (n x : Int) : rho e n (rho d n x) = rho d n (rho e n x) := by
  obtain ⟨h1, h2, h3, h4, h5, h6, h7⟩ := h
  unfold rho
  by_cases hx : x = d.a
  · subst hx
    rw [if_pos rfl, if_neg h1, if_pos rfl]
    repeat' split
    all_goals first | rfl | omega
  · rw [if_neg hx]
    by_cases hy : x = e.a
    · rw [if_pos hy]
      repeat' split
      all_goals first | rfl | omega
    · rw [if_neg hy, if_neg hx]
/-- an event has a carrier -/
def Uses (e : Ev) (c : Int) : Prop := c = e.a ∨ c = e.b ∨ (e.k = 3 ∧ c = e.c)
instance (e : Ev) (c : Int) : Decidable (Uses e c) := inferInstanceAs (Decidable (_ ∨ _))
theorem bal_out {ba : List Int} {e : Ev} (hl : ba.length = 8) (hf : Frm e) {c : Int} (c0 : 0 ≤ c) (c1 : c ≤ 7) (h : ¬ Uses e c) : g (balA ba e) c = g ba c := by
  rw [g_bal hl hf c0 c1]
  unfold Uses at h
  repeat' split
  all_goals first | rfl | (exfalso; omega)
theorem bal_in {ba ba' : List Int} {e : Ev} (hl : ba.length = 8) (hl' : ba'.length = 8) (hf : Frm e) {c : Int} (c0 : 0 ≤ c) (c1 : c ≤ 7) (h : ∀ x, 0 ≤ x → x ≤ 7 → Uses e x → g ba x = g ba' x) (hc : g ba c = g ba' c) : g (balA ba e) c = g (balA ba' e) c := by
  rw [g_bal hl hf c0 c1, g_bal hl' hf c0 c1, h e.a hf.a0 hf.a1 (.inl rfl), h e.b hf.b0 hf.b1 (.inr (.inl rfl)), hc]
  by_cases h3 : e.k = 3
  · rw [h e.c hf.c0 hf.c1 (.inr (.inr ⟨h3, rfl⟩))]
  · rw [if_neg h3, if_neg h3]
theorem lev_out {le : List Int} {e : Ev} (hl : le.length = 8) (hf : Frm e) {c : Int} (c0 : 0 ≤ c) (c1 : c ≤ 7) (h : ¬ Uses e c) : g (levA le e) c = g le c := by
  rw [g_lev hl hf c0 c1]
  unfold Uses at h
  repeat' split
  all_goals first | rfl | (exfalso; omega)
theorem lev_in {le le' : List Int} {e : Ev} (hl : le.length = 8) (hl' : le'.length = 8) (hf : Frm e) {c : Int} (c0 : 0 ≤ c) (c1 : c ≤ 7) (h : ∀ x, 0 ≤ x → x ≤ 7 → Uses e x → g le x = g le' x) (hc : g le c = g le' c) : g (levA le e) c = g (levA le' e) c := by
  rw [g_lev hl hf c0 c1, g_lev hl' hf c0 c1, h e.a hf.a0 hf.a1 (.inl rfl), hc]
theorem Apart.no {d e : Ev} (h : Apart d e) {x : Int} (h1 : Uses e x) : ¬ Uses d x := by
  obtain ⟨g1, g2, g3, g4, g5, g6, g7⟩ := h
  unfold Uses at *
  intro h2
  rcases h1 with h1 | h1 | ⟨h1, h3⟩ <;> rcases h2 with h2 | h2 | ⟨h2, h4⟩
  · omega
  · omega
  · have := g6 h2; omega
  · omega
  · omega
  · have := g6 h2; omega
  · have := g5 h1; omega
  · have := g5 h1; omega
  · have := g7 h2 h1; omega
theorem order {w : Wd} {d e : Ev} (p1 : Poss w d) (p2 : Poss (aft w d) e) (p3 : Poss w e) (p4 : Poss (aft w e) d) (hd : d.k ≠ 4) (he : e.k ≠ 4) (h : Apart d e) : aft (aft w d) e = aft (aft w e) d := by
  have fd := p1.f
  have fe := p3.f
  have hl := p1.v.bal
  have hl2 := p1.v.lel
  have kd := fd.kind
  have ke := fe.kind
  have hl3 := p1.v2.bal
  have hl4 := p1.v2.lel
  have hl5 := p3.v2.bal
  have hl6 := p3.v2.lel
  have kd : d.k = 1 ∨ d.k = 2 ∨ d.k = 3 := by omega
  have ke : e.k = 1 ∨ e.k = 2 ∨ e.k = 3 := by omega
  refine Wd.ext8 p2.v2 p4.v2 (fun c c0 c1 => ?_) (fun c c0 c1 => ?_) (fun n n0 n1 => ?_) (fun c c0 c1 => ?_) (fun c c0 c1 => ?_)
  · have g1 := h.aa; have g2 := h.ab; have g3 := h.ba; have g4 := h.bb
    rw [al_aft fe c0 c1, al_aft fd c0 c1, al_aft fd c0 c1, al_aft fe c0 c1]
    generalize has w.al c = x
    clear p1 p2 p3 p4 hl hl2 hl3 hl4 hl5 hl6 h fd fe
    rcases kd with kd | kd | kd <;> rcases ke with ke | ke | ke <;> simp only [kd, ke, if_true, if_false, show ¬ (1 : Int) = 2 by decide, show ¬ (1 : Int) = 4 by decide, show ¬ (3 : Int) = 2 by decide, show ¬ (3 : Int) = 4 by decide] <;> cases x <;> grind
  · rw [ev_aft fe c0, ev_aft fd c0, ev_aft fd c0, ev_aft fe c0]
    generalize has w.ev c = x
    clear p1 p2 p3 p4 hl hl2 hl3 hl4 hl5 hl6 h fd fe
    rcases kd with kd | kd | kd <;> rcases ke with ke | ke | ke <;> simp only [kd, ke, if_true, if_false, show ¬ (1 : Int) = 2 by decide, show ¬ (3 : Int) = 2 by decide] <;> cases x <;> grind
  · rw [aft_hold fe p1.v2.can, aft_hold fd p1.v.can, aft_hold fd p3.v2.can, aft_hold fe p1.v.can, rho_comm h hd he]
  · show g (balA (balA w.ba d) e) c = g (balA (balA w.ba e) d) c
    have hl3 : (balA w.ba d).length = 8 := hl3
    have hl5 : (balA w.ba e).length = 8 := hl5
    by_cases hu : Uses e c
    · rw [bal_out hl5 fd c0 c1 (h.no hu)]
      exact bal_in hl3 hl fe c0 c1 (fun x x0 x1 hx => bal_out hl fd x0 x1 (h.no hx)) (bal_out hl fd c0 c1 (h.no hu))
    · rw [bal_out hl3 fe c0 c1 hu]
      exact (bal_in hl5 hl fd c0 c1 (fun x x0 x1 hx => bal_out hl fe x0 x1 (fun hy => h.no hy hx)) (bal_out hl fe c0 c1 hu)).symm
  · show g (levA (levA w.le d) e) c = g (levA (levA w.le e) d) c
    have hl4 : (levA w.le d).length = 8 := hl4
    have hl6 : (levA w.le e).length = 8 := hl6
    by_cases hu : Uses e c
    · rw [lev_out hl6 fd c0 c1 (h.no hu)]
      exact lev_in hl4 hl2 fe c0 c1 (fun x x0 x1 hx => lev_out hl2 fd x0 x1 (h.no hx)) (lev_out hl2 fd c0 c1 (h.no hu))
    · rw [lev_out hl4 fe c0 c1 hu]
      exact (lev_in hl6 hl2 fd c0 c1 (fun x x0 x1 hx => lev_out hl2 fe x0 x1 (fun hy => h.no hy hx)) (lev_out hl2 fe c0 c1 hu)).symm
/-! a part that is split off and comes back -/
def spl (b c f t m : Int) : Ev := ⟨2, 0, b, c, 0, f, t, m⟩
def mrg (c b : Int) : Ev := ⟨1, 0, c, b, 0, 0, 0, 0⟩
theorem split_ok {w : Wd} (hw : WV w) {b c f t m : Int} (b0 : 0 ≤ b) (b1 : b ≤ 7) (c0 : 0 ≤ c) (c1 : c ≤ 7) (f0 : 0 ≤ f) (ft : f < t) (t1 : t ≤ 100000000) (m0 : -1000 ≤ m) (m1 : m ≤ 1000) (hb : has w.al b = true) (hc : has w.ev c = false)
    (few : w.bl.length ≤ 38) (bd : ∀ c, 0 ≤ c → c ≤ 7 → -900000000000 ≤ g w.ba c ∧ g w.ba c ≤ 900000000000) : Poss w (spl b c f t m) := by
  have hac : has w.al c = false := by
    cases h : has w.al c with
    | false => rfl
    | true => rw [has_sub hw.sub h] at hc; cases hc
  have hne : b ≠ c := fun h => by rw [h, hac] at hb; cases hb
  have hf : Frm (spl b c f t m) := ⟨by simp [spl], by simp [spl], b0, b1, c0, c1, by simp [spl], by simp [spl], by simp [spl], by simp [spl], fun _ => ⟨f0, ft, t1, by show -1000000000000 ≤ m; omega, by show m ≤ 1000000000000; omega⟩, fun _ => rfl, fun h => by simp [spl] at h, fun _ => hne, fun h => by simp [spl] at h⟩
  have n21 : ¬ (2 : Int) = 1 := by decide
  have hal : ∀ x, 0 ≤ x → x ≤ 7 → has (aft w (spl b c f t m)).al x = (has w.al x || decide (x = c)) := fun x x0 x1 => (al_aft (w := w) hf (c := x) x0 x1).trans (if_pos rfl)
  have hba : ∀ x, 0 ≤ x → x ≤ 7 → g (aft w (spl b c f t m)).ba x = if x = c then m else if x = b then g w.ba b - m else g w.ba x := fun x x0 x1 => (g_bal hw.bal hf (c := x) x0 x1).trans ((if_neg n21).trans (if_pos rfl))
  have hle : ∀ x, 0 ≤ x → x ≤ 7 → g (aft w (spl b c f t m)).le x = if x = c then g w.le b else g w.le x := fun x x0 x1 => (g_lev hw.lel hf (c := x) x0 x1).trans (if_pos rfl)
  have hev : ∀ x, 0 ≤ x → has (aft w (spl b c f t m)).ev x = (has w.ev x || decide (x = c)) := fun x x0 => (ev_aft (w := w) hf (c := x) x0).trans (if_pos rfl)
  have hM := rho_map hf hw.can
  have E0 := addS_bd (s := w.ev) hw.e0 hw.e1 c0 c1
  have A0 := addS_bd (s := w.al) hw.a0 hw.a1 c0 c1
  refine ⟨hw, hf, ⟨hb, fun h => by simp [spl] at h, fun _ => hc, fun h => by simp [spl] at h, fun h => by simp [spl] at h⟩, ⟨E0.1, E0.2, A0.1, sub_of A0.1 A0.2 fun x x0 x1 hx => ?_, by rw [show (aft w (spl b c f t m)).ba = balA w.ba (spl b c f t m) from rfl, bal_len, hw.bal], by rw [show (aft w (spl b c f t m)).le = levA w.le (spl b c f t m) from rfl, lev_len, hw.lel], hM.1, ?_, fun B hB => ?_, fun x x0 x1 => ?_, fun x x0 x1 => ?_, fun x x0 x1 hx => ?_, (bal_sum hw.bal hf fun _ => (hw.dead c c0 c1 hac).1).trans hw.sum, fun x y x0 x1 y0 y1 hx hy => ?_⟩⟩
  · have h1 : has (aft w (spl b c f t m)).al x = true := hx
    show has (aft w (spl b c f t m)).ev x = true
    rw [hal x x0 x1] at h1
    rw [hev x x0]
    rw [Bool.or_eq_true] at h1 ⊢
    rcases h1 with h1 | h1
    · exact .inl (has_sub hw.sub h1)
    · exact .inr h1
  · have := change_len hw.can f t (rho (spl b c f t m)) (fun n m' x hnm => ?_) (fun n hn => rho_no hf n) (fun n x => .inl (rho_no hf n)) hM f0
    · show (mapOf _).length ≤ 40
      omega
    · unfold rho
      simp only [spl, hnm]
  · have h1 := first_of hM.1 hB
    have h2 := hold_mem hM.1 hB (n := B.f) (by have := asc_bd hM.1 hB; omega)
    have h3 : hold (aft w (spl b c f t m)).bl B.f = rho _ B.f (hold w.bl B.f) := aft_hold hf hw.can _
    have h4 := asc_bd hM.1 hB
    show has (aft w (spl b c f t m)).al B.c = true
    rw [hal B.c (by omega) (by omega), ← h2]
    have h5 : hold (mapOf fun n => rho (spl b c f t m) n (hold w.bl n)) B.f = rho (spl b c f t m) B.f (hold w.bl B.f) := h3
    rw [h5]
    have h6 : rho (spl b c f t m) B.f (hold w.bl B.f) ≠ -1 := by rw [← h5]; exact h1.1
    have h7 : hold w.bl B.f ≠ -1 := fun h => h6 (by rw [h]; exact rho_no hf _)
    have h8 := hold_own hw h7
    have h9 : rho (spl b c f t m) B.f (hold w.bl B.f) = c ∨ rho (spl b c f t m) B.f (hold w.bl B.f) = hold w.bl B.f := by
      by_cases hx : hold w.bl B.f = b
      · by_cases hr : f ≤ B.f ∧ B.f < t
        · left; unfold rho; simp [spl, hx, hr]
        · right; unfold rho; simp [spl, hx, hr]
      · right; unfold rho; simp [spl, hx]
    rcases h9 with h9 | h9
    · rw [h9]; simp
    · rw [h9, h8.1]; rfl
  · have := bd x x0 x1; have := bd b b0 b1
    rw [hba x x0 x1]
    split
    · omega
    · split <;> omega
  · have := hw.l0 x x0 x1; have := hw.l0 b b0 b1
    rw [hle x x0 x1]
    split <;> omega
  · have h1 : has (aft w (spl b c f t m)).al x = false := hx
    rw [hal x x0 x1, Bool.or_eq_false_iff, decide_eq_false_iff_not] at h1
    have hxb : x ≠ b := fun h => by rw [h, hb] at h1; exact absurd h1.1 (by decide)
    have := hw.dead x x0 x1 h1.1
    rw [hba x x0 x1, hle x x0 x1, if_neg h1.2, if_neg h1.2, if_neg hxb]
    exact this
  · have h1 : has (aft w (spl b c f t m)).al x = true := hx
    have h2 : has (aft w (spl b c f t m)).al y = true := hy
    rw [hal x x0 x1, Bool.or_eq_true, decide_eq_true_eq] at h1
    rw [hal y y0 y1, Bool.or_eq_true, decide_eq_true_eq] at h2
    rw [hle x x0 x1, hle y y0 y1]
    by_cases hxc : x = c
    · rw [if_pos hxc]
      by_cases hyc : y = c
      · rw [if_pos hyc]; omega
      · rw [if_neg hyc]
        exact hw.near b y b0 b1 y0 y1 hb (h2.resolve_right hyc)
    · rw [if_neg hxc]
      by_cases hyc : y = c
      · rw [if_pos hyc]
        exact hw.near x b x0 x1 b0 b1 (h1.resolve_right hxc) hb
      · rw [if_neg hyc]
        exact hw.near x y x0 x1 y0 y1 (h1.resolve_right hxc) (h2.resolve_right hyc)
/-- split off and merged again: the world is as before, but for Ever -/
theorem back {w : Wd} {b c f t m : Int} (h : Poss w (spl b c f t m)) : Poss (aft w (spl b c f t m)) (mrg c b) ∧ aft (aft w (spl b c f t m)) (mrg c b) = { w with ev := addS w.ev c } := by
  have hw := h.v
  have hf := h.f
  have b0 : 0 ≤ b := hf.a0
  have b1 : b ≤ 7 := hf.a1
  have c0 : 0 ≤ c := hf.b0
  have c1 : c ≤ 7 := hf.b1
  have hb : has w.al b = true := h.c.a
  have hc : has w.ev c = false := h.c.s rfl
  have hac : has w.al c = false := by
    cases h : has w.al c with
    | false => rfl
    | true => rw [has_sub hw.sub h] at hc; cases hc
  have hne : b ≠ c := fun h => by rw [h, hac] at hb; cases hb
  have hg : Frm (mrg c b) := ⟨by simp [mrg], by simp [mrg], c0, c1, b0, b1, by simp [mrg], by simp [mrg], by simp [mrg], fun _ => ⟨rfl, rfl, rfl⟩, fun h => by simp [mrg] at h, fun _ => rfl, fun h => by simp [mrg] at h, fun _ => Ne.symm hne, fun h => by simp [mrg] at h⟩
  have n21 : ¬ (2 : Int) = 1 := by decide
  have hal : ∀ x, 0 ≤ x → x ≤ 7 → has (aft w (spl b c f t m)).al x = (has w.al x || decide (x = c)) := fun x x0 x1 => (al_aft (w := w) hf (c := x) x0 x1).trans (if_pos rfl)
  have hba : ∀ x, 0 ≤ x → x ≤ 7 → g (aft w (spl b c f t m)).ba x = if x = c then m else if x = b then g w.ba b - m else g w.ba x := fun x x0 x1 => (g_bal hw.bal hf (c := x) x0 x1).trans ((if_neg n21).trans (if_pos rfl))
  have hle : ∀ x, 0 ≤ x → x ≤ 7 → g (aft w (spl b c f t m)).le x = if x = c then g w.le b else g w.le x := fun x x0 x1 => (g_lev hw.lel hf (c := x) x0 x1).trans (if_pos rfl)
  have n12 : ¬ (1 : Int) = 2 := by decide
  have n14 : ¬ (1 : Int) = 4 := by decide
  have hal2 : ∀ x, 0 ≤ x → x ≤ 7 → has (aft (aft w (spl b c f t m)) (mrg c b)).al x = (has (aft w (spl b c f t m)).al x && decide (x ≠ c)) := fun x x0 x1 => (al_aft (w := aft w (spl b c f t m)) hg (c := x) x0 x1).trans ((if_neg n12).trans (if_neg n14))
  have hba2 : ∀ x, 0 ≤ x → x ≤ 7 → g (aft (aft w (spl b c f t m)) (mrg c b)).ba x = if x = c then 0 else if x = b then g (aft w (spl b c f t m)).ba b + g (aft w (spl b c f t m)).ba c else g (aft w (spl b c f t m)).ba x := fun x x0 x1 => (g_bal h.v2.bal hg (c := x) x0 x1).trans (if_pos rfl)
  have hle2 : ∀ x, 0 ≤ x → x ≤ 7 → g (aft (aft w (spl b c f t m)) (mrg c b)).le x = if x = c then 0 else g (aft w (spl b c f t m)).le x := fun x x0 x1 => (g_lev h.v2.lel hg (c := x) x0 x1).trans ((if_neg n12).trans (if_neg n14))
  have hdead := hw.dead c c0 c1 hac
  have E0 := addS_bd (s := w.ev) hw.e0 hw.e1 c0 c1
  have eE : (aft (aft w (spl b c f t m)) (mrg c b)).ev = addS w.ev c := rfl
  have eA : (aft (aft w (spl b c f t m)) (mrg c b)).al = w.al := by
    have hd : (aft (aft w (spl b c f t m)) (mrg c b)).al = delS (aft w (spl b c f t m)).al c := rfl
    have hb2 := delS_bd (aft w (spl b c f t m)).al c
    refine set_ext (by rw [hd]; exact hb2.1) (by rw [hd]; exact hb2.2) hw.a0 hw.a1 fun x x0 x1 => ?_
    rw [hal2 x x0 x1, hal x x0 x1]
    by_cases hx : x = c
    · subst hx; rw [hac]; simp
    · simp [hx]
  have eH : (aft (aft w (spl b c f t m)) (mrg c b)).bl = w.bl := by
    refine Canon.uniq (rho_map hg h.v2.can).1 hw.can fun n n0 n1 => ?_
    rw [aft_hold hg h.v2.can, aft_hold hf hw.can]
    have hnc : hold w.bl n ≠ c := fun hh => by
      have := (hold_own hw (n := n) (by omega)).1
      rw [hh, hac] at this; cases this
    generalize hold w.bl n = x at hnc ⊢
    unfold rho
    simp only [spl, mrg]
    clear hal hba hle hal2 hba2 hle2
    grind
  have eB : (aft (aft w (spl b c f t m)) (mrg c b)).ba = w.ba := by
    refine list_ext (by rw [show (aft (aft w (spl b c f t m)) (mrg c b)).ba = balA (balA w.ba (spl b c f t m)) (mrg c b) from rfl, bal_len, bal_len, hw.bal]) hw.bal fun x x0 x1 => ?_
    rw [hba2 x x0 x1]
    rw [hba x x0 x1, hba b b0 b1, hba c c0 c1]
    clear hal hba hle hal2 hba2 hle2
    grind
  have eL : (aft (aft w (spl b c f t m)) (mrg c b)).le = w.le := by
    refine list_ext (by rw [show (aft (aft w (spl b c f t m)) (mrg c b)).le = levA (levA w.le (spl b c f t m)) (mrg c b) from rfl, lev_len, lev_len, hw.lel]) hw.lel fun x x0 x1 => ?_
    rw [hle2 x x0 x1]
    rw [hle x x0 x1]
    clear hal hba hle hal2 hba2 hle2
    grind
  have eW : aft (aft w (spl b c f t m)) (mrg c b) = { w with ev := addS w.ev c } := by
    have : ∀ u : Wd, u = ⟨u.al, u.ev, u.bl, u.ba, u.le⟩ := fun _ => rfl
    rw [this (aft (aft w (spl b c f t m)) (mrg c b)), eE, eA, eH, eB, eL]
  refine ⟨⟨h.v2, hg, ⟨?_, fun _ => ?_, fun h => by simp [mrg] at h, fun h => by simp [mrg] at h, fun h => by simp [mrg] at h⟩, ?_⟩, eW⟩
  · show has (aft w (spl b c f t m)).al c = true
    rw [hal c c0 c1]; simp
  · show has (aft w (spl b c f t m)).al b = true
    rw [hal b b0 b1, hb]; rfl
  · rw [eW]
    exact ⟨E0.1, E0.2, hw.a0, sub_of hw.a0 hw.a1 fun x x0 x1 hx => by rw [has_add c0 x0, has_sub hw.sub hx]; rfl, hw.bal, hw.lel, hw.can, hw.few, hw.own, hw.b0, hw.l0, hw.dead, hw.sum, hw.near⟩
end Go.Dial.Mrg
