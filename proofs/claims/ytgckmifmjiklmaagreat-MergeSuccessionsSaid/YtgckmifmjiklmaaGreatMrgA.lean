/-
  Joined: MrgM MrgO MrgR MrgD MrgX.
-/
import Derived.Test.YtgckmifmjiklmaaGreatBlkA
set_option linter.unusedVariables false
set_option linter.unusedSimpArgs false
namespace Go.Dial.Mrg
open Go.Dial.Blk
/-- a carrier is in a set -/
def has (s c : Int) : Bool := s.toNat.testBit c.toNat
def addS (s c : Int) : Int := ((s.toNat ||| 2 ^ c.toNat : Nat) : Int)
def delS (s c : Int) : Int := ((s.toNat &&& (255 - 2 ^ c.toNat) : Nat) : Int)
def subS (s t : Int) : Prop := s.toNat &&& t.toNat = s.toNat
instance (s t : Int) : Decidable (subS s t) := inferInstanceAs (Decidable (_ = _))
theorem fin256 (P : Int → Prop) (h : ∀ k : Fin 256, P (k.val : Int)) (s : Int) (h0 : 0 ≤ s) (h1 : s ≤ 255) : P s := by
  have := h ⟨s.toNat, by omega⟩
  simpa [Int.toNat_of_nonneg h0] using this
theorem fin8 (P : Int → Prop) (h : ∀ k : Fin 8, P (k.val : Int)) (s : Int) (h0 : 0 ≤ s) (h1 : s ≤ 7) : P s := by
  have := h ⟨s.toNat, by omega⟩
  simpa [Int.toNat_of_nonneg h0] using this
theorem addS_bd {s c : Int} (h0 : 0 ≤ s) (h1 : s ≤ 255) (c0 : 0 ≤ c) (c1 : c ≤ 7) : 0 ≤ addS s c ∧ addS s c ≤ 255 := by
  refine ⟨by unfold addS; omega, ?_⟩
  revert s
  refine fin8 (fun c => ∀ {s : Int}, 0 ≤ s → s ≤ 255 → addS s c ≤ 255) (fun k => ?_) c c0 c1
  intro s h0 h1
  have hk : (2 : Nat) ^ k.val < 2 ^ 8 := Nat.pow_lt_pow_right (by decide) k.isLt
  have : (s.toNat ||| 2 ^ k.val) < 2 ^ 8 := Nat.or_lt_two_pow (by omega) hk
  unfold addS
  simp only [Int.toNat_natCast]
  omega
theorem delS_bd (s c : Int) : 0 ≤ delS s c ∧ delS s c ≤ 255 := by
  unfold delS
  have h1 : s.toNat &&& (255 - 2 ^ c.toNat) ≤ 255 - 2 ^ c.toNat := Nat.and_le_right
  have h2 : 255 - 2 ^ c.toNat ≤ 255 := Nat.sub_le _ _
  generalize 255 - 2 ^ c.toNat = y at *
  omega
theorem has_add {s c d : Int} (c0 : 0 ≤ c) (d0 : 0 ≤ d) : has (addS s c) d = (has s d || decide (d = c)) := by
  unfold has addS
  rw [Int.toNat_natCast, Nat.testBit_or, Nat.testBit_two_pow]
  congr 1
  rw [decide_eq_decide]
  omega
theorem has_del {s c d : Int} (c0 : 0 ≤ c) (c1 : c ≤ 7) (d0 : 0 ≤ d) (d1 : d ≤ 7) : has (delS s c) d = (has s d && decide (d ≠ c)) := by
  unfold has delS
  rw [Int.toNat_natCast, Nat.testBit_and]
  congr 1
  revert c0 c1 d0 d1
  intro c0 c1 d0 d1
  refine fin8 (fun c => ((255 - 2 ^ c.toNat).testBit d.toNat = decide (d ≠ c))) (fun k => ?_) c c0 c1
  refine fin8 (fun d => ((255 - 2 ^ (k.val : Int).toNat).testBit d.toNat = decide (d ≠ (k.val : Int)))) (fun j => ?_) d d0 d1
  revert k j
  decide +kernel
theorem has_sub {s t c : Int} (h : subS s t) (hc : has s c = true) : has t c = true := by
  unfold has at *
  unfold subS at h
  rw [← h, Nat.testBit_and] at hc
  simp only [Bool.and_eq_true] at hc
  exact hc.2
theorem sub_of {s t : Int} (h0 : 0 ≤ s) (h1 : s ≤ 255) (h : ∀ c, 0 ≤ c → c ≤ 7 → has s c = true → has t c = true) : subS s t := by
  unfold subS
  refine Nat.eq_of_testBit_eq fun i => ?_
  rw [Nat.testBit_and]
  by_cases hi : i ≤ 7
  · have := h (i : Int) (by omega) (by omega)
    unfold has at this
    rw [Int.toNat_natCast] at this
    cases hs : s.toNat.testBit i with
    | false => rfl
    | true => rw [this hs]; rfl
  · have : s.toNat.testBit i = false := Nat.testBit_lt_two_pow (Nat.lt_of_lt_of_le (by omega : s.toNat < 2 ^ 8) (Nat.pow_le_pow_right (by decide) (by omega)))
    rw [this]; rfl
theorem set_ext {s t : Int} (h0 : 0 ≤ s) (h1 : s ≤ 255) (h2 : 0 ≤ t) (h3 : t ≤ 255) (h : ∀ c, 0 ≤ c → c ≤ 7 → has s c = has t c) : s = t := by
  have : s.toNat = t.toNat := Nat.eq_of_testBit_eq fun i => by
    by_cases hi : i ≤ 7
    · have := h (i : Int) (by omega) (by omega)
      unfold has at this
      rwa [Int.toNat_natCast] at this
    · have a : s.toNat.testBit i = false := Nat.testBit_lt_two_pow (Nat.lt_of_lt_of_le (by omega : s.toNat < 2 ^ 8) (Nat.pow_le_pow_right (by decide) (by omega)))
      have b : t.toNat.testBit i = false := Nat.testBit_lt_two_pow (Nat.lt_of_lt_of_le (by omega : t.toNat < 2 ^ 8) (Nat.pow_le_pow_right (by decide) (by omega)))
      rw [a, b]
  omega
/-- what a list says of a carrier -/
def g (l : List Int) (c : Int) : Int := l.getD c.toNat 0
theorem g_set {l : List Int} (hl : l.length = 8) {c d v : Int} (c0 : 0 ≤ c) (c1 : c ≤ 7) (d0 : 0 ≤ d) (d1 : d ≤ 7) : g (l.set c.toNat v) d = if d = c then v else g l d := by
  unfold g
  rw [List.getD_eq_getElem?_getD, List.getElem?_set, List.getD_eq_getElem?_getD]
  by_cases h : d = c
  · subst h; rw [if_pos rfl, if_pos rfl, if_pos (by omega)]; rfl
  · rw [if_neg h, if_neg (by omega)]
theorem list_ext {a b : List Int} (ha : a.length = 8) (hb : b.length = 8) (h : ∀ c, 0 ≤ c → c ≤ 7 → g a c = g b c) : a = b := by
  refine List.ext_getElem? fun i => ?_
  by_cases hi : i ≤ 7
  · have := h (i : Int) (by omega) (by omega)
    unfold g at this
    rw [Int.toNat_natCast, List.getD_eq_getElem?_getD, List.getD_eq_getElem?_getD, List.getElem?_eq_getElem (by omega), List.getElem?_eq_getElem (by omega)] at this
    rw [List.getElem?_eq_getElem (by omega), List.getElem?_eq_getElem (by omega)]
    simpa using this
  · rw [List.getElem?_eq_none (by omega), List.getElem?_eq_none (by omega)]
theorem sum_set (l : List Int) (i : Nat) (v : Int) (h : i < l.length) : (l.set i v).sum = l.sum - l.getD i 0 + v := by
  induction l generalizing i with
  | nil => simp at h
  | cons x l ih =>
    cases i with
    | zero => simp [List.set]; omega
    | succ i =>
      have := ih i (by simpa using h)
      simp only [List.set_cons_succ, List.sum_cons, List.getD_cons_succ, this]; omega
theorem sum_s {l : List Int} (hl : l.length = 8) {c : Int} (v : Int) (c0 : 0 ≤ c) (c1 : c ≤ 7) : (l.set c.toNat v).sum = l.sum - g l c + v := sum_set l c.toNat v (by omega)
/-- a world -/
structure Wd where
  al : Int
  ev : Int
  bl : List B3
  ba : List Int
  le : List Int
/-- an event -/
structure Ev where
  k : Int
  at_ : Int
  a : Int
  b : Int
  c : Int
  f : Int
  t : Int
  m : Int
/-- a valid world -/
structure WV (w : Wd) : Prop where
  e0 : 0 ≤ w.ev
  e1 : w.ev ≤ 255
  a0 : 0 ≤ w.al
  sub : subS w.al w.ev
  bal : w.ba.length = 8
  lel : w.le.length = 8
  can : Canon w.bl
  few : w.bl.length ≤ 40
  own : ∀ b ∈ w.bl, has w.al b.c = true
  b0 : ∀ c, 0 ≤ c → c ≤ 7 → -1000000000000 ≤ g w.ba c ∧ g w.ba c ≤ 1000000000000
  l0 : ∀ c, 0 ≤ c → c ≤ 7 → 0 ≤ g w.le c ∧ g w.le c ≤ 9
  dead : ∀ c, 0 ≤ c → c ≤ 7 → has w.al c = false → g w.ba c = 0 ∧ g w.le c = 0
  sum : w.ba.sum = 0
  near : ∀ c d, 0 ≤ c → c ≤ 7 → 0 ≤ d → d ≤ 7 → has w.al c = true → has w.al d = true → g w.le c - g w.le d ≤ 1
theorem WV.a1 {w : Wd} (h : WV w) : w.al ≤ 255 := by
  have h1 := h.sub
  have h2 := h.e1
  have h3 := h.e0
  have h4 := h.a0
  unfold subS at h1
  have : w.al.toNat &&& w.ev.toNat ≤ w.ev.toNat := Nat.and_le_right
  omega
/-- who holds a number that a carrier held, after an event -/
def rho (e : Ev) (n x : Int) : Int :=
  if x = e.a then
    if e.k = 1 ∨ ((e.k = 2 ∨ e.k = 3) ∧ e.f ≤ n ∧ n < e.t) then e.b
    else if e.k = 3 then e.c else x
  else x
/-- a formed event -/
structure Frm (e : Ev) : Prop where
  t0 : 0 ≤ e.at_
  t1 : e.at_ ≤ 10000000
  a0 : 0 ≤ e.a
  a1 : e.a ≤ 7
  b0 : 0 ≤ e.b
  b1 : e.b ≤ 7
  c0 : 0 ≤ e.c
  c1 : e.c ≤ 7
  kind : 1 ≤ e.k ∧ e.k ≤ 4
  bare : e.k = 1 ∨ e.k = 4 → e.f = 0 ∧ e.t = 0 ∧ e.m = 0
  full : e.k = 2 ∨ e.k = 3 → 0 ≤ e.f ∧ e.f < e.t ∧ e.t ≤ 100000000 ∧ -1000000000000 ≤ e.m ∧ e.m ≤ 1000000000000
  noC : e.k ≠ 3 → e.c = 0
  noB : e.k = 4 → e.b = 0
  other : e.k ≠ 4 → e.a ≠ e.b
  third : e.k = 3 → e.a ≠ e.c
/-- the balances after an event -/
def balA (ba : List Int) (e : Ev) : List Int :=
  if e.k = 1 then (ba.set e.b.toNat (g ba e.b + g ba e.a)).set e.a.toNat 0
  else if e.k = 2 then (ba.set e.a.toNat (g ba e.a - e.m)).set e.b.toNat e.m
  else if e.k = 3 then ((ba.set e.b.toNat (g ba e.b + e.m)).set e.c.toNat (g (ba.set e.b.toNat (g ba e.b + e.m)) e.c + (g ba e.a - e.m))).set e.a.toNat 0
  else ba
/-- the levels after an event -/
def levA (le : List Int) (e : Ev) : List Int :=
  if e.k = 2 then le.set e.b.toNat (g le e.a) else if e.k = 4 then le.set e.a.toNat (g le e.a + 1) else le.set e.a.toNat 0
/-- the world after an event -/
noncomputable def aft (w : Wd) (e : Ev) : Wd where
  al := if e.k = 2 then addS w.al e.b else if e.k = 4 then w.al else delS w.al e.a
  ev := if e.k = 2 then addS w.ev e.b else w.ev
  bl := mapOf fun n => rho e n (hold w.bl n)
  ba := balA w.ba e
  le := levA w.le e
/-- what an event needs -/
structure Can (w : Wd) (e : Ev) : Prop where
  a : has w.al e.a = true
  m : e.k = 1 → has w.al e.b = true
  s : e.k = 2 → has w.ev e.b = false
  w3 : e.k = 3 → has w.al e.b = true ∧ has w.al e.c = true
  u : e.k = 4 → ∀ c, 0 ≤ c → c ≤ 7 → has w.al c = true → g w.le e.a ≤ g w.le c
structure Poss (w : Wd) (e : Ev) : Prop where
  v : WV w
  f : Frm e
  c : Can w e
  v2 : WV (aft w e)
open Classical in
noncomputable def stepW (w : Wd) (e : Ev) : Option Wd := if Poss w e then some (aft w e) else none
theorem stepW_some {w v : Wd} {e : Ev} (h : stepW w e = some v) : Poss w e ∧ v = aft w e := by
  unfold stepW at h
  split at h
  · rename_i hp; cases h; exact ⟨hp, rfl⟩
  · cases h
theorem stepW_of {w : Wd} {e : Ev} (h : Poss w e) : stepW w e = some (aft w e) := if_pos h
theorem rho_bd {e : Ev} (hf : Frm e) (n x : Int) (h0 : -1 ≤ x) (h1 : x ≤ 7) : -1 ≤ rho e n x ∧ rho e n x ≤ 7 := by
  obtain ⟨h2, h3, h4, h5, h6, h7, h8, h9⟩ := hf
  unfold rho
  repeat' split
  all_goals omega
theorem rho_no {e : Ev} (hf : Frm e) (n : Int) : rho e n (-1) = -1 := by
  have := hf.a0
  unfold rho
  rw [if_neg (by omega)]
/-- the map after an event -/
theorem rho_map {e : Ev} (hf : Frm e) {l : List B3} (hl : Canon l) : IsMap (fun n => rho e n (hold l n)) (mapOf fun n => rho e n (hold l n)) := by
  by_cases hr : 0 ≤ e.f ∧ e.f < e.t ∧ e.t ≤ 100000000
  · have h1 : Canon [⟨e.f, e.t, 0⟩] := ⟨hr.1, hr.2.1, hr.2.2, (show (0 : Int) ≤ 0 by decide), (show (0 : Int) ≤ 7 by decide), hr.1, fun _ => (show (0 : Int) ≠ -1 by decide), trivial⟩
    have := comb_map hl h1 (fun x y => rho e (if y = 0 then e.f else -1) x) fun x y a b _ _ => rho_bd hf _ x a b
    have hE : (fun m => rho e (if hold [⟨e.f, e.t, 0⟩] m = 0 then e.f else -1) (hold l m)) = fun n => rho e n (hold l n) := by
      funext m
      by_cases hm : e.f ≤ m ∧ m < e.t
      · have h2 : e.f ≤ e.f ∧ e.f < e.t := by omega
        rw [hold_in (b := ⟨e.f, e.t, 0⟩) [] hm, if_pos rfl]
        unfold rho
        simp only [hm, h2]
      · rw [hold_out (b := ⟨e.f, e.t, 0⟩) [] hm, hold_nil, if_neg (by decide)]
        have h2 : ¬ (e.f ≤ -1 ∧ (-1 : Int) < e.t) := by omega
        unfold rho
        simp only [hm, h2]
    rw [hE] at this
    exact this
  · have hk : ¬ (e.k = 2 ∨ e.k = 3) := fun h => hr ⟨(hf.full h).1, (hf.full h).2.1, (hf.full h).2.2.1⟩
    have := comb_map hl (b := []) trivial (fun x y => rho e 0 x) fun x y a b _ _ => rho_bd hf _ x a b
    have hE : (fun m : Int => rho e 0 (hold l m)) = fun n => rho e n (hold l n) := by
      funext m
      unfold rho
      simp only [hk, false_and]
    rw [hE] at this
    exact this
theorem aft_hold {w : Wd} {e : Ev} (hf : Frm e) (hc : Canon w.bl) (n : Int) : hold (aft w e).bl n = rho e n (hold w.bl n) := by
  have := (rho_map hf hc).at n
  show hold (mapOf _) n = _
  rw [this]
  split
  · rfl
  · rw [hold_out_bd hc (by omega), rho_no hf]
theorem hold_own {w : Wd} (h : WV w) {n : Int} (hn : hold w.bl n ≠ -1) : has w.al (hold w.bl n) = true ∧ 0 ≤ hold w.bl n ∧ hold w.bl n ≤ 7 := by
  obtain ⟨b, hb, _, _, h3⟩ := hold_ex hn
  have := asc_bd h.can hb
  rw [h3]
  exact ⟨h.own b hb, by omega, by omega⟩
/-- worlds are equal -/
theorem Wd.ext8 {u v : Wd} (hu : WV u) (hv : WV v) (ha : ∀ c, 0 ≤ c → c ≤ 7 → has u.al c = has v.al c) (he : ∀ c, 0 ≤ c → c ≤ 7 → has u.ev c = has v.ev c)
    (hh : ∀ n, 0 ≤ n → n < 100000000 → hold u.bl n = hold v.bl n) (hb : ∀ c, 0 ≤ c → c ≤ 7 → g u.ba c = g v.ba c) (hl : ∀ c, 0 ≤ c → c ≤ 7 → g u.le c = g v.le c) : u = v := by
  obtain ⟨a1, a2, a3, a4, a5⟩ := u
  obtain ⟨b1, b2, b3, b4, b5⟩ := v
  have e1 : a1 = b1 := set_ext hu.a0 hu.a1 hv.a0 hv.a1 ha
  have e2 : a2 = b2 := set_ext hu.e0 hu.e1 hv.e0 hv.e1 he
  have e3 : a3 = b3 := Canon.uniq hu.can hv.can hh
  have e4 : a4 = b4 := list_ext hu.bal hv.bal hb
  have e5 : a5 = b5 := list_ext hu.lel hv.lel hl
  rw [e1, e2, e3, e4, e5]
end Go.Dial.Mrg
namespace Go.Dial.Mrg
open Go.Dial.Blk
theorem al_aft {w : Wd} {e : Ev} (hf : Frm e) {c : Int} (c0 : 0 ≤ c) (c1 : c ≤ 7) : has (aft w e).al c = if e.k = 2 then (has w.al c || decide (c = e.b)) else if e.k = 4 then has w.al c else (has w.al c && decide (c ≠ e.a)) := by
  show has (if e.k = 2 then addS w.al e.b else if e.k = 4 then w.al else delS w.al e.a) c = _
  by_cases h : e.k = 2
  · rw [if_pos h, if_pos h, has_add hf.b0 c0]
  · rw [if_neg h, if_neg h]
    by_cases h4 : e.k = 4
    · rw [if_pos h4, if_pos h4]
    · rw [if_neg h4, if_neg h4, has_del hf.a0 hf.a1 c0 c1]
theorem ev_aft {w : Wd} {e : Ev} (hf : Frm e) {c : Int} (c0 : 0 ≤ c) : has (aft w e).ev c = if e.k = 2 then (has w.ev c || decide (c = e.b)) else has w.ev c := by
  show has (if e.k = 2 then addS w.ev e.b else w.ev) c = _
  by_cases h : e.k = 2
  · rw [if_pos h, if_pos h, has_add hf.b0 c0]
  · rw [if_neg h, if_neg h]
theorem bal_len (ba : List Int) (e : Ev) : (balA ba e).length = ba.length := by
  unfold balA
  repeat' split
  all_goals simp only [List.length_set]
theorem lev_len (le : List Int) (e : Ev) : (levA le e).length = le.length := by
  unfold levA
  repeat' split
  all_goals simp only [List.length_set]
theorem g_bal {ba : List Int} {e : Ev} (hl : ba.length = 8) (hf : Frm e) {c : Int} (c0 : 0 ≤ c) (c1 : c ≤ 7) : g (balA ba e) c =
    if e.k = 1 then (if c = e.a then 0 else if c = e.b then g ba e.b + g ba e.a else g ba c)
    else if e.k = 2 then (if c = e.b then e.m else if c = e.a then g ba e.a - e.m else g ba c)
    else if e.k = 3 then (if c = e.a then 0 else if c = e.c then (if e.c = e.b then g ba e.b + e.m else g ba e.c) + (g ba e.a - e.m) else if c = e.b then g ba e.b + e.m else g ba c)
    else g ba c := by
  obtain ⟨h2, h3, a0, a1, b0, b1, x0, x1, h9⟩ := hf
  have l1 : ∀ i v, (ba.set i v).length = 8 := fun i v => by rw [List.length_set, hl]
  have l2 : ∀ i v j u, ((ba.set i v).set j u).length = 8 := fun i v j u => by rw [List.length_set, List.length_set, hl]
  unfold balA
  by_cases h1 : e.k = 1
  · rw [if_pos h1, if_pos h1, g_set (l1 _ _) a0 a1 c0 c1, g_set hl b0 b1 c0 c1]
  · rw [if_neg h1, if_neg h1]
    by_cases h2 : e.k = 2
    · rw [if_pos h2, if_pos h2, g_set (l1 _ _) b0 b1 c0 c1, g_set hl a0 a1 c0 c1]
    · rw [if_neg h2, if_neg h2]
      by_cases h3 : e.k = 3
      · rw [if_pos h3, if_pos h3, g_set (l2 _ _ _ _) a0 a1 c0 c1, g_set (l1 _ _) x0 x1 c0 c1, g_set hl b0 b1 x0 x1, g_set hl b0 b1 c0 c1]
      · rw [if_neg h3, if_neg h3]
theorem g_lev {le : List Int} {e : Ev} (hl : le.length = 8) (hf : Frm e) {c : Int} (c0 : 0 ≤ c) (c1 : c ≤ 7) : g (levA le e) c =
    if e.k = 2 then (if c = e.b then g le e.a else g le c) else if e.k = 4 then (if c = e.a then g le e.a + 1 else g le c) else (if c = e.a then 0 else g le c) := by
  obtain ⟨h2, h3, a0, a1, b0, b1, x0, x1, h9⟩ := hf
  unfold levA
  by_cases h2 : e.k = 2
  · rw [if_pos h2, if_pos h2, g_set hl b0 b1 c0 c1]
  · rw [if_neg h2, if_neg h2]
    by_cases h4 : e.k = 4
    · rw [if_pos h4, if_pos h4, g_set hl a0 a1 c0 c1]
    · rw [if_neg h4, if_neg h4, g_set hl a0 a1 c0 c1]
theorem bal_sum {ba : List Int} {e : Ev} (hl : ba.length = 8) (hf : Frm e) (hz : e.k = 2 → g ba e.b = 0) : (balA ba e).sum = ba.sum := by
  have hf' := hf
  obtain ⟨h2, h3, a0, a1, b0, b1, x0, x1, h9, h10, h11, h12, h13, h14, h15⟩ := hf
  have l1 : ∀ i v, (ba.set i v).length = 8 := fun i v => by rw [List.length_set, hl]
  have l2 : ∀ i v j u, ((ba.set i v).set j u).length = 8 := fun i v j u => by rw [List.length_set, List.length_set, hl]
  unfold balA
  by_cases h1 : e.k = 1
  · have := h14 (by omega)
    rw [if_pos h1, sum_s (l1 _ _) _ a0 a1, sum_s hl _ b0 b1, g_set hl b0 b1 a0 a1, if_neg this]; omega
  · rw [if_neg h1]
    by_cases h2 : e.k = 2
    · have := h14 (by omega)
      have hz := hz h2
      rw [if_pos h2, sum_s (l1 _ _) _ b0 b1, sum_s hl _ a0 a1, g_set hl a0 a1 b0 b1, if_neg (Ne.symm this)]; omega
    · rw [if_neg h2]
      by_cases h3 : e.k = 3
      · have := h14 (by omega)
        have h16 := h15 h3
        rw [if_pos h3, sum_s (l2 _ _ _ _) _ a0 a1, sum_s (l1 _ _) _ x0 x1, sum_s hl _ b0 b1, g_set (l1 _ _) x0 x1 a0 a1, if_neg h16, g_set hl b0 b1 a0 a1, if_neg this]; omega
      · rw [if_neg h3]
/-- two events that have no carrier in common -/
structure Apart (d e : Ev) : Prop where
  aa : d.a ≠ e.a
  ab : d.a ≠ e.b
  ba : d.b ≠ e.a
  bb : d.b ≠ e.b
  ac : e.k = 3 → d.a ≠ e.c ∧ d.b ≠ e.c
  ca : d.k = 3 → d.c ≠ e.a ∧ d.c ≠ e.b
  cc : d.k = 3 → e.k = 3 → d.c ≠ e.c
theorem rho_comm {d e : Ev} (h : Apart d e) (hd : d.k ≠ 4) (he : e.k ≠ 4) (n x : Int) : rho e n (rho d n x) = rho d n (rho e n x) := by
  obtain ⟨h1, h2, h3, h4, h5, h6, h7⟩ := h
  unfold rho
  by_cases hx : x = d.a
  · subst hx
    rw [if_pos rfl, if_neg h1, if_pos rfl]
    repeat' split
    all_goals first | rfl | omega
  · rw [if_neg hx]
    by_cases hy : x = e.a
    · rw [if_pos hy]
      repeat' split
      all_goals first | rfl | omega
    · rw [if_neg hy, if_neg hx]
/-- an event has a carrier -/
def Uses (e : Ev) (c : Int) : Prop := c = e.a ∨ c = e.b ∨ (e.k = 3 ∧ c = e.c)
instance (e : Ev) (c : Int) : Decidable (Uses e c) := inferInstanceAs (Decidable (_ ∨ _))
theorem bal_out {ba : List Int} {e : Ev} (hl : ba.length = 8) (hf : Frm e) {c : Int} (c0 : 0 ≤ c) (c1 : c ≤ 7) (h : ¬ Uses e c) : g (balA ba e) c = g ba c := by
  rw [g_bal hl hf c0 c1]
  unfold Uses at h
  repeat' split
  all_goals first | rfl | (exfalso; omega)
theorem bal_in {ba ba' : List Int} {e : Ev} (hl : ba.length = 8) (hl' : ba'.length = 8) (hf : Frm e) {c : Int} (c0 : 0 ≤ c) (c1 : c ≤ 7) (h : ∀ x, 0 ≤ x → x ≤ 7 → Uses e x → g ba x = g ba' x) (hc : g ba c = g ba' c) : g (balA ba e) c = g (balA ba' e) c := by
  rw [g_bal hl hf c0 c1, g_bal hl' hf c0 c1, h e.a hf.a0 hf.a1 (.inl rfl), h e.b hf.b0 hf.b1 (.inr (.inl rfl)), hc]
  by_cases h3 : e.k = 3
  · rw [h e.c hf.c0 hf.c1 (.inr (.inr ⟨h3, rfl⟩))]
  · rw [if_neg h3, if_neg h3]
theorem lev_out {le : List Int} {e : Ev} (hl : le.length = 8) (hf : Frm e) {c : Int} (c0 : 0 ≤ c) (c1 : c ≤ 7) (h : ¬ Uses e c) : g (levA le e) c = g le c := by
  rw [g_lev hl hf c0 c1]
  unfold Uses at h
  repeat' split
  all_goals first | rfl | (exfalso; omega)
theorem lev_in {le le' : List Int} {e : Ev} (hl : le.length = 8) (hl' : le'.length = 8) (hf : Frm e) {c : Int} (c0 : 0 ≤ c) (c1 : c ≤ 7) (h : ∀ x, 0 ≤ x → x ≤ 7 → Uses e x → g le x = g le' x) (hc : g le c = g le' c) : g (levA le e) c = g (levA le' e) c := by
  rw [g_lev hl hf c0 c1, g_lev hl' hf c0 c1, h e.a hf.a0 hf.a1 (.inl rfl), hc]
theorem Apart.no {d e : Ev} (h : Apart d e) {x : Int} (h1 : Uses e x) : ¬ Uses d x := by
  obtain ⟨g1, g2, g3, g4, g5, g6, g7⟩ := h
  unfold Uses at *
  intro h2
  rcases h1 with h1 | h1 | ⟨h1, h3⟩ <;> rcases h2 with h2 | h2 | ⟨h2, h4⟩
  · omega
  · omega
  · have := g6 h2; omega
  · omega
  · omega
  · have := g6 h2; omega
  · have := g5 h1; omega
  · have := g5 h1; omega
  · have := g7 h2 h1; omega
theorem order {w : Wd} {d e : Ev} (p1 : Poss w d) (p2 : Poss (aft w d) e) (p3 : Poss w e) (p4 : Poss (aft w e) d) (hd : d.k ≠ 4) (he : e.k ≠ 4) (h : Apart d e) : aft (aft w d) e = aft (aft w e) d := by
  have fd := p1.f
  have fe := p3.f
  have hl := p1.v.bal
  have hl2 := p1.v.lel
  have kd := fd.kind
  have ke := fe.kind
  have hl3 := p1.v2.bal
  have hl4 := p1.v2.lel
  have hl5 := p3.v2.bal
  have hl6 := p3.v2.lel
  have kd : d.k = 1 ∨ d.k = 2 ∨ d.k = 3 := by omega
  have ke : e.k = 1 ∨ e.k = 2 ∨ e.k = 3 := by omega
  refine Wd.ext8 p2.v2 p4.v2 (fun c c0 c1 => ?_) (fun c c0 c1 => ?_) (fun n n0 n1 => ?_) (fun c c0 c1 => ?_) (fun c c0 c1 => ?_)
  · have g1 := h.aa; have g2 := h.ab; have g3 := h.ba; have g4 := h.bb
    rw [al_aft fe c0 c1, al_aft fd c0 c1, al_aft fd c0 c1, al_aft fe c0 c1]
    generalize has w.al c = x
    clear p1 p2 p3 p4 hl hl2 hl3 hl4 hl5 hl6 h fd fe
    rcases kd with kd | kd | kd <;> rcases ke with ke | ke | ke <;> simp only [kd, ke, if_true, if_false, show ¬ (1 : Int) = 2 by decide, show ¬ (1 : Int) = 4 by decide, show ¬ (3 : Int) = 2 by decide, show ¬ (3 : Int) = 4 by decide] <;> cases x <;> grind
  · rw [ev_aft fe c0, ev_aft fd c0, ev_aft fd c0, ev_aft fe c0]
    generalize has w.ev c = x
    clear p1 p2 p3 p4 hl hl2 hl3 hl4 hl5 hl6 h fd fe
    rcases kd with kd | kd | kd <;> rcases ke with ke | ke | ke <;> simp only [kd, ke, if_true, if_false, show ¬ (1 : Int) = 2 by decide, show ¬ (3 : Int) = 2 by decide] <;> cases x <;> grind
  · rw [aft_hold fe p1.v2.can, aft_hold fd p1.v.can, aft_hold fd p3.v2.can, aft_hold fe p1.v.can, rho_comm h hd he]
  · show g (balA (balA w.ba d) e) c = g (balA (balA w.ba e) d) c
    have hl3 : (balA w.ba d).length = 8 := hl3
    have hl5 : (balA w.ba e).length = 8 := hl5
    by_cases hu : Uses e c
    · rw [bal_out hl5 fd c0 c1 (h.no hu)]
      exact bal_in hl3 hl fe c0 c1 (fun x x0 x1 hx => bal_out hl fd x0 x1 (h.no hx)) (bal_out hl fd c0 c1 (h.no hu))
    · rw [bal_out hl3 fe c0 c1 hu]
      exact (bal_in hl5 hl fd c0 c1 (fun x x0 x1 hx => bal_out hl fe x0 x1 (fun hy => h.no hy hx)) (bal_out hl fe c0 c1 hu)).symm
  · show g (levA (levA w.le d) e) c = g (levA (levA w.le e) d) c
    have hl4 : (levA w.le d).length = 8 := hl4
    have hl6 : (levA w.le e).length = 8 := hl6
    by_cases hu : Uses e c
    · rw [lev_out hl6 fd c0 c1 (h.no hu)]
      exact lev_in hl4 hl2 fe c0 c1 (fun x x0 x1 hx => lev_out hl2 fd x0 x1 (h.no hx)) (lev_out hl2 fd c0 c1 (h.no hu))
    · rw [lev_out hl4 fe c0 c1 hu]
      exact (lev_in hl6 hl2 fd c0 c1 (fun x x0 x1 hx => lev_out hl2 fe x0 x1 (fun hy => h.no hy hx)) (lev_out hl2 fe c0 c1 hu)).symm
/-! a part that is split off and comes back -/
def spl (b c f t m : Int) : Ev := ⟨2, 0, b, c, 0, f, t, m⟩
def mrg (c b : Int) : Ev := ⟨1, 0, c, b, 0, 0, 0, 0⟩
theorem split_ok {w : Wd} (hw : WV w) {b c f t m : Int} (b0 : 0 ≤ b) (b1 : b ≤ 7) (c0 : 0 ≤ c) (c1 : c ≤ 7) (f0 : 0 ≤ f) (ft : f < t) (t1 : t ≤ 100000000) (m0 : -1000 ≤ m) (m1 : m ≤ 1000) (hb : has w.al b = true) (hc : has w.ev c = false)
    (few : w.bl.length ≤ 38) (bd : ∀ c, 0 ≤ c → c ≤ 7 → -900000000000 ≤ g w.ba c ∧ g w.ba c ≤ 900000000000) : Poss w (spl b c f t m) := by
  have hac : has w.al c = false := by
    cases h : has w.al c with
    | false => rfl
    | true => rw [has_sub hw.sub h] at hc; cases hc
  have hne : b ≠ c := fun h => by rw [h, hac] at hb; cases hb
  have hf : Frm (spl b c f t m) := ⟨by simp [spl], by simp [spl], b0, b1, c0, c1, by simp [spl], by simp [spl], by simp [spl], by simp [spl], fun _ => ⟨f0, ft, t1, by show -1000000000000 ≤ m; omega, by show m ≤ 1000000000000; omega⟩, fun _ => rfl, fun h => by simp [spl] at h, fun _ => hne, fun h => by simp [spl] at h⟩
  have n21 : ¬ (2 : Int) = 1 := by decide
  have hal : ∀ x, 0 ≤ x → x ≤ 7 → has (aft w (spl b c f t m)).al x = (has w.al x || decide (x = c)) := fun x x0 x1 => (al_aft (w := w) hf (c := x) x0 x1).trans (if_pos rfl)
  have hba : ∀ x, 0 ≤ x → x ≤ 7 → g (aft w (spl b c f t m)).ba x = if x = c then m else if x = b then g w.ba b - m else g w.ba x := fun x x0 x1 => (g_bal hw.bal hf (c := x) x0 x1).trans ((if_neg n21).trans (if_pos rfl))
  have hle : ∀ x, 0 ≤ x → x ≤ 7 → g (aft w (spl b c f t m)).le x = if x = c then g w.le b else g w.le x := fun x x0 x1 => (g_lev hw.lel hf (c := x) x0 x1).trans (if_pos rfl)
  have hev : ∀ x, 0 ≤ x → has (aft w (spl b c f t m)).ev x = (has w.ev x || decide (x = c)) := fun x x0 => (ev_aft (w := w) hf (c := x) x0).trans (if_pos rfl)
  have hM := rho_map hf hw.can
  have E0 := addS_bd (s := w.ev) hw.e0 hw.e1 c0 c1
  have A0 := addS_bd (s := w.al) hw.a0 hw.a1 c0 c1
  refine ⟨hw, hf, ⟨hb, fun h => by simp [spl] at h, fun _ => hc, fun h => by simp [spl] at h, fun h => by simp [spl] at h⟩, ⟨E0.1, E0.2, A0.1, sub_of A0.1 A0.2 fun x x0 x1 hx => ?_, by rw [show (aft w (spl b c f t m)).ba = balA w.ba (spl b c f t m) from rfl, bal_len, hw.bal], by rw [show (aft w (spl b c f t m)).le = levA w.le (spl b c f t m) from rfl, lev_len, hw.lel], hM.1, ?_, fun B hB => ?_, fun x x0 x1 => ?_, fun x x0 x1 => ?_, fun x x0 x1 hx => ?_, (bal_sum hw.bal hf fun _ => (hw.dead c c0 c1 hac).1).trans hw.sum, fun x y x0 x1 y0 y1 hx hy => ?_⟩⟩
  · have h1 : has (aft w (spl b c f t m)).al x = true := hx
    show has (aft w (spl b c f t m)).ev x = true
    rw [hal x x0 x1] at h1
    rw [hev x x0]
    rw [Bool.or_eq_true] at h1 ⊢
    rcases h1 with h1 | h1
    · exact .inl (has_sub hw.sub h1)
    · exact .inr h1
  · have := change_len hw.can f t (rho (spl b c f t m)) (fun n m' x hnm => ?_) (fun n hn => rho_no hf n) (fun n x => .inl (rho_no hf n)) hM f0
    · show (mapOf _).length ≤ 40
      omega
    · unfold rho
      simp only [spl, hnm]
  · have h1 := first_of hM.1 hB
    have h2 := hold_mem hM.1 hB (n := B.f) (by have := asc_bd hM.1 hB; omega)
    have h3 : hold (aft w (spl b c f t m)).bl B.f = rho _ B.f (hold w.bl B.f) := aft_hold hf hw.can _
    have h4 := asc_bd hM.1 hB
    show has (aft w (spl b c f t m)).al B.c = true
    rw [hal B.c (by omega) (by omega), ← h2]
    have h5 : hold (mapOf fun n => rho (spl b c f t m) n (hold w.bl n)) B.f = rho (spl b c f t m) B.f (hold w.bl B.f) := h3
    rw [h5]
    have h6 : rho (spl b c f t m) B.f (hold w.bl B.f) ≠ -1 := by rw [← h5]; exact h1.1
    have h7 : hold w.bl B.f ≠ -1 := fun h => h6 (by rw [h]; exact rho_no hf _)
    have h8 := hold_own hw h7
    have h9 : rho (spl b c f t m) B.f (hold w.bl B.f) = c ∨ rho (spl b c f t m) B.f (hold w.bl B.f) = hold w.bl B.f := by
      by_cases hx : hold w.bl B.f = b
      · by_cases hr : f ≤ B.f ∧ B.f < t
        · left; unfold rho; simp [spl, hx, hr]
        · right; unfold rho; simp [spl, hx, hr]
      · right; unfold rho; simp [spl, hx]
    rcases h9 with h9 | h9
    · rw [h9]; simp
    · rw [h9, h8.1]; rfl
  · have := bd x x0 x1; have := bd b b0 b1
    rw [hba x x0 x1]
    split
    · omega
    · split <;> omega
  · have := hw.l0 x x0 x1; have := hw.l0 b b0 b1
    rw [hle x x0 x1]
    split <;> omega
  · have h1 : has (aft w (spl b c f t m)).al x = false := hx
    rw [hal x x0 x1, Bool.or_eq_false_iff, decide_eq_false_iff_not] at h1
    have hxb : x ≠ b := fun h => by rw [h, hb] at h1; exact absurd h1.1 (by decide)
    have := hw.dead x x0 x1 h1.1
    rw [hba x x0 x1, hle x x0 x1, if_neg h1.2, if_neg h1.2, if_neg hxb]
    exact this
  · have h1 : has (aft w (spl b c f t m)).al x = true := hx
    have h2 : has (aft w (spl b c f t m)).al y = true := hy
    rw [hal x x0 x1, Bool.or_eq_true, decide_eq_true_eq] at h1
    rw [hal y y0 y1, Bool.or_eq_true, decide_eq_true_eq] at h2
    rw [hle x x0 x1, hle y y0 y1]
    by_cases hxc : x = c
    · rw [if_pos hxc]
      by_cases hyc : y = c
      · rw [if_pos hyc]; omega
      · rw [if_neg hyc]
        exact hw.near b y b0 b1 y0 y1 hb (h2.resolve_right hyc)
    · rw [if_neg hxc]
      by_cases hyc : y = c
      · rw [if_pos hyc]
        exact hw.near x b x0 x1 b0 b1 (h1.resolve_right hxc) hb
      · rw [if_neg hyc]
        exact hw.near x y x0 x1 y0 y1 (h1.resolve_right hxc) (h2.resolve_right hyc)
/-- split off and merged again: the world is as before, but for Ever -/
theorem back {w : Wd} {b c f t m : Int} (h : Poss w (spl b c f t m)) : Poss (aft w (spl b c f t m)) (mrg c b) ∧ aft (aft w (spl b c f t m)) (mrg c b) = { w with ev := addS w.ev c } := by
  have hw := h.v
  have hf := h.f
  have b0 : 0 ≤ b := hf.a0
  have b1 : b ≤ 7 := hf.a1
  have c0 : 0 ≤ c := hf.b0
  have c1 : c ≤ 7 := hf.b1
  have hb : has w.al b = true := h.c.a
  have hc : has w.ev c = false := h.c.s rfl
  have hac : has w.al c = false := by
    cases h : has w.al c with
    | false => rfl
    | true => rw [has_sub hw.sub h] at hc; cases hc
  have hne : b ≠ c := fun h => by rw [h, hac] at hb; cases hb
  have hg : Frm (mrg c b) := ⟨by simp [mrg], by simp [mrg], c0, c1, b0, b1, by simp [mrg], by simp [mrg], by simp [mrg], fun _ => ⟨rfl, rfl, rfl⟩, fun h => by simp [mrg] at h, fun _ => rfl, fun h => by simp [mrg] at h, fun _ => Ne.symm hne, fun h => by simp [mrg] at h⟩
  have n21 : ¬ (2 : Int) = 1 := by decide
  have hal : ∀ x, 0 ≤ x → x ≤ 7 → has (aft w (spl b c f t m)).al x = (has w.al x || decide (x = c)) := fun x x0 x1 => (al_aft (w := w) hf (c := x) x0 x1).trans (if_pos rfl)
  have hba : ∀ x, 0 ≤ x → x ≤ 7 → g (aft w (spl b c f t m)).ba x = if x = c then m else if x = b then g w.ba b - m else g w.ba x := fun x x0 x1 => (g_bal hw.bal hf (c := x) x0 x1).trans ((if_neg n21).trans (if_pos rfl))
  have hle : ∀ x, 0 ≤ x → x ≤ 7 → g (aft w (spl b c f t m)).le x = if x = c then g w.le b else g w.le x := fun x x0 x1 => (g_lev hw.lel hf (c := x) x0 x1).trans (if_pos rfl)
  have n12 : ¬ (1 : Int) = 2 := by decide
  have n14 : ¬ (1 : Int) = 4 := by decide
  have hal2 : ∀ x, 0 ≤ x → x ≤ 7 → has (aft (aft w (spl b c f t m)) (mrg c b)).al x = (has (aft w (spl b c f t m)).al x && decide (x ≠ c)) := fun x x0 x1 => (al_aft (w := aft w (spl b c f t m)) hg (c := x) x0 x1).trans ((if_neg n12).trans (if_neg n14))
  have hba2 : ∀ x, 0 ≤ x → x ≤ 7 → g (aft (aft w (spl b c f t m)) (mrg c b)).ba x = if x = c then 0 else if x = b then g (aft w (spl b c f t m)).ba b + g (aft w (spl b c f t m)).ba c else g (aft w (spl b c f t m)).ba x := fun x x0 x1 => (g_bal h.v2.bal hg (c := x) x0 x1).trans (if_pos rfl)
  have hle2 : ∀ x, 0 ≤ x → x ≤ 7 → g (aft (aft w (spl b c f t m)) (mrg c b)).le x = if x = c then 0 else g (aft w (spl b c f t m)).le x := fun x x0 x1 => (g_lev h.v2.lel hg (c := x) x0 x1).trans ((if_neg n12).trans (if_neg n14))
  have hdead := hw.dead c c0 c1 hac
  have E0 := addS_bd (s := w.ev) hw.e0 hw.e1 c0 c1
  have eE : (aft (aft w (spl b c f t m)) (mrg c b)).ev = addS w.ev c := rfl
  have eA : (aft (aft w (spl b c f t m)) (mrg c b)).al = w.al := by
    have hd : (aft (aft w (spl b c f t m)) (mrg c b)).al = delS (aft w (spl b c f t m)).al c := rfl
    have hb2 := delS_bd (aft w (spl b c f t m)).al c
    refine set_ext (by rw [hd]; exact hb2.1) (by rw [hd]; exact hb2.2) hw.a0 hw.a1 fun x x0 x1 => ?_
    rw [hal2 x x0 x1, hal x x0 x1]
    by_cases hx : x = c
    · subst hx; rw [hac]; simp
    · simp [hx]
  have eH : (aft (aft w (spl b c f t m)) (mrg c b)).bl = w.bl := by
    refine Canon.uniq (rho_map hg h.v2.can).1 hw.can fun n n0 n1 => ?_
    rw [aft_hold hg h.v2.can, aft_hold hf hw.can]
    have hnc : hold w.bl n ≠ c := fun hh => by
      have := (hold_own hw (n := n) (by omega)).1
      rw [hh, hac] at this; cases this
    generalize hold w.bl n = x at hnc ⊢
    unfold rho
    simp only [spl, mrg]
    clear hal hba hle hal2 hba2 hle2
    grind
  have eB : (aft (aft w (spl b c f t m)) (mrg c b)).ba = w.ba := by
    refine list_ext (by rw [show (aft (aft w (spl b c f t m)) (mrg c b)).ba = balA (balA w.ba (spl b c f t m)) (mrg c b) from rfl, bal_len, bal_len, hw.bal]) hw.bal fun x x0 x1 => ?_
    rw [hba2 x x0 x1]
    rw [hba x x0 x1, hba b b0 b1, hba c c0 c1]
    clear hal hba hle hal2 hba2 hle2
    grind
  have eL : (aft (aft w (spl b c f t m)) (mrg c b)).le = w.le := by
    refine list_ext (by rw [show (aft (aft w (spl b c f t m)) (mrg c b)).le = levA (levA w.le (spl b c f t m)) (mrg c b) from rfl, lev_len, lev_len, hw.lel]) hw.lel fun x x0 x1 => ?_
    rw [hle2 x x0 x1]
    rw [hle x x0 x1]
    clear hal hba hle hal2 hba2 hle2
    grind
  have eW : aft (aft w (spl b c f t m)) (mrg c b) = { w with ev := addS w.ev c } := by
    have : ∀ u : Wd, u = ⟨u.al, u.ev, u.bl, u.ba, u.le⟩ := fun _ => rfl
    rw [this (aft (aft w (spl b c f t m)) (mrg c b)), eE, eA, eH, eB, eL]
  refine ⟨⟨h.v2, hg, ⟨?_, fun _ => ?_, fun h => by simp [mrg] at h, fun h => by simp [mrg] at h, fun h => by simp [mrg] at h⟩, ?_⟩, eW⟩
  · show has (aft w (spl b c f t m)).al c = true
    rw [hal c c0 c1]; simp
  · show has (aft w (spl b c f t m)).al b = true
    rw [hal b b0 b1, hb]; rfl
  · rw [eW]
    exact ⟨E0.1, E0.2, hw.a0, sub_of hw.a0 hw.a1 fun x x0 x1 hx => by rw [has_add c0 x0, has_sub hw.sub hx]; rfl, hw.bal, hw.lel, hw.can, hw.few, hw.own, hw.b0, hw.l0, hw.dead, hw.sum, hw.near⟩
end Go.Dial.Mrg
namespace Go.Dial.Mrg
open Go.Dial.Blk
/-- worlds after events; the index of the one that is not possible -/
noncomputable def runF : Wd → List Ev → Nat → Option Wd × Nat
  | w, [], i => (some w, i)
  | w, e :: l, i => match stepW w e with
    | none => (none, i)
    | some v => runF v l (i + 1)
/-- events in order of time -/
def Srt : List Ev → Prop
  | [] => True
  | [_] => True
  | a :: b :: l => a.at_ ≤ b.at_ ∧ Srt (b :: l)
/-- possible events -/
def PossL : Wd → List Ev → Prop
  | w, [] => WV w
  | w, e :: l => Poss w e ∧ PossL (aft w e) l
noncomputable def aftL (w : Wd) (l : List Ev) : Wd := l.foldl aft w
theorem aftL_cons (w : Wd) (e : Ev) (l : List Ev) : aftL w (e :: l) = aftL (aft w e) l := rfl
theorem aftL_app (w : Wd) (l m : List Ev) : aftL w (l ++ m) = aftL (aftL w l) m := List.foldl_append
theorem PossL.v {w : Wd} {l : List Ev} (h : PossL w l) : WV w := by
  cases l with
  | nil => exact h
  | cons e l => exact h.1.v
theorem PossL.v2 : ∀ {l : List Ev} {w : Wd}, PossL w l → WV (aftL w l)
  | [], _, h => h
  | e :: l, w, h => PossL.v2 (l := l) h.2
theorem PossL.app : ∀ {l m : List Ev} {w : Wd}, PossL w (l ++ m) ↔ PossL w l ∧ PossL (aftL w l) m
  | [], m, w => ⟨fun h => ⟨h.v, h⟩, fun h => h.2⟩
  | e :: l, m, w => by
    show (Poss w e ∧ PossL (aft w e) (l ++ m)) ↔ (Poss w e ∧ PossL (aft w e) l) ∧ PossL (aftL (aft w e) l) m
    rw [PossL.app (l := l), and_assoc]
theorem runF_poss : ∀ {l : List Ev} {w : Wd} (i : Nat), PossL w l → runF w l i = (some (aftL w l), i + l.length)
  | [], w, i, _ => rfl
  | e :: l, w, i, h => by
    rw [runF, stepW_of h.1]
    show runF (aft w e) l (i + 1) = _
    rw [runF_poss (i + 1) h.2]
    simp only [List.length_cons, aftL_cons]
    congr 1; omega
theorem runF_some : ∀ {l : List Ev} {w v : Wd} {i j : Nat}, WV w → runF w l i = (some v, j) → PossL w l
  | [], w, v, i, j, hw, _ => hw
  | e :: l, w, v, i, j, hw, h => by
    rw [runF] at h
    cases hs : stepW w e with
    | none => rw [hs] at h; cases h
    | some u =>
      rw [hs] at h
      obtain ⟨hp, rfl⟩ := stepW_some hs
      exact ⟨hp, runF_some hp.v2 h⟩
/-- events that may be run -/
structure RunOk (w : Wd) (l : List Ev) : Prop where
  v : WV w
  few : l.length ≤ 20
  srt : Srt l
noncomputable instance (w : Wd) (l : List Ev) : Decidable (RunOk w l) := Classical.propDecidable _
noncomputable def runW (w : Wd) (l : List Ev) : Option Wd × Nat := if RunOk w l then runF w l 0 else (none, 0)
/-- events that are possible in a world -/
structure Good (w : Wd) (l : List Ev) : Prop where
  few : l.length ≤ 20
  srt : Srt l
  p : PossL w l
theorem runW_good {w : Wd} {l : List Ev} (h : Good w l) : runW w l = (some (aftL w l), l.length) := by
  unfold runW
  rw [if_pos ⟨h.p.v, h.few, h.srt⟩, runF_poss 0 h.p]; simp
theorem runW_some {w v : Wd} {l : List Ev} {j : Nat} (h : runW w l = (some v, j)) : Good w l := by
  unfold runW at h
  split at h
  · rename_i hr; exact ⟨hr.few, hr.srt, runF_some hr.v h⟩
  · cases h
theorem Srt.tail {e : Ev} {l : List Ev} (h : Srt (e :: l)) : Srt l := by
  cases l with
  | nil => trivial
  | cons b l => exact h.2
theorem Srt.le {e : Ev} {l : List Ev} (h : Srt (e :: l)) : ∀ d ∈ l, e.at_ ≤ d.at_ := by
  induction l generalizing e with
  | nil => intro d hd; simp at hd
  | cons b l ih =>
    intro d hd
    rcases List.mem_cons.1 hd with rfl | hd
    · exact h.1
    · exact Int.le_trans h.1 (ih h.2 d hd)
theorem Srt.snoc {l : List Ev} {e : Ev} (h : Srt l) (he : ∀ d ∈ l, d.at_ ≤ e.at_) : Srt (l ++ [e]) := by
  induction l with
  | nil => trivial
  | cons a l ih =>
    have h2 := ih h.tail fun d hd => he d (by simp [hd])
    cases l with
    | nil => exact ⟨he a (by simp), trivial⟩
    | cons b l => exact ⟨h.1, h2⟩
/-- the events up to a time -/
def untl (l : List Ev) (t : Int) : List Ev := l.takeWhile fun e => decide (e.at_ ≤ t)
theorem Srt.take {l : List Ev} (h : Srt l) (t : Int) : Srt (untl l t) := by
  induction l with
  | nil => trivial
  | cons a l ih =>
    unfold untl at *
    rw [List.takeWhile_cons]
    split
    · have := ih h.tail
      cases l with
      | nil => trivial
      | cons b l =>
        rw [List.takeWhile_cons] at this ⊢
        split
        · rename_i hb; rw [if_pos hb] at this; exact ⟨h.1, this⟩
        · trivial
    · trivial
theorem untl_app (l : List Ev) (t : Int) : untl l t ++ l.dropWhile (fun e => decide (e.at_ ≤ t)) = l := List.takeWhile_append_dropWhile
theorem Good.untl {w : Wd} {l : List Ev} (h : Good w l) (t : Int) : Good w (untl l t) := by
  refine ⟨?_, h.srt.take t, ?_⟩
  · have := congrArg List.length (untl_app l t)
    rw [List.length_append] at this
    have := h.few; omega
  · have := h.p
    rw [← untl_app l t] at this
    exact (PossL.app.1 this).1
/-- successors by events, one after the other -/
def sucL (l : List Ev) (n x : Int) : Int := l.foldl (fun x e => rho e n x) x
theorem sucL_app (l m : List Ev) (n x : Int) : sucL (l ++ m) n x = sucL m n (sucL l n x) := List.foldl_append
theorem sucL_cons (e : Ev) (l : List Ev) (n x : Int) : sucL (e :: l) n x = sucL l n (rho e n x) := rfl
theorem PossL.bd : ∀ {l : List Ev} {w : Wd}, PossL w l → ∀ (n x : Int), -1 ≤ x → x ≤ 7 → -1 ≤ sucL l n x ∧ sucL l n x ≤ 7
  | [], _, _, n, x, h0, h1 => ⟨h0, h1⟩
  | e :: l, w, h, n, x, h0, h1 => by
    have := rho_bd h.1.f n x h0 h1
    rw [sucL_cons]
    exact PossL.bd (l := l) h.2 n _ this.1 this.2
theorem rho_ge {e : Ev} (hf : Frm e) (n x : Int) (h0 : 0 ≤ x) : 0 ≤ rho e n x := by
  obtain ⟨h2, h3, h4, h5, h6, h7, h8, h9⟩ := hf
  unfold rho
  repeat' split
  all_goals omega
theorem PossL.ge : ∀ {l : List Ev} {w : Wd}, PossL w l → ∀ (n x : Int), 0 ≤ x → 0 ≤ sucL l n x
  | [], _, _, n, x, h0 => h0
  | e :: l, w, h, n, x, h0 => by
    rw [sucL_cons]
    exact PossL.ge (l := l) h.2 n _ (rho_ge h.1.f n x h0)
theorem PossL.forms : ∀ {l : List Ev} {w : Wd}, PossL w l → ∀ e ∈ l, Frm e
  | [], _, _, e, he => by simp at he
  | a :: l, w, h, e, he => by
    rcases List.mem_cons.1 he with rfl | he
    · exact h.1.f
    · exact PossL.forms (l := l) h.2 e he
/-- who holds a number after events -/
theorem PossL.hold : ∀ {l : List Ev} {w : Wd}, PossL w l → ∀ n, Blk.hold (aftL w l).bl n = sucL l n (Blk.hold w.bl n)
  | [], _, _, n => rfl
  | e :: l, w, h, n => by
    rw [aftL_cons, PossL.hold (l := l) h.2 n, aft_hold h.1.f h.1.v.can, sucL_cons]
/-- whoever is alive has a successor that is alive -/
theorem rho_alive {w : Wd} {e : Ev} (h : Poss w e) (n : Int) {x : Int} (x0 : 0 ≤ x) (x1 : x ≤ 7) (hx : has w.al x = true) : has (aft w e).al (rho e n x) = true := by
  have hf := h.f
  have hk := hf.kind
  have hr := rho_bd hf n x (by omega) x1
  have hg := rho_ge hf n x x0
  rw [al_aft hf hg hr.2]
  have hc := h.c
  unfold rho
  by_cases hxa : x = e.a
  · rw [if_pos hxa]
    have ho := hf.other
    have ht := hf.third
    by_cases h1 : e.k = 1
    · have hne := ho (by omega)
      simp [h1, hc.m h1, Ne.symm hne]
    · by_cases h2 : e.k = 2
      · by_cases hr : e.f ≤ n ∧ n < e.t
        · simp [h2, hr]
        · simp [h2, hr, hx]
      · by_cases h3 : e.k = 3
        · have hne := ho (by omega)
          have hnc := ht h3
          obtain ⟨hb, hcc⟩ := hc.w3 h3
          by_cases hr : e.f ≤ n ∧ n < e.t
          · simp [h3, hr, hb, Ne.symm hne]
          · simp [h3, hr, hcc, Ne.symm hnc]
        · have h4 : e.k = 4 := by omega
          simp [h4, hx]
  · rw [if_neg hxa]
    by_cases h2 : e.k = 2
    · simp [h2, hx]
    · by_cases h4 : e.k = 4
      · simp [h4, hx]
      · simp [h2, h4, hx, hxa]
theorem PossL.alive : ∀ {l : List Ev} {w : Wd}, PossL w l → ∀ (n : Int) {x : Int}, 0 ≤ x → x ≤ 7 → has w.al x = true → has (aftL w l).al (sucL l n x) = true
  | [], _, _, n, x, _, _, hx => hx
  | e :: l, w, h, n, x, x0, x1, hx => by
    rw [aftL_cons, sucL_cons]
    exact PossL.alive (l := l) h.2 n (rho_ge h.1.f n x x0) (rho_bd h.1.f n x (by omega) x1).2 (rho_alive h.1 n x0 x1 hx)
theorem ev_mono {w : Wd} {e : Ev} (h : Poss w e) {x : Int} (x0 : 0 ≤ x) (hx : has w.ev x = true) : has (aft w e).ev x = true := by
  rw [ev_aft h.f x0]
  split
  · rw [hx]; rfl
  · exact hx
theorem PossL.ev : ∀ {l : List Ev} {w : Wd}, PossL w l → ∀ {x : Int}, 0 ≤ x → has w.ev x = true → has (aftL w l).ev x = true
  | [], _, _, x, _, hx => hx
  | e :: l, w, h, x, x0, hx => PossL.ev (l := l) h.2 x0 (ev_mono h.1 x0 hx)
/-- who was alive, and is not any more, never is again -/
theorem dead_step {w : Wd} {e : Ev} (h : Poss w e) {x : Int} (x0 : 0 ≤ x) (x1 : x ≤ 7) (hx : has w.ev x = true) (hd : has w.al x = false) : has (aft w e).al x = false ∧ x ≠ e.a := by
  have hne : x ≠ e.a := fun hh => by have := h.c.a; rw [← hh, hd] at this; cases this
  refine ⟨?_, hne⟩
  rw [al_aft h.f x0 x1]
  by_cases h2 : e.k = 2
  · have hb : x ≠ e.b := fun hh => by have := h.c.s h2; rw [← hh, hx] at this; cases this
    rw [if_pos h2, hd, decide_eq_false hb]; rfl
  · rw [if_neg h2]
    split
    · exact hd
    · rw [hd]; rfl
theorem PossL.dead : ∀ {l : List Ev} {w : Wd}, PossL w l → ∀ {x : Int}, 0 ≤ x → x ≤ 7 → has w.ev x = true → has w.al x = false → has (aftL w l).al x = false ∧ ∀ n, sucL l n x = x
  | [], _, _, x, _, _, _, hd => ⟨hd, fun _ => rfl⟩
  | e :: l, w, h, x, x0, x1, hx, hd => by
    obtain ⟨h1, h2⟩ := dead_step h.1 x0 x1 hx hd
    obtain ⟨h3, h4⟩ := PossL.dead (l := l) h.2 x0 x1 (ev_mono h.1 x0 hx) h1
    refine ⟨h3, fun n => ?_⟩
    rw [sucL_cons]
    have : rho e n x = x := by unfold rho; rw [if_neg h2]
    rw [this, h4]
/-- who has been alive at some time up to the end has a successor that is alive, but for who was not alive any more at the beginning -/
theorem PossL.ever : ∀ {l : List Ev} {w : Wd}, PossL w l → ∀ (n : Int) {x : Int}, 0 ≤ x → x ≤ 7 → has (aftL w l).ev x = true → has (aftL w l).al (sucL l n x) = true ∨ (has w.ev x = true ∧ has w.al x = false ∧ sucL l n x = x)
  | [], w, h, n, x, x0, x1, hx => by
    cases ha : has w.al x with
    | true => exact .inl ha
    | false => exact .inr ⟨hx, rfl, rfl⟩
  | e :: l, w, h, n, x, x0, x1, hx => by
    cases ha : has w.al x with
    | true => exact .inl (PossL.alive (l := e :: l) h n x0 x1 ha)
    | false =>
      cases he : has w.ev x with
      | true => exact .inr ⟨rfl, rfl, (PossL.dead (l := e :: l) h x0 x1 he ha).2 n⟩
      | false =>
        left
        have hne : x ≠ e.a := fun hh => by have := h.1.c.a; rw [← hh, ha] at this; cases this
        have hr : rho e n x = x := by unfold rho; rw [if_neg hne]
        rw [aftL_cons, sucL_cons, hr]
        rw [aftL_cons] at hx
        rcases PossL.ever (l := l) h.2 n x0 x1 hx with h1 | ⟨h1, h2, h3⟩
        · exact h1
        · exfalso
          rw [ev_aft h.1.f x0] at h1
          rw [al_aft h.1.f x0 x1] at h2
          by_cases hk : e.k = 2
          · rw [if_pos hk, he] at h1
            rw [if_pos hk, ha] at h2
            rw [h2] at h1
            cases h1
          · rw [if_neg hk, he] at h1; cases h1
/-- who is alive at the end, and is not split, is its own successor -/
theorem PossL.own : ∀ {l : List Ev} {w : Wd}, PossL w l → ∀ (n : Int) {x : Int}, 0 ≤ x → x ≤ 7 → has (aftL w l).al x = true → (∀ e ∈ l, ¬ (e.k = 2 ∧ e.a = x)) → sucL l n x = x
  | [], _, _, n, x, _, _, _, _ => rfl
  | e :: l, w, h, n, x, x0, x1, hx, hs => by
    have hr : rho e n x = x := by
      unfold rho
      by_cases hxa : x = e.a
      · rw [if_pos hxa]
        have hk := h.1.f.kind
        have h2 : ¬ e.k = 2 := fun h2 => hs e (by simp) ⟨h2, hxa.symm⟩
        by_cases h4 : e.k = 4
        · rw [if_neg (by omega), if_neg (by omega)]
        · exfalso
          have ha : has w.al x = true := by rw [hxa]; exact h.1.c.a
          have h5 : has (aft w e).al x = false := by
            rw [al_aft h.1.f x0 x1, if_neg h2, if_neg h4, decide_eq_false (fun hh => hh hxa), Bool.and_false]
          have h6 := PossL.dead (l := l) h.2 x0 x1 (ev_mono h.1 x0 (has_sub h.1.v.sub ha)) h5
          rw [aftL_cons, h6.1] at hx
          cases hx
      · rw [if_neg hxa]
    rw [sucL_cons, hr]
    exact PossL.own (l := l) h.2 n x0 x1 hx fun d hd => hs d (by simp [hd])
/-! a later time -/
theorem untl_late {l : List Ev} {a b : Int} (h : a ≤ b) : untl l b = untl l a ++ untl (l.dropWhile fun e => decide (e.at_ ≤ a)) b := by
  induction l with
  | nil => rfl
  | cons e l ih =>
    unfold untl at *
    by_cases h1 : e.at_ ≤ a
    · have h2 : e.at_ ≤ b := by omega
      rw [List.takeWhile_cons, List.takeWhile_cons, List.dropWhile_cons, decide_eq_true h1, decide_eq_true h2]
      simp only [if_true]
      rw [ih]; rfl
    · have e1 : List.takeWhile (fun e : Ev => decide (e.at_ ≤ a)) (e :: l) = [] := by rw [List.takeWhile_cons, decide_eq_false h1]; rfl
      have e2 : List.dropWhile (fun e : Ev => decide (e.at_ ≤ a)) (e :: l) = e :: l := by rw [List.dropWhile_cons, decide_eq_false h1]; rfl
      rw [e1, e2]; rfl
theorem after_eq {l : List Ev} (h : Srt l) (t : Int) : l.filter (fun e => decide (t < e.at_)) = l.dropWhile fun e => decide (e.at_ ≤ t) := by
  induction l with
  | nil => rfl
  | cons e l ih =>
    by_cases h1 : e.at_ ≤ t
    · rw [List.filter_cons, List.dropWhile_cons, decide_eq_true h1, decide_eq_false (by omega : ¬ t < e.at_), ih h.tail]; rfl
    · rw [List.dropWhile_cons, decide_eq_false h1]
      simp only [Bool.false_eq_true, if_false]
      rw [List.filter_eq_self]
      intro d hd
      rcases List.mem_cons.1 hd with rfl | hd
      · simpa using h1
      · have := h.le d hd
        simp; omega
theorem Srt.drop {l : List Ev} (h : Srt l) (p : Ev → Bool) : Srt (l.dropWhile p) := by
  induction l with
  | nil => trivial
  | cons a l ih =>
    rw [List.dropWhile_cons]
    split
    · exact ih h.tail
    · exact h
theorem Good.drop {w : Wd} {l : List Ev} (h : Good w l) (t : Int) : Good (aftL w (Mrg.untl l t)) (l.dropWhile fun e => decide (e.at_ ≤ t)) := by
  refine ⟨?_, h.srt.drop _, ?_⟩
  · have := congrArg List.length (untl_app l t)
    rw [List.length_append] at this
    have := h.few; omega
  · have := h.p
    rw [← untl_app l t] at this
    exact (PossL.app.1 this).2
/-- a possible event, and later than all others: one more -/
theorem Good.snoc {w : Wd} {l : List Ev} {e : Ev} (h : Good w l) (h20 : l.length + 1 ≤ 20) (hp : Poss (aftL w l) e) (ht : ∀ d ∈ l, d.at_ ≤ e.at_) : Good w (l ++ [e]) :=
  ⟨by simp; omega, h.srt.snoc ht, PossL.app.2 ⟨h.p, hp, hp.v2⟩⟩
end Go.Dial.Mrg
namespace Go.Dial.Mrg
open Go.Dial.Blk
/-- a debt: who owes, to whom, and how much -/
abbrev Dt := Int × Int × Int
def ren (a c : Int) (d : Dt) : Dt := (if d.1 = a then c else d.1, if d.2.1 = a then c else d.2.1, d.2.2)
def real (d : Dt) : Bool := decide (d.1 ≠ d.2.1)
def renamed (l : List Dt) (a c : Int) : List Dt := (l.map (ren a c)).filter real
def owed (l : List Dt) (a b m : Int) : List Dt := if 0 < m then l ++ [(a, b, m)] else if m < 0 then l ++ [(b, a, 0 - m)] else l
def debtE (l : List Dt) (e : Ev) : List Dt :=
  if e.k = 1 then renamed l e.a e.b else if e.k = 2 then owed l e.a e.b e.m else if e.k = 3 then renamed (owed l e.a e.b e.m) e.a e.c else l
def debtsL (l : List Dt) (es : List Ev) : List Dt := es.foldl debtE l
/-- what a carrier has by debts -/
def net : List Dt → Int → Int
  | [], _ => 0
  | d :: l, c => (if c = d.2.1 then d.2.2 else 0) - (if c = d.1 then d.2.2 else 0) + net l c
theorem net_app (l m : List Dt) (c : Int) : net (l ++ m) c = net l c + net m c := by
  induction l with
  | nil => simp [net]
  | cons d l ih => rw [List.cons_append, net, net, ih]; omega
theorem net_real (l : List Dt) (c : Int) : net (l.filter real) c = net l c := by
  induction l with
  | nil => rfl
  | cons d l ih =>
    by_cases h : d.1 = d.2.1
    · have : real d = false := by unfold real; simp [h]
      rw [List.filter_cons, this, net, h]
      simp only [Bool.false_eq_true, if_false]
      rw [ih]; omega
    · have : real d = true := by unfold real; simp [h]
      rw [List.filter_cons, this]
      simp only [if_true]
      rw [net, net, ih]
theorem net_ren (l : List Dt) {a c : Int} (h : a ≠ c) (x : Int) : net (l.map (ren a c)) x = if x = a then 0 else if x = c then net l c + net l a else net l x := by
  induction l with
  | nil => simp [net]
  | cons d l ih =>
    rw [List.map_cons, net, ih, net, net, net]
    unfold ren
    simp only
    by_cases h1 : x = a
    · subst h1
      rw [if_pos rfl, if_pos rfl]
      by_cases h2 : d.2.1 = x
      · by_cases h3 : d.1 = x
        · simp [h2, h3, h]
        · simp [h2, h3, h, Ne.symm h3]
      · by_cases h3 : d.1 = x
        · simp [h2, h3, h, Ne.symm h2]
        · simp [h2, h3, Ne.symm h2, Ne.symm h3]
    · rw [if_neg h1, if_neg h1]
      by_cases h4 : x = c
      · subst h4
        rw [if_pos rfl, if_pos rfl]
        repeat' split
        all_goals omega
      · rw [if_neg h4, if_neg h4]
        repeat' split
        all_goals omega
theorem net_renamed (l : List Dt) {a c : Int} (h : a ≠ c) (x : Int) : net (renamed l a c) x = if x = a then 0 else if x = c then net l c + net l a else net l x := by
  unfold renamed
  rw [net_real, net_ren l h]
theorem net_owed (l : List Dt) (a b m x : Int) : net (owed l a b m) x = net l x + (if x = b then m else 0) - (if x = a then m else 0) := by
  unfold owed
  by_cases h : 0 < m
  · rw [if_pos h, net_app]
    simp only [net]
    split <;> split <;> omega
  · rw [if_neg h]
    by_cases h2 : m < 0
    · rw [if_pos h2, net_app]
      simp only [net]
      split <;> split <;> omega
    · rw [if_neg h2]
      split <;> split <;> omega
/-- balances that are those of debts, stay so -/
theorem net_step {w : Wd} {e : Ev} (h : Poss w e) {ds : List Dt} (hb : ∀ c, 0 ≤ c → c ≤ 7 → g w.ba c = net ds c) : ∀ c, 0 ≤ c → c ≤ 7 → g (aft w e).ba c = net (debtE ds e) c := by
  intro c c0 c1
  have hf := h.f
  show g (balA w.ba e) c = _
  rw [g_bal h.v.bal hf c0 c1, hb e.a hf.a0 hf.a1, hb e.b hf.b0 hf.b1, hb c c0 c1, hb e.c hf.c0 hf.c1]
  unfold debtE
  have ho := hf.other
  by_cases h1 : e.k = 1
  · have hne := ho (by omega)
    rw [if_pos h1, if_pos h1, net_renamed _ hne]
  · rw [if_neg h1, if_neg h1]
    by_cases h2 : e.k = 2
    · have hne := ho (by omega)
      have hz : net ds e.b = 0 := by
        have he := h.c.s h2
        have ha : has w.al e.b = false := by
          cases hh : has w.al e.b with
          | false => rfl
          | true => rw [has_sub h.v.sub hh] at he; cases he
        rw [← hb e.b hf.b0 hf.b1]
        exact (h.v.dead e.b hf.b0 hf.b1 ha).1
      rw [if_pos h2, if_pos h2, net_owed]
      by_cases hc : c = e.b
      · subst hc
        rw [if_pos rfl, if_pos rfl, if_neg (Ne.symm hne), hz]; omega
      · rw [if_neg hc, if_neg hc]
        by_cases hca : c = e.a
        · subst hca; rw [if_pos rfl, if_pos rfl]; omega
        · rw [if_neg hca, if_neg hca]; omega
    · rw [if_neg h2, if_neg h2]
      by_cases h3 : e.k = 3
      · have hne := ho (by omega)
        have hnc := hf.third h3
        rw [if_pos h3, if_pos h3, net_renamed _ hnc, net_owed, net_owed, net_owed]
        by_cases hca : c = e.a
        · rw [if_pos hca, if_pos hca]
        · rw [if_neg hca, if_neg hca]
          by_cases hcc : c = e.c
          · rw [if_pos hcc, if_pos hcc]
            repeat' split
            all_goals first | omega | grind
          · rw [if_neg hcc, if_neg hcc]
            repeat' split
            all_goals first | omega | grind
      · rw [if_neg h3, if_neg h3]
theorem PossL.net : ∀ {l : List Ev} {w : Wd}, PossL w l → ∀ {ds : List Dt}, (∀ c, 0 ≤ c → c ≤ 7 → g w.ba c = Mrg.net ds c) → ∀ c, 0 ≤ c → c ≤ 7 → g (aftL w l).ba c = Mrg.net (debtsL ds l) c
  | [], _, _, _, hb => hb
  | e :: l, w, h, ds, hb => by
    show ∀ c, 0 ≤ c → c ≤ 7 → g (aftL (aft w e) l).ba c = Mrg.net (debtsL (debtE ds e) l) c
    exact PossL.net (l := l) h.2 (net_step h.1 hb)
/-- valid debts -/
def DV (d : Dt) : Prop := (0 ≤ d.1 ∧ d.1 ≤ 7) ∧ (0 ≤ d.2.1 ∧ d.2.1 ≤ 7) ∧ d.1 ≠ d.2.1 ∧ 1 ≤ d.2.2 ∧ d.2.2 ≤ 1000000000
/-- carriers within bounds -/
def DC (d : Dt) : Prop := (0 ≤ d.1 ∧ d.1 ≤ 7) ∧ 0 ≤ d.2.1 ∧ d.2.1 ≤ 7
theorem renamed_dv {l : List Dt} (h : ∀ d ∈ l, (0 ≤ d.1 ∧ d.1 ≤ 7) ∧ (0 ≤ d.2.1 ∧ d.2.1 ≤ 7) ∧ 1 ≤ d.2.2 ∧ d.2.2 ≤ 1000000000) {a c : Int} (c0 : 0 ≤ c) (c1 : c ≤ 7) : ∀ d ∈ renamed l a c, DV d := by
  intro d hd
  unfold renamed at hd
  rw [List.mem_filter] at hd
  obtain ⟨h1, h2⟩ := hd
  obtain ⟨x, hx, rfl⟩ := List.mem_map.1 h1
  obtain ⟨⟨q1, q2⟩, ⟨q3, q4⟩, q5, q6⟩ := h x hx
  unfold real at h2
  rw [decide_eq_true_eq] at h2
  refine ⟨?_, ?_, h2, q5, q6⟩
  · unfold ren; simp only; split <;> omega
  · unfold ren; simp only; split <;> omega
theorem owed_dv {l : List Dt} (h : ∀ d ∈ l, DV d) {a b m : Int} (a0 : 0 ≤ a) (a1 : a ≤ 7) (b0 : 0 ≤ b) (b1 : b ≤ 7) (hne : a ≠ b) (m0 : -200 ≤ m) (m1 : m ≤ 200) : ∀ d ∈ owed l a b m, DV d := by
  intro d hd
  unfold owed at hd
  split at hd
  · rcases List.mem_append.1 hd with hd | hd
    · exact h d hd
    · rw [List.mem_singleton] at hd; subst hd
      exact ⟨⟨a0, a1⟩, ⟨b0, b1⟩, hne, (by omega : 1 ≤ m), (by omega : m ≤ 1000000000)⟩
  · split at hd
    · rcases List.mem_append.1 hd with hd | hd
      · exact h d hd
      · rw [List.mem_singleton] at hd; subst hd
        exact ⟨⟨b0, b1⟩, ⟨a0, a1⟩, Ne.symm hne, (by omega : 1 ≤ 0 - m), (by omega : 0 - m ≤ 1000000000)⟩
    · exact h d hd
theorem owed_len (l : List Dt) (a b m : Int) : (owed l a b m).length ≤ l.length + 1 := by
  unfold owed
  split
  · simp
  · split <;> simp
theorem renamed_len (l : List Dt) (a b : Int) : (renamed l a b).length ≤ l.length := by
  unfold renamed
  have := List.length_filter_le real (l.map (ren a b))
  rw [List.length_map] at this
  exact this
theorem debtE_len (l : List Dt) (e : Ev) : (debtE l e).length ≤ l.length + 1 := by
  unfold debtE
  have h1 := renamed_len l e.a e.b
  have h2 := owed_len l e.a e.b e.m
  have h3 := renamed_len (owed l e.a e.b e.m) e.a e.c
  repeat' split
  all_goals omega
theorem debtE_dv {l : List Dt} (h : ∀ d ∈ l, DV d) {e : Ev} (hf : Frm e) (m0 : -200 ≤ e.m) (m1 : e.m ≤ 200) : ∀ d ∈ debtE l e, DV d := by
  unfold debtE
  split
  · exact renamed_dv (fun d hd => ⟨(h d hd).1, (h d hd).2.1, (h d hd).2.2.2⟩) hf.b0 hf.b1
  · split
    · exact owed_dv h hf.a0 hf.a1 hf.b0 hf.b1 (hf.other (by omega)) m0 m1
    · split
      · have := owed_dv h hf.a0 hf.a1 hf.b0 hf.b1 (hf.other (by omega)) m0 m1
        exact renamed_dv (fun d hd => ⟨(this d hd).1, (this d hd).2.1, (this d hd).2.2.2⟩) hf.c0 hf.c1
      · exact h
theorem debtsL_dv : ∀ {es : List Ev} {l : List Dt}, (∀ d ∈ l, DV d) → (∀ e ∈ es, Frm e ∧ -200 ≤ e.m ∧ e.m ≤ 200) → (∀ d ∈ debtsL l es, DV d) ∧ (debtsL l es).length ≤ l.length + es.length
  | [], l, h, _ => ⟨h, by simp [debtsL]⟩
  | e :: es, l, h, he => by
    have h1 := he e (by simp)
    have h2 := debtsL_dv (es := es) (debtE_dv h h1.1 h1.2.1 h1.2.2) fun d hd => he d (by simp [hd])
    have h3 := debtE_len l e
    refine ⟨h2.1, ?_⟩
    have h4 := h2.2
    show (debtsL (debtE l e) es).length ≤ _
    simp only [List.length_cons]; omega
end Go.Dial.Mrg
namespace Go.Dial.Mrg
open Go.Dial.Blk
/-- the ends of the three parts of a block -/
def end1 (b : B3) (f : Int) : Int := max b.f (min f b.t)
def car (b : B3) (x y z : Int) (mid : Bool) : Int := if b.c = x then (if mid then y else z) else b.c
/-- a prt laid behind, unless it is empty -/
def prt (o : List B3) (p q k : Int) : List B3 := if p = q then o else Blk.step o p q k
/-- a block's three parts laid behind -/
def outB (x y z f t : Int) (o : List B3) (b : B3) : List B3 :=
  prt (prt (prt o b.f (end1 b f) (car b x y z false)) (end1 b f) (end1 b t) (car b x y z true)) (end1 b t) b.t (car b x y z false)
/-- who holds a number afterwards -/
def outG (x y z f t : Int) (n h : Int) : Int := if h = x then (if f ≤ n ∧ n < t then y else z) else h
theorem part_upto {g : Int → Int} {o : List B3} {p q k : Int} (h : Upto g p o) (p0 : 0 ≤ p) (pq : p ≤ q) (q1 : q ≤ 100000000) (hk : -1 ≤ k ∧ k ≤ 7) (hg : ∀ n, p ≤ n → n < q → g n = k) : Upto g q (prt o p q k) := by
  unfold prt
  by_cases he : p = q
  · rw [if_pos he, ← he]; exact h
  · rw [if_neg he]; exact h.step p0 (by omega) q1 hk hg
theorem skip_upto {g : Int → Int} {o : List B3} {p q : Int} (h : Upto g p o) (p0 : 0 ≤ p) (pq : p ≤ q) (q1 : q ≤ 100000000) (hg : ∀ n, p ≤ n → n < q → g n = -1) : Upto g q o := by
  have := part_upto h p0 pq q1 (k := -1) (by omega) hg
  unfold prt at this
  split at this
  · exact this
  · rwa [step_none] at this
theorem part_len (o : List B3) (p q k : Int) : (prt o p q k).length ≤ o.length + 1 := by
  unfold prt
  split
  · omega
  · exact step_len o p q k
theorem outB_len (x y z f t : Int) (o : List B3) (b : B3) : (outB x y z f t o b).length ≤ o.length + 3 := by
  unfold outB
  have h1 := part_len o b.f (end1 b f) (car b x y z false)
  have h2 := part_len (prt o b.f (end1 b f) (car b x y z false)) (end1 b f) (end1 b t) (car b x y z true)
  have h3 := part_len (prt (prt o b.f (end1 b f) (car b x y z false)) (end1 b f) (end1 b t) (car b x y z true)) (end1 b t) b.t (car b x y z false)
  omega
theorem out_upto {x y z f t : Int} (ft : f < t) (y0 : 0 ≤ y) (y1 : y ≤ 7) (z0 : 0 ≤ z) (z1 : z ≤ 7) (x0 : 0 ≤ x) {l : List B3} (hl : Canon l) : ∀ (m : List B3) (pre : List B3) (e k : Int) (o : List B3), l = pre ++ m → Asc e k m → 0 ≤ e → e ≤ 100000000 →
    (∀ n, e ≤ n → hold l n = hold m n) → Upto (fun n => outG x y z f t n (hold l n)) e o → ∃ q, e ≤ q ∧ q ≤ 100000000 ∧ (∀ n, q ≤ n → hold l n = -1) ∧ Upto (fun n => outG x y z f t n (hold l n)) q (m.foldl (outB x y z f t) o) := by
  intro m
  induction m with
  | nil => intro pre e k o _ _ e0 e1 hh ho; exact ⟨e, Int.le_refl _, e1, fun n hn => (hh n hn).trans rfl, ho⟩
  | cons b m ih =>
    intro pre e k o hpre ha e0 e1 hh ho
    obtain ⟨b1, b2, b3, b4, b5, b6, b7, b8⟩ := ha
    have hgap := skip_upto ho e0 b6 (by omega) (q := b.f) fun n h1 h2 => by
      show outG x y z f t n (hold l n) = -1
      rw [hh n h1, hold_out m (by omega), hold_lt b8 (by omega)]
      unfold outG; rw [if_neg (by omega)]
    have hin : ∀ n, b.f ≤ n → n < b.t → hold l n = b.c := fun n h1 h2 => by rw [hh n (by omega), hold_in m ⟨h1, h2⟩]
    have hm1 : b.f ≤ end1 b f ∧ end1 b f ≤ b.t := by unfold end1; omega
    have hm2 : end1 b f ≤ end1 b t ∧ end1 b t ≤ b.t := by unfold end1; omega
    have hcb : ∀ mid, -1 ≤ car b x y z mid ∧ car b x y z mid ≤ 7 := fun mid => by
      unfold car
      split
      · split <;> omega
      · omega
    have s1 := part_upto hgap b1 hm1.1 (by omega) (hcb false) fun n h1 h2 => by
      show outG x y z f t n (hold l n) = _
      rw [hin n h1 (by omega)]
      unfold outG car
      have hnr : ¬ (f ≤ n ∧ n < t) := by unfold end1 at h2; omega
      rw [if_neg hnr]; simp
    have s2 := part_upto s1 (by omega) hm2.1 (by omega) (hcb true) fun n h1 h2 => by
      show outG x y z f t n (hold l n) = _
      rw [hin n (by omega) (by omega)]
      unfold outG car
      have hr : f ≤ n ∧ n < t := by unfold end1 at h1 h2; omega
      rw [if_pos hr]; simp
    have s3 := part_upto s2 (by omega) hm2.2 (by omega) (hcb false) fun n h1 h2 => by
      show outG x y z f t n (hold l n) = _
      rw [hin n (by omega) (by omega)]
      unfold outG car
      have hnr : ¬ (f ≤ n ∧ n < t) := by unfold end1 at h1; omega
      rw [if_neg hnr]; simp
    obtain ⟨q, q1, q2, q3, q4⟩ := ih (pre ++ [b]) b.t b.c (outB x y z f t o b) (by rw [hpre]; simp) b8 (by omega) b3 (fun n hn => by rw [hh n (by omega), hold_out m (by omega)]) s3
    exact ⟨q, by omega, q2, q3, q4⟩
/-- block by block: the map -/
theorem out_map {x y z f t : Int} (ft : f < t) (y0 : 0 ≤ y) (y1 : y ≤ 7) (z0 : 0 ≤ z) (z1 : z ≤ 7) (x0 : 0 ≤ x) {l : List B3} (hl : Canon l) : IsMap (fun n => outG x y z f t n (hold l n)) (l.foldl (outB x y z f t) []) := by
  obtain ⟨q, q1, q2, q3, q4⟩ := out_upto ft y0 y1 z0 z1 x0 hl l [] 0 (-1) [] rfl hl (by decide) (by decide) (fun _ _ => rfl) (Upto.nil _)
  have := skip_upto q4 q1 q2 (Int.le_refl _) fun n h1 h2 => by
    show outG x y z f t n (hold l n) = -1
    rw [q3 n h1]
    unfold outG; rw [if_neg (by omega)]
  exact this.isMap
end Go.Dial.Mrg
