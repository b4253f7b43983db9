/-
  Plain mathematics of carriers that merge: worlds, events, what is possible, and the world after it.
-/
import Derived.Test.YtgckmifmjiklmaaBlkP
set_option linter.unusedVariables false
set_option linter.unusedSimpArgs false
namespace Go.Dial.Mrg
open Go.Dial.Blk
/-- a carrier is in a set -/
def has (s c : Int) : Bool := s.toNat.testBit c.toNat
def addS (s c : Int) : Int := ((s.toNat ||| 2 ^ c.toNat : Nat) : Int)
def delS (s c : Int) : Int := ((s.toNat &&& (255 - 2 ^ c.toNat) : Nat) : Int)
def subS (s t : Int) : Prop := s.toNat &&& t.toNat = s.toNat
instance (s t : Int) : Decidable (subS s t) := inferInstanceAs (Decidable (_ = _))
theorem fin256 (P : Int → Prop) (h : ∀ k : Fin 256, P (k.val : Int)) (s : Int) (h0 : 0 ≤ s) (h1 : s ≤ 255) : P s := by
  have := h ⟨s.toNat, by omega⟩
  simpa [Int.toNat_of_nonneg h0] using this
theorem fin8 (P : Int → Prop) (h : ∀ k : Fin 8, P (k.val : Int)) (s : Int) (h0 : 0 ≤ s) (h1 : s ≤ 7) : P s := by
  have := h ⟨s.toNat, by omega⟩
  simpa [Int.toNat_of_nonneg h0] using this
theorem addS_bd {s c : Int} (h0 : 0 ≤ s) (h1 : s ≤ 255) (c0 : 0 ≤ c) (c1 : c ≤ 7) : 0 ≤ addS s c ∧ addS s c ≤ 255 := by
  refine ⟨by unfold addS; omega, ?_⟩
  revert s
  refine fin8 (fun c => ∀ {s : Int}, 0 ≤ s → s ≤ 255 → addS s c ≤ 255) (fun k => ?_) c c0 c1
  intro s h0 h1
  have hk : (2 : Nat) ^ k.val < 2 ^ 8 := Nat.pow_lt_pow_right (by decide) k.isLt
  have : (s.toNat ||| 2 ^ k.val) < 2 ^ 8 := Nat.or_lt_two_pow (by omega) hk
  unfold addS
  simp only [Int.toNat_natCast]
  omega
theorem delS_bd (s c : Int) : 0 ≤ delS s c ∧ delS s c ≤ 255 := by
  unfold delS
  have h1 : s.toNat &&& (255 - 2 ^ c.toNat) ≤ 255 - 2 ^ c.toNat := Nat.and_le_right
  have h2 : 255 - 2 ^ c.toNat ≤ 255 := Nat.sub_le _ _
  generalize 255 - 2 ^ c.toNat = y at *
  omega
theorem has_add {s c d : Int} (c0 : 0 ≤ c) (d0 : 0 ≤ d) : has (addS s c) d = (has s d || decide (d = c)) := by
  unfold has addS
  rw [Int.toNat_natCast, Nat.testBit_or, Nat.testBit_two_pow]
  congr 1
  rw [decide_eq_decide]
  omega
theorem has_del {s c d : Int} (c0 : 0 ≤ c) (c1 : c ≤ 7) (d0 : 0 ≤ d) (d1 : d ≤ 7) : has (delS s c) d = (has s d && decide (d ≠ c)) := by
  unfold has delS
  rw [Int.toNat_natCast, Nat.testBit_and]
  congr 1
  revert c0 c1 d0 d1
  intro c0 c1 d0 d1
  refine fin8 (fun c => ((255 - 2 ^ c.toNat).testBit d.toNat = decide (d ≠ c))) (fun k => ?_) c c0 c1
  refine fin8 (fun d => ((255 - 2 ^ (k.val : Int).toNat).testBit d.toNat = decide (d ≠ (k.val : Int)))) (fun j => ?_) d d0 d1
  revert k j
  decide +kernel
theorem has_sub {s t c : Int} (h : subS s t) (hc : has s c = true) : has t c = true := by
  unfold has at *
  unfold subS at h
  rw [← h, Nat.testBit_and] at hc
  simp only [Bool.and_eq_true] at hc
  exact hc.2
theorem sub_of {s t : Int} (h0 : 0 ≤ s) (h1 : s ≤ 255) (h : ∀ c, 0 ≤ c → c ≤ 7 → has s c = true → has t c = true) : subS s t := by
  unfold subS
  refine Nat.eq_of_testBit_eq fun i => ?_
  rw [Nat.testBit_and]
  by_cases hi : i ≤ 7
  · have := h (i : Int) (by omega) (by omega)
    unfold has at this
    rw [Int.toNat_natCast] at this
    cases hs : s.toNat.testBit i with
    | false => rfl
    | true => rw [this hs]; rfl
  · have : s.toNat.testBit i = false := Nat.testBit_lt_two_pow (Nat.lt_of_lt_of_le (by omega : s.toNat < 2 ^ 8) (Nat.pow_le_pow_right (by decide) (by omega)))
    rw [this]; rfl
theorem set_ext {s t : Int} (h0 : 0 ≤ s) (h1 : s ≤ 255) (h2 : 0 ≤ t) (h3 : t ≤ 255) (h : ∀ c, 0 ≤ c → c ≤ 7 → has s c = has t c) : s = t := by
  have : s.toNat = t.toNat := Nat.eq_of_testBit_eq fun i => by
    by_cases hi : i ≤ 7
    · have := h (i : Int) (by omega) (by omega)
      unfold has at this
      rwa [Int.toNat_natCast] at this
    · have a : s.toNat.testBit i = false := Nat.testBit_lt_two_pow (Nat.lt_of_lt_of_le (by omega : s.toNat < 2 ^ 8) (Nat.pow_le_pow_right (by decide) (by omega)))
      have b : t.toNat.testBit i = false := Nat.testBit_lt_two_pow (Nat.lt_of_lt_of_le (by omega : t.toNat < 2 ^ 8) (Nat.pow_le_pow_right (by decide) (by omega)))
      rw [a, b]
  omega
/-- what a list says of a carrier -/
def g (l : List Int) (c : Int) : Int := l.getD c.toNat 0
theorem g_set {l : List Int} (hl : l.length = 8) {c d v : Int} (c0 : 0 ≤ c) (c1 : c ≤ 7) (d0 : 0 ≤ d) (d1 : d ≤ 7) : g (l.set c.toNat v) d = if d = c then v else g l d := by
  unfold g
  rw [List.getD_eq_getElem?_getD, List.getElem?_set, List.getD_eq_getElem?_getD]
  by_cases h : d = c
  · subst h; rw [if_pos rfl, if_pos rfl, if_pos (by omega)]; rfl
  · rw [if_neg h, if_neg (by omega)]
theorem list_ext {a b : List Int} (ha : a.length = 8) (hb : b.length = 8) (h : ∀ c, 0 ≤ c → c ≤ 7 → g a c = g b c) : a = b := by
  refine List.ext_getElem? fun i => ?_
  by_cases hi : i ≤ 7
  · have := h (i : Int) (by omega) (by omega)
    unfold g at this
    rw [Int.toNat_natCast, List.getD_eq_getElem?_getD, List.getD_eq_getElem?_getD, List.getElem?_eq_getElem (by omega), List.getElem?_eq_getElem (by omega)] at this
    rw [List.getElem?_eq_getElem (by omega), List.getElem?_eq_getElem (by omega)]
    simpa using this
  · rw [List.getElem?_eq_none (by omega), List.getElem?_eq_none (by omega)]
theorem sum_set (l : List Int) (i : Nat) (v : Int) (h : i < l.length) : (l.set i v).sum = l.sum - l.getD i 0 + v := by
  induction l generalizing i with
  | nil => simp at h
  | cons x l ih =>
    cases i with
    | zero => simp [List.set]; omega
    | succ i =>
      have := ih i (by simpa using h)
      simp only [List.set_cons_succ, List.sum_cons, List.getD_cons_succ, this]; omega
theorem sum_s {l : List Int} (hl : l.length = 8) {c : Int} (v : Int) (c0 : 0 ≤ c) (c1 : c ≤ 7) : (l.set c.toNat v).sum = l.sum - g l c + v := sum_set l c.toNat v (by omega)
/-- a world -/
structure Wd where
  al : Int
  ev : Int
  bl : List B3
  ba : List Int
  le : List Int
/-- an event -/
structure Ev where
  k : Int
  at_ : Int
  a : Int
  b : Int
  c : Int
  f : Int
  t : Int
  m : Int
/-- a valid world -/
structure WV (w : Wd) : Prop where
  e0 : 0 ≤ w.ev
  e1 : w.ev ≤ 255
  a0 : 0 ≤ w.al
  sub : subS w.al w.ev
  bal : w.ba.length = 8
  lel : w.le.length = 8
  can : Canon w.bl
  few : w.bl.length ≤ 40
  own : ∀ b ∈ w.bl, has w.al b.c = true
  b0 : ∀ c, 0 ≤ c → c ≤ 7 → -1000000000000 ≤ g w.ba c ∧ g w.ba c ≤ 1000000000000
  l0 : ∀ c, 0 ≤ c → c ≤ 7 → 0 ≤ g w.le c ∧ g w.le c ≤ 9
  dead : ∀ c, 0 ≤ c → c ≤ 7 → has w.al c = false → g w.ba c = 0 ∧ g w.le c = 0
  sum : w.ba.sum = 0
  near : ∀ c d, 0 ≤ c → c ≤ 7 → 0 ≤ d → d ≤ 7 → has w.al c = true → has w.al d = true → g w.le c - g w.le d ≤ 1
theorem WV.a1 {w : Wd} (h : WV w) : w.al ≤ 255 := by
  have h1 := h.sub
  have h2 := h.e1
  have h3 := h.e0
  have h4 := h.a0
  unfold subS at h1
  have : w.al.toNat &&& w.ev.toNat ≤ w.ev.toNat := Nat.and_le_right
  omega
/-- who holds a number that a carrier held, after an event -/
def rho (e : Ev) (n x : Int) : Int :=
  if x = e.a then
    if e.k = 1 ∨ ((e.k = 2 ∨ e.k = 3) ∧ e.f ≤ n ∧ n < e.t) then e.b
    else if e.k = 3 then e.c else x
  else x
/-- a formed event -/
structure Frm (e : Ev) : Prop where
  t0 : 0 ≤ e.at_
  t1 : e.at_ ≤ 10000000
  a0 : 0 ≤ e.a
  a1 : e.a ≤ 7
  b0 : 0 ≤ e.b
  b1 : e.b ≤ 7
  c0 : 0 ≤ e.c
  c1 : e.c ≤ 7
  kind : 1 ≤ e.k ∧ e.k ≤ 4
  bare : e.k = 1 ∨ e.k = 4 → e.f = 0 ∧ e.t = 0 ∧ e.m = 0
  full : e.k = 2 ∨ e.k = 3 → 0 ≤ e.f ∧ e.f < e.t ∧ e.t ≤ 100000000 ∧ -1000000000000 ≤ e.m ∧ e.m ≤ 1000000000000
  noC : e.k ≠ 3 → e.c = 0
  noB : e.k = 4 → e.b = 0
  other : e.k ≠ 4 → e.a ≠ e.b
  third : e.k = 3 → e.a ≠ e.c
/-- the balances after an event -/
def balA (ba : List Int) (e : Ev) : List Int :=
  if e.k = 1 then (ba.set e.b.toNat (g ba e.b + g ba e.a)).set e.a.toNat 0
  else if e.k = 2 then (ba.set e.a.toNat (g ba e.a - e.m)).set e.b.toNat e.m
  else if e.k = 3 then ((ba.set e.b.toNat (g ba e.b + e.m)).set e.c.toNat (g (ba.set e.b.toNat (g ba e.b + e.m)) e.c + (g ba e.a - e.m))).set e.a.toNat 0
  else ba
/-- the levels after an event -/
def levA (le : List Int) (e : Ev) : List Int :=
  if e.k = 2 then le.set e.b.toNat (g le e.a) else if e.k = 4 then le.set e.a.toNat (g le e.a + 1) else le.set e.a.toNat 0
/-- the world after an event -/
noncomputable def aft (w : Wd) (e : Ev) : Wd where
  al := if e.k = 2 then addS w.al e.b else if e.k = 4 then w.al else delS w.al e.a
  ev := if e.k = 2 then addS w.ev e.b else w.ev
  bl := mapOf fun n => rho e n (hold w.bl n)
  ba := balA w.ba e
  le := levA w.le e
/-- what an event needs -/
structure Can (w : Wd) (e : Ev) : Prop where
  a : has w.al e.a = true
  m : e.k = 1 → has w.al e.b = true
  s : e.k = 2 → has w.ev e.b = false
  w3 : e.k = 3 → has w.al e.b = true ∧ has w.al e.c = true
  u : e.k = 4 → ∀ c, 0 ≤ c → c ≤ 7 → has w.al c = true → g w.le e.a ≤ g w.le c
structure Poss (w : Wd) (e : Ev) : Prop where
  v : WV w
  f : Frm e
  c : Can w e
  v2 : WV (aft w e)
open Classical in
noncomputable def stepW (w : Wd) (e : Ev) : Option Wd := if Poss w e then some (aft w e) else none
theorem stepW_some {w v : Wd} {e : Ev} (h : stepW w e = some v) : Poss w e ∧ v = aft w e := by
  unfold stepW at h
  split at h
  · rename_i hp; cases h; exact ⟨hp, rfl⟩
  · cases h
theorem stepW_of {w : Wd} {e : Ev} (h : Poss w e) : stepW w e = some (aft w e) := if_pos h
theorem rho_bd {e : Ev} (hf : Frm e) (n x : Int) (h0 : -1 ≤ x) (h1 : x ≤ 7) : -1 ≤ rho e n x ∧ rho e n x ≤ 7 := by
  obtain ⟨h2, h3, h4, h5, h6, h7, h8, h9⟩ := hf
  unfold rho
  repeat' split
  all_goals omega
theorem rho_no {e : Ev} (hf : Frm e) (n : Int) : rho e n (-1) = -1 := by
  have := hf.a0
  unfold rho
  rw [if_neg (by omega)]
/-- the map after an event -/
theorem rho_map {e : Ev} (hf : Frm e) {l : List B3} (hl : Canon l) : IsMap (fun n => rho e n (hold l n)) (mapOf fun n => rho e n (hold l n)) := by
  by_cases hr : 0 ≤ e.f ∧ e.f < e.t ∧ e.t ≤ 100000000
  · have h1 : Canon [⟨e.f, e.t, 0⟩] := ⟨hr.1, hr.2.1, hr.2.2, (show (0 : Int) ≤ 0 by decide), (show (0 : Int) ≤ 7 by decide), hr.1, fun _ => (show (0 : Int) ≠ -1 by decide), trivial⟩
    have := comb_map hl h1 (fun x y => rho e (if y = 0 then e.f else -1) x) fun x y a b _ _ => rho_bd hf _ x a b
    have hE : (fun m => rho e (if hold [⟨e.f, e.t, 0⟩] m = 0 then e.f else -1) (hold l m)) = fun n => rho e n (hold l n) := by
      funext m
      by_cases hm : e.f ≤ m ∧ m < e.t
      · have h2 : e.f ≤ e.f ∧ e.f < e.t := by omega
        rw [hold_in (b := ⟨e.f, e.t, 0⟩) [] hm, if_pos rfl]
        unfold rho
        simp only [hm, h2]
      · rw [hold_out (b := ⟨e.f, e.t, 0⟩) [] hm, hold_nil, if_neg (by decide)]
        have h2 : ¬ (e.f ≤ -1 ∧ (-1 : Int) < e.t) := by omega
        unfold rho
        simp only [hm, h2]
    rw [hE] at this
    exact this
  · have hk : ¬ (e.k = 2 ∨ e.k = 3) := fun h => hr ⟨(hf.full h).1, (hf.full h).2.1, (hf.full h).2.2.1⟩
    have := comb_map hl (b := []) trivial (fun x y => rho e 0 x) fun x y a b _ _ => rho_bd hf _ x a b
    have hE : (fun m : Int => rho e 0 (hold l m)) = fun n => rho e n (hold l n) := by
      funext m
      unfold rho
      simp only [hk, false_and]
    rw [hE] at this
    exact this
theorem aft_hold {w : Wd} {e : Ev} (hf : Frm e) (hc : Canon w.bl) (n : Int) : hold (aft w e).bl n = rho e n (hold w.bl n) := by
  have := (rho_map hf hc).at n
  show hold (mapOf _) n = _
  rw [this]
  split
  · rfl
  · rw [hold_out_bd hc (by omega), rho_no hf]
theorem hold_own {w : Wd} (h : WV w) {n : Int} (hn : hold w.bl n ≠ -1) : has w.al (hold w.bl n) = true ∧ 0 ≤ hold w.bl n ∧ hold w.bl n ≤ 7 := by
  obtain ⟨b, hb, _, _, h3⟩ := hold_ex hn
  have := asc_bd h.can hb
  rw [h3]
  exact ⟨h.own b hb, by omega, by omega⟩
/-- worlds are equal -/
theorem Wd.ext8 {u v : Wd} (hu : WV u) (hv : WV v) (ha : ∀ c, 0 ≤ c → c ≤ 7 → has u.al c = has v.al c) (he : ∀ c, 0 ≤ c → c ≤ 7 → has u.ev c = has v.ev c)
    (hh : ∀ n, 0 ≤ n → n < 100000000 → hold u.bl n = hold v.bl n) (hb : ∀ c, 0 ≤ c → c ≤ 7 → g u.ba c = g v.ba c) (hl : ∀ c, 0 ≤ c → c ≤ 7 → g u.le c = g v.le c) : u = v := by
  obtain ⟨a1, a2, a3, a4, a5⟩ := u
  obtain ⟨b1, b2, b3, b4, b5⟩ := v
  have e1 : a1 = b1 := set_ext hu.a0 hu.a1 hv.a0 hv.a1 ha
  have e2 : a2 = b2 := set_ext hu.e0 hu.e1 hv.e0 hv.e1 he
  have e3 : a3 = b3 := Canon.uniq hu.can hv.can hh
  have e4 : a4 = b4 := list_ext hu.bal hv.bal hb
  have e5 : a5 = b5 := list_ext hu.lel hv.lel hl
  rw [e1, e2, e3, e4, e5]
end Go.Dial.Mrg
