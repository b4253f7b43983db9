/-
  The reference's worlds: Valid, formed, Only, Overlay, hand.
-/
import Derived.Test.YtgckmifmjiklmaaGreatMd
import Derived.Test.YtgckmifmjiklmaaGreatR1
set_option linter.unusedVariables false
set_option linter.unusedSimpArgs false
set_option maxRecDepth 100000
namespace Go.Proofs.YtgckmifmjiklmaaGreat
open Go Go.Sx Go.Dial.Blk Go.Dial.Mrg
theorem andnot_sub {a b : Int} (a0 : 0 ≤ a) (a1 : a ≤ 255) (b0 : 0 ≤ b) (b1 : b ≤ 255) : IOp.f .andNot a b = 0 ↔ subS a b := by
  have ha : BitVec.ofInt 64 a = BitVec.ofNat 64 a.toNat := by
    rw [← BitVec.ofInt_natCast, Int.toNat_of_nonneg a0]
  have hb : BitVec.ofInt 64 b = BitVec.ofNat 64 b.toNat := by
    rw [← BitVec.ofInt_natCast, Int.toNat_of_nonneg b0]
  obtain ⟨x, hx⟩ : ∃ x, x = BitVec.ofNat 64 a.toNat &&& ~~~(BitVec.ofNat 64 b.toNat) := ⟨_, rfl⟩
  have hbit : ∀ i, x.toNat.testBit i = (a.toNat.testBit i && !(b.toNat.testBit i)) := fun i => by
    by_cases hi : i < 64
    · rw [hx, BitVec.testBit_toNat, BitVec.getLsbD_and, BitVec.getLsbD_not, BitVec.getLsbD_ofNat, BitVec.getLsbD_ofNat]
      simp [hi]
    · have h1 : x.toNat.testBit i = false := Nat.testBit_lt_two_pow (Nat.lt_of_lt_of_le x.isLt (Nat.pow_le_pow_right (by decide) (by omega)))
      have h2 : a.toNat.testBit i = false := Nat.testBit_lt_two_pow (Nat.lt_of_lt_of_le (by omega : a.toNat < 2 ^ 64) (Nat.pow_le_pow_right (by decide) (by omega)))
      rw [h1, h2]; rfl
  have hle : x.toNat < 256 := by
    have h1 : x.toNat &&& a.toNat = x.toNat := Nat.eq_of_testBit_eq fun i => by
      rw [Nat.testBit_and, hbit]
      cases a.toNat.testBit i <;> simp
    have h2 : x.toNat &&& a.toNat ≤ a.toNat := Nat.and_le_right
    omega
  have hE : IOp.f .andNot a b = (x.toNat : Int) := by
    show IntKind.i64.wrap ((BitVec.ofInt 64 a &&& ~~~(BitVec.ofInt 64 b)).toNat : Int) = _
    rw [ha, hb, ← hx]
    generalize x.toNat = y at hle
    have : ((y : Int)) % 18446744073709551616 = (y : Int) := by omega
    have hd : decide ((y : Int) ≥ 9223372036854775808) = false := by rw [decide_eq_false_iff_not]; omega
    show (if (true && decide ((y : Int) % 18446744073709551616 ≥ 9223372036854775808)) = true then (y : Int) % 18446744073709551616 - 18446744073709551616 else (y : Int) % 18446744073709551616) = _
    rw [this, hd]; rfl
  rw [hE]
  unfold subS
  constructor
  · intro h
    have h0 : x.toNat = 0 := by omega
    refine Nat.eq_of_testBit_eq fun i => ?_
    have := hbit i
    rw [h0, Nat.zero_testBit] at this
    rw [Nat.testBit_and]
    cases h1 : a.toNat.testBit i <;> cases h2 : b.toNat.testBit i <;> simp_all
  · intro h
    have : x.toNat = 0 := Nat.eq_of_testBit_eq fun i => by
      rw [hbit, Nat.zero_testBit, ← h, Nat.testBit_and]
      cases a.toNat.testBit i <;> cases b.toNat.testBit i <;> rfl
    omega
theorem ref42_Valid_v (n : Nat) (w : Wd) (hn : 50 < n) : ref42_Valid n w.al w.ev (bL w.bl) (iL w.ba) (iL w.le) = some (vB w) := by
  have A1 : WV w → w.al ≤ 255 := fun h => h.a1
  unfold ref42_Valid ref42_Valid_1
  refine cF (fun a0 => cN (fun a1 => cF (fun e0 => cN (fun e1 => cN (fun hs => ?_) (fun h => by rw [vB_false (fun p => h ((andnot_sub a0 a1 e0 e1).2 p.sub))])) (fun h => by rw [vB_false (fun p => h p.e1)])) (fun h => by rw [vB_false (fun p => h p.e0)])) (fun h => by rw [vB_false (fun p => h (A1 p))])) (fun h => by rw [vB_false (fun p => h p.a0)])
  replace hs := (andnot_sub a0 a1 e0 e1).1 hs
  rw [ref13_Valid_v n w.bl (by omega), Option.bind_some, ilen, ilen]
  refine cBN (fun hv => ?_) (fun hv => by rw [vB_false (fun p => by rw [(vldB_iff _).2 ⟨p.few, p.can⟩] at hv; cases hv)])
  obtain ⟨hfew, hcan⟩ := (vldB_iff _).1 hv
  refine cN (fun l1 => cN (fun l2 => ?_) (fun h => by rw [vB_false (fun p => h (by rw [p.lel]; rfl))])) (fun h => by rw [vB_false (fun p => h (by rw [p.bal]; rfl))])
  replace l1 : w.ba.length = 8 := by omega
  replace l2 : w.le.length = 8 := by omega
  have il1 : ((iL w.ba).length : Int) = 8 := by rw [ilen, l1]; rfl
  have il2 : ((iL w.le).length : Int) = 8 := by rw [ilen, l2]; rfl
  refine iterF_ind (fun s => ∃ i : Nat, s = (i : Int) ∧ i ≤ w.bl.length ∧ ∀ (j : Nat) b, j < i → w.bl[j]? = some b → has w.al b.c = true) (fun s => w.bl.length - s.toNat) _ ?_ n _ ⟨0, rfl, by omega, fun j b hj => by omega⟩ (by simp; omega)
  rintro _ go ⟨i, rfl, hi, hown⟩ ih
  unfold ref42_Valid_2
  by_cases hlt : i < w.bl.length
  · obtain ⟨b, hb⟩ := get_lt hlt
    obtain ⟨g0, g1, g2⟩ := bcell hb
    have hbm := List.mem_of_getElem? hb
    have hbd := asc_bd hcan hbm
    rw [g2, shr_mod a0 a1 (by omega) (by omega)]
    refine cF (fun _ => gN (by omega) (gN (by omega) (cBN (fun hh => gO (by omega) (by omega) (ih _ ⟨i + 1, by simp, by omega, fun j c hj hc => ?_⟩ (by first | omega | (simp only; omega)))) (fun hh => by rw [vB_false (fun h => by rw [h.own b hbm] at hh; cases hh)])))) (fun h => by rw [List.length_map] at h; omega)
    by_cases h : j < i
    · exact hown j c h hc
    · have : j = i := by omega
      subst this; rw [hb] at hc; cases hc; exact hh
  · refine cF (fun h => by rw [List.length_map] at h; omega) (fun _ => ?_)
    have hown' : ∀ b ∈ w.bl, has w.al b.c = true := fun b hb => by
      obtain ⟨j, hj⟩ := List.getElem?_of_mem hb
      exact hown j b (by have := (List.getElem?_eq_some_iff.1 hj).1; omega) hj
    clear ih
    refine iterF_ind (fun s => ∃ (i : Nat) (lo hi' : Int), s = ((w.ba.take i).sum, lo, hi', (i : Int)) ∧ i ≤ 8 ∧ -1000000000000 * (i : Int) ≤ (w.ba.take i).sum ∧ (w.ba.take i).sum ≤ 1000000000000 * (i : Int)
      ∧ (∀ c, 0 ≤ c → c < (i : Int) → (-1000000000000 ≤ g w.ba c ∧ g w.ba c ≤ 1000000000000) ∧ (0 ≤ g w.le c ∧ g w.le c ≤ 9) ∧ (has w.al c = false → g w.ba c = 0 ∧ g w.le c = 0))
      ∧ (0 ≤ lo ∧ lo ≤ 9 ∧ 0 ≤ hi' ∧ hi' ≤ 9) ∧ (∀ c, 0 ≤ c → c < (i : Int) → has w.al c = true → lo ≤ g w.le c ∧ g w.le c ≤ hi')
      ∧ ((∃ c, 0 ≤ c ∧ c < (i : Int) ∧ has w.al c = true) → (∃ c, 0 ≤ c ∧ c < (i : Int) ∧ has w.al c = true ∧ g w.le c = lo) ∧ ∃ c, 0 ≤ c ∧ c < (i : Int) ∧ has w.al c = true ∧ g w.le c = hi')
      ∧ ((¬ ∃ c, 0 ≤ c ∧ c < (i : Int) ∧ has w.al c = true) → lo = 9 ∧ hi' = 0)) (fun s => 8 - s.2.2.2.toNat) _ ?_ n _ ⟨0, 9, 0, rfl, by omega, by simp, by simp, fun c h0 h1 => by omega, by omega, fun c h0 h1 => by omega, fun ⟨c, h0, h1, _⟩ => by omega, fun _ => ⟨rfl, rfl⟩⟩ (by first | omega | (simp only; omega))
    rintro _ go ⟨i, lo, hi', rfl, hi, hs1, hs2, hok, hlh, hbd, hex, hno⟩ ih
    simp only at ih ⊢
    unfold ref42_Valid_3
    by_cases hlt : i < 8
    · have i0 : (0 : Int) ≤ (i : Int) := by omega
      have i7 : (i : Int) ≤ 7 := by omega
      obtain ⟨x, hx⟩ := get_lt (l := w.ba) (i := i) (by omega)
      have hgx : g w.ba (i : Int) = x := by unfold g; rw [Int.toNat_natCast, List.getD_eq_getElem?_getD, hx]; rfl
      have htk : (w.ba.take (i + 1)).sum = (w.ba.take i).sum + g w.ba (i : Int) := by rw [take_snoc hx, List.sum_append, hgx]; simp
      have esucc : ((i + 1 : Nat) : Int) = (i : Int) + 1 := by omega
      rw [gcell l1 i0 i7, gcell l2 i0 i7, shr_mod a0 a1 i0 i7]
      refine cF (fun _ => gN i0 (gN (by omega) (cF (fun b0 => cN (fun b1 => gN (by omega) (cF (fun k0 => cN (fun k1 => gO (by omega) (by omega) ?_) (fun h => by rw [vB_false (fun p => h (p.l0 _ i0 i7).2)])) (fun h => by rw [vB_false (fun p => h (p.l0 _ i0 i7).1)]))) (fun h => by rw [vB_false (fun p => h (p.b0 _ i0 i7).2)])) (fun h => by rw [vB_false (fun p => h (p.b0 _ i0 i7).1)])))) (fun h => absurd h (by omega))
      have hok' : (has w.al (i : Int) = false → g w.ba (i : Int) = 0 ∧ g w.le (i : Int) = 0) → ∀ c, 0 ≤ c → c < ((i + 1 : Nat) : Int) → (-1000000000000 ≤ g w.ba c ∧ g w.ba c ≤ 1000000000000) ∧ (0 ≤ g w.le c ∧ g w.le c ≤ 9) ∧ (has w.al c = false → g w.ba c = 0 ∧ g w.le c = 0) := fun hd c c0 c1 => by
        by_cases hc : c < (i : Int)
        · exact hok c c0 hc
        · have : c = (i : Int) := by omega
          subst this; exact ⟨⟨b0, b1⟩, ⟨k0, k1⟩, hd⟩
      refine cB (fun hh => gO (by omega) (by omega) ?_) (fun hh => cN (fun z0 => cN (fun z1 => gO (by omega) (by omega) ?_) (fun h => by rw [vB_false (fun p => h (p.dead _ i0 i7 hh).2)])) (fun h => by rw [vB_false (fun p => h (p.dead _ i0 i7 hh).1)]))
      · rw [← htk, ← esucc]
        have hmin : imin lo (g w.le (i : Int)) = if g w.le (i : Int) < lo then g w.le (i : Int) else lo := rfl
        have hmax : imax hi' (g w.le (i : Int)) = if hi' < g w.le (i : Int) then g w.le (i : Int) else hi' := rfl
        refine ih _ ⟨i + 1, _, _, rfl, by omega, by rw [htk, esucc]; omega, by rw [htk, esucc]; omega, hok' (fun h => by rw [hh] at h; cases h), by rw [hmin, hmax]; split <;> split <;> omega, fun c c0 c1 hc => ?_, fun _ => ?_, fun hne => absurd ⟨(i : Int), i0, by omega, hh⟩ hne⟩ (by first | omega | (simp only; omega))
        · rw [hmin, hmax]
          by_cases hci : c < (i : Int)
          · have := hbd c c0 hci hc
            split <;> split <;> omega
          · have : c = (i : Int) := by omega
            subst this
            split <;> split <;> omega
        · rw [hmin, hmax]
          by_cases hE : ∃ c, 0 ≤ c ∧ c < (i : Int) ∧ has w.al c = true
          · obtain ⟨⟨c, c0, c1, c2, c3⟩, d, d0, d1, d2, d3⟩ := hex hE
            constructor
            · split
              · exact ⟨(i : Int), i0, by omega, hh, rfl⟩
              · exact ⟨c, c0, by omega, c2, c3⟩
            · split
              · exact ⟨(i : Int), i0, by omega, hh, rfl⟩
              · exact ⟨d, d0, by omega, d2, d3⟩
          · obtain ⟨q1, q2⟩ := hno hE
            subst q1; subst q2
            constructor
            · split
              · exact ⟨(i : Int), i0, by omega, hh, rfl⟩
              · exact ⟨(i : Int), i0, by omega, hh, by omega⟩
            · split
              · exact ⟨(i : Int), i0, by omega, hh, rfl⟩
              · exact ⟨(i : Int), i0, by omega, hh, by omega⟩
      · rw [← htk, ← esucc]
        refine ih _ ⟨i + 1, lo, hi', rfl, by omega, by rw [htk, esucc]; omega, by rw [htk, esucc]; omega, hok' (fun _ => ⟨z0, z1⟩), hlh, fun c c0 c1 hc => ?_, fun ⟨c, c0, c1, c2⟩ => ?_, fun hne => hno fun ⟨c, c0, c1, c2⟩ => hne ⟨c, c0, by omega, c2⟩⟩ (by first | omega | (simp only; omega))
        · by_cases hci : c < (i : Int)
          · exact hbd c c0 hci hc
          · have : c = (i : Int) := by omega
            subst this; rw [hh] at hc; cases hc
        · have hci : c < (i : Int) := by
            by_cases h : c < (i : Int)
            · exact h
            · have : c = (i : Int) := by omega
              subst this; rw [hh] at c2; cases c2
          obtain ⟨⟨x, x0, x1, x2⟩, y, y0, y1, y2⟩ := hex ⟨c, c0, hci, c2⟩
          exact ⟨⟨x, x0, by omega, x2⟩, y, y0, by omega, y2⟩
    · have hi8 : i = 8 := by omega
      subst hi8
      have htk : w.ba.take 8 = w.ba := List.take_of_length_le (by omega)
      rw [htk]
      refine cF (fun h => absurd h (by omega)) (fun _ => cF (fun hz => ?_) (fun h => by rw [vB_false (fun p => h p.sum)]))
      have base : (∀ c d, 0 ≤ c → c ≤ 7 → 0 ≤ d → d ≤ 7 → has w.al c = true → has w.al d = true → g w.le c - g w.le d ≤ 1) → WV w := fun hnear => ⟨e0, e1, a0, hs, l1, l2, hcan, hfew, hown', fun c c0 c1 => (hok c c0 (by omega)).1, fun c c0 c1 => (hok c c0 (by omega)).2.1, fun c c0 c1 => (hok c c0 (by omega)).2.2, hz, hnear⟩
      refine cF (fun h0 => ?_) (fun h0 => gO (by omega) (by omega) ?_)
      · rw [vB_true (base fun c d c0 c1 d0 d1 hc => by rw [h0] at hc; unfold has at hc; simp at hc)]
      · obtain ⟨x, x0, x1, x2⟩ := some_bit (s := w.al) (by omega) a1
        obtain ⟨⟨c, c0, c1, c2, c3⟩, d, d0, d1, d2, d3⟩ := hex ⟨x, x0, by omega, x2⟩
        congr 1
        by_cases hd1 : hi' - lo ≤ 1
        · rw [decide_eq_true hd1, vB_true (base fun p q p0 p1 q0 q1 hp hq => by
            have := hbd p p0 (by omega) hp; have := hbd q q0 (by omega) hq; omega)]
        · rw [decide_eq_false hd1, vB_false (fun p => hd1 (by
            have := p.near d c d0 (by omega) c0 (by omega) d2 c2
            rw [← c3, ← d3]; exact this))]
noncomputable instance (e : Ev) : Decidable (Frm e) := Classical.propDecidable _
theorem fbT {e : Ev} {b : Bool} (h : b = true ↔ Frm e) : some b = some (decide (Frm e)) := by
  by_cases hf : Frm e
  · rw [decide_eq_true hf, h.2 hf]
  · rw [decide_eq_false hf]
    cases b
    · rfl
    · exact absurd (h.1 rfl) hf
theorem fbF {e : Ev} (h : ¬ Frm e) : some false = some (decide (Frm e)) := by rw [decide_eq_false h]
theorem ref42_formed_v (n : Nat) (e : Ev) : ref42_formed n e.k e.at_ e.a e.b e.c e.f e.t e.m = some (decide (Frm e)) := by
  obtain ⟨k, at_, a, b, c, f, t, m⟩ := e
  unfold ref42_formed ref42_formed_1
  dsimp only
  refine cF (fun t0 => cN (fun t1 => cF (fun a0 => cN (fun a1 => cF (fun b0 => cN (fun b1 => cF (fun c0 => cN (fun c1 => ?_) (fun h => fbF fun p => h p.c1)) (fun h => fbF fun p => h p.c0)) (fun h => fbF fun p => h p.b1)) (fun h => fbF fun p => h p.b0)) (fun h => fbF fun p => h p.a1)) (fun h => fbF fun p => h p.a0)) (fun h => fbF fun p => h p.t1)) (fun h => fbF fun p => h p.t0)
  -- the kinds without, and with a range
  have k1 : k = 1 → (f = 0 ∧ t = 0) → (bif (decide (m = 0)) then (bif (decide (c = 0)) then some (!(decide (a = b))) else some false) else some false) = some (decide (Frm ⟨k, at_, a, b, c, f, t, m⟩)) := fun hk hr => by
    subst hk
    obtain ⟨rfl, rfl⟩ := hr
    refine cF (fun hm => cF (fun hc => fbT ?_) (fun h => fbF fun p => h (p.noC (by show ¬ (1 : Int) = 3; decide)))) (fun h => fbF fun p => h (p.bare (.inl rfl)).2.2)
    rw [Bool.not_eq_true', decide_eq_false_iff_not]
    exact ⟨fun h => ⟨t0, t1, a0, a1, b0, b1, c0, c1, (show 1 ≤ (1 : Int) ∧ (1 : Int) ≤ 4 by decide), fun _ => ⟨rfl, rfl, hm⟩, fun h => by simp at h, fun _ => hc, fun h => by simp at h, fun _ => h, fun h => by simp at h⟩, fun p => p.other (by show ¬ (1 : Int) = 4; decide)⟩
  have k4 : k = 4 → (f = 0 ∧ t = 0) → (bif (decide (m = 0)) then (bif (decide (b = 0)) then some (decide (c = 0)) else some false) else some false) = some (decide (Frm ⟨k, at_, a, b, c, f, t, m⟩)) := fun hk hr => by
    subst hk
    obtain ⟨rfl, rfl⟩ := hr
    refine cF (fun hm => cF (fun hb => fbT ?_) (fun h => fbF fun p => h (p.noB rfl))) (fun h => fbF fun p => h (p.bare (.inr rfl)).2.2)
    rw [decide_eq_true_eq]
    exact ⟨fun h => ⟨t0, t1, a0, a1, b0, b1, c0, c1, (show 1 ≤ (4 : Int) ∧ (4 : Int) ≤ 4 by decide), fun _ => ⟨rfl, rfl, hm⟩, fun h => by simp at h, fun _ => h, fun _ => hb, fun h => absurd rfl h, fun h => by simp at h⟩, fun p => p.noC (by show ¬ (4 : Int) = 3; decide)⟩
  have no14 : ¬ (f = 0 ∧ t = 0) → (k = 1 ∨ k = 4) → ¬ Frm ⟨k, at_, a, b, c, f, t, m⟩ := fun hr hk p => hr ⟨(p.bare hk).1, (p.bare hk).2.1⟩
  have no23 : ∀ {P : Prop}, ¬ P → ((k = 2 ∨ k = 3) → Frm ⟨k, at_, a, b, c, f, t, m⟩ → P) → (k = 2 ∨ k = 3) → ¬ Frm ⟨k, at_, a, b, c, f, t, m⟩ := fun h1 h2 hk p => h1 (h2 hk p)
  have noK : ¬ k = 1 → ¬ k = 2 → ¬ k = 3 → ¬ k = 4 → ¬ Frm ⟨k, at_, a, b, c, f, t, m⟩ := fun h1 h2 h3 h4 p => by have h5 : 1 ≤ k ∧ k ≤ 4 := p.kind; omega
  refine cAn (fun hr => ?_) (fun hr => ?_)
  · obtain ⟨hf0, ht0⟩ := hr
    have hlt : ¬ f < t := by omega
    have hno : (k = 2 ∨ k = 3) → ¬ Frm ⟨k, at_, a, b, c, f, t, m⟩ := fun hk p => hlt (p.full hk).2.1
    refine cF (fun _ => cF (fun h => absurd h hlt) (fun _ => ?_)) (fun h => absurd (by omega) h)
    refine cF (fun hk => k1 hk ⟨hf0, ht0⟩) (fun h1 => cF (fun hk => fbF (hno (.inl hk))) (fun h2 => cF (fun hk => fbF (hno (.inr hk))) (fun h3 => cF (fun hk => k4 hk ⟨hf0, ht0⟩) (fun h4 => fbF (noK h1 h2 h3 h4)))))
  · have leaf : (∀ p : (k = 2 ∨ k = 3), ¬ Frm ⟨k, at_, a, b, c, f, t, m⟩) → (bif (decide (k = 1)) then some false else (bif (decide (k = 2)) then some false else (bif (decide (k = 3)) then some false else (bif (decide (k = 4)) then some false else some false)))) = some (decide (Frm ⟨k, at_, a, b, c, f, t, m⟩)) := fun hno =>
      cF (fun hk => fbF (no14 hr (.inl hk))) (fun h1 => cF (fun hk => fbF (hno (.inl hk))) (fun h2 => cF (fun hk => fbF (hno (.inr hk))) (fun h3 => cF (fun hk => fbF (no14 hr (.inr hk))) (fun h4 => fbF (noK h1 h2 h3 h4)))))
    refine cF (fun f0 => cF (fun f1 => cF (fun f2 => cF (fun m0 => ?_) (fun h => leaf fun hk p => h (p.full hk).2.2.2.1)) (fun h => leaf fun hk p => h (p.full hk).2.2.1)) (fun h => leaf fun hk p => h (p.full hk).2.1)) (fun h => leaf fun hk p => h (p.full hk).1)
    refine cF (fun hk => fbF (no14 hr (.inl hk))) (fun h1 => cF (fun hk => ?_) (fun h2 => cF (fun hk => ?_) (fun h3 => cF (fun hk => fbF (no14 hr (.inr hk))) (fun h4 => fbF (noK h1 h2 h3 h4)))))
    · subst hk
      refine cF (fun m1 => cF (fun hc => fbT ?_) (fun h => fbF fun p => h (p.noC (by show ¬ (2 : Int) = 3; decide)))) (fun h => fbF fun p => h (p.full (.inl rfl)).2.2.2.2)
      rw [Bool.not_eq_true', decide_eq_false_iff_not]
      exact ⟨fun h => ⟨t0, t1, a0, a1, b0, b1, c0, c1, (show 1 ≤ (2 : Int) ∧ (2 : Int) ≤ 4 by decide), fun h => by simp at h, fun _ => ⟨f0, f1, f2, m0, m1⟩, fun _ => hc, fun h => by simp at h, fun _ => h, fun h => by simp at h⟩, fun p => p.other (by show ¬ (2 : Int) = 4; decide)⟩
    · subst hk
      refine cF (fun m1 => cN (fun hab => ?_) (fun hab => fbT ?_)) (fun h => fbF fun p => h (p.full (.inr rfl)).2.2.2.2)
      · exact fbF fun p => p.other (by show ¬ (3 : Int) = 4; decide) hab
      · rw [Bool.not_eq_true', decide_eq_false_iff_not]
        exact ⟨fun h => ⟨t0, t1, a0, a1, b0, b1, c0, c1, (show 1 ≤ (3 : Int) ∧ (3 : Int) ≤ 4 by decide), fun h => by simp at h, fun _ => ⟨f0, f1, f2, m0, m1⟩, fun h => absurd rfl h, fun h => by simp at h, fun _ => hab, fun _ => h⟩, fun p => p.third rfl⟩
end Go.Proofs.YtgckmifmjiklmaaGreat
