/-
  Worlds: what merge.Valid gives.
-/
import Derived.Test.YtgckmifmjiklmaaGreatBB
import Derived.Test.YtgckmifmjiklmaaGreatD7
set_option linter.unusedVariables false
set_option linter.unusedSimpArgs false
set_option maxRecDepth 100000
namespace Go.Proofs.YtgckmifmjiklmaaGreat
open Go Go.Sx Go.Dial.Blk Go.Dial.Mrg
/-- the levels of the carriers below one that are alive -/
def lvs (w : Wd) (i : Nat) : List Int := ((List.range i).filter (fun c : Nat => has w.al (c : Int))).map (fun c : Nat => g w.le (c : Int))
theorem lvs_succ (w : Wd) (i : Nat) : lvs w (i + 1) = if has w.al (i : Int) then lvs w i ++ [g w.le (i : Int)] else lvs w i := by
  unfold lvs
  rw [List.range_succ, List.filter_append, List.map_append]
  by_cases h : has w.al (i : Int) = true
  · simp [h]
  · simp [h]
theorem lvs_mem (w : Wd) (i : Nat) (y : Int) : y ∈ lvs w i ↔ ∃ c : Nat, c < i ∧ has w.al (c : Int) = true ∧ g w.le (c : Int) = y := by
  unfold lvs
  simp only [List.mem_map, List.mem_filter, List.mem_range]
  constructor
  · rintro ⟨c, ⟨h1, h2⟩, h3⟩; exact ⟨c, h1, h2, h3⟩
  · rintro ⟨c, h1, h2, h3⟩; exact ⟨c, ⟨h1, h2⟩, h3⟩
theorem lvs_len (w : Wd) (i : Nat) : (lvs w i).length ≤ i := by
  unfold lvs
  rw [List.length_map]
  have := List.length_filter_le (fun c => has w.al ((c : Nat) : Int)) (List.range i)
  rw [List.length_range] at this
  exact this
theorem near_iff (w : Wd) : (∀ c d, 0 ≤ c → c ≤ 7 → 0 ≤ d → d ≤ 7 → has w.al c = true → has w.al d = true → g w.le c - g w.le d ≤ 1) ↔ ∀ x ∈ lvs w 8, ∀ y ∈ lvs w 8, x - y ≤ 1 := by
  constructor
  · intro h x hx y hy
    obtain ⟨c, c1, c2, rfl⟩ := (lvs_mem w 8 x).1 hx
    obtain ⟨d, d1, d2, rfl⟩ := (lvs_mem w 8 y).1 hy
    exact h c d (by omega) (by omega) (by omega) (by omega) c2 d2
  · intro h c d c0 c1 d0 d1 hc hd
    have ec : ((c.toNat : Nat) : Int) = c := Int.toNat_of_nonneg c0
    have ed : ((d.toNat : Nat) : Int) = d := Int.toNat_of_nonneg d0
    refine h _ ((lvs_mem w 8 _).2 ⟨c.toNat, by omega, by rw [ec]; exact hc, by rw [ec]⟩) _ ((lvs_mem w 8 _).2 ⟨d.toNat, by omega, by rw [ed]; exact hd, by rw [ed]⟩)
theorem merge_max_v (n : Nat) (L : List Int) (hL : 0 < L.length) (h8 : L.length ≤ 8) (hb : ∀ x ∈ L, 0 ≤ x ∧ x ≤ 9) (hn : 10 < n) :
    (iterF (fun go0 s => merge_Valid_4 n go0 (iL L) s.1 s.2) n (((cI (iL L) 0 0), 1) : merge_Valid_s0)) = some (decide (∀ x ∈ L, ∀ y ∈ L, x - y ≤ 1)) := by
  obtain ⟨x0, hx0⟩ := get_lt hL
  have h00 : cI (iL L) 0 0 = x0 := icell (i := 0) hx0
  have hm0 := List.mem_of_getElem? hx0
  have hone : ∀ (j : Nat) (x : Int), j < 1 → L[j]? = some x → x = x0 := fun j x hj hx => by
    have : j = 0 := by omega
    subst this; rw [hx0] at hx; cases hx; rfl
  rw [h00]
  have hlen := ilen L
  refine iterF_ind (fun s => ∃ (i : Nat) (M : Int), s = (M, (i : Int)) ∧ i ≤ L.length ∧ M ∈ L ∧ ∀ j x, j < i → L[j]? = some x → x ≤ M) (fun s => L.length - s.2.toNat) _ ?_ n _ ⟨1, x0, rfl, by omega, hm0, fun j x hj hx => Int.le_of_eq (hone j x hj hx)⟩ (by simp; omega)
  rintro _ go ⟨i, M, rfl, hi, hM, hmax⟩ ih
  simp only at ih ⊢
  unfold merge_Valid_4
  by_cases hlt : i < L.length
  · obtain ⟨x, hx⟩ := get_lt hlt
    rw [decide_eq_true (by omega : (i : Int) < ((iL L).length : Int)), cond_true, decide_eq_true (by omega : (0 : Int) ≤ (i : Int)), cond_true, inR (by omega) (by omega), cond_true, icell hx]
    refine ih _ ⟨i + 1, imax M x, by simp, by omega, ?_, fun j y hj hy => ?_⟩ (by first | omega | (simp only; omega))
    · unfold imax; split
      · exact List.mem_of_getElem? hx
      · exact hM
    · have : y ≤ M ∨ y = x := by
        by_cases h : j < i
        · exact .inl (hmax j y h hy)
        · have : j = i := by omega
          subst this; rw [hx] at hy; cases hy; exact .inr rfl
      unfold imax; split <;> omega
  · rw [decide_eq_false (by omega : ¬ (i : Int) < ((iL L).length : Int)), cond_false, h00]
    have hmax' : ∀ x ∈ L, x ≤ M := fun x hx => by
      obtain ⟨j, hj⟩ := List.getElem?_of_mem hx
      exact hmax j x (by have := (List.getElem?_eq_some_iff.1 hj).1; omega) hj
    clear ih
    refine iterF_ind (fun s => ∃ (i : Nat) (m : Int), s = (m, (i : Int)) ∧ i ≤ L.length ∧ m ∈ L ∧ ∀ j x, j < i → L[j]? = some x → m ≤ x) (fun s => L.length - s.2.toNat) _ ?_ n _ ⟨1, x0, rfl, by omega, hm0, fun j x hj hx => Int.le_of_eq (hone j x hj hx).symm⟩ (by simp; omega)
    rintro _ go ⟨i, m, rfl, hi, hm, hmin⟩ ih
    simp only at ih ⊢
    unfold merge_Valid_5
    by_cases hlt : i < L.length
    · obtain ⟨x, hx⟩ := get_lt hlt
      rw [decide_eq_true (by omega : (i : Int) < ((iL L).length : Int)), cond_true, decide_eq_true (by omega : (0 : Int) ≤ (i : Int)), cond_true, inR (by omega) (by omega), cond_true, icell hx]
      refine ih _ ⟨i + 1, imin m x, by simp, by omega, ?_, fun j y hj hy => ?_⟩ (by first | omega | (simp only; omega))
      · unfold imin; split
        · exact List.mem_of_getElem? hx
        · exact hm
      · have : m ≤ y ∨ y = x := by
          by_cases h : j < i
          · exact .inl (hmin j y h hy)
          · have : j = i := by omega
            subst this; rw [hx] at hy; cases hy; exact .inr rfl
        unfold imin; split <;> omega
    · have hmin' : ∀ x ∈ L, m ≤ x := fun x hx => by
        obtain ⟨j, hj⟩ := List.getElem?_of_mem hx
        exact hmin j x (by have := (List.getElem?_eq_some_iff.1 hj).1; omega) hj
      have q1 := hb M hM
      have q2 := hb m hm
      rw [decide_eq_false (by omega : ¬ (i : Int) < ((iL L).length : Int)), cond_false, inR (by omega) (by omega), cond_true]
      congr 1
      rw [decide_eq_decide]
      constructor
      · intro h x hx y hy
        have := hmax' x hx; have := hmin' y hy; omega
      · intro h; exact h M hM m hm
theorem merge_Valid_v (n : Nat) (w : Wd) (ha : In64 w.al) (hn : 50 < n) : merge_Valid n w.al w.ev (bL w.bl) (iL w.ba) (iL w.le) = some (vB w) := by
  unfold merge_Valid merge_Valid_1
  by_cases e0 : 0 ≤ w.ev
  case neg => rw [decide_eq_false e0, cond_false, vB_false (fun h => e0 h.e0)]
  rw [decide_eq_true e0, cond_true]
  by_cases e1 : w.ev ≤ 255
  case neg => rw [decide_eq_false e1, Bool.not_false, cond_true, vB_false (fun h => e1 h.e1)]
  rw [decide_eq_true e1, Bool.not_true, cond_false]
  by_cases a0 : 0 ≤ w.al
  case neg =>
    rw [decide_eq_true (by omega : w.al < 0), vB_false (fun h => a0 h.a0)]
    cases decide (IOp.f .and w.al w.ev = w.al) <;> rfl
  have hand := and_sub a0 ha.2 e0 e1
  by_cases hs : subS w.al w.ev
  case neg => rw [decide_eq_false (fun h => hs (hand.1 h)), Bool.not_false, cond_true, vB_false (fun h => hs h.sub)]
  rw [decide_eq_true (hand.2 hs), Bool.not_true, cond_false, decide_eq_false (by omega : ¬ w.al < 0), cond_false]
  have a1 : w.al ≤ 255 := by
    have h1 := hs
    unfold subS at h1
    have : w.al.toNat &&& w.ev.toNat ≤ w.ev.toNat := Nat.and_le_right
    omega
  rw [ilen, ilen]
  by_cases l1 : w.ba.length = 8
  case neg => rw [decide_eq_false (by omega), Bool.not_false, cond_true, vB_false (fun h => l1 h.bal)]
  rw [decide_eq_true (by omega), Bool.not_true, cond_false]
  by_cases l2 : w.le.length = 8
  case neg => rw [decide_eq_false (by omega), Bool.not_false, cond_true, vB_false (fun h => l2 h.lel)]
  rw [decide_eq_true (by omega), Bool.not_true, cond_false, block_Valid_v n w.bl (by omega), Option.bind_some]
  by_cases hv : vldB w.bl = true
  case neg =>
    have : vldB w.bl = false := by simpa using hv
    rw [this, Bool.not_false, cond_true, vB_false (fun h => hv ((vldB_iff _).2 ⟨h.few, h.can⟩))]
  rw [hv, Bool.not_true, cond_false]
  obtain ⟨hfew, hcan⟩ := (vldB_iff _).1 hv
  have il1 : ((iL w.ba).length : Int) = 8 := by rw [ilen, l1]; rfl
  have il2 : ((iL w.le).length : Int) = 8 := by rw [ilen, l2]; rfl
  refine iterF_ind (fun s => ∃ i : Nat, s = (i : Int) ∧ i ≤ w.bl.length ∧ ∀ (j : Nat) b, j < i → w.bl[j]? = some b → has w.al b.c = true) (fun s => w.bl.length - s.toNat) _ ?_ n _ ⟨0, rfl, by omega, fun j b hj => by omega⟩ (by simp; omega)
  rintro _ go ⟨i, rfl, hi, hown⟩ ih
  unfold merge_Valid_2
  by_cases hlt : i < w.bl.length
  · obtain ⟨b, hb⟩ := get_lt hlt
    obtain ⟨g0, g1, g2⟩ := bcell hb
    have hbm := List.mem_of_getElem? hb
    have hbd := asc_bd hcan hbm
    rw [decide_eq_true (by rw [List.length_map]; omega : (i : Int) < ((bL w.bl).length : Int)), cond_true, decide_eq_true (by omega : (0 : Int) ≤ (i : Int)), cond_true, g2, decide_eq_true (by omega : 0 ≤ b.c), cond_true, shr_and a0 a1 (by omega) (by omega)]
    by_cases hh : has w.al b.c = true
    · rw [hh, Bool.not_true, cond_false, inR (by omega) (by omega), cond_true]
      refine ih _ ⟨i + 1, by simp, by omega, fun j c hj hc => ?_⟩ (by first | omega | (simp only; omega))
      by_cases h : j < i
      · exact hown j c h hc
      · have : j = i := by omega
        subst this; rw [hb] at hc; cases hc; exact hh
    · have hh' : has w.al b.c = false := by simpa using hh
      rw [hh', Bool.not_false, cond_true, vB_false (fun h => hh (h.own b hbm))]
  · rw [decide_eq_false (by rw [List.length_map]; omega : ¬ (i : Int) < ((bL w.bl).length : Int)), cond_false]
    have hown' : ∀ b ∈ w.bl, has w.al b.c = true := fun b hb => by
      obtain ⟨j, hj⟩ := List.getElem?_of_mem hb
      exact hown j b (by have := (List.getElem?_eq_some_iff.1 hj).1; omega) hj
    clear ih
    refine iterF_ind (fun s => ∃ i : Nat, s = ((w.ba.take i).sum, iL (lvs w i), (i : Int)) ∧ i ≤ 8 ∧ -1000000000000 * (i : Int) ≤ (w.ba.take i).sum ∧ (w.ba.take i).sum ≤ 1000000000000 * (i : Int)
      ∧ ∀ c, 0 ≤ c → c < (i : Int) → (-1000000000000 ≤ g w.ba c ∧ g w.ba c ≤ 1000000000000) ∧ (0 ≤ g w.le c ∧ g w.le c ≤ 9) ∧ (has w.al c = false → g w.ba c = 0 ∧ g w.le c = 0)) (fun s => 8 - s.2.2.toNat) _ ?_ n _ ⟨0, rfl, by omega, by simp, by simp, fun c h0 h1 => by omega⟩ (by first | omega | (simp only; omega))
    rintro _ go ⟨i, rfl, hi, hs1, hs2, hok⟩ ih
    simp only at ih ⊢
    unfold merge_Valid_3
    by_cases hlt : i < 8
    · have i0 : (0 : Int) ≤ (i : Int) := by omega
      have i7 : (i : Int) ≤ 7 := by omega
      obtain ⟨x, hx⟩ := get_lt (l := w.ba) (i := i) (by omega)
      have hgx : g w.ba (i : Int) = x := by unfold g; rw [Int.toNat_natCast, List.getD_eq_getElem?_getD, hx]; rfl
      have htk : (w.ba.take (i + 1)).sum = (w.ba.take i).sum + g w.ba (i : Int) := by rw [take_snoc hx, List.sum_append, hgx]; simp
      have hll := lvs_len w i
      rw [decide_eq_true (by omega : (i : Int) < ((iL w.ba).length : Int)), cond_true, decide_eq_true i0, cond_true, gcell l1 i0 i7, gcell l2 i0 i7]
      by_cases b0 : -1000000000000 ≤ g w.ba (i : Int)
      case neg => rw [decide_eq_false b0, cond_false, vB_false (fun h => b0 (h.b0 _ i0 i7).1)]
      rw [decide_eq_true b0, cond_true]
      by_cases b1 : g w.ba (i : Int) ≤ 1000000000000
      case neg => rw [decide_eq_false b1, Bool.not_false, cond_true, vB_false (fun h => b1 (h.b0 _ i0 i7).2)]
      rw [decide_eq_true b1, Bool.not_true, cond_false, decide_eq_true (by omega : (i : Int) < ((iL w.le).length : Int)), cond_true]
      by_cases k0 : 0 ≤ g w.le (i : Int)
      case neg => rw [decide_eq_false k0, cond_false, vB_false (fun h => k0 (h.l0 _ i0 i7).1)]
      rw [decide_eq_true k0, cond_true]
      by_cases k1 : g w.le (i : Int) ≤ 9
      case neg => rw [decide_eq_false k1, Bool.not_false, cond_true, vB_false (fun h => k1 (h.l0 _ i0 i7).2)]
      rw [decide_eq_true k1, Bool.not_true, cond_false, shr_and a0 a1 i0 i7]
      have hok' : (has w.al (i : Int) = false → g w.ba (i : Int) = 0 ∧ g w.le (i : Int) = 0) → ∀ c, 0 ≤ c → c < ((i + 1 : Nat) : Int) → (-1000000000000 ≤ g w.ba c ∧ g w.ba c ≤ 1000000000000) ∧ (0 ≤ g w.le c ∧ g w.le c ≤ 9) ∧ (has w.al c = false → g w.ba c = 0 ∧ g w.le c = 0) := fun hd c c0 c1 => by
        by_cases hc : c < (i : Int)
        · exact hok c c0 hc
        · have : c = (i : Int) := by omega
          subst this; exact ⟨⟨b0, b1⟩, ⟨k0, k1⟩, hd⟩
      have esucc : ((i + 1 : Nat) : Int) = (i : Int) + 1 := by omega
      by_cases hh : has w.al (i : Int) = true
      · have hgo := ih _ ⟨i + 1, rfl, by omega, by rw [htk, esucc]; omega, by rw [htk, esucc]; omega, hok' (fun h => by rw [hh] at h; cases h)⟩ (by first | omega | (simp only; omega))
        rw [htk, lvs_succ, if_pos hh, esucc, iapp] at hgo
        rw [hh, Bool.not_true, cond_false, inR (by omega) (by omega), cond_true, decide_eq_true (by rw [ilen]; omega : (((iL (lvs w i)).length : Int) + 1) * 8 ≤ 140737488355328), cond_true, inR (by omega) (by omega), cond_true]
        exact hgo
      · have hh' : has w.al (i : Int) = false := by simpa using hh
        rw [hh', Bool.not_false, cond_true]
        by_cases z0 : g w.ba (i : Int) = 0
        case neg => rw [decide_eq_false z0, Bool.not_false, cond_true, vB_false (fun h => z0 (h.dead _ i0 i7 hh').1)]
        rw [decide_eq_true z0, Bool.not_true, cond_false]
        by_cases z1 : g w.le (i : Int) = 0
        case neg => rw [decide_eq_false z1, Bool.not_false, cond_true, vB_false (fun h => z1 (h.dead _ i0 i7 hh').2)]
        have hgo := ih _ ⟨i + 1, rfl, by omega, by rw [htk, esucc]; omega, by rw [htk, esucc]; omega, hok' (fun h => ⟨z0, z1⟩)⟩ (by first | omega | (simp only; omega))
        rw [htk, lvs_succ, if_neg hh, esucc] at hgo
        rw [decide_eq_true z1, Bool.not_true, cond_false, inR (by omega) (by omega), cond_true, inR (by omega) (by omega), cond_true]
        exact hgo
    · have hi8 : i = 8 := by omega
      subst hi8
      have htk : w.ba.take 8 = w.ba := List.take_of_length_le (by omega)
      rw [decide_eq_false (by omega : ¬ ((8 : Nat) : Int) < ((iL w.ba).length : Int)), cond_false, htk]
      by_cases hz : w.ba.sum = 0
      case neg => rw [decide_eq_false hz, cond_false, vB_false (fun h => hz h.sum)]
      rw [decide_eq_true hz, cond_true]
      have hvB : vB w = decide (∀ x ∈ lvs w 8, ∀ y ∈ lvs w 8, x - y ≤ 1) := by
        unfold vB
        rw [decide_eq_decide, ← near_iff]
        refine ⟨fun h => h.near, fun h => ⟨e0, e1, a0, hs, l1, l2, hcan, hfew, hown', fun c c0 c1 => (hok c c0 (by omega)).1, fun c c0 c1 => (hok c c0 (by omega)).2.1, fun c c0 c1 => (hok c c0 (by omega)).2.2, hz, h⟩⟩
      have hbd : ∀ x ∈ lvs w 8, 0 ≤ x ∧ x ≤ 9 := fun x hx => by
        obtain ⟨c, c1, c2, rfl⟩ := (lvs_mem w 8 x).1 hx
        exact (hok c (by omega) (by omega)).2.1
      have hll := lvs_len w 8
      have hlen := ilen (lvs w 8)
      rw [hvB]
      by_cases hnil : (lvs w 8).length = 0
      · have : lvs w 8 = [] := List.length_eq_zero_iff.1 hnil
        rw [this]; rfl
      · rw [decide_eq_false (by omega), cond_false, decide_eq_false (by omega), cond_false, decide_eq_true (by omega), cond_true]
        exact merge_max_v n (lvs w 8) (by omega) hll hbd (by omega)
end Go.Proofs.YtgckmifmjiklmaaGreat
