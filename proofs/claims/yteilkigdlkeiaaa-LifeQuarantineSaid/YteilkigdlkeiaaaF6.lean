/-
  The contract of the law LifeQuarantine: it returns true.
-/
import Derived.Test.YteilkigdlkeiaaaC2
import Derived.Deep.RegionHeld3
import Derived.Deep.DrawnRows
namespace Go.Proofs.Yteilkigdlkeiaaa
open Go Go.RowKit Go.Dial Go.Dial.Lif
attribute [local go_sem] Oper.semAt_some
attribute [local go_sem ↓] Go.wp_at_zero Go.wp_at_succ

/-- a pass lies between -/
def pas (es : List Ev) (T F : Int) : Bool := es.any fun e => (e.k == 2 && decide (T ≤ e.a)) && decide (e.a ≤ F)
theorem pas_take {es : List Ev} (T F : Int) {k : Nat} (hk : k < es.length) : pas (es.take (k + 1)) T F = (pas (es.take k) T F || ((es[k].k == 2 && decide (T ≤ es[k].a)) && decide (es[k].a ≤ F))) := by
  unfold pas
  rw [List.take_succ_eq_append_getElem hk, List.any_append]; simp
theorem st_cells {W : World} {q : Nat} {y : St} (h : W.heap[q]? = some (.cells #[.int .i64 y.h, .int .i64 y.e, .int .i64 y.f, .int .i64 y.t] 62)) :
    W.cell? ⟨q, 1, none⟩ = some (.int .i64 y.e) ∧ W.cell? ⟨q, 2, none⟩ = some (.int .i64 y.f) ∧ W.cell? ⟨q, 3, none⟩ = some (.int .i64 y.t) := by
  refine ⟨?_, ?_, ?_⟩ <;> simp [World.cell?, h]
set_option maxRecDepth 100000 in
set_option maxHeartbeats 8000000 in
theorem law6_any (Ax : Option Addr) (cx : Nat) (xs : List T3) (w : World) (hlen : xs.length ≤ maxLen) (hS : Span w w.heap.size 3 Ax xs.length (xs.flatMap tcells))
    (hb : (∀ x ∈ xs, Tri x)) :
    Calls Try.prog 6 #[.slice Ax xs.length cx] w fun e w' => e = .returned (.bool true) ∧ Below w.heap.size w w' := by
  have ha := hb
  clear hb
  obtain ⟨hAll, hL16⟩ := made_life xs
  obtain ⟨es, hes⟩ : ∃ es, es = madeV xs := ⟨_, rfl⟩
  rw [← hes] at hAll hL16
  have HES := Lib.hid hes
  have HALL := Lib.hid hAll
  have HSM := Lib.hid (small_all hAll)
  have HLIFE := Lib.hid (show Life es from ⟨hAll, by omega⟩)
  clear hes hAll
  have E1 := Lib.hid (staysR_ok HLIFE.out)
  obtain ⟨S, hS0⟩ : ∃ S, S = staysL es := ⟨_, rfl⟩
  have hSl : S.length ≤ 16 := by rw [hS0]; exact Nat.le_trans (staysL_len es) hL16
  have HEACH := Lib.hid (show ∀ j (h : j < S.length), 0 ≤ S[j].f ∧ S[j].f < S[j].t ∧ S[j].t ≤ 10000001 from fun j h => by
    subst hS0
    obtain ⟨a, b, c, d⟩ := (staysL_inv HALL.out).each _ (List.getElem_mem h)
    exact ⟨a, b, c⟩)
  have HADJ := Lib.hid (show ∀ j (h0 : 0 < j) (h : j < S.length), ((S[j - 1]'(by omega)).e = S[j].e ∨ (S[j - 1]'(by omega)).t + 2592000 ≤ S[j].f ∨ pas es (S[j - 1]'(by omega)).t S[j].f = true) from fun j h0 h => by
    subst hS0
    have := (adj_at HALL.out h0 h).2.2.2.2
    rcases this with h | h | ⟨i, hi, a, b, c⟩
    · exact .inl h
    · exact .inr (.inl h)
    · exact .inr (.inr (List.any_eq_true.2 ⟨es[i], List.getElem_mem hi, by simp [a, b, c]⟩)))
  rw [← hS0] at E1
  clear hS0
  have HSX := Lib.hid hS
  have HW : Hid (Below w.heap.size w w) := Lib.hid (Below.refl _ _)
  obtain ⟨W0, hW0⟩ : ∃ W0, W0 = w := ⟨_, rfl⟩
  rw [← hW0] at HSX HW
  subst hW0
  clear hS
  go_enter Try.func6, Try.ntmps6
  go_wp2_with fail
  refine (sane_any _).mono ?_
  rintro e W1 ⟨rfl, hb⟩
  replace HSX := Lib.hid ((HSX.out.below hb (Nat.le_refl _)).mono hb.size)
  replace HW := Lib.hid (below_trans HW.out hb)
  clear hb
  go_wp2_with fail
  refine (rmade_any Ax cx xs _ hlen HSX.out ha).mono ?_
  rintro e W2 ⟨⟨vl, rfl, h1⟩, hb⟩
  clear HSX
  replace HW := Lib.hid (below_trans HW.out hb)
  clear hb
  rw [← HES.out] at h1
  have HL := Lib.hid h1
  clear h1
  obtain ⟨A, c, rfl⟩ := holds_form HL.out (n := es.length) rfl
  obtain ⟨_, hc1, hc2⟩ := holds_cap HL.out
  go_wp2_with fail
  refine (lstays_any _ es _ HL.out).mono ?_
  unfold StaysPost
  rintro e W3 ⟨vs, rfl, h1, hb⟩
  rw [E1.out] at h1 ⊢
  dsimp only at h1 ⊢
  replace HW := Lib.hid (below_trans HW.out hb)
  replace HL := Lib.hid (HL.out.later hb)
  clear hb
  have HS := Lib.hid h1
  clear h1
  obtain ⟨AS, cS, rfl⟩ := holds_form HS.out (n := S.length) rfl
  obtain ⟨_, hs1, hs2⟩ := holds_cap HS.out
  go_wp2_with fail
  go_loopw [6] (fun i wr => ∃ j : Nat, 1 ≤ j ∧ j ≤ S.length + 1 ∧ i = .int .i64 j ∧ Below W3.heap.size W3 wr) (fun i _ => S.length + 1 - (intOf i).toNat)
  case atStart => exact ⟨1, Nat.le_refl _, by omega, rfl, Below.refl _ _⟩
  case round =>
    obtain ⟨j, hj1, hj2, rfl, hbr⟩ := hrel
    have HBR := Lib.hid hbr
    have HSR := Lib.hid (HS.out.later hbr)
    have HLR := Lib.hid (HL.out.later hbr)
    have z0 : (0 : Int) ≤ (j : Int) := by omega
    clear hbr
    by_cases hjn : j < S.length
    · obtain ⟨ad, rfl, x0, x1, x2, x3⟩ := st_at HSR.out hjn
      obtain ⟨_, hA2, y0, y1, y2, y3⟩ := st_at HSR.out (j := j - 1) (by omega)
      cases hA2
      have b1 := HEACH.out j hjn
      have b2 := HEACH.out (j - 1) (by omega)
      have ha := HADJ.out j (by omega) hjn
      obtain ⟨y, hy⟩ : ∃ y, y = S[j] := ⟨_, rfl⟩
      obtain ⟨z, hz⟩ : ∃ z, z = (S[j - 1]'(by omega)) := ⟨_, rfl⟩
      rw [← hy] at x0 x1 x2 x3 b1 ha
      rw [← hz] at y0 y1 y2 y3 b2 ha
      have HADX := Lib.hid ha
      obtain ⟨b10, b11, b12⟩ := b1
      obtain ⟨b20, b21, b22⟩ := b2
      have z1 : (j : Int) < (S.length : Int) := by omega
      have k1 : ((j : Int) - 1).toNat = j - 1 := by omega
      have k3 : (0 : Int) ≤ (j : Int) - 1 := by omega
      have k4 : (j : Int) - 1 < (S.length : Int) := by omega
      have n0 := heap_of_cell x0
      have n1 := heap_of_cell y0
      have m0 := World.new_ne wr _ x0
      have m1 := World.new_ne wr _ y0
      clear hy hz ha
      go_upto_region 12 with fail
      generalize hW4 : (wr.alloc (.cells #[.int .i64 z.h, .int .i64 z.e, .int .i64 z.f, .int .i64 z.t] 62)).alloc (.cells #[.int .i64 y.h, .int .i64 y.e, .int .i64 y.f, .int .i64 y.t] 62) = W4
      have h4 : W4.heap[wr.heap.size]? = some (.cells #[.int .i64 z.h, .int .i64 z.e, .int .i64 z.f, .int .i64 z.t] 62) := by rw [← hW4]; exact two_old _ _ _
      have h5 : W4.heap[wr.heap.size + 1]? = some (.cells #[.int .i64 y.h, .int .i64 y.e, .int .i64 y.f, .int .i64 y.t] 62) := by rw [← hW4]; exact two_new _ _ _
      have hb4 : Below wr.heap.size wr W4 := by rw [← hW4]; exact below_new2 _ _ _
      obtain ⟨q, hq⟩ : ∃ q, q = wr.heap.size := ⟨_, rfl⟩
      rw [← hq] at h4 h5 ⊢
      have H4 := Lib.hid h4
      have H5 := Lib.hid h5
      have HB4 := Lib.hid (below_trans HBR.out hb4)
      have HL4 := Lib.hid (HLR.out.later hb4)
      clear hW4 hq hb4 x0 x1 x2 x3 y0 y1 y2 y3 k1 k3 k4 n0 n1 m0 m1
      obtain ⟨p1, p2, p3⟩ := st_cells h4
      obtain ⟨r1, r2, r3⟩ := st_cells h5
      clear h4 h5
      by_cases he : z.e = y.e
      · have t1 : (z.e == y.e) = true := by rw [beq_iff_eq]; exact he
        clear he
        go_wp2_with fail
        exact ⟨⟨j + 1, by omega, by omega, by go_num, HB4.out⟩, by simp [intOf]; omega⟩
      · have t1 : (z.e == y.e) = false := by rw [beq_eq_false_iff_ne]; exact he
        by_cases hd : 2592000 ≤ y.f - z.t
        · clear he
          go_wp2_with fail
          exact ⟨⟨j + 1, by omega, by omega, by go_num, HB4.out⟩, by simp [intOf]; omega⟩
        · have HPAS := Lib.hid (show pas es z.t y.f = true by
            rcases HADX.out with h | h | h
            · exact absurd h he
            · omega
            · exact h)
          clear he
          go_wp2_with fail
          clear p1 p2 p3 r1 r2 r3 t1 hd
          go_loopw [9, 10] (fun v i wz => ∃ k : Nat, k ≤ es.length ∧ i = .int .i64 k ∧ v = .bool (pas (es.take k) z.t y.f) ∧ Below W4.heap.size W4 wz) (fun _ i _ => es.length - (intOf i).toNat)
          case atStart => exact ⟨0, Nat.zero_le _, rfl, rfl, Below.refl _ _⟩
          case round =>
            obtain ⟨k, hk, rfl, rfl, hbz⟩ := hrel
            have HBZ := Lib.hid hbz
            have HLZ := Lib.hid (HL4.out.later hbz)
            have h4 := keepcell H4.out hbz
            have h5 := keepcell H5.out hbz
            have w0 : (0 : Int) ≤ (k : Int) := by omega
            clear hbz
            obtain ⟨p1, p2, p3⟩ := st_cells h4
            obtain ⟨r1, r2, r3⟩ := st_cells h5
            clear h4 h5
            by_cases hkn : k < es.length
            · obtain ⟨_, hA, e0, e1, e2⟩ := ev_at HLZ.out hkn
              first | subst hA | cases hA
              have HPK := Lib.hid (pas_take z.t y.f hkn)
              obtain ⟨ev, hev⟩ : ∃ ev, ev = es[k] := ⟨_, rfl⟩
              rw [← hev] at e0 e1 e2 HPK
              have w1 : (k : Int) < (es.length : Int) := by omega
              clear hev
              cases hp : pas (es.take k) z.t y.f with
              | true =>
                have HP1 := Lib.hid (show pas (es.take (k + 1)) z.t y.f = true by rw [HPK.out, hp]; rfl)
                clear hp
                go_upto_region 17 with fail
                go_quiet (fail)
                go_wp2_with fail
                exact ⟨⟨k + 1, by omega, by go_num, by rw [HP1.out], below_drewN HBZ.out _⟩, by simp [intOf]; omega⟩
              | false =>
                have HP1 := Lib.hid (show pas (es.take (k + 1)) z.t y.f = ((ev.k == 2 && decide (z.t ≤ ev.a)) && decide (ev.a ≤ y.f)) by rw [HPK.out, hp]; rfl)
                clear hp
                by_cases c1 : ev.k = 2
                · have t1 : (ev.k == 2) = true := by rw [beq_iff_eq]; exact c1
                  by_cases c2 : z.t ≤ ev.a
                  · have t2 : decide (z.t ≤ ev.a) = true := by simp; omega
                    by_cases c3 : ev.a ≤ y.f
                    · have t3 : decide (ev.a ≤ y.f) = true := by simp; omega
                      have HP2 := Lib.hid (show pas (es.take (k + 1)) z.t y.f = true by rw [HP1.out, t1, t2, t3]; rfl)
                      clear c1 c2 c3
                      go_upto_region 17 with fail
                      go_quiet (fail)
                      go_wp2_with fail
                      exact ⟨⟨k + 1, by omega, by go_num, by rw [HP2.out], below_drewN HBZ.out _⟩, by simp [intOf]; omega⟩
                    · have t3 : decide (ev.a ≤ y.f) = false := by simp; omega
                      have HP2 := Lib.hid (show pas (es.take (k + 1)) z.t y.f = false by rw [HP1.out, t1, t2, t3]; rfl)
                      clear c1 c2 c3
                      go_upto_region 17 with fail
                      go_quiet (fail)
                      go_wp2_with fail
                      exact ⟨⟨k + 1, by omega, by go_num, by rw [HP2.out], below_drewN HBZ.out _⟩, by simp [intOf]; omega⟩
                  · have t2 : decide (z.t ≤ ev.a) = false := by simp; omega
                    have HP2 := Lib.hid (show pas (es.take (k + 1)) z.t y.f = false by rw [HP1.out, t1, t2]; rfl)
                    clear c1 c2
                    go_upto_region 17 with fail
                    go_quiet (fail)
                    go_wp2_with fail
                    exact ⟨⟨k + 1, by omega, by go_num, by rw [HP2.out], below_drewN HBZ.out _⟩, by simp [intOf]; omega⟩
                · have t1 : (ev.k == 2) = false := by rw [beq_eq_false_iff_ne]; exact c1
                  have HP2 := Lib.hid (show pas (es.take (k + 1)) z.t y.f = false by rw [HP1.out, t1]; rfl)
                  clear c1
                  go_upto_region 17 with fail
                  go_quiet (fail)
                  go_wp2_with fail
                  exact ⟨⟨k + 1, by omega, by go_num, by rw [HP2.out], below_drewN HBZ.out _⟩, by simp [intOf]; omega⟩
            · obtain rfl : k = es.length := by omega
              have HPF := Lib.hid (show pas (es.take es.length) z.t y.f = true by rw [List.take_length]; exact HPAS.out)
              rw [HPF.out]
              clear hk hkn
              have w1 : ¬ (es.length : Int) < (es.length : Int) := by omega
              go_wp2_with fail
              exact ⟨⟨j + 1, by omega, by omega, by go_num, below_trans HB4.out HBZ.out⟩, by simp [intOf]; omega⟩
    · have z1 : ¬ (j : Int) < (S.length : Int) := by omega
      go_wp2_with fail
      go_ret
      exact ⟨rfl, below_trans HW.out HBR.out⟩
end Go.Proofs.Yteilkigdlkeiaaa
