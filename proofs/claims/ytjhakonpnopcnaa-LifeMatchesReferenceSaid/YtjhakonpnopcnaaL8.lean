/-
  sort.Search; life.at, At.
-/
import Derived.Test.YtjhakonpnopcnaaL7
import Derived.Deep.RegionHeld3
import Derived.Deep.DeepCutAuto
set_option linter.unusedVariables false
set_option linter.unusedSimpArgs false
namespace Go.Proofs.Ytjhakonpnopcnaa
open Go Go.RowKit Go.Dial Go.Dial.Lif

theorem drewN_add (w : World) (a b : Nat) : (w.drewN a).drewN b = w.drewN (a + b) := by simp [World.drewN, Nat.add_assoc]
theorem bcellX {W w1 : World} (hb : Below W.heap.size W w1) : (∀ b o, b < W.heap.size → w1.cell? ⟨b, o, none⟩ = W.cell? ⟨b, o, none⟩) ∧ (∀ b o, b < W.heap.size → w1.frozen? ⟨b, o, none⟩ = W.frozen? ⟨b, o, none⟩) :=
  ⟨fun b o h => hb.cell (p := ⟨b, o, none⟩) h, fun b o h => hb.frozen (p := ⟨b, o, none⟩) h⟩
theorem search_any (fn : Nat) (cap : Array Value) (n : Nat) (p : Nat → Bool) (w : World) (hn : n ≤ 1000000000) (hcall : ∀ args w, (callFunc fn args).run Try.prog w = .ok (.enter fn args) w)
    (hf : ∀ i m, i < n → Calls Try.prog fn (#[.int .i64 (i : Int)] ++ cap) (w.drewN m) fun e w' => e = .returned (.bool (p i)) ∧ ∃ m', w' = w.drewN m') (hp : ∀ i j, i ≤ j → j < n → p i = true → p j = true) :
    Calls Try.prog 48 #[.int .i64 n, .func (.func fn) #[] cap] w fun e w' => (∃ k : Nat, e = .returned (.int .i64 k) ∧ k ≤ n ∧ (∀ i, i < k → p i = false) ∧ ∀ i, k ≤ i → i < n → p i = true) ∧ ∃ m, w' = w.drewN m := by
  have HF := Lib.hid hf
  have HP := Lib.hid hp
  clear hf hp
  go_enter Try.func48, Try.ntmps48
  go_wp2_with fail
  go_loopw [5, 6] (fun a b wr => ∃ i j m : Nat, i ≤ j ∧ j ≤ n ∧ a = .int .i64 i ∧ b = .int .i64 j ∧ (∀ k, k < i → p k = false) ∧ (∀ k, j ≤ k → k < n → p k = true) ∧ wr = w.drewN m) (fun a b _ => (intOf b).toNat - (intOf a).toNat)
  case atStart => exact ⟨0, n, 0, by omega, by omega, rfl, rfl, fun _ h => by omega, fun _ h1 h2 => by omega, rfl⟩
  case round =>
    obtain ⟨i, j, m, hij, hjn, rfl, rfl, h1, h2, rfl⟩ := hrel
    have H1 := Lib.hid h1
    have H2 := Lib.hid h2
    clear h1 h2
    by_cases hlt : i < j
    · obtain ⟨h, hh⟩ : ∃ h, h = (i + j) / 2 := ⟨_, rfl⟩
      have eh : ((i : Int) + (j : Int)) / 2 = (h : Int) := by omega
      have hi : i ≤ h := by omega
      have hj : h < j := by omega
      have hn' : h < n := by omega
      have EH := Lib.hid eh
      clear eh hh
      have se : IntKind.i64.wrap ((h : Int) + 1) = (h : Int) + 1 := IntWalk.i64_in _ (by omega)
      go_wp2_with fail
      rw [EH.out]
      refine (HF.out h m hn').mono ?_
      rintro e w1 ⟨rfl, m', rfl⟩
      cases hp : p h
      · have HPH := Lib.hid hp
        clear hp
        go_wp2_with fail
        go_roundw
        case rel => 
          have lo : ∀ k, k < h + 1 → p k = false := fun k hk => by
            cases hpk : p k
            · rfl
            · have := HP.out k h (by omega) hn' hpk
              rw [HPH.out] at this; cases this
          exact ⟨h + 1, j, m', by omega, hjn, by go_num, rfl, lo, H2.out, rfl⟩
        case measure => simp [intOf]; omega
      · have HPH := Lib.hid hp
        clear hp
        go_wp2_with fail
        go_roundw
        case rel => exact ⟨i, h, m', hi, by omega, rfl, rfl, H1.out, fun k hk hkn => HP.out h k hk hkn HPH.out, rfl⟩
        case measure => simp [intOf]; omega
    · obtain rfl : i = j := by omega
      go_wp2_with fail
      go_ret
      exact ⟨⟨i, rfl, hjn, H1.out, H2.out⟩, m, rfl⟩
theorem at1_any (es : List Ev) (A : Option Addr) (c bl bt : Nat) (t : Int) (W : World) (i : Nat) (hl : Boxed W bl 24 (.slice A es.length c)) (ht : Boxed W bt 3 (.int .i64 t)) (hS : Span W W.heap.size 3 A es.length (es.flatMap evc)) (hi : i < es.length) :
    Calls Try.prog 49 #[.int .i64 i, .pointer (some ⟨bl, 0, none⟩), .pointer (some ⟨bt, 0, none⟩)] W fun e w' => e = .returned (.bool (decide (t < es[i].a))) ∧ ∃ m', w' = W.drewN m' := by
  obtain ⟨x, hx⟩ : ∃ x, x = es[i] := ⟨_, rfl⟩
  obtain ⟨ad, rfl, hab, hat⟩ := rows_at evc_len hS (by decide) (List.getElem?_eq_getElem hi)
  rw [← hx] at hat ⊢
  have x1 := hat.ck 0 (u := .int .i64 x.a) rfl
  have c0 := hl.cell
  have c1 := ht.cell
  have z0 : (0 : Int) ≤ (i : Int) := by omega
  have z1 : (i : Int) < (es.length : Int) := by omega
  clear hx hat hS hl ht
  go_enter Try.func49, Try.ntmps49
  go_upto_region 1 with fail
  go_quiet (fail)
  go_wp2_with fail
  go_ret
  exact ⟨rfl, _, rfl⟩
def AtPost (es : List Ev) (t : Int) (w : World) (e : Ending) (w' : World) : Prop := e = .returned (.tuple #[lnA (atR es t).1, .bool (decide ((atR es t).2 = 0))]) ∧ Below w.heap.size w w'
set_option maxRecDepth 100000 in
set_option maxHeartbeats 1600000 in
theorem lat_any (v : Value) (es : List Ev) (t : Int) (w : World) (hv : HoldsG evc 3 w w.heap.size v es) : Calls Try.prog 40 #[v, .int .i64 t] w (AtPost es t w) := by
  obtain ⟨A, c, rfl, h0, h1, h2⟩ := hv
  have hcc := h1
  unfold maxLen at h1
  obtain ⟨w0, hw0⟩ : ∃ w0, w0 = ((w.alloc (.cells #[.slice A es.length c] 24)).alloc (.cells #[.int .i64 t] 3)).alloc (.cells (lnc zero) 26) := ⟨_, rfl⟩
  have hw0' := hw0
  dsimp only [lnc, zero] at hw0'
  have b2 : Boxed w0 w.heap.size 24 (.slice A es.length c) := by rw [hw0]; exact oldcell _ (oldcell _ (newcell _ _))
  have b3 : Boxed w0 (w.heap.size + 1) 3 (.int .i64 t) := by
    rw [hw0]; refine oldcell _ ?_; have := newcell (w.alloc (.cells #[.slice A es.length c] 24)) (.cells #[.int .i64 t] 3); simpa using this
  have b4 : w0.heap[w.heap.size + 2]? = some (.cells (lnc zero) 26) := by
    rw [hw0]; have := newcell ((w.alloc (.cells #[.slice A es.length c] 24)).alloc (.cells #[.int .i64 t] 3)) (.cells (lnc zero) 26); simpa using this
  have hb0 : Below w.heap.size w w0 := by rw [hw0]; exact below_new3 _ _ _ _
  have hH : HoldsG evc 3 w0 w0.heap.size (.slice A es.length c) es := ⟨A, c, rfl, h0, hcc, (h2.below hb0 (Nat.le_refl _)).mono hb0.size⟩
  have HW := Lib.hid hw0'
  have B2 := Lib.hid b2
  have B3 := Lib.hid b3
  have B4 := Lib.hid b4
  have HB0 := Lib.hid hb0
  have HH := Lib.hid hH
  have k2 := b2.cell
  have k3 := b3.cell
  clear hw0 hw0' b2 b3 b4 hb0 hH h2
  go_enter Try.func40, Try.ntmps40
  go_wp2_with fail
  rw [← HW.out]
  refine (lrun_any _ es _ HH.out).mono ?_
  rintro e w1 ⟨rfl, hb1⟩
  have HR := Lib.hid (show runR es = runR es from rfl)
  have C2 := Lib.hid (keepcell B2.out hb1)
  have C3 := Lib.hid (keepcell B3.out hb1)
  have C4 := Lib.hid (keepcell B4.out hb1)
  have HB1 := Lib.hid (below_then HB0.out hb1)
  have H1 := Lib.hid (HH.out.later hb1)
  have lt2 := heap_lt C2.out
  have lt3 := heap_lt C3.out
  have lt4 := heap_lt C4.out
  clear k2 k3 B2 B3 B4 HB0 hb1 HR
  have k2 := (show Boxed w1 _ _ _ from C2.out).cell
  have k3 := (show Boxed w1 _ _ _ from C3.out).cell
  obtain ⟨x0, x1, x2, x3, f0, f1, f2, f3, lt5⟩ := ln_cells (l := zero) C4.out
  obtain ⟨x0, x1, x2, x3, f0, f1, f2, f3, lt5⟩ := ln_cells (l := zero) C4.out
  obtain ⟨x0, x1, x2, x3, f0, f1, f2, f3, lt5⟩ := ln_cells (l := zero) C4.out
  obtain ⟨x0, x1, x2, x3, f0, f1, f2, f3, lt5⟩ := ln_cells (l := zero) C4.out
  obtain ⟨x0, x1, x2, x3, f0, f1, f2, f3, lt5⟩ := ln_cells (l := zero) C4.out
  obtain ⟨x0, x1, x2, x3, f0, f1, f2, f3, lt5⟩ := ln_cells (l := zero) C4.out
  obtain ⟨x0, x1, x2, x3, f0, f1, f2, f3, lt5⟩ := ln_cells (l := zero) C4.out
  obtain ⟨x0, x1, x2, x3, f0, f1, f2, f3, lt5⟩ := ln_cells (l := zero) C4.out
  obtain ⟨x0, x1, x2, x3, f0, f1, f2, f3, lt5⟩ := ln_cells (l := zero) C4.out
  obtain ⟨x0, x1, x2, x3, f0, f1, f2, f3, lt5⟩ := ln_cells (l := zero) C4.out
  by_cases hl : Life es
  · rw [runR_life hl]
    obtain ⟨M, hM⟩ : ∃ M, M = fin first es := ⟨_, rfl⟩
    rw [← hM]
    dsimp only [lnA]
    go_wp2_with fail
    refine (lisIn_any _ _ _ _).mono ?_
    rintro e wq ⟨rfl, rfl⟩
    by_cases ht : 0 ≤ t ∧ t ≤ 10000000
    · rw [inB_iff.2 ht]
      have HA := Lib.hid (show atR es t = (atL es t, 0) from if_pos ⟨hl, ht⟩)
      have HL := Lib.hid hl
      clear hM hl ht
      go_wp2_with fail
      obtain ⟨W2, hW2⟩ : ∃ W2, W2 = w1.alloc (.cells #[.int .i64 (fin first es).s, .int .i64 (fin first es).h, .int .i64 (fin first es).e, .int .i64 (fin first es).t] 26) := ⟨_, rfl⟩
      have hb2 : Below w1.heap.size w1 W2 := by rw [hW2]; exact below_new _ _
      have HW2 := Lib.hid hW2
      rw [← HW2.out]
      clear hW2 k2 k3 x0 x1 x2 x3 f0 f1 f2 f3 lt2 lt3 lt4 lt5
      have D2 := Lib.hid (keepcell C2.out hb2)
      have D3 := Lib.hid (keepcell C3.out hb2)
      have D4 := Lib.hid (keepcell C4.out hb2)
      have G1 := Lib.hid (H1.out.later hb2)
      have HB2 := Lib.hid (below_then HB1.out hb2)
      have hle := upto_le es t
      obtain ⟨k, hk⟩ : ∃ k, k = upto es t := ⟨_, rfl⟩
      rw [← hk] at hle
      have KK := Lib.hid hk
      have hsp : Span W2 W2.heap.size 3 A es.length (es.flatMap evc) := by obtain ⟨A', c', e, _, _, h3⟩ := G1.out; cases e; exact h3
      have HSP := Lib.hid hsp
      have HSE : Hid (∀ W', Below W2.heap.size W2 W' → Calls Try.prog 48 #[.int .i64 (es.length : Int), .func (.func 49) #[] #[.pointer (some ⟨w.heap.size, 0, none⟩), .pointer (some ⟨w.heap.size + 1, 0, none⟩)]] W' fun e w' => e = .returned (.int .i64 (k : Int)) ∧ ∃ m, w' = W'.drewN m) := Lib.hid fun W' hb => by
        refine (search_any _ _ es.length (fun i => if h : i < es.length then decide (t < es[i].a) else false) W' (by have := HL.out.2; omega) (fun _ _ => rfl) (fun i m hi => ?_) (fun i j hij hj h => ?_)).mono ?_
        · refine (at1_any es A c _ _ t (W'.drewN m) i (keepcell D2.out (below_drewN hb m)) (keepcell D3.out (below_drewN hb m)) ((HSP.out.below (below_drewN hb m) (Nat.le_refl _)).mono hb.size) hi).mono ?_
          rintro e w' ⟨rfl, m', rfl⟩
          exact ⟨by rw [dif_pos hi], m + m', by rw [drewN_add]⟩
        · rw [dif_pos (by omega)] at h
          rw [dif_pos hj]
          have := all_sorted HL.out.1 hij hj
          simp at h ⊢; omega
        · rintro e w' ⟨⟨q, rfl, h1, h2, h3⟩, m, rfl⟩
          refine ⟨?_, m, rfl⟩
          have : q = upto es t := upto_uniq h1 (fun i hi => by have := h2 i hi; rw [dif_pos (by omega)] at this; simpa using this) (fun hi => by have := h3 q (Nat.le_refl _) hi; rw [dif_pos hi] at this; simpa using this)
          rw [this, KK.out]
      have HRU : Hid (∀ W', Below W2.heap.size W2 W' → Calls Try.prog 8 #[.slice A k c] W' fun e w' => e = .returned (.tuple #[.agg #[.int .i64 (atL es t).s, .int .i64 (atL es t).h, .int .i64 (atL es t).e, .int .i64 (atL es t).t], .int .i64 (k : Int), .int .i64 0]) ∧ Below W'.heap.size W' w') := Lib.hid fun W' hb => by
        have hlen : (es.take k).length = k := by simp; omega
        refine (lrun_any (.slice A k c) (es.take k) W' ⟨A, c, by rw [hlen], by rw [hlen]; omega, hcc, by rw [hlen]; exact span_pre evc_len ((HSP.out.below hb (Nat.le_refl _)).mono hb.size) hle⟩).mono ?_
        rintro e w' ⟨rfl, hb'⟩
        refine ⟨?_, hb'⟩
        rw [runR_life (life_take HL.out k), hlen, KK.out]; rfl
      obtain ⟨N, hN⟩ : ∃ N, N = atL es t := ⟨_, rfl⟩
      rw [← hN] at HRU
      have HN := Lib.hid hN
      have k2 := (show Boxed W2 _ _ _ from D2.out).cell
      have l2 := heap_lt D2.out
      have l3 : W2.heap.size ≠ w.heap.size := by omega
      have z0 : (0 : Int) ≤ (k : Int) := by omega
      have z1 : (k : Int) ≤ (es.length : Int) := by omega
      have z2 : (k : Int) ≤ (c : Int) := by omega
      clear hN hk hsp hb2
      go_cut [9] (fun s9 wx => ∃ g : Nat, s9 = .pointer (some ⟨g, 0, none⟩) ∧ wx.heap[g]? = some (.cells #[.int .i64 N.s, .int .i64 N.h, .int .i64 N.e, .int .i64 N.t] 26) ∧ W2.heap.size ≤ g ∧ Below W2.heap.size W2 wx)
      case first =>
        go_region_held3 (fun w' => w'.cell? ⟨w.heap.size, 0, none⟩ = some (.slice A es.length c)) (go_keep)
          (first
            | (go_at_call 48; refine (HSE.out _ ?_).mono ?_; (first | exact (Below.refl _ W2).drew | exact (Below.refl _ W2).drew.alloc (Nat.le_refl _) _ | exact (below_new W2 _).drew); rintro e w' ⟨rfl, m, rfl⟩)
            | (go_at_call 8; refine (HRU.out _ ?_).mono ?_; (first | exact below_drewN (Below.refl _ W2) _ | exact (below_drewN (Below.refl _ W2) _).alloc (Nat.le_refl _) _ | exact below_drewN (below_new W2 _) _); rintro e w2 ⟨rfl, hb⟩; have HBW : Below W2.heap.size W2 w2 := (by first | exact below_then (below_drewN (Below.refl _ W2) _) hb | exact below_then ((below_drewN (Below.refl _ W2) _).alloc (Nat.le_refl _) _) hb | exact below_then (below_drewN (below_new W2 _) _) hb); have kk := (show Boxed w2 _ _ _ from keepcell D2.out HBW).cell; have l5 : w2.heap.size ≠ w.heap.size := (by have := HBW.size; omega); have l6 : w.heap.size < w2.heap.size := (by have := HBW.size; omega); try (have hh : w2.heap[W2.heap.size]? = some (.cells #[.int .i64 zero.s, .int .i64 zero.h, .int .i64 zero.e, .int .i64 zero.t] 26) := (by first | exact keepcell (newcell (W2.drewN _) _) hb | exact keepcell (show (((W2.alloc _).drewN _).heap[W2.heap.size]?) = _ from newcell W2 _) hb); obtain ⟨q0, q1, q2, q3, p0, p1, p2, p3, p4⟩ := ln_cells hh)))
        all_goals
          go_wp2_with fail
          go_meet
          first
            | with_reducible exact ⟨_, rfl, newcell _ _, HBW.size, below_then HBW (below_new _ _)⟩
            | with_reducible exact ⟨_, rfl, (set4 _ _ _ _ hh).1, Nat.le_refl _, (((HBW.setCell (Nat.le_refl _) _).setCell (Nat.le_refl _) _).setCell (Nat.le_refl _) _).setCell (Nat.le_refl _) _⟩
      case rest =>
        obtain ⟨g, rfl, hg, hgl, hbx⟩ := hcut
        obtain ⟨x0, x1, x2, x3, f0, f1, f2, f3, lt5⟩ := ln_cells (l := zero) (keepcell D4.out hbx)
        obtain ⟨y0, y1, y2, y3, _⟩ := ln_cells hg
        have hl4 := heap_lt D4.out
        have n1 : g ≠ w.heap.size + 2 := by omega
        have n2 := Ne.symm n1
        replace HB1 := Lib.hid (below_then HB2.out hbx)
        clear hg hgl hbx k2 HSE HRU
        go_wp2_with fail
        exact bodyPost_ret (v := .tuple #[.agg #[.int .i64 N.s, .int .i64 N.h, .int .i64 N.e, .int .i64 N.t], .bool true]) (by simp [results, Try.results40, go_sem, *]) rfl ⟨by rw [HA.out, ← HN.out]; rfl, (by repeat (first | with_reducible exact HB1.out | with_reducible refine Below.drew ?_ | with_reducible refine Below.setCell ?_ (by simp <;> omega) _ | with_reducible refine Below.alloc ?_ (by simp <;> omega) _))⟩
    · rw [inB_no.2 ht]
      have HA := Lib.hid (show atR es t = (zero, 140) from if_neg (fun h => ht h.2))
      clear hM hl ht
      go_wp2_with fail
      exact bodyPost_ret (v := .tuple #[.agg #[.int .i64 0, .int .i64 0, .int .i64 0, .int .i64 0], .bool false]) (by simp [results, Try.results40, go_sem, *]) rfl ⟨by rw [HA.out]; rfl, (by repeat (first | with_reducible exact HB1.out | with_reducible refine Below.drew ?_ | with_reducible refine Below.setCell ?_ (by simp <;> omega) _ | with_reducible refine Below.alloc ?_ (by simp <;> omega) _))⟩
  · rw [runR_no hl]
    dsimp only [lnA, zero]
    have HA := Lib.hid (show atR es t = (zero, 140) from if_neg (fun h => hl h.1))
    clear hl
    go_wp2_with fail
    exact bodyPost_ret (v := .tuple #[.agg #[.int .i64 0, .int .i64 0, .int .i64 0, .int .i64 0], .bool false]) (by simp [results, Try.results40, go_sem, *]) rfl ⟨by rw [HA.out]; rfl, (by repeat (first | with_reducible exact HB1.out | with_reducible refine Below.drew ?_ | with_reducible refine Below.setCell ?_ (by simp <;> omega) _ | with_reducible refine Below.alloc ?_ (by simp <;> omega) _))⟩
end Go.Proofs.Ytjhakonpnopcnaa
