/-
  The laws MergeOrder and MergeBack as plain functions: they give true.
-/
import Derived.Test.YtgckmifmjiklmaaMf
import Derived.Test.YtgckmifmjiklmaaMs
import Derived.Test.YtgckmifmjiklmaaE1
import Derived.Test.YtgckmifmjiklmaaE2
set_option linter.unusedVariables false
set_option linter.unusedSimpArgs false
set_option maxRecDepth 100000
namespace Go.Proofs.Ytgckmifmjiklmaa
open Go Go.Sx Go.Dial.Blk Go.Dial.Mrg
theorem wT_some {w : Wd} {e : Ev} {n : Nat} (ha : In64 w.al) (hn : 100000001 < n) {q} (h : merge_Step n w.al w.ev (bL w.bl) (iL w.ba) (iL w.le) e.k e.at_ e.a e.b e.c e.f e.t e.m = some q) (h2 : q.2.2.2.2.2 = 0) : Poss w e ∧ q = outW (some (aft w e)) := by
  rw [merge_Step_v n w ha e hn] at h
  cases h
  cases hs : stepW w e with
  | none => rw [hs] at h2; exact absurd h2 (by decide)
  | some v => obtain ⟨h3, h4⟩ := stepW_some hs; rw [h4]; exact ⟨h3, rfl⟩
theorem WV.a64 {w : Wd} (h : WV w) : In64 w.al := by
  have h0 := h.a0
  have h1 := h.a1
  unfold In64; omega
theorem law42_MergeOrder_v (n : Nat) {v0 v1 v2 : Int} (h0 : In64 v0) (h1 : In64 v1) (h2 : In64 v2) (xs ys : List (Int × Int × Int)) (hx : ∀ x ∈ xs, In64 x.1 ∧ In64 x.2.1 ∧ In64 x.2.2) (hy : ∀ x ∈ ys, In64 x.1 ∧ In64 x.2.1 ∧ In64 x.2.2)
    {v5 v6 v7 v8 v9 v10 v11 v12 v13 v14 v15 v16 v17 v18 : Int} (h5 : In64 v5) (h6 : In64 v6) (h7 : In64 v7) (h8 : In64 v8) (h9 : In64 v9) (h10 : In64 v10) (h11 : In64 v11) (h12 : In64 v12) (h13 : In64 v13) (h14 : In64 v14) (h15 : In64 v15) (h16 : In64 v16) (h17 : In64 v17) (h18 : In64 v18) (hn : 100000001 < n) :
    law42_MergeOrder n v0 v1 v2 (xs.map triR) (ys.map triR) v5 v6 v7 v8 v9 v10 v11 v12 v13 v14 v15 v16 v17 v18 = some true := by
  unfold law42_MergeOrder law42_MergeOrder_1
  rw [law42_sane_v n (by omega), Option.bind_some, Bool.not_true, cond_false]
  obtain ⟨_, e1, w, ds, rfl, hw, -⟩ := law42_made_v n h0 h1 h2 xs ys hx hy (by omega)
  rw [e1, Option.bind_some]
  have hv := hw.v
  obtain ⟨d, e2, -⟩ := ref42_One_v n (bL w.bl) (iL w.ba) (iL w.le) 0 v5 v6 v7 v8 v9 v10 v11 hv.a0 hv.a1 hv.e0 hv.e1 (by decide) (by decide) h5 h6 h7 h8 h9 h10 h11 (by omega)
  obtain ⟨e, e3, -⟩ := ref42_One_v n (bL w.bl) (iL w.ba) (iL w.le) 0 v12 v13 v14 v15 v16 v17 v18 hv.a0 hv.a1 hv.e0 hv.e1 (by decide) (by decide) h12 h13 h14 h15 h16 h17 h18 (by omega)
  obtain ⟨k, at_, a, b, c, f, t, m⟩ := d
  obtain ⟨k', at_', a', b', c', f', t', m'⟩ := e
  dsimp only
  rw [e2, Option.bind_some, e3, Option.bind_some]
  dsimp only
  refine cF (fun _ => rfl) (fun hk => cF (fun _ => rfl) (fun hk' => ?_))
  obtain ⟨r, e4, hr⟩ := law42_common_v n ⟨k, at_, a, b, c, f, t, m⟩ ⟨k', at_', a', b', c', f', t', m'⟩ (by omega)
  dsimp only at e4
  rw [e4, Option.bind_some]
  refine cB (fun _ => rfl) (fun hrf => ?_)
  have hap := hr hrf
  have s1 := merge_Step_v n w (WV.a64 hv) ⟨k, at_, a, b, c, f, t, m⟩ hn
  have s2 := merge_Step_v n w (WV.a64 hv) ⟨k', at_', a', b', c', f', t', m'⟩ hn
  dsimp only at s1 s2
  have zero : ∀ e : Ev, merge_Step n (0 : Int) (0 : Int) ([] : Lv) ([] : Lv) ([] : Lv) e.k e.at_ e.a e.b e.c e.f e.t e.m = some (outW (stepW ⟨0, 0, [], [], []⟩ e)) := fun e => merge_Step_v n ⟨0, 0, [], [], []⟩ (by show -9223372036854775808 ≤ (0 : Int) ∧ (0 : Int) ≤ 9223372036854775807; decide) e hn
  rw [s1, Option.bind_some, s2]
  cases hd : stepW w ⟨k, at_, a, b, c, f, t, m⟩ with
  | none =>
    simp only [outW]
    have z1 := zero ⟨k', at_', a', b', c', f', t', m'⟩
    dsimp only at z1
    rw [z1, Option.bind_some, Option.bind_some]
    cases he : stepW w ⟨k', at_', a', b', c', f', t', m'⟩ with
    | none =>
      simp only [outW]
      have z2 := zero ⟨k, at_, a, b, c, f, t, m⟩
      dsimp only at z2
      rw [z2, Option.bind_some]
      exact cN (fun h => absurd h (by decide)) (fun _ => rfl)
    | some v =>
      simp only [outW]
      obtain ⟨p, rfl⟩ := stepW_some he
      have s3 := merge_Step_v n _ (WV.a64 p.v2) ⟨k, at_, a, b, c, f, t, m⟩ hn
      dsimp only at s3
      rw [s3, Option.bind_some]
      exact cN (fun h => absurd h (by decide)) (fun _ => rfl)
  | some v =>
    obtain ⟨p1, rfl⟩ := stepW_some hd
    simp only [outW]
    have s3 := merge_Step_v n _ (WV.a64 p1.v2) ⟨k', at_', a', b', c', f', t', m'⟩ hn
    dsimp only at s3
    rw [s3, Option.bind_some, Option.bind_some]
    cases he : stepW w ⟨k', at_', a', b', c', f', t', m'⟩ with
    | none =>
      simp only [outW]
      have z2 := zero ⟨k, at_, a, b, c, f, t, m⟩
      dsimp only at z2
      rw [z2, Option.bind_some]
      refine cN (fun _ => cN (fun _ => cN (fun h => absurd h (by decide)) (fun _ => rfl)) (fun _ => rfl)) (fun _ => rfl)
    | some v =>
      obtain ⟨p3, rfl⟩ := stepW_some he
      simp only [outW]
      have s4 := merge_Step_v n _ (WV.a64 p3.v2) ⟨k, at_, a, b, c, f, t, m⟩ hn
      dsimp only at s4
      rw [s4, Option.bind_some]
      refine cN (fun _ => ?_) (fun _ => rfl)
      cases h5 : stepW (aft w ⟨k, at_, a, b, c, f, t, m⟩) ⟨k', at_', a', b', c', f', t', m'⟩ with
      | none => exact cN (fun h => absurd h (by decide)) (fun _ => rfl)
      | some u =>
        refine cN (fun _ => cN (fun _ => ?_) (fun _ => rfl)) (fun _ => rfl)
        cases h6 : stepW (aft w ⟨k', at_', a', b', c', f', t', m'⟩) ⟨k, at_, a, b, c, f, t, m⟩ with
        | none => exact cN (fun h => absurd h (by decide)) (fun _ => rfl)
        | some y =>
          refine cN (fun _ => ?_) (fun _ => rfl)
          obtain ⟨p2, rfl⟩ := stepW_some h5
          obtain ⟨p4, rfl⟩ := stepW_some h6
          have hor := order p1 p2 p3 p4 hk hk' hap
          have hV := p4.v2
          rw [hor]
          simp only [outW]
          rw [world_refl n _ (by have := hV.few; omega) (by rw [hV.bal]; decide) (by rw [hV.lel]; decide) (by omega), Option.bind_some]
theorem law42_MergeBack_v (n : Nat) {v0 v1 v2 : Int} (h0 : In64 v0) (h1 : In64 v1) (h2 : In64 v2) (xs ys : List (Int × Int × Int)) (hx : ∀ x ∈ xs, In64 x.1 ∧ In64 x.2.1 ∧ In64 x.2.2) (hy : ∀ x ∈ ys, In64 x.1 ∧ In64 x.2.1 ∧ In64 x.2.2)
    {v5 v6 v7 v8 v9 : Int} (h5 : In64 v5) (h6 : In64 v6) (h7 : In64 v7) (h8 : In64 v8) (h9 : In64 v9) (hn : 100000001 < n) :
    law42_MergeBack n v0 v1 v2 (xs.map triR) (ys.map triR) v5 v6 v7 v8 v9 = some true := by
  unfold law42_MergeBack law42_MergeBack_1
  rw [law42_sane_v n (by omega), Option.bind_some, Bool.not_true, cond_false]
  obtain ⟨_, e1, w, ds, rfl, hw, -⟩ := law42_made_v n h0 h1 h2 xs ys hx hy (by omega)
  rw [e1, Option.bind_some]
  have hv := hw.v
  obtain ⟨p0, p1, p2⟩ := pieceR_bd v5 v6
  have b7 := pk_bd v7 (k := 2001) (by decide)
  have b8 := pk_bd v8 (k := 8) (by decide)
  have b9 := pk_bd v9 (k := 8) (by decide)
  rw [ref13_Piece_v n h5 h6, Option.bind_some, law42_pick_v n h8 (by decide), Option.bind_some, law42_pick_v n h9 (by decide), Option.bind_some, law42_pick_v n h7 (by decide), Option.bind_some]
  dsimp only
  obtain ⟨f, hf⟩ : ∃ f, f = (pieceR v5 v6).1 := ⟨_, rfl⟩
  obtain ⟨t, ht⟩ : ∃ t, t = (pieceR v5 v6).2 := ⟨_, rfl⟩
  obtain ⟨b, hb⟩ : ∃ b, b = pk v8 8 := ⟨_, rfl⟩
  obtain ⟨c, hc⟩ : ∃ c, c = pk v9 8 := ⟨_, rfl⟩
  rw [← hf] at p0 p1
  rw [← ht] at p1 p2
  rw [← hb] at b8
  rw [← hc] at b9
  rw [← hf, ← ht, ← hb, ← hc]
  refine gO (by omega) (by omega) ?_
  obtain ⟨m, hm⟩ : ∃ m, m = pk v7 2001 - 1000 := ⟨_, rfl⟩
  rw [← hm]
  have s1 : merge_Step n w.al w.ev (bL w.bl) (iL w.ba) (iL w.le) 2 0 b c 0 f t m = some (outW (stepW w (spl b c f t m))) := merge_Step_v n w (WV.a64 hv) (spl b c f t m) hn
  rw [s1, Option.bind_some, shr_mod hv.a0 hv.a1 b8.1 (by omega), shr_mod hv.e0 hv.e1 b9.1 (by omega)]
  cases hs : stepW w (spl b c f t m) with
  | none =>
    simp only [outW]
    refine cN (fun h => absurd h (by decide)) (fun _ => ?_)
    refine cF (fun _ => ?_) (fun h => absurd (by trivial) h)
    refine gN b8.1 (cBN (fun hab => gN b9.1 ?_) (fun _ => rfl))
    cases hec : has w.ev c with
    | true => rfl
    | false =>
      have hp := split_ok hv b8.1 (by omega) b9.1 (by omega) p0 p1 p2 (m := m) (by omega) (by omega) hab hec (by have := hw.few; omega) (fun x x0 x1 => by have := hw.bd x x0 x1; omega)
      rw [stepW_of hp] at hs
      cases hs
  | some v =>
    obtain ⟨hp, rfl⟩ := stepW_some hs
    obtain ⟨hq, hE⟩ := back hp
    simp only [outW]
    refine cN (fun _ => ?_) (fun h => absurd (by trivial) h)
    have s2 : merge_Step n (aft w (spl b c f t m)).al (aft w (spl b c f t m)).ev (bL (aft w (spl b c f t m)).bl) (iL (aft w (spl b c f t m)).ba) (iL (aft w (spl b c f t m)).le) 1 0 c b 0 0 0 0 = some (outW (stepW (aft w (spl b c f t m)) (mrg c b))) := merge_Step_v n _ (WV.a64 hp.v2) (mrg c b) hn
    rw [s2, Option.bind_some, stepW_of hq, hE]
    simp only [outW]
    refine cN (fun _ => gN b9.1 (cN (fun _ => ?_) (fun h => absurd (or_shl hv.e0 hv.e1 b9.1 (by omega)).symm h))) (fun h => absurd (by trivial) h)
    have hM1 := only_map hv.can p0 p1 p2
    have hM2 := only_map hp.v2.can p0 p1 p2
    have l1 := only_len hv.can f t hM1
    have l2 := only_len hp.v2.can f t hM2
    have f1 := hv.few
    have f2 := hp.v2.few
    rw [block_Only_v n w.bl f t hv.can hv.few p0 p1 p2 hn, Option.bind_some, block_Only_v n _ f t hp.v2.can hp.v2.few p0 p1 p2 hn, Option.bind_some]
    refine cF (fun _ => cF (fun _ => ?_) (fun h => absurd (by trivial) h)) (fun h => absurd (by trivial) h)
    rw [world_refl n w (by omega) (by rw [hv.bal]; decide) (by rw [hv.lel]; decide) (by omega), Option.bind_some, cond_true]
    rw [block_Count_v n _ c hM2.1 (by omega) (by omega), Option.bind_some, block_Count_v n _ b hM1.1 (by omega) (by omega), Option.bind_some, block_Count_v n _ c hp.v2.can hp.v2.few (by omega), Option.bind_some, Option.bind_some, block_Count_v n _ b hM2.1 (by omega) (by omega), Option.bind_some]
    have hbal : has w.al b = true := hp.c.a
    have hec : has w.ev c = false := hp.c.s rfl
    have hca : has w.al c = false := by
      cases h : has w.al c with
      | false => rfl
      | true => rw [has_sub hv.sub h] at hec; cases hec
    have hne : b ≠ c := fun h => by rw [h, hca] at hbal; cases hbal
    have hnc : ∀ x, hold w.bl x ≠ c := fun x h => by
      have := (hold_own hv (n := x) (by omega)).1
      rw [h, hca] at this; cases this
    have hold1 : ∀ x, hold (aft w (spl b c f t m)).bl x = if hold w.bl x = b ∧ f ≤ x ∧ x < t then c else hold w.bl x := fun x => by
      rw [aft_hold hp.f hv.can]
      unfold rho
      by_cases hx : hold w.bl x = b
      · by_cases hr : f ≤ x ∧ x < t
        · simp [spl, hx, hr]
        · simp [spl, hx, hr]
      · simp [spl, hx]
    have c1 : cntL (mapOf (onlyG (aft w (spl b c f t m)).bl f t)) c = cntL (mapOf (onlyG w.bl f t)) b := by
      refine cnt_congr hM2.1 hM1.1 b9.1 b8.1 fun x x0 x1 => ?_
      rw [hM2.2 x x0 x1, hM1.2 x x0 x1]
      unfold onlyG
      rw [hold1]
      have := hnc x
      by_cases hr : f ≤ x ∧ x < t
      · simp only [hr, and_self, and_true, if_true]
        by_cases hx : hold w.bl x = b
        · simp [hx]
        · simp [hx, this]
      · simp only [hr, if_false]; omega
    have c2 : cntL (aft w (spl b c f t m)).bl c = cntL (mapOf (onlyG w.bl f t)) b := by
      refine cnt_congr hp.v2.can hM1.1 b9.1 b8.1 fun x x0 x1 => ?_
      rw [hM1.2 x x0 x1]
      unfold onlyG
      rw [hold1]
      have := hnc x
      by_cases hr : f ≤ x ∧ x < t
      · simp only [hr, and_self, and_true, if_true]
        by_cases hx : hold w.bl x = b
        · simp [hx]
        · simp [hx, this]
      · simp only [hr, and_false, if_false]
        constructor
        · intro h; exact absurd h this
        · intro h; omega
    have c3 : cntL (mapOf (onlyG (aft w (spl b c f t m)).bl f t)) b = 0 := by
      refine cnt_none hM2.1 b8.1 fun x x0 x1 => ?_
      rw [hM2.2 x x0 x1]
      unfold onlyG
      rw [hold1]
      by_cases hr : f ≤ x ∧ x < t
      · simp only [hr, and_self, and_true, if_true]
        by_cases hx : hold w.bl x = b
        · simp [hx, Ne.symm hne]
        · simp [hx]
      · simp only [hr, if_false]; omega
    rw [c1, c2, c3]
    exact cF (fun _ => cF (fun _ => rfl) (fun h => absurd (by trivial) h)) (fun h => absurd (by trivial) h)
theorem law42_MergeOrder_law : ∀ s : tupT (Ps.tys law42_MergeOrder_t.ps), TupOk (Ps.tys law42_MergeOrder_t.ps) s → ∃ n z, law42_MergeOrder_t.fn n s = some z ∧ rdec law42_MergeOrder_t.sh z = .b true := by
  rintro ⟨v0, v1, v2, v3, v4, v5, v6, v7, v8, v9, v10, v11, v12, v13, v14, v15, v16, v17, v18⟩ hs
  have h : ∀ x ∈ [AV.int v0, .int v1, .int v2, .sl (.cons .int (.cons .int (.cons .int .nil))) v3, .sl (.cons .int (.cons .int (.cons .int .nil))) v4, .int v5, .int v6, .int v7, .int v8, .int v9, .int v10, .int v11, .int v12, .int v13, .int v14, .int v15, .int v16, .int v17, .int v18], AVok x := hs
  obtain ⟨xs, rfl, hx⟩ := tris_of (t := .cons .int (.cons .int (.cons .int .nil))) rfl (h (.sl (.cons .int (.cons .int (.cons .int .nil))) v3) (by simp))
  obtain ⟨ys, rfl, hy⟩ := tris_of (t := .cons .int (.cons .int (.cons .int .nil))) rfl (h (.sl (.cons .int (.cons .int (.cons .int .nil))) v4) (by simp))
  have hi : ∀ v, AV.int v ∈ [AV.int v0, .int v1, .int v2, .sl (.cons .int (.cons .int (.cons .int .nil))) (xs.map triR), .sl (.cons .int (.cons .int (.cons .int .nil))) (ys.map triR), .int v5, .int v6, .int v7, .int v8, .int v9, .int v10, .int v11, .int v12, .int v13, .int v14, .int v15, .int v16, .int v17, .int v18] → In64 v := fun v hm => int_of (h _ hm)
  exact ⟨100000002, true, law42_MergeOrder_v 100000002 (hi _ (by simp)) (hi _ (by simp)) (hi _ (by simp)) xs ys hx hy (hi _ (by simp)) (hi _ (by simp)) (hi _ (by simp)) (hi _ (by simp)) (hi _ (by simp)) (hi _ (by simp)) (hi _ (by simp)) (hi _ (by simp)) (hi _ (by simp)) (hi _ (by simp)) (hi _ (by simp)) (hi _ (by simp)) (hi _ (by simp)) (hi _ (by simp)) (by decide), rfl⟩
theorem law42_MergeBack_law : ∀ s : tupT (Ps.tys law42_MergeBack_t.ps), TupOk (Ps.tys law42_MergeBack_t.ps) s → ∃ n z, law42_MergeBack_t.fn n s = some z ∧ rdec law42_MergeBack_t.sh z = .b true := by
  rintro ⟨v0, v1, v2, v3, v4, v5, v6, v7, v8, v9⟩ hs
  have h : ∀ x ∈ [AV.int v0, .int v1, .int v2, .sl (.cons .int (.cons .int (.cons .int .nil))) v3, .sl (.cons .int (.cons .int (.cons .int .nil))) v4, .int v5, .int v6, .int v7, .int v8, .int v9], AVok x := hs
  obtain ⟨xs, rfl, hx⟩ := tris_of (t := .cons .int (.cons .int (.cons .int .nil))) rfl (h (.sl (.cons .int (.cons .int (.cons .int .nil))) v3) (by simp))
  obtain ⟨ys, rfl, hy⟩ := tris_of (t := .cons .int (.cons .int (.cons .int .nil))) rfl (h (.sl (.cons .int (.cons .int (.cons .int .nil))) v4) (by simp))
  have hi : ∀ v, AV.int v ∈ [AV.int v0, .int v1, .int v2, .sl (.cons .int (.cons .int (.cons .int .nil))) (xs.map triR), .sl (.cons .int (.cons .int (.cons .int .nil))) (ys.map triR), .int v5, .int v6, .int v7, .int v8, .int v9] → In64 v := fun v hm => int_of (h _ hm)
  exact ⟨100000002, true, law42_MergeBack_v 100000002 (hi _ (by simp)) (hi _ (by simp)) (hi _ (by simp)) xs ys hx hy (hi _ (by simp)) (hi _ (by simp)) (hi _ (by simp)) (hi _ (by simp)) (hi _ (by simp)) (by decide), rfl⟩
end Go.Proofs.Ytgckmifmjiklmaa
