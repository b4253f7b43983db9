/-
  The law MergeSuccessions as a plain function: it gives true.
-/
import Derived.Test.YtgckmifmjiklmaaGreatRc
import Derived.Test.YtgckmifmjiklmaaGreatNc
import Derived.Test.YtgckmifmjiklmaaGreatMs
import Derived.Test.YtgckmifmjiklmaaGreatE4
set_option linter.unusedVariables false
set_option linter.unusedSimpArgs false
set_option maxRecDepth 100000
namespace Go.Proofs.YtgckmifmjiklmaaGreat
open Go Go.Sx Go.Dial.Blk Go.Dial.Mrg
theorem WV.a64 {w : Wd} (h : WV w) : In64 w.al := by
  have h0 := h.a0
  have h1 := h.a1
  unfold In64; omega
theorem law42_after_v (n : Nat) (l : List Ev) (hl : l.length ≤ 1000) (t : Int) (hn : 1001 < n) : law42_after n (evL l) t = some (evL (l.filter fun e => decide (t < e.at_))) := by
  unfold law42_after law42_after_1
  refine iterF_ind (fun s => ∃ i : Nat, s = (evL ((l.take i).filter fun e => decide (t < e.at_)), (i : Int)) ∧ i ≤ l.length) (fun s => l.length - s.2.toNat) _ ?_ n _ ⟨0, rfl, by omega⟩ (by first | omega | (simp only; omega))
  rintro _ go ⟨i, rfl, hi⟩ ih
  simp only at ih ⊢
  unfold law42_after_2
  rw [elen]
  refine cF (fun hlt => gN (by omega) ?_) (fun hlt => ?_)
  · obtain ⟨e, he⟩ := get_lt (l := l) (i := i) (by omega)
    obtain ⟨g0, g1, g2, g3, g4, g5, g6, g7⟩ := ecell he
    have hgo := ih (evL ((l.take (i + 1)).filter fun e => decide (t < e.at_)), (i : Int) + 1) ⟨i + 1, rfl, by omega⟩ (by first | omega | (simp only; omega))
    rw [take_snoc he, List.filter_append] at hgo
    have hfl := List.length_filter_le (fun e : Ev => decide (t < e.at_)) (l.take i)
    rw [List.length_take] at hfl
    rw [g0, g1, g2, g3, g4, g5, g6, g7, elen]
    refine cF (fun ht => gN (by omega) (gO (by omega) (by omega) ?_)) (fun ht => gO (by omega) (by omega) ?_)
    · have e1 : [e].filter (fun e => decide (t < e.at_)) = [e] := by simp [ht]
      rw [e1, evL, List.map_append] at hgo
      exact hgo
    · have e1 : [e].filter (fun e => decide (t < e.at_)) = [] := by simp [ht]
      rw [e1, List.append_nil] at hgo
      exact hgo
  · rw [List.take_of_length_le (by omega)]
theorem andnot_mono {a b : Int} (a0 : 0 ≤ a) (a1 : a ≤ 255) (b0 : 0 ≤ b) (b1 : b ≤ 255) (h : ∀ c, 0 ≤ c → c ≤ 7 → has a c = true → has b c = true) : IOp.f .andNot a b = 0 := (andnot_sub a0 a1 b0 b1).2 (sub_of a0 a1 h)
theorem law42_MergeSuccessions_v (n : Nat) {v0 v1 v2 : Int} (h0 : In64 v0) (h1 : In64 v1) (h2 : In64 v2) (xs : List (Int × Int × Int)) (hx : ∀ x ∈ xs, In64 x.1 ∧ In64 x.2.1 ∧ In64 x.2.2) (zs : List Sev) (hz : ∀ x ∈ zs, Sev64 x)
    {v5 v6 v7 v8 : Int} (h5 : In64 v5) (h6 : In64 v6) (h7 : In64 v7) (h8 : In64 v8) (hn : 100000001 < n) : law42_MergeSuccessions n v0 v1 v2 (xs.map triR) (zs.map sevR) v5 v6 v7 v8 = some true := by
  unfold law42_MergeSuccessions law42_MergeSuccessions_1
  rw [law42_sane_v n (by omega), Option.bind_some]
  unfold law42_MergeSuccessions_2
  rw [Bool.not_true, cond_false]
  obtain ⟨_, e1, w, ds, rfl, hw, -⟩ := law42_made_v n h0 h1 h2 xs [] hx (fun x h => by simp at h) (by omega)
  have e1' : law42_made n v0 v1 v2 (xs.map triR) ([] : Lv) = _ := e1
  rw [e1', Option.bind_some]
  dsimp only
  have hv := hw.v
  obtain ⟨_, e2, l, rfl, hE⟩ := ref42_Events_v n w hv zs hz (by omega)
  have b5 := pk_bd v5 (k := 8) (by decide)
  have b6 := pk_bd v6 (k := 61) (by decide)
  have b7 := pk_bd v7 (k := 40) (by decide)
  have b8 := pk_bd v8 (k := 40) (by decide)
  have hl8 := hE.few
  rw [e2, Option.bind_some, law42_pick_v n h7 (by decide), Option.bind_some, law42_pick_v n h8 (by decide), Option.bind_some, Option.bind_some, Option.bind_some, law42_pick_v n h5 (by decide), Option.bind_some, law42_pick_v n h6 (by decide), Option.bind_some]
  obtain ⟨s, hs⟩ : ∃ s, s = imin (pk v7 40) (pk v8 40) := ⟨_, rfl⟩
  obtain ⟨t, ht⟩ : ∃ t, t = imax (pk v7 40) (pk v8 40) := ⟨_, rfl⟩
  have hst : 0 ≤ s ∧ s ≤ t ∧ t < 40 := by rw [imin_min] at hs; rw [imax_max] at ht; omega
  obtain ⟨c, hc⟩ : ∃ c, c = pk v5 8 := ⟨_, rfl⟩
  obtain ⟨k, hk⟩ : ∃ k, k = pk v6 61 := ⟨_, rfl⟩
  rw [← hs, ← ht, ← hc, ← hk]
  rw [← hc] at b5
  rw [← hk] at b6
  clear hs ht hc hk b7 b8
  have a1 : atW w l s = some (aftL w (untl l s)) := if_pos ⟨hE.g, by omega, by omega⟩
  have a2 : atW w l t = some (aftL w (untl l t)) := if_pos ⟨hE.g, by omega, by omega⟩
  have s1 : sucW w l c k s = some (sucL (untl l s) k c) := if_pos ⟨hE.g, by omega, by omega, b5.1, by omega, b6.1, by omega⟩
  have s2 : sucW w l c k t = some (sucL (untl l t) k c) := if_pos ⟨hE.g, by omega, by omega, b5.1, by omega, b6.1, by omega⟩
  have hgs := hE.g.untl s
  have hgt := hE.g.untl t
  have hgd := hE.g.drop s
  have hbd := hgs.p.bd k c (by omega) (by omega)
  have hge := hgs.p.ge k c b5.1
  obtain ⟨D, hD'⟩ : ∃ D, D = l.dropWhile fun e => decide (e.at_ ≤ s) := ⟨_, rfl⟩
  have hlate : untl l t = untl l s ++ untl D t := by rw [hD']; exact untl_late hst.2.1
  rw [← hD'] at hgd
  have s3 : sucW (aftL w (untl l s)) D (sucL (untl l s) k c) k t = some (sucL (untl D t) k (sucL (untl l s) k c)) := if_pos ⟨hgd, by omega, by omega, hge, hbd.2, b6.1, by omega⟩
  have hDl := hgd.few
  have hu := hgs.p.v2
  have hy := hgt.p.v2
  have hgdt := (hgd.untl t).p
  rw [merge_At_v n w (WV.a64 hv) l (by omega) s hn, Option.bind_some, merge_At_v n w (WV.a64 hv) l (by omega) t hn, Option.bind_some, merge_Successor_v n w (WV.a64 hv) l (by omega) c k s hn, Option.bind_some, merge_Successor_v n w (WV.a64 hv) l (by omega) c k t hn, Option.bind_some,
    law42_after_v n l (by omega) s (by omega), Option.bind_some, a1, a2, s1, s2, after_eq hE.g.srt, ← hD', outW_some, outW_some]
  dsimp only [outS]
  rw [merge_Successor_v n _ (WV.a64 hu) D (by omega) _ k t hn, Option.bind_some, s3]
  dsimp only [outS]
  refine cN (fun _ => cN (fun _ => cN (fun _ => cN (fun _ => cN (fun _ => cN (fun _ => cN (fun _ => ?_) (fun h => ?_)) (fun h => ?_)) (fun h => absurd rfl h)) (fun h => absurd rfl h)) (fun h => absurd rfl h)) (fun h => absurd rfl h)) (fun h => absurd rfl h)
  rotate_left
  · -- ever
    refine absurd (andnot_mono hu.e0 hu.e1 hy.e0 hy.e1 fun x x0 x1 hx => ?_) h
    rw [hlate, aftL_app]
    exact hgdt.ev x0 hx
  · exact absurd (by rw [hlate, sucL_app]) h
  refine iterF_ind (fun q => ∃ i : Nat, q = (i : Int) ∧ i ≤ 8) (fun q => 8 - q.toNat) _ ?_ n _ ⟨0, rfl, by omega⟩ (by first | omega | (simp only; omega))
  rintro _ go ⟨i, rfl, hi⟩ ih
  unfold law42_MergeSuccessions_3
  refine cF (fun hlt => gN (by omega) ?_) (fun hlt => ?_)
  · have i0 : (0 : Int) ≤ (i : Int) := by omega
    have i7 : (i : Int) ≤ 7 := by omega
    have hgo : (bif ((decide ((-9223372036854775808) ≤ ((i : Int) + 1))) && (decide (((i : Int) + 1) ≤ 9223372036854775807))) then go ((i : Int) + 1) else none) = some true := gO (by omega) (by omega) (ih _ ⟨i + 1, rfl, by omega⟩ (by first | omega | (simp only; omega)))
    rw [shr_mod hu.e0 hu.e1 i0 i7, shr_mod hu.a0 hu.a1 i0 i7, shr_mod hy.a0 hy.a1 i0 i7]
    refine cB (fun he => cBN (fun _ => hgo) (fun hd => cB (fun hal => ?_) (fun _ => hgo))) (fun _ => hgo)
    have := (hgdt.dead i0 i7 he hd).1
    rw [hlate, aftL_app, this] at hal
    cases hal
  · clear ih
    refine iterF_ind (fun q => ∃ (i : Nat) (x : Bool), q = (x, (i : Int)) ∧ i ≤ l.length ∧ (x = false → ∀ (j : Nat) e, j < i → l[j]? = some e → ¬ (e.k = 2 ∧ e.a = c))) (fun q => l.length - q.2.toNat) _ ?_ n _ ⟨0, false, rfl, by omega, fun _ j e hj => by omega⟩ (by first | omega | (simp only; omega))
    rintro _ go2 ⟨i, x, rfl, hi, hall⟩ ih
    simp only at ih ⊢
    unfold law42_MergeSuccessions_4
    rw [elen]
    refine cF (fun hlt => ?_) (fun hlt => ?_)
    · obtain ⟨e, he⟩ := get_lt (l := l) (i := i) (by omega)
      obtain ⟨g0, g1, g2, g3, g4, g5, g6, g7⟩ := ecell he
      rw [g0, g2]
      have hgo : ∀ y : Bool, (y = false → x = false ∧ ¬ (e.k = 2 ∧ e.a = c)) → (bif ((decide ((-9223372036854775808) ≤ ((i : Int) + 1))) && (decide (((i : Int) + 1) ≤ 9223372036854775807))) then go2 (y, (i : Int) + 1) else none) = some true := fun y hy => by
        refine gO (by omega) (by omega) (ih _ ⟨i + 1, y, rfl, by omega, fun hyf j d hj hd => ?_⟩ (by first | omega | (simp only; omega)))
        obtain ⟨q1, q2⟩ := hy hyf
        by_cases hji : j < i
        · exact hall q1 j d hji hd
        · have : j = i := by omega
          subst this; rw [he] at hd; cases hd; exact q2
      refine cB (fun hxt => hgo true fun h => by cases h) (fun hxf => gN (by omega) (cF (fun hk2 => hgo _ fun h => ⟨hxf, fun hh => ?_⟩) (fun hk2 => hgo false fun _ => ⟨hxf, fun hh => hk2 hh.1⟩)))
      rw [decide_eq_false_iff_not] at h
      exact h hh.2
    · have hie : i = l.length := by omega
      subst hie
      rw [shr_mod hy.a0 hy.a1 b5.1 (by omega)]
      refine gN b5.1 (cBN (fun hal => cB (fun _ => rfl) (fun hxf => ?_)) (fun _ => rfl))
      have := hgt.p.own k b5.1 (by omega) hal fun e he => by
        have hel : e ∈ l := by rw [← untl_app l t]; exact List.mem_append_left _ he
        obtain ⟨j, hj⟩ := List.getElem?_of_mem hel
        exact hall hxf j e (by have := (List.getElem?_eq_some_iff.1 hj).1; omega) hj
      rw [this, decide_eq_true rfl]
theorem law42_MergeSuccessions_law : ∀ s : tupT (Ps.tys law42_MergeSuccessions_t.ps), TupOk (Ps.tys law42_MergeSuccessions_t.ps) s → ∃ n z, law42_MergeSuccessions_t.fn n s = some z ∧ rdec law42_MergeSuccessions_t.sh z = .b true := by
  rintro ⟨v0, v1, v2, v3, v4, v5, v6, v7, v8⟩ hs
  have h : ∀ x ∈ [AV.int v0, .int v1, .int v2, .sl (.cons .int (.cons .int (.cons .int .nil))) v3, .sl (.cons .int (.cons .int (.cons .int (.cons .int (.cons .int (.cons .int (.cons .int .nil))))))) v4, .int v5, .int v6, .int v7, .int v8], AVok x := hs
  obtain ⟨xs, rfl, hx⟩ := tris_of (t := .cons .int (.cons .int (.cons .int .nil))) rfl (h (.sl (.cons .int (.cons .int (.cons .int .nil))) v3) (by simp))
  obtain ⟨zs, rfl, hz⟩ := sevs_of (t := .cons .int (.cons .int (.cons .int (.cons .int (.cons .int (.cons .int (.cons .int .nil))))))) rfl (h (.sl (.cons .int (.cons .int (.cons .int (.cons .int (.cons .int (.cons .int (.cons .int .nil))))))) v4) (by simp))
  exact ⟨100000002, true, law42_MergeSuccessions_v 100000002 (int_of (h (.int v0) (by simp))) (int_of (h (.int v1) (by simp))) (int_of (h (.int v2) (by simp))) xs hx zs hz (int_of (h (.int v5) (by simp))) (int_of (h (.int v6) (by simp))) (int_of (h (.int v7) (by simp))) (int_of (h (.int v8) (by simp))) (by decide), rfl⟩
end Go.Proofs.YtgckmifmjiklmaaGreat
