/-
  The law MergeLevels as a plain function: it gives true.
-/
import Derived.Test.YtgckmifmjiklmaaGreatRc
import Derived.Test.YtgckmifmjiklmaaGreatNc
import Derived.Test.YtgckmifmjiklmaaGreatMs
import Derived.Test.YtgckmifmjiklmaaGreatE5
set_option linter.unusedVariables false
set_option linter.unusedSimpArgs false
set_option maxRecDepth 100000
namespace Go.Proofs.YtgckmifmjiklmaaGreat
open Go Go.Sx Go.Dial.Blk Go.Dial.Mrg
theorem WV.a64 {w : Wd} (h : WV w) : In64 w.al := by
  have h0 := h.a0
  have h1 := h.a1
  unfold In64; omega
theorem up_bl {w : Wd} (hc : Canon w.bl) (b : Int) : (aft w ⟨4, 0, b, 0, 0, 0, 0, 0⟩).bl = w.bl := by
  have : (fun n => rho ⟨4, 0, b, 0, 0, 0, 0, 0⟩ n (hold w.bl n)) = hold w.bl := by
    funext m
    unfold rho
    simp
  show mapOf (fun n => rho ⟨4, 0, b, 0, 0, 0, 0, 0⟩ n (hold w.bl n)) = _
  rw [this, mapOf_hold hc]
theorem law42_MergeLevels_v (n : Nat) {v0 v1 v2 : Int} (h0 : In64 v0) (h1 : In64 v1) (h2 : In64 v2) (xs : List (Int × Int × Int)) (hx : ∀ x ∈ xs, In64 x.1 ∧ In64 x.2.1 ∧ In64 x.2.2) (zs : List Sev) (hz : ∀ x ∈ zs, Sev64 x)
    {v5 v6 v7 : Int} (h5 : In64 v5) (h6 : In64 v6) (h7 : In64 v7) (hn : 100000001 < n) : law42_MergeLevels n v0 v1 v2 (xs.map triR) (zs.map sevR) v5 v6 v7 = some true := by
  unfold law42_MergeLevels law42_MergeLevels_1
  rw [law42_sane_v n (by omega), Option.bind_some, Bool.not_true, cond_false]
  obtain ⟨_, e1, w, ds, rfl, hw, -⟩ := law42_made_v n h0 h1 h2 xs [] hx (fun x h => by simp at h) (by omega)
  have e1' : law42_made n v0 v1 v2 (xs.map triR) ([] : Lv) = _ := e1
  rw [e1', Option.bind_some]
  dsimp only
  have hv := hw.v
  obtain ⟨_, e2, l, rfl, hE⟩ := ref42_Events_v n w hv zs hz (by omega)
  have b5 := pk_bd v5 (k := 40) (by decide)
  have b6 := pk_bd v6 (k := 8) (by decide)
  have b7 := pk_bd v7 (k := 8) (by decide)
  have hl8 := hE.few
  rw [e2, Option.bind_some, law42_pick_v n h5 (by decide), Option.bind_some, merge_At_v n w (WV.a64 hv) l (by omega) _ hn, Option.bind_some]
  have ha : atW w l (pk v5 40) = some (aftL w (untl l (pk v5 40))) := if_pos ⟨hE.g, b5.1, by omega⟩
  rw [ha]
  have hu := (hE.g.untl (pk v5 40)).p.v2
  generalize aftL w (untl l (pk v5 40)) = u at hu
  obtain ⟨b, hb⟩ : ∃ b, b = pk v6 8 := ⟨_, rfl⟩
  obtain ⟨c, hc⟩ : ∃ c, c = pk v7 8 := ⟨_, rfl⟩
  rw [outW_some]
  dsimp only
  refine cN (fun _ => cN (fun _ => ?_) (fun h => absurd (by rw [ilen, hu.lel]; rfl) h)) (fun h => absurd rfl h)
  rw [law42_pick_v n h6 (by decide), Option.bind_some, law42_pick_v n h7 (by decide), Option.bind_some, ← hb, ← hc]
  rw [← hb] at b6
  rw [← hc] at b7
  have il : ((iL u.le).length : Int) = 8 := by rw [ilen, hu.lel]; rfl
  have ib : b < ((iL u.le).length : Int) := by rw [il]; omega
  have ic : c < ((iL u.le).length : Int) := by rw [il]; omega
  rw [shr_mod hu.a0 hu.a1 b6.1 (by omega), shr_mod hu.a0 hu.a1 b7.1 (by omega), gcell hu.lel b6.1 (by omega), gcell hu.lel b7.1 (by omega)]
  have q1 := hu.l0 b b6.1 (by omega)
  have q2 := hu.l0 c b7.1 (by omega)
  refine gN b6.1 (cBN (fun hbA => gN b7.1 (cBN (fun hcA => ?_) (fun _ => rfl))) (fun hbA => gN ib (by rw [(hu.dead b b6.1 (by omega) hbA).2]; rfl)))
  have n1 := hu.near b c b6.1 (by omega) b7.1 (by omega) hbA hcA
  have n2 := hu.near c b b7.1 (by omega) b6.1 (by omega) hcA hbA
  have hS := merge_Step_v n u (WV.a64 hu) ⟨4, 0, b, 0, 0, 0, 0, 0⟩ hn
  dsimp only at hS
  refine gN ib (gN ic (gO (by omega) (by omega) (cF (fun h => by omega) (fun _ => cF (fun h => by omega) (fun _ => ?_)))))
  rw [hS, Option.bind_some]
  cases hs : stepW u ⟨4, 0, b, 0, 0, 0, 0, 0⟩ with
  | none =>
    rw [outW_none]
    dsimp only
    exact cF (fun _ => rfl) (fun _ => cF (fun _ => rfl) (fun h => absurd rfl h))
  | some y =>
    obtain ⟨hp, rfl⟩ := stepW_some hs
    have hle : g (aft u ⟨4, 0, b, 0, 0, 0, 0, 0⟩).le b = g u.le b + 1 := (g_lev hu.lel hp.f b6.1 (by omega)).trans (by simp)
    have hil : ((iL (aft u ⟨4, 0, b, 0, 0, 0, 0, 0⟩).le).length : Int) = 8 := by rw [ilen, hp.v2.lel]; rfl
    have hfew := hu.few
    rw [outW_some]
    dsimp only
    refine cF (fun hd => ?_) (fun hd => cF (fun _ => rfl) (fun _ => cF (fun _ => ?_) (fun h => absurd rfl h)))
    · have := hp.c.u rfl c b7.1 (by omega) hcA
      exfalso
      have h3 : g u.le b ≤ g u.le c := this
      omega
    · rw [merge_Valid_v n _ (WV.a64 hp.v2) (by omega), Option.bind_some, vB_true hp.v2, cond_true, gcell hp.v2.lel b6.1 (by omega), hle, up_bl hu.can, same_refl n u.bl (by omega) (by omega)]
      exact gN (show b < ((iL (aft u ⟨4, 0, b, 0, 0, 0, 0, 0⟩).le).length : Int) by rw [hil]; omega) (gO (by omega) (by omega) (gN rfl rfl))
theorem law42_MergeLevels_law : ∀ s : tupT (Ps.tys law42_MergeLevels_t.ps), TupOk (Ps.tys law42_MergeLevels_t.ps) s → ∃ n z, law42_MergeLevels_t.fn n s = some z ∧ rdec law42_MergeLevels_t.sh z = .b true := by
  rintro ⟨v0, v1, v2, v3, v4, v5, v6, v7⟩ hs
  have h : ∀ x ∈ [AV.int v0, .int v1, .int v2, .sl (.cons .int (.cons .int (.cons .int .nil))) v3, .sl (.cons .int (.cons .int (.cons .int (.cons .int (.cons .int (.cons .int (.cons .int .nil))))))) v4, .int v5, .int v6, .int v7], AVok x := hs
  obtain ⟨xs, rfl, hx⟩ := tris_of (t := .cons .int (.cons .int (.cons .int .nil))) rfl (h (.sl (.cons .int (.cons .int (.cons .int .nil))) v3) (by simp))
  obtain ⟨zs, rfl, hz⟩ := sevs_of (t := .cons .int (.cons .int (.cons .int (.cons .int (.cons .int (.cons .int (.cons .int .nil))))))) rfl (h (.sl (.cons .int (.cons .int (.cons .int (.cons .int (.cons .int (.cons .int (.cons .int .nil))))))) v4) (by simp))
  exact ⟨100000002, true, law42_MergeLevels_v 100000002 (int_of (h (.int v0) (by simp))) (int_of (h (.int v1) (by simp))) (int_of (h (.int v2) (by simp))) xs hx zs hz (int_of (h (.int v5) (by simp))) (int_of (h (.int v6) (by simp))) (int_of (h (.int v7) (by simp))) (by decide), rfl⟩
end Go.Proofs.YtgckmifmjiklmaaGreat
