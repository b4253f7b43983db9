/-
  The law MergeMoney as a plain function: it gives true.
-/
import Derived.Test.YtgckmifmjiklmaaGreatRc
import Derived.Test.YtgckmifmjiklmaaGreatNb
import Derived.Test.YtgckmifmjiklmaaGreatMs
import Derived.Test.YtgckmifmjiklmaaGreatE6
set_option linter.unusedVariables false
set_option linter.unusedSimpArgs false
set_option maxRecDepth 100000
namespace Go.Proofs.YtgckmifmjiklmaaGreat
open Go Go.Sx Go.Dial.Blk Go.Dial.Mrg
theorem WV.a64 {w : Wd} (h : WV w) : In64 w.al := by
  have h0 := h.a0
  have h1 := h.a1
  unfold In64; omega
theorem debt1_net {l : List Int} (hl : l.length = 8) {d : Dt} (hd : DV d) {c : Int} (c0 : 0 ≤ c) (c1 : c ≤ 7) : g (debt1 l d) c = g l c - (if c = d.1 then d.2.2 else 0) + (if c = d.2.1 then d.2.2 else 0) := by
  obtain ⟨⟨h1, h2⟩, ⟨h3, h4⟩, h5, _⟩ := hd
  have hl' : (l.set d.1.toNat (g l d.1 - d.2.2)).length = 8 := by rw [List.length_set, hl]
  unfold debt1
  rw [g_set hl' h3 h4 c0 c1, g_set hl h1 h2 h3 h4, g_set hl h1 h2 c0 c1]
  by_cases ha : c = d.2.1
  · subst ha
    rw [if_pos rfl, if_neg (Ne.symm h5), if_pos rfl, if_neg (Ne.symm h5)]; omega
  · rw [if_neg ha, if_neg ha]
    by_cases hb : c = d.1
    · subst hb; rw [if_pos rfl, if_pos rfl]; omega
    · rw [if_neg hb, if_neg hb]; omega
theorem debtB_net (ds : List Dt) (h : ∀ d ∈ ds, DV d) : (debtB ds).length = 8 ∧ ∀ c, 0 ≤ c → c ≤ 7 → (-1000000000 * (ds.length : Int) ≤ g (debtB ds) c ∧ g (debtB ds) c ≤ 1000000000 * (ds.length : Int)) ∧ g (debtB ds) c = net ds c := by
  suffices H : ∀ (m : Nat) (ds : List Dt), ds.length = m → (∀ d ∈ ds, DV d) → (debtB ds).length = 8 ∧ ∀ c, 0 ≤ c → c ≤ 7 → (-1000000000 * (ds.length : Int) ≤ g (debtB ds) c ∧ g (debtB ds) c ≤ 1000000000 * (ds.length : Int)) ∧ g (debtB ds) c = net ds c from H _ ds rfl h
  intro m
  induction m with
  | zero =>
    intro ds hm _
    have : ds = [] := List.length_eq_zero_iff.1 hm
    subst this
    have hz : ∀ c, 0 ≤ c → c ≤ 7 → g (debtB []) c = 0 := fin8 (fun c => g (debtB []) c = 0) (by decide)
    exact ⟨by decide, fun c c0 c1 => by rw [hz c c0 c1]; simp [net]⟩
  | succ m ih =>
    intro ds hm h
    rcases List.eq_nil_or_concat ds with rfl | ⟨es, d, rfl⟩
    · simp at hm
    · rw [List.concat_eq_append] at *
      obtain ⟨i1, i3⟩ := ih es (by simp at hm; omega) fun d hd => h d (by simp [hd])
      have hd := h d (by simp)
      rw [debtB_snoc]
      refine ⟨by rw [debt1_len, i1], fun c c0 c1 => ?_⟩
      have hd' := hd
      obtain ⟨⟨h1, h2⟩, ⟨h3, h4⟩, h5, h8, h9⟩ := hd'
      rw [debt1_net i1 hd c0 c1, net_app]
      obtain ⟨j1, j2⟩ := i3 c c0 c1
      have hlen : (((es ++ [d]).length : Nat) : Int) = (es.length : Int) + 1 := by simp
      rw [hlen]
      simp only [net]
      refine ⟨by split <;> split <;> omega, by rw [j2]; split <;> split <;> omega⟩
theorem netting_Valid_v (n : Nat) (ds : List Dt) (h : ∀ d ∈ ds, DV d) (hl : ds.length ≤ 60) (hn : 100 < n) : netting_Valid n (ds.map triR) = some true := by
  unfold netting_Valid netting_Valid_1
  rw [List.length_map]
  refine gN (by omega) ?_
  refine iterF_ind (fun s => ∃ i : Nat, s = (i : Int) ∧ i ≤ ds.length) (fun s => ds.length - s.toNat) _ ?_ n _ ⟨0, rfl, by omega⟩ (by first | omega | (simp only; omega))
  rintro _ go ⟨i, rfl, hi⟩ ih
  unfold netting_Valid_2
  rw [List.length_map]
  refine cF (fun hlt => gN (by omega) ?_) (fun _ => rfl)
  obtain ⟨d, hd⟩ := get_lt (l := ds) (i := i) (by omega)
  obtain ⟨g0, g1, g2⟩ := tcell' hd
  obtain ⟨⟨h1, h2⟩, ⟨h3, h4⟩, h5, h8, h9⟩ := h d (List.mem_of_getElem? hd)
  rw [g0, g1, g2]
  exact gN h1 (cN (fun _ => gN h3 (cN (fun _ => cF (fun he => absurd he h5) (fun _ => gN h8 (cN (fun _ => gO (by omega) (by omega) (ih _ ⟨i + 1, rfl, by omega⟩ (by first | omega | (simp only; omega)))) (fun hh => absurd h9 hh)))) (fun hh => absurd h4 hh))) (fun hh => absurd h2 hh))
theorem netting_Balances_v (n : Nat) (ds : List Dt) (h : ∀ d ∈ ds, DV d) (hl : ds.length ≤ 60) (hn : 100 < n) : netting_Balances n (ds.map triR) = some (iL (debtB ds), 0) := by
  unfold netting_Balances netting_Balances_1
  rw [netting_Valid_v n ds h hl hn, Option.bind_some, Bool.not_true, cond_false]
  refine iterF_ind (fun s => ∃ i : Nat, s = ((i : Int), iL (debtB (ds.take i))) ∧ i ≤ ds.length) (fun s => ds.length - s.1.toNat) _ ?_ n _ ⟨0, rfl, by omega⟩ (by first | omega | (simp only; omega))
  rintro _ go ⟨i, rfl, hi⟩ ih
  simp only at ih ⊢
  unfold netting_Balances_2
  have hlm : ((ds.map triR).length : Int) = (ds.length : Int) := by rw [List.length_map]
  rw [hlm]
  refine cF (fun hlt => gN (by omega) ?_) (fun hlt => ?_)
  · obtain ⟨d, hdd⟩ := get_lt (l := ds) (i := i) (by omega)
    obtain ⟨g0, g1, g2⟩ := tcell' hdd
    have hdv := h d (List.mem_of_getElem? hdd)
    obtain ⟨⟨p1, p2⟩, ⟨p3, p4⟩, p5, p8, p9⟩ := hdv
    obtain ⟨t1, t3⟩ := debtB_net (ds.take i) (fun d hd => h d (List.mem_of_mem_take hd))
    have hgo := ih ((i : Int) + 1, iL (debtB (ds.take (i + 1)))) ⟨i + 1, rfl, by omega⟩ (by first | omega | (simp only; omega))
    rw [take_snoc hdd, debtB_snoc] at hgo
    have t4 := (t3 d.1 p1 p2).1
    have t5 := (t3 d.2.1 p3 p4).1
    have hlt2 : ((ds.take i).length : Int) ≤ 60 := by rw [List.length_take]; omega
    have hl8 : ((debtB (ds.take i)).set d.1.toNat (g (debtB (ds.take i)) d.1 - d.2.2)).length = 8 := by rw [List.length_set, t1]
    have e5 : g ((debtB (ds.take i)).set d.1.toNat (g (debtB (ds.take i)) d.1 - d.2.2)) d.2.1 = g (debtB (ds.take i)) d.2.1 := by rw [g_set t1 p1 p2 p3 p4, if_neg (Ne.symm p5)]
    have hlen8 : ((iL (debtB (ds.take i))).length : Int) = 8 := by rw [ilen, t1]; rfl
    rw [g0, g1, g2, gcell t1 p1 p2, imod, gcell hl8 p3 p4, imod, hlen8]
    exact gN p1 (gN (by omega) (gO (by omega) (by omega) (gN p3 (gN (by omega) (gO (by omega) (by omega) (gO (by omega) (by omega) hgo))))))
  · have : i = ds.length := by omega
    subst this
    rw [List.take_length]
theorem law42_MergeMoney_v (n : Nat) {v0 v1 v2 : Int} (h0 : In64 v0) (h1 : In64 v1) (h2 : In64 v2) (xs ys : List (Int × Int × Int)) (hx : ∀ x ∈ xs, In64 x.1 ∧ In64 x.2.1 ∧ In64 x.2.2) (hy : ∀ x ∈ ys, In64 x.1 ∧ In64 x.2.1 ∧ In64 x.2.2) (zs : List Sev) (hz : ∀ x ∈ zs, Sev64 x)
    (hn : 100000001 < n) : law42_MergeMoney n v0 v1 v2 (xs.map triR) (ys.map triR) (zs.map sevR) = some true := by
  unfold law42_MergeMoney law42_MergeMoney_1
  rw [law42_sane_v n (by omega), Option.bind_some, Bool.not_true, cond_false]
  obtain ⟨_, e1, w, ds, rfl, hw, hba, hdl, hds⟩ := law42_made_v n h0 h1 h2 xs ys hx hy (by omega)
  rw [e1, Option.bind_some]
  dsimp only
  have hv := hw.v
  obtain ⟨_, e2, l, rfl, hE⟩ := ref42_Events_v n w hv zs hz (by omega)
  have hl8 := hE.few
  rw [e2, Option.bind_some, merge_Run_v n w (WV.a64 hv) l (by omega) hn, Option.bind_some, runW_good hE.g]
  have hu := hE.g.p.v2
  have hnet := fun (hb : ∀ c, 0 ≤ c → c ≤ 7 → g w.ba c = net ds c) => hE.g.p.net hb
  have hDV : ∀ d ∈ ds, DV d := fun d hd => by
    obtain ⟨q1, q2, q3, _, _, q4, q5⟩ := hds d hd
    exact ⟨q1, q2, q3, q4, by omega⟩
  have hDC : ∀ d ∈ ds, DC d := fun d hd => ⟨(hDV d hd).1, (hDV d hd).2.1⟩
  obtain ⟨m1, m2⟩ := debtsL_dv (es := l) hDV fun e he => ⟨hE.g.p.forms e he, (hE.m e he).1, (hE.m e he).2⟩
  obtain ⟨b1, b2⟩ := debtB_net ds hDV
  obtain ⟨c1, c2⟩ := debtB_net (debtsL ds l) m1
  have hW : debtsW w l ds = some (debtsL ds l) := if_pos ⟨hE.g, hDC⟩
  have hbal : debtB (debtsL ds l) = (aftL w l).ba := by
    refine list_ext c1 hu.bal fun c c0 c7 => ?_
    rw [(c2 c c0 c7).2, hnet (fun x x0 x1 => by rw [hba]; exact (b2 x x0 x1).2) c c0 c7]
  have hE1 : outR (some (aftL w l), l.length) = ((aftL w l).al, (aftL w l).ev, bL (aftL w l).bl, iL (aftL w l).ba, iL (aftL w l).le, (l.length : Int), 0) := rfl
  rw [hE1]
  dsimp only
  generalize hU : aftL w l = u at *
  refine cN (fun _ => cN (fun _ => cN (fun _ => ?_) (fun h => absurd (by rw [ilen, hu.bal]; rfl) h)) (fun h => absurd (by rw [elen]) h)) (fun h => absurd rfl h)
  refine iterF_ind (fun s => ∃ i : Nat, s = ((u.ba.take i).sum, (i : Int)) ∧ i ≤ 8 ∧ -1000000000000 * (i : Int) ≤ (u.ba.take i).sum ∧ (u.ba.take i).sum ≤ 1000000000000 * (i : Int)) (fun s => 8 - s.2.toNat) _ ?_ n _ ⟨0, rfl, by omega, by simp, by simp⟩ (by first | omega | (simp only; omega))
  rintro _ go ⟨i, rfl, hi, hs1, hs2⟩ ih
  simp only at ih ⊢
  unfold law42_MergeMoney_2
  have il : ((iL u.ba).length : Int) = 8 := by rw [ilen, hu.bal]; rfl
  rw [il]
  refine cF (fun hlt => ?_) (fun hlt => ?_)
  · have i0 : (0 : Int) ≤ (i : Int) := by omega
    have i7 : (i : Int) ≤ 7 := by omega
    obtain ⟨x, hx⟩ := get_lt (l := u.ba) (i := i) (by have := hu.bal; omega)
    have hgx : g u.ba (i : Int) = x := by unfold g; rw [Int.toNat_natCast, List.getD_eq_getElem?_getD, hx]; rfl
    have htk : (u.ba.take (i + 1)).sum = (u.ba.take i).sum + g u.ba (i : Int) := by rw [take_snoc hx, List.sum_append, hgx]; simp
    have hb := hu.b0 (i : Int) i0 i7
    have esucc : ((i + 1 : Nat) : Int) = (i : Int) + 1 := by omega
    have hgo := ih ((u.ba.take (i + 1)).sum, ((i + 1 : Nat) : Int)) ⟨i + 1, rfl, by omega, by rw [htk, esucc]; omega, by rw [htk, esucc]; omega⟩ (by first | omega | (simp only; omega))
    rw [htk, esucc] at hgo
    rw [gcell hu.bal i0 i7, shr_mod hu.a0 hu.a1 i0 i7]
    exact gN i0 (gN (by omega) (gO (by omega) (by omega) (cBN (fun _ => gO (by omega) (by omega) hgo) (fun hd => cN (fun _ => gO (by omega) (by omega) hgo) (fun h => absurd (hu.dead _ i0 i7 hd).1 h)))))
  · have : i = 8 := by omega
    subst this
    have htk : u.ba.take 8 = u.ba := List.take_of_length_le (by have := hu.bal; omega)
    have hWb : w.ba.length = 8 := hv.bal
    rw [htk, netting_Balances_v n ds hDV (by omega) (by omega), Option.bind_some, merge_Debts_v n w (WV.a64 hv) l (by omega) ds (by omega) hn, Option.bind_some, hW]
    dsimp only [outD]
    rw [netting_Balances_v n _ m1 (by omega) (by omega), Option.bind_some, ← hba, hbal, ints_refl n w.ba (by omega) (by omega), Option.bind_some, ints_refl n u.ba (by rw [hu.bal]; decide) (by rw [hu.bal]; omega), Option.bind_some, netting_Valid_v n _ m1 (by omega) (by omega), Option.bind_some]
    exact cF (fun _ => cF (fun _ => cF (fun _ => cF (fun _ => rfl) (fun h => absurd rfl h)) (fun h => absurd rfl h)) (fun h => absurd rfl h)) (fun h => absurd hu.sum h)
theorem law42_MergeMoney_law : ∀ s : tupT (Ps.tys law42_MergeMoney_t.ps), TupOk (Ps.tys law42_MergeMoney_t.ps) s → ∃ n z, law42_MergeMoney_t.fn n s = some z ∧ rdec law42_MergeMoney_t.sh z = .b true := by
  rintro ⟨v0, v1, v2, v3, v4, v5⟩ hs
  have h : ∀ x ∈ [AV.int v0, .int v1, .int v2, .sl (.cons .int (.cons .int (.cons .int .nil))) v3, .sl (.cons .int (.cons .int (.cons .int .nil))) v4, .sl (.cons .int (.cons .int (.cons .int (.cons .int (.cons .int (.cons .int (.cons .int .nil))))))) v5], AVok x := hs
  obtain ⟨xs, rfl, hx⟩ := tris_of (t := .cons .int (.cons .int (.cons .int .nil))) rfl (h (.sl (.cons .int (.cons .int (.cons .int .nil))) v3) (by simp))
  obtain ⟨ys, rfl, hy⟩ := tris_of (t := .cons .int (.cons .int (.cons .int .nil))) rfl (h (.sl (.cons .int (.cons .int (.cons .int .nil))) v4) (by simp))
  obtain ⟨zs, rfl, hz⟩ := sevs_of (t := .cons .int (.cons .int (.cons .int (.cons .int (.cons .int (.cons .int (.cons .int .nil))))))) rfl (h (.sl (.cons .int (.cons .int (.cons .int (.cons .int (.cons .int (.cons .int (.cons .int .nil))))))) v5) (by simp))
  exact ⟨100000002, true, law42_MergeMoney_v 100000002 (int_of (h (.int v0) (by simp))) (int_of (h (.int v1) (by simp))) (int_of (h (.int v2) (by simp))) xs ys hx hy zs hz (by decide), rfl⟩
end Go.Proofs.YtgckmifmjiklmaaGreat
