/-
  The law MergeNumbers as a plain function: it gives true.
-/
import Derived.Test.YtgckmifmjiklmaaGreatRc
import Derived.Test.YtgckmifmjiklmaaGreatNc
import Derived.Test.YtgckmifmjiklmaaGreatBB
import Derived.Test.YtgckmifmjiklmaaGreatMs
import Derived.Test.YtgckmifmjiklmaaGreatE7
set_option linter.unusedVariables false
set_option linter.unusedSimpArgs false
set_option maxRecDepth 100000
namespace Go.Proofs.YtgckmifmjiklmaaGreat
open Go Go.Sx Go.Dial.Blk Go.Dial.Mrg
theorem WV.a64 {w : Wd} (h : WV w) : In64 w.al := by
  have h0 := h.a0
  have h1 := h.a1
  unfold In64; omega
/-- how many numbers carriers below k hold -/
def totK (l : List B3) : Nat → Int
  | 0 => 0
  | k + 1 => totK l k + cntL l k
/-- whether somebody holds a number, as an integer -/
def held (H : Int → Int) (k : Nat) (n : Int) : Int := if 0 ≤ H n ∧ H n < k then 1 else 0
theorem tot_sum {big : Nat} (hb : (big : Int) = 100000000) {l : List B3} (hc : Canon l) (k : Nat) : totK l k = sumTo (held (hold l) k) big := by
  induction k with
  | zero =>
    have : sumTo (held (hold l) 0) big = sumTo (fun _ => 0) big := sumTo_congr fun n _ _ => by unfold held; rw [if_neg (by omega)]
    rw [this, sumTo_zero]; rfl
  | succ k ih =>
    rw [totK, ih, cnt_sum hb hc (by omega), ← sumTo_add]
    refine sumTo_congr fun n _ _ => ?_
    unfold held ind
    repeat' split
    all_goals omega
theorem tot_congr {a b : List B3} (ha : Canon a) (hb : Canon b) (h : ∀ n, 0 ≤ n → n < 100000000 → (hold a n = -1 ↔ hold b n = -1)) : totK a 8 = totK b 8 := by
  obtain ⟨big, hbig⟩ : ∃ k : Nat, (k : Int) = 100000000 := ⟨100000000, rfl⟩
  rw [tot_sum hbig ha, tot_sum hbig hb]
  refine sumTo_congr fun n h1 h2 => ?_
  have := h n h1 (by omega)
  have := hold_range ha n
  have := hold_range hb n
  unfold held
  repeat' split
  all_goals omega
theorem totK_bd {l : List B3} (h : Canon l) (k : Nat) : 0 ≤ totK l k ∧ totK l k ≤ 100000000 * k := by
  induction k with
  | zero => simp [totK]
  | succ k ih =>
    have := cnt_bd h (by omega) (k : Int)
    simp only [totK]; omega
theorem law42_total_v (n : Nat) (l : List B3) (hc : Canon l) (hl : l.length ≤ 40) (hn : 50 < n) : law42_total n (bL l) = some (totK l 8) := by
  unfold law42_total law42_total_1
  refine iterF_ind (fun s => ∃ i : Nat, s = (totK l i, (i : Int)) ∧ i ≤ 8) (fun s => 8 - s.2.toNat) _ ?_ n _ ⟨0, rfl, by omega⟩ (by first | omega | (simp only; omega))
  rintro _ go ⟨i, rfl, hi⟩ ih
  simp only at ih ⊢
  unfold law42_total_2
  refine cF (fun h => ?_) (fun h => ?_)
  · have h1 := totK_bd hc i
    have h2 := cnt_bd hc (by omega) (i : Int)
    rw [block_Count_v n l (i : Int) hc hl (by omega), Option.bind_some]
    exact gO (by omega) (by omega) (gO (by omega) (by omega) (ih _ ⟨i + 1, rfl, by omega⟩ (by first | omega | (simp only; omega))))
  · have : i = 8 := by omega
    subst this; rfl
theorem tdiv64 {a k : Int} (ha : In64 a) (hk : 1 ≤ k) : In64 (Int.tdiv a k) := by
  unfold In64 at *
  by_cases h : 0 ≤ a
  · have h1 := Int.tdiv_nonneg h (by omega : 0 ≤ k)
    have h2 : Int.tdiv a k ≤ a := by rw [Int.tdiv_eq_ediv_of_nonneg h]; exact Int.ediv_le_self k h
    omega
  · have h0 : 0 ≤ -a := by omega
    have h1 := Int.tdiv_nonneg h0 (by omega : 0 ≤ k)
    have h2 : Int.tdiv (-a) k ≤ -a := by rw [Int.tdiv_eq_ediv_of_nonneg h0]; exact Int.ediv_le_self k h0
    rw [Int.neg_tdiv] at h1 h2
    omega
theorem ref13_Near_v (n : Nat) (l : List B3) (hc : Canon l) (hl : l.length ≤ 40) {a b : Int} (ha : In64 a) (hb : In64 b) : Ok (fun _ => True) (ref13_Near n (bL l) a b) := by
  unfold ref13_Near ref13_Near_1
  have hlm : ((bL l).length : Int) = (l.length : Int) := by rw [List.length_map]
  rw [hlm]
  refine oF (fun _ => hD trivial) (fun h0 => ?_)
  have h8 : In64 (Int.tdiv a 8) := tdiv64 ha (by decide)
  have h4 : In64 (Int.tdiv a 4) := tdiv64 ha (by decide)
  have p8 := pk_bd (Int.tdiv a 8) (k := (l.length : Int)) (by omega)
  have p3 := pk_bd b (k := 3) (by decide)
  rw [ref13_pick_v n ha (by decide), Option.bind_some, ref13_pick_v n h8 (by omega), Option.bind_some, ref13_pick_v n h4 (by decide), Option.bind_some, ref13_pick_v n hb (by decide), Option.bind_some]
  obtain ⟨x, hx⟩ := get_lt (l := l) (i := (pk (Int.tdiv a 8) (l.length : Int)).toNat) (by omega)
  obtain ⟨g0, g1, g2⟩ := bcell hx
  have hbd := asc_bd hc (List.mem_of_getElem? hx)
  rw [Int.toNat_of_nonneg p8.1] at g0 g1
  rw [g0, g1]
  refine oF (fun _ => hD trivial) (fun _ => hO h8.1 h8.2 (hN p8.1 (hN p8.2 (hO h4.1 h4.2 (oF (fun _ => hO (by omega) (by omega) (hO (by omega) (by omega) (hD trivial))) (fun _ => hO (by omega) (by omega) ?_))))))
  rw [Option.bind_some]
  exact hO (by omega) (by omega) (hD trivial)
theorem law42_MergeNumbers_v (n : Nat) {v0 v1 v2 : Int} (h0 : In64 v0) (h1 : In64 v1) (h2 : In64 v2) (xs : List (Int × Int × Int)) (hx : ∀ x ∈ xs, In64 x.1 ∧ In64 x.2.1 ∧ In64 x.2.2) (zs : List Sev) (hz : ∀ x ∈ zs, Sev64 x)
    {v5 v6 v7 : Int} (h5 : In64 v5) (h6 : In64 v6) (h7 : In64 v7) (hn : 100000001 < n) : law42_MergeNumbers n v0 v1 v2 (xs.map triR) (zs.map sevR) v5 v6 v7 = some true := by
  unfold law42_MergeNumbers law42_MergeNumbers_1
  rw [law42_sane_v n (by omega), Option.bind_some, Bool.not_true, cond_false]
  obtain ⟨_, e1, w, ds, rfl, hw, -⟩ := law42_made_v n h0 h1 h2 xs [] hx (fun x h => by simp at h) (by omega)
  have e1' : law42_made n v0 v1 v2 (xs.map triR) ([] : Lv) = _ := e1
  rw [e1', Option.bind_some]
  dsimp only
  have hv := hw.v
  obtain ⟨_, e2, l, rfl, hE⟩ := ref42_Events_v n w hv zs hz (by omega)
  have b7 := pk_bd v7 (k := 40) (by decide)
  have hl8 := hE.few
  rw [e2, Option.bind_some, law42_pick_v n h7 (by decide), Option.bind_some, merge_At_v n w (WV.a64 hv) l (by omega) _ hn, Option.bind_some]
  have ha : atW w l (pk v7 40) = some (aftL w (untl l (pk v7 40))) := if_pos ⟨hE.g, b7.1, by omega⟩
  rw [ha]
  have hgu := hE.g.untl (pk v7 40)
  have hu := hgu.p.v2
  have hhold := hgu.p.hold
  have halive := fun k {x : Int} => hgu.p.alive k (x := x)
  have hge := fun k x => hgu.p.ge k x
  rw [outW_some]
  dsimp only
  refine cN (fun _ => ?_) (fun h => absurd rfl h)
  rw [merge_Valid_v n w (WV.a64 hv) (by omega), Option.bind_some, vB_true hv, Bool.not_true, cond_false, merge_Valid_v n _ (WV.a64 hu) (by omega), Option.bind_some, vB_true hu, Bool.not_true, cond_false,
    law42_total_v n _ hu.can hu.few (by omega), Option.bind_some, law42_total_v n _ hv.can hv.few (by omega), Option.bind_some]
  have hnone : ∀ x, hold (aftL w (untl l (pk v7 40))).bl x = -1 ↔ hold w.bl x = -1 := fun x => by
    rw [hhold x]
    have hr := hold_range hv.can x
    constructor
    · intro h
      by_cases h3 : hold w.bl x = -1
      · exact h3
      · have := hge x (hold w.bl x) (by omega); omega
    · intro h
      rw [h]
      have : ∀ (m : List Ev), (∀ e ∈ m, Frm e) → sucL m x (-1) = -1 := by
        intro m
        induction m with
        | nil => intro _; rfl
        | cons e m ih => intro hf; rw [sucL_cons, rho_no (hf e (by simp)), ih fun d hd => hf d (by simp [hd])]
      exact this _ hgu.p.forms
  refine cN (fun _ => ?_) (fun h => absurd (tot_congr hu.can hv.can fun x _ _ => hnone x) h)
  obtain ⟨p, e3, -⟩ := ref13_Near_v n w.bl hv.can hv.few h5 h6
  rw [e3, Option.bind_some, law42_pick_v n h6 (by decide), Option.bind_some]
  refine iterF_ind (fun s => ∃ i : Nat, s = (i : Int) ∧ i ≤ 2) (fun s => 2 - s.toNat) _ ?_ n _ ⟨0, rfl, by omega⟩ (by first | omega | (simp only; omega))
  rintro _ go ⟨i, rfl, hi⟩ ih
  unfold law42_MergeNumbers_2
  refine cF (fun h => gN (by omega) ?_) (fun _ => rfl)
  have hgo : (bif ((decide ((-9223372036854775808) ≤ ((i : Int) + 1))) && (decide (((i : Int) + 1) ≤ 9223372036854775807))) then go ((i : Int) + 1) else none) = some true := gO (by omega) (by omega) (ih _ ⟨i + 1, rfl, by omega⟩ (by first | omega | (simp only; omega)))
  generalize cI ((([] : Lv) ++ [[(AV.int p)]]) ++ [[(AV.int (pk v6 61))]]) (i : Int) 0 = q
  rw [block_Find_v n w.bl q hv.can hv.few (by omega), Option.bind_some, block_Find_v n _ q hu.can hu.few (by omega), Option.bind_some]
  by_cases hq : hold w.bl q = -1
  · have f1 : findR w.bl q = (0, false) := by unfold findR; rw [if_pos hq]
    have f2 : findR (aftL w (untl l (pk v7 40))).bl q = (0, false) := by unfold findR; rw [if_pos ((hnone q).2 hq)]
    rw [f1, f2]
    dsimp only
    exact cBN (fun _ => cBN (fun h => by cases h) (fun _ => hgo)) (fun h => absurd h (by decide))
  · have hr := hold_range hv.can q
    have hqb := hold_bd hv.can (n := q) (by omega)
    have f1 : findR w.bl q = (hold w.bl q, true) := by unfold findR; rw [if_neg hq]
    have f2 : findR (aftL w (untl l (pk v7 40))).bl q = (sucL (untl l (pk v7 40)) q (hold w.bl q), true) := by unfold findR; rw [if_neg (fun h => hq ((hnone q).1 h)), hhold q]
    have hs : sucW w l (hold w.bl q) q (pk v7 40) = some (sucL (untl l (pk v7 40)) q (hold w.bl q)) := if_pos ⟨hE.g, b7.1, by omega, by omega, hr.2, hqb.2.1, by omega⟩
    have hsb := hgu.p.bd q (hold w.bl q) hr.1 hr.2
    have hsg := hge q (hold w.bl q) (by omega)
    have hal := halive q (x := hold w.bl q) (by omega) hr.2 (hold_own hv hq).1
    rw [f1, f2]
    dsimp only
    refine cBN (fun _ => cBN (fun _ => ?_) (fun h => by cases h)) (fun h => absurd h (by decide))
    rw [law42_pick_v n h7 (by decide), Option.bind_some, merge_Successor_v n w (WV.a64 hv) l (by omega) _ _ _ hn, Option.bind_some, hs, shr_mod hu.a0 hu.a1 hsg hsb.2]
    exact cN (fun _ => cN (fun _ => gN hsg (cBN (fun _ => hgo) (fun h => by rw [hal] at h; cases h))) (fun h => absurd rfl h)) (fun h => absurd rfl h)
theorem law42_MergeNumbers_law : ∀ s : tupT (Ps.tys law42_MergeNumbers_t.ps), TupOk (Ps.tys law42_MergeNumbers_t.ps) s → ∃ n z, law42_MergeNumbers_t.fn n s = some z ∧ rdec law42_MergeNumbers_t.sh z = .b true := by
  rintro ⟨v0, v1, v2, v3, v4, v5, v6, v7⟩ hs
  have h : ∀ x ∈ [AV.int v0, .int v1, .int v2, .sl (.cons .int (.cons .int (.cons .int .nil))) v3, .sl (.cons .int (.cons .int (.cons .int (.cons .int (.cons .int (.cons .int (.cons .int .nil))))))) v4, .int v5, .int v6, .int v7], AVok x := hs
  obtain ⟨xs, rfl, hx⟩ := tris_of (t := .cons .int (.cons .int (.cons .int .nil))) rfl (h (.sl (.cons .int (.cons .int (.cons .int .nil))) v3) (by simp))
  obtain ⟨zs, rfl, hz⟩ := sevs_of (t := .cons .int (.cons .int (.cons .int (.cons .int (.cons .int (.cons .int (.cons .int .nil))))))) rfl (h (.sl (.cons .int (.cons .int (.cons .int (.cons .int (.cons .int (.cons .int (.cons .int .nil))))))) v4) (by simp))
  exact ⟨100000002, true, law42_MergeNumbers_v 100000002 (int_of (h (.int v0) (by simp))) (int_of (h (.int v1) (by simp))) (int_of (h (.int v2) (by simp))) xs hx zs hz (int_of (h (.int v5) (by simp))) (int_of (h (.int v6) (by simp))) (int_of (h (.int v7) (by simp))) (by decide), rfl⟩
end Go.Proofs.YtgckmifmjiklmaaGreat
