/-
  dialtoneref14.Made.
-/
import Derived.Test.YtjhakonpnopcnaaR2
set_option linter.unusedVariables false
set_option linter.unusedSimpArgs false
namespace Go.Proofs.Ytjhakonpnopcnaa
open Go Go.RowKit Go.Dial Go.Dial.Lif
attribute [local go_sem] Oper.semAt_some

def tcells (x : T3) : List Value := [.int .i64 x.1, .int .i64 x.2.1, .int .i64 x.2.2]
theorem tcells_len (x : T3) : (tcells x).length = 3 := rfl
theorem infoEv : (Try.prog.info? 54).map (fun i => (i.zero, i.size, i.bytes)) = some (some (.agg #[.int .i64 0, .int .i64 0, .int .i64 0]), 3, 24) := by kernel_rfl
theorem evcs_snoc (l : List Ev) (b : Ev) : (l ++ [b]).flatMap evc = l.flatMap evc ++ evc b := by simp
theorem news_ev (W : World) (b : Ev) : ∀ j u, (evc b)[j]? = some u → (W.alloc (.cells #[.int .i64 b.k, .int .i64 b.a, .int .i64 b.h] 54)).cell? ((⟨W.heap.size, 0, none⟩ : Addr).add j) = some u :=
  World.news_of_block (cs := #[.int .i64 b.k, .int .i64 b.a, .int .i64 b.h]) (newcell _ _)
theorem evc_one (b : Ev) : ∀ u ∈ evc b, u.oneCell' = true := by intro u hu; simp [evc] at hu; rcases hu with rfl | rfl | rfl <;> rfl
theorem heap_of_cell {W : World} {a : Addr} {v : Value} (h : W.cell? a = some v) : a.block < W.heap.size := by
  unfold World.cell? at h
  rcases hh : W.heap[a.block]? with _ | o
  · rw [hh] at h; simp at h
  · exact heap_lt hh
def madeF (s : Ln × List Ev) (x : T3) : Ln × List Ev := if Ok s.1 (afterV s.1 x) then (nxt s.1 (afterV s.1 x), s.2 ++ [afterV s.1 x]) else s
def madeS (xs : List T3) : Ln × List Ev := (xs.take 16).foldl madeF (first, [])
def madeV (xs : List T3) : List Ev := (madeS xs).2
theorem madeF_ok {l : Ln} {out : List Ev} {x : T3} (h : Ok l (afterV l x)) : madeF (l, out) x = (nxt l (afterV l x), out ++ [afterV l x]) := if_pos h
theorem madeF_no {l : Ln} {out : List Ev} {x : T3} (h : ¬ Ok l (afterV l x)) : madeF (l, out) x = (l, out) := if_neg h
theorem made_fold (xs : List T3) (s : Ln × List Ev) (h1 : All first s.2) (h2 : fin first s.2 = s.1) : All first (xs.foldl madeF s).2 ∧ fin first (xs.foldl madeF s).2 = (xs.foldl madeF s).1 ∧ (xs.foldl madeF s).2.length ≤ s.2.length + xs.length := by
  induction xs generalizing s with
  | nil => exact ⟨h1, h2, by simp⟩
  | cons x xs ih =>
    obtain ⟨l, out⟩ := s
    rw [List.foldl_cons]
    by_cases h : Ok l (afterV l x)
    · rw [madeF_ok h]
      have := ih (nxt l (afterV l x), out ++ [afterV l x]) (by rw [all_app]; exact ⟨h1, by rw [h2]; exact ⟨h, trivial⟩⟩) (by rw [fin_app, h2]; rfl)
      refine ⟨this.1, this.2.1, ?_⟩
      have := this.2.2
      simp at this ⊢; omega
    · rw [madeF_no h]
      have := ih (l, out) h1 h2
      refine ⟨this.1, this.2.1, ?_⟩
      have := this.2.2
      simp at this ⊢; omega
theorem made_life (xs : List T3) : All first (madeV xs) ∧ (madeV xs).length ≤ 16 := by
  have h := made_fold (xs.take 16) (first, []) trivial rfl
  refine ⟨h.1, Nat.le_trans h.2.2 ?_⟩
  simp; omega
theorem made_step {xs : List T3} {j : Nat} (hj : j < xs.length) : (xs.take (j + 1)).foldl madeF (first, []) = madeF ((xs.take j).foldl madeF (first, [])) xs[j] := by
  rw [List.take_succ_eq_append_getElem hj, List.foldl_append]; rfl
theorem bcell2 {W w1 : World} (hb : Below W.heap.size W w1) : (∀ b o, b < W.heap.size → w1.cell? ⟨b, o, none⟩ = W.cell? ⟨b, o, none⟩) ∧ (∀ b o, b < W.heap.size → w1.frozen? ⟨b, o, none⟩ = W.frozen? ⟨b, o, none⟩) :=
  ⟨fun b o h => hb.cell (p := ⟨b, o, none⟩) h, fun b o h => hb.frozen (p := ⟨b, o, none⟩) h⟩
theorem own_keep {w w' : World} {base : Nat} {e : TypeId} {sz : Nat} {v : Value} {n : Nat} {xs : List Value} (h : w.ownsRow base e sz v n xs) (hk : ∀ k, base ≤ k → k < w.heap.size → w'.heap[k]? = w.heap[k]?) : w'.ownsRow base e sz v n xs := by
  obtain ⟨h1, h2⟩ := h
  refine ⟨h1, ?_⟩
  rcases h2 with ⟨rfl, rfl⟩ | ⟨g, cap, cur, rfl, hb, hg, hr⟩
  · exact .inl ⟨rfl, rfl⟩
  · exact .inr ⟨g, cap, cur, rfl, hb, (hk g hb (heap_lt hg)).trans hg, hr⟩
theorem set_other {W : World} {p k i : Nat} (u : Value) (h : k ≠ p) : (W.setCell ⟨p, i, none⟩ u).heap[k]? = W.heap[k]? := by
  simp [World.setCell, Array.getElem?_modify, Ne.symm h]
theorem set4v {w : World} {p : Nat} {t : TypeId} {x y z y' : Value} (u v s r : Value) (h : w.heap[p]? = some (.cells #[x, y, z, y'] t)) :
    ((((w.setCell ⟨p, 0, none⟩ u).setCell ⟨p, 1, none⟩ v).setCell ⟨p, 2, none⟩ s).setCell ⟨p, 3, none⟩ r).heap[p]? = some (.cells #[u, v, s, r] t) := by
  simp [World.setCell, Array.getElem?_modify, h]
theorem below_trans {a b c : World} (h : Below a.heap.size a b) (k : Below b.heap.size b c) : Below a.heap.size a c := h.trans (k.mono h.size)
theorem set3 {w : World} {p : Nat} {t : TypeId} {x y z : Value} (u v s : Value) (h : w.heap[p]? = some (.cells #[x, y, z] t)) :
    (((w.setCell ⟨p, 0, none⟩ u).setCell ⟨p, 1, none⟩ v).setCell ⟨p, 2, none⟩ s).heap[p]? = some (.cells #[u, v, s] t) := by
  simp [World.setCell, Array.getElem?_modify, h]
/-- the state of Made's loop -/
def MadeAt (xs : List T3) (w : World) (p : Nat) (o i : Value) (wr : World) : Prop :=
  ∃ (j : Nat) (l : Ln) (out : List Ev), j ≤ xs.length ∧ j ≤ 16 ∧ i = .int .i64 j ∧ (xs.take j).foldl madeF (first, []) = (l, out) ∧ out.length ≤ j ∧ Vld l ∧ wr.heap[p]? = some (.cells #[.int .i64 l.s, .int .i64 l.h, .int .i64 l.e, .int .i64 l.t] 26) ∧
    wr.ownsRow (p + 1) 54 3 o out.length (out.flatMap evc) ∧ Below w.heap.size w wr
set_option maxRecDepth 100000 in
set_option maxHeartbeats 3200000 in
theorem rmade_any (A : Option Addr) (c : Nat) (xs : List T3) (w : World) (hlen : xs.length ≤ maxLen) (hS : Span w w.heap.size 3 A xs.length (xs.flatMap tcells)) (hT : ∀ x ∈ xs, Tri x) :
    Calls Try.prog 5 #[.slice A xs.length c] w fun e w' => (∃ v, e = .returned v ∧ HoldsG evc 3 w' w'.heap.size v (madeV xs)) ∧ Below w.heap.size w w' := by
  unfold maxLen at hlen
  have HS := Lib.hid hS
  have HT := Lib.hid hT
  clear hS hT
  obtain ⟨i0, hi, hz0, hz1, hz2⟩ := info_parts infoEv
  go_enter Try.func5, Try.ntmps5
  go_upto_region 3 with (go_at_call 30; refine (rfirst_any _).mono ?_; rintro e w1 ⟨rfl, hb1⟩; dsimp only [lnA, first])
  obtain ⟨p, hp⟩ : ∃ p, p = w1.heap.size := ⟨_, rfl⟩
  have hpw : w.heap.size ≤ p := by rw [hp]; exact hb1.size
  have b0 : (w1.alloc (.cells #[.int .i64 0, .int .i64 (-1), .int .i64 0, .int .i64 0] 26)).heap[p]? = some (.cells #[.int .i64 0, .int .i64 (-1), .int .i64 0, .int .i64 0] 26) := by rw [hp]; exact newcell _ _
  have hb0 := below_then hb1 (below_new w1 (.cells #[.int .i64 0, .int .i64 (-1), .int .i64 0, .int .i64 0] 26))
  rw [← hp]
  generalize hW0 : w1.alloc (.cells #[.int .i64 0, .int .i64 (-1), .int .i64 0, .int .i64 0] 26) = W0
  rw [hW0] at b0 hb0
  have B0 := Lib.hid b0
  have HB0 := Lib.hid hb0
  clear hW0 b0 hb0 hb1 hp
  go_wp2_with fail
  go_loopw [4, 5] (fun o i wr => MadeAt xs w p o i wr) (fun _ i _ => 16 - (intOf i).toNat)
  case atStart => exact ⟨0, first, [], by omega, by omega, rfl, rfl, by simp, vld_first, B0.out, World.ownsRow_nil _ _ _ _, HB0.out⟩
  case round =>
    obtain ⟨j, l, out, hj, hj16, rfl, hfold, hol, hvl, hline, hown, hb⟩ := hrel
    by_cases hjn : j < xs.length
    · by_cases h16 : j < 16
      · have hmt := made_step hjn
        rw [hfold] at hmt
        have hTx := HT.out xs[j] (List.getElem_mem hjn)
        have hrow := rows_at tcells_len (HS.out.below hb (Nat.le_refl _)) (by decide) (List.getElem?_eq_getElem hjn)
        obtain ⟨x, hx⟩ : ∃ x, x = xs[j] := ⟨_, rfl⟩
        rw [← hx] at hmt hTx hrow
        obtain ⟨ad, rfl, hab, hat⟩ := hrow
        have x0 := hat.c0
        have x1 := hat.ck 0 rfl
        have x2 := hat.ck 1 rfl
        have HMT := Lib.hid hmt
        have HOWN := Lib.hid hown
        have HB := Lib.hid hb
        have HL := Lib.hid hline
        have HVL := Lib.hid hvl
        have HTX := Lib.hid hTx
        obtain ⟨c0, c1, c2, c3, f0, f1, f2, f3, hpl⟩ := ln_cells hline
        have hsz := hb.size
        have z0 : (0 : Int) ≤ (j : Int) := by omega
        have z1 : (j : Int) < (xs.length : Int) := by omega
        clear f0 f1 f2 f3 hx hmt hown hb hline hvl hTx hfold hat
        obtain ⟨ev, hev⟩ : ∃ ev, ev = afterV l x := ⟨_, rfl⟩
        have HEV := Lib.hid hev
        clear hev
        have HK : Hid (∀ W', Below wr.heap.size wr W' → (W'.cell? (ad.add (j * 3)) = some (.int .i64 x.1) ∧ W'.cell? ⟨(ad.add (j * 3)).block, (ad.add (j * 3)).off + (0 + 1), none⟩ = some (.int .i64 x.2.1) ∧ W'.cell? ⟨(ad.add (j * 3)).block, (ad.add (j * 3)).off + (1 + 1), none⟩ = some (.int .i64 x.2.2)) ∧
            W'.cell? ⟨p, 0, none⟩ = some (.int .i64 l.s) ∧ W'.cell? ⟨p, 1, none⟩ = some (.int .i64 l.h) ∧ W'.cell? ⟨p, 2, none⟩ = some (.int .i64 l.e) ∧ W'.cell? ⟨p, 3, none⟩ = some (.int .i64 l.t)) := Lib.hid fun W' hb' =>
          ⟨⟨(hb'.cell (p := ad.add (j * 3)) (heap_of_cell x0)).trans x0, (hb'.cell (p := ⟨(ad.add (j * 3)).block, (ad.add (j * 3)).off + (0 + 1), none⟩) (heap_of_cell x1)).trans x1, (hb'.cell (p := ⟨(ad.add (j * 3)).block, (ad.add (j * 3)).off + (1 + 1), none⟩) (heap_of_cell x2)).trans x2⟩,
            (hb'.cell (p := ⟨p, 0, none⟩) hpl).trans c0, (hb'.cell (p := ⟨p, 1, none⟩) hpl).trans c1, (hb'.cell (p := ⟨p, 2, none⟩) hpl).trans c2, (hb'.cell (p := ⟨p, 3, none⟩) hpl).trans c3⟩
        have l0 := World.new_ne wr (ad.add (j * 3)) x0
        have l1 := World.new_ne wr ⟨p, 0, none⟩ c0
        have l2 : (ad.add (j * 3)).block < wr.heap.size := heap_of_cell x0
        have l3 : wr.heap.size ≠ p := by omega
        go_upto_region 6 with fail
        go_cut [6] (fun s6 wx => ∃ g : Nat, s6 = .pointer (some ⟨g, 0, none⟩) ∧ wx.heap[g]? = some (.cells #[.int .i64 ev.k, .int .i64 ev.a, .int .i64 ev.h] 54) ∧ wr.heap.size ≤ g ∧ Below wr.heap.size wr wx)
        case first =>
          go_region_held3 (fun w' => w'.cell? (ad.add (j * 3)) = some (.int .i64 x.1) ∧ w'.cell? ⟨(ad.add (j * 3)).block, (ad.add (j * 3)).off + (0 + 1), none⟩ = some (.int .i64 x.2.1) ∧ w'.cell? ⟨(ad.add (j * 3)).block, (ad.add (j * 3)).off + (1 + 1), none⟩ = some (.int .i64 x.2.2) ∧ w'.cell? ⟨p, 0, none⟩ = some (.int .i64 l.s) ∧ w'.cell? ⟨p, 1, none⟩ = some (.int .i64 l.h) ∧ w'.cell? ⟨p, 2, none⟩ = some (.int .i64 l.e) ∧ w'.cell? ⟨p, 3, none⟩ = some (.int .i64 l.t)) (go_keep)
            (first | (go_at_call 31; refine (rafter_any l x _ HTX.out HVL.out).mono ?_; rintro e w2 ⟨rfl, hb2⟩; rw [← HEV.out]; dsimp only [evA]; have HB2 : Below wr.heap.size wr w2 := (by first | exact below_trans (Below.refl _ wr).drew hb2 | exact below_trans ((Below.refl _ wr).drew.alloc (Nat.le_refl _) _) hb2 | exact below_trans ((Below.refl _ wr).alloc (Nat.le_refl _) _).drew hb2); obtain ⟨⟨k0, k1, k2⟩, k3, k4, k5, k6⟩ := HK.out _ HB2; obtain ⟨hc1, hf1⟩ := bcell2 hb2))
          · go_wp2_with fail
            go_meet
            exact ⟨w2.heap.size, rfl, newcell _ _, HB2.size, HB2.alloc HB2.size _⟩
          · have hh : w2.heap[wr.heap.size]? = some (.cells #[.int .i64 0, .int .i64 0, .int .i64 0] 54) := (hb2.block _ (by show _ < (wr.alloc _).heap.size; simp)).trans (newcell wr _)
            go_wp2_with fail
            go_meet
            exact ⟨wr.heap.size, rfl, set3 _ _ _ hh, Nat.le_refl _, ((HB2.setCell (Nat.le_refl _) _).setCell (Nat.le_refl _) _).setCell (Nat.le_refl _) _⟩
        case rest =>
          obtain ⟨g, rfl, hg, hgl, hbx⟩ := hcut
          clear x0 x1 x2 c0 c1 c2 c3 l0 l1 l2 l3
          obtain ⟨_, c0, c1, c2, c3⟩ := HK.out _ hbx
          obtain ⟨g0, g1, g2, _, _, _, hgz⟩ := ev_cells (x := ev) hg
          have HBX := Lib.hid hbx
          have HG := Lib.hid hg
          have hszx := hbx.size
          clear hg hbx
          have hmf : madeF (l, out) x = if Ok l ev then (nxt l ev, out ++ [ev]) else (l, out) := by unfold madeF; simp only; rw [← HEV.out]
          by_cases hok : Ok l ev
          · rw [if_pos hok] at hmf
            obtain ⟨m, hm⟩ : ∃ m, m = nxt l ev := ⟨_, rfl⟩
            have hvm : Vld m := by rw [hm]; exact nxt_vld hok
            have hst : stepR l ev = (m, 0) := by rw [stepR_ok hok, hm]
            rw [← hm] at hmf
            have HMF := Lib.hid hmf
            have HST := Lib.hid hst
            have HVM := Lib.hid hvm
            clear hok hm hvm hst hmf
            go_upto_region 9 with ((go_at_call 24; refine (rstep_any l ev _).mono ?_; rintro e w3 ⟨rfl, hb3⟩; rw [HST.out]; dsimp only [lnA]))
            have hb4 : Below wr.heap.size wr (w3.alloc (.cells #[.int .i64 m.s, .int .i64 m.h, .int .i64 m.e, .int .i64 m.t] 26)) := (below_trans HBX.out hb3).alloc (below_trans HBX.out hb3).size _
            have k4 := newcell w3 (.cells #[.int .i64 m.s, .int .i64 m.h, .int .i64 m.e, .int .i64 m.t] 26)
            have kg := oldcell (.cells #[.int .i64 m.s, .int .i64 m.h, .int .i64 m.e, .int .i64 m.t] 26) (keepcell HG.out hb3)
            have hg3 : g < w3.heap.size := Nat.lt_of_lt_of_le hgz hb3.size
            have hp3 : p < w3.heap.size := Nat.lt_of_lt_of_le hpl (below_trans HBX.out hb3).size
            generalize hW4 : w3.alloc (.cells #[.int .i64 m.s, .int .i64 m.h, .int .i64 m.e, .int .i64 m.t] 26) = W4
            rw [hW4] at hb4 k4 kg
            have kp := (hb4.block _ hpl).trans HL.out
            obtain ⟨r, hr⟩ : ∃ r, r = w3.heap.size := ⟨_, rfl⟩
            rw [← hr] at k4 hg3 hp3 ⊢
            have HKP := Lib.hid kp
            have HKG := Lib.hid kg
            have HB4 := Lib.hid hb4
            have hsz4 := hb4.size
            clear hW4 hr hb3 c0 c1 c2 c3 g0 g1 g2 hb4
            obtain ⟨c0, c1, c2, c3, f0, f1, f2, f3, hpl4⟩ := ln_cells kp
            obtain ⟨d0, d1, d2, d3, _, _, _, _, hrl4⟩ := ln_cells k4
            clear k4 kp kg
            have n1 : p ≠ r := by omega
            go_upto_region 10 with fail
            have hgp : g ≠ p := by omega
            generalize hW5 : (((W4.setCell ⟨p, 0, none⟩ (.int .i64 m.s)).setCell ⟨p, 1, none⟩ (.int .i64 m.h)).setCell ⟨p, 2, none⟩ (.int .i64 m.e)).setCell ⟨p, 3, none⟩ (.int .i64 m.t) = W5
            have kp5 := Lib.hid (show W5.heap[p]? = some (.cells #[.int .i64 m.s, .int .i64 m.h, .int .i64 m.e, .int .i64 m.t] 26) by rw [← hW5]; exact set4v _ _ _ _ HKP.out)
            have kg5 : W5.heap[g]? = some (.cells #[.int .i64 ev.k, .int .i64 ev.a, .int .i64 ev.h] 54) := by rw [← hW5, set_other _ hgp, set_other _ hgp, set_other _ hgp, set_other _ hgp]; exact HKG.out
            have own5 : W5.ownsRow (p + 1) 54 3 u4 out.length (out.flatMap evc) := own_keep HOWN.out (fun k hk hk2 => by
              have hkp : k ≠ p := by omega
              rw [← hW5, set_other _ hkp, set_other _ hkp, set_other _ hkp, set_other _ hkp]; exact HB4.out.block k hk2)
            have hb5 : Below w.heap.size w W5 := by rw [← hW5]; exact (((((below_trans HB.out HB4.out).setCell hpw _).setCell hpw _).setCell hpw _).setCell hpw _)
            clear hW5 c0 c1 c2 c3 f0 f1 f2 f3 d0 d1 d2 d3 hpl4 hrl4 n1
            have hp5 := heap_lt kp5.out
            obtain ⟨g0, g1, g2, _, _, _, hg5⟩ := ev_cells (x := ev) kg5
            have HB5 := Lib.hid hb5
            have hsz5 := hb5.size
            clear kg5 hb5
            go_wp2_with (at_builtin; refine wpList_append_own _ rfl _ _ 24 rfl (p + 1) 54 i0 _ 3 24 Try.underlying24 hi hz0 hz1 hz2 rfl (by decide) _ _ _ rfl (own5.alloc _) ⟨W5.heap.size, 0, none⟩ 1 1 (evc ev) rfl rfl (news_ev _ _) (evc_one _) (by unfold maxLen; omega) (by omega) (by simp; omega) ?_; intro v' w6 hown6 hgrow6 hnil6; clear hnil6)
            have hne : some p ≠ u4.ownBlock := fun e => by have := (own5.lt p e.symm).1; omega
            exact ⟨⟨j + 1, m, out ++ [ev], by omega, by omega, by go_num, by rw [HMT.out]; exact HMF.out, by simp; omega, HVM.out, (hgrow6.block p (by simp; omega) hne).trans (oldcell _ kp5.out), by rw [evcs_snoc]; simpa using hown6, own_append_below HB5.out hgrow6 own5⟩, by simp [intOf]; omega⟩
          · rw [if_neg hok] at hmf
            have hst : stepR l ev = (zero, 140) := stepR_no hok
            have HMF := Lib.hid hmf
            have HST := Lib.hid hst
            clear hok hst hmf
            go_wp2_with ((go_at_call 24; refine (rstep_any l ev _).mono ?_; rintro e w3 ⟨rfl, hb3⟩; rw [HST.out]; dsimp only [lnA, zero]))
            have hbx3 : Below wr.heap.size wr w3 := below_trans HBX.out hb3
            have hbxa := hbx3.alloc hbx3.size (.cells #[.int .i64 0, .int .i64 0, .int .i64 0, .int .i64 0] 26)
            exact ⟨⟨j + 1, l, out, by omega, by omega, by go_num, by rw [HMT.out]; exact HMF.out, by omega, HVL.out, (hbxa.block _ hpl).trans HL.out, own_keep HOWN.out (fun k _ hk => hbxa.block k hk), below_trans HB.out hbxa⟩, by simp [intOf]; omega⟩
      · have HM : Hid (madeV xs = out) := Lib.hid (by rw [madeV, madeS, show 16 = j by omega, hfold])
        have h16b : j = 16 := by omega
        subst h16b
        have HOWN := Lib.hid hown
        clear hown
        go_wp2_with fail
        go_ret
        exact ⟨⟨_, rfl, by rw [HM.out]; exact HoldsG.of_own HOWN.out⟩, hb⟩
    · have HM : Hid (madeV xs = out) := Lib.hid (by rw [madeV, madeS, List.take_of_length_le (by omega)]; rw [List.take_of_length_le (by omega)] at hfold; rw [hfold])
      have HOWN := Lib.hid hown
      clear hown
      go_wp2_with fail
      go_ret
      exact ⟨⟨_, rfl, by rw [HM.out]; exact HoldsG.of_own HOWN.out⟩, hb⟩
end Go.Proofs.Ytjhakonpnopcnaa
