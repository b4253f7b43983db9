/-
  dialtoneref13: Differ.
-/
import Derived.Test.YtmgippddljmfjaaWalk15
namespace Go.Proofs.Ytmgippddljmfjaa
open Go Go.RowKit Go.Dial Go.Dial.Blk

theorem dcells_one (b : B3) : ∀ u ∈ dcells b, u.oneCell' = true := by simp [dcells, Value.oneCell']
theorem news_rng' (W : World) (b : B3) : ∀ j u, (dcells b)[j]? = some u → (W.alloc (.cells #[.int .i64 b.f, .int .i64 b.t] 26)).drew.cell? ((⟨W.heap.size, 0, none⟩ : Addr).add j) = some u := news_rng W b
theorem foldE_zero (a b : List B3) (E : List Int) (i : Nat) : ∀ x ∈ foldE diffG a b E i, x.c = 0 := by
  induction i with
  | zero => simp [foldE]
  | succ i ih =>
    rw [foldE]
    obtain ⟨k, hk⟩ : ∃ k, k = diffG (hold a (E.getD i 0)) (hold b (E.getD i 0)) := ⟨_, rfl⟩
    rw [← hk]
    have hk2 : k = -1 ∨ k = 0 := by rw [hk, diffG]; split <;> simp
    rcases hk2 with rfl | rfl
    · rw [step_none]; exact ih
    · rcases List.eq_nil_or_concat (foldE diffG a b E i) with e | ⟨l', z, e⟩
      · rw [e, step_nil _ _ _ (by decide)]; simp
      · rw [List.concat_eq_append] at e
        rw [e, step_snoc _ _ _ _ _ (by decide)]
        rw [e] at ih
        split <;> (intro x hx; simp at hx)
        · rcases hx with hx | rfl
          · exact ih x (by simp [hx])
          · rfl
        · rcases hx with hx | rfl | rfl
          · exact ih x (by simp [hx])
          · exact ih _ (by simp)
          · rfl
theorem good_diff : ∀ x y, -1 ≤ x → x ≤ 7 → -1 ≤ y → y ≤ 7 → -1 ≤ diffG x y ∧ diffG x y ≤ 7 := fun x y _ _ _ _ => by unfold diffG; split <;> omega
theorem rdiffer_no (va vb : Value) (as_ bs : List B3) (w : World) (hva : HoldsB w w.heap.size va as_) (hvb : HoldsB w w.heap.size vb bs) (hno : ¬ (validB as_ = true ∧ validB bs = true)) :
    Calls Try.prog 45 #[va, vb] w (ResR w (diffV as_ bs)) := by
  have HV := Lib.hid (show diffV as_ bs = ([], 130) from if_neg hno)
  by_cases t0 : validB as_ = true
  · have u1 : validB bs = false := by
      cases h : validB bs with
      | false => rfl
      | true => exact absurd ⟨t0, h⟩ hno
    clear hno
    go_enter Try.func45, Try.ntmps45
    go_wp2_with fail
    refine (rvalidH_any va as_ _ hva).mono ?_
    rintro e w1 ⟨rfl, HB⟩
    rw [t0]
    go_wp2_with fail
    refine (rvalidH_any vb bs _ (hvb.later HB)).mono ?_
    rintro e w2 ⟨rfl, H1⟩
    replace H1 := below_trans HB H1
    rw [u1]
    go_wp2_with fail
    go_ret2
    exact ResR.none HV.out H1
  · have u0 : validB as_ = false := by simpa using t0
    clear t0 hno
    go_enter Try.func45, Try.ntmps45
    go_wp2_with fail
    refine (rvalidH_any va as_ _ hva).mono ?_
    rintro e w1 ⟨rfl, HB⟩
    rw [u0]
    go_wp2_with fail
    go_ret2
    exact ResR.none HV.out HB
set_option maxRecDepth 100000 in
set_option maxHeartbeats 4000000 in
theorem rdiffer_yes (va vb : Value) (a b : List B3) (wo : World) (hva0 : HoldsB wo wo.heap.size va a) (hvb0 : HoldsB wo wo.heap.size vb b) (t0 : validB a = true) (t1 : validB b = true) :
    Calls Try.prog 45 #[va, vb] wo (ResR wo (diffV a b)) := by
  have HV := Lib.hid (show diffV a b = _ from if_pos ⟨t0, t1⟩)
  go_enter Try.func45, Try.ntmps45
  go_wp2_with fail
  refine (rvalidH_any va a _ hva0).mono ?_
  rintro e w1 ⟨rfl, HB⟩
  rw [t0]
  go_wp2_with fail
  refine (rvalidH_any vb b _ (hvb0.later HB)).mono ?_
  rintro e w ⟨rfl, H1⟩
  rw [t1]
  replace H1 := below_trans HB H1
  have HA := hva0.later H1
  have HBB := hvb0.later H1
  obtain ⟨A0, d0, rfl, _, hd0, sp0⟩ := HA
  obtain ⟨A1, d1, rfl, _, hd1, sp1⟩ := HBB
  have SP0 := Lib.hid sp0
  have SP1 := Lib.hid sp1
  have HCA := Lib.hid (validB_iff.1 t0).2
  have HCB := Lib.hid (validB_iff.1 t1).2
  have hl0 := (validB_iff.1 t0).1
  have hl1 := (validB_iff.1 t1).1
  have HW := Lib.hid H1
  clear sp0 sp1 HB H1 hva0 hvb0 t0 t1 hd0 hd1
  go_wp2_with fail
  refine (edges_any A0 A1 d0 d1 a b w (by omega) (by omega) SP0.out SP1.out HCA.out HCB.out).mono ?_
  rintro e w1 ⟨⟨ve, rfl, hE⟩, hb1⟩
  obtain ⟨i1, i2, i3, i4⟩ := insE_spec a (canon_rng HCA.out) EOk.two
  obtain ⟨q1, q2, q3, q4⟩ := insE_spec b (canon_rng HCB.out) i1
  simp only [List.length_cons, List.length_nil] at i4
  obtain ⟨E, hEE⟩ : ∃ E, E = edgesL a b := ⟨_, rfl⟩
  have hq4 : E.length ≤ 182 := by rw [hEE]; show (insE _ b).length ≤ _; omega
  have HEO : Hid (EOk E) := Lib.hid (by rw [hEE]; exact q1)
  have HCUT : Hid ((∀ x ∈ a, x.f ∈ E ∧ x.t ∈ E) ∧ ∀ x ∈ b, x.f ∈ E ∧ x.t ∈ E) := Lib.hid ⟨fun x hx => by rw [hEE]; exact ⟨q2 _ (i3 x hx).1, q2 _ (i3 x hx).2⟩, fun x hx => by rw [hEE]; exact q3 x hx⟩
  rw [← hEE] at hE
  have hpos := HEO.out.pos
  clear i1 i2 i3 i4 q1 q2 q3 q4 hEE
  obtain ⟨Ae, ce, rfl, he1, he2, spe⟩ := hE
  have SPE := Lib.hid spe
  have SA := Lib.hid (SP0.out.below hb1 (Nat.le_refl _))
  have SB := Lib.hid (SP1.out.below hb1 (Nat.le_refl _))
  have HB1 := Lib.hid hb1
  have hsz1 := hb1.size
  unfold maxLen at he2
  clear spe hb1 SP0 SP1
  go_wp2_with fail
  go_loopw [7, 8] (fun o i wr => ∃ j : Nat, j + 1 ≤ E.length ∧ i = .int .i64 j ∧ wr.ownsRow w1.heap.size 26 2 o (foldE diffG a b E j).length (dcs (foldE diffG a b E j)) ∧ Below w1.heap.size w1 wr) (fun _ i _ => E.length - (intOf i).toNat)
  case atStart => exact ⟨0, by omega, rfl, World.ownsRow_nil _ _ _ _, Below.refl _ _⟩
  case round =>
    obtain ⟨j, hj, rfl, hrow, hbe⟩ := hrel
    by_cases hjn : j + 1 < E.length
    · obtain ⟨x0, hx0⟩ : ∃ x, x = E[j] := ⟨_, rfl⟩
      obtain ⟨x1, hx1⟩ : ∃ x, x = E[j + 1] := ⟨_, rfl⟩
      have HX0 : Hid (E[j]? = some x0) := Lib.hid (by rw [hx0]; exact List.getElem?_eq_getElem (by omega))
      have HX1 : Hid (E[j + 1]? = some x1) := Lib.hid (by rw [hx1]; exact List.getElem?_eq_getElem hjn)
      clear hx0 hx1
      obtain ⟨X, hX⟩ : ∃ X, X = hold a x0 := ⟨_, rfl⟩
      obtain ⟨Y, hY⟩ : ∃ Y, Y = hold b x0 := ⟨_, rfl⟩
      have HFE : Hid (foldE diffG a b E (j + 1) = Blk.step (foldE diffG a b E j) x0 x1 (diffG X Y)) := Lib.hid (by rw [foldE]; simp [List.getD_eq_getElem?_getD, HX0.out, HX1.out, hX, hY])
      have HX := Lib.hid hX
      have HY := Lib.hid hY
      clear hX hY
      obtain ⟨ae, hae, hab, cx0⟩ := span_int (SPE.out.below hbe (Nat.le_refl _)) HX0.out
      subst hae
      obtain ⟨ae', hae', _, cx1⟩ := span_int (SPE.out.below hbe (Nat.le_refl _)) HX1.out
      cases hae'
      have s1 : IntKind.i64.wrap ((j : Int) + 1) = ((j + 1 : Nat) : Int) := by rw [IntWalk.i64_in _ (by omega)]; omega
      have s2 : ((j + 1 : Nat) : Int) < (E.length : Int) := by omega
      have hrA := (SA.out.below hbe hsz1).mono (Nat.le_trans hsz1 hbe.size)
      have hrB := (SB.out.below hbe hsz1).mono (Nat.le_trans hsz1 hbe.size)
      have HRA := Lib.hid hrA
      have HRB := Lib.hid hrB
      clear hrA hrB
      have z0 : (0 : Int) ≤ (j : Int) := by omega
      have z1 : (j : Int) < (E.length : Int) := by omega
      have HQA : Hid (∀ n, Calls Try.prog 64 #[.slice A0 a.length d0, .int .i64 x0] (wr.drewN n) fun e w' => e = .returned (.int .i64 X) ∧ w' = wr.drewN n) := Lib.hid fun n => by rw [HX.out]; exact rholder_any A0 d0 a x0 (wr.drewN n) (by unfold maxLen; omega) HRA.out
      have HQB : Hid (∀ n, Calls Try.prog 64 #[.slice A1 b.length d1, .int .i64 x0] (wr.drewN n) fun e w' => e = .returned (.int .i64 Y) ∧ w' = wr.drewN n) := Lib.hid fun n => by rw [HY.out]; exact rholder_any A1 d1 b x0 (wr.drewN n) (by unfold maxLen; omega) HRB.out
      go_upto_region 8 with fail
      go_quiet (first | (go_at_call_of 64 (Value.slice A0 a.length d0); exact Calls.quiet_of_same (HQA.out _)) | (go_at_call_of 64 (Value.slice A1 b.length d1); exact Calls.quiet_of_same (HQB.out _)))
      obtain ⟨W3, hW3⟩ : ∃ W3, W3 = wr.drewN nq := ⟨_, rfl⟩
      rw [← hW3]
      replace cx0 : W3.cell? (ae.add j) = some (.int .i64 x0) := by rw [hW3]; exact cx0
      replace cx1 : W3.cell? (ae.add (j + 1)) = some (.int .i64 x1) := by rw [hW3]; exact cx1
      replace hbe : Below w1.heap.size w1 W3 := by rw [hW3]; exact below_dN hbe _
      replace hrow : W3.ownsRow w1.heap.size 26 2 u7 (foldE diffG a b E j).length (dcs (foldE diffG a b E j)) := by rw [hW3]; exact hrow
      clear hW3 HRA HRB HQA HQB nq
      obtain ⟨i0, hi, hz0, hz1, hz2⟩ := info_parts info26
      have hfl := foldE_len diffG a b E j
      have HCE : Hid (∀ W', Below w1.heap.size w1 W' → W'.cell? (ae.add j) = some (.int .i64 x0) ∧ W'.cell? ⟨ae.block, ae.off + (j + 1), none⟩ = some (.int .i64 x1)) := Lib.hid fun W' hb => by
        obtain ⟨a1, e1, _, k0⟩ := span_int (SPE.out.below hb (Nat.le_refl _)) HX0.out
        obtain ⟨a2, e2, _, k1⟩ := span_int (SPE.out.below hb (Nat.le_refl _)) HX1.out
        cases e1; cases e2
        exact ⟨k0, by rw [← add_pos ae j]; exact k1⟩
      by_cases hxy : X = Y
      · have HST : Hid (Blk.step (foldE diffG a b E j) x0 x1 (diffG X Y) = foldE diffG a b E j) := Lib.hid (by rw [diffG, if_pos hxy, step_none])
        have b0 : (X == Y) = true := by rw [beq_iff_eq]; exact hxy
        clear hxy
        go_wp2_with fail
        exact ⟨⟨j + 1, by omega, by go_num, by rw [HFE.out, HST.out]; exact hrow, hbe⟩, by simp [intOf]; omega⟩
      · have b0 : (X == Y) = false := by rw [beq_eq_false_iff_ne]; exact hxy
        have hdg : diffG X Y = 0 := if_neg hxy
        rcases List.eq_nil_or_concat (foldE diffG a b E j) with e | ⟨lst, q, e⟩
        · have HST : Hid (Blk.step (foldE diffG a b E j) x0 x1 (diffG X Y) = [] ++ [⟨x0, x1, 0⟩]) := Lib.hid (by rw [e, hdg, step_nil _ _ _ (by decide)]; rfl)
          rw [e] at hrow
          obtain ⟨A, c, rfl, _, _⟩ := own_slice hrow
          clear e hxy hdg
          simp only [List.length_nil] at hrow
          go_upto_region 10 with fail
          go_quiet (fail)
          obtain ⟨W4, hW4⟩ : ∃ W4, W4 = W3.drewN nq := ⟨_, rfl⟩
          rw [← hW4]
          have y0 : W4.cell? (ae.add j) = some (.int .i64 x0) := by rw [hW4]; exact cx0
          have y1 : W4.cell? ⟨ae.block, ae.off + (j + 1), none⟩ = some (.int .i64 x1) := by rw [hW4]; rw [← add_pos ae j]; exact cx1
          have g4 : Below w1.heap.size w1 W4 := by rw [hW4]; exact below_dN hbe _
          have e0 : (0 : Int) ≤ (j : Int) := by omega
          have e1 : (j : Int) < (E.length : Int) := by omega
          have e2 : (0 : Int) ≤ (j : Int) + 1 := by omega
          have e2' : (j : Int) + 1 < (E.length : Int) := by omega
          have e3 : ((j : Int) + 1).toNat = j + 1 := by omega
          have g2 : W4.ownsRow w1.heap.size 26 2 (.slice A 0 c) 0 (dcs []) := by rw [hW4]; exact hrow
          clear hW4 cx0 cx1 hbe hrow
          have hsz4 := g4.size
          go_upto_region 12 with fail
          go_region_held3 (fun w' => w'.cell? (ae.add j) = some (.int .i64 x0) ∧ w'.cell? ⟨ae.block, ae.off + (j + 1), none⟩ = some (.int .i64 x1)) (go_keep)
            ((refine step_append_lies _ (by rfl) (.tmp 69) (.tmp 80) 47 (by rfl) w1.heap.size 26 i0 _ 2 16 Try.underlying47 hi hz0 hz1 hz2 rfl (by omega) (.slice A 0 c) 0 (dcs []) (by rfl) ((g2.alloc _).drew) ⟨W4.heap.size, 0, none⟩ 1 1 (dcells ⟨x0, x1, 0⟩) (by rfl) (by rfl) (news_rng' _ _) (dcells_one _) (by omega) (by unfold maxLen; omega) (by omega) (Nat.le_trans hsz4 (by rw [size_ad]; exact Nat.le_succ _)) (W4.heap.size + 1) (size_ad _ _) ?_; intro gg cap w5 hown5 hgrow5 hat hlt5; have HG5 := Lib.hid (own_append_below' g4 hgrow5 g2 hsz4 (Nat.le_refl _)); have HO5 := Lib.hid hown5; clear hgrow5 hown5 hat; obtain ⟨z0, z1⟩ := HCE.out _ HG5.out))
          clear y0 y1 z0 z1 e0 e1 e2 e2' e3
          go_wp2_with fail
          exact ⟨⟨j + 1, by omega, by go_num, by rw [HFE.out, HST.out]; exact (by have h5 := HO5.out; simpa [dcs] using h5), HG5.out⟩, by simp [intOf]; omega⟩
        · rw [List.concat_eq_append] at e
          have hll : lst.length + 1 ≤ 200 := by rw [e] at hfl; simp at hfl; omega
          have hq0c : q.c = 0 := foldE_zero a b E j q (by rw [e]; simp)
          rw [e] at hrow
          have hrow' := Lib.hid hrow
          obtain ⟨g', cap', rfl, hrb, hgl, hcap, hcm, c1, hfz, hset⟩ := last_rng hrow
          have hst : Blk.step (foldE diffG a b E j) x0 x1 (diffG X Y) = if q.t = x0 ∧ q.c = 0 then lst ++ [⟨q.f, x1, 0⟩] else (lst ++ [q]) ++ [⟨x0, x1, 0⟩] := by rw [e, hdg, step_snoc _ _ _ _ _ (by decide)]
          clear e hset hrow hfl hxy hdg
          have s3 : IntKind.i64.wrap (((lst.length + 1 : Nat) : Int) - 1) = (lst.length : Int) := by rw [IntWalk.i64_in _ (by omega)]; omega
          have s4 : (0 : Int) < ((lst.length + 1 : Nat) : Int) := by omega
          by_cases e1 : q.t = x0
          · have b1 : (q.t == x0) = true := by rw [beq_iff_eq]; exact e1
            have HST : Hid (Blk.step (foldE diffG a b E j) x0 x1 (diffG X Y) = lst ++ [⟨q.f, x1, 0⟩]) := Lib.hid (by rw [hst, if_pos ⟨e1, hq0c⟩])
            clear e1 hst hq0c
            go_upto_region 10 with fail
            go_quiet (fail)
            obtain ⟨W4, hW4⟩ : ∃ W4, W4 = W3.drewN nq := ⟨_, rfl⟩
            rw [← hW4]
            have y0 : W4.cell? (ae.add j) = some (.int .i64 x0) := by rw [hW4]; exact cx0
            have y1 : W4.cell? ⟨ae.block, ae.off + (j + 1), none⟩ = some (.int .i64 x1) := by rw [hW4]; rw [← add_pos ae j]; exact cx1
            have g4 : Below w1.heap.size w1 W4 := by rw [hW4]; exact below_dN hbe _
            have e0 : (0 : Int) ≤ (j : Int) := by omega
            have e1 : (j : Int) < (E.length : Int) := by omega
            have e2 : (0 : Int) ≤ (j : Int) + 1 := by omega
            have e2' : (j : Int) + 1 < (E.length : Int) := by omega
            have e3 : ((j : Int) + 1).toNat = j + 1 := by omega
            have g2 : W4.ownsRow w1.heap.size 26 2 (.slice (some ⟨g', 0, none⟩) (lst.length + 1) cap') (lst ++ [q]).length (dcs (lst ++ [q])) := by rw [hW4]; exact hrow'.out
            obtain ⟨_, _, hv, _, hgl4, _, _, c1', hfz', hset'⟩ := last_rng g2
            cases hv
            have HSET' := Lib.hid hset'
            clear hW4 cx0 cx1 hbe c1 hfz hset' g2
            have hsz4 := g4.size
            go_wp2_with fail
            obtain ⟨r1, r2⟩ := HSET'.out x1 0
            exact ⟨⟨j + 1, by omega, by go_num, by rw [HFE.out, HST.out]; exact r1, g4.grown r2 hsz4 (by intro jj hj; simp at hj; omega)⟩, by simp [intOf]; omega⟩
          · have b1 : (q.t == x0) = false := by rw [beq_eq_false_iff_ne]; exact e1
            have HST : Hid (Blk.step (foldE diffG a b E j) x0 x1 (diffG X Y) = (lst ++ [q]) ++ [⟨x0, x1, 0⟩]) := Lib.hid (by rw [hst, if_neg (fun h => e1 h.1)])
            clear e1 hst hq0c
            go_upto_region 10 with fail
            go_quiet (fail)
            obtain ⟨W4, hW4⟩ : ∃ W4, W4 = W3.drewN nq := ⟨_, rfl⟩
            rw [← hW4]
            have y0 : W4.cell? (ae.add j) = some (.int .i64 x0) := by rw [hW4]; exact cx0
            have y1 : W4.cell? ⟨ae.block, ae.off + (j + 1), none⟩ = some (.int .i64 x1) := by rw [hW4]; rw [← add_pos ae j]; exact cx1
            have g4 : Below w1.heap.size w1 W4 := by rw [hW4]; exact below_dN hbe _
            have e0 : (0 : Int) ≤ (j : Int) := by omega
            have e1 : (j : Int) < (E.length : Int) := by omega
            have e2 : (0 : Int) ≤ (j : Int) + 1 := by omega
            have e2' : (j : Int) + 1 < (E.length : Int) := by omega
            have e3 : ((j : Int) + 1).toNat = j + 1 := by omega
            have g2 : W4.ownsRow w1.heap.size 26 2 (.slice (some ⟨g', 0, none⟩) (lst.length + 1) cap') (lst.length + 1) (dcs (lst ++ [q])) := by rw [hW4]; have h2x := hrow'.out; simp only [List.length_append, List.length_singleton] at h2x; exact h2x
            clear hW4 cx0 cx1 hbe c1 hfz
            have hsz4 := g4.size
            go_upto_region 12 with fail
            go_region_held3 (fun w' => w'.cell? (ae.add j) = some (.int .i64 x0) ∧ w'.cell? ⟨ae.block, ae.off + (j + 1), none⟩ = some (.int .i64 x1)) (go_keep)
              ((refine step_append_lies _ (by rfl) (.tmp 69) (.tmp 80) 47 (by rfl) w1.heap.size 26 i0 _ 2 16 Try.underlying47 hi hz0 hz1 hz2 rfl (by omega) (.slice (some ⟨g', 0, none⟩) (lst.length + 1) cap') (lst.length + 1) (dcs (lst ++ [q])) (by rfl) ((g2.alloc _).drew) ⟨W4.heap.size, 0, none⟩ 1 1 (dcells ⟨x0, x1, 0⟩) (by rfl) (by rfl) (news_rng' _ _) (dcells_one _) (by omega) (by unfold maxLen; omega) (by omega) (Nat.le_trans hsz4 (by rw [size_ad]; exact Nat.le_succ _)) (W4.heap.size + 1) (size_ad _ _) ?_; intro gg cap w5 hown5 hgrow5 hat hlt5; have HG5 := Lib.hid (own_append_below' g4 hgrow5 g2 hsz4 (Nat.le_refl _)); have HO5 := Lib.hid hown5; clear hgrow5 hown5 hat; obtain ⟨z0, z1⟩ := HCE.out _ HG5.out))
            clear y0 y1 z0 z1 e0 e1 e2 e2' e3
            go_wp2_with fail
            exact ⟨⟨j + 1, by omega, by go_num, by rw [HFE.out, HST.out]; exact (by have h5 := HO5.out; rw [dcs_snoc]; simpa using h5), HG5.out⟩, by simp [intOf]; omega⟩
    · have hje : j = E.length - 1 := by omega
      have hfe : foldE diffG a b E j = foldS diffG (pieces a b 0) := by rw [hje]; exact foldE_eq good_diff HCA.out HCB.out HEO.out HCUT.out.1 HCUT.out.2
      rw [hfe] at hrow
      obtain ⟨A, c, rfl, hAc, hcm⟩ := own_slice hrow
      have hH : HoldsR wr wr.heap.size (.slice A (foldS diffG (pieces a b 0)).length c) (foldS diffG (pieces a b 0)) := ⟨A, c, rfl, hAc, hcm, Span.of_own hrow⟩
      have HH := Lib.hid hH
      have hwb := below_trans HW.out (below_trans HB1.out hbe)
      clear hfe hrow hje hH
      go_wp2_with fail
      go_ret2
      exact ⟨_, by rw [HV.out]; rfl, by rw [HV.out]; exact HH.out, hwb⟩
theorem rdiffer_any (va vb : Value) (as_ bs : List B3) (w : World) (hva : HoldsB w w.heap.size va as_) (hvb : HoldsB w w.heap.size vb bs) : Calls Try.prog 45 #[va, vb] w (ResR w (diffV as_ bs)) := by
  by_cases h : validB as_ = true ∧ validB bs = true
  · exact rdiffer_yes va vb as_ bs w hva hvb h.1 h.2
  · exact rdiffer_no va vb as_ bs w hva hvb h
end Go.Proofs.Ytmgippddljmfjaa
