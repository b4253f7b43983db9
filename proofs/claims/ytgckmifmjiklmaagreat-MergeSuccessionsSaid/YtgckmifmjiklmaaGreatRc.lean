/-
  The reference's Step and Events.
-/
import Derived.Test.YtgckmifmjiklmaaGreatRb
import Derived.Test.YtgckmifmjiklmaaGreatMn
set_option linter.unusedVariables false
set_option linter.unusedSimpArgs false
set_option maxRecDepth 100000
namespace Go.Proofs.YtgckmifmjiklmaaGreat
open Go Go.Sx Go.Dial.Blk Go.Dial.Mrg
theorem ref42_Copy_v (n : Nat) (w : Wd) (h1 : w.bl.length ≤ 1000) (h2 : w.ba.length ≤ 1000) (h3 : w.le.length ≤ 1000) : ref42_Copy n w.al w.ev (bL w.bl) (iL w.ba) (iL w.le) = some (wT w) := by
  unfold ref42_Copy ref42_Copy_1
  rw [List.length_map, ilen, ilen]
  exact gN (by omega) (gN (by omega) (gN (by omega) rfl))
theorem ref42_Step_v (n : Nat) (w : Wd) (e : Ev) (hn : 300 < n) : ref42_Step n w.al w.ev (bL w.bl) (iL w.ba) (iL w.le) e.k e.at_ e.a e.b e.c e.f e.t e.m = some (outW (stepW w e)) := by
  unfold ref42_Step ref42_Step_1
  rw [ref42_Valid_v n w (by omega), Option.bind_some]
  unfold ref42_Step_2
  refine cBN (fun hv => ?_) (fun hv => noW fun p => by rw [vB_true p.v] at hv; cases hv)
  have hw := vB_iff.1 hv
  rw [ref42_formed_v n e, Option.bind_some]
  unfold ref42_Step_3
  refine cN (fun hf => gN hf.a0 ?_) (fun hf => noW fun p => hf p.f)
  have A0 := hw.a0
  have A1 := hw.a1
  have il1 : ((iL w.ba).length : Int) = 8 := by rw [ilen, hw.bal]; rfl
  have il2 : ((iL w.le).length : Int) = 8 := by rw [ilen, hw.lel]; rfl
  obtain ⟨k, at_, a, b, c, f, t, m⟩ := e
  have t0 := hf.t0
  have t1 := hf.t1
  have a0 := hf.a0
  have a1 := hf.a1
  have b0 := hf.b0
  have b1 := hf.b1
  have c0 := hf.c0
  have c1 := hf.c1
  have hfew := hw.few
  dsimp only at t0 t1 a0 a1 b0 b1 c0 c1 ⊢
  unfold ref42_Step_4
  rw [shr_mod A0 A1 a0 a1]
  refine cBN (fun ha => ?_) (fun h => noW fun p => by have := p.c.a; rw [h] at this; cases this)
  rw [ref42_Copy_v n w (by omega) (by rw [hw.bal]; decide) (by rw [hw.lel]; decide), Option.bind_some]
  dsimp only
  have q1 := hw.b0 a a0 a1
  have q2 := hw.b0 b b0 b1
  have q3 := hw.b0 c c0 c1
  unfold ref42_Step_5
  refine cF (fun hk => gN b0 ?_) (fun hk1 => ?_)
  · subst hk
    obtain ⟨f0, t0', m0⟩ := hf.bare (.inl rfl)
    have hc0 := hf.noC (show ¬ (1 : Int) = 3 by decide)
    dsimp only at f0 t0' m0 hc0
    subst f0; subst t0'; subst m0; subst hc0
    have hab : a ≠ b := hf.other (show ¬ (1 : Int) = 4 by decide)
    have hf2 : Frm ⟨2, at_, a, b, 0, 0, 100000000, 0⟩ := ⟨t0, t1, a0, a1, b0, b1, (show (0 : Int) ≤ 0 by decide), (show (0 : Int) ≤ 7 by decide), (show 1 ≤ (2 : Int) ∧ (2 : Int) ≤ 4 by decide), fun h => by simp at h, fun _ => ⟨(show (0 : Int) ≤ 0 by decide), (show (0 : Int) < 100000000 by decide), (show (100000000 : Int) ≤ 100000000 by decide), (show -1000000000000 ≤ (0 : Int) by decide), (show (0 : Int) ≤ 1000000000000 by decide)⟩, fun _ => rfl, fun h => by simp at h, fun _ => hab, fun h => by simp at h⟩
    have hh := ref42_hand_v n w.bl hw.can hw.few hf2 rfl (by omega)
    dsimp only at hh
    have hMr : mapOf (fun m => rho ⟨2, at_, a, b, 0, 0, 100000000, 0⟩ m (hold w.bl m)) = mapOf fun m => rho ⟨1, at_, a, b, 0, 0, 0, 0⟩ m (hold w.bl m) := by
      refine mapOf_eq ((rho_map hf hw.can).congr fun x x0 x1 => ?_)
      unfold rho
      simp [x0, x1]
    have hM := rho_map hf hw.can
    have hsw : (fun m => rho ⟨1, at_, a, b, 0, 0, 0, 0⟩ m (hold w.bl m)) = fun m => swR a b (hold w.bl m) := by
      funext m
      unfold rho swR
      simp
    have hlen : (mapOf fun m => rho ⟨1, at_, a, b, 0, 0, 0, 0⟩ m (hold w.bl m)).length ≤ w.bl.length := by
      rw [hsw]
      exact relabel_len hw.can (swR a b) (by unfold swR; rw [if_neg (by omega)]) (swap_map hw.can (f := a) b0 b1)
    unfold combR at hh
    rw [hMr, if_pos (by omega)] at hh
    dsimp only at hh
    rw [hh, Option.bind_some, shr_mod A0 A1 b0 b1, gcell hw.bal b0 b1, gcell hw.bal a0 a1]
    refine gN (by omega) (gN (by omega) (gO (by omega) (by omega) (gN (by omega) (gN (by omega) ?_))))
    refine cBN (fun hb => ?_) (fun h => noW fun p => by have := p.c.m rfl; rw [h] at this; cases this)
    dsimp only
    refine cN (fun _ => ?_) (fun h => absurd rfl h)
    have e1 : (aft w ⟨1, at_, a, b, 0, 0, 0, 0⟩).al = IOp.f .andNot w.al (IOp.f .shl 1 a) := by rw [andnot_shl A0 A1 a0 a1]; rfl
    have e2 : (aft w ⟨1, at_, a, b, 0, 0, 0, 0⟩).ev = w.ev := rfl
    have e3 : bL (aft w ⟨1, at_, a, b, 0, 0, 0, 0⟩).bl = bL (mapOf fun m => rho ⟨1, at_, a, b, 0, 0, 0, 0⟩ m (hold w.bl m)) := rfl
    have e4 : iL (aft w ⟨1, at_, a, b, 0, 0, 0, 0⟩).ba = List.modify (List.modify (iL w.ba) b.toNat (fun r => r.set 0 (AV.int (g w.ba b + g w.ba a)))) a.toNat (fun r => r.set 0 (AV.int 0)) := by rw [imod, imod]; rfl
    have e5 : iL (aft w ⟨1, at_, a, b, 0, 0, 0, 0⟩).le = List.modify (iL w.le) a.toNat (fun r => r.set 0 (AV.int 0)) := by rw [imod]; rfl
    have hV := ref42_Valid_v n (aft w ⟨1, at_, a, b, 0, 0, 0, 0⟩) (by omega)
    rw [e1, e2, e3, e4, e5] at hV
    rw [hV, Option.bind_some]
    refine cBN (fun h => ?_) (fun h => noW fun p => by rw [vB_true p.v2] at h; cases h)
    exact yesW ⟨hw, hf, ⟨ha, fun _ => hb, fun h => by simp at h, fun h => by simp at h, fun h => by simp at h⟩, vB_iff.1 h⟩ e1 e2 e3 e4 e5
  unfold ref42_Step_6
  refine cF (fun hk => gN b0 ?_) (fun hk2 => ?_)
  · subst hk
    have hc0 := hf.noC (show ¬ (2 : Int) = 3 by decide)
    dsimp only at hc0
    subst hc0
    have hab : a ≠ b := hf.other (show ¬ (2 : Int) = 4 by decide)
    obtain ⟨f0, f1, f2, m0, m1⟩ := hf.full (.inl rfl)
    dsimp only at f0 f1 f2 m0 m1
    have hh := ref42_hand_v n w.bl hw.can hw.few hf rfl (by omega)
    dsimp only at hh
    rw [hh, Option.bind_some, shr_mod hw.e0 hw.e1 b0 b1, gcell hw.bal a0 a1, gcell hw.lel a0 a1]
    refine gN (by omega) (gN (by omega) (gO (by omega) (by omega) (gN (by omega) (gN (by omega) (gN (by omega) ?_)))))
    rw [beq_true]
    refine cB (fun h => noW fun p => by have := p.c.s rfl; rw [h] at this; cases this) (fun hb => ?_)
    unfold combR
    by_cases h40 : (mapOf fun n => rho ⟨2, at_, a, b, 0, f, t, m⟩ n (hold w.bl n)).length ≤ 40
    case neg =>
      rw [if_neg h40]
      dsimp only
      exact cN (fun h => absurd h (show ¬ (130 : Int) = 0 by decide)) (fun _ => noW fun p => h40 p.v2.few)
    rw [if_pos h40]
    dsimp only
    refine cN (fun _ => ?_) (fun h => absurd rfl h)
    have e1 : (aft w ⟨2, at_, a, b, 0, f, t, m⟩).al = IOp.f .or w.al (IOp.f .shl 1 b) := by rw [or_shl A0 A1 b0 b1]; rfl
    have e2 : (aft w ⟨2, at_, a, b, 0, f, t, m⟩).ev = IOp.f .or w.ev (IOp.f .shl 1 b) := by rw [or_shl hw.e0 hw.e1 b0 b1]; rfl
    have e3 : bL (aft w ⟨2, at_, a, b, 0, f, t, m⟩).bl = bL (mapOf fun n => rho ⟨2, at_, a, b, 0, f, t, m⟩ n (hold w.bl n)) := rfl
    have e4 : iL (aft w ⟨2, at_, a, b, 0, f, t, m⟩).ba = List.modify (List.modify (iL w.ba) b.toNat (fun r => r.set 0 (AV.int m))) a.toNat (fun r => r.set 0 (AV.int (g w.ba a - m))) := by
      rw [imod, imod]
      have : (w.ba.set b.toNat m).set a.toNat (g w.ba a - m) = (w.ba.set a.toNat (g w.ba a - m)).set b.toNat m := List.set_comm _ _ (by omega)
      rw [this]; rfl
    have e5 : iL (aft w ⟨2, at_, a, b, 0, f, t, m⟩).le = List.modify (iL w.le) b.toNat (fun r => r.set 0 (AV.int (g w.le a))) := by rw [imod]; rfl
    have hV := ref42_Valid_v n (aft w ⟨2, at_, a, b, 0, f, t, m⟩) (by omega)
    rw [e1, e2, e3, e4, e5] at hV
    rw [hV, Option.bind_some]
    refine cBN (fun h => ?_) (fun h => noW fun p => by rw [vB_true p.v2] at h; cases h)
    exact yesW ⟨hw, hf, ⟨ha, fun h => by simp at h, fun _ => hb, fun h => by simp at h, fun h => by simp at h⟩, vB_iff.1 h⟩ e1 e2 e3 e4 e5
  unfold ref42_Step_7
  refine cF (fun hk => gN b0 ?_) (fun hk3 => ?_)
  · subst hk
    have hab : a ≠ b := hf.other (show ¬ (3 : Int) = 4 by decide)
    have hac : a ≠ c := hf.third rfl
    obtain ⟨f0, f1, f2, m0, m1⟩ := hf.full (.inr rfl)
    dsimp only at f0 f1 f2 m0 m1
    have hout := ref42_outside_v n w.bl hw.can hw.few (x := a) (y := b) (z := c) (f := f) (t := t) f1 a0 b0 c0 (by omega)
    have hMo := out_map (x := a) (y := b) (z := c) f1 b0 b1 c0 c1 a0 hw.can
    have hG : (fun n => outG a b c f t n (hold w.bl n)) = fun n => rho ⟨3, at_, a, b, c, f, t, m⟩ n (hold w.bl n) := by
      funext x
      unfold outG rho
      by_cases hx : hold w.bl x = a
      · by_cases hr : f ≤ x ∧ x < t
        · simp [hx, hr]
        · simp [hx, hr]
      · simp [hx]
    rw [hG] at hMo
    have hbl : w.bl.foldl (outB a b c f t) [] = mapOf fun n => rho ⟨3, at_, a, b, c, f, t, m⟩ n (hold w.bl n) := (mapOf_eq hMo).symm
    rw [hbl] at hout
    have hMr := rho_map hf hw.can
    have hval : ∀ L : List B3, Canon L → vldB L = decide (L.length ≤ 40) := fun L hL => by
      have : ascB 0 (-1) L = true := (ascB_iff L 0 (-1)).2 hL
      rw [vldB, this, Bool.and_true]
    have hl8 : (w.ba.set b.toNat (g w.ba b + m)).length = 8 := by rw [List.length_set, hw.bal]
    have q4 : g (w.ba.set b.toNat (g w.ba b + m)) c = if c = b then g w.ba b + m else g w.ba c := g_set hw.bal b0 b1 c0 c1
    have q5 : -3000000000000 ≤ g (w.ba.set b.toNat (g w.ba b + m)) c ∧ g (w.ba.set b.toNat (g w.ba b + m)) c ≤ 3000000000000 := by rw [q4]; split <;> omega
    rw [hout, shr_mod A0 A1 b0 b1]
    refine cB (fun hb => gN c0 ?_) (fun hb => ?_)
    · rw [Option.bind_some, ref13_Valid_v n _ (by omega), Option.bind_some, hval _ hMr.1, shr_mod A0 A1 c0 c1, gcell hw.bal b0 b1, imod, gcell hl8 c0 c1, gcell hw.bal a0 a1]
      refine gN (by omega) (gO (by omega) (by omega) (gN (by omega) (gN (by omega) (gO (by omega) (by omega) (gO (by omega) (by omega) (gN (by omega) (gN (by omega) ?_)))))))
      refine cBN (fun hc => cN (fun h40 => ?_) (fun h => noW fun p => h p.v2.few)) (fun h => noW fun p => by have := (p.c.w3 rfl).2; rw [h] at this; cases this)
      have e1 : (aft w ⟨3, at_, a, b, c, f, t, m⟩).al = IOp.f .andNot w.al (IOp.f .shl 1 a) := by rw [andnot_shl A0 A1 a0 a1]; rfl
      have e2 : (aft w ⟨3, at_, a, b, c, f, t, m⟩).ev = w.ev := rfl
      have e3 : bL (aft w ⟨3, at_, a, b, c, f, t, m⟩).bl = bL (mapOf fun n => rho ⟨3, at_, a, b, c, f, t, m⟩ n (hold w.bl n)) := rfl
      have e4 : iL (aft w ⟨3, at_, a, b, c, f, t, m⟩).ba = List.modify (List.modify (iL (w.ba.set b.toNat (g w.ba b + m))) c.toNat (fun r => r.set 0 (AV.int ((g (w.ba.set b.toNat (g w.ba b + m)) c + g w.ba a) - m)))) a.toNat (fun r => r.set 0 (AV.int 0)) := by
        rw [imod, imod]
        show iL (((w.ba.set b.toNat (g w.ba b + m)).set c.toNat (g (w.ba.set b.toNat (g w.ba b + m)) c + (g w.ba a - m))).set a.toNat 0) = _
        rw [Int.add_sub_assoc]
      have e5 : iL (aft w ⟨3, at_, a, b, c, f, t, m⟩).le = List.modify (iL w.le) a.toNat (fun r => r.set 0 (AV.int 0)) := by rw [imod]; rfl
      have hV := ref42_Valid_v n (aft w ⟨3, at_, a, b, c, f, t, m⟩) (by omega)
      rw [e1, e2, e3, e4, e5] at hV
      rw [hV, Option.bind_some]
      refine cBN (fun h => ?_) (fun h => noW fun p => by rw [vB_true p.v2] at h; cases h)
      exact yesW ⟨hw, hf, ⟨ha, fun h => by simp at h, fun h => by simp at h, fun _ => ⟨hb, hc⟩, fun h => by simp at h⟩, vB_iff.1 h⟩ e1 e2 e3 e4 e5
    · rw [Option.bind_some, ref13_Valid_v n _ (by omega), Option.bind_some, gcell hw.bal b0 b1, imod, gcell hl8 c0 c1, gcell hw.bal a0 a1]
      refine gN (by omega) (gO (by omega) (by omega) (gN (by omega) (gN (by omega) (gN (by omega) (gO (by omega) (by omega) (gO (by omega) (by omega) (gN (by omega) (gN (by omega) ?_))))))))
      exact noW fun p => by have := (p.c.w3 rfl).1; rw [hb] at this; cases this
  have hk4 : k = 4 := by have h5 : 1 ≤ k ∧ k ≤ 4 := hf.kind; omega
  subst hk4
  obtain ⟨f0, t0', m0⟩ := hf.bare (.inr rfl)
  have hc0 := hf.noC (show ¬ (4 : Int) = 3 by decide)
  have hb0 := hf.noB rfl
  dsimp only at f0 t0' m0 hc0 hb0
  subst f0; subst t0'; subst m0; subst hc0; subst hb0
  refine iterF_ind (fun s => ∃ (i : Nat) (one : Bool), s = (one, (i : Int)) ∧ i ≤ 8 ∧ (one = true ↔ ∀ c, 0 ≤ c → c < (i : Int) → has w.al c = true → g w.le a ≤ g w.le c)) (fun s => 8 - s.2.toNat) _ ?_ n _ ⟨0, true, rfl, by omega, fun _ c h0 h1 => by omega, fun _ => rfl⟩ (by first | omega | (simp only; omega))
  rintro _ go ⟨i, one, rfl, hi, hall⟩ ih
  simp only at ih ⊢
  unfold ref42_Step_8
  have esucc : ((i + 1 : Nat) : Int) = (i : Int) + 1 := by omega
  refine cF (fun h8 => ?_) (fun h8 => ?_)
  · have i0 : (0 : Int) ≤ (i : Int) := by omega
    have i7 : (i : Int) ≤ 7 := by omega
    have hgo : ∀ x : Bool, (x = true ↔ ((∀ c, 0 ≤ c → c < (i : Int) → has w.al c = true → g w.le a ≤ g w.le c) ∧ (has w.al (i : Int) = true → g w.le a ≤ g w.le (i : Int)))) → go (x, (i : Int) + 1) = some (outW (stepW w ⟨4, at_, a, 0, 0, 0, 0, 0⟩)) := fun x hx => by
      refine ih _ ⟨i + 1, x, by rw [esucc], by omega, ?_⟩ (by first | omega | (simp only; omega))
      rw [hx]
      constructor
      · rintro ⟨h1, h2⟩ c p0 p1 p2
        by_cases hc : c < (i : Int)
        · exact h1 c p0 hc p2
        · have : c = (i : Int) := by omega
          subst this; exact h2 p2
      · intro h
        exact ⟨fun c p0 p1 p2 => h c p0 (by omega) p2, fun p => h _ i0 (by omega) p⟩
    rw [shr_mod A0 A1 i0 i7, gcell hw.lel a0 a1, gcell hw.lel i0 i7]
    refine cB (fun h1 => gN i0 (cBN (fun hh => gN (by omega) (gN (by omega) (gO (by omega) (by omega) (hgo _ ?_)))) (fun hh => gO (by omega) (by omega) (hgo _ ?_)))) (fun h1 => gO (by omega) (by omega) (hgo _ ?_))
    · rw [decide_eq_true_eq]
      exact ⟨fun h => ⟨hall.1 h1, fun _ => h⟩, fun h => h.2 hh⟩
    · exact ⟨fun _ => ⟨hall.1 h1, fun h => by rw [hh] at h; cases h⟩, fun _ => rfl⟩
    · exact ⟨(fun h => by cases h), fun h => by have := hall.2 h.1; rw [h1] at this; cases this⟩
  · have hi8 : i = 8 := by omega
    subst hi8
    have hl := hw.l0 a a0 a1
    rw [gcell hw.lel a0 a1]
    refine gN (by omega) (gO (by omega) (by omega) (cBN (fun h1 => ?_) (fun h1 => noW fun p => ?_)))
    · have e1 : (aft w ⟨4, at_, a, 0, 0, 0, 0, 0⟩).al = w.al := rfl
      have e2 : (aft w ⟨4, at_, a, 0, 0, 0, 0, 0⟩).ev = w.ev := rfl
      have e3 : bL (aft w ⟨4, at_, a, 0, 0, 0, 0, 0⟩).bl = bL w.bl := by
        have : (fun n => rho ⟨4, at_, a, 0, 0, 0, 0, 0⟩ n (hold w.bl n)) = hold w.bl := by
          funext m
          unfold rho
          simp
        show bL (mapOf fun n => rho ⟨4, at_, a, 0, 0, 0, 0, 0⟩ n (hold w.bl n)) = _
        rw [this, mapOf_hold hw.can]
      have e4 : iL (aft w ⟨4, at_, a, 0, 0, 0, 0, 0⟩).ba = iL w.ba := rfl
      have e5 : iL (aft w ⟨4, at_, a, 0, 0, 0, 0, 0⟩).le = List.modify (iL w.le) a.toNat (fun r => r.set 0 (AV.int (g w.le a + 1))) := by rw [imod]; rfl
      have hV := ref42_Valid_v n (aft w ⟨4, at_, a, 0, 0, 0, 0, 0⟩) (by omega)
      rw [e1, e2, e3, e4, e5] at hV
      rw [hV, Option.bind_some]
      refine cBN (fun h => ?_) (fun h => noW fun p => by rw [vB_true p.v2] at h; cases h)
      exact yesW ⟨hw, hf, ⟨ha, fun h => by simp at h, fun h => by simp at h, fun h => by simp at h, fun _ c p0 p1 hc => hall.1 h1 c p0 (by omega) hc⟩, vB_iff.1 h⟩ e1 e2 e3 e4 e5
    · have := hall.2 fun c p0 p1 p2 => p.c.u rfl c p0 (by omega) p2
      rw [h1] at this; cases this
/-- drawn events: possible one after the other -/
structure EvsOk (w : Wd) (l : List Ev) : Prop where
  g : Dial.Mrg.Good w l
  few : l.length ≤ 8
  late : ∀ e ∈ l, e.at_ ≤ 32
  m : ∀ e ∈ l, -200 ≤ e.m ∧ e.m ≤ 200
theorem ref42_Events_v (n : Nat) (w : Wd) (hw : WV w) (xs : List Sev) (hx : ∀ x ∈ xs, Sev64 x) (hn : 300 < n) : Ok (fun r => ∃ l, r = evL l ∧ EvsOk w l) (ref42_Events n w.al w.ev (bL w.bl) (iL w.ba) (iL w.le) (xs.map sevR)) := by
  unfold ref42_Events ref42_Events_1
  refine iterF_ok (fun s => ∃ (i : Nat) (l : List Ev) (t : Int), s = (evL l, t, (i : Int), wT (aftL w l)) ∧ i ≤ 8 ∧ l.length ≤ i ∧ EvsOk w l ∧ 0 ≤ t ∧ t ≤ 4 * (i : Int) ∧ ∀ e ∈ l, e.at_ ≤ t) (fun s => 8 - s.2.2.1.toNat) _ ?_ n _ ⟨0, [], 0, rfl, by omega, by simp, ⟨⟨by simp, trivial, hw⟩, by simp, fun e h => by simp at h, fun e h => by simp at h⟩, by omega, by omega, fun e h => by simp at h⟩ (by first | omega | (simp only; omega))
  rintro _ go ⟨i, l, t, rfl, hi, hl, hE, h0, h1, hlt⟩ ih
  simp only at ih ⊢
  unfold ref42_Events_2
  rw [List.length_map]
  have hu := hE.g.p.v2
  refine oF (fun hxl => oF (fun h8 => hN (by omega) ?_) (fun _ => hD ⟨l, rfl, hE⟩)) (fun _ => hD ⟨l, rfl, hE⟩)
  obtain ⟨x, hxx⟩ := get_lt (l := xs) (i := i) (by omega)
  obtain ⟨g0, g1, g2, g3, g4, g5, g6⟩ := scell hxx
  obtain ⟨s0, s1, s2, s3, s4, s5, s6⟩ := hx x (List.mem_of_getElem? hxx)
  rw [g0, g1, g2, g3, g4, g5, g6]
  obtain ⟨d, e2, hd⟩ := ref42_One_v n (bL (aftL w l).bl) (iL (aftL w l).ba) (iL (aftL w l).le) t x.1 x.2.1 x.2.2.1 x.2.2.2.1 x.2.2.2.2.1 x.2.2.2.2.2.1 x.2.2.2.2.2.2 hu.a0 hu.a1 hu.e0 hu.e1 h0 (by omega) s0 s1 s2 s3 s4 s5 s6 (by omega)
  obtain ⟨k, at_, a, b, c, f, u, m⟩ := d
  obtain ⟨hd1, hd2, hd3, hd4, hd5⟩ := hd
  dsimp only at hd1 hd2 hd3 hd4 hd5
  have hS := ref42_Step_v n (aftL w l) ⟨k, at_, a, b, c, f, u, m⟩ hn
  dsimp only at hS
  rw [e2, Option.bind_some]
  dsimp only
  rw [hS, Option.bind_some]
  cases hs : stepW (aftL w l) ⟨k, at_, a, b, c, f, u, m⟩ with
  | none =>
    refine oF (fun h => absurd h (by show ¬ (420 : Int) = 0; decide)) (fun _ => hO (by omega) (by omega) ?_)
    exact ih _ ⟨i + 1, l, t, rfl, by omega, by omega, hE, h0, by omega, hlt⟩ (by first | omega | (simp only; omega))
  | some v =>
    obtain ⟨hp, rfl⟩ := stepW_some hs
    refine oF (fun _ => hN (by rw [elen]; omega) (hO (by omega) (by omega) ?_)) (fun h => absurd rfl h)
    have e3 : evL l ++ [[AV.int k, AV.int at_, AV.int a, AV.int b, AV.int c, AV.int f, AV.int u, AV.int m]] = evL (l ++ [⟨k, at_, a, b, c, f, u, m⟩]) := by rw [evL, evL, List.map_append]; rfl
    rw [e3]
    have hat : ∀ e ∈ l ++ [(⟨k, at_, a, b, c, f, u, m⟩ : Ev)], e.at_ ≤ at_ := fun e he => by
      rcases List.mem_append.1 he with he | he
      · have := hlt e he; omega
      · rw [List.mem_singleton] at he; subst he; exact Int.le_refl _
    have hap : aftL w (l ++ [⟨k, at_, a, b, c, f, u, m⟩]) = aft (aftL w l) ⟨k, at_, a, b, c, f, u, m⟩ := aftL_app w l _
    refine ih _ ⟨i + 1, l ++ [⟨k, at_, a, b, c, f, u, m⟩], at_, by rw [hap]; rfl, by omega, by simp; omega, ⟨hE.g.snoc (by omega) hp fun d hd => Int.le_trans (hlt d hd) hd2, by simp; omega, fun e he => by have := hat e he; omega, fun e he => ?_⟩, by omega, by omega, hat⟩ (by first | omega | (simp only; omega))
    rcases List.mem_append.1 he with he | he
    · exact hE.m e he
    · rw [List.mem_singleton] at he; subst he; exact ⟨hd4, hd5⟩
end Go.Proofs.YtgckmifmjiklmaaGreat
