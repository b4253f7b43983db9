/-
  Worlds: what merge.step and merge.Step give.
-/
import Derived.Test.YtgckmifmjiklmaaGreatMc
set_option linter.unusedVariables false
set_option linter.unusedSimpArgs false
set_option maxRecDepth 100000
namespace Go.Proofs.YtgckmifmjiklmaaGreat
open Go Go.Sx Go.Dial.Blk Go.Dial.Mrg
theorem cF {α : Type} {P : Prop} [Decidable P] {x z r : α} (h : P → x = r) (h2 : ¬ P → z = r) : (bif decide P then x else z) = r := by
  by_cases hP : P
  · rw [decide_eq_true hP, cond_true]; exact h hP
  · rw [decide_eq_false hP, cond_false]; exact h2 hP
theorem cN {α : Type} {P : Prop} [Decidable P] {x z r : α} (h : P → x = r) (h2 : ¬ P → z = r) : (bif !(decide P) then z else x) = r := by
  by_cases hP : P
  · rw [decide_eq_true hP, Bool.not_true, cond_false]; exact h hP
  · rw [decide_eq_false hP, Bool.not_false, cond_true]; exact h2 hP
theorem cB {α : Type} {b : Bool} {x z r : α} (h : b = true → x = r) (h2 : b = false → z = r) : (bif b then x else z) = r := by
  cases b
  · exact h2 rfl
  · exact h rfl
theorem cBN {α : Type} {b : Bool} {x z r : α} (h : b = true → x = r) (h2 : b = false → z = r) : (bif !b then z else x) = r := by
  cases b
  · exact h2 rfl
  · exact h rfl
theorem cAn {α : Type} {P Q : Prop} [Decidable P] [Decidable Q] {x z r : α} (h : P ∧ Q → x = r) (h2 : ¬ (P ∧ Q) → z = r) : (bif (decide P && decide Q) then x else z) = r := by
  by_cases hP : P ∧ Q
  · rw [decide_eq_true hP.1, decide_eq_true hP.2]; exact h hP
  · have : (decide P && decide Q) = false := by
      rw [Bool.and_eq_false_iff, decide_eq_false_iff_not, decide_eq_false_iff_not]
      by_cases h : P
      · exact .inr (fun hq => hP ⟨h, hq⟩)
      · exact .inl h
    rw [this]; exact h2 hP
theorem gN {α : Type} {P : Prop} [Decidable P] {x z r : α} (hP : P) (h : x = r) : (bif decide P then x else z) = r := by rw [decide_eq_true hP]; exact h
theorem gO {α : Type} {x : Int} {y z r : α} (h0 : -9223372036854775808 ≤ x) (h1 : x ≤ 9223372036854775807) (h : y = r) : (bif ((decide ((-9223372036854775808) ≤ x)) && (decide (x ≤ 9223372036854775807))) then y else z) = r := by rw [inR h0 h1]; exact h
/-- a plain function gives something of which P holds -/
def Ok {α : Type} (P : α → Prop) (x : Option α) : Prop := ∃ r, x = some r ∧ P r
theorem oF {α : Type} {T : α → Prop} {P : Prop} [Decidable P] {x z : Option α} (h : P → Ok T x) (h2 : ¬ P → Ok T z) : Ok T (bif decide P then x else z) := by
  by_cases hP : P
  · rw [decide_eq_true hP, cond_true]; exact h hP
  · rw [decide_eq_false hP, cond_false]; exact h2 hP
theorem oN {α : Type} {T : α → Prop} {P : Prop} [Decidable P] {x z : Option α} (h : P → Ok T x) (h2 : ¬ P → Ok T z) : Ok T (bif !(decide P) then z else x) := by
  by_cases hP : P
  · rw [decide_eq_true hP, Bool.not_true, cond_false]; exact h hP
  · rw [decide_eq_false hP, Bool.not_false, cond_true]; exact h2 hP
theorem oB {α : Type} {T : α → Prop} {b : Bool} {x z : Option α} (h : b = true → Ok T x) (h2 : b = false → Ok T z) : Ok T (bif b then x else z) := by
  cases b
  · exact h2 rfl
  · exact h rfl
theorem oBN {α : Type} {T : α → Prop} {b : Bool} {x z : Option α} (h : b = true → Ok T x) (h2 : b = false → Ok T z) : Ok T (bif !b then z else x) := by
  cases b
  · exact h2 rfl
  · exact h rfl
theorem hN {α : Type} {T : α → Prop} {P : Prop} [Decidable P] {x z : Option α} (hP : P) (h : Ok T x) : Ok T (bif decide P then x else z) := by rw [decide_eq_true hP]; exact h
theorem hO {α : Type} {T : α → Prop} {x : Int} {y z : Option α} (h0 : -9223372036854775808 ≤ x) (h1 : x ≤ 9223372036854775807) (h : Ok T y) : Ok T (bif ((decide ((-9223372036854775808) ≤ x)) && (decide (x ≤ 9223372036854775807))) then y else z) := by rw [inR h0 h1]; exact h
theorem hD {α : Type} {T : α → Prop} {r : α} (h : T r) : Ok T (some r) := ⟨r, rfl, h⟩
theorem iterF_ok {σ α : Type} {step : (σ → Option α) → σ → Option α} (Inv : σ → Prop) (mu : σ → Nat) (Post : α → Prop)
    (h : ∀ s go, Inv s → (∀ s', Inv s' → mu s' < mu s → Ok Post (go s')) → Ok Post (step go s)) : ∀ (n : Nat) (s : σ), Inv s → mu s < n → Ok Post (iterF step n s) := iterF_ex Inv mu Post h
/-- a world, or an error -/
def outW : Option Wd → Int × Int × Lv × Lv × Lv × Int
  | none => (0, 0, ([] : Lv), ([] : Lv), ([] : Lv), 420)
  | some v => (v.al, v.ev, bL v.bl, iL v.ba, iL v.le, 0)
theorem outW_some (v : Wd) : outW (some v) = (v.al, v.ev, bL v.bl, iL v.ba, iL v.le, 0) := rfl
theorem outW_none : outW none = (0, 0, ([] : Lv), ([] : Lv), ([] : Lv), 420) := rfl
theorem noW {w : Wd} {e : Ev} (h : ¬ Poss w e) : (some (0, 0, ([] : Lv), ([] : Lv), ([] : Lv), 420) : Option (Int × Int × Lv × Lv × Lv × Int)) = some (outW (stepW w e)) := by
  unfold stepW; rw [if_neg h]; rfl
theorem yesW {w : Wd} {e : Ev} (h : Poss w e) {a b c d f} (ha : (aft w e).al = a) (hb : (aft w e).ev = b) (hc : bL (aft w e).bl = c) (hd : iL (aft w e).ba = d) (hf : iL (aft w e).le = f) : some (a, b, c, d, f, (0 : Int)) = some (outW (stepW w e)) := by
  rw [stepW_of h, ← ha, ← hb, ← hc, ← hd, ← hf]; rfl
theorem clone_b (n : Nat) (l : List B3) (h : l.length ≤ 40) : slices_Clone___api_Block_api_Block n (bL l) = some (bL l) := by
  unfold slices_Clone___api_Block_api_Block slices_Clone___api_Block_api_Block_1
  rw [decide_eq_true (by rw [List.length_map]; omega)]; rfl
theorem clone_i (n : Nat) (l : List Int) (h : l.length = 8) : slices_Clone___int_int n (iL l) = some (iL l) := by
  unfold slices_Clone___int_int slices_Clone___int_int_1
  rw [decide_eq_true (by rw [List.length_map]; omega)]; rfl
theorem aft64 {w : Wd} {e : Ev} (hw : WV w) (hf : Frm e) : In64 (aft w e).al := by
  have h0 := hw.a0
  have h1 := hw.a1
  show In64 (if e.k = 2 then addS w.al e.b else if e.k = 4 then w.al else delS w.al e.a)
  split
  · have := addS_bd h0 h1 hf.b0 hf.b1; unfold In64; omega
  · split
    · unfold In64; omega
    · have := delS_bd w.al e.a; unfold In64; omega
theorem ovl_rho {e : Ev} {l : List B3} (hc : Canon l) (hf : Frm e) (hk : e.k = 2 ∨ e.k = 3) : (fun m => overR (hold (if e.k = 2 then l else mapOf fun m => swR e.a e.c (hold l m)) m) (hold (mapOf fun m => swR e.a e.b (hold (mapOf (onlyG l e.f e.t)) m)) m)) = fun n => rho e n (hold l n) := by
  obtain ⟨f0, f1, f2, _, _⟩ := hf.full hk
  have a0 := hf.a0
  have hM1 := only_map hc f0 f1 f2
  have hM2 := swap_map hM1.1 (f := e.a) hf.b0 hf.b1
  have hM3 := swap_map hc (f := e.a) hf.c0 hf.c1
  funext m
  rw [hM2.at m]
  have h3 : hold (if e.k = 2 then l else mapOf fun m => swR e.a e.c (hold l m)) m = if e.k = 2 then hold l m else if 0 ≤ m ∧ m < 100000000 then swR e.a e.c (hold l m) else -1 := by
    by_cases h2 : e.k = 2
    · rw [if_pos h2, if_pos h2]
    · rw [if_neg h2, if_neg h2, hM3.at m]
  rw [h3, hM1.at m]
  have h4 := hold_out_bd hc (n := m)
  have h5 := hold_range hc m
  have hb0 := hf.b0
  by_cases hm : 0 ≤ m ∧ m < 100000000
  · rw [if_pos hm, if_pos hm, if_pos hm]
    unfold onlyG
    generalize hold l m = x at *
    unfold swR overR rho
    by_cases hr : e.f ≤ m ∧ m < e.t
    · rw [if_pos hr]
      by_cases hx : x = e.a
      · rcases hk with hk | hk
        · simp only [hk, hx, hr, if_true]; simp; omega
        · simp only [hk, hx, hr, if_true]; simp; omega
      · simp only [hx, if_false]
        by_cases h1 : x = -1
        · simp [h1]
        · simp [h1]
    · rw [if_neg hr]
      have : ¬ (-1 : Int) = e.a := by omega
      rcases hk with hk | hk
      · simp [hk, hr, this]
      · simp [hk, hr, this]
  · simp only [hm, if_false]
    rw [h4 (by omega), rho_no hf]
    unfold overR
    rw [if_pos rfl]
    split <;> rfl
theorem merge_step_k1 (n : Nat) (w : Wd) (hw : WV w) (at_ a b c f t m : Int) (hn : 100000001 < n) : merge_step_2 n w.al w.ev (bL w.bl) (iL w.ba) (iL w.le) at_ a b c f t m = some (outW (stepW w ⟨1, at_, a, b, c, f, t, m⟩)) := by
  have A0 := hw.a0
  have A1 := hw.a1
  have il1 : ((iL w.ba).length : Int) = 8 := by rw [ilen, hw.bal]; rfl
  have il2 : ((iL w.le).length : Int) = 8 := by rw [ilen, hw.lel]; rfl
  unfold merge_step_2
  refine cF (fun t0 => ?_) (fun h => noW fun p => h p.f.t0)
  unfold merge_step_3
  refine cF (fun t1 => ?_) (fun h => noW fun p => h p.f.t1)
  refine cF (fun a0 => ?_) (fun h => noW fun p => h p.f.a0)
  refine cF (fun a1 => ?_) (fun h => noW fun p => h p.f.a1)
  refine cF (fun b0 => ?_) (fun h => noW fun p => h p.f.b0)
  refine cF (fun b1 => ?_) (fun h => noW fun p => h p.f.b1)
  refine cF (fun c0 => ?_) (fun h => noW fun p => h p.f.c0)
  refine cF (fun c1 => ?_) (fun h => noW fun p => h p.f.c1)
  rw [shr_and A0 A1 a0 a1, shr_and A0 A1 b0 b1]
  refine cBN (fun ha => ?_) (fun h => noW fun p => by have := p.c.a; rw [h] at this; cases this)
  rw [clone_b n _ hw.few, Option.bind_some, clone_i n _ hw.bal, Option.bind_some, clone_i n _ hw.lel, Option.bind_some]
  refine cAn (fun hr => ?_) (fun h => noW fun p => h ⟨(p.f.bare (.inl rfl)).1, (p.f.bare (.inl rfl)).2.1⟩)
  refine cF (fun hm => ?_) (fun h => noW fun p => h (p.f.bare (.inl rfl)).2.2)
  refine cF (fun hc => ?_) (fun h => noW fun p => h (p.f.noC (by decide : (1 : Int) ≠ 3)))
  refine cB (fun hb => ?_) (fun h => noW fun p => by have := p.c.m rfl; rw [h] at this; cases this)
  rw [beq_true]
  by_cases hab : a = b
  · rw [decide_eq_true hab]; exact noW fun p => p.f.other (by decide : (1 : Int) ≠ 4) hab
  rw [decide_eq_false hab, cond_false, block_Swap_v n w.bl a b hw.can hw.few a0 a1 b0 b1 hn, Option.bind_some]
  refine cN (fun _ => ?_) (fun h => absurd rfl h)
  rw [gcell hw.bal b0 b1, gcell hw.bal a0 a1]
  have q1 := hw.b0 a a0 a1
  have q2 := hw.b0 b b0 b1
  refine gN (by omega) (gN (by omega) (gO (by omega) (by omega) (gN (by omega) ?_)))
  obtain ⟨rfl, rfl⟩ := hr
  subst hm
  subst hc
  have hf : Frm ⟨1, at_, a, b, 0, 0, 0, 0⟩ := ⟨t0, t1, a0, a1, b0, b1, c0, c1, (show 1 ≤ (1 : Int) ∧ (1 : Int) ≤ 4 by decide), fun _ => ⟨rfl, rfl, rfl⟩, fun h => by simp at h, fun _ => rfl, fun h => by simp at h, fun _ => hab, fun h => by simp at h⟩
  have e1 : (aft w ⟨1, at_, a, b, 0, 0, 0, 0⟩).al = IOp.f .andNot w.al (IOp.f .shl 1 a) := by rw [andnot_shl A0 A1 a0 a1]; rfl
  have e2 : (aft w ⟨1, at_, a, b, 0, 0, 0, 0⟩).ev = w.ev := rfl
  have e3 : bL (aft w ⟨1, at_, a, b, 0, 0, 0, 0⟩).bl = bL (mapOf fun m => swR a b (hold w.bl m)) := by
    have : (fun n => rho ⟨1, at_, a, b, 0, 0, 0, 0⟩ n (hold w.bl n)) = fun m => swR a b (hold w.bl m) := by
      funext m
      unfold rho swR
      simp
    show bL (mapOf fun n => rho ⟨1, at_, a, b, 0, 0, 0, 0⟩ n (hold w.bl n)) = _
    rw [this]
  have e4 : iL (aft w ⟨1, at_, a, b, 0, 0, 0, 0⟩).ba = List.modify (List.modify (iL w.ba) b.toNat (fun r => r.set 0 (AV.int (g w.ba b + g w.ba a)))) a.toNat (fun r => r.set 0 (AV.int 0)) := by rw [imod, imod]; rfl
  have e5 : iL (aft w ⟨1, at_, a, b, 0, 0, 0, 0⟩).le = List.modify (iL w.le) a.toNat (fun r => r.set 0 (AV.int 0)) := by rw [imod]; rfl
  have hV := merge_Valid_v n (aft w ⟨1, at_, a, b, 0, 0, 0, 0⟩) (aft64 hw hf) (by omega)
  rw [e1, e2, e3, e4, e5] at hV
  rw [hV, Option.bind_some]
  refine cBN (fun h => ?_) (fun h => noW fun p => by rw [vB_true p.v2] at h; cases h)
  refine yesW ⟨hw, hf, ⟨ha, fun _ => hb, fun h => by simp at h, fun h => by simp at h, fun h => by simp at h⟩, vB_iff.1 h⟩ e1 e2 e3 e4 e5
theorem merge_step_k2 (n : Nat) (w : Wd) (hw : WV w) (at_ a b c f t m : Int) (hn : 100000001 < n) : merge_step_5 n w.al w.ev (bL w.bl) (iL w.ba) (iL w.le) at_ a b c f t m = some (outW (stepW w ⟨2, at_, a, b, c, f, t, m⟩)) := by
  have A0 := hw.a0
  have A1 := hw.a1
  have il1 : ((iL w.ba).length : Int) = 8 := by rw [ilen, hw.bal]; rfl
  have il2 : ((iL w.le).length : Int) = 8 := by rw [ilen, hw.lel]; rfl
  unfold merge_step_5
  refine cF (fun t0 => ?_) (fun h => noW fun p => h p.f.t0)
  unfold merge_step_6
  refine cF (fun t1 => ?_) (fun h => noW fun p => h p.f.t1)
  unfold merge_step_7
  refine cF (fun a0 => ?_) (fun h => noW fun p => h p.f.a0)
  unfold merge_step_8
  refine cF (fun a1 => ?_) (fun h => noW fun p => h p.f.a1)
  unfold merge_step_9
  refine cF (fun b0 => ?_) (fun h => noW fun p => h p.f.b0)
  unfold merge_step_10
  refine cF (fun b1 => ?_) (fun h => noW fun p => h p.f.b1)
  unfold merge_step_11
  refine cF (fun c0 => ?_) (fun h => noW fun p => h p.f.c0)
  unfold merge_step_12
  refine cF (fun c1 => ?_) (fun h => noW fun p => h p.f.c1)
  rw [shr_and A0 A1 a0 a1, shr_and hw.e0 hw.e1 b0 b1]
  refine cBN (fun ha => ?_) (fun h => noW fun p => by have := p.c.a; rw [h] at this; cases this)
  rw [clone_b n _ hw.few, Option.bind_some, clone_i n _ hw.bal, Option.bind_some, clone_i n _ hw.lel, Option.bind_some]
  refine cF (fun f0 => ?_) (fun h => noW fun p => h (p.f.full (.inl rfl)).1)
  refine cF (fun f1 => ?_) (fun h => noW fun p => h (p.f.full (.inl rfl)).2.1)
  refine cF (fun f2 => ?_) (fun h => noW fun p => h (p.f.full (.inl rfl)).2.2.1)
  refine cF (fun m0 => ?_) (fun h => noW fun p => h (p.f.full (.inl rfl)).2.2.2.1)
  refine cF (fun m1 => ?_) (fun h => noW fun p => h (p.f.full (.inl rfl)).2.2.2.2)
  refine cF (fun hc => ?_) (fun h => noW fun p => h (p.f.noC (by decide : (2 : Int) ≠ 3)))
  rw [beq_true]
  refine cB (fun h => noW fun p => by have := p.c.s rfl; rw [h] at this; cases this) (fun hb => ?_)
  subst hc
  have hac : has w.al b = false := by
    cases h : has w.al b with
    | false => rfl
    | true => rw [has_sub hw.sub h] at hb; cases hb
  have hab : a ≠ b := fun h => by rw [h, hac] at ha; cases ha
  have hf : Frm ⟨2, at_, a, b, 0, f, t, m⟩ := ⟨t0, t1, a0, a1, b0, b1, c0, c1, (show 1 ≤ (2 : Int) ∧ (2 : Int) ≤ 4 by decide), fun h => by simp at h, fun _ => ⟨f0, f1, f2, m0, m1⟩, fun _ => rfl, fun h => by simp at h, fun _ => hab, fun h => by simp at h⟩
  have hM1 := only_map hw.can f0 f1 f2
  have hl1 := only_len hw.can f t hM1
  have hfew := hw.few
  have hM2 := swap_map hM1.1 (f := a) b0 b1
  have hl2 := relabel_len hM1.1 (swR a b) (by unfold swR; rw [if_neg (by omega)]) hM2
  rw [block_Only_v n w.bl f t hw.can hw.few f0 f1 f2 hn, Option.bind_some]
  refine cN (fun _ => ?_) (fun h => absurd rfl h)
  rw [block_Swap_v n _ a b hM1.1 (by omega) a0 a1 b0 b1 hn, Option.bind_some]
  refine cN (fun _ => ?_) (fun h => absurd rfl h)
  have hovl := ovl_rho hw.can hf (.inl rfl)
  simp only [if_true] at hovl
  rw [block_Overlay_v n w.bl _ hw.can hw.few hM2.1 (by omega) hn, Option.bind_some, hovl]
  unfold combR
  by_cases h40 : (mapOf fun n => rho ⟨2, at_, a, b, 0, f, t, m⟩ n (hold w.bl n)).length ≤ 40
  case neg =>
    rw [if_neg h40]
    refine cN (fun h => absurd h (by decide)) (fun _ => noW fun p => h40 p.v2.few)
  rw [if_pos h40]
  refine cN (fun _ => ?_) (fun h => absurd rfl h)
  rw [gcell hw.bal a0 a1, gcell hw.lel a0 a1]
  have q1 := hw.b0 a a0 a1
  refine gN (by omega) (gO (by omega) (by omega) (gN (by omega) (gN (by omega) (gN (by omega) ?_))))
  have e1 : (aft w ⟨2, at_, a, b, 0, f, t, m⟩).al = IOp.f .or w.al (IOp.f .shl 1 b) := by rw [or_shl A0 A1 b0 b1]; rfl
  have e2 : (aft w ⟨2, at_, a, b, 0, f, t, m⟩).ev = IOp.f .or w.ev (IOp.f .shl 1 b) := by rw [or_shl hw.e0 hw.e1 b0 b1]; rfl
  have e3 : bL (aft w ⟨2, at_, a, b, 0, f, t, m⟩).bl = bL (mapOf fun n => rho ⟨2, at_, a, b, 0, f, t, m⟩ n (hold w.bl n)) := rfl
  have e4 : iL (aft w ⟨2, at_, a, b, 0, f, t, m⟩).ba = List.modify (List.modify (iL w.ba) a.toNat (fun r => r.set 0 (AV.int (g w.ba a - m)))) b.toNat (fun r => r.set 0 (AV.int m)) := by rw [imod, imod]; rfl
  have e5 : iL (aft w ⟨2, at_, a, b, 0, f, t, m⟩).le = List.modify (iL w.le) b.toNat (fun r => r.set 0 (AV.int (g w.le a))) := by rw [imod]; rfl
  have hV := merge_Valid_v n (aft w ⟨2, at_, a, b, 0, f, t, m⟩) (aft64 hw hf) (by omega)
  rw [e1, e2, e3, e4, e5] at hV
  rw [hV, Option.bind_some]
  refine cBN (fun h => ?_) (fun h => noW fun p => by rw [vB_true p.v2] at h; cases h)
  refine yesW ⟨hw, hf, ⟨ha, fun h => by simp at h, fun _ => hb, fun h => by simp at h, fun h => by simp at h⟩, vB_iff.1 h⟩ e1 e2 e3 e4 e5
theorem merge_step_k3 (n : Nat) (w : Wd) (hw : WV w) (at_ a b c f t m : Int) (hn : 100000001 < n) : merge_step_14 n w.al w.ev (bL w.bl) (iL w.ba) (iL w.le) at_ a b c f t m = some (outW (stepW w ⟨3, at_, a, b, c, f, t, m⟩)) := by
  have A0 := hw.a0
  have A1 := hw.a1
  have il1 : ((iL w.ba).length : Int) = 8 := by rw [ilen, hw.bal]; rfl
  have il2 : ((iL w.le).length : Int) = 8 := by rw [ilen, hw.lel]; rfl
  unfold merge_step_14
  refine cF (fun t0 => ?_) (fun h => noW fun p => h p.f.t0)
  unfold merge_step_15
  refine cF (fun t1 => ?_) (fun h => noW fun p => h p.f.t1)
  unfold merge_step_16
  refine cF (fun a0 => ?_) (fun h => noW fun p => h p.f.a0)
  unfold merge_step_17
  refine cF (fun a1 => ?_) (fun h => noW fun p => h p.f.a1)
  unfold merge_step_18
  refine cF (fun b0 => ?_) (fun h => noW fun p => h p.f.b0)
  unfold merge_step_19
  refine cF (fun b1 => ?_) (fun h => noW fun p => h p.f.b1)
  unfold merge_step_20
  refine cF (fun c0 => ?_) (fun h => noW fun p => h p.f.c0)
  unfold merge_step_21
  refine cF (fun c1 => ?_) (fun h => noW fun p => h p.f.c1)
  unfold merge_step_22
  rw [shr_and A0 A1 a0 a1]
  refine cBN (fun ha => ?_) (fun h => noW fun p => by have := p.c.a; rw [h] at this; cases this)
  rw [clone_b n _ hw.few, Option.bind_some, clone_i n _ hw.bal, Option.bind_some, clone_i n _ hw.lel, Option.bind_some]
  unfold merge_step_23
  refine cF (fun f0 => ?_) (fun h => noW fun p => h (p.f.full (.inr rfl)).1)
  unfold merge_step_24
  refine cF (fun f1 => ?_) (fun h => noW fun p => h (p.f.full (.inr rfl)).2.1)
  unfold merge_step_25
  refine cF (fun f2 => ?_) (fun h => noW fun p => h (p.f.full (.inr rfl)).2.2.1)
  unfold merge_step_26
  refine cF (fun m0 => ?_) (fun h => noW fun p => h (p.f.full (.inr rfl)).2.2.2.1)
  unfold merge_step_27
  refine cF (fun m1 => ?_) (fun h => noW fun p => h (p.f.full (.inr rfl)).2.2.2.2)
  unfold merge_step_28
  rw [shr_and A0 A1 b0 b1, shr_and A0 A1 c0 c1]
  refine cB (fun hb => ?_) (fun h => noW fun p => by have := (p.c.w3 rfl).1; rw [h] at this; cases this)
  refine cB (fun hc => ?_) (fun h => noW fun p => by have := (p.c.w3 rfl).2; rw [h] at this; cases this)
  by_cases hab : a = b
  · rw [decide_eq_true hab]; exact noW fun p => p.f.other (by decide : (3 : Int) ≠ 4) hab
  rw [decide_eq_false hab, Bool.not_false, cond_true, beq_true]
  by_cases hac : a = c
  · rw [decide_eq_true hac]; exact noW fun p => p.f.third rfl hac
  rw [decide_eq_false hac, cond_false]
  have hf : Frm ⟨3, at_, a, b, c, f, t, m⟩ := ⟨t0, t1, a0, a1, b0, b1, c0, c1, (show 1 ≤ (3 : Int) ∧ (3 : Int) ≤ 4 by decide), fun h => by simp at h, fun _ => ⟨f0, f1, f2, m0, m1⟩, fun h => absurd rfl h, fun h => by simp at h, fun _ => hab, fun _ => hac⟩
  have hM1 := only_map hw.can f0 f1 f2
  have hl1 := only_len hw.can f t hM1
  have hfew := hw.few
  have hM2 := swap_map hM1.1 (f := a) b0 b1
  have hl2 := relabel_len hM1.1 (swR a b) (by unfold swR; rw [if_neg (by omega)]) hM2
  have hM3 := swap_map hw.can (f := a) c0 c1
  have hl3 := relabel_len hw.can (swR a c) (by unfold swR; rw [if_neg (by omega)]) hM3
  rw [block_Only_v n w.bl f t hw.can hw.few f0 f1 f2 hn, Option.bind_some]
  refine cN (fun _ => ?_) (fun h => absurd rfl h)
  rw [block_Swap_v n _ a b hM1.1 (by omega) a0 a1 b0 b1 hn, Option.bind_some]
  refine cN (fun _ => ?_) (fun h => absurd rfl h)
  rw [block_Swap_v n _ a c hw.can hw.few a0 a1 c0 c1 hn, Option.bind_some]
  refine cN (fun _ => ?_) (fun h => absurd rfl h)
  have hovl := ovl_rho hw.can hf (.inr rfl)
  simp only [show ¬ (3 : Int) = 2 by decide, if_false] at hovl
  rw [block_Overlay_v n _ _ hM3.1 (by omega) hM2.1 (by omega) hn, Option.bind_some, hovl]
  unfold combR
  by_cases h40 : (mapOf fun n => rho ⟨3, at_, a, b, c, f, t, m⟩ n (hold w.bl n)).length ≤ 40
  case neg =>
    rw [if_neg h40]
    refine cN (fun h => absurd h (by decide)) (fun _ => noW fun p => h40 p.v2.few)
  rw [if_pos h40]
  refine cN (fun _ => ?_) (fun h => absurd rfl h)
  have hl8 : (w.ba.set b.toNat (g w.ba b + m)).length = 8 := by rw [List.length_set, hw.bal]
  have e6 : g (w.ba.set b.toNat (g w.ba b + m)) a = g w.ba a := by rw [g_set hw.bal b0 b1 a0 a1, if_neg hab]
  rw [gcell hw.bal b0 b1, imod, gcell hl8 a0 a1, gcell hl8 c0 c1, e6]
  have q1 := hw.b0 a a0 a1
  have q2 := hw.b0 b b0 b1
  have q3 := hw.b0 c c0 c1
  have q4 : g (w.ba.set b.toNat (g w.ba b + m)) c = if c = b then g w.ba b + m else g w.ba c := g_set hw.bal b0 b1 c0 c1
  have q5 : -3000000000000 ≤ g (w.ba.set b.toNat (g w.ba b + m)) c ∧ g (w.ba.set b.toNat (g w.ba b + m)) c ≤ 3000000000000 := by rw [q4]; split <;> omega
  refine gN (by omega) (gO (by omega) (by omega) (gN (by omega) (gN (by omega) (gO (by omega) (by omega) (gO (by omega) (by omega) (gN (by omega) ?_))))))
  have e1 : (aft w ⟨3, at_, a, b, c, f, t, m⟩).al = IOp.f .andNot w.al (IOp.f .shl 1 a) := by rw [andnot_shl A0 A1 a0 a1]; rfl
  have e2 : (aft w ⟨3, at_, a, b, c, f, t, m⟩).ev = w.ev := rfl
  have e3 : bL (aft w ⟨3, at_, a, b, c, f, t, m⟩).bl = bL (mapOf fun n => rho ⟨3, at_, a, b, c, f, t, m⟩ n (hold w.bl n)) := rfl
  have e4 : iL (aft w ⟨3, at_, a, b, c, f, t, m⟩).ba = List.modify (List.modify (iL (w.ba.set b.toNat (g w.ba b + m))) c.toNat (fun r => r.set 0 (AV.int (g (w.ba.set b.toNat (g w.ba b + m)) c + (g w.ba a - m))))) a.toNat (fun r => r.set 0 (AV.int 0)) := by rw [imod, imod]; rfl
  have e5 : iL (aft w ⟨3, at_, a, b, c, f, t, m⟩).le = List.modify (iL w.le) a.toNat (fun r => r.set 0 (AV.int 0)) := by rw [imod]; rfl
  have hV := merge_Valid_v n (aft w ⟨3, at_, a, b, c, f, t, m⟩) (aft64 hw hf) (by omega)
  rw [e1, e2, e3, e4, e5] at hV
  rw [hV, Option.bind_some]
  refine cBN (fun h => ?_) (fun h => noW fun p => by rw [vB_true p.v2] at h; cases h)
  refine yesW ⟨hw, hf, ⟨ha, fun h => by simp at h, fun h => by simp at h, fun _ => ⟨hb, hc⟩, fun h => by simp at h⟩, vB_iff.1 h⟩ e1 e2 e3 e4 e5
theorem merge_step_k4 (n : Nat) (w : Wd) (hw : WV w) (at_ a b c f t m : Int) (hn : 100000001 < n) : merge_step_30 n w.al w.ev (bL w.bl) (iL w.ba) (iL w.le) at_ a b c f t m = some (outW (stepW w ⟨4, at_, a, b, c, f, t, m⟩)) := by
  have A0 := hw.a0
  have A1 := hw.a1
  have il2 : ((iL w.le).length : Int) = 8 := by rw [ilen, hw.lel]; rfl
  unfold merge_step_30
  refine cF (fun t0 => ?_) (fun h => noW fun p => h p.f.t0)
  unfold merge_step_31
  refine cF (fun t1 => ?_) (fun h => noW fun p => h p.f.t1)
  refine cF (fun a0 => ?_) (fun h => noW fun p => h p.f.a0)
  refine cF (fun a1 => ?_) (fun h => noW fun p => h p.f.a1)
  refine cF (fun b0 => ?_) (fun h => noW fun p => h p.f.b0)
  refine cF (fun b1 => ?_) (fun h => noW fun p => h p.f.b1)
  refine cF (fun c0 => ?_) (fun h => noW fun p => h p.f.c0)
  refine cF (fun c1 => ?_) (fun h => noW fun p => h p.f.c1)
  rw [shr_and A0 A1 a0 a1]
  refine cBN (fun ha => ?_) (fun h => noW fun p => by have := p.c.a; rw [h] at this; cases this)
  rw [clone_b n _ hw.few, Option.bind_some, clone_i n _ hw.bal, Option.bind_some, clone_i n _ hw.lel, Option.bind_some]
  refine cAn (fun hr => ?_) (fun h => noW fun p => h ⟨(p.f.bare (.inr rfl)).1, (p.f.bare (.inr rfl)).2.1⟩)
  refine cF (fun hm => ?_) (fun h => noW fun p => h (p.f.bare (.inr rfl)).2.2)
  refine cF (fun hb => ?_) (fun h => noW fun p => h (p.f.noB rfl))
  refine cN (fun hc => ?_) (fun h => noW fun p => h (p.f.noC (by decide : (4 : Int) ≠ 3)))
  obtain ⟨rfl, rfl⟩ := hr
  subst hm
  subst hc
  subst hb
  have hf : Frm ⟨4, at_, a, 0, 0, 0, 0, 0⟩ := ⟨t0, t1, a0, a1, b0, b1, c0, c1, (show 1 ≤ (4 : Int) ∧ (4 : Int) ≤ 4 by decide), fun _ => ⟨rfl, rfl, rfl⟩, fun h => by simp at h, fun _ => rfl, fun _ => rfl, fun h => absurd rfl h, fun h => by simp at h⟩
  refine iterF_ind (fun s => ∃ i : Nat, s = (i : Int) ∧ i ≤ 8 ∧ ∀ c, 0 ≤ c → c < (i : Int) → has w.al c = true → g w.le a ≤ g w.le c) (fun s => 8 - s.toNat) _ ?_ n _ ⟨0, rfl, by omega, fun c h0 h1 => by omega⟩ (by first | omega | (simp only; omega))
  rintro _ go ⟨i, rfl, hi, hall⟩ ih
  unfold merge_step_32
  have esucc : ((i + 1 : Nat) : Int) = (i : Int) + 1 := by omega
  by_cases hlt : i < 8
  · have i0 : (0 : Int) ≤ (i : Int) := by omega
    have i7 : (i : Int) ≤ 7 := by omega
    have hgo : (has w.al (i : Int) = true → g w.le a ≤ g w.le (i : Int)) → go ((i : Int) + 1) = some (outW (stepW w ⟨4, at_, a, 0, 0, 0, 0, 0⟩)) := fun h => by
      refine ih _ ⟨i + 1, esucc.symm, by omega, fun c h0 h1 h2 => ?_⟩ (by first | omega | (simp only; omega))
      by_cases h3 : c < (i : Int)
      · exact hall c h0 h3 h2
      · have : c = (i : Int) := by omega
        subst this; exact h h2
    rw [shr_and A0 A1 i0 i7, gcell hw.lel a0 a1, gcell hw.lel i0 i7]
    refine gN (by omega) (gN i0 (cBN (fun hh => ?_) (fun hh => ?_)))
    · refine gN (by omega) (cN (fun h => ?_) (fun h => noW fun p => h (p.c.u rfl _ i0 i7 hh)))
      exact gO (by omega) (by omega) (hgo fun _ => h)
    · exact gO (by omega) (by omega) (hgo fun h => by rw [hh] at h; cases h)
  · have hi8 : i = 8 := by omega
    subst hi8
    have hl := hw.l0 a a0 a1
    rw [decide_eq_false (by omega : ¬ ((8 : Nat) : Int) < ((iL w.le).length : Int)), cond_false, gcell hw.lel a0 a1]
    refine gN (by omega) (gO (by omega) (by omega) ?_)
    have e1 : (aft w ⟨4, at_, a, 0, 0, 0, 0, 0⟩).al = w.al := rfl
    have e2 : (aft w ⟨4, at_, a, 0, 0, 0, 0, 0⟩).ev = w.ev := rfl
    have e3 : bL (aft w ⟨4, at_, a, 0, 0, 0, 0, 0⟩).bl = bL w.bl := by
      show bL (mapOf _) = _
      have : (fun n => rho ⟨4, at_, a, 0, 0, 0, 0, 0⟩ n (hold w.bl n)) = hold w.bl := by
        funext m
        unfold rho
        simp
      rw [this, mapOf_hold hw.can]
    have e4 : iL (aft w ⟨4, at_, a, 0, 0, 0, 0, 0⟩).ba = iL w.ba := rfl
    have e5 : iL (aft w ⟨4, at_, a, 0, 0, 0, 0, 0⟩).le = List.modify (iL w.le) a.toNat (fun r => r.set 0 (AV.int (g w.le a + 1))) := by rw [imod]; rfl
    have hV := merge_Valid_v n (aft w ⟨4, at_, a, 0, 0, 0, 0, 0⟩) (aft64 hw hf) (by omega)
    rw [e1, e2, e3, e4, e5] at hV
    rw [hV, Option.bind_some]
    refine cBN (fun h => ?_) (fun h => noW fun p => by rw [vB_true p.v2] at h; cases h)
    refine yesW ⟨hw, hf, ⟨ha, fun h => by simp at h, fun h => by simp at h, fun h => by simp at h, fun _ c c0 c1 hc => hall c c0 (by omega) hc⟩, vB_iff.1 h⟩ e1 e2 e3 e4 e5
theorem merge_step_v (n : Nat) (w : Wd) (hw : WV w) (e : Ev) (hn : 100000001 < n) : merge_step n w.al w.ev (bL w.bl) (iL w.ba) (iL w.le) e.k e.at_ e.a e.b e.c e.f e.t e.m = some (outW (stepW w e)) := by
  obtain ⟨k, at_, a, b, c, f, t, m⟩ := e
  unfold merge_step merge_step_1
  refine cF (fun h => ?_) (fun h1 => ?_)
  · replace h : k = 1 := h
    subst h; exact merge_step_k1 n w hw at_ a b c f t m hn
  unfold merge_step_4
  refine cF (fun h => ?_) (fun h2 => ?_)
  · replace h : k = 2 := h
    subst h; exact merge_step_k2 n w hw at_ a b c f t m hn
  unfold merge_step_13
  refine cF (fun h => ?_) (fun h3 => ?_)
  · replace h : k = 3 := h
    subst h; exact merge_step_k3 n w hw at_ a b c f t m hn
  unfold merge_step_29
  refine cF (fun h => ?_) (fun h4 => noW fun p => ?_)
  · replace h : k = 4 := h
    subst h; exact merge_step_k4 n w hw at_ a b c f t m hn
  · have := p.f.kind
    simp only at h1 h2 h3 h4 this
    omega
theorem merge_Step_v (n : Nat) (w : Wd) (ha : In64 w.al) (e : Ev) (hn : 100000001 < n) : merge_Step n w.al w.ev (bL w.bl) (iL w.ba) (iL w.le) e.k e.at_ e.a e.b e.c e.f e.t e.m = some (outW (stepW w e)) := by
  unfold merge_Step merge_Step_1
  rw [merge_Valid_v n w ha (by omega), Option.bind_some]
  refine cBN (fun h => ?_) (fun h => noW fun p => by rw [vB_true p.v] at h; cases h)
  rw [merge_step_v n w (vB_iff.1 h) e hn, Option.bind_some]
end Go.Proofs.YtgckmifmjiklmaaGreat
