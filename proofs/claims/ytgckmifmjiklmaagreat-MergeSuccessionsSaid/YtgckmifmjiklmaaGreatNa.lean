/-
  Events one after the other: what merge.Run, Successor and Claim give.
-/
import Derived.Test.YtgckmifmjiklmaaGreatMd
import Derived.Test.YtgckmifmjiklmaaGreatD9
import Derived.Test.YtgckmifmjiklmaaGreatMrgA
set_option linter.unusedVariables false
set_option linter.unusedSimpArgs false
set_option maxRecDepth 100000
namespace Go.Proofs.YtgckmifmjiklmaaGreat
open Go Go.Sx Go.Dial.Blk Go.Dial.Mrg
abbrev evR (e : Ev) : List AV := [.int e.k, .int e.at_, .int e.a, .int e.b, .int e.c, .int e.f, .int e.t, .int e.m]
abbrev evL (l : List Ev) : Lv := l.map evR
theorem ecell {l : List Ev} {i : Nat} {e : Ev} (h : l[i]? = some e) : cI (evL l) (i : Int) 0 = e.k ∧ cI (evL l) (i : Int) 1 = e.at_ ∧ cI (evL l) (i : Int) 2 = e.a ∧ cI (evL l) (i : Int) 3 = e.b ∧ cI (evL l) (i : Int) 4 = e.c ∧ cI (evL l) (i : Int) 5 = e.f ∧ cI (evL l) (i : Int) 6 = e.t ∧ cI (evL l) (i : Int) 7 = e.m := by
  have hc : ∀ k, cA (evL l) (i : Int) k = (evR e).getD k (.int 0) := fun k => cA_map (by simpa using h)
  refine ⟨?_, ?_, ?_, ?_, ?_, ?_, ?_, ?_⟩ <;> (simp only [cI, hc]; rfl)
theorem elen (l : List Ev) : (evL l).length = l.length := by simp
theorem srt_iff : ∀ (l : List Ev), Srt l ↔ ∀ (k : Nat) a b, l[k]? = some a → l[k + 1]? = some b → a.at_ ≤ b.at_
  | [] => ⟨fun _ k a b h => by simp at h, fun _ => trivial⟩
  | [x] => ⟨fun _ k a b h h2 => by simp at h2, fun _ => trivial⟩
  | x :: y :: l => by
    show (x.at_ ≤ y.at_ ∧ Srt (y :: l)) ↔ _
    rw [srt_iff (y :: l)]
    constructor
    · rintro ⟨h1, h2⟩ k a b ha hb
      cases k with
      | zero => simp at ha hb; rw [← ha, ← hb]; exact h1
      | succ k => exact h2 k a b (by simpa using ha) (by simpa using hb)
    · intro h
      exact ⟨h 0 x y rfl rfl, fun k a b ha hb => h (k + 1) a b (by simpa using ha) (by simpa using hb)⟩
/-- worlds after events, or an error -/
def outR : Option Wd × Nat → Int × Int × Lv × Lv × Lv × Int × Int
  | (some v, j) => (v.al, v.ev, bL v.bl, iL v.ba, iL v.le, (j : Int), 0)
  | (none, j) => (0, 0, ([] : Lv), ([] : Lv), ([] : Lv), (j : Int), 420)
theorem noR {w : Wd} {l : List Ev} (h : ¬ RunOk w l) : (some (0, 0, ([] : Lv), ([] : Lv), ([] : Lv), 0, 420) : Option (Int × Int × Lv × Lv × Lv × Int × Int)) = some (outR (runW w l)) := by
  unfold runW; rw [if_neg h]; rfl
theorem merge_Run_v (n : Nat) (w : Wd) (ha : In64 w.al) (l : List Ev) (hl : l.length ≤ 1000000) (hn : 100000001 < n) : merge_Run n w.al w.ev (bL w.bl) (iL w.ba) (iL w.le) (evL l) = some (outR (runW w l)) := by
  unfold merge_Run merge_Run_1
  rw [merge_Valid_v n w ha (by omega), Option.bind_some]
  refine cBN (fun hv => ?_) (fun h => noR fun p => by rw [vB_true p.v] at h; cases h)
  have hw := vB_iff.1 hv
  rw [elen]
  by_cases h20 : (20 : Int) < (l.length : Int)
  · rw [decide_eq_true h20]; exact noR fun p => by have := p.few; omega
  rw [decide_eq_false h20, cond_false]
  refine gO (by omega) (by omega) ?_
  have fin : Srt l → (slices_Clone___api_Block_api_Block n (bL w.bl)).bind (fun y8 => (slices_Clone___int_int n (iL w.ba)).bind fun y9 => (slices_Clone___int_int n (iL w.le)).bind fun y10 =>
      (iterF (fun go0 s => merge_Run_3 n go0 (evL l) s.1 s.2.1 s.2.2.1 s.2.2.2.1 s.2.2.2.2.1 s.2.2.2.2.2) n ((0, w.al, w.ev, y8, y9, y10) : merge_Run_s0))) = some (outR (runW w l)) := fun hs => by
    rw [clone_b n _ hw.few, Option.bind_some, clone_i n _ hw.bal, Option.bind_some, clone_i n _ hw.lel, Option.bind_some]
    have hE : runW w l = runF w l 0 := by unfold runW; rw [if_pos ⟨hw, by omega, hs⟩]
    rw [hE]
    refine iterF_ind (fun s => ∃ (i : Nat) (u : Wd), s = ((i : Int), u.al, u.ev, bL u.bl, iL u.ba, iL u.le) ∧ i ≤ l.length ∧ WV u ∧ runF u (l.drop i) i = runF w l 0) (fun s => l.length - s.1.toNat) _ ?_ n _ ⟨0, w, rfl, by omega, hw, rfl⟩ (by first | omega | (simp only; omega))
    rintro _ go ⟨i, u, rfl, hi, hu, hE⟩ ih
    simp only at ih ⊢
    unfold merge_Run_3
    by_cases hlt : i < l.length
    · obtain ⟨e, he⟩ := get_lt hlt
      obtain ⟨g0, g1, g2, g3, g4, g5, g6, g7⟩ := ecell he
      rw [elen]
      refine cF (fun _ => gN (by omega) ?_) (fun h => by omega)
      rw [g0, g1, g2, g3, g4, g5, g6, g7, merge_step_v n u hu e hn, Option.bind_some]
      rw [bdrop he, runF] at hE
      cases hs : stepW u e with
      | none =>
        rw [hs] at hE
        rw [← hE]
        exact cN (fun h => absurd h (by decide)) (fun _ => rfl)
      | some v =>
        rw [hs] at hE
        obtain ⟨hp, _⟩ := stepW_some hs
        have hv2 : WV v := by rw [(stepW_some hs).2]; exact hp.v2
        refine cN (fun _ => gO (by omega) (by omega) ?_) (fun h => absurd rfl h)
        exact ih _ ⟨i + 1, v, rfl, by omega, hv2, hE⟩ (by first | omega | (simp only; omega))
    · have hi2 : i = l.length := by omega
      subst hi2
      rw [elen]
      refine cF (fun h => by omega) (fun _ => ?_)
      rw [List.drop_length, runF] at hE
      rw [← hE]; rfl
  refine iterF_ind (fun s => s < (l.length : Int) ∧ -1 ≤ s ∧ ∀ (k : Nat) a b, s ≤ (k : Int) → l[k]? = some a → l[k + 1]? = some b → a.at_ ≤ b.at_) (fun s => (s + 1).toNat) _ ?_ n _ ⟨by omega, by omega, fun k a b hk h1 h2 => by have := (List.getElem?_eq_some_iff.1 h2).1; omega⟩ (by first | omega | (simp only; omega))
  rintro s go ⟨h1, h2, hs⟩ ih
  unfold merge_Run_2
  refine cF (fun hp => ?_) (fun hp => ?_)
  · obtain ⟨i, rfl⟩ : ∃ i : Nat, s = ((i + 1 : Nat) : Int) := ⟨(s - 1).toNat, by omega⟩
    obtain ⟨b, hb⟩ := get_lt (l := l) (i := i + 1) (by omega)
    obtain ⟨a, hA⟩ := get_lt (l := l) (i := i) (by omega)
    have gb := (ecell hb).2.1
    have ga := (ecell hA).2.1
    have e1 : ((i + 1 : Nat) : Int) - 1 = (i : Int) := by omega
    rw [elen, e1, gb, ga]
    refine gN (by omega) (gN (by omega) (gO (by omega) (by omega) (gN (by omega) (gN (by omega) (cF (fun hlt => noR fun p => ?_) (fun hge => ?_))))))
    · have := (srt_iff l).1 p.srt i a b hA hb; omega
    · have hgo : go ((i : Int)) = some (outR (runW w l)) := ih _ ⟨by omega, by omega, fun k x y hk hx hy => by
        by_cases hki : k = i
        · subst hki; rw [hA] at hx; rw [hb] at hy; cases hx; cases hy; omega
        · exact hs k x y (by omega) hx hy⟩ (by omega)
      rw [hgo]
      cases decide (a.at_ < b.at_) <;> rfl
  · exact fin ((srt_iff l).2 fun k a b h3 h4 => hs k a b (by omega) h3 h4)
/-- whether events are possible, and a time is one -/
theorem merge_isPossible_v (n : Nat) (w : Wd) (ha : In64 w.al) (l : List Ev) (hl : l.length ≤ 1000000) (t : Int) (hn : 100000001 < n) : Ok (fun r => r = true ↔ Dial.Mrg.Good w l ∧ 0 ≤ t ∧ t ≤ 20000000) (merge_isPossible n w.al w.ev (bL w.bl) (iL w.ba) (iL w.le) (evL l) t) := by
  unfold merge_isPossible merge_isPossible_1
  rw [merge_Run_v n w ha l hl hn, Option.bind_some]
  cases hr : runW w l with
  | mk o j =>
    cases o with
    | none =>
      refine oF (fun h => absurd h (by show ¬ (420 : Int) = 0; decide)) (fun _ => hD ⟨(fun h => by cases h), fun h => ?_⟩)
      rw [runW_good h.1] at hr; cases hr
    | some v =>
      refine oF (fun _ => oF (fun h0 => hD ?_) (fun h0 => hD ⟨(fun h => by cases h), fun h => absurd h.2.1 h0⟩)) (fun h => absurd rfl h)
      rw [decide_eq_true_eq]
      exact ⟨fun h => ⟨runW_some hr, h0, h⟩, fun h => h.2.2⟩
theorem merge_successor_v (n : Nat) (l : List Ev) (hl : l.length ≤ 1000000) (hf : ∀ e ∈ l, Frm e) (c k t : Int) (hn : 1000001 < n) : merge_successor n (evL l) c k t = some (sucL (untl l t) k c) := by
  unfold merge_successor merge_successor_1
  refine iterF_ind (fun s => ∃ (i : Nat) (x : Int), s = ((i : Int), x) ∧ i ≤ l.length ∧ sucL (untl (l.drop i) t) k x = sucL (untl l t) k c) (fun s => l.length - s.1.toNat) _ ?_ n _ ⟨0, c, rfl, by omega, rfl⟩ (by first | omega | (simp only; omega))
  rintro _ go ⟨i, x, rfl, hi, hE⟩ ih
  simp only at ih ⊢
  unfold merge_successor_2
  rw [elen]
  refine cF (fun hlt => gN (by omega) ?_) (fun hlt => ?_)
  · obtain ⟨e, he⟩ := get_lt (l := l) (i := i) (by omega)
    obtain ⟨g0, g1, g2, g3, g4, g5, g6, g7⟩ := ecell he
    have hfe := hf e (List.mem_of_getElem? he)
    rw [bdrop he] at hE
    rw [g0, g1, g2, g3, g4, g5, g6]
    refine cF (fun ht => ?_) (fun ht => ?_)
    · have : untl (e :: l.drop (i + 1)) t = [] := by unfold untl; rw [List.takeWhile_cons, decide_eq_false (by omega)]; rfl
      rw [this] at hE
      rw [← hE]; rfl
    · have : untl (e :: l.drop (i + 1)) t = e :: untl (l.drop (i + 1)) t := by unfold untl; rw [List.takeWhile_cons, decide_eq_true (by omega)]; rfl
      rw [this, sucL_cons] at hE
      have hgo : ∀ y, rho e k x = y → (bif ((decide ((-9223372036854775808) ≤ ((i : Int) + 1))) && (decide (((i : Int) + 1) ≤ 9223372036854775807))) then go ((i : Int) + 1, y) else none) = some (sucL (untl l t) k c) := fun y hy => by
        refine gO (by omega) (by omega) (ih _ ⟨i + 1, y, rfl, by omega, ?_⟩ (by first | omega | (simp only; omega)))
        rw [← hE, hy]
      have hb := hfe.bare
      have hu := hfe.full
      have hk := hfe.kind
      refine cN (fun hx => ?_) (fun hx => hgo x (by unfold rho; rw [if_neg (fun h => hx h.symm)]))
      have ht0 : 0 ≤ e.t ∧ e.t ≤ 100000000 := by
        by_cases h : e.k = 1 ∨ e.k = 4
        · have := hb h; omega
        · have := hu (by omega); omega
      refine gO (by omega) (by omega) (cF (fun hin => cF (fun h1 => hgo _ ?_) (fun h1 => cN (fun h4 => hgo _ ?_) (fun h4 => cF (fun h5 => hgo _ ?_) (fun h5 => cF (fun h3 => hgo _ ?_) (fun h3 => hgo _ ?_)))))
        (fun hin => cF (fun h1 => hgo _ ?_) (fun h1 => cN (fun h4 => hgo _ ?_) (fun h4 => cF (fun h3 => hgo _ ?_) (fun h3 => hgo _ ?_)))))
      all_goals
        unfold rho
        rw [if_pos hx.symm]
        first
          | (rw [if_pos (by omega)])
          | (rw [if_neg (by omega), if_pos (by omega)])
          | (rw [if_neg (by omega), if_neg (by omega)])
  · rw [List.drop_of_length_le (by omega)] at hE
    rw [← hE]; rfl
/-- a number, or an error -/
def outS : Option Int → Int × Int
  | some x => (x, 0)
  | none => (0, 420)
structure SucOk (w : Wd) (l : List Ev) (c k t : Int) : Prop where
  g : Dial.Mrg.Good w l
  t0 : 0 ≤ t
  t1 : t ≤ 20000000
  c0 : 0 ≤ c
  c1 : c ≤ 7
  k0 : 0 ≤ k
  k1 : k ≤ 99999999
noncomputable instance (w : Wd) (l : List Ev) (c k t : Int) : Decidable (SucOk w l c k t) := Classical.propDecidable _
noncomputable def sucW (w : Wd) (l : List Ev) (c k t : Int) : Option Int := if SucOk w l c k t then some (sucL (untl l t) k c) else none
theorem noS {w : Wd} {l : List Ev} {c k t : Int} (h : ¬ SucOk w l c k t) : (some (0, 420) : Option (Int × Int)) = some (outS (sucW w l c k t)) := by
  unfold sucW; rw [if_neg h]; rfl
theorem merge_Successor_v (n : Nat) (w : Wd) (ha : In64 w.al) (l : List Ev) (hl : l.length ≤ 1000000) (c k t : Int) (hn : 100000001 < n) : merge_Successor n w.al w.ev (bL w.bl) (iL w.ba) (iL w.le) (evL l) c k t = some (outS (sucW w l c k t)) := by
  unfold merge_Successor merge_Successor_1
  obtain ⟨r, h1, h2⟩ := merge_isPossible_v n w ha l hl t hn
  rw [h1, Option.bind_some]
  refine cBN (fun hr => ?_) (fun hr => noS fun p => by rw [h2.2 ⟨p.g, p.t0, p.t1⟩] at hr; cases hr)
  obtain ⟨hg, t0, t1⟩ := h2.1 hr
  refine cF (fun c0 => cN (fun c1 => cF (fun k0 => cN (fun k1 => ?_) (fun h => noS fun p => h p.k1)) (fun h => noS fun p => h p.k0)) (fun h => noS fun p => h p.c1)) (fun h => noS fun p => h p.c0)
  rw [merge_successor_v n l hl hg.p.forms c k t (by omega), Option.bind_some]
  unfold sucW
  rw [if_pos ⟨hg, t0, t1, c0, c1, k0, k1⟩]; rfl
/-- a claim's numbers with the carriers instead -/
def clO (number : Int) (rest : Int × Int × Bool) : Option (Int × Int) → Int × Int × Int × Int × Int × Bool × Bool
  | some x => (number, x.1, x.2, rest.1, rest.2.1, rest.2.2, true)
  | none => (0, 0, 0, 0, 0, false, false)
noncomputable def clW (w : Wd) (l : List Ev) (k a b t : Int) : Option (Int × Int) :=
  match sucW w l a k t, sucW w l b k t with
  | some x, some y => if x = y then none else some (x, y)
  | _, _ => none
theorem noC {w : Wd} {l : List Ev} {k a b t : Int} {rest} (h : ¬ (SucOk w l a k t ∧ SucOk w l b k t)) : (some (0, 0, 0, 0, 0, false, false) : Option (Int × Int × Int × Int × Int × Bool × Bool)) = some (clO k rest (clW w l k a b t)) := by
  have : clW w l k a b t = none := by
    unfold clW sucW
    by_cases h1 : SucOk w l a k t
    · rw [if_pos h1, if_neg (fun h2 => h ⟨h1, h2⟩)]
    · rw [if_neg h1]
  rw [this]; rfl
theorem merge_Claim_v (n : Nat) (w : Wd) (ha : In64 w.al) (l : List Ev) (hl : l.length ≤ 1000000) (k a b x y : Int) (z : Bool) (t : Int) (hn : 100000001 < n) : merge_Claim n w.al w.ev (bL w.bl) (iL w.ba) (iL w.le) (evL l) k a b x y z t = some (clO k (x, y, z) (clW w l k a b t)) := by
  unfold merge_Claim merge_Claim_1
  obtain ⟨r, h1, h2⟩ := merge_isPossible_v n w ha l hl t hn
  rw [h1, Option.bind_some]
  refine cBN (fun hr => ?_) (fun hr => noC fun p => by rw [h2.2 ⟨p.1.g, p.1.t0, p.1.t1⟩] at hr; cases hr)
  obtain ⟨hg, t0, t1⟩ := h2.1 hr
  refine cF (fun c0 => cN (fun c1 => cF (fun d0 => cN (fun d1 => cF (fun k0 => cN (fun k1 => ?_) (fun h => noC fun p => h p.1.k1)) (fun h => noC fun p => h p.1.k0)) (fun h => noC fun p => h p.2.c1)) (fun h => noC fun p => h p.2.c0)) (fun h => noC fun p => h p.1.c1)) (fun h => noC fun p => h p.1.c0)
  rw [merge_successor_v n l hl hg.p.forms a k t (by omega), Option.bind_some, merge_successor_v n l hl hg.p.forms b k t (by omega), Option.bind_some]
  have e1 : sucW w l a k t = some (sucL (untl l t) k a) := if_pos ⟨hg, t0, t1, c0, c1, k0, k1⟩
  have e2 : sucW w l b k t = some (sucL (untl l t) k b) := if_pos ⟨hg, t0, t1, d0, d1, k0, k1⟩
  unfold clW
  rw [e1, e2]
  dsimp only
  by_cases he : sucL (untl l t) k a = sucL (untl l t) k b
  · rw [decide_eq_true he, if_pos he]; rfl
  · rw [decide_eq_false he, if_neg he]; rfl
end Go.Proofs.YtgckmifmjiklmaaGreat
