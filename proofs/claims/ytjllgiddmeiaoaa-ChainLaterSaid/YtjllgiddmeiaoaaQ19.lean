/-
  What the plain functions of chains give: drawn chains.
-/
import Derived.Test.YtjllgiddmeiaoaaQ18
import Derived.Test.YtjllgiddmeiaoaaChnX
set_option linter.unusedVariables false
set_option linter.unusedSectionVars false
set_option linter.unusedSimpArgs false
set_option maxRecDepth 100000
namespace Go.Proofs.Ytjllgiddmeiaoaa
open Go Go.Sx Go.Dial.Clm Go.Dial.Lif Go.Dial.Chn
theorem ref17_pick_v (n : Nat) {c k : Int} (hc : In64 c) (hk : 0 < k) : ref17_pick n c k = some (pk c k) := by
  unfold ref17_pick ref17_pick_1 pk
  unfold In64 at hc
  grind
/-- a port that is drawn -/
def GoodP (N : Int) (r : Rl) (p : Pt) : Prop := p.c.n = N ∧ ClmV r p.c p.es ∧ p.c.a < 1000 ∧ p.es.length ≤ 10 ∧ ∀ e ∈ p.es, e.a ≤ 900000
abbrev Asc (ps : List Pt) : Prop := ps.Pairwise fun p q => p.c.a ≤ q.c.a
theorem modA {α : Type} (P Q : List α) (a b : α) (f : α → α) : List.modify (P ++ a :: b :: Q) P.length f = P ++ f a :: b :: Q := by
  induction P with
  | nil => rfl
  | cons p P ih => simp [ih]
theorem modB {α : Type} (P Q : List α) (a b : α) (f : α → α) : List.modify (P ++ a :: b :: Q) (P.length + 1) f = P ++ a :: f b :: Q := by
  induction P with
  | nil => rfl
  | cons p P ih => simp [ih]
theorem cellA (P Q : Lv) (a b : List AV) (k : Nat) : cA (P ++ a :: b :: Q) (P.length : Int) k = a.getD k (.int 0) := by simp [cA, List.getD]
theorem cellB (P Q : Lv) (a b : List AV) (k : Nat) : cA (P ++ a :: b :: Q) ((P.length : Int) + 1) k = b.getD k (.int 0) := by
  have : ((P.length : Int) + 1).toNat = P.length + 1 := by omega
  simp [cA, List.getD, this]
theorem swap_pt (P Q : Lv) (y x : Pt) (k : Int) (hk : k = (P.length : Int) + 1) (L : Lv) (hL : L = P ++ ptR y :: ptR x :: Q) :
    (List.modify (List.modify (List.modify (List.modify (List.modify (List.modify (List.modify (List.modify (List.modify (List.modify (List.modify (List.modify (List.modify (List.modify L (k).toNat (fun r => r.set 0 (AV.int (cI L (k - 1) 0)))) (k).toNat (fun r => r.set 1 (AV.int (cI L (k - 1) 1)))) (k).toNat (fun r => r.set 2 (AV.int (cI L (k - 1) 2)))) (k).toNat (fun r => r.set 3 (AV.int (cI L (k - 1) 3)))) (k).toNat (fun r => r.set 4 (AV.int (cI L (k - 1) 4)))) (k).toNat (fun r => r.set 5 (AV.bool (cB L (k - 1) 5)))) (k).toNat (fun r => r.set 6 (AV.sl (.cons .int (.cons .int (.cons .int .nil))) (cL L (k - 1) 6)))) ((k - 1)).toNat (fun r => r.set 0 (AV.int (cI L k 0)))) ((k - 1)).toNat (fun r => r.set 1 (AV.int (cI L k 1)))) ((k - 1)).toNat (fun r => r.set 2 (AV.int (cI L k 2)))) ((k - 1)).toNat (fun r => r.set 3 (AV.int (cI L k 3)))) ((k - 1)).toNat (fun r => r.set 4 (AV.int (cI L k 4)))) ((k - 1)).toNat (fun r => r.set 5 (AV.bool (cB L k 5)))) ((k - 1)).toNat (fun r => r.set 6 (AV.sl (.cons .int (.cons .int (.cons .int .nil))) (cL L k 6)))) = P ++ ptR x :: ptR y :: Q := by
  have h1 : k.toNat = P.length + 1 := by omega
  have h2 : k - 1 = (P.length : Int) := by omega
  have h3 : (P.length : Int).toNat = P.length := by omega
  have a0 : ∀ j, cA L (k - 1) j = (ptR y).getD j (.int 0) := fun j => by rw [hL, h2]; exact cellA P Q _ _ j
  have b0 : ∀ j, cA L k j = (ptR x).getD j (.int 0) := fun j => by rw [hL, hk]; exact cellB P Q _ _ j
  simp only [cI, cB, cL, a0, b0]
  rw [h1, h2, h3, hL]
  simp only [modA, modB]
  rfl
section
variable {Post : ref17_Made_a → Prop} (n : Nat) (go0 : ref17_Made_s0 → Option ref17_Made_a) (i : Int) (N : Int) (r : Rl)
theorem ins_any (hi : 0 ≤ i ∧ i ≤ 100) (m : Nat) (hm : m ≤ 10) (hn : 200 < n) (hgo : ∀ ps, (∀ p ∈ ps, GoodP N r p) → Asc ps → ps.length = m → ∃ q, go0 (i + 1, ptL ps) = some q ∧ Post q) (A B : List Pt) (x : Pt) (hl : (A ++ x :: B).length = m)
    (hg : ∀ p ∈ A ++ x :: B, GoodP N r p) (hs : Asc (A ++ B)) (hx : ∀ p ∈ B, x.c.a ≤ p.c.a) :
    ∃ q, iterF (fun go1 s => ref17_Made_9 n go0 go1 i s.1 s.2) n (((A.length : Int), ptL (A ++ x :: B)) : ref17_Made_s0) = some q ∧ Post q := by
  refine iterF_ex (fun s => ∃ (A B : List Pt) (x : Pt), s = ((A.length : Int), ptL (A ++ x :: B)) ∧ (A ++ x :: B).length = m ∧ (∀ p ∈ A ++ x :: B, GoodP N r p) ∧ Asc (A ++ B) ∧ ∀ p ∈ B, x.c.a ≤ p.c.a) (fun s => s.1.toNat) Post ?_ n _ ⟨A, B, x, rfl, hl, hg, hs, hx⟩ (by simp only [List.length_append, List.length_cons] at hl; simp only; omega)
  rintro _ go ⟨A, B, x, rfl, hl, hg, hs, hx⟩ ih
  simp only
  unfold ref17_Made_9
  have e4 : (-9223372036854775808 : Int) ≤ i + 1 := by omega
  have e5 : i + 1 ≤ (9223372036854775807 : Int) := by omega
  have hlen : ((ptL (A ++ x :: B)).length : Int) = (m : Int) := by rw [List.length_map, hl]
  have hAm : A.length < m := by simp only [List.length_append, List.length_cons] at hl; omega
  rcases List.eq_nil_or_concat A with rfl | ⟨A', y, rfl⟩
  · have c0 : ¬ (0 : Int) < ((([] : List Pt).length : Nat) : Int) := by simp
    rw [decide_eq_false c0, cond_false, decide_eq_true e4, decide_eq_true e5, Bool.and_self, cond_true]
    exact hgo _ hg (List.pairwise_cons.2 ⟨fun p hp => hx p hp, by simpa using hs⟩) hl
  · rw [List.concat_eq_append] at hl hg hs hlen hAm ih ⊢
    have hAl : (A' ++ [y]).length = A'.length + 1 := by simp
    rw [hAl] at hAm ih ⊢
    have c0 : (0 : Int) < ((A'.length + 1 : Nat) : Int) := by omega
    have c1 : (0 : Int) ≤ ((A'.length + 1 : Nat) : Int) := by omega
    have c2 : ((A'.length + 1 : Nat) : Int) < ((ptL (A' ++ [y] ++ x :: B)).length : Int) := by rw [hlen]; omega
    have c3 : (-9223372036854775808 : Int) ≤ ((A'.length + 1 : Nat) : Int) - 1 := by omega
    have c4 : ((A'.length + 1 : Nat) : Int) - 1 ≤ (9223372036854775807 : Int) := by omega
    have c5 : (0 : Int) ≤ ((A'.length + 1 : Nat) : Int) - 1 := by omega
    have c6 : ((A'.length + 1 : Nat) : Int) - 1 < ((ptL (A' ++ [y] ++ x :: B)).length : Int) := by rw [hlen]; omega
    have hL : ptL (A' ++ [y] ++ x :: B) = ptL A' ++ ptR y :: ptR x :: ptL B := by simp
    have hk : ((A'.length + 1 : Nat) : Int) = ((ptL A').length : Int) + 1 := by rw [List.length_map]; omega
    have g1 : cI (ptL (A' ++ [y] ++ x :: B)) ((A'.length + 1 : Nat) : Int) 4 = x.c.a := by rw [hL, hk]; simp only [cI, cellB]; rfl
    have g2 : cI (ptL (A' ++ [y] ++ x :: B)) (((A'.length + 1 : Nat) : Int) - 1) 4 = y.c.a := by rw [hL, hk, Int.add_sub_cancel]; simp only [cI, cellA]; rfl
    rw [decide_eq_true c0, cond_true, decide_eq_true c1, cond_true, decide_eq_true c2, cond_true, decide_eq_true c3, decide_eq_true c4, Bool.and_self, cond_true, decide_eq_true c5, cond_true, decide_eq_true c6, cond_true, g1, g2]
    by_cases hlt : x.c.a < y.c.a
    · rw [decide_eq_true hlt, cond_true]
      have hsw := swap_pt (ptL A') (ptL B) y x _ hk _ hL
      have hgo2 := ih (((A'.length + 1 : Nat) : Int) - 1, ptL A' ++ ptR x :: ptR y :: ptL B) ?_ ?_
      · rw [← hsw, g1, g2] at hgo2
        exact hgo2
      refine ⟨A', y :: B, x, ?_, by simp only [List.length_append, List.length_cons, List.length_nil] at hl ⊢; omega, fun p hp => hg p ?_, by simpa using hs, fun p hp => ?_⟩
      · rw [show ((A'.length + 1 : Nat) : Int) - 1 = (A'.length : Int) by omega]
        simp
      · simp only [List.mem_append, List.mem_cons, List.not_mem_nil, or_false] at hp ⊢
        rcases hp with h | h | h | h
        · exact .inl (.inl h)
        · exact .inr (.inl h)
        · exact .inl (.inr h)
        · exact .inr (.inr h)
      · rcases List.mem_cons.1 hp with rfl | hp
        · omega
        · exact hx p hp
      · simp only; omega
    · rw [decide_eq_false hlt, cond_false, decide_eq_true e4, decide_eq_true e5, Bool.and_self, cond_true]
      refine hgo _ hg ?_ hl
      obtain ⟨s1, s2, s3⟩ := List.pairwise_append.1 hs
      refine List.pairwise_append.2 ⟨s1, List.pairwise_cons.2 ⟨hx, s2⟩, fun p hp q hq => ?_⟩
      rcases List.mem_cons.1 hq with rfl | hq
      · rcases List.mem_append.1 hp with hp | hp
        · have := (List.pairwise_append.1 s1).2.2 p hp y (List.mem_singleton.2 rfl)
          omega
        · rw [List.mem_singleton] at hp; rw [hp]; omega
      · exact s3 p hp q hq
/-- a port is put among the others -/
def pushT (L : Lv) (row : List AV) : Option ref17_Made_a := bif (decide ((((L.length : Int) + 1) * 72) ≤ 140737488355328)) then bif ((decide ((-9223372036854775808) ≤ (((L.length : Int) + 1) - 1))) && (decide ((((L.length : Int) + 1) - 1) ≤ 9223372036854775807))) then (iterF (fun go1 s => ref17_Made_9 n go0 go1 i s.1 s.2) n (((((L.length : Int) + 1) - 1), (L ++ [row])) : ref17_Made_s0)) else none else none
theorem push_any (hi : 0 ≤ i ∧ i ≤ 100) (ps : List Pt) (p : Pt) (hm : ps.length ≤ 9) (hn : 200 < n) (hgo : ∀ qs, (∀ p ∈ qs, GoodP N r p) → Asc qs → qs.length = ps.length + 1 → ∃ q, go0 (i + 1, ptL qs) = some q ∧ Post q) (hg : ∀ p ∈ ps, GoodP N r p) (hs : Asc ps) (hp : GoodP N r p) :
    ∃ q, pushT n go0 i (ptL ps) (ptR p) = some q ∧ Post q := by
  unfold pushT
  have hl : ((ptL ps).length : Int) = (ps.length : Int) := by rw [List.length_map]
  have e1 : (((ptL ps).length : Int) + 1) * 72 ≤ 140737488355328 := by omega
  have e2 : (-9223372036854775808 : Int) ≤ (((ptL ps).length : Int) + 1) - 1 := by omega
  have e3 : (((ptL ps).length : Int) + 1) - 1 ≤ (9223372036854775807 : Int) := by omega
  rw [decide_eq_true e1, cond_true, decide_eq_true e2, decide_eq_true e3, Bool.and_self, cond_true]
  have := ins_any (Post := Post) n go0 i N r hi (ps.length + 1) (by omega) hn hgo ps [] p (by simp) (fun q hq => by
    simp only [List.mem_append, List.mem_cons, List.not_mem_nil, or_false] at hq
    rcases hq with h | rfl
    · exact hg q h
    · exact hp) (by simpa using hs) (fun q hq => by cases hq)
  rw [show (((ptL ps).length : Int) + 1) - 1 = (ps.length : Int) by omega]
  simpa using this
/-- the holder is drawn -/
def hT (v7 L : Lv) (N F T H A : Int) (B : Bool) (E : Lv) (h : Int) : Option ref17_Made_a :=
  (bif (decide (0 ≤ h)) then bif ((decide ((-9223372036854775808) ≤ (Int.tdiv (cI v7 i 7) 16))) && (decide ((Int.tdiv (cI v7 i 7) 16) ≤ 9223372036854775807))) then (ref17_pick n (Int.tdiv (cI v7 i 7) 16) 8).bind fun y35 =>
    (bif (decide (y35 < 7)) then pushT n go0 i L [(AV.int N), (AV.int F), (AV.int T), (AV.int h), (AV.int A), (AV.bool B), (AV.sl (.cons .int (.cons .int (.cons .int .nil))) E)]
    else pushT n go0 i L [(AV.int N), (AV.int F), (AV.int T), (AV.int H), (AV.int A), (AV.bool B), (AV.sl (.cons .int (.cons .int (.cons .int .nil))) E)]) else none
  else pushT n go0 i L [(AV.int N), (AV.int F), (AV.int T), (AV.int H), (AV.int A), (AV.bool B), (AV.sl (.cons .int (.cons .int (.cons .int .nil))) E)])
/-- the gaining carrier is another one -/
def tT (v7 life L : Lv) (N F T H A : Int) (B : Bool) (E : Lv) : Option ref17_Made_a :=
  (bif (decide (F = T)) then bif ((decide ((-9223372036854775808) ≤ (T + 1))) && (decide ((T + 1) ≤ 9223372036854775807))) then (ref14_At n life A).bind fun y30 =>
    hT n go0 i v7 L N F (Int.tmod (T + 1) 8) H A B E y30.2.1 else none
  else (ref14_At n life A).bind fun y30 => hT n go0 i v7 L N F T H A B E y30.2.1)
theorem tT_any (hi : 0 ≤ i ∧ i ≤ 100) (v7 : Lv) (h7 : In64 (cI v7 i 7)) (life : List Ev) (hL : Life life) (ps : List Pt) (C : Cl) (es : List Ce) (F : Int) (hm : ps.length ≤ 9) (hn : 200 < n) (hln : life.length < n)
    (hgo : ∀ qs, (∀ p ∈ qs, GoodP N r p) → Asc qs → qs.length = ps.length + 1 → ∃ q, go0 (i + 1, ptL qs) = some q ∧ Post q) (hg : ∀ p ∈ ps, GoodP N r p) (hs : Asc ps)
    (hF : 0 ≤ F ∧ F ≤ 7) (hN : 0 ≤ N ∧ N ≤ 99999999) (hC : ClmV r C es) (hCa : C.a < 1000) (hes : es.length ≤ 10) (hea : ∀ e ∈ es, e.a ≤ 900000) :
    ∃ q, tT n go0 i v7 (evL life) (ptL ps) N F C.t C.h C.a C.b (ceL es) = some q ∧ Post q := by
  have hCl := hC.2.1
  unfold ClV at hCl
  have hv : Vld (atL life C.a) := atL_vld hL _
  have hAt : ref14_At n (evL life) C.a = some ((atL life C.a).s, (atL life C.a).h, (atL life C.a).e, (atL life C.a).t, 0) := by
    have hok : OkAt life C.a := ⟨hL, by omega, by omega⟩
    rw [ref14_At_v n life _ hln]
    simp only [atT, atR, if_pos hok]
  have p7 := tdiv16 h7
  have main : ∀ T h : Int, 0 ≤ T ∧ T ≤ 7 → F ≠ T → h ≤ 63 → ∃ q, hT n go0 i v7 (ptL ps) N F T C.h C.a C.b (ceL es) h = some q ∧ Post q := by
    intro T h hT0 hFT hh
    have mk : ∀ H : Int, 0 ≤ H ∧ H ≤ 63 → ∃ q, pushT n go0 i (ptL ps) [(AV.int N), (AV.int F), (AV.int T), (AV.int H), (AV.int C.a), (AV.bool C.b), (AV.sl (.cons .int (.cons .int (.cons .int .nil))) (ceL es))] = some q ∧ Post q := fun H hH =>
      push_any n go0 i N r hi ps ⟨⟨N, F, T, H, C.a, C.b⟩, es⟩ hm hn hgo hg hs ⟨rfl, ⟨hC.1, ⟨by simp only; omega, by simp only; omega, by simp only; omega, by simp only; omega, by simp only; omega, by simp only; omega, hFT, by simp only; omega, by simp only; omega, by simp only; omega, by simp only; omega⟩, hC.2.2.1, hC.2.2.2⟩, hCa, hes, hea⟩
    unfold hT
    by_cases h0 : 0 ≤ h
    · rw [decide_eq_true h0, cond_true, decide_eq_true p7.1, decide_eq_true p7.2, Bool.and_self, cond_true, ref17_pick_v n p7 (show (0 : Int) < 8 by decide), Option.bind_some]
      by_cases h1 : pk (Int.tdiv (cI v7 i 7) 16) 8 < 7
      · rw [decide_eq_true h1, cond_true]; exact mk h ⟨h0, hh⟩
      · rw [decide_eq_false h1, cond_false]; exact mk C.h (by omega)
    · rw [decide_eq_false h0, cond_false]; exact mk C.h (by omega)
  have hh : (atL life C.a).h ≤ 63 := by unfold Vld at hv; omega
  unfold tT
  by_cases h0 : F = C.t
  · have e1 : (-9223372036854775808 : Int) ≤ C.t + 1 := by omega
    have e2 : C.t + 1 ≤ (9223372036854775807 : Int) := by omega
    rw [decide_eq_true h0, cond_true, decide_eq_true e1, decide_eq_true e2, Bool.and_self, cond_true, hAt, Option.bind_some]
    have ht : Int.tmod (C.t + 1) 8 = (C.t + 1) % 8 := Int.tmod_eq_emod_of_nonneg (by omega)
    exact main _ _ (by rw [ht]; omega) (by rw [ht]; omega) hh
  · rw [decide_eq_false h0, cond_false, hAt, Option.bind_some]
    exact main _ _ (by omega) h0 hh
end
/-- the integers of a port -/
abbrev PtN := (Int × Int × Int × Int × Int × Int) × List (Int × Int × Int) × Int
abbrev pnR (y : PtN) : List AV := [.int y.1.1, .int y.1.2.1, .int y.1.2.2.1, .int y.1.2.2.2.1, .int y.1.2.2.2.2.1, .int y.1.2.2.2.2.2, .sl (.cons .int (.cons .int (.cons .int .nil))) (y.2.1.map triR), .int y.2.2]
def PnOk (y : PtN) : Prop := (In64 y.1.1 ∧ In64 y.1.2.1 ∧ In64 y.1.2.2.1 ∧ In64 y.1.2.2.2.1 ∧ In64 y.1.2.2.2.2.1 ∧ In64 y.1.2.2.2.2.2) ∧ (∀ x ∈ y.2.1, In64 x.1 ∧ In64 x.2.1 ∧ In64 x.2.2) ∧ In64 y.2.2
theorem ptsV_of {N : Int} {r : Rl} : ∀ {ps : List Pt} {last : Int}, (∀ p ∈ ps, GoodP N r p) → Asc ps → (∀ p ∈ ps, last ≤ p.c.a) → PtsV N r last ps
  | [], _, _, _, _ => trivial
  | p :: ps, last, hg, hs, hl => by
    have h1 := hg p (List.mem_cons_self ..)
    refine ⟨⟨h1.1, h1.2.1, hl p (List.mem_cons_self ..)⟩, ptsV_of (fun q hq => hg q (List.mem_cons_of_mem _ hq)) (List.pairwise_cons.1 hs).2 fun q hq => (List.pairwise_cons.1 hs).1 q hq⟩
theorem ref17_Made_v (n : Nat) (v0 v1 v2 v3 v4 v5 : Int) (xs : List (Int × Int × Int)) (ys : List PtN) (h0 : In64 v0) (h1 : In64 v1) (h2 : In64 v2) (h3 : In64 v3) (h4 : In64 v4) (h5 : In64 v5) (hx : ∀ x ∈ xs, In64 x.1 ∧ In64 x.2.1 ∧ In64 x.2.2) (hy : ∀ y ∈ ys, PnOk y) (hn : 200 < n) :
    ∃ c : Ch, ref17_Made n v0 v1 v2 v3 v4 v5 (xs.map triR) (ys.map pnR) = some (c.n, c.f, c.r.a, c.r.c, c.r.s, c.r.r, evL c.life, ptL c.ps) ∧ Go.Dial.Chn.Good c ∧ c.life.length ≤ 16 ∧ c.ps.length ≤ 5 ∧ ∀ p ∈ c.ps, GoodP c.n c.r p := by
  obtain ⟨life, hlife, hA, hl16⟩ := ref14_Made_v n xs hx (by omega)
  have hL : Life life := ⟨hA, by omega⟩
  obtain ⟨N, hN⟩ : ∃ y, y = pk v0 100000000 := ⟨_, rfl⟩
  obtain ⟨F, hF⟩ : ∃ y, y = pk v1 8 := ⟨_, rfl⟩
  have bN := pk_bd v0 (k := 100000000) (by decide)
  have bF := pk_bd v1 (k := 8) (by decide)
  rw [← hN] at bN; rw [← hF] at bF
  obtain ⟨r, hr⟩ : ∃ r, r = mrR v2 v3 v4 v5 := ⟨_, rfl⟩
  have hrV : RlV r := by rw [hr]; exact mrR_v ..
  have hrS := mrR_small v2 v3 v4 v5
  rw [← hr] at hrS
  have hR : ref16_MadeRules n v2 v3 v4 v5 = some (r.a, r.c, r.s, r.r) := by rw [ref16_MadeRules_v n v2 v3 v4 v5 h2 h3 h4 h5, hr]; rfl
  have main : ∃ q : ref17_Made_a, ref17_Made n v0 v1 v2 v3 v4 v5 (xs.map triR) (ys.map pnR) = some q ∧ ∃ ps, q = (N, F, r.a, r.c, r.s, r.r, evL life, ptL ps) ∧ (∀ p ∈ ps, GoodP N r p) ∧ Asc ps ∧ ps.length ≤ 5 := by
    unfold ref17_Made ref17_Made_1
    rw [ref17_pick_v n h0 (show (0 : Int) < 100000000 by decide), Option.bind_some, ref17_pick_v n h1 (show (0 : Int) < 8 by decide), Option.bind_some, hR, Option.bind_some, hlife, Option.bind_some, ← hN, ← hF]
    refine iterF_ex (fun s => ∃ (i : Nat) (ps : List Pt), s = ((i : Int), ptL ps) ∧ i ≤ 5 ∧ ps.length = i ∧ (∀ p ∈ ps, GoodP N r p) ∧ Asc ps) (fun s => 5 - s.1.toNat) (fun q => ∃ ps, q = (N, F, r.a, r.c, r.s, r.r, evL life, ptL ps) ∧ (∀ p ∈ ps, GoodP N r p) ∧ Asc ps ∧ ps.length ≤ 5) ?_ n _ ⟨0, [], rfl, by omega, rfl, (fun p hp => by cases hp), List.Pairwise.nil⟩ (by simp; omega)
    rintro _ go ⟨i, ps, rfl, hi, hl, hg, hs⟩ ih
    simp only
    unfold ref17_Made_2
    have done : ∃ q : ref17_Made_a, some (N, F, r.a, r.c, r.s, r.r, evL life, ptL ps) = some q ∧ ∃ ps, q = (N, F, r.a, r.c, r.s, r.r, evL life, ptL ps) ∧ (∀ p ∈ ps, GoodP N r p) ∧ Asc ps ∧ ps.length ≤ 5 := ⟨_, rfl, ps, rfl, hg, hs, by omega⟩
    by_cases g1 : i < ys.length
    · have c1 : (i : Int) < ((ys.map pnR).length : Int) := by rw [List.length_map]; omega
      rw [decide_eq_true c1, cond_true]
      unfold ref17_Made_3
      by_cases g2 : i < 5
      · obtain ⟨y, hye⟩ := get_lt g1
        obtain ⟨⟨q0, q1, q2, q3, q4, q5⟩, q6, q7⟩ := hy y (List.mem_of_getElem? hye)
        have hcell : ∀ k, cA (ys.map pnR) (i : Int) k = (pnR y).getD k (.int 0) := fun k => cA_map (by simpa using hye)
        have z0 : cI (ys.map pnR) i 0 = y.1.1 := by simp only [cI, hcell]; rfl
        have z1 : cI (ys.map pnR) i 1 = y.1.2.1 := by simp only [cI, hcell]; rfl
        have z2 : cI (ys.map pnR) i 2 = y.1.2.2.1 := by simp only [cI, hcell]; rfl
        have z3 : cI (ys.map pnR) i 3 = y.1.2.2.2.1 := by simp only [cI, hcell]; rfl
        have z4 : cI (ys.map pnR) i 4 = y.1.2.2.2.2.1 := by simp only [cI, hcell]; rfl
        have z5 : cI (ys.map pnR) i 5 = y.1.2.2.2.2.2 := by simp only [cI, hcell]; rfl
        have z6 : cL (ys.map pnR) i 6 = y.2.1.map triR := by simp only [cL, hcell]; rfl
        have z7 : cI (ys.map pnR) i 7 = y.2.2 := by simp only [cI, hcell]; rfl
        obtain ⟨C, es, hM, hC, hCa, hes, hea⟩ := ref16_Made_v n v2 v3 v4 v5 _ _ _ _ _ _ y.2.1 h2 h3 h4 h5 q0 q1 q2 q3 q4 q5 q6 hn
        rw [← hr] at hC
        obtain ⟨w0, hw0⟩ : ∃ w, w = pk y.2.2 3 := ⟨_, rfl⟩
        have bw := pk_bd y.2.2 (k := 3) (by decide)
        rw [← hw0] at bw
        have c2 : (i : Int) < 5 := by omega
        have c3 : (0 : Int) ≤ (i : Int) := by omega
        have hpl : ((ptL ps).length : Int) = (i : Int) := by rw [List.length_map]; omega
        have c4 : (-9223372036854775808 : Int) ≤ ((ptL ps).length : Int) - w0 := by omega
        have c5 : ((ptL ps).length : Int) - w0 ≤ (9223372036854775807 : Int) := by omega
        have hgo : ∀ qs, (∀ p ∈ qs, GoodP N r p) → Asc qs → qs.length = ps.length + 1 → ∃ q, go ((i : Int) + 1, ptL qs) = some q ∧ ∃ ps, q = (N, F, r.a, r.c, r.s, r.r, evL life, ptL ps) ∧ (∀ p ∈ ps, GoodP N r p) ∧ Asc ps ∧ ps.length ≤ 5 := fun qs a1 a2 a3 =>
          ih _ ⟨i + 1, qs, rfl, by omega, by omega, a1, a2⟩ (by simp only; omega)
        have T : ∀ F', 0 ≤ F' ∧ F' ≤ 7 → ∃ q, tT n go i (ys.map pnR) (evL life) (ptL ps) N F' C.t C.h C.a C.b (ceL es) = some q ∧ ∃ ps, q = (N, F, r.a, r.c, r.s, r.r, evL life, ptL ps) ∧ (∀ p ∈ ps, GoodP N r p) ∧ Asc ps ∧ ps.length ≤ 5 := fun F' hF' =>
          tT_any n go i N r (by omega) (ys.map pnR) (by rw [z7]; exact q7) life hL ps C es F' (by omega) hn (by omega) hgo hg hs hF' (by omega) hC hCa hes hea
        rw [decide_eq_true c2, cond_true, decide_eq_true c3, cond_true, z0, z1, z2, z3, z4, z5, z6, z7, hM, Option.bind_some, ref17_pick_v n q7 (show (0 : Int) < 3 by decide), Option.bind_some, ← hw0, decide_eq_true c4, decide_eq_true c5, Bool.and_self, cond_true, ref17_pick_v n q7 (show (0 : Int) < 16 by decide), Option.bind_some]
        simp only
        unfold ref17_Made_4
        by_cases k1 : pk y.2.2 16 < 15
        · rw [decide_eq_true k1, cond_true]
          unfold ref17_Made_5
          by_cases k2 : (0 : Int) < ((ptL ps).length : Int) - w0
          · have e1 : (-9223372036854775808 : Int) ≤ ((ptL ps).length : Int) - w0 - 1 := by omega
            have e2 : ((ptL ps).length : Int) - w0 - 1 ≤ (9223372036854775807 : Int) := by omega
            have e3 : (0 : Int) ≤ ((ptL ps).length : Int) - w0 - 1 := by omega
            have e4 : ((ptL ps).length : Int) - w0 - 1 < ((ptL ps).length : Int) := by omega
            rw [decide_eq_true k2, cond_true, decide_eq_true e1, decide_eq_true e2, Bool.and_self, cond_true, decide_eq_true e3, cond_true, decide_eq_true e4, cond_true]
            obtain ⟨k, hk⟩ : ∃ k : Nat, ((ptL ps).length : Int) - w0 - 1 = (k : Int) := ⟨(((ptL ps).length : Int) - w0 - 1).toNat, by omega⟩
            obtain ⟨p, hp⟩ := get_lt (l := ps) (i := k) (by omega)
            obtain ⟨_, _, g3, _⟩ := port_cells hp
            have hpg := (hg p (List.mem_of_getElem? hp)).2.1.2.1
            unfold ClV at hpg
            have := T (cI (ptL ps) (((ptL ps).length : Int) - w0 - 1) 2) (by rw [hk, g3]; omega)
            exact this
          · rw [decide_eq_false k2, cond_false]
            exact T F (by omega)
        · rw [decide_eq_false k1, cond_false]
          have hCl := hC.2.1
          unfold ClV at hCl
          exact T C.f (by omega)
      · have c2 : ¬ (i : Int) < 5 := by omega
        rw [decide_eq_false c2, cond_false]
        exact done
    · have c1 : ¬ (i : Int) < ((ys.map pnR).length : Int) := by rw [List.length_map]; omega
      rw [decide_eq_false c1, cond_false]
      exact done
  obtain ⟨q, e, ps, rfl, hg, hs, hl⟩ := main
  refine ⟨⟨N, F, r, life, ps⟩, e, ⟨⟨hL, by simp only; omega, by simp only; omega, by simp only; omega, by simp only; omega, by simp only; omega, ptsV_of hg hs fun p hp => ?_⟩, fun p hp => ?_⟩, hl16, hl, hg⟩
  · have := (hg p hp).2.1.2.1
    unfold ClV at this
    omega
  · have := (hg p hp).2.2.1
    unfold endsV
    simp only
    omega
end Go.Proofs.Ytjllgiddmeiaoaa
