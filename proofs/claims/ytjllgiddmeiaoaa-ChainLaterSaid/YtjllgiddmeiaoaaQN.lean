/-
  The arguments of the laws about chains; drawn chains.
-/
import Derived.Test.YtjllgiddmeiaoaaQ20
import Derived.Test.YtjllgiddmeiaoaaSxR
set_option linter.unusedVariables false
set_option linter.unusedSimpArgs false
set_option maxRecDepth 100000
namespace Go.Proofs.Ytjllgiddmeiaoaa
open Go Go.Sx Go.Dial.Clm Go.Dial.Lif Go.Dial.Chn
theorem list3 {α : Type} {l : List α} (h : l.length = 3) : ∃ a b c, l = [a, b, c] := by
  match l, h with
  | [a, b, c], _ => exact ⟨a, b, c, rfl⟩
theorem list8 {α : Type} {l : List α} (h : l.length = 8) : ∃ a b c d e f g i, l = [a, b, c, d, e, f, g, i] := by
  match l, h with
  | [a, b, c, d, e, f, g, i], _ => exact ⟨a, b, c, d, e, f, g, i, rfl⟩
theorem three {r : List AV} (h : r.map AV.ty = [.int, .int, .int]) (hok : ∀ x ∈ r, AVok x) : ∃ x : Int × Int × Int, r = triR x ∧ In64 x.1 ∧ In64 x.2.1 ∧ In64 x.2.2 := by
  obtain ⟨a, b, c, rfl⟩ := list3 (l := r) (by have := congrArg List.length h; simpa using this)
  simp only [List.map_cons, List.map_nil, List.cons.injEq, and_true] at h
  obtain ⟨a, rfl, h1⟩ := (hok a (by simp)).i h.1
  obtain ⟨b, rfl, h2⟩ := (hok b (by simp)).i h.2.1
  obtain ⟨c, rfl, h3⟩ := (hok c (by simp)).i h.2.2
  exact ⟨(a, b, c), rfl, h1, h2, h3⟩
theorem rows_of {α : Type} {f : α → List AV} {Q : α → Prop} : ∀ {l : Lv}, (∀ r ∈ l, ∃ x, r = f x ∧ Q x) → ∃ xs : List α, l = xs.map f ∧ ∀ x ∈ xs, Q x
  | [], _ => ⟨[], rfl, fun x h => by cases h⟩
  | r :: l, h => by
    obtain ⟨x, rfl, hx⟩ := h r (List.mem_cons_self ..)
    obtain ⟨xs, rfl, hxs⟩ := rows_of (l := l) fun r hr => h r (List.mem_cons_of_mem _ hr)
    exact ⟨x :: xs, rfl, fun y hy => by
      rcases List.mem_cons.1 hy with rfl | hy
      · exact hx
      · exact hxs y hy⟩
theorem tris_of {l : Lv} {t : Ty} (ht : t.list = [.int, .int, .int]) (h : AVok (.sl t l)) : ∃ xs : List (Int × Int × Int), l = xs.map triR ∧ ∀ x ∈ xs, In64 x.1 ∧ In64 x.2.1 ∧ In64 x.2.2 := by
  cases h with
  | sl _ _ _ hty hr => exact rows_of fun r hm => three (by rw [hty r hm, ht]) (hr r hm)
theorem pn_of {r : List AV} (h : r.map AV.ty = [.int, .int, .int, .int, .int, .int, .sl (.cons .int (.cons .int (.cons .int .nil))), .int]) (hok : ∀ x ∈ r, AVok x) : ∃ y : PtN, r = pnR y ∧ PnOk y := by
  obtain ⟨a, b, c, d, e, f, g, i, rfl⟩ := list8 (l := r) (by have := congrArg List.length h; simpa using this)
  simp only [List.map_cons, List.map_nil, List.cons.injEq, and_true] at h
  obtain ⟨k0, k1, k2, k3, k4, k5, k6, k7⟩ := h
  obtain ⟨a, rfl, h1⟩ := (hok a (by simp)).i k0
  obtain ⟨b, rfl, h2⟩ := (hok b (by simp)).i k1
  obtain ⟨c, rfl, h3⟩ := (hok c (by simp)).i k2
  obtain ⟨d, rfl, h4⟩ := (hok d (by simp)).i k3
  obtain ⟨e, rfl, h5⟩ := (hok e (by simp)).i k4
  obtain ⟨f, rfl, h6⟩ := (hok f (by simp)).i k5
  obtain ⟨i, rfl, h8⟩ := (hok i (by simp)).i k7
  have hg := hok g (by simp)
  obtain ⟨l, rfl, _⟩ := hg.l' k6
  obtain ⟨xs, rfl, h7⟩ := tris_of rfl hg
  exact ⟨((a, b, c, d, e, f), xs, i), rfl, ⟨h1, h2, h3, h4, h5, h6⟩, h7, h8⟩
theorem pns_of {l : Lv} {t : Ty} (ht : t.list = [.int, .int, .int, .int, .int, .int, .sl (.cons .int (.cons .int (.cons .int .nil))), .int]) (h : AVok (.sl t l)) : ∃ ys : List PtN, l = ys.map pnR ∧ ∀ y ∈ ys, PnOk y := by
  cases h with
  | sl _ _ _ hty hr => exact rows_of fun r hm => pn_of (by rw [hty r hm, ht]) (hr r hm)
theorem int_of {n : Int} (h : AVok (.int n)) : In64 n := by
  cases h with
  | int _ h => exact h
/-- the integers that determine a chain -/
structure Nums where
  v0 : Int
  v1 : Int
  v2 : Int
  v3 : Int
  v4 : Int
  v5 : Int
  xs : List (Int × Int × Int)
  ys : List PtN
def Nums.ok (x : Nums) : Prop := In64 x.v0 ∧ In64 x.v1 ∧ In64 x.v2 ∧ In64 x.v3 ∧ In64 x.v4 ∧ In64 x.v5 ∧ (∀ y ∈ x.xs, In64 y.1 ∧ In64 y.2.1 ∧ In64 y.2.2) ∧ ∀ y ∈ x.ys, PnOk y
theorem nums_of {v0 v1 v2 v3 v4 v5 : Int} {v6 v7 : Lv} {rest : List AV} (h : ∀ x ∈ [AV.int v0, AV.int v1, AV.int v2, AV.int v3, AV.int v4, AV.int v5, AV.sl (.cons .int (.cons .int (.cons .int .nil))) v6, AV.sl (.cons .int (.cons .int (.cons .int (.cons .int (.cons .int (.cons .int (.cons (.sl (.cons .int (.cons .int (.cons .int .nil)))) (.cons .int .nil)))))))) v7] ++ rest, AVok x) :
    (∃ X : Nums, X.ok ∧ v0 = X.v0 ∧ v1 = X.v1 ∧ v2 = X.v2 ∧ v3 = X.v3 ∧ v4 = X.v4 ∧ v5 = X.v5 ∧ v6 = X.xs.map triR ∧ v7 = X.ys.map pnR) ∧ ∀ x ∈ rest, AVok x := by
  obtain ⟨xs, rfl, hx⟩ := tris_of rfl (h _ (by simp : AV.sl (.cons .int (.cons .int (.cons .int .nil))) v6 ∈ _))
  obtain ⟨ys, rfl, hy⟩ := pns_of rfl (h _ (by simp : AV.sl (.cons .int (.cons .int (.cons .int (.cons .int (.cons .int (.cons .int (.cons (.sl (.cons .int (.cons .int (.cons .int .nil)))) (.cons .int .nil)))))))) v7 ∈ _))
  exact ⟨⟨⟨v0, v1, v2, v3, v4, v5, xs, ys⟩, ⟨int_of (h _ (by simp)), int_of (h _ (by simp)), int_of (h _ (by simp)), int_of (h _ (by simp)), int_of (h _ (by simp)), int_of (h _ (by simp)), hx, hy⟩, rfl, rfl, rfl, rfl, rfl, rfl, rfl, rfl⟩, fun x hx => h x (List.mem_append_right _ hx)⟩
theorem made_of (n : Nat) (X : Nums) (hX : X.ok) (hn : 200 < n) : ∃ c : Ch, ref17_Made n X.v0 X.v1 X.v2 X.v3 X.v4 X.v5 (X.xs.map triR) (X.ys.map pnR) = some (c.n, c.f, c.r.a, c.r.c, c.r.s, c.r.r, evL c.life, ptL c.ps) ∧ Go.Dial.Chn.Good c ∧ c.life.length ≤ 16 ∧ c.ps.length ≤ 5 ∧ ∀ p ∈ c.ps, GoodP c.n c.r p := by
  obtain ⟨h0, h1, h2, h3, h4, h5, hx, hy⟩ := hX
  exact ref17_Made_v n _ _ _ _ _ _ _ _ h0 h1 h2 h3 h4 h5 hx hy hn
theorem forceAt_len {c : Ch} (h : ChV c) (t : Int) : (forceAt c t).length ≤ 16 := by
  have h1 := force_len c ((hps c).takeWhile fun h => decide (h.a ≤ t)) []
  have h2 := List.Sublist.length_le (List.takeWhile_sublist (fun h : Hp => decide (h.a ≤ t)) (l := hps c))
  have h3 := hps_len c
  have h4 := h.2.2.2.2.2.1
  unfold forceAt
  simp only [List.length_nil] at h1
  omega
theorem turnsV_len {c : Ch} (hV : ChV c) : (turnsV c).length ≤ 32 := by
  have h2 := moms_len c (hps c) []
  have h3 := hps_len c
  have h4 := hV.2.2.2.2.2.1
  have h5 : (turnsV c).length ≤ 2 * (hps c).length := by
    show (moms c [] (hps c)).length ≤ _
    simpa using h2
  omega
theorem lst_mem (x : Cs) (l : List Cs) : lst x l ∈ x :: l := by
  unfold lst
  cases h : l.getLast? with
  | none => exact List.mem_cons_self ..
  | some y => exact List.mem_cons_of_mem _ (List.mem_of_getLast? h)
theorem ints_fo (n : Nat) (G G' : List Int) (hn : G.length < n) (hl : G.length ≤ 1000) : ref16_Ints n (foL G) (foL G') = some (decide (G = G')) := by
  unfold foL
  rw [ref16_Ints_v n _ _ (by rw [List.length_reverse]; exact hn) (by rw [List.length_reverse]; omega)]
  have : (G.reverse = G'.reverse) ↔ (G = G') := List.reverse_inj
  simp only [this]
theorem has_fo (n : Nat) (G : List Int) (x : Int) (hn : G.length < n) (hl : G.length ≤ 1000) : law17_has n (foL G) x = some (decide (x ∈ G)) := by
  unfold foL
  rw [law17_has_v n _ _ (by rw [List.length_reverse]; exact hn) (by rw [List.length_reverse]; omega)]
  simp only [List.mem_reverse]
end Go.Proofs.Ytjllgiddmeiaoaa
