/-
  Drawn events; what two events have in common; equal worlds; the law's arguments.
-/
import Derived.Test.YtgckmifmjiklmaaGreatMe
import Derived.Test.YtgckmifmjiklmaaGreatSxR
set_option linter.unusedVariables false
set_option linter.unusedSimpArgs false
set_option maxRecDepth 100000
namespace Go.Proofs.YtgckmifmjiklmaaGreat
open Go Go.Sx Go.Dial.Blk Go.Dial.Mrg
/-- what is known of a drawn event -/
def OneP (at_ : Int) (r : Int × Int × Int × Int × Int × Int × Int × Int) : Prop := (1 ≤ r.1 ∧ r.1 ≤ 4) ∧ at_ ≤ r.2.1 ∧ r.2.1 ≤ at_ + 4 ∧ -200 ≤ r.2.2.2.2.2.2.2 ∧ r.2.2.2.2.2.2.2 ≤ 200
theorem tm8 {x : Int} (h : 0 ≤ x) : 0 ≤ Int.tmod (x + 1) 8 ∧ Int.tmod (x + 1) 8 ≤ 7 := by
  have := tmod_bd (a := x + 1) (k := 8) (by omega) (by decide)
  omega
theorem one6 (n : Nat) {s t x5 x6 k d A B z : Int} (s0 : 0 ≤ s) (s1 : s ≤ 255) (h5 : In64 x5) (h6 : In64 x6) (k0 : 0 ≤ k) (k1 : k ≤ 3) (d0 : 0 ≤ d) (d1 : d ≤ 4) (z0 : 0 ≤ z) (z1 : z ≤ 7) (hn : 20 < n) :
    Ok (OneP t) (iterF (fun go0 q => ref42_One_6 n go0 s t x5 x6 k d A B q.1 q.2) n ((0, z) : ref42_One_s0)) := by
  have b6 := pk_bd x6 (k := 401) (by decide)
  refine iterF_ok (fun q => ∃ (i : Nat) (y : Int), q = ((i : Int), y) ∧ i ≤ 8 ∧ 0 ≤ y ∧ y ≤ 7) (fun q => 8 - q.1.toNat) _ ?_ n _ ⟨0, z, rfl, by omega, z0, z1⟩ (by first | omega | (simp only; omega))
  rintro _ go ⟨i, y, rfl, hi, y0, y1⟩ ih
  simp only at ih ⊢
  unfold ref42_One_6
  have hgo : i < 8 → Ok (OneP t) (go ((i : Int) + 1, Int.tmod (y + 1) 8)) := fun h => ih _ ⟨i + 1, _, rfl, by omega, (tm8 y0).1, (tm8 y0).2⟩ (by first | omega | (simp only; omega))
  rw [ref13_Piece_v n h5 h6, Option.bind_some, ref42_pick_v n h6 (by decide), Option.bind_some, shr_mod s0 s1 y0 y1]
  refine oF (fun h8 => oF (fun hz => hO (by omega) (by omega) (hO (by omega) (by omega) (hgo (by omega)))) (fun hz => hN y0 (oBN (fun _ => ?_) (fun _ => hO (by omega) (by omega) (hO (by omega) (by omega) (hgo (by omega))))))) (fun h8 => ?_)
  · exact hO (by omega) (by omega) (hD ⟨⟨(by omega : 1 ≤ 1 + k), (by omega : 1 + k ≤ 4)⟩, (by omega : t ≤ t + d), (by omega : t + d ≤ t + 4), (by omega : -200 ≤ pk x6 401 - 200), (by omega : pk x6 401 - 200 ≤ 200)⟩)
  · exact hO (by omega) (by omega) (hD ⟨⟨(by omega : 1 ≤ 1 + k), (by omega : 1 + k ≤ 4)⟩, (by omega : t ≤ t + d), (by omega : t + d ≤ t + 4), (by omega : -200 ≤ pk x6 401 - 200), (by omega : pk x6 401 - 200 ≤ 200)⟩)
theorem one9 (n : Nat) {s t x5 x6 k d A B z : Int} (s0 : 0 ≤ s) (s1 : s ≤ 255) (h5 : In64 x5) (h6 : In64 x6) (k0 : 0 ≤ k) (k1 : k ≤ 3) (d0 : 0 ≤ d) (d1 : d ≤ 4) (z0 : 0 ≤ z) (z1 : z ≤ 7) (hn : 20 < n) :
    Ok (OneP t) (iterF (fun go0 q => ref42_One_9 n go0 s t x5 x6 k d A B q.1 q.2) n ((0, z) : ref42_One_s0)) := by
  have b6 := pk_bd x6 (k := 401) (by decide)
  refine iterF_ok (fun q => ∃ (i : Nat) (y : Int), q = ((i : Int), y) ∧ i ≤ 8 ∧ 0 ≤ y ∧ y ≤ 7) (fun q => 8 - q.1.toNat) _ ?_ n _ ⟨0, z, rfl, by omega, z0, z1⟩ (by first | omega | (simp only; omega))
  rintro _ go ⟨i, y, rfl, hi, y0, y1⟩ ih
  simp only at ih ⊢
  unfold ref42_One_9
  have hgo : i < 8 → Ok (OneP t) (go ((i : Int) + 1, Int.tmod (y + 1) 8)) := fun h => ih _ ⟨i + 1, _, rfl, by omega, (tm8 y0).1, (tm8 y0).2⟩ (by first | omega | (simp only; omega))
  have hend : ∀ a b c d' e f : Int, -200 ≤ f → f ≤ 200 → OneP t (1 + k, t + d, a, b, c, d', e, f) := fun a b c d' e f f0 f1 => ⟨⟨(by omega : 1 ≤ 1 + k), (by omega : 1 + k ≤ 4)⟩, (by omega : t ≤ t + d), (by omega : t + d ≤ t + 4), f0, f1⟩
  rw [ref13_Piece_v n h5 h6, Option.bind_some, ref42_pick_v n h6 (by decide), Option.bind_some, shr_mod s0 s1 y0 y1]
  have hfin : Ok (OneP t) (bif (!(decide ((1 + k) = 3))) then (bif (decide ((1 + k) = 1)) then some ((1 + k), (t + d), A, B, 0, 0, 0, 0)
    else (bif (decide ((1 + k) = 4)) then some ((1 + k), (t + d), A, 0, 0, 0, 0, 0)
    else some ((1 + k), (t + d), A, B, 0, (pieceR x5 x6).1, (pieceR x5 x6).2, (pk x6 401 - 200))))
    else some ((1 + k), (t + d), A, B, y, (pieceR x5 x6).1, (pieceR x5 x6).2, (pk x6 401 - 200))) :=
    oN (fun _ => hD (hend _ _ _ _ _ _ (by omega) (by omega))) (fun _ => oF (fun _ => hD (hend _ _ _ _ _ _ (by omega) (by omega))) (fun _ => oF (fun _ => hD (hend _ _ _ _ _ _ (by omega) (by omega))) (fun _ => hD (hend _ _ _ _ _ _ (by omega) (by omega)))))
  refine oF (fun h8 => oF (fun hz => hO (by omega) (by omega) (hO (by omega) (by omega) (hgo (by omega)))) (fun hz => hN y0 (oBN (fun _ => ?_) (fun _ => hO (by omega) (by omega) (hO (by omega) (by omega) (hgo (by omega))))))) (fun h8 => ?_)
  · exact hO (by omega) (by omega) hfin
  · exact hO (by omega) (by omega) hfin
theorem one5 (n : Nat) {s e t x5 x6 k d A z0 z1 : Int} (s0 : 0 ≤ s) (s1 : s ≤ 255) (e0 : 0 ≤ e) (e1 : e ≤ 255) (h5 : In64 x5) (h6 : In64 x6) (k0 : 0 ≤ k) (k1 : k ≤ 3) (d0 : 0 ≤ d) (d1 : d ≤ 4) (y0 : 0 ≤ z0) (y1 : z0 ≤ 7) (y2 : 0 ≤ z1) (y3 : z1 ≤ 7) (hn : 20 < n) :
    Ok (OneP t) (iterF (fun go0 q => ref42_One_5 n go0 s e t x5 x6 k d A z1 q.1 q.2) n ((0, z0) : ref42_One_s0)) := by
  refine iterF_ok (fun q => ∃ (i : Nat) (y : Int), q = ((i : Int), y) ∧ i ≤ 8 ∧ 0 ≤ y ∧ y ≤ 7) (fun q => 8 - q.1.toNat) _ ?_ n _ ⟨0, z0, rfl, by omega, y0, y1⟩ (by first | omega | (simp only; omega))
  rintro _ go ⟨i, y, rfl, hi, y0, y1⟩ ih
  simp only at ih ⊢
  unfold ref42_One_5
  have hgo : i < 8 → Ok (OneP t) (go ((i : Int) + 1, Int.tmod (y + 1) 8)) := fun h => ih _ ⟨i + 1, _, rfl, by omega, (tm8 y0).1, (tm8 y0).2⟩ (by first | omega | (simp only; omega))
  refine oF (fun h8 => oF (fun hz => hO (by omega) (by omega) (hO (by omega) (by omega) (hgo (by omega)))) (fun hz => hN y0 (oBN (fun _ => one6 n s0 s1 h5 h6 k0 k1 d0 d1 y2 y3 hn) (fun _ => hO (by omega) (by omega) (hO (by omega) (by omega) (hgo (by omega))))))) (fun h8 => one6 n s0 s1 h5 h6 k0 k1 d0 d1 y2 y3 hn)
theorem one8 (n : Nat) {s t x5 x6 k d A z0 z1 : Int} (s0 : 0 ≤ s) (s1 : s ≤ 255) (h5 : In64 x5) (h6 : In64 x6) (k0 : 0 ≤ k) (k1 : k ≤ 3) (d0 : 0 ≤ d) (d1 : d ≤ 4) (y0 : 0 ≤ z0) (y1 : z0 ≤ 7) (y2 : 0 ≤ z1) (y3 : z1 ≤ 7) (hn : 20 < n) :
    Ok (OneP t) (iterF (fun go0 q => ref42_One_8 n go0 s t x5 x6 k d A z1 q.1 q.2) n ((0, z0) : ref42_One_s0)) := by
  refine iterF_ok (fun q => ∃ (i : Nat) (y : Int), q = ((i : Int), y) ∧ i ≤ 8 ∧ 0 ≤ y ∧ y ≤ 7) (fun q => 8 - q.1.toNat) _ ?_ n _ ⟨0, z0, rfl, by omega, y0, y1⟩ (by first | omega | (simp only; omega))
  rintro _ go ⟨i, y, rfl, hi, y0, y1⟩ ih
  simp only at ih ⊢
  unfold ref42_One_8
  have hgo : i < 8 → Ok (OneP t) (go ((i : Int) + 1, Int.tmod (y + 1) 8)) := fun h => ih _ ⟨i + 1, _, rfl, by omega, (tm8 y0).1, (tm8 y0).2⟩ (by first | omega | (simp only; omega))
  refine oF (fun h8 => oF (fun hz => hO (by omega) (by omega) (hO (by omega) (by omega) (hgo (by omega)))) (fun hz => hN y0 (oBN (fun _ => one9 n s0 s1 h5 h6 k0 k1 d0 d1 y2 y3 hn) (fun _ => hO (by omega) (by omega) (hO (by omega) (by omega) (hgo (by omega))))))) (fun h8 => one9 n s0 s1 h5 h6 k0 k1 d0 d1 y2 y3 hn)
theorem one4 (n : Nat) (go) {s e t x5 x6 k d A z0 z1 : Int} (s0 : 0 ≤ s) (s1 : s ≤ 255) (e0 : 0 ≤ e) (e1 : e ≤ 255) (h5 : In64 x5) (h6 : In64 x6) (k0 : 0 ≤ k) (k1 : k ≤ 3) (d0 : 0 ≤ d) (d1 : d ≤ 4) (y0 : 0 ≤ z0) (y1 : z0 ≤ 7) (y2 : 0 ≤ z1) (y3 : z1 ≤ 7) (hn : 20 < n) :
    Ok (OneP t) (ref42_One_4 n go s e t x5 x6 k d A z0 z1) := by
  unfold ref42_One_4
  exact oF (fun _ => one5 n s0 s1 e0 e1 h5 h6 k0 k1 d0 d1 y0 y1 y2 y3 hn) (fun _ => one8 n s0 s1 h5 h6 k0 k1 d0 d1 y0 y1 y2 y3 hn)
theorem ref42_One_v (n : Nat) {s e : Int} (bl ba le : Lv) (t x0 x1 x2 x3 x4 x5 x6 : Int) (s0 : 0 ≤ s) (s1 : s ≤ 255) (e0 : 0 ≤ e) (e1 : e ≤ 255) (t0 : 0 ≤ t) (t1 : t ≤ 1000000) (h0 : In64 x0) (h1 : In64 x1) (h2 : In64 x2) (h3 : In64 x3) (h4 : In64 x4) (h5 : In64 x5) (h6 : In64 x6) (hn : 20 < n) :
    Ok (OneP t) (ref42_One n s e bl ba le t x0 x1 x2 x3 x4 x5 x6) := by
  have b0 := pk_bd x0 (k := 4) (by decide)
  have b1 := pk_bd x1 (k := 5) (by decide)
  have b2 := pk_bd x2 (k := 8) (by decide)
  have b3 := pk_bd x3 (k := 8) (by decide)
  have b4 := pk_bd x4 (k := 8) (by decide)
  unfold ref42_One ref42_One_1
  rw [ref42_pick_v n h0 (by decide), Option.bind_some, ref42_pick_v n h1 (by decide), Option.bind_some, ref42_pick_v n h2 (by decide), Option.bind_some]
  refine hO (by omega) (by omega) (hO (by omega) (by omega) ?_)
  refine iterF_ok (fun q => ∃ (i : Nat) (y : Int), q = ((i : Int), y) ∧ i ≤ 8 ∧ 0 ≤ y ∧ y ≤ 7) (fun q => 8 - q.1.toNat) _ ?_ n _ ⟨0, _, rfl, by omega, b2.1, by omega⟩ (by first | omega | (simp only; omega))
  rintro _ go ⟨i, y, rfl, hi, y0, y1⟩ ih
  simp only at ih ⊢
  unfold ref42_One_2
  rw [ref42_pick_v n h3 (by decide), Option.bind_some, ref42_pick_v n h4 (by decide), Option.bind_some]
  refine oF (fun h8 => hN y0 ?_) (fun h8 => one4 n go s0 s1 e0 e1 h5 h6 b0.1 (by omega) b1.1 (by omega) b3.1 (by omega) b4.1 (by omega) hn)
  unfold ref42_One_3
  rw [ref42_pick_v n h3 (by decide), Option.bind_some, ref42_pick_v n h4 (by decide), Option.bind_some, shr_mod s0 s1 y0 y1]
  exact oBN (fun _ => one4 n go s0 s1 e0 e1 h5 h6 b0.1 (by omega) b1.1 (by omega) b3.1 (by omega) b4.1 (by omega) hn)
    (fun _ => hO (by omega) (by omega) (hO (by omega) (by omega) (ih _ ⟨i + 1, _, rfl, by omega, (tm8 y0).1, (tm8 y0).2⟩ (by first | omega | (simp only; omega)))))
theorem same_refl (n : Nat) (l : List B3) (hl : l.length ≤ 1000) (hn : l.length < n) : ref13_Same n (bL l) (bL l) = some true := by
  unfold ref13_Same ref13_Same_1
  refine cN (fun _ => ?_) (fun h => absurd rfl h)
  refine iterF_ind (fun s => ∃ i : Nat, s = (i : Int) ∧ i ≤ l.length) (fun s => l.length - s.toNat) _ ?_ n _ ⟨0, rfl, by omega⟩ (by simp; omega)
  rintro _ go ⟨i, rfl, hi⟩ ih
  unfold ref13_Same_2
  refine cF (fun h => gN (by omega) (gN h ?_)) (fun _ => rfl)
  rw [List.length_map] at h
  have hz : ∀ a : Int, decide (a = a) = true := fun a => decide_eq_true rfl
  rw [hz, hz, hz, Bool.and_true, Bool.and_true, Bool.not_true, cond_false]
  exact gO (by omega) (by omega) (ih _ ⟨i + 1, rfl, by omega⟩ (by first | omega | (simp only; omega)))
theorem ints_refl (n : Nat) (l : List Int) (hl : l.length ≤ 1000) (hn : l.length < n) : ref42_Ints n (iL l) (iL l) = some true := by
  unfold ref42_Ints ref42_Ints_1
  refine cN (fun _ => ?_) (fun h => absurd rfl h)
  refine iterF_ind (fun s => ∃ i : Nat, s = (i : Int) ∧ i ≤ l.length) (fun s => l.length - s.toNat) _ ?_ n _ ⟨0, rfl, by omega⟩ (by simp; omega)
  rintro _ go ⟨i, rfl, hi⟩ ih
  unfold ref42_Ints_2
  refine cF (fun h => gN (by omega) (gN h ?_)) (fun _ => rfl)
  rw [List.length_map] at h
  have hz : ∀ a : Int, decide (a = a) = true := fun a => decide_eq_true rfl
  rw [hz, Bool.not_true, cond_false]
  exact gO (by omega) (by omega) (ih _ ⟨i + 1, rfl, by omega⟩ (by first | omega | (simp only; omega)))
theorem world_refl (n : Nat) (w : Wd) (h1 : w.bl.length ≤ 1000) (h2 : w.ba.length ≤ 1000) (h3 : w.le.length ≤ 1000) (hn : 1000 < n) : ref42_Same n w.al w.ev (bL w.bl) (iL w.ba) (iL w.le) w.al w.ev (bL w.bl) (iL w.ba) (iL w.le) = some true := by
  unfold ref42_Same ref42_Same_1
  rw [same_refl n _ h1 (by omega), ints_refl n _ h2 (by omega), ints_refl n _ h3 (by omega)]
  simp only [decide_true, cond_true, Option.bind_some]
theorem law42_made_v (n : Nat) {v0 v1 v2 : Int} (h0 : In64 v0) (h1 : In64 v1) (h2 : In64 v2) (xs ys : List (Int × Int × Int)) (hx : ∀ x ∈ xs, In64 x.1 ∧ In64 x.2.1 ∧ In64 x.2.2) (hy : ∀ x ∈ ys, In64 x.1 ∧ In64 x.2.1 ∧ In64 x.2.2) (hn : 220 < n) :
    Ok (fun r => ∃ (w : Wd) (ds : List (Int × Int × Int)), r = (w.al, w.ev, bL w.bl, iL w.ba, iL w.le, ds.map triR) ∧ MadeW w ∧ w.ba = debtB ds ∧ ds.length ≤ 12 ∧ ∀ d ∈ ds, DebtOk w.al d) (law42_made n v0 v1 v2 (xs.map triR) (ys.map triR)) := by
  have b0 := pk_bd v0 (k := 255) (by decide)
  unfold law42_made law42_made_1
  rw [law42_pick_v n h0 (by decide), Option.bind_some]
  refine hO (by omega) (by omega) ?_
  obtain ⟨_, e1, ds, rfl, hl, hd⟩ := ref42_Owe_v n (s := 1 + pk v0 255) (by omega) (by omega) ys hy (by omega)
  rw [e1, Option.bind_some]
  obtain ⟨_, e2, w, rfl, hw, hb, ha⟩ := ref42_Made_v n h0 h1 h2 xs hx ds hl hd hn
  rw [e2, Option.bind_some]
  exact hD ⟨w, ds, rfl, hw, hb, hl, by rw [ha]; exact hd⟩
/-! arguments -/
theorem list3 {α : Type} {l : List α} (h : l.length = 3) : ∃ a b c, l = [a, b, c] := by
  match l, h with
  | [a, b, c], _ => exact ⟨a, b, c, rfl⟩
theorem three {r : List AV} (h : r.map AV.ty = [.int, .int, .int]) (hok : ∀ x ∈ r, AVok x) : ∃ x : Int × Int × Int, r = triR x ∧ In64 x.1 ∧ In64 x.2.1 ∧ In64 x.2.2 := by
  obtain ⟨a, b, c, rfl⟩ := list3 (l := r) (by have := congrArg List.length h; simpa using this)
  simp only [List.map_cons, List.map_nil, List.cons.injEq, and_true] at h
  obtain ⟨a, rfl, h1⟩ := (hok a (by simp)).i h.1
  obtain ⟨b, rfl, h2⟩ := (hok b (by simp)).i h.2.1
  obtain ⟨c, rfl, h3⟩ := (hok c (by simp)).i h.2.2
  exact ⟨(a, b, c), rfl, h1, h2, h3⟩
theorem rows_of {α : Type} {f : α → List AV} {Q : α → Prop} : ∀ {l : Lv}, (∀ r ∈ l, ∃ x, r = f x ∧ Q x) → ∃ xs : List α, l = xs.map f ∧ ∀ x ∈ xs, Q x
  | [], _ => ⟨[], rfl, fun x h => by cases h⟩
  | r :: l, h => by
    obtain ⟨x, rfl, hx⟩ := h r (List.mem_cons_self ..)
    obtain ⟨xs, rfl, hxs⟩ := rows_of (l := l) fun r hr => h r (List.mem_cons_of_mem _ hr)
    exact ⟨x :: xs, rfl, fun y hy => by
      rcases List.mem_cons.1 hy with rfl | hy
      · exact hx
      · exact hxs y hy⟩
theorem tris_of {l : Lv} {t : Ty} (ht : t.list = [.int, .int, .int]) (h : AVok (.sl t l)) : ∃ xs : List (Int × Int × Int), l = xs.map triR ∧ ∀ x ∈ xs, In64 x.1 ∧ In64 x.2.1 ∧ In64 x.2.2 := by
  cases h with
  | sl _ _ _ hty hr => exact rows_of fun r hm => three (by rw [hty r hm, ht]) (hr r hm)
theorem int_of {n : Int} (h : AVok (.int n)) : In64 n := by
  cases h with
  | int _ h => exact h
end Go.Proofs.YtgckmifmjiklmaaGreat
