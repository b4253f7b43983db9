/-
  dialtoneref13.Made.
-/
import Derived.Test.YtmgippddljmfjaaWalk18
namespace Go.Proofs.Ytmgippddljmfjaa
open Go Go.RowKit Go.Dial Go.Dial.Blk

def tcells (x : Int × Int × Int) : List Value := [.int .i64 x.1, .int .i64 x.2.1, .int .i64 x.2.2]
def tcs (l : List (Int × Int × Int)) : List Value := l.flatMap tcells
theorem tcs_get {l : List (Int × Int × Int)} {i : Nat} {b : Int × Int × Int} (h : l[i]? = some b) : (tcs l)[3 * i]? = some (.int .i64 b.1) ∧ (tcs l)[3 * i + 1]? = some (.int .i64 b.2.1) ∧ (tcs l)[3 * i + 2]? = some (.int .i64 b.2.2) := by
  induction l generalizing i with
  | nil => simp at h
  | cons x l ih =>
    cases i with
    | zero =>
      simp at h; subst h
      simp [tcs, tcells]
    | succ i =>
      have := ih (i := i) (by simpa using h)
      have e : ∀ k, (tcs (x :: l))[3 * (i + 1) + k]? = (tcs l)[3 * i + k]? := by
        intro k
        rw [show tcs (x :: l) = tcells x ++ tcs l by simp [tcs], List.getElem?_append_right (by simp [tcells]; omega)]
        congr 1; simp [tcells]; omega
      have e0 := e 0
      simp only [Nat.add_zero] at e0
      rw [e0, e 1, e 2]
      exact this
theorem span_tri {w : World} {B n : Nat} {A : Option Addr} {l : List (Int × Int × Int)} (h : Span w B 3 A n (tcs l)) {i : Nat} {b : Int × Int × Int} (hi : l[i]? = some b) :
    ∃ a, A = some a ∧ a.block < B ∧ w.cell? (a.add (i * 3)) = some (.int .i64 b.1) ∧ w.cell? ⟨(a.add (i * 3)).block, (a.add (i * 3)).off + 1, none⟩ = some (.int .i64 b.2.1) ∧ w.cell? ⟨(a.add (i * 3)).block, (a.add (i * 3)).off + 2, none⟩ = some (.int .i64 b.2.2) := by
  obtain ⟨g0, g1, g2⟩ := tcs_get hi
  obtain ⟨a, rfl, hb, h0⟩ := h.2 _ _ g0
  obtain ⟨a', e1, _, h1⟩ := h.2 _ _ g1
  obtain ⟨a'', e2, _, h2⟩ := h.2 _ _ g2
  cases e1; cases e2
  rw [Nat.mul_comm] at h0 h1 h2
  exact ⟨a, rfl, hb, h0, by rw [← add_succ1 a (i * 3) 0]; exact h1, by rw [← add_succ1 a (i * 3) 1]; exact h2⟩
theorem bcell2 {W w1 : World} (hb : Below W.heap.size W w1) : (∀ b o, b < W.heap.size → w1.cell? ⟨b, o, none⟩ = W.cell? ⟨b, o, none⟩) ∧ (∀ b o, b < W.heap.size → w1.frozen? ⟨b, o, none⟩ = W.frozen? ⟨b, o, none⟩) :=
  ⟨fun b o h => hb.cell (p := ⟨b, o, none⟩) h, fun b o h => hb.frozen (p := ⟨b, o, none⟩) h⟩
theorem set2 {w : World} {p : Nat} {t : TypeId} {x y : Value} (u v : Value) (h : w.heap[p]? = some (.cells #[x, y] t)) :
    ((w.setCell ⟨p, 0, none⟩ u).setCell ⟨p, 1, none⟩ v).heap[p]? = some (.cells #[u, v] t) := by
  simp [World.setCell, Array.getElem?_modify, h]
def Tri (x : Int × Int × Int) : Prop := I64 x.1 ∧ I64 x.2.1 ∧ I64 x.2.2
theorem made_take {xs : List (Int × Int × Int)} {j : Nat} (hj : j < xs.length) : (xs.take (j + 1)).foldl stepV [] = stepV ((xs.take j).foldl stepV []) xs[j] := by
  rw [List.take_succ_eq_append_getElem hj, List.foldl_append]; rfl
set_option maxRecDepth 100000 in
set_option maxHeartbeats 3200000 in
theorem made_any (A : Option Addr) (c : Nat) (xs : List (Int × Int × Int)) (w : World) (hlen : xs.length ≤ maxLen) (hS : Span w w.heap.size 3 A xs.length (tcs xs)) (hT : ∀ x ∈ xs, Tri x) :
    Calls Try.prog 12 #[.slice A xs.length c] w fun e w' => (∃ v, e = .returned v ∧ HoldsB w' w'.heap.size v (madeV xs)) ∧ Below w.heap.size w w' := by
  unfold maxLen at hlen
  have HS := Lib.hid hS
  have HT := Lib.hid hT
  clear hS hT
  go_enter Try.func12, Try.ntmps12
  go_wp2_with fail
  go_loopw [3, 4] (fun o i wr => ∃ j : Nat, j ≤ xs.length ∧ j ≤ 12 ∧ i = .int .i64 j ∧ HoldsB wr wr.heap.size o ((xs.take j).foldl stepV []) ∧ Below w.heap.size w wr) (fun _ i _ => 12 - (intOf i).toNat)
  case atStart => exact ⟨0, by omega, by omega, rfl, holds_nil _ _, Below.refl _ _⟩
  case round =>
    obtain ⟨j, hj, hj12, rfl, ho, hb⟩ := hrel
    by_cases hjn : j < xs.length
    · by_cases h12 : j < 12
      · have hmt := made_take hjn
        obtain ⟨x, hx⟩ : ∃ x, x = xs[j] := ⟨_, rfl⟩
        obtain ⟨L, hL⟩ : ∃ L, L = (xs.take j).foldl stepV [] := ⟨_, rfl⟩
        obtain ⟨t0, t1, t2⟩ := HT.out xs[j] (List.getElem_mem hjn)
        rw [← hx] at t0 t1 t2
        rw [← hx, ← hL] at hmt
        rw [← hL] at ho
        obtain ⟨ad, e0, hab, x0, x1, x2⟩ := span_tri (HS.out.below hb (Nat.le_refl _)) (List.getElem?_eq_getElem hjn)
        subst e0
        rw [← hx] at x0 x1 x2
        have HK : Hid (∀ W', Below w.heap.size w W' → W'.cell? (ad.add (j * 3)) = some (.int .i64 x.1) ∧ W'.cell? ⟨(ad.add (j * 3)).block, (ad.add (j * 3)).off + 1, none⟩ = some (.int .i64 x.2.1) ∧ W'.cell? ⟨(ad.add (j * 3)).block, (ad.add (j * 3)).off + 2, none⟩ = some (.int .i64 x.2.2)) := Lib.hid fun W' hb' => by
          obtain ⟨ad', e, _, d0, d1, d2⟩ := span_tri (HS.out.below hb' (Nat.le_refl _)) (List.getElem?_eq_getElem hjn)
          cases e
          rw [← hx] at d0 d1 d2
          exact ⟨d0, d1, d2⟩
        have HMT := Lib.hid hmt
        have HO := Lib.hid ho
        have z0 : (0 : Int) ≤ (j : Int) := by omega
        have z1 : (j : Int) < (xs.length : Int) := by omega
        have hmul : IntKind.i64.wrap ((j : Int)) = (j : Int) := IntWalk.i64_in _ (by omega)
        clear hx hL hmt ho hmul
        obtain ⟨f, hf⟩ : ∃ f, f = (pieceV x.1 x.2.1).1 := ⟨_, rfl⟩
        obtain ⟨t, ht⟩ : ∃ t, t = (pieceV x.1 x.2.1).2 := ⟨_, rfl⟩
        have HF := Lib.hid hf
        have HTT := Lib.hid ht
        clear hf ht
        have l0 := World.new_ne wr (ad.add (j * 3)) x0
        have l1 := World.new_ne wr ⟨(ad.add (j * 3)).block, (ad.add (j * 3)).off + 1, none⟩ x1
        go_upto_region 5 with fail
        go_cut [5] (fun s5 wx => ∃ g : Nat, s5 = .pointer (some ⟨g, 0, none⟩) ∧ wx.heap[g]? = some (.cells #[.int .i64 f, .int .i64 t] 26) ∧ w.heap.size ≤ g ∧ Below wr.heap.size wr wx)
        case first =>
          go_region_held3 (fun w' => w'.cell? (ad.add (j * 3)) = some (.int .i64 x.1) ∧ w'.cell? ⟨(ad.add (j * 3)).block, (ad.add (j * 3)).off + 1, none⟩ = some (.int .i64 x.2.1)) (go_keep)
            (first | (go_at_call 14; refine (piece_any x.1 x.2.1 _ t0 t1).mono ?_; rintro e w1 ⟨rfl, hb1⟩; rw [← HF.out, ← HTT.out]; have HB1 : Below wr.heap.size wr w1 := (by first | exact below_trans (Below.refl _ wr).drew hb1 | exact below_trans ((Below.refl _ wr).drew.alloc (Nat.le_refl _) _) hb1 | exact below_trans ((Below.refl _ wr).alloc (Nat.le_refl _) _).drew hb1); obtain ⟨k0, k1, _⟩ := HK.out _ (below_trans hb HB1); obtain ⟨hc1, hf1⟩ := bcell2 hb1))
          · go_wp2_with fail
            go_meet
            exact ⟨w1.heap.size, rfl, new_heap _ _, Nat.le_trans hb.size HB1.size, HB1.alloc HB1.size _⟩
          · have hh : w1.heap[wr.heap.size]? = some (.cells #[.int .i64 0, .int .i64 0] 26) := (hb1.block _ (by show _ < (wr.alloc _).heap.size; simp)).trans (new_heap wr _)
            go_wp2_with fail
            go_meet
            exact ⟨wr.heap.size, rfl, set2 _ _ hh, hb.size, (HB1.setCell (Nat.le_refl _) _).setCell (Nat.le_refl _) _⟩
        case rest =>
          obtain ⟨g, rfl, hg, hgl, hbx⟩ := hcut
          have hbw := below_trans hb hbx
          obtain ⟨_, _, x2'⟩ := HK.out _ hbw
          have hgz : g < wc.heap.size := (Array.getElem?_eq_some_iff.1 hg).1
          have g0 := blk_cell (cs := [.int .i64 f, .int .i64 t]) hg (i := 0) rfl
          have g1 := blk_cell (cs := [.int .i64 f, .int .i64 t]) hg (i := 1) rfl
          have hov := HO.out.later hbx
          have HOV := Lib.hid hov
          have hrng : Hid (rngB f t = true) := Lib.hid (by rw [HF.out, HTT.out]; exact piece_rng _ _)
          clear x0 x1 x2 l0 l1 hov hg hbx
          have kb := pickV_bd x.2.2 (show (0 : Int) < 5 by decide)
          obtain ⟨k, hk⟩ : ∃ k, k = pickV x.2.2 5 := ⟨_, rfl⟩
          rw [← hk] at kb
          have HKK := Lib.hid hk
          clear hk
          by_cases hk4 : k < 4
          · have HST : Hid (stepV L x = (giveV L f t (2 * k)).1) := Lib.hid (by rw [stepV, ← HKK.out, if_pos hk4, ← HF.out, ← HTT.out])
            go_wp2_with (first
              | (go_at_call 35; refine (rpick_any x.2.2 5 _ t2 (by decide) (by decide)).mono ?_; rintro e w2 ⟨rfl, rfl⟩; rw [← HKK.out])
              | (go_at_call 36; refine (rgive_any _ L f t (2 * k) _ HOV.out).mono ?_; rintro e w3 ⟨v3, rfl, h3, hb3⟩))
            exact ⟨⟨j + 1, by omega, by omega, by go_num, by rw [HMT.out, HST.out]; exact h3, below_trans hbw hb3⟩, by simp [intOf]; omega⟩
          · have HST : Hid (stepV L x = (takeV L f t).1) := Lib.hid (by rw [stepV, ← HKK.out, if_neg hk4, ← HF.out, ← HTT.out])
            go_wp2_with (first
              | (go_at_call 35; refine (rpick_any x.2.2 5 _ t2 (by decide) (by decide)).mono ?_; rintro e w2 ⟨rfl, rfl⟩; rw [← HKK.out])
              | (go_at_call 37; refine (rtake_any _ L f t _ HOV.out).mono ?_; rintro e w3 ⟨v3, rfl, h3, hb3⟩))
            exact ⟨⟨j + 1, by omega, by omega, by go_num, by rw [HMT.out, HST.out]; exact h3, below_trans hbw hb3⟩, by simp [intOf]; omega⟩
      · have HM : Hid (madeV xs = (xs.take j).foldl stepV []) := Lib.hid (by rw [madeV, show j = 12 by omega])
        have h12b : j = 12 := by omega
        subst h12b
        go_wp2_with fail
        go_ret
        exact ⟨⟨_, rfl, by rw [HM.out]; exact ho⟩, hb⟩
    · have HM : Hid (madeV xs = (xs.take j).foldl stepV []) := Lib.hid (by rw [madeV, List.take_of_length_le (by omega), List.take_of_length_le (by omega)])
      go_wp2_with fail
      go_ret
      exact ⟨⟨_, rfl, by rw [HM.out]; exact ho⟩, hb⟩
end Go.Proofs.Ytmgippddljmfjaa
