/-
  dialtoneref13: pick, Piece; what a map of few steps is.
-/
import Derived.Test.YtmgippddljmfjaaWalk17
namespace Go.Proofs.Ytmgippddljmfjaa
open Go Go.RowKit Go.Dial Go.Dial.Blk

def pickV (c n : Int) : Int := (if c < 0 then -(c + 1) else c) % n
theorem pickV_bd (c : Int) {n : Int} (hn : 0 < n) : 0 ≤ pickV c n ∧ pickV c n < n := ⟨Int.emod_nonneg _ (by omega), Int.emod_lt_of_pos _ hn⟩
theorem ret_i {a b : Int} (h : a = b) : Ending.returned (.int .i64 a) = .returned (.int .i64 b) := by rw [h]
def I64 (c : Int) : Prop := -9223372036854775808 ≤ c ∧ c ≤ 9223372036854775807
theorem rpick_any (c n : Int) (w : World) (hc : I64 c) (hn : 0 < n) (hn2 : n ≤ 9223372036854775807) : Calls Try.prog 35 #[.int .i64 c, .int .i64 n] w fun e w' => e = .returned (.int .i64 (pickV c n)) ∧ w = w' := by
  obtain ⟨h1, h2⟩ := hc
  by_cases h : c < 0
  · have HV : Hid (pickV c n = -(c + 1) % n) := Lib.hid (by rw [pickV, if_pos h])
    have h3 : 0 ≤ -(c + 1) := by omega
    have e1 : IntKind.i64.wrap (c + 1) = c + 1 := IntWalk.i64_in _ (by omega)
    have e2 : IntKind.i64.wrap (-(c + 1)) = -(c + 1) := IntWalk.i64_in _ (by omega)
    go_enter Try.func35, Try.ntmps35
    go_wp2_with fail
    go_ret
    refine ⟨ret_i ?_, rfl⟩
    rw [HV.out, ← Int.tmod_eq_emod_of_nonneg h3]
    first | rfl | (rw [Int.neg_tmod]; rfl) | simp
  · have HV : Hid (pickV c n = c % n) := Lib.hid (by rw [pickV, if_neg h])
    have h3 : 0 ≤ c := by omega
    clear h
    go_enter Try.func35, Try.ntmps35
    go_wp2_with fail
    go_ret
    exact ⟨by rw [HV.out]; rfl, rfl⟩
theorem pick_any (c n : Int) (w : World) (hc : I64 c) (hn : 0 < n) (hn2 : n ≤ 9223372036854775807) : Calls Try.prog 17 #[.int .i64 c, .int .i64 n] w fun e w' => e = .returned (.int .i64 (pickV c n)) ∧ w = w' := by
  obtain ⟨h1, h2⟩ := hc
  by_cases h : c < 0
  · have HV : Hid (pickV c n = -(c + 1) % n) := Lib.hid (by rw [pickV, if_pos h])
    have h3 : 0 ≤ -(c + 1) := by omega
    have e1 : IntKind.i64.wrap (c + 1) = c + 1 := IntWalk.i64_in _ (by omega)
    have e2 : IntKind.i64.wrap (-(c + 1)) = -(c + 1) := IntWalk.i64_in _ (by omega)
    go_enter Try.func17, Try.ntmps17
    go_wp2_with fail
    go_ret
    refine ⟨ret_i ?_, rfl⟩
    rw [HV.out, ← Int.tmod_eq_emod_of_nonneg h3]
    first | rfl | (rw [Int.neg_tmod]; rfl) | simp
  · have HV : Hid (pickV c n = c % n) := Lib.hid (by rw [pickV, if_neg h])
    have h3 : 0 ≤ c := by omega
    clear h
    go_enter Try.func17, Try.ntmps17
    go_wp2_with fail
    go_ret
    exact ⟨by rw [HV.out]; rfl, rfl⟩
def pieceV (f l : Int) : Int × Int := if pickV f 8 = 7 then (1666666 * pickV f 60, 1666666 * (pickV f 60 + 1 + pickV l (60 - pickV f 60)) + 40) else (pickV f 60, pickV f 60 + 1 + pickV l (60 - pickV f 60))
theorem piece_rng (f l : Int) : rngB (pieceV f l).1 (pieceV f l).2 = true := by
  have h1 := pickV_bd f (show (0 : Int) < 60 by decide)
  have h2 := pickV_bd l (show (0 : Int) < 60 - pickV f 60 by omega)
  rw [rngB_iff]
  unfold pieceV; split <;> simp only <;> omega
set_option maxHeartbeats 800000 in
theorem piece_any (f l : Int) (w : World) (hf : I64 f) (hl : I64 l) : Calls Try.prog 14 #[.int .i64 f, .int .i64 l] w fun e w' => e = .returned (.agg #[.int .i64 (pieceV f l).1, .int .i64 (pieceV f l).2]) ∧ Below w.heap.size w w' := by
  have b1 := pickV_bd f (show (0 : Int) < 60 by decide)
  obtain ⟨p, hp⟩ : ∃ p, p = pickV f 60 := ⟨_, rfl⟩
  rw [← hp] at b1
  have b2 := pickV_bd l (show (0 : Int) < 60 - p by omega)
  obtain ⟨q, hq⟩ : ∃ q, q = pickV l (60 - p) := ⟨_, rfl⟩
  rw [← hq] at b2
  have b3 := pickV_bd f (show (0 : Int) < 8 by decide)
  obtain ⟨r, hr⟩ : ∃ r, r = pickV f 8 := ⟨_, rfl⟩
  rw [← hr] at b3
  have HP := Lib.hid hp
  have HQ := Lib.hid hq
  have HR := Lib.hid hr
  have HV : Hid (pieceV f l = if r = 7 then (1666666 * p, 1666666 * (p + 1 + q) + 40) else (p, p + 1 + q)) := Lib.hid (by rw [pieceV, ← hr, ← hp, ← hq])
  clear hp hq hr
  by_cases h7 : r = 7
  · have HV2 : Hid (pieceV f l = (1666666 * p, 1666666 * (p + 1 + q) + 40)) := Lib.hid (by rw [HV.out, if_pos h7])
    subst h7
    go_enter Try.func14, Try.ntmps14
    go_wp2_with fail
    refine (rpick_any f 60 _ hf (by decide) (by decide)).mono ?_
    rintro e w1 ⟨rfl, rfl⟩
    rw [← HP.out]
    go_wp2_with fail
    refine (rpick_any l (60 - p) _ hl (by omega) (by omega)).mono ?_
    rintro e w1 ⟨rfl, rfl⟩
    rw [← HQ.out]
    go_wp2_with fail
    refine (rpick_any f 8 _ hf (by decide) (by decide)).mono ?_
    rintro e w1 ⟨rfl, rfl⟩
    rw [← HR.out]
    go_wp2_with fail
    exact bodyPost_ret (v := .agg #[.int .i64 (1666666 * p), .int .i64 (1666666 * (p + 1 + q) + 40)]) (by simp [results, Try.results14, go_sem]) rfl ⟨by rw [HV2.out], below_al2 _ _ _⟩
  · have HV2 : Hid (pieceV f l = (p, p + 1 + q)) := Lib.hid (by rw [HV.out, if_neg h7])
    have t7 : (r == 7) = false := by rw [beq_eq_false_iff_ne]; exact h7
    clear h7
    go_enter Try.func14, Try.ntmps14
    go_wp2_with fail
    refine (rpick_any f 60 _ hf (by decide) (by decide)).mono ?_
    rintro e w1 ⟨rfl, rfl⟩
    rw [← HP.out]
    go_wp2_with fail
    refine (rpick_any l (60 - p) _ hl (by omega) (by omega)).mono ?_
    rintro e w1 ⟨rfl, rfl⟩
    rw [← HQ.out]
    go_wp2_with fail
    refine (rpick_any f 8 _ hf (by decide) (by decide)).mono ?_
    rintro e w1 ⟨rfl, rfl⟩
    rw [← HR.out]
    go_wp2_with fail
    exact bodyPost_ret (v := .agg #[.int .i64 p, .int .i64 (p + 1 + q)]) (by simp [results, Try.results14, go_sem]) rfl ⟨by rw [HV2.out], below_al2 _ _ _⟩
/-- a map of at most i steps -/
def Mk (i : Nat) (l : List B3) : Prop := Canon l ∧ ∃ K : List Int, K.length ≤ 2 * i ∧ Cut K l
theorem Mk.nil (i : Nat) : Mk i [] := ⟨trivial, [], by simp, Cut.nil _⟩
theorem Mk.mono {i j : Nat} {l : List B3} (h : Mk i l) (hij : i ≤ j) : Mk j l := by
  obtain ⟨h1, K, h2, h3⟩ := h
  exact ⟨h1, K, by omega, h3⟩
theorem Mk.len {i : Nat} {l : List B3} (h : Mk i l) (hi : i ≤ 20) : l.length ≤ 40 := by
  obtain ⟨h1, K, h2, h3⟩ := h
  rcases canon_len h1 h3 with h | h
  · omega
  · rw [h]; simp
theorem Mk.valid {i : Nat} {l : List B3} (h : Mk i l) (hi : i ≤ 20) : validB l = true := validB_iff.2 ⟨h.len hi, h.1⟩
theorem Mk.one {f t c : Int} (h : rngB f t = true) (hc : carB c = true) : Mk 1 [⟨f, t, c⟩] :=
  ⟨(validB_iff.1 (valid_one h hc)).2, [f, t], by simp, fun b hb => by simp at hb; subst hb; simp⟩
/-- what is asked of g -/
def GOk (g : Int → Int → Int) : Prop := (∀ x y, -1 ≤ x → x ≤ 7 → -1 ≤ y → y ≤ 7 → -1 ≤ g x y ∧ g x y ≤ 7) ∧ g (-1) (-1) = -1
theorem ok_over : GOk overG := ⟨fun x y h1 h2 h3 h4 => (good_over.2 x y h1 h2 h3 h4).2, rfl⟩
theorem ok_take : GOk takeG := ⟨fun x y h1 h2 h3 h4 => (good_take.2 x y h1 h2 h3 h4).2, rfl⟩
theorem ok_only : GOk onlyG := ⟨fun x y h1 h2 h3 h4 => (good_only.2 x y h1 h2 h3 h4).2, rfl⟩
theorem ok_swap {u v : Int} (hu : carB u = true) (hv : carB v = true) : GOk (swapG u v) := by
  rw [carB_iff] at hu hv
  refine ⟨fun x y h1 h2 h3 h4 => by unfold swapG; split <;> omega, ?_⟩
  unfold swapG; rw [if_neg (by omega)]
theorem ok_diff : GOk diffG := ⟨good_diff, rfl⟩
theorem fold_hold {g : Int → Int → Int} (hg : GOk g) {a b : List B3} (ha : Canon a) (hb : Canon b) : Canon (foldS g (pieces a b 0)) ∧ ∀ n, hold (foldS g (pieces a b 0)) n = g (hold a n) (hold b n) := by
  obtain ⟨h1, h2, h3⟩ := foldS_upto hg.1 ha hb
  refine ⟨h1, fun n => ?_⟩
  rw [h3 n]
  split
  · rfl
  · rename_i hn
    have e : ∀ {l : List B3}, Canon l → hold l n = -1 := fun {l} hl => by
      have := hold_range hl n
      rcases Int.lt_or_le (hold l n) 0 with h | h
      · omega
      · exact absurd (hold_bd hl h) (by omega)
    rw [e ha, e hb, hg.2]
theorem fold_mk {g : Int → Int → Int} (hg : GOk g) {i j : Nat} {a b : List B3} (ha : Mk i a) (hb : Mk j b) : Mk (i + j) (foldS g (pieces a b 0)) := by
  obtain ⟨h1, h2⟩ := fold_hold hg ha.1 hb.1
  obtain ⟨a1, K, k1, k2⟩ := ha
  obtain ⟨b1, L, l1, l2⟩ := hb
  exact ⟨h1, K ++ L, by simp; omega, cut_of h1 a1 b1 (k2.mono (fun x hx => by simp [hx])) (l2.mono (fun x hx => by simp [hx])) h2⟩
theorem comb_mk {g : Int → Int → Int} (hg : GOk g) {i j : Nat} {a b : List B3} (ha : Mk i a) (hb : Mk j b) (hij : i + j ≤ 20) : combR g a b = (foldS g (pieces a b 0), 0) := by
  rw [combR, if_pos ((fold_mk hg ha hb).len hij)]
/-- two canonical lists that are held alike are equal -/
theorem same_hold {a b : List B3} (ha : Canon a) (hb : Canon b) (h : ∀ n, hold a n = hold b n) : a = b := Canon.uniq ha hb fun n _ _ => h n
theorem hold_one (f t c n : Int) : hold [⟨f, t, c⟩] n = if f ≤ n ∧ n < t then c else -1 := rfl

/-- what Give and so on return of maps of few steps -/
theorem give_mk {i : Nat} {l : List B3} {f t c : Int} (h : Mk i l) (hi : i ≤ 19) (hr : rngB f t = true) (hc : carB c = true) : ∃ l', giveV l f t c = (l', 0) ∧ Mk (i + 1) l' ∧ ∀ n, hold l' n = if f ≤ n ∧ n < t then c else hold l n := by
  refine ⟨foldS overG (pieces l [⟨f, t, c⟩] 0), ?_, fold_mk ok_over h (Mk.one hr hc), fun n => ?_⟩
  · rw [giveV, if_pos ⟨h.valid (by omega), hr, hc⟩, comb_mk ok_over h (Mk.one hr hc) (by omega)]
  · rw [(fold_hold ok_over h.1 (Mk.one hr hc).1).2, hold_one]
    rw [carB_iff] at hc
    unfold overG; split <;> split <;> first | rfl | omega
theorem take_mk {i : Nat} {l : List B3} {f t : Int} (h : Mk i l) (hi : i ≤ 19) (hr : rngB f t = true) : ∃ l', takeV l f t = (l', 0) ∧ Mk (i + 1) l' ∧ ∀ n, hold l' n = if f ≤ n ∧ n < t then -1 else hold l n := by
  have ho := Mk.one hr (show carB 0 = true by decide)
  refine ⟨foldS takeG (pieces l [⟨f, t, 0⟩] 0), ?_, fold_mk ok_take h ho, fun n => ?_⟩
  · rw [takeV, if_pos ⟨h.valid (by omega), hr⟩, comb_mk ok_take h ho (by omega)]
  · rw [(fold_hold ok_take h.1 ho.1).2, hold_one]
    unfold takeG; split <;> split <;> first | rfl | omega
theorem only_mk {i : Nat} {l : List B3} {f t : Int} (h : Mk i l) (hi : i ≤ 19) (hr : rngB f t = true) : ∃ l', onlyV l f t = (l', 0) ∧ Mk (i + 1) l' ∧ ∀ n, hold l' n = if f ≤ n ∧ n < t then hold l n else -1 := by
  have ho := Mk.one hr (show carB 0 = true by decide)
  refine ⟨foldS onlyG (pieces l [⟨f, t, 0⟩] 0), ?_, fold_mk ok_only h ho, fun n => ?_⟩
  · rw [onlyV, if_pos ⟨h.valid (by omega), hr⟩, comb_mk ok_only h ho (by omega)]
  · rw [(fold_hold ok_only h.1 ho.1).2, hold_one]
    unfold onlyG; split <;> split <;> first | rfl | omega
theorem overlay_mk {i j : Nat} {a b : List B3} (ha : Mk i a) (hb : Mk j b) (hij : i + j ≤ 20) : ∃ l', overlayV a b = (l', 0) ∧ Mk (i + j) l' ∧ ∀ n, hold l' n = if hold b n = -1 then hold a n else hold b n := by
  refine ⟨foldS overG (pieces a b 0), ?_, fold_mk ok_over ha hb, fun n => ?_⟩
  · rw [overlayV, if_pos ⟨ha.valid (by omega), hb.valid (by omega)⟩, comb_mk ok_over ha hb hij]
  · rw [(fold_hold ok_over ha.1 hb.1).2]; rfl
theorem swap_mk {i : Nat} {l : List B3} {u v : Int} (h : Mk i l) (hi : i ≤ 20) (hu : carB u = true) (hv : carB v = true) : ∃ l', swapV l u v = (l', 0) ∧ Mk i l' ∧ ∀ n, hold l' n = if hold l n = u then v else hold l n := by
  refine ⟨foldS (swapG u v) (pieces l [] 0), ?_, fold_mk (ok_swap hu hv) h (Mk.nil 0), fun n => ?_⟩
  · rw [swapV, if_pos ⟨h.valid (by omega), hu, hv⟩, comb_mk (ok_swap hu hv) h (Mk.nil 0) (by omega)]
  · rw [(fold_hold (ok_swap hu hv) h.1 (Mk.nil 0).1).2]; rfl
theorem diff_mk {i j : Nat} {a b : List B3} (ha : Mk i a) (hb : Mk j b) (hi : i ≤ 20) (hj : j ≤ 20) : ∃ l', diffV a b = (l', 0) ∧ Mk (i + j) l' ∧ (∀ n, hold l' n = if hold a n = hold b n then -1 else 0) ∧ ∀ x ∈ l', x.c = 0 := by
  refine ⟨foldS diffG (pieces a b 0), ?_, fold_mk ok_diff ha hb, fun n => ?_, foldS_zero _⟩
  · rw [diffV, if_pos ⟨ha.valid hi, hb.valid hj⟩]
  · rw [(fold_hold ok_diff ha.1 hb.1).2]; rfl
theorem find_mk {i : Nat} {l : List B3} (h : Mk i l) (hi : i ≤ 20) (n : Int) : findV l n = if 0 ≤ hold l n then (hold l n, true) else (0, false) := by
  rw [findV]
  by_cases hh : 0 ≤ hold l n
  · rw [if_pos ⟨h.valid hi, hh⟩, if_pos hh]
  · rw [if_neg (fun x => hh x.2), if_neg hh]

/-- a map that integers determine -/
def stepV (out : List B3) (x : Int × Int × Int) : List B3 := if pickV x.2.2 5 < 4 then (giveV out (pieceV x.1 x.2.1).1 (pieceV x.1 x.2.1).2 (2 * pickV x.2.2 5)).1 else (takeV out (pieceV x.1 x.2.1).1 (pieceV x.1 x.2.1).2).1
def madeV (xs : List (Int × Int × Int)) : List B3 := (xs.take 12).foldl stepV []
theorem step_mk {i : Nat} {l : List B3} (h : Mk i l) (hi : i ≤ 19) (x : Int × Int × Int) : Mk (i + 1) (stepV l x) := by
  have hp := pickV_bd x.2.2 (show (0 : Int) < 5 by decide)
  unfold stepV
  split
  · obtain ⟨l', e, h1, _⟩ := give_mk h hi (piece_rng x.1 x.2.1) (c := 2 * pickV x.2.2 5) (carB_iff.2 (by omega))
    rw [e]; exact h1
  · obtain ⟨l', e, h1, _⟩ := take_mk h hi (piece_rng x.1 x.2.1)
    rw [e]; exact h1
theorem steps_mk (xs : List (Int × Int × Int)) {i : Nat} {l : List B3} (h : Mk i l) (hi : i + xs.length ≤ 20) : Mk (i + xs.length) (xs.foldl stepV l) := by
  induction xs generalizing i l with
  | nil => exact h
  | cons x xs ih =>
    rw [List.foldl_cons, List.length_cons]
    have := ih (step_mk h (by simp at hi; omega) x) (by simp at hi; omega)
    rw [show i + (xs.length + 1) = i + 1 + xs.length by omega]; exact this
theorem made_mk (xs : List (Int × Int × Int)) : Mk (min xs.length 12) (madeV xs) := by
  have := steps_mk (xs.take 12) (Mk.nil 0) (by simp; omega)
  simp only [List.length_take, Nat.zero_add] at this
  rw [Nat.min_comm] at this
  exact this
end Go.Proofs.Ytmgippddljmfjaa
