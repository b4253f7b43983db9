/-
  Drawn worlds and events: what the reference's Owe, Made and One give.
-/
import Derived.Test.YtgckmifmjiklmaaGreatMd
import Derived.Test.YtgckmifmjiklmaaGreatD12
set_option linter.unusedVariables false
set_option linter.unusedSimpArgs false
set_option maxRecDepth 100000
namespace Go.Proofs.YtgckmifmjiklmaaGreat
open Go Go.Sx Go.Dial.Blk Go.Dial.Mrg
theorem ref42_pick_v (n : Nat) {c k : Int} (hc : In64 c) (hk : 0 < k) : ref42_pick n c k = some (pk c k) := by
  unfold ref42_pick ref42_pick_1 pk
  unfold In64 at hc
  grind
theorem law42_pick_v (n : Nat) {c k : Int} (hc : In64 c) (hk : 0 < k) : law42_pick n c k = some (pk c k) := by
  unfold law42_pick law42_pick_1 pk
  unfold In64 at hc
  grind
theorem tcell {xs : List (Int × Int × Int)} {i : Nat} {x : Int × Int × Int} (h : xs[i]? = some x) : cI (xs.map triR) (i : Int) 0 = x.1 ∧ cI (xs.map triR) (i : Int) 1 = x.2.1 ∧ cI (xs.map triR) (i : Int) 2 = x.2.2 := by
  have hc : ∀ k, cA (xs.map triR) (i : Int) k = (triR x).getD k (.int 0) := fun k => cA_map (by simpa using h)
  refine ⟨?_, ?_, ?_⟩ <;> (simp only [cI, hc]; rfl)
/-- a debt between two carriers of a set -/
def DebtOk (s : Int) (d : Int × Int × Int) : Prop := (0 ≤ d.1 ∧ d.1 ≤ 7) ∧ (0 ≤ d.2.1 ∧ d.2.1 ≤ 7) ∧ d.1 ≠ d.2.1 ∧ has s d.1 = true ∧ has s d.2.1 = true ∧ 1 ≤ d.2.2 ∧ d.2.2 ≤ 1000
theorem ref42_Owe_v (n : Nat) {s : Int} (s0 : 0 ≤ s) (s1 : s ≤ 255) (xs : List (Int × Int × Int)) (hx : ∀ x ∈ xs, In64 x.1 ∧ In64 x.2.1 ∧ In64 x.2.2) (hn : 20 < n) :
    Ok (fun r => ∃ ds : List (Int × Int × Int), r = ds.map triR ∧ ds.length ≤ 12 ∧ ∀ d ∈ ds, DebtOk s d) (ref42_Owe n s (xs.map triR)) := by
  unfold ref42_Owe ref42_Owe_1
  refine iterF_ok (fun q => ∃ (i : Nat) (ds : List (Int × Int × Int)), q = (ds.map triR, (i : Int)) ∧ i ≤ 12 ∧ ds.length ≤ i ∧ ∀ d ∈ ds, DebtOk s d) (fun q => 12 - q.2.toNat) _ ?_ n _ ⟨0, [], rfl, by omega, by simp, fun d h => by simp at h⟩ (by first | omega | (simp only; omega))
  rintro _ go ⟨i, ds, rfl, hi, hl, hd⟩ ih
  simp only at ih ⊢
  unfold ref42_Owe_2
  refine oF (fun h1 => oF (fun h2 => hN (by omega) ?_) (fun _ => hD ⟨ds, rfl, by omega, hd⟩)) (fun _ => hD ⟨ds, rfl, by omega, hd⟩)
  rw [List.length_map] at h1
  obtain ⟨x, hxx⟩ := get_lt (l := xs) (i := i) (by omega)
  obtain ⟨g0, g1, g2⟩ := tcell hxx
  obtain ⟨x0, x1, x2⟩ := hx x (List.mem_of_getElem? hxx)
  have b0 := pk_bd x.1 (k := 8) (by decide)
  have b1 := pk_bd x.2.1 (k := 8) (by decide)
  have b2 := pk_bd x.2.2 (k := 1000) (by decide)
  have hgo : Ok _ (go (ds.map triR, (i : Int) + 1)) := ih _ ⟨i + 1, ds, rfl, by omega, by omega, hd⟩ (by first | omega | (simp only; omega))
  rw [g0, g1, g2, ref42_pick_v n x0 (by decide), Option.bind_some, ref42_pick_v n x1 (by decide), Option.bind_some, ref42_pick_v n x2 (by decide), Option.bind_some]
  rw [shr_mod s0 s1 b0.1 (by omega), shr_mod s0 s1 b1.1 (by omega)]
  refine hO (by omega) (by omega) ?_
  by_cases hne : pk x.1 8 = pk x.2.1 8
  · rw [decide_eq_true hne, Bool.not_true, cond_false]
    exact hO (by omega) (by omega) hgo
  rw [decide_eq_false hne, Bool.not_false, cond_true]
  refine hN b0.1 (oB (fun hs0 => hN b1.1 (oB (fun hs1 => ?_) (fun _ => hO (by omega) (by omega) hgo))) (fun _ => hO (by omega) (by omega) hgo))
  refine hN (by rw [List.length_map]; omega) (hO (by omega) (by omega) ?_)
  have e : ds.map triR ++ [[AV.int (pk x.1 8), AV.int (pk x.2.1 8), AV.int (1 + pk x.2.2 1000)]] = (ds ++ [(pk x.1 8, pk x.2.1 8, 1 + pk x.2.2 1000)]).map triR := by rw [List.map_append]; rfl
  rw [e]
  refine ih _ ⟨i + 1, _, rfl, by omega, by simp; omega, fun d hd2 => ?_⟩ (by first | omega | (simp only; omega))
  rcases List.mem_append.1 hd2 with h | h
  · exact hd d h
  · rw [List.mem_singleton] at h
    subst h
    exact ⟨⟨b0.1, (by omega : pk x.1 8 ≤ 7)⟩, ⟨b1.1, (by omega : pk x.2.1 8 ≤ 7)⟩, hne, hs0, hs1, (by omega : 1 ≤ 1 + pk x.2.2 1000), (by omega : 1 + pk x.2.2 1000 ≤ 1000)⟩
theorem give_few {l : List B3} (hc : Canon l) {f t c : Int} (h0 : 0 ≤ f) (h : IsMap (fun m => gcR 0 (-1) (-1) (hold l m) (hold [⟨f, t, c⟩] m)) (mapOf fun m => gcR 0 (-1) (-1) (hold l m) (hold [⟨f, t, c⟩] m))) (h3 : 0 ≤ c) : (mapOf fun m => gcR 0 (-1) (-1) (hold l m) (hold [⟨f, t, c⟩] m)).length ≤ l.length + 2 := by
  have e : (fun m => gcR 0 (-1) (-1) (hold l m) (hold [⟨f, t, c⟩] m)) = fun m => (fun n x => gcR 0 (-1) (-1) x (if f ≤ n ∧ n < t then c else -1)) m (hold l m) := by
    funext m; rw [hold_one]
  rw [e] at h ⊢
  refine change_len hc f t (fun n x => gcR 0 (-1) (-1) x (if f ≤ n ∧ n < t then c else -1)) (fun n m x hnm => by simp only [hnm]) (fun n hn => by simp only [hn, if_false]; decide) (fun n x => ?_) h h0
  by_cases hn : f ≤ n ∧ n < t
  · right
    simp only [hn, and_self, if_true]
    unfold gcR
    simp [h3]
  · left; simp only [hn, if_false]; decide
theorem take_few {l : List B3} (hc : Canon l) {f t : Int} (h0 : 0 ≤ f) (h : IsMap (fun m => gcR 1 (-1) (-1) (hold l m) (hold [⟨f, t, 0⟩] m)) (mapOf fun m => gcR 1 (-1) (-1) (hold l m) (hold [⟨f, t, 0⟩] m))) : (mapOf fun m => gcR 1 (-1) (-1) (hold l m) (hold [⟨f, t, 0⟩] m)).length ≤ l.length + 2 := by
  have e : (fun m => gcR 1 (-1) (-1) (hold l m) (hold [⟨f, t, 0⟩] m)) = fun m => (fun n x => gcR 1 (-1) (-1) x (if f ≤ n ∧ n < t then 0 else -1)) m (hold l m) := by
    funext m; rw [hold_one]
  rw [e] at h ⊢
  have hz : ∀ n, gcR 1 (-1) (-1) (-1) (if f ≤ n ∧ n < t then 0 else -1) = -1 := fun n => by
    by_cases hn : f ≤ n ∧ n < t
    · simp only [hn, and_self, if_true]; decide
    · simp only [hn, if_false]; decide
  exact change_len hc f t (fun n x => gcR 1 (-1) (-1) x (if f ≤ n ∧ n < t then 0 else -1)) (fun n m x hnm => by simp only [hnm]) (fun n hn => hz n) (fun n x => .inl (hz n)) h h0
theorem ref13_Made_few (n : Nat) (xs : List (Int × Int × Int)) (hx : ∀ x ∈ xs, In64 x.1 ∧ In64 x.2.1 ∧ In64 x.2.2) (h8 : xs.length ≤ 8) (hn : 210 < n) : Ok (fun q => ∃ l, q = bL l ∧ Canon l ∧ l.length ≤ 16) (ref13_Made n (xs.map triR)) := by
  unfold ref13_Made ref13_Made_1
  refine iterF_ok (fun s => ∃ (i : Nat) (l : List B3), s = (bL l, (i : Int)) ∧ i ≤ xs.length ∧ Canon l ∧ l.length ≤ 2 * i) (fun s => 12 - s.2.toNat) _ ?_ n _ ⟨0, [], rfl, by omega, trivial, by simp⟩ (by first | omega | (simp only; omega))
  rintro _ go ⟨i, l, rfl, hi, hc, hl⟩ ih
  simp only at ih ⊢
  unfold ref13_Made_2
  refine oF (fun h1 => oF (fun h2 => hN (by omega) ?_) (fun _ => hD ⟨l, rfl, hc, by omega⟩)) (fun _ => hD ⟨l, rfl, hc, by omega⟩)
  rw [List.length_map] at h1
  obtain ⟨x, hxx⟩ := get_lt (l := xs) (i := i) (by omega)
  obtain ⟨g0, g1, g2⟩ := tcell hxx
  obtain ⟨x0, x1, x2⟩ := hx x (List.mem_of_getElem? hxx)
  obtain ⟨p0, p1, p2⟩ := pieceR_bd x.1 x.2.1
  have hk := pk_bd x.2.2 (k := 5) (by decide)
  rw [g0, g1, g2, ref13_Piece_v n x0 x1, Option.bind_some, ref13_pick_v n x2 (by decide), Option.bind_some]
  refine oF (fun h3 => ?_) (fun h3 => ?_)
  · refine hO (by omega) (by omega) ?_
    have h4 : pk x.2.2 5 < 4 := h3
    have k1 : 0 ≤ 2 * pk x.2.2 5 := by omega
    have k2 : 2 * pk x.2.2 5 ≤ 7 := by omega
    have k3 : l.length ≤ 40 := by omega
    obtain ⟨e1, e2⟩ := ref13_Give_v n l _ _ (2 * pk x.2.2 5) hc k3 p0 p1 p2 k1 k2 hn
    have hf := give_few hc p0 e2 k1
    rw [e1, Option.bind_some]
    unfold combR
    rw [if_pos (by omega)]
    dsimp only
    refine hO (by omega) (by omega) (ih _ ⟨i + 1, _, rfl, by omega, e2.1, by omega⟩ (by first | omega | (simp only; omega)))
  · obtain ⟨e1, e2⟩ := ref13_Take_v n l _ _ hc (by omega) p0 p1 p2 hn
    have hf := take_few hc p0 e2
    rw [e1, Option.bind_some]
    unfold combR
    rw [if_pos (by omega)]
    dsimp only
    refine hO (by omega) (by omega) (ih _ ⟨i + 1, _, rfl, by omega, e2.1, by omega⟩ (by first | omega | (simp only; omega)))
/-- the balances of debts, added to others -/
def debt1 (l : List Int) (d : Int × Int × Int) : List Int := (l.set d.1.toNat (g l d.1 - d.2.2)).set d.2.1.toNat (g (l.set d.1.toNat (g l d.1 - d.2.2)) d.2.1 + d.2.2)
def debtB (ds : List (Int × Int × Int)) : List Int := ds.foldl debt1 (List.replicate 8 0)
theorem debtB_snoc (ds : List (Int × Int × Int)) (d : Int × Int × Int) : debtB (ds ++ [d]) = debt1 (debtB ds) d := by unfold debtB; rw [List.foldl_append]; rfl
theorem debt1_len (l : List Int) (d : Int × Int × Int) : (debt1 l d).length = l.length := by unfold debt1; rw [List.length_set, List.length_set]
theorem debt1_g {l : List Int} (hl : l.length = 8) {s : Int} {d : Int × Int × Int} (hd : DebtOk s d) {c : Int} (c0 : 0 ≤ c) (c1 : c ≤ 7) : g (debt1 l d) c = g l c - (if c = d.1 then d.2.2 else 0) + (if c = d.2.1 then d.2.2 else 0) := by
  obtain ⟨⟨h1, h2⟩, ⟨h3, h4⟩, h5, _⟩ := hd
  have hl' : (l.set d.1.toNat (g l d.1 - d.2.2)).length = 8 := by rw [List.length_set, hl]
  unfold debt1
  rw [g_set hl' h3 h4 c0 c1, g_set hl h1 h2 h3 h4, g_set hl h1 h2 c0 c1]
  by_cases ha : c = d.2.1
  · subst ha
    rw [if_pos rfl, if_neg (Ne.symm h5), if_pos rfl, if_neg (Ne.symm h5)]; omega
  · rw [if_neg ha, if_neg ha]
    by_cases hb : c = d.1
    · subst hb; rw [if_pos rfl, if_pos rfl]; omega
    · rw [if_neg hb, if_neg hb]; omega
theorem debt1_sum {l : List Int} (hl : l.length = 8) {s : Int} {d : Int × Int × Int} (hd : DebtOk s d) : (debt1 l d).sum = l.sum := by
  obtain ⟨⟨h1, h2⟩, ⟨h3, h4⟩, h5, _⟩ := hd
  have hl' : (l.set d.1.toNat (g l d.1 - d.2.2)).length = 8 := by rw [List.length_set, hl]
  unfold debt1
  rw [sum_s hl' _ h3 h4, sum_s hl _ h1 h2, g_set hl h1 h2 h3 h4, if_neg (Ne.symm h5)]; omega
theorem debtB_ok {s : Int} (ds : List (Int × Int × Int)) (h : ∀ d ∈ ds, DebtOk s d) : (debtB ds).length = 8 ∧ (debtB ds).sum = 0 ∧ ∀ c, 0 ≤ c → c ≤ 7 → (-1000 * (ds.length : Int) ≤ g (debtB ds) c ∧ g (debtB ds) c ≤ 1000 * (ds.length : Int)) ∧ (has s c = false → g (debtB ds) c = 0) := by
  suffices H : ∀ (m : Nat) (ds : List (Int × Int × Int)), ds.length = m → (∀ d ∈ ds, DebtOk s d) → (debtB ds).length = 8 ∧ (debtB ds).sum = 0 ∧ ∀ c, 0 ≤ c → c ≤ 7 → (-1000 * (ds.length : Int) ≤ g (debtB ds) c ∧ g (debtB ds) c ≤ 1000 * (ds.length : Int)) ∧ (has s c = false → g (debtB ds) c = 0) from H _ ds rfl h
  intro m
  induction m with
  | zero =>
    intro ds hm _
    have : ds = [] := List.length_eq_zero_iff.1 hm
    subst this
    have hz : ∀ c, 0 ≤ c → c ≤ 7 → g (debtB []) c = 0 := fin8 (fun c => g (debtB []) c = 0) (by decide)
    exact ⟨by decide, by decide, fun c c0 c1 => by rw [hz c c0 c1]; simp⟩
  | succ m ih =>
    intro ds hm h
    rcases List.eq_nil_or_concat ds with rfl | ⟨es, d, rfl⟩
    · simp at hm
    · rw [List.concat_eq_append] at *
      obtain ⟨i1, i2, i3⟩ := ih es (by simp at hm; omega) fun d hd => h d (by simp [hd])
      have hd := h d (by simp)
      rw [debtB_snoc]
      refine ⟨by rw [debt1_len, i1], by rw [debt1_sum i1 hd, i2], fun c c0 c1 => ?_⟩
      have hd' := hd
      obtain ⟨⟨h1, h2⟩, ⟨h3, h4⟩, h5, h6, h7, h8, h9⟩ := hd'
      rw [debt1_g i1 hd c0 c1]
      obtain ⟨j1, j2⟩ := i3 c c0 c1
      have hlen : (((es ++ [d]).length : Nat) : Int) = (es.length : Int) + 1 := by simp
      rw [hlen]
      refine ⟨by split <;> split <;> omega, fun hc => ?_⟩
      rw [j2 hc, if_neg (fun h => by rw [h, h6] at hc; cases hc), if_neg (fun h => by rw [h, h7] at hc; cases hc)]; rfl
/-- a drawn world -/
structure MadeW (w : Wd) : Prop where
  v : WV w
  few : w.bl.length ≤ 16
  bd : ∀ c, 0 ≤ c → c ≤ 7 → -12000 ≤ g w.ba c ∧ g w.ba c ≤ 12000
  lv : ∀ c, 0 ≤ c → c ≤ 7 → g w.le c ≤ 4
  some : ∃ c, 0 ≤ c ∧ c ≤ 7 ∧ has w.al c = true
abbrev wT (w : Wd) : Int × Int × Lv × Lv × Lv := (w.al, w.ev, bL w.bl, iL w.ba, iL w.le)
theorem or_sub {s t : Int} (s0 : 0 ≤ s) (s1 : s ≤ 255) (t0 : 0 ≤ t) (t1 : t ≤ 255) : 0 ≤ IOp.f .or s t ∧ IOp.f .or s t ≤ 255 ∧ subS s (IOp.f .or s t) := by
  have ha : BitVec.ofInt 64 s = BitVec.ofNat 64 s.toNat := by
    rw [← BitVec.ofInt_natCast, Int.toNat_of_nonneg s0]
  have hb : BitVec.ofInt 64 t = BitVec.ofNat 64 t.toNat := by
    rw [← BitVec.ofInt_natCast, Int.toNat_of_nonneg t0]
  have hle : s.toNat ||| t.toNat < 2 ^ 8 := Nat.or_lt_two_pow (by omega) (by omega)
  have hE : IOp.f .or s t = ((s.toNat ||| t.toNat : Nat) : Int) := by
    show IntKind.i64.wrap ((BitVec.ofInt 64 s ||| BitVec.ofInt 64 t).toNat : Int) = _
    rw [ha, hb, BitVec.toNat_or, BitVec.toNat_ofNat, BitVec.toNat_ofNat, Nat.mod_eq_of_lt (by omega), Nat.mod_eq_of_lt (by omega)]
    generalize s.toNat ||| t.toNat = x at hle
    have : ((x : Int)) % 18446744073709551616 = (x : Int) := by omega
    have hd : decide ((x : Int) ≥ 9223372036854775808) = false := by rw [decide_eq_false_iff_not]; omega
    show (if (true && decide ((x : Int) % 18446744073709551616 ≥ 9223372036854775808)) = true then (x : Int) % 18446744073709551616 - 18446744073709551616 else (x : Int) % 18446744073709551616) = _
    rw [this, hd]; rfl
  rw [hE]
  refine ⟨by omega, by omega, ?_⟩
  unfold subS
  rw [Int.toNat_natCast]
  refine Nat.eq_of_testBit_eq fun i => ?_
  rw [Nat.testBit_and, Nat.testBit_or]
  cases s.toNat.testBit i <;> rfl
theorem ref42_Made_v (n : Nat) {v0 v1 v3 : Int} (h0 : In64 v0) (h1 : In64 v1) (h3 : In64 v3) (xs : List (Int × Int × Int)) (hx : ∀ x ∈ xs, In64 x.1 ∧ In64 x.2.1 ∧ In64 x.2.2) (ds : List (Int × Int × Int)) (hl : ds.length ≤ 12) (hd : ∀ d ∈ ds, DebtOk (1 + pk v0 255) d) (hn : 220 < n) :
    Ok (fun r => ∃ w, r = wT w ∧ MadeW w ∧ w.ba = debtB ds ∧ w.al = 1 + pk v0 255) (ref42_Made n v0 v1 (xs.map triR) v3 (ds.map triR)) := by
  have b0 := pk_bd v0 (k := 255) (by decide)
  have b1 := pk_bd v1 (k := 256) (by decide)
  have b3 := pk_bd v3 (k := 256) (by decide)
  unfold ref42_Made ref42_Made_1
  rw [ref42_pick_v n h0 (by decide), Option.bind_some, ref42_pick_v n h1 (by decide), Option.bind_some]
  refine hO (by omega) (by omega) (hN ?_ (hN ?_ ?_))
  · rw [imin_min]; omega
  · rw [imin_min]; omega
  have htk : List.take (imin ((xs.map triR).length : Int) 8).toNat (xs.map triR) = (xs.take 8).map triR := by
    rw [imin_min, List.length_map, List.map_take]
    by_cases h : xs.length ≤ 8
    · rw [show (min (xs.length : Int) 8).toNat = xs.length by omega, List.take_of_length_le (by simp), List.take_of_length_le (by simpa using h)]
    · rw [show (min (xs.length : Int) 8).toNat = 8 by omega]
  rw [htk]
  obtain ⟨_, hm, l0, rfl, hc0, hl0⟩ := ref13_Made_few n (xs.take 8) (fun x h => hx x (List.mem_of_mem_take h)) (by rw [List.length_take]; omega) (by omega)
  rw [hm, Option.bind_some]
  obtain ⟨hal, hAl⟩ : ∃ s, s = 1 + pk v0 255 := ⟨_, rfl⟩
  rw [← hAl] at hd ⊢
  have s0 : 1 ≤ hal := by omega
  have s1 : hal ≤ 255 := by omega
  obtain ⟨c, cc0, cc1, hcc⟩ := some_bit s0 s1
  refine iterF_ok (fun s => 0 ≤ s ∧ s ≤ c) (fun s => 8 - s.toNat) _ ?_ n _ ⟨by decide, cc0⟩ (by first | omega | (simp only; omega))
  rintro k go ⟨k0, k1⟩ ih
  unfold ref42_Made_2
  refine hN k0 ?_
  unfold ref42_Made_3
  rw [← hAl, shr_mod (by omega) s1 k0 (by omega)]
  have hkc : has hal k = false → k + 1 ≤ c := fun hk => by
    have : k ≠ c := fun h => by rw [h, hcc] at hk; cases hk
    omega
  refine oBN (fun hk => ?_) (fun hk => hO (by omega) (by omega) (ih _ ⟨by omega, hkc hk⟩ (by first | omega | (simp only; omega))))
  clear ih
  refine iterF_ok (fun s => ∃ (m : List B3) (i : Nat) (L : List Int), s = (bL m, (i : Int), iL L) ∧ i ≤ 8 ∧ Canon m ∧ m.length ≤ 16 ∧ L.length = i ∧ (∀ x, hold m x ≠ -1 → has hal (hold m x) = true ∨ (i : Int) ≤ hold m x)
    ∧ ∀ (j : Nat) (y : Int), L[j]? = some y → (0 ≤ y ∧ y ≤ 4) ∧ (has hal (j : Int) = true → 3 ≤ y) ∧ (has hal (j : Int) = false → y = 0)) (fun s => 8 - s.2.1.toNat) _ ?_ n _ ⟨l0, 0, [], rfl, by omega, hc0, hl0, rfl, fun x hx => .inr (by have := hold_range hc0 x; omega), fun j y h => by simp at h⟩ (by first | omega | (simp only; omega))
  rintro _ go ⟨m, i, L, rfl, hi, hmc, hml, hL, hown, hlv⟩ ih
  simp only at ih ⊢
  unfold ref42_Made_4
  refine oF (fun h8 => hN (by omega) ?_) (fun h8 => ?_)
  · rw [← hAl, shr_mod (by omega) s1 (by omega) (by omega)]
    have hstep : ∀ (m' : List B3) (v : Int), Canon m' → m'.length ≤ 16 → (∀ x, hold m' x ≠ -1 → has hal (hold m' x) = true ∨ (i : Int) + 1 ≤ hold m' x) → (0 ≤ v ∧ v ≤ 4) → (has hal (i : Int) = true → 3 ≤ v) → (has hal (i : Int) = false → v = 0) → Ok (fun r => ∃ w, r = wT w ∧ MadeW w ∧ w.ba = debtB ds ∧ w.al = hal) (go (bL m', (i : Int) + 1, iL L ++ [[AV.int v]])) := fun m' v q1 q2 q3 q4 q5 q6 => by
      refine ih _ ⟨m', i + 1, L ++ [v], by rw [iapp]; rfl, by omega, q1, q2, by simp [hL], fun x hx => by have := q3 x hx; simpa using this, fun j y hj => ?_⟩ (by first | omega | (simp only; omega))
      by_cases h : j < L.length
      · rw [List.getElem?_append_left h] at hj; exact hlv j y hj
      · have hj2 : j = L.length := by
          have := (List.getElem?_eq_some_iff.1 hj).1
          simp at this; omega
        subst hj2
        rw [List.getElem?_append_right (Nat.le_refl _)] at hj
        simp at hj
        subst hj
        rw [hL]; exact ⟨q4, q5, q6⟩
    refine oBN (fun hb => ?_) (fun hb => ?_)
    · have hbt : Int.tmod (IOp.f .shr (pk v3 256) (i : Int)) 2 = if has (pk v3 256) (i : Int) then 1 else Int.tmod (IOp.f .shr (pk v3 256) (i : Int)) 2 := by
        have := shr_mod (s := pk v3 256) (c := (i : Int)) b3.1 (by omega) (by omega) (by omega)
        split
        · rename_i h; rw [h] at this; exact of_decide_eq_true this
        · rfl
      have hb2 : 0 ≤ Int.tmod (IOp.f .shr (pk v3 256) (i : Int)) 2 ∧ Int.tmod (IOp.f .shr (pk v3 256) (i : Int)) 2 < 2 := by
        refine tmod_bd ?_ (by decide)
        show 0 ≤ Int.fdiv (pk v3 256) (2 ^ (Nat.min (i : Int).toNat 64))
        exact Int.fdiv_nonneg b3.1 (Int.pow_nonneg (by decide))
      rw [ref42_pick_v n h3 (by decide), Option.bind_some]
      refine hO (by omega) (by omega) (hN (by rw [ilen]; omega) (hO (by omega) (by omega) ?_))
      refine hstep m _ hmc hml (fun x hx => ?_) (by omega) (fun _ => by omega) (fun h => by rw [hb] at h; cases h)
      rcases hown x hx with h | h
      · exact .inl h
      · by_cases he : hold m x = (i : Int)
        · left; rw [he]; exact hb
        · right; omega
    · have hsm := swap_map hmc (f := (i : Int)) (t := k) k0 (by omega)
      have hlen := relabel_len hmc (swR (i : Int) k) (by unfold swR; rw [if_neg (by omega)]) hsm
      rw [ref13_Swap_v n m (i : Int) k hmc (by omega) (by omega) (by omega) k0 (by omega) (by omega), Option.bind_some]
      refine hN (by rw [ilen]; omega) (hO (by omega) (by omega) ?_)
      refine hstep _ 0 hsm.1 (by omega) (fun x hx => ?_) (by omega) (fun h => by rw [hb] at h; cases h) (fun _ => rfl)
      rw [hsm.at x] at hx ⊢
      split at hx
      · rename_i hr
        rw [if_pos hr]
        unfold swR at hx ⊢
        by_cases he : hold m x = (i : Int)
        · rw [if_pos he]; exact .inl hk
        · rw [if_neg he] at hx ⊢
          rcases hown x hx with h | h
          · exact .inl h
          · right; omega
      · exact absurd rfl hx
  · have hi8 : i = 8 := by omega
    subst hi8
    clear ih
    obtain ⟨d1, d2, d3⟩ := debtB_ok ds hd
    have hsub := or_sub (s := hal) (t := pk v1 256) (by omega) s1 b1.1 (by omega)
    have hgl : ∀ c, 0 ≤ c → c ≤ 7 → ∃ y, L[c.toNat]? = some y ∧ g L c = y := fun c c0 c1 => by
      obtain ⟨y, hy⟩ := get_lt (l := L) (i := c.toNat) (by omega)
      exact ⟨y, hy, by unfold g; rw [List.getD_eq_getElem?_getD, hy]; rfl⟩
    have hgl2 : ∀ c, 0 ≤ c → c ≤ 7 → (0 ≤ g L c ∧ g L c ≤ 4) ∧ (has hal c = true → 3 ≤ g L c) ∧ (has hal c = false → g L c = 0) := fun c c0 c1 => by
      obtain ⟨y, hy, he⟩ := hgl c c0 c1
      have := hlv _ y hy
      rw [Int.toNat_of_nonneg c0] at this
      rw [he]; exact this
    refine iterF_ok (fun s => ∃ i : Nat, s = ((i : Int), iL (debtB (ds.take i))) ∧ i ≤ ds.length) (fun s => ds.length - s.1.toNat) _ ?_ n _ ⟨0, rfl, by omega⟩ (by first | omega | (simp only; omega))
    rintro _ go ⟨i, rfl, hi⟩ ih
    simp only at ih ⊢
    unfold ref42_Made_5
    refine oF (fun h1 => hN (by omega) ?_) (fun h1 => ?_)
    · rw [List.length_map] at h1
      obtain ⟨d, hdd⟩ := get_lt (l := ds) (i := i) (by omega)
      obtain ⟨g0, g1, g2⟩ := tcell hdd
      have hdok := hd d (List.mem_of_getElem? hdd)
      obtain ⟨⟨p1, p2⟩, ⟨p3, p4⟩, p5, p6, p7, p8, p9⟩ := hdok
      obtain ⟨t1, t2, t3⟩ := debtB_ok (ds.take i) (fun d h => hd d (List.mem_of_mem_take h))
      have hgo := ih ((i : Int) + 1, iL (debtB (ds.take (i + 1)))) ⟨i + 1, rfl, by omega⟩ (by first | omega | (simp only; omega))
      rw [take_snoc hdd, debtB_snoc] at hgo
      have t4 := (t3 d.1 p1 p2).1
      have t5 := (t3 d.2.1 p3 p4).1
      have hlt : ((ds.take i).length : Int) ≤ 12 := by rw [List.length_take]; omega
      have hl8 : ((debtB (ds.take i)).set d.1.toNat (g (debtB (ds.take i)) d.1 - d.2.2)).length = 8 := by rw [List.length_set, t1]
      have e5 : g ((debtB (ds.take i)).set d.1.toNat (g (debtB (ds.take i)) d.1 - d.2.2)) d.2.1 = g (debtB (ds.take i)) d.2.1 := by rw [g_set t1 p1 p2 p3 p4, if_neg (Ne.symm p5)]
      rw [g0, g1, g2, ← hAl, shr_mod (by omega) s1 p1 p2, shr_mod (by omega) s1 p3 p4, gcell t1 p1 p2, imod, gcell hl8 p3 p4, imod, p6, p7]
      have hlen8 : ((iL (debtB (ds.take i))).length : Int) = 8 := by rw [ilen, t1]; rfl
      refine hN p1 (hN p2 (hN p3 (hN p4 ?_)))
      rw [cond_true, cond_true]
      exact hN (by omega) (hO (by omega) (by omega) (hN (by omega) (hO (by omega) (by omega) (hO (by omega) (by omega) hgo))))
    · have hie : i = ds.length := by rw [List.length_map] at h1; omega
      subst hie
      rw [List.take_length, ← hAl]
      refine hD ⟨⟨hal, IOp.f .or hal (pk v1 256), m, debtB ds, L⟩, rfl, ⟨⟨hsub.1, hsub.2.1, by show 0 ≤ hal; omega, hsub.2.2, d1, hL, hmc, by show m.length ≤ 40; omega, fun b hb => ?_, fun c c0 c1 => ?_, fun c c0 c1 => ?_, fun c c0 c1 hc => ⟨(d3 c c0 c1).2 hc, (hgl2 c c0 c1).2.2 hc⟩, d2, fun c d c0 c1 d0 d1' hc hd' => ?_⟩, hml, fun c c0 c1 => ?_, fun c c0 c1 => ?_, ⟨c, cc0, cc1, hcc⟩⟩, rfl, rfl⟩
      · have hbd := asc_bd hmc hb
        have := hold_mem hmc hb (n := b.f) (by omega)
        rcases hown b.f (by omega) with h | h
        · rw [this] at h; exact h
        · omega
      · have := (d3 c c0 c1).1
        show -1000000000000 ≤ g (debtB ds) c ∧ g (debtB ds) c ≤ 1000000000000
        omega
      · have := (hgl2 c c0 c1).1
        show 0 ≤ g L c ∧ g L c ≤ 9
        omega
      · have q1 := hgl2 c c0 c1
        have q2 := (hgl2 d d0 d1').2.1 hd'
        show g L c - g L d ≤ 1
        omega
      · have := (d3 c c0 c1).1
        show -12000 ≤ g (debtB ds) c ∧ g (debtB ds) c ≤ 12000
        omega
      · have := (hgl2 c c0 c1).1
        show g L c ≤ 4
        omega
end Go.Proofs.YtgckmifmjiklmaaGreat
