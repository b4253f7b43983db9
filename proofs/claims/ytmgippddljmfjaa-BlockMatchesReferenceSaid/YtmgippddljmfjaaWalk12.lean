/-
  dialtoneref13.put and edges.
-/
import Derived.Test.YtmgippddljmfjaaWalk11
import Derived.Deep.RegionLawGrows
import Derived.BigRegion
import Derived.Deep.RegionLaw
namespace Go.Proofs.Ytmgippddljmfjaa
open Go Go.RowKit Go.Dial Go.Dial.Blk

def ints (l : List Int) : List Value := l.map (Value.int .i64)
/-- a slice value that holds integers -/
def HoldsI (w : World) (B : Nat) (v : Value) (l : List Int) : Prop := ∃ A c, v = .slice A l.length c ∧ l.length ≤ c ∧ c ≤ maxLen ∧ Span w B 1 A l.length (ints l)
def putL (l : List Int) (n : Int) : List Int := l.takeWhile (· < n) ++ (match l.dropWhile (· < n) with | [] => [n] | x :: t => if x = n then x :: t else n :: x :: t)
theorem span_int {w : World} {B n : Nat} {A : Option Addr} {l : List Int} (h : Span w B 1 A n (ints l)) {i : Nat} {x : Int} (hi : l[i]? = some x) : ∃ a, A = some a ∧ a.block < B ∧ w.cell? (a.add i) = some (.int .i64 x) := by
  refine h.2 i (.int .i64 x) ?_
  simp [ints, hi]
theorem info3 : (Try.prog.info? 3).map (fun i => (i.zero, i.size, i.bytes)) = some (some (.int .i64 0), 1, 8) := by kernel_rfl

/-- the place of a number in an ascending list -/
theorem put_at {l : List Int} {n : Int} {k : Nat} (hk : k < l.length) (h1 : ∀ i (_ : i < k) (hi : i < l.length), l[i] < n) (h2 : n ≤ l[k]) : putL l n = if l[k] = n then l else l.take k ++ n :: l.drop k := by
  have ht : ∀ (l : List Int) (k : Nat) (hk : k < l.length), (∀ i (_ : i < k) (hi : i < l.length), l[i] < n) → n ≤ l[k] → l.takeWhile (· < n) = l.take k ∧ l.dropWhile (· < n) = l.drop k := by
    intro l
    induction l with
    | nil => intro k hk; simp at hk
    | cons x l ih =>
      intro k hk h1 h2
      cases k with
      | zero =>
        have : ¬ x < n := by simp at h2; omega
        simp [List.takeWhile, List.dropWhile, this]
      | succ k =>
        have h0 : x < n := h1 0 (by omega) (by simp)
        obtain ⟨i1, i2⟩ := ih k (by simpa using hk) (fun i hi hl => h1 (i + 1) (by omega) (by simp; omega)) (by simpa using h2)
        simp [List.takeWhile, List.dropWhile, h0, i1, i2]
  obtain ⟨e1, e2⟩ := ht l k hk h1 h2
  have e3 : l.drop k = l[k] :: l.drop (k + 1) := List.drop_eq_getElem_cons hk
  rw [putL, e1, e2, e3]
  simp only
  split
  · rw [← e3, List.take_append_drop]
  · rfl
theorem ints_one (l : List Int) : ∀ u ∈ ints l, u.oneCell' = true := by
  intro u hu
  simp [ints] at hu
  obtain ⟨x, _, rfl⟩ := hu; rfl
theorem grow_below {w w1 : World} {o : Obj} (h : (w.alloc o).drew.grownBy w1 none) : Below w.heap.size w w1 :=
  (((Below.refl _ w).alloc (Nat.le_refl _) o).trans ⟨rfl, rfl, rfl, Nat.le_refl _, fun _ _ => rfl⟩ : Below w.heap.size w (w.alloc o).drew).grown h (by show w.heap.size ≤ (w.alloc o).heap.size; simp) (fun j ej => by cases ej)
set_option maxHeartbeats 800000 in
theorem put_any (A : Option Addr) (c : Nat) (l : List Int) (n : Int) (w : World) (hl : l.length ≤ c) (hc : c ≤ maxLen) (hS : Span w w.heap.size 1 A l.length (ints l)) (hlen : l.length ≤ 1000) (hx : ∃ k, ∃ hk : k < l.length, n ≤ l[k]) :
    Calls Try.prog 68 #[.slice A l.length c, .int .i64 n] w fun e w' => (∃ v, e = .returned v ∧ HoldsI w' w'.heap.size v (putL l n)) ∧ Below w.heap.size w w' := by
  have HS := Lib.hid hS
  clear hS
  unfold maxLen at hc
  go_enter Try.func68, Try.ntmps68
  go_wp2_with fail
  go_loopw [5] (fun i wr => ∃ j : Nat, j < l.length ∧ i = .int .i64 j ∧ w = wr ∧ (∀ i (_ : i < j) (hi : i < l.length), l[i] < n) ∧ ∃ k, j ≤ k ∧ ∃ hk : k < l.length, n ≤ l[k]) (fun i _ => l.length - (intOf i).toNat)
  case atStart =>
    obtain ⟨k, hk, hn⟩ := hx
    exact ⟨0, by omega, rfl, rfl, fun i hi => by omega, k, by omega, hk, hn⟩
  case round =>
    obtain ⟨j, hj, rfl, rfl, hlo, k, hjk, hk, hn⟩ := hrel
    obtain ⟨a, rfl, hab, c0⟩ := span_int HS.out (List.getElem?_eq_getElem hj)
    obtain ⟨x, hxj⟩ : ∃ x, x = l[j] := ⟨_, rfl⟩
    rw [← hxj] at c0
    have HX := Lib.hid hxj
    have HLO := Lib.hid hlo
    have HN := Lib.hid hn
    clear hxj hlo hn hx
    by_cases h1 : x < n
    · go_wp2_with fail
      go_roundw
      case rel =>
        refine ⟨j + 1, ?_, by go_num, by trivial, ?_, k, ?_, hk, HN.out⟩
        · have : j ≠ k := by
            rintro rfl
            have := HN.out
            rw [← HX.out] at this; omega
          omega
        · intro i hi hil
          rcases Nat.lt_succ_iff_lt_or_eq.1 hi with h | rfl
          · exact HLO.out i h hil
          · rw [← HX.out]; exact h1
        · have : j ≠ k := by
            rintro rfl
            have := HN.out
            rw [← HX.out] at this; omega
          omega
      case measure => simp [intOf]; omega
    · by_cases h2 : x = n
      · have t2 : (x == n) = true := by rw [beq_iff_eq]; exact h2
        have HP : Hid (putL l n = l) := Lib.hid (by rw [put_at hj HLO.out (by rw [← HX.out]; omega), if_pos (by rw [← HX.out]; exact h2)])
        go_wp2_with fail
        go_ret
        exact ⟨⟨_, rfl, by rw [HP.out]; exact ⟨some a, c, rfl, hl, by unfold maxLen; omega, HS.out⟩⟩, Below.refl _ _⟩
      · have t2 : (x == n) = false := by rw [beq_eq_false_iff_ne]; exact h2
        have HP : Hid (putL l n = l.take j ++ n :: l.drop j) := Lib.hid (by rw [put_at hj HLO.out (by rw [← HX.out]; omega), if_neg (by rw [← HX.out]; exact h2)])
        go_wp2_with fail
        have hcj : ¬ c = j := by omega
        have b0 : (0 : Int) ≤ (j : Int) := by omega
        have b1 : (j : Int) ≤ (l.length : Int) := by omega
        have b2 : (j : Int) ≤ (c : Int) := by omega
        obtain ⟨i0, hi, hz0, hz1, hz2⟩ := info_parts info3
        have hn1 : (ints (l.drop j)).length = (l.length - j) * 1 := by simp [ints]
        have hn2 : (ints (l.take j)).length = j * 1 := by simp [ints]; omega
        have HS2 : Hid (∀ W', Below w.heap.size w W' → ∀ i u, (ints (l.drop j))[i]? = some u → W'.cell? ((a.add j).add i) = some u) := Lib.hid fun W' hb i u hu => by
          obtain ⟨a', e, hb', hc'⟩ := HS.out.2 (j + i) u (by simpa [ints, List.getElem?_drop] using hu)
          cases e
          rw [add_add]; exact (hb.cell (by rw [add_block]; exact hb')).trans hc'
        have HS3 : Hid (∀ W', Below w.heap.size w W' → ∀ i u, (ints (l.take j))[i]? = some u → W'.cell? (a.add i) = some u) := Lib.hid fun W' hb i u hu => by
          have hij : i < j := by
            have := (List.getElem?_eq_some_iff.1 hu).1; simp [ints] at this; omega
          obtain ⟨a', e, hb', hc'⟩ := HS.out.2 i u (by simpa [ints, List.getElem?_take, hij] using hu)
          cases e
          exact (hb.cell (by rw [add_block]; exact hb')).trans hc'
        go_region_law (first
          | (refine step_append_grows (by rfl) (.tmp 38) (.tmp 41) 36 (by rfl) 3 i0 (.int .i64 0) 1 8 Try.underlying36 hi hz0 hz1 hz2 rfl (by decide) (some ⟨w.heap.size, 0, none⟩) 1 1 [.int .i64 n] (by rfl) (by simp) rfl (fun b hb => by cases hb; exact cell_one_new _ _ _) (a.add j) (l.length - j) (c - j) (ints (l.drop j)) (by rfl) hn1 (HS2.out _ (((Below.refl _ _).alloc (Nat.le_refl _) _).trans ⟨rfl, rfl, rfl, Nat.le_refl _, fun _ _ => rfl⟩)) (ints_one _) (by omega) (by unfold maxLen; omega) (by omega) ?_; intro v' w1 hown hgrow; obtain ⟨g', cap', hv', _, _⟩ := hown.form (by omega); subst hv'; have HG1 := Lib.hid hgrow; have HO1 := Lib.hid hown; clear hgrow hown)
          | (refine step_append_grows (by rfl) (.tmp 36) (.tmp 42) 36 (by rfl) 3 i0 (.int .i64 0) 1 8 Try.underlying36 hi hz0 hz1 hz2 rfl (by decide) (some a) j j (ints (l.take j)) (by rfl) (by simp) hn2 (fun b hb => by cases hb; exact HS3.out _ (grow_below HG1.out)) ⟨g', 0, none⟩ (1 + (l.length - j)) cap' ([.int .i64 n] ++ ints (l.drop j)) (by rfl) HO1.out.1 (HO1.out.cells rfl) (ints_one (n :: l.drop j)) (by omega) (by unfold maxLen; omega) (by omega) ?_; intro v'' w2 hown2 hgrow2; have HG2 := Lib.hid hgrow2; have HO2 := Lib.hid hown2; clear hgrow2 hown2; obtain ⟨A2, c2, hv2, hl2, hc2⟩ := own_slice HO2.out; subst hv2))
        go_wp2_with fail
        go_ret
        have e : (l.take j ++ n :: l.drop j).length = j + (1 + (l.length - j)) := by simp; omega
        have e2 : ints (l.take j ++ n :: l.drop j) = ints (l.take j) ++ ([.int .i64 n] ++ ints (l.drop j)) := by simp [ints]
        refine ⟨⟨_, rfl, ?_⟩, below_trans (grow_below HG1.out) ((Below.refl _ _).grown HG2.out (Nat.le_refl _) (fun j ej => by cases ej))⟩
        rw [HP.out]
        refine ⟨A2, c2, by rw [e]; rfl, by omega, hc2, ?_⟩
        rw [e, e2]
        exact Span.of_own HO2.out

theorem HoldsI.later {w w' : World} {v : Value} {l : List Int} (h : HoldsI w w.heap.size v l) (hb : Below w.heap.size w w') : HoldsI w' w'.heap.size v l := by
  obtain ⟨A, c, rfl, h1, h2, h3⟩ := h
  exact ⟨A, c, rfl, h1, h2, (h3.below hb (Nat.le_refl _)).mono hb.size⟩
/-- ascending, from 0 to the end of all numbers -/
def EOk (l : List Int) : Prop := l.Pairwise (· < ·) ∧ l[0]? = some 0 ∧ l[l.length - 1]? = some 100000000
theorem EOk.two : EOk [0, 100000000] := ⟨by simp, rfl, rfl⟩
theorem EOk.pos {l : List Int} (h : EOk l) : 2 ≤ l.length := by
  obtain ⟨_, h1, h2⟩ := h
  match l, h1, h2 with
  | [], h1, _ => simp at h1
  | [x], h1, h2 => simp at h1 h2; omega
  | x :: y :: t, _, _ => simp
theorem EOk.reach {l : List Int} (h : EOk l) {n : Int} (hn : n ≤ 100000000) : ∃ k, ∃ hk : k < l.length, n ≤ l[k] := by
  have hp := h.pos
  refine ⟨l.length - 1, by omega, ?_⟩
  have := h.2.2
  rw [List.getElem?_eq_getElem (by omega)] at this
  simp at this; omega
theorem put_spec {l : List Int} (h : EOk l) {n : Int} (h0 : 0 ≤ n) (hn : n ≤ 100000000) : EOk (putL l n) ∧ (∀ x, x ∈ putL l n ↔ x = n ∨ x ∈ l) ∧ (putL l n).length ≤ l.length + 1 := by
  have hp := h.pos
  -- the first place that is not less
  have hex : ∃ k, ∃ hk : k < l.length, n ≤ l[k] ∧ ∀ i (_ : i < k) (hi : i < l.length), l[i] < n := by
    obtain ⟨k, hk, hn⟩ := h.reach hn
    induction k using Nat.strongRecOn with
    | _ k ih =>
      by_cases hs : ∃ i, ∃ hi : i < k, n ≤ l[i]
      · obtain ⟨i, hi, hx⟩ := hs
        exact ih i hi (by omega) hx
      · exact ⟨k, hk, hn, fun i hi hil => by
          rcases Int.lt_or_le l[i] n with h | h
          · exact h
          · exact absurd ⟨i, hi, h⟩ hs⟩
  obtain ⟨k, hk, h2, h1⟩ := hex
  rw [put_at hk h1 h2]
  obtain ⟨s1, s2, s3⟩ := h
  split
  · rename_i he
    refine ⟨⟨s1, s2, s3⟩, fun x => ⟨.inr, fun hx => hx.elim (fun e => by rw [e, ← he]; exact List.getElem_mem hk) id⟩, by omega⟩
  · rename_i he
    have hlt : n < l[k] := by omega
    have hk0 : 0 < k := by
      rcases Nat.eq_zero_or_pos k with e | e
      · subst e
        rw [List.getElem?_eq_getElem (by omega)] at s2
        simp at s2; omega
      · exact e
    have hmem : ∀ x, x ∈ l.take k ++ n :: l.drop k ↔ x = n ∨ x ∈ l := fun x => by
      rw [List.mem_append, List.mem_cons]
      constructor
      · rintro (h | h | h)
        · exact .inr (List.mem_of_mem_take h)
        · exact .inl h
        · exact .inr (List.mem_of_mem_drop h)
      · rintro (h | h)
        · exact .inr (.inl h)
        · rw [← List.take_append_drop k l, List.mem_append] at h
          exact h.elim .inl (fun h => .inr (.inr h))
    refine ⟨⟨?_, ?_, ?_⟩, hmem, by simp; omega⟩
    · rw [List.pairwise_append]
      refine ⟨s1.sublist (List.take_sublist _ _), ?_, ?_⟩
      · rw [List.pairwise_cons]
        refine ⟨fun x hx => ?_, s1.sublist (List.drop_sublist _ _)⟩
        obtain ⟨i, hi, rfl⟩ := List.getElem_of_mem hx
        simp only [List.length_drop] at hi
        rw [List.getElem_drop]
        rcases Nat.eq_zero_or_pos i with e | e
        · subst e; simpa using hlt
        · have := List.pairwise_iff_getElem.1 s1 k (k + i) hk (by omega) (by omega); omega
      · intro x hx y hy
        obtain ⟨i, hi, rfl⟩ := List.getElem_of_mem hx
        simp only [List.length_take] at hi
        rw [List.getElem_take]
        have hxn := h1 i (by omega) (by omega)
        rcases List.mem_cons.1 hy with rfl | hy
        · exact hxn
        · obtain ⟨j, hj, rfl⟩ := List.getElem_of_mem hy
          simp only [List.length_drop] at hj
          rw [List.getElem_drop]
          exact List.pairwise_iff_getElem.1 s1 i (k + j) (by omega) (by omega) (by omega)
    · rw [List.getElem?_append_left (by simp; omega), List.getElem?_take, if_pos hk0]; exact s2
    · have e : (l.take k ++ n :: l.drop k).length - 1 = l.length := by simp; omega
      rw [e, List.getElem?_append_right (by simp; omega)]
      have e2 : l.length - (l.take k).length = (l.length - k - 1) + 1 := by simp; omega
      rw [e2, List.getElem?_cons_succ, List.getElem?_drop, ← s3]
      congr 1; omega
def insE (out : List Int) (l : List B3) : List Int := l.foldl (fun o b => putL (putL o b.f) b.t) out
def edgesL (a b : List B3) : List Int := insE (insE [0, 100000000] a) b
theorem insE_spec (l : List B3) (hl : ∀ b ∈ l, 0 ≤ b.f ∧ b.f < b.t ∧ b.t ≤ 100000000) {out : List Int} (h : EOk out) : EOk (insE out l) ∧ (∀ x ∈ out, x ∈ insE out l) ∧ (∀ b ∈ l, b.f ∈ insE out l ∧ b.t ∈ insE out l) ∧ (insE out l).length ≤ out.length + 2 * l.length := by
  induction l generalizing out with
  | nil => exact ⟨h, fun _ h => h, by simp, by simp [insE]⟩
  | cons b l ih =>
    obtain ⟨b1, b2, b3⟩ := hl b (by simp)
    obtain ⟨p1, p2, p3⟩ := put_spec h b1 (by omega)
    obtain ⟨q1, q2, q3⟩ := put_spec p1 (by omega : 0 ≤ b.t) b3
    obtain ⟨i1, i2, i3, i4⟩ := ih (fun c hc => hl c (by simp [hc])) q1
    have e : insE out (b :: l) = insE (putL (putL out b.f) b.t) l := rfl
    rw [e]
    refine ⟨i1, fun x hx => i2 x ((q2 x).2 (.inr ((p2 x).2 (.inr hx)))), fun c hc => ?_, by simp; omega⟩
    rcases List.mem_cons.1 hc with rfl | hc
    · exact ⟨i2 _ ((q2 _).2 (.inr ((p2 _).2 (.inl rfl)))), i2 _ ((q2 _).2 (.inl rfl))⟩
    · exact i3 c hc
theorem insE_take {out : List Int} {l : List B3} {j : Nat} (hj : j < l.length) : insE out (l.take (j + 1)) = putL (putL (insE out (l.take j)) l[j].f) l[j].t := by
  rw [List.take_succ_eq_append_getElem hj, insE, List.foldl_append]; rfl
theorem canon_rng {l : List B3} (h : Canon l) : ∀ b ∈ l, 0 ≤ b.f ∧ b.f < b.t ∧ b.t ≤ 100000000 := fun b hb => by
  obtain ⟨i, hi, rfl⟩ := List.getElem_of_mem hb
  exact asc_get h hi
theorem putH_any (v : Value) (l : List Int) (n : Int) (w : World) (h : HoldsI w w.heap.size v l) (hlen : l.length ≤ 1000) (he : EOk l) (hn : n ≤ 100000000) :
    Calls Try.prog 68 #[v, .int .i64 n] w fun e w' => (∃ v, e = .returned v ∧ HoldsI w' w'.heap.size v (putL l n)) ∧ Below w.heap.size w w' := by
  obtain ⟨A, c, rfl, h1, h2, h3⟩ := h
  exact put_any A c l n w h1 h2 h3 hlen (he.reach hn)
set_option maxRecDepth 100000 in
set_option maxHeartbeats 1600000 in
theorem edges_any (A0 A1 : Option Addr) (c0 c1 : Nat) (a b : List B3) (w : World) (hl0 : a.length ≤ 45) (hl1 : b.length ≤ 45) (sp0 : Span w w.heap.size 3 A0 a.length (bcs a)) (sp1 : Span w w.heap.size 3 A1 b.length (bcs b)) (ha : Canon a) (hb : Canon b) :
    Calls Try.prog 65 #[.slice A0 a.length c0, .slice A1 b.length c1] w fun e w' => (∃ v, e = .returned v ∧ HoldsI w' w'.heap.size v (edgesL a b)) ∧ Below w.heap.size w w' := by
  have SP0 := Lib.hid sp0
  have SP1 := Lib.hid sp1
  have HCA := Lib.hid ha
  have HCB := Lib.hid hb
  clear sp0 sp1 ha hb
  go_enter Try.func65, Try.ntmps65
  go_wp2_with fail
  go_loopw [5, 6] (fun o i wr => ∃ j : Nat, j ≤ a.length ∧ i = .int .i64 j ∧ HoldsI wr wr.heap.size o (insE [0, 100000000] (a.take j)) ∧ Below w.heap.size w wr) (fun _ i _ => a.length - (intOf i).toNat)
  case atStart =>
    refine ⟨0, by omega, rfl, ?_, below_al _ _⟩
    exact ⟨_, 2, rfl, Nat.le_refl _, by unfold maxLen; omega, rfl, fun j u hu => ⟨_, rfl, by simp, World.news_of_block (cs := #[.int .i64 0, .int .i64 100000000]) (new_heap _ _) j u (by simpa [insE, ints] using hu)⟩⟩
  case round =>
    obtain ⟨j, hj, rfl, ho, hbe⟩ := hrel
    by_cases hjn : j < a.length
    · skip
      obtain ⟨i1, i2, i3, i4⟩ := insE_spec (a.take j) (fun x hx => canon_rng HCA.out x (List.mem_of_mem_take hx)) EOk.two
      obtain ⟨r1, r2, r3⟩ := canon_rng HCA.out a[j] (List.getElem_mem hjn)
      obtain ⟨p1, p2, p3⟩ := put_spec i1 r1 (by omega : a[j].f ≤ 100000000)
      have et := insE_take (out := [0, 100000000]) hjn
      have hlt : (a.take j).length ≤ 45 := by simp; omega
      obtain ⟨E, hE⟩ : ∃ E, E = insE [0, 100000000] (a.take j) := ⟨_, rfl⟩
      rw [← hE] at ho i1 i4 p1 p3 et
      try simp only [List.length_cons, List.length_nil] at i4
      obtain ⟨q, hq⟩ : ∃ q, q = a[j] := ⟨_, rfl⟩
      rw [← hq] at r1 r2 r3 p1 p3 et
      have HQ : Hid (a[j]? = some q) := Lib.hid (by rw [hq]; exact List.getElem?_eq_getElem hjn)
      have ET := Lib.hid et
      clear hE hq et i2 i3 p2
      obtain ⟨ad, hA, hab, _, _, _⟩ := span_blk SP0.out HQ.out
      have HA := Lib.hid hA
      have HK : Hid (∀ W', Below w.heap.size w W' → W'.cell? (ad.add (j * 3)) = some (.int .i64 q.f) ∧ W'.cell? ⟨(ad.add (j * 3)).block, (ad.add (j * 3)).off + 1, none⟩ = some (.int .i64 q.t)) := Lib.hid fun W' hb' => by
        obtain ⟨ad', e, _, d0, d1, _⟩ := span_blk (SP0.out.below hb' (Nat.le_refl _)) HQ.out
        rw [HA.out] at e; cases e
        exact ⟨d0, d1⟩
      have s0 : (0 : Int) ≤ (j : Int) := by omega
      have s1 : (j : Int) < (a.length : Int) := by omega
      obtain ⟨d0, d1⟩ := HK.out wr hbe
      have hA2 := HA.out
      subst hA2
      have HOD : Hid (HoldsI wr.drew wr.drew.heap.size _ E) := Lib.hid ho
      clear ho
      go_upto_region 5 with fail
      go_region_held3 (fun w' => w'.cell? (ad.add (j * 3)) = some (.int .i64 q.f) ∧ w'.cell? ⟨(ad.add (j * 3)).block, (ad.add (j * 3)).off + 1, none⟩ = some (.int .i64 q.t)) (go_keep)
        (first
          | (go_at_call 68; (with_reducible refine (putH_any _ E q.f wr.drew HOD.out (by omega) i1 (by omega)).mono ?_); rintro e w1 ⟨⟨v1, rfl, h1⟩, hb1⟩; have HB1 := below_trans hbe.drew hb1; obtain ⟨f0, f1⟩ := HK.out _ HB1)
          | (go_at_call 68; (with_reducible refine (putH_any v1 (putL E q.f) q.t w1 h1 (by omega) p1 (by omega)).mono ?_); rintro e w2 ⟨⟨v2, rfl, h2⟩, hb2⟩; have HB2 := below_trans HB1 hb2; obtain ⟨g0, g1⟩ := HK.out _ HB2))
      clear d0 d1 f0 f1 g0 g1 s0 s1
      go_wp2_with fail
      exact ⟨⟨j + 1, by omega, by go_num, by rw [ET.out]; exact h2, HB2⟩, by simp [intOf]; omega⟩
    · have hj2 : a.take j = a := List.take_of_length_le (by omega)
      rw [hj2] at ho
      obtain ⟨e1, e2, e3, e4⟩ := insE_spec a (canon_rng HCA.out) EOk.two
      simp only [List.length_cons, List.length_nil] at e4
      clear e2 e3 hj2
      obtain ⟨E0, hE0⟩ : ∃ E0, E0 = insE [0, 100000000] a := ⟨_, rfl⟩
      rw [← hE0] at ho e1 e4
      have HE0 := Lib.hid hE0
      clear hE0
      go_wp2_with fail
      go_loopw [5, 7] (fun o i wr => ∃ j : Nat, j ≤ b.length ∧ i = .int .i64 j ∧ HoldsI wr wr.heap.size o (insE E0 (b.take j)) ∧ Below w.heap.size w wr) (fun _ i _ => b.length - (intOf i).toNat)
      case atStart => exact ⟨0, by omega, rfl, ho, hbe⟩
      case round =>
        clear ho hbe hjn hj
        obtain ⟨j, hj, rfl, ho, hbe⟩ := hrel
        by_cases hjn : j < b.length
        · skip
          obtain ⟨i1, i2, i3, i4⟩ := insE_spec (b.take j) (fun x hx => canon_rng HCB.out x (List.mem_of_mem_take hx)) e1
          obtain ⟨r1, r2, r3⟩ := canon_rng HCB.out b[j] (List.getElem_mem hjn)
          obtain ⟨p1, p2, p3⟩ := put_spec i1 r1 (by omega : b[j].f ≤ 100000000)
          have et := insE_take (out := E0) hjn
          have hlt : (b.take j).length ≤ 45 := by simp; omega
          obtain ⟨E, hE⟩ : ∃ E, E = insE E0 (b.take j) := ⟨_, rfl⟩
          rw [← hE] at ho i1 i4 p1 p3 et
          try simp only [List.length_cons, List.length_nil] at i4
          obtain ⟨q, hq⟩ : ∃ q, q = b[j] := ⟨_, rfl⟩
          rw [← hq] at r1 r2 r3 p1 p3 et
          have HQ : Hid (b[j]? = some q) := Lib.hid (by rw [hq]; exact List.getElem?_eq_getElem hjn)
          have ET := Lib.hid et
          clear hE hq et i2 i3 p2
          obtain ⟨ad, hA, hab, _, _, _⟩ := span_blk SP1.out HQ.out
          have HA := Lib.hid hA
          have HK : Hid (∀ W', Below w.heap.size w W' → W'.cell? (ad.add (j * 3)) = some (.int .i64 q.f) ∧ W'.cell? ⟨(ad.add (j * 3)).block, (ad.add (j * 3)).off + 1, none⟩ = some (.int .i64 q.t)) := Lib.hid fun W' hb' => by
            obtain ⟨ad', e, _, d0, d1, _⟩ := span_blk (SP1.out.below hb' (Nat.le_refl _)) HQ.out
            rw [HA.out] at e; cases e
            exact ⟨d0, d1⟩
          have s0 : (0 : Int) ≤ (j : Int) := by omega
          have s1 : (j : Int) < (b.length : Int) := by omega
          obtain ⟨d0, d1⟩ := HK.out wr hbe
          have hA2 := HA.out
          subst hA2
          have HOD : Hid (HoldsI wr.drew wr.drew.heap.size _ E) := Lib.hid ho
          clear ho
          go_upto_region 9 with fail
          go_region_held3 (fun w' => w'.cell? (ad.add (j * 3)) = some (.int .i64 q.f) ∧ w'.cell? ⟨(ad.add (j * 3)).block, (ad.add (j * 3)).off + 1, none⟩ = some (.int .i64 q.t)) (go_keep)
            (first
              | (go_at_call 68; (with_reducible refine (putH_any _ E q.f wr.drew HOD.out (by omega) i1 (by omega)).mono ?_); rintro e w1 ⟨⟨v1, rfl, h1⟩, hb1⟩; have HB1 := below_trans hbe.drew hb1; obtain ⟨f0, f1⟩ := HK.out _ HB1)
              | (go_at_call 68; (with_reducible refine (putH_any v1 (putL E q.f) q.t w1 h1 (by omega) p1 (by omega)).mono ?_); rintro e w2 ⟨⟨v2, rfl, h2⟩, hb2⟩; have HB2 := below_trans HB1 hb2; obtain ⟨g0, g1⟩ := HK.out _ HB2))
          clear d0 d1 f0 f1 g0 g1 s0 s1
          go_wp2_with fail
          exact ⟨⟨j + 1, by omega, by go_num, by rw [ET.out]; exact h2, HB2⟩, by simp [intOf]; omega⟩
        · have HF : Hid (edgesL a b = insE E0 (b.take j)) := Lib.hid (by rw [List.take_of_length_le (by omega), HE0.out]; rfl)
          go_wp2_with fail
          go_ret
          exact ⟨⟨_, rfl, by rw [HF.out]; exact ho⟩, hbe⟩
end Go.Proofs.Ytmgippddljmfjaa
