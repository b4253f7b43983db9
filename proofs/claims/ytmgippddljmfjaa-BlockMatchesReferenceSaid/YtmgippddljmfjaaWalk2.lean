/-
  slices.IndexFunc and slices.ContainsFunc over blocks, with a function value that may keep its state in cells.
-/
import Derived.Test.YtmgippddljmfjaaWalk1
namespace Go.Proofs.Ytmgippddljmfjaa
open Go Go.RowKit Go.Dial Go.Dial.Blk

def bcells (b : B3) : List Value := [.int .i64 b.f, .int .i64 b.t, .int .i64 b.c]
def bcs (l : List B3) : List Value := l.flatMap bcells
theorem bcs_len (l : List B3) : (bcs l).length = l.length * 3 := by
  induction l with
  | nil => rfl
  | cons b l ih => simp only [bcs, List.flatMap_cons, List.length_append, List.length_cons] at ih ⊢; simp [bcells, ih]; omega
theorem bcs_get {l : List B3} {i : Nat} {b : B3} (h : l[i]? = some b) : (bcs l)[3 * i]? = some (.int .i64 b.f) ∧ (bcs l)[3 * i + 1]? = some (.int .i64 b.t) ∧ (bcs l)[3 * i + 2]? = some (.int .i64 b.c) := by
  induction l generalizing i with
  | nil => simp at h
  | cons x l ih =>
    cases i with
    | zero =>
      simp at h; subst h
      simp [bcs, bcells]
    | succ i =>
      have := ih (i := i) (by simpa using h)
      have e : ∀ k, (bcs (x :: l))[3 * (i + 1) + k]? = (bcs l)[3 * i + k]? := by
        intro k
        rw [show bcs (x :: l) = bcells x ++ bcs l by simp [bcs], List.getElem?_append_right (by simp [bcells]; omega)]
        congr 1; simp [bcells]; omega
      have e0 := e 0
      simp only [Nat.add_zero] at e0
      rw [e0, e 1, e 2]
      exact this
theorem add_succ1 (a : Addr) (n k : Nat) : a.add (n + (k + 1)) = ⟨(a.add n).block, (a.add n).off + (k + 1), none⟩ := by
  unfold Addr.add; rw [if_neg (by omega)]; split <;> simp <;> omega
theorem span_blk {w : World} {B n : Nat} {A : Option Addr} {l : List B3} (h : Span w B 3 A n (bcs l)) {i : Nat} {b : B3} (hi : l[i]? = some b) :
    ∃ a, A = some a ∧ a.block < B ∧ w.cell? (a.add (i * 3)) = some (.int .i64 b.f) ∧ w.cell? ⟨(a.add (i * 3)).block, (a.add (i * 3)).off + 1, none⟩ = some (.int .i64 b.t) ∧ w.cell? ⟨(a.add (i * 3)).block, (a.add (i * 3)).off + 2, none⟩ = some (.int .i64 b.c) := by
  obtain ⟨g0, g1, g2⟩ := bcs_get hi
  obtain ⟨a, rfl, hb, h0⟩ := h.2 _ _ g0
  obtain ⟨a', e1, _, h1⟩ := h.2 _ _ g1
  obtain ⟨a'', e2, _, h2⟩ := h.2 _ _ g2
  cases e1; cases e2
  rw [Nat.mul_comm] at h0 h1 h2
  exact ⟨a, rfl, hb, h0, by rw [← add_succ1 a (i * 3) 0]; exact h1, by rw [← add_succ1 a (i * 3) 1]; exact h2⟩

theorem index_any (A : Option Addr) (c : Nat) (bs : List B3) (fn : Nat) (cap : Array Value) (hcall : ∀ args w, (callFunc fn args).run Try.prog w = .ok (.enter fn args) w) (St : Nat → World → Prop) (p : Nat → Bool) (w : World) (hlen : bs.length ≤ maxLen)
    (hS : ∀ i W, St i W → Span W W.heap.size 3 A bs.length (bcs bs))
    (hf : ∀ i b W, bs[i]? = some b → St i W → Calls Try.prog fn (#[bval b] ++ cap) W fun e W' => e = .returned (.bool (p i)) ∧ St (i + 1) W')
    (h0 : St 0 w) :
    Calls Try.prog 62 #[.slice A bs.length c, .func (.func fn) #[] cap] w fun e w' => ∃ j k, St j w' ∧ j ≤ bs.length ∧ e = .returned (.int .i64 k) ∧
      ((∃ i : Nat, k = i ∧ i < bs.length ∧ j = i + 1 ∧ p i = true ∧ ∀ m, m < i → p m = false) ∨ (k = -1 ∧ j = bs.length ∧ ∀ m, m < bs.length → p m = false)) := by
  unfold maxLen at hlen
  have HS := Lib.hid hS
  have HF := Lib.hid hf
  clear hS hf
  go_enter Try.func62, Try.ntmps62
  go_wp2_with fail
  go_loopw [8] (fun i wr => ∃ j : Nat, j ≤ bs.length ∧ i = .int .i64 j ∧ St j wr ∧ ∀ m, m < j → p m = false) (fun i _ => bs.length - (intOf i).toNat)
  case atStart => exact ⟨0, by omega, rfl, h0, fun _ h => by omega⟩
  case round =>
    obtain ⟨j, hj, rfl, hst, hp⟩ := hrel
    have HP := Lib.hid hp
    clear hp
    by_cases hjn : j < bs.length
    · obtain ⟨b, hb⟩ : ∃ b, bs[j]? = some b := ⟨_, List.getElem?_eq_getElem hjn⟩
      obtain ⟨a, rfl, hab, c0, c1, c2⟩ := span_blk (HS.out j wr hst) hb
      have HB := Lib.hid hb
      have HST := Lib.hid hst
      clear hb hst
      by_cases hpj : p j = true
      · go_wp2_with (refine (HF.out j b wr HB.out HST.out).mono ?_; rintro e w1 ⟨rfl, hst1⟩; rw [hpj])
        go_ret
        exact ⟨j + 1, j, hst1, by omega, by go_num, .inl ⟨j, rfl, hjn, rfl, hpj, HP.out⟩⟩
      · have hpj' : p j = false := by simpa using hpj
        clear hpj
        go_wp2_with (refine (HF.out j b wr HB.out HST.out).mono ?_; rintro e w1 ⟨rfl, hst1⟩; rw [hpj'])
        go_roundw
        case rel => exact ⟨j + 1, by omega, by go_num, hst1, fun m hm => (Nat.lt_succ_iff_lt_or_eq.1 hm).elim (HP.out m) (fun h => h ▸ hpj')⟩
        case measure => simp [intOf]; omega
    · go_wp2_with fail
      go_ret
      exact ⟨j, -1, hst, by omega, rfl, .inr ⟨rfl, by omega, fun m hm => HP.out m (by omega)⟩⟩
theorem contains_any (A : Option Addr) (c : Nat) (bs : List B3) (fn : Nat) (cap : Array Value) (hcall : ∀ args w, (callFunc fn args).run Try.prog w = .ok (.enter fn args) w) (St : Nat → World → Prop) (p : Nat → Bool) (w : World) (hlen : bs.length ≤ maxLen)
    (hS : ∀ i W, St i W → Span W W.heap.size 3 A bs.length (bcs bs))
    (hf : ∀ i b W, bs[i]? = some b → St i W → Calls Try.prog fn (#[bval b] ++ cap) W fun e W' => e = .returned (.bool (p i)) ∧ St (i + 1) W')
    (h0 : St 0 w) :
    Calls Try.prog 56 #[.slice A bs.length c, .func (.func fn) #[] cap] w fun e w' => ∃ j r, St j w' ∧ j ≤ bs.length ∧ e = .returned (.bool r) ∧
      ((r = true ∧ ∃ i, i < bs.length ∧ p i = true ∧ ∀ m, m < i → p m = false) ∨ (r = false ∧ ∀ m, m < bs.length → p m = false)) := by
  go_enter Try.func56, Try.ntmps56
  go_wp2_with (go_at_call 62; refine (index_any A c bs fn cap hcall St p _ hlen hS hf h0).mono ?_; rintro e w1 ⟨j, k, hst, hj, rfl, hk⟩)
  go_ret
  refine ⟨j, decide (0 ≤ k), hst, hj, rfl, ?_⟩
  rcases hk with ⟨i, rfl, h1, h2, h3, h4⟩ | ⟨rfl, h1, h2⟩
  · exact .inl ⟨by simp, i, h1, h3, h4⟩
  · exact .inr ⟨by simp, h2⟩

/-- does the block i fit behind the one before it -/
def badAt (bs : List B3) (i : Nat) : Bool := badB (if i = 0 then ⟨0, 0, -1⟩ else bs.getD (i - 1) ⟨0, 0, -1⟩) (bs.getD i ⟨0, 0, -1⟩)
def validB (bs : List B3) : Bool := decide (bs.length ≤ 40) && (List.range bs.length).all fun i => !badAt bs i

def lastOf (bs : List B3) (i : Nat) : B3 := if i = 0 then ⟨0, 0, -1⟩ else bs.getD (i - 1) ⟨0, 0, -1⟩
theorem valid_any (A : Option Addr) (c : Nat) (bs : List B3) (w : World) (hlen : bs.length ≤ maxLen) (hS : Span w w.heap.size 3 A bs.length (bcs bs)) :
    Calls Try.prog 23 #[.slice A bs.length c] w fun e w' => e = .returned (.bool (validB bs)) ∧ Below w.heap.size w w' := by
  have HS := Lib.hid hS
  clear hS
  go_enter Try.func23, Try.ntmps23
  by_cases h40 : bs.length ≤ 40
  · go_upto_region 3 with fail
    have HN : Hid (∀ W', W' = w.alloc (Obj.cells #[.int .i64 0, .int .i64 0, .int .i64 (-1)] 53) → Calls Try.prog 56 #[.slice A bs.length c, .func (.func 55) #[] #[.pointer (some ⟨w.heap.size, 0, none⟩)]] W' fun e w' => e = .returned (.bool (!validB bs)) ∧ Below w.heap.size w w') := Lib.hid fun W' hW' => by
      refine (contains_any A c bs 55 #[.pointer (some ⟨w.heap.size, 0, none⟩)] (fun _ _ => rfl) (fun i W => W.heap[w.heap.size]? = some (.cells #[.int .i64 (lastOf bs i).f, .int .i64 (lastOf bs i).t, .int .i64 (lastOf bs i).c] 53) ∧ Below w.heap.size w W) (badAt bs) W' hlen ?_ ?_ ?_).mono ?_
      · rintro i W ⟨_, hb⟩
        exact (HS.out.below hb (Nat.le_refl _)).mono hb.size
      · rintro i b W hib ⟨hg, hb⟩
        have e1 : bs.getD i ⟨0, 0, -1⟩ = b := by simp [List.getD_eq_getElem?_getD, hib]
        have e2 : lastOf bs (i + 1) = b := by simpa [lastOf] using e1
        refine (isBad_any w.heap.size (lastOf bs i) b W hg).mono ?_
        rintro e W2 ⟨rfl, hg2, hx⟩
        refine ⟨by rw [badAt, e1]; rfl, by rw [e2]; exact hg2, hb.trans (hx.below (fun k hk => by rcases hk with rfl | hk; exact Nat.le_refl _; exact Nat.le_trans hb.size hk) hb.size)⟩
      · subst hW'
        exact ⟨World.alloc_heap_new w _, (Below.refl _ _).alloc (Nat.le_refl _) _⟩
      · rintro e W2 ⟨j, r, ⟨_, hb⟩, hj, rfl, hr⟩
        refine ⟨?_, hb⟩
        rcases hr with ⟨rfl, i, hi, hp, _⟩ | ⟨rfl, hn⟩
        · have : validB bs = false := by
            simp only [validB, Bool.and_eq_false_iff, List.all_eq_false]
            exact .inr ⟨i, by simpa using hi, by simp [hp]⟩
          rw [this]; rfl
        · have : validB bs = true := by
            simp only [validB, Bool.and_eq_true, List.all_eq_true, decide_eq_true_eq]
            exact ⟨h40, fun i hi => by simp [hn i (by simpa using hi)]⟩
          rw [this]; rfl
    go_wp2_with (go_at_call 56; refine (HN.out _ rfl).mono ?_; rintro e w1 ⟨rfl, hb⟩)
    go_ret
    exact ⟨by simp, hb⟩
  · have hv : validB bs = false := by simp [validB, h40]
    go_wp2_with fail
    go_ret
    exact ⟨rfl, (Below.refl _ _).alloc (Nat.le_refl _) _⟩

theorem badB_false {last b : B3} : badB last b = false ↔ (0 ≤ b.f ∧ b.f < b.t ∧ b.t ≤ 100000000 ∧ 0 ≤ b.c ∧ b.c ≤ 7 ∧ last.t ≤ b.f ∧ (b.f = last.t → b.c ≠ last.c)) := by
  simp [badB, rngB, carB, and_assoc]
theorem good_asc (bs : List B3) (last : B3) : (∀ i, i < bs.length → badB (if i = 0 then last else bs.getD (i - 1) ⟨0, 0, -1⟩) (bs.getD i ⟨0, 0, -1⟩) = false) ↔ Asc last.t last.c bs := by
  induction bs generalizing last with
  | nil => simp [Asc]
  | cons b l ih =>
    constructor
    · intro h
      have h0 := badB_false.1 (by simpa using h 0 (by simp))
      refine ⟨h0.1, h0.2.1, h0.2.2.1, h0.2.2.2.1, h0.2.2.2.2.1, h0.2.2.2.2.2.1, h0.2.2.2.2.2.2, (ih b).1 fun i hi => ?_⟩
      have := h (i + 1) (by simp; omega)
      cases i with
      | zero => simpa using this
      | succ i => simpa using this
    · rintro ⟨h1, h2, h3, h4, h5, h6, h7, h8⟩ i hi
      cases i with
      | zero => simpa using badB_false.2 ⟨h1, h2, h3, h4, h5, h6, h7⟩
      | succ i =>
        have := (ih b).2 h8 i (by simp at hi; omega)
        cases i with
        | zero => simpa using this
        | succ i => simpa using this
theorem validB_iff {bs : List B3} : validB bs = true ↔ bs.length ≤ 40 ∧ Canon bs := by
  simp only [validB, Bool.and_eq_true, decide_eq_true_eq, List.all_eq_true, Canon]
  refine and_congr_right fun _ => ?_
  rw [← good_asc bs ⟨0, 0, -1⟩]
  constructor
  · intro h i hi; have := h i (by simpa using hi); simpa [badAt] using this
  · intro h i hi; have := h i (by simpa using hi); simp only [badAt, this]; rfl
end Go.Proofs.Ytmgippddljmfjaa
