/-
  block.Find.
-/
import Derived.Test.YtmgippddljmfjaaWalk2
namespace Go.Proofs.Ytmgippddljmfjaa
open Go Go.RowKit Go.Dial Go.Dial.Blk

def inB (b : B3) (n : Int) : Bool := decide (b.f ≤ n) && decide (n < b.t)
theorem isIn_any (p : Nat) (b : B3) (n : Int) (w : World) (h0 : w.heap[p]? = some (.cells #[.int .i64 n] 3)) :
    Calls Try.prog 63 #[bval b, .pointer (some ⟨p, 0, none⟩)] w fun e w' => e = .returned (.bool (inB b n)) ∧ Below w.heap.size w w' := by
  unfold bval
  have hc0 : w.cell? ⟨p, 0, none⟩ = some (.int .i64 n) := by simp [World.cell?, h0]
  have hlt : p < w.heap.size := (Array.getElem?_eq_some_iff.1 h0).1
  clear h0
  go_enter Try.func63, Try.ntmps63
  go_wp2_with fail
  all_goals go_ret
  all_goals (refine ⟨?_, (Below.refl _ _).alloc (Nat.le_refl _) _⟩; simp [inB]; try omega)

theorem hold_first {bs : List B3} {n : Int} {i : Nat} (hi : i < bs.length) (h1 : inB bs[i] n = true) (h2 : ∀ m, m < i → inB (bs.getD m ⟨0, 0, -1⟩) n = false) : hold bs n = bs[i].c := by
  induction bs generalizing i with
  | nil => simp at hi
  | cons b l ih =>
    cases i with
    | zero => rw [hold_in l (by simpa [inB] using h1)]; rfl
    | succ i =>
      have h0 := h2 0 (by omega)
      rw [hold_out l (by simpa [inB] using h0)]
      exact ih (by simpa using hi) h1 (fun m hm => by have := h2 (m + 1) (by omega); simpa using this)
theorem hold_none {bs : List B3} {n : Int} (h : ∀ m, m < bs.length → inB (bs.getD m ⟨0, 0, -1⟩) n = false) : hold bs n = -1 := by
  induction bs with
  | nil => rfl
  | cons b l ih =>
    have h0 := h 0 (by simp)
    rw [hold_out l (by simpa [inB] using h0)]
    exact ih (fun m hm => by have := h (m + 1) (by simp; omega); simpa using this)
theorem canon_car {bs : List B3} {e k : Int} (h : Asc e k bs) {i : Nat} (hi : i < bs.length) : 0 ≤ bs[i].c ∧ bs[i].c ≤ 7 := by
  induction bs generalizing e k i with
  | nil => simp at hi
  | cons b l ih =>
    obtain ⟨h1, h2, h3, h4, h5, h6, h7, h8⟩ := h
    cases i with
    | zero => exact ⟨h4, h5⟩
    | succ i => exact ih h8 (by simpa using hi)
def findV (bs : List B3) (n : Int) : Int × Bool := if validB bs = true ∧ 0 ≤ hold bs n then (hold bs n, true) else (0, false)

theorem find_any (A : Option Addr) (c : Nat) (bs : List B3) (n : Int) (w : World) (hlen : bs.length ≤ maxLen) (hS : Span w w.heap.size 3 A bs.length (bcs bs)) :
    Calls Try.prog 38 #[.slice A bs.length c, .int .i64 n] w fun e w' => e = .returned (.tuple #[.int .i64 (findV bs n).1, .bool (findV bs n).2]) ∧ Below w.heap.size w w' := by
  have HS := Lib.hid hS
  clear hS
  have HN : Hid (∀ W', W' = w.alloc (Obj.cells #[.int .i64 n] 3) → Calls Try.prog 62 #[.slice A bs.length c, .func (.func 63) #[] #[.pointer (some ⟨w.heap.size, 0, none⟩)]] W' fun e w' => ∃ k, e = .returned (.int .i64 k) ∧ Below w.heap.size w w' ∧
      ((∃ i : Nat, k = i ∧ i < bs.length ∧ ∃ hi : i < bs.length, hold bs n = bs[i].c) ∨ (k = -1 ∧ hold bs n = -1))) := Lib.hid fun W' hW' => by
    refine (index_any A c bs 63 #[.pointer (some ⟨w.heap.size, 0, none⟩)] (fun _ _ => rfl) (fun i W => W.heap[w.heap.size]? = some (.cells #[.int .i64 n] 3) ∧ Below w.heap.size w W) (fun i => inB (bs.getD i ⟨0, 0, -1⟩) n) W' hlen ?_ ?_ ?_).mono ?_
    · rintro i W ⟨_, hb⟩
      exact (HS.out.below hb (Nat.le_refl _)).mono hb.size
    · rintro i b W hib ⟨hg, hb⟩
      have e1 : bs.getD i ⟨0, 0, -1⟩ = b := by simp [List.getD_eq_getElem?_getD, hib]
      refine (isIn_any w.heap.size b n W hg).mono ?_
      rintro e W2 ⟨rfl, hx⟩
      exact ⟨by rw [e1], (hx.block _ (Array.getElem?_eq_some_iff.1 hg).1).trans hg, hb.trans (hx.mono hb.size)⟩
    · subst hW'
      exact ⟨World.alloc_heap_new w _, (Below.refl _ _).alloc (Nat.le_refl _) _⟩
    · rintro e W2 ⟨j, k, ⟨_, hb⟩, hj, rfl, hr⟩
      refine ⟨k, rfl, hb, ?_⟩
      rcases hr with ⟨i, rfl, hi, _, hp, hm⟩ | ⟨rfl, _, hm⟩
      · refine .inl ⟨i, rfl, hi, hi, hold_first hi ?_ hm⟩
        have e1 : bs.getD i ⟨0, 0, -1⟩ = bs[i] := by simp [List.getD_eq_getElem?_getD, hi]
        rw [← e1]; exact hp
      · exact .inr ⟨rfl, hold_none hm⟩
  go_enter Try.func38, Try.ntmps38
  go_upto_region 2 with (go_at_call 62; refine (HN.out _ rfl).mono ?_; rintro e w1 ⟨k, rfl, hb, hk⟩)
  rcases hk with ⟨i, rfl, hi, hi2, hh⟩ | ⟨rfl, hh⟩
  · obtain ⟨a, rfl, hab, c0, c1, c2⟩ := span_blk HS.out (List.getElem?_eq_getElem hi)
    by_cases hv : validB bs = true
    · have hc := (canon_car (validB_iff.1 hv).2 hi).1
      have HV : Hid (findV bs n = (bs[i].c, true)) := Lib.hid (by rw [findV, if_pos ⟨hv, by rw [hh]; exact hc⟩, hh])
      have HC : Hid (∀ W', Below w1.heap.size w1 W' → W'.cell? ⟨(a.add (i * 3)).block, (a.add (i * 3)).off + 2, none⟩ = some (.int .i64 bs[i].c)) := Lib.hid fun W' hb' => (hb'.cell (p := ⟨(a.add (i * 3)).block, (a.add (i * 3)).off + 2, none⟩) (by show (a.add (i * 3)).block < _; rw [add_block]; exact Nat.lt_of_lt_of_le hab hb.size)).trans ((hb.cell (p := ⟨(a.add (i * 3)).block, (a.add (i * 3)).off + 2, none⟩) (by show (a.add (i * 3)).block < _; rw [add_block]; exact hab)).trans c2)
      clear c0 c1 c2 hh
      go_wp2_with (go_at_call 23; refine (valid_any _ c bs _ hlen ((HS.out.below hb (Nat.le_refl _)).mono hb.size)).mono ?_; rintro e w2 ⟨rfl, hb2⟩; rw [hv]; have hcc := HC.out _ hb2)
      go_ret2
      exact ⟨by rw [HV.out]; rfl, hb.trans (hb2.mono hb.size)⟩
    · have hv' : validB bs = false := by simpa using hv
      have HV : Hid (findV bs n = (0, false)) := Lib.hid (by rw [findV, if_neg (fun h => hv h.1)])
      clear c0 c1 c2 hh hv
      go_wp2_with (go_at_call 23; refine (valid_any _ c bs _ hlen ((HS.out.below hb (Nat.le_refl _)).mono hb.size)).mono ?_; rintro e w2 ⟨rfl, hb2⟩; rw [hv'])
      go_ret2
      exact ⟨by rw [HV.out]; rfl, hb.trans (hb2.mono hb.size)⟩
  · have HV : Hid (findV bs n = (0, false)) := Lib.hid (by rw [findV, if_neg (fun h => by rw [hh] at h; exact absurd h.2 (by decide))])
    clear hh
    go_wp2_with fail
    go_ret2
    exact ⟨by rw [HV.out]; rfl, hb⟩
end Go.Proofs.Ytmgippddljmfjaa
