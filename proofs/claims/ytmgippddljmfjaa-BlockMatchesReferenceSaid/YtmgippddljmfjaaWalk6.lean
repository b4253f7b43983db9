/-
  block.pieces: its inner function 'at'.
-/
import Derived.Test.YtmgippddljmfjaaWalk5
namespace Go.Proofs.Ytmgippddljmfjaa
open Go Go.RowKit Go.Dial Go.Dial.Blk

/-- a slice value that holds blocks -/
def HoldsB (w : World) (B : Nat) (v : Value) (bs : List B3) : Prop := ∃ A c, v = .slice A bs.length c ∧ bs.length ≤ c ∧ c ≤ maxLen ∧ Span w B 3 A bs.length (bcs bs)

theorem span_tail {w : World} {B c' : Nat} {a : Addr} {b : B3} {l : List B3} (h : Span w B 3 (some a) (b :: l).length (bcs (b :: l))) (hc : (b :: l).length ≤ c') :
    Span w B 3 (if c' = 1 then some a else some ⟨a.block, a.off + 3, none⟩) l.length (bcs l) := by
  refine ⟨bcs_len l, fun j u hu => ?_⟩
  have hl : c' ≠ 1 := by
    intro e
    cases l with
    | nil => simp [bcs] at hu
    | cons x l => simp at hc; omega
  rw [if_neg hl]
  have e : (bcs (b :: l))[j + 3]? = some u := by
    rw [show bcs (b :: l) = bcells b ++ bcs l by simp [bcs], List.getElem?_append_right (by simp [bcells])]
    simpa [bcells] using hu
  obtain ⟨a', e1, h1, h2⟩ := h.2 _ _ e
  cases e1
  refine ⟨_, rfl, h1, ?_⟩
  rw [show (⟨a.block, a.off + 3, none⟩ : Addr) = a.add 3 by simp [Addr.add], add_add, Nat.add_comm]
  exact h2
theorem at_any (B : Nat) (A : Option Addr) (c : Nat) (bs : List B3) (n : Int) (w : World) (hc : bs.length ≤ c) (hlen : c ≤ maxLen) (hS : Span w B 3 A bs.length (bcs bs)) :
    Calls Try.prog 66 #[.slice A bs.length c, .int .i64 n] w fun e w' => (∃ v, e = .returned (.tuple #[v, .int .i64 (at_ bs n).2.1, .int .i64 (at_ bs n).2.2]) ∧ HoldsB w B v (at_ bs n).1) ∧ ∃ m, w' = w.drewN m := by
  unfold maxLen at hlen
  have HS := Lib.hid hS
  clear hS
  go_enter Try.func66, Try.ntmps66
  go_wp2_with fail
  go_loopw [0] (fun s wr => ∃ (A' : Option Addr) (c' : Nat) (l : List B3), s = .slice A' l.length c' ∧ l.length ≤ c' ∧ c' ≤ c ∧ wr = w ∧ Span w B 3 A' l.length (bcs l) ∧ at_ l n = at_ bs n) (fun s _ => (match s with | .slice _ k _ => k | _ => 0))
  case atStart => exact ⟨A, c, bs, rfl, hc, Nat.le_refl _, rfl, HS.out, rfl⟩
  case round =>
    obtain ⟨A', c', l, rfl, hl, hc', rfl, hsp, hat⟩ := hrel
    cases l with
    | nil =>
      have HA : Hid (at_ bs n = ([], -1, 100000000)) := Lib.hid (by rw [← hat]; rfl)
      clear hat hsp
      go_wp2_with fail
      go_ret3
      exact ⟨⟨.slice none 0 0, by rw [HA.out]; rfl, by rw [HA.out]; exact ⟨none, 0, rfl, Nat.le_refl _, Nat.zero_le _, Span.nil _ _ _ _⟩⟩, 0, rfl⟩
    | cons b l =>
      obtain ⟨a, rfl, hab, c0, c1, c2⟩ := span_blk hsp (i := 0) (b := b) rfl
      rw [Nat.zero_mul, Addr.add_zero'] at c0 c1 c2
      by_cases hb : b.t ≤ n
      · have HA : Hid (at_ l n = at_ bs n) := Lib.hid (by rw [← hat, at_, if_pos hb])
        have HT := Lib.hid (span_tail hsp hl)
        have hl2 : l.length + 1 ≤ c' := by simpa using hl
        clear hat hsp
        go_wp2_with fail
        exact ⟨⟨_, _, l, rfl, by omega, by omega, trivial, HT.out, HA.out⟩, by simp⟩
      · by_cases hf : n < b.f
        · have HA : Hid (at_ bs n = (b :: l, -1, b.f)) := Lib.hid (by rw [← hat, at_, if_neg hb, if_pos hf])
          have HT := Lib.hid hsp
          clear hat hsp
          go_wp2_with fail
          go_quiet (fail)
          go_wp2_with fail
          go_ret3
          exact ⟨⟨.slice (some a) (b :: l).length c', by rw [HA.out]; rfl, by rw [HA.out]; exact ⟨_, c', rfl, hl, by unfold maxLen; omega, HT.out⟩⟩, _, rfl⟩
        · have HA : Hid (at_ bs n = (b :: l, b.c, b.t)) := Lib.hid (by rw [← hat, at_, if_neg hb, if_neg hf])
          have HT := Lib.hid hsp
          clear hat hsp
          go_wp2_with fail
          go_quiet (fail)
          go_wp2_with fail
          go_ret3
          exact ⟨⟨.slice (some a) (b :: l).length c', by rw [HA.out]; rfl, by rw [HA.out]; exact ⟨_, c', rfl, hl, by unfold maxLen; omega, HT.out⟩⟩, _, rfl⟩
end Go.Proofs.Ytmgippddljmfjaa
