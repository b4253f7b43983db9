/-
  Maps whose ranges end at given numbers: what Take, Only and Overlay return has no other ends.
-/
import Derived.Test.YtmgippddljmfjaaWalk26
namespace Go.Proofs.Ytmgippddljmfjaa
open Go Go.RowKit Go.Dial Go.Dial.Blk

def CK (K : List Int) (l : List B3) : Prop := Canon l ∧ Cut K l
theorem CK.len {K : List Int} {l : List B3} (h : CK K l) (hK : K.length ≤ 41) : l.length ≤ 40 := by
  rcases canon_len h.1 h.2 with h | h
  · omega
  · rw [h]; simp
theorem CK.valid {K : List Int} {l : List B3} (h : CK K l) (hK : K.length ≤ 41) : validB l = true := validB_iff.2 ⟨h.len hK, h.1⟩
theorem CK.one {K : List Int} {f t c : Int} (h : rngB f t = true) (hc : carB c = true) (hf : f ∈ K) (ht : t ∈ K) : CK K [⟨f, t, c⟩] :=
  ⟨(validB_iff.1 (valid_one h hc)).2, fun b hb => by simp at hb; subst hb; exact ⟨hf, ht⟩⟩
theorem fold_ck {g : Int → Int → Int} (hg : GOk g) {K : List Int} {a b : List B3} (ha : CK K a) (hb : CK K b) : CK K (foldS g (pieces a b 0)) := by
  obtain ⟨h1, h2⟩ := fold_hold hg ha.1 hb.1
  exact ⟨h1, cut_of h1 ha.1 hb.1 ha.2 hb.2 h2⟩
theorem comb_ck {g : Int → Int → Int} (hg : GOk g) {K : List Int} {a b : List B3} (ha : CK K a) (hb : CK K b) (hK : K.length ≤ 41) : combR g a b = (foldS g (pieces a b 0), 0) := by
  rw [combR, if_pos ((fold_ck hg ha hb).len hK)]
theorem take_ck {K : List Int} {l : List B3} {f t : Int} (h : CK K l) (hK : K.length ≤ 41) (hr : rngB f t = true) (hf : f ∈ K) (ht : t ∈ K) : ∃ l', takeV l f t = (l', 0) ∧ CK K l' ∧ ∀ n, hold l' n = if f ≤ n ∧ n < t then -1 else hold l n := by
  have ho := CK.one hr (show carB 0 = true by decide) hf ht
  refine ⟨foldS takeG (pieces l [⟨f, t, 0⟩] 0), ?_, fold_ck ok_take h ho, fun n => ?_⟩
  · rw [takeV, if_pos ⟨h.valid hK, hr⟩, comb_ck ok_take h ho hK]
  · rw [(fold_hold ok_take h.1 ho.1).2, hold_one]
    unfold takeG; split <;> split <;> first | rfl | omega
theorem only_ck {K : List Int} {l : List B3} {f t : Int} (h : CK K l) (hK : K.length ≤ 41) (hr : rngB f t = true) (hf : f ∈ K) (ht : t ∈ K) : ∃ l', onlyV l f t = (l', 0) ∧ CK K l' ∧ ∀ n, hold l' n = if f ≤ n ∧ n < t then hold l n else -1 := by
  have ho := CK.one hr (show carB 0 = true by decide) hf ht
  refine ⟨foldS onlyG (pieces l [⟨f, t, 0⟩] 0), ?_, fold_ck ok_only h ho, fun n => ?_⟩
  · rw [onlyV, if_pos ⟨h.valid hK, hr⟩, comb_ck ok_only h ho hK]
  · rw [(fold_hold ok_only h.1 ho.1).2, hold_one]
    unfold onlyG; split <;> split <;> first | rfl | omega
theorem overlay_ck {K : List Int} {a b : List B3} (ha : CK K a) (hb : CK K b) (hK : K.length ≤ 41) : ∃ l', overlayV a b = (l', 0) ∧ CK K l' ∧ ∀ n, hold l' n = if hold b n = -1 then hold a n else hold b n := by
  refine ⟨foldS overG (pieces a b 0), ?_, fold_ck ok_over ha hb, fun n => ?_⟩
  · rw [overlayV, if_pos ⟨ha.valid hK, hb.valid hK⟩, comb_ck ok_over ha hb hK]
  · rw [(fold_hold ok_over ha.1 hb.1).2]; rfl
end Go.Proofs.Ytmgippddljmfjaa
