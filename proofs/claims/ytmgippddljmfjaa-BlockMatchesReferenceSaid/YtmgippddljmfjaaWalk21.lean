/-
  The chapter's examples: plain facts.
-/
import Derived.Test.YtmgippddljmfjaaWalk20
namespace Go.Proofs.Ytmgippddljmfjaa
open Go Go.RowKit Go.Dial Go.Dial.Blk

def exM : List B3 := [⟨100, 200, 1⟩, ⟨200, 300, 2⟩]
def exG : List B3 := [⟨100, 150, 1⟩, ⟨150, 250, 3⟩, ⟨250, 300, 2⟩]
def exH : List B3 := [⟨100, 300, 1⟩]
def exT : List B3 := [⟨101, 200, 1⟩, ⟨200, 300, 2⟩]
def exO : List B3 := [⟨100, 101, 1⟩]
def exV : List B3 := [⟨100, 200, 1⟩, ⟨200, 400, 2⟩]
def exD : List B3 := [⟨150, 250, 0⟩]
def exB : List B3 := [⟨250, 400, 2⟩]
theorem exM_mk : Mk 2 exM := ⟨by simp [exM, Canon, Asc], [100, 200, 200, 300], by simp, by intro b hb; simp [exM] at hb; rcases hb with rfl | rfl <;> simp⟩
theorem exG_mk : Mk 3 exG := ⟨by simp [exG, Canon, Asc], [100, 150, 150, 250, 250, 300], by simp, by intro b hb; simp [exG] at hb; rcases hb with rfl | rfl | rfl <;> simp⟩
theorem exB_mk : Mk 1 exB := Mk.one (by decide) (by decide)
theorem ex_give1 : giveV exM 150 250 3 = (exG, 0) := by
  obtain ⟨l', e, h1, h2⟩ := give_mk exM_mk (by omega) (show rngB 150 250 = true by decide) (show carB 3 = true by decide)
  rw [e, same_hold h1.1 exG_mk.1 fun n => by rw [h2]; simp only [exM, exG, hold]; repeat' split <;> omega]
theorem ex_give2 : giveV exM 200 300 1 = (exH, 0) := by
  obtain ⟨l', e, h1, h2⟩ := give_mk exM_mk (by omega) (show rngB 200 300 = true by decide) (show carB 1 = true by decide)
  rw [e, same_hold h1.1 (b := exH) (by simp [exH, Canon, Asc]) fun n => by rw [h2]; simp only [exM, exH, hold]; repeat' split <;> omega]
theorem ex_give3 : giveV exM 5 5 1 = ([], 130) := if_neg (fun h => by have := h.2.1; revert this; decide)
theorem ex_take : takeV exM 0 101 = (exT, 0) := by
  obtain ⟨l', e, h1, h2⟩ := take_mk exM_mk (by omega) (show rngB 0 101 = true by decide)
  rw [e, same_hold h1.1 (b := exT) (by simp [exT, Canon, Asc]) fun n => by rw [h2]; simp only [exM, exT, hold]; repeat' split <;> omega]
theorem ex_only : onlyV exM 0 101 = (exO, 0) := by
  obtain ⟨l', e, h1, h2⟩ := only_mk exM_mk (by omega) (show rngB 0 101 = true by decide)
  rw [e, same_hold h1.1 (b := exO) (by simp [exO, Canon, Asc]) fun n => by rw [h2]; simp only [exM, exO, hold]; repeat' split <;> omega]
theorem ex_over : overlayV exM exB = (exV, 0) := by
  obtain ⟨l', e, h1, h2⟩ := overlay_mk exM_mk exB_mk (by omega)
  rw [e, same_hold h1.1 (b := exV) (by simp [exV, Canon, Asc]) fun n => by rw [h2]; simp only [exM, exB, exV, hold]; repeat' split <;> omega]
theorem ex_swap : swapV exM 2 1 = (exH, 0) := by
  obtain ⟨l', e, h1, h2⟩ := swap_mk exM_mk (by omega) (show carB 2 = true by decide) (show carB 1 = true by decide)
  rw [e, same_hold h1.1 (b := exH) (by simp [exH, Canon, Asc]) fun n => by rw [h2]; simp only [exM, exH, hold]; repeat' split <;> omega]
theorem ex_diff : diffV exM exG = (exD, 0) := by
  obtain ⟨l', e, h1, h2, _⟩ := diff_mk exM_mk exG_mk (by omega) (by omega)
  rw [e, same_hold h1.1 (b := exD) (by simp [exD, Canon, Asc]) fun n => by rw [h2]; simp only [exM, exG, exD, hold]; repeat' split <;> omega]
theorem exM_valid : validB exM = true := exM_mk.valid (by omega)
theorem ex_free0 : freeV exM 0 = (0, true) := by rw [freeV_eq exM_valid (by omega) (by omega)]; rfl
theorem ex_free1 : freeV exM 100 = (300, true) := by rw [freeV_eq exM_valid (by omega) (by omega)]; rfl
theorem ex_free2 : freeV exM 99999999 = (99999999, true) := by rw [freeV_eq exM_valid (by omega) (by omega)]; rfl
theorem ex_find (n : Int) : findV exM n = if 0 ≤ hold exM n then (hold exM n, true) else (0, false) := find_mk exM_mk (by omega) n
theorem ex_count : countV exM 1 = 100 := by rw [countV, if_pos exM_valid]; rfl
theorem ex_bad : validB [⟨100, 200, 1⟩, ⟨200, 300, 1⟩] = false := by decide
end Go.Proofs.Ytmgippddljmfjaa
