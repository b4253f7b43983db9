/-
  The contracts of block's small functions: isRange, isCarrier, and what Valid's closure answers.
-/
import Derived.Test.YtmgippddljmfjaaProg
import Derived.Test.YtmgippddljmfjaaBase
import Derived.Test.YtmgippddljmfjaaBlkM
import Derived.Deep.DeepCutAuto
import Derived.Deep.RegionWith
import Derived.Deep.RegionHeld3
namespace Go.Proofs.Ytmgippddljmfjaa
open Go Go.RowKit Go.Dial Go.Dial.Blk

def rngB (f t : Int) : Bool := decide (0 ≤ f) && decide (f < t) && decide (t ≤ 100000000)
def carB (c : Int) : Bool := decide (0 ≤ c) && decide (c ≤ 7)

theorem isRange_any (f t : Int) (w : World) : Calls Try.prog 47 #[.agg #[.int .i64 f, .int .i64 t]] w fun e w' => e = .returned (.bool (rngB f t)) ∧ Below w.heap.size w w' := by
  go_enter Try.func47, Try.ntmps47
  go_wp2_with fail
  all_goals go_ret
  all_goals (refine ⟨?_, (Below.refl _ _).alloc (Nat.le_refl _) _⟩; simp [rngB]; try omega)
theorem isCarrier_any (c : Int) (w : World) : Calls Try.prog 48 #[.int .i64 c] w fun e w' => e = .returned (.bool (carB c)) ∧ Below w.heap.size w w' := by
  go_enter Try.func48, Try.ntmps48
  go_wp2_with fail
  all_goals go_ret
  all_goals (refine ⟨?_, Below.refl _ _⟩; simp [carB]; try omega)
theorem rRange_any (f t : Int) (w : World) : Calls Try.prog 58 #[.agg #[.int .i64 f, .int .i64 t]] w fun e w' => e = .returned (.bool (rngB f t)) ∧ Below w.heap.size w w' := by
  go_enter Try.func58, Try.ntmps58
  go_wp2_with fail
  all_goals go_ret
  all_goals (refine ⟨?_, (Below.refl _ _).alloc (Nat.le_refl _) _⟩; simp [rngB]; try omega)
theorem rcarrier_any (c : Int) (w : World) : Calls Try.prog 59 #[.int .i64 c] w fun e w' => e = .returned (.bool (carB c)) ∧ Below w.heap.size w w' := by
  go_enter Try.func59, Try.ntmps59
  go_wp2_with fail
  all_goals go_ret
  all_goals (refine ⟨?_, Below.refl _ _⟩; simp [carB]; try omega)

def bval (b : B3) : Value := .agg #[.int .i64 b.f, .int .i64 b.t, .int .i64 b.c]
/-- a block that does not fit behind another one -/
def badB (last b : B3) : Bool := !(rngB b.f b.t && carB b.c && !decide (b.f < last.t) && !decide (b.f = last.t ∧ b.c = last.c))

theorem blk_cell {w : World} {p : Nat} {cs : List Value} {t : TypeId} {i : Nat} {v : Value} (h : w.heap[p]? = some (.cells cs.toArray t)) (hi : cs[i]? = some v) : w.cell? ⟨p, i, none⟩ = some v := by
  simp [World.cell?, h, hi]
theorem blk_frozen {w : World} {p : Nat} {cs : Array Value} {t : TypeId} (h : w.heap[p]? = some (.cells cs t)) (i : Nat) : w.frozen? ⟨p, i, none⟩ = false := by
  simp [World.frozen?, h]
/-- three cells of an older block written -/
theorem set3 {w : World} {p : Nat} {t : TypeId} {x y z : Value} (u v q : Value) (h : w.heap[p]? = some (.cells #[x, y, z] t)) :
    (((w.setCell ⟨p, 0, none⟩ u).setCell ⟨p, 1, none⟩ v).setCell ⟨p, 2, none⟩ q).heap[p]? = some (.cells #[u, v, q] t) := by
  simp [World.setCell, Array.getElem?_modify, h]
theorem new_heap (w : World) (o : Obj) : (w.alloc o).heap[w.heap.size]? = some o := World.alloc_heap_new w o
theorem alloc_old {w : World} {p : Nat} {x : Obj} (o : Obj) (h : w.heap[p]? = some x) : (w.alloc o).heap[p]? = some x :=
  (Below.heap_alloc _ _ _ (Array.getElem?_eq_some_iff.1 h).1).trans h
theorem badB_range {last b : B3} (h : rngB b.f b.t = false) : badB last b = true := by simp [badB, h]
theorem badB_car {last b : B3} (h : carB b.c = false) : badB last b = true := by simp [badB, h]
theorem badB_lt {last b : B3} (h : b.f < last.t) : badB last b = true := by simp [badB, h]
theorem badB_eq {last b : B3} (h1 : rngB b.f b.t = true) (h2 : carB b.c = true) (h3 : ¬ b.f < last.t) : badB last b = decide (b.f = last.t ∧ b.c = last.c) := by
  simp only [badB, h1, h2]; simp [h3]
theorem isBad_any (p : Nat) (last b : B3) (w : World) (h0 : w.heap[p]? = some (.cells #[.int .i64 last.f, .int .i64 last.t, .int .i64 last.c] 53)) :
    Calls Try.prog 55 #[bval b, .pointer (some ⟨p, 0, none⟩)] w fun e w' => e = .returned (.bool (badB last b)) ∧ w'.heap[p]? = some (.cells #[.int .i64 b.f, .int .i64 b.t, .int .i64 b.c] 53) ∧ Ext (fun k => k = p ∨ w.heap.size ≤ k) w w' := by
  unfold bval
  have hc0 : w.cell? ⟨p, 0, none⟩ = some (.int .i64 last.f) := by simp [World.cell?, h0]
  have hc1 : w.cell? ⟨p, 1, none⟩ = some (.int .i64 last.t) := by simp [World.cell?, h0]
  have hc2 : w.cell? ⟨p, 2, none⟩ = some (.int .i64 last.c) := by simp [World.cell?, h0]
  have hlt : p < w.heap.size := (Array.getElem?_eq_some_iff.1 h0).1
  have hne : p ≠ w.heap.size := by omega
  have hfz0 := blk_frozen h0 0
  have hfz1 := blk_frozen h0 1
  have hfz2 := blk_frozen h0 2
  have H0 := Lib.hid h0
  clear h0
  go_enter Try.func55, Try.ntmps55
  go_upto_region 3 with fail
  obtain ⟨W, hW⟩ : ∃ W, W = (((((w.setCell ⟨p, 0, none⟩ (.int .i64 b.f)).setCell ⟨p, 1, none⟩ (.int .i64 b.t)).setCell ⟨p, 2, none⟩ (.int .i64 b.c)).alloc (.cells #[.int .i64 b.f, .int .i64 b.t, .int .i64 b.c] 53)).alloc (.cells #[.int .i64 last.f, .int .i64 last.t, .int .i64 last.c] 53)) := ⟨_, rfl⟩
  rw [← hW]
  have hsz : W.heap.size = w.heap.size + 2 := by rw [hW]; simp [World.setCell]
  have k0 : W.heap[p]? = some (.cells #[.int .i64 b.f, .int .i64 b.t, .int .i64 b.c] 53) := by rw [hW]; exact alloc_old _ (alloc_old _ (set3 _ _ _ H0.out))
  have k1 : W.heap[w.heap.size]? = some (.cells #[.int .i64 b.f, .int .i64 b.t, .int .i64 b.c] 53) := by
    rw [hW]; refine alloc_old _ ?_; have := new_heap (((w.setCell ⟨p, 0, none⟩ (.int .i64 b.f)).setCell ⟨p, 1, none⟩ (.int .i64 b.t)).setCell ⟨p, 2, none⟩ (.int .i64 b.c)) (.cells #[.int .i64 b.f, .int .i64 b.t, .int .i64 b.c] 53); simpa [World.setCell] using this
  have k2 : W.heap[w.heap.size + 1]? = some (.cells #[.int .i64 last.f, .int .i64 last.t, .int .i64 last.c] 53) := by
    rw [hW]; have := new_heap ((((w.setCell ⟨p, 0, none⟩ (.int .i64 b.f)).setCell ⟨p, 1, none⟩ (.int .i64 b.t)).setCell ⟨p, 2, none⟩ (.int .i64 b.c)).alloc (.cells #[.int .i64 b.f, .int .i64 b.t, .int .i64 b.c] 53)) (.cells #[.int .i64 last.f, .int .i64 last.t, .int .i64 last.c] 53); simpa [World.setCell] using this
  have kE : Ext (fun k => k = p ∨ w.heap.size ≤ k) w W := by
    rw [hW]
    exact ((((Ext.setCell _ w ⟨p, 0, none⟩ _ (.inl rfl)).trans (Ext.setCell _ _ ⟨p, 1, none⟩ _ (.inl rfl))).trans (Ext.setCell _ _ ⟨p, 2, none⟩ _ (.inl rfl))).trans (Ext.alloc _ _ _)).trans (Ext.alloc _ _ _)
  clear hW hc0 hc1 hc2 hfz0 hfz1 hfz2
  have HA : Hid (∀ W', Below W.heap.size W W' → W'.cell? ⟨w.heap.size, 0, none⟩ = some (.int .i64 b.f) ∧ W'.cell? ⟨w.heap.size, 1, none⟩ = some (.int .i64 b.t) ∧ W'.cell? ⟨w.heap.size, 2, none⟩ = some (.int .i64 b.c) ∧ W'.cell? ⟨w.heap.size + 1, 1, none⟩ = some (.int .i64 last.t) ∧ W'.cell? ⟨w.heap.size + 1, 2, none⟩ = some (.int .i64 last.c)) := Lib.hid fun W' hb => by
    have j1 := (hb.block w.heap.size (by omega)).trans k1
    have j2 := (hb.block (w.heap.size + 1) (by omega)).trans k2
    refine ⟨?_, ?_, ?_, ?_, ?_⟩ <;> simp [World.cell?, j1, j2]
  have HR : Hid (∀ W', Below W.heap.size W W' → W'.heap[p]? = some (.cells #[.int .i64 b.f, .int .i64 b.t, .int .i64 b.c] 53) ∧ Ext (fun k => k = p ∨ w.heap.size ≤ k) w W') := Lib.hid fun W' hb =>
    ⟨(hb.block p (by omega)).trans k0, kE.trans (Ext.of_below hb (fun k h1 h2 => .inr (by omega)))⟩
  clear k0 k1 k2 kE
  obtain ⟨a0, a1, a2, -, -⟩ := HA.out W (Below.refl _ _)
  by_cases hr : rngB b.f b.t = false
  · go_wp2_with (go_at_call 47; refine (isRange_any _ _ _).mono ?_; rintro e W2 ⟨rfl, hb⟩; rw [hr])
    go_ret
    exact ⟨by rw [badB_range hr]; rfl, HR.out _ hb⟩
  · have hr' : rngB b.f b.t = true := by simpa using hr
    clear hr
    by_cases hc : carB b.c = false
    · go_wp2_with (first | (go_at_call 47; refine (isRange_any _ _ _).mono ?_; rintro e W2 ⟨rfl, hb⟩; rw [hr']; clear a0 a1 a2; obtain ⟨a0, a1, a2, -, -⟩ := HA.out _ hb) | (go_at_call 48; refine (isCarrier_any _ _).mono ?_; rintro e W3 ⟨rfl, hb3⟩; rw [hc]))
      go_ret
      exact ⟨by rw [badB_car hc]; rfl, HR.out _ (hb.trans (hb3.mono hb.size))⟩
    · have hc' : carB b.c = true := by simpa using hc
      clear hc
      by_cases hl : b.f < last.t
      · go_wp2_with (first | (go_at_call 47; refine (isRange_any _ _ _).mono ?_; rintro e W2 ⟨rfl, hb⟩; rw [hr']; clear a0 a1 a2; obtain ⟨a0, a1, a2, -, -⟩ := HA.out _ hb) | (go_at_call 48; refine (isCarrier_any _ _).mono ?_; rintro e W3 ⟨rfl, hb3⟩; rw [hc']; clear a0 a1 a2; obtain ⟨a0, a1, a2, a3, a4⟩ := HA.out _ (hb.trans (hb3.mono hb.size))))
        go_ret
        exact ⟨by rw [badB_lt hl]; rfl, HR.out _ (hb.trans (hb3.mono hb.size))⟩
      · go_wp2_with (first | (go_at_call 47; refine (isRange_any _ _ _).mono ?_; rintro e W2 ⟨rfl, hb⟩; rw [hr']; clear a0 a1 a2; obtain ⟨a0, a1, a2, -, -⟩ := HA.out _ hb) | (go_at_call 48; refine (isCarrier_any _ _).mono ?_; rintro e W3 ⟨rfl, hb3⟩; rw [hc']; clear a0 a1 a2; obtain ⟨a0, a1, a2, a3, a4⟩ := HA.out _ (hb.trans (hb3.mono hb.size))))
        all_goals go_ret
        all_goals refine ⟨?_, HR.out _ (hb.trans (hb3.mono hb.size))⟩
        all_goals rw [badB_eq hr' hc' (by omega)]
        · simp [*]
        · simp [*]
        · simp [*]
end Go.Proofs.Ytmgippddljmfjaa
