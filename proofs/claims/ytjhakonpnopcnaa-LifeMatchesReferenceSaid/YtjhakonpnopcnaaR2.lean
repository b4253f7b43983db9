/-
  dialtoneref14.After (written by r2.py).
-/
import Derived.Test.YtjhakonpnopcnaaR1
set_option linter.unusedVariables false
set_option linter.unusedSimpArgs false
namespace Go.Proofs.Ytjhakonpnopcnaa
open Go Go.RowKit Go.Dial Go.Dial.Lif

abbrev T3 := Int × Int × Int
def Tri (x : T3) : Prop := I64 x.1 ∧ I64 x.2.1 ∧ I64 x.2.2
def triA (x : T3) : Value := .agg #[.int .i64 x.1, .int .i64 x.2.1, .int .i64 x.2.2]
def kindV (s c : Int) : Int :=
  if s = 1 then (if pickV c 5 = 0 then 2 else if pickV c 5 = 1 ∨ pickV c 5 = 3 then 3 else 5)
  else if s = 2 then (if pickV c 2 = 0 then 4 else 5) else if s = 3 then (if pickV c 3 = 1 then 6 else 7) else 1
def afterV (l : Ln) (x : T3) : Ev :=
  let k := kindV l.s x.1
  ⟨k, min (l.t + (pickV x.2.1 6 + if k = 7 then 2592000 else 0)) 10000000, if k = 1 then pickV x.2.2 5 else if k = 2 then (if pickV x.2.2 5 = l.h then pickV x.2.2 5 + 1 else pickV x.2.2 5) else -1⟩
theorem new_at {W : World} {n : Nat} (o : Obj) (h : W.heap.size = n) : (W.alloc o).heap[n]? = some o := h ▸ newcell W o
theorem tri_cells {w : World} {p : Nat} {a b c : Value} {t : TypeId} (h : w.heap[p]? = some (.cells #[a, b, c] t)) : w.cell? ⟨p, 0, none⟩ = some a ∧ w.cell? ⟨p, 1, none⟩ = some b ∧ w.cell? ⟨p, 2, none⟩ = some c := by
  refine ⟨?_, ?_, ?_⟩ <;> simp [World.cell?, h]
def AfterPost (l : Ln) (x : T3) (w : World) (e : Ending) (w' : World) : Prop := e = .returned (evA (afterV l x)) ∧ Below w.heap.size w w'
set_option maxHeartbeats 1600000 in
theorem rafter_0_0 (h e t : Int) (x : T3) (w : World) (hT : Tri x) (hv : Vld ⟨0, h, e, t⟩) (hp : pickV x.1 1 = 0) : Calls Try.prog 31 #[lnA ⟨0, h, e, t⟩, triA x] w (AfterPost ⟨0, h, e, t⟩ x w) := by
  obtain ⟨x0, x1, x2⟩ := x
  obtain ⟨T0, T1, T2⟩ := hT
  obtain ⟨v1, v2, v3, v4, v5, v6, v7, v8⟩ := hv
  dsimp only at T0 T1 T2 v5 v6 hp
  have b1 := pickV_bd x1 (show (0 : Int) < 6 by decide)
  obtain ⟨q, hq1⟩ : ∃ q, q = pickV x1 6 := ⟨_, rfl⟩
  rw [← hq1] at b1
  have b2 := pickV_bd x2 (show (0 : Int) < 5 by decide)
  obtain ⟨r, hr⟩ : ∃ r, r = pickV x2 5 := ⟨_, rfl⟩
  rw [← hr] at b2
  have HVAL := Lib.hid (show afterV ⟨0, h, e, t⟩ (x0, x1, x2) = ⟨1, min (t + (q)) 10000000, r⟩ by simp [afterV, kindV, hp, ← hq1, ← hr])
  have HP := Lib.hid hp
  have TN := Lib.hid (show decide (Named 1) = true by decide)
  have HQ := Lib.hid hq1
  have HR := Lib.hid hr
  have s1 : IntKind.i64.wrap (q + 2592000) = q + 2592000 := IntWalk.i64_in _ (by omega)
  have s2 : IntKind.i64.wrap (t + (q)) = t + (q) := IntWalk.i64_in _ (by omega)
  have s3 : IntKind.i64.wrap (r + 1) = r + 1 := IntWalk.i64_in _ (by omega)
  clear v1 v2 v3 v4 v5 v6 v7 v8 b1 b2 hp hq1 hr
  unfold lnA triA
  go_enter Try.func31, Try.ntmps31
  go_upto_region 9 with fail
  go_upto_region 10 with (go_at_call 32; refine (rpick_any x0 1 _ T0 (by decide) (by decide)).mono ?_; rintro e w1 ⟨rfl, rfl⟩; rw [HP.out])
  rotate_left
  generalize hW : (((((w.alloc _).alloc _).alloc _).alloc _).alloc _) = W
  have k0 : W.heap[w.heap.size]? = some (.cells #[.int .i64 0, .int .i64 h, .int .i64 e, .int .i64 t] 26) := by rw [← hW]; exact oldcell _ (oldcell _ (oldcell _ (oldcell _ (new_at _ (by simp)))))
  have k1 : W.heap[w.heap.size + 1]? = some (.cells #[.int .i64 x0, .int .i64 x1, .int .i64 x2] 23) := by rw [← hW]; exact oldcell _ (oldcell _ (oldcell _ (new_at _ (by simp))))
  have k2 : W.heap[w.heap.size + 1 + 1]? = some (.cells #[.int .i64 0, .int .i64 0, .int .i64 0] 54) := by rw [← hW]; exact oldcell _ (oldcell _ (new_at _ (by simp)))
  have k4 : W.heap[w.heap.size + 1 + 1 + 1 + 1]? = some (.cells #[.int .i64 1, .int .i64 0, .int .i64 (-1)] 54) := by rw [← hW]; exact new_at _ (by simp)
  have BW := Lib.hid (show Below w.heap.size w W by rw [← hW]; exact below_then (below_then (below_then (below_then (below_new _ _) (below_new _ _)) (below_new _ _)) (below_new _ _)) (below_new _ _))
  clear hW
  have hlt := heap_lt k4
  obtain ⟨_, c1, _, c3, _⟩ := ln_cells (l := ⟨0, h, e, t⟩) k0
  obtain ⟨y0, y1, y2⟩ := tri_cells k1
  obtain ⟨r0, r1, r2, f0, f1, f2, _⟩ := ev_cells (x := ⟨0, 0, 0⟩) k2
  obtain ⟨d0, d1, d2, g0, g1, g2, _⟩ := ev_cells (x := ⟨1, 0, -1⟩) k4
  dsimp only at c1 c3 r0 r1 r2 d0 d1 d2
  clear k0 k1 k2 k4
  have n0 : w.heap.size ≠ w.heap.size + 1 + 1 + 1 + 1 := by omega
  have n1 : w.heap.size + 1 ≠ w.heap.size + 1 + 1 + 1 + 1 := by omega
  have n2 : w.heap.size + 1 + 1 + 1 + 1 ≠ w.heap.size := by omega
  go_wp2_with (first
    | (go_at_call 32; first
      | (with_reducible refine (rpick_any x1 6 _ T1 (by decide) (by decide)).mono ?_; rintro e w1 ⟨rfl, rfl⟩; rw [← HQ.out])
      | (with_reducible refine (rpick_any x2 5 _ T2 (by decide) (by decide)).mono ?_; rintro e w1 ⟨rfl, rfl⟩; rw [← HR.out]))
    | (go_at_call 43; refine (rnamed_any 1 _).mono ?_; rintro e w1 ⟨rfl, rfl⟩; rw [TN.out]))
  · exact bodyPost_ret (v := evA ⟨1, 10000000, r⟩) (by simp [results, Try.results31, go_sem, evA, *]) rfl
      ⟨by rw [HVAL.out, Int.min_eq_right (by omega)], (by repeat (first | with_reducible exact BW.out | with_reducible refine Below.drew ?_ | with_reducible refine Below.setCell ?_ (by simp <;> omega) _ | with_reducible refine Below.alloc ?_ (by simp <;> omega) _))⟩
  · exact bodyPost_ret (v := evA ⟨1, t + (q), r⟩) (by simp [results, Try.results31, go_sem, evA, *]) rfl
      ⟨by rw [HVAL.out, Int.min_eq_left (by omega)], (by repeat (first | with_reducible exact BW.out | with_reducible refine Below.drew ?_ | with_reducible refine Below.setCell ?_ (by simp <;> omega) _ | with_reducible refine Below.alloc ?_ (by simp <;> omega) _))⟩
set_option maxHeartbeats 1600000 in
theorem rafter_1_0y (h e t : Int) (x : T3) (w : World) (hT : Tri x) (hv : Vld ⟨1, h, e, t⟩) (hp : pickV x.1 5 = 0) (hq : pickV x.2.2 5 = h) : Calls Try.prog 31 #[lnA ⟨1, h, e, t⟩, triA x] w (AfterPost ⟨1, h, e, t⟩ x w) := by
  obtain ⟨x0, x1, x2⟩ := x
  obtain ⟨T0, T1, T2⟩ := hT
  obtain ⟨v1, v2, v3, v4, v5, v6, v7, v8⟩ := hv
  dsimp only at T0 T1 T2 v5 v6 hp hq
  have b1 := pickV_bd x1 (show (0 : Int) < 6 by decide)
  obtain ⟨q, hq1⟩ : ∃ q, q = pickV x1 6 := ⟨_, rfl⟩
  rw [← hq1] at b1
  have b2 := pickV_bd x2 (show (0 : Int) < 5 by decide)
  obtain ⟨r, hr⟩ : ∃ r, r = pickV x2 5 := ⟨_, rfl⟩
  rw [← hr] at b2 hq
  have HVAL := Lib.hid (show afterV ⟨1, h, e, t⟩ (x0, x1, x2) = ⟨2, min (t + (q)) 10000000, r + 1⟩ by simp [afterV, kindV, hp, ← hq1, ← hr, hq])
  have HP := Lib.hid hp
  have TN := Lib.hid (show decide (Named 2) = true by decide)
  have HQ := Lib.hid hq1
  have HR := Lib.hid hr
  have s1 : IntKind.i64.wrap (q + 2592000) = q + 2592000 := IntWalk.i64_in _ (by omega)
  have s2 : IntKind.i64.wrap (t + (q)) = t + (q) := IntWalk.i64_in _ (by omega)
  have s3 : IntKind.i64.wrap (r + 1) = r + 1 := IntWalk.i64_in _ (by omega)
  have te : (r == h) = true := by simpa using hq
  clear v1 v2 v3 v4 v5 v6 v7 v8 b1 b2 hp hq1 hr hq
  unfold lnA triA
  go_enter Try.func31, Try.ntmps31
  go_upto_region 9 with fail
  go_upto_region 10 with (go_at_call 32; refine (rpick_any x0 5 _ T0 (by decide) (by decide)).mono ?_; rintro e w1 ⟨rfl, rfl⟩; rw [HP.out])
  rotate_left
  generalize hW : ((((((w.alloc _).alloc _).alloc _).alloc _).alloc _).alloc _) = W
  have k0 : W.heap[w.heap.size]? = some (.cells #[.int .i64 1, .int .i64 h, .int .i64 e, .int .i64 t] 26) := by rw [← hW]; exact oldcell _ (oldcell _ (oldcell _ (oldcell _ (oldcell _ (new_at _ (by simp))))))
  have k1 : W.heap[w.heap.size + 1]? = some (.cells #[.int .i64 x0, .int .i64 x1, .int .i64 x2] 23) := by rw [← hW]; exact oldcell _ (oldcell _ (oldcell _ (oldcell _ (new_at _ (by simp)))))
  have k2 : W.heap[w.heap.size + 1 + 1]? = some (.cells #[.int .i64 0, .int .i64 0, .int .i64 0] 54) := by rw [← hW]; exact oldcell _ (oldcell _ (oldcell _ (new_at _ (by simp))))
  have k4 : W.heap[w.heap.size + 1 + 1 + 1 + 1 + 1]? = some (.cells #[.int .i64 2, .int .i64 0, .int .i64 (-1)] 54) := by rw [← hW]; exact new_at _ (by simp)
  have BW := Lib.hid (show Below w.heap.size w W by rw [← hW]; exact below_then (below_then (below_then (below_then (below_then (below_new _ _) (below_new _ _)) (below_new _ _)) (below_new _ _)) (below_new _ _)) (below_new _ _))
  clear hW
  have hlt := heap_lt k4
  obtain ⟨_, c1, _, c3, _⟩ := ln_cells (l := ⟨1, h, e, t⟩) k0
  obtain ⟨y0, y1, y2⟩ := tri_cells k1
  obtain ⟨r0, r1, r2, f0, f1, f2, _⟩ := ev_cells (x := ⟨0, 0, 0⟩) k2
  obtain ⟨d0, d1, d2, g0, g1, g2, _⟩ := ev_cells (x := ⟨2, 0, -1⟩) k4
  dsimp only at c1 c3 r0 r1 r2 d0 d1 d2
  clear k1
  have n0 : w.heap.size ≠ w.heap.size + 1 + 1 + 1 + 1 + 1 := by omega
  have n1 : w.heap.size + 1 ≠ w.heap.size + 1 + 1 + 1 + 1 + 1 := by omega
  have n2 : w.heap.size + 1 + 1 + 1 + 1 + 1 ≠ w.heap.size := by omega
  go_upto_region 16 with (first
    | (go_at_call 32; first
      | (with_reducible refine (rpick_any x1 6 _ T1 (by decide) (by decide)).mono ?_; rintro e w1 ⟨rfl, rfl⟩; rw [← HQ.out])
      | (with_reducible refine (rpick_any x2 5 _ T2 (by decide) (by decide)).mono ?_; rintro e w1 ⟨rfl, rfl⟩; rw [← HR.out]))
    | (go_at_call 43; refine (rnamed_any 2 _).mono ?_; rintro e w1 ⟨rfl, rfl⟩; rw [TN.out]))
  · generalize hM : (if (10000000 : Int) < t + q then (10000000 : Int) else t + q) = M
    have hMM := Lib.hid (show min (t + q) 10000000 = M by rw [← hM]; split <;> omega)
    have m3 : w.heap.size + 1 + 1 + 1 ≠ w.heap.size := by omega
    generalize hV : (W.setCell _ _).setCell _ _ = V
    have k0' : V.heap[w.heap.size]? = some (.cells #[.int .i64 1, .int .i64 h, .int .i64 e, .int .i64 t] 26) := by rw [← hV]; simp [World.setCell, Array.getElem?_modify, k0, n2, m3]
    have k2' : V.heap[w.heap.size + 1 + 1]? = some (.cells #[.int .i64 0, .int .i64 0, .int .i64 0] 54) := by rw [← hV]; simp [World.setCell, Array.getElem?_modify, k2, n2, m3]
    have k4' : V.heap[w.heap.size + 1 + 1 + 1 + 1 + 1]? = some (.cells #[.int .i64 2, .int .i64 M, .int .i64 r] 54) := by rw [← hV]; simp [World.setCell, Array.getElem?_modify, k4]
    replace BW := Lib.hid (show Below w.heap.size w V by rw [← hV]; exact ((BW.out.setCell (by simp <;> omega) _).setCell (by simp <;> omega) _))
    clear hM hV k0 k2 k4 c1 c3 y0 y1 y2 r0 r1 r2 f0 f1 f2 d0 d1 d2 g0 g1 g2 hlt
    have hlt := heap_lt k4'
    obtain ⟨_, c1, _, c3, _⟩ := ln_cells (l := ⟨1, h, e, t⟩) k0'
    obtain ⟨r0, r1, r2, f0, f1, f2, _⟩ := ev_cells (x := ⟨0, 0, 0⟩) k2'
    obtain ⟨d0, d1, d2, g0, g1, g2, _⟩ := ev_cells (x := ⟨2, M, r⟩) k4'
    dsimp only at c1 c3 r0 r1 r2 d0 d1 d2
    clear k0' k2' k4'
    go_wp2_with fail
    exact bodyPost_ret (v := evA ⟨2, M, r + 1⟩) (by simp [results, Try.results31, go_sem, evA, *]) rfl
      ⟨by rw [HVAL.out, hMM.out], (by repeat (first | with_reducible exact BW.out | with_reducible refine Below.drew ?_ | with_reducible refine Below.setCell ?_ (by simp <;> omega) _ | with_reducible refine Below.alloc ?_ (by simp <;> omega) _))⟩
set_option maxHeartbeats 1600000 in
theorem rafter_1_0n (h e t : Int) (x : T3) (w : World) (hT : Tri x) (hv : Vld ⟨1, h, e, t⟩) (hp : pickV x.1 5 = 0) (hq : pickV x.2.2 5 ≠ h) : Calls Try.prog 31 #[lnA ⟨1, h, e, t⟩, triA x] w (AfterPost ⟨1, h, e, t⟩ x w) := by
  obtain ⟨x0, x1, x2⟩ := x
  obtain ⟨T0, T1, T2⟩ := hT
  obtain ⟨v1, v2, v3, v4, v5, v6, v7, v8⟩ := hv
  dsimp only at T0 T1 T2 v5 v6 hp hq
  have b1 := pickV_bd x1 (show (0 : Int) < 6 by decide)
  obtain ⟨q, hq1⟩ : ∃ q, q = pickV x1 6 := ⟨_, rfl⟩
  rw [← hq1] at b1
  have b2 := pickV_bd x2 (show (0 : Int) < 5 by decide)
  obtain ⟨r, hr⟩ : ∃ r, r = pickV x2 5 := ⟨_, rfl⟩
  rw [← hr] at b2 hq
  have HVAL := Lib.hid (show afterV ⟨1, h, e, t⟩ (x0, x1, x2) = ⟨2, min (t + (q)) 10000000, r⟩ by simp [afterV, kindV, hp, ← hq1, ← hr, hq])
  have HP := Lib.hid hp
  have TN := Lib.hid (show decide (Named 2) = true by decide)
  have HQ := Lib.hid hq1
  have HR := Lib.hid hr
  have s1 : IntKind.i64.wrap (q + 2592000) = q + 2592000 := IntWalk.i64_in _ (by omega)
  have s2 : IntKind.i64.wrap (t + (q)) = t + (q) := IntWalk.i64_in _ (by omega)
  have s3 : IntKind.i64.wrap (r + 1) = r + 1 := IntWalk.i64_in _ (by omega)
  have te : (r == h) = false := by simpa using hq
  clear v1 v2 v3 v4 v5 v6 v7 v8 b1 b2 hp hq1 hr hq
  unfold lnA triA
  go_enter Try.func31, Try.ntmps31
  go_upto_region 9 with fail
  go_upto_region 10 with (go_at_call 32; refine (rpick_any x0 5 _ T0 (by decide) (by decide)).mono ?_; rintro e w1 ⟨rfl, rfl⟩; rw [HP.out])
  rotate_left
  generalize hW : ((((((w.alloc _).alloc _).alloc _).alloc _).alloc _).alloc _) = W
  have k0 : W.heap[w.heap.size]? = some (.cells #[.int .i64 1, .int .i64 h, .int .i64 e, .int .i64 t] 26) := by rw [← hW]; exact oldcell _ (oldcell _ (oldcell _ (oldcell _ (oldcell _ (new_at _ (by simp))))))
  have k1 : W.heap[w.heap.size + 1]? = some (.cells #[.int .i64 x0, .int .i64 x1, .int .i64 x2] 23) := by rw [← hW]; exact oldcell _ (oldcell _ (oldcell _ (oldcell _ (new_at _ (by simp)))))
  have k2 : W.heap[w.heap.size + 1 + 1]? = some (.cells #[.int .i64 0, .int .i64 0, .int .i64 0] 54) := by rw [← hW]; exact oldcell _ (oldcell _ (oldcell _ (new_at _ (by simp))))
  have k4 : W.heap[w.heap.size + 1 + 1 + 1 + 1 + 1]? = some (.cells #[.int .i64 2, .int .i64 0, .int .i64 (-1)] 54) := by rw [← hW]; exact new_at _ (by simp)
  have BW := Lib.hid (show Below w.heap.size w W by rw [← hW]; exact below_then (below_then (below_then (below_then (below_then (below_new _ _) (below_new _ _)) (below_new _ _)) (below_new _ _)) (below_new _ _)) (below_new _ _))
  clear hW
  have hlt := heap_lt k4
  obtain ⟨_, c1, _, c3, _⟩ := ln_cells (l := ⟨1, h, e, t⟩) k0
  obtain ⟨y0, y1, y2⟩ := tri_cells k1
  obtain ⟨r0, r1, r2, f0, f1, f2, _⟩ := ev_cells (x := ⟨0, 0, 0⟩) k2
  obtain ⟨d0, d1, d2, g0, g1, g2, _⟩ := ev_cells (x := ⟨2, 0, -1⟩) k4
  dsimp only at c1 c3 r0 r1 r2 d0 d1 d2
  clear k1
  have n0 : w.heap.size ≠ w.heap.size + 1 + 1 + 1 + 1 + 1 := by omega
  have n1 : w.heap.size + 1 ≠ w.heap.size + 1 + 1 + 1 + 1 + 1 := by omega
  have n2 : w.heap.size + 1 + 1 + 1 + 1 + 1 ≠ w.heap.size := by omega
  go_upto_region 16 with (first
    | (go_at_call 32; first
      | (with_reducible refine (rpick_any x1 6 _ T1 (by decide) (by decide)).mono ?_; rintro e w1 ⟨rfl, rfl⟩; rw [← HQ.out])
      | (with_reducible refine (rpick_any x2 5 _ T2 (by decide) (by decide)).mono ?_; rintro e w1 ⟨rfl, rfl⟩; rw [← HR.out]))
    | (go_at_call 43; refine (rnamed_any 2 _).mono ?_; rintro e w1 ⟨rfl, rfl⟩; rw [TN.out]))
  · generalize hM : (if (10000000 : Int) < t + q then (10000000 : Int) else t + q) = M
    have hMM := Lib.hid (show min (t + q) 10000000 = M by rw [← hM]; split <;> omega)
    have m3 : w.heap.size + 1 + 1 + 1 ≠ w.heap.size := by omega
    generalize hV : (W.setCell _ _).setCell _ _ = V
    have k0' : V.heap[w.heap.size]? = some (.cells #[.int .i64 1, .int .i64 h, .int .i64 e, .int .i64 t] 26) := by rw [← hV]; simp [World.setCell, Array.getElem?_modify, k0, n2, m3]
    have k2' : V.heap[w.heap.size + 1 + 1]? = some (.cells #[.int .i64 0, .int .i64 0, .int .i64 0] 54) := by rw [← hV]; simp [World.setCell, Array.getElem?_modify, k2, n2, m3]
    have k4' : V.heap[w.heap.size + 1 + 1 + 1 + 1 + 1]? = some (.cells #[.int .i64 2, .int .i64 M, .int .i64 r] 54) := by rw [← hV]; simp [World.setCell, Array.getElem?_modify, k4]
    replace BW := Lib.hid (show Below w.heap.size w V by rw [← hV]; exact ((BW.out.setCell (by simp <;> omega) _).setCell (by simp <;> omega) _))
    clear hM hV k0 k2 k4 c1 c3 y0 y1 y2 r0 r1 r2 f0 f1 f2 d0 d1 d2 g0 g1 g2 hlt
    have hlt := heap_lt k4'
    obtain ⟨_, c1, _, c3, _⟩ := ln_cells (l := ⟨1, h, e, t⟩) k0'
    obtain ⟨r0, r1, r2, f0, f1, f2, _⟩ := ev_cells (x := ⟨0, 0, 0⟩) k2'
    obtain ⟨d0, d1, d2, g0, g1, g2, _⟩ := ev_cells (x := ⟨2, M, r⟩) k4'
    dsimp only at c1 c3 r0 r1 r2 d0 d1 d2
    clear k0' k2' k4'
    go_wp2_with fail
    exact bodyPost_ret (v := evA ⟨2, M, r⟩) (by simp [results, Try.results31, go_sem, evA, *]) rfl
      ⟨by rw [HVAL.out, hMM.out], (by repeat (first | with_reducible exact BW.out | with_reducible refine Below.drew ?_ | with_reducible refine Below.setCell ?_ (by simp <;> omega) _ | with_reducible refine Below.alloc ?_ (by simp <;> omega) _))⟩
set_option maxHeartbeats 1600000 in
theorem rafter_1_1 (h e t : Int) (x : T3) (w : World) (hT : Tri x) (hv : Vld ⟨1, h, e, t⟩) (hp : pickV x.1 5 = 1) : Calls Try.prog 31 #[lnA ⟨1, h, e, t⟩, triA x] w (AfterPost ⟨1, h, e, t⟩ x w) := by
  obtain ⟨x0, x1, x2⟩ := x
  obtain ⟨T0, T1, T2⟩ := hT
  obtain ⟨v1, v2, v3, v4, v5, v6, v7, v8⟩ := hv
  dsimp only at T0 T1 T2 v5 v6 hp
  have b1 := pickV_bd x1 (show (0 : Int) < 6 by decide)
  obtain ⟨q, hq1⟩ : ∃ q, q = pickV x1 6 := ⟨_, rfl⟩
  rw [← hq1] at b1
  have b2 := pickV_bd x2 (show (0 : Int) < 5 by decide)
  obtain ⟨r, hr⟩ : ∃ r, r = pickV x2 5 := ⟨_, rfl⟩
  rw [← hr] at b2
  have HVAL := Lib.hid (show afterV ⟨1, h, e, t⟩ (x0, x1, x2) = ⟨3, min (t + (q)) 10000000, -1⟩ by simp [afterV, kindV, hp, ← hq1, ← hr])
  have HP := Lib.hid hp
  have TN := Lib.hid (show decide (Named 3) = false by decide)
  have HQ := Lib.hid hq1
  have HR := Lib.hid hr
  have s1 : IntKind.i64.wrap (q + 2592000) = q + 2592000 := IntWalk.i64_in _ (by omega)
  have s2 : IntKind.i64.wrap (t + (q)) = t + (q) := IntWalk.i64_in _ (by omega)
  have s3 : IntKind.i64.wrap (r + 1) = r + 1 := IntWalk.i64_in _ (by omega)
  clear v1 v2 v3 v4 v5 v6 v7 v8 b1 b2 hp hq1 hr
  unfold lnA triA
  go_enter Try.func31, Try.ntmps31
  go_upto_region 9 with fail
  go_upto_region 10 with (go_at_call 32; refine (rpick_any x0 5 _ T0 (by decide) (by decide)).mono ?_; rintro e w1 ⟨rfl, rfl⟩; rw [HP.out])
  rotate_left
  generalize hW : ((((((w.alloc _).alloc _).alloc _).alloc _).alloc _).alloc _) = W
  have k0 : W.heap[w.heap.size]? = some (.cells #[.int .i64 1, .int .i64 h, .int .i64 e, .int .i64 t] 26) := by rw [← hW]; exact oldcell _ (oldcell _ (oldcell _ (oldcell _ (oldcell _ (new_at _ (by simp))))))
  have k1 : W.heap[w.heap.size + 1]? = some (.cells #[.int .i64 x0, .int .i64 x1, .int .i64 x2] 23) := by rw [← hW]; exact oldcell _ (oldcell _ (oldcell _ (oldcell _ (new_at _ (by simp)))))
  have k2 : W.heap[w.heap.size + 1 + 1]? = some (.cells #[.int .i64 0, .int .i64 0, .int .i64 0] 54) := by rw [← hW]; exact oldcell _ (oldcell _ (oldcell _ (new_at _ (by simp))))
  have k4 : W.heap[w.heap.size + 1 + 1 + 1 + 1 + 1]? = some (.cells #[.int .i64 3, .int .i64 0, .int .i64 (-1)] 54) := by rw [← hW]; exact new_at _ (by simp)
  have BW := Lib.hid (show Below w.heap.size w W by rw [← hW]; exact below_then (below_then (below_then (below_then (below_then (below_new _ _) (below_new _ _)) (below_new _ _)) (below_new _ _)) (below_new _ _)) (below_new _ _))
  clear hW
  have hlt := heap_lt k4
  obtain ⟨_, c1, _, c3, _⟩ := ln_cells (l := ⟨1, h, e, t⟩) k0
  obtain ⟨y0, y1, y2⟩ := tri_cells k1
  obtain ⟨r0, r1, r2, f0, f1, f2, _⟩ := ev_cells (x := ⟨0, 0, 0⟩) k2
  obtain ⟨d0, d1, d2, g0, g1, g2, _⟩ := ev_cells (x := ⟨3, 0, -1⟩) k4
  dsimp only at c1 c3 r0 r1 r2 d0 d1 d2
  clear k0 k1 k2 k4
  have n0 : w.heap.size ≠ w.heap.size + 1 + 1 + 1 + 1 + 1 := by omega
  have n1 : w.heap.size + 1 ≠ w.heap.size + 1 + 1 + 1 + 1 + 1 := by omega
  have n2 : w.heap.size + 1 + 1 + 1 + 1 + 1 ≠ w.heap.size := by omega
  go_wp2_with (first
    | (go_at_call 32; first
      | (with_reducible refine (rpick_any x1 6 _ T1 (by decide) (by decide)).mono ?_; rintro e w1 ⟨rfl, rfl⟩; rw [← HQ.out])
      | (with_reducible refine (rpick_any x2 5 _ T2 (by decide) (by decide)).mono ?_; rintro e w1 ⟨rfl, rfl⟩; rw [← HR.out]))
    | (go_at_call 43; refine (rnamed_any 3 _).mono ?_; rintro e w1 ⟨rfl, rfl⟩; rw [TN.out]))
  · exact bodyPost_ret (v := evA ⟨3, 10000000, -1⟩) (by simp [results, Try.results31, go_sem, evA, *]) rfl
      ⟨by rw [HVAL.out, Int.min_eq_right (by omega)], (by repeat (first | with_reducible exact BW.out | with_reducible refine Below.drew ?_ | with_reducible refine Below.setCell ?_ (by simp <;> omega) _ | with_reducible refine Below.alloc ?_ (by simp <;> omega) _))⟩
  · exact bodyPost_ret (v := evA ⟨3, t + (q), -1⟩) (by simp [results, Try.results31, go_sem, evA, *]) rfl
      ⟨by rw [HVAL.out, Int.min_eq_left (by omega)], (by repeat (first | with_reducible exact BW.out | with_reducible refine Below.drew ?_ | with_reducible refine Below.setCell ?_ (by simp <;> omega) _ | with_reducible refine Below.alloc ?_ (by simp <;> omega) _))⟩
set_option maxHeartbeats 1600000 in
theorem rafter_1_2 (h e t : Int) (x : T3) (w : World) (hT : Tri x) (hv : Vld ⟨1, h, e, t⟩) (hp : pickV x.1 5 = 2) : Calls Try.prog 31 #[lnA ⟨1, h, e, t⟩, triA x] w (AfterPost ⟨1, h, e, t⟩ x w) := by
  obtain ⟨x0, x1, x2⟩ := x
  obtain ⟨T0, T1, T2⟩ := hT
  obtain ⟨v1, v2, v3, v4, v5, v6, v7, v8⟩ := hv
  dsimp only at T0 T1 T2 v5 v6 hp
  have b1 := pickV_bd x1 (show (0 : Int) < 6 by decide)
  obtain ⟨q, hq1⟩ : ∃ q, q = pickV x1 6 := ⟨_, rfl⟩
  rw [← hq1] at b1
  have b2 := pickV_bd x2 (show (0 : Int) < 5 by decide)
  obtain ⟨r, hr⟩ : ∃ r, r = pickV x2 5 := ⟨_, rfl⟩
  rw [← hr] at b2
  have HVAL := Lib.hid (show afterV ⟨1, h, e, t⟩ (x0, x1, x2) = ⟨5, min (t + (q)) 10000000, -1⟩ by simp [afterV, kindV, hp, ← hq1, ← hr])
  have HP := Lib.hid hp
  have TN := Lib.hid (show decide (Named 5) = false by decide)
  have HQ := Lib.hid hq1
  have HR := Lib.hid hr
  have s1 : IntKind.i64.wrap (q + 2592000) = q + 2592000 := IntWalk.i64_in _ (by omega)
  have s2 : IntKind.i64.wrap (t + (q)) = t + (q) := IntWalk.i64_in _ (by omega)
  have s3 : IntKind.i64.wrap (r + 1) = r + 1 := IntWalk.i64_in _ (by omega)
  clear v1 v2 v3 v4 v5 v6 v7 v8 b1 b2 hp hq1 hr
  unfold lnA triA
  go_enter Try.func31, Try.ntmps31
  go_upto_region 9 with fail
  go_upto_region 10 with (go_at_call 32; refine (rpick_any x0 5 _ T0 (by decide) (by decide)).mono ?_; rintro e w1 ⟨rfl, rfl⟩; rw [HP.out])
  rotate_left
  generalize hW : ((((((w.alloc _).alloc _).alloc _).alloc _).alloc _).alloc _) = W
  have k0 : W.heap[w.heap.size]? = some (.cells #[.int .i64 1, .int .i64 h, .int .i64 e, .int .i64 t] 26) := by rw [← hW]; exact oldcell _ (oldcell _ (oldcell _ (oldcell _ (oldcell _ (new_at _ (by simp))))))
  have k1 : W.heap[w.heap.size + 1]? = some (.cells #[.int .i64 x0, .int .i64 x1, .int .i64 x2] 23) := by rw [← hW]; exact oldcell _ (oldcell _ (oldcell _ (oldcell _ (new_at _ (by simp)))))
  have k2 : W.heap[w.heap.size + 1 + 1]? = some (.cells #[.int .i64 0, .int .i64 0, .int .i64 0] 54) := by rw [← hW]; exact oldcell _ (oldcell _ (oldcell _ (new_at _ (by simp))))
  have k4 : W.heap[w.heap.size + 1 + 1 + 1 + 1 + 1]? = some (.cells #[.int .i64 5, .int .i64 0, .int .i64 (-1)] 54) := by rw [← hW]; exact new_at _ (by simp)
  have BW := Lib.hid (show Below w.heap.size w W by rw [← hW]; exact below_then (below_then (below_then (below_then (below_then (below_new _ _) (below_new _ _)) (below_new _ _)) (below_new _ _)) (below_new _ _)) (below_new _ _))
  clear hW
  have hlt := heap_lt k4
  obtain ⟨_, c1, _, c3, _⟩ := ln_cells (l := ⟨1, h, e, t⟩) k0
  obtain ⟨y0, y1, y2⟩ := tri_cells k1
  obtain ⟨r0, r1, r2, f0, f1, f2, _⟩ := ev_cells (x := ⟨0, 0, 0⟩) k2
  obtain ⟨d0, d1, d2, g0, g1, g2, _⟩ := ev_cells (x := ⟨5, 0, -1⟩) k4
  dsimp only at c1 c3 r0 r1 r2 d0 d1 d2
  clear k0 k1 k2 k4
  have n0 : w.heap.size ≠ w.heap.size + 1 + 1 + 1 + 1 + 1 := by omega
  have n1 : w.heap.size + 1 ≠ w.heap.size + 1 + 1 + 1 + 1 + 1 := by omega
  have n2 : w.heap.size + 1 + 1 + 1 + 1 + 1 ≠ w.heap.size := by omega
  go_wp2_with (first
    | (go_at_call 32; first
      | (with_reducible refine (rpick_any x1 6 _ T1 (by decide) (by decide)).mono ?_; rintro e w1 ⟨rfl, rfl⟩; rw [← HQ.out])
      | (with_reducible refine (rpick_any x2 5 _ T2 (by decide) (by decide)).mono ?_; rintro e w1 ⟨rfl, rfl⟩; rw [← HR.out]))
    | (go_at_call 43; refine (rnamed_any 5 _).mono ?_; rintro e w1 ⟨rfl, rfl⟩; rw [TN.out]))
  · exact bodyPost_ret (v := evA ⟨5, 10000000, -1⟩) (by simp [results, Try.results31, go_sem, evA, *]) rfl
      ⟨by rw [HVAL.out, Int.min_eq_right (by omega)], (by repeat (first | with_reducible exact BW.out | with_reducible refine Below.drew ?_ | with_reducible refine Below.setCell ?_ (by simp <;> omega) _ | with_reducible refine Below.alloc ?_ (by simp <;> omega) _))⟩
  · exact bodyPost_ret (v := evA ⟨5, t + (q), -1⟩) (by simp [results, Try.results31, go_sem, evA, *]) rfl
      ⟨by rw [HVAL.out, Int.min_eq_left (by omega)], (by repeat (first | with_reducible exact BW.out | with_reducible refine Below.drew ?_ | with_reducible refine Below.setCell ?_ (by simp <;> omega) _ | with_reducible refine Below.alloc ?_ (by simp <;> omega) _))⟩
set_option maxHeartbeats 1600000 in
theorem rafter_1_3 (h e t : Int) (x : T3) (w : World) (hT : Tri x) (hv : Vld ⟨1, h, e, t⟩) (hp : pickV x.1 5 = 3) : Calls Try.prog 31 #[lnA ⟨1, h, e, t⟩, triA x] w (AfterPost ⟨1, h, e, t⟩ x w) := by
  obtain ⟨x0, x1, x2⟩ := x
  obtain ⟨T0, T1, T2⟩ := hT
  obtain ⟨v1, v2, v3, v4, v5, v6, v7, v8⟩ := hv
  dsimp only at T0 T1 T2 v5 v6 hp
  have b1 := pickV_bd x1 (show (0 : Int) < 6 by decide)
  obtain ⟨q, hq1⟩ : ∃ q, q = pickV x1 6 := ⟨_, rfl⟩
  rw [← hq1] at b1
  have b2 := pickV_bd x2 (show (0 : Int) < 5 by decide)
  obtain ⟨r, hr⟩ : ∃ r, r = pickV x2 5 := ⟨_, rfl⟩
  rw [← hr] at b2
  have HVAL := Lib.hid (show afterV ⟨1, h, e, t⟩ (x0, x1, x2) = ⟨3, min (t + (q)) 10000000, -1⟩ by simp [afterV, kindV, hp, ← hq1, ← hr])
  have HP := Lib.hid hp
  have TN := Lib.hid (show decide (Named 3) = false by decide)
  have HQ := Lib.hid hq1
  have HR := Lib.hid hr
  have s1 : IntKind.i64.wrap (q + 2592000) = q + 2592000 := IntWalk.i64_in _ (by omega)
  have s2 : IntKind.i64.wrap (t + (q)) = t + (q) := IntWalk.i64_in _ (by omega)
  have s3 : IntKind.i64.wrap (r + 1) = r + 1 := IntWalk.i64_in _ (by omega)
  clear v1 v2 v3 v4 v5 v6 v7 v8 b1 b2 hp hq1 hr
  unfold lnA triA
  go_enter Try.func31, Try.ntmps31
  go_upto_region 9 with fail
  go_upto_region 10 with (go_at_call 32; refine (rpick_any x0 5 _ T0 (by decide) (by decide)).mono ?_; rintro e w1 ⟨rfl, rfl⟩; rw [HP.out])
  rotate_left
  generalize hW : ((((((w.alloc _).alloc _).alloc _).alloc _).alloc _).alloc _) = W
  have k0 : W.heap[w.heap.size]? = some (.cells #[.int .i64 1, .int .i64 h, .int .i64 e, .int .i64 t] 26) := by rw [← hW]; exact oldcell _ (oldcell _ (oldcell _ (oldcell _ (oldcell _ (new_at _ (by simp))))))
  have k1 : W.heap[w.heap.size + 1]? = some (.cells #[.int .i64 x0, .int .i64 x1, .int .i64 x2] 23) := by rw [← hW]; exact oldcell _ (oldcell _ (oldcell _ (oldcell _ (new_at _ (by simp)))))
  have k2 : W.heap[w.heap.size + 1 + 1]? = some (.cells #[.int .i64 0, .int .i64 0, .int .i64 0] 54) := by rw [← hW]; exact oldcell _ (oldcell _ (oldcell _ (new_at _ (by simp))))
  have k4 : W.heap[w.heap.size + 1 + 1 + 1 + 1 + 1]? = some (.cells #[.int .i64 3, .int .i64 0, .int .i64 (-1)] 54) := by rw [← hW]; exact new_at _ (by simp)
  have BW := Lib.hid (show Below w.heap.size w W by rw [← hW]; exact below_then (below_then (below_then (below_then (below_then (below_new _ _) (below_new _ _)) (below_new _ _)) (below_new _ _)) (below_new _ _)) (below_new _ _))
  clear hW
  have hlt := heap_lt k4
  obtain ⟨_, c1, _, c3, _⟩ := ln_cells (l := ⟨1, h, e, t⟩) k0
  obtain ⟨y0, y1, y2⟩ := tri_cells k1
  obtain ⟨r0, r1, r2, f0, f1, f2, _⟩ := ev_cells (x := ⟨0, 0, 0⟩) k2
  obtain ⟨d0, d1, d2, g0, g1, g2, _⟩ := ev_cells (x := ⟨3, 0, -1⟩) k4
  dsimp only at c1 c3 r0 r1 r2 d0 d1 d2
  clear k0 k1 k2 k4
  have n0 : w.heap.size ≠ w.heap.size + 1 + 1 + 1 + 1 + 1 := by omega
  have n1 : w.heap.size + 1 ≠ w.heap.size + 1 + 1 + 1 + 1 + 1 := by omega
  have n2 : w.heap.size + 1 + 1 + 1 + 1 + 1 ≠ w.heap.size := by omega
  go_wp2_with (first
    | (go_at_call 32; first
      | (with_reducible refine (rpick_any x1 6 _ T1 (by decide) (by decide)).mono ?_; rintro e w1 ⟨rfl, rfl⟩; rw [← HQ.out])
      | (with_reducible refine (rpick_any x2 5 _ T2 (by decide) (by decide)).mono ?_; rintro e w1 ⟨rfl, rfl⟩; rw [← HR.out]))
    | (go_at_call 43; refine (rnamed_any 3 _).mono ?_; rintro e w1 ⟨rfl, rfl⟩; rw [TN.out]))
  · exact bodyPost_ret (v := evA ⟨3, 10000000, -1⟩) (by simp [results, Try.results31, go_sem, evA, *]) rfl
      ⟨by rw [HVAL.out, Int.min_eq_right (by omega)], (by repeat (first | with_reducible exact BW.out | with_reducible refine Below.drew ?_ | with_reducible refine Below.setCell ?_ (by simp <;> omega) _ | with_reducible refine Below.alloc ?_ (by simp <;> omega) _))⟩
  · exact bodyPost_ret (v := evA ⟨3, t + (q), -1⟩) (by simp [results, Try.results31, go_sem, evA, *]) rfl
      ⟨by rw [HVAL.out, Int.min_eq_left (by omega)], (by repeat (first | with_reducible exact BW.out | with_reducible refine Below.drew ?_ | with_reducible refine Below.setCell ?_ (by simp <;> omega) _ | with_reducible refine Below.alloc ?_ (by simp <;> omega) _))⟩
set_option maxHeartbeats 1600000 in
theorem rafter_1_4 (h e t : Int) (x : T3) (w : World) (hT : Tri x) (hv : Vld ⟨1, h, e, t⟩) (hp : pickV x.1 5 = 4) : Calls Try.prog 31 #[lnA ⟨1, h, e, t⟩, triA x] w (AfterPost ⟨1, h, e, t⟩ x w) := by
  obtain ⟨x0, x1, x2⟩ := x
  obtain ⟨T0, T1, T2⟩ := hT
  obtain ⟨v1, v2, v3, v4, v5, v6, v7, v8⟩ := hv
  dsimp only at T0 T1 T2 v5 v6 hp
  have b1 := pickV_bd x1 (show (0 : Int) < 6 by decide)
  obtain ⟨q, hq1⟩ : ∃ q, q = pickV x1 6 := ⟨_, rfl⟩
  rw [← hq1] at b1
  have b2 := pickV_bd x2 (show (0 : Int) < 5 by decide)
  obtain ⟨r, hr⟩ : ∃ r, r = pickV x2 5 := ⟨_, rfl⟩
  rw [← hr] at b2
  have HVAL := Lib.hid (show afterV ⟨1, h, e, t⟩ (x0, x1, x2) = ⟨5, min (t + (q)) 10000000, -1⟩ by simp [afterV, kindV, hp, ← hq1, ← hr])
  have HP := Lib.hid hp
  have TN := Lib.hid (show decide (Named 5) = false by decide)
  have HQ := Lib.hid hq1
  have HR := Lib.hid hr
  have s1 : IntKind.i64.wrap (q + 2592000) = q + 2592000 := IntWalk.i64_in _ (by omega)
  have s2 : IntKind.i64.wrap (t + (q)) = t + (q) := IntWalk.i64_in _ (by omega)
  have s3 : IntKind.i64.wrap (r + 1) = r + 1 := IntWalk.i64_in _ (by omega)
  clear v1 v2 v3 v4 v5 v6 v7 v8 b1 b2 hp hq1 hr
  unfold lnA triA
  go_enter Try.func31, Try.ntmps31
  go_upto_region 9 with fail
  go_upto_region 10 with (go_at_call 32; refine (rpick_any x0 5 _ T0 (by decide) (by decide)).mono ?_; rintro e w1 ⟨rfl, rfl⟩; rw [HP.out])
  rotate_left
  generalize hW : ((((((w.alloc _).alloc _).alloc _).alloc _).alloc _).alloc _) = W
  have k0 : W.heap[w.heap.size]? = some (.cells #[.int .i64 1, .int .i64 h, .int .i64 e, .int .i64 t] 26) := by rw [← hW]; exact oldcell _ (oldcell _ (oldcell _ (oldcell _ (oldcell _ (new_at _ (by simp))))))
  have k1 : W.heap[w.heap.size + 1]? = some (.cells #[.int .i64 x0, .int .i64 x1, .int .i64 x2] 23) := by rw [← hW]; exact oldcell _ (oldcell _ (oldcell _ (oldcell _ (new_at _ (by simp)))))
  have k2 : W.heap[w.heap.size + 1 + 1]? = some (.cells #[.int .i64 0, .int .i64 0, .int .i64 0] 54) := by rw [← hW]; exact oldcell _ (oldcell _ (oldcell _ (new_at _ (by simp))))
  have k4 : W.heap[w.heap.size + 1 + 1 + 1 + 1 + 1]? = some (.cells #[.int .i64 5, .int .i64 0, .int .i64 (-1)] 54) := by rw [← hW]; exact new_at _ (by simp)
  have BW := Lib.hid (show Below w.heap.size w W by rw [← hW]; exact below_then (below_then (below_then (below_then (below_then (below_new _ _) (below_new _ _)) (below_new _ _)) (below_new _ _)) (below_new _ _)) (below_new _ _))
  clear hW
  have hlt := heap_lt k4
  obtain ⟨_, c1, _, c3, _⟩ := ln_cells (l := ⟨1, h, e, t⟩) k0
  obtain ⟨y0, y1, y2⟩ := tri_cells k1
  obtain ⟨r0, r1, r2, f0, f1, f2, _⟩ := ev_cells (x := ⟨0, 0, 0⟩) k2
  obtain ⟨d0, d1, d2, g0, g1, g2, _⟩ := ev_cells (x := ⟨5, 0, -1⟩) k4
  dsimp only at c1 c3 r0 r1 r2 d0 d1 d2
  clear k0 k1 k2 k4
  have n0 : w.heap.size ≠ w.heap.size + 1 + 1 + 1 + 1 + 1 := by omega
  have n1 : w.heap.size + 1 ≠ w.heap.size + 1 + 1 + 1 + 1 + 1 := by omega
  have n2 : w.heap.size + 1 + 1 + 1 + 1 + 1 ≠ w.heap.size := by omega
  go_wp2_with (first
    | (go_at_call 32; first
      | (with_reducible refine (rpick_any x1 6 _ T1 (by decide) (by decide)).mono ?_; rintro e w1 ⟨rfl, rfl⟩; rw [← HQ.out])
      | (with_reducible refine (rpick_any x2 5 _ T2 (by decide) (by decide)).mono ?_; rintro e w1 ⟨rfl, rfl⟩; rw [← HR.out]))
    | (go_at_call 43; refine (rnamed_any 5 _).mono ?_; rintro e w1 ⟨rfl, rfl⟩; rw [TN.out]))
  · exact bodyPost_ret (v := evA ⟨5, 10000000, -1⟩) (by simp [results, Try.results31, go_sem, evA, *]) rfl
      ⟨by rw [HVAL.out, Int.min_eq_right (by omega)], (by repeat (first | with_reducible exact BW.out | with_reducible refine Below.drew ?_ | with_reducible refine Below.setCell ?_ (by simp <;> omega) _ | with_reducible refine Below.alloc ?_ (by simp <;> omega) _))⟩
  · exact bodyPost_ret (v := evA ⟨5, t + (q), -1⟩) (by simp [results, Try.results31, go_sem, evA, *]) rfl
      ⟨by rw [HVAL.out, Int.min_eq_left (by omega)], (by repeat (first | with_reducible exact BW.out | with_reducible refine Below.drew ?_ | with_reducible refine Below.setCell ?_ (by simp <;> omega) _ | with_reducible refine Below.alloc ?_ (by simp <;> omega) _))⟩
set_option maxHeartbeats 1600000 in
theorem rafter_2_0 (h e t : Int) (x : T3) (w : World) (hT : Tri x) (hv : Vld ⟨2, h, e, t⟩) (hp : pickV x.1 2 = 0) : Calls Try.prog 31 #[lnA ⟨2, h, e, t⟩, triA x] w (AfterPost ⟨2, h, e, t⟩ x w) := by
  obtain ⟨x0, x1, x2⟩ := x
  obtain ⟨T0, T1, T2⟩ := hT
  obtain ⟨v1, v2, v3, v4, v5, v6, v7, v8⟩ := hv
  dsimp only at T0 T1 T2 v5 v6 hp
  have b1 := pickV_bd x1 (show (0 : Int) < 6 by decide)
  obtain ⟨q, hq1⟩ : ∃ q, q = pickV x1 6 := ⟨_, rfl⟩
  rw [← hq1] at b1
  have b2 := pickV_bd x2 (show (0 : Int) < 5 by decide)
  obtain ⟨r, hr⟩ : ∃ r, r = pickV x2 5 := ⟨_, rfl⟩
  rw [← hr] at b2
  have HVAL := Lib.hid (show afterV ⟨2, h, e, t⟩ (x0, x1, x2) = ⟨4, min (t + (q)) 10000000, -1⟩ by simp [afterV, kindV, hp, ← hq1, ← hr])
  have HP := Lib.hid hp
  have TN := Lib.hid (show decide (Named 4) = false by decide)
  have HQ := Lib.hid hq1
  have HR := Lib.hid hr
  have s1 : IntKind.i64.wrap (q + 2592000) = q + 2592000 := IntWalk.i64_in _ (by omega)
  have s2 : IntKind.i64.wrap (t + (q)) = t + (q) := IntWalk.i64_in _ (by omega)
  have s3 : IntKind.i64.wrap (r + 1) = r + 1 := IntWalk.i64_in _ (by omega)
  clear v1 v2 v3 v4 v5 v6 v7 v8 b1 b2 hp hq1 hr
  unfold lnA triA
  go_enter Try.func31, Try.ntmps31
  go_upto_region 9 with fail
  go_upto_region 10 with (go_at_call 32; refine (rpick_any x0 2 _ T0 (by decide) (by decide)).mono ?_; rintro e w1 ⟨rfl, rfl⟩; rw [HP.out])
  rotate_left
  generalize hW : ((((((w.alloc _).alloc _).alloc _).alloc _).alloc _).alloc _) = W
  have k0 : W.heap[w.heap.size]? = some (.cells #[.int .i64 2, .int .i64 h, .int .i64 e, .int .i64 t] 26) := by rw [← hW]; exact oldcell _ (oldcell _ (oldcell _ (oldcell _ (oldcell _ (new_at _ (by simp))))))
  have k1 : W.heap[w.heap.size + 1]? = some (.cells #[.int .i64 x0, .int .i64 x1, .int .i64 x2] 23) := by rw [← hW]; exact oldcell _ (oldcell _ (oldcell _ (oldcell _ (new_at _ (by simp)))))
  have k2 : W.heap[w.heap.size + 1 + 1]? = some (.cells #[.int .i64 0, .int .i64 0, .int .i64 0] 54) := by rw [← hW]; exact oldcell _ (oldcell _ (oldcell _ (new_at _ (by simp))))
  have k4 : W.heap[w.heap.size + 1 + 1 + 1 + 1 + 1]? = some (.cells #[.int .i64 4, .int .i64 0, .int .i64 (-1)] 54) := by rw [← hW]; exact new_at _ (by simp)
  have BW := Lib.hid (show Below w.heap.size w W by rw [← hW]; exact below_then (below_then (below_then (below_then (below_then (below_new _ _) (below_new _ _)) (below_new _ _)) (below_new _ _)) (below_new _ _)) (below_new _ _))
  clear hW
  have hlt := heap_lt k4
  obtain ⟨_, c1, _, c3, _⟩ := ln_cells (l := ⟨2, h, e, t⟩) k0
  obtain ⟨y0, y1, y2⟩ := tri_cells k1
  obtain ⟨r0, r1, r2, f0, f1, f2, _⟩ := ev_cells (x := ⟨0, 0, 0⟩) k2
  obtain ⟨d0, d1, d2, g0, g1, g2, _⟩ := ev_cells (x := ⟨4, 0, -1⟩) k4
  dsimp only at c1 c3 r0 r1 r2 d0 d1 d2
  clear k0 k1 k2 k4
  have n0 : w.heap.size ≠ w.heap.size + 1 + 1 + 1 + 1 + 1 := by omega
  have n1 : w.heap.size + 1 ≠ w.heap.size + 1 + 1 + 1 + 1 + 1 := by omega
  have n2 : w.heap.size + 1 + 1 + 1 + 1 + 1 ≠ w.heap.size := by omega
  go_wp2_with (first
    | (go_at_call 32; first
      | (with_reducible refine (rpick_any x1 6 _ T1 (by decide) (by decide)).mono ?_; rintro e w1 ⟨rfl, rfl⟩; rw [← HQ.out])
      | (with_reducible refine (rpick_any x2 5 _ T2 (by decide) (by decide)).mono ?_; rintro e w1 ⟨rfl, rfl⟩; rw [← HR.out]))
    | (go_at_call 43; refine (rnamed_any 4 _).mono ?_; rintro e w1 ⟨rfl, rfl⟩; rw [TN.out]))
  · exact bodyPost_ret (v := evA ⟨4, 10000000, -1⟩) (by simp [results, Try.results31, go_sem, evA, *]) rfl
      ⟨by rw [HVAL.out, Int.min_eq_right (by omega)], (by repeat (first | with_reducible exact BW.out | with_reducible refine Below.drew ?_ | with_reducible refine Below.setCell ?_ (by simp <;> omega) _ | with_reducible refine Below.alloc ?_ (by simp <;> omega) _))⟩
  · exact bodyPost_ret (v := evA ⟨4, t + (q), -1⟩) (by simp [results, Try.results31, go_sem, evA, *]) rfl
      ⟨by rw [HVAL.out, Int.min_eq_left (by omega)], (by repeat (first | with_reducible exact BW.out | with_reducible refine Below.drew ?_ | with_reducible refine Below.setCell ?_ (by simp <;> omega) _ | with_reducible refine Below.alloc ?_ (by simp <;> omega) _))⟩
set_option maxHeartbeats 1600000 in
theorem rafter_2_1 (h e t : Int) (x : T3) (w : World) (hT : Tri x) (hv : Vld ⟨2, h, e, t⟩) (hp : pickV x.1 2 = 1) : Calls Try.prog 31 #[lnA ⟨2, h, e, t⟩, triA x] w (AfterPost ⟨2, h, e, t⟩ x w) := by
  obtain ⟨x0, x1, x2⟩ := x
  obtain ⟨T0, T1, T2⟩ := hT
  obtain ⟨v1, v2, v3, v4, v5, v6, v7, v8⟩ := hv
  dsimp only at T0 T1 T2 v5 v6 hp
  have b1 := pickV_bd x1 (show (0 : Int) < 6 by decide)
  obtain ⟨q, hq1⟩ : ∃ q, q = pickV x1 6 := ⟨_, rfl⟩
  rw [← hq1] at b1
  have b2 := pickV_bd x2 (show (0 : Int) < 5 by decide)
  obtain ⟨r, hr⟩ : ∃ r, r = pickV x2 5 := ⟨_, rfl⟩
  rw [← hr] at b2
  have HVAL := Lib.hid (show afterV ⟨2, h, e, t⟩ (x0, x1, x2) = ⟨5, min (t + (q)) 10000000, -1⟩ by simp [afterV, kindV, hp, ← hq1, ← hr])
  have HP := Lib.hid hp
  have TN := Lib.hid (show decide (Named 5) = false by decide)
  have HQ := Lib.hid hq1
  have HR := Lib.hid hr
  have s1 : IntKind.i64.wrap (q + 2592000) = q + 2592000 := IntWalk.i64_in _ (by omega)
  have s2 : IntKind.i64.wrap (t + (q)) = t + (q) := IntWalk.i64_in _ (by omega)
  have s3 : IntKind.i64.wrap (r + 1) = r + 1 := IntWalk.i64_in _ (by omega)
  clear v1 v2 v3 v4 v5 v6 v7 v8 b1 b2 hp hq1 hr
  unfold lnA triA
  go_enter Try.func31, Try.ntmps31
  go_upto_region 9 with fail
  go_upto_region 10 with (go_at_call 32; refine (rpick_any x0 2 _ T0 (by decide) (by decide)).mono ?_; rintro e w1 ⟨rfl, rfl⟩; rw [HP.out])
  rotate_left
  generalize hW : ((((((w.alloc _).alloc _).alloc _).alloc _).alloc _).alloc _) = W
  have k0 : W.heap[w.heap.size]? = some (.cells #[.int .i64 2, .int .i64 h, .int .i64 e, .int .i64 t] 26) := by rw [← hW]; exact oldcell _ (oldcell _ (oldcell _ (oldcell _ (oldcell _ (new_at _ (by simp))))))
  have k1 : W.heap[w.heap.size + 1]? = some (.cells #[.int .i64 x0, .int .i64 x1, .int .i64 x2] 23) := by rw [← hW]; exact oldcell _ (oldcell _ (oldcell _ (oldcell _ (new_at _ (by simp)))))
  have k2 : W.heap[w.heap.size + 1 + 1]? = some (.cells #[.int .i64 0, .int .i64 0, .int .i64 0] 54) := by rw [← hW]; exact oldcell _ (oldcell _ (oldcell _ (new_at _ (by simp))))
  have k4 : W.heap[w.heap.size + 1 + 1 + 1 + 1 + 1]? = some (.cells #[.int .i64 5, .int .i64 0, .int .i64 (-1)] 54) := by rw [← hW]; exact new_at _ (by simp)
  have BW := Lib.hid (show Below w.heap.size w W by rw [← hW]; exact below_then (below_then (below_then (below_then (below_then (below_new _ _) (below_new _ _)) (below_new _ _)) (below_new _ _)) (below_new _ _)) (below_new _ _))
  clear hW
  have hlt := heap_lt k4
  obtain ⟨_, c1, _, c3, _⟩ := ln_cells (l := ⟨2, h, e, t⟩) k0
  obtain ⟨y0, y1, y2⟩ := tri_cells k1
  obtain ⟨r0, r1, r2, f0, f1, f2, _⟩ := ev_cells (x := ⟨0, 0, 0⟩) k2
  obtain ⟨d0, d1, d2, g0, g1, g2, _⟩ := ev_cells (x := ⟨5, 0, -1⟩) k4
  dsimp only at c1 c3 r0 r1 r2 d0 d1 d2
  clear k0 k1 k2 k4
  have n0 : w.heap.size ≠ w.heap.size + 1 + 1 + 1 + 1 + 1 := by omega
  have n1 : w.heap.size + 1 ≠ w.heap.size + 1 + 1 + 1 + 1 + 1 := by omega
  have n2 : w.heap.size + 1 + 1 + 1 + 1 + 1 ≠ w.heap.size := by omega
  go_wp2_with (first
    | (go_at_call 32; first
      | (with_reducible refine (rpick_any x1 6 _ T1 (by decide) (by decide)).mono ?_; rintro e w1 ⟨rfl, rfl⟩; rw [← HQ.out])
      | (with_reducible refine (rpick_any x2 5 _ T2 (by decide) (by decide)).mono ?_; rintro e w1 ⟨rfl, rfl⟩; rw [← HR.out]))
    | (go_at_call 43; refine (rnamed_any 5 _).mono ?_; rintro e w1 ⟨rfl, rfl⟩; rw [TN.out]))
  · exact bodyPost_ret (v := evA ⟨5, 10000000, -1⟩) (by simp [results, Try.results31, go_sem, evA, *]) rfl
      ⟨by rw [HVAL.out, Int.min_eq_right (by omega)], (by repeat (first | with_reducible exact BW.out | with_reducible refine Below.drew ?_ | with_reducible refine Below.setCell ?_ (by simp <;> omega) _ | with_reducible refine Below.alloc ?_ (by simp <;> omega) _))⟩
  · exact bodyPost_ret (v := evA ⟨5, t + (q), -1⟩) (by simp [results, Try.results31, go_sem, evA, *]) rfl
      ⟨by rw [HVAL.out, Int.min_eq_left (by omega)], (by repeat (first | with_reducible exact BW.out | with_reducible refine Below.drew ?_ | with_reducible refine Below.setCell ?_ (by simp <;> omega) _ | with_reducible refine Below.alloc ?_ (by simp <;> omega) _))⟩
set_option maxHeartbeats 1600000 in
theorem rafter_3_0 (h e t : Int) (x : T3) (w : World) (hT : Tri x) (hv : Vld ⟨3, h, e, t⟩) (hp : pickV x.1 3 = 0) : Calls Try.prog 31 #[lnA ⟨3, h, e, t⟩, triA x] w (AfterPost ⟨3, h, e, t⟩ x w) := by
  obtain ⟨x0, x1, x2⟩ := x
  obtain ⟨T0, T1, T2⟩ := hT
  obtain ⟨v1, v2, v3, v4, v5, v6, v7, v8⟩ := hv
  dsimp only at T0 T1 T2 v5 v6 hp
  have b1 := pickV_bd x1 (show (0 : Int) < 6 by decide)
  obtain ⟨q, hq1⟩ : ∃ q, q = pickV x1 6 := ⟨_, rfl⟩
  rw [← hq1] at b1
  have b2 := pickV_bd x2 (show (0 : Int) < 5 by decide)
  obtain ⟨r, hr⟩ : ∃ r, r = pickV x2 5 := ⟨_, rfl⟩
  rw [← hr] at b2
  have HVAL := Lib.hid (show afterV ⟨3, h, e, t⟩ (x0, x1, x2) = ⟨7, min (t + (q + 2592000)) 10000000, -1⟩ by simp [afterV, kindV, hp, ← hq1, ← hr])
  have HP := Lib.hid hp
  have TN := Lib.hid (show decide (Named 7) = false by decide)
  have HQ := Lib.hid hq1
  have HR := Lib.hid hr
  have s1 : IntKind.i64.wrap (q + 2592000) = q + 2592000 := IntWalk.i64_in _ (by omega)
  have s2 : IntKind.i64.wrap (t + (q + 2592000)) = t + (q + 2592000) := IntWalk.i64_in _ (by omega)
  have s3 : IntKind.i64.wrap (r + 1) = r + 1 := IntWalk.i64_in _ (by omega)
  clear v1 v2 v3 v4 v5 v6 v7 v8 b1 b2 hp hq1 hr
  unfold lnA triA
  go_enter Try.func31, Try.ntmps31
  go_upto_region 9 with fail
  go_upto_region 10 with (go_at_call 32; refine (rpick_any x0 3 _ T0 (by decide) (by decide)).mono ?_; rintro e w1 ⟨rfl, rfl⟩; rw [HP.out])
  rotate_left
  generalize hW : ((((((w.alloc _).alloc _).alloc _).alloc _).alloc _).alloc _) = W
  have k0 : W.heap[w.heap.size]? = some (.cells #[.int .i64 3, .int .i64 h, .int .i64 e, .int .i64 t] 26) := by rw [← hW]; exact oldcell _ (oldcell _ (oldcell _ (oldcell _ (oldcell _ (new_at _ (by simp))))))
  have k1 : W.heap[w.heap.size + 1]? = some (.cells #[.int .i64 x0, .int .i64 x1, .int .i64 x2] 23) := by rw [← hW]; exact oldcell _ (oldcell _ (oldcell _ (oldcell _ (new_at _ (by simp)))))
  have k2 : W.heap[w.heap.size + 1 + 1]? = some (.cells #[.int .i64 0, .int .i64 0, .int .i64 0] 54) := by rw [← hW]; exact oldcell _ (oldcell _ (oldcell _ (new_at _ (by simp))))
  have k4 : W.heap[w.heap.size + 1 + 1 + 1 + 1 + 1]? = some (.cells #[.int .i64 7, .int .i64 0, .int .i64 (-1)] 54) := by rw [← hW]; exact new_at _ (by simp)
  have BW := Lib.hid (show Below w.heap.size w W by rw [← hW]; exact below_then (below_then (below_then (below_then (below_then (below_new _ _) (below_new _ _)) (below_new _ _)) (below_new _ _)) (below_new _ _)) (below_new _ _))
  clear hW
  have hlt := heap_lt k4
  obtain ⟨_, c1, _, c3, _⟩ := ln_cells (l := ⟨3, h, e, t⟩) k0
  obtain ⟨y0, y1, y2⟩ := tri_cells k1
  obtain ⟨r0, r1, r2, f0, f1, f2, _⟩ := ev_cells (x := ⟨0, 0, 0⟩) k2
  obtain ⟨d0, d1, d2, g0, g1, g2, _⟩ := ev_cells (x := ⟨7, 0, -1⟩) k4
  dsimp only at c1 c3 r0 r1 r2 d0 d1 d2
  clear k0 k1 k2 k4
  have n0 : w.heap.size ≠ w.heap.size + 1 + 1 + 1 + 1 + 1 := by omega
  have n1 : w.heap.size + 1 ≠ w.heap.size + 1 + 1 + 1 + 1 + 1 := by omega
  have n2 : w.heap.size + 1 + 1 + 1 + 1 + 1 ≠ w.heap.size := by omega
  go_wp2_with (first
    | (go_at_call 32; first
      | (with_reducible refine (rpick_any x1 6 _ T1 (by decide) (by decide)).mono ?_; rintro e w1 ⟨rfl, rfl⟩; rw [← HQ.out])
      | (with_reducible refine (rpick_any x2 5 _ T2 (by decide) (by decide)).mono ?_; rintro e w1 ⟨rfl, rfl⟩; rw [← HR.out]))
    | (go_at_call 43; refine (rnamed_any 7 _).mono ?_; rintro e w1 ⟨rfl, rfl⟩; rw [TN.out]))
  · exact bodyPost_ret (v := evA ⟨7, 10000000, -1⟩) (by simp [results, Try.results31, go_sem, evA, *]) rfl
      ⟨by rw [HVAL.out, Int.min_eq_right (by omega)], (by repeat (first | with_reducible exact BW.out | with_reducible refine Below.drew ?_ | with_reducible refine Below.setCell ?_ (by simp <;> omega) _ | with_reducible refine Below.alloc ?_ (by simp <;> omega) _))⟩
  · exact bodyPost_ret (v := evA ⟨7, t + (q + 2592000), -1⟩) (by simp [results, Try.results31, go_sem, evA, *]) rfl
      ⟨by rw [HVAL.out, Int.min_eq_left (by omega)], (by repeat (first | with_reducible exact BW.out | with_reducible refine Below.drew ?_ | with_reducible refine Below.setCell ?_ (by simp <;> omega) _ | with_reducible refine Below.alloc ?_ (by simp <;> omega) _))⟩
set_option maxHeartbeats 1600000 in
theorem rafter_3_1 (h e t : Int) (x : T3) (w : World) (hT : Tri x) (hv : Vld ⟨3, h, e, t⟩) (hp : pickV x.1 3 = 1) : Calls Try.prog 31 #[lnA ⟨3, h, e, t⟩, triA x] w (AfterPost ⟨3, h, e, t⟩ x w) := by
  obtain ⟨x0, x1, x2⟩ := x
  obtain ⟨T0, T1, T2⟩ := hT
  obtain ⟨v1, v2, v3, v4, v5, v6, v7, v8⟩ := hv
  dsimp only at T0 T1 T2 v5 v6 hp
  have b1 := pickV_bd x1 (show (0 : Int) < 6 by decide)
  obtain ⟨q, hq1⟩ : ∃ q, q = pickV x1 6 := ⟨_, rfl⟩
  rw [← hq1] at b1
  have b2 := pickV_bd x2 (show (0 : Int) < 5 by decide)
  obtain ⟨r, hr⟩ : ∃ r, r = pickV x2 5 := ⟨_, rfl⟩
  rw [← hr] at b2
  have HVAL := Lib.hid (show afterV ⟨3, h, e, t⟩ (x0, x1, x2) = ⟨6, min (t + (q)) 10000000, -1⟩ by simp [afterV, kindV, hp, ← hq1, ← hr])
  have HP := Lib.hid hp
  have TN := Lib.hid (show decide (Named 6) = false by decide)
  have HQ := Lib.hid hq1
  have HR := Lib.hid hr
  have s1 : IntKind.i64.wrap (q + 2592000) = q + 2592000 := IntWalk.i64_in _ (by omega)
  have s2 : IntKind.i64.wrap (t + (q)) = t + (q) := IntWalk.i64_in _ (by omega)
  have s3 : IntKind.i64.wrap (r + 1) = r + 1 := IntWalk.i64_in _ (by omega)
  clear v1 v2 v3 v4 v5 v6 v7 v8 b1 b2 hp hq1 hr
  unfold lnA triA
  go_enter Try.func31, Try.ntmps31
  go_upto_region 9 with fail
  go_upto_region 10 with (go_at_call 32; refine (rpick_any x0 3 _ T0 (by decide) (by decide)).mono ?_; rintro e w1 ⟨rfl, rfl⟩; rw [HP.out])
  rotate_left
  generalize hW : ((((((w.alloc _).alloc _).alloc _).alloc _).alloc _).alloc _) = W
  have k0 : W.heap[w.heap.size]? = some (.cells #[.int .i64 3, .int .i64 h, .int .i64 e, .int .i64 t] 26) := by rw [← hW]; exact oldcell _ (oldcell _ (oldcell _ (oldcell _ (oldcell _ (new_at _ (by simp))))))
  have k1 : W.heap[w.heap.size + 1]? = some (.cells #[.int .i64 x0, .int .i64 x1, .int .i64 x2] 23) := by rw [← hW]; exact oldcell _ (oldcell _ (oldcell _ (oldcell _ (new_at _ (by simp)))))
  have k2 : W.heap[w.heap.size + 1 + 1]? = some (.cells #[.int .i64 0, .int .i64 0, .int .i64 0] 54) := by rw [← hW]; exact oldcell _ (oldcell _ (oldcell _ (new_at _ (by simp))))
  have k4 : W.heap[w.heap.size + 1 + 1 + 1 + 1 + 1]? = some (.cells #[.int .i64 6, .int .i64 0, .int .i64 (-1)] 54) := by rw [← hW]; exact new_at _ (by simp)
  have BW := Lib.hid (show Below w.heap.size w W by rw [← hW]; exact below_then (below_then (below_then (below_then (below_then (below_new _ _) (below_new _ _)) (below_new _ _)) (below_new _ _)) (below_new _ _)) (below_new _ _))
  clear hW
  have hlt := heap_lt k4
  obtain ⟨_, c1, _, c3, _⟩ := ln_cells (l := ⟨3, h, e, t⟩) k0
  obtain ⟨y0, y1, y2⟩ := tri_cells k1
  obtain ⟨r0, r1, r2, f0, f1, f2, _⟩ := ev_cells (x := ⟨0, 0, 0⟩) k2
  obtain ⟨d0, d1, d2, g0, g1, g2, _⟩ := ev_cells (x := ⟨6, 0, -1⟩) k4
  dsimp only at c1 c3 r0 r1 r2 d0 d1 d2
  clear k0 k1 k2 k4
  have n0 : w.heap.size ≠ w.heap.size + 1 + 1 + 1 + 1 + 1 := by omega
  have n1 : w.heap.size + 1 ≠ w.heap.size + 1 + 1 + 1 + 1 + 1 := by omega
  have n2 : w.heap.size + 1 + 1 + 1 + 1 + 1 ≠ w.heap.size := by omega
  go_wp2_with (first
    | (go_at_call 32; first
      | (with_reducible refine (rpick_any x1 6 _ T1 (by decide) (by decide)).mono ?_; rintro e w1 ⟨rfl, rfl⟩; rw [← HQ.out])
      | (with_reducible refine (rpick_any x2 5 _ T2 (by decide) (by decide)).mono ?_; rintro e w1 ⟨rfl, rfl⟩; rw [← HR.out]))
    | (go_at_call 43; refine (rnamed_any 6 _).mono ?_; rintro e w1 ⟨rfl, rfl⟩; rw [TN.out]))
  · exact bodyPost_ret (v := evA ⟨6, 10000000, -1⟩) (by simp [results, Try.results31, go_sem, evA, *]) rfl
      ⟨by rw [HVAL.out, Int.min_eq_right (by omega)], (by repeat (first | with_reducible exact BW.out | with_reducible refine Below.drew ?_ | with_reducible refine Below.setCell ?_ (by simp <;> omega) _ | with_reducible refine Below.alloc ?_ (by simp <;> omega) _))⟩
  · exact bodyPost_ret (v := evA ⟨6, t + (q), -1⟩) (by simp [results, Try.results31, go_sem, evA, *]) rfl
      ⟨by rw [HVAL.out, Int.min_eq_left (by omega)], (by repeat (first | with_reducible exact BW.out | with_reducible refine Below.drew ?_ | with_reducible refine Below.setCell ?_ (by simp <;> omega) _ | with_reducible refine Below.alloc ?_ (by simp <;> omega) _))⟩
set_option maxHeartbeats 1600000 in
theorem rafter_3_2 (h e t : Int) (x : T3) (w : World) (hT : Tri x) (hv : Vld ⟨3, h, e, t⟩) (hp : pickV x.1 3 = 2) : Calls Try.prog 31 #[lnA ⟨3, h, e, t⟩, triA x] w (AfterPost ⟨3, h, e, t⟩ x w) := by
  obtain ⟨x0, x1, x2⟩ := x
  obtain ⟨T0, T1, T2⟩ := hT
  obtain ⟨v1, v2, v3, v4, v5, v6, v7, v8⟩ := hv
  dsimp only at T0 T1 T2 v5 v6 hp
  have b1 := pickV_bd x1 (show (0 : Int) < 6 by decide)
  obtain ⟨q, hq1⟩ : ∃ q, q = pickV x1 6 := ⟨_, rfl⟩
  rw [← hq1] at b1
  have b2 := pickV_bd x2 (show (0 : Int) < 5 by decide)
  obtain ⟨r, hr⟩ : ∃ r, r = pickV x2 5 := ⟨_, rfl⟩
  rw [← hr] at b2
  have HVAL := Lib.hid (show afterV ⟨3, h, e, t⟩ (x0, x1, x2) = ⟨7, min (t + (q + 2592000)) 10000000, -1⟩ by simp [afterV, kindV, hp, ← hq1, ← hr])
  have HP := Lib.hid hp
  have TN := Lib.hid (show decide (Named 7) = false by decide)
  have HQ := Lib.hid hq1
  have HR := Lib.hid hr
  have s1 : IntKind.i64.wrap (q + 2592000) = q + 2592000 := IntWalk.i64_in _ (by omega)
  have s2 : IntKind.i64.wrap (t + (q + 2592000)) = t + (q + 2592000) := IntWalk.i64_in _ (by omega)
  have s3 : IntKind.i64.wrap (r + 1) = r + 1 := IntWalk.i64_in _ (by omega)
  clear v1 v2 v3 v4 v5 v6 v7 v8 b1 b2 hp hq1 hr
  unfold lnA triA
  go_enter Try.func31, Try.ntmps31
  go_upto_region 9 with fail
  go_upto_region 10 with (go_at_call 32; refine (rpick_any x0 3 _ T0 (by decide) (by decide)).mono ?_; rintro e w1 ⟨rfl, rfl⟩; rw [HP.out])
  rotate_left
  generalize hW : ((((((w.alloc _).alloc _).alloc _).alloc _).alloc _).alloc _) = W
  have k0 : W.heap[w.heap.size]? = some (.cells #[.int .i64 3, .int .i64 h, .int .i64 e, .int .i64 t] 26) := by rw [← hW]; exact oldcell _ (oldcell _ (oldcell _ (oldcell _ (oldcell _ (new_at _ (by simp))))))
  have k1 : W.heap[w.heap.size + 1]? = some (.cells #[.int .i64 x0, .int .i64 x1, .int .i64 x2] 23) := by rw [← hW]; exact oldcell _ (oldcell _ (oldcell _ (oldcell _ (new_at _ (by simp)))))
  have k2 : W.heap[w.heap.size + 1 + 1]? = some (.cells #[.int .i64 0, .int .i64 0, .int .i64 0] 54) := by rw [← hW]; exact oldcell _ (oldcell _ (oldcell _ (new_at _ (by simp))))
  have k4 : W.heap[w.heap.size + 1 + 1 + 1 + 1 + 1]? = some (.cells #[.int .i64 7, .int .i64 0, .int .i64 (-1)] 54) := by rw [← hW]; exact new_at _ (by simp)
  have BW := Lib.hid (show Below w.heap.size w W by rw [← hW]; exact below_then (below_then (below_then (below_then (below_then (below_new _ _) (below_new _ _)) (below_new _ _)) (below_new _ _)) (below_new _ _)) (below_new _ _))
  clear hW
  have hlt := heap_lt k4
  obtain ⟨_, c1, _, c3, _⟩ := ln_cells (l := ⟨3, h, e, t⟩) k0
  obtain ⟨y0, y1, y2⟩ := tri_cells k1
  obtain ⟨r0, r1, r2, f0, f1, f2, _⟩ := ev_cells (x := ⟨0, 0, 0⟩) k2
  obtain ⟨d0, d1, d2, g0, g1, g2, _⟩ := ev_cells (x := ⟨7, 0, -1⟩) k4
  dsimp only at c1 c3 r0 r1 r2 d0 d1 d2
  clear k0 k1 k2 k4
  have n0 : w.heap.size ≠ w.heap.size + 1 + 1 + 1 + 1 + 1 := by omega
  have n1 : w.heap.size + 1 ≠ w.heap.size + 1 + 1 + 1 + 1 + 1 := by omega
  have n2 : w.heap.size + 1 + 1 + 1 + 1 + 1 ≠ w.heap.size := by omega
  go_wp2_with (first
    | (go_at_call 32; first
      | (with_reducible refine (rpick_any x1 6 _ T1 (by decide) (by decide)).mono ?_; rintro e w1 ⟨rfl, rfl⟩; rw [← HQ.out])
      | (with_reducible refine (rpick_any x2 5 _ T2 (by decide) (by decide)).mono ?_; rintro e w1 ⟨rfl, rfl⟩; rw [← HR.out]))
    | (go_at_call 43; refine (rnamed_any 7 _).mono ?_; rintro e w1 ⟨rfl, rfl⟩; rw [TN.out]))
  · exact bodyPost_ret (v := evA ⟨7, 10000000, -1⟩) (by simp [results, Try.results31, go_sem, evA, *]) rfl
      ⟨by rw [HVAL.out, Int.min_eq_right (by omega)], (by repeat (first | with_reducible exact BW.out | with_reducible refine Below.drew ?_ | with_reducible refine Below.setCell ?_ (by simp <;> omega) _ | with_reducible refine Below.alloc ?_ (by simp <;> omega) _))⟩
  · exact bodyPost_ret (v := evA ⟨7, t + (q + 2592000), -1⟩) (by simp [results, Try.results31, go_sem, evA, *]) rfl
      ⟨by rw [HVAL.out, Int.min_eq_left (by omega)], (by repeat (first | with_reducible exact BW.out | with_reducible refine Below.drew ?_ | with_reducible refine Below.setCell ?_ (by simp <;> omega) _ | with_reducible refine Below.alloc ?_ (by simp <;> omega) _))⟩
theorem rafter_any (l : Ln) (x : T3) (w : World) (hT : Tri x) (hv : Vld l) : Calls Try.prog 31 #[lnA l, triA x] w (AfterPost l x w) := by
  obtain ⟨s, h, e, t⟩ := l
  have v1 := hv.1
  have v2 := hv.2.1
  dsimp only at v1 v2
  have b5 := pickV_bd x.1 (show (0 : Int) < 5 by decide)
  have b2 := pickV_bd x.1 (show (0 : Int) < 2 by decide)
  have b3 := pickV_bd x.1 (show (0 : Int) < 3 by decide)
  have hs : s = 0 ∨ s = 1 ∨ s = 2 ∨ s = 3 := by omega
  rcases hs with rfl | rfl | rfl | rfl
  · exact rafter_0_0 h e t x w hT hv (by have := pickV_bd x.1 (show (0 : Int) < 1 by decide); omega)
  · have hp : pickV x.1 5 = 0 ∨ pickV x.1 5 = 1 ∨ pickV x.1 5 = 2 ∨ pickV x.1 5 = 3 ∨ pickV x.1 5 = 4 := by omega
    rcases hp with hp | hp | hp | hp | hp
    · by_cases hq : pickV x.2.2 5 = h
      · exact rafter_1_0y h e t x w hT hv hp hq
      · exact rafter_1_0n h e t x w hT hv hp hq
    · exact rafter_1_1 h e t x w hT hv hp
    · exact rafter_1_2 h e t x w hT hv hp
    · exact rafter_1_3 h e t x w hT hv hp
    · exact rafter_1_4 h e t x w hT hv hp
  · have hp : pickV x.1 2 = 0 ∨ pickV x.1 2 = 1 := by omega
    rcases hp with hp | hp
    · exact rafter_2_0 h e t x w hT hv hp
    · exact rafter_2_1 h e t x w hT hv hp
  · have hp : pickV x.1 3 = 0 ∨ pickV x.1 3 = 1 ∨ pickV x.1 3 = 2 := by omega
    rcases hp with hp | hp | hp
    · exact rafter_3_0 h e t x w hT hv hp
    · exact rafter_3_1 h e t x w hT hv hp
    · exact rafter_3_2 h e t x w hT hv hp
end Go.Proofs.Ytjhakonpnopcnaa
