/-
  life.lines: the iterator over the lines of events.
-/
import Derived.Test.YtjhakonpnopcnaaL5
import Derived.Test.YtjhakonpnopcnaaIter2
import Derived.Test.YtjhakonpnopcnaaRound
import Derived.Laws.EntriesVeiled
import Derived.Sort.CutIn
set_option linter.unusedVariables false
set_option linter.unusedSimpArgs false
namespace Go.Proofs.Ytjhakonpnopcnaa
open Go Go.RowKit Go.Dial Go.Dial.Lif
attribute [local go_sem] Oper.semAt_some

theorem linesA_app {l : Ln} {es fs : List Ev} (h : All l es) (i : Int) : linesA i l (es ++ fs) = linesA i l es ++ linesA (i + es.length) (fin l es) fs := by
  induction es generalizing l i with
  | nil => simp [linesA, fin]
  | cons e es ih =>
    obtain ⟨h1, h2⟩ := h
    rw [List.cons_append, linesA, linesA, if_pos h1, if_pos h1, ih h2, List.cons_append]
    congr 3
    · simp; omega
/-- the lines of the first j events, the first line ahead of them -/
def preL (es : List Ev) (j : Nat) : List (Int × Ln) := (-1, first) :: linesA 0 first (es.take j)
theorem preL_split {es : List Ev} {j : Nat} (h : All first (es.take j)) (hj : j ≤ es.length) : linesL es = preL es j ++ linesA j (lnK es j) (es.drop j) := by
  have := linesA_app (fs := es.drop j) h 0
  rw [List.take_append_drop, List.length_take, Nat.min_eq_left hj, Int.zero_add] at this
  rw [linesL, preL, this]; rfl
theorem preL_ok {es : List Ev} {j : Nat} (h : All first (es.take j)) (hj : j < es.length) (ho : Ok (lnK es j) es[j]) :
    All first (es.take (j + 1)) ∧ lnK es (j + 1) = nxt (lnK es j) es[j] ∧ linesL es = preL es j ++ (((j : Int), lnK es (j + 1)) :: linesA (j + 1 : Nat) (lnK es (j + 1)) (es.drop (j + 1))) ∧ preL es (j + 1) = preL es j ++ [((j : Int), lnK es (j + 1))] := by
  have e1 : lnK es (j + 1) = nxt (lnK es j) es[j] := lnK_succ hj
  have e2 : All first (es.take (j + 1)) := by
    rw [List.take_succ_eq_append_getElem hj, all_app]; exact ⟨h, ho, trivial⟩
  have e3 : linesA j (lnK es j) (es.drop j) = ((j : Int), lnK es (j + 1)) :: linesA (j + 1 : Nat) (lnK es (j + 1)) (es.drop (j + 1)) := by
    rw [List.drop_eq_getElem_cons hj, linesA, if_pos ho, e1]; rfl
  refine ⟨e2, e1, by rw [preL_split h (by omega), e3], ?_⟩
  have e4 := linesA_app (fs := [es[j]]) h 0
  rw [← List.take_succ_eq_append_getElem hj, List.length_take, Nat.min_eq_left (by omega), Int.zero_add] at e4
  have e5 : linesA j (fin first (es.take j)) [es[j]] = [((j : Int), lnK es (j + 1))] := by
    rw [linesA, if_pos (show Ok (fin first (es.take j)) es[j] from ho), linesA, e1]; rfl
  rw [preL, preL, e4, e5]; rfl
theorem preL_end {es : List Ev} {j : Nat} (h : All first (es.take j)) (hj : j < es.length) (ho : ¬ Ok (lnK es j) es[j]) : linesL es = preL es j := by
  rw [preL_split h (by omega), List.drop_eq_getElem_cons hj, linesA, if_neg ho, List.append_nil]
theorem preL_all (es : List Ev) : linesL es = preL es es.length := by rw [preL, List.take_length]; rfl

def encL (p : Int × Ln) : Array Value := #[.int .i64 p.1, lnA p.2]
theorem llines_any (A : Option Addr) (n c : Nat) (w : World) :
    Calls Try.prog 33 #[.slice A n c] w fun e w' => e = .returned (.func (.func 47) #[] #[.pointer (some ⟨w.heap.size, 0, none⟩)]) ∧ w.alloc (.cells #[.slice A n c] 24) = w' := by
  go_enter Try.func33, Try.ntmps33
  go_wp2_with fail
  go_ret
  exact ⟨rfl, rfl⟩
theorem ln_cells {w : World} {p : Nat} {l : Ln} {t : TypeId} (h : w.heap[p]? = some (.cells #[.int .i64 l.s, .int .i64 l.h, .int .i64 l.e, .int .i64 l.t] t)) :
    w.cell? ⟨p, 0, none⟩ = some (.int .i64 l.s) ∧ w.cell? ⟨p, 1, none⟩ = some (.int .i64 l.h) ∧ w.cell? ⟨p, 2, none⟩ = some (.int .i64 l.e) ∧ w.cell? ⟨p, 3, none⟩ = some (.int .i64 l.t) ∧
    w.frozen? ⟨p, 0, none⟩ = false ∧ w.frozen? ⟨p, 1, none⟩ = false ∧ w.frozen? ⟨p, 2, none⟩ = false ∧ w.frozen? ⟨p, 3, none⟩ = false ∧ p < w.heap.size := by
  refine ⟨?_, ?_, ?_, ?_, ?_, ?_, ?_, ?_, heap_lt h⟩ <;> simp [World.cell?, World.frozen?, h]

theorem set4 {w : World} {p : Nat} {t : TypeId} {x y z q : Value} (a b c d : Value) (h : w.heap[p]? = some (.cells #[x, y, z, q] t)) :
    ((((w.setCell ⟨p, 0, none⟩ a).setCell ⟨p, 1, none⟩ b).setCell ⟨p, 2, none⟩ c).setCell ⟨p, 3, none⟩ d).heap[p]? = some (.cells #[a, b, c, d] t) ∧
      Ext (fun k => k = p) w ((((w.setCell ⟨p, 0, none⟩ a).setCell ⟨p, 1, none⟩ b).setCell ⟨p, 2, none⟩ c).setCell ⟨p, 3, none⟩ d) :=
  ⟨by simp [World.setCell, Array.getElem?_modify, h], (((Ext.setCell (fun k => k = p) w ⟨p, 0, none⟩ a rfl).trans (Ext.setCell (fun k => k = p) _ ⟨p, 1, none⟩ b rfl)).trans (Ext.setCell (fun k => k = p) _ ⟨p, 2, none⟩ c rfl)).trans (Ext.setCell (fun k => k = p) _ ⟨p, 3, none⟩ d rfl)⟩
set_option maxRecDepth 100000 in
set_option maxHeartbeats 1600000 in
theorem lines_iter (es : List Ev) (PA n0 : Nat) (v : Value) (W : World) (hn : n0 ≤ PA) (bA : Boxed W PA 24 v) (hv : HoldsG evc 3 W n0 v es) :
    Iter2 Try.prog 47 #[.pointer (some ⟨PA, 0, none⟩)] encL (linesL es) (fun _ => False) (fun k => k < n0 ∨ k = PA) (protT 26) W := by
  intro l J Jx hJ hJx hY h0
  refine (callsIn_wide (n := 0)).1 (callsIn_of_wp Try.func47 rfl trivial ?_)
  simp only [Try.ntmps47, List.size_toArray, List.length_cons, List.length_nil, Nat.reduceAdd, Nat.reduceSub, Array.replicate_succ, Array.replicate_zero, List.push_toArray, List.append_toArray, List.nil_append, List.cons_append]
  have hJ0 : J [] (W.alloc (.cells #[.int .i64 0, .int .i64 (-1), .int .i64 0, .int .i64 0] 26)) := hJ _ _ _ h0 (Ext.alloc _ _ _)
  have b3 : (W.alloc (.cells #[.int .i64 0, .int .i64 (-1), .int .i64 0, .int .i64 0] 26)).heap[W.heap.size]? = some (.cells #[.int .i64 0, .int .i64 (-1), .int .i64 0, .int .i64 0] 26) := newcell _ _
  have bA1 := bA.alloc (.cells #[.int .i64 0, .int .i64 (-1), .int .i64 0, .int .i64 0] 26)
  obtain ⟨fn, tmps, assign, body, hy, hR⟩ := hY [] (-1, first) (linesA 0 first es) _ rfl hJ0
  dsimp only [encL, lnA, first] at hy
  have HR := Lib.hid hR
  have HY := Lib.hid hY
  have HJ := Lib.hid hJ
  have HB3 := Lib.hid b3
  have HBA := Lib.hid bA1
  have HPA := Lib.hid (heap_lt bA)
  have HV : Hid (HoldsG evc 3 (W.alloc (.cells #[.int .i64 0, .int .i64 (-1), .int .i64 0, .int .i64 0] 26)) n0 v es) := Lib.hid (hv.keep fun k hk => Below.heap_alloc W _ k (by have := heap_lt bA; omega))
  clear hJ hJx hY h0 hJ0 bA hv b3 bA1
  gi_wp2_with fail
  refine HR.out.mono ?_
  rintro e W3 (⟨rfl, hJ3, hs3, hk3, hp3⟩ | ⟨rfl, hJx3⟩)
  · have q3 := hp3 W.heap.size _ (Nat.le_refl _) ⟨_, _, rfl⟩ HB3.out
    have qA : Boxed W3 PA 24 v := (hk3 PA (.inr rfl)).trans HBA.out
    obtain ⟨A, c, rfl, hl0, hc0, sp⟩ := HV.out.keep (fun k hk => hk3 k (.inl hk))
    unfold maxLen at hc0
    have kA := qA.cell
    have lA := heap_lt qA
    have HQ3 := Lib.hid q3
    have HQA := Lib.hid qA
    have HSP := Lib.hid sp
    clear q3 qA sp hk3 hp3 hs3 hy hR HB3 HBA HV HR
    gi_wp2_with fail
    gi_loopw [15] (fun i wr => ∃ j : Nat, j ≤ es.length ∧ i = .int .i64 j ∧ All first (es.take j) ∧ wr.heap[W.heap.size]? = some (.cells #[.int .i64 (lnK es j).s, .int .i64 (lnK es j).h, .int .i64 (lnK es j).e, .int .i64 (lnK es j).t] 26) ∧
        Boxed wr PA 24 (.slice A es.length c) ∧ Span wr n0 3 A es.length (es.flatMap evc) ∧ J (preL es j) wr)
      (fun i _ => es.length - (intOf i).toNat)
    case atStart => exact ⟨0, by omega, rfl, trivial, HQ3.out, HQA.out, HSP.out, hJ3⟩
    case round =>
      obtain ⟨j, hj, rfl, hall, hb3, hbA, hsp, hJp⟩ := hrel
      clear kA lA HQ3 HQA HSP hJ3
      have HALL := Lib.hid hall
      have HB3 := Lib.hid hb3
      have HBA := Lib.hid hbA
      have HSP := Lib.hid hsp
      have HJP := Lib.hid hJp
      by_cases hjn : j < es.length
      · obtain ⟨x, hx⟩ : ∃ x, x = es[j] := ⟨_, rfl⟩
        obtain ⟨L, hL⟩ : ∃ L, L = lnK es j := ⟨_, rfl⟩
        obtain ⟨ad, rfl, hab, hat⟩ := rows_at evc_len hsp (by decide) (List.getElem?_eq_getElem hjn)
        rw [← hx] at hat
        have x0 := hat.c0
        have x1 := hat.ck 0 (u := .int .i64 x.a) rfl
        have x2 := hat.ck 1 (u := .int .i64 x.h) rfl
        rw [← hL] at hb3
        obtain ⟨c0, c1, c2, c3, f0, f1, f2, f3, lt3⟩ := ln_cells hb3
        have HX := Lib.hid hx
        have HL := Lib.hid hL
        have z0 : (0 : Int) ≤ (j : Int) := by omega
        have z1 : (j : Int) < (es.length : Int) := by omega
        clear hx hL hat hb3 hbA hsp hJp hall
        by_cases ho : Ok L x
        · obtain ⟨k1, k2, k3, k4⟩ := preL_ok HALL.out hjn (by rw [← HX.out, ← HL.out]; exact ho)
          have HST := Lib.hid (stepR_ok ho)
          obtain ⟨M, hM⟩ : ∃ M, M = nxt L x := ⟨_, rfl⟩
          have hM2 : lnK es (j + 1) = M := by rw [k2, hM, ← HX.out, ← HL.out]
          rw [hM2] at k3 k4
          have HM := Lib.hid hM
          have HM2 := Lib.hid hM2
          have K1 := Lib.hid k1
          have K3 := Lib.hid k3
          have K4 := Lib.hid k4
          clear ho hM hM2 k1 k2 k3 k4
          gi_wp2_with fail
          refine ((callsIn_wide (n := 0)).2 (lstep_any L x _)).mono ?_
          rintro e W4 ⟨rfl, hb4⟩
          rw [HST.out, ← HM.out]
          dsimp only [lnA]
          gi_wp2_with fail
          have hbw := below_then (below_then (below_new wr (.cells #[.int .i64 x.k, .int .i64 x.a, .int .i64 x.h] 54)) hb4) (below_new W4 (.cells #[.int .i64 M.s, .int .i64 M.h, .int .i64 M.e, .int .i64 M.t] 26))
          have nb : (W4.alloc (.cells #[.int .i64 M.s, .int .i64 M.h, .int .i64 M.e, .int .i64 M.t] 26)).heap[W4.heap.size]? = some (.cells #[.int .i64 M.s, .int .i64 M.h, .int .i64 M.e, .int .i64 M.t] 26) := newcell _ _
          have hW4 : W.heap.size ≤ W4.heap.size := by have := hb4.size; simp at this; omega
          have hne : W.heap.size ≠ W4.heap.size := by have := hb4.size; simp at this; omega
          obtain ⟨Y, hY1⟩ : ∃ Y, Y = W4.alloc (.cells #[.int .i64 M.s, .int .i64 M.h, .int .i64 M.e, .int .i64 M.t] 26) := ⟨_, rfl⟩
          rw [← hY1] at hbw nb ⊢
          clear hY1 hb4
          have y3 := keepcell HB3.out hbw
          have yA : Boxed Y PA 24 _ := keepcell HBA.out hbw
          have hJY := HJ.out _ _ _ HJP.out (Ext.of_below hbw (fun k h1 h2 => absurd h1 (by omega)))
          have YSP := Lib.hid (HSP.out.below hbw (by have := HPA.out; omega))
          obtain ⟨fn, tmps, assign, body, hy, hR⟩ := HY.out (preL es j) (j, M) _ Y K3.out hJY
          dsimp only [encL, lnA] at hy
          have HR := Lib.hid hR
          have Y3 := Lib.hid y3
          have YA := Lib.hid yA
          have NB := Lib.hid nb
          obtain ⟨d0, d1, d2, d3, _, _, _, _, lt6⟩ := ln_cells (l := M) nb
          clear y3 yA hJY hR HJP HB3 HBA HSP x0 x1 x2 c0 c1 c2 c3 f0 f1 f2 f3 nb hbw
          gi_wp2_with fail
          clear d0 d1 d2 d3 lt6
          rw [hy, Oper.uponIn_round]
          refine ⟨fun h => by simp [Fence.wide] at h, HR.out.mono ?_⟩
          rintro e W5 (⟨rfl, hJ5, hs5, hk5, hp5⟩ | ⟨rfl, hJx5⟩)
          · have q3 := hp5 _ _ (Nat.le_refl _) ⟨_, _, rfl⟩ Y3.out
            have qA : Boxed W5 PA 24 _ := (hk5 PA (.inr rfl)).trans YA.out
            have qN := hp5 _ _ hW4 ⟨_, _, rfl⟩ NB.out
            have QSP := Lib.hid (YSP.out.keep (fun p hp => World.cell?_of_block (hk5 _ (.inl hp))))
            obtain ⟨s1, s2⟩ := set4 (.int .i64 M.s) (.int .i64 M.h) (.int .i64 M.e) (.int .i64 M.t) q3
            obtain ⟨c0, c1, c2, c3, f0, f1, f2, f3, lt5⟩ := ln_cells (l := lnK es j) q3
            obtain ⟨d0, d1, d2, d3, _, _, _, _, lt6⟩ := ln_cells (l := M) qN
            have hJ6 := HJ.out _ _ _ hJ5 (s2.mono (fun k _ e => by subst e; exact .inr ⟨Nat.le_refl _, _, q3, ⟨_, _, rfl⟩⟩))
            have S1 := Lib.hid s1
            have S2 := Lib.hid s2
            have QA := Lib.hid qA
            have HJ6 := Lib.hid hJ6
            clear hJ5 hs5 hk5 hp5 hy HR q3 qA qN s1 s2 hJ6 Y3 YA NB YSP
            gi_wp2_with fail
            go_roundw
            case rel =>
              exact ⟨j + 1, by omega, by go_num, K1.out, by rw [HM2.out]; exact S1.out, S2.out.keeps QA.out (by have := HPA.out; omega), QSP.out.keep (fun p hp => World.cell?_of_block (S2.out.block _ (by have := S2.out.size; have := HPA.out; omega) (by have := HPA.out; omega))), by rw [K4.out]; exact HJ6.out⟩
            case measure => simp [intOf]; omega
          · gi_wp2_with fail
            refine bodyPost_ret (results_none rfl _ _ _) rfl ⟨⟨_, rfl⟩, .inr ⟨preL es j, (↑j, M), _, K3.out, hJx5⟩⟩
        · have HST := Lib.hid (stepR_no ho)
          have HEND := Lib.hid (preL_end HALL.out hjn (by rw [← HX.out, ← HL.out]; exact ho))
          clear ho
          gi_wp2_with fail
          refine ((callsIn_wide (n := 0)).2 (lstep_any L x _)).mono ?_
          rintro e W4 ⟨rfl, hb4⟩
          rw [HST.out]
          dsimp only [lnA, zero]
          gi_wp2_with fail
          refine bodyPost_ret (results_none rfl _ _ _) rfl ⟨⟨_, rfl⟩, .inl ?_⟩
          rw [HEND.out]
          exact HJ.out _ _ _ HJP.out (Ext.of_below (below_then (below_then (below_new wr _) hb4) (below_new _ _)) (fun k h1 h2 => absurd h1 (by omega)))
      · have HEND := Lib.hid (show linesL es = preL es es.length from preL_all es)
        obtain rfl : j = es.length := by omega
        clear hb3 hbA hsp hJp hall
        gi_wp2_with fail
        go_end0
        exact ⟨⟨_, rfl⟩, .inl (by rw [HEND.out]; exact HJP.out)⟩
  · gi_wp2_with fail
    refine bodyPost_ret (results_none rfl _ _ _) rfl ⟨⟨_, rfl⟩, .inr ⟨[], (-1, first), _, rfl, hJx3⟩⟩
end Go.Proofs.Ytjhakonpnopcnaa
