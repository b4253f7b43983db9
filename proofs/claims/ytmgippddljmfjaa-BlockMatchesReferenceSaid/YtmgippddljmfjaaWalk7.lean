/-
  block.pieces: the iterator.
-/
import Derived.Test.YtmgippddljmfjaaWalk6
import Derived.Laws.EntriesVeiled
import Derived.Sort.CutIn
namespace Go.Proofs.Ytmgippddljmfjaa
open Go Go.RowKit Go.Dial Go.Dial.Blk
attribute [local go_sem] Oper.semAt_some

def encP (p : Int × Int × Int × Int) : Array Value := #[.agg #[.int .i64 p.1, .int .i64 p.2.1], .agg #[.int .i64 p.2.2.1, .int .i64 p.2.2.2]]

theorem pieces_any (A0 A1 : Option Addr) (n0 n1 c0 c1 : Nat) (w : World) :
    Calls Try.prog 57 #[.slice A0 n0 c0, .slice A1 n1 c1] w fun e w' => e = .returned (.func (.func 67) #[] #[.pointer (some ⟨w.heap.size + 2, 0, none⟩), .pointer (some ⟨w.heap.size, 0, none⟩), .pointer (some ⟨w.heap.size + 1, 0, none⟩)]) ∧
      ((w.alloc (.cells #[.slice A0 n0 c0] 24)).alloc (.cells #[.slice A1 n1 c1] 24)).alloc (.cells #[.func (.func 66) #[] #[]] 78) = w' := by
  go_enter Try.func57, Try.ntmps57
  go_wp2_with fail
  go_ret
  exact ⟨rfl, rfl⟩

theorem pieces_cons (a b : List B3) {n : Int} (h : n < 100000000) : pieces a b n = (n, min (at_ a n).2.2 (at_ b n).2.2, (at_ a n).2.1, (at_ b n).2.1) :: pieces (at_ a n).1 (at_ b n).1 (min (at_ a n).2.2 (at_ b n).2.2) := by
  rw [pieces, dif_pos h]
theorem pieces_end (a b : List B3) {n : Int} (h : ¬ n < 100000000) : pieces a b n = [] := by
  rw [pieces, dif_neg h]
theorem HoldsB.keep {w w' : World} {B : Nat} {v : Value} {bs : List B3} (h : HoldsB w B v bs) (hk : ∀ k, k < B → w'.heap[k]? = w.heap[k]?) : HoldsB w' B v bs := by
  obtain ⟨A, c, rfl, h1, h2, h3⟩ := h
  exact ⟨A, c, rfl, h1, h2, h3.keep fun p hp => World.cell?_of_block (hk _ hp)⟩

/-- behind a draw, a box and a cell of another block are written -/
theorem two_sets {X : World} {m p q i : Nat} {u v : Value} {x : Value} {t t' : TypeId} {cs : Array Value} (hp : Boxed X p t x) (hq : X.heap[q]? = some (.cells cs t')) (hne : p ≠ q) :
    Boxed (((X.drewN m).setCell ⟨p, 0, none⟩ v).setCell ⟨q, i, none⟩ u) p t v ∧ (((X.drewN m).setCell ⟨p, 0, none⟩ v).setCell ⟨q, i, none⟩ u).heap[q]? = some (.cells (cs.setIfInBounds i u) t') ∧
    (∀ k, k ≠ p → k ≠ q → (((X.drewN m).setCell ⟨p, 0, none⟩ v).setCell ⟨q, i, none⟩ u).heap[k]? = X.heap[k]?) ∧ (((X.drewN m).setCell ⟨p, 0, none⟩ v).setCell ⟨q, i, none⟩ u).heap.size = X.heap.size ∧
    Ext (fun k => k = p ∨ k = q) X (((X.drewN m).setCell ⟨p, 0, none⟩ v).setCell ⟨q, i, none⟩ u) := by
  unfold Boxed at hp
  have hk : ∀ k, k ≠ p → k ≠ q → (((X.drewN m).setCell ⟨p, 0, none⟩ v).setCell ⟨q, i, none⟩ u).heap[k]? = X.heap[k]? := fun k h1 h2 => by
    rw [Below.heap_setCell _ _ _ _ h2, Below.heap_setCell _ _ _ _ h1]; rfl
  refine ⟨?_, ?_, hk, by simp [World.setCell], rfl, rfl, rfl, by simp [World.setCell], fun k _ hm => hk k (fun e => hm (.inl e)) (fun e => hm (.inr e))⟩
  · show _ = _
    rw [Below.heap_setCell _ _ _ _ hne]
    simp [World.setCell, Array.getElem?_modify, hp]
  · have hq' : ((X.drewN m).setCell ⟨p, 0, none⟩ v).heap[q]? = some (.cells cs t') := by rw [Below.heap_setCell _ _ _ _ (Ne.symm hne)]; exact hq
    generalize (X.drewN m).setCell ⟨p, 0, none⟩ v = Z at hq' ⊢
    simp [World.setCell, Array.getElem?_modify, hq']

set_option maxRecDepth 100000 in
set_option maxHeartbeats 1600000 in
theorem pieces_iter (a b : List B3) (P5 PA PB n0 : Nat) (W : World) (ha : Some a) (hb : Some b) (va vb : Value) (hn5 : n0 ≤ P5) (hnA : n0 ≤ PA) (hnB : n0 ≤ PB) (h5A : P5 ≠ PA) (h5B : P5 ≠ PB) (hAB : PA ≠ PB)
    (b5 : Boxed W P5 78 (.func (.func 66) #[] #[])) (bA : Boxed W PA 24 va) (bB : Boxed W PB 24 vb) (hva : HoldsB W n0 va a) (hvb : HoldsB W n0 vb b) :
    Iter Try.prog 67 #[.pointer (some ⟨P5, 0, none⟩), .pointer (some ⟨PA, 0, none⟩), .pointer (some ⟨PB, 0, none⟩)] encP (pieces a b 0) (fun k => k = PA ∨ k = PB) (fun k => k < n0 ∨ k = PA ∨ k = PB ∨ k = P5) W := by
  intro l J Jx hJ hJx hY h0
  refine (callsIn_wide (n := 0)).1 (callsIn_of_wp Try.func67 rfl trivial ?_)
  simp only [Try.ntmps67, List.size_toArray, List.length_cons, List.length_nil, Nat.reduceAdd, Nat.reduceSub, Array.replicate_succ, Array.replicate_zero, List.push_toArray, List.append_toArray, List.nil_append, List.cons_append]
  gi_wp2
  gi_loopw [5] (fun i wr => ∃ (pre : List (Int × Int × Int × Int)) (a' b' : List B3) (n : Int) (va' vb' : Value), i = .int .i64 n ∧ 0 ≤ n ∧ n ≤ 100000000 ∧ pieces a b 0 = pre ++ pieces a' b' n ∧ Some a' ∧ Some b' ∧ Boxed wr P5 78 (.func (.func 66) #[] #[]) ∧ Boxed wr PA 24 va' ∧ Boxed wr PB 24 vb' ∧ HoldsB wr n0 va' a' ∧ HoldsB wr n0 vb' b' ∧ J pre wr)
    (fun i _ => (100000000 - intOf i).toNat)
  case atStart => exact ⟨[], a, b, 0, va, vb, rfl, by omega, by omega, rfl, ha, hb, b5, bA, bB, hva, hvb, h0⟩
  case round =>
    obtain ⟨pre, a', b', n, va', vb', rfl, hn0, hn1, hp, hsa, hsb, b5', bA', bB', ⟨A0, c0, rfl, hl0, hc0, sp0⟩, ⟨A1, c1, rfl, hl1, hc1, sp1⟩, hJp⟩ := hrel
    clear b5 bA bB hva hvb h0
    by_cases hn : n < 100000000
    · rw [pieces_cons a' b' hn] at hp
      obtain ⟨s1, e1, _, _, x0, x7⟩ := at_spec hsa n
      obtain ⟨s2, e2, _, _, y0, y7⟩ := at_spec hsb n
      have g1 := at_gt a' hn
      have g2 := at_gt b' hn
      obtain ⟨⟨l1, k1, t1⟩, hq1⟩ : ∃ q, q = at_ a' n := ⟨_, rfl⟩
      obtain ⟨⟨l2, k2, t2⟩, hq2⟩ : ∃ q, q = at_ b' n := ⟨_, rfl⟩
      rw [← hq1] at s1 e1 x0 x7 g1 hp
      rw [← hq2] at s2 e2 y0 y7 g2 hp
      simp only at s1 e1 x0 x7 g1 s2 e2 y0 y7 g2 hp
      have HQ1 := Lib.hid hq1.symm
      have HQ2 := Lib.hid hq2.symm
      have HP := Lib.hid hp
      clear hq1 hq2 hp
      have k5 := b5'.cell
      have kA := bA'.cell
      have kB := bB'.cell
      have fA := bA'.frozen
      have fB := bB'.frozen
      have lA : PA < wr.heap.size := (Array.getElem?_eq_some_iff.1 bA').1
      have lB : PB < wr.heap.size := (Array.getElem?_eq_some_iff.1 bB').1
      have l5 : P5 < wr.heap.size := (Array.getElem?_eq_some_iff.1 b5').1
      gi_wp2_with fail
      refine ((callsIn_wide (n := 0)).2 (at_any n0 A0 c0 a' n _ hl0 hc0 (sp0.keep fun p hp => World.cell?_alloc_lt _ _ _ (by omega)))).mono ?_
      rintro e w1 ⟨⟨v, rfl, hv⟩, m, rfl⟩
      rw [HQ1.out] at hv ⊢
      simp only at hv ⊢
      have hv0 := hv
      obtain ⟨A2, c2, rfl, hl2, hc2, sp2⟩ := hv
      gi_wp2_with fail
      obtain ⟨z1, z2, z3, z4, z5⟩ := two_sets (X := wr.alloc (.cells #[.int .i64 0, .int .i64 0] 35)) (m := m) (i := 0) (u := .int .i64 k1) (v := .slice A2 l1.length c2) (bA'.alloc _) (World.alloc_heap_new wr _) (show PA ≠ wr.heap.size by omega)
      generalize (((wr.alloc (.cells #[.int .i64 0, .int .i64 0] 35)).drewN m).setCell ⟨PA, 0, none⟩ (.slice A2 l1.length c2)).setCell ⟨wr.heap.size, 0, none⟩ (.int .i64 k1) = X at z1 z2 z3 z4 z5 ⊢
      have zk : ∀ k, k < wr.heap.size → k ≠ PA → X.heap[k]? = wr.heap[k]? := fun k h1 h2 => (z3 k h2 (by omega)).trans (Below.heap_alloc _ _ _ h1)
      rw [World.size_alloc] at z4
      have z6 : Ext (fun k => k = PA ∨ k = PB) wr X := ⟨z5.os, z5.tape, z5.output, by omega, fun k hk hm => zk k hk (fun e => hm (.inl e))⟩
      clear z5 z3
      have bBX : Boxed X PB 24 (.slice A1 b'.length c1) := (zk PB lB (Ne.symm hAB)).trans bB'
      refine ((callsIn_wide (n := 0)).2 (at_any n0 A1 c1 b' n _ hl1 hc1 (sp1.keep fun p hp => World.cell?_of_block (zk _ (by omega) (by omega))))).mono ?_
      rintro e w1 ⟨⟨v, rfl, hv⟩, m', rfl⟩
      rw [HQ2.out] at hv ⊢
      simp only at hv ⊢
      obtain ⟨A3, c3, rfl, hl3, hc3, sp3⟩ := hv
      have kBX := bBX.cell
      have fBX := bBX.frozen
      have q1 := blk_frozen z2 1
      have q0 := blk_cell (cs := [.int .i64 k1, .int .i64 0]) z2 (i := 1) rfl
      have lBX : PB < X.heap.size := by omega
      have lQX : wr.heap.size < X.heap.size := by omega
      clear kA kB fA fB k5
      gi_upto_region 6 with fail
      obtain ⟨y1, y2, y3, y4, y5⟩ := two_sets (X := X) (m := m') (i := 1) (u := .int .i64 k2) (v := .slice A3 l2.length c3) bBX z2 (show PB ≠ wr.heap.size by omega)
      generalize ((X.drewN m').setCell ⟨PB, 0, none⟩ (.slice A3 l2.length c3)).setCell ⟨wr.heap.size, 1, none⟩ (.int .i64 k2) = Y at y1 y2 y3 y4 y5 ⊢
      have yk : ∀ k, k < wr.heap.size → k ≠ PA → k ≠ PB → Y.heap[k]? = wr.heap[k]? := fun k h1 h2 h3 => (y3 k h3 (by omega)).trans (zk k h1 h2)
      have y6 : Ext (fun k => k = PA ∨ k = PB) wr Y := ⟨y5.os.trans z6.os, y5.tape.trans z6.tape, y5.output.trans z6.output, by omega, fun k hk hm => yk k hk (fun e => hm (.inl e)) (fun e => hm (.inr e))⟩
      have hJY := hJ _ _ _ hJp y6
      have yA : Boxed Y PA 24 (.slice A2 l1.length c2) := (y3 PA hAB (by omega)).trans z1
      have y5b : Boxed Y P5 78 (.func (.func 66) #[] #[]) := (yk P5 l5 h5A h5B).trans b5'
      have YA := Lib.hid yA
      have YB := Lib.hid y1
      have Y5 := Lib.hid y5b
      have HA : HoldsB Y n0 (.slice A2 l1.length c2) l1 := hv0.keep (fun k hk => (yk k (by omega) (by omega) (by omega)).trans (Below.heap_alloc wr _ k (by omega)).symm)
      have HB : HoldsB Y n0 (.slice A3 l2.length c3) l2 := HoldsB.keep ⟨A3, c3, rfl, hl3, hc3, sp3⟩ (fun k hk => y3 k (by omega) (by omega))
      have HHA := Lib.hid HA
      have HHB := Lib.hid HB
      have d0 := blk_cell (cs := [.int .i64 k1, .int .i64 k2]) y2 (i := 0) rfl
      have d1 := blk_cell (cs := [.int .i64 k1, .int .i64 k2]) y2 (i := 1) rfl
      obtain ⟨t, ht, hcase⟩ : ∃ t, t = min t1 t2 ∧ ((t1 ≤ t2 ∧ t = t1) ∨ (t2 < t1 ∧ t = t2)) := ⟨_, rfl, by omega⟩
      have hp := HP.out
      rw [← ht] at hp
      obtain ⟨fn, tmps, assign, body, hy, hR⟩ := hY pre (n, t, k1, k2) _ Y hp hJY
      dsimp only [encP] at hy
      have HP2 := Lib.hid hp
      clear hp HP sp3 sp2 hv0 HA HB y5b yA y1 y2 y3 y4 y5 yk y6 z1 z2 z4 zk z6 bBX kBX fBX q1 q0 ht hJ hJx hY b5' bA' bB' sp0 sp1 lBX lQX
      rcases hcase with ⟨hle, rfl⟩ | ⟨hle, rfl⟩
      all_goals
        gi_wp2_with fail
        refine hR.mono ?_
        rintro e W3 (⟨rfl, hJ3, hs3, hk3⟩ | ⟨rfl, hJx3⟩)
        · clear d0 d1 hJY hy hR
          gi_wp2_with fail
          go_roundw
          case rel =>
            exact ⟨pre ++ [(n, _, k1, k2)], l1, l2, _, _, _, rfl, by omega, by omega, by rw [HP2.out]; simp, s1, s2, (hk3 P5 (by simp)).trans Y5.out, (hk3 PA (by simp)).trans YA.out, (hk3 PB (by simp)).trans YB.out,
              HHA.out.keep (fun k hk => hk3 k (.inl hk)), HHB.out.keep (fun k hk => hk3 k (.inl hk)), hJ3⟩
          case measure => simp [intOf]; omega
        · gi_wp2_with fail
          refine bodyPost_ret (results_none rfl _ _ _) rfl ?_
          exact ⟨⟨_, rfl⟩, .inr ⟨pre, (n, _, k1, k2), _, HP2.out, hJx3⟩⟩
    · have hp0 : pieces a b 0 = pre := by rw [hp, pieces_end _ _ hn, List.append_nil]
      have HP := Lib.hid hp0
      clear hp hp0 sp0 sp1
      gi_wp2_with fail
      go_end0
      exact ⟨⟨_, rfl⟩, .inl (by rw [HP.out]; exact hJp)⟩
end Go.Proofs.Ytmgippddljmfjaa
