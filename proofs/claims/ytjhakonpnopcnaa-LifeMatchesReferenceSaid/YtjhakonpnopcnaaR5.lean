/-
  Equality of the structs of life; dialtoneref14.SameStays (written by r5.py).
-/
import Derived.Test.YtjhakonpnopcnaaR4
import Derived.Laws.StructEq
set_option linter.unusedVariables false
set_option linter.unusedSimpArgs false
namespace Go.Proofs.Ytjhakonpnopcnaa
open Go Go.RowKit Go.Dial Go.Dial.Lif

theorem underSp : Try.prog.underlying 64 = some (.struct (Try.prog.fieldsOf 64)) := by kernel_rfl
theorem eqSp (d : Nat) (a0 a1 b0 b1 : Int) (w : World) : (Op.equalIn (d + 1 + 1) 64 (.agg #[.int .i64 a0, .int .i64 a1]) (.agg #[.int .i64 b0, .int .i64 b1])).run Try.prog w = .ok (decide (a0 = b0 ∧ a1 = b1)) w := by
  rw [run_equalIn_struct w (d + 1) 64 _ _ underSp (by kernel_rfl)]
  have h3 := Try.underlying3
  simp only [Program.fieldsOf, Try.underlying64]
  simp [Op.eqFields, go_sem, h3]
  by_cases h0 : a0 = b0 <;> by_cases h1 : a1 = b1 <;> simp [h0, h1]
theorem neqSp (a0 a1 b0 b1 : Int) (w : World) : (binOp .neq 64 (.agg #[.int .i64 a0, .int .i64 a1]) (.agg #[.int .i64 b0, .int .i64 b1])).run Try.prog w = .ok (.bool (!decide (a0 = b0 ∧ a1 = b1))) w := by
  rw [run_neq_struct, show (10000 : Nat) = 9998 + 1 + 1 from rfl, eqSp 9998 a0 a1 b0 b1 w]; rfl
theorem eqlSp (a0 a1 b0 b1 : Int) (w : World) : (binOp .eql 64 (.agg #[.int .i64 a0, .int .i64 a1]) (.agg #[.int .i64 b0, .int .i64 b1])).run Try.prog w = .ok (.bool (decide (a0 = b0 ∧ a1 = b1))) w := by
  rw [run_eql_struct, show (10000 : Nat) = 9998 + 1 + 1 from rfl, eqSp 9998 a0 a1 b0 b1 w]; rfl
theorem underLn : Try.prog.underlying 26 = some (.struct (Try.prog.fieldsOf 26)) := by kernel_rfl
theorem eqLn (d : Nat) (a0 a1 a2 a3 b0 b1 b2 b3 : Int) (w : World) : (Op.equalIn (d + 1 + 1) 26 (.agg #[.int .i64 a0, .int .i64 a1, .int .i64 a2, .int .i64 a3]) (.agg #[.int .i64 b0, .int .i64 b1, .int .i64 b2, .int .i64 b3])).run Try.prog w = .ok (decide (a0 = b0 ∧ a1 = b1 ∧ a2 = b2 ∧ a3 = b3)) w := by
  rw [run_equalIn_struct w (d + 1) 26 _ _ underLn (by kernel_rfl)]
  have h3 := Try.underlying3
  simp only [Program.fieldsOf, Try.underlying26]
  simp [Op.eqFields, go_sem, h3]
  by_cases h0 : a0 = b0 <;> by_cases h1 : a1 = b1 <;> by_cases h2 : a2 = b2 <;> by_cases h3 : a3 = b3 <;> simp [h0, h1, h2, h3]
theorem neqLn (a0 a1 a2 a3 b0 b1 b2 b3 : Int) (w : World) : (binOp .neq 26 (.agg #[.int .i64 a0, .int .i64 a1, .int .i64 a2, .int .i64 a3]) (.agg #[.int .i64 b0, .int .i64 b1, .int .i64 b2, .int .i64 b3])).run Try.prog w = .ok (.bool (!decide (a0 = b0 ∧ a1 = b1 ∧ a2 = b2 ∧ a3 = b3))) w := by
  rw [run_neq_struct, show (10000 : Nat) = 9998 + 1 + 1 from rfl, eqLn 9998 a0 a1 a2 a3 b0 b1 b2 b3 w]; rfl
theorem eqlLn (a0 a1 a2 a3 b0 b1 b2 b3 : Int) (w : World) : (binOp .eql 26 (.agg #[.int .i64 a0, .int .i64 a1, .int .i64 a2, .int .i64 a3]) (.agg #[.int .i64 b0, .int .i64 b1, .int .i64 b2, .int .i64 b3])).run Try.prog w = .ok (.bool (decide (a0 = b0 ∧ a1 = b1 ∧ a2 = b2 ∧ a3 = b3))) w := by
  rw [run_eql_struct, show (10000 : Nat) = 9998 + 1 + 1 from rfl, eqLn 9998 a0 a1 a2 a3 b0 b1 b2 b3 w]; rfl
theorem underEv : Try.prog.underlying 54 = some (.struct (Try.prog.fieldsOf 54)) := by kernel_rfl
theorem eqEv (d : Nat) (a0 a1 a2 b0 b1 b2 : Int) (w : World) : (Op.equalIn (d + 1 + 1) 54 (.agg #[.int .i64 a0, .int .i64 a1, .int .i64 a2]) (.agg #[.int .i64 b0, .int .i64 b1, .int .i64 b2])).run Try.prog w = .ok (decide (a0 = b0 ∧ a1 = b1 ∧ a2 = b2)) w := by
  rw [run_equalIn_struct w (d + 1) 54 _ _ underEv (by kernel_rfl)]
  have h3 := Try.underlying3
  simp only [Program.fieldsOf, Try.underlying54]
  simp [Op.eqFields, go_sem, h3]
  by_cases h0 : a0 = b0 <;> by_cases h1 : a1 = b1 <;> by_cases h2 : a2 = b2 <;> simp [h0, h1, h2]
theorem neqEv (a0 a1 a2 b0 b1 b2 : Int) (w : World) : (binOp .neq 54 (.agg #[.int .i64 a0, .int .i64 a1, .int .i64 a2]) (.agg #[.int .i64 b0, .int .i64 b1, .int .i64 b2])).run Try.prog w = .ok (.bool (!decide (a0 = b0 ∧ a1 = b1 ∧ a2 = b2))) w := by
  rw [run_neq_struct, show (10000 : Nat) = 9998 + 1 + 1 from rfl, eqEv 9998 a0 a1 a2 b0 b1 b2 w]; rfl
theorem eqlEv (a0 a1 a2 b0 b1 b2 : Int) (w : World) : (binOp .eql 54 (.agg #[.int .i64 a0, .int .i64 a1, .int .i64 a2]) (.agg #[.int .i64 b0, .int .i64 b1, .int .i64 b2])).run Try.prog w = .ok (.bool (decide (a0 = b0 ∧ a1 = b1 ∧ a2 = b2))) w := by
  rw [run_eql_struct, show (10000 : Nat) = 9998 + 1 + 1 from rfl, eqEv 9998 a0 a1 a2 b0 b1 b2 w]; rfl
theorem underMl : Try.prog.underlying 28 = some (.struct (Try.prog.fieldsOf 28)) := by kernel_rfl
theorem eqMl (d : Nat) (a0 a1 b0 b1 : Int) (w : World) : (Op.equalIn (d + 1 + 1) 28 (.agg #[.int .i64 a0, .int .i64 a1]) (.agg #[.int .i64 b0, .int .i64 b1])).run Try.prog w = .ok (decide (a0 = b0 ∧ a1 = b1)) w := by
  rw [run_equalIn_struct w (d + 1) 28 _ _ underMl (by kernel_rfl)]
  have h3 := Try.underlying3
  simp only [Program.fieldsOf, Try.underlying28]
  simp [Op.eqFields, go_sem, h3]
  by_cases h0 : a0 = b0 <;> by_cases h1 : a1 = b1 <;> simp [h0, h1]
theorem neqMl (a0 a1 b0 b1 : Int) (w : World) : (binOp .neq 28 (.agg #[.int .i64 a0, .int .i64 a1]) (.agg #[.int .i64 b0, .int .i64 b1])).run Try.prog w = .ok (.bool (!decide (a0 = b0 ∧ a1 = b1))) w := by
  rw [run_neq_struct, show (10000 : Nat) = 9998 + 1 + 1 from rfl, eqMl 9998 a0 a1 b0 b1 w]; rfl
theorem eqlMl (a0 a1 b0 b1 : Int) (w : World) : (binOp .eql 28 (.agg #[.int .i64 a0, .int .i64 a1]) (.agg #[.int .i64 b0, .int .i64 b1])).run Try.prog w = .ok (.bool (decide (a0 = b0 ∧ a1 = b1))) w := by
  rw [run_eql_struct, show (10000 : Nat) = 9998 + 1 + 1 from rfl, eqMl 9998 a0 a1 b0 b1 w]; rfl
theorem underSt : Try.prog.underlying 66 = some (.struct (Try.prog.fieldsOf 66)) := by kernel_rfl
theorem neqSt (x y : St) (w : World) : (binOp .neq 66 (.agg #[.int .i64 x.h, .int .i64 x.e, .int .i64 x.f, .int .i64 x.t]) (.agg #[.int .i64 y.h, .int .i64 y.e, .int .i64 y.f, .int .i64 y.t])).run Try.prog w = .ok (.bool (!decide (x = y))) w := by
  rw [run_neq_struct, show (10000 : Nat) = 9997 + 1 + 1 + 1 from rfl, run_equalIn_struct w (9997 + 1 + 1) 66 _ _ underSt (by kernel_rfl)]
  have h3 := Try.underlying3
  have h60 := eqSp 9997 x.f x.t y.f y.t
  simp only [Program.fieldsOf, Try.underlying66]
  simp [Op.eqFields, go_sem, h3, h60]
  obtain ⟨xh, xe, xf, xt⟩ := x
  obtain ⟨yh, ye, yf, yt⟩ := y
  by_cases h1 : xh = yh <;> by_cases h2 : xe = ye <;> by_cases h4 : xf = yf <;> by_cases h5 : xt = yt <;> simp [h1, h2, h4, h5]
theorem take_eq {a b : List St} {j : Nat} (ha : j < a.length) (hb : j < b.length) (h : a.take j = b.take j) (he : a[j] = b[j]) : a.take (j + 1) = b.take (j + 1) := by
  rw [List.take_succ_eq_append_getElem ha, List.take_succ_eq_append_getElem hb, h, he]
set_option maxHeartbeats 1600000 in
theorem rsame_any (va vb : Value) (a b : List St) (w : World) (hva : HoldsG stc 4 w w.heap.size va a) (hvb : HoldsG stc 4 w w.heap.size vb b) :
    Calls Try.prog 12 #[va, vb] w fun e w' => e = .returned (.bool (decide (a = b))) ∧ Below w.heap.size w w' := by
  obtain ⟨A0, c0, rfl, h0, h1, h2⟩ := hva
  obtain ⟨A1, c1, rfl, h3, h4, h5⟩ := hvb
  unfold maxLen at h1 h4
  have SP0 := Lib.hid h2
  have SP1 := Lib.hid h5
  clear h2 h5
  by_cases hl : a.length = b.length
  · have t1 : ((a.length : Int) != (b.length : Int)) = false := by rw [hl]; simp
    have HL := Lib.hid hl
    clear hl
    go_enter Try.func12, Try.ntmps12
    go_wp2_with fail
    go_loopw [5] (fun i wr => ∃ j : Nat, j ≤ a.length ∧ i = .int .i64 j ∧ a.take j = b.take j ∧ Below w.heap.size w wr) (fun i _ => a.length - (intOf i).toNat)
    case atStart => exact ⟨0, by omega, rfl, rfl, Below.refl _ _⟩
    case round =>
      obtain ⟨j, hj, rfl, hab, hb⟩ := hrel
      have HAB := Lib.hid hab
      clear hab
      by_cases hjn : j < a.length
      · have hjb : j < b.length := by have := HL.out; omega
        obtain ⟨x, hx⟩ : ∃ x, x = a[j] := ⟨_, rfl⟩
        obtain ⟨y, hy⟩ : ∃ y, y = b[j] := ⟨_, rfl⟩
        obtain ⟨ad, e0, _, hx0⟩ := rows_at stc_len (SP0.out.below hb (Nat.le_refl _)) (by decide) (List.getElem?_eq_getElem hjn)
        obtain ⟨ad2, e1, _, hy0⟩ := rows_at stc_len (SP1.out.below hb (Nat.le_refl _)) (by decide) (List.getElem?_eq_getElem hjb)
        subst e0 e1
        rw [← hx] at hx0
        rw [← hy] at hy0
        have x0 := hx0.c0
        have x1 := hx0.ck 0 rfl
        have x2 := hx0.ck 1 rfl
        have x3 := hx0.ck 2 rfl
        have y0 := hy0.c0
        have y1 := hy0.ck 0 rfl
        have y2 := hy0.ck 1 rfl
        have y3 := hy0.ck 2 rfl
        have HX := Lib.hid hx
        have HY := Lib.hid hy
        clear hx hy hx0 hy0
        have z0 : (0 : Int) ≤ (j : Int) := by omega
        have z1 : (j : Int) < (a.length : Int) := by omega
        have z2 : (j : Int) < (b.length : Int) := by omega
        have guard := run_eqGuard_agg (P := Try.prog) (w := wr) .neq 66
        by_cases hxy : x = y
        · have hn : ∀ w, (binOp .neq 66 (.agg #[.int .i64 x.h, .int .i64 x.e, .int .i64 x.f, .int .i64 x.t]) (.agg #[.int .i64 y.h, .int .i64 y.e, .int .i64 y.f, .int .i64 y.t])).run Try.prog w = .ok (.bool false) w := fun w => by rw [neqSt, hxy]; simp
          have HS : Hid (a.take (j + 1) = b.take (j + 1)) := Lib.hid (take_eq hjn hjb HAB.out (by rw [← HX.out, ← HY.out, hxy]))
          clear hxy
          go_upto_region 6 with fail
          go_quiet (fail)
          go_wp2_with fail
          exact ⟨⟨j + 1, by omega, by go_num, HS.out, below_drewN hb _⟩, by simp [intOf]; omega⟩
        · have hn : ∀ w, (binOp .neq 66 (.agg #[.int .i64 x.h, .int .i64 x.e, .int .i64 x.f, .int .i64 x.t]) (.agg #[.int .i64 y.h, .int .i64 y.e, .int .i64 y.f, .int .i64 y.t])).run Try.prog w = .ok (.bool true) w := fun w => by rw [neqSt]; simp [hxy]
          have HD : Hid (decide (a = b) = false) := Lib.hid (decide_eq_false (fun e => hxy (by rw [HX.out, HY.out]; simp [e])))
          clear hxy
          go_upto_region 6 with fail
          go_quiet (fail)
          go_wp2_with fail
          go_ret
          exact ⟨by rw [HD.out]; rfl, below_drewN hb _⟩
      · have HD : Hid (decide (a = b) = true) := Lib.hid (decide_eq_true (by
          have h1 := HAB.out
          rwa [List.take_of_length_le (by omega), List.take_of_length_le (by have := HL.out; omega)] at h1))
        go_wp2_with fail
        go_ret
        exact ⟨by rw [HD.out]; rfl, hb⟩
  · have t1 : ((a.length : Int) != (b.length : Int)) = true := by rw [bne_iff_ne]; omega
    have HD : Hid (decide (a = b) = false) := Lib.hid (decide_eq_false (fun e => hl (by rw [e])))
    clear hl
    go_enter Try.func12, Try.ntmps12
    go_wp2_with fail
    go_ret
    exact ⟨by rw [HD.out]; rfl, Below.refl _ _⟩
end Go.Proofs.Ytjhakonpnopcnaa
