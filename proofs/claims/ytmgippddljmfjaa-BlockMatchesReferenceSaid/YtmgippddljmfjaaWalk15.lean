/-
  dialtoneref13: Same, SameRanges.
-/
import Derived.Test.YtmgippddljmfjaaWalk14
import Derived.Laws.StructEq
namespace Go.Proofs.Ytmgippddljmfjaa
open Go Go.RowKit Go.Dial Go.Dial.Blk

theorem under53 : Try.prog.underlying 53 = some (.struct (Try.prog.fieldsOf 53)) := by kernel_rfl
theorem under26 : Try.prog.underlying 26 = some (.struct (Try.prog.fieldsOf 26)) := by kernel_rfl
theorem eq26 (d : Nat) (f t f' t' : Int) (w : World) : (Op.equalIn (d + 1 + 1) 26 (.agg #[.int .i64 f, .int .i64 t]) (.agg #[.int .i64 f', .int .i64 t'])).run Try.prog w = .ok (decide (f = f' ∧ t = t')) w := by
  rw [run_equalIn_struct w (d + 1) 26 _ _ under26 (by kernel_rfl)]
  have h3 := Try.underlying3
  simp only [Program.fieldsOf, Try.underlying26]
  simp [Op.eqFields, go_sem, h3]
  by_cases h1 : f = f' <;> by_cases h2 : t = t' <;> simp [h1, h2]
theorem eq53 (d : Nat) (x y : B3) (w : World) : (Op.equalIn (d + 1 + 1 + 1) 53 (bval x) (bval y)).run Try.prog w = .ok (decide (x = y)) w := by
  unfold bval
  rw [run_equalIn_struct w (d + 1 + 1) 53 _ _ under53 (by kernel_rfl)]
  have h3 := Try.underlying3
  have h26 := eq26 d x.f x.t y.f y.t
  simp only [Program.fieldsOf, Try.underlying53]
  simp [Op.eqFields, go_sem, h3, h26]
  obtain ⟨xf, xt, xc⟩ := x
  obtain ⟨yf, yt, yc⟩ := y
  by_cases h1 : xf = yf <;> by_cases h2 : xt = yt <;> by_cases h4 : xc = yc <;> simp [h1, h2, h4]
theorem neq53 (x y : B3) (w : World) : (binOp .neq 53 (.agg #[.int .i64 x.f, .int .i64 x.t, .int .i64 x.c]) (.agg #[.int .i64 y.f, .int .i64 y.t, .int .i64 y.c])).run Try.prog w = .ok (.bool (!decide (x = y))) w := by
  have h := eq53 9997 x y w
  unfold bval at h
  rw [run_neq_struct, show (10000 : Nat) = 9997 + 1 + 1 + 1 from rfl, h]; rfl
theorem neq26 (f t f' t' : Int) (w : World) : (binOp .neq 26 (.agg #[.int .i64 f, .int .i64 t]) (.agg #[.int .i64 f', .int .i64 t'])).run Try.prog w = .ok (.bool (!decide (f = f' ∧ t = t'))) w := by
  rw [run_neq_struct, show (10000 : Nat) = 9998 + 1 + 1 from rfl, eq26 9998 f t f' t' w]; rfl
theorem take_eq {a b : List B3} {j : Nat} (ha : j < a.length) (hb : j < b.length) (h : a.take j = b.take j) (he : a[j] = b[j]) : a.take (j + 1) = b.take (j + 1) := by
  rw [List.take_succ_eq_append_getElem ha, List.take_succ_eq_append_getElem hb, h, he]
theorem same_any (va vb : Value) (a b : List B3) (w : World) (hva : HoldsB w w.heap.size va a) (hvb : HoldsB w w.heap.size vb b) :
    Calls Try.prog 27 #[va, vb] w fun e w' => e = .returned (.bool (decide (a = b))) ∧ Below w.heap.size w w' := by
  obtain ⟨A0, c0, rfl, h0, h1, h2⟩ := hva
  obtain ⟨A1, c1, rfl, h3, h4, h5⟩ := hvb
  unfold maxLen at h1 h4
  have SP0 := Lib.hid h2
  have SP1 := Lib.hid h5
  clear h2 h5
  by_cases hl : a.length = b.length
  · have t1 : ((a.length : Int) != (b.length : Int)) = false := by rw [hl]; simp
    have HL := Lib.hid hl
    clear hl
    go_enter Try.func27, Try.ntmps27
    go_wp2_with fail
    go_loopw [5] (fun i wr => ∃ j : Nat, j ≤ a.length ∧ i = .int .i64 j ∧ a.take j = b.take j ∧ Below w.heap.size w wr) (fun i _ => a.length - (intOf i).toNat)
    case atStart => exact ⟨0, by omega, rfl, rfl, Below.refl _ _⟩
    case round =>
      obtain ⟨j, hj, rfl, hab, hb⟩ := hrel
      have HAB := Lib.hid hab
      clear hab
      by_cases hjn : j < a.length
      · have hjb : j < b.length := by have := HL.out; omega
        obtain ⟨x, hx⟩ : ∃ x, x = a[j] := ⟨_, rfl⟩
        obtain ⟨y, hy⟩ : ∃ y, y = b[j] := ⟨_, rfl⟩
        obtain ⟨ad, e0, _, x0, x1, x2⟩ := span_blk (SP0.out.below hb (Nat.le_refl _)) (List.getElem?_eq_getElem hjn)
        obtain ⟨ad2, e1, _, y0, y1, y2⟩ := span_blk (SP1.out.below hb (Nat.le_refl _)) (List.getElem?_eq_getElem hjb)
        subst e0 e1
        rw [← hx] at x0 x1 x2
        rw [← hy] at y0 y1 y2
        have HX := Lib.hid hx
        have HY := Lib.hid hy
        clear hx hy
        have z0 : (0 : Int) ≤ (j : Int) := by omega
        have z1 : (j : Int) < (a.length : Int) := by omega
        have z2 : (j : Int) < (b.length : Int) := by omega
        have guard := run_eqGuard_agg (P := Try.prog) (w := wr) .neq 53
        by_cases hxy : x = y
        · have hn : ∀ w, (binOp .neq 53 (.agg #[.int .i64 x.f, .int .i64 x.t, .int .i64 x.c]) (.agg #[.int .i64 y.f, .int .i64 y.t, .int .i64 y.c])).run Try.prog w = .ok (.bool false) w := fun w => by rw [neq53, hxy]; simp
          have HS : Hid (a.take (j + 1) = b.take (j + 1)) := Lib.hid (take_eq hjn hjb HAB.out (by rw [← HX.out, ← HY.out, hxy]))
          clear hxy
          go_upto_region 6 with fail
          go_quiet (fail)
          go_wp2_with fail
          exact ⟨⟨j + 1, by omega, by go_num, HS.out, below_dN hb _⟩, by simp [intOf]; omega⟩
        · have hn : ∀ w, (binOp .neq 53 (.agg #[.int .i64 x.f, .int .i64 x.t, .int .i64 x.c]) (.agg #[.int .i64 y.f, .int .i64 y.t, .int .i64 y.c])).run Try.prog w = .ok (.bool true) w := fun w => by rw [neq53]; simp [hxy]
          have HD : Hid (decide (a = b) = false) := Lib.hid (decide_eq_false (fun e => hxy (by rw [HX.out, HY.out]; simp [e])))
          clear hxy
          go_upto_region 6 with fail
          go_quiet (fail)
          go_wp2_with fail
          go_ret
          exact ⟨by rw [HD.out]; rfl, below_dN hb _⟩
      · have HD : Hid (decide (a = b) = true) := Lib.hid (decide_eq_true (by
          have h1 := HAB.out
          rwa [List.take_of_length_le (by omega), List.take_of_length_le (by have := HL.out; omega)] at h1))
        go_wp2_with fail
        go_ret
        exact ⟨by rw [HD.out]; rfl, hb⟩
  · have t1 : ((a.length : Int) != (b.length : Int)) = true := by rw [bne_iff_ne]; omega
    have HD : Hid (decide (a = b) = false) := Lib.hid (decide_eq_false (fun e => hl (by rw [e])))
    clear hl
    go_enter Try.func27, Try.ntmps27
    go_wp2_with fail
    go_ret
    exact ⟨by rw [HD.out]; rfl, Below.refl _ _⟩
def rngOf (b : B3) : Int × Int := (b.f, b.t)
theorem dcs_get {l : List B3} {i : Nat} {b : B3} (h : l[i]? = some b) : (dcs l)[2 * i]? = some (.int .i64 b.f) ∧ (dcs l)[2 * i + 1]? = some (.int .i64 b.t) := by
  induction l generalizing i with
  | nil => simp at h
  | cons x l ih =>
    cases i with
    | zero =>
      simp at h; subst h
      simp [dcs, dcells]
    | succ i =>
      have := ih (i := i) (by simpa using h)
      have e : ∀ k, (dcs (x :: l))[2 * (i + 1) + k]? = (dcs l)[2 * i + k]? := by
        intro k
        rw [show dcs (x :: l) = dcells x ++ dcs l by simp [dcs], List.getElem?_append_right (by simp [dcells]; omega)]
        congr 1; simp [dcells]; omega
      have e0 := e 0
      simp only [Nat.add_zero] at e0
      rw [e0, e 1]
      exact this
theorem span_rng {w : World} {B n : Nat} {A : Option Addr} {l : List B3} (h : Span w B 2 A n (dcs l)) {i : Nat} {b : B3} (hi : l[i]? = some b) :
    ∃ a, A = some a ∧ a.block < B ∧ w.cell? (a.add (i * 2)) = some (.int .i64 b.f) ∧ w.cell? ⟨(a.add (i * 2)).block, (a.add (i * 2)).off + 1, none⟩ = some (.int .i64 b.t) := by
  obtain ⟨g0, g1⟩ := dcs_get hi
  obtain ⟨a, rfl, hb, h0⟩ := h.2 _ _ g0
  obtain ⟨a', e1, _, h1⟩ := h.2 _ _ g1
  cases e1
  rw [Nat.mul_comm] at h0 h1
  exact ⟨a, rfl, hb, h0, by rw [← add_succ1 a (i * 2) 0]; exact h1⟩
theorem sameR_any (va vb : Value) (a b : List B3) (w : World) (hva : HoldsR w w.heap.size va a) (hvb : HoldsR w w.heap.size vb b) :
    Calls Try.prog 31 #[va, vb] w fun e w' => e = .returned (.bool (decide (a.map rngOf = b.map rngOf))) ∧ Below w.heap.size w w' := by
  obtain ⟨A0, c0, rfl, h0, h1, h2⟩ := hva
  obtain ⟨A1, c1, rfl, h3, h4, h5⟩ := hvb
  unfold maxLen at h1 h4
  have SP0 := Lib.hid h2
  have SP1 := Lib.hid h5
  clear h2 h5
  by_cases hl : a.length = b.length
  · have t1 : ((a.length : Int) != (b.length : Int)) = false := by rw [hl]; simp
    have HL := Lib.hid hl
    clear hl
    go_enter Try.func31, Try.ntmps31
    go_wp2_with fail
    go_loopw [5] (fun i wr => ∃ j : Nat, j ≤ a.length ∧ i = .int .i64 j ∧ (a.take j).map rngOf = (b.take j).map rngOf ∧ Below w.heap.size w wr) (fun i _ => a.length - (intOf i).toNat)
    case atStart => exact ⟨0, by omega, rfl, rfl, Below.refl _ _⟩
    case round =>
      obtain ⟨j, hj, rfl, hab, hb⟩ := hrel
      have HAB := Lib.hid hab
      clear hab
      by_cases hjn : j < a.length
      · have hjb : j < b.length := by have := HL.out; omega
        obtain ⟨x, hx⟩ : ∃ x, x = a[j] := ⟨_, rfl⟩
        obtain ⟨y, hy⟩ : ∃ y, y = b[j] := ⟨_, rfl⟩
        obtain ⟨ad, e0, _, x0, x1⟩ := span_rng (SP0.out.below hb (Nat.le_refl _)) (List.getElem?_eq_getElem hjn)
        obtain ⟨ad2, e1, _, y0, y1⟩ := span_rng (SP1.out.below hb (Nat.le_refl _)) (List.getElem?_eq_getElem hjb)
        subst e0 e1
        rw [← hx] at x0 x1
        rw [← hy] at y0 y1
        have HX := Lib.hid hx
        have HY := Lib.hid hy
        clear hx hy
        have z0 : (0 : Int) ≤ (j : Int) := by omega
        have z1 : (j : Int) < (a.length : Int) := by omega
        have z2 : (j : Int) < (b.length : Int) := by omega
        have guard := run_eqGuard_agg (P := Try.prog) (w := wr) .neq 26
        by_cases hxy : x.f = y.f ∧ x.t = y.t
        · have hn : ∀ w, (binOp .neq 26 (.agg #[.int .i64 x.f, .int .i64 x.t]) (.agg #[.int .i64 y.f, .int .i64 y.t])).run Try.prog w = .ok (.bool false) w := fun w => by rw [neq26]; simp [hxy]
          have HS : Hid ((a.take (j + 1)).map rngOf = (b.take (j + 1)).map rngOf) := Lib.hid (by rw [List.take_succ_eq_append_getElem hjn, List.take_succ_eq_append_getElem hjb, List.map_append, List.map_append, HAB.out, ← HX.out, ← HY.out]; simp [rngOf, hxy])
          clear hxy
          go_upto_region 6 with fail
          go_quiet (fail)
          go_wp2_with fail
          exact ⟨⟨j + 1, by omega, by go_num, HS.out, below_dN hb _⟩, by simp [intOf]; omega⟩
        · have hn : ∀ w, (binOp .neq 26 (.agg #[.int .i64 x.f, .int .i64 x.t]) (.agg #[.int .i64 y.f, .int .i64 y.t])).run Try.prog w = .ok (.bool true) w := fun w => by rw [neq26]; simp [hxy]
          have HD : Hid (decide (a.map rngOf = b.map rngOf) = false) := Lib.hid (decide_eq_false (fun e => hxy (by have e2 := congrArg (fun l => l[j]?) e; simp only [List.getElem?_map, List.getElem?_eq_getElem hjn, List.getElem?_eq_getElem hjb, ← HX.out, ← HY.out, Option.map_some, Option.some.injEq, rngOf, Prod.mk.injEq] at e2; exact e2)))
          clear hxy
          go_upto_region 6 with fail
          go_quiet (fail)
          go_wp2_with fail
          go_ret
          exact ⟨by rw [HD.out]; rfl, below_dN hb _⟩
      · have HD : Hid (decide (a.map rngOf = b.map rngOf) = true) := Lib.hid (decide_eq_true (by
          have h1 := HAB.out
          rwa [List.take_of_length_le (by omega), List.take_of_length_le (by have := HL.out; omega)] at h1))
        go_wp2_with fail
        go_ret
        exact ⟨by rw [HD.out]; rfl, hb⟩
  · have t1 : ((a.length : Int) != (b.length : Int)) = true := by rw [bne_iff_ne]; omega
    have HD : Hid (decide (a.map rngOf = b.map rngOf) = false) := Lib.hid (decide_eq_false (fun e => hl (by have e2 := congrArg List.length e; simpa using e2)))
    clear hl
    go_enter Try.func31, Try.ntmps31
    go_wp2_with fail
    go_ret
    exact ⟨by rw [HD.out]; rfl, Below.refl _ _⟩
end Go.Proofs.Ytmgippddljmfjaa
