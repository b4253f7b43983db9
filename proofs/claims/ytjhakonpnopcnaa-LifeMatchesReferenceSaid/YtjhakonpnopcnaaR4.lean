/-
  dialtoneref14.Time, SameStays; dialtonelaw14.example.
-/
import Derived.Test.YtjhakonpnopcnaaR3
set_option linter.unusedVariables false
set_option linter.unusedSimpArgs false
namespace Go.Proofs.Ytjhakonpnopcnaa
open Go Go.RowKit Go.Dial Go.Dial.Lif
attribute [local go_sem] Oper.semAt_some

def timeBase (l : List Ev) (x : Int) : Int :=
  let k := pickV x ((l.length : Int) + 2)
  if k < l.length then (l[k.toNat]?.getD ⟨0, 0, 0⟩).a else if k = l.length then 10000000 else 0
def timeV (l : List Ev) (x : Int) : Int := min (max (timeBase l x + pickV (Int.tdiv x 64) 3 - 1) 0) 10000000
theorem timeV_bd (l : List Ev) (x : Int) : 0 ≤ timeV l x ∧ timeV l x ≤ 10000000 := by unfold timeV; omega
/-- all events' times are small -/
def Small (l : List Ev) : Prop := ∀ e ∈ l, 0 ≤ e.a ∧ e.a ≤ 10000000
theorem tdiv_i64 {x : Int} (hx : I64 x) : I64 (Int.tdiv x 64) := by
  unfold I64 at hx ⊢
  rcases Int.le_total 0 x with h | h
  · rw [Int.tdiv_eq_ediv_of_nonneg h]; omega
  · have e : Int.tdiv x 64 = -(Int.tdiv (-x) 64) := by rw [Int.neg_tdiv, Int.neg_neg]
    rw [e, Int.tdiv_eq_ediv_of_nonneg (by omega)]; omega
set_option maxHeartbeats 1600000 in
theorem rtime_any (v : Value) (es : List Ev) (x : Int) (w : World) (hv : HoldsG evc 3 w w.heap.size v es) (hx : I64 x) (hs : Small es) (hl : es.length ≤ 1000) :
    Calls Try.prog 15 #[v, .int .i64 x] w fun e w' => e = .returned (.int .i64 (timeV es x)) ∧ w = w' := by
  obtain ⟨A, c, rfl, h1, h2, h3⟩ := hv
  obtain ⟨k, hk⟩ : ∃ k, k = pickV x ((es.length : Int) + 2) := ⟨_, rfl⟩
  have bk := pickV_bd x (show (0 : Int) < (es.length : Int) + 2 by omega)
  rw [← hk] at bk
  obtain ⟨q, hq⟩ : ∃ q, q = pickV (Int.tdiv x 64) 3 := ⟨_, rfl⟩
  have bq := pickV_bd (Int.tdiv x 64) (show (0 : Int) < 3 by decide)
  rw [← hq] at bq
  have HK := Lib.hid hk
  have HQ := Lib.hid hq
  have hdiv : I64 (Int.tdiv x 64) := tdiv_i64 hx
  have HX := Lib.hid hx
  have sd := Lib.hid (show wrap64 (Int.tdiv x 64) = Int.tdiv x 64 from IntWalk.wrap64_in _ (by unfold I64 at hdiv; omega))
  have HDIV := Lib.hid hdiv
  have sl : IntKind.i64.wrap ((es.length : Int) + 2) = (es.length : Int) + 2 := IntWalk.i64_in _ (by omega)
  obtain ⟨b, hb⟩ : ∃ b, b = timeBase es x := ⟨_, rfl⟩
  have hbb : 0 ≤ b ∧ b ≤ 10000000 := by
    rw [hb]; unfold timeBase; simp only
    split
    · rename_i hlt
      rw [← hk] at hlt ⊢
      have hlt' : k.toNat < es.length := by omega
      rw [List.getElem?_eq_getElem hlt']
      exact hs _ (List.getElem_mem hlt')
    · split <;> omega
  have s1 : IntKind.i64.wrap (b + q) = b + q := IntWalk.i64_in _ (by omega)
  have s2 : IntKind.i64.wrap (b + q - 1) = b + q - 1 := IntWalk.i64_in _ (by omega)
  have HT : Hid (timeV es x = min (max (b + q - 1) 0) 10000000) := Lib.hid (by rw [timeV, ← hb, ← hq])
  rcases Int.lt_trichotomy k es.length with hlt | heq | hgt
  · have hlt' : k.toNat < es.length := by omega
    obtain ⟨kn, rfl⟩ : ∃ kn : Nat, k = kn := ⟨k.toNat, by omega⟩
    have hlt' : kn < es.length := by omega
    obtain ⟨ad, rfl, hab, hat⟩ := rows_at evc_len h3 (by decide) (List.getElem?_eq_getElem hlt')
    have x1 := hat.ck 0 rfl
    have hbe : es[kn].a = b := by rw [hb]; unfold timeBase; simp only; rw [← HK.out, if_pos hlt]; simp [hlt']
    rw [hbe] at x1
    clear hb hk hq hs hat h3 hbe hdiv
    go_enter Try.func15, Try.ntmps15
    go_wp2_with (go_at_call 32; first
      | (with_reducible refine (rpick_any x _ _ HX.out (by omega) (by omega)).mono ?_; rintro e w1 ⟨rfl, rfl⟩; rw [← HK.out])
      | (rw [sd.out]; with_reducible refine (rpick_any (Int.tdiv x 64) 3 _ HDIV.out (by decide) (by decide)).mono ?_; rintro e w1 ⟨rfl, rfl⟩; rw [← HQ.out]))
    all_goals go_ret
    all_goals refine ⟨ret_i ?_, rfl⟩
    all_goals (rw [HT.out]; first | omega | (repeat' split <;> omega))
  · have hbe : b = 10000000 := by rw [hb]; unfold timeBase; simp only; rw [← HK.out, if_neg (by omega), if_pos heq]
    subst hbe heq
    clear hb hk hq hs h3 hdiv
    go_enter Try.func15, Try.ntmps15
    go_wp2_with (go_at_call 32; first
      | (with_reducible refine (rpick_any x _ _ HX.out (by omega) (by omega)).mono ?_; rintro e w1 ⟨rfl, rfl⟩; rw [← HK.out])
      | (rw [sd.out]; with_reducible refine (rpick_any (Int.tdiv x 64) 3 _ HDIV.out (by decide) (by decide)).mono ?_; rintro e w1 ⟨rfl, rfl⟩; rw [← HQ.out]))
    all_goals go_ret
    all_goals refine ⟨ret_i ?_, rfl⟩
    all_goals (rw [HT.out]; first | omega | (repeat' split <;> omega))
  · have hbe : b = 0 := by rw [hb]; unfold timeBase; simp only; rw [← HK.out, if_neg (by omega), if_neg (by omega)]
    subst hbe
    clear hb hk hq hs h3 hdiv
    go_enter Try.func15, Try.ntmps15
    go_wp2_with (go_at_call 32; first
      | (with_reducible refine (rpick_any x _ _ HX.out (by omega) (by omega)).mono ?_; rintro e w1 ⟨rfl, rfl⟩; rw [← HK.out])
      | (rw [sd.out]; with_reducible refine (rpick_any (Int.tdiv x 64) 3 _ HDIV.out (by decide) (by decide)).mono ?_; rintro e w1 ⟨rfl, rfl⟩; rw [← HQ.out]))
    all_goals go_ret
    all_goals refine ⟨ret_i ?_, rfl⟩
    all_goals (rw [HT.out]; first | omega | (repeat' split <;> omega))
end Go.Proofs.Ytjhakonpnopcnaa
