/-
  What the laws of life share: stays.
-/
import Derived.Test.YteilkigdlkeiaaaC1
namespace Go.Proofs.Yteilkigdlkeiaaa
open Go Go.RowKit Go.Dial Go.Dial.Lif
theorem st_at {es : List St} {A : Option Addr} {n c j : Nat} {W : World} {B : Nat} (h : HoldsG stc 4 W B (.slice A n c) es) (hj : j < es.length) :
    ∃ ad : Addr, A = some ad ∧ W.cell? (ad.add (j * 4)) = some (.int .i64 es[j].h) ∧ W.cell? ⟨(ad.add (j * 4)).block, (ad.add (j * 4)).off + 1, none⟩ = some (.int .i64 es[j].e) ∧ W.cell? ⟨(ad.add (j * 4)).block, (ad.add (j * 4)).off + 2, none⟩ = some (.int .i64 es[j].f) ∧ W.cell? ⟨(ad.add (j * 4)).block, (ad.add (j * 4)).off + 3, none⟩ = some (.int .i64 es[j].t) := by
  obtain ⟨A', c', e, h1, h2, h3⟩ := h
  cases e
  obtain ⟨ad, hA, _, hat⟩ := rows_at stc_len h3 (by decide) (List.getElem?_eq_getElem hj)
  exact ⟨ad, hA, hat.c0, hat.ck 0 rfl, hat.ck 1 rfl, hat.ck 2 rfl⟩
theorem adj_at {es : List Ev} (h : All first es) {j : Nat} (h0 : 0 < j) (hj : j < (staysL es).length) : Adj es ((staysL es)[j - 1]'(by omega)) (staysL es)[j] := by
  refine (staysL_inv h).adj (j - 1) _ _ (List.getElem?_eq_getElem (by omega)) ?_
  rw [show j - 1 + 1 = j by omega]; exact List.getElem?_eq_getElem hj
theorem staysR_ok {es : List Ev} (h : Life es) : staysR es = (staysL es, 0) := if_pos h
theorem staysL_len (es : List Ev) : (staysL es).length ≤ es.length := staysK_len es _
theorem many_take {es : List Ev} {j : Nat} (hj : j < es.length) : (many (es.take (j + 1)) : Int) = many (es.take j) + if es[j].k = 1 ∨ es[j].k = 2 then 1 else 0 := by
  rw [List.take_succ_eq_append_getElem hj, many_snoc]; split <;> simp
end Go.Proofs.Yteilkigdlkeiaaa
