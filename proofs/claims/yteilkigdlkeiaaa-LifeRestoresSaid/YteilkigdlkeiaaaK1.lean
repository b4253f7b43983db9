/-
  The contracts of the life functions, as the executor wants them.
-/
import Derived.Test.YteilkigdlkeiaaaC2
import Derived.Test.YteilkigdlkeiaaaR3o
import Derived.Test.YteilkigdlkeiaaaSxC
namespace Go.Proofs.Yteilkigdlkeiaaa
open Go Go.RowKit Go.Dial Go.Dial.Lif Go.Sx

def evI (e : Ev) : List Int := [e.k, e.a, e.h]
def triI (x : T3) : List Int := [x.1, x.2.1, x.2.2]
/-- a list of events, as an argument -/
def evs (es : List Ev) : AV := .sl (ints 3) (ival evI es)
theorem evs_holds {B : Nat} {w : World} {v : Value} {es : List Ev} (h : Den (· < B) w v (evs es)) : HoldsG evc 3 w B v es := holds_of_den (fun _ => rfl) (fun _ => rfl) h
def lnR (l : Ln) : R := .agg (.cons (.i l.s) (.cons (.i l.h) (.cons (.i l.e) (.cons (.i l.t) .nil))))
def runRes (es : List Ev) : R := .tup (.cons (lnR (runR es).1.1) (.cons (.i ((runR es).1.2 : Int)) (.cons (.i (runR es).2) .nil)))
def keepRes (es : List Ev) (t : Int) : R := .tup (.cons (.agg (.cons (.i (keepR es t).1.1) (.cons (.i (keepR es t).1.2) .nil))) (.cons (.i (keepR es t).2) .nil))
def atRes (es : List Ev) (t : Int) : R := .tup (.cons (lnR (atR es t).1) (.cons (.i (atR es t).2) .nil))
def fateRes (es : List Ev) (me ma t : Int) : R := .tup (.cons (.i (fateR es me ma t).1.1) (.cons (.i (fateR es me ma t).1.2) (.cons (.i (fateR es me ma t).2) .nil)))
theorem conSane : Con Try.prog 13 [] (.b true) := con_val rfl fun vs w h => by rw [args0 h]; exact sane_any w
theorem conMade (xs : List T3) (hT : ∀ x ∈ xs, Tri x) : Con Try.prog 14 [.sl (ints 3) (ival triI xs)] (.row 54 (ints 3) (ival evI (madeV xs))) :=
  con_row (f := evc) (by decide) (fun _ => rfl) (fun _ => rfl) fun vs w h => by
    obtain ⟨u, rfl, hd⟩ := args1 h
    obtain ⟨A, c, rfl, h1, h2, h3⟩ := holds_of_den (g := triI) (k := 3) (f := tcells) (fun _ => rfl) (fun _ => rfl) hd
    refine (rmade_own A c xs w (Nat.le_trans h1 h2) h3 hT).mono ?_
    rintro e w' ⟨⟨v, rfl, hv⟩, hb⟩
    exact ⟨v, rfl, hv, hb⟩
theorem conRun (es : List Ev) : Con Try.prog 17 [evs es] (runRes es) := con_val rfl fun vs w h => by
  obtain ⟨u, rfl, hd⟩ := args1 h
  exact lrun_any u es w (evs_holds hd)
theorem conKeep (es : List Ev) (t : Int) : Con Try.prog 27 [evs es, .int t] (keepRes es t) := con_val rfl fun vs w h => by
  obtain ⟨u, v, rfl, hd, hv⟩ := args2 h
  rw [Den.int_iff.1 hv]
  exact lkeep_any u es t w (evs_holds hd)
theorem conAt (es : List Ev) (t : Int) : Con Try.prog 25 [evs es, .int t] (atRes es t) := con_val rfl fun vs w h => by
  obtain ⟨u, v, rfl, hd, hv⟩ := args2 h
  rw [Den.int_iff.1 hv]
  exact lAt_any u es t w (evs_holds hd)
theorem conFate (es : List Ev) (me ma t : Int) : Con Try.prog 30 [evs es, .agg [.int me, .int ma], .int t] (fateRes es me ma t) := con_val rfl fun vs w h => by
  obtain ⟨u, v, q, rfl, hd, hv, hq⟩ := args3 h
  rw [Den.int_iff.1 hq]
  obtain ⟨cs, rfl, hl, hcs⟩ := hv.agg_view
  match cs, hl with
  | [a, b], _ =>
    rw [Den.int_iff.1 (hcs 0 a _ rfl rfl), Den.int_iff.1 (hcs 1 b _ rfl rfl)]
    exact lfate_any u es me ma t w (evs_holds hd)
theorem conPick (c n : Int) (hc : I64 c) (hn : 0 < n) (hn2 : n ≤ 9223372036854775807) : Con Try.prog 29 [.int c, .int n] (.i (pickV c n)) := con_val rfl fun vs w h => by
  obtain ⟨u, v, rfl, hd, hv⟩ := args2 h
  rw [Den.int_iff.1 hd, Den.int_iff.1 hv]
  refine (pick_any c n w hc hn hn2).mono ?_
  rintro e w' ⟨rfl, rfl⟩
  exact ⟨rfl, Below.refl _ _⟩
theorem conTime (es : List Ev) (x : Int) (hx : I64 x) (hs : Small es) (hl : es.length ≤ 1000) : Con Try.prog 24 [evs es, .int x] (.i (timeV es x)) := con_val rfl fun vs w h => by
  obtain ⟨u, v, rfl, hd, hv⟩ := args2 h
  rw [Den.int_iff.1 hv]
  refine (rtime_any u es x w (evs_holds hd) hx hs hl).mono ?_
  rintro e w' ⟨rfl, rfl⟩
  exact ⟨rfl, Below.refl _ _⟩
end Go.Proofs.Yteilkigdlkeiaaa
