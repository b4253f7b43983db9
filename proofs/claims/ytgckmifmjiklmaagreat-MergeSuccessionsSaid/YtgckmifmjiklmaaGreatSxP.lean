/-
  The tree as a plain function, reckoned by the kernel: what a tree of ways means as a function over tuples, by recursors alone; its soundness; tables of functions with their contracts.
-/
import Derived.Test.YtgckmifmjiklmaaGreatSxE
set_option linter.unusedVariables false
set_option linter.unusedSimpArgs false
set_option linter.unusedSectionVars false
namespace Go.Sx
open Go
set_option linter.constructorNameAsVariable false
variable {P : Program}
noncomputable section
/-- the values of a sort -/
def Ty.sem (t : Ty) : Type := Ty.rec (motive := fun _ => Type) Int Bool Value (fun _ _ => List (List AV)) AV (fun _ _ _ _ => AV) t
def Ty.enc (t : Ty) : AV → t.sem := Ty.rec (motive := fun t => AV → Ty.sem t) AV.i AV.b AV.r (fun _ _ => AV.l) (fun x => x) (fun _ _ _ _ x => x) t
def Ty.dec (t : Ty) : t.sem → AV := Ty.rec (motive := fun t => Ty.sem t → AV) AV.int AV.bool AV.raw (fun r _ => AV.sl r) (fun x => x) (fun _ _ _ _ x => x) t
theorem dec_enc (t : Ty) (x : AV) : t.dec (t.enc x) = co t x := by cases t <;> rfl
/-- tuples -/
def tupT (ts : List Ty) : Type := List.rec (motive := fun _ => Type) Unit (fun a l ih => List.rec (motive := fun _ => Type) a.sem (fun _ _ _ => a.sem × ih) l) ts
def hdX (xs : List AV) : AV := List.rec (motive := fun _ => AV) (.int 0) (fun x _ _ => x) xs
def tlX (xs : List AV) : List AV := List.rec (motive := fun _ => List AV) [] (fun _ l _ => l) xs
def encT (ts : List Ty) : List AV → tupT ts :=
  List.rec (motive := fun ts => List AV → tupT ts) (fun _ => ()) (fun a l => List.rec (motive := fun l => (List AV → tupT l) → List AV → tupT (a :: l)) (fun _ xs => a.enc (hdX xs)) (fun _ _ _ ih xs => (a.enc (hdX xs), ih (tlX xs))) l) ts
def decT (ts : List Ty) : tupT ts → List AV :=
  List.rec (motive := fun ts => tupT ts → List AV) (fun _ => []) (fun a l => List.rec (motive := fun l => (tupT l → List AV) → tupT (a :: l) → List AV) (fun _ s => [a.dec s]) (fun _ _ _ ih s => a.dec s.1 :: ih s.2) l) ts
theorem decT_enc : ∀ (ts : List Ty) (xs : List AV), xs.length = ts.length → decT ts (encT ts xs) = coAll ts xs
  | [], [], _ => rfl
  | [], _ :: _, h => by simp at h
  | _ :: _, [], h => by simp at h
  | [t], [x], _ => by show [t.dec (t.enc x)] = [co t x]; rw [dec_enc]
  | [_], _ :: _ :: _, h => by simp at h
  | t :: b :: ts, x :: xs, h => by
    show t.dec (t.enc x) :: decT (b :: ts) (encT (b :: ts) xs) = co t x :: coAll (b :: ts) xs
    rw [dec_enc, decT_enc (b :: ts) xs (by simpa using h)]
theorem decT_ty {ts : List Ty} {xs : List AV} (h : xs.map AV.ty = ts) : decT ts (encT ts xs) = xs := by
  rw [decT_enc ts xs (by rw [← h, List.length_map]), coAll_id ts xs h]
/-- the leaves' sorts of a shape -/
def RS.tys (sh : RS) : List Ty := RS.rec (motive := fun _ => List Ty) [.int] [.bool] [.raw] (fun _ t => [.sl t]) [] (fun _ _ a b => a ++ b) (fun _ a => a) (fun _ a => a) sh
theorem leaves_ty (r : R) : r.leaves.map AV.ty = r.shape.tys := by
  induction r with
  | cons x y a b => show (x.leaves ++ y.leaves).map AV.ty = x.shape.tys ++ y.shape.tys; rw [List.map_append, a, b]
  | agg x a => exact a
  | tup x a => exact a
  | _ => rfl
/-- a result out of its leaves -/
def rmk (sh : RS) : List AV → R × List AV :=
  RS.rec (motive := fun _ => List AV → R × List AV) (fun xs => (.i (hdX xs).i, tlX xs)) (fun xs => (.b (hdX xs).b, tlX xs)) (fun xs => (.r (hdX xs).r, tlX xs)) (fun e t xs => (.row e t (hdX xs).l, tlX xs)) (fun xs => (.nil, xs))
    (fun _ _ a b xs => (.cons (a xs).1 (b (a xs).2).1, (b (a xs).2).2)) (fun _ a xs => (.agg (a xs).1, (a xs).2)) (fun _ a xs => (.tup (a xs).1, (a xs).2)) sh
theorem rmk_leaves (r : R) : ∀ rest, rmk r.shape (r.leaves ++ rest) = (r, rest) := by
  induction r with
  | cons x y a b =>
    intro rest
    have h1 := a (y.leaves ++ rest)
    have h2 := b rest
    show ((R.cons (rmk x.shape (x.leaves ++ y.leaves ++ rest)).1 (rmk y.shape (rmk x.shape (x.leaves ++ y.leaves ++ rest)).2).1, (rmk y.shape (rmk x.shape (x.leaves ++ y.leaves ++ rest)).2).2) : R × List AV) = _
    rw [List.append_assoc, h1, h2]
  | agg x a => intro rest; show ((R.agg (rmk x.shape (x.leaves ++ rest)).1, (rmk x.shape (x.leaves ++ rest)).2) : R × List AV) = _; rw [a]
  | tup x a => intro rest; show ((R.tup (rmk x.shape (x.leaves ++ rest)).1, (rmk x.shape (x.leaves ++ rest)).2) : R × List AV) = _; rw [a]
  | _ => intro rest; rfl
theorem rmk_spec (sh : RS) : ∀ xs : List AV, sh.tys.length ≤ xs.length → (rmk sh xs).1.shape = sh ∧ (rmk sh xs).2 = xs.drop sh.tys.length ∧ (rmk sh xs).1.leaves = coAll sh.tys xs := by
  induction sh with
  | cons x y a b =>
    intro xs h
    have hl : (RS.cons x y).tys = x.tys ++ y.tys := rfl
    rw [hl, List.length_append] at h
    obtain ⟨a1, a2, a3⟩ := a xs (by omega)
    obtain ⟨b1, b2, b3⟩ := b (xs.drop x.tys.length) (by rw [List.length_drop]; omega)
    have e : rmk (.cons x y) xs = (R.cons (rmk x xs).1 (rmk y (rmk x xs).2).1, (rmk y (rmk x xs).2).2) := rfl
    rw [e, a2, hl]
    refine ⟨by show RS.cons _ _ = _; rw [a1, b1], by rw [b2, List.drop_drop, List.length_append], ?_⟩
    show (rmk x xs).1.leaves ++ (rmk y (xs.drop x.tys.length)).1.leaves = _
    rw [a3, b3]
    unfold coAll
    conv => rhs; rw [← List.take_append_drop x.tys.length xs]
    rw [List.zipWith_append (by rw [List.length_take]; omega)]
    congr 1
    have : ∀ (ts : List Ty) (xs : List AV), List.zipWith co ts xs = List.zipWith co ts (xs.take ts.length) := by
      intro ts
      induction ts with
      | nil => intro xs; rfl
      | cons t ts ih => intro xs; cases xs with
        | nil => rfl
        | cons z zs => simp [ih zs]
    exact this _ _
  | agg x a => intro xs h; obtain ⟨a1, a2, a3⟩ := a xs h; exact ⟨congrArg RS.agg a1, a2, a3⟩
  | tup x a => intro xs h; obtain ⟨a1, a2, a3⟩ := a xs h; exact ⟨congrArg RS.tup a1, a2, a3⟩
  | nil => intro xs _; exact ⟨rfl, rfl, by cases xs <;> rfl⟩
  | _ =>
    intro xs h
    cases xs with
    | nil => exact absurd h (by simp [RS.tys])
    | cons x xs => exact ⟨rfl, rfl, rfl⟩
def rdec (sh : RS) (z : tupT sh.tys) : R := (rmk sh (decT sh.tys z)).1
theorem decT_len : ∀ (ts : List Ty) (z : tupT ts), (decT ts z).length = ts.length
  | [], _ => rfl
  | [_], _ => rfl
  | _ :: b :: ts, z => by show (_ :: decT (b :: ts) z.2).length = _; rw [List.length_cons, decT_len (b :: ts) z.2]; rfl
theorem co_dec (t : Ty) (s : t.sem) : co t (t.dec s) = t.dec s := by cases t <;> rfl
theorem cg2 {α β γ : Type} (f : α → β → γ) {a a' : α} {b b' : β} (h1 : a = a') (h2 : b = b') : f a b = f a' b' := by subst h1 h2; rfl
theorem coAll_dec : ∀ (ts : List Ty) (z : tupT ts), coAll ts (decT ts z) = decT ts z
  | [], _ => rfl
  | [t], z => congrArg (fun x => [x]) (co_dec t z)
  | t :: b :: ts, z => cg2 List.cons (co_dec t z.1) (coAll_dec (b :: ts) z.2)
theorem rdec_shape (sh : RS) (z : tupT sh.tys) : (rdec sh z).shape = sh := (rmk_spec sh _ (by rw [decT_len]; exact Nat.le_refl _)).1
theorem rdec_leaves (sh : RS) (z : tupT sh.tys) : (rdec sh z).leaves = decT sh.tys z := by
  unfold rdec
  rw [(rmk_spec sh _ (by rw [decT_len]; exact Nat.le_refl _)).2.2, coAll_dec]
theorem rdec_enc {r : R} {sh : RS} (h : r.shape = sh) : rdec sh (encT sh.tys r.leaves) = r := by
  subst h
  unfold rdec
  rw [decT_ty (leaves_ty r)]
  have := rmk_leaves r []
  rw [List.append_nil] at this
  rw [this]
/-! equality of closed things, as the kernel reckons it -/
def Ty.eqb (t : Ty) : Ty → Bool :=
  Ty.rec (motive := fun _ => Ty → Bool) (fun u => Ty.rec (motive := fun _ => Bool) true false false (fun _ _ => false) false (fun _ _ _ _ => false) u) (fun u => Ty.rec (motive := fun _ => Bool) false true false (fun _ _ => false) false (fun _ _ _ _ => false) u)
    (fun u => Ty.rec (motive := fun _ => Bool) false false true (fun _ _ => false) false (fun _ _ _ _ => false) u) (fun _ ih u => Ty.rec (motive := fun _ => Bool) false false false (fun r _ => ih r) false (fun _ _ _ _ => false) u)
    (fun u => Ty.rec (motive := fun _ => Bool) false false false (fun _ _ => false) true (fun _ _ _ _ => false) u) (fun _ _ ih1 ih2 u => Ty.rec (motive := fun _ => Bool) false false false (fun _ _ => false) false (fun a b _ _ => and (ih1 a) (ih2 b)) u) t
theorem Ty.eqb_eq {t : Ty} : ∀ {u : Ty}, t.eqb u = true → t = u := by
  induction t with
  | sl r ih => intro u h; cases u <;> first | exact absurd h (by decide) | (rw [ih (show Ty.eqb r _ = true from h)]) | cases h
  | cons a b ih1 ih2 =>
    intro u h
    cases u with
    | cons c d =>
      have h : (Ty.eqb a c && Ty.eqb b d) = true := h
      rw [Bool.and_eq_true] at h
      rw [ih1 h.1, ih2 h.2]
    | _ => cases h
  | _ => intro u h; cases u <;> first | rfl | cases h
def eqTs (ts : List Ty) : List Ty → Bool :=
  List.rec (motive := fun _ => List Ty → Bool) (fun us => List.rec (motive := fun _ => Bool) true (fun _ _ _ => false) us) (fun t _ ih us => List.rec (motive := fun _ => Bool) false (fun u us _ => and (t.eqb u) (ih us)) us) ts
theorem eqTs_eq : ∀ {ts us : List Ty}, eqTs ts us = true → ts = us
  | [], [], _ => rfl
  | [], _ :: _, h => by cases h
  | _ :: _, [], h => by cases h
  | t :: ts, u :: us, h => by
    have h : (Ty.eqb t u && eqTs ts us) = true := h
    rw [Bool.and_eq_true] at h
    rw [Ty.eqb_eq h.1, eqTs_eq h.2]
def RS.eqb (t : RS) : RS → Bool :=
  RS.rec (motive := fun _ => RS → Bool)
    (fun u => RS.rec (motive := fun _ => Bool) true false false (fun _ _ => false) false (fun _ _ _ _ => false) (fun _ _ => false) (fun _ _ => false) u)
    (fun u => RS.rec (motive := fun _ => Bool) false true false (fun _ _ => false) false (fun _ _ _ _ => false) (fun _ _ => false) (fun _ _ => false) u)
    (fun u => RS.rec (motive := fun _ => Bool) false false true (fun _ _ => false) false (fun _ _ _ _ => false) (fun _ _ => false) (fun _ _ => false) u)
    (fun e t u => RS.rec (motive := fun _ => Bool) false false false (fun e' t' => and (Nat.beq e e') (t.eqb t')) false (fun _ _ _ _ => false) (fun _ _ => false) (fun _ _ => false) u)
    (fun u => RS.rec (motive := fun _ => Bool) false false false (fun _ _ => false) true (fun _ _ _ _ => false) (fun _ _ => false) (fun _ _ => false) u)
    (fun _ _ ih1 ih2 u => RS.rec (motive := fun _ => Bool) false false false (fun _ _ => false) false (fun a b _ _ => and (ih1 a) (ih2 b)) (fun _ _ => false) (fun _ _ => false) u)
    (fun _ ih u => RS.rec (motive := fun _ => Bool) false false false (fun _ _ => false) false (fun _ _ _ _ => false) (fun a _ => ih a) (fun _ _ => false) u)
    (fun _ ih u => RS.rec (motive := fun _ => Bool) false false false (fun _ _ => false) false (fun _ _ _ _ => false) (fun _ _ => false) (fun a _ => ih a) u) t
theorem RS.eqb_eq {t : RS} : ∀ {u : RS}, t.eqb u = true → t = u := by
  induction t with
  | row e t =>
    intro u h
    cases u with
    | row e' t' =>
      have h : (Nat.beq e e' && Ty.eqb t t') = true := h
      rw [Bool.and_eq_true] at h
      rw [Nat.eq_of_beq_eq_true h.1, Ty.eqb_eq h.2]
    | _ => cases h
  | cons a b ih1 ih2 =>
    intro u h
    cases u with
    | cons c d =>
      have h : (RS.eqb a c && RS.eqb b d) = true := h
      rw [Bool.and_eq_true] at h
      rw [ih1 h.1, ih2 h.2]
    | _ => cases h
  | agg a ih => intro u h; cases u with
    | agg b => rw [ih (show RS.eqb a b = true from h)]
    | _ => cases h
  | tup a ih => intro u h; cases u with
    | tup b => rw [ih (show RS.eqb a b = true from h)]
    | _ => cases h
  | _ => intro u h; cases u <;> first | rfl | cases h
/-! expressions, by sorts -/
structure EvX where
  a : AV
  i : Int
  b : Bool
  r : Value
  l : List (List AV)
  g : List AV
  n : Int
/-- what an expression means, in all sorts at once -/
def evX (env : List AV) (e : E) : EvX :=
  E.rec (motive := fun _ => EvX)
    (fun i => ⟨lget (.int 0) env i, (lget (.int 0) env i).i, (lget (.int 0) env i).b, (lget (.int 0) env i).r, (lget (.int 0) env i).l, (lget (.int 0) env i).g, (lget (.int 0) env i).num⟩)
    (fun n => ⟨.int n, n, false, undef, [], [], n⟩)
    (fun b => ⟨.bool b, 0, b, undef, [], [], 0⟩)
    (fun s => ⟨.raw (strOf s), 0, false, strOf s, [], [], 0⟩)
    (fun k n => ⟨.raw (.int k n), 0, false, .int k n, [], [], n⟩)
    (fun o _ _ x y => IOp.rec (motive := fun _ => EvX) ⟨.int (x.i + y.i), x.i + y.i, false, undef, [], [], x.i + y.i⟩ ⟨.int (x.i - y.i), x.i - y.i, false, undef, [], [], x.i - y.i⟩ ⟨.int (x.i * y.i), x.i * y.i, false, undef, [], [], x.i * y.i⟩
      ⟨.int (Int.tdiv x.i y.i), Int.tdiv x.i y.i, false, undef, [], [], Int.tdiv x.i y.i⟩ ⟨.int (Int.tmod x.i y.i), Int.tmod x.i y.i, false, undef, [], [], Int.tmod x.i y.i⟩ ⟨.int (imin x.i y.i), imin x.i y.i, false, undef, [], [], imin x.i y.i⟩ ⟨.int (imax x.i y.i), imax x.i y.i, false, undef, [], [], imax x.i y.i⟩
      ⟨.int (IOp.f .and x.i y.i), IOp.f .and x.i y.i, false, undef, [], [], IOp.f .and x.i y.i⟩ ⟨.int (IOp.f .or x.i y.i), IOp.f .or x.i y.i, false, undef, [], [], IOp.f .or x.i y.i⟩ ⟨.int (IOp.f .xor x.i y.i), IOp.f .xor x.i y.i, false, undef, [], [], IOp.f .xor x.i y.i⟩
      ⟨.int (IOp.f .andNot x.i y.i), IOp.f .andNot x.i y.i, false, undef, [], [], IOp.f .andNot x.i y.i⟩ ⟨.int (IOp.f .shl x.i y.i), IOp.f .shl x.i y.i, false, undef, [], [], IOp.f .shl x.i y.i⟩ ⟨.int (IOp.f .shr x.i y.i), IOp.f .shr x.i y.i, false, undef, [], [], IOp.f .shr x.i y.i⟩ o)
    (fun o _ _ x y => COp.rec (motive := fun _ => EvX) ⟨.bool (decide (x.i < y.i)), 0, decide (x.i < y.i), undef, [], [], 0⟩ ⟨.bool (decide (x.i ≤ y.i)), 0, decide (x.i ≤ y.i), undef, [], [], 0⟩ ⟨.bool (decide (x.i = y.i)), 0, decide (x.i = y.i), undef, [], [], 0⟩ o)
    (fun _ x => ⟨.bool (!x.b), 0, !x.b, undef, [], [], 0⟩)
    (fun _ _ x y => ⟨.bool (x.b == y.b), 0, x.b == y.b, undef, [], [], 0⟩)
    (fun _ _ x y => ⟨.bool (x.b && y.b), 0, x.b && y.b, undef, [], [], 0⟩)
    (fun _ _ x y => ⟨.bool ((AV.raw x.r).s == (AV.raw y.r).s), 0, (AV.raw x.r).s == (AV.raw y.r).s, undef, [], [], 0⟩)
    (fun _ x => ⟨.int (x.l.length : Int), (x.l.length : Int), false, undef, [], [], (x.l.length : Int)⟩)
    (fun _ x => ⟨.int ((AV.raw x.r).s.length : Int), ((AV.raw x.r).s.length : Int), false, undef, [], [], ((AV.raw x.r).s.length : Int)⟩)
    (fun _ _ k x y => ⟨cA x.l y.i k, cI x.l y.i k, cB x.l y.i k, cR x.l y.i k, cL x.l y.i k, (cA x.l y.i k).g, (cA x.l y.i k).num⟩)
    ⟨.agg [], 0, false, undef, [], [], 0⟩
    (fun _ _ x y => ⟨.agg (x.a :: y.g), 0, false, undef, [], x.a :: y.g, 0⟩)
    ⟨.sl .nil [], 0, false, undef, [], [], 0⟩
    (fun _ _ x y => ⟨.sl .nil (x.l ++ [y.g]), 0, false, undef, x.l ++ [y.g], [], 0⟩)
    (fun _ _ x y => ⟨.sl .nil (x.l ++ y.l), 0, false, undef, x.l ++ y.l, [], 0⟩)
    (fun _ _ x y => ⟨.sl .nil (List.take y.i.toNat x.l), 0, false, undef, List.take y.i.toNat x.l, [], 0⟩)
    (fun _ _ x y => ⟨.sl .nil (List.drop y.i.toNat x.l), 0, false, undef, List.drop y.i.toNat x.l, [], 0⟩)
    (fun _ _ k _ x y z => ⟨.sl .nil (List.modify x.l y.i.toNat (fun r => r.set k z.a)), 0, false, undef, List.modify x.l y.i.toNat (fun r => r.set k z.a), [], 0⟩)
    (fun _ _ x y => ⟨.sl .nil (List.replicate x.i.toNat y.g), 0, false, undef, List.replicate x.i.toNat y.g, [], 0⟩)
    (fun t _ x => ⟨.sl t x.l, 0, false, undef, x.l, [], 0⟩)
    (fun _ _ x y => ⟨.sl .nil (List.take x.l.length y.l ++ List.drop y.l.length x.l), 0, false, undef, List.take x.l.length y.l ++ List.drop y.l.length x.l, [], 0⟩)
    (fun t _ x => Ty.rec (motive := fun _ => EvX) ⟨.int x.i, x.i, false, undef, [], [], x.i⟩ ⟨.bool x.b, 0, x.b, undef, [], [], 0⟩ ⟨.raw x.r, 0, false, x.r, [], [], (AV.raw x.r).num⟩ (fun r _ => ⟨.sl r x.l, 0, false, undef, x.l, [], 0⟩) x (fun _ _ _ _ => x) t)
    (fun k _ x => ⟨.raw (.int k (k.wrap x.n)), 0, false, .int k (k.wrap x.n), [], [], k.wrap x.n⟩)
    (fun _ x => ⟨.int (IntKind.wrap .i64 x.n), IntKind.wrap .i64 x.n, false, undef, [], [], IntKind.wrap .i64 x.n⟩)
    (fun o k _ _ x y => ⟨.raw (.int k (kopf o k x.n y.n)), 0, false, .int k (kopf o k x.n y.n), [], [], kopf o k x.n y.n⟩)
    (fun o _ _ x y => COp.rec (motive := fun _ => EvX) ⟨.bool (decide (x.n < y.n)), 0, decide (x.n < y.n), undef, [], [], 0⟩ ⟨.bool (decide (x.n ≤ y.n)), 0, decide (x.n ≤ y.n), undef, [], [], 0⟩ ⟨.bool (decide (x.n = y.n)), 0, decide (x.n = y.n), undef, [], [], 0⟩ o) e
def EvX.ok (x : EvX) (y : AV) : Prop := x.a = y ∧ x.i = y.i ∧ x.b = y.b ∧ x.r = y.r ∧ x.l = y.l ∧ x.g = y.g ∧ x.n = y.num
theorem s_raw (x : AV) : (AV.raw x.r).s = x.s := rfl
theorem ok_int {a b : Int} (h : a = b) : EvX.ok ⟨.int a, a, false, undef, [], [], a⟩ (.int b) := by subst h; exact ⟨rfl, rfl, rfl, rfl, rfl, rfl, rfl⟩
theorem ok_any {a b : AV} (h : a = b) : EvX.ok ⟨a, a.i, a.b, a.r, a.l, a.g, a.num⟩ b := by subst h; exact ⟨rfl, rfl, rfl, rfl, rfl, rfl, rfl⟩
theorem ok_bool {a b : Bool} (h : a = b) : EvX.ok ⟨.bool a, 0, a, undef, [], [], 0⟩ (.bool b) := by subst h; exact ⟨rfl, rfl, rfl, rfl, rfl, rfl, rfl⟩
theorem ok_raw {a b : Value} (h : a = b) : EvX.ok ⟨.raw a, 0, false, a, [], [], (AV.raw a).num⟩ (.raw b) := by subst h; exact ⟨rfl, rfl, rfl, rfl, rfl, rfl, rfl⟩
theorem ok_sl {t : Ty} {a b : List (List AV)} (h : a = b) : EvX.ok ⟨.sl t a, 0, false, undef, a, [], 0⟩ (.sl t b) := by subst h; exact ⟨rfl, rfl, rfl, rfl, rfl, rfl, rfl⟩
theorem ok_agg {a b : List AV} (h : a = b) : EvX.ok ⟨.agg a, 0, false, undef, [], a, 0⟩ (.agg b) := by subst h; exact ⟨rfl, rfl, rfl, rfl, rfl, rfl, rfl⟩
section
variable {x : EvX} {y : AV} (h : x.ok y)
include h
theorem EvX.ok.A : x.a = y := h.1
theorem EvX.ok.I : x.i = y.i := h.2.1
theorem EvX.ok.B : x.b = y.b := h.2.2.1
theorem EvX.ok.R : x.r = y.r := h.2.2.2.1
theorem EvX.ok.L : x.l = y.l := h.2.2.2.2.1
theorem EvX.ok.G : x.g = y.g := h.2.2.2.2.2.1
theorem EvX.ok.N : x.n = y.num := h.2.2.2.2.2.2
end
theorem evX_ok (env : List AV) (e : E) : (evX env e).ok (den env e) := by
  induction e with
  | v i => refine ⟨?_, ?_, ?_, ?_, ?_, ?_, ?_⟩ <;> simp only [evX, den, lget_eq]
  | int n => exact ok_int rfl
  | bool n => exact ok_bool rfl
  | str n => exact ok_raw rfl
  | oint k n => exact ok_raw rfl
  | ii o a b iha ihb =>
    have h := fun o => cg2 (IOp.f o) iha.I ihb.I
    cases o with
    | add => exact ok_int (h .add)
    | sub => exact ok_int (h .sub)
    | mul => exact ok_int (h .mul)
    | quo => exact ok_int (h .quo)
    | rem => exact ok_int (h .rem)
    | min => exact ok_int (h .min)
    | max => exact ok_int (h .max)
    | and => exact ok_int (h .and)
    | or => exact ok_int (h .or)
    | xor => exact ok_int (h .xor)
    | andNot => exact ok_int (h .andNot)
    | shl => exact ok_int (h .shl)
    | shr => exact ok_int (h .shr)
  | cmp o a b iha ihb =>
    have h := fun o => cg2 (COp.f o) iha.I ihb.I
    cases o with
    | lt => exact ok_bool (h .lt)
    | le => exact ok_bool (h .le)
    | eq => exact ok_bool (h .eq)
  | not a ih => have h := congrArg not ih.B; exact ok_bool h
  | beq a b iha ihb => have h := cg2 BEq.beq iha.B ihb.B; exact ok_bool h
  | and a b iha ihb => have h := cg2 and iha.B ihb.B; exact ok_bool h
  | seq a b iha ihb => have h := cg2 (fun x y => (AV.raw x).s == (AV.raw y).s) iha.R ihb.R; exact ok_bool h
  | len a ih => have h := congrArg (fun l => ((List.length l : Nat) : Int)) ih.L; exact ok_int h
  | slen a ih => have h := congrArg (fun x => (((AV.raw x).s.length : Nat) : Int)) ih.R; exact ok_int h
  | cell a b k iha ihb => have h := cg2 (fun x y => cA x y k) iha.L ihb.I; exact ok_any h
  | rnil => exact ok_agg rfl
  | rcons a b iha ihb => have h := cg2 List.cons iha.A ihb.G; exact ok_agg h
  | lnil => exact ok_sl rfl
  | snoc a b iha ihb => have h := cg2 (fun x y => x ++ [y]) iha.L ihb.G; exact ok_sl h
  | app a b iha ihb => have h := cg2 (fun x y => x ++ y) iha.L ihb.L; exact ok_sl h
  | take a b iha ihb => have h := cg2 (fun x y => List.take (Int.toNat y) x) iha.L ihb.I; exact ok_sl h
  | drop a b iha ihb => have h := cg2 (fun x y => List.drop (Int.toNat y) x) iha.L ihb.I; exact ok_sl h
  | set a b k c iha ihb ihc => have h := cg2 (fun (p : List (List AV) × Int) z => List.modify p.1 (Int.toNat p.2) fun r => List.set r k z) (cg2 Prod.mk iha.L ihb.I) ihc.A; exact ok_sl h
  | rep a b iha ihb => have h := cg2 (fun x y => List.replicate (Int.toNat x) y) iha.I ihb.G; exact ok_sl h
  | typed t a ih => exact ok_sl ih.L
  | cpy a b iha ihb => have h := cg2 (fun x y => List.take (List.length x) y ++ List.drop (List.length y) x) iha.L ihb.L; exact ok_sl h
  | co t a ih =>
    cases t with
    | int => exact ok_int ih.I
    | bool => exact ok_bool ih.B
    | raw => exact ok_raw ih.R
    | sl r => exact ok_sl ih.L
    | nil => exact ih
    | cons x y => exact ih
  | kin k a ih => have h := congrArg (fun x => Value.int k (k.wrap x)) ih.N; exact ok_raw h
  | kout a ih => have h := congrArg (IntKind.wrap .i64) ih.N; exact ok_int h
  | kop o k a b iha ihb => have h := cg2 (fun x y => Value.int k (kopf o k x y)) iha.N ihb.N; exact ok_raw h
  | kcmp o a b iha ihb =>
    have h := fun o => cg2 (COp.f o) iha.N ihb.N
    cases o with
    | lt => exact ok_bool (h .lt)
    | le => exact ok_bool (h .le)
    | eq => exact ok_bool (h .eq)
/-- a result's leaves -/
def reL (env : List AV) (x : RE) : List AV := RE.rec (motive := fun _ => List AV) (fun e => [.int (evX env e).i]) (fun e => [.bool (evX env e).b]) (fun e => [.raw (evX env e).r]) (fun _ t e => [.sl t (evX env e).l]) [] (fun _ _ a b => a ++ b) (fun _ a => a) (fun _ a => a) x
def reS (x : RE) : RS := RE.rec (motive := fun _ => RS) (fun _ => .i) (fun _ => .b) (fun _ => .r) (fun e t _ => .row e t) .nil (fun _ _ a b => .cons a b) (fun _ a => .agg a) (fun _ a => .tup a) x
theorem reL_eq (env : List AV) (x : RE) : reL env x = (x.den env).leaves := by
  induction x with
  | i e => show [AV.int _] = [AV.int _]; rw [(evX_ok env e).2.1]
  | b e => show [AV.bool _] = [AV.bool _]; rw [(evX_ok env e).2.2.1]
  | r e => show [AV.raw _] = [AV.raw _]; rw [(evX_ok env e).2.2.2.1]
  | row a t e => show [AV.sl _ _] = [AV.sl _ _]; rw [(evX_ok env e).2.2.2.2.1]
  | nil => rfl
  | cons x y a b => show reL env x ++ reL env y = _ ++ _; rw [a, b]
  | agg x a => exact a
  | tup x a => exact a
theorem reS_eq (env : List AV) (x : RE) : reS x = (x.den env).shape := by
  induction x with
  | cons x y a b => show RS.cons (reS x) (reS y) = .cons _ _; rw [a, b]
  | agg x a => show RS.agg (reS x) = .agg _; rw [a]
  | tup x a => show RS.tup (reS x) = .tup _; rw [a]
  | _ => rfl
/-! functions with their contracts -/
/-- the sorts of arguments: structs, or one value -/
abbrev Ps := List (Bool × List Ty)
def Ps.tys (ps : Ps) : List Ty := List.rec (motive := fun _ => List Ty) [] (fun p _ ih => p.2 ++ ih) ps
def AV.aggB (ts : List Ty) : AV → Bool
  | .agg l => eqTs (l.map AV.ty) ts
  | _ => false
def AV.oneB (ts : List Ty) : AV → Bool
  | .agg _ => false
  | .int _ => eqTs [.int] ts
  | .bool _ => eqTs [.bool] ts
  | .raw _ => eqTs [.raw] ts
  | .sl t _ => eqTs [.sl t] ts
def chkA (ps : Ps) : List AV → Bool :=
  List.rec (motive := fun _ => List AV → Bool) (fun xs => List.rec (motive := fun _ => Bool) true (fun _ _ _ => false) xs)
    (fun p _ ih xs => List.rec (motive := fun _ => Bool) false (fun x xs _ => and (Bool.rec (motive := fun _ => Bool) (x.oneB p.2) (x.aggB p.2) p.1) (ih xs)) xs) ps
def cellsA (xs : List AV) : List AV := List.rec (motive := fun _ => List AV) [] (fun x _ ih => AV.cells x ++ ih) xs
/-- arguments out of their cells -/
def agrp (ps : Ps) : List AV → List AV := List.rec (motive := fun _ => List AV → List AV) (fun _ => []) (fun p _ ih xs => Bool.rec (motive := fun _ => AV) (hdX xs) (.agg (xs.take p.2.length)) p.1 :: ih (xs.drop p.2.length)) ps
def adec (ps : Ps) (s : tupT (Ps.tys ps)) : List AV := agrp ps (decT (Ps.tys ps) s)
theorem chkA_ok : ∀ (ps : Ps) (xs : List AV), chkA ps xs = true → agrp ps (cellsA xs) = xs ∧ (cellsA xs).map AV.ty = Ps.tys ps
  | [], [], _ => ⟨rfl, rfl⟩
  | [], _ :: _, h => by cases h
  | _ :: _, [], h => by cases h
  | (true, ts) :: ps, x :: xs, h => by
    have h : (x.aggB ts && chkA ps xs) = true := h
    rw [Bool.and_eq_true] at h
    obtain ⟨h1, h2⟩ := chkA_ok ps xs h.2
    cases x with
    | agg l =>
      have hl := eqTs_eq h.1
      have hlen : ts.length = l.length := by rw [← hl, List.length_map]
      constructor
      · show AV.agg ((l ++ cellsA xs).take ts.length) :: agrp ps ((l ++ cellsA xs).drop ts.length) = _
        rw [hlen, List.take_left, List.drop_left, h1]
      · show (l ++ cellsA xs).map AV.ty = ts ++ Ps.tys ps
        rw [List.map_append, hl, h2]
    | _ => cases h.1
  | (false, ts) :: ps, x :: xs, h => by
    have h : (x.oneB ts && chkA ps xs) = true := h
    rw [Bool.and_eq_true] at h
    obtain ⟨h1, h2⟩ := chkA_ok ps xs h.2
    cases x with
    | agg l => cases h.1
    | _ =>
      have hx := eqTs_eq (us := ts) (ts := [_]) h.1
      subst hx
      constructor
      · show hdX (_ :: cellsA xs) :: agrp ps (cellsA xs) = _
        rw [h1]; rfl
      · show _ :: (cellsA xs).map AV.ty = _ :: Ps.tys ps
        rw [h2]; rfl
theorem adec_enc {ps : Ps} {xs : List AV} (h : chkA ps xs = true) : adec ps (encT (Ps.tys ps) (cellsA xs)) = xs := by
  obtain ⟨h1, h2⟩ := chkA_ok ps xs h
  unfold adec
  rw [decT_ty h2, h1]
theorem cellsA_eq (xs : List AV) : cellsA xs = xs.flatMap AV.cells := by
  induction xs with
  | nil => rfl
  | cons x xs ih => show AV.cells x ++ cellsA xs = _; rw [ih, List.flatMap_cons]
/-- a function: the sorts of its arguments, the shape of its result, what it gives -/
structure FnT where
  ps : Ps
  sh : RS
  fn : Nat → tupT (Ps.tys ps) → Option (tupT sh.tys)
def FnT.ok (P : Program) (f : Nat) (F : FnT) : Prop := ∀ (n : Nat) (s : tupT (Ps.tys F.ps)) (z : tupT F.sh.tys), F.fn n s = some z → Con P f (adec F.ps s) (rdec F.sh z)
/-- a table of functions -/
abbrev Tab := List (Nat × FnT)
def Tab.ok (P : Program) (tab : Tab) : Prop := ∀ x ∈ tab, x.2.ok P x.1
abbrev MTab := List (Nat × SV × SV)
def MTab.ok (P : Program) (mt : MTab) : Prop := ∀ x ∈ mt, MapFn P x.1 x.2.1 x.2.2
def findF {β : Type} (tab : Tab) (f : Nat) (k : FnT → Option β) : Option β := List.rec (motive := fun _ => Option β) none (fun x _ ih => Bool.rec (motive := fun _ => Option β) ih (k x.2) (Nat.beq x.1 f)) tab
theorem findF_ok {β : Type} {tab : Tab} {f : Nat} {k : FnT → Option β} {z : β} (h : findF tab f k = some z) : ∃ F, (f, F) ∈ tab ∧ k F = some z := by
  induction tab with
  | nil => cases h
  | cons x tab ih =>
    have h : Bool.rec (motive := fun _ => Option β) (findF tab f k) (k x.2) (Nat.beq x.1 f) = some z := h
    cases hb : Nat.beq x.1 f with
    | true =>
      rw [hb] at h
      have := Nat.eq_of_beq_eq_true hb
      subst this
      exact ⟨x.2, List.mem_cons_self .., h⟩
    | false =>
      rw [hb] at h
      obtain ⟨F, h1, h2⟩ := ih h
      exact ⟨F, List.mem_cons_of_mem _ h1, h2⟩
def hasM (mt : MTab) (f : Nat) (ks vs : SV) : Bool := List.rec (motive := fun _ => Bool) false (fun x _ ih => or (and (Nat.beq x.1 f) (and (decide (x.2.1 = ks)) (decide (x.2.2 = vs)))) ih) mt
theorem hasM_ok {mt : MTab} {f : Nat} {ks vs : SV} (h : hasM mt f ks vs = true) : (f, ks, vs) ∈ mt := by
  induction mt with
  | nil => cases h
  | cons x mt ih =>
    have h : ((Nat.beq x.1 f && (decide (x.2.1 = ks) && decide (x.2.2 = vs))) || hasM mt f ks vs) = true := h
    rw [Bool.or_eq_true, Bool.and_eq_true, Bool.and_eq_true, decide_eq_true_iff, decide_eq_true_iff] at h
    rcases h with ⟨h1, h2, h3⟩ | h
    · have := Nat.eq_of_beq_eq_true h1
      obtain ⟨a, b, c⟩ := x
      dsimp only at this h2 h3
      subst this h2 h3
      exact List.mem_cons_self ..
    · exact List.mem_cons_of_mem _ (ih h)
/-- what a tree of ways is, as a function -/
def T.fn (tab : Tab) (mt : MTab) (n : Nat) (sh : RS) (t : T) : List AV → (Nat → List AV → Option (tupT sh.tys)) → Option (tupT sh.tys) :=
  T.rec (motive := fun _ => List AV → (Nat → List AV → Option (tupT sh.tys)) → Option (tupT sh.tys))
    (fun _ _ _ _ => none)
    (fun x env _ => Bool.rec (motive := fun _ => Option (tupT sh.tys)) none (some (encT sh.tys (reL env x))) ((reS x).eqb sh))
    (fun e _ t env K => cond (evX env e).b (t env K) none)
    (fun e _ _ a b env K => cond (evX env e).b (a env K) (b env K))
    (fun f args sh' _ t env K => findF tab f fun F => Bool.rec (motive := fun _ => Option (tupT sh.tys)) none (Option.bind (F.fn n (encT (Ps.tys F.ps) (cellsA (evX env args).g))) fun y => t (env ++ decT F.sh.tys y) K) (and (F.sh.eqb sh') (chkA F.ps (evX env args).g)))
    (fun lvl inits sorts _ _ _ t env K => Bool.rec (motive := fun _ => Option (tupT sh.tys)) none (iterF (σ := tupT sorts) (fun go s => t (env ++ decT sorts s) fun l us => Bool.rec (motive := fun _ => Option (tupT sh.tys)) (K l us) (Bool.rec (motive := fun _ => Option (tupT sh.tys)) none (go (encT sorts us)) (Nat.beq us.length sorts.length)) (Nat.beq l lvl)) n (encT sorts (evX env inits).g)) (Nat.beq (evX env inits).g.length sorts.length))
    (fun lvl es env K => K lvl (evX env es).g)
    (fun f ks vs _ t env K => Bool.rec (motive := fun _ => Option (tupT sh.tys)) none (t env K) (hasM mt f ks vs)) t
theorem T.fn_den {tab : Tab} {mt : MTab} {n : Nat} {sh : RS} (hC : tab.ok P) (hM : mt.ok P) {z : tupT sh.tys} : ∀ (t : T) (env : List AV) (K : Nat → List AV → Option (tupT sh.tys)) (K' : Nat → List AV → Prop), t.fn tab mt n sh env K = some z → (∀ l us, K l us = some z → K' l us) → t.den P (· = rdec sh z) env K' := by
  intro t
  induction t with
  | stop _ _ => intro env K K' h _; cases h
  | ret x =>
    intro env K K' h _
    have h : Bool.rec (motive := fun _ => Option (tupT sh.tys)) none (some (encT sh.tys (reL env x))) ((reS x).eqb sh) = some z := h
    cases hb : (reS x).eqb sh with
    | false => rw [hb] at h; cases h
    | true =>
      rw [hb] at h
      have h : some (encT sh.tys (reL env x)) = some z := h
      have hs := RS.eqb_eq hb
      rw [reS_eq env x] at hs
      show x.den env = rdec sh z
      rw [← Option.some.inj h, reL_eq, rdec_enc hs]
  | need e t ih =>
    intro env K K' h hK
    have h : cond (evX env e).b (t.fn tab mt n sh env K) none = some z := h
    rw [(evX_ok env e).2.2.1] at h
    cases hb : (Sx.den env e).b with
    | false => rw [hb] at h; cases h
    | true => rw [hb] at h; exact ⟨hb, ih env K K' h hK⟩
  | br e a b iha ihb =>
    intro env K K' h hK
    have h : cond (evX env e).b (a.fn tab mt n sh env K) (b.fn tab mt n sh env K) = some z := h
    rw [(evX_ok env e).2.2.1] at h
    refine ⟨fun hb => ?_, fun hb => ?_⟩
    · rw [hb] at h; exact iha env K K' h hK
    · rw [hb] at h; exact ihb env K K' h hK
  | call f args sh' t ih =>
    intro env K K' h hK
    have h : (findF tab f fun F => Bool.rec (motive := fun _ => Option (tupT sh.tys)) none (Option.bind (F.fn n (encT (Ps.tys F.ps) (cellsA (evX env args).g))) fun y => t.fn tab mt n sh (env ++ decT F.sh.tys y) K) (and (F.sh.eqb sh') (chkA F.ps (evX env args).g))) = some z := h
    obtain ⟨F, h1, h2⟩ := findF_ok h
    cases hb : (F.sh.eqb sh' && chkA F.ps (evX env args).g) with
    | false => rw [show (and (F.sh.eqb sh') (chkA F.ps (evX env args).g)) = false from hb] at h2; cases h2
    | true =>
      rw [show (and (F.sh.eqb sh') (chkA F.ps (evX env args).g)) = true from hb] at h2
      obtain ⟨y, hy, hz⟩ := Option.bind_eq_some_iff.1 (show Option.bind (F.fn n (encT (Ps.tys F.ps) (cellsA (evX env args).g))) _ = some z from h2)
      rw [Bool.and_eq_true] at hb
      have hs := RS.eqb_eq hb.1
      have hc := hC _ h1 n _ y hy
      dsimp only at hc
      rw [adec_enc hb.2, (evX_ok env args).2.2.2.2.2.1] at hc
      refine ⟨rdec F.sh y, by rw [rdec_shape, hs], hc, ?_⟩
      rw [rdec_leaves]
      exact ih _ K K' hz hK
  | loop lvl inits sorts key locs t ih =>
    intro env K K' h hK
    have h : Bool.rec (motive := fun _ => Option (tupT sh.tys)) none (iterF (σ := tupT sorts) (fun go s => t.fn tab mt n sh (env ++ decT sorts s) fun l us => Bool.rec (motive := fun _ => Option (tupT sh.tys)) (K l us) (Bool.rec (motive := fun _ => Option (tupT sh.tys)) none (go (encT sorts us)) (Nat.beq us.length sorts.length)) (Nat.beq l lvl)) n (encT sorts (evX env inits).g)) (Nat.beq (evX env inits).g.length sorts.length) = some z := h
    cases hl : Nat.beq (evX env inits).g.length sorts.length with
    | false => rw [hl] at h; cases h
    | true =>
      rw [hl] at h
      have h : iterF (σ := tupT sorts) (fun go s => t.fn tab mt n sh (env ++ decT sorts s) fun l us => Bool.rec (motive := fun _ => Option (tupT sh.tys)) (K l us) (Bool.rec (motive := fun _ => Option (tupT sh.tys)) none (go (encT sorts us)) (Nat.beq us.length sorts.length)) (Nat.beq l lvl)) n (encT sorts (evX env inits).g) = some z := h
      obtain ⟨step, hstep⟩ : ∃ step, step = fun (go : tupT sorts → Option (tupT sh.tys)) (s : tupT sorts) => t.fn tab mt n sh (env ++ decT sorts s) fun l us => Bool.rec (motive := fun _ => Option (tupT sh.tys)) (K l us) (Bool.rec (motive := fun _ => Option (tupT sh.tys)) none (go (encT sorts us)) (Nat.beq us.length sorts.length)) (Nat.beq l lvl) := ⟨_, rfl⟩
      rw [← hstep] at h
      refine T.den_loop (decT sorts) (fun s => ∃ m, iterF step m s = some z) (fun s => leastOf fun m => iterF step m s = some z) (encT sorts (evX env inits).g) ?_ ⟨n, h⟩ fun s hI => ?_
      · rw [decT_enc _ _ (Nat.eq_of_beq_eq_true hl), (evX_ok env inits).2.2.2.2.2.1]
      obtain ⟨h1, h2⟩ := leastOf_spec hI
      obtain ⟨m, hm⟩ : ∃ m, m = leastOf fun m => iterF step m s = some z := ⟨_, rfl⟩
      rw [← hm] at h1 h2 ⊢
      cases m with
      | zero => cases h1
      | succ m =>
        have h1 : step (iterF step m) s = some z := h1
        have hst : step (iterF step m) s = t.fn tab mt n sh (env ++ decT sorts s) fun l us => Bool.rec (motive := fun _ => Option (tupT sh.tys)) (K l us) (Bool.rec (motive := fun _ => Option (tupT sh.tys)) none (iterF step m (encT sorts us)) (Nat.beq us.length sorts.length)) (Nat.beq l lvl) := by rw [hstep]
        rw [hst] at h1
        refine ih _ _ _ h1 fun l us hu => ?_
        unfold upd
        cases hb : Nat.beq l lvl with
        | true =>
          rw [hb] at hu
          have := Nat.eq_of_beq_eq_true hb
          rw [if_pos this]
          cases hc : Nat.beq us.length sorts.length with
          | false => rw [hc] at hu; cases hu
          | true =>
            rw [hc] at hu
            have hu : iterF step m (encT sorts us) = some z := hu
            exact ⟨encT sorts us, (decT_enc _ _ (Nat.eq_of_beq_eq_true hc)).symm, ⟨m, hu⟩, Nat.lt_succ_of_le ((leastOf_spec ⟨m, hu⟩).2 m hu)⟩
        | false =>
          rw [hb] at hu
          have : l ≠ lvl := fun e => by subst e; rw [show Nat.beq l l = true from Nat.beq_refl l] at hb; cases hb
          rw [if_neg this]
          exact hK _ _ hu
  | again lvl es =>
    intro env K K' h hK
    have h : K lvl (evX env es).g = some z := h
    rw [(evX_ok env es).2.2.2.2.2.1] at h
    exact hK _ _ h
  | ext f ks vs t ih =>
    intro env K K' h hK
    have h : Bool.rec (motive := fun _ => Option (tupT sh.tys)) none (t.fn tab mt n sh env K) (hasM mt f ks vs) = some z := h
    cases hb : hasM mt f ks vs with
    | false => rw [hb] at h; cases h
    | true => rw [hb] at h; exact ⟨hM _ (hasM_ok hb), ih env K K' h hK⟩
theorem FnT.ok_of {cfg : Cfg} {f : Nat} {F : FnT} {tab : Tab} {mt : MTab} (hfit : PFit P) (hC : tab.ok P) (hM : mt.ok P) (ho : ∀ s fn, P.funcs[f]? = some fn → argsOK P fn.params.toList (adec F.ps s) = true)
    (h : ∀ n s, (symFn P cfg f).fn tab mt n F.sh (cellsA (adec F.ps s)) (fun _ _ => none) = F.fn n s) : F.ok P f := fun n s z hz => by
  rw [← h n s] at hz
  exact con_of_sym (cfg := cfg) (K := fun _ _ => False) hfit (ho s) (by rw [← cellsA_eq]; exact T.fn_den hC hM _ _ _ _ hz fun _ _ h => by cases h)
theorem Tab.ok_nil : Tab.ok P [] := fun _ h => by cases h
theorem Tab.ok_cons {f : Nat} {F : FnT} {tab : Tab} (h : F.ok P f) (ht : tab.ok P) : Tab.ok P ((f, F) :: tab) := fun x hx => by
  rcases List.mem_cons.1 hx with rfl | hx
  · exact h
  · exact ht x hx
end
end Go.Sx
