/-
  Plain lemmas on worlds: slices that read as lists of cells, blocks that are known whole, and one law for a range over a function whose iterator keeps its state in cells.
-/
import Derived.WalkKit
import Derived.WalkLawsBesides
import Derived.WalkSpells
import Derived.Deep.QuietTactic
import Derived.BigQuiet
import Derived.Lib.Hide
import Derived.RangeFuncNested
import Derived.RangeFuncBox
import Derived.RangeFuncCalls
import Derived.RangeFuncLeaves
import Derived.OwnWalkIn
import Derived.TacticsInMore
import Derived.LoopNIn
import Derived.LoopIn
import Derived.Shelf.Abstract
set_option linter.unusedVariables false
set_option linter.unusedSimpArgs false
namespace Go.Dial
open Go Go.RowKit

@[simp, go_sem] theorem wide_depth : Fence.wide.depth = none := rfl
@[simp, go_sem] theorem wide_fn (f : FuncId) : Fence.wide.fn f = True := rfl

/-- B follows A: blocks of A outside 'mine' are kept. -/
structure Ext (mine : Nat → Prop) (A B : World) : Prop where
  os : B.os = A.os
  tape : B.tape = A.tape
  output : B.output = A.output
  size : A.heap.size ≤ B.heap.size
  block : ∀ k, k < A.heap.size → ¬ mine k → B.heap[k]? = A.heap[k]?

theorem Ext.refl (mine : Nat → Prop) (A : World) : Ext mine A A := ⟨rfl, rfl, rfl, Nat.le_refl _, fun _ _ _ => rfl⟩
theorem Ext.trans {mine : Nat → Prop} {A B C : World} (h : Ext mine A B) (k : Ext mine B C) : Ext mine A C :=
  ⟨k.os.trans h.os, k.tape.trans h.tape, k.output.trans h.output, Nat.le_trans h.size k.size, fun i hi hm => (k.block i (Nat.lt_of_lt_of_le hi h.size) hm).trans (h.block i hi hm)⟩
theorem Ext.mono {m m' : Nat → Prop} {A B : World} (h : Ext m A B) (hm : ∀ k, k < A.heap.size → m k → m' k) : Ext m' A B :=
  ⟨h.os, h.tape, h.output, h.size, fun k hk hn => h.block k hk (fun e => hn (hm k hk e))⟩
theorem Ext.below {m : Nat → Prop} {A B : World} {n : Nat} (h : Ext m A B) (hm : ∀ k, m k → n ≤ k) (hn : n ≤ A.heap.size) : Below n A B :=
  ⟨h.os, h.tape, h.output, h.size, fun k hk => h.block k (by omega) (fun e => by have := hm k e; omega)⟩
theorem Ext.of_below {m : Nat → Prop} {A B : World} {n : Nat} (h : Below n A B) (hm : ∀ k, n ≤ k → k < A.heap.size → m k) : Ext m A B :=
  ⟨h.os, h.tape, h.output, h.size, fun k hk hn => h.block k (by rcases Nat.lt_or_ge k n with h1 | h1; exact h1; exact absurd (hm k h1 hk) hn)⟩
theorem Ext.putObj (m : Nat → Prop) (A : World) (l : Nat) (o : Obj) (hl : m l) : Ext m A (A.putObj l o) :=
  ⟨rfl, rfl, rfl, by simp, fun k _ hm => World.putObj_heap_other (fun e => hm (e ▸ hl))⟩
theorem Ext.cell {m : Nat → Prop} {A B : World} (h : Ext m A B) {p : Addr} {v : Value} (hc : A.cell? p = some v) (hp : ¬ m p.block) : B.cell? p = some v :=
  (World.cell?_of_block (h.block p.block (World.block_lt_of_cell? A p hc) hp)).trans hc

theorem Ext.setCell (m : Nat → Prop) (A : World) (p : Addr) (v : Value) (hl : m p.block) : Ext m A (A.setCell p v) :=
  ⟨rfl, rfl, rfl, by simp [World.setCell], fun k _ hm => Below.heap_setCell _ _ _ _ (fun e => hm (e ▸ hl))⟩
theorem Ext.alloc (m : Nat → Prop) (A : World) (o : Obj) : Ext m A (A.alloc o) :=
  ⟨rfl, rfl, rfl, by simp, fun k hk _ => Below.heap_alloc _ _ _ hk⟩
theorem Ext.drew (m : Nat → Prop) (A : World) : Ext m A A.drew := ⟨rfl, rfl, rfl, Nat.le_refl _, fun _ _ _ => rfl⟩

/-- The blocks that an iterator's side may turn: its own, and (from base on) whatever holds no cells. -/
def sideOf (mine : Nat → Prop) (base : Nat) (A : World) (k : Nat) : Prop := mine k ∨ (base ≤ k ∧ ∃ o, A.heap[k]? = some o ∧ o.isCells = false)

theorem Ext.keeps {mine : Nat → Prop} {A B : World} (h : Ext mine A B) {k : Nat} {o : Obj} (hk : A.heap[k]? = some o) (hm : ¬ mine k) : B.heap[k]? = some o :=
  (h.block k (Array.getElem?_eq_some_iff.1 hk).1 hm).trans hk
theorem boxed_side {mine : Nat → Prop} {base : Nat} {X Y : World} {B : Nat} {t : TypeId} {v : Value} (h : Boxed X B t v) (hx : Ext (sideOf mine base X) X Y) (hm : ¬ mine B) : Boxed Y B t v :=
  hx.keeps h (fun hs => by
    rcases hs with hs | ⟨_, o, ho, hc⟩
    · exact hm hs
    · rw [show X.heap[B]? = _ from h] at ho; cases ho; cases hc)
theorem own_side {mine : Nat → Prop} {base : Nat} {X Y : World} {rb : Nat} {e : TypeId} {size : Nat} {v : Value} {k : Nat} {xs : List Value} (h : X.ownsRow rb e size v k xs) (hx : Ext (sideOf mine base X) X Y)
    (hm : ∀ k, rb ≤ k → ¬ mine k) : Y.ownsRow rb e size v k xs := by
  refine ⟨h.1, ?_⟩
  rcases h.2 with hn | ⟨g, cap, cur, rfl, hb, hgg, rest⟩
  · exact .inl hn
  · refine .inr ⟨g, cap, cur, rfl, hb, hx.keeps hgg (fun hs => ?_), rest⟩
    rcases hs with hs | ⟨_, o, ho, hc⟩
    · exact hm g hb hs
    · rw [hgg] at ho; cases ho; cases hc
theorem below_side {mine : Nat → Prop} {base n : Nat} {w X Y : World} (h : Below n w X) (hx : Ext (sideOf mine base X) X Y) (hm : ∀ k, mine k → n ≤ k) (hb : n ≤ base) (hn : n ≤ w.heap.size) : Below n w Y :=
  h.trans (hx.below (fun k hk => by rcases hk with hk | ⟨hk, _⟩; exact hm k hk; omega) (Nat.le_trans hn h.size))

/-- 'out = append(out, ..)' with out in a box, in the body of a loop. -/
theorem box_append {W w1 : World} {rb B : Nat} {t e : TypeId} {size : Nat} {v v' : Value} {k m : Nat} {xs ys : List Value} {tmp : Obj}
    (hv : Boxed W B t v) (hte : t ≠ e) (hrow : W.ownsRow rb e size v k xs) (hown' : w1.ownsRow rb e size v' m ys) (hgrow : (W.alloc tmp).grownBy w1 v.ownBlock) :
    Boxed w1 B t v ∧ Boxed (w1.setCell ⟨B, 0, none⟩ v') B t v' ∧ (w1.setCell ⟨B, 0, none⟩ v').ownsRow rb e size v' m ys ∧ KeepsOthers W (w1.setCell ⟨B, 0, none⟩ v') ∧ Ext (fun k => k = B ∨ rb ≤ k) W (w1.setCell ⟨B, 0, none⟩ v') := by
  have hv1 : Boxed w1 B t v := (hv.alloc tmp).kept hgrow (hv.not_row hte hrow)
  refine ⟨hv1, hv1.set v', hown'.kept (grownBy_setCell' w1 B v') (.inr (hv1.not_row hte hown').symm), ?_, ?_⟩
  · refine ((KeepsOthers.alloc W tmp).trans (KeepsOthers.of_grownBy hgrow fun j o ej hj => ?_)).trans (KeepsOthers.setCell _ _ _)
    rcases (hrow.alloc tmp).2 with ⟨rfl, _⟩ | ⟨g, cap, cur, rfl, _, hgb, _⟩
    · simp [Value.ownBlock] at ej
    · obtain rfl : g = j := by simpa [Value.ownBlock] using ej
      rw [hgb] at hj; cases hj; rfl
  · refine ((Ext.alloc _ W tmp).trans ?_).trans (Ext.setCell _ _ _ _ (.inl rfl))
    exact ⟨hgrow.os, hgrow.tape, hgrow.output, hgrow.size, fun k hk hm => hgrow.block k hk (fun ek => hm (.inr (hrow.lt k ek.symm).1))⟩

/-- An iterator's contract: it hands over the elements of xs one after the other; 'mine': the blocks that it may turn; 'needs': the blocks that a round must leave alone. -/
def Iter {α : Type} (P : Program) (gf : FuncId) (lb : Array Value) (encs : α → Array Value) (xs : List α) (mine needs : Nat → Prop) (W : World) : Prop :=
  ∀ (l : Nat) (J Jx : List α → World → Prop),
    (∀ s A B, J s A → Ext mine A B → J s B) → (∀ s A B, Jx s A → Ext mine A B → Jx s B) →
    (∀ pre x post W1, xs = pre ++ x :: post → J pre W1 → YieldAt Fence.wide 0 P l (encs x) W1 fun e W' =>
      (e = .returned (.bool true) ∧ J (pre ++ [x]) W' ∧ W1.heap.size ≤ W'.heap.size ∧ (∀ k, needs k → W'.heap[k]? = W1.heap[k]?)) ∨ (e = .returned (.bool false) ∧ Jx (pre ++ [x]) W')) →
    J [] W →
    Calls P gf (#[.func (.yield l) #[] #[]] ++ lb) W fun e W' => (∃ v, e = .returned v) ∧ (J xs W' ∨ ∃ pre x post, xs = pre ++ x :: post ∧ Jx (pre ++ [x]) W')

/-- How the body of a round may be left. -/
def rPost {α : Type} (base : Nat) (needs : Nat → Prop) (I : List α → World → Prop) (Ix : Code → List α → World → Prop) (xs : List α) (W : World) : Exit → Act → World → Prop
  | .normal, _, W' => KeepsFrom base W W' ∧ (∀ k, needs k → W'.heap[k]? = W.heap[k]?) ∧ I xs W'
  | .ret, _, W' => KeepsFrom base W W' ∧ Ix .ret xs W'
  | .exit id, _, W' => KeepsFrom base W W' ∧ Ix (.exit id) xs W'
  | .goto t, _, W' => KeepsFrom base W W' ∧ Ix (.goto t) xs W'
  | .panic _, _, _ => False
  | .outgrown, _, _ => False

/-- A range over a function, the loop outermost in its function: the iterator has its contract; the caller's invariant I abides the iterator's side; a round, walked once. -/
theorem wpIn_rangeIt {P : Program} {α : Type} {g : Operand} {ps : Array Tmp} {assign body : Code} {Q : Exit → Act → World → Prop} {a : Act} {w : World} {n : Nat}
    {gf : Nat} {lb : Array Value} (hg : a.eval g = .func (.func gf) #[] lb) (eg : ∀ args w, (callFunc gf args).run P w = .ok (.enter gf args) w)
    {encs : α → Array Value} {xs : List α} {mine needs : Nat → Prop} (hmine : ∀ k, mine k → k < w.heap.size) (hneeds : ∀ k, needs k → k < w.heap.size)
    (hseq : ∀ W1, Below w.heap.size w W1 → Iter P gf lb encs xs mine needs W1) (hps : ∀ x, (encs x).size = ps.size)
    (I : List α → World → Prop) (Ix : Code → List α → World → Prop)
    (hI : ∀ s X Y, I s X → Ext (sideOf mine w.heap.size X) X Y → I s Y) (hIx : ∀ c s X Y, Ix c s X → Ext (sideOf mine w.heap.size X) X Y → Ix c s Y)
    (h0 : I [] w)
    (hround : ∀ (l : Nat) (pre : List α) (x : α) (post : List α) (W : World), xs = pre ++ x :: post → I pre W → w.heap.size < W.heap.size →
      assign.wpIn (Fence.wide.inRound l) 0 P (Exit.then (fun a₁ W₁ => KeepsFrom w.heap.size W W₁ ∧ (∀ k, needs k → W₁.heap[k]? = W.heap[k]?) ∧
          ∀ W₂, Ext (sideOf mine w.heap.size W₁) W₁ W₂ → body.wpIn (Fence.wide.inRound l) 0 P (rPost w.heap.size needs I Ix (pre ++ [x]) W₂) a₁ W₂) (fun _ _ _ => False))
        { tmps := (ps.zip (encs x)).foldl (fun t (p, v) => t.setIfInBounds p v) a.tmps, defers := [] } W)
    (hdone : ∀ (D : Nat) (W : World), I xs W → w.heap.size ≤ D → W.heap[D]? = some (.deferred (some [])) → Q .normal { a with defers := { target := .collected D, args := #[] } :: a.defers } W)
    (hstop : ∀ (D : Nat) (c : Code) (pre : List α) (x : α) (post : List α) (W : World), xs = pre ++ x :: post → Ix c (pre ++ [x]) W → w.heap.size ≤ D → W.heap[D]? = some (.deferred (some [])) →
      c.wpIn Fence.wide n P Q { a with defers := { target := .collected D, args := #[] } :: a.defers } W) :
    (Code.rangeFunc g ps assign body).wpIn Fence.wide n P Q a w := by
  refine wpIn_rangeFunc ?_
  intro fn hfn
  show ∃ (l : Nat) (mark : List Deferred) (w₁ : World) (d : Deferred) (w₁' : World) (f : FuncId) (args : Array Value) (w₂ : World), _
  obtain ⟨rec, hrec⟩ : ∃ rec : LoopState → Option Code → Loop, rec = fun st pe => { state := st, pending := pe, fn, tmps := a.tmps, params := ps, assign, body, defers := w.heap.size } := ⟨_, rfl⟩
  obtain ⟨W1, hW1⟩ : ∃ W1, (w.alloc (.deferred (some []))).alloc (.loop (rec .ready none)) = W1 := ⟨_, rfl⟩
  have hL1 : W1.heap[w.heap.size + 1]? = some (.loop (rec .ready none)) := by
    rw [← hW1]; have := World.alloc_heap_new (w.alloc (.deferred (some []))) (.loop (rec .ready none)); rwa [World.size_alloc] at this
  have hK1 : W1.heap[w.heap.size]? = some (.deferred (some [])) := by
    rw [← hW1]; exact (Below.heap_alloc _ _ _ (by simp)).trans (World.alloc_heap_new w _)
  have hb1 : Below w.heap.size w W1 := by
    rw [← hW1]; exact (((Below.refl _ w).alloc (Nat.le_refl _) _).alloc (by simp) _)
  have hs1 : w.heap.size < W1.heap.size := (Array.getElem?_eq_some_iff.1 hK1).1
  have hI1 : I [] W1 := hI _ _ _ h0 (Ext.of_below hb1 (fun k h1 h2 => by omega))
  have hlm : ¬ mine (w.heap.size + 1) := fun h => by have := hmine _ h; omega
  have hDm : ¬ mine w.heap.size := fun h => by have := hmine _ h; omega
  have hsideI : ∀ {X Y : World}, Ext mine X Y → Ext (sideOf mine w.heap.size X) X Y := fun h => h.mono (fun k _ hm => .inl hm)
  have hsidel : ∀ {X : World} {o : Obj} (o' : Obj), X.heap[w.heap.size + 1]? = some o → o.isCells = false → Ext (sideOf mine w.heap.size X) X (X.putObj (w.heap.size + 1) o') :=
    fun o' h hc => Ext.putObj _ _ _ _ (.inr ⟨by omega, _, h, hc⟩)
  refine ⟨w.heap.size + 1, [{ target := .collected w.heap.size, args := #[] }], W1, { target := .fn (.func gf) lb, args := #[.func (.yield (w.heap.size + 1)) #[] #[]] }, W1, gf,
    #[.func (.yield (w.heap.size + 1)) #[] #[]] ++ lb, W1, ?_, ?_, ?_, ?_, ?_, ?_⟩
  · rw [← hW1, hrec]; exact run_enterLoop_outer _ _ _ _ _
  · simp only [resolve, hg]
    simp [go_sem]
  · intro f' _; trivial
  · simp [invoke, go_sem, eg]
  · intro h; simp [Fence.wide] at h
  · refine (callsIn_wide.2 (hseq W1 hb1 (w.heap.size + 1)
      (fun pre W => I pre W ∧ w.heap.size < W.heap.size ∧ W.heap[w.heap.size + 1]? = some (.loop (rec .ready none)) ∧ W.heap[w.heap.size]? = some (.deferred (some [])))
      (fun pre W => ∃ c, Ix c pre W ∧ W.heap[w.heap.size + 1]? = some (.loop (rec .done (some c))) ∧ W.heap[w.heap.size]? = some (.deferred (some [])))
      (fun s X Y hs hx => ⟨hI _ _ _ hs.1 (hsideI hx), Nat.lt_of_lt_of_le hs.2.1 hx.size, hx.keeps hs.2.2.1 hlm, hx.keeps hs.2.2.2 hDm⟩)
      (fun s X Y hs hx => by
        obtain ⟨c, hc, hl, hk⟩ := hs
        exact ⟨c, hIx _ _ _ _ hc (hsideI hx), hx.keeps hl hlm, hx.keeps hk hDm⟩)
      ?_ ⟨hI1, hs1, hL1, hK1⟩)).mono ?_
    · rintro pre x post W hxs ⟨hi, hsz, hl, hk⟩
      have hy := run_yield (P := P) (args := encs x) hl (by rw [hrec]; exact hps x)
      rw [hrec] at hy
      have round : (RoundIn Fence.wide 0 P (w.heap.size + 1) fn ((ps.zip (encs x)).foldl (fun t (p, v) => t.setIfInBounds p v) a.tmps) assign body W fun e W' =>
        (e = .returned (.bool true) ∧ (I (pre ++ [x]) W' ∧ w.heap.size < W'.heap.size ∧ W'.heap[w.heap.size + 1]? = some (.loop (rec .ready none)) ∧ W'.heap[w.heap.size]? = some (.deferred (some []))) ∧ W.heap.size ≤ W'.heap.size ∧ (∀ k, needs k → W'.heap[k]? = W.heap[k]?)) ∨
        (e = .returned (.bool false) ∧ ∃ c, Ix c (pre ++ [x]) W' ∧ W'.heap[w.heap.size + 1]? = some (.loop (rec .done (some c))) ∧ W'.heap[w.heap.size]? = some (.deferred (some [])))) := by
        refine roundIn_of_wpIn hfn (wpIn_mono (hround _ pre x post W hxs hi hsz) ?_)
        rintro e a₁ W₁ h
        cases e with
        | normal =>
          obtain ⟨hkf, hkn, hbody⟩ := h
          have hl1 := hkf.same _ _ (by omega) hl rfl
          have hk1 := hkf.same _ _ (Nat.le_refl _) hk rfl
          refine ⟨_, run_beginRound hl1 (by rw [hrec]), ?_⟩
          obtain ⟨W₂, hW₂⟩ : ∃ W₂, W₁.putObj (w.heap.size + 1) (.loop { rec .ready none with state := .busy }) = W₂ := ⟨_, rfl⟩
          rw [hW₂]
          have hl2 : W₂.heap[w.heap.size + 1]? = some (.loop { rec .ready none with state := .busy }) := by
            rw [← hW₂]; exact World.putObj_heap_same (Array.getElem?_eq_some_iff.1 hl1).1
          have hk2 : W₂.heap[w.heap.size]? = some (.deferred (some [])) := by rw [← hW₂]; exact (World.putObj_heap_other (by omega)).trans hk1
          have hn2 : ∀ k, needs k → W₂.heap[k]? = W.heap[k]? := fun k hk => by
            rw [← hW₂]; exact (World.putObj_heap_other (by have := hneeds k hk; omega)).trans (hkn k hk)
          have hz2 : W.heap.size ≤ W₂.heap.size := by rw [← hW₂]; simpa using hkf.size
          have ha2 : Ext (sideOf mine w.heap.size W₁) W₁ W₂ := by rw [← hW₂]; exact hsidel _ hl1 rfl
          refine wpIn_mono (hbody W₂ ha2) ?_
          have fin : ∀ (jump : Option Code) (W3 : World), KeepsFrom w.heap.size W₂ W3 →
              (Instr.endRound (w.heap.size + 1) jump).run P W3 = .ok (.bool jump.isNone) (W3.putObj (w.heap.size + 1) (.loop (rec (if jump.isNone then .ready else .done) jump))) ∧
              W3.heap[w.heap.size + 1]? = some (.loop { rec .ready none with state := .busy }) ∧
              (W3.putObj (w.heap.size + 1) (.loop (rec (if jump.isNone then .ready else .done) jump))).heap[w.heap.size + 1]? = some (.loop (rec (if jump.isNone then .ready else .done) jump)) ∧
              (W3.putObj (w.heap.size + 1) (.loop (rec (if jump.isNone then .ready else .done) jump))).heap[w.heap.size]? = some (.deferred (some [])) := fun jump W3 hk3 => by
            have hl3 := hk3.same _ _ (by omega) hl2 rfl
            have := run_endRound (P := P) jump hl3
            rw [hrec] at this ⊢
            exact ⟨this, by rw [hrec] at hl3; exact hl3, World.putObj_heap_same (Array.getElem?_eq_some_iff.1 hl3).1, (World.putObj_heap_other (by omega)).trans (hk3.same _ _ (Nat.le_refl _) hk2 rfl)⟩
          rintro e a3 W3 hp
          cases e with
          | normal =>
            obtain ⟨hk3, hn3, hi3⟩ := hp
            obtain ⟨hr, hl3, hl4, hk4⟩ := fin none W3 hk3
            refine ⟨_, _, hr, .inl ⟨rfl, ⟨hI _ _ _ hi3 (hsidel _ hl3 rfl), ?_, hl4, hk4⟩, ?_, fun k hk => ?_⟩⟩
            · have := hk3.size; simp; omega
            · have := hk3.size; simp; omega
            · exact (World.putObj_heap_other (by have := hneeds k hk; omega)).trans ((hn3 k hk).trans (hn2 k hk))
          | ret =>
            obtain ⟨hk3, hi3⟩ := hp
            obtain ⟨hr, hl3, hl4, hk4⟩ := fin (some .ret) W3 hk3
            exact ⟨_, _, hr, .inr ⟨rfl, .ret, hIx _ _ _ _ hi3 (hsidel _ hl3 rfl), hl4, hk4⟩⟩
          | exit id =>
            obtain ⟨hk3, hi3⟩ := hp
            obtain ⟨hr, hl3, hl4, hk4⟩ := fin (some (.exit id)) W3 hk3
            exact ⟨_, _, hr, .inr ⟨rfl, .exit id, hIx _ _ _ _ hi3 (hsidel _ hl3 rfl), hl4, hk4⟩⟩
          | goto t =>
            obtain ⟨hk3, hi3⟩ := hp
            obtain ⟨hr, hl3, hl4, hk4⟩ := fin (some (.goto t)) W3 hk3
            exact ⟨_, _, hr, .inr ⟨rfl, .goto t, hIx _ _ _ _ hi3 (hsidel _ hl3 rfl), hl4, hk4⟩⟩
          | panic ch => exact hp.elim
          | outgrown => exact hp.elim
        | ret => exact h
        | exit id => exact h
        | goto t => exact h
        | panic ch => exact h
        | outgrown => exact h
      exact ⟨fn, _, assign, body, hy, round⟩
    · rintro e W2 ⟨⟨v, rfl⟩, (⟨hi, _, hl, hk⟩ | ⟨pre, x, post, hxs, c, hi, hl, hk⟩)⟩
      · exact ⟨none, _, by have := run_endLoop (P := P) hl (by rw [hrec]; simp); rw [hrec] at this; exact this, hdone _ _ (hI _ _ _ hi (hsidel _ hl rfl)) (Nat.le_refl _) ((World.putObj_heap_other (by omega)).trans hk)⟩
      · exact ⟨some c, _, by have := run_endLoop (P := P) hl (by rw [hrec]; simp); rw [hrec] at this; exact this, hstop _ c pre x post _ hxs (hIx _ _ _ _ hi (hsidel _ hl rfl)) (Nat.le_refl _) ((World.putObj_heap_other (by omega)).trans hk)⟩

/-- A slice value at A of n elements, each of sz cells, holds the cells cs and lies below block B. -/
def Span (w : World) (B sz : Nat) (A : Option Addr) (n : Nat) (cs : List Value) : Prop :=
  cs.length = n * sz ∧ ∀ j u, cs[j]? = some u → ∃ a, A = some a ∧ a.block < B ∧ w.cell? (a.add j) = some u
theorem add_block (a : Addr) (n : Nat) : (a.add n).block = a.block := by unfold Addr.add; split <;> rfl
theorem add_add (a : Addr) (i j : Nat) : (a.add i).add j = a.add (i + j) := by
  unfold Addr.add
  by_cases hi : i = 0 <;> by_cases hj : j = 0 <;> simp [hi, hj, Nat.add_assoc]
theorem Span.nil (w : World) (B sz : Nat) (A : Option Addr) : Span w B sz A 0 [] := ⟨by simp, fun j u h => by simp at h⟩
theorem Span.keep {w w' : World} {B sz n : Nat} {A : Option Addr} {cs : List Value} (h : Span w B sz A n cs) (hk : ∀ p : Addr, p.block < B → w'.cell? p = w.cell? p) : Span w' B sz A n cs :=
  ⟨h.1, fun j u hu => by
    obtain ⟨a, e, hb, hc⟩ := h.2 j u hu
    exact ⟨a, e, hb, (hk _ (by rw [add_block]; exact hb)).trans hc⟩⟩
theorem Span.below {w w' : World} {B B' sz n : Nat} {A : Option Addr} {cs : List Value} (h : Span w B sz A n cs) (hb : Below B' w w') (hB : B ≤ B') : Span w' B sz A n cs :=
  h.keep fun _ hp => hb.cell (Nat.lt_of_lt_of_le hp hB)
theorem Span.mono {w : World} {B B' sz n : Nat} {A : Option Addr} {cs : List Value} (h : Span w B sz A n cs) (hB : B ≤ B') : Span w B' sz A n cs :=
  ⟨h.1, fun j u hu => by
    obtain ⟨a, e, hb, hc⟩ := h.2 j u hu
    exact ⟨a, e, Nat.lt_of_lt_of_le hb hB, hc⟩⟩
theorem Span.of_own {w : World} {base sz n c : Nat} {e : TypeId} {A : Option Addr} {cs : List Value} (h : w.ownsRow base e sz (.slice A n c) n cs) : Span w w.heap.size sz A n cs := by
  refine ⟨h.1, fun j u hu => ?_⟩
  rcases h.2 with ⟨hv, hn⟩ | ⟨g, cap, cur, hv, _, hg, _⟩
  · have h1 := h.1
    rw [hn] at h1
    simp at h1
    rw [h1] at hu; simp at hu
  · have hA : A = some ⟨g, 0, none⟩ := by injection hv
    subst hA
    exact ⟨_, rfl, (Array.getElem?_eq_some_iff.1 hg).1, h.cells (g := g) rfl j u hu⟩

/-- An append to a row of the call's own turns nothing below. -/
theorem own_append_below {W w w1 : World} {n base : Nat} {e : TypeId} {size k : Nat} {v : Value} {xs : List Value} {o : Obj} (hb : Below n W w) (hg : (w.alloc o).grownBy w1 v.ownBlock) (hrow : w.ownsRow base e size v k xs) (hn : n ≤ w.heap.size := by omega) (hbase : n ≤ base := by omega) : Below n W w1 :=
  (hb.alloc hn o).grown hg (by simp; omega) (fun j ej => by have := (hrow.lt j ej).1; omega)

end Go.Dial
