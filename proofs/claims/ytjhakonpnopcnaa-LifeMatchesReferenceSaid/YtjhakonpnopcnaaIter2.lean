/-
  One law more for a range over a function: the iterator keeps variables of its own, allocated while it runs; a round leaves blocks of their kind alone.
-/
import Derived.Test.YtjhakonpnopcnaaBase
set_option linter.unusedVariables false
set_option linter.unusedSimpArgs false
namespace Go.Dial
open Go Go.RowKit

/-- blocks from base on of a kind that is protected stay as they are -/
def KeepsP (prot : Obj → Prop) (base : Nat) (W W' : World) : Prop := ∀ k o, base ≤ k → prot o → W.heap[k]? = some o → W'.heap[k]? = some o
theorem KeepsP.refl (prot : Obj → Prop) (base : Nat) (W : World) : KeepsP prot base W W := fun _ _ _ _ h => h
theorem KeepsP.trans {prot : Obj → Prop} {base : Nat} {A B C : World} (h : KeepsP prot base A B) (k : KeepsP prot base B C) : KeepsP prot base A C := fun i o hi hp ho => k i o hi hp (h i o hi hp ho)
theorem KeepsP.mono {prot : Obj → Prop} {base base' : Nat} {A B : World} (h : KeepsP prot base A B) (hb : base ≤ base') : KeepsP prot base' A B := fun i o hi hp ho => h i o (Nat.le_trans hb hi) hp ho
theorem KeepsP.below {prot : Obj → Prop} {base : Nat} {A B : World} (h : Below A.heap.size A B) : KeepsP prot base A B := fun i _ _ _ ho => (h.block i (Array.getElem?_eq_some_iff.1 ho).1).trans ho
/-- blocks of cells of one kind -/
def protT (ty : TypeId) (o : Obj) : Prop := ∃ c f, o = .cells c ty f
theorem protT_cells {ty : TypeId} (o : Obj) (h : protT ty o) : o.isCells = true := by obtain ⟨c, f, rfl⟩ := h; rfl
/-- the blocks that an iterator turns: those that it may, and its own variables -/
def ownP (prot : Obj → Prop) (mine : Nat → Prop) (base : Nat) (A : World) (k : Nat) : Prop := mine k ∨ (base ≤ k ∧ ∃ o, A.heap[k]? = some o ∧ prot o)
/-- the blocks that an iterator's side may turn -/
def sideP (prot : Obj → Prop) (mine : Nat → Prop) (base : Nat) (A : World) (k : Nat) : Prop := mine k ∨ (base ≤ k ∧ ∃ o, A.heap[k]? = some o ∧ (o.isCells = false ∨ prot o))
theorem side_of {prot : Obj → Prop} {mine : Nat → Prop} {base : Nat} {X Y : World} (h : Ext (sideOf mine base X) X Y) : Ext (sideP prot mine base X) X Y :=
  h.mono fun _ _ hm => hm.imp id fun ⟨a, o, b, c⟩ => ⟨a, o, b, .inl c⟩
theorem cells_side {mine : Nat → Prop} {base : Nat} {X Y : World} {B : Nat} {t : TypeId} {cs : Array Value} (h : X.heap[B]? = some (.cells cs t)) (hx : Ext (sideOf mine base X) X Y) (hm : ¬ mine B) : Y.heap[B]? = some (.cells cs t) :=
  hx.keeps h (fun hs => by
    rcases hs with hs | ⟨_, o, ho, hc⟩
    · exact hm hs
    · rw [h] at ho; cases ho; cases hc)
theorem boxed_sideP {mine : Nat → Prop} {base : Nat} {ty : TypeId} {X Y : World} {B : Nat} {t : TypeId} {v : Value} (h : Boxed X B t v) (hx : Ext (sideP (protT ty) mine base X) X Y) (hm : ¬ mine B) (ht : t ≠ ty ∨ B < base) : Boxed Y B t v :=
  hx.keeps h (fun hs => by
    rcases hs with hs | ⟨hb, o, ho, hc⟩
    · exact hm hs
    · rw [show X.heap[B]? = _ from h] at ho; cases ho
      rcases hc with hc | ⟨c, f, hc⟩
      · cases hc
      · cases hc
        rcases ht with ht | ht
        · exact ht rfl
        · omega)
theorem cells_sideP {mine : Nat → Prop} {base : Nat} {ty : TypeId} {X Y : World} {B : Nat} {t : TypeId} {cs : Array Value} (h : X.heap[B]? = some (.cells cs t)) (hx : Ext (sideP (protT ty) mine base X) X Y) (hm : ¬ mine B) (ht : t ≠ ty ∨ B < base) : Y.heap[B]? = some (.cells cs t) :=
  hx.keeps h (fun hs => by
    rcases hs with hs | ⟨hb, o, ho, hc⟩
    · exact hm hs
    · rw [h] at ho; cases ho
      rcases hc with hc | ⟨c, f, hc⟩
      · cases hc
      · cases hc
        rcases ht with ht | ht
        · exact ht rfl
        · omega)
theorem own_sideP {mine : Nat → Prop} {base : Nat} {ty : TypeId} {X Y : World} {rb : Nat} {e : TypeId} {size : Nat} {v : Value} {k : Nat} {xs : List Value} (h : X.ownsRow rb e size v k xs) (hx : Ext (sideP (protT ty) mine base X) X Y)
    (hm : ∀ k, rb ≤ k → ¬ mine k) (he : e ≠ ty) : Y.ownsRow rb e size v k xs := by
  refine ⟨h.1, ?_⟩
  rcases h.2 with hn | ⟨g, cap, cur, rfl, hb, hgg, rest⟩
  · exact .inl hn
  · refine .inr ⟨g, cap, cur, rfl, hb, hx.keeps hgg (fun hs => ?_), rest⟩
    rcases hs with hs | ⟨_, o, ho, hc⟩
    · exact hm g hb hs
    · rw [hgg] at ho; cases ho
      rcases hc with hc | ⟨c, f, hc⟩
      · cases hc
      · cases hc; exact he rfl
theorem below_sideP {prot : Obj → Prop} {mine : Nat → Prop} {base n : Nat} {w X Y : World} (h : Below n w X) (hx : Ext (sideP prot mine base X) X Y) (hm : ∀ k, mine k → n ≤ k) (hb : n ≤ base) (hn : n ≤ w.heap.size) : Below n w Y :=
  h.trans (hx.below (fun k hk => by rcases hk with hk | ⟨hk, _⟩; exact hm k hk; omega) (Nat.le_trans hn h.size))

theorem keepsP_put {prot : Obj → Prop} {base : Nat} (hprot : ∀ o, prot o → o.isCells = true) {W : World} {l : Nat} {o o' : Obj} (hl : W.heap[l]? = some o) (hc : o.isCells = false) : KeepsP prot base W (W.putObj l o') := fun k x _ hp hx => by
  by_cases e : k = l
  · subst e; rw [hl] at hx; cases hx; rw [hprot _ hp] at hc; cases hc
  · exact (World.putObj_heap_other e).trans hx

/-- An iterator's contract: it hands over the elements of xs one after the other; 'mine': the blocks that it may turn; 'needs': the blocks that a round must leave alone. -/
def Iter2 {α : Type} (P : Program) (gf : FuncId) (lb : Array Value) (encs : α → Array Value) (xs : List α) (mine needs : Nat → Prop) (prot : Obj → Prop) (W : World) : Prop :=
  ∀ (l : Nat) (J Jx : List α → World → Prop),
    (∀ s A B, J s A → Ext (ownP prot mine W.heap.size A) A B → J s B) → (∀ s A B, Jx s A → Ext (ownP prot mine W.heap.size A) A B → Jx s B) →
    (∀ pre x post W1, xs = pre ++ x :: post → J pre W1 → YieldAt Fence.wide 0 P l (encs x) W1 fun e W' =>
      (e = .returned (.bool true) ∧ J (pre ++ [x]) W' ∧ W1.heap.size ≤ W'.heap.size ∧ (∀ k, needs k → W'.heap[k]? = W1.heap[k]?) ∧ KeepsP prot W.heap.size W1 W') ∨ (e = .returned (.bool false) ∧ Jx (pre ++ [x]) W')) →
    J [] W →
    Calls P gf (#[.func (.yield l) #[] #[]] ++ lb) W fun e W' => (∃ v, e = .returned v) ∧ (J xs W' ∨ ∃ pre x post, xs = pre ++ x :: post ∧ Jx (pre ++ [x]) W')

/-- How the body of a round may be left. -/
def rPost2 {α : Type} (base : Nat) (needs : Nat → Prop) (prot : Obj → Prop) (I : List α → World → Prop) (Ix : Code → List α → World → Prop) (xs : List α) (W : World) : Exit → Act → World → Prop
  | .normal, _, W' => KeepsFrom base W W' ∧ (∀ k, needs k → W'.heap[k]? = W.heap[k]?) ∧ KeepsP prot base W W' ∧ I xs W'
  | .ret, _, W' => KeepsFrom base W W' ∧ Ix .ret xs W'
  | .exit id, _, W' => KeepsFrom base W W' ∧ Ix (.exit id) xs W'
  | .goto t, _, W' => KeepsFrom base W W' ∧ Ix (.goto t) xs W'
  | .panic _, _, _ => False
  | .outgrown, _, _ => False

/-- A range over a function, the loop outermost in its function: the iterator has its contract; the caller's invariant I abides the iterator's side; a round, walked once. -/
theorem wpIn_rangeIt2 {P : Program} {α : Type} {g : Operand} {ps : Array Tmp} {assign body : Code} {Q : Exit → Act → World → Prop} {a : Act} {w : World} {n : Nat}
    {gf : Nat} {lb : Array Value} (hg : a.eval g = .func (.func gf) #[] lb) (eg : ∀ args w, (callFunc gf args).run P w = .ok (.enter gf args) w)
    {encs : α → Array Value} {xs : List α} {mine needs : Nat → Prop} {prot : Obj → Prop} (hprot : ∀ o, prot o → o.isCells = true) (hmine : ∀ k, mine k → k < w.heap.size) (hneeds : ∀ k, needs k → k < w.heap.size)
    (hseq : ∀ W1, Below w.heap.size w W1 → Iter2 P gf lb encs xs mine needs prot W1) (hps : ∀ x, (encs x).size = ps.size)
    (I : List α → World → Prop) (Ix : Code → List α → World → Prop)
    (hI : ∀ s X Y, I s X → Ext (sideP prot mine w.heap.size X) X Y → I s Y) (hIx : ∀ c s X Y, Ix c s X → Ext (sideP prot mine w.heap.size X) X Y → Ix c s Y)
    (h0 : I [] w)
    (hround : ∀ (l : Nat) (pre : List α) (x : α) (post : List α) (W : World), xs = pre ++ x :: post → I pre W → w.heap.size < W.heap.size →
      assign.wpIn (Fence.wide.inRound l) 0 P (Exit.then (fun a₁ W₁ => KeepsFrom w.heap.size W W₁ ∧ (∀ k, needs k → W₁.heap[k]? = W.heap[k]?) ∧ KeepsP prot w.heap.size W W₁ ∧
          ∀ W₂, Ext (sideOf mine w.heap.size W₁) W₁ W₂ → body.wpIn (Fence.wide.inRound l) 0 P (rPost2 w.heap.size needs prot I Ix (pre ++ [x]) W₂) a₁ W₂) (fun _ _ _ => False))
        { tmps := (ps.zip (encs x)).foldl (fun t (p, v) => t.setIfInBounds p v) a.tmps, defers := [] } W)
    (hdone : ∀ (D : Nat) (W : World), I xs W → w.heap.size ≤ D → W.heap[D]? = some (.deferred (some [])) → Q .normal { a with defers := { target := .collected D, args := #[] } :: a.defers } W)
    (hstop : ∀ (D : Nat) (c : Code) (pre : List α) (x : α) (post : List α) (W : World), xs = pre ++ x :: post → Ix c (pre ++ [x]) W → w.heap.size ≤ D → W.heap[D]? = some (.deferred (some [])) →
      c.wpIn Fence.wide n P Q { a with defers := { target := .collected D, args := #[] } :: a.defers } W) :
    (Code.rangeFunc g ps assign body).wpIn Fence.wide n P Q a w := by
  refine wpIn_rangeFunc ?_
  intro fn hfn
  show ∃ (l : Nat) (mark : List Deferred) (w₁ : World) (d : Deferred) (w₁' : World) (f : FuncId) (args : Array Value) (w₂ : World), _
  obtain ⟨rec, hrec⟩ : ∃ rec : LoopState → Option Code → Loop, rec = fun st pe => { state := st, pending := pe, fn, tmps := a.tmps, params := ps, assign, body, defers := w.heap.size } := ⟨_, rfl⟩
  obtain ⟨W1, hW1⟩ : ∃ W1, (w.alloc (.deferred (some []))).alloc (.loop (rec .ready none)) = W1 := ⟨_, rfl⟩
  have hL1 : W1.heap[w.heap.size + 1]? = some (.loop (rec .ready none)) := by
    rw [← hW1]; have := World.alloc_heap_new (w.alloc (.deferred (some []))) (.loop (rec .ready none)); rwa [World.size_alloc] at this
  have hK1 : W1.heap[w.heap.size]? = some (.deferred (some [])) := by
    rw [← hW1]; exact (Below.heap_alloc _ _ _ (by simp)).trans (World.alloc_heap_new w _)
  have hb1 : Below w.heap.size w W1 := by
    rw [← hW1]; exact (((Below.refl _ w).alloc (Nat.le_refl _) _).alloc (by simp) _)
  have hs1 : w.heap.size < W1.heap.size := (Array.getElem?_eq_some_iff.1 hK1).1
  have hI1 : I [] W1 := hI _ _ _ h0 (Ext.of_below hb1 (fun k h1 h2 => by omega))
  have hsz1 : W1.heap.size = w.heap.size + 2 := by rw [← hW1]; simp
  have hlm : ∀ X, ¬ ownP prot mine W1.heap.size X (w.heap.size + 1) := fun X h => by
    rcases h with h | ⟨h, _⟩
    · have := hmine _ h; omega
    · omega
  have hDm : ∀ X, ¬ ownP prot mine W1.heap.size X w.heap.size := fun X h => by
    rcases h with h | ⟨h, _⟩
    · have := hmine _ h; omega
    · omega
  have hsideI : ∀ {X Y : World}, Ext (ownP prot mine W1.heap.size X) X Y → Ext (sideP prot mine w.heap.size X) X Y := fun h => h.mono (fun k _ hm => hm.imp id (fun ⟨a, o, b, c⟩ => ⟨Nat.le_trans hb1.size a, o, b, .inr c⟩))
  have hsidel : ∀ {X : World} {o : Obj} (o' : Obj), X.heap[w.heap.size + 1]? = some o → o.isCells = false → Ext (sideP prot mine w.heap.size X) X (X.putObj (w.heap.size + 1) o') :=
    fun o' h hc => Ext.putObj _ _ _ _ (.inr ⟨by omega, _, h, .inl hc⟩)
  refine ⟨w.heap.size + 1, [{ target := .collected w.heap.size, args := #[] }], W1, { target := .fn (.func gf) lb, args := #[.func (.yield (w.heap.size + 1)) #[] #[]] }, W1, gf,
    #[.func (.yield (w.heap.size + 1)) #[] #[]] ++ lb, W1, ?_, ?_, ?_, ?_, ?_, ?_⟩
  · rw [← hW1, hrec]; exact run_enterLoop_outer _ _ _ _ _
  · simp only [resolve, hg]
    simp [go_sem]
  · intro f' _; trivial
  · simp [invoke, go_sem, eg]
  · intro h; simp [Fence.wide] at h
  · refine (callsIn_wide.2 (hseq W1 hb1 (w.heap.size + 1)
      (fun pre W => I pre W ∧ w.heap.size < W.heap.size ∧ W.heap[w.heap.size + 1]? = some (.loop (rec .ready none)) ∧ W.heap[w.heap.size]? = some (.deferred (some [])))
      (fun pre W => ∃ c, Ix c pre W ∧ W.heap[w.heap.size + 1]? = some (.loop (rec .done (some c))) ∧ W.heap[w.heap.size]? = some (.deferred (some [])))
      (fun s X Y hs hx => ⟨hI _ _ _ hs.1 (hsideI hx), Nat.lt_of_lt_of_le hs.2.1 hx.size, hx.keeps hs.2.2.1 (hlm _), hx.keeps hs.2.2.2 (hDm _)⟩)
      (fun s X Y hs hx => by
        obtain ⟨c, hc, hl, hk⟩ := hs
        exact ⟨c, hIx _ _ _ _ hc (hsideI hx), hx.keeps hl (hlm _), hx.keeps hk (hDm _)⟩)
      ?_ ⟨hI1, hs1, hL1, hK1⟩)).mono ?_
    · rintro pre x post W hxs ⟨hi, hsz, hl, hk⟩
      have hy := run_yield (P := P) (args := encs x) hl (by rw [hrec]; exact hps x)
      rw [hrec] at hy
      have round : (RoundIn Fence.wide 0 P (w.heap.size + 1) fn ((ps.zip (encs x)).foldl (fun t (p, v) => t.setIfInBounds p v) a.tmps) assign body W fun e W' =>
        (e = .returned (.bool true) ∧ (I (pre ++ [x]) W' ∧ w.heap.size < W'.heap.size ∧ W'.heap[w.heap.size + 1]? = some (.loop (rec .ready none)) ∧ W'.heap[w.heap.size]? = some (.deferred (some []))) ∧ W.heap.size ≤ W'.heap.size ∧ (∀ k, needs k → W'.heap[k]? = W.heap[k]?) ∧ KeepsP prot w.heap.size W W') ∨
        (e = .returned (.bool false) ∧ ∃ c, Ix c (pre ++ [x]) W' ∧ W'.heap[w.heap.size + 1]? = some (.loop (rec .done (some c))) ∧ W'.heap[w.heap.size]? = some (.deferred (some [])))) := by
        refine roundIn_of_wpIn hfn (wpIn_mono (hround _ pre x post W hxs hi hsz) ?_)
        rintro e a₁ W₁ h
        cases e with
        | normal =>
          obtain ⟨hkf, hkn, hkp, hbody⟩ := h
          have hl1 := hkf.same _ _ (by omega) hl rfl
          have hk1 := hkf.same _ _ (Nat.le_refl _) hk rfl
          refine ⟨_, run_beginRound hl1 (by rw [hrec]), ?_⟩
          obtain ⟨W₂, hW₂⟩ : ∃ W₂, W₁.putObj (w.heap.size + 1) (.loop { rec .ready none with state := .busy }) = W₂ := ⟨_, rfl⟩
          rw [hW₂]
          have hl2 : W₂.heap[w.heap.size + 1]? = some (.loop { rec .ready none with state := .busy }) := by
            rw [← hW₂]; exact World.putObj_heap_same (Array.getElem?_eq_some_iff.1 hl1).1
          have hk2 : W₂.heap[w.heap.size]? = some (.deferred (some [])) := by rw [← hW₂]; exact (World.putObj_heap_other (by omega)).trans hk1
          have hn2 : ∀ k, needs k → W₂.heap[k]? = W.heap[k]? := fun k hk => by
            rw [← hW₂]; exact (World.putObj_heap_other (by have := hneeds k hk; omega)).trans (hkn k hk)
          have hpp2 : KeepsP prot w.heap.size W₁ W₂ := by rw [← hW₂]; exact keepsP_put hprot hl1 rfl
          have hz2 : W.heap.size ≤ W₂.heap.size := by rw [← hW₂]; simpa using hkf.size
          have ha2 : Ext (sideOf mine w.heap.size W₁) W₁ W₂ := by rw [← hW₂]; exact Ext.putObj _ _ _ _ (.inr ⟨by omega, _, hl1, rfl⟩)
          refine wpIn_mono (hbody W₂ ha2) ?_
          have fin : ∀ (jump : Option Code) (W3 : World), KeepsFrom w.heap.size W₂ W3 →
              (Instr.endRound (w.heap.size + 1) jump).run P W3 = .ok (.bool jump.isNone) (W3.putObj (w.heap.size + 1) (.loop (rec (if jump.isNone then .ready else .done) jump))) ∧
              W3.heap[w.heap.size + 1]? = some (.loop { rec .ready none with state := .busy }) ∧
              (W3.putObj (w.heap.size + 1) (.loop (rec (if jump.isNone then .ready else .done) jump))).heap[w.heap.size + 1]? = some (.loop (rec (if jump.isNone then .ready else .done) jump)) ∧
              (W3.putObj (w.heap.size + 1) (.loop (rec (if jump.isNone then .ready else .done) jump))).heap[w.heap.size]? = some (.deferred (some [])) := fun jump W3 hk3 => by
            have hl3 := hk3.same _ _ (by omega) hl2 rfl
            have := run_endRound (P := P) jump hl3
            rw [hrec] at this ⊢
            exact ⟨this, by rw [hrec] at hl3; exact hl3, World.putObj_heap_same (Array.getElem?_eq_some_iff.1 hl3).1, (World.putObj_heap_other (by omega)).trans (hk3.same _ _ (Nat.le_refl _) hk2 rfl)⟩
          rintro e a3 W3 hp
          cases e with
          | normal =>
            obtain ⟨hk3, hn3, hp3, hi3⟩ := hp
            obtain ⟨hr, hl3, hl4, hk4⟩ := fin none W3 hk3
            refine ⟨_, _, hr, .inl ⟨rfl, ⟨hI _ _ _ hi3 (hsidel _ hl3 rfl), ?_, hl4, hk4⟩, ?_, fun k hk => ?_, hkp.trans (hpp2.trans (hp3.trans (keepsP_put hprot hl3 rfl)))⟩⟩
            · have := hk3.size; simp; omega
            · have := hk3.size; simp; omega
            · exact (World.putObj_heap_other (by have := hneeds k hk; omega)).trans ((hn3 k hk).trans (hn2 k hk))
          | ret =>
            obtain ⟨hk3, hi3⟩ := hp
            obtain ⟨hr, hl3, hl4, hk4⟩ := fin (some .ret) W3 hk3
            exact ⟨_, _, hr, .inr ⟨rfl, .ret, hIx _ _ _ _ hi3 (hsidel _ hl3 rfl), hl4, hk4⟩⟩
          | exit id =>
            obtain ⟨hk3, hi3⟩ := hp
            obtain ⟨hr, hl3, hl4, hk4⟩ := fin (some (.exit id)) W3 hk3
            exact ⟨_, _, hr, .inr ⟨rfl, .exit id, hIx _ _ _ _ hi3 (hsidel _ hl3 rfl), hl4, hk4⟩⟩
          | goto t =>
            obtain ⟨hk3, hi3⟩ := hp
            obtain ⟨hr, hl3, hl4, hk4⟩ := fin (some (.goto t)) W3 hk3
            exact ⟨_, _, hr, .inr ⟨rfl, .goto t, hIx _ _ _ _ hi3 (hsidel _ hl3 rfl), hl4, hk4⟩⟩
          | panic ch => exact hp.elim
          | outgrown => exact hp.elim
        | ret => exact h
        | exit id => exact h
        | goto t => exact h
        | panic ch => exact h
        | outgrown => exact h
      exact ⟨fn, _, assign, body, hy, round.mono (fun e W' h => h.imp (fun ⟨a, b, c, d, f⟩ => ⟨a, b, c, d, f.mono hb1.size⟩) id)⟩
    · rintro e W2 ⟨⟨v, rfl⟩, (⟨hi, _, hl, hk⟩ | ⟨pre, x, post, hxs, c, hi, hl, hk⟩)⟩
      · exact ⟨none, _, by have := run_endLoop (P := P) hl (by rw [hrec]; simp); rw [hrec] at this; exact this, hdone _ _ (hI _ _ _ hi (hsidel _ hl rfl)) (Nat.le_refl _) ((World.putObj_heap_other (by omega)).trans hk)⟩
      · exact ⟨some c, _, by have := run_endLoop (P := P) hl (by rw [hrec]; simp); rw [hrec] at this; exact this, hstop _ c pre x post _ hxs (hIx _ _ _ _ hi (hsidel _ hl rfl)) (Nat.le_refl _) ((World.putObj_heap_other (by omega)).trans hk)⟩

end Go.Dial
