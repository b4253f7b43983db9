/-
  How arguments read, of any nested type of integers, flags, strings, structs, arrays and slices: as deep values whose integers are of 64 bits.
-/
import Derived.Test.YtgckmifmjiklmaaGreatSxP
import Derived.Test.YtgckmifmjiklmaaGreatLaw
set_option linter.unusedVariables false
set_option linter.unusedSimpArgs false
set_option linter.unusedSectionVars false
namespace Go.Sx
open Go Go.RowKit Go.Dial Go.ChangeShapes Go.WideShapes Go.ChangeAt Go.WideMaps Go.WideElems
set_option linter.constructorNameAsVariable false
def In64 (n : Int) : Prop := -9223372036854775808 ≤ n ∧ n ≤ 9223372036854775807
/-- a deep value that came in -/
inductive AVok : AV → Prop
  | int (n : Int) (h : In64 n) : AVok (.int n)
  | bool (b : Bool) : AVok (.bool b)
  | raw (s : ByteArray) (h : s.size ≤ maxLen) : AVok (.raw (.string s))
  | sl (t : Ty) (l : List (List AV)) (h : l.length ≤ maxLen) (hty : ∀ r ∈ l, r.map AV.ty = t.list) (hr : ∀ r ∈ l, ∀ x ∈ r, AVok x) : AVok (.sl t l)
theorem AVok.i {x : AV} (h : AVok x) (ht : x.ty = .int) : ∃ n, x = .int n ∧ In64 n := by
  cases h with
  | int n h => exact ⟨n, rfl, h⟩
  | _ => cases ht
theorem AVok.b' {x : AV} (h : AVok x) (ht : x.ty = .bool) : ∃ b, x = .bool b := by
  cases h with
  | bool b => exact ⟨b, rfl⟩
  | _ => cases ht
theorem AVok.l' {x : AV} {t : Ty} (h : AVok x) (ht : x.ty = .sl t) : ∃ l, x = .sl t l ∧ l.length ≤ maxLen ∧ (∀ r ∈ l, r.map AV.ty = t.list) ∧ ∀ r ∈ l, ∀ y ∈ r, AVok y := by
  cases h with
  | sl t' l h hty hr => cases ht; exact ⟨l, rfl, h, hty, hr⟩
  | _ => cases ht
section
variable (P : Program)
/-- how a type's cells lie, where they lie one behind the other -/
def flatF (go : Nat → Option (List Ty)) : List Field → Nat → Option (List Ty)
  | [], _ => some []
  | f :: fs, off => if f.offset = off then (go f.type).bind fun a => if P.cellsOf f.type = a.length then (flatF go fs (off + a.length)).map fun b => a ++ b else none else none
def flatC : Nat → Nat → Option (List Ty)
  | 0, _ => none
  | d + 1, t =>
    match P.underlying t with
    | some .bool => some [.bool]
    | some (.int .i64) => some [.int]
    | some .string => some [.raw]
    | some (.slice e) => (flatC d e).bind fun l => if P.cellsOf e = l.length ∧ 0 < l.length then some [.sl (l.foldr .cons .nil)] else none
    | some (.struct fs) => (flatF P (flatC d) fs.toList 0).bind fun l => if P.cellsOf t = l.length then some l else none
    | some (.array n e) => (flatC d e).bind fun l => if P.cellsOf e = l.length ∧ P.cellsOf t = n * l.length then some (List.replicate n l).flatten else none
    | _ => none
/-- the sorts of arguments -/
def isAggC (t : Nat) : Bool :=
  match P.underlying t with
  | some (.struct _) | some (.array _ _) => true
  | _ => false
def psOf : List Nat → Option Ps
  | [] => some []
  | t :: ts => (flatC P 12 t).bind fun l => (psOf ts).map fun ps => (isAggC P t, l) :: ps
end
theorem foldr_list (l : List Ty) : (l.foldr Ty.cons Ty.nil).list = l := by
  induction l with
  | nil => rfl
  | cons a l ih => show a :: (l.foldr Ty.cons Ty.nil).list = _; rw [ih]
theorem foldr_len (l : List Ty) : (l.foldr Ty.cons Ty.nil).len = l.length := by rw [← Ty.list_len, foldr_list]
section
variable {H : Type} {enc : TypeId × Value → H} {P : Program} {w : World} {base : Nat} {spare : Nat → Bool} {held : Bool}
/-- cells that mean deep values of these sorts -/
def Reads (w : World) (cs : List Value) (tys : List Ty) (avs : List AV) : Prop :=
  cs.length = tys.length ∧ avs.map AV.ty = tys ∧ (∀ (i : Nat) v a, cs[i]? = some v → avs[i]? = some a → Den (fun k => k < w.heap.size) w v a) ∧ ∀ a ∈ avs, AVok a
theorem Reads.nil : Reads w [] [] [] := ⟨rfl, rfl, fun i v a h => by simp at h, fun a h => by cases h⟩
theorem Reads.append {c1 c2 : List Value} {t1 t2 : List Ty} {a1 a2 : List AV} (h1 : Reads w c1 t1 a1) (h2 : Reads w c2 t2 a2) : Reads w (c1 ++ c2) (t1 ++ t2) (a1 ++ a2) := by
  obtain ⟨p1, p2, p3, p4⟩ := h1
  obtain ⟨q1, q2, q3, q4⟩ := h2
  have hl : a1.length = c1.length := by rw [p1, ← p2, List.length_map]
  refine ⟨by simp [p1, q1], by simp [p2, q2], fun i v a hv ha => ?_, fun a ha => ?_⟩
  · by_cases hi : i < c1.length
    · rw [List.getElem?_append_left hi] at hv
      rw [List.getElem?_append_left (by omega)] at ha
      exact p3 i v a hv ha
    · rw [List.getElem?_append_right (by omega)] at hv ha
      rw [hl] at ha
      exact q3 _ v a hv ha
  · rcases List.mem_append.1 ha with h | h
    · exact p4 a h
    · exact q4 a h
theorem Reads.one {v : Value} {a : AV} (h : Den (fun k => k < w.heap.size) w v a) (hok : AVok a) : Reads w [v] [a.ty] [a] := by
  refine ⟨rfl, rfl, fun i u x hu hx => ?_, fun x hx => by rw [List.mem_singleton] at hx; rw [hx]; exact hok⟩
  cases i with
  | zero => cases hu; cases hx; exact h
  | succ i => simp at hu
theorem rd_av : ∀ (d : Nat) (t : Nat) (tys : List Ty), flatC P d t = some tys → ∀ m cs x, DataW.trod enc P w base spare held m t cs = some x → ∃ avs, Reads w cs tys avs := by
  intro d
  induction d with
  | zero => intro t tys h; cases h
  | succ d ih =>
    intro t tys h m cs x hx
    unfold flatC at h
    split at h
    · rename_i ht
      cases h
      obtain ⟨b, rfl, _⟩ := DataW.trod_bool ht hx
      exact ⟨[.bool b], Reads.one (.bool b) (.bool b)⟩
    · rename_i ht
      cases h
      obtain ⟨n, rfl, h1, h2⟩ := rd_i64 ht m cs x hx
      exact ⟨[.int n], Reads.one (.int n) (.int n ⟨h1, h2⟩)⟩
    · rename_i ht
      cases h
      obtain ⟨s, rfl, hs⟩ := rd_string ht m cs x hx
      exact ⟨[.raw (.string s)], Reads.one (.raw _ rfl) (.raw s hs)⟩
    · rename_i e ht
      obtain ⟨l, hl, h⟩ := Option.bind_eq_some_iff.1 h
      split at h
      · rename_i hc
        obtain ⟨hc, hpos⟩ := hc
        cases h
        have he := ih e l hl
        rcases DataW.trod_slice ht hx with ⟨rfl, _⟩ | ⟨a, len, cap, elems, rest, n, _, rfl, _, _, hle, hca, hlen, hel, _⟩
        · exact ⟨[.sl _ []], Reads.one (Den.mk (l := []) rfl (Nat.zero_le _) (Nat.zero_le _) (fun i r h => by simp at h) (fun h => absurd rfl h)) (.sl _ [] (Nat.zero_le _) (fun r h => by cases h) (fun r h => by cases h))⟩
        · rw [hc] at hel
          -- one element
          have one : ∀ i, i < len → ∃ avs : List AV, avs.map AV.ty = l ∧ (∀ a ∈ avs, AVok a) ∧ ∀ (k : Nat) y, avs[k]? = some y → ∃ u, w.cell? (a.add (i * l.length + k)) = some u ∧ Den (fun k => k < w.heap.size) w u y := by
            intro i hi
            have hxi := hel i hi
            rw [List.getElem?_eq_getElem (by omega)] at hxi
            obtain ⟨cl, hl1, hl2⟩ := Option.bind_eq_some_iff.1 hxi
            obtain ⟨avs, r1, r2, r3, r4⟩ := he _ _ _ hl2
            obtain ⟨c1, c2⟩ := cells_at hl1
            refine ⟨avs, r2, r4, fun k y hy => ?_⟩
            have hk : k < l.length := by
              have := (List.getElem?_eq_some_iff.1 hy).1
              rw [← r2, List.length_map]; exact this
            have hck : cl[k]? = some cl[k] := List.getElem?_eq_getElem (by omega)
            refine ⟨cl[k], ?_, r3 k _ y hck hy⟩
            have := c2 k hk
            rw [hck, add_add] at this
            exact this
          have all : ∀ k, k ≤ len → ∃ L : List (List AV), L.length = k ∧ (∀ (i : Nat) r, L[i]? = some r → r.map AV.ty = l) ∧ (∀ r ∈ L, ∀ a ∈ r, AVok a) ∧ ∀ (i : Nat) r, L[i]? = some r → ∀ (k : Nat) y, r[k]? = some y → ∃ u, w.cell? (a.add (i * l.length + k)) = some u ∧ Den (fun k => k < w.heap.size) w u y := by
            intro k
            induction k with
            | zero => intro _; exact ⟨[], rfl, (fun i r h => by simp at h), (fun r h => by cases h), (fun i r h => by simp at h)⟩
            | succ k ihk =>
              intro hk
              obtain ⟨L, g1, g2, g3, g4⟩ := ihk (by omega)
              obtain ⟨avs, o1, o2, o3⟩ := one k (by omega)
              have get : ∀ (i : Nat) r, (L ++ [avs])[i]? = some r → L[i]? = some r ∨ (i = k ∧ r = avs) := fun i r h => by
                by_cases hi : i < L.length
                · rw [List.getElem?_append_left hi] at h; exact .inl h
                · rw [List.getElem?_append_right (by omega)] at h
                  have : i - L.length = 0 := by
                    have := (List.getElem?_eq_some_iff.1 h).1
                    simp only [List.length_cons, List.length_nil] at this; omega
                  rw [this] at h
                  cases h
                  exact .inr ⟨by omega, rfl⟩
              refine ⟨L ++ [avs], by simp [g1], fun i r h => ?_, fun r h => ?_, fun i r h => ?_⟩
              · rcases get i r h with h | ⟨_, rfl⟩
                · exact g2 i r h
                · exact o1
              · rcases List.mem_append.1 h with h | h
                · exact g3 r h
                · rw [List.mem_singleton] at h; rw [h]; exact o2
              · rcases get i r h with h | ⟨rfl, rfl⟩
                · exact g4 i r h
                · exact o3
          obtain ⟨L, g1, g2, g3, g4⟩ := all len (Nat.le_refl _)
          have hty : ∀ (i : Nat) r, L[i]? = some r → r.map AV.ty = (l.foldr Ty.cons Ty.nil).list := fun i r h => by rw [foldr_list]; exact g2 i r h
          refine ⟨[.sl (l.foldr Ty.cons Ty.nil) L], Reads.one (Den.mk g1 hle hca hty (fun hne => ⟨a, rfl, ?_, fun i r h k y hy => by rw [foldr_len]; exact g4 i r h k y hy⟩)) (.sl _ L (by omega) (fun r hr => ?_) g3)⟩
          · obtain ⟨r, L', rfl⟩ := List.exists_cons_of_ne_nil hne
            have h0 := g2 0 r rfl
            obtain ⟨y, hy⟩ : ∃ y, r[0]? = some y := ⟨_, List.getElem?_eq_getElem (by rw [← List.length_map (f := AV.ty), h0]; exact hpos)⟩
            obtain ⟨u, hu, _⟩ := g4 0 r rfl 0 y hy
            have := World.block_lt_of_cell? w _ hu
            rwa [add_block] at this
          · obtain ⟨i, hi, rfl⟩ := List.getElem_of_mem hr
            exact hty i _ (List.getElem?_eq_getElem hi)
      · cases h
    · rename_i fs ht
      obtain ⟨l, hl, h⟩ := Option.bind_eq_some_iff.1 h
      split at h
      · rename_i hc
        cases h
        obtain ⟨xs, k, _, _, hlen, hn, hf⟩ := DataW.trod_struct ht hx
        -- the fields from one on
        have go : ∀ (q : List Field) (j off : Nat) (l : List Ty), flatF P (flatC P d) q off = some l → (∀ (i : Nat) f, q[i]? = some f → fs[j + i]? = some f) → off + l.length = cs.length → ∃ avs, Reads w (cs.drop off) l avs := by
          intro q
          induction q with
          | nil =>
            intro j off l h _ hlen
            cases h
            refine ⟨[], ?_⟩
            rw [List.drop_of_length_le (by simp at hlen; omega)]
            exact Reads.nil
          | cons f q ihq =>
            intro j off l h hfs hlen
            unfold flatF at h
            split at h
            · rename_i ho
              obtain ⟨a, ha, h⟩ := Option.bind_eq_some_iff.1 h
              split at h
              · rename_i hca
                obtain ⟨b, hb, rfl⟩ := Option.map_eq_some_iff.1 h
                have hfj := hfs 0 f rfl
                have hx1 := hf (j + 0) f hfj
                have hjl : j + 0 < xs.length := by rw [hn]; exact (Array.getElem?_eq_some_iff.1 hfj).1
                rw [List.getElem?_eq_getElem hjl, ho, hca] at hx1
                obtain ⟨av1, r1⟩ := ih f.type a ha _ _ _ hx1
                rw [List.length_append] at hlen
                obtain ⟨av2, r2⟩ := ihq (j + 1) (off + a.length) b hb (fun i g hg => by rw [show j + 1 + i = j + (i + 1) by omega]; exact hfs (i + 1) g hg) (by omega)
                refine ⟨av1 ++ av2, ?_⟩
                have := r1.append r2
                rw [← List.drop_drop, List.take_append_drop] at this
                exact this
              · cases h
            · cases h
        obtain ⟨avs, hr⟩ := go fs.toList 0 0 tys hl (fun i f h => by simpa using h) (by omega)
        exact ⟨avs, by simpa using hr⟩
      · cases h
    · rename_i n e ht
      obtain ⟨l, hl, h⟩ := Option.bind_eq_some_iff.1 h
      split at h
      · rename_i hc
        cases h
        obtain ⟨xs, m', _, _, hlen, hn, hel⟩ := DataW.trod_array ht hx
        rw [hc.1] at hel
        have key : ∀ k, k ≤ n → ∃ avs, Reads w (cs.take (k * l.length)) (List.replicate k l).flatten avs := by
          intro k
          induction k with
          | zero => intro _; exact ⟨[], by simpa using Reads.nil⟩
          | succ k ihk =>
            intro hk
            obtain ⟨a1, r1⟩ := ihk (by omega)
            have hx1 := hel k (by omega)
            rw [List.getElem?_eq_getElem (by omega)] at hx1
            obtain ⟨a2, r2⟩ := ih e l hl _ _ _ hx1
            refine ⟨a1 ++ a2, ?_⟩
            have := r1.append r2
            rw [Nat.succ_mul, List.take_add, List.replicate_succ', List.flatten_concat]
            exact this
        obtain ⟨avs, hr⟩ := key n (Nat.le_refl _)
        exact ⟨avs, by rw [List.take_of_length_le (by omega)] at hr; exact hr⟩
      · cases h
    · cases h
/-- one argument -/
theorem in_av {W : World} {b : Nat} {t : TypeId} {v : Value} {d : DataW H} {ps : List MemPlace} {l : List Ty} (hl : flatC P 12 t = some l) (hok : Value.okWide P W .any b t v) (h : DataW.Trod enc P W 0 (fun _ => true) true t v d ps) :
    ∃ x : AV, Den (fun k => k < W.heap.size) W v x ∧ (∀ y ∈ AV.cells x, AVok y) ∧ (Bool.rec (motive := fun _ => Bool) (x.oneB l) (x.aggB l) (isAggC P t)) = true := by
  obtain ⟨fuel, hf⟩ := h
  obtain ⟨avs, r1, r2, r3, r4⟩ := rd_av 12 t l hl _ _ _ hf
  have eqt : ∀ ts : List Ty, eqTs ts ts = true := by
    have eqb : ∀ t : Ty, t.eqb t = true := by
      intro t
      induction t with
      | sl r ih => exact ih
      | cons a b ih1 ih2 => show (Ty.eqb a a && Ty.eqb b b) = true; rw [ih1, ih2]; rfl
      | _ => rfl
    intro ts
    induction ts with
    | nil => rfl
    | cons t ts ih => show (Ty.eqb t t && eqTs ts ts) = true; rw [eqb, ih]; rfl
  have agg : isAggC P t = true → (∃ fs, P.underlying t = some (.struct fs)) ∨ ∃ n e, P.underlying t = some (.array n e) := fun h => by
    unfold isAggC at h
    split at h
    · exact .inl ⟨_, ‹_›⟩
    · exact .inr ⟨_, _, ‹_›⟩
    · cases h
  cases ha : isAggC P t with
  | true =>
    have hv : ∃ cs, v = .agg cs := by
      rcases agg ha with ⟨fs, ht⟩ | ⟨n, e, ht⟩
      · simp only [Value.okWide, ht] at hok
        obtain ⟨cs, h1, _⟩ := hok; exact ⟨cs, h1⟩
      · simp only [Value.okWide, ht] at hok
        obtain ⟨cs, h1, _⟩ := hok; exact ⟨cs, h1⟩
    obtain ⟨cs, rfl⟩ := hv
    refine ⟨.agg avs, ?_, r4, ?_⟩
    · have := Den.agg (S := fun k => k < W.heap.size) (w := W) cs.toList avs (by
        have : cs.toList.length = l.length := r1
        rw [this, ← r2, List.length_map]) (fun i v x h1 h2 => r3 i v x h1 h2)
      simpa using this
    · show eqTs (avs.map AV.ty) l = true
      rw [r2]; exact eqt l
  | false =>
    have single : ∃ c : Value, plainCell v = true → v.cells = #[v] := ⟨v, cells_plain⟩
    have hp : plainCell v = true := by
      unfold flatC at hl
      split at hl
      · rename_i ht; obtain ⟨b, rfl⟩ := okWide_bool ht hok; rfl
      · rename_i ht; obtain ⟨n, rfl, _⟩ := in_i64 ht hok ⟨fuel, hf⟩; rfl
      · rename_i ht; obtain ⟨s, rfl, _⟩ := in_string ht hok ⟨fuel, hf⟩; rfl
      · rename_i e ht; obtain ⟨a, len, cap, rfl⟩ := okWide_slice ht hok; rfl
      · rename_i fs ht; unfold isAggC at ha; rw [ht] at ha; cases ha
      · rename_i n e ht; unfold isAggC at ha; rw [ht] at ha; cases ha
      · cases hl
    have hcs : v.cells.toList = [v] := by rw [cells_plain hp]
    have r1 : v.cells.toList.length = l.length := r1
    rw [hcs] at r1
    have hav : avs.length = 1 := by rw [← List.length_map (f := AV.ty), r2, ← r1]; rfl
    match avs, hav with
    | [x], _ =>
      have hd := r3 0 v x (by show v.cells.toList[0]? = _; rw [hcs]; rfl) rfl
      have hok := r4 x (List.mem_cons_self ..)
      have hty : [x.ty] = l := r2
      subst hty
      refine ⟨x, hd, fun y hy => ?_, ?_⟩
      · cases hok <;> (unfold AV.cells at hy; rw [List.mem_singleton] at hy; rw [hy]; exact r4 _ (List.mem_cons_self ..))
      · show x.oneB [x.ty] = true
        cases hok with
        | int n h => exact eqt [.int]
        | bool b => exact eqt [.bool]
        | raw s h => exact eqt [.raw]
        | sl t l h _ _ => exact eqt [.sl t]
/-- all arguments -/
theorem in_avs {W : World} {b : Nat} : ∀ (ts : List TypeId) (qs : Ps) {vs : List Value} {ds : List (DataW H)} {ps : List MemPlace}, psOf P ts = some qs → DataW.TrodAll enc P W 0 (fun _ => true) true ts vs ds ps →
    (∀ (j : Nat) t v, ts[j]? = some t → vs[j]? = some v → Value.okWide P W .any b t v) →
    ∃ xs : List AV, vs.length = xs.length ∧ (∀ (i : Nat) v x, vs[i]? = some v → xs[i]? = some x → Den (fun k => k < W.heap.size) W v x) ∧ (∀ x ∈ xs, ∀ y ∈ AV.cells x, AVok y) ∧ chkA qs xs = true
  | [], qs, vs, ds, ps, hq, h, _ => by
    cases hq
    obtain ⟨rfl, rfl, rfl⟩ := trodAll_nil h
    exact ⟨[], rfl, (fun i v x h => by simp at h), (fun x h => by cases h), rfl⟩
  | t :: ts, qs, vs, ds, ps, hq, h, hv => by
    obtain ⟨v, vs1, d, ds1, a1, b1, rfl, rfl, rfl, h1, h2⟩ := trodAll_cons h
    unfold psOf at hq
    obtain ⟨l, hl, hq⟩ := Option.bind_eq_some_iff.1 hq
    obtain ⟨qs', hq', rfl⟩ := Option.map_eq_some_iff.1 hq
    obtain ⟨xs, e1, e2, e3, e4⟩ := in_avs ts qs' hq' h2 (fun j t v hj hv' => hv (j + 1) t v hj hv')
    obtain ⟨x, f1, f2, f3⟩ := in_av hl (hv 0 t v rfl rfl) h1
    refine ⟨x :: xs, by simp [e1], fun i u y hu hy => ?_, fun y hy => ?_, ?_⟩
    · cases i with
      | zero => cases hu; cases hy; exact f1
      | succ i => exact e2 i u y hu hy
    · rcases List.mem_cons.1 hy with rfl | hy
      · exact f2
      · exact e3 y hy
    · show (and (Bool.rec (motive := fun _ => Bool) (x.oneB l) (x.aggB l) (isAggC P t)) (chkA qs' xs)) = true
      rw [f3, e4]; rfl
theorem trodAll_len {W : World} : ∀ (ts : List TypeId) {vs : List Value} {ds : List (DataW H)} {ps : List MemPlace}, DataW.TrodAll enc P W 0 (fun _ => true) true ts vs ds ps → ds.length = ts.length
  | [], _, _, _, h => by
    obtain ⟨_, rfl, _⟩ := trodAll_nil h
    rfl
  | t :: ts, _, _, _, h => by
    obtain ⟨v, vs1, d, ds1, a, b, _, rfl, _, _, h2⟩ := trodAll_cons h
    simp [trodAll_len ts h2]
/-- arguments as a tuple of leaves -/
def TupOk : (ts : List Ty) → tupT ts → Prop := fun ts s => ∀ x ∈ decT ts s, AVok x
theorem calls_true {f : Nat} {F : FnT} (hF : F.ok P f) {W : World} {b : Nat} {ts : List TypeId} {vs : List Value} {ds : List (DataW H)} {ps : List MemPlace} (hq : psOf P ts = some F.ps) (h : DataW.TrodAll enc P W 0 (fun _ => true) true ts vs ds ps)
    (hv : ∀ (j : Nat) t v, ts[j]? = some t → vs[j]? = some v → Value.okWide P W .any b t v)
    (hlaw : ∀ s : tupT (Ps.tys F.ps), TupOk (Ps.tys F.ps) s → ∃ n z, F.fn n s = some z ∧ rdec F.sh z = .b true) : Calls P f vs.toArray W fun e w' => e = .returned (.bool true) ∧ Below W.heap.size W w' := by
  obtain ⟨xs, e1, e2, e3, e4⟩ := in_avs ts F.ps hq h hv
  obtain ⟨c1, c2⟩ := chkA_ok F.ps xs e4
  have hcells : ∀ y ∈ cellsA xs, AVok y := fun y hy => by
    rw [cellsA_eq, List.mem_flatMap] at hy
    obtain ⟨x, hx, hy⟩ := hy
    exact e3 x hx y hy
  obtain ⟨n, z, h1, h2⟩ := hlaw (encT (Ps.tys F.ps) (cellsA xs)) (fun x hx => by rw [decT_ty c2] at hx; exact hcells x hx)
  have hc := hF n _ z h1
  rw [adec_enc e4, h2] at hc
  exact con_calls hc rfl ⟨by simpa using e1, fun i v x h1 h2 => e2 i v x (by simpa using h1) h2⟩
end
end Go.Sx
