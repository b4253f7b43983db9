/-
  The law LifeMatchesReference as a plain function: it gives true.
-/
import Derived.Test.YtjhakonpnopcnaaW3
import Derived.Test.YtjhakonpnopcnaaE3
import Derived.Test.YtjhakonpnopcnaaSxR
set_option linter.unusedVariables false
set_option linter.unusedSimpArgs false
set_option linter.unusedSectionVars false
set_option maxRecDepth 100000
namespace Go.Proofs.Ytjhakonpnopcnaa
open Go Go.Sx Go.Dial.Lif
abbrev T3L (a b c : Lv) : Lv := ((([] : Lv) ++ [[(AV.sl (.cons .int (.cons .int (.cons .int .nil))) a)]]) ++ [[(AV.sl (.cons .int (.cons .int (.cons .int .nil))) b)]]) ++ [[(AV.sl (.cons .int (.cons .int (.cons .int .nil))) c)]]
theorem three_of (A B C : List Ev) (ha : A.length ≤ 60) (hb : B.length ≤ 60) (hc : C.length ≤ 60) {i : Int} (h0 : 0 ≤ i) (h3 : i < 3) : ∃ L : List Ev, L.length ≤ 60 ∧ cL (T3L (evL A) (evL B) (evL C)) i 0 = evL L := by
  have : i = 0 ∨ i = 1 ∨ i = 2 := by omega
  rcases this with rfl | rfl | rfl
  · exact ⟨A, ha, rfl⟩
  · exact ⟨B, hb, rfl⟩
  · exact ⟨C, hc, rfl⟩
theorem same4 (a b c d : Int) : (!((decide (a = a)) && ((decide (b = b)) && ((decide (c = c)) && (decide (d = d)))))) = false := by simp
theorem same1 (a : Int) : (!(decide (a = a))) = false := by simp
theorem same2 (a b : Int) : (!((decide (a = a)) && (decide (b = b)))) = false := by simp
theorem sameB (a : Bool) : (!(a == a)) = false := by simp
section
variable (n : Nat) (go0 : Int → Option Bool) (A B C L : List Ev) (v5 v6 v7 v8 v9 v10 v11 : Int) (v16 : Int) (hL : cL (T3L (evL A) (evL B) (evL C)) v16 0 = evL L) (hLl : L.length ≤ 60) (hn : 200 < n) (h0 : 0 ≤ v16) (h3 : v16 < 3)
include hL hLl hn h0 h3
theorem lm13 (go1 : law14_LifeMatchesReference_s1 → Option Bool) (i : Nat) (hi : i ≤ L.length) (hend : go0 (v16 + 1) = some true) (hgo : i < L.length → ∀ a b c d e f g h k l, go1 (a, b, (i : Int) + 1, c, d, e, f, g, h, k, l) = some true) :
    law14_LifeMatchesReference_13 n go0 go1 v5 v6 v7 v8 (evL A) (evL B) (evL C) v16 (i : Int) = some true := by
  unfold law14_LifeMatchesReference_13
  rw [hL]
  have hlen : ((evL L).length : Int) = (L.length : Int) := by rw [List.length_map]
  by_cases hlt : i < L.length
  · obtain ⟨e, he⟩ := get_lt hlt
    have c1 : (i : Int) < ((evL L).length : Int) := by omega
    have c2 : (0 : Int) ≤ (i : Int) := by omega
    have c4 : (-9223372036854775808 : Int) ≤ (i : Int) + 1 := by omega
    have c5 : (i : Int) + 1 ≤ (9223372036854775807 : Int) := by omega
    have hc : ∀ k, cA (evL L) (i : Int) k = (evR e).getD k (.int 0) := fun k => cA_map (by simpa using he)
    have x0 : cI (evL L) (i : Int) 0 = e.k := by simp only [cI, hc]; rfl
    have x1 : cI (evL L) (i : Int) 1 = e.a := by simp only [cI, hc]; rfl
    have x2 : cI (evL L) (i : Int) 2 = e.h := by simp only [cI, hc]; rfl
    have s1 := life_Step_v n ⟨v5, v6, v7, v8⟩ e
    have s2 := ref14_Step_v n ⟨v5, v6, v7, v8⟩ e
    simp only at s1 s2
    rw [decide_eq_true c1, cond_true, decide_eq_true c2, cond_true, x0, x1, x2, s1, Option.bind_some, s2, Option.bind_some, same4, cond_false, same1, cond_false, life_Formed_v n e, Option.bind_some, ref14_Formed_v n e, Option.bind_some, sameB, cond_false, decide_eq_true c4, decide_eq_true c5, Bool.and_self, cond_true]
    exact hgo hlt _ _ _ _ _ _ _ _ _ _
  · have c1 : ¬ (i : Int) < ((evL L).length : Int) := by omega
    have c4 : (-9223372036854775808 : Int) ≤ v16 + 1 := by omega
    have c5 : v16 + 1 ≤ (9223372036854775807 : Int) := by omega
    rw [decide_eq_false c1, cond_false, decide_eq_true c4, decide_eq_true c5, Bool.and_self, cond_true]
    exact hend
theorem lm12 (go1 : law14_LifeMatchesReference_s1 → Option Bool) (go2 go3 : Int → Option Bool) (v36 v39 v61 v62 v64 v65 v66 v67 v68 : Int) (q0 : 0 ≤ v68) (q3 : v68 ≤ 3) (r0 : 0 ≤ v66) (r3 : v66 < 3) (hend : go2 (v66 + 1) = some true) (hgo : v68 < 3 → go3 (v68 + 1) = some true) :
    law14_LifeMatchesReference_12 n go0 go1 go2 go3 v9 v10 v11 (evL A) (evL B) (evL C) v16 v36 v39 v61 v62 v64 v65 v66 v67 v68 = some true := by
  unfold law14_LifeMatchesReference_12
  rw [hL]
  by_cases hlt : v68 < 3
  · have c4 : (-9223372036854775808 : Int) ≤ v68 + 1 := by omega
    have c5 : v68 + 1 ≤ (9223372036854775807 : Int) := by omega
    rw [decide_eq_true hlt, cond_true, decide_eq_true q0, cond_true, life_Fate_v n L _ _ _ (by omega), Option.bind_some, ref14_Fate_v n L _ _ _ (by omega), Option.bind_some, same1, cond_false, same1, cond_false, same1, cond_false, decide_eq_true c4, decide_eq_true c5, Bool.and_self, cond_true]
    exact hgo hlt
  · have c4 : (-9223372036854775808 : Int) ≤ v66 + 1 := by omega
    have c5 : v66 + 1 ≤ (9223372036854775807 : Int) := by omega
    rw [decide_eq_false hlt, cond_false, decide_eq_true c4, decide_eq_true c5, Bool.and_self, cond_true]
    exact hend
theorem lm11 (hA : All first A) (hAl : A.length ≤ 16) (h9 : In64 v9) (go1 : law14_LifeMatchesReference_s1 → Option Bool) (go2 : Int → Option Bool) (v36 v39 v48 v49 v50 v51 v52 v53 v54 v55 v56 v57 v61 v62 v64 v65 v66 : Int) (r0 : 0 ≤ v66) (r3 : v66 ≤ 3) (p0 : 0 ≤ v39) (p2 : v39 < 2) (hend : ∀ a b c d e f g h k l, go1 (a, b, v39 + 1, c, d, e, f, g, h, k, l) = some true) (hgo : v66 < 3 → go2 (v66 + 1) = some true) :
    law14_LifeMatchesReference_11 n go0 go1 go2 v9 v10 v11 (evL A) (evL B) (evL C) v16 v36 v39 v48 v49 v50 v51 v52 v53 v54 v55 v56 v57 v61 v62 v64 v65 v66 = some true := by
  unfold law14_LifeMatchesReference_11
  by_cases hlt : v66 < 3
  · have h7 := tdiv7 h9
    obtain ⟨z, hz⟩ := ref14_Time_v n A _ h7 hA hAl
    rw [decide_eq_true hlt, cond_true, decide_eq_true r0, cond_true, decide_eq_true h7.1, decide_eq_true h7.2, Bool.and_self, cond_true, hz, Option.bind_some]
    refine iterF_ind (fun s : Int => 0 ≤ s ∧ s ≤ 3) (fun s => (3 - s).toNat) _ ?_ n _ ⟨by decide, by decide⟩ (by simp; omega)
    rintro v68 go3 ⟨q0, q3⟩ ih
    exact lm12 n go0 A B C L v9 v10 v11 v16 hL hLl hn h0 h3 go1 go2 go3 v36 v39 v61 v62 v64 v65 v66 z v68 q0 q3 r0 hlt (hgo hlt) (fun h => ih _ ⟨by omega, by omega⟩ (by omega))
  · have c4 : (-9223372036854775808 : Int) ≤ v39 + 1 := by omega
    have c5 : v39 + 1 ≤ (9223372036854775807 : Int) := by omega
    rw [decide_eq_false hlt, cond_false, decide_eq_true c4, decide_eq_true c5, Bool.and_self, cond_true]
    exact hend _ _ _ _ _ _ _ _ _ _
theorem lm10 (hA : All first A) (hAl : A.length ≤ 16) (h9 : In64 v9) (h10 : In64 v10) (h11 : In64 v11) (go1 : law14_LifeMatchesReference_s1 → Option Bool) (v36 v37 v38 v39 v40 v41 v42 v43 v44 v45 v46 v47 : Int) (p0 : 0 ≤ v39) (p2 : v39 ≤ 2) (hend : go0 (v16 + 1) = some true) (hgo : v39 < 2 → ∀ a b c d e f g h k l, go1 (a, b, v39 + 1, c, d, e, f, g, h, k, l) = some true) :
    law14_LifeMatchesReference_10 n go0 go1 v5 v6 v7 v8 v9 v10 v11 (evL A) (evL B) (evL C) v16 v36 v37 v38 v39 v40 v41 v42 v43 v44 v45 v46 v47 = some true := by
  unfold law14_LifeMatchesReference_10
  by_cases hlt : v39 < 2
  · obtain ⟨z, hz⟩ := ref14_Time_v n A _ h11 hA hAl
    rw [hL, decide_eq_true hlt, cond_true, decide_eq_true p0, cond_true, life_At_v n L _ (by omega), Option.bind_some, ref14_At_v n L _ (by omega), Option.bind_some, life_Keep_v n L _ (by omega), Option.bind_some, ref14_Keep_v n L _ (by omega), Option.bind_some, same4, cond_false, same1, cond_false, same2, cond_false, same1, cond_false, law14_pick_v n h10 (by decide), Option.bind_some, hz, Option.bind_some]
    refine iterF_ind (fun s : Int => 0 ≤ s ∧ s ≤ 3) (fun s => (3 - s).toNat) _ ?_ n _ ⟨by decide, by decide⟩ (by simp; omega)
    rintro v66 go2 ⟨q0, q3⟩ ih
    exact lm11 n go0 A B C L v9 v10 v11 v16 hL hLl hn h0 h3 hA hAl h9 go1 go2 _ _ _ _ _ _ _ _ _ _ _ _ _ _ _ _ _ q0 q3 p0 hlt (hgo hlt) (fun h => ih _ ⟨by omega, by omega⟩ (by omega))
  · rw [decide_eq_false hlt, cond_false]
    refine iterF_ind (fun s : law14_LifeMatchesReference_s1 => ∃ i : Nat, s.2.2.1 = (i : Int) ∧ i ≤ L.length) (fun s => L.length - s.2.2.1.toNat) _ ?_ n _ ⟨0, rfl, by omega⟩ (by simp; omega)
    rintro ⟨a, b, v, c, d, e, f, g, h, k, l⟩ go ⟨i, hi, hle⟩ ih
    simp only at hi ih ⊢
    subst hi
    exact lm13 n go0 A B C L v5 v6 v7 v8 v16 hL hLl hn h0 h3 go i hle hend (fun hlt a b c d e f g h k l => ih _ ⟨i + 1, rfl, by omega⟩ (by simp only; omega))
end
theorem law14_LifeMatchesReference_v (n : Nat) (xs : List (Int × Int × Int)) (hx : ∀ x ∈ xs, In64 x.1 ∧ In64 x.2.1 ∧ In64 x.2.2) (b1 b2 b3 : Int) (hb1 : In64 b1) (hb2 : In64 b2) (hb3 : In64 b3) (raw : List Ev) (v5 v6 v7 v8 v9 v10 v11 : Int) (h9 : In64 v9) (h10 : In64 v10) (h11 : In64 v11) (hn : 200 < n) :
    law14_LifeMatchesReference n (xs.map triR) b1 b2 b3 (evL raw) v5 v6 v7 v8 v9 v10 v11 = some true := by
  unfold law14_LifeMatchesReference law14_LifeMatchesReference_1
  rw [show law14_sane n = some true from rfl, Option.bind_some]
  unfold law14_LifeMatchesReference_2
  obtain ⟨A, m1, hA, hAl⟩ := ref14_Made_v n xs hx (by omega)
  obtain ⟨B, m2, hBl⟩ := ref14_Bent_v n A b1 b2 b3 hb1 hb2 hb3 hAl (by omega)
  obtain ⟨C, m3, hCl⟩ := law14_few_v n raw
  rw [Bool.not_true, cond_false, m1, Option.bind_some, m2, Option.bind_some, m3, Option.bind_some]
  refine iterF_ind (fun s : Int => 0 ≤ s ∧ s ≤ 3) (fun s => (3 - s).toNat) _ ?_ n _ ⟨by decide, by decide⟩ (by simp; omega)
  rintro v16 go0 ⟨h0, h3⟩ ih
  unfold law14_LifeMatchesReference_3
  by_cases hlt : v16 < 3
  · obtain ⟨L, hLl, hL⟩ := three_of A B C (by omega) hBl (by omega) h0 hlt
    have hV := life_Valid_v n ⟨v5, v6, v7, v8⟩
    have hW := ref14_Valid_v n ⟨v5, v6, v7, v8⟩
    simp only at hV hW
    have hst : (stL (staysR L).1).length ≤ 1000 := by
      rw [List.length_map]
      unfold staysR
      split
      · have := staysK_len L L.length
        show (staysK L L.length).length ≤ 1000
        omega
      · simp
    have hst2 : (stL (staysR L).1).length < n := by
      rw [List.length_map]
      unfold staysR
      split
      · have := staysK_len L L.length
        show (staysK L L.length).length < n
        omega
      · simp; omega
    obtain ⟨z, hz⟩ := ref14_Time_v n A _ h9 hA hAl
    rw [hL, decide_eq_true hlt, cond_true, decide_eq_true h0, cond_true, life_Run_v n L (by omega), Option.bind_some, ref14_Run_v n L (by omega), Option.bind_some, life_Stays_v n L (by omega), Option.bind_some, ref14_Stays_v n L (by omega), Option.bind_some]
    unfold law14_LifeMatchesReference_4
    rw [same4, cond_false]
    unfold law14_LifeMatchesReference_5
    rw [same1, cond_false]
    unfold law14_LifeMatchesReference_6
    rw [same1, cond_false]
    unfold law14_LifeMatchesReference_7
    rw [same1, cond_false, sameStays_refl n _ hst2 hst, Option.bind_some]
    unfold law14_LifeMatchesReference_8
    rw [Bool.not_true, cond_false, hV, Option.bind_some, hW, Option.bind_some]
    unfold law14_LifeMatchesReference_9
    rw [sameB, cond_false, hz, Option.bind_some]
    refine iterF_ind (fun s : law14_LifeMatchesReference_s1 => 0 ≤ s.2.2.1 ∧ s.2.2.1 ≤ 2) (fun s => (2 - s.2.2.1).toNat) _ ?_ n _ ⟨show (0 : Int) ≤ 0 by decide, show (0 : Int) ≤ 2 by decide⟩ (by simp; omega)
    rintro ⟨a, b, v39, c, d, e, f, g, h, k, l⟩ go1 ⟨p0, p2⟩ ih1
    simp only at p0 p2 ih1 ⊢
    exact lm10 n go0 A B C L v5 v6 v7 v8 v9 v10 v11 v16 hL hLl hn h0 hlt hA hAl h9 h10 h11 go1 z _ _ v39 _ _ _ _ _ _ _ _ p0 p2 (ih _ ⟨by omega, by omega⟩ (by omega)) (fun hlt a b c d e f g h k l => ih1 _ ⟨by simp only; omega, by simp only; omega⟩ (by simp only; omega))
  · rw [decide_eq_false hlt, cond_false]
theorem list3 {α : Type} {l : List α} (h : l.length = 3) : ∃ a b c, l = [a, b, c] := by
  match l, h with
  | [a, b, c], _ => exact ⟨a, b, c, rfl⟩
theorem three {r : List AV} (h : r.map AV.ty = [.int, .int, .int]) (hok : ∀ x ∈ r, AVok x) : ∃ x : Int × Int × Int, r = triR x ∧ In64 x.1 ∧ In64 x.2.1 ∧ In64 x.2.2 := by
  obtain ⟨a, b, c, rfl⟩ := list3 (l := r) (by have := congrArg List.length h; simpa using this)
  simp only [List.map_cons, List.map_nil, List.cons.injEq, and_true] at h
  obtain ⟨a, rfl, h1⟩ := (hok a (by simp)).i h.1
  obtain ⟨b, rfl, h2⟩ := (hok b (by simp)).i h.2.1
  obtain ⟨c, rfl, h3⟩ := (hok c (by simp)).i h.2.2
  exact ⟨(a, b, c), rfl, h1, h2, h3⟩
theorem rows_of {α : Type} {f : α → List AV} {Q : α → Prop} : ∀ {l : Lv}, (∀ r ∈ l, ∃ x, r = f x ∧ Q x) → ∃ xs : List α, l = xs.map f ∧ ∀ x ∈ xs, Q x
  | [], _ => ⟨[], rfl, fun x h => by cases h⟩
  | r :: l, h => by
    obtain ⟨x, rfl, hx⟩ := h r (List.mem_cons_self ..)
    obtain ⟨xs, rfl, hxs⟩ := rows_of (l := l) fun r hr => h r (List.mem_cons_of_mem _ hr)
    exact ⟨x :: xs, rfl, fun y hy => by
      rcases List.mem_cons.1 hy with rfl | hy
      · exact hx
      · exact hxs y hy⟩
theorem tris_of {l : Lv} {t : Ty} (ht : t.list = [.int, .int, .int]) (h : AVok (.sl t l)) : ∃ xs : List (Int × Int × Int), l = xs.map triR ∧ ∀ x ∈ xs, In64 x.1 ∧ In64 x.2.1 ∧ In64 x.2.2 := by
  cases h with
  | sl _ _ _ hty hr => exact rows_of fun r hm => three (by rw [hty r hm, ht]) (hr r hm)
theorem int_of {n : Int} (h : AVok (.int n)) : In64 n := by
  cases h with
  | int _ h => exact h
theorem law14_LifeMatchesReference_law : ∀ s : tupT (Ps.tys law14_LifeMatchesReference_t.ps), TupOk (Ps.tys law14_LifeMatchesReference_t.ps) s → ∃ n z, law14_LifeMatchesReference_t.fn n s = some z ∧ rdec law14_LifeMatchesReference_t.sh z = .b true := by
  rintro ⟨v0, b1, b2, b3, v4, v5, v6, v7, v8, v9, v10, v11⟩ hs
  have hs : ∀ x ∈ [AV.sl (.cons .int (.cons .int (.cons .int .nil))) v0, AV.int b1, AV.int b2, AV.int b3, AV.sl (.cons .int (.cons .int (.cons .int .nil))) v4, AV.int v5, AV.int v6, AV.int v7, AV.int v8, AV.int v9, AV.int v10, AV.int v11], AVok x := hs
  obtain ⟨xs, rfl, hx⟩ := tris_of rfl (hs _ (by simp : AV.sl (.cons .int (.cons .int (.cons .int .nil))) v0 ∈ _))
  obtain ⟨ys, rfl, _⟩ := tris_of rfl (hs _ (by simp : AV.sl (.cons .int (.cons .int (.cons .int .nil))) v4 ∈ _))
  have he : ys.map triR = evL (ys.map fun y => ⟨y.1, y.2.1, y.2.2⟩) := by rw [evL, List.map_map]; rfl
  refine ⟨300, true, ?_, rfl⟩
  show law14_LifeMatchesReference 300 (xs.map triR) b1 b2 b3 (ys.map triR) v5 v6 v7 v8 v9 v10 v11 = some true
  rw [he]
  exact law14_LifeMatchesReference_v 300 xs hx b1 b2 b3 (int_of (hs _ (by simp))) (int_of (hs _ (by simp))) (int_of (hs _ (by simp))) _ v5 v6 v7 v8 v9 v10 v11 (int_of (hs _ (by simp))) (int_of (hs _ (by simp))) (int_of (hs _ (by simp))) (by decide)
end Go.Proofs.Ytjhakonpnopcnaa
