/-
  dialtoneref13.combine.
-/
import Derived.Test.YtmgippddljmfjaaWalk12
namespace Go.Proofs.Ytmgippddljmfjaa
open Go Go.RowKit Go.Dial Go.Dial.Blk

def c1 (way X Y : Int) : Int := if way = 2 then (if Y < 0 then Y else X) else (if 0 ≤ Y then Y else X)
def c2 (way X Y : Int) : Int := if way = 1 ∧ 0 ≤ Y then -1 else c1 way X Y
def c3 (u v z : Int) : Int := if 0 ≤ z ∧ z = u then v else z
def rG (way u v X Y : Int) : Int := c3 u v (c2 way X Y)
/-- what is asked of a way to combine -/
def Good (way u v : Int) (g : Int → Int → Int) : Prop := (way = 0 ∨ way = 1 ∨ way = 2) ∧ ∀ x y, -1 ≤ x → x ≤ 7 → -1 ≤ y → y ≤ 7 → rG way u v x y = g x y ∧ -1 ≤ g x y ∧ g x y ≤ 7
theorem good_over : Good 0 (-1) (-1) overG := ⟨.inl rfl, fun x y h1 h2 h3 h4 => by
  unfold rG c3 c2 c1 overG
  by_cases h : y = -1
  · subst h; simp; omega
  · have : 0 ≤ y := by omega
    simp [h, this]; omega⟩
theorem good_take : Good 1 (-1) (-1) takeG := ⟨.inr (.inl rfl), fun x y h1 h2 h3 h4 => by
  unfold rG c3 c2 c1 takeG
  by_cases h : y = -1
  · subst h; simp; omega
  · have : 0 ≤ y := by omega
    simp [h, this]⟩
theorem good_only : Good 2 (-1) (-1) onlyG := ⟨.inr (.inr rfl), fun x y h1 h2 h3 h4 => by
  unfold rG c3 c2 c1 onlyG
  by_cases h : y = -1
  · subst h; simp
  · have : ¬ y < 0 := by omega
    simp [h, this]; omega⟩
theorem add_pos (a : Addr) (n : Nat) : a.add (n + 1) = ⟨a.block, a.off + (n + 1), none⟩ := by unfold Addr.add; rw [if_neg (by omega)]
theorem bcells_one (b : B3) : ∀ u ∈ bcells b, u.oneCell' = true := by simp [bcells, Value.oneCell']
theorem size_ad (w : World) (o : Obj) : (w.alloc o).drew.heap.size = w.heap.size + 1 := by show (w.alloc o).heap.size = _; simp
theorem news_blk' (W : World) (b : B3) : ∀ j u, (bcells b)[j]? = some u → (W.alloc (.cells #[.int .i64 b.f, .int .i64 b.t, .int .i64 b.c] 53)).drew.cell? ((⟨W.heap.size, 0, none⟩ : Addr).add j) = some u := news_blk W b
theorem own_append_below' {W w w1 : World} {n base : Nat} {e : TypeId} {size k : Nat} {v : Value} {xs : List Value} {o : Obj} (hb : Below n W w) (hg : (w.alloc o).drew.grownBy w1 v.ownBlock) (hrow : w.ownsRow base e size v k xs) (hn : n ≤ w.heap.size) (hbase : n ≤ base) : Below n W w1 :=
  own_append_below hb ⟨hg.os, hg.tape, hg.output, hg.size, hg.block⟩ hrow hn hbase
/-- the pieces between edges, folded -/
def foldE (g : Int → Int → Int) (a b : List B3) (E : List Int) : Nat → List B3
  | 0 => []
  | i + 1 => Blk.step (foldE g a b E i) (E.getD i 0) (E.getD (i + 1) 0) (g (hold a (E.getD i 0)) (hold b (E.getD i 0)))
theorem const_on {l : List B3} {e k : Int} (h : Asc e k l) {E : List Int} (hE : E.Pairwise (· < ·)) (hc : ∀ b ∈ l, b.f ∈ E ∧ b.t ∈ E) {i : Nat} (hi : i + 1 < E.length) {m : Int} (h1 : E[i] ≤ m) (h2 : m < E[i + 1]) : hold l m = hold l E[i] := by
  obtain ⟨d, hd⟩ : ∃ d, d = (m - E[i]).toNat := ⟨_, rfl⟩
  induction d generalizing m with
  | zero => have : m = E[i] := by omega
            rw [this]
  | succ d ih =>
    have := ih (m := m - 1) (by omega) (by omega) (by omega)
    rw [← this]
    by_cases hh : hold l (m - 1) = hold l m
    · exact hh.symm
    · exfalso
      obtain ⟨b, hb, hbm⟩ := change_mem h hh
      have hm : m ∈ E := by
        rcases hbm with rfl | rfl
        · exact (hc b hb).1
        · exact (hc b hb).2
      obtain ⟨j, hj, hjm⟩ := List.getElem_of_mem hm
      rcases Nat.lt_or_ge i j with hij | hij
      · rcases Nat.lt_or_ge (i + 1) j with h3 | h3
        · have := List.pairwise_iff_getElem.1 hE (i + 1) j hi hj h3; omega
        · have : j = i + 1 := by omega
          subst this; omega
      · rcases Nat.lt_or_ge j i with h3 | h3
        · have := List.pairwise_iff_getElem.1 hE j i hj (by omega) h3; omega
        · have : j = i := by omega
          subst this; omega
theorem foldE_upto {g : Int → Int → Int} (hg : ∀ x y, -1 ≤ x → x ≤ 7 → -1 ≤ y → y ≤ 7 → -1 ≤ g x y ∧ g x y ≤ 7) {a b : List B3} (ha : Canon a) (hb : Canon b) {E : List Int} (hE : EOk E) (hca : ∀ x ∈ a, x.f ∈ E ∧ x.t ∈ E) (hcb : ∀ x ∈ b, x.f ∈ E ∧ x.t ∈ E) (i : Nat) (hi : i < E.length) :
    Upto (fun m => g (hold a m) (hold b m)) E[i] (foldE g a b E i) := by
  have hb0 : ∀ (k : Nat) (hk : k < E.length), 0 ≤ E[k] ∧ E[k] ≤ 100000000 := fun k hk => by
    have e0 := hE.2.1
    have e1 := hE.2.2
    rw [List.getElem?_eq_getElem (by omega)] at e0 e1
    simp only [Option.some.injEq] at e0 e1
    constructor
    · rcases Nat.eq_zero_or_pos k with rfl | hp
      · omega
      · have := List.pairwise_iff_getElem.1 hE.1 0 k (by omega) hk hp; omega
    · rcases Nat.lt_or_ge k (E.length - 1) with hp | hp
      · have := List.pairwise_iff_getElem.1 hE.1 k (E.length - 1) hk (by omega) hp; omega
      · have : k = E.length - 1 := by omega
        subst this; omega
  induction i with
  | zero =>
    have e0 := hE.2.1
    rw [List.getElem?_eq_getElem (by omega)] at e0
    simp only [Option.some.injEq] at e0
    rw [e0]; exact Upto.nil _
  | succ i ih =>
    have e1 : E.getD i 0 = E[i] := by simp [List.getD_eq_getElem?_getD, List.getElem?_eq_getElem (show i < E.length by omega)]
    have e2 : E.getD (i + 1) 0 = E[i + 1] := by simp [List.getD_eq_getElem?_getD, List.getElem?_eq_getElem hi]
    have ra := hold_range ha E[i]
    have rb := hold_range hb E[i]
    rw [foldE, e1, e2]
    refine Upto.step (ih (by omega)) (hb0 i (by omega)).1 (List.pairwise_iff_getElem.1 hE.1 i (i + 1) (by omega) hi (by omega)) (hb0 _ hi).2 (hg _ _ ra.1 ra.2 rb.1 rb.2) fun n h1 h2 => ?_
    rw [const_on ha hE.1 hca hi h1 h2, const_on hb hE.1 hcb hi h1 h2]
theorem foldS_upto {g : Int → Int → Int} (hg : ∀ x y, -1 ≤ x → x ≤ 7 → -1 ≤ y → y ≤ 7 → -1 ≤ g x y ∧ g x y ≤ 7) {a b : List B3} (ha : Canon a) (hb : Canon b) : Upto (fun m => g (hold a m) (hold b m)) 100000000 (foldS g (pieces a b 0)) :=
  fold_pieces g hg (fun m => hold a m) (fun m => hold b m) ha.some hb.some (Int.le_refl _) (by omega) (fun _ _ => rfl) (fun _ _ => rfl) (Upto.nil _)
theorem foldE_eq {g : Int → Int → Int} (hg : ∀ x y, -1 ≤ x → x ≤ 7 → -1 ≤ y → y ≤ 7 → -1 ≤ g x y ∧ g x y ≤ 7) {a b : List B3} (ha : Canon a) (hb : Canon b) {E : List Int} (hE : EOk E) (hca : ∀ x ∈ a, x.f ∈ E ∧ x.t ∈ E) (hcb : ∀ x ∈ b, x.f ∈ E ∧ x.t ∈ E) :
    foldE g a b E (E.length - 1) = foldS g (pieces a b 0) := by
  have hp := hE.pos
  have h1 := foldE_upto hg ha hb hE hca hcb (E.length - 1) (by omega)
  have h2 := foldS_upto hg ha hb
  have e1 := hE.2.2
  rw [List.getElem?_eq_getElem (by omega)] at e1
  simp only [Option.some.injEq] at e1
  rw [e1] at h1
  exact Canon.uniq h1.1 h2.1 fun n _ _ => by rw [h1.2.2, h2.2.2]
def t8 (way Y : Int) : Bool := decide (way = 0 ∧ 0 ≤ Y ∨ way = 1 ∧ 0 ≤ Y ∨ way = 2 ∧ Y < 0)
def t10 (way Y : Int) : Bool := decide (way = 1 ∧ 0 ≤ Y)
def t12 (u z : Int) : Bool := decide (0 ≤ z ∧ z = u)
theorem c1_t {way X Y : Int} (h : t8 way Y = true) : c1 way X Y = Y := by
  simp only [t8, decide_eq_true_eq] at h
  unfold c1
  rcases h with ⟨rfl, h⟩ | ⟨rfl, h⟩ | ⟨rfl, h⟩ <;> simp [h]
theorem c1_f {way X Y : Int} (hw : way = 0 ∨ way = 1 ∨ way = 2) (h : t8 way Y = false) : c1 way X Y = X := by
  simp only [t8, decide_eq_false_iff_not] at h
  unfold c1
  rcases hw with rfl | rfl | rfl <;> (simp at h ⊢; intro h2; exfalso; omega)
theorem c2_t {way X Y : Int} (h : t10 way Y = true) : c2 way X Y = -1 := by
  simp only [t10, decide_eq_true_eq] at h; rw [c2, if_pos h]
theorem c2_f {way X Y : Int} (h : t10 way Y = false) : c2 way X Y = c1 way X Y := by
  simp only [t10, decide_eq_false_iff_not] at h; rw [c2, if_neg h]
theorem c3_t {u v z : Int} (h : t12 u z = true) : c3 u v z = v := by
  simp only [t12, decide_eq_true_eq] at h; rw [c3, if_pos h]
theorem c3_f {u v z : Int} (h : t12 u z = false) : c3 u v z = z := by
  simp only [t12, decide_eq_false_iff_not] at h; rw [c3, if_neg h]
theorem foldE_len (g : Int → Int → Int) (a b : List B3) (E : List Int) (i : Nat) : (foldE g a b E i).length ≤ i := by
  induction i with
  | zero => simp [foldE]
  | succ i ih => rw [foldE]; have := step_len (foldE g a b E i) (E.getD i 0) (E.getD (i + 1) 0) (g (hold a (E.getD i 0)) (hold b (E.getD i 0))); omega
theorem rholder_any' (A : Option Addr) (c : Nat) (bs : List B3) (n : Int) (w : World) (hlen : bs.length ≤ maxLen) (hS : Span w w.heap.size 3 A bs.length (bcs bs)) :
    Calls Try.prog 64 #[.slice A bs.length c, .int .i64 n] w fun e w' => e = .returned (.int .i64 (hold bs n)) ∧ w = w' := (rholder_any A c bs n w hlen hS).mono fun _ _ h => ⟨h.1, h.2.symm⟩

set_option maxRecDepth 100000 in
set_option maxHeartbeats 4000000 in
theorem rcombine_any (A0 A1 : Option Addr) (d0 d1 : Nat) (a b : List B3) (way u v : Int) (g : Int → Int → Int) (w : World) (hl0 : a.length ≤ 45) (hl1 : b.length ≤ 45) (sp0 : Span w w.heap.size 3 A0 a.length (bcs a)) (sp1 : Span w w.heap.size 3 A1 b.length (bcs b)) (ha : Canon a) (hb : Canon b) (hgood : Good way u v g) :
    Calls Try.prog 60 #[.slice A0 a.length d0, .slice A1 b.length d1, .int .i64 way, .int .i64 u, .int .i64 v] w (Res w (combR g a b)) := by
  have SP0 := Lib.hid sp0
  have SP1 := Lib.hid sp1
  have HCA := Lib.hid ha
  have HCB := Lib.hid hb
  have HG := Lib.hid hgood
  clear sp0 sp1 ha hb hgood
  go_enter Try.func60, Try.ntmps60
  go_wp2_with fail
  refine (edges_any A0 A1 d0 d1 a b w hl0 hl1 SP0.out SP1.out HCA.out HCB.out).mono ?_
  rintro e w1 ⟨⟨ve, rfl, hE⟩, hb1⟩
  obtain ⟨i1, i2, i3, i4⟩ := insE_spec a (canon_rng HCA.out) EOk.two
  obtain ⟨q1, q2, q3, q4⟩ := insE_spec b (canon_rng HCB.out) i1
  simp only [List.length_cons, List.length_nil] at i4
  obtain ⟨E, hEE⟩ : ∃ E, E = edgesL a b := ⟨_, rfl⟩
  have hq4 : E.length ≤ 182 := by rw [hEE]; show (insE _ b).length ≤ _; omega
  have HEO : Hid (EOk E) := Lib.hid (by rw [hEE]; exact q1)
  have HCUT : Hid ((∀ x ∈ a, x.f ∈ E ∧ x.t ∈ E) ∧ ∀ x ∈ b, x.f ∈ E ∧ x.t ∈ E) := Lib.hid ⟨fun x hx => by rw [hEE]; exact ⟨q2 _ (i3 x hx).1, q2 _ (i3 x hx).2⟩, fun x hx => by rw [hEE]; exact q3 x hx⟩
  rw [← hEE] at hE
  have hpos := HEO.out.pos
  clear i1 i2 i3 i4 q1 q2 q3 q4 hEE
  obtain ⟨Ae, ce, rfl, he1, he2, spe⟩ := hE
  have SPE := Lib.hid spe
  have SA := Lib.hid (SP0.out.below hb1 (Nat.le_refl _))
  have SB := Lib.hid (SP1.out.below hb1 (Nat.le_refl _))
  have HB1 := Lib.hid hb1
  have hsz1 := hb1.size
  unfold maxLen at he2
  clear spe hb1 SP0 SP1
  go_wp2_with fail
  go_loopw [13, 14] (fun o i wr => ∃ j : Nat, j + 1 ≤ E.length ∧ i = .int .i64 j ∧ wr.ownsRow w1.heap.size 53 3 o (foldE g a b E j).length (bcs (foldE g a b E j)) ∧ Below w1.heap.size w1 wr) (fun _ i _ => E.length - (intOf i).toNat)
  case atStart => exact ⟨0, by omega, rfl, World.ownsRow_nil _ _ _ _, Below.refl _ _⟩
  case round =>
    obtain ⟨j, hj, rfl, hrow, hbe⟩ := hrel
    by_cases hjn : j + 1 < E.length
    · obtain ⟨x0, hx0⟩ : ∃ x, x = E[j] := ⟨_, rfl⟩
      obtain ⟨x1, hx1⟩ : ∃ x, x = E[j + 1] := ⟨_, rfl⟩
      have HX0 : Hid (E[j]? = some x0) := Lib.hid (by rw [hx0]; exact List.getElem?_eq_getElem (by omega))
      have HX1 : Hid (E[j + 1]? = some x1) := Lib.hid (by rw [hx1]; exact List.getElem?_eq_getElem hjn)
      clear hx0 hx1
      obtain ⟨X, hX⟩ : ∃ X, X = hold a x0 := ⟨_, rfl⟩
      obtain ⟨Y, hY⟩ : ∃ Y, Y = hold b x0 := ⟨_, rfl⟩
      have rX := hold_range HCA.out x0
      have rY := hold_range HCB.out x0
      rw [← hX] at rX
      rw [← hY] at rY
      have HFE : Hid (foldE g a b E (j + 1) = Blk.step (foldE g a b E j) x0 x1 (g X Y)) := Lib.hid (by rw [foldE]; simp [List.getD_eq_getElem?_getD, HX0.out, HX1.out, hX, hY])
      have HX := Lib.hid hX
      have HY := Lib.hid hY
      have HGD : Hid (rG way u v X Y = g X Y ∧ -1 ≤ g X Y ∧ g X Y ≤ 7) := Lib.hid (HG.out.2 X Y rX.1 rX.2 rY.1 rY.2)
      clear hX hY
      obtain ⟨ae, hae, hab, cx0⟩ := span_int (SPE.out.below hbe (Nat.le_refl _)) HX0.out
      subst hae
      obtain ⟨ae', hae', _, cx1⟩ := span_int (SPE.out.below hbe (Nat.le_refl _)) HX1.out
      cases hae'
      have s1 : IntKind.i64.wrap ((j : Int) + 1) = ((j + 1 : Nat) : Int) := by rw [IntWalk.i64_in _ (by omega)]; omega
      have s2 : ((j + 1 : Nat) : Int) < (E.length : Int) := by omega
      have hrA := (SA.out.below hbe hsz1).mono (Nat.le_trans hsz1 hbe.size)
      have hrB := (SB.out.below hbe hsz1).mono (Nat.le_trans hsz1 hbe.size)
      have HRA := Lib.hid hrA
      have HRB := Lib.hid hrB
      clear hrA hrB
      go_upto_region 7 with (go_at_call 64; refine (rholder_any' A0 d0 a x0 _ (by unfold maxLen; omega) HRA.out).mono ?_; rintro e w2 ⟨rfl, rfl⟩; rw [← HX.out])
      have rY0 := rY.1
      have HWAY := Lib.hid HG.out.1
      go_upto_region 8 with (go_at_call 64; refine (rholder_any' A1 d1 b x0 _ (by unfold maxLen; omega) HRB.out).mono ?_; rintro e w2 ⟨rfl, rfl⟩; rw [← HY.out])
      go_cut [61] (fun x wx => x = .bool (t8 way Y) ∧ wr = wx)
      case first =>
        rcases Int.lt_or_le Y 0 with hy | hy
        all_goals
          rcases HWAY.out with rfl | rfl | rfl
          all_goals
            go_wp2_with fail
            go_meet
            exact ⟨by simp [t8]; try omega, rfl⟩
      case rest =>
        obtain ⟨rfl, rfl⟩ := hcut
        go_upto_if 61 with fail
        go_cut [15] (fun x wx => x = .int .i64 (c1 way X Y) ∧ wr = wx)
        case first =>
          cases hT : t8 way Y
          all_goals
            go_wp2_with fail
            go_meet
            exact ⟨by first | rw [c1_t hT] | rw [c1_f HWAY.out hT], rfl⟩
        case rest =>
          obtain ⟨rfl, rfl⟩ := hcut
          go_upto_region 10 with fail
          go_cut [68] (fun x wx => x = .bool (t10 way Y) ∧ wr = wx)
          case first =>
            rcases Int.lt_or_le Y 0 with hy | hy
            all_goals
              rcases HWAY.out with rfl | rfl | rfl
              all_goals
                go_wp2_with fail
                go_meet
                exact ⟨by simp [t10]; try omega, rfl⟩
          case rest =>
            obtain ⟨rfl, rfl⟩ := hcut
            go_upto_if 68 with fail
            go_cut [15] (fun x wx => x = .int .i64 (c2 way X Y) ∧ wr = wx)
            case first =>
              cases hT : t10 way Y
              all_goals
                go_wp2_with fail
                go_meet
                exact ⟨by first | rw [c2_t hT] | rw [c2_f hT], rfl⟩
            case rest =>
              obtain ⟨rfl, rfl⟩ := hcut
              obtain ⟨z, hz⟩ : ∃ z, z = c2 way X Y := ⟨_, rfl⟩
              rw [← hz]
              have HZ : Hid (g X Y = c3 u v z) := Lib.hid (by rw [← HGD.out.1, rG, hz])
              clear hz
              go_upto_region 12 with fail
              go_cut [75] (fun x wx => x = .bool (t12 u z) ∧ wr = wx)
              case first =>
                rcases Int.lt_or_le z 0 with hy | hy
                · go_wp2_with fail
                  go_meet
                  exact ⟨by simp [t12]; try omega, rfl⟩
                · by_cases hzu : z = u
                  · have b1 : (z == u) = true := by rw [beq_iff_eq]; exact hzu
                    have HT : Hid (t12 u z = true) := Lib.hid (by simp [t12, hzu]; omega)
                    clear hzu
                    go_wp2_with fail
                    go_meet
                    exact ⟨by rw [HT.out], rfl⟩
                  · have b1 : (z == u) = false := by rw [beq_eq_false_iff_ne]; exact hzu
                    have HT : Hid (t12 u z = false) := Lib.hid (by simp [t12, hzu])
                    clear hzu
                    go_wp2_with fail
                    go_meet
                    exact ⟨by rw [HT.out], rfl⟩
              case rest =>
                obtain ⟨rfl, rfl⟩ := hcut
                go_upto_if 75 with fail
                go_cut [15] (fun x wx => x = .int .i64 (g X Y) ∧ wr = wx)
                case first =>
                  cases hT : t12 u z
                  all_goals
                    go_wp2_with fail
                    go_meet
                    exact ⟨by rw [HZ.out]; first | rw [c3_t hT] | rw [c3_f hT], rfl⟩
                case rest =>
                  obtain ⟨rfl, rfl⟩ := hcut
                  obtain ⟨k, hk⟩ : ∃ k, k = g X Y := ⟨_, rfl⟩
                  have hkr := HGD.out.2
                  rw [← hk] at hkr ⊢
                  have HFE : Hid (foldE g a b E (j + 1) = Blk.step (foldE g a b E j) x0 x1 k) := Lib.hid (by rw [HFE.out, hk])
                  clear hk
                  obtain ⟨i0, hi, hz0, hz1, hz2⟩ := info_parts info53
                  have hfl := foldE_len g a b E j
                  have HCE : Hid (∀ W', Below w1.heap.size w1 W' → W'.cell? (ae.add j) = some (.int .i64 x0) ∧ W'.cell? ⟨ae.block, ae.off + (j + 1), none⟩ = some (.int .i64 x1)) := Lib.hid fun W' hb => by
                    obtain ⟨a1, e1, _, k0⟩ := span_int (SPE.out.below hb (Nat.le_refl _)) HX0.out
                    obtain ⟨a2, e2, _, k1⟩ := span_int (SPE.out.below hb (Nat.le_refl _)) HX1.out
                    cases e1; cases e2
                    exact ⟨k0, by rw [← add_pos ae j]; exact k1⟩
                  by_cases hkn : k = -1
                  · have HST : Hid (Blk.step (foldE g a b E j) x0 x1 k = foldE g a b E j) := Lib.hid (by rw [hkn, step_none])
                    have hk0 : k < 0 := by omega
                    clear hkn
                    go_wp2_with fail
                    exact ⟨⟨j + 1, by omega, by go_num, by rw [HFE.out, HST.out]; exact hrow, hbe⟩, by simp [intOf]; omega⟩
                  · have hk0 : 0 ≤ k := by omega
                    rcases List.eq_nil_or_concat (foldE g a b E j) with e | ⟨lst, q, e⟩
                    · have HST : Hid (Blk.step (foldE g a b E j) x0 x1 k = [] ++ [⟨x0, x1, k⟩]) := Lib.hid (by rw [e, step_nil _ _ _ hkn]; rfl)
                      rw [e] at hrow
                      obtain ⟨A, c, rfl, _, _⟩ := own_slice hrow
                      clear hkn e
                      simp only [List.length_nil] at hrow
                      go_upto_region 16 with fail
                      go_quiet (fail)
                      obtain ⟨W4, hW4⟩ : ∃ W4, W4 = wr.drewN nq := ⟨_, rfl⟩
                      rw [← hW4]
                      have y0 : W4.cell? (ae.add j) = some (.int .i64 x0) := by rw [hW4]; exact cx0
                      have y1 : W4.cell? ⟨ae.block, ae.off + (j + 1), none⟩ = some (.int .i64 x1) := by rw [hW4]; rw [← add_pos ae j]; exact cx1
                      have g4 : Below w1.heap.size w1 W4 := by rw [hW4]; exact below_dN hbe _
                      have e0 : (0 : Int) ≤ (j : Int) := by omega
                      have e1 : (j : Int) < (E.length : Int) := by omega
                      have e2 : (0 : Int) ≤ (j : Int) + 1 := by omega
                      have e2' : (j : Int) + 1 < (E.length : Int) := by omega
                      have e3 : ((j : Int) + 1).toNat = j + 1 := by omega
                      have g2 : W4.ownsRow w1.heap.size 53 3 (.slice A 0 c) 0 (bcs []) := by rw [hW4]; exact hrow
                      clear hW4 cx0 cx1 hbe hrow
                      have hsz4 := g4.size
                      go_upto_region 18 with fail
                      go_region_held3 (fun w' => w'.cell? (ae.add j) = some (.int .i64 x0) ∧ w'.cell? ⟨ae.block, ae.off + (j + 1), none⟩ = some (.int .i64 x1)) (go_keep)
                        ((refine step_append_lies _ (by rfl) (.tmp 120) (.tmp 133) 24 (by rfl) w1.heap.size 53 i0 _ 3 24 Try.underlying24 hi hz0 hz1 hz2 rfl (by omega) (.slice A 0 c) 0 (bcs []) (by rfl) ((g2.alloc _).drew) ⟨W4.heap.size, 0, none⟩ 1 1 (bcells ⟨x0, x1, k⟩) (by rfl) (by rfl) (news_blk' _ _) (bcells_one _) (by omega) (by unfold maxLen; omega) (by omega) (Nat.le_trans hsz4 (by rw [size_ad]; exact Nat.le_succ _)) (W4.heap.size + 1) (size_ad _ _) ?_; intro gg cap w5 hown5 hgrow5 hat hlt5; have HG5 := Lib.hid (own_append_below' g4 hgrow5 g2 hsz4 (Nat.le_refl _)); have HO5 := Lib.hid hown5; clear hgrow5 hown5 hat; obtain ⟨z0, z1⟩ := HCE.out _ HG5.out))
                      clear y0 y1 z0 z1 e0 e1 e2 e2' e3
                      go_wp2_with fail
                      exact ⟨⟨j + 1, by omega, by go_num, by rw [HFE.out, HST.out]; exact (by have h5 := HO5.out; simpa [bcs] using h5), HG5.out⟩, by simp [intOf]; omega⟩
                    · rw [List.concat_eq_append] at e
                      have hll : lst.length + 1 ≤ 200 := by rw [e] at hfl; simp at hfl; omega
                      rw [e] at hrow
                      have hrow' := Lib.hid hrow
                      obtain ⟨g', cap', rfl, hrb, hgl, hcap, hcm, c1, c2, hfz, hset⟩ := last_blk hrow
                      have hst : Blk.step (foldE g a b E j) x0 x1 k = if q.t = x0 ∧ q.c = k then lst ++ [⟨q.f, x1, k⟩] else (lst ++ [q]) ++ [⟨x0, x1, k⟩] := by rw [e, step_snoc _ _ _ _ _ hkn]
                      clear hkn e hset hrow hfl
                      have s3 : IntKind.i64.wrap (((lst.length + 1 : Nat) : Int) - 1) = (lst.length : Int) := by rw [IntWalk.i64_in _ (by omega)]; omega
                      have s4 : (0 : Int) < ((lst.length + 1 : Nat) : Int) := by omega
                      by_cases e1 : q.t = x0
                      · have b1 : (q.t == x0) = true := by rw [beq_iff_eq]; exact e1
                        by_cases e2 : q.c = k
                        · have b2 : (q.c == k) = true := by rw [beq_iff_eq]; exact e2
                          have HST : Hid (Blk.step (foldE g a b E j) x0 x1 k = lst ++ [⟨q.f, x1, q.c⟩]) := Lib.hid (by rw [hst, if_pos ⟨e1, e2⟩, e2])
                          clear e1 e2 hst
                          go_upto_region 16 with fail
                          go_quiet (fail)
                          obtain ⟨W4, hW4⟩ : ∃ W4, W4 = wr.drewN nq := ⟨_, rfl⟩
                          rw [← hW4]
                          have y0 : W4.cell? (ae.add j) = some (.int .i64 x0) := by rw [hW4]; exact cx0
                          have y1 : W4.cell? ⟨ae.block, ae.off + (j + 1), none⟩ = some (.int .i64 x1) := by rw [hW4]; rw [← add_pos ae j]; exact cx1
                          have g4 : Below w1.heap.size w1 W4 := by rw [hW4]; exact below_dN hbe _
                          have e0 : (0 : Int) ≤ (j : Int) := by omega
                          have e1 : (j : Int) < (E.length : Int) := by omega
                          have e2 : (0 : Int) ≤ (j : Int) + 1 := by omega
                          have e2' : (j : Int) + 1 < (E.length : Int) := by omega
                          have e3 : ((j : Int) + 1).toNat = j + 1 := by omega
                          have g2 : W4.ownsRow w1.heap.size 53 3 (.slice (some ⟨g', 0, none⟩) (lst.length + 1) cap') (lst ++ [q]).length (bcs (lst ++ [q])) := by rw [hW4]; exact hrow'.out
                          obtain ⟨_, _, hv, _, hgl4, _, _, c1', c2', hfz', hset'⟩ := last_blk g2
                          cases hv
                          have HSET' := Lib.hid hset'
                          clear hW4 cx0 cx1 hbe c1 c2 hfz hset' g2
                          have hsz4 := g4.size
                          go_wp2_with fail
                          obtain ⟨r1, r2⟩ := HSET'.out x1
                          exact ⟨⟨j + 1, by omega, by go_num, by rw [HFE.out, HST.out]; exact r1, g4.grown r2 hsz4 (by intro jj hj; simp at hj; omega)⟩, by simp [intOf]; omega⟩
                        · have b2 : (q.c == k) = false := by rw [beq_eq_false_iff_ne]; exact e2
                          have HST : Hid (Blk.step (foldE g a b E j) x0 x1 k = (lst ++ [q]) ++ [⟨x0, x1, k⟩]) := Lib.hid (by rw [hst, if_neg (fun h => e2 h.2)])
                          clear e1 e2 hst
                          go_upto_region 16 with fail
                          go_quiet (fail)
                          obtain ⟨W4, hW4⟩ : ∃ W4, W4 = wr.drewN nq := ⟨_, rfl⟩
                          rw [← hW4]
                          have y0 : W4.cell? (ae.add j) = some (.int .i64 x0) := by rw [hW4]; exact cx0
                          have y1 : W4.cell? ⟨ae.block, ae.off + (j + 1), none⟩ = some (.int .i64 x1) := by rw [hW4]; rw [← add_pos ae j]; exact cx1
                          have g4 : Below w1.heap.size w1 W4 := by rw [hW4]; exact below_dN hbe _
                          have e0 : (0 : Int) ≤ (j : Int) := by omega
                          have e1 : (j : Int) < (E.length : Int) := by omega
                          have e2 : (0 : Int) ≤ (j : Int) + 1 := by omega
                          have e2' : (j : Int) + 1 < (E.length : Int) := by omega
                          have e3 : ((j : Int) + 1).toNat = j + 1 := by omega
                          have g2 : W4.ownsRow w1.heap.size 53 3 (.slice (some ⟨g', 0, none⟩) (lst.length + 1) cap') (lst.length + 1) (bcs (lst ++ [q])) := by rw [hW4]; have h2x := hrow'.out; simp only [List.length_append, List.length_singleton] at h2x; exact h2x
                          clear hW4 cx0 cx1 hbe c1 c2 hfz
                          have hsz4 := g4.size
                          go_upto_region 18 with fail
                          go_region_held3 (fun w' => w'.cell? (ae.add j) = some (.int .i64 x0) ∧ w'.cell? ⟨ae.block, ae.off + (j + 1), none⟩ = some (.int .i64 x1)) (go_keep)
                            ((refine step_append_lies _ (by rfl) (.tmp 120) (.tmp 133) 24 (by rfl) w1.heap.size 53 i0 _ 3 24 Try.underlying24 hi hz0 hz1 hz2 rfl (by omega) (.slice (some ⟨g', 0, none⟩) (lst.length + 1) cap') (lst.length + 1) (bcs (lst ++ [q])) (by rfl) ((g2.alloc _).drew) ⟨W4.heap.size, 0, none⟩ 1 1 (bcells ⟨x0, x1, k⟩) (by rfl) (by rfl) (news_blk' _ _) (bcells_one _) (by omega) (by unfold maxLen; omega) (by omega) (Nat.le_trans hsz4 (by rw [size_ad]; exact Nat.le_succ _)) (W4.heap.size + 1) (size_ad _ _) ?_; intro gg cap w5 hown5 hgrow5 hat hlt5; have HG5 := Lib.hid (own_append_below' g4 hgrow5 g2 hsz4 (Nat.le_refl _)); have HO5 := Lib.hid hown5; clear hgrow5 hown5 hat; obtain ⟨z0, z1⟩ := HCE.out _ HG5.out))
                          clear y0 y1 z0 z1 e0 e1 e2 e2' e3
                          go_wp2_with fail
                          exact ⟨⟨j + 1, by omega, by go_num, by rw [HFE.out, HST.out]; exact (by have h5 := HO5.out; rw [bcs_snoc]; simpa using h5), HG5.out⟩, by simp [intOf]; omega⟩
                      · have b1 : (q.t == x0) = false := by rw [beq_eq_false_iff_ne]; exact e1
                        have HST : Hid (Blk.step (foldE g a b E j) x0 x1 k = (lst ++ [q]) ++ [⟨x0, x1, k⟩]) := Lib.hid (by rw [hst, if_neg (fun h => e1 h.1)])
                        clear e1 hst
                        go_upto_region 16 with fail
                        go_quiet (fail)
                        obtain ⟨W4, hW4⟩ : ∃ W4, W4 = wr.drewN nq := ⟨_, rfl⟩
                        rw [← hW4]
                        have y0 : W4.cell? (ae.add j) = some (.int .i64 x0) := by rw [hW4]; exact cx0
                        have y1 : W4.cell? ⟨ae.block, ae.off + (j + 1), none⟩ = some (.int .i64 x1) := by rw [hW4]; rw [← add_pos ae j]; exact cx1
                        have g4 : Below w1.heap.size w1 W4 := by rw [hW4]; exact below_dN hbe _
                        have e0 : (0 : Int) ≤ (j : Int) := by omega
                        have e1 : (j : Int) < (E.length : Int) := by omega
                        have e2 : (0 : Int) ≤ (j : Int) + 1 := by omega
                        have e2' : (j : Int) + 1 < (E.length : Int) := by omega
                        have e3 : ((j : Int) + 1).toNat = j + 1 := by omega
                        have g2 : W4.ownsRow w1.heap.size 53 3 (.slice (some ⟨g', 0, none⟩) (lst.length + 1) cap') (lst.length + 1) (bcs (lst ++ [q])) := by rw [hW4]; have h2x := hrow'.out; simp only [List.length_append, List.length_singleton] at h2x; exact h2x
                        clear hW4 cx0 cx1 hbe c1 c2 hfz
                        have hsz4 := g4.size
                        go_upto_region 18 with fail
                        go_region_held3 (fun w' => w'.cell? (ae.add j) = some (.int .i64 x0) ∧ w'.cell? ⟨ae.block, ae.off + (j + 1), none⟩ = some (.int .i64 x1)) (go_keep)
                          ((refine step_append_lies _ (by rfl) (.tmp 120) (.tmp 133) 24 (by rfl) w1.heap.size 53 i0 _ 3 24 Try.underlying24 hi hz0 hz1 hz2 rfl (by omega) (.slice (some ⟨g', 0, none⟩) (lst.length + 1) cap') (lst.length + 1) (bcs (lst ++ [q])) (by rfl) ((g2.alloc _).drew) ⟨W4.heap.size, 0, none⟩ 1 1 (bcells ⟨x0, x1, k⟩) (by rfl) (by rfl) (news_blk' _ _) (bcells_one _) (by omega) (by unfold maxLen; omega) (by omega) (Nat.le_trans hsz4 (by rw [size_ad]; exact Nat.le_succ _)) (W4.heap.size + 1) (size_ad _ _) ?_; intro gg cap w5 hown5 hgrow5 hat hlt5; have HG5 := Lib.hid (own_append_below' g4 hgrow5 g2 hsz4 (Nat.le_refl _)); have HO5 := Lib.hid hown5; clear hgrow5 hown5 hat; obtain ⟨z0, z1⟩ := HCE.out _ HG5.out))
                        clear y0 y1 z0 z1 e0 e1 e2 e2' e3
                        go_wp2_with fail
                        exact ⟨⟨j + 1, by omega, by go_num, by rw [HFE.out, HST.out]; exact (by have h5 := HO5.out; rw [bcs_snoc]; simpa using h5), HG5.out⟩, by simp [intOf]; omega⟩
    · have hje : j = E.length - 1 := by omega
      have hgg : ∀ x y, -1 ≤ x → x ≤ 7 → -1 ≤ y → y ≤ 7 → -1 ≤ g x y ∧ g x y ≤ 7 := fun x y h1 h2 h3 h4 => (HG.out.2 x y h1 h2 h3 h4).2
      have hfe : foldE g a b E j = foldS g (pieces a b 0) := by rw [hje]; exact foldE_eq hgg HCA.out HCB.out HEO.out HCUT.out.1 HCUT.out.2
      have hcan : Canon (foldS g (pieces a b 0)) := (foldS_upto hgg HCA.out HCB.out).1
      have hfl := foldE_len g a b E j
      rw [hfe] at hrow hfl
      obtain ⟨O, hO⟩ : ∃ O, O = foldS g (pieces a b 0) := ⟨_, rfl⟩
      rw [← hO] at hrow hcan hfl
      have HO := Lib.hid hO
      have HCN := Lib.hid hcan
      obtain ⟨A, c, rfl, hAc, hcm⟩ := own_slice hrow
      have hsp := Span.of_own hrow
      have HSP := Lib.hid hsp
      have hwb := below_trans HB1.out hbe
      clear hfe hO hcan hrow hsp hgg hje
      by_cases h40 : O.length ≤ 40
      · have hv : validB O = true := validB_iff.2 ⟨h40, HCN.out⟩
        have HR : Hid (combR g a b = (O, 0)) := Lib.hid (by rw [combR, ← HO.out, if_pos h40])
        go_wp2_with (go_at_call 41; refine (rvalid_any A c O _ (by unfold maxLen; omega) HSP.out).mono ?_; rintro e w6 ⟨rfl, hb6⟩; rw [hv])
        go_ret2
        exact ⟨.slice A O.length c, by rw [HR.out]; rfl, by rw [HR.out]; exact HoldsB.later ⟨A, c, rfl, hAc, hcm, HSP.out⟩ hb6, below_trans hwb hb6⟩
      · have hv : validB O = false := by
          cases h : validB O with
          | false => rfl
          | true => exact absurd (validB_iff.1 h).1 h40
        have HR : Hid (combR g a b = ([], 130)) := Lib.hid (by rw [combR, ← HO.out, if_neg h40])
        go_wp2_with (go_at_call 41; refine (rvalid_any A c O _ (by unfold maxLen; omega) HSP.out).mono ?_; rintro e w6 ⟨rfl, hb6⟩; rw [hv])
        go_ret2
        exact Res.none HR.out (below_trans hwb hb6)
end Go.Proofs.Ytmgippddljmfjaa
