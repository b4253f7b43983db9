/-
  The contracts of wire.Int and wire.PutInt.
-/
import Derived.Test.YtjhakonpnopcnaaProg
import Derived.Test.YtjhakonpnopcnaaBase
import Derived.Test.YtjhakonpnopcnaaWireM
import Derived.Test.YtjhakonpnopcnaaWireB
set_option linter.unusedVariables false
set_option linter.unusedSimpArgs false
namespace Go.Proofs.Ytjhakonpnopcnaa
open Go Go.RowKit Go.Shelf Go.Dial Go.Dial.Wire
theorem intAt_some {l : List UInt8} {k : Nat} {n : Int} {j : Nat} (h : k ≤ l.length) (hd : dec 9 0 0 (l.drop k) = some (n, j)) : intAt l k = (n, (k : Int) + j, 0) := by
  unfold intAt; rw [if_neg (by omega), Int.toNat_natCast, hd]
theorem intAt_none {l : List UInt8} {k : Nat} (h : k ≤ l.length) (hd : dec 9 0 0 (l.drop k) = none) : intAt l k = (0, 0, 10) := by
  unfold intAt; rw [if_neg (by omega), Int.toNat_natCast, hd]
theorem ret3 {a a' b b' c c' : Int} (h : (a', b', c') = (a, b, c)) : Ending.returned (.tuple #[.int .i64 a, .int .i64 b, .int .i64 c]) = .returned (.tuple #[.int .i64 a', .int .i64 b', .int .i64 c']) := by
  simp only [Prod.mk.injEq] at h; obtain ⟨rfl, rfl, rfl⟩ := h; rfl
theorem drop_cons {s : ByteArray} {j : Nat} (h : j < s.size) : s.data.toList.drop j = s[j] :: s.data.toList.drop (j + 1) := by
  rw [List.drop_eq_getElem_cons (by simpa using h)]; rfl
theorem unzz_eq (z : Nat) (h : z < 9223372036854775808) : bits .xor .i64 ((z : Int) / 2) (-((z % 2 : Nat) : Int)) = unzz z := by
  unfold unzz
  have e : (z : Int) / 2 = ((z / 2 : Nat) : Int) := by omega
  rw [e]
  split
  · rename_i h1; rw [h1]; exact xor_i64_m1 _ (by omega)
  · rename_i h1; rw [show z % 2 = 0 by omega]; exact xor_i64_0 _ (by omega)
set_option maxRecDepth 100000 in
set_option maxHeartbeats 800000 in
theorem int_any (s : ByteArray) (k : Int) (w : World) (hs : s.size ≤ maxLen) (hk1 : -9223372036854775808 ≤ k) (hk2 : k ≤ 9223372036854775807) :
    Calls Try.prog 46 #[.string s, .int .i64 k] w fun e w' => e = .returned (.tuple #[.int .i64 (intAt s.data.toList k).1, .int .i64 (intAt s.data.toList k).2.1, .int .i64 (intAt s.data.toList k).2.2]) ∧ w = w' := by
  unfold maxLen at hs
  by_cases h1 : k < 0
  · go_enter Try.func46, Try.ntmps46
    go_wp2
    go_ret3
    exact ⟨by simp [intAt, h1], rfl⟩
  by_cases h2 : (s.size : Int) < k
  · go_enter Try.func46, Try.ntmps46
    go_wp2
    go_ret3
    exact ⟨by simp [intAt, h2], rfl⟩
  obtain ⟨k, rfl⟩ := Int.eq_ofNat_of_zero_le (by omega : 0 ≤ k)
  have hlen : k ≤ s.data.toList.length := by simp; show k ≤ s.size; omega
  go_enter Try.func46, Try.ntmps46
  go_wp2
  go_loop [7, 19] (fun z i => ∃ j zn : Nat, j ≤ 9 ∧ k + j ≤ s.size ∧ i = .int .i64 j ∧ z = .int .u64 zn ∧ zn < 128 ^ j ∧ dec 9 0 0 (s.data.toList.drop k) = dec (9 - j) j zn (s.data.toList.drop (k + j))) (fun _ i => 9 - (intOf i).toNat)
  case atStart => exact ⟨0, 0, by omega, by omega, rfl, rfl, by omega, rfl⟩
  case round =>
    obtain ⟨j, zn, hj, hkj, rfl, rfl, hz, hd⟩ := hrel
    by_cases hj9 : j < 9
    · by_cases hend : k + j < s.size
      · rw [drop_cons hend, show 9 - j = 9 - (j + 1) + 1 by omega, dec] at hd
        have hb := s[k + j].toNat_lt
        obtain ⟨x, hx⟩ : ∃ x, x = s[k + j].toNat % 128 := ⟨_, rfl⟩
        have hx1 : x < 128 := by omega
        have E0 := and127_u8 s[k + j].toNat hb
        rw [← hx] at E0 hd
        have E1 := shl_u64 j x hx1 (by omega)
        have E2 := or_u64 j zn x hz hx1 (by omega)
        have hz1 : zn + x * 128 ^ j < 128 ^ (j + 1) := by
          rw [Nat.pow_succ]
          have : x * 128 ^ j ≤ 127 * 128 ^ j := Nat.mul_le_mul_right _ (by omega)
          omega
        have hz2 : zn + x * 128 ^ j < 9223372036854775808 := Nat.lt_of_lt_of_le hz1 (Nat.le_trans (Nat.pow_le_pow_right (by omega) (show j + 1 ≤ 9 by omega)) (by decide))
        obtain ⟨y, hy⟩ : ∃ y, y = x * 128 ^ j := ⟨_, rfl⟩
        rw [← hy] at E1 E2 hz1 hz2 hd
        obtain ⟨z, hzz⟩ : ∃ z, z = zn + y := ⟨_, rfl⟩
        rw [← hzz] at E2 hz1 hz2 hd
        have E3 := and1_u64 z (by omega)
        have E4 := unzz_eq z hz2
        obtain ⟨p, hp⟩ : ∃ p, p = z % 2 := ⟨_, rfl⟩
        rw [← hp] at E3 E4
        have hp1 : p ≤ 1 := by omega
        have HZ := Lib.hid hz1
        clear hz1 hz hx hy hzz hp
        by_cases hc : 128 ≤ s[k + j].toNat
        · rw [if_pos hc] at hd
          have HD := Lib.hid hd
          clear hd
          go_wp2
          go_round
          case rel => exact ⟨j + 1, z, by omega, by omega, by go_num, rfl, HZ.out, by rw [HD.out]; rfl⟩
          case measure => simp [intOf]; omega
        · rw [if_neg hc] at hd
          by_cases hb0 : s[k + j].toNat = 0 ∧ 0 < j
          · rw [if_pos hb0] at hd
            have HD := Lib.hid hd
            have t0 : (((s[k + j].toNat : Nat) : Int) == 0) = true := by simp [hb0.1]
            have t1 : 0 < j := hb0.2
            clear hd hb0
            go_wp2
            go_ret3
            exact ⟨ret3 (intAt_none hlen HD.out), rfl⟩
          · rw [if_neg hb0] at hd
            by_cases hu : unzz z < -maxInt
            · rw [if_pos hu] at hd
              have HD := Lib.hid hd
              have hu' : unzz z < -4611686018427387903 := hu
              by_cases h0 : s[k + j].toNat = 0
              · have t0 : (((s[k + j].toNat : Nat) : Int) == 0) = true := by simp [h0]
                have t1 : j ≤ 0 := by omega
                clear hd hb0 h0
                go_wp2
                go_ret3
                exact ⟨ret3 (intAt_none hlen HD.out), rfl⟩
              · have t0 : (((s[k + j].toNat : Nat) : Int) == 0) = false := by simp [h0]
                clear hd hb0 h0
                go_wp2
                go_ret3
                exact ⟨ret3 (intAt_none hlen HD.out), rfl⟩
            · rw [if_neg hu] at hd
              have HD := Lib.hid hd
              have hu' : -4611686018427387903 ≤ unzz z := by unfold maxInt at hu; omega
              by_cases h0 : s[k + j].toNat = 0
              · have t0 : (((s[k + j].toNat : Nat) : Int) == 0) = true := by simp [h0]
                have t1 : j ≤ 0 := by omega
                clear hd hb0 h0 hu
                go_wp2
                go_ret3
                exact ⟨ret3 ((intAt_some hlen HD.out).trans (by simp; omega)), rfl⟩
              · have t0 : (((s[k + j].toNat : Nat) : Int) == 0) = false := by simp [h0]
                clear hd hb0 h0 hu
                go_wp2
                go_ret3
                exact ⟨ret3 ((intAt_some hlen HD.out).trans (by simp; omega)), rfl⟩
      · have hd' : dec 9 0 0 (s.data.toList.drop k) = none := by
          rw [hd, List.drop_eq_nil_of_le (by simp; show s.size ≤ _; omega)]
          rw [show 9 - j = 9 - (j + 1) + 1 by omega]; rfl
        have HD := Lib.hid hd'
        clear hd hd' hz
        go_wp2
        go_ret3
        exact ⟨ret3 (intAt_none hlen HD.out), rfl⟩
    · have hd' : dec 9 0 0 (s.data.toList.drop k) = none := by
        rw [hd, show 9 - j = 0 by omega]; rfl
      have HD := Lib.hid hd'
      clear hd hd' hz
      go_wp2
      go_ret3
      exact ⟨ret3 (intAt_none hlen HD.out), rfl⟩
theorem info5 : (Try.prog.info? 5).map (fun i => (i.zero, i.size, i.bytes)) = some (some (.int .u8 0), 1, 1) := by kernel_rfl

theorem wrapu (n : Nat) (h : n < 18446744073709551616) : IntKind.u64.wrap (n : Int) = n := by rw [IntKind.wrap_u64]; omega

theorem putInt_bad {n : Int} (h : n < -4611686018427387903 ∨ 4611686018427387903 < n) : putInt n = ([], 10) := if_pos h
theorem putInt_ok {n : Int} (h1 : -4611686018427387903 ≤ n) (h2 : n ≤ 4611686018427387903) : putInt n = (enc n, 0) := if_neg (by unfold maxInt; omega)

def putV (n : Int) : Value := .tuple #[.string ⟨(putInt n).1.toArray⟩, .int .i64 (putInt n).2]

theorem leb_last (f z : Nat) (h : z < 128) : leb (f + 1) z = [UInt8.ofNat z] := by rw [leb, if_pos h]
theorem leb_more (f z : Nat) (h : ¬ z < 128) : leb (f + 1) z = UInt8.ofNat (z % 128 + 128) :: leb f (z / 128) := by rw [leb, if_neg h]


section
attribute [local go_sem] Oper.semAt_some
theorem groups_any (z : Nat) (w : World) :
    Calls Try.prog 51 #[.int .u64 z] w fun e w' => e = .returned (.func (.func 52) #[] #[.pointer (some ⟨w.heap.size, 0, none⟩)]) ∧ w.alloc (.cells #[.int .u64 z] 89) = w' := by
  go_enter Try.func51, Try.ntmps51
  go_wp2
  go_ret
  exact ⟨rfl, rfl⟩

def encG (g : Nat × Bool) : Array Value := #[.int .u8 (g.1 : Int), .bool g.2]

set_option maxHeartbeats 800000 in
theorem groups_iter (z B : Nat) (W : World) (hz : z < 128 ^ 9) (hB : Boxed W B 89 (.int .u64 z)) :
    Iter Try.prog 52 #[.pointer (some ⟨B, 0, none⟩)] encG (grp 9 z) (· = B) (· = B) W := by
  intro l J Jx hJ hJx hY h0
  refine (callsIn_wide (n := 0)).1 (callsIn_of_wp Try.func52 rfl trivial ?_)
  simp only [Try.ntmps52, List.size_toArray, List.length_cons, List.length_nil, Nat.reduceAdd, Nat.reduceSub, Array.replicate_succ, Array.replicate_zero, List.push_toArray, List.append_toArray, List.nil_append, List.cons_append]
  gi_wp2
  gi_loopw [3] (fun _ wr => ∃ (pre : List (Nat × Bool)) (zn f : Nat), grp 9 z = pre ++ grp (f + 1) zn ∧ zn < 128 ^ (f + 1) ∧ f ≤ 8 ∧ Boxed wr B 89 (.int .u64 zn) ∧ J pre wr)
    (fun _ wr => match wr.cell? ⟨B, 0, none⟩ with | some v => (intOf v).toNat | none => 0)
  case atStart => exact ⟨[], z, 8, rfl, hz, Nat.le_refl _, hB, h0⟩
  case round =>
    obtain ⟨pre, zn, f, hg, hzn, hf, hbox, hJp⟩ := hrel
    have hb63 : zn < 9223372036854775808 := Nat.lt_of_lt_of_le hzn (Nat.le_trans (Nat.pow_le_pow_right (by omega) (show f + 1 ≤ 9 by omega)) (by decide))
    have hcell := hbox.cell
    have hfr := hbox.frozen
    have E0 := and127_u64 zn (by omega)
    by_cases hlt : zn < 128
    · rw [Nat.mod_eq_of_lt hlt] at E0
      have hgl : grp (f + 1) zn = [(zn, true)] := by rw [grp, if_pos hlt]
      rw [hgl] at hg
      obtain ⟨fn, tmps, assign, body, hy, hR⟩ := hY pre (zn, true) [] wr hg hJp
      have HG := Lib.hid hg
      have hdec : decide ((zn : Int) < 128) = true := by simp; omega
      clear hg hgl hzn hB
      dsimp only [encG] at hy
      gi_wp2
      refine hR.mono ?_
      rintro e W3 (⟨rfl, hJ3, hs3, hk3⟩ | ⟨rfl, hJx3⟩)
      · gi_wp2
        refine bodyPost_ret (results_none rfl _ _ _) rfl ?_
        exact ⟨⟨_, rfl⟩, .inl (by rw [HG.out]; exact hJ3)⟩
      · gi_wp2
        refine bodyPost_ret (results_none rfl _ _ _) rfl ?_
        exact ⟨⟨_, rfl⟩, .inr ⟨pre, (zn, true), [], HG.out, hJx3⟩⟩
    · obtain ⟨f, rfl⟩ : ∃ f', f = f' + 1 := by
        rcases f with _ | f
        · exact absurd (by simpa using hzn) hlt
        · exact ⟨f, rfl⟩
      have hgl : grp (f + 1 + 1) zn = (zn % 128, false) :: grp (f + 1) (zn / 128) := by rw [grp, if_neg hlt]
      rw [hgl] at hg
      obtain ⟨x, hx⟩ : ∃ x, x = zn % 128 := ⟨_, rfl⟩
      rw [← hx] at hg E0
      have hx1 : x < 128 := by omega
      obtain ⟨fn, tmps, assign, body, hy, hR⟩ := hY pre (x, false) _ wr hg hJp
      have hz' : zn / 128 < 128 ^ (f + 1) := by rw [Nat.pow_succ] at hzn; omega
      have HG := Lib.hid hg
      have HZ := Lib.hid hz'
      have hdec : decide ((zn : Int) < 128) = false := by simp; omega
      clear hg hgl hzn hB hx hz'
      dsimp only [encG] at hy
      gi_wp2
      refine hR.mono ?_
      rintro e W3 (⟨rfl, hJ3, hs3, hk3⟩ | ⟨rfl, hJx3⟩)
      · have hbox3 : Boxed W3 B 89 (.int .u64 zn) := (hk3 B rfl).trans hbox
        have hcell3 := hbox3.cell
        have hfr3 := hbox3.frozen
        gi_wp2
        go_roundw
        case rel => exact ⟨pre ++ [(x, false)], zn / 128, f, by rw [HG.out]; simp, HZ.out, by omega, hbox3.set _, hJ _ _ _ hJ3 (Ext.setCell _ _ _ _ rfl)⟩
        case measure => rw [(hbox3.set _).cell]; simp [intOf, hcell]; omega
      · gi_wp2
        refine bodyPost_ret (results_none rfl _ _ _) rfl ?_
        exact ⟨⟨_, rfl⟩, .inr ⟨pre, (x, false), _, HG.out, hJx3⟩⟩

theorem putInt_xor (n : Int) (h1 : -4611686018427387903 ≤ n) (h2 : n ≤ 4611686018427387903) (hn : n < 0) :
    bits .xor .u64 (IntKind.u64.wrap (IntKind.u64.wrap n * 2)) 18446744073709551615 = (zz n : Int) := by
  have e : IntKind.u64.wrap (IntKind.u64.wrap n * 2) = (((2 * n) % 18446744073709551616).toNat : Int) := by
    rw [IntKind.wrap_u64, IntKind.wrap_u64]; omega
  rw [e, xor_u64_m _ (by omega)]
  unfold zz; rw [if_pos hn]; omega
set_option maxRecDepth 100000 in
set_option maxHeartbeats 800000 in
theorem putInt_any (n : Int) (w : World) (hl : -9223372036854775808 ≤ n) (hu : n ≤ 9223372036854775807) :
    Calls Try.prog 50 #[.int .i64 n] w fun e w' => e = .returned (putV n) ∧ Below w.heap.size w w' := by
  refine (callsIn_wide (n := 0)).1 (callsIn_of_wp_marks Try.func50 rfl trivial ?_)
  simp only [Try.ntmps50, List.size_toArray, List.length_cons, List.length_nil, Nat.reduceAdd, Nat.reduceSub, Array.replicate_succ, Array.replicate_zero, List.push_toArray, List.append_toArray, List.nil_append, List.cons_append]
  by_cases h1 : n < -4611686018427387903
  · have HP := Lib.hid (putInt_bad (.inl h1))
    gi_wp2
    refine ⟨_, results_tmp2 rfl _ _ _, by rw [putV, HP.out]; rfl, Below.refl _ _⟩
  by_cases h2 : 4611686018427387903 < n
  · have HP := Lib.hid (putInt_bad (.inr h2))
    gi_wp2
    refine ⟨_, results_tmp2 rfl _ _ _, by rw [putV, HP.out]; rfl, Below.refl _ _⟩
  have HP := Lib.hid (putInt_ok (n := n) (by omega) (by omega))
  obtain ⟨i0, hi, hz0, hz1, hz2⟩ := info_parts info5
  have hzl := zz_lt n (by unfold maxInt; omega) (by unfold maxInt; omega)
  have HZ := Lib.hid hzl
  clear hzl
  have ex : bits .xor .u64 (IntKind.u64.wrap (IntKind.u64.wrap n * 2)) (IntKind.u64.wrap (n / 9223372036854775808)) = (zz n : Int) := by
    by_cases hn : n < 0
    · rw [show IntKind.u64.wrap (n / 9223372036854775808) = 18446744073709551615 by rw [IntKind.wrap_u64]; omega]
      exact putInt_xor n (by omega) (by omega) hn
    · rw [show IntKind.u64.wrap (n / 9223372036854775808) = 0 by rw [IntKind.wrap_u64]; omega,
        show IntKind.u64.wrap (IntKind.u64.wrap n * 2) = ((zz n : Nat) : Int) by rw [IntKind.wrap_u64, IntKind.wrap_u64]; unfold zz; rw [if_neg hn]; omega]
      exact xor_u64_0 _ (by have := HZ.out; omega)
  have EX := Lib.hid ex
  clear ex
  gi_wp2_with fail
  rw [EX.out]
  refine ((callsIn_wide (n := 0)).2 (groups_any (zz n) _)).mono ?_
  rintro e w' ⟨rfl, rfl⟩
  gi_wp2
  obtain ⟨w0, hw0⟩ : ∃ w0, (w.alloc (.cells #[.slice none 0 0] 91)).alloc (.cells #[.int .u64 (zz n)] 89) = w0 := ⟨_, rfl⟩
  have hbo : Boxed w0 w.heap.size 91 (.slice none 0 0) := by rw [← hw0]; exact (Boxed.new w _ _).alloc _
  have hbz : Boxed w0 (w.heap.size + 1) 89 (.int .u64 (zz n)) := by
    rw [← hw0]; have := Boxed.new (w.alloc (.cells #[.slice none 0 0] 91)) 89 (.int .u64 (zz n)); rwa [World.size_alloc] at this
  have hsz : w0.heap.size = w.heap.size + 2 := by rw [← hw0]; simp
  have hbel0 : Below w.heap.size w w0 := by rw [← hw0]; exact ((Below.refl _ w).alloc (Nat.le_refl _) _).alloc (by simp) _
  have HW := Lib.hid hw0
  rw [hw0]
  clear hw0
  have hI : ∀ (pre : List (Nat × Bool)) (X Y : World), (∃ v, Boxed X w.heap.size 91 v ∧ X.ownsRow (w.heap.size + 2) 5 1 v pre.length (u8s (pre.map Go.Dial.Wire.byteOf)) ∧ Below w.heap.size w X) → Ext (sideOf (· = w.heap.size + 1) w0.heap.size X) X Y →
      (∃ v, Boxed Y w.heap.size 91 v ∧ Y.ownsRow (w.heap.size + 2) 5 1 v pre.length (u8s (pre.map Go.Dial.Wire.byteOf)) ∧ Below w.heap.size w Y) := by
    rintro pre X Y ⟨v, h1, h2, h3⟩ hx
    exact ⟨v, boxed_side h1 hx (by omega), own_side h2 hx (by intro k hk; omega), below_side h3 hx (by rintro k rfl; omega) (by omega) (Nat.le_refl _)⟩
  refine wpIn_rangeIt (gf := 52) (lb := #[.pointer (some ⟨w.heap.size + 1, 0, none⟩)]) rfl (enters_of Try.func52 (by kernel_rfl) rfl) (encs := encG) (xs := grp 9 (zz n)) (mine := (· = w.heap.size + 1)) (needs := (· = w.heap.size + 1))
    (by rintro k rfl; omega) (by rintro k rfl; omega)
    (fun W1 hb => groups_iter (zz n) _ W1 HZ.out ((hb.block _ (by omega)).trans hbz)) (fun _ => rfl)
    (fun pre W => ∃ v, Boxed W w.heap.size 91 v ∧ W.ownsRow (w.heap.size + 2) 5 1 v pre.length (u8s (pre.map Go.Dial.Wire.byteOf)) ∧ Below w.heap.size w W)
    (fun _ _ _ => False)
    hI (fun _ _ _ _ h _ => h) ⟨_, hbo, World.ownsRow_nil _ _ _ _, hbel0⟩ ?round ?done (fun _ _ _ _ _ _ _ h => h.elim)
  case round =>
    rintro l pre ⟨g, last⟩ post W hxs hi0 hlt
    dsimp only [encG]
    gi_wp2
    refine ⟨KeepsFrom.refl _ _, by simp, fun W₂ hx => ?_⟩
    obtain ⟨v, h1, h2, h3⟩ := hI _ _ _ hi0 hx
    have hsz3 : w.heap.size + 2 < W₂.heap.size := by have := hx.size; omega
    clear hI hi0 hx
    have hc := h1.cell
    have hf := h1.frozen
    have hlen : pre.length ≤ 9 := by
      have h9 := congrArg List.length hxs
      have := leb_length 9 (zz n)
      rw [← leb_grp] at this
      simp at this h9
      omega
    have hg := grp_lt 9 (zz n) (g, last) (by rw [hxs]; simp)
    dsimp only at hg
    have hsz2 := h3.size
    have E := or128_u8 g hg
    cases last
    · have ee : u8s (pre.map Go.Dial.Wire.byteOf) ++ [.int .u8 ((g + 128 : Nat) : Int)] = u8s ((pre ++ [(g, false)]).map Go.Dial.Wire.byteOf) := by simp [u8s, Go.Dial.Wire.byteOf]
      gi_wp2_with (gi_at_builtin; refine wpListIn_append_own _ rfl _ _ 91 rfl (w.heap.size + 2) 5 i0 (.int .u8 0) 1 1 Try.underlying91 hi hz0 hz1 hz2 rfl (by decide) _ _ _ rfl (h2.alloc _) ⟨W₂.heap.size, 0, none⟩ 1 1 [.int .u8 _] rfl rfl (cell_one_new _ _ _) (by simp [Value.oneCell']) (by unfold maxLen; omega) (by omega) (by have := h1.lt; simp; omega) ?_; intro v' w1 hown' hgrow hnil; clear hnil; obtain ⟨hv1, hv2, hr2, hk2, hx2⟩ := box_append h1 (by decide) h2 hown' hgrow; obtain ⟨g', cap', rfl⟩ := ownsRow_succ hown'; have hc1 := hv1.cell; have hf1 := hv1.frozen)
      refine ⟨hk2.from _, ?_, _, hv2, ?_, ?_⟩
      · rintro k rfl; exact hx2.block _ (by omega) (by omega)
      · rw [← ee]; simpa using hr2
      · exact h3.trans (hx2.below (by omega) (by omega))
    · have ee : u8s (pre.map Go.Dial.Wire.byteOf) ++ [.int .u8 (g : Int)] = u8s ((pre ++ [(g, true)]).map Go.Dial.Wire.byteOf) := by simp [u8s, Go.Dial.Wire.byteOf]
      gi_wp2_with (gi_at_builtin; refine wpListIn_append_own _ rfl _ _ 91 rfl (w.heap.size + 2) 5 i0 (.int .u8 0) 1 1 Try.underlying91 hi hz0 hz1 hz2 rfl (by decide) _ _ _ rfl (h2.alloc _) ⟨W₂.heap.size, 0, none⟩ 1 1 [.int .u8 _] rfl rfl (cell_one_new _ _ _) (by simp [Value.oneCell']) (by unfold maxLen; omega) (by omega) (by have := h1.lt; simp; omega) ?_; intro v' w1 hown' hgrow hnil; clear hnil; obtain ⟨hv1, hv2, hr2, hk2, hx2⟩ := box_append h1 (by decide) h2 hown' hgrow; obtain ⟨g', cap', rfl⟩ := ownsRow_succ hown'; have hc1 := hv1.cell; have hf1 := hv1.frozen)
      refine ⟨hk2.from _, ?_, _, hv2, ?_, ?_⟩
      · rintro k rfl; exact hx2.block _ (by omega) (by omega)
      · rw [← ee]; simpa using hr2
      · exact h3.trans (hx2.below (by omega) (by omega))
  case done =>
    rintro D W ⟨v, h1, h2, h3⟩ hD hK
    have hc := h1.cell
    have hf := h1.frozen
    have kc := run_convert_own (P := Try.prog) 91 9 Try.underlying91 Try.underlying5 Try.underlying9 h2
    gi_wp2
    refine ⟨by simp, .inl ⟨_, _, rfl, run_takeDeferred hK, ?_⟩⟩
    refine ⟨_, results_tmp2 rfl _ _ _, ?_, ?_⟩
    · rw [putV, HP.out]; rw [enc, ← leb_grp]; rfl
    · exact h3.trans ((Ext.putObj (fun k => w0.heap.size ≤ k) _ _ _ hD).below (by intros; omega) (by have := h3.size; omega))
end
end Go.Proofs.Ytjhakonpnopcnaa
