/-
  The contract of the law WireSequence: it returns true.
-/
import Derived.Test.YtoiikkfhbpeemaaDoorLaw7
import Derived.Test.YtoiikkfhbpeemaaDoorLaw3
import Derived.Deep.RegionWith
import Derived.Deep.RegionHeld3
namespace Go.Proofs.YtoiikkfhbpeemaaDoor
open Go Go.RowKit Go.Shelf Go.Dial Go.Dial.Wire

def ints (l : List Int) : List Value := l.map fun n => .int .i64 n
def strs4 (l : List ByteArray) : List Value := l.map fun s => .string s
/-- at most 100 bytes of a string -/
def cut100 (s : ByteArray) : ByteArray := if s.size ≤ 100 then s else s.extract 0 100
theorem bapp3 (a b c : List UInt8) : ((⟨a.toArray⟩ : ByteArray) ++ ⟨b.toArray⟩ ++ ⟨c.toArray⟩) = ⟨(a ++ (b ++ c)).toArray⟩ := by
  rw [bapp, bapp]; simp
theorem cut100_size (s : ByteArray) : (cut100 s).size ≤ 100 := by
  unfold cut100; split
  · assumption
  · simp; omega
def piece (l : List Int) (ys : List ByteArray) (j : Nat) : List UInt8 :=
  enc (numF (l.getD j 0)) ++ (enc (cut100 (ys.getD j ByteArray.empty)).size ++ (cut100 (ys.getD j ByteArray.empty)).data.toList)
def acc (l : List Int) (ys : List ByteArray) (i : Nat) : List UInt8 := (List.range i).flatMap (piece l ys)
theorem acc_succ (l : List Int) (ys : List ByteArray) (i : Nat) : acc l ys (i + 1) = acc l ys i ++ piece l ys i := by simp [acc, List.range_succ]
theorem piece_len (l : List Int) (ys : List ByteArray) (j : Nat) : (piece l ys j).length ≤ 118 := by
  have h1 := enc_length (numF (l.getD j 0))
  have h2 := enc_length (cut100 (ys.getD j ByteArray.empty)).size
  have h3 := cut100_size (ys.getD j ByteArray.empty)
  simp [piece] at h1 h2 h3 ⊢; omega
theorem acc_len (l : List Int) (ys : List ByteArray) (i : Nat) : (acc l ys i).length ≤ 118 * i := by
  induction i with
  | zero => simp [acc]
  | succ i ih => rw [acc_succ]; have := piece_len l ys i; simp; omega
theorem acc_split (l : List Int) (ys : List ByteArray) (i n : Nat) (h : i < n) : ∃ q, acc l ys n = acc l ys i ++ piece l ys i ++ q := by
  obtain ⟨d, rfl⟩ : ∃ d, n = i + 1 + d := ⟨n - (i + 1), by omega⟩
  induction d with
  | zero => exact ⟨[], by rw [Nat.add_zero, acc_succ]; simp⟩
  | succ d ih =>
    obtain ⟨q, hq⟩ := ih (by omega)
    exact ⟨q ++ piece l ys (i + 1 + d), by rw [show i + 1 + (d + 1) = (i + 1 + d) + 1 by omega, acc_succ, hq]; simp⟩

theorem acc_int (l : List Int) (ys : List ByteArray) (i n : Nat) (h : i < n) (hb : -4611686018427387903 ≤ numF (l.getD i 0) ∧ numF (l.getD i 0) ≤ 4611686018427387903) :
    intV (acc l ys n) (acc l ys i).length = .tuple #[.int .i64 (numF (l.getD i 0)), .int .i64 ((acc l ys i).length + (enc (numF (l.getD i 0))).length : Nat), .int .i64 0] ∧
    strV (acc l ys n) ((acc l ys i).length + (enc (numF (l.getD i 0))).length : Nat) = .tuple #[.string (cut100 (ys.getD i ByteArray.empty)), .int .i64 (acc l ys (i + 1)).length, .int .i64 0] := by
  obtain ⟨q, hq⟩ := acc_split l ys i n h
  have hz := cut100_size (ys.getD i ByteArray.empty)
  obtain ⟨m, hm⟩ : ∃ m, m = numF (l.getD i 0) := ⟨_, rfl⟩
  obtain ⟨z, hz2⟩ : ∃ z, z = cut100 (ys.getD i ByteArray.empty) := ⟨_, rfl⟩
  have hp : piece l ys i = enc m ++ (enc z.size ++ z.data.toList) := by rw [hm, hz2]; rfl
  rw [acc_succ, hp]
  rw [hp] at hq
  rw [← hm] at hb ⊢
  rw [← hz2] at hz ⊢
  have hzl : z.data.toList.length = z.size := by simp
  constructor
  · have := intAt_embed (acc l ys i) ((enc z.size ++ z.data.toList) ++ q) m hb.1 hb.2
    rw [hq, show acc l ys i ++ (enc m ++ (enc z.size ++ z.data.toList)) ++ q = acc l ys i ++ enc m ++ ((enc z.size ++ z.data.toList) ++ q) by simp]
    exact intV_eq (by rw [this]; simp)
  · have := strAt_embed (acc l ys i ++ enc m) q z.data.toList (by omega)
    rw [hzl] at this
    rw [hq, show acc l ys i ++ (enc m ++ (enc z.size ++ z.data.toList)) ++ q = (acc l ys i ++ enc m) ++ (enc z.size ++ z.data.toList) ++ q by simp]
    rw [show ((acc l ys i).length + (enc m).length : Nat) = (acc l ys i ++ enc m).length by simp]
    rw [strV, this]
    simp
    omega

@[go_sem high] theorem run_min100 {P : Program} {w : World} (ts : Array TypeId) (t : TypeId) (k k' : IntKind) (x : Int) (h : x ≤ 100) :
    (Builtin.min_ ts t #[.int k x, .int k' 100]).run P w = .ok (.int k x) w := by
  simp [Builtin.min_, Builtin.min2]
  omega
theorem held2 {w w1 w5 : World} {a c : Addr} {u v : Value} {i j : Nat} (h5 : Below w1.heap.size w1 w5) (hab : a.block < w.heap.size) (hcb : c.block < w.heap.size)
    (h : Below w.heap.size w w1) (ha : w1.cell? (a.add i) = some u) (hc : w1.cell? (c.add j) = some v) :
    Below w.heap.size w w5 ∧ w5.cell? (a.add i) = some u ∧ w5.cell? (c.add j) = some v :=
  ⟨h.trans (h5.mono h.size), (h5.cell (by rw [add_block]; exact Nat.lt_of_lt_of_le hab h.size)).trans ha, (h5.cell (by rw [add_block]; exact Nat.lt_of_lt_of_le hcb h.size)).trans hc⟩

set_option maxRecDepth 100000 in
set_option maxHeartbeats 6400000 in
theorem law4_any (A0 A1 : Option Addr) (c0 c1 : Nat) (l : List Int) (ys : List ByteArray) (w : World) (ht : Table w) (hl : l.length ≤ maxLen) (hy : ys.length ≤ maxLen)
    (h0 : Span w w.heap.size 1 A0 l.length (ints l)) (h1 : Span w w.heap.size 1 A1 ys.length (strs4 ys)) (hb0 : ∀ n ∈ l, -9223372036854775808 ≤ n ∧ n ≤ 9223372036854775807) (hb1 : ∀ s ∈ ys, s.size ≤ maxLen) :
    Calls Tryd.prog 6 #[.slice A0 l.length c0, .slice A1 ys.length c1] w fun e w' => e = .returned (.bool true) ∧ Below w.heap.size w w' := by
  have hpos := ht.pos
  have HT := Lib.hid ht
  have H0 := Lib.hid h0
  have H1 := Lib.hid h1
  have HB0 := Lib.hid hb0
  have HB1 := Lib.hid hb1
  clear ht h0 h1 hb0 hb1
  unfold maxLen at hl hy
  go_enter Tryd.func6, Tryd.ntmps6
  go_upto_region 2 with (go_at_call 10; refine (sane_any _ HT.out).mono ?_; rintro e w1 ⟨rfl, hbw⟩)
  go_cut [6] (fun v wx => ∃ n : Nat, v = .int .i64 n ∧ n ≤ l.length ∧ n ≤ ys.length ∧ n ≤ 20 ∧ Below w.heap.size w wx)
  case first =>
    go_wp2_with fail
    all_goals go_meet
    · exact ⟨20, rfl, by omega, by omega, by omega, hbw⟩
    · exact ⟨ys.length, rfl, by omega, by omega, by omega, hbw⟩
    · exact ⟨l.length, rfl, by omega, by omega, by omega, hbw⟩
  case rest =>
    obtain ⟨n, rfl, hn0, hn1, hn2, hb⟩ := hcut
    clear hbw
    go_wp2_with fail
    go_loopw [7, 8] (fun s i wr => ∃ j : Nat, j ≤ n ∧ i = .int .i64 j ∧ s = .string ⟨(acc l ys j).toArray⟩ ∧ Below w.heap.size w wr) (fun _ i _ => n - (intOf i).toNat)
    case atStart => exact ⟨0, by omega, rfl, rfl, hb⟩
    case round =>
      obtain ⟨j, hj, rfl, rfl, hbr⟩ := hrel
      by_cases hjn : j < n
      · have hlj : j < l.length := by omega
        have hyj : j < ys.length := by omega
        obtain ⟨a0, rfl, hab0, hc0⟩ := H0.out.2 j (.int .i64 l[j]) (by simp [ints, hlj])
        obtain ⟨a1, rfl, hab1, hc1⟩ := H1.out.2 j (.string ys[j]) (by simp [strs4, hyj])
        have hd0 := (hbr.cell (p := a0.add j) (by rw [add_block]; exact hab0)).trans hc0
        have hd1 := (hbr.cell (p := a1.add j) (by rw [add_block]; exact hab1)).trans hc1
        clear hc0 hc1
        go_wp2_with fail
        have hlb := HB0.out l[j] (List.getElem_mem _)
        have hyb := HB1.out ys[j] (List.getElem_mem _)
        unfold maxLen at hyb
        have hg0 : l.getD j 0 = l[j] := by simp [List.getD_eq_getElem?_getD, hlj]
        have hg1 : ys.getD j ByteArray.empty = ys[j] := by simp [List.getD_eq_getElem?_getD, hyj]
        have hacc := acc_succ l ys j
        unfold piece at hacc
        rw [hg0, hg1] at hacc
        have hal := acc_len l ys j
        obtain ⟨x, hx⟩ : ∃ x, x = l[j] := ⟨_, rfl⟩
        obtain ⟨y, hy2⟩ : ∃ y, y = ys[j] := ⟨_, rfl⟩
        rw [← hx] at hlb hacc hd0 ⊢
        rw [← hy2] at hyb hacc hd1
        have hmb := numF_bd x
        have hme := enc_length (numF x)
        obtain ⟨m, hm⟩ : ∃ m, m = numF x := ⟨_, rfl⟩
        rw [← hm] at hmb hacc hme
        have hcs := cut100_size y
        obtain ⟨z, hz⟩ : ∃ z, z = cut100 y := ⟨_, rfl⟩
        rw [← hz] at hacc hcs
        have hze := enc_length z.size
        have HACC := Lib.hid hacc
        have HM := Lib.hid hm.symm
        have HZ := Lib.hid hz
        have HP := Lib.hid (putV_ok hmb.1 hmb.2)
        clear hacc hm hz hx hy2 hg0 hg1
        refine (number_any x _ hlb.1 hlb.2).mono ?_
        rintro e w2 ⟨rfl, hb2⟩
        rw [HM.out]
        have hd1b := (hb2.cell (p := a1.add j) (by rw [add_block]; exact Nat.lt_of_lt_of_le hab1 hbr.size)).trans hd1
        clear hd0 hd1
        go_wp2_with fail
        refine (putInt_any m _ (by omega) (by omega)).mono ?_
        rintro e w3 ⟨rfl, hb3⟩
        rw [HP.out]
        have hd1c := (hb3.cell (p := a1.add j) (by rw [add_block]; exact Nat.lt_of_lt_of_le hab1 (Nat.le_trans hbr.size hb2.size))).trans hd1b
        have hbr3 := (hbr.trans (hb2.mono hbr.size)).trans (hb3.mono (Nat.le_trans hbr.size hb2.size))
        clear hd1b hbr hb2 hb3
        go_upto_region 8 with (fail)
        go_cut [11, 12] (fun v e wx => v = .string ⟨(enc z.size ++ z.data.toList).toArray⟩ ∧ e = .int .i64 0 ∧ Below w.heap.size w wx)
        case first =>
          by_cases h100 : y.size ≤ 100
          · have hzy : z = y := by rw [HZ.out, cut100, if_pos h100]
            subst hzy
            go_region_with (go_at_call 19; refine (putString_any z _ (by unfold maxLen; omega)).mono ?_; rintro e w4 ⟨rfl, hb4⟩; rw [putSV_ok' z (by omega)])
            all_goals go_wp2_with fail
            all_goals go_meet
            all_goals exact ⟨rfl, rfl, hbr3.drew.trans (hb4.mono hbr3.size)⟩
          · have hzy : y.extract 0 100 = z := by rw [HZ.out, cut100, if_neg h100]
            go_region_with (go_at_call 19; refine (putString_any z _ (by unfold maxLen; omega)).mono ?_; rintro e w4 ⟨rfl, hb4⟩; rw [putSV_ok' z (by omega)])
            all_goals go_wp2_with fail
            all_goals go_meet
            all_goals exact ⟨rfl, rfl, hbr3.drew.trans (hb4.mono hbr3.size)⟩
        case rest =>
          obtain ⟨rfl, rfl, hb4⟩ := hcut
          clear hbr3 hd1c
          go_wp2_with fail
          go_roundw
          case rel =>
            refine ⟨j + 1, by omega, by go_num, ?_, hb4⟩
            rw [HACC.out, bapp3]
          case measure => simp [intOf]; omega
      · have hjn' : j = n := by omega
        subst hjn'
        obtain ⟨wo, rfl⟩ : ∃ wo : World, wo = wr := ⟨_, rfl⟩
        have hbo := hbr
        have hal := acc_len l ys j
        obtain ⟨S, hS⟩ : ∃ S : ByteArray, S = ⟨(acc l ys j).toArray⟩ := ⟨_, rfl⟩
        have hSs : S.size = (acc l ys j).length := by rw [hS]; rfl
        have HSS := Lib.hid hSs
        have hSm : S.size ≤ maxLen := by unfold maxLen; rw [hSs]; omega
        have hSl : S.size ≤ 2360 := by rw [hSs]; omega
        have HSM := Lib.hid hSm
        have HS := Lib.hid (show acc l ys j = S.data.toList by rw [hS])
        clear hbr hSs hSm hal
        rw [← hS]
        clear hS
        go_wp2_with fail
        go_loopw [13, 14] (fun a i wr => ∃ (m p : Nat), m ≤ j ∧ i = .int .i64 m ∧ a = .int .i64 p ∧ p = (acc l ys m).length ∧ p ≤ S.size ∧ Below w.heap.size w wr) (fun _ i _ => j - (intOf i).toNat)
        case atStart => exact ⟨0, 0, by omega, rfl, rfl, by simp [acc], by omega, hbo⟩
        case round =>
          obtain ⟨i, p, hi, rfl, rfl, hp, hpS, hbr⟩ := hrel
          by_cases hij : i < j
          · have hli : i < l.length := by omega
            have hyi : i < ys.length := by omega
            obtain ⟨a0, rfl, hab0, hc0⟩ := H0.out.2 i (.int .i64 l[i]) (by simp [ints, hli])
            obtain ⟨a1, rfl, hab1, hc1⟩ := H1.out.2 i (.string ys[i]) (by simp [strs4, hyi])
            have hd0 := (hbr.cell (p := a0.add i) (by rw [add_block]; exact hab0)).trans hc0
            have hd1 := (hbr.cell (p := a1.add i) (by rw [add_block]; exact hab1)).trans hc1
            have hlb := HB0.out l[i] (List.getElem_mem _)
            have hyb := HB1.out ys[i] (List.getElem_mem _)
            unfold maxLen at hyb
            have hg0 : l.getD i 0 = l[i] := by simp [List.getD_eq_getElem?_getD, hli]
            have hg1 : ys.getD i ByteArray.empty = ys[i] := by simp [List.getD_eq_getElem?_getD, hyi]
            obtain ⟨hi1, hi2⟩ := acc_int l ys i j hij (numF_bd _)
            have hle : (acc l ys (i + 1)).length ≤ S.size := by
              rw [HSS.out]
              obtain ⟨q, hq⟩ := acc_split l ys i j hij
              rw [hq, ← acc_succ]; simp
            rw [HS.out, ← hp] at hi1
            rw [HS.out, ← hp] at hi2
            rw [hg0] at hi1
            rw [hg0, hg1] at hi2
            obtain ⟨x, hx⟩ : ∃ x, x = l[i] := ⟨_, rfl⟩
            obtain ⟨y, hy2⟩ : ∃ y, y = ys[i] := ⟨_, rfl⟩
            rw [← hx] at hlb hi1 hi2 hd0
            rw [← hy2] at hyb hi2 hd1
            obtain ⟨m, hm⟩ : ∃ m, m = numF x := ⟨_, rfl⟩
            rw [← hm] at hi1 hi2
            obtain ⟨z, hz⟩ : ∃ z, z = cut100 y := ⟨_, rfl⟩
            rw [← hz] at hi2
            obtain ⟨r1, hr1⟩ : ∃ r, r = p + (enc m).length := ⟨_, rfl⟩
            obtain ⟨r2, hr2⟩ : ∃ r, r = (acc l ys (i + 1)).length := ⟨_, rfl⟩
            rw [← hr1] at hi1 hi2
            rw [← hr2] at hi2 hle
            have hr1b : r1 ≤ p + 9 := by rw [hr1]; have := enc_length m; omega
            have HI1 := Lib.hid hi1
            have HI2 := Lib.hid hi2
            have HM := Lib.hid hm.symm
            have HZ := Lib.hid hz
            have HR2 := Lib.hid hr2
            clear hi1 hi2 hm hz hx hy2 hg0 hg1 hc0 hc1 hr1 hr2 hp
            by_cases h100 : y.size ≤ 100
            · have hzy : z = y := by rw [HZ.out, cut100, if_pos h100]
              subst hzy
              go_wp2_with fail
              refine (int_any2 S p _ HSM.out (by omega) (by omega)).mono ?_
              rintro e w5 ⟨rfl, rfl⟩
              rw [HI1.out]
              go_wp2_with fail
              refine (string_any S r1 _ HSM.out (by omega) (by omega)).mono ?_
              rintro e w5 ⟨rfl, rfl⟩
              rw [HI2.out]
              go_wp2_with fail
              have hmin : (z.size : Int) ≤ 100 := by omega
              have hext : z.extract 0 z.size = z := by simp
              go_region_held3 (fun wx => Below w.heap.size w wx ∧ wx.cell? (a0.add i) = some (.int .i64 x) ∧ wx.cell? (a1.add i) = some (.string z))
                (first
                  | exact ⟨hbr.drew, hd0, hd1⟩
                  | exact held2 (by assumption) hab0 hab1 (by first | assumption | exact hbr.drew) (by first | assumption | exact hd0) (by first | assumption | exact hd1))
                ((go_at_call 11; refine (number_any x _ hlb.1 hlb.2).mono ?_; rintro e w5 ⟨rfl, hb5⟩; rw [HM.out]))
              rename_i hHeld
              have hbf := hHeld.1
              clear hHeld hb5 hmin
              go_wp2_with fail
              go_roundw
              case rel => exact ⟨i + 1, r2, by omega, by go_num, rfl, HR2.out, by omega, hbf⟩
              case measure => simp [intOf]; omega
            · have hzy : y.extract 0 100 = z := by rw [HZ.out, cut100, if_neg h100]
              go_wp2_with fail
              refine (int_any2 S p _ HSM.out (by omega) (by omega)).mono ?_
              rintro e w5 ⟨rfl, rfl⟩
              rw [HI1.out]
              go_wp2_with fail
              refine (string_any S r1 _ HSM.out (by omega) (by omega)).mono ?_
              rintro e w5 ⟨rfl, rfl⟩
              rw [HI2.out]
              go_wp2_with fail
              have hmin : (100 : Int) < (y.size : Int) := by omega
              have hz1 : (100 : Int) ≤ (y.size : Int) := by omega
              go_region_held3 (fun wx => Below w.heap.size w wx ∧ wx.cell? (a0.add i) = some (.int .i64 x) ∧ wx.cell? (a1.add i) = some (.string y))
                (first
                  | exact ⟨hbr.drew, hd0, hd1⟩
                  | exact held2 (by assumption) hab0 hab1 (by first | assumption | exact hbr.drew) (by first | assumption | exact hd0) (by first | assumption | exact hd1))
                ((go_at_call 11; refine (number_any x _ hlb.1 hlb.2).mono ?_; rintro e w5 ⟨rfl, hb5⟩; rw [HM.out]))
              rename_i hHeld
              have hbf := hHeld.1
              clear hHeld hb5 hmin
              go_wp2_with fail
              go_roundw
              case rel => exact ⟨i + 1, r2, by omega, by go_num, rfl, HR2.out, by omega, hbf⟩
              case measure => simp [intOf]; omega
          · have hij' : i = j := by omega
            have hp' : p = S.size := by rw [hp, hij', HSS.out]
            have HV : Hid (intV S.data.toList p = .tuple #[.int .i64 0, .int .i64 0, .int .i64 10]) := Lib.hid (intV_none (by simp; omega) (by rw [hp', List.drop_of_length_le (by simp)]; rfl))
            have t1 : ((p : Int) == (S.size : Int)) = true := by rw [beq_iff_eq]; omega
            clear hij' hp hp'
            go_wp2_with fail
            refine (int_any2 S p _ HSM.out (by omega) (by omega)).mono ?_
            rintro e w5 ⟨rfl, rfl⟩
            rw [HV.out]
            go_wp2_with fail
            go_ret
            exact ⟨rfl, hbr⟩
end Go.Proofs.YtoiikkfhbpeemaaDoor
