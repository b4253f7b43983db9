/-
  The contract of the law WireSumAffine: it returns true.
-/
import Derived.Test.YtoiikkfhbpeemaaDoorLaw5
import Derived.Deep.RegionWith
namespace Go.Proofs.YtoiikkfhbpeemaaDoor
open Go Go.RowKit Go.Shelf Go.Dial Go.Dial.Wire

@[go_sem] theorem run_min_int4 {P : Program} {w : World} (ts : Array TypeId) (t : TypeId) (k k' k'' k4 : IntKind) (x y z u : Int) :
    (Builtin.min_ ts t #[.int k x, .int k' y, .int k'' z, .int k4 u]).run P w = .ok (.int k (min (min (min x y) z) u)) w := by
  simp [Builtin.min_, Builtin.min2]
  split <;> split <;> split <;> omega
theorem i64_xor_nat (a b : Nat) (ha : a < 9223372036854775808) (hb : b < 9223372036854775808) : bits .xor .i64 (a : Int) (b : Int) = ((a ^^^ b : Nat) : Int) := by
  show IntKind.i64.wrap ((BitVec.ofInt 64 (a : Int) ^^^ BitVec.ofInt 64 (b : Int)).toNat : Int) = _
  rw [BitVec.toNat_xor, ofInt_u64 a (by omega), ofInt_u64 b (by omega)]
  have := Nat.xor_lt_two_pow (n := 63) ha hb
  exact IntWalk.i64_in _ (by omega)
theorem made_u8 (n : Nat) : madeCells #[.int .u8 0] n = (u8s (List.replicate n 0)).toArray := by
  apply Array.ext
  · simp [madeCells, u8s]
  · intro i h1 h2
    simp [madeCells, u8s, Nat.mod_one]
theorem sum_quiet (s : ByteArray) (w : World) (n : Nat) (hs : s.size ≤ maxLen) (ht : Table w) :
    Calls Tryd.prog 21 #[.string s] (w.drewN n) fun e w' => e = .returned (.int .i64 (sumN s.data.toList)) ∧ ∃ m, w' = w.drewN m :=
  Calls.quiet_of_same ((sum_any s (w.drewN n) hs ht).mono fun _ _ ⟨h1, h2⟩ => ⟨h1, h2.symm⟩)

theorem blk_cell {w : World} {g : Nat} {t : TypeId} {cs : List Value} (h : w.heap[g]? = some (.cells cs.toArray t (0, 0))) (i : Nat) : w.cell? ⟨g, i, none⟩ = cs[i]? := by
  simp [World.cell?, h]
theorem blk_frozen {w : World} {g : Nat} {t : TypeId} {cs : List Value} (h : w.heap[g]? = some (.cells cs.toArray t (0, 0))) (i : Nat) : w.frozen? ⟨g, i, none⟩ = false := by
  simp [World.frozen?, h]
theorem blk_set {w : World} {g : Nat} {t : TypeId} {cs : List Value} (h : w.heap[g]? = some (.cells cs.toArray t (0, 0))) (i : Nat) (u : Value) : (w.setCell ⟨g, i, none⟩ u).heap[g]? = some (.cells (cs.set i u).toArray t (0, 0)) := by
  simp [World.setCell, Array.getElem?_modify, h]
theorem blk_own {w : World} {g base n : Nat} {t : TypeId} {cs : List Value} (h : w.heap[g]? = some (.cells cs.toArray t (0, 0))) (hb : base ≤ g) (hn : cs.length = n) (hm : n ≤ maxLen) : w.ownsRow base t 1 (.slice (some ⟨g, 0, none⟩) n n) n cs :=
  ⟨by omega, .inr ⟨g, n, _, rfl, hb, h, Nat.le_refl _, hm, by simpa using hn, by simp [← hn]⟩⟩

/-- the byte of three strings at j, XORed -/
def xb (a b c : ByteArray) (j : Nat) : Nat := ((a.data.toList.getD j 0).toNat ^^^ (b.data.toList.getD j 0).toNat) ^^^ (c.data.toList.getD j 0).toNat
theorem getD_byte (a : ByteArray) (j : Nat) (h : j < a.size) : (a.data.toList.getD j 0) = a[j] := by
  have : j < a.data.toList.length := by simpa using h
  rw [List.getD_eq_getElem?_getD, List.getElem?_eq_getElem this]; rfl

set_option maxRecDepth 100000 in
set_option maxHeartbeats 3200000 in
theorem law7_any (a b c : ByteArray) (w : World) (ht : Table w) (ha : a.size ≤ maxLen) (hb : b.size ≤ maxLen) (hc : c.size ≤ maxLen) :
    Calls Tryd.prog 9 #[.string a, .string b, .string c] w fun e w' => e = .returned (.bool true) ∧ Below w.heap.size w w' := by
  have hpos := ht.pos
  have HT := Lib.hid ht
  clear ht
  obtain ⟨i0, hi, hz0, hz1, hz2⟩ := info_parts info5
  unfold maxLen at ha hb hc
  go_enter Tryd.func9, Tryd.ntmps9
  go_upto_region 2 with (go_at_call 10; refine (sane_any _ HT.out).mono ?_; rintro e w1 ⟨rfl, hbw⟩)
  go_cut [8] (fun v wx => ∃ n : Nat, v = .int .i64 n ∧ n ≤ a.size ∧ n ≤ b.size ∧ n ≤ c.size ∧ n ≤ 200 ∧ Below w.heap.size w wx)
  case first =>
    go_wp2_with fail
    go_meet
    exact ⟨(min (min (min (a.size : Int) b.size) c.size) 200).toNat, by congr 1; omega, by omega, by omega, by omega, by omega, hbw⟩
  case rest =>
    obtain ⟨n, rfl, h1, h2, h3, h4, hbx⟩ := hcut
    clear hbw
    have hmk := run_make (P := Tryd.prog) wc 38 5 i0 (.int .u8 0) Tryd.underlying38 hi hz0 .i64 .i64 n n (by omega) (by omega) (by rw [hz2]; omega) (by omega)
    rw [Int.toNat_natCast, hz1, Nat.mul_one] at hmk
    go_wp2_with fail
    obtain ⟨W0, hW0⟩ : ∃ W0, wc.alloc (.cells (madeCells #[.int .u8 0] n) 5) = W0 := ⟨_, rfl⟩
    have hg0 : W0.heap[wc.heap.size]? = some (.cells (u8s (List.replicate n 0)).toArray 5 (0, 0)) := by
      rw [← hW0, World.alloc_heap_new]
      rw [made_u8]
    have hb4 : Below w.heap.size w W0 := by rw [← hW0]; exact hbx.alloc hbx.size _
    have HW := Lib.hid hW0
    rw [hW0]
    clear hW0 hmk
    have hgsz := hbx.size
    go_loopw [10] (fun i wr => ∃ (j : Nat) (cur : List Nat), j ≤ n ∧ i = .int .i64 j ∧ cur.length = n ∧ (∀ m, m < j → cur[m]? = some (xb a b c m)) ∧ wr.heap[wc.heap.size]? = some (.cells (u8s cur).toArray 5 (0, 0)) ∧ Below w.heap.size w wr) (fun i _ => n - (intOf i).toNat)
    case atStart => exact ⟨0, List.replicate n 0, by omega, rfl, by simp, by omega, hg0, hb4⟩
    case round =>
      obtain ⟨j, cur, hj, rfl, hlen, hcur, hg, hbr⟩ := hrel
      by_cases hjn : j < n
      · have HL := Lib.hid hlen
        have hl1 : n ≤ cur.length := Nat.le_of_eq hlen.symm
        have hl2 : cur.length ≤ n := Nat.le_of_eq hlen
        clear hlen
        have hja : j < a.size := by omega
        have hjb : j < b.size := by omega
        have hjc : j < c.size := by omega
        have e1 := getD_byte a j hja
        have e2 := getD_byte b j hjb
        have e3 := getD_byte c j hjc
        have b1 := a[j].toNat_lt
        have b2 := b[j].toNat_lt
        have b3 := c[j].toNat_lt
        have E1 := u8_xor_nat a[j].toNat b[j].toNat (by omega) (by omega)
        have hp : a[j].toNat ^^^ b[j].toNat < 256 := Nat.xor_lt_two_pow (n := 8) (by omega) (by omega)
        have hx : xb a b c j = (a[j].toNat ^^^ b[j].toNat) ^^^ c[j].toNat := by unfold xb; rw [e1, e2, e3]
        obtain ⟨p, hpp⟩ : ∃ p, p = a[j].toNat ^^^ b[j].toNat := ⟨_, rfl⟩
        rw [← hpp] at E1 hp hx
        have E2 := u8_xor_nat p c[j].toNat (by omega) (by omega)
        obtain ⟨v, hv⟩ : ∃ v, v = p ^^^ c[j].toNat := ⟨_, rfl⟩
        rw [← hv] at E2 hx
        have hcell : wr.cell? ⟨wc.heap.size, j, none⟩ = some (.int .u8 ((cur[j]'(by omega) : Nat) : Int)) := by
          rw [blk_cell hg j]; simp [u8s, show j < cur.length by omega]
        have hfr := blk_frozen hg j
        obtain ⟨old, ho⟩ : ∃ old : Int, old = ((cur[j]'(by omega) : Nat) : Int) := ⟨_, rfl⟩
        rw [← ho] at hcell
        have hset := blk_set hg j (.int .u8 (v : Int))
        have HX := Lib.hid hx
        have HC := Lib.hid hcur
        have HS := Lib.hid hset
        have HG := Lib.hid hg
        clear ho hv hpp hx e1 e2 e3 hcur hset hg
        go_wp2_with fail
        go_region
        all_goals go_wp2_with fail
        all_goals go_roundw
        case rel =>
          refine ⟨j + 1, cur.set j v, by omega, by go_num, by simp [HL.out], fun m hm => ?_, ?_, ?_⟩
          · by_cases hmj : m = j
            · subst hmj; rw [List.getElem?_set_self (by rw [HL.out]; omega), HX.out]
            · rw [List.getElem?_set_ne (by omega)]; exact HC.out m (by omega)
          · have := HS.out
            rw [show (u8s cur).set j (.int .u8 (v : Int)) = u8s (cur.set j v) by simp [u8s, List.map_set]] at this
            exact this
          · exact (hbr.setCell (p := ⟨wc.heap.size, j, none⟩) hgsz _).drew
        case measure => simp [intOf]; omega
      · have hjn' : j = n := by omega
        subst hjn'
        have hcl := list_of_gets cur j (xb a b c) hlen hcur
        have hown : ∀ m, (wr.drewN m).ownsRow w.heap.size 5 1 (.slice (some ⟨wc.heap.size, 0, none⟩) j j) j (u8s cur) := fun m => blk_own (w := wr.drewN m) hg hgsz (by simp [u8s, hlen]) (by unfold maxLen; omega)
        obtain ⟨x, hx⟩ : ∃ x : ByteArray, x = ⟨(bytesOf cur).toArray⟩ := ⟨_, rfl⟩
        have kc : ∀ m, (convert 38 9 (.slice (some ⟨wc.heap.size, 0, none⟩) j j)).run Tryd.prog (wr.drewN m) = .ok (.string x) (wr.drewN m) := fun m => by
          rw [hx]; exact run_convert_own (P := Tryd.prog) 38 9 Tryd.underlying38 Tryd.underlying5 Tryd.underlying9 (hown m)
        have hsum : sumN x.data.toList = (sumN (a.extract 0 j).data.toList ^^^ sumN (b.extract 0 j).data.toList) ^^^ sumN (c.extract 0 j).data.toList := by
          have hxm : x.data.toList.map UInt8.toNat = cur := by
            rw [hx, hcl]
            simp only [bytesOf, List.map_map]
            apply List.ext_getElem
            · simp
            · intro i h1 h2
              simp at h1 ⊢
              have : xb a b c i < 256 := by
                unfold xb
                exact Nat.xor_lt_two_pow (n := 8) (Nat.xor_lt_two_pow (n := 8) (UInt8.toNat_lt _) (UInt8.toNat_lt _)) (UInt8.toNat_lt _)
              omega
          rw [ext0, ext0, ext0]
          unfold sumN
          rw [← xor_three, crc_crcN, crc_crcN, crc_crcN, crc_crcN, hxm, hcl, map_take _ _ (by simpa using h1), map_take _ _ (by simpa using h2), map_take _ _ (by simpa using h3), ← crcN_xor3]
          rfl
        have l1 := sumN_lt (a.extract 0 j).data.toList
        have l2 := sumN_lt (b.extract 0 j).data.toList
        have l3 := sumN_lt (c.extract 0 j).data.toList
        obtain ⟨s1, hs1⟩ : ∃ s1, s1 = sumN (a.extract 0 j).data.toList := ⟨_, rfl⟩
        obtain ⟨s2, hs2⟩ : ∃ s1, s1 = sumN (b.extract 0 j).data.toList := ⟨_, rfl⟩
        obtain ⟨s3, hs3⟩ : ∃ s1, s1 = sumN (c.extract 0 j).data.toList := ⟨_, rfl⟩
        rw [← hs1, ← hs2, ← hs3] at hsum
        rw [← hs1] at l1
        rw [← hs2] at l2
        rw [← hs3] at l3
        have E1 := i64_xor_nat s1 s2 (by omega) (by omega)
        have E2 := i64_xor_nat (s1 ^^^ s2) s3 (Nat.lt_trans (Nat.xor_lt_two_pow (n := 32) l1 l2) (by omega)) (by omega)
        rw [← hsum] at E2
        have HS1 := Lib.hid hs1.symm
        have HS2 := Lib.hid hs2.symm
        have HS3 := Lib.hid hs3.symm
        have hxl : x.size ≤ maxLen := by rw [hx]; unfold maxLen; show (bytesOf cur).length ≤ _; simp [bytesOf, hlen]; omega
        have HXL := Lib.hid hxl
        have HTR := Lib.hid (HT.out.below hbr hpos)
        have ea : (a.extract 0 j).size ≤ maxLen := by unfold maxLen; simp; omega
        have eb : (b.extract 0 j).size ≤ maxLen := by unfold maxLen; simp; omega
        have ec : (c.extract 0 j).size ≤ maxLen := by unfold maxLen; simp; omega
        have HEA := Lib.hid ea
        have HEB := Lib.hid eb
        have HEC := Lib.hid ec
        clear hcl hcur hg hown hx hsum hs1 hs2 hs3 hxl ea eb ec hlen
        have HQ1 : Hid (∀ m, Calls Tryd.prog 21 #[.string (a.extract 0 j)] (wr.drewN m) fun e w' => e = .returned (.int .i64 (s1 : Nat)) ∧ ∃ m, w' = wr.drewN m) := Lib.hid fun m => by rw [← HS1.out]; exact sum_quiet _ wr m HEA.out HTR.out
        have HQ2 : Hid (∀ m, Calls Tryd.prog 21 #[.string (b.extract 0 j)] (wr.drewN m) fun e w' => e = .returned (.int .i64 (s2 : Nat)) ∧ ∃ m, w' = wr.drewN m) := Lib.hid fun m => by rw [← HS2.out]; exact sum_quiet _ wr m HEB.out HTR.out
        have HQ3 : Hid (∀ m, Calls Tryd.prog 21 #[.string (c.extract 0 j)] (wr.drewN m) fun e w' => e = .returned (.int .i64 (s3 : Nat)) ∧ ∃ m, w' = wr.drewN m) := Lib.hid fun m => by rw [← HS3.out]; exact sum_quiet _ wr m HEC.out HTR.out
        go_wp2_with fail
        go_quiet (first
          | (go_at_call_of 21 (Value.string x); exact sum_quiet x wr _ HXL.out HTR.out)
          | (go_at_call_of 21 (Value.string (a.extract 0 j)); exact HQ1.out _)
          | (go_at_call_of 21 (Value.string (b.extract 0 j)); exact HQ2.out _)
          | (go_at_call_of 21 (Value.string (c.extract 0 j)); exact HQ3.out _))
        go_wp2_with fail
        go_ret
        exact ⟨rfl, hbr.trans ⟨rfl, rfl, rfl, Nat.le_refl _, fun _ _ => rfl⟩⟩
end Go.Proofs.YtoiikkfhbpeemaaDoor
