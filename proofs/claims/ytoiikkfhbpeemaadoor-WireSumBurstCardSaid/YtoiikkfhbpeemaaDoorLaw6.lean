/-
  The contract of the law WireSumBurst: it returns true.
-/
import Derived.Test.YtoiikkfhbpeemaaDoorLaw7
namespace Go.Proofs.YtoiikkfhbpeemaaDoor
open Go Go.RowKit Go.Shelf Go.Dial Go.Dial.Wire

theorem blkm_cell {w : World} {g : Nat} {t : TypeId} {cs : List Value} {fz : Nat × Nat} (h : w.heap[g]? = some (.cells cs.toArray t fz)) (i : Nat) : w.cell? ⟨g, i, none⟩ = cs[i]? := by
  simp [World.cell?, h]
theorem blkm_frozen {w : World} {g : Nat} {t : TypeId} {cs : List Value} {F : Nat} (h : w.heap[g]? = some (.cells cs.toArray t (F, F + 1))) (i : Nat) (hi : i < F) : w.frozen? ⟨g, i, none⟩ = false := by
  simp [World.frozen?, h]; omega
theorem blkm_set {w : World} {g : Nat} {t : TypeId} {cs : List Value} {fz : Nat × Nat} (h : w.heap[g]? = some (.cells cs.toArray t fz)) (i : Nat) (u : Value) : (w.setCell ⟨g, i, none⟩ u).heap[g]? = some (.cells (cs.set i u).toArray t fz) := by
  simp [World.setCell, Array.getElem?_modify, h]

/-- the bytes of a string as numbers -/
def nums (s : ByteArray) : List Nat := s.data.toList.map UInt8.toNat
theorem nums_len (s : ByteArray) : (nums s).length = s.size := by simp [nums]

theorem pow_u8 (e x : Nat) (he : e < 8) (hx : x < 256) : bits .xor .u8 (x : Int) (2 ^ e % 256) = ((x ^^^ 2 ^ e : Nat) : Int) := by
  have h2 : 2 ^ e < 256 := Nat.lt_of_lt_of_le (Nat.pow_lt_pow_right (by omega) he) (by decide)
  have h3 : (2 : Int) ^ e = ((2 ^ e : Nat) : Int) := by simp
  have key : ∀ p : Nat, p < 256 → bits .xor .u8 (x : Int) ((p : Int) % 256) = ((x ^^^ p : Nat) : Int) := fun p h => by
    rw [Int.emod_eq_of_lt (by omega) (by omega), u8_xor_nat _ _ hx h]
  rw [h3]; exact key _ h2
theorem bytes_rel (s s' : ByteArray) (w1 : World) (C n : Nat) (hn : n = s'.size) (hs : nums s' = (nums s).take n) :
    ((bytesRow s' C).toList).take n = u8s ((nums s).take n) ∧ n ≤ (bytesRow s' C).toList.length ∧
    (w1.drew.alloc (.cells (bytesRow s' C) 5 ((bytesRow s' C).size, (bytesRow s' C).size + 1))).heap[w1.heap.size]? = some (.cells (bytesRow s' C).toList.toArray 5 ((bytesRow s' C).toList.length, (bytesRow s' C).toList.length + 1)) := by
  refine ⟨?_, ?_, ?_⟩
  · rw [← hs, hn]
    simp [bytesRow, u8s, nums, Function.comp_def]
  · rw [hn]; simp [bytesRow]
  · have := World.alloc_heap_new w1.drew (.cells (bytesRow s' C) 5 ((bytesRow s' C).size, (bytesRow s' C).size + 1))
    simpa using this
set_option maxRecDepth 100000 in
set_option maxHeartbeats 3200000 in
theorem law6_any (s : ByteArray) (k : Int) (bn : Nat) (w : World) (ht : Table w) (hs : s.size ≤ maxLen) (hk1 : -9223372036854775808 ≤ k) (hk2 : k ≤ 9223372036854775807) (hbn : bn < 4294967296) :
    Calls Tryd.prog 8 #[.string s, .int .i64 k, .int .u32 bn] w fun e w' => e = .returned (.bool true) ∧ Below w.heap.size w w' := by
  have hpos := ht.pos
  have HT := Lib.hid ht
  clear ht
  unfold maxLen at hs
  go_enter Tryd.func8, Tryd.ntmps8
  go_upto_region 2 with (go_at_call 10; refine (sane_any _ HT.out).mono ?_; rintro e w1 ⟨rfl, hbw⟩)
  go_cut [8] (fun v wx => ∃ (n C F : Nat) (row : List Value), v = .slice (some ⟨w1.heap.size, 0, none⟩) n C ∧ n ≤ s.size ∧ n ≤ 300 ∧ row.length = F ∧ row.take n = u8s ((nums s).take n) ∧ n ≤ F ∧ wx.heap[w1.heap.size]? = some (.cells row.toArray 5 (F, F + 1)) ∧ Below w.heap.size w wx)
  case first =>
    have kc := fun (s : ByteArray) => run_bytes_of_string (P := Tryd.prog) w1 9 38 5 s Tryd.underlying9 Tryd.underlying38 Tryd.underlying5
    by_cases h3 : s.size ≤ 300
    · go_wp2_with fail
      go_meet
      obtain ⟨h1, h2, h3⟩ := bytes_rel s s w1 (grownCap w1 s.size 0 5) s.size rfl (by rw [List.take_of_length_le (Nat.le_of_eq (nums_len s))])
      exact ⟨_, _, _, _, rfl, Nat.le_refl _, by omega, rfl, h1, h2, h3, (hbw.alloc hbw.size _).drew⟩
    · go_wp2_with fail
      go_meet
      obtain ⟨h1, h2, h3⟩ := bytes_rel s (s.extract 0 300) w1 (grownCap w1 (min 300 s.size) 0 5) (min 300 s.size) (by simp) (by
        unfold nums; rw [ext0, List.map_take, show min 300 s.size = 300 by omega])
      exact ⟨_, _, _, _, rfl, by omega, by omega, rfl, h1, h2, h3, (hbw.alloc hbw.size _).drew⟩
  case rest =>
    obtain ⟨n, C, F, row, rfl, h1, h2, hrl, hrow, hnF, hg, hb⟩ := hcut
    have hgs := hbw.size
    clear hbw
    by_cases hn0 : n = 0
    · subst hn0
      go_wp2_with fail
      go_ret
      exact ⟨rfl, hb⟩
    by_cases hb0 : bn = 0
    · subst hb0
      have t1 : ((n : Int) == 0) = false := by rw [beq_eq_false_iff_ne]; omega
      clear hrow hg hrl
      go_wp2_with fail
      go_ret
      exact ⟨rfl, hb⟩
    have t1 : ((n : Int) == 0) = false := by rw [beq_eq_false_iff_ne]; omega
    have t2 : ((bn : Int) == 0) = false := by rw [beq_eq_false_iff_ne]; omega
    have hfp := pickN_lt k (8 * n) (by omega)
    obtain ⟨f, hf⟩ := Int.eq_ofNat_of_zero_le hfp.1
    have hf8 : f < 8 * n := by omega
    have HF := Lib.hid hf
    obtain ⟨cur0, hc0⟩ : ∃ cur0, cur0 = (nums s).take n := ⟨_, rfl⟩
    rw [← hc0] at hrow
    have hcl0 : cur0.length = n := by rw [hc0]; simp [nums_len]; omega
    have hcb0 : ∀ x ∈ cur0, x < 256 := by
      rw [hc0]; intro x hx
      have := List.mem_of_mem_take hx
      obtain ⟨b, _, rfl⟩ := List.mem_map.1 this
      exact b.toNat_lt
    have HC0 := Lib.hid hc0
    have HG := Lib.hid hg
    have HROW := Lib.hid hrow
    have HRL := Lib.hid hrl
    have HCL := Lib.hid hcl0
    have HCB := Lib.hid hcb0
    clear hfp hf hc0 hg hrow hrl hcl0 hcb0 hn0 hb0
    go_wp2_with fail
    refine (pick_any k (8 * n) _ hk1 hk2 (by omega)).mono ?_
    rintro e w3 ⟨rfl, rfl⟩
    rw [HF.out]
    go_wp2_with fail
    go_loopw [10, 11] (fun ch i wr => ∃ (j : Nat) (c : Bool) (row : List Value) (cur : List Nat), i = .int .i64 j ∧ ch = .bool c ∧ j ≤ 32 ∧ f + j ≤ 8 * n ∧ (c = true ↔ bn % 2 ^ j ≠ 0) ∧ row.length = F ∧ cur.length = n ∧ row.take n = u8s cur ∧ valx cur = valx cur0 ^^^ 2 ^ f * (bn % 2 ^ j) ∧ (∀ x ∈ cur, x < 256) ∧ wr.heap[w1.heap.size]? = some (.cells row.toArray 5 (F, F + 1)) ∧ Below w.heap.size w wr) (fun _ i _ => 32 - (intOf i).toNat)
    case atStart => exact ⟨0, false, row, cur0, rfl, rfl, by omega, by omega, by simp [Nat.mod_one], HRL.out, HCL.out, HROW.out, by simp [Nat.mod_one], HCB.out, HG.out, hb⟩
    case round =>
      obtain ⟨j, ch, row', cur, rfl, rfl, hj, hfj, hch, hrl, hcl, hrow, hval, hcb, hg, hbr⟩ := hrel
      have HG2 := Lib.hid hg
      have HROW2 := Lib.hid hrow
      have HRL2 := Lib.hid hrl
      have HCL2 := Lib.hid hcl
      have HCB2 := Lib.hid hcb
      have HV := Lib.hid hval
      have HCH := Lib.hid hch
      by_cases hgo : j < 32 ∧ f + j < 8 * n
      · obtain ⟨hj2, hfj2⟩ := hgo
        obtain ⟨q, hq⟩ : ∃ q, q = bn / 2 ^ j := ⟨_, rfl⟩
        have E0 : (bn : Int) / 2 ^ j = (q : Int) := by rw [hq]; simp
        have HQ := Lib.hid hq
        by_cases hbit : bn / 2 ^ j % 2 = 1
        · have t3 : ((q : Int) % 2 == 1) = true := by rw [beq_iff_eq]; omega
          have hk8 : (f + j) / 8 < cur.length := by omega
          have hnF : (f + j) / 8 < F := by omega
          have hcell : wr.cell? ⟨w1.heap.size, (f + j) / 8, none⟩ = some (.int .u8 ((cur[(f + j) / 8] : Nat) : Int)) := by
            rw [blkm_cell hg]
            have : (row'.take n)[(f + j) / 8]? = (u8s cur)[(f + j) / 8]? := by rw [hrow]
            rw [List.getElem?_take, if_pos (by omega)] at this
            rw [this]; simp [u8s, hk8]
          have hfr := blkm_frozen hg ((f + j) / 8) (by omega)
          have hx8 := hcb (cur[(f + j) / 8]) (List.getElem_mem _)
          obtain ⟨x0, hx0⟩ : ∃ x0, x0 = cur[(f + j) / 8] := ⟨_, rfl⟩
          rw [← hx0] at hcell hx8
          have HX0 := Lib.hid hx0
          have hex := pow_u8 ((f + j) % 8) x0 (Nat.mod_lt _ (by omega)) hx8
          have hvs := valx_set cur ((f + j) / 8) ((f + j) % 8) hk8
          rw [← hx0, show 8 * ((f + j) / 8) + (f + j) % 8 = f + j by omega] at hvs
          have hvn : valx (cur.set ((f + j) / 8) (x0 ^^^ 2 ^ ((f + j) % 8))) = valx cur0 ^^^ 2 ^ f * (bn % 2 ^ (j + 1)) := by
            rw [hvs, hval, (bits_succ1 bn j hbit).1, mul_xor, ← Nat.pow_add, Nat.xor_assoc]
          have hcn : bn % 2 ^ (j + 1) ≠ 0 := (bits_succ1 bn j hbit).2
          have hxn : x0 ^^^ 2 ^ ((f + j) % 8) < 256 := Nat.xor_lt_two_pow (n := 8) hx8 (Nat.pow_lt_pow_right (by omega) (by omega))
          have hrs : (row'.set ((f + j) / 8) (.int .u8 ((x0 ^^^ 2 ^ ((f + j) % 8) : Nat) : Int))).take n = u8s (cur.set ((f + j) / 8) (x0 ^^^ 2 ^ ((f + j) % 8))) := by
            rw [List.take_set, hrow]; simp [u8s, List.map_set]
          have hgn := blkm_set hg ((f + j) / 8) (.int .u8 ((x0 ^^^ 2 ^ ((f + j) % 8) : Nat) : Int))
          have HGN := Lib.hid hgn
          have HRS := Lib.hid hrs
          have HXN := Lib.hid hxn
          have HCN := Lib.hid hcn
          have HVN := Lib.hid hvn
          have HEX := Lib.hid hex
          clear hgn hrs hxn hcn hvn hex hvs
          clear hg hrow hrl hcl hcb hval hch hbit hx0 hq
          go_wp2_with fail
          go_region
          go_wp2_with fail
          go_roundw
          case rel =>
            rw [HEX.out]
            refine ⟨j + 1, true, row'.set ((f + j) / 8) (.int .u8 ((x0 ^^^ 2 ^ ((f + j) % 8) : Nat) : Int)), cur.set ((f + j) / 8) (x0 ^^^ 2 ^ ((f + j) % 8)), by go_num, rfl, by omega, by omega, by simpa using HCN.out, by simpa using HRL2.out, by simpa using HCL2.out, HRS.out, HVN.out, ?_, HGN.out, (hbr.setCell (p := ⟨w1.heap.size, (f + j) / 8, none⟩) hgs _).drew⟩
            intro x hx
            rcases List.mem_or_eq_of_mem_set hx with h | h
            · exact HCB2.out x h
            · rw [h]; exact HXN.out
          case measure => simp [intOf]; omega
        · have t3 : ((q : Int) % 2 == 1) = false := by rw [beq_eq_false_iff_ne]; omega
          have hb0 := bits_succ0 bn j (by omega)
          have HB0 := Lib.hid hb0
          clear hg hrow hrl hcl hcb hval hch hbit hq hb0
          go_wp2_with fail
          go_roundw
          case rel =>
            exact ⟨j + 1, ch, row', cur, by go_num, rfl, by omega, by omega, by rw [HB0.out]; exact HCH.out, HRL2.out, HCL2.out, HROW2.out, by rw [HB0.out]; exact HV.out, HCB2.out, HG2.out, hbr⟩
          case measure => simp [intOf]; omega
      · have hown : ∀ m i, i < n → (wr.drewN m).cell? ⟨w1.heap.size, 0 + i, none⟩ = some (.int .u8 ((cur.map fun (x : Nat) => (x : Int)).getD i 0)) := fun m i hi => by
          rw [Nat.zero_add]
          show wr.cell? _ = _
          rw [blkm_cell hg]
          have : (row'.take n)[i]? = (u8s cur)[i]? := by rw [hrow]
          rw [List.getElem?_take, if_pos hi] at this
          rw [this]
          have hi' : i < cur.length := by omega
          simp [u8s, hi', List.getD_eq_getElem?_getD]
        obtain ⟨x, hx⟩ : ∃ x : ByteArray, x = ⟨(bytesOf cur).toArray⟩ := ⟨_, rfl⟩
        have kc : ∀ m, (convert 38 9 (.slice (some ⟨w1.heap.size, 0, none⟩) n C)).run Tryd.prog (wr.drewN m) = .ok (.string x) (wr.drewN m) := fun m => by
          rw [run_convert_bytes_arg (P := Tryd.prog) (wr.drewN m) 38 5 Tryd.underlying38 Tryd.underlying5 w1.heap.size 0 n C (cur.map fun (x : Nat) => (x : Int)) (by simpa using hcl) (hown m) 9 Tryd.underlying9, hx]
          simp [strOfNums, bytesOf, Function.comp_def]
        have hxn : nums x = cur := by
          rw [hx]
          unfold nums bytesOf
          simp only [List.map_map]
          conv => rhs; rw [← List.map_id cur]
          apply List.map_congr_left
          intro b hb
          have := hcb b hb
          simp; omega
        have hs0 : nums (s.extract 0 n) = cur0 := by rw [HC0.out]; unfold nums; rw [ext0, List.map_take]
        have hburst := burst cur0 cur f (bn % 2 ^ j) (by rw [hcl, HCL.out]) (by rw [HCL.out]; omega) (Nat.lt_of_le_of_lt (Nat.mod_le _ _) hbn) hval 4294967295
        have hsum : sumN x.data.toList = sumN (s.extract 0 n).data.toList ↔ ch = false := by
          unfold sumN
          rw [xor_inj, crc_crcN, crc_crcN]
          change crcN 4294967295 (nums x) = crcN 4294967295 (nums (s.extract 0 n)) ↔ _
          rw [hxn, hs0, hburst]
          have := hch
          cases ch <;> simp_all
        obtain ⟨s1, hs1⟩ : ∃ s1, s1 = sumN x.data.toList := ⟨_, rfl⟩
        obtain ⟨s2, hs2⟩ : ∃ s1, s1 = sumN (s.extract 0 n).data.toList := ⟨_, rfl⟩
        rw [← hs1, ← hs2] at hsum
        have hxl : x.size ≤ maxLen := by rw [hx]; unfold maxLen; show (bytesOf cur).length ≤ _; simp [bytesOf, hcl]; omega
        have hel : (s.extract 0 n).size ≤ maxLen := by unfold maxLen; simp; omega
        have HTR := HT.out.below hbr hpos
        have HQ1 : Hid (∀ m, Calls Tryd.prog 21 #[.string x] (wr.drewN m) fun e w' => e = .returned (.int .i64 (s1 : Nat)) ∧ ∃ m, w' = wr.drewN m) := Lib.hid fun m => by rw [hs1]; exact sum_quiet _ wr m hxl HTR
        have HQ2 : Hid (∀ m, Calls Tryd.prog 21 #[.string (s.extract 0 n)] (wr.drewN m) fun e w' => e = .returned (.int .i64 (s2 : Nat)) ∧ ∃ m, w' = wr.drewN m) := Lib.hid fun m => by rw [hs2]; exact sum_quiet _ wr m hel HTR
        have tne : (ch == ((s1 : Int) != (s2 : Int))) = true := by
          by_cases h : s1 = s2
          · have := hsum.1 h; subst this; simp [h]
          · have : ch = true := by cases ch
                                   · exact absurd (hsum.2 rfl) h
                                   · rfl
            subst this; simp; omega
        clear hown hx hxn hs0 hburst hsum hs1 hs2 hxl hel HTR hg hrow hrl hcl hcb hval hch
        by_cases hj32 : j < 32
        · have hfn : 8 * n ≤ f + j := by omega
          go_wp2_with fail
          go_quiet (first
            | (go_at_call_of 21 (Value.string x); exact HQ1.out _)
            | (go_at_call_of 21 (Value.string (s.extract 0 n)); exact HQ2.out _))
          go_wp2_with fail
          go_ret
          exact ⟨rfl, hbr.trans ⟨rfl, rfl, rfl, Nat.le_refl _, fun _ _ => rfl⟩⟩
        · go_wp2_with fail
          go_quiet (first
            | (go_at_call_of 21 (Value.string x); exact HQ1.out _)
            | (go_at_call_of 21 (Value.string (s.extract 0 n)); exact HQ2.out _))
          go_wp2_with fail
          go_ret
          exact ⟨rfl, hbr.trans ⟨rfl, rfl, rfl, Nat.le_refl _, fun _ _ => rfl⟩⟩
end Go.Proofs.YtoiikkfhbpeemaaDoor
