/-
  The contract of the law LifeDecodes: it returns true.
-/
import Derived.Test.YteilkigdlkeiaaaC2
import Derived.Test.YteilkigdlkeiaaaD1
import Derived.Test.YteilkigdlkeiaaaR3o
import Derived.Deep.AppendLies
import Derived.Laws.BytesArg
import Derived.Deep.DrawnRows
namespace Go.Proofs.Yteilkigdlkeiaaa
open Go Go.RowKit Go.Dial Go.Dial.Lif Go.Dial.Wire
attribute [local go_sem] Oper.semAt_some
attribute [local go_sem ↓] Go.wp_at_zero Go.wp_at_succ

@[go_sem high] theorem run_min30 {P : Program} {w : World} (ts : Array TypeId) (t : TypeId) (k k' : IntKind) (x : Int) (h : x ≤ 30) :
    (Builtin.min_ ts t #[.int k x, .int k' 30]).run P w = .ok (.int k x) w := by
  simp [Builtin.min_, Builtin.min2]
  omega
@[go_sem high] theorem run_min30b {P : Program} {w : World} (ts : Array TypeId) (t : TypeId) (k k' : IntKind) (x : Int) (h : 30 < x) :
    (Builtin.min_ ts t #[.int k x, .int k' 30]).run P w = .ok (.int k 30) w := by
  simp [Builtin.min_, Builtin.min2, h]
theorem conv1 (b : Int) (wx : World) : (convert 69 9 (.slice (some ⟨wx.heap.size, 0, none⟩) 1 1)).run Try.prog (wx.alloc (.cells #[.int .u8 b] 5)) = .ok (.string ⟨#[UInt8.ofNat b.toNat]⟩) (wx.alloc (.cells #[.int .u8 b] 5)) := by
  have := run_convert_bytes_arg (P := Try.prog) (wx.alloc (.cells #[.int .u8 b] 5)) 69 5 Try.underlying69 Try.underlying5 wx.heap.size 0 1 1 [b] rfl (by
    intro i hi
    obtain rfl : i = 0 := by omega
    rw [World.cell?_alloc_new]; rfl) 9 Try.underlying9
  rw [this]; rfl
theorem conv1d (b : Int) (wx : World) : (convert 69 9 (.slice (some ⟨wx.heap.size, 0, none⟩) 1 1)).run Try.prog (wx.alloc (.cells #[.int .u8 b] 5)).drew = .ok (.string ⟨#[UInt8.ofNat b.toNat]⟩) (wx.alloc (.cells #[.int .u8 b] 5)).drew := conv1 b wx.drew
theorem sz30 (s : ByteArray) : (s.extract 0 30).size ≤ 1000 := by rw [ByteArray.size_extract]; omega
theorem sz2 (t s : ByteArray) (h : t.size ≤ 27) (h2 : s.size ≤ 30) : (t ++ s).size ≤ 1000 := by rw [ByteArray.size_append]; omega
theorem sz4 (t s : ByteArray) (h : t.size ≤ 27) : (t ++ s.extract 0 30).size ≤ 1000 := by rw [ByteArray.size_append, ByteArray.size_extract]; omega
theorem sz3 (t : ByteArray) (c : UInt8) (n : Nat) (h : t.size ≤ 27) : (t.extract 0 n ++ ⟨#[c]⟩ ++ t.extract (n + 1) t.size).size ≤ 1000 := by
  have e : (⟨#[c]⟩ : ByteArray).size = 1 := rfl
  rw [ByteArray.size_append, ByteArray.size_append, ByteArray.size_extract, ByteArray.size_extract, e]; omega
theorem ev_ext {a b : Ev} (h1 : a.k = b.k) (h2 : a.a = b.a) (h3 : a.h = b.h) : a = b := by cases a; cases b; simp only at h1 h2 h3; subst h1 h2 h3; rfl
theorem bne_l {x y : ByteArray} (h : x ≠ y) : (x.toList == y.toList) = false := by
  rw [beq_eq_false_iff_ne, ByteArray.toList_eq, ByteArray.toList_eq]
  exact fun e => h (ByteArray.ext (Array.ext' e))
theorem no_pre {a b : Ev} {ta tb : ByteArray} (ha : Frm a) (hb : Frm b) (h1 : ta.data.toList = E3 a) (h2 : tb.data.toList = E3 b) (h : a ≠ b) : tb.extract 0 ta.size ≠ ta := fun e => by
  refine h (E3_pre ha hb ?_)
  have e2 : (tb.extract 0 ta.size).data.toList = tb.data.toList.take ta.size := by simp
  rw [e, h1, h2] at e2
  rw [e2]; exact List.take_prefix _ _
set_option maxRecDepth 100000 in
set_option maxHeartbeats 8000000 in
theorem law12_any (Ax : Option Addr) (cx : Nat) (xs : List T3) (i k at_ : Int) (s : ByteArray) (cb : Nat) (w : World) (hlen : xs.length ≤ maxLen) (hS : Span w w.heap.size 3 Ax xs.length (xs.flatMap tcells))
    (hb : (∀ x ∈ xs, Tri x) ∧ I64 i ∧ I64 k ∧ I64 at_ ∧ s.size ≤ maxLen ∧ cb < 256) :
    Calls Try.prog 12 #[.slice Ax xs.length cx, .int .i64 i, .int .i64 k, .string s, .int .i64 at_, .int .u8 cb] w fun e w' => e = .returned (.bool true) ∧ Below w.heap.size w w' := by
  obtain ⟨ha, hi_, hk_, hat, hss, hcb⟩ := hb
  obtain ⟨hAll, hL16⟩ := made_life xs
  obtain ⟨es, hes⟩ : ∃ es, es = madeV xs := ⟨_, rfl⟩
  rw [← hes] at hAll hL16
  have HES := Lib.hid hes
  have bp := pickV_bd at_ (show (0 : Int) < 10000001 by decide)
  obtain ⟨p, hp⟩ : ∃ p, p = pickV at_ 10000001 := ⟨_, rfl⟩
  rw [← hp] at bp
  have HP := Lib.hid hp
  obtain ⟨fs, hfs⟩ : ∃ fs, fs = es ++ [⟨5, p, -1⟩] := ⟨_, rfl⟩
  have HFS := Lib.hid hfs
  have hfl : fs.length = es.length + 1 := by rw [hfs]; simp
  have hfr : ∀ e ∈ fs, Frm e := fun e he => by
    rw [hfs] at he
    rcases List.mem_append.1 he with h | h
    · exact all_frm hAll e h
    · simp at h; subst h; exact frm_plain (by decide) (by decide) (by omega) (by omega)
  have bi := pickV_bd i (show (0 : Int) < (es.length : Int) + 1 by omega)
  have bk := pickV_bd k (show (0 : Int) < (es.length : Int) + 1 by omega)
  obtain ⟨ii, hii⟩ : ∃ n : Nat, (n : Int) = pickV i ((es.length : Int) + 1) := ⟨(pickV i ((es.length : Int) + 1)).toNat, by omega⟩
  obtain ⟨kk, hkk⟩ : ∃ n : Nat, (n : Int) = pickV k ((es.length : Int) + 1) := ⟨(pickV k ((es.length : Int) + 1)).toNat, by omega⟩
  rw [← hii] at bi
  rw [← hkk] at bk
  have HII := Lib.hid hii
  have HKK := Lib.hid hkk
  have li : ii < fs.length := by omega
  have lk : kk < fs.length := by omega
  obtain ⟨a, ha_⟩ : ∃ a, a = fs[ii] := ⟨_, rfl⟩
  obtain ⟨b, hb_⟩ : ∃ b, b = fs[kk] := ⟨_, rfl⟩
  have fa := Lib.hid (show Frm a by rw [ha_]; exact hfr _ (List.getElem_mem li))
  have fb := Lib.hid (show Frm b by rw [hb_]; exact hfr _ (List.getElem_mem lk))
  have HAD := Lib.hid ha_
  have HBD := Lib.hid hb_
  have HFL := Lib.hid hfl
  obtain ⟨ta, hta⟩ : ∃ x : ByteArray, x = ⟨(E3 a).toArray⟩ := ⟨_, rfl⟩
  obtain ⟨tb, htb⟩ : ∃ x : ByteArray, x = ⟨(E3 b).toArray⟩ := ⟨_, rfl⟩
  have EA1 := Lib.hid (show encR a = (E3 a, 0) from encR_ok fa.out)
  have EB1 := Lib.hid (show encR b = (E3 b, 0) from encR_ok fb.out)
  have HTA := Lib.hid hta
  have HTB := Lib.hid htb
  have HLA := Lib.hid (show ta.data.toList = E3 a by rw [hta])
  have HLB := Lib.hid (show tb.data.toList = E3 b by rw [htb])
  have sza : 0 < ta.size ∧ ta.size ≤ 27 := by
    have h : ta.size = (E3 a).length := by rw [hta]; simp [ByteArray.size]
    have := E3_pos a; have := E3_len a; omega
  have szb : 0 < tb.size ∧ tb.size ≤ 27 := by
    have h : tb.size = (E3 b).length := by rw [htb]; simp [ByteArray.size]
    have := E3_pos b; have := E3_len b; omega
  obtain ⟨sza0, sza1⟩ := sza
  obtain ⟨szb0, szb1⟩ := szb
  have ED1 := Lib.hid (show decR ta.data.toList = (a, 0) by rw [HLA.out]; exact dec_enc fa.out)
  obtain ⟨i0, hi, hz0, hz1, hz2⟩ := info_parts infoEv
  obtain ⟨bp0, bp1⟩ := bp
  obtain ⟨bi0, bi1⟩ := bi
  obtain ⟨bk0, bk1⟩ := bk
  clear hAll hes hp hfs hfl hfr hii hkk ha_ hb_ hta htb
  have HSX := Lib.hid hS
  have HW : Hid (Below w.heap.size w w) := Lib.hid (Below.refl _ _)
  obtain ⟨W0, hW0⟩ : ∃ W0, W0 = w := ⟨_, rfl⟩
  rw [← hW0] at HSX HW
  subst hW0
  clear hS
  go_enter Try.func12, Try.ntmps12
  go_wp2_with fail
  refine (sane_any _).mono ?_
  rintro e W1 ⟨rfl, hb⟩
  replace HSX := Lib.hid ((HSX.out.below hb (Nat.le_refl _)).mono hb.size)
  replace HW := Lib.hid (below_trans HW.out hb)
  clear hb
  go_wp2_with fail
  refine (rmade_own Ax cx xs _ hlen HSX.out ha).mono ?_
  rintro e W2 ⟨⟨vl, rfl, h1⟩, hb⟩
  have HSZ := hb.size
  have HZ01 := HW.out.size
  clear HSX
  replace HW := Lib.hid (below_trans HW.out hb)
  clear hb
  rw [← HES.out] at h1
  have hb2 : W1.heap.size ≤ W2.heap.size := by
    rcases h1.2 with ⟨_, h0⟩ | ⟨gg, _, _, _, hg1, hg2, _⟩
    · exact HSZ
    · have := heap_lt hg2; omega
  go_wp2_with (first | (at_builtin; refine wpList_append_own _ rfl _ _ 24 rfl W1.heap.size 54 i0 _ 3 24 Try.underlying24 hi hz0 hz1 hz2 rfl (by decide) _ _ _ rfl (h1.alloc _) ⟨W2.heap.size, 0, none⟩ 1 1 (evc ⟨5, p, -1⟩) rfl rfl (news_ev _ ⟨5, p, -1⟩) (evc_one _) (by unfold maxLen; omega) (by omega) (by simp; omega) ?_; intro v' W3 hown3 hgrow3 hnil3; clear hnil3; obtain ⟨gb, cap, rfl, hg1, hg2⟩ := hown3.form (by omega)) | (go_at_call 29; (with_reducible refine (pick_any at_ 10000001 _ hat (by decide) (by decide)).mono ?_); rintro e wq ⟨rfl, rfl⟩; rw [← HP.out]))
  replace HW := Lib.hid (own_append_below HW.out hgrow3 h1 HW.out.size HZ01)
  have HL : Hid (HoldsG evc 3 W3 W3.heap.size (.slice (some ⟨gb, 0, none⟩) (es.length + 1) cap) fs) := Lib.hid (by
    have h : HoldsG evc 3 W3 W3.heap.size (.slice (some ⟨gb, 0, none⟩) (es.length + 1) cap) fs := HoldsG.of_own (base := W1.heap.size) (by rw [HFL.out, HFS.out, evcs_snoc]; exact hown3)
    exact h)
  clear h1 hown3 hgrow3 hb2
  go_wp2_with fail
  refine (pick_any i ((es.length : Int) + 1) _ hi_ (by omega) (by omega)).mono ?_
  rintro e wq ⟨rfl, rfl⟩
  rw [← HII.out]
  obtain ⟨_, hA, x0, x1, x2⟩ := ev_at HL.out li
  cases hA
  simp only [add0] at x0 x1 x2
  rw [← HAD.out] at x0 x1 x2
  have n0 := heap_of_cell x0
  have n1 := World.new_ne W3 _ x0
  go_upto_region 5 with fail
  clear x0 x1 x2 n0 n1
  obtain ⟨W4, hnew⟩ : ∃ W, W = W3.alloc (.cells #[.int .i64 a.k, .int .i64 a.a, .int .i64 a.h] 54) := ⟨_, rfl⟩
  rw [← hnew]
  obtain ⟨EAq, EAh⟩ : ∃ q, q = W3.heap.size := ⟨_, rfl⟩
  rw [← EAh]
  have EA0 : Hid (W4.heap[EAq]? = some (.cells #[.int .i64 a.k, .int .i64 a.a, .int .i64 a.h] 54)) := Lib.hid (by rw [hnew, EAh]; exact newcell _ _)
  have hb : Below W3.heap.size W3 W4 := by rw [hnew]; exact below_new _ _
  clear hnew EAh
  replace HW := Lib.hid (below_trans HW.out hb)
  replace HL := Lib.hid (HL.out.later hb)
  clear hb
  have EA := EA0
  clear EA0
  go_wp2_with fail
  refine (pick_any k ((es.length : Int) + 1) _ hk_ (by omega) (by omega)).mono ?_
  rintro e wq ⟨rfl, rfl⟩
  rw [← HKK.out]
  obtain ⟨_, hA, x0, x1, x2⟩ := ev_at HL.out lk
  cases hA
  simp only [add0] at x0 x1 x2
  rw [← HBD.out] at x0 x1 x2
  have n0 := heap_of_cell x0
  have n1 := World.new_ne W4 _ x0
  go_upto_region 6 with fail
  clear x0 x1 x2 n0 n1
  obtain ⟨W5, hnew⟩ : ∃ W, W = W4.alloc (.cells #[.int .i64 b.k, .int .i64 b.a, .int .i64 b.h] 54) := ⟨_, rfl⟩
  rw [← hnew]
  obtain ⟨EBq, EBh⟩ : ∃ q, q = W4.heap.size := ⟨_, rfl⟩
  rw [← EBh]
  have EB0 : Hid (W5.heap[EBq]? = some (.cells #[.int .i64 b.k, .int .i64 b.a, .int .i64 b.h] 54)) := Lib.hid (by rw [hnew, EBh]; exact newcell _ _)
  have hb : Below W4.heap.size W4 W5 := by rw [hnew]; exact below_new _ _
  clear hnew EBh
  replace HW := Lib.hid (below_trans HW.out hb)
  replace HL := Lib.hid (HL.out.later hb)
  replace EA := Lib.hid (keepcell EA.out hb)
  clear hb
  have EB := EB0
  clear EB0
  obtain ⟨EA_0, EA_1, EA_2, _, _, _, EA_4⟩ := ev_cells (x := a) EA.out
  go_wp2_with fail
  refine (lencode_any a _).mono ?_
  rintro e W6 ⟨rfl, hb⟩
  rw [EA1.out]
  dsimp only
  rw [← HTA.out]
  clear EA_0 EA_1 EA_2 EA_4
  replace HW := Lib.hid (below_trans HW.out hb)
  replace HL := Lib.hid (HL.out.later hb)
  replace EA := Lib.hid (keepcell EA.out hb)
  replace EB := Lib.hid (keepcell EB.out hb)
  clear hb
  obtain ⟨EB_0, EB_1, EB_2, _, _, _, EB_4⟩ := ev_cells (x := b) EB.out
  go_wp2_with fail
  refine (lencode_any b _).mono ?_
  rintro e W7 ⟨rfl, hb⟩
  rw [EB1.out]
  dsimp only
  rw [← HTB.out]
  clear EB_0 EB_1 EB_2 EB_4
  replace HW := Lib.hid (below_trans HW.out hb)
  replace HL := Lib.hid (HL.out.later hb)
  replace EA := Lib.hid (keepcell EA.out hb)
  replace EB := Lib.hid (keepcell EB.out hb)
  clear hb
  go_wp2_with fail
  refine (ldecode_any ta _ (by unfold maxLen; omega)).mono ?_
  unfold DecPost
  rintro e W8 ⟨rfl, hb⟩
  rw [ED1.out]
  dsimp only [evA]
  replace HW := Lib.hid (below_trans HW.out hb)
  replace HL := Lib.hid (HL.out.later hb)
  replace EA := Lib.hid (keepcell EA.out hb)
  replace EB := Lib.hid (keepcell EB.out hb)
  clear hb
  go_upto_region 9 with fail
  obtain ⟨W9, hnew⟩ : ∃ W, W = W8.alloc (.cells #[.int .i64 a.k, .int .i64 a.a, .int .i64 a.h] 54) := ⟨_, rfl⟩
  rw [← hnew]
  obtain ⟨EDq, EDh⟩ : ∃ q, q = W8.heap.size := ⟨_, rfl⟩
  rw [← EDh]
  have ED0 : Hid (W9.heap[EDq]? = some (.cells #[.int .i64 a.k, .int .i64 a.a, .int .i64 a.h] 54)) := Lib.hid (by rw [hnew, EDh]; exact newcell _ _)
  have hb : Below W8.heap.size W8 W9 := by rw [hnew]; exact below_new _ _
  clear hnew EDh
  replace HW := Lib.hid (below_trans HW.out hb)
  replace HL := Lib.hid (HL.out.later hb)
  replace EA := Lib.hid (keepcell EA.out hb)
  replace EB := Lib.hid (keepcell EB.out hb)
  clear hb
  have ED := ED0
  clear ED0
  have HAB := Lib.hid (show a ≠ b → ta ≠ tb ∧ tb.extract 0 ta.size ≠ ta ∧ ta.extract 0 tb.size ≠ tb from fun h =>
    ⟨fun e => h (E3_pre fa.out fb.out (by rw [← HLA.out, ← HLB.out, e]; exact List.prefix_refl _)), no_pre fa.out fb.out HLA.out HLB.out h, no_pre fb.out fa.out HLB.out HLA.out (Ne.symm h)⟩)
  go_cut [95] (fun v wx => v = .bool false ∧ W9 = wx)
  case first =>
    obtain ⟨a0, a1, a2, _, _, _, a4⟩ := ev_cells (x := a) EA.out
    obtain ⟨b0, b1, b2, _, _, _, b4⟩ := ev_cells (x := b) EB.out
    obtain ⟨d0, d1, d2, _, _, _, d4⟩ := ev_cells (x := a) ED.out
    have guard := fun W => run_eqGuard_agg (P := Try.prog) (w := W) .neq 54
    have guard2 := fun W => run_eqGuard_agg (P := Try.prog) (w := W) .eql 54
    have hn : ∀ w, (binOp .neq 54 (.agg #[.int .i64 a.k, .int .i64 a.a, .int .i64 a.h]) (.agg #[.int .i64 a.k, .int .i64 a.a, .int .i64 a.h])).run Try.prog w = .ok (.bool false) w := fun w => by rw [neqEv]; simp
    have z1 : (0 : Int) < (ta.size : Int) := by omega
    have z2 : ((ta.size : Int) == 0) = false := by rw [beq_eq_false_iff_ne]; omega
    by_cases hab : a = b
    · subst hab
      obtain rfl : ta = tb := HTA.out.trans HTB.out.symm
      have he : ∀ w, (binOp .eql 54 (.agg #[.int .i64 a.k, .int .i64 a.a, .int .i64 a.h]) (.agg #[.int .i64 a.k, .int .i64 a.a, .int .i64 a.h])).run Try.prog w = .ok (.bool true) w := fun w => by rw [eqlEv]; simp
      go_wp2_with fail
      go_meet
      exact ⟨rfl, rfl⟩
    · have he : ∀ w, (binOp .eql 54 (.agg #[.int .i64 a.k, .int .i64 a.a, .int .i64 a.h]) (.agg #[.int .i64 b.k, .int .i64 b.a, .int .i64 b.h])).run Try.prog w = .ok (.bool false) w := fun w => by
        rw [eqlEv, decide_eq_false (fun h => hab (ev_ext h.1 h.2.1 h.2.2))]
      have hne := (HAB.out hab).1
      have t1 := bne_l hne
      clear hab hne
      go_wp2_with fail
      go_meet
      exact ⟨rfl, rfl⟩
  obtain ⟨rfl, rfl⟩ := hcut
  go_upto_region 11 with fail
  go_cut [128] (fun v wx => v = .bool false ∧ W9 = wx)
  case first =>
    by_cases hab : a = b
    · subst hab
      obtain rfl : ta = tb := HTA.out.trans HTB.out.symm
      go_wp2_with fail
      go_meet
      exact ⟨rfl, rfl⟩
    · obtain ⟨hne, hp1, hp2⟩ := HAB.out hab
      have t1 := bne_l hne
      have t3 := bne_l hp1
      have t4 := bne_l hp2
      clear hab hne hp1 hp2
      by_cases l1 : ta.size ≤ tb.size
      · by_cases l2 : tb.size ≤ ta.size
        · go_wp2_with fail
          go_meet
          exact ⟨rfl, rfl⟩
        · go_wp2_with fail
          go_meet
          exact ⟨rfl, rfl⟩
      · go_wp2_with fail
        go_meet
        exact ⟨rfl, rfl⟩
  obtain ⟨rfl, rfl⟩ := hcut
  have bn := pickV_bd at_ (show (0 : Int) < (ta.size : Int) by omega)
  obtain ⟨nn, hnn⟩ : ∃ n : Nat, (n : Int) = pickV at_ (ta.size : Int) := ⟨(pickV at_ (ta.size : Int)).toNat, by omega⟩
  rw [← hnn] at bn
  have HNN := Lib.hid hnn
  obtain ⟨bn0, bn1⟩ := bn
  clear hnn
  go_wp2_with fail
  refine (pick_any at_ (ta.size : Int) _ hat (by omega) (by omega)).mono ?_
  rintro e wq ⟨rfl, rfl⟩
  rw [← HNN.out]
  go_upto_region 14 with fail
  have hss2 : (s.size : Int) ≤ 9223372036854775807 := by unfold maxLen at hss; omega
  go_cut [157, 158, 159] (fun sl ln ix wx => ∃ (gq : Nat) (z0 z1 z2 : ByteArray), sl = .slice (some ⟨gq, 0, none⟩) 3 3 ∧ ln = .int .i64 3 ∧ ix = .int .i64 0 ∧ wx.heap[gq]? = some (.cells #[.string z0, .string z1, .string z2] 9) ∧ z0.size ≤ 1000 ∧ z1.size ≤ 1000 ∧ z2.size ≤ 1000 ∧ Below W9.heap.size W9 wx)
  case first =>
    have HWB := Lib.hid (Below.refl W9.heap.size W9)
    have k1 := conv1 (cb : Int)
    have k2 := conv1d (cb : Int)
    have s1 : IntKind.i64.wrap ((nn : Int) + 1) = (nn : Int) + 1 := IntWalk.i64_in _ (by omega)
    have q1 : (nn : Int) + 1 ≤ (ta.size : Int) := by omega
    have q2 : (nn : Int) ≤ (ta.size : Int) := by omega
    have q3 : (0 : Int) ≤ (nn : Int) + 1 := by omega
    by_cases hs30 : s.size ≤ 30
    · have hs31 : (s.size : Int) ≤ 30 := by omega
      have hs32 : (0 : Int) ≤ (s.size : Int) := by omega
      have c1 : ¬ (9223372036854775807 < ta.size + s.size) := by omega
      have c2 : ¬ (9223372036854775807 < min nn ta.size + 1) := by omega
      have c3 : ¬ (9223372036854775807 < min nn ta.size + 1 + (ta.size - (nn + 1))) := by omega
      refine wp_region_any (by kernel_rfl) ?_
      try (change wpAny _ _ _ _ _ _ _ (World.drew _))
      refine wpAny_take (i := 0) (v := ?rv1) rfl (by kernel_rfl) (by kernel_rfl) (by kernel_rfl) (fun _ _ _ h => h) (Or.inl ⟨by kernel_rfl, ?ry1⟩) ?rz1
      case ry1 => intro w; go_simp; try with_reducible rfl
      refine wpAny_take (i := 1) (v := ?rv2) rfl (by kernel_rfl) (by kernel_rfl) (by kernel_rfl) (fun _ _ _ h => h) (Or.inl ⟨by kernel_rfl, ?ry2⟩) ?rz2
      case ry2 => intro w; go_simp; try with_reducible rfl
      refine wpAny_take (i := 2) (v := ?rv3) rfl (by kernel_rfl) (by kernel_rfl) (by kernel_rfl) (fun _ _ _ h => h) (Or.inl ⟨by kernel_rfl, ?ry3⟩) ?rz3
      case ry3 => intro w; go_simp; try with_reducible rfl
      refine wpAny_take (i := 3) (v := ?rv4) rfl (by kernel_rfl) (by kernel_rfl) (by kernel_rfl) (fun _ _ _ h => h) (Or.inl ⟨by kernel_rfl, ?ry4⟩) ?rz4
      case ry4 => intro w; go_simp; try with_reducible rfl
      refine wpAny_take (i := 4) (v := ?rv5) rfl (by kernel_rfl) (by kernel_rfl) (by kernel_rfl) (fun _ _ _ h => h) (Or.inl ⟨by kernel_rfl, ?ry5⟩) ?rz5
      case ry5 => intro w; go_simp; try with_reducible rfl
      refine wpAny_take (i := 5) (v := ?rv6) rfl (by kernel_rfl) (by kernel_rfl) (by kernel_rfl) (fun _ _ _ h => h) (Or.inl ⟨by kernel_rfl, ?ry6⟩) ?rz6
      case ry6 => intro w; go_simp; try with_reducible rfl
      refine wpAny_take (i := 6) (v := ?rv7) rfl (by kernel_rfl) (by kernel_rfl) (by kernel_rfl) (fun _ _ _ h => h) (Or.inl ⟨by kernel_rfl, ?ry7⟩) ?rz7
      case ry7 => intro w; go_simp; try with_reducible rfl
      refine wpAny_take (i := 7) (v := ?rv8) rfl (by kernel_rfl) (by kernel_rfl) (by kernel_rfl) (fun _ _ _ h => h) (Or.inl ⟨by kernel_rfl, ?ry8⟩) ?rz8
      case ry8 => intro w; go_simp; try with_reducible rfl
      refine wpAny_take (i := 8) (v := ?rv9) rfl (by kernel_rfl) (by kernel_rfl) (by kernel_rfl) (fun _ _ _ h => h) (Or.inl ⟨by kernel_rfl, ?ry9⟩) ?rz9
      case ry9 => intro w; go_simp; try with_reducible rfl
      refine wpAny_take (i := 12) (v := ?rv10) rfl (by kernel_rfl) (by kernel_rfl) (by kernel_rfl) (fun _ _ _ h => h) (Or.inl ⟨by kernel_rfl, ?ry10⟩) ?rz10
      case ry10 => intro w; go_simp; try with_reducible rfl
      refine wpAny_take (i := 13) (v := ?rv11) rfl (by kernel_rfl) (by kernel_rfl) (by kernel_rfl) (fun _ _ _ h => h) (Or.inl ⟨by kernel_rfl, ?ry11⟩) ?rz11
      case ry11 => intro w; go_simp; try with_reducible rfl
      refine wpAny_take (i := 14) (v := ?rv12) rfl (by kernel_rfl) (by kernel_rfl) (by kernel_rfl) (fun _ _ _ h => h) (Or.inl ⟨by kernel_rfl, ?ry12⟩) ?rz12
      case ry12 => intro w; go_simp; try with_reducible rfl
      refine wpAny_take (i := 15) (v := ?rv13) rfl (by kernel_rfl) (by kernel_rfl) (by kernel_rfl) (fun _ _ _ h => h) (Or.inl ⟨by kernel_rfl, ?ry13⟩) ?rz13
      case ry13 => intro w; go_simp; try with_reducible rfl
      refine wpAny_take (i := 17) (v := ?rv14) rfl (by kernel_rfl) (by kernel_rfl) (by kernel_rfl) (fun _ _ _ h => h) (Or.inl ⟨by kernel_rfl, ?ry14⟩) ?rz14
      case ry14 => intro w; go_simp; try with_reducible rfl
      refine wpAny_take (i := 18) (v := ?rv15) rfl (by kernel_rfl) (by kernel_rfl) (by kernel_rfl) (fun _ _ _ h => h) (Or.inl ⟨by kernel_rfl, ?ry15⟩) ?rz15
      case ry15 => intro w; go_simp; try with_reducible rfl
      refine wpAny_take (i := 19) (v := ?rv16) rfl (by kernel_rfl) (by kernel_rfl) (by kernel_rfl) (fun _ _ _ h => h) (Or.inl ⟨by kernel_rfl, ?ry16⟩) ?rz16
      case ry16 => intro w; go_simp; try with_reducible rfl
      refine wpAny_take (i := 20) (v := ?rv17) rfl (by kernel_rfl) (by kernel_rfl) (by kernel_rfl) (fun _ _ _ h => h) (Or.inl ⟨by kernel_rfl, ?ry17⟩) ?rz17
      case ry17 => intro w; go_simp; try with_reducible rfl
      refine wpAny_take (i := 21) (v := ?rv18) rfl (by kernel_rfl) (by kernel_rfl) (by kernel_rfl) (fun _ _ _ h => h) (Or.inl ⟨by kernel_rfl, ?ry18⟩) ?rz18
      case ry18 => intro w; go_simp; try with_reducible rfl
      refine wpAny_take (i := 22) (v := ?rv19) rfl (by kernel_rfl) (by kernel_rfl) (by kernel_rfl) (fun _ _ _ h => h) (Or.inl ⟨by kernel_rfl, ?ry19⟩) ?rz19
      case ry19 => intro w; go_simp; try with_reducible rfl
      refine wpAny_take (i := 23) (v := ?rv20) rfl (by kernel_rfl) (by kernel_rfl) (by kernel_rfl) (fun _ _ _ h => h) (Or.inl ⟨by kernel_rfl, ?ry20⟩) ?rz20
      case ry20 => intro w; go_simp; try with_reducible rfl
      refine wpAny_take (i := 26) (v := ?rv21) rfl (by kernel_rfl) (by kernel_rfl) (by kernel_rfl) (fun _ _ _ h => h) (Or.inl ⟨by kernel_rfl, ?ry21⟩) ?rz21
      case ry21 => intro w; go_simp; try with_reducible rfl
      refine wpAny_ready (rs := [9]) (by kernel_rfl) (by simp) ?_
      refine AllReady.cons rfl (fun K hK => ?_) AllReady.nil
      go_simp
      refine hK _ _ ?_
      clear hK K
      refine wpAny_ready (rs := [10]) (by kernel_rfl) (by simp) ?_
      refine AllReady.cons rfl (fun K hK => ?_) AllReady.nil
      go_simp
      refine hK _ _ ?_
      clear hK K
      refine wpAny_take (i := 11) (v := ?rv22) rfl (by kernel_rfl) (by kernel_rfl) (by kernel_rfl) (fun _ _ _ h => h) (Or.inl ⟨by kernel_rfl, ?ry22⟩) ?rz22
      case ry22 => intro w; go_simp; try with_reducible rfl
      refine wpAny_take (i := 16) (v := ?rv23) rfl (by kernel_rfl) (by kernel_rfl) (by kernel_rfl) (fun _ _ _ h => h) (Or.inl ⟨by kernel_rfl, ?ry23⟩) ?rz23
      case ry23 => intro w; go_simp; try with_reducible rfl
      refine wpAny_ready (rs := [24]) (by kernel_rfl) (by simp) ?_
      refine AllReady.cons rfl (fun K hK => ?_) AllReady.nil
      go_simp
      refine hK _ _ ?_
      clear hK K
      refine wpAny_take (i := 25) (v := ?rv24) rfl (by kernel_rfl) (by kernel_rfl) (by kernel_rfl) (fun _ _ _ h => h) (Or.inl ⟨by kernel_rfl, ?ry24⟩) ?rz24
      case ry24 => intro w; go_simp; try with_reducible rfl
      refine wpAny_done (by kernel_rfl) ?_ _
      go_wp2_with fail
      go_meet
      exact ⟨_, _, _, _, rfl, rfl, rfl, new_at _ (by simp), by first | omega | exact sz30 _, sz3 _ _ _ sza1, by first | exact sz2 _ _ sza1 hs30 | exact sz4 _ _ sza1, by repeat (first | with_reducible exact HWB.out | with_reducible refine Below.drew ?_ | with_reducible refine Below.alloc ?_ (by simp) _)⟩
    · have hs31 : (30 : Int) < (s.size : Int) := by omega
      have hs32 : (30 : Int) ≤ (s.size : Int) := by omega
      have c1 : ¬ (9223372036854775807 < ta.size + min 30 s.size) := by omega
      have c2 : ¬ (9223372036854775807 < min nn ta.size + 1) := by omega
      have c3 : ¬ (9223372036854775807 < min nn ta.size + 1 + (ta.size - (nn + 1))) := by omega
      refine wp_region_any (by kernel_rfl) ?_
      try (change wpAny _ _ _ _ _ _ _ (World.drew _))
      refine wpAny_take (i := 0) (v := ?rv101) rfl (by kernel_rfl) (by kernel_rfl) (by kernel_rfl) (fun _ _ _ h => h) (Or.inl ⟨by kernel_rfl, ?ry101⟩) ?rz101
      case ry101 => intro w; go_simp; try with_reducible rfl
      refine wpAny_take (i := 1) (v := ?rv102) rfl (by kernel_rfl) (by kernel_rfl) (by kernel_rfl) (fun _ _ _ h => h) (Or.inl ⟨by kernel_rfl, ?ry102⟩) ?rz102
      case ry102 => intro w; go_simp; try with_reducible rfl
      refine wpAny_take (i := 2) (v := ?rv103) rfl (by kernel_rfl) (by kernel_rfl) (by kernel_rfl) (fun _ _ _ h => h) (Or.inl ⟨by kernel_rfl, ?ry103⟩) ?rz103
      case ry103 => intro w; go_simp; try with_reducible rfl
      refine wpAny_take (i := 3) (v := ?rv104) rfl (by kernel_rfl) (by kernel_rfl) (by kernel_rfl) (fun _ _ _ h => h) (Or.inl ⟨by kernel_rfl, ?ry104⟩) ?rz104
      case ry104 => intro w; go_simp; try with_reducible rfl
      refine wpAny_take (i := 4) (v := ?rv105) rfl (by kernel_rfl) (by kernel_rfl) (by kernel_rfl) (fun _ _ _ h => h) (Or.inl ⟨by kernel_rfl, ?ry105⟩) ?rz105
      case ry105 => intro w; go_simp; try with_reducible rfl
      refine wpAny_take (i := 5) (v := ?rv106) rfl (by kernel_rfl) (by kernel_rfl) (by kernel_rfl) (fun _ _ _ h => h) (Or.inl ⟨by kernel_rfl, ?ry106⟩) ?rz106
      case ry106 => intro w; go_simp; try with_reducible rfl
      refine wpAny_take (i := 6) (v := ?rv107) rfl (by kernel_rfl) (by kernel_rfl) (by kernel_rfl) (fun _ _ _ h => h) (Or.inl ⟨by kernel_rfl, ?ry107⟩) ?rz107
      case ry107 => intro w; go_simp; try with_reducible rfl
      refine wpAny_take (i := 7) (v := ?rv108) rfl (by kernel_rfl) (by kernel_rfl) (by kernel_rfl) (fun _ _ _ h => h) (Or.inl ⟨by kernel_rfl, ?ry108⟩) ?rz108
      case ry108 => intro w; go_simp; try with_reducible rfl
      refine wpAny_take (i := 8) (v := ?rv109) rfl (by kernel_rfl) (by kernel_rfl) (by kernel_rfl) (fun _ _ _ h => h) (Or.inl ⟨by kernel_rfl, ?ry109⟩) ?rz109
      case ry109 => intro w; go_simp; try with_reducible rfl
      refine wpAny_take (i := 12) (v := ?rv110) rfl (by kernel_rfl) (by kernel_rfl) (by kernel_rfl) (fun _ _ _ h => h) (Or.inl ⟨by kernel_rfl, ?ry110⟩) ?rz110
      case ry110 => intro w; go_simp; try with_reducible rfl
      refine wpAny_take (i := 13) (v := ?rv111) rfl (by kernel_rfl) (by kernel_rfl) (by kernel_rfl) (fun _ _ _ h => h) (Or.inl ⟨by kernel_rfl, ?ry111⟩) ?rz111
      case ry111 => intro w; go_simp; try with_reducible rfl
      refine wpAny_take (i := 14) (v := ?rv112) rfl (by kernel_rfl) (by kernel_rfl) (by kernel_rfl) (fun _ _ _ h => h) (Or.inl ⟨by kernel_rfl, ?ry112⟩) ?rz112
      case ry112 => intro w; go_simp; try with_reducible rfl
      refine wpAny_take (i := 15) (v := ?rv113) rfl (by kernel_rfl) (by kernel_rfl) (by kernel_rfl) (fun _ _ _ h => h) (Or.inl ⟨by kernel_rfl, ?ry113⟩) ?rz113
      case ry113 => intro w; go_simp; try with_reducible rfl
      refine wpAny_take (i := 17) (v := ?rv114) rfl (by kernel_rfl) (by kernel_rfl) (by kernel_rfl) (fun _ _ _ h => h) (Or.inl ⟨by kernel_rfl, ?ry114⟩) ?rz114
      case ry114 => intro w; go_simp; try with_reducible rfl
      refine wpAny_take (i := 18) (v := ?rv115) rfl (by kernel_rfl) (by kernel_rfl) (by kernel_rfl) (fun _ _ _ h => h) (Or.inl ⟨by kernel_rfl, ?ry115⟩) ?rz115
      case ry115 => intro w; go_simp; try with_reducible rfl
      refine wpAny_take (i := 19) (v := ?rv116) rfl (by kernel_rfl) (by kernel_rfl) (by kernel_rfl) (fun _ _ _ h => h) (Or.inl ⟨by kernel_rfl, ?ry116⟩) ?rz116
      case ry116 => intro w; go_simp; try with_reducible rfl
      refine wpAny_take (i := 20) (v := ?rv117) rfl (by kernel_rfl) (by kernel_rfl) (by kernel_rfl) (fun _ _ _ h => h) (Or.inl ⟨by kernel_rfl, ?ry117⟩) ?rz117
      case ry117 => intro w; go_simp; try with_reducible rfl
      refine wpAny_take (i := 21) (v := ?rv118) rfl (by kernel_rfl) (by kernel_rfl) (by kernel_rfl) (fun _ _ _ h => h) (Or.inl ⟨by kernel_rfl, ?ry118⟩) ?rz118
      case ry118 => intro w; go_simp; try with_reducible rfl
      refine wpAny_take (i := 22) (v := ?rv119) rfl (by kernel_rfl) (by kernel_rfl) (by kernel_rfl) (fun _ _ _ h => h) (Or.inl ⟨by kernel_rfl, ?ry119⟩) ?rz119
      case ry119 => intro w; go_simp; try with_reducible rfl
      refine wpAny_take (i := 23) (v := ?rv120) rfl (by kernel_rfl) (by kernel_rfl) (by kernel_rfl) (fun _ _ _ h => h) (Or.inl ⟨by kernel_rfl, ?ry120⟩) ?rz120
      case ry120 => intro w; go_simp; try with_reducible rfl
      refine wpAny_take (i := 26) (v := ?rv121) rfl (by kernel_rfl) (by kernel_rfl) (by kernel_rfl) (fun _ _ _ h => h) (Or.inl ⟨by kernel_rfl, ?ry121⟩) ?rz121
      case ry121 => intro w; go_simp; try with_reducible rfl
      refine wpAny_ready (rs := [9]) (by kernel_rfl) (by simp) ?_
      refine AllReady.cons rfl (fun K hK => ?_) AllReady.nil
      go_simp
      refine hK _ _ ?_
      clear hK K
      refine wpAny_ready (rs := [10]) (by kernel_rfl) (by simp) ?_
      refine AllReady.cons rfl (fun K hK => ?_) AllReady.nil
      go_simp
      refine hK _ _ ?_
      clear hK K
      refine wpAny_take (i := 11) (v := ?rv122) rfl (by kernel_rfl) (by kernel_rfl) (by kernel_rfl) (fun _ _ _ h => h) (Or.inl ⟨by kernel_rfl, ?ry122⟩) ?rz122
      case ry122 => intro w; go_simp; try with_reducible rfl
      refine wpAny_take (i := 16) (v := ?rv123) rfl (by kernel_rfl) (by kernel_rfl) (by kernel_rfl) (fun _ _ _ h => h) (Or.inl ⟨by kernel_rfl, ?ry123⟩) ?rz123
      case ry123 => intro w; go_simp; try with_reducible rfl
      refine wpAny_ready (rs := [24]) (by kernel_rfl) (by simp) ?_
      refine AllReady.cons rfl (fun K hK => ?_) AllReady.nil
      go_simp
      refine hK _ _ ?_
      clear hK K
      refine wpAny_take (i := 25) (v := ?rv124) rfl (by kernel_rfl) (by kernel_rfl) (by kernel_rfl) (fun _ _ _ h => h) (Or.inl ⟨by kernel_rfl, ?ry124⟩) ?rz124
      case ry124 => intro w; go_simp; try with_reducible rfl
      refine wpAny_done (by kernel_rfl) ?_ _
      go_wp2_with fail
      go_meet
      exact ⟨_, _, _, _, rfl, rfl, rfl, new_at _ (by simp), by first | omega | exact sz30 _, sz3 _ _ _ sza1, by first | exact sz2 _ _ sza1 hs30 | exact sz4 _ _ sza1, by repeat (first | with_reducible exact HWB.out | with_reducible refine Below.drew ?_ | with_reducible refine Below.alloc ?_ (by simp) _)⟩
  obtain ⟨gq, z0, z1, z2, rfl, rfl, rfl, hz, y0, y1, y2, hb⟩ := hcut
  obtain ⟨W10, hnew⟩ : ∃ W, W = wc := ⟨_, rfl⟩
  subst hnew
  have HZ := Lib.hid hz
  replace HW := Lib.hid (below_trans HW.out hb)
  clear hz hb HL EA EB ED
  go_wp2_with fail
  go_loopw [159] (fun i wr => ∃ j : Nat, j ≤ 3 ∧ i = .int .i64 j ∧ Below W10.heap.size W10 wr) (fun i _ => 3 - (intOf i).toNat)
  case atStart => exact ⟨0, by omega, rfl, Below.refl _ _⟩
  case round =>
    obtain ⟨j, hj, rfl, hbr⟩ := hrel
    have HBR := Lib.hid hbr
    have hzr := keepcell HZ.out hbr
    clear hbr
    by_cases hj3 : j < 3
    · obtain ⟨z, hzc, hzs⟩ : ∃ z : ByteArray, wr.cell? ⟨gq, j, none⟩ = some (.string z) ∧ z.size ≤ 1000 := by
        have hcase : j = 0 ∨ j = 1 ∨ j = 2 := by omega
        rcases hcase with rfl | rfl | rfl
        · exact ⟨z0, gcell (cs := [.string z0, .string z1, .string z2]) hzr (i := 0) rfl, y0⟩
        · exact ⟨z1, gcell (cs := [.string z0, .string z1, .string z2]) hzr (i := 1) rfl, y1⟩
        · exact ⟨z2, gcell (cs := [.string z0, .string z1, .string z2]) hzr (i := 2) rfl, y2⟩
      have zz0 : (0 : Int) ≤ (j : Int) := by omega
      have zz1 : (j : Int) < 3 := by omega
      clear hzr
      by_cases hd : (decR z.data.toList).2 = 0
      · obtain ⟨⟨d, dr⟩, hdd⟩ : ∃ r, r = decR z.data.toList := ⟨_, rfl⟩
        rw [← hdd] at hd
        dsimp only at hd
        subst hd
        obtain ⟨hf, hl⟩ := dec_some hdd.symm
        have HDD := Lib.hid hdd.symm
        have HE := Lib.hid (show encR d = (E3 d, 0) from encR_ok hf)
        have HF := Lib.hid (frmB_iff.2 hf)
        have HZZ : Hid ((⟨(E3 d).toArray⟩ : ByteArray) = z) := Lib.hid (ByteArray.ext (Array.ext' (by rw [← hl])))
        clear hdd hf hl
        go_wp2_with fail
        refine (ldecode_any z _ (by unfold maxLen; omega)).mono ?_
        unfold DecPost
        rintro e W11 ⟨rfl, hb⟩
        rw [HDD.out]
        dsimp only [evA]
        clear hzc
        go_upto_region 18 with fail
        have h12 := newcell W11 (.cells #[.int .i64 d.k, .int .i64 d.a, .int .i64 d.h] 54)
        have hb12 : Below wr.heap.size wr (W11.alloc (.cells #[.int .i64 d.k, .int .i64 d.a, .int .i64 d.h] 54)) := hb.alloc hb.size _
        generalize hW12 : W11.alloc (.cells #[.int .i64 d.k, .int .i64 d.a, .int .i64 d.h] 54) = W12
        rw [hW12] at h12 hb12
        obtain ⟨dq, hdq⟩ : ∃ q, q = W11.heap.size := ⟨_, rfl⟩
        rw [← hdq] at h12 ⊢
        clear hW12 hdq hb
        have H12 := Lib.hid h12
        have HB12 := Lib.hid hb12
        clear hb12
        obtain ⟨d0, d1, d2, _, _, _, d4⟩ := ev_cells (x := d) h12
        clear h12
        go_wp2_with fail
        refine (lencode_any d _).mono ?_
        rintro e W13 ⟨rfl, hb⟩
        rw [HE.out]
        dsimp only
        rw [HZZ.out]
        have h13 := keepcell H12.out hb
        have HB13 := Lib.hid (below_trans HB12.out hb)
        clear d0 d1 d2 d4 hb
        obtain ⟨d0, d1, d2, _, _, _, d4⟩ := ev_cells (x := d) h13
        clear h13
        go_wp2_with fail
        refine (lformed_any d _).mono ?_
        rintro e W14 ⟨rfl, hb⟩
        rw [HF.out]
        have HB14 := Lib.hid (below_trans HB13.out hb)
        clear d0 d1 d2 d4 hb
        go_wp2_with fail
        exact ⟨⟨j + 1, by omega, by go_num, below_trans HBR.out HB14.out⟩, by simp [intOf]; omega⟩
      · have hno : decR z.data.toList = (⟨0, 0, 0⟩, 140) := by
          unfold decR at hd ⊢
          by_cases ho : decOk z.data.toList
          · rw [if_pos ho] at hd; exact absurd rfl hd
          · rw [if_neg ho]
        have HNO := Lib.hid hno
        clear hd hno
        go_wp2_with fail
        refine (ldecode_any z _ (by unfold maxLen; omega)).mono ?_
        unfold DecPost
        rintro e W11 ⟨rfl, hb⟩
        rw [HNO.out]
        dsimp only [evA]
        clear hzc
        have HB11 := Lib.hid (hb.alloc hb.size (.cells #[.int .i64 0, .int .i64 0, .int .i64 0] 54))
        clear hb
        go_wp2_with fail
        exact ⟨⟨j + 1, by omega, by go_num, below_trans HBR.out HB11.out⟩, by simp [intOf]; omega⟩
    · obtain rfl : j = 3 := by omega
      clear hzr
      rw [show ((3 : Nat) : Int) = 3 from rfl]
      go_wp2_with fail
      go_ret
      exact ⟨rfl, below_trans HW.out HBR.out⟩
end Go.Proofs.Yteilkigdlkeiaaa
