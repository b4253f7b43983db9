/-
  LifeRestores, by its tree of ways.
-/
import Derived.Test.YteilkigdlkeiaaaK1
import Derived.Test.YteilkigdlkeiaaaT10
namespace Go.Proofs.Yteilkigdlkeiaaa
open Go Go.RowKit Go.Dial Go.Dial.Lif Go.Sx

theorem need_mul {env : List AV} {l : E} {k m n : Int} (hn : ((Sx.den env l).l.length : Int) = n) (h : n * k ≤ m) : (Sx.den env (.cmp .le (.ii .mul (.len l) (.int k)) (.int m))).b = true := by
  subst hn
  exact decide_eq_true h
theorem need_mul2 {env : List AV} {l : E} {k m n : Int} (hn : ((Sx.den env l).l.length : Int) = n) (h : (n + 1 + 1) * k ≤ m) : (Sx.den env (.cmp .le (.ii .mul (.ii .add (.ii .add (.len l) (.int 1)) (.int 1)) (.int k)) (.int m))).b = true := by
  subst hn
  exact decide_eq_true h
theorem need_mul3 {env : List AV} {l : E} {k m n : Int} (hn : ((Sx.den env l).l.length : Int) = n) (h : (n + 1 + 1 + 1) * k ≤ m) : (Sx.den env (.cmp .le (.ii .mul (.ii .add (.ii .add (.ii .add (.len l) (.int 1)) (.int 1)) (.int 1)) (.int k)) (.int m))).b = true := by
  subst hn
  exact decide_eq_true h
theorem con10 (xs : List T3) (t u v : Int) (hT : ∀ x ∈ xs, Tri x) (ht : I64 t) (hu : I64 u) (hv : I64 v) : Con Try.prog 10 [.sl (ints 3) (ival triI xs), .int t, .int u, .int v] (.b true) := by
  refine con_of_sym (cfg := ⟨[], [13, 14, 17, 27, 25, 30, 29, 24], [], []⟩) (K := fun _ _ => False) pfit (fun fn hf => ?_) ?_
  · rw [Try.func10] at hf
    cases hf
    kernel_rfl
  rw [t10_eq]
  obtain ⟨hAll, hL16⟩ := made_life xs
  have hMade := conMade xs hT
  obtain ⟨es, hes⟩ : ∃ es, es = madeV xs := ⟨_, rfl⟩
  rw [← hes] at hAll hL16 hMade
  have hSm : Small es := small_all hAll
  have hLife : Life es := ⟨hAll, by omega⟩
  have hVL : Vld (fin first es) := all_vld vld_first hAll
  have hRun := conRun es
  unfold runRes at hRun
  rw [runR_life hLife] at hRun
  obtain ⟨L, hL⟩ : ∃ L, L = fin first es := ⟨_, rfl⟩
  rw [← hL] at hRun hVL
  obtain ⟨p, hp⟩ : ∃ p, p = pickV t 100 := ⟨_, rfl⟩
  obtain ⟨q, hq⟩ : ∃ q, q = pickV u 3000000 := ⟨_, rfl⟩
  have bp := pickV_bd t (show (0 : Int) < 100 by decide)
  have bq := pickV_bd u (show (0 : Int) < 3000000 by decide)
  have hP := conPick t 100 ht (by decide) (by decide)
  have hQ := conPick u 3000000 hu (by decide) (by decide)
  rw [← hp] at bp hP
  rw [← hq] at bq hQ
  obtain ⟨lt0, lt1⟩ : 0 ≤ L.t ∧ L.t ≤ 10000000 := ⟨hVL.2.2.2.2.1, hVL.2.2.2.2.2.1⟩
  have hlen : ((ival evI es).length : Int) = es.length := by simp [ival]
  obtain ⟨a, ha⟩ : ∃ a : Int, a = if (10000000 : Int) < L.t + p then 10000000 else L.t + p := ⟨_, rfl⟩
  have ab : L.t ≤ a ∧ a ≤ 10000000 := by split at ha <;> omega
  show T.den _ _ t10 [.sl (ints 3) (ival triI xs), .int t, .int u, .int v] _
  unfold t10
  refine T.den_call (.b true) conSane rfl rfl rfl ?_
  unfold t10_29
  refine T.den_br (fun h => by cases h) (fun _ => ?_)
  unfold t10_28
  refine T.den_call _ hMade rfl rfl rfl ?_
  unfold t10_27
  refine T.den_call _ hRun rfl rfl rfl ?_
  unfold t10_26
  refine T.den_br (fun h => by cases h) (fun _ => ?_)
  unfold t10_25
  refine T.den_call _ hP rfl rfl rfl ?_
  unfold t10_24
  refine T.den_need ?_ ?_
  · show (decide ((-9223372036854775808 : Int) ≤ L.t + p) && decide (L.t + p ≤ 9223372036854775807)) = true
    simp only [Bool.and_eq_true, decide_eq_true_eq]
    omega
  refine T.den_call _ hQ rfl rfl rfl ?_
  unfold t10_23
  refine T.den_need ?_ ?_
  · show (decide ((-9223372036854775808 : Int) ≤ (if (10000000 : Int) < L.t + p then 10000000 else L.t + p) + q) && decide ((if (10000000 : Int) < L.t + p then 10000000 else L.t + p) + q ≤ 9223372036854775807)) = true
    rw [← ha]
    simp only [Bool.and_eq_true, decide_eq_true_eq]
    omega
  refine T.den_need (need_mul (n := es.length) hlen (by omega)) ?_
  refine T.den_need (need_mul2 (n := es.length) hlen (by omega)) ?_
  obtain ⟨b, hb⟩ : ∃ b : Int, b = if (10000000 : Int) < a + q then 10000000 else a + q := ⟨_, rfl⟩
  have bb : a ≤ b ∧ b ≤ 10000000 := by split at hb <;> omega
  obtain ⟨both, hboth⟩ : ∃ l, l = es ++ [⟨5, a, -1⟩, ⟨6, b, -1⟩] := ⟨_, rfl⟩
  have hArg : ival evI both = ival evI es ++ [[.int 5, .int a, .int (-1)]] ++ [[.int 6, .int b, .int (-1)]] := by rw [hboth]; simp [ival, evI]
  refine T.den_call _ (conRun both) (by
    show [AV.sl _ (ival evI es ++ [[AV.int 5, .int (if (10000000 : Int) < L.t + p then 10000000 else L.t + p), .int (-1)]] ++ [[AV.int 6, .int (if (10000000 : Int) < (if (10000000 : Int) < L.t + p then 10000000 else L.t + p) + q then 10000000 else (if (10000000 : Int) < L.t + p then 10000000 else L.t + p) + q), .int (-1)]])] = _
    rw [← ha, ← hb, ← hArg]; rfl) rfl rfl ?_
  unfold t10_22
  by_cases hu : Used L
  · have hs12 : L.s = 1 ∨ L.s = 2 := hu
    obtain ⟨HR1, HR2⟩ := restores hAll (by omega) (by rw [← hL]; exact hu) (by rw [← hL]; exact ab.1) bb.1 bb.2
    have E3 : runR both = ((⟨1, L.h, L.e, b⟩, both.length), 0) := by rw [hboth, runR_life HR1, HR2, hL]
    have tail13 : ∀ (x0 x1 x2 x3 x4 x6 x7 x8 x10 x11 x13 x14 x15 x16 x17 x18 x19 x20 x21 x22 x23 : AV), T.den Try.prog (· = .b true) t10_13 [x0, x1, x2, x3, x4, .sl (ints 3) (ival evI es), x6, x7, x8, .int L.t, x10, x11, .int p, x13, x14, x15, x16, x17, x18, x19, x20, x21, x22, x23] (fun _ _ => False) := by
      intros
      unfold t10_13
      refine T.den_need ?_ (T.den_br (fun _ => T.den_ret rfl) (fun h => ?_))
      · show (decide ((-9223372036854775808 : Int) ≤ (if (10000000 : Int) < L.t + p then 10000000 else L.t + p) + 2592000) && decide ((if (10000000 : Int) < L.t + p then 10000000 else L.t + p) + 2592000 ≤ 9223372036854775807)) = true
        rw [← ha]
        simp only [Bool.and_eq_true, decide_eq_true_eq]
        omega
      have hx : a + 2592000 ≤ 10000000 := by
        have h : decide ((10000000 : Int) < (if (10000000 : Int) < L.t + p then 10000000 else L.t + p) + 2592000) = false := h
        rw [← ha] at h
        simp only [decide_eq_false_iff_not] at h
        omega
      obtain ⟨HX1, HX2⟩ := expires hAll (by omega) (by rw [← hL]; exact hu) (by rw [← hL]; exact ab.1) hx
      have E4 := runR_life HX1
      obtain ⟨e1, he1⟩ : ∃ l, l = es ++ [⟨5, a, -1⟩, ⟨7, a + 2592000, -1⟩] := ⟨_, rfl⟩
      obtain ⟨e2, he2⟩ : ∃ l, l = e1 ++ [⟨6, a + 2592000, -1⟩] := ⟨_, rfl⟩
      have hA1 : ival evI e1 = ival evI es ++ [[.int 5, .int a, .int (-1)]] ++ [[.int 7, .int (a + 2592000), .int (-1)]] := by rw [he1]; simp [ival, evI]
      have hA2 : ival evI e2 = ival evI es ++ [[.int 5, .int a, .int (-1)]] ++ [[.int 7, .int (a + 2592000), .int (-1)]] ++ [[.int 6, .int (a + 2592000), .int (-1)]] := by rw [he2, he1]; simp [ival, evI]
      rw [← he1] at E4 HX2
      rw [← he2] at HX2
      unfold t10_12
      refine T.den_call _ (conRun e1) (by
        show [AV.sl _ (ival evI es ++ [[AV.int 5, .int (if (10000000 : Int) < L.t + p then 10000000 else L.t + p), .int (-1)]] ++ [[AV.int 7, .int ((if (10000000 : Int) < L.t + p then 10000000 else L.t + p) + 2592000), .int (-1)]])] = _
        rw [← ha, ← hA1]; rfl) rfl rfl ?_
      unfold t10_11
      refine T.den_need (need_mul3 (n := es.length) hlen (by omega)) ?_
      refine T.den_call _ (conRun e2) (by
        show [AV.sl _ (ival evI es ++ [[AV.int 5, .int (if (10000000 : Int) < L.t + p then 10000000 else L.t + p), .int (-1)]] ++ [[AV.int 7, .int ((if (10000000 : Int) < L.t + p then 10000000 else L.t + p) + 2592000), .int (-1)]] ++ [[AV.int 6, .int ((if (10000000 : Int) < L.t + p then 10000000 else L.t + p) + 2592000), .int (-1)]])] = _
        rw [← ha, ← hA2]; rfl) rfl rfl ?_
      unfold t10_10
      refine T.den_br (fun _ => T.den_br (fun _ => T.den_ret ?_) (fun h => ?_)) (fun h => ?_)
      · show R.b (decide (((runR e2).1.2 : Int) = ((ival evI es).length : Int) + 1 + 1)) = .b true
        rw [HX2, hlen]
        congr 1
        simp only [decide_eq_true_eq]
        omega
      · exfalso
        have h : decide ((runR e2).2 = 140) = false := h
        rw [HX2] at h; cases h
      · exfalso
        have h : decide ((runR e1).2 = 0) = false := h
        rw [E4] at h; cases h
    have tail4 : ∀ (x0 x1 x2 x3 x4 x6 x7 x8 x10 x11 x13 x14 x15 x16 x17 x18 x19 x20 x21 x22 x23 x24 x25 x26 : AV), T.den Try.prog (· = .b true) t10_4 [x0, x1, x2, x3, x4, .sl (ints 3) (ival evI es), x6, x7, x8, .int L.t, x10, x11, .int p, x13, x14, x15, x16, x17, x18, x19, x20, x21, x22, x23, x24, x25, x26] (fun _ _ => False) := by
      intros
      unfold t10_4
      refine T.den_need ?_ (T.den_br (fun _ => T.den_ret rfl) (fun h => ?_))
      · show (decide ((-9223372036854775808 : Int) ≤ (if (10000000 : Int) < L.t + p then 10000000 else L.t + p) + 2592000) && decide ((if (10000000 : Int) < L.t + p then 10000000 else L.t + p) + 2592000 ≤ 9223372036854775807)) = true
        rw [← ha]
        simp only [Bool.and_eq_true, decide_eq_true_eq]
        omega
      have hx : a + 2592000 ≤ 10000000 := by
        have h : decide ((10000000 : Int) < (if (10000000 : Int) < L.t + p then 10000000 else L.t + p) + 2592000) = false := h
        rw [← ha] at h
        simp only [decide_eq_false_iff_not] at h
        omega
      obtain ⟨HX1, HX2⟩ := expires hAll (by omega) (by rw [← hL]; exact hu) (by rw [← hL]; exact ab.1) hx
      have E4 := runR_life HX1
      obtain ⟨e1, he1⟩ : ∃ l, l = es ++ [⟨5, a, -1⟩, ⟨7, a + 2592000, -1⟩] := ⟨_, rfl⟩
      obtain ⟨e2, he2⟩ : ∃ l, l = e1 ++ [⟨6, a + 2592000, -1⟩] := ⟨_, rfl⟩
      have hA1 : ival evI e1 = ival evI es ++ [[.int 5, .int a, .int (-1)]] ++ [[.int 7, .int (a + 2592000), .int (-1)]] := by rw [he1]; simp [ival, evI]
      have hA2 : ival evI e2 = ival evI es ++ [[.int 5, .int a, .int (-1)]] ++ [[.int 7, .int (a + 2592000), .int (-1)]] ++ [[.int 6, .int (a + 2592000), .int (-1)]] := by rw [he2, he1]; simp [ival, evI]
      rw [← he1] at E4 HX2
      rw [← he2] at HX2
      unfold t10_3
      refine T.den_call _ (conRun e1) (by
        show [AV.sl _ (ival evI es ++ [[AV.int 5, .int (if (10000000 : Int) < L.t + p then 10000000 else L.t + p), .int (-1)]] ++ [[AV.int 7, .int ((if (10000000 : Int) < L.t + p then 10000000 else L.t + p) + 2592000), .int (-1)]])] = _
        rw [← ha, ← hA1]; rfl) rfl rfl ?_
      unfold t10_2
      refine T.den_need (need_mul3 (n := es.length) hlen (by omega)) ?_
      refine T.den_call _ (conRun e2) (by
        show [AV.sl _ (ival evI es ++ [[AV.int 5, .int (if (10000000 : Int) < L.t + p then 10000000 else L.t + p), .int (-1)]] ++ [[AV.int 7, .int ((if (10000000 : Int) < L.t + p then 10000000 else L.t + p) + 2592000), .int (-1)]] ++ [[AV.int 6, .int ((if (10000000 : Int) < L.t + p then 10000000 else L.t + p) + 2592000), .int (-1)]])] = _
        rw [← ha, ← hA2]; rfl) rfl rfl ?_
      unfold t10_1
      refine T.den_br (fun _ => T.den_br (fun _ => T.den_ret ?_) (fun h => ?_)) (fun h => ?_)
      · show R.b (decide (((runR e2).1.2 : Int) = ((ival evI es).length : Int) + 1 + 1)) = .b true
        rw [HX2, hlen]
        congr 1
        simp only [decide_eq_true_eq]
        omega
      · exfalso
        have h : decide ((runR e2).2 = 140) = false := h
        rw [HX2] at h; cases h
      · exfalso
        have h : decide ((runR e1).2 = 0) = false := h
        rw [E4] at h; cases h
    have goon : ∀ (x0 x1 x2 x4 x6 x10 x11 x18 : AV), T.den Try.prog (· = .b true) t10_20 [x0, x1, x2, .int v, x4, .sl (ints 3) (ival evI es), x6, .int L.h, .int L.e, .int L.t, x10, x11, .int p, .int q, .int (runR both).1.1.s, .int (runR both).1.1.h, .int (runR both).1.1.e, .int (runR both).1.1.t, x18, .int (runR both).2] (fun _ _ => False) := by
      intros
      unfold t10_20
      refine T.den_br (fun h => ?_) (fun _ => ?_)
      · exfalso
        have h : (!decide ((runR both).2 = 0)) = true := h
        rw [E3] at h; cases h
      unfold t10_19
      refine T.den_br (fun h => ?_) (fun _ => ?_)
      · exfalso
        have h : (!(decide ((runR both).1.1.s = 1) && (decide ((runR both).1.1.h = L.h) && (decide ((runR both).1.1.e = L.e) && decide ((runR both).1.1.t = (if (10000000 : Int) < (if (10000000 : Int) < L.t + p then 10000000 else L.t + p) + q then 10000000 else (if (10000000 : Int) < L.t + p then 10000000 else L.t + p) + q)))))) = true := h
        rw [← ha, ← hb, E3] at h
        simp at h
      have bn := timeV_bd es v
      obtain ⟨n, hn⟩ : ∃ n, n = timeV es v := ⟨_, rfl⟩
      have hTm := conTime es v hv hSm (by omega)
      rw [← hn] at bn hTm
      unfold t10_18
      refine T.den_call _ hTm rfl rfl rfl ?_
      unfold t10_17
      refine T.den_call _ (conKeep es n) rfl rfl rfl ?_
      unfold t10_16
      refine T.den_br (fun h0 => ?_) (fun _ => tail13 ..)
      unfold t10_15
      refine T.den_br (fun h1 => ?_) (fun _ => tail13 ..)
      unfold t10_14
      refine T.den_br (fun h2 => ?_) (fun _ => tail13 ..)
      have h0 : decide ((keepR es n).2 = 0) = true := h0
      have h1 : decide ((keepR es n).1.1 = L.e) = true := h1
      have h2 : decide ((keepR es n).1.2 ≤ (if (10000000 : Int) < (if (10000000 : Int) < L.t + p then 10000000 else L.t + p) + q then 10000000 else (if (10000000 : Int) < L.t + p then 10000000 else L.t + p) + q)) = true := h2
      rw [← ha, ← hb] at h2
      simp only [decide_eq_true_eq] at h0 h1 h2
      have hok : OkKeep es n := by
        by_cases hk : OkKeep es n
        · exact hk
        · unfold keepR at h0; rw [if_neg hk] at h0; cases h0
      have EK : keepR es n = (((atL es n).e, n), 0) := by unfold keepR; rw [if_pos hok]
      have he : (atL es n).e = L.e := by rw [EK] at h1; exact h1
      have hnb : n ≤ b := by rw [EK] at h2; exact h2
      have HF := restore_fate hAll (show es.length ≤ 38 by omega) (by rw [← hL]; exact hu) (by rw [← hL]; exact ab.1) bb.1 bb.2 hok (by rw [← hL]; exact he) hnb
      rw [← hL, ← hboth] at HF
      have hF := conFate both L.e n b
      have e1 : (keepR es n).1.1 = L.e := h1
      have e2 : (keepR es n).1.2 = n := by rw [EK]
      unfold t10_9
      refine T.den_call _ hF (by
        show [AV.sl _ (ival evI es ++ [[AV.int 5, .int (if (10000000 : Int) < L.t + p then 10000000 else L.t + p), .int (-1)]] ++ [[AV.int 6, .int (if (10000000 : Int) < (if (10000000 : Int) < L.t + p then 10000000 else L.t + p) + q then 10000000 else (if (10000000 : Int) < L.t + p then 10000000 else L.t + p) + q), .int (-1)]]), .agg [.int (keepR es n).1.1, .int (keepR es n).1.2], .int (if (10000000 : Int) < (if (10000000 : Int) < L.t + p then 10000000 else L.t + p) + q then 10000000 else (if (10000000 : Int) < L.t + p then 10000000 else L.t + p) + q)] = _
        rw [← ha, ← hb, ← hArg, e1, e2]; rfl) rfl rfl ?_
      unfold t10_8
      refine T.den_br (fun h3 => ?_) (fun h3 => ?_)
      · have h3 : decide ((fateR both L.e n b).2 = 0) = true := h3
        have HF : fateR both L.e n b = ((1, L.h), 0) := by
          rcases HF with h | ⟨h, _⟩
          · exact h
          · rw [h] at h3; cases h3
        unfold t10_6
        refine T.den_br (fun h => ?_) (fun _ => ?_)
        · exfalso
          have h : (!decide ((fateR both L.e n b).1.1 = 1)) = true := h
          rw [HF] at h; cases h
        unfold t10_5
        refine T.den_br (fun h => ?_) (fun _ => tail4 ..)
        exfalso
        have h : (!decide ((fateR both L.e n b).1.2 = L.h)) = true := h
        rw [HF] at h; simp at h
      · have h3 : decide ((fateR both L.e n b).2 = 0) = false := h3
        have hna : a ≤ n := by
          rcases HF with h | ⟨_, h⟩
          · rw [h] at h3; cases h3
          · exact h
        unfold t10_7
        refine T.den_br (fun h => ?_) (fun _ => tail4 ..)
        exfalso
        have h : decide ((keepR es n).1.2 < (if (10000000 : Int) < L.t + p then 10000000 else L.t + p)) = true := h
        rw [← ha, e2] at h
        simp only [decide_eq_true_eq] at h
        omega
    refine T.den_br (fun h => ?_) (fun _ => goon ..)
    unfold t10_21
    refine T.den_br (fun h' => ?_) (fun _ => goon ..)
    exfalso
    have h : (!decide (L.s = 1)) = true := h
    have h' : (!decide (L.s = 2)) = true := h'
    simp at h h'
    omega
  · have hu' : L.s ≠ 1 ∧ L.s ≠ 2 := by unfold Used at hu; omega
    have E3 : runR both = ((zero, es.length), 140) := by rw [hboth]; exact runR_stop hAll (by omega) (by simp; omega) (by rw [← hL]; exact no_end hu)
    refine T.den_br (fun _ => ?_) (fun h => ?_)
    · unfold t10_21
      refine T.den_br (fun _ => ?_) (fun h => ?_)
      · refine T.den_br (fun _ => ?_) (fun h => ?_)
        · refine T.den_ret ?_
          show R.b (decide (((runR both).1.2 : Int) = ((ival evI es).length : Int))) = .b true
          rw [E3, hlen]; simp
        · exfalso
          have h : decide ((runR both).2 = 140) = false := h
          rw [E3] at h; cases h
      · exfalso
        have h : (!decide (L.s = 2)) = false := h
        simp at h; omega
    · exfalso
      have h : (!decide (L.s = 1)) = false := h
      simp at h; omega
end Go.Proofs.Yteilkigdlkeiaaa
