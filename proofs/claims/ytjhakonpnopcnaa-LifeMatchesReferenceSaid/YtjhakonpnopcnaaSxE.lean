/-
  The executor: loops, functions, bridges.
-/
import Derived.Test.YtjhakonpnopcnaaSxB
set_option linter.unusedVariables false
set_option linter.unusedSimpArgs false
set_option linter.unusedSectionVars false
namespace Go.Sx
open Go Go.RowKit Go.Dial
set_option linter.constructorNameAsVariable false
variable {env : List AV} {κ κ' : Nat → Value} {F F' : Nat → Prop} {w w' w0 : World} {U : Nat → Prop} {tmp : Nat → SV} {blk : Nat → Option SB} {L : Nat} {a : Act} {P : Program} {Post : R → Prop} {K : Nat → List AV → Prop} {cfg : Cfg} {run : Run} {ro : Option Nat}

theorem okSV_spec {σ : SS} {vs : List SV} (h : vs.all σ.okSV = true) : ∀ x ∈ vs, ∀ b ∈ x.names, b < σ.N := fun x hx b hb => by
  have := List.all_eq_true.1 h x hx
  unfold SS.okSV at this
  rw [Bool.and_eq_true, List.all_eq_true] at this
  exact blt_lt (this.2 b hb)
theorem back_spec {σ σ' : SS} {dst : Option Nat} {v : SV} (hle : σ.N ≤ σ'.N) (hd : ∀ d, dst = some d → d < σ.L) : (SS.put { σ' with rf := σ.rf } dst v).tmp = updO σ.tmp dst v ∧ (SS.put { σ' with rf := σ.rf } dst v).blk = updL σ.blk (changedWr σ σ') ∧ (SS.put { σ' with rf := σ.rf } dst v).N = σ'.N ∧ (SS.put { σ' with rf := σ.rf } dst v).L = σ.L ∧
    (SS.put { σ' with rf := σ.rf } dst v).n = σ'.n ∧ (SS.put { σ' with rf := σ.rf } dst v).known = σ'.known ∧ (SS.put { σ' with rf := σ.rf } dst v).dep = σ'.dep := by
  obtain ⟨g1, g2, g3, g4, g5, g6, g7⟩ := put_spec { σ' with rf := σ.rf } (dst := dst) (v := v) hd
  refine ⟨g1, ?_, g3, g6, g4, g5, g7⟩
  rw [g2]
  funext b
  rw [changed_blk hle (fun _ _ => rfl)]
  split
  · rfl
  · rename_i h
    have h1 : σ'.blk b = none := Ov.get_out (by have : ¬ b < σ'.N := h; exact Nat.le_of_not_lt this)
    have h2 : σ.blk b = none := Ov.get_out (by have : ¬ b < σ'.N := h; have : σ.hp.len = σ.N := rfl; omega)
    rw [h2]; exact h1
theorem fin_sound (hrun : RunOK P w0 run) (hfit : PFit P) {own : Bool} {id i : Nat} {ops : Array Oper} {o : Oper} (ho : ops[i]? = some o) {σ : SS} {kn : List (E × Bool)} {k : SS → Seen → T} (hn : env.length = σ.n) (hk : KnownOK env σ.n kn)
    (hw : ∀ rs, wantedIs ops o σ.tmp (env ++ rs) true) {x : Out} (hx : core P cfg.cons.contains own (truth kn) σ.N σ.ev σ.blk o = x) (h : (fin P cfg run id { σ with known := kn } o x k (readsOf ops o)).den P Post env K) : OneRes P Post K w0 ro env ops i σ k := by
  cases x with
  | no m => exact h.elim
  | br c => exact h.elim
  | ok needs v wr =>
    replace h : (finOk id { σ with known := kn } o needs v wr k (readsOf ops o)).den P Post env K := h
    unfold finOk at h
    simp only [fL_eq fE_eq, fSV_eq, fWr_eq, SS.go_eq] at h
    split at h
    · rename_i hc
      simp only [Bool.and_eq_true] at hc
      obtain ⟨⟨⟨⟨c1, c2⟩, c3⟩, c4⟩, c5⟩ := hc
      rw [List.all_eq_true] at c1
      rw [needs_den] at h
      obtain ⟨hnd, hden⟩ := h
      have hd := dstOk_spec c5
      obtain ⟨kn', l1, l2⟩ := learnAll (env := env) (needs.filter (fun e => SS.tr { σ with known := kn } e != some true)) { σ with known := kn }
      rw [l1] at hden
      have hkn := l2 hk (fun e he => ⟨c1 e he, hnd e he⟩)
      have hns : ∀ rs, ∀ e ∈ needs, (den (env ++ rs) e).b = true := fun rs e he => by
          cases ht : (SS.tr { σ with known := kn } e != some true) with
          | true =>
            have hm : e ∈ needs.filter (fun e => SS.tr { σ with known := kn } e != some true) := List.mem_filter.2 ⟨he, ht⟩
            rw [den_ext hn (c1 e hm)]; exact hnd e hm
          | false =>
            have : SS.tr { σ with known := kn } e = some true := by simpa using ht
            exact truth_ok (hk.ext' hn) this
      have hstep : ∀ rs, WrOk σ.N (padWr σ.N wr) ∧ StepSem P w0 (env ++ rs) ro σ.L ops σ.N (wrLen σ.N (padWr σ.N wr)) i ⟨v, padWr σ.N wr, seenOf { σ with known := kn } o v wr (readsOf ops o)⟩ σ.tmp σ.blk := fun rs => by
        cases hl : leanOf { σ with known := kn } o v wr with
        | some rh =>
          obtain ⟨rfl, hs⟩ := step_lean (w0 := w0) (env := env ++ rs) (ro := ro) ho (σ := { σ with known := kn }) (σ₁ := { σ with known := kn }) hx (hns rs) hl hd (hw rs)
          unfold seenOf
          rw [hl]
          exact ⟨trivial, hs⟩
        | none =>
          unfold seenOf
          rw [hl]
          exact step_ok ho (σ := σ) (σ₁ := { σ with known := kn }) (hk.ext' hn) hx (hns rs) c4 hd (hw rs)
      obtain ⟨p1, p2, p3, p4, p5, p6, p7⟩ := eff_spec (σ := { σ with known := kn' }) (o := o) (v := v) (hstep []).1 hd
      have hsd : (seenOf { σ with known := kn } o v wr (readsOf ops o)).dst = o.dst := by unfold seenOf; split <;> rfl
      refine ⟨[], _, ⟨v, padWr σ.N wr, seenOf { σ with known := kn } o v wr (readsOf ops o)⟩, K, by rw [List.append_nil]; exact hden, fun _ _ => rfl, ?_, ?_, fun rs => ?_, by rw [hsd]; exact p1, p2, p4, p7⟩
      · rw [List.append_nil, p5, p6]; exact hkn
      · rw [List.append_nil, p5]; exact hn
      · rw [List.append_nil, p3]; exact (hstep rs).2
    · exact h.elim
  | call f args sh wr =>
    replace h : (finCall id { σ with known := kn } o f args sh wr k (readsOf ops o)).den P Post env K := h
    unfold finCall at h
    split at h
    · rename_i hc
      simp only [Bool.and_eq_true] at hc
      obtain ⟨⟨⟨c1, c2⟩, c3⟩, c4⟩ := hc
      simp only [fE_eq, fSV_eq, fWr_eq, SS.go_eq] at h
      obtain ⟨r, hr, hcon, hden⟩ := h
      have hd := dstOk_spec c2
      have hwr : ∀ y ∈ wr, y.1 ∈ footOf σ.ev o ∧ y.1 < σ.N := fun y hy => by
        have := List.all_eq_true.1 c4 y hy
        simp only [Bool.and_eq_true] at this
        exact ⟨(show y.1 ∈ footOf (SS.ev { σ with known := kn }) o from by simpa using this.1.1.1), blt_lt this.1.1.2⟩
      have hll := leaves_len r
      rw [hr] at hll
      have hstep : ∀ rs, WrOk σ.N (wr ++ (mkRes sh σ.n σ.N).2) ∧ StepSem P w0 (env ++ r.leaves ++ rs) ro σ.L ops σ.N (wrLen σ.N (wr ++ (mkRes sh σ.n σ.N).2)) i ⟨(mkRes sh σ.n σ.N).1, wr ++ (mkRes sh σ.n σ.N).2, { rt := readsOf ops o, rb := footOf σ.ev o, dst := o.dst, wb := (wr ++ (mkRes sh σ.n σ.N).2).map (·.1) }⟩ σ.tmp σ.blk := fun rs =>
        step_call hfit ho (σ := σ) (σ₁ := { σ with known := kn }) hx hr (n := σ.n) (by rw [List.append_assoc, den_ext hn c1]; exact hcon) (fun j y hj => by
          rw [List.append_assoc, List.getElem?_append_right (by omega)]
          rw [show σ.n + j - env.length = j by omega, List.getElem?_append_left (List.getElem?_eq_some_iff.1 hj).1]
          exact hj) hd hwr (by have := hw (r.leaves ++ rs); rw [← List.append_assoc] at this; exact this)
      obtain ⟨p1, p2, p3, p4, p5, p6, p7⟩ := eff_spec (σ := { σ with known := kn, n := σ.n + (mkRes.RS.cnt sh).1 }) (o := o) (v := (mkRes sh σ.n σ.N).1) (hstep []).1 hd
      refine ⟨r.leaves, SS.eff { σ with known := kn, n := σ.n + (mkRes.RS.cnt sh).1 } o (mkRes sh σ.n σ.N).1 (wr ++ (mkRes sh σ.n σ.N).2), ⟨(mkRes sh σ.n σ.N).1, wr ++ (mkRes sh σ.n σ.N).2, { rt := readsOf ops o, rb := footOf σ.ev o, dst := o.dst, wb := (wr ++ (mkRes sh σ.n σ.N).2).map (·.1) }⟩, K, hden, fun _ _ => rfl, ?_, ?_, fun rs => ?_, p1, p2, p4, p7⟩
      · rw [p5, p6]; exact hk.ext hn (Nat.le_add_right _ _)
      · rw [p5]; show _ = σ.n + _; rw [List.length_append, hn, hll]
      · rw [p3]; exact (hstep rs).2
    · exact h.elim
  | inl f vs =>
    unfold fin at h
    simp only at h
    split at h
    · rename_i fn hfn
      split at h
      · rename_i ks vs' _
        unfold finMap at h
        split at h
        · rename_i hc
          simp only [Bool.and_eq_true, List.isEmpty_iff] at hc
          obtain ⟨⟨⟨⟨⟨c1, c2⟩, c3⟩, c4⟩, c5⟩, c6⟩ := hc
          subst c1
          simp only [SS.go_eq] at h
          obtain ⟨hm, hden⟩ := h
          have hd := dstOk_spec c6
          have hwr : WrOk σ.N [(σ.N, some (.map ks vs'))] := ⟨Nat.le_refl _, trivial⟩
          obtain ⟨p1, p2, p3, p4, p5, p6, p7⟩ := eff_spec (σ := { σ with known := kn }) (o := o) (v := .map σ.N) hwr hd
          have hN : wrLen σ.N [(σ.N, some (SB.map ks vs'))] = σ.N + 1 := by show max σ.N (σ.N + 1) = _; omega
          refine ⟨[], _, ⟨.map σ.N, [(σ.N, some (.map ks vs'))], { rt := readsOf ops o, rb := footOf σ.ev o, dst := o.dst, wb := [σ.N] }⟩, K, by rw [List.append_nil]; exact hden, fun _ _ => rfl, ?_, ?_, fun rs => ?_, p1, p2, p4, p7⟩
          · rw [List.append_nil, p5, p6]; exact hk
          · rw [List.append_nil, p5]; exact hn
          · rw [List.append_nil, p3]
            show StepSem P w0 (env ++ rs) ro σ.L ops σ.N (wrLen σ.N _) i _ σ.tmp σ.blk
            rw [hN]
            exact step_map hfit ho (σ := σ) (σ₁ := { σ with known := kn }) hx hm c2 c3 c4 c5 hd (hw rs)
        · exact h.elim
      · rename_i c hmap hb
        unfold finInl at h
        simp only [fL_eq fSV_eq] at h
        split at h
        · rename_i hc
          rw [Bool.and_eq_true] at hc
          obtain ⟨c1, c2⟩ := hc
          rw [Bool.and_eq_true] at c1
          have hvn := okSV_spec c1.1
          have hcl : ∀ b x, σ.blk b = some x → ∀ c ∈ x.names, c < σ.N := fun b x hx => SS.closed_spec (σ := { σ with known := kn }) c1.2 hx
          have hft : ∀ b ∈ footOf σ.ev o, b < σ.N := fun b hb => blt_lt (List.all_eq_true.1 c2 b hb)
          obtain ⟨ex, σ', rs, K', hden, hK, hdep, hkn, hlen, hl⟩ := hrun Post K none f c _ (SS.frame { σ with known := kn } vs fn.ntmps) env hn hk h
          have hex : (∀ id, ex ≠ .exit id) ∧ ∃ us, resultSV P σ' fn.results.toList = some us ∧ (backTo id { σ with known := kn } o k (readsOf ops o) (packSV us) σ').den P Post (env ++ rs) K' := by
            cases ex with
            | exit j => exact hden.elim
            | normal =>
              simp only [fSV_eq] at hden
              split at hden
              · rename_i us hus; exact ⟨(fun _ h => by cases h), us, hus, hden⟩
              · exact hden.elim
            | ret =>
              simp only [fSV_eq] at hden
              split at hden
              · rename_i us hus; exact ⟨(fun _ h => by cases h), us, hus, hden⟩
              · exact hden.elim
          obtain ⟨hex, us, hus, hden⟩ := hex
          unfold backTo at hden
          split at hden
          · rename_i hdo
            simp only [SS.go_eq] at hden
            have hd := dstOk_spec hdo
            have hle : σ.N ≤ σ'.N := (hl []).le
            obtain ⟨p1, p2, p3, p4, p5, p6, p7⟩ := back_spec (σ := { σ with known := kn }) (σ' := σ') (dst := o.dst) (v := packSV us) hle hd
            refine ⟨rs, _, ⟨packSV us, changedWr σ σ', { rt := readsOf ops o, rb := List.range σ.N, dst := o.dst, wb := changed σ σ' }⟩, K', hden, hK, by rw [p5, p6]; exact hkn, by rw [p5]; exact hlen, fun ts => ?_, p1, p2, p4, by rw [p7]; exact hdep⟩
            rw [p3]
            exact step_inl hfit ho (σ := σ) (σ₁ := { σ with known := kn }) hx hfn hb hft hvn hcl hex ((hl ts).same ⟨rfl, rfl, rfl, rfl⟩ ⟨rfl, rfl, rfl, rfl⟩) hus hd (by have := hw (rs ++ ts); rw [← List.append_assoc] at this; exact this)
          · exact hden.elim
        · exact h.elim
      · exact h.elim
    · exact h.elim
  | yld b vs =>
    replace h : (finYld run id { σ with known := kn } o b vs k (readsOf ops o)).den P Post env K := h
    unfold finYld at h
    split at h
    · rename_i li hb
      split at h
      · rename_i hc
        simp only [Bool.and_eq_true, beq_iff_eq] at hc
        obtain ⟨⟨⟨⟨c1, c1'⟩, c2⟩, c3⟩, c4⟩ := hc
        have hvn := okSV_spec c1
        have hcl : ∀ b x, σ.blk b = some x → ∀ c ∈ x.names, c < σ.N := fun b x hx => SS.closed_spec (σ := { σ with known := kn }) c1' hx
        have hft : ∀ b ∈ footOf σ.ev o, b < σ.N := fun b hb => blt_lt (List.all_eq_true.1 c2 b hb)
        have hpar : ∀ t ∈ li.params.toList, t < li.rf.len := fun t ht => blt_lt (List.all_eq_true.1 c4 t ht)
        simp only [fL_eq fSV_eq, fO_eq, SS.go_eq, fB_eq] at h
        obtain ⟨ex, σ₁, rs, K₁, hden, hK1, hdep1, hkn1, hlen1, hl1⟩ := hrun Post K (some b) li.fn li.assign _ { σ with known := kn, rf := setParams li.params.toList vs li.rf } env hn hk h
        simp only at hden
        split at hden
        · rename_i i₁ hb1
          obtain ⟨y1, y2, y3, y4⟩ := write_old (σ := σ₁) (y := some (.loop i₁ .busy .none)) hb1
          obtain ⟨_, _, _, _, y5, y6, y7⟩ := write_spec σ₁ [(b, some (.loop i₁ .busy .none))] ⟨by have := blk_lt hb1; omega, trivial⟩
          obtain ⟨ex₂, σ₂, rs₂, K₂, hden, hK2, hdep2, hkn2, hlen2, hl2⟩ := hrun Post K₁ (some b) li.fn li.body _ (σ₁.write [(b, some (.loop i₁ .busy .none))]) (env ++ rs) (by rw [y5]; exact hlen1) (by rw [y5, y6]; exact hkn1) hden
          simp only at hden
          split at hden
          · rename_i i₂ hb2
            obtain ⟨z1, z2, z3, z4⟩ := write_old (σ := σ₂) (y := some (roundRec i₂ ex₂)) hb2
            obtain ⟨_, _, _, _, z5, z6, z7⟩ := write_spec σ₂ [(b, some (roundRec i₂ ex₂))] ⟨by have := blk_lt hb2; omega, trivial⟩
            replace hden : (backTo id { σ with known := kn } o k (readsOf ops o) (.vb (.bool (ex₂.jmp == .none))) (σ₂.write [(b, some (roundRec i₂ ex₂))])).den P Post (env ++ rs ++ rs₂) K₂ := hden
            unfold backTo at hden
            split at hden
            · rename_i hdo
              simp only [SS.go_eq] at hden
              have hd := dstOk_spec hdo
              have hle1 : σ.N ≤ σ₁.N := (hl1 []).le
              have hle2 : σ₁.N ≤ σ₂.N := by have := (hl2 []).le; rw [y2] at this; exact this
              have hle : σ.N ≤ (σ₂.write [(b, some (roundRec i₂ ex₂))]).N := by rw [z2]; omega
              obtain ⟨p1, p2, p3, p4, p5, p6, p7⟩ := back_spec (σ := { σ with known := kn }) (σ' := σ₂.write [(b, some (roundRec i₂ ex₂))]) (dst := o.dst) (v := .vb (.bool (ex₂.jmp == .none))) hle hd
              refine ⟨rs ++ rs₂, _, ⟨.vb (.bool (ex₂.jmp == .none)), changedWr σ (σ₂.write [(b, some (roundRec i₂ ex₂))]), { rt := readsOf ops o, rb := List.range σ.N, dst := o.dst, wb := changed σ (σ₂.write [(b, some (roundRec i₂ ex₂))]) }⟩, K₂, by rw [← List.append_assoc]; exact hden, fun l hlt => ?_,
                by rw [← List.append_assoc, p5, p6, z5, z6]; exact hkn2, by rw [← List.append_assoc, p5, z5]; exact hlen2, fun ts => ?_, p1, p2, p4, by rw [p7, z7, hdep2, y7]; exact hdep1⟩
              · rw [hK2 l (by rw [y7, hdep1]; exact hlt), hK1 l hlt]
              · rw [p3]
                have hl1' := hl1 (rs₂ ++ ts)
                rw [← List.append_assoc] at hl1'
                rw [← List.append_assoc]
                refine step_yld ho (σ := σ) (σt := { σ with known := kn }) hx hft hvn hcl hb c3 hpar (hl1'.same ⟨rfl, rfl, rfl, rfl⟩ ⟨rfl, rfl, rfl, rfl⟩) hb1 (hl2 ts) hb2 hd ?_
                have := hw (rs ++ (rs₂ ++ ts))
                rw [← List.append_assoc, ← List.append_assoc] at this
                exact this
            · exact hden.elim
          · exact hden.elim
        · exact hden.elim
      · exact h.elim
    · exact h.elim
end Go.Sx
namespace Go.Sx
open Go Go.RowKit Go.Dial
set_option linter.constructorNameAsVariable false
variable {env : List AV} {κ κ' : Nat → Value} {F F' : Nat → Prop} {w w' w0 : World} {U : Nat → Prop} {tmp : Nat → SV} {blk : Nat → Option SB} {L : Nat} {a : Act} {P : Program} {Post : R → Prop} {K : Nat → List AV → Prop} {cfg : Cfg} {run : Run} {ro : Option Nat}

theorem skip_sound {i : Nat} {ops : Array Oper} {o : Oper} (ho : ops[i]? = some o) {σ : SS} {kn : List (E × Bool)} {k : SS → Seen → T} (hn : env.length = σ.n) (hk : KnownOK env σ.n kn)
    (hw : ∀ rs, wantedIs ops o σ.tmp (env ++ rs) false) (h : (skipOp { σ with known := kn } o k (readsOf ops o)).den P Post env K) : OneRes P Post K w0 ro env ops i σ k := by
  unfold skipOp at h
  split at h
  · rename_i c3
    have hd := dstOk_spec c3
    obtain ⟨p1, p2, p3, p4, p5, p6, p7⟩ := put_spec { σ with known := kn } (dst := o.dst) (v := .nil) hd
    refine ⟨[], SS.put { σ with known := kn } o.dst .nil, ⟨.nil, [], { rt := readsOf ops o, rb := [], dst := o.dst, wb := [] }⟩, K, by rw [List.append_nil]; exact h, fun _ _ => rfl, ?_, ?_, fun rs => ?_, p1, p2, p6, p7⟩
    · rw [List.append_nil, p4, p5]; exact hk
    · rw [List.append_nil, p4]; exact hn
    · rw [List.append_nil, p3]
      exact step_skip ho (σ := σ) hd (hw rs)
  · exact h.elim
theorem go_sound (hrun : RunOK P w0 run) (hfit : PFit P) {fid id i : Nat} {ops : Array Oper} {o : Oper} (ho : ops[i]? = some o) {σ : SS} {k : SS → Seen → T} (hn : env.length = σ.n)
    (hw : ∀ rs, wantedIs ops o σ.tmp (env ++ rs) true) : ∀ (n : Nat) (kn : List (E × Bool)), KnownOK env σ.n kn → (goOp P cfg run fid id o k (readsOf ops o) n { σ with known := kn }).den P Post env K → OneRes P Post K w0 ro env ops i σ k
  | 0, kn, _, h => h.elim
  | n + 1, kn, hk, h => by
    unfold goOp at h
    split at h
    · rename_i c hc
      split at h
      · rename_i hs
        obtain ⟨h1, h2⟩ := h
        cases hb : (den env c).b with
        | true => exact go_sound hrun hfit ho hn hw n (learnL kn c true) (learn_ok hk hs hb) (h1 hb)
        | false => exact go_sound hrun hfit ho hn hw n (learnL kn c false) (learn_ok hk hs hb) (h2 hb)
      · exact h.elim
    · exact fin_sound hrun hfit ho hn hk hw rfl h
theorem one_sound (hrun : RunOK P w0 run) (hfit : PFit P) {fid id i : Nat} {ops : Array Oper} {o : Oper} (ho : ops[i]? = some o) {σ : SS} {k : SS → Seen → T} (hn : env.length = σ.n) (hk : KnownOK env σ.n σ.known)
    (h : (oneOp P cfg run fid id ops o σ k).den P Post env K) : OneRes P Post K w0 ro env ops i σ k := by
  unfold oneOp at h
  simp only at h
  split at h
  · rename_i hg
    exact go_sound hrun hfit ho hn (fun rs => wanted_ext (fun j want hh => by rw [hg] at hh; cases hh) (fun _ => rfl) hk hn rs) 16 σ.known hk h
  · rename_i j want hg
    split at h
    · rename_i e he
      obtain ⟨d, hd, hde⟩ := Option.map_eq_some_iff.1 he
      have W : ∀ (t : Bool), (∀ rs, (den (env ++ rs) e).b = t) → ∀ rs, wantedIs ops o σ.tmp (env ++ rs) (decide (t = want)) := fun t q2 rs => by
        unfold wantedIs
        rw [hg]
        exact ⟨d, hd, .inl ⟨e, hde, by rw [q2 rs]⟩⟩
      split at h
      · rename_i t ht
        have q2 : ∀ rs, (den (env ++ rs) e).b = t := fun rs => truth_ok (hk.ext' hn) ht
        split at h
        · rename_i hw
          exact go_sound hrun hfit ho hn (fun rs => by have := W t q2 rs; rwa [decide_eq_true hw] at this) 16 σ.known hk h
        · rename_i hw
          exact skip_sound ho hn hk (fun rs => by have := W t q2 rs; rwa [decide_eq_false hw] at this) h
      · split at h
        · rename_i hs
          obtain ⟨h1, h2⟩ := h
          cases hb : (den env e).b with
          | true =>
            have q2 : ∀ rs, (den (env ++ rs) e).b = true := fun rs => by rw [den_ext hn hs]; exact hb
            have h1 := h1 hb
            split at h1
            · rename_i hw
              exact go_sound hrun hfit ho hn (fun rs => by have := W true q2 rs; rwa [hw] at this) 16 (learnL σ.known e true) (learn_ok hk hs hb) h1
            · rename_i hw
              have hw : want = false := by simpa using hw
              exact skip_sound ho hn (learn_ok hk hs hb) (fun rs => by have := W true q2 rs; rwa [hw] at this) h1
          | false =>
            have q2 : ∀ rs, (den (env ++ rs) e).b = false := fun rs => by rw [den_ext hn hs]; exact hb
            have h2 := h2 hb
            split at h2
            · rename_i hw
              exact skip_sound ho hn (learn_ok hk hs hb) (fun rs => by have := W false q2 rs; rwa [hw] at this) h2
            · rename_i hw
              have hw : want = false := by simpa using hw
              exact go_sound hrun hfit ho hn (fun rs => by have := W false q2 rs; rwa [hw] at this) 16 (learnL σ.known e false) (learn_ok hk hs hb) h2
        · exact h.elim
    · rename_i he
      obtain ⟨d, hd, hde⟩ := Option.map_eq_some_iff.1 he
      exact skip_sound ho hn hk (fun rs => by unfold wantedIs; rw [hg]; exact ⟨d, hd, .inr ⟨hde, rfl⟩⟩) h
    · exact h.elim
theorem ops_sound (hrun : RunOK P w0 run) (hfit : PFit P) {fid id : Nat} {ops : Array Oper} {draw : Bool} {h0 : Ov (Option SB)} {k : SS → T} : ∀ (rest : List Oper) (i : Nat) (σ : SS) (seen : List Seen) (env : List AV) (K : Nat → List AV → Prop), (∀ (j : Nat) o, rest[j]? = some o → ops[i + j]? = some o) → env.length = σ.n → KnownOK env σ.n σ.known →
    (symOps P cfg run fid id ops draw h0 rest σ seen k).den P Post env K →
    ∃ (rs : List AV) (ss : List Stp) (σ' : SS) (K' : Nat → List AV → Prop), ss.length = rest.length ∧ (∀ us, Chain P w0 (env ++ rs ++ us) ro σ.L ops σ.N i σ.tmp σ.blk ss σ'.N σ'.tmp σ'.blk) ∧
      (draw = true → indep (masks ops.toList []) (seen.reverse ++ ss.map (·.seen)) = true ∧ edgesOk ops.toList = true ∧ rhOk h0 (seen.reverse ++ ss.map (·.seen)) = true) ∧ (k σ').den P Post (env ++ rs) K' ∧ (∀ l, l < σ.dep → K' l = K l) ∧ KnownOK (env ++ rs) σ'.n σ'.known ∧ (env ++ rs).length = σ'.n ∧ σ'.L = σ.L ∧ σ'.dep = σ.dep
  | [], i, σ, seen, env, K, _, hn, hk, h => by
    unfold symOps at h
    split at h
    · rename_i hc
      refine ⟨[], [], σ, K, rfl, fun us => .nil _ _ _ _, fun hd => ?_, by rw [List.append_nil]; exact h, fun _ _ => rfl, by rw [List.append_nil]; exact hk, by rw [List.append_nil]; exact hn, rfl, rfl⟩
      rw [hd] at hc
      simp only [Bool.not_true, Bool.false_or, Bool.and_eq_true] at hc
      obtain ⟨⟨c1, c2⟩, c3⟩ := hc
      exact ⟨by simpa using c1, c2, by unfold rhOk at c3 ⊢; simpa using c3⟩
    · exact h.elim
  | o :: rest, i, σ, seen, env, K, hget, hn, hk, h => by
    unfold symOps at h
    have ho := hget 0 o rfl
    rw [Nat.add_zero] at ho
    obtain ⟨r1, σ₁, s, K1, q1, q2, q3, q4, q5, q6, q7, q8, q9⟩ := one_sound (w0 := w0) (ro := ro) hrun hfit ho hn hk h
    obtain ⟨rs, ss, σ', K', g2, g3, g4, g5, g5k, g6, g7, g8, g9⟩ := ops_sound hrun hfit rest (i + 1) σ₁ (s.seen.fix h0 :: seen) (env ++ r1) K1 (fun j o' hj => by have := hget (j + 1) o' (by simpa using hj); rw [show i + (j + 1) = i + 1 + j by omega] at this; exact this) q4 q3 q1
    refine ⟨r1 ++ rs, { s with seen := s.seen.fix h0 } :: ss, σ', K', by simp [g2], fun us => ?_, fun hd => ?_, by rw [← List.append_assoc]; exact g5, fun l hl => (g5k l (by rw [q9]; exact hl)).trans (q2 l hl), by rw [← List.append_assoc]; exact g6, by rw [← List.append_assoc]; exact g7, by rw [g8, q8], by rw [g9, q9]⟩
    · have c := g3 us
      rw [q8, q6, q7] at c
      have hsd : (s.seen.fix h0).dst = s.seen.dst := by unfold Seen.fix; split <;> rfl
      rw [← hsd] at c
      rw [← List.append_assoc]
      refine .cons ?_ c
      have := (q5 (rs ++ us)).fix h0
      rw [← List.append_assoc] at this
      exact this
    · have := g4 hd
      rw [List.reverse_cons, List.append_assoc] at this
      exact this
theorem leads_region (hfit : PFit P) {id : Nat} {ops : Array Oper} {draw : Bool} {σ σ' : SS} {ss : List Stp} (hlen : ss.length = ops.size) (c : Chain P w0 env ro σ.L ops σ.N 0 σ.tmp σ.blk ss σ'.N σ'.tmp σ'.blk) (hL : σ'.L = σ.L)
    (hdr : draw = true → indep (masks ops.toList []) (ss.map (·.seen)) = true ∧ edgesOk ops.toList = true ∧ rhOk σ.hp (ss.map (·.seen)) = true) : Leads P w0 ro (.region id ops draw) env σ .normal σ' := by
  refine ⟨c.le, fun κ F U a w hr hU hro => ?_⟩
  cases draw with
  | false =>
    refine wpIn_region ?_
    rw [List.range_eq_range']
    have := c.ops (Q := fun e a' w' => e = Ex.normal.exit' ∧ Ends w0 env κ F U σ a w σ' a' w') hr (fun b h1 _ => hU b h1) hro (fun κ' F' a' w' h1 h2 h3 => ⟨rfl, κ', F', by rw [hL]; exact h1, h2, by rw [h3]; exact Marks.nil⟩)
    rw [hlen] at this
    exact this
  | true =>
    refine wpIn_region_any hfit.mix ?_
    obtain ⟨i1, i2, i3⟩ := hdr rfl
    have hsl : ∀ (j : Nat) s, ss[j]? = some s → ∀ x ∈ s.seen.rh, U x.1 ∧ SlIs κ env x := fun j s hs x hx => by
      unfold rhOk at i3
      rw [List.all_eq_true] at i3
      have h1 := i3 s.seen (List.mem_map.2 ⟨s, List.mem_of_getElem? hs, rfl⟩)
      rw [List.all_eq_true] at h1
      have h2 := h1 x hx
      split at h2
      · rename_i e t l hb
        have hb : σ.blk x.1 = some (.row e t l) := hb
        refine ⟨(hr.bnames _ _ hb).1, ?_⟩
        have := sl_of_row hr hb
        rw [E.eqb_spec _ _ h2] at this
        exact this
      · cases h2
    have hdone : ∀ k, doneOf (Array.replicate ops.size false) k = false := fun k => by
      unfold doneOf
      by_cases hk : k < ops.size
      · simp [Array.getD, hk]
      · simp [Array.getD, hk]
    have hT : ∀ (ss : List Stp) (i : Nat) (f : Nat → SV), foldT (doneOf (Array.replicate ops.size false)) i ss f = f := by
      intro ss
      induction ss with
      | nil => intro i f; rfl
      | cons x ss ih => intro i f; simp only [foldT, hdone]; exact ih _ _
    have hB : ∀ (ss : List Stp) (i : Nat) (f : Nat → Option SB), foldB (doneOf (Array.replicate ops.size false)) i ss f = f := by
      intro ss
      induction ss with
      | nil => intro i f; rfl
      | cons x ss ih => intro i f; simp only [foldB, hdone]; exact ih _ _
    refine c.draw (κ₀ := κ) (F₀ := F) (U₀ := U) (wI := w) (dI := a.defers) (fun b h1 _ => hU b h1) hro hlen i1 i2 hsl (fun κ' F' a' w' h1 h2 h3 => ⟨rfl, κ', F', by rw [hL]; exact h1, h2, by rw [h3]; exact Marks.nil⟩) ops.size _ (κ := κ) (F := F) (by simp) (fun j o _ hd => by rw [hdone] at hd; cases hd) ?_ ?_ ?_ rfl
    · exact Nat.le_trans (List.length_filter_le _ _) (by simp)
    · rw [hT, hB]
      have : Rel w0 env κ F U σ.tmp σ.blk σ.L a { w with drawn := w.drawn + 1 } :=
        hr.world (κ' := κ) (F' := F) (fun _ h => h) (fun _ _ => rfl) (fun _ h => h) (fun _ _ => rfl) (fun b x hx => .inl ⟨hx, fun _ _ _ => rfl⟩) hr.inj hr.nF hr.F (hr.below.trans ⟨rfl, rfl, rfl, Nat.le_refl _, fun _ _ => rfl⟩)
      exact this.monoU (fun b hb => .inl hb)
    · rw [hB]
      exact ⟨fun _ _ => rfl, fun _ h => h, fun _ h => .inl h, Nat.le_refl _, fun _ _ _ => rfl, fun b _ h1 h2 => .inr ⟨b, h1, h2⟩, .of fun _ _ => .inr rfl⟩
theorem region_path (hrun : RunOK P w0 run) (hfit : PFit P) {fid id : Nat} {ops : Array Oper} {draw : Bool} {σ : SS} {k : Ex → SS → T} (hn : env.length = σ.n) (hk : KnownOK env σ.n σ.known) (h : (symOps P cfg run fid id ops draw σ.hp ops.toList σ [] (fun σ' => σ'.pack (k .normal))).den P Post env K) : Path P Post w0 ro (.region id ops draw) env K σ k := by
  obtain ⟨rs, ss, σ', K', g2, g3, g4, g5, g5k, g6, g7, g8, g9⟩ := ops_sound (w0 := w0) (ro := ro) hrun hfit ops.toList 0 σ [] env K (fun j o hj => by rw [Nat.zero_add]; simpa using hj) hn hk h
  obtain ⟨τ, t1, t2, t3, t4, t5, t6, t7, t8⟩ := σ'.pack_spec (k .normal)
  rw [t1] at g5
  refine ⟨.normal, τ, rs, K', g5, g5k, by rw [t6, g9], by rw [t4, t5]; exact g6, by rw [t4]; exact g7, fun us => ?_⟩
  exact (leads_region hfit (by rw [g2]; simp) (g3 us) g8 (fun hd => by have := g4 hd; simpa using this)).same ⟨rfl, rfl, rfl, rfl⟩ ⟨t7, t8, t2, t3⟩
theorem leads_freeze {σ : SS} {bs : List Nat} {c : Code} {ex : Ex} {σ' : SS} (hw : WrOk σ.N (iceOf σ.blk bs) ∧ wrLen σ.N (iceOf σ.blk bs) = σ.N) (h : Leads P w0 ro c env (σ.write (iceOf σ.blk bs)) ex σ') : Leads P w0 ro c env σ ex σ' := by
  obtain ⟨y1, y2, y3, y4, _⟩ := write_spec σ _ hw.1
  rw [hw.2] at y2
  refine ⟨by rw [← y2]; exact h.le, fun κ F U a w hr hU hro => ?_⟩
  obtain ⟨F1, r1, k1⟩ := hr.freeze bs
  rw [← y1] at r1 k1
  rw [← y3, ← y4] at r1
  refine wpIn_mono (h.go κ F1 U a w r1 (by rw [y2]; exact hU) hro) ?_
  rintro e a' w' ⟨he, κ', F', r, k, m⟩
  exact ⟨he, κ', F', by rw [← y2]; exact r, k1.trans k (fun _ h => h), m⟩
theorem ice_low (σ : SS) (bs : List Nat) : WrOk σ.N (iceOf σ.blk bs) ∧ wrLen σ.N (iceOf σ.blk bs) = σ.N := by
  have h := wr_low (iceOf σ.blk bs) [] σ.N (fun x hx => by
    obtain ⟨b, _, h1⟩ := List.mem_filterMap.1 hx
    split at h1
    · rename_i e t l hb
      cases h1
      exact blk_lt hb
    · cases h1) trivial
  rw [List.append_nil] at h
  exact h
theorem regions_path (hrun : RunOK P w0 run) (hfit : PFit P) {fid id : Nat} {ops : Array Oper} {draw : Bool} {σ : SS} {k : Ex → SS → T} (hn : env.length = σ.n) (hk : KnownOK env σ.n σ.known) (h : (symRegion P cfg run fid id ops draw (k .normal) σ).den P Post env K) : Path P Post w0 ro (.region id ops draw) env K σ k := by
  unfold symRegion at h
  split at h
  · exact region_path hrun hfit hn hk h
  · rename_i b bs _
    rw [SS.go_eq] at h
    obtain ⟨y1, y2, y3, y4, y5, y6, y7⟩ := write_spec σ _ (ice_low σ (b :: bs)).1
    obtain ⟨ex, σ', rs, K', q1, q2, q3, q4, q5, q6⟩ := region_path (w0 := w0) (ro := ro) hrun hfit (by rw [y5]; exact hn) (by rw [y5, y6]; exact hk) h
    exact ⟨ex, σ', rs, K', q1, fun l hl => q2 l (by rw [y7]; exact hl), by rw [q3, y7], q4, q5, fun us => leads_freeze (ice_low σ (b :: bs)) (q6 us)⟩
end Go.Sx
namespace Go.Sx
open Go Go.RowKit Go.Dial
set_option linter.constructorNameAsVariable false
variable {env : List AV} {κ κ' : Nat → Value} {F F' : Nat → Prop} {w w' w0 : World} {U : Nat → Prop} {tmp : Nat → SV} {blk : Nat → Option SB} {L : Nat} {a : Act} {P : Program} {Post : R → Prop} {K : Nat → List AV → Prop}

theorem letterOf_some {p : Loc → Bool} : ∀ (l : List Loc) (n m : Nat) {sv : SV}, letterOf p l n m = some sv → ∃ i x, l[i]? = some x ∧ p x = true ∧ sv = x.letter (n + i) (m + i)
  | [], n, m, sv, h => by cases h
  | x :: l, n, m, sv, h => by
    unfold letterOf at h
    split at h
    · rename_i hp; cases h; exact ⟨0, x, rfl, hp, rfl⟩
    · obtain ⟨i, y, h1, h2, h3⟩ := letterOf_some l (n + 1) (m + 1) h
      exact ⟨i + 1, y, h1, h2, by rw [h3]; congr 1 <;> omega⟩
theorem letterOf_none {p : Loc → Bool} : ∀ (l : List Loc) (n m : Nat), letterOf p l n m = none ↔ l.any p = false
  | [], n, m => by simp [letterOf]
  | x :: l, n, m => by
    unfold letterOf
    cases hp : p x with
    | true => simp [hp]
    | false => simp [hp, letterOf_none l]
theorem headCells_get (locs : List Loc) (σ : SS) (b : Nat) : ∀ (l : List SV) (off i : Nat), (headCells locs σ b off l)[i]? = (l[i]?).map fun x => (letterOf (·.isCell b (off + i)) locs σ.n σ.N).getD x
  | [], off, i => by simp [headCells]
  | x :: l, off, 0 => by simp [headCells]
  | x :: l, off, i + 1 => by
    have := headCells_get locs σ b l (off + 1) i
    simp only [headCells, List.getElem?_cons_succ, this]
    rw [show off + 1 + i = off + (i + 1) by omega]
theorem head_tmp (locs : List Loc) (taken : List (Option Nat)) (σ : SS) (t : Nat) : (headOf locs taken σ).tmp t = if t < σ.L then headTmp locs σ t else .any := by
  show (Ov.fn σ.L (headTmp locs σ)).get .any t = _
  by_cases h : t < σ.L
  · rw [if_pos h, Ov.get_fn h]
  · rw [if_neg h]; exact Ov.get_out (by show σ.L ≤ t; omega)
theorem head_blk (locs : List Loc) (taken : List (Option Nat)) (σ : SS) (b : Nat) : (headOf locs taken σ).blk b = if b < σ.N + locs.length then headBlk locs taken σ b else none := by
  show (Ov.fn (σ.N + locs.length) (headBlk locs taken σ)).get none b = _
  by_cases h : b < σ.N + locs.length
  · rw [if_pos h, Ov.get_fn h]
  · rw [if_neg h]; exact Ov.get_out (by show σ.N + locs.length ≤ b; omega)
theorem innerOf_some {b : Nat} : ∀ (l : List Loc) (n : Nat) {y : SB}, innerOf b l n = some y → ∃ i e r, l[i]? = some (.inrow b e r) ∧ y = .row e r (.v (n + i))
  | [], n, y, h => by cases h
  | x :: l, n, y, h => by
    cases x with
    | inrow c e r =>
      simp only [innerOf] at h
      split at h
      · rename_i hc; subst hc; cases h; exact ⟨0, e, r, rfl, rfl⟩
      · obtain ⟨i, e, r, h1, h2⟩ := innerOf_some l (n + 1) h
        exact ⟨i + 1, e, r, h1, by rw [h2]; congr 2; omega⟩
    | _ =>
      simp only [innerOf] at h
      obtain ⟨i, e, r, h1, h2⟩ := innerOf_some l (n + 1) h
      exact ⟨i + 1, e, r, h1, by rw [h2]; congr 2; omega⟩
theorem innerOf_none {b : Nat} : ∀ (l : List Loc) (n : Nat), innerOf b l n = none → l.any (·.isIn b) = false
  | [], n, _ => rfl
  | x :: l, n, h => by
    cases x with
    | inrow c e r =>
      simp only [innerOf] at h
      split at h
      · cases h
      · rename_i hc
        have := innerOf_none l (n + 1) h
        rw [List.any_cons, this, Bool.or_false]
        simpa [Loc.isIn] using hc
    | _ =>
      simp only [innerOf] at h
      have := innerOf_none l (n + 1) h
      rw [List.any_cons, this]; rfl
theorem tails_spec {σ : SS} : ∀ (locs : List Loc) (rows : List (Option Nat)) (es : E), tails σ locs = some (rows, es) →
    rows.length = locs.length ∧ (den env es).g.length = locs.length ∧ ∀ (i : Nat) x, locs[i]? = some x → ∃ b e, rows[i]? = some b ∧ (den env es).g[i]? = some (den env e) ∧ tailStep σ x = some (b, e)
  | [], rows, es, h => by
    simp only [tails] at h; cases h
    exact ⟨rfl, rfl, fun i x hx => by simp at hx⟩
  | x :: l, rows, es, h => by
    simp only [tails] at h
    split at h
    · rename_i b e bs es' h1 h2
      cases h
      obtain ⟨i1, i2, i3⟩ := tails_spec l bs es' h2
      refine ⟨by simp [i1], by simp [den, i2], fun i y hy => ?_⟩
      cases i with
      | zero => simp at hy; subst hy; exact ⟨b, e, rfl, by simp [den], h1⟩
      | succ i =>
        simp at hy
        obtain ⟨b', e', q1, q2, q3⟩ := i3 i y hy
        exact ⟨b', e', by simpa using q1, by simpa [den] using q2, q3⟩
    · cases h
theorem distinct_spec : ∀ (l : List (Option Nat)), distinct l = true → ∀ (i j b : Nat), l[i]? = some (some b) → l[j]? = some (some b) → i = j
  | [], _, i, j, b, h, _ => by simp at h
  | x :: l, hd, i, j, b, h1, h2 => by
    have tl : ∀ (i j : Nat), l[i]? = some (some b) → l[j]? = some (some b) → i = j := fun i j q1 q2 => by
      cases x with
      | none => exact distinct_spec l hd i j b q1 q2
      | some c =>
        simp only [distinct, Bool.and_eq_true] at hd
        exact distinct_spec l hd.2 i j b q1 q2
    cases i with
    | zero =>
      cases j with
      | zero => rfl
      | succ j =>
        simp at h1 h2
        subst h1
        simp only [distinct, Bool.and_eq_true, Bool.not_eq_true', List.contains_eq_mem, decide_eq_false_iff_not] at hd
        exact absurd (List.mem_of_getElem? h2) hd.1
    | succ i =>
      cases j with
      | zero =>
        simp at h1 h2
        subst h2
        simp only [distinct, Bool.and_eq_true, Bool.not_eq_true', List.contains_eq_mem, decide_eq_false_iff_not] at hd
        exact absurd (List.mem_of_getElem? h1) hd.1
      | succ j => simp at h1 h2; rw [tl i j h1 h2]
theorem cellsFit_spec {locs : List Loc} {n N b : Nat} : ∀ (l m : List SV) (off : Nat), cellsFit locs n N b off l m = true → l.length = m.length ∧ ∀ (i : Nat) x y, l[i]? = some x → m[i]? = some y → locs.any (·.isCell b (off + i)) = true ∨ (x = y ∧ x.sc n = true ∧ ∀ c ∈ x.names, c < N)
  | [], [], off, _ => ⟨rfl, fun i x y h => by simp at h⟩
  | [], _ :: _, off, h => by cases h
  | _ :: _, [], off, h => by cases h
  | x :: l, y :: m, off, h => by
    simp only [cellsFit, Bool.and_eq_true] at h
    obtain ⟨h1, h2⟩ := h
    obtain ⟨i1, i2⟩ := cellsFit_spec l m (off + 1) h2
    refine ⟨by simp [i1], fun i x' y' g1 g2 => ?_⟩
    cases i with
    | zero =>
      simp at g1 g2; subst g1; subst g2
      rw [Bool.or_eq_true] at h1
      rcases h1 with h1 | h1
      · exact .inl h1
      · simp only [Bool.and_eq_true, beq_iff_eq, List.all_eq_true, decide_eq_true_eq] at h1
        exact .inr ⟨h1.1.1, h1.1.2, h1.2⟩
    | succ i =>
      simp at g1 g2
      have := i2 i x' y' g1 g2
      rw [show off + 1 + i = off + (i + 1) by omega] at this
      exact this
theorem rowVal_spec (h : Rel w0 env κ F U tmp blk L a w) {σ : SS} (hb : σ.blk = blk) {x : SV} {ety : Nat} {r : Ty} {b : Option Nat} {e : E} (hr : rowVal σ x ety r = some (b, e)) {u : Value} (hu : SVden env κ F w x u) :
    plainCell u = true ∧ (den env e) = .sl r (den env e).l ∧ (∃ us, w.ownsRow w0.heap.size ety r.len u (den env e).l.length us ∧ 0 < r.len ∧ RowsDen F w us r (den env e).l) ∧ ((b = none ∧ u = .slice none 0 0) ∨ ∃ c y, b = some c ∧ (blk c = some y ∧ liveB (some y) = true) ∧ u = κ c) := by
  unfold rowVal at hr
  split at hr
  · split at hr
    · rename_i hp
      cases hr
      rw [show u = _ from hu]
      refine ⟨rfl, rfl, ⟨[], World.ownsRow_nil _ _ _ _, hp, ⟨fun i r hr => by simp [den] at hr, fun i r k x hr => by simp [den] at hr⟩⟩, .inl ⟨rfl, rfl⟩⟩
    · cases hr
  · rename_i c
    split at hr
    · rename_i a' t l hc
      split at hr
      · rename_i hh
        obtain ⟨rfl, rfl⟩ := hh
        cases hr
        rw [hb] at hc
        obtain ⟨us, h1, h2, h3⟩ := h.blks c _ hc
        refine ⟨hu.2, rfl, ⟨us, by rw [hu.1]; exact h1, h2, h3⟩, .inr ⟨c, _, rfl, ⟨hc, rfl⟩, hu.1⟩⟩
      · cases hr
    · cases hr
  · cases hr
theorem leafOf_names {e : E} {s : Ty} : ∀ b ∈ ((leafOf e s).getD .any).names, False := by
  intro b hb
  cases s <;> simp [leafOf, SV.names] at hb
theorem fits_rel {locs : List Loc} {taken rows : List (Option Nat)} {σ₀ σ : SS} {es : E} {rs : List AV} (hn : env.length = σ₀.n) (h : Rel w0 (env ++ rs) κ F U σ.tmp σ.blk σ.L a w) (ht : tails σ locs = some (rows, es))
    (hf : fits locs σ₀.n σ₀.N (headOf locs taken σ₀) σ rows = true) {U₀ : Nat → Prop} (hU : ∀ b, U b → b < σ₀.N → U₀ b)
    {rsE : List AV} (hloop : ∀ b i st p i', σ₀.blk b = some (.loop i st p) → σ.blk b = some (.loop i' st p) → SBden (env ++ rsE) κ F w0.heap.size w b (.loop i st p) ∧ ∀ c ∈ (SB.loop i st p).names, U₀ c) :
    (den (env ++ rs) es).g.map AV.ty = locs.map Loc.sort ∧ ∃ κ', (∀ b, ¬ (σ₀.N ≤ b ∧ b < σ₀.N + locs.length) → κ' b = κ b) ∧
      (∀ us, Rel w0 (env ++ ((den (env ++ rs) es).g ++ us)) κ' F (fun b => U₀ b ∨ (σ₀.N ≤ b ∧ b < σ₀.N + locs.length)) (headOf locs taken σ₀).tmp (headOf locs taken σ₀).blk (headOf locs taken σ₀).L a w) ∧
      ∀ b k, liveB ((headOf locs taken σ₀).blk b) = true → blockOf (κ' b) = some k → ∃ c, liveB (σ.blk c) = true ∧ blockOf (κ c) = some k := by
  obtain ⟨vs, hvs⟩ : ∃ vs, vs = (den (env ++ rs) es).g := ⟨_, rfl⟩
  obtain ⟨t1, t2, t3⟩ := tails_spec (env := env ++ rs) locs rows es ht
  rw [← hvs] at t2 t3 ⊢
  obtain ⟨N, hN⟩ : ∃ N, N = σ₀.N := ⟨_, rfl⟩
  obtain ⟨n, hn'⟩ : ∃ n, n = σ₀.n := ⟨_, rfl⟩
  rw [← hn'] at hn
  rw [← hN] at hU
  unfold fits at hf
  simp only [Bool.and_eq_true, beq_iff_eq] at hf
  obtain ⟨⟨⟨f1, f2⟩, f3⟩, f4⟩ := hf
  rw [List.all_eq_true] at f3 f4
  rw [← hN] at f3 f4
  rw [← hn'] at f3 f4
  rw [← hN]
  obtain ⟨κ', hκ⟩ : ∃ κ' : Nat → Value, ∀ b, κ' b = if N ≤ b ∧ b < N + locs.length then (match rows[b - N]? with | some (some c) => κ c | _ => .slice none 0 0) else κ b := ⟨_, fun _ => rfl⟩
  have hκ0 : ∀ b, ¬ (N ≤ b ∧ b < N + locs.length) → κ' b = κ b := fun b hb => by rw [hκ, if_neg hb]
  have hκ1 : ∀ b, b < N → κ' b = κ b := fun b hb => hκ0 b (by omega)
  have hκ2 : ∀ i, i < locs.length → κ' (N + i) = (match rows[i]? with | some (some c) => κ c | _ => .slice none 0 0) := fun i hi => by rw [hκ, if_pos (by omega), show N + i - N = i by omega]
  have cellU : ∀ c o sv, cellAt σ c o = some sv → ∃ u, SVden (env ++ rs) κ F w sv u := fun c o sv hs => by
    unfold cellAt at hs
    split at hs
    · rename_i ty xs hb
      obtain ⟨g, cs, _, _, _, q1, q2, _⟩ := h.blks c _ hb
      obtain ⟨_, q3⟩ := tup_view q2 q1
      obtain ⟨u, _, hu⟩ := q3 o sv hs
      exact ⟨u, hu⟩
    · cases hs
  have nzd : ∀ {sv : SV} {u : Value}, SVden (env ++ rs) κ F w sv u → SVden (env ++ rs) κ F w (nz σ.blk sv) u := fun hd => nz_den (fun b e t l hb => h.blks b _ hb) hd
  have hsorts : vs.map AV.ty = locs.map Loc.sort := by
    refine List.ext_getElem? (fun i => ?_)
    rw [List.getElem?_map, List.getElem?_map]
    cases hx : locs[i]? with
    | none => rw [List.getElem?_eq_none (by rw [t2]; exact List.getElem?_eq_none_iff.1 hx)]; rfl
    | some x =>
      obtain ⟨b, e, h1, h2, h3⟩ := t3 i x hx
      rw [h2]
      simp only [Option.map_some, Option.some.injEq]
      cases x with
      | tmp t s =>
        simp only [tailStep] at h3
        split at h3
        · rename_i e' u' hl
          split at h3
          · rename_i hs; cases h3; rw [(leaf_cell hl (nzd (h.tmps t))).2.1]; exact hs
          · cases h3
        · cases h3
      | tmprow t ety r =>
        simp only [tailStep] at h3
        rw [(rowVal_spec h rfl h3 (h.tmps t)).2.1]; rfl
      | cell c o s =>
        simp only [tailStep] at h3
        split at h3
        · rename_i e' u' hl
          split at h3
          · rename_i hs; cases h3
            obtain ⟨sv, q1, q2⟩ := Option.bind_eq_some_iff.1 hl
            obtain ⟨u, hu⟩ := cellU c o sv q1
            rw [(leaf_cell q2 (nzd hu)).2.1]; exact hs
          · cases h3
        · cases h3
      | cellrow c o ety r =>
        simp only [tailStep] at h3
        obtain ⟨sv, q1, q2⟩ := Option.bind_eq_some_iff.1 h3
        obtain ⟨u, hu⟩ := cellU c o sv q1
        rw [(rowVal_spec h rfl q2 hu).2.1]; rfl
      | inrow c ety r =>
        simp only [tailStep] at h3
        split at h3
        · split at h3
          · cases h3; rfl
          · cases h3
        · cases h3
  have rowOfI : ∀ i, i < locs.length → (∃ x ety r, locs[i]? = some x ∧ x.block (n + i) = some (.row ety r (.v (n + i)))) → ∃ x ety r b e u, locs[i]? = some x ∧ x.block (n + i) = some (.row ety r (.v (n + i))) ∧ rows[i]? = some b ∧ vs[i]? = some (den (env ++ rs) e) ∧ u = κ' (N + i) ∧
      (den (env ++ rs) e) = .sl r (den (env ++ rs) e).l ∧ (∃ us, w.ownsRow w0.heap.size ety r.len u (den (env ++ rs) e).l.length us ∧ 0 < r.len ∧ RowsDen F w us r (den (env ++ rs) e).l) ∧ ((b = none ∧ u = .slice none 0 0) ∨ ∃ c y, b = some c ∧ (σ.blk c = some y ∧ liveB (some y) = true) ∧ u = κ c) := by
    rintro i hi ⟨x, ety, r, hx, hbk⟩
    obtain ⟨b, e, h1, h2, h3⟩ := t3 i x hx
    have key : ∀ sv u, SVden (env ++ rs) κ F w sv u → rowVal σ sv ety r = some (b, e) → ∃ x ety r b e u, locs[i]? = some x ∧ x.block (n + i) = some (.row ety r (.v (n + i))) ∧ rows[i]? = some b ∧ vs[i]? = some (den (env ++ rs) e) ∧ u = κ' (N + i) ∧
        (den (env ++ rs) e) = .sl r (den (env ++ rs) e).l ∧ (∃ us, w.ownsRow w0.heap.size ety r.len u (den (env ++ rs) e).l.length us ∧ 0 < r.len ∧ RowsDen F w us r (den (env ++ rs) e).l) ∧ ((b = none ∧ u = .slice none 0 0) ∨ ∃ c y, b = some c ∧ (σ.blk c = some y ∧ liveB (some y) = true) ∧ u = κ c) := by
      intro sv u hu hr
      obtain ⟨_, d2, d3, d4⟩ := rowVal_spec h rfl hr hu
      refine ⟨x, ety, r, b, e, u, hx, hbk, h1, h2, ?_, d2, d3, d4⟩
      rw [hκ2 i hi, h1]
      rcases d4 with ⟨rfl, d5⟩ | ⟨c, y, rfl, _, d5⟩
      · exact d5
      · exact d5
    cases x with
    | tmp t s => simp [Loc.block] at hbk
    | cell c o s => simp [Loc.block] at hbk
    | inrow c e r => simp [Loc.block] at hbk
    | tmprow t ety' r' =>
      simp only [Loc.block] at hbk; cases hbk
      simp only [tailStep] at h3
      exact key _ _ (h.tmps t) h3
    | cellrow c o ety' r' =>
      simp only [Loc.block] at hbk; cases hbk
      simp only [tailStep] at h3
      obtain ⟨sv, q1, q2⟩ := Option.bind_eq_some_iff.1 h3
      obtain ⟨u, hu⟩ := cellU c o sv q1
      exact key sv u hu q2
  have hblkN : ∀ i x, i < locs.length → (headOf locs taken σ₀).blk (N + i) = some x → ∃ ety r, x = .row ety r (.v (n + i)) ∧ ∃ y, locs[i]? = some y ∧ y.block (n + i) = some (.row ety r (.v (n + i))) := fun i x hi hx => by
    rw [head_blk, ← hN, if_pos (by omega)] at hx
    unfold headBlk at hx
    rw [← hN, if_neg (by omega), show N + i - N = i by omega, ← hn'] at hx
    obtain ⟨y, hy, hyb⟩ := Option.bind_eq_some_iff.1 hx
    cases y with
    | tmp t s => simp [Loc.block] at hyb
    | cell c o s => simp [Loc.block] at hyb
    | inrow c e r => simp [Loc.block] at hyb
    | tmprow t ety r => simp only [Loc.block] at hyb; cases hyb; exact ⟨ety, r, rfl, _, hy, rfl⟩
    | cellrow c o ety r => simp only [Loc.block] at hyb; cases hyb; exact ⟨ety, r, rfl, _, hy, rfl⟩
  -- where a block of the head comes from
  have from0 : ∀ b x, (headOf locs taken σ₀).blk b = some x → (b < N ∧ rows.contains (some b) = false ∧ blkFits locs n N b x (σ.blk b) = true ∧ (innerOf b locs n = some x ∨ (innerOf b locs n = none ∧ ((∃ ty xs, σ₀.blk b = some (.cells ty xs) ∧ x = .cells ty (.of (headCells locs σ₀ b 0 xs.list))) ∨ (σ₀.blk b = some x ∧ ∀ ty xs, x ≠ .cells ty xs))))) ∨ ∃ i, b = N + i ∧ i < locs.length := fun b x hx => by
    by_cases hb : b < N
    · left
      have h4 := f4 b (List.mem_range.2 hb)
      rw [hx] at h4
      simp only [Bool.and_eq_true, Bool.not_eq_true'] at h4
      refine ⟨hb, h4.1, h4.2, ?_⟩
      rw [head_blk, ← hN, if_pos (by omega)] at hx
      unfold headBlk at hx
      rw [← hN, if_pos hb, ← hn'] at hx
      split at hx
      · cases hx
      · split at hx
        · rename_i y hy; cases hx; exact .inl hy
        · rename_i hy
          refine .inr ⟨hy, ?_⟩
          split at hx
          · rename_i ty xs hb0; cases hx; exact .inl ⟨ty, xs, hb0, rfl⟩
          · cases hx
          · rename_i hne _
            exact .inr ⟨hx, fun ty xs e => by subst e; exact hne ty xs hx⟩
    · right
      rw [head_blk, ← hN] at hx
      split at hx
      · exact ⟨b - N, by omega, by omega⟩
      · cases hx
  have fitsLive : ∀ b x, blkFits locs n N b x (σ.blk b) = true → ∃ y, σ.blk b = some y ∧ liveB (some y) = liveB (some x) := fun b x hx => by
    cases hy : σ.blk b with
    | none => rw [hy] at hx; cases x <;> simp [blkFits] at hx
    | some y =>
      rw [hy] at hx
      refine ⟨y, rfl, ?_⟩
      cases x <;> cases y <;> first | rfl | (simp [blkFits] at hx)
  -- whose block a live name has
  have whose : ∀ b k, liveB ((headOf locs taken σ₀).blk b) = true → blockOf (κ' b) = some k → ∃ c, liveB (σ.blk c) = true ∧ blockOf (κ c) = some k ∧ ((b < N ∧ c = b ∧ rows.contains (some b) = false) ∨ ∃ i, b = N + i ∧ rows[i]? = some (some c)) := fun b k hl hk => by
    obtain ⟨x, hx, hxl⟩ := live_some hl
    rcases from0 b x hx with ⟨h1, h2, h3, _⟩ | ⟨i, rfl, hi⟩
    · obtain ⟨y, hy, hyl⟩ := fitsLive b x h3
      exact ⟨b, by rw [hy, hyl]; exact hxl, by rw [← hκ1 b h1]; exact hk, .inl ⟨h1, rfl, h2⟩⟩
    · obtain ⟨ety, r, rfl, y, hy, hyb⟩ := hblkN i x hi hx
      obtain ⟨x', ety', r', b, e, u, g1, g2, g3, g4, g5, g6, g7, g8⟩ := rowOfI i hi ⟨y, ety, r, hy, hyb⟩
      rw [← g5] at hk
      rcases g8 with ⟨rfl, g9⟩ | ⟨c, z, rfl, g9, g10⟩
      · rw [g9] at hk; cases hk
      · rw [g10] at hk
        exact ⟨c, by rw [g9.1]; exact g9.2, hk, .inr ⟨i, rfl, g3⟩⟩
  refine ⟨hsorts, κ', hκ0, fun us => ?_, fun b k hb hk => by obtain ⟨c, h1, h2, _⟩ := whose b k hb hk; exact ⟨c, h1, h2⟩⟩
  obtain ⟨env2, henv2⟩ : ∃ env2, env2 = env ++ (vs ++ us) := ⟨_, rfl⟩
  rw [← henv2]
  have hag : Agree n (env ++ rs) env2 := by rw [henv2]; exact (agree_ext hn).symm.trans (agree_ext hn)
  have hagE : Agree n (env ++ rsE) env2 := by rw [henv2]; exact (agree_ext hn).symm.trans (agree_ext hn)
  have hvar : ∀ i x, locs[i]? = some x → ∀ v, vs[i]? = some v → den env2 (.v (n + i)) = v := fun i x _ v hv => by
    rw [henv2]
    simp only [den, List.getD]
    rw [List.getElem?_append_right (by omega), show n + i - env.length = i by omega, List.getElem?_append_left (List.getElem?_eq_some_iff.1 hv).1, hv]; rfl
  -- a piece's letter means the value at its place
  have letter : ∀ i x, locs[i]? = some x → ∀ (sv : SV) (u : Value), SVden (env ++ rs) κ F w sv u →
      ((∃ s e, x.sort = s ∧ sv.leaf = some (e, s) ∧ vs[i]? = some (den (env ++ rs) e) ∧ x.letter (n + i) (N + i) = (leafOf (.v (n + i)) s).getD .any) ∨ ∃ ety r b e, x.sort = .sl r ∧ rowVal σ sv ety r = some (b, e) ∧ rows[i]? = some b ∧ vs[i]? = some (den (env ++ rs) e) ∧ x.letter (n + i) (N + i) = .row (N + i)) →
      SVden env2 κ' F w (x.letter (n + i) (N + i)) u := fun i x hx sv u hu hh => by
    rcases hh with ⟨s, e, _, h2, h3, h4⟩ | ⟨ety, r, b, e, _, h2, h3, h4, h5⟩
    · rw [h4]
      obtain ⟨d1, d2, _⟩ := leaf_cell h2 hu
      have hv := hvar i x hx _ h3
      cases hl : leafOf (.v (n + i)) s with
      | none => trivial
      | some y =>
        have := leaf_den (env := env2) (κ := κ') (F := F) (w := w) hl (by rw [hv]; exact d2) (by rw [hv]; exact d1)
        exact this
    · rw [h5]
      obtain ⟨d1, _, _, d4⟩ := rowVal_spec h rfl h2 hu
      refine ⟨?_, d1⟩
      rw [hκ2 i (by have := (List.getElem?_eq_some_iff.1 hx).1; exact this), h3]
      rcases d4 with ⟨rfl, d5⟩ | ⟨c, y, rfl, _, d5⟩
      · exact d5
      · exact d5
  -- parts that are no pieces
  have same : ∀ (x : SV) (u : Value), x.sc n = true → (∀ c ∈ x.names, c < N) → SVden (env ++ rs) κ F w x u → SVden env2 κ' F w x u := fun x u hs hnames hd =>
    (hd.re hag hs).keep (fun b hb => hκ1 b (hnames b hb)) (fun _ h => h) (fun _ _ => rfl)
  have letter_names : ∀ (i : Nat) (x : Loc), locs[i]? = some x → ∀ c ∈ (x.letter (n + i) (N + i)).names, (∃ e r, x = Loc.inrow c e r) ∨ (N ≤ c ∧ c < N + locs.length) := fun i x hx c hc => by
    have hi := (List.getElem?_eq_some_iff.1 hx).1
    cases x with
    | tmp t s => exact (leafOf_names c hc).elim
    | cell b o s => exact (leafOf_names c hc).elim
    | tmprow t e r => right; simp [Loc.letter, SV.names] at hc; omega
    | cellrow b o e r => right; simp [Loc.letter, SV.names] at hc; omega
    | inrow b e r => left; simp [Loc.letter, SV.names] at hc; subst hc; exact ⟨e, r, rfl⟩
  constructor
  case tmps =>
    intro t
    rw [head_tmp]
    split
    · rename_i htl
      have h3 := f3 t (List.mem_range.2 (show t < (headOf locs taken σ₀).L from htl))
      rw [Bool.or_eq_true, Bool.or_eq_true] at h3
      rw [head_tmp, if_pos htl] at h3
      unfold headTmp at h3 ⊢
      rw [← hN, ← hn'] at h3 ⊢
      cases hlt : letterOf (·.isTmp t) locs n N with
      | some sv =>
        obtain ⟨i, x, hx, hp, rfl⟩ := letterOf_some locs n N hlt
        simp only [Option.getD_some]
        obtain ⟨b, e, g1, g2, g3⟩ := t3 i x hx
        cases x with
        | tmp t' s =>
          have : t' = t := by simpa [Loc.isTmp] using hp
          subst this
          refine letter i _ hx (nz σ.blk (σ.tmp t')) _ (nzd (h.tmps t')) ?_
          simp only [tailStep] at g3
          split at g3
          · rename_i e' u' hl
            split at g3
            · rename_i hs; cases g3; subst hs; exact .inl ⟨_, _, rfl, hl, g2, rfl⟩
            · cases g3
          · cases g3
        | tmprow t' ety r =>
          have : t' = t := by simpa [Loc.isTmp] using hp
          subst this
          exact letter i _ hx (σ.tmp t') _ (h.tmps t') (.inr ⟨ety, r, b, e, rfl, g3, g1, g2, rfl⟩)
        | cell _ _ _ => simp [Loc.isTmp] at hp
        | cellrow _ _ _ _ => simp [Loc.isTmp] at hp
        | inrow _ _ _ => simp [Loc.isTmp] at hp
      | none =>
        rw [hlt] at h3
        simp only [Option.getD_none] at h3 ⊢
        rcases h3 with (h3 | h3) | h3
        · rw [(letterOf_none locs n N).1 hlt] at h3; cases h3
        · have : σ₀.tmp t = .any := by simpa using h3
          rw [this]; trivial
        · simp only [Bool.and_eq_true, beq_iff_eq, List.all_eq_true, decide_eq_true_eq] at h3
          exact same _ _ h3.1.2 h3.2 (by rw [h3.1.1]; exact h.tmps t)
    · trivial
  case size => rw [f1]; exact h.size
  case blks =>
    intro b x hx
    rcases from0 b x hx with ⟨h1, h2, h3, h4⟩ | ⟨i, rfl, hi⟩
    · rcases h4 with h4 | ⟨h4n, h4⟩
      · -- an own slice that keeps its place
        obtain ⟨i, e, r, hx', rfl⟩ := innerOf_some locs n h4
        obtain ⟨b', e', g1, g2, g3⟩ := t3 i _ hx'
        simp only [tailStep] at g3
        split at g3
        · rename_i a' t' l' hb'
          split at g3
          · rename_i hh
            obtain ⟨rfl, rfl⟩ := hh
            cases g3
            obtain ⟨us', q1, q2, q3⟩ := h.blks b _ hb'
            have hv := hvar i _ hx' _ g2
            refine ⟨us', ?_, q2, ?_⟩
            · rw [hv, hκ1 b h1]; exact q1
            · rw [hv]; exact q3
          · cases g3
        · cases g3
      · rcases h4 with ⟨ty, xs₀, hb₀, rfl⟩ | ⟨h4, hnc⟩
        · -- cells
          cases hy : σ.blk b with
          | none => rw [hy] at h3; simp [blkFits] at h3
          | some y =>
            rw [hy] at h3
            cases y with
            | cells ty' ys =>
              simp only [blkFits, Bool.and_eq_true, beq_iff_eq] at h3
              obtain ⟨⟨rfl, hp⟩, hc⟩ := h3
              obtain ⟨g, cs, q1, q2, q3, q4, q5, q6⟩ := h.blks b _ hy
              obtain ⟨s1, s2⟩ := tup_view q5 q4
              obtain ⟨c1, c2⟩ := cellsFit_spec _ _ 0 hc
              refine ⟨g, cs, by rw [hκ1 b h1]; exact q1, q2, q3, ?_, hp, q6⟩
              rw [of_list] at c1 c2
              have := tup_mk (env := env2) (κ := κ') (F := F) (w := w) (l := headCells locs σ₀ b 0 xs₀.list) (cs := cs.toList) (by rw [c1, list_len]; simpa using s1) (fun o x u g1 g2 => by
                have hy' : ∃ y, ys.list[o]? = some y := ⟨_, List.getElem?_eq_getElem (by rw [← c1]; exact (List.getElem?_eq_some_iff.1 g1).1)⟩
                obtain ⟨y, hy'⟩ := hy'
                obtain ⟨u', hu', hd⟩ := s2 o y hy'
                rw [Array.getElem?_toList, hu'] at g2; cases g2
                have g3 := headCells_get locs σ₀ b xs₀.list 0 o
                rw [g1] at g3
                obtain ⟨x₀, _, g4⟩ := Option.map_eq_some_iff.1 g3.symm
                rw [Nat.zero_add, ← hN, ← hn'] at g4
                cases hlt : letterOf (·.isCell b o) locs n N with
                | some sv =>
                  rw [hlt, Option.getD_some] at g4
                  subst g4
                  obtain ⟨i, z, hz, hp', rfl⟩ := letterOf_some locs n N hlt
                  obtain ⟨b', e, k1, k2, k3⟩ := t3 i z hz
                  have hcell : cellAt σ b o = some y := by unfold cellAt; rw [hy]; exact hy'
                  cases z with
                  | tmp _ _ => simp [Loc.isCell] at hp'
                  | tmprow _ _ _ => simp [Loc.isCell] at hp'
                  | inrow _ _ _ => simp [Loc.isCell] at hp'
                  | cell c o' s =>
                    have hco : c = b ∧ o' = o := by simpa [Loc.isCell] using hp'
                    obtain ⟨rfl, rfl⟩ := hco
                    refine letter i _ hz (nz σ.blk y) _ (nzd hd) ?_
                    simp only [tailStep, hcell, Option.bind_some] at k3
                    split at k3
                    · rename_i e' u'' hl
                      split at k3
                      · rename_i hs; cases k3; subst hs; exact .inl ⟨_, _, rfl, hl, k2, rfl⟩
                      · cases k3
                    · cases k3
                  | cellrow c o' ety r =>
                    have hco : c = b ∧ o' = o := by simpa [Loc.isCell] using hp'
                    obtain ⟨rfl, rfl⟩ := hco
                    simp only [tailStep, hcell, Option.bind_some] at k3
                    exact letter i _ hz y _ hd (.inr ⟨ety, r, b', e, rfl, k3, k1, k2, rfl⟩)
                | none =>
                  rcases c2 o x y g1 hy' with h6 | ⟨h6, h7, h8⟩
                  · rw [Nat.zero_add, (letterOf_none locs n N).1 hlt] at h6; cases h6
                  · subst h6; exact same x _ h7 h8 hd)
              simpa using this
            | _ => simp [blkFits] at h3
        · cases hy : σ.blk b with
          | none => rw [hy] at h3; cases x <;> simp [blkFits] at h3
          | some y =>
            rw [hy] at h3
            have hsb := h.blks b y hy
            have hin := innerOf_none locs n h4n
            cases x with
            | cells ty xs => exact absurd rfl (hnc ty xs)
            | dead l => cases y <;> simp [blkFits] at h3
            | row e t l =>
              cases y with
              | row e' t' l' =>
                simp only [blkFits, Bool.and_eq_true, beq_iff_eq, Bool.or_eq_true, hin, Bool.false_eq_true, false_or] at h3
                obtain ⟨⟨rfl, rfl⟩, rfl, hs⟩ := h3
                obtain ⟨us', q1, q2, q3⟩ := hsb
                refine ⟨us', ?_, q2, ?_⟩
                · rw [hag l hs, hκ1 b h1]; exact q1
                · rw [hag l hs]; exact q3
              | _ => simp [blkFits] at h3
            | ice e t l =>
              cases y with
              | ice e' t' l' =>
                simp only [blkFits, Bool.and_eq_true, beq_iff_eq] at h3
                obtain ⟨⟨⟨rfl, rfl⟩, rfl⟩, hs⟩ := h3
                obtain ⟨q1, q2⟩ := hsb
                exact ⟨by rw [hag l hs, hκ1 b h1]; exact q1, by rw [hag l hs, hκ1 b h1]; exact q2⟩
              | _ => simp [blkFits] at h3
            | map ks vs' =>
              cases y with
              | map ks' vs'' =>
                simp only [blkFits, Bool.and_eq_true, beq_iff_eq, List.all_eq_true, decide_eq_true_eq] at h3
                obtain ⟨⟨⟨⟨rfl, rfl⟩, hs1⟩, hs2⟩, hnm⟩ := h3
                obtain ⟨r, es', cl, q1, q2, q3, q4, q5, q6, q7⟩ := hsb
                exact ⟨r, es', cl, by rw [hκ1 b h1]; exact q1, q2, q3, q4, q5, q6, (q7.re hag hs1 hs2).keep (fun c hc => hκ1 c (hnm c hc)) (fun _ h => h) (fun _ _ => rfl)⟩
              | _ => simp [blkFits] at h3
            | loop i st p =>
              cases y with
              | loop i' st' p' =>
                simp only [blkFits, Bool.and_eq_true, beq_iff_eq, List.all_eq_true] at h3
                obtain ⟨⟨⟨rfl, rfl⟩, hs⟩, hnm⟩ := h3
                obtain ⟨q, _⟩ := hloop b i st p i' h4 hy
                refine SBden.keep (SBden.re (x := .loop i st p) hagE hs q) (fun c hc => hκ1 c ?_) (hκ1 b h1) (fun _ h => h) (fun _ _ => rfl) (fun _ _ _ => rfl)
                obtain ⟨t, _, hc⟩ := List.mem_flatMap.1 hc
                exact blt_lt (hnm c (Ov.mem_flat (d := SV.any) rfl hc))
              | _ => simp [blkFits] at h3
    · obtain ⟨ety, r, rfl, y, hy, hyb⟩ := hblkN i x hi hx
      obtain ⟨x', ety', r', b, e, u, g1, g2, g3, g4, g5, g6, ⟨us', g7, g8, g9⟩, _⟩ := rowOfI i hi ⟨y, ety, r, hy, hyb⟩
      rw [hy] at g1; cases g1
      rw [hyb] at g2; cases g2
      have hv := hvar i y hy _ g4
      refine ⟨us', ?_, g8, ?_⟩
      · rw [hv, ← g5]; exact g7
      · rw [hv]; exact g9
  case inj =>
    intro b c k hb hc g1 g2
    obtain ⟨b', p1, p2, p3⟩ := whose b k hb g1
    obtain ⟨c', q1, q2, q3⟩ := whose c k hc g2
    have hbc := h.inj b' c' k p1 q1 p2 q2
    subst hbc
    rcases p3 with ⟨_, p4, p5⟩ | ⟨i, p4, p5⟩ <;> rcases q3 with ⟨_, q4, q5⟩ | ⟨j, q4, q5⟩
    · rw [← p4, ← q4]
    · exfalso
      rw [← p4] at p5
      have : rows.contains (some b') = true := by simpa using List.mem_of_getElem? q5
      rw [p5] at this; cases this
    · exfalso
      rw [← q4] at q5
      have : rows.contains (some b') = true := by simpa using List.mem_of_getElem? p5
      rw [q5] at this; cases this
    · rw [p4, q4, distinct_spec rows f2 i j b' p5 q5]
  case nF =>
    intro b k hb g1
    obtain ⟨b', p1, p2, _⟩ := whose b k hb g1
    exact h.nF b' k p1 p2
  case F => exact h.F
  case tnames =>
    intro t b hb
    rw [head_tmp] at hb
    split at hb
    · rename_i htl
      have h3 := f3 t (List.mem_range.2 (show t < (headOf locs taken σ₀).L from htl))
      rw [Bool.or_eq_true, Bool.or_eq_true] at h3
      rw [head_tmp, if_pos htl] at h3
      unfold headTmp at h3 hb
      rw [← hN, ← hn'] at h3 hb
      cases hlt : letterOf (·.isTmp t) locs n N with
      | some sv =>
        rw [hlt] at hb
        obtain ⟨i, x, hx, hp, rfl⟩ := letterOf_some locs n N hlt
        rcases letter_names i x hx b hb with ⟨e, r, rfl⟩ | h4
        · simp [Loc.isTmp] at hp
        · exact .inr h4
      | none =>
        rw [hlt] at h3 hb
        simp only [Option.getD_none] at h3 hb
        rcases h3 with (h3 | h3) | h3
        · rw [(letterOf_none locs n N).1 hlt] at h3; cases h3
        · have : σ₀.tmp t = .any := by simpa using h3
          rw [this] at hb; cases hb
        · simp only [Bool.and_eq_true, beq_iff_eq, List.all_eq_true, decide_eq_true_eq] at h3
          left
          refine hU b ?_ (h3.2 b hb)
          rw [h3.1.1] at hb
          exact h.tnames t b hb
    · cases hb
  case bnames =>
    intro b x hx
    rcases from0 b x hx with ⟨h1, h2, h3, h4⟩ | ⟨i, rfl, hi⟩
    · obtain ⟨y, hy, _⟩ := fitsLive b x h3
      obtain ⟨hUb, hUn⟩ := h.bnames b y hy
      refine ⟨.inl (hU b hUb h1), fun c hc => ?_⟩
      rcases h4 with h4 | ⟨h4n, h4⟩
      · obtain ⟨i, e, r, _, rfl⟩ := innerOf_some locs n h4
        cases hc
      · rcases h4 with ⟨ty, xs₀, hb₀, rfl⟩ | ⟨h4, hnc⟩
        · rw [hy] at h3
          cases y with
          | cells ty' ys =>
            simp only [blkFits, Bool.and_eq_true, beq_iff_eq] at h3
            obtain ⟨⟨rfl, hp⟩, hcf⟩ := h3
            obtain ⟨c1, c2⟩ := cellsFit_spec _ _ 0 hcf
            rw [of_list] at c1 c2
            obtain ⟨z, hz, hcz⟩ := (of_names _ c).1 hc
            obtain ⟨o, ho⟩ := List.getElem?_of_mem hz
            have g3 := headCells_get locs σ₀ b xs₀.list 0 o
            rw [ho] at g3
            obtain ⟨x₀, _, g4⟩ := Option.map_eq_some_iff.1 g3.symm
            rw [Nat.zero_add, ← hN, ← hn'] at g4
            cases hlt : letterOf (·.isCell b o) locs n N with
            | some sv =>
              rw [hlt, Option.getD_some] at g4
              subst g4
              obtain ⟨i, z', hz', hp', rfl⟩ := letterOf_some locs n N hlt
              rcases letter_names i z' hz' c hcz with ⟨e, r, rfl⟩ | h5
              · simp [Loc.isCell] at hp'
              · exact .inr h5
            | none =>
              have hy' : ∃ y, ys.list[o]? = some y := ⟨_, List.getElem?_eq_getElem (by rw [← c1]; exact (List.getElem?_eq_some_iff.1 ho).1)⟩
              obtain ⟨y, hy'⟩ := hy'
              rcases c2 o z y ho hy' with h6 | ⟨h6, h7, h8⟩
              · rw [Nat.zero_add, (letterOf_none locs n N).1 hlt] at h6; cases h6
              · subst h6
                exact .inl (hU c (hUn c (list_names ys z (List.mem_of_getElem? hy') c hcz)) (h8 c hcz))
          | _ => simp [blkFits] at h3
        · rw [hy] at h3
          cases x with
          | cells ty xs => exact absurd rfl (hnc ty xs)
          | dead l => cases hc
          | row e t l => cases hc
          | ice e t l => cases hc
          | map ks vs' =>
            cases y with
            | map ks' vs'' =>
              simp only [blkFits, Bool.and_eq_true, beq_iff_eq, List.all_eq_true, decide_eq_true_eq] at h3
              obtain ⟨⟨⟨⟨rfl, rfl⟩, hs1⟩, hs2⟩, hnm⟩ := h3
              exact .inl (hU c (hUn c hc) (hnm c hc))
            | _ => simp [blkFits] at h3
          | loop i st p =>
            cases y with
            | loop i' st' p' =>
              simp only [blkFits, Bool.and_eq_true, beq_iff_eq, List.all_eq_true] at h3
              obtain ⟨⟨⟨rfl, rfl⟩, hs⟩, hnm⟩ := h3
              exact .inl ((hloop b i st p i' h4 hy).2 c hc)
            | _ => simp [blkFits] at h3
    · obtain ⟨ety, r, rfl, y, hy, hyb⟩ := hblkN i x hi hx
      exact ⟨.inr ⟨by omega, by omega⟩, fun c hc => by cases hc⟩
  case below => exact h.below
end Go.Sx
namespace Go.Sx
open Go Go.RowKit Go.Dial
set_option linter.constructorNameAsVariable false
variable {env : List AV} {κ κ' : Nat → Value} {F F' : Nat → Prop} {w w' w0 : World} {U : Nat → Prop} {tmp : Nat → SV} {blk : Nat → Option SB} {L : Nat} {a : Act} {P : Program} {Post : R → Prop} {K : Nat → List AV → Prop} {cfg : Cfg} {run : Run} {ro : Option Nat}

theorem Ends.refl {σ : SS} (h : Rel w0 env κ F U σ.tmp σ.blk σ.L a w) : Ends w0 env κ F U σ a w σ a w := ⟨κ, F, h.monoU (fun b hb => .inl hb), Kept.refl, Marks.nil⟩
theorem leads_skip {σ : SS} : Leads P w0 ro .skip env σ .normal σ := ⟨Nat.le_refl _, fun _ _ _ _ _ h _ _ => wpIn_skip ⟨rfl, Ends.refl h⟩⟩
theorem leads_exit {σ : SS} {id : Nat} : Leads P w0 ro (.exit id) env σ (.exit id) σ := ⟨Nat.le_refl _, fun _ _ _ _ _ h _ _ => wpIn_exit ⟨rfl, Ends.refl h⟩⟩
theorem leads_ret {σ : SS} : Leads P w0 ro .ret env σ .ret σ := ⟨Nat.le_refl _, fun _ _ _ _ _ h _ _ => wpIn_ret ⟨rfl, Ends.refl h⟩⟩
theorem leads_seq {x y : Code} {σ σ₁ σ₂ : SS} {ex : Ex} (h1 : Leads P w0 ro x env σ .normal σ₁) (h2 : Leads P w0 ro y env σ₁ ex σ₂) : Leads P w0 ro (.seq x y) env σ ex σ₂ := by
  have l1 := h1.le
  have l2 := h2.le
  refine ⟨by omega, fun κ F U a w h hU hro => wpIn_seq (wpIn_mono (h1.go κ F U a w h hU hro) ?_)⟩
  rintro e a' w' ⟨rfl, hE⟩
  show y.wpIn (FR (roAt κ ro)) 0 P _ a' w'
  exact wpIn_then l1 hE hU hro h2 (fun a'' w'' hE => ⟨rfl, hE⟩)
theorem leads_seq_out {x y : Code} {σ σ₁ : SS} {ex : Ex} (hex : ex ≠ .normal) (h1 : Leads P w0 ro x env σ ex σ₁) : Leads P w0 ro (.seq x y) env σ ex σ₁ := by
  refine ⟨h1.le, fun κ F U a w h hU hro => wpIn_seq (wpIn_mono (h1.go κ F U a w h hU hro) ?_)⟩
  rintro e a' w' ⟨rfl, hE⟩
  cases ex with
  | normal => exact absurd rfl hex
  | exit id => exact ⟨rfl, hE⟩
  | ret => exact ⟨rfl, hE⟩
theorem leads_cond {c : Operand} {x y : Code} {σ σ' : SS} {ex : Ex} {e : E} {b : Bool} (he : σ.ev c = .vb e) (hb : (den env e).b = b) (h1 : Leads P w0 ro (if b then x else y) env σ ex σ') : Leads P w0 ro (.cond c x y) env σ ex σ' := by
  refine ⟨h1.le, fun κ F U a w h hU hro => ?_⟩
  have hv := h.ev c
  rw [← ev_eq, he] at hv
  exact wpIn_cond (hv.1.trans (by rw [hb])) (h1.go κ F U a w h hU hro)
theorem leads_block {id : Nat} {c : Code} {σ σ' : SS} {ex ex' : Ex} (hex : ex' = match ex with | .exit i => if i = id then .normal else .exit i | e => e) (h1 : Leads P w0 ro c env σ ex σ') : Leads P w0 ro (.block id c) env σ ex' σ' := by
  refine ⟨h1.le, fun κ F U a w h hU hro => wpIn_block (wpIn_mono (h1.go κ F U a w h hU hro) ?_)⟩
  rintro e a' w' ⟨rfl, hE⟩
  subst hex
  cases ex with
  | normal => exact ⟨rfl, hE⟩
  | ret => exact ⟨rfl, hE⟩
  | exit i =>
    show Exit.inBlock id _ (.exit i) a' w'
    unfold Exit.inBlock
    simp only
    split
    · exact ⟨rfl, hE⟩
    · exact ⟨rfl, hE⟩
structure LeadsR (P : Program) (w0 : World) (ro : Option Nat) (c : Code) (m : Nat) (env : List AV) (σ : SS) (ex : Ex) (σ' : SS) : Prop where
  le : σ.N ≤ σ'.N
  go : ∀ (κ : Nat → Value) (F U : Nat → Prop) (a : Act) (w : World), Rel w0 env κ F U σ.tmp σ.blk σ.L a w → (∀ b, σ.N ≤ b → ¬ U b) → (∀ b, ro = some b → U b) →
    Code.roundsIn (FR (roAt κ ro)) 0 P c (fun e a' w' => e = ex.exit' ∧ Ends w0 env κ F U σ a w σ' a' w') m a w
theorem LeadsR.loop {c : Code} {m : Nat} {σ σ' : SS} {ex : Ex} (h : LeadsR P w0 ro c m env σ ex σ') : Leads P w0 ro (.loop c) env σ ex σ' :=
  ⟨h.le, fun κ F U a w hr hU hro => wpIn_loop_rounds m (h.go κ F U a w hr hU hro)⟩
theorem roundsIn_mono {Fc : Fence} {c : Code} {Q Q' : Exit → Act → World → Prop} (hq : ∀ e a w, Q e a w → Q' e a w) : ∀ (m : Nat) (a : Act) (w : World), Code.roundsIn Fc 0 P c Q m a w → Code.roundsIn Fc 0 P c Q' m a w
  | 0, _, _, h => h
  | m + 1, a, w, h => by
    rw [roundsIn_succ] at h ⊢
    refine wpIn_mono h (fun e a' w' he => ?_)
    cases e with
    | normal => exact roundsIn_mono hq m a' w' he
    | _ => exact hq _ _ _ he
theorem rounds_more {c : Code} {m : Nat} {σ σ₁ σ₂ : SS} {ex : Ex} (h1 : Leads P w0 ro c env σ .normal σ₁) (h2 : LeadsR P w0 ro c m env σ₁ ex σ₂) : LeadsR P w0 ro c (m + 1) env σ ex σ₂ := by
  have l1 := h1.le
  have l2 := h2.le
  refine ⟨by omega, fun κ F U a w h hU hro => ?_⟩
  rw [roundsIn_succ]
  refine wpIn_mono (h1.go κ F U a w h hU hro) ?_
  rintro e a' w' ⟨rfl, κ1, F1, r1, k1, m1⟩
  show Code.roundsIn _ 0 P c _ m a' w'
  rw [← roAt_congr (κ := κ) (κ' := κ1) (ro := ro) (fun b hb => k1.kap b (hro b hb))]
  refine roundsIn_mono ?_ m a' w' (h2.go κ1 F1 _ a' w' r1 (fun b h2 hb => ?_) (fun b hb => .inl (hro b hb)))
  · rintro e a'' w'' ⟨rfl, h4⟩
    exact ⟨rfl, Ends.trans l1 l2 r1 k1 m1 h4⟩
  · rcases hb with hb | hb
    · exact hU b (by omega) hb
    · omega
theorem rounds_one {c : Code} {σ σ' : SS} {ex : Ex} (hex : ex ≠ .normal) (h1 : Leads P w0 ro c env σ ex σ') : LeadsR P w0 ro c 1 env σ ex σ' := by
  refine ⟨h1.le, fun κ F U a w h hU hro => ?_⟩
  rw [roundsIn_succ]
  refine wpIn_mono (h1.go κ F U a w h hU hro) ?_
  rintro e a' w' ⟨rfl, hE⟩
  cases ex with
  | normal => exact absurd rfl hex
  | exit id => exact ⟨rfl, hE⟩
  | ret => exact ⟨rfl, hE⟩
theorem Rel.forget (h : Rel w0 env κ F U tmp blk L a w) {tmp' : Nat → SV} (ht : ∀ t, tmp' t = .any ∨ tmp' t = tmp t) : Rel w0 env κ F U tmp' blk L a w :=
  { h with
    tmps := fun t => by rcases ht t with e | e; rw [e]; trivial; rw [e]; exact h.tmps t
    tnames := fun t b hb => by rcases ht t with e | e; rw [e] at hb; cases hb; rw [e] at hb; exact h.tnames t b hb }
theorem forget_spec (ds : List Nat) (locs : List Loc) : ∀ σ : SS, (∀ t, (forget ds locs σ).tmp t = .any ∨ (forget ds locs σ).tmp t = σ.tmp t) ∧ (forget ds locs σ).L = σ.L ∧ (forget ds locs σ).N = σ.N ∧ (forget ds locs σ).blk = σ.blk ∧ (forget ds locs σ).n = σ.n ∧ (forget ds locs σ).known = σ.known ∧ (forget ds locs σ).dep = σ.dep := by
  unfold forget
  induction ds with
  | nil => intro σ; exact ⟨fun t => .inr rfl, rfl, rfl, rfl, rfl, rfl, rfl⟩
  | cons d ds ih =>
    intro σ
    simp only [List.foldl_cons]
    split
    · exact ih σ
    · obtain ⟨h1, h2, h3, h4, h5, h6, h7⟩ := ih (σ.put (some d) .any)
      refine ⟨fun t => ?_, h2, h3, h4, h5, h6, h7⟩
      rcases h1 t with e | e
      · exact .inl e
      · rw [e]
        by_cases hd : d < σ.L
        · obtain ⟨g1, _⟩ := put_spec σ (dst := some d) (v := .any) (fun x hx => by cases hx; exact hd)
          rw [g1]
          simp only [updO, upd]
          split
          · exact .inl rfl
          · exact .inr rfl
        · by_cases ht : t < σ.L
          · right
            have : Nat.beq d t = false := by rw [← Bool.not_eq_true, Nat.beq_eq]; omega
            show (Ov.put σ.rf d .any).get .any t = σ.rf.get .any t
            unfold Ov.get Ov.put
            simp only [this]
          · left; exact Ov.get_out (by show σ.L ≤ t; omega)
theorem loop_later {rsE : List AV} {σ₀ σ : SS} {κE : Nat → Value} {FE U₀ : Nat → Prop} {aE : Act} {wE : World} {env' : List AV} (hE : Rel w0 (env ++ rsE) κE FE U₀ σ₀.tmp σ₀.blk σ₀.L aE wE) (k : Kept U₀ σ₀.blk κE FE wE σ.blk κ F w) (h : Rel w0 env' κ F U σ.tmp σ.blk σ.L a w) :
    ∀ b i st p i', σ₀.blk b = some (.loop i st p) → σ.blk b = some (.loop i' st p) → SBden (env ++ rsE) κ F w0.heap.size w b (.loop i st p) ∧ ∀ c ∈ (SB.loop i st p).names, U₀ c := by
  intro b i st p i' h0 h1
  obtain ⟨hUb, hnm⟩ := hE.bnames b _ h0
  refine ⟨?_, hnm⟩
  obtain ⟨l, r, q1, q2, q3, q4, q5, q6, q7, q8, q9, q10⟩ := hE.blks b _ h0
  obtain ⟨l', r', p1, p2, p3, p4, p5, _⟩ := h.blks b _ h1
  have hk := k.kap b hUb
  rw [p1, q1] at hk
  have : l' = l := by injection hk with h1; injection h1 with h1; injection h1
  subst this
  obtain ⟨r2, s1, s2, s3, s4, s5⟩ := k.recs l' r q2
  rw [p2] at s1
  have : r' = r2 := by injection s1 with s1; injection s1
  subst this
  exact ⟨l', r', p1, p2, p3, p4, p5, s2.trans q6, s3.trans q7, s4.trans q8, by rw [s5]; exact q9, fun t => by rw [s5]; exact k.sv hE (q10 t) (record_names hE h0 t)⟩
theorem rehead {U₀ : Nat → Prop} {blk0 blk1 blkh : Nat → Option SB} {κE κ1 : Nat → Value} {FE F1 : Nat → Prop} {wE w1 : World} {N M : Nat} (k : Kept U₀ blk0 κE FE wE blk1 κ1 F1 w1) (hκ : ∀ b, ¬ (N ≤ b ∧ b < M) → κ' b = κ1 b) (hU : ∀ b, N ≤ b → b < M → ¬ U₀ b)
    (hw : ∀ b j, liveB (blkh b) = true → blockOf (κ' b) = some j → ∃ c, liveB (blk1 c) = true ∧ blockOf (κ1 c) = some j) : Kept U₀ blk0 κE FE wE blkh κ' F1 w1 :=
  { k with
    kap := fun b hb => (hκ b (fun hh => hU b hh.1 hh.2 hb)).trans (k.kap b hb)
    prov := fun b j h1 h2 => by obtain ⟨c, h3, h4⟩ := hw b j h1 h2; exact k.prov c j h3 h4 }
theorem tails_co {σ : SS} : ∀ {locs : List Loc} {rows : List (Option Nat)} {es : E} {xs : List AV}, tails σ locs = some (rows, es) → xs.length = locs.length → (coAll (locs.map Loc.sort) xs).map AV.ty = locs.map Loc.sort
  | [], _, _, xs, _, _ => rfl
  | x :: l, rows, es, [], _, hl => by simp at hl
  | x :: l, rows, es, y :: xs, h, hl => by
    simp only [tails] at h
    split at h
    · rename_i b e bs es' h1 h2
      show (co x.sort y).ty :: (coAll (l.map Loc.sort) xs).map AV.ty = x.sort :: l.map Loc.sort
      rw [tails_co h2 (by simpa using hl)]
      congr 1
      have leafs : ∀ {sv : SV} {e : E} {u : Ty}, sv.leaf = some (e, u) → (co u y).ty = u := fun {sv} {e} {u} hh => by
        cases sv <;> simp only [SV.leaf] at hh <;> cases hh <;> rfl
      cases x with
      | tmp t s =>
        simp only [tailStep] at h1
        split at h1
        · rename_i e' u' hlf
          split at h1
          · rename_i hs; subst hs; exact leafs hlf
          · cases h1
        · cases h1
      | cell c o s =>
        simp only [tailStep] at h1
        split at h1
        · rename_i e' u' hlf
          split at h1
          · rename_i hs; subst hs
            obtain ⟨sv, _, q2⟩ := Option.bind_eq_some_iff.1 hlf
            exact leafs q2
          · cases h1
        · cases h1
      | tmprow _ _ _ => rfl
      | cellrow _ _ _ _ => rfl
      | inrow _ _ _ => rfl
    · cases h
theorem fLoc_eq' {α : Type} (l : List Loc) (k : List Loc → α) : fL fLoc l k = k l := fL_eq fLoc_eq l k
theorem loop_path {fid id N₀ : Nat} {c : Code} {locs : List Loc} {ds : List Nat} {body : (Ex → SS → T) → SS → T} (ih : ∀ (Post : R → Prop) (K : Nat → List AV → Prop) (k : Ex → SS → T) (σ : SS) (env : List AV), env.length = σ.n → KnownOK env σ.n σ.known → (body k σ).den P Post env K → Path P Post w0 ro c env K σ k)
    {k : Ex → SS → T} {σ : SS} (hn : env.length = σ.n) (hk : KnownOK env σ.n σ.known) (h : (loopInv fid id N₀ locs ds body k σ).den P Post env K) : Path P Post w0 ro (.loop c) env K σ k := by
  unfold loopInv at h
  simp only [fLoc_eq', SS.go_eq, fE_eq, SS.all_eq] at h
  obtain ⟨g1, g2, g3, g4, g5, g6, g7⟩ := forget_spec ds locs σ
  obtain ⟨σ₀, hσ₀⟩ : ∃ σ₀, σ₀ = forget ds locs σ := ⟨_, rfl⟩
  rw [← hσ₀] at h g1 g2 g3 g4 g5 g6 g7
  split at h
  · exact h.elim
  rename_i taken es htails
  split at h
  rotate_left
  · exact h.elim
  rename_i hc
  rw [Bool.and_eq_true] at hc
  obtain ⟨c1, c2⟩ := hc
  obtain ⟨I, μ, h0, hround⟩ := h
  have hn0 : env.length = σ₀.n := by rw [g5]; exact hn
  obtain ⟨hd, hhd⟩ : ∃ hd, hd = headOf locs taken σ₀ := ⟨_, rfl⟩
  rw [← hhd] at c2 hround
  have hhN : hd.N = σ₀.N + locs.length := by rw [hhd]; rfl
  have hhn : hd.n = σ₀.n + locs.length := by rw [hhd]; rfl
  have hhk : hd.known = σ₀.known := by rw [hhd]; rfl
  -- round by round
  have key : ∀ (v : Nat) (vs : List AV), μ vs = v → vs.map AV.ty = locs.map Loc.sort → I vs → ∃ (m : Nat) (ex : Ex) (σ' : SS) (rsT : List AV) (K' : Nat → List AV → Prop), (k ex σ').den P Post (env ++ rsT) K' ∧ (∀ l, l < σ.dep → K' l = K l) ∧ σ'.dep = σ.dep ∧ KnownOK (env ++ rsT) σ'.n σ'.known ∧ (env ++ rsT).length = σ'.n ∧ hd.N ≤ σ'.N ∧
      ∀ (us rsE : List AV) (κE : Nat → Value) (FE U₀ : Nat → Prop) (aE : Act) (wE : World), Rel w0 (env ++ rsE) κE FE U₀ σ₀.tmp σ₀.blk σ₀.L aE wE → (∀ b, σ₀.N ≤ b → ¬ U₀ b) → (∀ b, ro = some b → U₀ b) →
        ∀ (κ : Nat → Value) (F : Nat → Prop) (a : Act) (w : World), (∀ x, Rel w0 (env ++ (vs ++ x)) κ F (fun b => U₀ b ∨ (σ₀.N ≤ b ∧ b < hd.N)) hd.tmp hd.blk hd.L a w) → Kept U₀ σ₀.blk κE FE wE hd.blk κ F w → Marks wE aE.defers F w a.defers →
          Code.roundsIn (FR (roAt κE ro)) 0 P c (fun e a' w' => e = ex.exit' ∧ Ends w0 (env ++ rsT ++ us) κE FE U₀ σ₀ aE wE σ' a' w') m a w := by
    intro v
    induction v using Nat.strongRecOn with
    | _ v ihv =>
      intro vs hv hty hI
      have hvl : vs.length = locs.length := by have := congrArg List.length hty; simpa using this
      obtain ⟨ex₁, σ₁, rs₁, K₁, q1, q2, q3, q4, q5, q6⟩ := ih Post _ _ { hd with dep := σ.dep + 1 } (env ++ vs) (by rw [List.length_append, hn0, hvl]; exact hhn.symm) (by show KnownOK (env ++ vs) hd.n hd.known; rw [hhn, hhk, g6]; exact (by rw [← g5] at hk; exact hk.ext hn0 (Nat.le_add_right _ _))) (hround vs hty hI)
      have hle1 : hd.N ≤ σ₁.N := (q6 []).le
      have fin : ∀ (m₂ : Nat) (ex₂ : Ex) (σ₂ : SS) (rs₂ : List AV) (K₂ : Nat → List AV → Prop), (k ex₂ { σ₂ with dep := σ.dep }).den P Post (env ++ vs ++ rs₂) K₂ → (∀ l, l < σ.dep → K₂ l = K l) → KnownOK (env ++ vs ++ rs₂) σ₂.n σ₂.known → (env ++ vs ++ rs₂).length = σ₂.n → (∀ us, LeadsR P w0 ro c m₂ (env ++ vs ++ rs₂ ++ us) { hd with dep := σ.dep + 1 } ex₂ σ₂) → ∃ (m : Nat) (ex : Ex) (σ' : SS) (rsT : List AV) (K' : Nat → List AV → Prop), (k ex σ').den P Post (env ++ rsT) K' ∧ (∀ l, l < σ.dep → K' l = K l) ∧ σ'.dep = σ.dep ∧ KnownOK (env ++ rsT) σ'.n σ'.known ∧ (env ++ rsT).length = σ'.n ∧ hd.N ≤ σ'.N ∧
          ∀ (us rsE : List AV) (κE : Nat → Value) (FE U₀ : Nat → Prop) (aE : Act) (wE : World), Rel w0 (env ++ rsE) κE FE U₀ σ₀.tmp σ₀.blk σ₀.L aE wE → (∀ b, σ₀.N ≤ b → ¬ U₀ b) → (∀ b, ro = some b → U₀ b) →
            ∀ (κ : Nat → Value) (F : Nat → Prop) (a : Act) (w : World), (∀ x, Rel w0 (env ++ (vs ++ x)) κ F (fun b => U₀ b ∨ (σ₀.N ≤ b ∧ b < hd.N)) hd.tmp hd.blk hd.L a w) → Kept U₀ σ₀.blk κE FE wE hd.blk κ F w → Marks wE aE.defers F w a.defers →
              Code.roundsIn (FR (roAt κE ro)) 0 P c (fun e a' w' => e = ex.exit' ∧ Ends w0 (env ++ rsT ++ us) κE FE U₀ σ₀ aE wE σ' a' w') m a w := by
        intro m₂ ex₂ σ₂ rs₂ K₂ r1 r2 r3 r4 r5
        have hle2 : hd.N ≤ σ₂.N := (r5 []).le
        refine ⟨m₂, ex₂, { σ₂ with dep := σ.dep }, vs ++ rs₂, K₂, by rw [← List.append_assoc]; exact r1, r2, rfl, by rw [← List.append_assoc]; exact r3, by rw [← List.append_assoc]; exact r4, hle2, ?_⟩
        intro us rsE κE FE U₀ aE wE hE hfr hro κ F a w hH hK hM
        rw [← roAt_congr (κ := κE) (κ' := κ) (ro := ro) (fun b hb => hK.kap b (hro b hb))]
        have hr := hH (rs₂ ++ us)
        have e1 : env ++ vs ++ rs₂ ++ us = env ++ (vs ++ (rs₂ ++ us)) := by simp
        have e2 : env ++ (vs ++ rs₂) ++ us = env ++ (vs ++ (rs₂ ++ us)) := by simp
        have hl := r5 us
        rw [e1] at hl
        refine roundsIn_mono ?_ m₂ a w (hl.go κ F _ a w hr (fun b h1 hb => ?_) (fun b hb => .inl (hro b hb)))
        · rintro e a' w' ⟨rfl, κ1, F1, r1, k1, m1⟩
          refine ⟨rfl, ?_⟩
          rw [e2]
          refine ⟨κ1, F1, ?_, hK.trans k1 (fun b hb => .inl hb), hM.trans hr k1 hK.size m1⟩
          refine r1.monoU (fun b hb => ?_)
          rcases hb with (hb | hb) | hb
          · exact .inl hb
          · exact .inr ⟨hb.1, by show b < σ₂.N; omega⟩
          · exact .inr ⟨by have : hd.N ≤ b := hb.1; omega, hb.2⟩
        · have h1 : hd.N ≤ b := h1
          rcases hb with hb | hb
          · exact hfr b (by omega) hb
          · omega
      have out : ex₁ ≠ .normal → (roundEnd id locs σ₀ hd σ.dep body k ex₁ σ₁) = k ex₁ { σ₁ with dep := σ.dep } → ∃ (m : Nat) (ex : Ex) (σ' : SS) (rsT : List AV) (K' : Nat → List AV → Prop), (k ex σ').den P Post (env ++ rsT) K' ∧ (∀ l, l < σ.dep → K' l = K l) ∧ σ'.dep = σ.dep ∧ KnownOK (env ++ rsT) σ'.n σ'.known ∧ (env ++ rsT).length = σ'.n ∧ hd.N ≤ σ'.N ∧
          ∀ (us rsE : List AV) (κE : Nat → Value) (FE U₀ : Nat → Prop) (aE : Act) (wE : World), Rel w0 (env ++ rsE) κE FE U₀ σ₀.tmp σ₀.blk σ₀.L aE wE → (∀ b, σ₀.N ≤ b → ¬ U₀ b) → (∀ b, ro = some b → U₀ b) →
            ∀ (κ : Nat → Value) (F : Nat → Prop) (a : Act) (w : World), (∀ x, Rel w0 (env ++ (vs ++ x)) κ F (fun b => U₀ b ∨ (σ₀.N ≤ b ∧ b < hd.N)) hd.tmp hd.blk hd.L a w) → Kept U₀ σ₀.blk κE FE wE hd.blk κ F w → Marks wE aE.defers F w a.defers →
              Code.roundsIn (FR (roAt κE ro)) 0 P c (fun e a' w' => e = ex.exit' ∧ Ends w0 (env ++ rsT ++ us) κE FE U₀ σ₀ aE wE σ' a' w') m a w := by
        intro hne heq
        rw [heq] at q1
        exact fin 1 ex₁ σ₁ rs₁ K₁ q1 (fun l hl => by rw [q2 l (by show l < σ.dep + 1; omega), upd_other (by omega)]) q4 q5 (fun us => rounds_one hne (q6 us))
      have more : ex₁ = .normal → (body (fun e σ' => match e with | .normal => T.stop id "the loop turns more" | e => k e { σ' with dep := σ.dep }) σ₁).den P Post (env ++ vs ++ rs₁) K₁ → ∃ (m : Nat) (ex : Ex) (σ' : SS) (rsT : List AV) (K' : Nat → List AV → Prop), (k ex σ').den P Post (env ++ rsT) K' ∧ (∀ l, l < σ.dep → K' l = K l) ∧ σ'.dep = σ.dep ∧ KnownOK (env ++ rsT) σ'.n σ'.known ∧ (env ++ rsT).length = σ'.n ∧ hd.N ≤ σ'.N ∧
          ∀ (us rsE : List AV) (κE : Nat → Value) (FE U₀ : Nat → Prop) (aE : Act) (wE : World), Rel w0 (env ++ rsE) κE FE U₀ σ₀.tmp σ₀.blk σ₀.L aE wE → (∀ b, σ₀.N ≤ b → ¬ U₀ b) → (∀ b, ro = some b → U₀ b) →
            ∀ (κ : Nat → Value) (F : Nat → Prop) (a : Act) (w : World), (∀ x, Rel w0 (env ++ (vs ++ x)) κ F (fun b => U₀ b ∨ (σ₀.N ≤ b ∧ b < hd.N)) hd.tmp hd.blk hd.L a w) → Kept U₀ σ₀.blk κE FE wE hd.blk κ F w → Marks wE aE.defers F w a.defers →
              Code.roundsIn (FR (roAt κE ro)) 0 P c (fun e a' w' => e = ex.exit' ∧ Ends w0 (env ++ rsT ++ us) κE FE U₀ σ₀ aE wE σ' a' w') m a w := by
        intro he hmore
        obtain ⟨ex₂, σ₂, rs₂, K₂, r1, r2, r3, r4, r5, r6⟩ := ih Post _ _ σ₁ (env ++ vs ++ rs₁) q5 q4 hmore
        have hne : ex₂ ≠ .normal := by rintro rfl; exact r1.elim
        have r1' : (k ex₂ { σ₂ with dep := σ.dep }).den P Post (env ++ vs ++ rs₁ ++ rs₂) K₂ := by
          cases ex₂ with
          | normal => exact r1.elim
          | exit j => exact r1
          | ret => exact r1
        have e3 : env ++ vs ++ rs₁ ++ rs₂ = env ++ vs ++ (rs₁ ++ rs₂) := by simp
        refine fin 2 ex₂ σ₂ (rs₁ ++ rs₂) K₂ (by rw [← e3]; exact r1') (fun l hl => ?_) (by rw [← e3]; exact r4) (by rw [← e3]; exact r5) (fun us => ?_)
        · rw [r2 l (by rw [q3]; show l < σ.dep + 1; omega), q2 l (by show l < σ.dep + 1; omega), upd_other (by omega)]
        · have h1 := q6 (rs₂ ++ us)
          have h2 := r6 us
          rw [← List.append_assoc] at h1
          rw [← e3]
          subst he
          exact rounds_more h1 (rounds_one hne h2)
      cases ex₁ with
      | exit j => exact out (fun h => by cases h) rfl
      | ret => exact out (fun h => by cases h) rfl
      | normal =>
        unfold roundEnd at q1
        simp only [fE_eq] at q1
        split at q1
        rotate_left
        · exact more rfl q1
        rename_i rows es' htl
        split at q1
        rotate_left
        · exact more rfl q1
        rename_i hfc
        rw [Bool.and_eq_true] at hfc
        have hag : K₁ σ.dep (den (env ++ vs ++ rs₁) es').g := q1
        rw [q2 σ.dep (Nat.lt_succ_self _), upd_same] at hag
        have hty' := tails_co (xs := (den (env ++ vs ++ rs₁) es').g) htl (tails_spec (env := env ++ vs ++ rs₁) locs rows es' htl).2.1
        obtain ⟨m, ex, σ', rsT, K', p1, p2, p3, p4, p5, p6, p7⟩ := ihv (μ (coAll (locs.map Loc.sort) (den (env ++ vs ++ rs₁) es').g)) (by rw [← hv]; exact hag.2) _ rfl hty' hag.1
        refine ⟨m + 1, ex, σ', rsT, K', p1, p2, p3, p4, p5, p6, ?_⟩
        intro us rsE κE FE U₀ aE wE hE hfr hro κ F a w hH hK hM
        rw [roundsIn_succ]
        have hr := hH rs₁
        have hl := q6 []
        have e0 : env ++ vs ++ rs₁ ++ [] = env ++ (vs ++ rs₁) := by simp
        rw [e0] at hl
        rw [← roAt_congr (κ := κE) (κ' := κ) (ro := ro) (fun b hb => hK.kap b (hro b hb))]
        refine wpIn_mono (hl.go κ F _ a w hr (fun b h1 hb => ?_) (fun b hb => .inl (hro b hb))) ?_
        · have h1 : hd.N ≤ b := h1
          rcases hb with hb | hb
          · exact hfr b (by omega) hb
          · omega
        rintro e a' w' ⟨rfl, κ1, F1, r1, k1, m1⟩
        show Code.roundsIn (FR (roAt κ ro)) 0 P c _ m a' w'
        rw [roAt_congr (κ := κE) (κ' := κ) (ro := ro) (fun b hb => hK.kap b (hro b hb))]
        have K1 := hK.trans k1 (fun b hb => .inl hb)
        have M1 := hM.trans hr k1 hK.size m1
        obtain ⟨f1, κ', f2, f3, f4⟩ := fits_rel (taken := taken) (rows := rows) (es := es') hn0 r1 htl (by rw [← hhd]; exact hfc.1) (U₀ := U₀) (fun b hb hlt => by
          rcases hb with (hb | hb) | hb
          · exact hb
          · omega
          · have : hd.N ≤ b := hb.1; omega) (rsE := rsE) (loop_later hE K1 r1)
        rw [← hhd] at f3 f4
        have hvs : coAll (locs.map Loc.sort) (den (env ++ vs ++ rs₁) es').g = (den (env ++ (vs ++ rs₁)) es').g := by
          rw [List.append_assoc]; exact coAll_id _ _ f1
        refine p7 us rsE κE FE U₀ aE wE hE hfr hro κ' F1 a' w' (fun x => ?_) (rehead K1 f2 (fun b h1 _ => hfr b h1) f4) M1
        rw [hvs, hhN]; exact f3 x
  obtain ⟨m, ex, σ', rsT, K', p1, p2, p3, p4, p5, p6, p7⟩ := key _ _ rfl (tails_co (xs := (den env es).g) htails (tails_spec (env := env) locs taken es htails).2.1) h0
  refine ⟨ex, σ', rsT, K', p1, p2, p3, p4, p5, fun us => LeadsR.loop (m := m) ⟨by omega, fun κ F U a w hr hU hro => ?_⟩⟩
  have hE : Rel w0 (env ++ (rsT ++ us)) κ F U σ₀.tmp σ₀.blk σ₀.L a w := by
    rw [g4, g2, ← List.append_assoc]
    exact hr.forget g1
  obtain ⟨f1, κ', f2, f3, f4⟩ := fits_rel (taken := taken) (rows := taken) (es := es) hn0 hE htails (by rw [← hhd]; exact c2) (U₀ := U) (fun b hb _ => hb) (rsE := rsT ++ us) (loop_later hE Kept.refl hE)
  rw [← hhd] at f3 f4
  have hes : (den (env ++ (rsT ++ us)) es).g = (den env es).g := by rw [den_ext hn0 c1]
  rw [hes] at f1 f3
  have := p7 us (rsT ++ us) κ F U a w hE (fun b h1 => hU b (by omega)) hro κ' F a w (fun x => by rw [coAll_id _ _ f1, hhN]; exact f3 x) (rehead Kept.refl f2 (fun b h1 _ => hU b (by omega)) f4) Marks.nil
  refine roundsIn_mono ?_ m a w this
  rintro e a' w' ⟨he, hEnd⟩
  refine ⟨he, ?_⟩
  unfold Ends at hEnd ⊢
  rw [g3, g4] at hEnd
  exact hEnd
theorem loop_unroll {id : Nat} {c : Code} {body : (Ex → SS → T) → SS → T} (ih : ∀ (Post : R → Prop) (K : Nat → List AV → Prop) (k : Ex → SS → T) (σ : SS) (env : List AV), env.length = σ.n → KnownOK env σ.n σ.known → (body k σ).den P Post env K → Path P Post w0 ro c env K σ k)
    {k : Ex → SS → T} : ∀ (n : Nat) (σ : SS) (env : List AV) (K : Nat → List AV → Prop), env.length = σ.n → KnownOK env σ.n σ.known → (unroll id body k n σ).den P Post env K →
    ∃ (m : Nat) (ex : Ex) (σ' : SS) (rs : List AV) (K' : Nat → List AV → Prop), (k ex σ').den P Post (env ++ rs) K' ∧ (∀ l, l < σ.dep → K' l = K l) ∧ σ'.dep = σ.dep ∧ KnownOK (env ++ rs) σ'.n σ'.known ∧ (env ++ rs).length = σ'.n ∧ ∀ us, LeadsR P w0 ro c m (env ++ rs ++ us) σ ex σ'
  | 0, σ, env, K, _, _, h => h.elim
  | n + 1, σ, env, K, hn, hk, h => by
    have h : (body (fun e σ' => match e with | .normal => unroll id body k n σ' | e => k e σ') σ).den P Post env K := h
    obtain ⟨ex, σ₁, rs, K₁, q1, q2, q3, q4, q5, q6⟩ := ih Post K _ σ env hn hk h
    cases ex with
    | normal =>
      obtain ⟨m, ex, σ', rs', K', p1, p2, p3, p4, p5, p6⟩ := loop_unroll ih n σ₁ (env ++ rs) K₁ q5 q4 q1
      refine ⟨m + 1, ex, σ', rs ++ rs', K', by rw [← List.append_assoc]; exact p1, fun l hl => (p2 l (by rw [q3]; exact hl)).trans (q2 l hl), p3.trans q3, by rw [← List.append_assoc]; exact p4, by rw [← List.append_assoc]; exact p5, fun us => ?_⟩
      have h1 := q6 (rs' ++ us)
      have h2 := p6 us
      rw [← List.append_assoc] at h1
      rw [← List.append_assoc]
      exact rounds_more h1 h2
    | exit j => exact ⟨1, .exit j, σ₁, rs, K₁, q1, q2, q3, q4, q5, fun us => rounds_one (fun h => by cases h) (q6 us)⟩
    | ret => exact ⟨1, .ret, σ₁, rs, K₁, q1, q2, q3, q4, q5, fun us => rounds_one (fun h => by cases h) (q6 us)⟩
theorem Path.stay {c : Code} {σ : SS} {k : Ex → SS → T} {ex : Ex} (hn : env.length = σ.n) (hk : KnownOK env σ.n σ.known) (h : (k ex σ).den P Post env K) (hl : ∀ env, Leads P w0 ro c env σ ex σ) : Path P Post w0 ro c env K σ k :=
  ⟨ex, σ, [], K, by rw [List.append_nil]; exact h, fun _ _ => rfl, rfl, by rw [List.append_nil]; exact hk, by rw [List.append_nil]; exact hn, fun _ => hl _⟩
theorem range_path (hrun : RunOK P w0 run) (hfit : PFit P) {fid : Nat} {g : Operand} {ps : Array Tmp} {assign body : Code} {k : Ex → SS → T} {σ : SS} (hn : env.length = σ.n) (hk : KnownOK env σ.n σ.known) (h : (symRange P run ro fid (σ.ev g) ps assign body k σ).den P Post env K) : Path P Post w0 ro (.rangeFunc g ps assign body) env K σ k := by
  unfold symRange at h
  split at h
  rotate_left
  · exact h.elim
  rename_i f fs xs hg
  split at h
  rotate_left
  · exact h.elim
  rename_i fn hfn
  split at h
  rotate_left
  · exact h.elim
  rename_i c hb
  simp only [fL_eq fSV_eq, SS.go_eq] at h
  split at h
  rotate_left
  · exact h.elim
  rename_i hc
  simp only [Bool.and_eq_true] at hc
  obtain ⟨⟨_, c2⟩, c3⟩ := hc
  obtain ⟨y1, y2, y3, y4⟩ := write_one (σ := σ) (b := σ.N) (y := some (.loop ⟨fid, σ.rf, ps, assign, body⟩ .ready .none)) (Nat.le_refl _)
  obtain ⟨_, _, _, _, y5, y6, y7⟩ := write_spec σ [(σ.N, some (.loop ⟨fid, σ.rf, ps, assign, body⟩ .ready .none))] ⟨Nat.le_refl _, trivial⟩
  obtain ⟨ex, σ', rs, K', q1, q2, q3, q4, q5, q6⟩ := hrun Post K none f c _ ((σ.write [(σ.N, some (.loop ⟨fid, σ.rf, ps, assign, body⟩ .ready .none))]).frame (fs.list ++ [.yld σ.N] ++ xs.list) fn.ntmps) env (hn.trans y5.symm) (by have hk' := hk; rw [← y5, ← y6] at hk'; exact hk') h
  have hdep : ((σ.write [(σ.N, some (.loop ⟨fid, σ.rf, ps, assign, body⟩ .ready .none))]).frame (fs.list ++ [.yld σ.N] ++ xs.list) fn.ntmps).dep = σ.dep := y7
  rw [hdep] at q2 q3
  have hfin : (∀ id, ex ≠ .exit id) ∧ ∃ i st p, σ'.blk σ.N = some (.loop i st p) ∧ st ≠ .busy ∧ (k p.ex { σ'.write [(σ.N, none)] with rf := σ.rf }).den P Post (env ++ rs) K' := by
    unfold rangeEnd at q1
    split at q1
    · exact q1.elim
    · rename_i i st p hnx hblk
      simp only [SS.go_eq] at q1
      split at q1
      · rename_i hst
        refine ⟨fun id he => hnx id he, i, st, p, hblk, by simpa using hst, ?_⟩
        cases p <;> exact q1
      · exact q1.elim
    · exact q1.elim
  obtain ⟨hex, i, st, p, hblk, hst, hden⟩ := hfin
  obtain ⟨_, _, _, _, z5, z6, z7⟩ := write_spec σ' [(σ.N, none)] ⟨by have := blk_lt hblk; omega, trivial⟩
  refine ⟨p.ex, { σ'.write [(σ.N, none)] with rf := σ.rf }, rs, K', hden, q2, z7.trans q3, by have q4' := q4; rw [← z5, ← z6] at q4'; exact q4', q5.trans z5.symm, fun us => ?_⟩
  exact leads_range hfit hg hfn hb (fun b hb' => by subst hb'; simpa using c3) c2 hex (q6 us) hblk hst
theorem sym_path (hrun : RunOK P w0 run) (hfit : PFit P) {fid : Nat} (c : Code) : ∀ (Post : R → Prop) (K : Nat → List AV → Prop) (k : Ex → SS → T) (σ : SS) (env : List AV), env.length = σ.n → KnownOK env σ.n σ.known → (sym P cfg run ro fid c k σ).den P Post env K → Path P Post w0 ro c env K σ k := by
  induction c with
  | skip => intro Post K k σ env hn hk h; exact Path.stay hn hk h (fun _ => leads_skip)
  | exit id => intro Post K k σ env hn hk h; exact Path.stay hn hk h (fun _ => leads_exit)
  | ret => intro Post K k σ env hn hk h; exact Path.stay hn hk h (fun _ => leads_ret)
  | region id ops draw => intro Post K k σ env hn hk h; exact regions_path hrun hfit hn hk h
  | rangeFunc g ps x y ih1 ih2 => intro Post K k σ env hn hk h; exact range_path hrun hfit hn hk h
  | seq x y ih1 ih2 =>
    intro Post K k σ env hn hk h
    simp only [sym] at h
    obtain ⟨ex, σ₁, rs, K₁, q1, q2, q3, q4, q5, q6⟩ := ih1 Post K _ σ env hn hk h
    cases ex with
    | normal =>
      obtain ⟨ex, σ', rs', K', p1, p2, p3, p4, p5, p6⟩ := ih2 Post K₁ k σ₁ (env ++ rs) q5 q4 q1
      refine ⟨ex, σ', rs ++ rs', K', by rw [← List.append_assoc]; exact p1, fun l hl => (p2 l (by rw [q3]; exact hl)).trans (q2 l hl), p3.trans q3, by rw [← List.append_assoc]; exact p4, by rw [← List.append_assoc]; exact p5, fun us => ?_⟩
      have h1 := q6 (rs' ++ us)
      have h2 := p6 us
      rw [← List.append_assoc] at h1
      rw [← List.append_assoc]
      exact leads_seq h1 h2
    | exit j => exact ⟨.exit j, σ₁, rs, K₁, q1, q2, q3, q4, q5, fun us => leads_seq_out (fun h => by cases h) (q6 us)⟩
    | ret => exact ⟨.ret, σ₁, rs, K₁, q1, q2, q3, q4, q5, fun us => leads_seq_out (fun h => by cases h) (q6 us)⟩
  | cond c x y ih1 ih2 =>
    intro Post K k σ env hn hk h
    simp only [sym] at h
    unfold symCond at h
    split at h
    · rename_i e he
      split at h
      · rename_i ht
        obtain ⟨ex, σ', rs, K', q1, q2, q3, q4, q5, q6⟩ := ih1 Post K k σ env hn hk h
        exact ⟨ex, σ', rs, K', q1, q2, q3, q4, q5, fun us => leads_cond (b := true) he (by rw [List.append_assoc]; exact truth_ok (hk.ext' hn) ht) (q6 us)⟩
      · rename_i ht
        obtain ⟨ex, σ', rs, K', q1, q2, q3, q4, q5, q6⟩ := ih2 Post K k σ env hn hk h
        exact ⟨ex, σ', rs, K', q1, q2, q3, q4, q5, fun us => leads_cond (b := false) he (by rw [List.append_assoc]; exact truth_ok (hk.ext' hn) ht) (q6 us)⟩
      · split at h
        · rename_i hs
          obtain ⟨h1, h2⟩ := h
          cases hb : (den env e).b with
          | true =>
            obtain ⟨ex, σ', rs, K', q1, q2, q3, q4, q5, q6⟩ := ih1 Post K k (σ.learn e true) env hn (learn_ok hk hs hb) (h1 hb)
            exact ⟨ex, σ', rs, K', q1, q2, q3, q4, q5, fun us => leads_cond (b := true) he (by rw [List.append_assoc, den_ext hn hs]; exact hb) ((q6 us).same ⟨rfl, rfl, rfl, rfl⟩ ⟨rfl, rfl, rfl, rfl⟩)⟩
          | false =>
            obtain ⟨ex, σ', rs, K', q1, q2, q3, q4, q5, q6⟩ := ih2 Post K k (σ.learn e false) env hn (learn_ok hk hs hb) (h2 hb)
            exact ⟨ex, σ', rs, K', q1, q2, q3, q4, q5, fun us => leads_cond (b := false) he (by rw [List.append_assoc, den_ext hn hs]; exact hb) ((q6 us).same ⟨rfl, rfl, rfl, rfl⟩ ⟨rfl, rfl, rfl, rfl⟩)⟩
        · exact h.elim
    · exact h.elim
  | block id c ih =>
    intro Post K k σ env hn hk h
    simp only [sym] at h
    obtain ⟨ex, σ', rs, K', q1, q2, q3, q4, q5, q6⟩ := ih Post K _ σ env hn hk h
    unfold atBlock at q1
    cases ex with
    | normal => exact ⟨.normal, σ', rs, K', q1, q2, q3, q4, q5, fun us => leads_block rfl (q6 us)⟩
    | ret => exact ⟨.ret, σ', rs, K', q1, q2, q3, q4, q5, fun us => leads_block rfl (q6 us)⟩
    | exit i =>
      simp only at q1
      split at q1
      · rename_i hi; exact ⟨.normal, σ', rs, K', q1, q2, q3, q4, q5, fun us => leads_block (by simp only; rw [if_pos hi]) (q6 us)⟩
      · rename_i hi; exact ⟨.exit i, σ', rs, K', q1, q2, q3, q4, q5, fun us => leads_block (by simp only; rw [if_neg hi]) (q6 us)⟩
  | loop c ih =>
    intro Post K k σ env hn hk h
    simp only [sym] at h
    unfold symLoop at h
    simp only at h
    split at h
    · obtain ⟨m, ex, σ', rs, K', p1, p2, p3, p4, p5, p6⟩ := loop_unroll ih _ σ env K hn hk h
      exact ⟨ex, σ', rs, K', p1, p2, p3, p4, p5, fun us => (p6 us).loop⟩
    · exact loop_path ih hn hk h
    · exact loop_path ih hn hk h
  | _ => intro Post K k σ env hn hk h; exact h.elim
theorem symN_ok (hfit : PFit P) : ∀ n, RunOK P w0 (symN P cfg n)
  | 0 => fun _ _ _ _ _ _ _ _ _ _ h => h.elim
  | n + 1 => fun Post K ro fid c k σ env hn hk h => sym_path (symN_ok hfit n) hfit c Post K k σ env hn hk h
end Go.Sx
namespace Go.Sx
open Go Go.RowKit Go.Dial
set_option linter.constructorNameAsVariable false
variable {env : List AV} {κ κ' : Nat → Value} {F F' : Nat → Prop} {w w' w0 : World} {U : Nat → Prop} {tmp : Nat → SV} {blk : Nat → Option SB} {L : Nat} {a : Act} {P : Program} {Post : R → Prop} {K : Nat → List AV → Prop}

theorem nodupB_spec : ∀ (l : List Nat), nodupB l = true → l.Nodup
  | [], _ => List.nodup_nil
  | x :: l, h => by
    simp only [nodupB, Bool.and_eq_true, Bool.not_eq_true', List.contains_eq_mem, decide_eq_false_iff_not] at h
    exact List.nodup_cons.2 ⟨h.1, nodupB_spec l h.2⟩
theorem res_proper {σ : SS} : ∀ (x : SV) (s : RS) (re : RE), resOf σ x s = some re → x.proper = true → (re.den env).proper = true := by
  intro x
  induction x with
  | nil => intro s re h _; cases s <;> simp only [resOf] at h <;> cases h; rfl
  | cons x y _ ih2 =>
    intro s re h hp
    cases s <;> simp only [resOf] at h <;> try (cases h; done)
    split at h
    · rename_i u v h1 h2
      cases h
      show (v.den env).proper = true
      exact ih2 _ _ h2 hp
    · cases h
  | _ => intro s re h hp; cases hp
theorem res_of_den {σ : SS} (h : Rel w0 env κ F U σ.tmp σ.blk L a w) : ∀ (x : SV) (s : RS) (re : RE) (u : Value), resOf σ x s = some re → SVden env κ F w x u →
    RDen F w0.heap.size w (re.den env) u (x.names.flatMap fun b => (blockOf (κ b)).toList) ∧ ∀ b ∈ x.names, liveB (σ.blk b) = true := by
  intro x
  induction x with
  | vi e => intro s re u hr hd; cases s <;> simp only [resOf] at hr <;> cases hr; exact ⟨⟨hd.1, rfl⟩, fun b hb => by cases hb⟩
  | vb e => intro s re u hr hd; cases s <;> simp only [resOf] at hr <;> cases hr; exact ⟨⟨hd.1, rfl⟩, fun b hb => by cases hb⟩
  | vr e => intro s re u hr hd; cases s <;> simp only [resOf] at hr <;> cases hr; exact ⟨⟨hd.1, by rw [← hd.1]; exact hd.2.1, rfl⟩, fun b hb => by cases hb⟩
  | nilsl =>
    intro s re u hr hd
    cases s <;> simp only [resOf] at hr <;> try (cases hr; done)
    split at hr
    · rename_i hp
      cases hr
      rw [show u = _ from hd]
      refine ⟨?_, fun b hb => by cases hb⟩
      simp only [RE.den]
      unfold RDen
      split
      · exact ⟨den_nil _, rfl⟩
      · exact ⟨[], World.ownsRow_nil _ _ _ _, hp, ⟨fun i r hr => by simp [den] at hr, fun i r k x hr => by simp [den] at hr⟩, rfl⟩
    · cases hr
  | vs t e =>
    intro s re u hr hd
    cases s <;> simp only [resOf] at hr <;> try (cases hr; done)
    split at hr
    · rename_i hh
      obtain ⟨hg, rfl⟩ := hh
      cases hr
      refine ⟨?_, fun b hb => by cases hb⟩
      simp only [RE.den]
      unfold RDen
      rw [if_pos hg]
      exact ⟨hd, rfl⟩
    · cases hr
  | row b =>
    intro s re u hr hd
    cases s <;> simp only [resOf] at hr <;> try (cases hr; done)
    split at hr
    · rename_i a' t' e hb
      split at hr
      · rename_i hh
        obtain ⟨rfl, rfl, hg⟩ := hh
        cases hr
        obtain ⟨us, h1, h2, h3⟩ := h.blks b _ hb
        rw [hd.1]
        refine ⟨?_, fun c hc => ?_⟩
        · simp only [RE.den]
          unfold RDen
          rw [if_neg (by rw [hg]; simp)]
          exact ⟨us, h1, h2, h3, by simp [SV.names]⟩
        simp [SV.names] at hc; subst hc; rw [hb]; rfl
      · cases hr
    · cases hr
  | nil => intro s re u hr hd; cases s <;> simp only [resOf] at hr <;> cases hr; exact ⟨⟨hd, rfl⟩, fun b hb => by cases hb⟩
  | cons x y ih1 ih2 =>
    intro s re u hr hd
    cases s <;> simp only [resOf] at hr <;> try (cases hr; done)
    split at hr
    · rename_i u1 u2 h1 h2
      cases hr
      obtain ⟨p, q, rfl, d1, d2⟩ := hd
      obtain ⟨r1, n1⟩ := ih1 _ _ _ h1 d1
      obtain ⟨r2, n2⟩ := ih2 _ _ _ h2 d2
      refine ⟨⟨p, q, _, _, rfl, r1, r2, by simp [SV.names, List.flatMap_append]⟩, fun b hb => ?_⟩
      simp only [SV.names, List.mem_append] at hb
      rcases hb with hb | hb
      · exact n1 b hb
      · exact n2 b hb
    · cases hr
  | agg x ih =>
    intro s re u hr hd
    cases s <;> simp only [resOf] at hr <;> try (cases hr; done)
    split at hr
    · rename_i hp
      obtain ⟨re', h1, rfl⟩ := Option.map_eq_some_iff.1 hr
      obtain ⟨cs, rfl, _, d⟩ := hd
      obtain ⟨r1, n1⟩ := ih _ _ _ h1 d
      exact ⟨⟨cs, rfl, res_proper _ _ _ h1 hp, r1⟩, n1⟩
    · cases hr
  | tup x ih =>
    intro s re u hr hd
    cases s <;> simp only [resOf] at hr <;> try (cases hr; done)
    split at hr
    · rename_i hp
      obtain ⟨re', h1, rfl⟩ := Option.map_eq_some_iff.1 hr
      obtain ⟨cs, rfl, _, d⟩ := hd
      obtain ⟨r1, n1⟩ := ih _ _ _ h1 d
      exact ⟨⟨cs, rfl, res_proper _ _ _ h1 hp, r1⟩, n1⟩
    · cases hr
  | _ => intro s re u hr hd; cases s <;> simp only [resOf] at hr <;> cases hr
theorem flat_nodup {f : Nat → List Nat} : ∀ ns : List Nat, ns.Nodup → (∀ b, (f b).Nodup) → (∀ b c k, b ∈ ns → c ∈ ns → k ∈ f b → k ∈ f c → b = c) → (ns.flatMap f).Nodup
  | [], _, _, _ => List.nodup_nil
  | n :: ns, h, hf, hi => by
    rw [List.nodup_cons] at h
    rw [List.flatMap_cons, List.nodup_append]
    refine ⟨hf n, flat_nodup ns h.2 hf (fun b c k hb hc => hi b c k (List.mem_cons_of_mem _ hb) (List.mem_cons_of_mem _ hc)), fun x hx y hy e => ?_⟩
    subst e
    obtain ⟨c, hc, hx2⟩ := List.mem_flatMap.1 hy
    have := hi n c x List.mem_cons_self (List.mem_cons_of_mem _ hc) hx hx2
    exact h.1 (this ▸ hc)
def AV.cells : AV → List AV
  | .agg l => l
  | x => [x]
def argOK (P : Program) (t : Nat) (x : AV) : Bool :=
  match flat P 12 t with
  | none => false
  | some ts => if isAggT P t then (match x with | .agg l => decide (l.map AV.ty = ts) | _ => false) else decide ([x.ty] = ts)
def argsOK (P : Program) : List Nat → List AV → Bool
  | [], [] => true
  | t :: ts, x :: xs => argOK P t x && argsOK P ts xs
  | _, _ => false
theorem mkArg_den {t n m : Nat} {s : SV} {x : AV} {u : Value} (hm : mkArg P t n = some (s, m)) (ho : argOK P t x = true) (hd : Den F w u x) (henv : ∀ (j : Nat) y, x.cells[j]? = some y → env[n + j]? = some y) :
    SVden env κ F w s u ∧ s.names = [] ∧ m = n + x.cells.length := by
  unfold mkArg at hm; unfold argOK at ho
  split at hm
  · cases hm
  rename_i ts hts
  rw [hts] at ho
  dsimp only at hm ho
  have hv : ∀ (j : Nat) y, x.cells[j]? = some y → den env (.v (n + j)) = y := fun j y hy => by simp only [den]; simp [List.getD, henv j y hy]
  by_cases hag : isAggT P t = true
  · simp only [hag, if_true] at hm ho
    split at hm
    · rename_i hall
      split at ho
      · rename_i l
        have ho := of_decide_eq_true ho
        have hlen : ts.length = l.length := by rw [← ho]; simp
        cases hm
        obtain ⟨cs, rfl, hl, hcs⟩ := hd.agg_view
        have hxs : ∀ (i : Nat) y, (List.map (fun x => x.getD SV.any) (ts.zipIdx.map fun (x : Ty × Nat) => leafOf (.v (n + x.2)) x.1))[i]? = some y → ∃ z, l[i]? = some z ∧ leafOf (.v (n + i)) z.ty = some y := by
          intro i y hy
          simp only [List.getElem?_map, List.getElem?_zipIdx, Option.map_map] at hy
          obtain ⟨s, hs, rfl⟩ := Option.map_eq_some_iff.1 hy
          have hs' := hs
          rw [← ho, List.getElem?_map] at hs'
          obtain ⟨z, hz, rfl⟩ := Option.map_eq_some_iff.1 hs'
          refine ⟨z, hz, ?_⟩
          have := List.all_eq_true.1 hall (leafOf (.v (n + i)) z.ty) (List.mem_map.2 ⟨(z.ty, i), List.mem_of_getElem? (by rw [List.getElem?_zipIdx, hs]; simp), rfl⟩)
          obtain ⟨v, hv⟩ := Option.isSome_iff_exists.1 this
          simp only [Function.comp, Nat.zero_add, hv, Option.getD_some]
        refine ⟨⟨_, rfl, of_proper _, tup_mk (by simp; omega) (fun i y v hy hu => ?_)⟩, ?_, by simp [AV.cells, hlen]⟩
        · obtain ⟨z, hz, hle⟩ := hxs i y hy
          have := hv i z (by simpa [AV.cells] using hz)
          exact leaf_den hle (by rw [this]) (by rw [this]; exact hcs i v z hu hz)
        · refine List.eq_nil_iff_forall_not_mem.2 fun b hb => ?_
          obtain ⟨y, hy, hby⟩ := (of_names _ b).1 hb
          obtain ⟨i, hi⟩ := List.getElem?_of_mem hy
          obtain ⟨z, hz, hle⟩ := hxs i y hi
          rw [leaf_names hle] at hby; cases hby
      · cases ho
    · cases hm
  · simp only [hag] at hm ho
    have ho := of_decide_eq_true ho
    subst ho
    cases hle : leafOf (.v n) x.ty with
    | none => simp [hle] at hm
    | some v =>
      simp [hle] at hm
      obtain ⟨rfl, rfl⟩ := hm
      have hc : x.cells = [x] := by cases x <;> first | rfl | cases hle
      have := hv 0 x (by rw [hc]; rfl)
      rw [Nat.add_zero] at this
      exact ⟨leaf_den hle (by rw [this]) (by rw [this]; exact hd), leaf_names hle, by rw [hc]; rfl⟩
theorem mkArgs_den : ∀ (ts : List Nat) (n k : Nat) (xs : List SV) (args : List AV) (us : List Value), mkArgs P ts n = some (xs, k) → argsOK P ts args = true → us.length = args.length → (∀ (i : Nat) u x, us[i]? = some u → args[i]? = some x → Den F w u x) →
    (∀ (j : Nat) y, (args.flatMap AV.cells)[j]? = some y → env[n + j]? = some y) → xs.length = us.length ∧ k = n + (args.flatMap AV.cells).length ∧ ∀ (i : Nat) s u, xs[i]? = some s → us[i]? = some u → SVden env κ F w s u ∧ s.names = []
  | [], n, k, xs, args, us, hm, ho, hl, _, _ => by
    cases args with
    | nil =>
      simp only [mkArgs] at hm; cases hm
      exact ⟨hl.symm, rfl, fun i s u h => by simp at h⟩
    | cons => cases ho
  | t :: ts, n, k, xs, args, us, hm, ho, hl, hd, henv => by
    cases args with
    | nil => cases ho
    | cons x args =>
      cases us with
      | nil => simp at hl
      | cons u us =>
        simp only [argsOK, Bool.and_eq_true] at ho
        simp only [mkArgs] at hm
        split at hm
        · rename_i s m h1
          split at hm
          · rename_i l k' h2
            cases hm
            rw [List.flatMap_cons] at henv
            obtain ⟨a1, a2, a3⟩ := mkArg_den (κ := κ) h1 ho.1 (hd 0 u x rfl rfl) (fun j y hy => henv j y (by rw [List.getElem?_append_left (List.getElem?_eq_some_iff.1 hy).1]; exact hy))
            obtain ⟨b1, b2, b3⟩ := mkArgs_den ts m k l args us h2 ho.2 (by simpa using hl) (fun i u x h1 h2 => hd (i + 1) u x (by simpa using h1) (by simpa using h2)) (fun j y hy => by
              have := henv (x.cells.length + j) y (by rw [List.getElem?_append_right (by omega)]; rw [← hy]; congr 1; omega)
              rw [← this, a3]; congr 1; omega)
            refine ⟨by simp [b1], by rw [b2, a3]; simp; omega, fun i s' u' h3 h4 => ?_⟩
            cases i with
            | zero => simp at h3 h4; subst h3; subst h4; exact ⟨a1, a2⟩
            | succ i => exact b3 i s' u' (by simpa using h3) (by simpa using h4)
          · cases hm
        · cases hm
theorem ret_den {g : Bool} {fn : Func} {σ : SS} {r : R} (h : (retOf P g fn σ).den P (· = r) env K) : ∃ sh rv σ' v re, resultSV P σ fn.results.toList = some rv ∧ nodupB v.names = true ∧ resOf σ' v sh = some re ∧ re.den env = r ∧
    ((σ' = σ ∧ v = packSV rv) ∨ (σ' = σ.write (iceOf σ.blk (rv.flatMap (rowsIn σ.blk))) ∧ v = nz σ'.blk (packSV rv))) := by
  have key : ∀ (σ' : SS) sh v, (retWith σ' sh v).den P (· = r) env K → ∃ re, nodupB v.names = true ∧ resOf σ' v sh = some re ∧ re.den env = r := by
    intro σ' sh v h
    unfold retWith at h
    split at h
    rotate_left
    · exact h.elim
    rename_i hnd
    split at h
    rotate_left
    · exact h.elim
    rename_i re hre
    exact ⟨re, hnd, hre, h⟩
  unfold retOf at h
  split at h
  rotate_left
  · exact h.elim
  · exact h.elim
  rename_i sh rv hsh hrv
  split at h
  · obtain ⟨re, h1, h2, h3⟩ := key _ _ _ h
    exact ⟨sh, rv, _, _, re, hrv, h1, h2, h3, .inr ⟨rfl, rfl⟩⟩
  · obtain ⟨re, h1, h2, h3⟩ := key _ _ _ h
    exact ⟨sh, rv, _, _, re, hrv, h1, h2, h3, .inl ⟨rfl, rfl⟩⟩
theorem con_of_sym {cfg : Cfg} {f : Nat} {args : List AV} {r : R} (hfit : PFit P) (ho : ∀ fn, P.funcs[f]? = some fn → argsOK P fn.params.toList args = true) (h : (symFn P cfg f).den P (· = r) (args.flatMap AV.cells) K) : Con P f args r := by
  intro S vs w hS hvs
  unfold symFn at h
  split at h
  · exact h.elim
  rename_i fn hf
  split at h
  rotate_left
  · exact h.elim
  rename_i c xs n hb hm
  simp only [fL_eq fSV_eq, fN_eq] at h
  obtain ⟨m1, m2, _⟩ := mkArgs_den (P := P) (w := w) (env := args.flatMap AV.cells) (κ := fun _ => undef) (F := S) _ 0 n xs args vs.toList hm (ho fn hf) (by simpa using hvs.1) (fun i u x h1 h2 => hvs.2 i u x (by simpa using h1) h2) (fun j y hy => by rw [Nat.zero_add]; exact hy)
  have m1' : xs.length = vs.size := by simpa using m1
  obtain ⟨σ, hσ⟩ : ∃ σ : SS, σ = { rf := Ov.of xs fn.ntmps, hp := ⟨[], [], 0⟩, n, known := [], dep := 0 } := ⟨_, rfl⟩
  rw [← hσ] at h
  obtain ⟨ex, σ', rs, K', q1, _, _, _, _, q6⟩ := symN_ok (w0 := w) (cfg := cfg) hfit 12 (· = r) K none f c _ σ (args.flatMap AV.cells) (by rw [hσ]; simpa using m2.symm) (by rw [hσ]; exact fun x hx => by cases hx) h
  have hex : (∀ id, ex ≠ .exit id) ∧ (retOf P (cfg.cons.contains (f + 1000000)) fn σ').den P (· = r) (args.flatMap AV.cells ++ rs) K' := by
    cases ex with
    | exit id => exact q1.elim
    | normal => exact ⟨fun _ h => (by cases h), q1⟩
    | ret => exact ⟨fun _ h => (by cases h), q1⟩
  obtain ⟨hex, hret⟩ := hex
  have hl := q6 []
  rw [List.append_nil] at hl
  obtain ⟨sh, rv, σ2, v2, re, hrv, hnd, hre, hret, hcase⟩ := ret_den hret
  obtain ⟨_, _, m3⟩ := mkArgs_den (P := P) (w := w) (env := args.flatMap AV.cells ++ rs) (κ := fun _ => undef) (F := S) _ 0 n xs args vs.toList hm (ho fn hf) (by simpa using hvs.1) (fun i u x h1 h2 => hvs.2 i u x (by simpa using h1) h2) (fun j y hy => by
    rw [Nat.zero_add, List.getElem?_append_left (List.getElem?_eq_some_iff.1 hy).1]; exact hy)
  have hblk : ∀ b, σ.blk b = none := fun b => by rw [hσ]; exact Ov.get_out (Nat.zero_le _)
  have hN : σ.N = 0 := by rw [hσ]; rfl
  have hfr : σ = SS.frame { rf := ⟨[], [], 0⟩, hp := ⟨[], [], 0⟩, n, known := [], dep := 0 } xs fn.ntmps := hσ
  obtain ⟨fr1, fr2⟩ := frame_den (σ := { rf := ⟨[], [], 0⟩, hp := ⟨[], [], 0⟩, n, known := [], dep := 0 }) (env := args.flatMap AV.cells ++ rs) (κ := fun _ => undef) (F := S) (w := w) (vs := xs) (us := vs) (n := fn.ntmps) m1'.symm (fun i x u hx hu => (m3 i x u hx (by simpa using hu)).1)
  rw [← hfr] at fr1 fr2
  have hrel : Rel w (args.flatMap AV.cells ++ rs) (fun _ => undef) S (fun _ => False) σ.tmp σ.blk σ.L { tmps := vs ++ Array.replicate (fn.ntmps - vs.size) undef, defers := [] } w := by
    refine ⟨fr1, fr2, fun b x hx => ?_, fun b c k hb => ?_, fun b k hb => ?_, hS, fun t b hb => ?_, fun b x hx => ?_, Below.refl _ _⟩
    · rw [hblk] at hx; cases hx
    · rw [hblk] at hb; cases hb
    · rw [hblk] at hb; cases hb
    · rw [hfr] at hb
      exact frame_names (U := fun _ => False) (fun x hx b hb => by
        obtain ⟨i, hi⟩ := List.getElem?_of_mem hx
        have hv : i < vs.size := by rw [← m1']; exact (List.getElem?_eq_some_iff.1 hi).1
        have := (m3 i x vs[i] hi (by simp [hv])).2
        rw [this] at hb; cases hb) t b hb
    · rw [hblk] at hx; cases hx
  refine (calls_of_leads hf hb hex hl hrel (fun _ _ h => h) hrv).mono ?_
  rintro e w' ⟨u, κ', F', a', rfl, hr, k, hv⟩
  have hfin : ∃ F2, Rel w (args.flatMap AV.cells ++ rs) κ' F2 (fun b => False ∨ (σ.N ≤ b ∧ b < σ'.N)) σ2.tmp σ2.blk σ2.L a' w' ∧ Kept (fun _ => False) σ.blk (fun _ => undef) S w σ2.blk κ' F2 w' ∧ SVden (args.flatMap AV.cells ++ rs) κ' F2 w' v2 u := by
    rcases hcase with ⟨rfl, rfl⟩ | ⟨rfl, rfl⟩
    · exact ⟨F', hr, k, hv⟩
    · obtain ⟨y1, y2, y3, y4, _⟩ := write_spec σ' _ (ice_low σ' (rv.flatMap (rowsIn σ'.blk))).1
      obtain ⟨F1, r1, k1⟩ := hr.freeze (rv.flatMap (rowsIn σ'.blk))
      rw [← y1] at r1 k1
      have r1' := r1
      rw [← y3, ← y4] at r1'
      refine ⟨F1, r1', k.trans k1 (fun _ h => h.elim), nz_den (b0 := w.heap.size) (fun b e t l hb => r1.blks b _ hb) (hv.keep (fun _ _ => rfl) k1.mono (fun _ _ => rfl))⟩
  obtain ⟨F2, hr, k, hv⟩ := hfin
  obtain ⟨d1, d2⟩ := res_of_den hr v2 sh re u hre hv
  rw [hret] at d1
  refine ⟨u, F2, _, rfl, d1, flat_nodup _ (nodupB_spec _ hnd) (fun b => ?_) (fun b c j hb hc h1 h2 => hr.inj b c j (d2 b hb) (d2 c hc) (by simpa using h1) (by simpa using h2)), fun j hj hF => ?_, fun j hj => ⟨?_, hr.F j hj⟩, hr.below⟩
  · cases blockOf (κ' b) <;> simp
  · obtain ⟨b, hb, hj⟩ := List.mem_flatMap.1 hj
    exact hr.nF b j (d2 b hb) (by simpa using hj) hF
  · rcases k.new j hj with h1 | h1 | ⟨b, h1, _⟩
    · exact .inl h1
    · exact .inr h1
    · rw [hblk] at h1; cases h1
end Go.Sx
namespace Go.Sx
open Go Go.RowKit Go.Dial
variable {α : Type} {g : α → List Int} {f : α → List Value} {k B : Nat} {w w' : World} {v : Value} {l : List α} {P : Program} {A : Option Addr} {c : Nat}

def tupA : Value → Array Value
  | .tuple cs => cs
  | _ => #[]
def R.val : R → Value
  | .i n => .int .i64 n
  | .b x => .bool x
  | .r v => v
  | .row _ _ _ => undef
  | .nil => .tuple #[]
  | .cons x y => .tuple (x.val :: (tupA y.val).toList).toArray
  | .agg x => .agg (tupA x.val)
  | .tup x => .tuple (tupA x.val)
def R.flatB : R → Bool
  | .i _ | .b _ | .nil => true
  | .r v => plainCell v
  | .row _ _ _ => false
  | .cons x y => x.flatB && y.flatB && y.proper
  | .agg x | .tup x => x.flatB && x.proper
theorem proper_tup : ∀ (r : R), r.proper = true → r.val = .tuple (tupA r.val)
  | .nil, _ => rfl
  | .cons x y, _ => rfl
  | .i _, h | .b _, h | .r _, h | .row _ _ _, h | .agg _, h | .tup _, h => by cases h
theorem rden_uniq {F : Nat → Prop} {base : Nat} : ∀ (r : R) (u : Value) (bs : List Nat), r.flatB = true → RDen F base w r u bs → u = r.val
  | .i _, u, bs, _, h => h.1
  | .b _, u, bs, _, h => h.1
  | .nil, u, bs, _, h => h.1
  | .r v, u, bs, _, h => h.1
  | .row _ _ _, u, bs, hf, _ => by cases hf
  | .cons x y, u, bs, hf, h => by
    simp only [R.flatB, Bool.and_eq_true] at hf
    obtain ⟨p, q, b1, b2, rfl, h1, h2, rfl⟩ := h
    have e1 := rden_uniq x p b1 hf.1.1 h1
    have e2 := rden_uniq y _ b2 hf.1.2 h2
    simp only [R.val, e1, ← e2, tupA]
  | .agg x, u, bs, hf, h => by
    simp only [R.flatB, Bool.and_eq_true] at hf
    obtain ⟨cs, rfl, _, h2⟩ := h
    have e2 := rden_uniq x _ bs hf.1 h2
    simp only [R.val, ← e2, tupA]
  | .tup x, u, bs, hf, h => by
    simp only [R.flatB, Bool.and_eq_true] at hf
    obtain ⟨cs, rfl, _, h2⟩ := h
    have e2 := rden_uniq x _ bs hf.1 h2
    simp only [R.val, ← e2, tupA]
theorem con_calls {fn : Nat} {args : List AV} {r : R} (hc : Con P fn args r) (hr : r.flatB = true) {vs : Array Value} (hvs : ArgsDen (fun k => k < w.heap.size) w vs args) : Calls P fn vs w fun e w' => e = .returned r.val ∧ Below w.heap.size w w' :=
  (hc _ vs w (fun _ h => h) hvs).mono fun _ _ ⟨u, _, bs, he, hd, _, _, _, hb⟩ => ⟨by rw [he, rden_uniq r u bs hr hd], hb⟩
end Go.Sx
namespace Go.Sx
open Go
set_option linter.constructorNameAsVariable false
variable {P : Program}
variable {env : List AV}
theorem least {p : Nat → Prop} (h : ∃ n, p n) : ∃ n, p n ∧ ∀ k, p k → n ≤ k := by
  obtain ⟨n, hn⟩ := h
  induction n using Nat.strongRecOn with
  | _ n ih =>
    by_cases h : ∃ m, m < n ∧ p m
    · obtain ⟨m, hm, hp⟩ := h
      exact ih m hm hp
    · exact ⟨n, hn, fun k hk => Nat.not_lt.1 fun hl => h ⟨k, hl, hk⟩⟩
open Classical in
noncomputable def leastOf (p : Nat → Prop) : Nat := if h : ∃ n, p n then (least h).choose else 0
theorem leastOf_spec {p : Nat → Prop} (h : ∃ n, p n) : p (leastOf p) ∧ ∀ k, p k → leastOf p ≤ k := by
  unfold leastOf
  rw [dif_pos h]
  exact (least h).choose_spec
theorem T.den_mono {Post : R → Prop} : ∀ (t : T) {env : List AV} {K K' : Nat → List AV → Prop}, t.den P Post env K → (∀ l us, K l us → K' l us) → t.den P Post env K' := by
  intro t
  induction t with
  | stop _ _ => intro env K K' h _; exact h
  | ret x => intro env K K' h _; exact h
  | need e t ih => intro env K K' h hK; exact ⟨h.1, ih h.2 hK⟩
  | br e a b iha ihb => intro env K K' h hK; exact ⟨fun hb => iha (h.1 hb) hK, fun hb => ihb (h.2 hb) hK⟩
  | call f args sh t ih => intro env K K' h hK; obtain ⟨r, h1, h2, h3⟩ := h; exact ⟨r, h1, h2, ih h3 hK⟩
  | loop lvl inits sorts key locs t ih =>
    intro env K K' h hK
    obtain ⟨I, μ, h1, h2⟩ := h
    refine ⟨I, μ, h1, fun vs hv hI => ih (h2 vs hv hI) fun l us hu => ?_⟩
    unfold upd at hu ⊢
    by_cases e : l = lvl
    · rw [if_pos e] at hu ⊢; exact hu
    · rw [if_neg e] at hu ⊢; exact hK _ _ hu
  | again lvl es => intro env K K' h hK; exact hK _ _ h
  | ext f ks vs t ih => intro env K K' h hK; exact ⟨h.1, ih h.2 hK⟩
theorem T.den_loop {Post : R → Prop} {σ : Type} {K : Nat → List AV → Prop} {lvl : Nat} {inits : E} {sorts : List Ty} {key : Nat × Nat × Nat} {locs : List Loc} {t : T} (enc : σ → List AV) (Inv : σ → Prop) (m : σ → Nat) (s0 : σ)
    (h0 : coAll sorts (Sx.den env inits).g = enc s0) (hI : Inv s0)
    (hr : ∀ s, Inv s → t.den P Post (env ++ enc s) (upd K lvl fun us => ∃ s', coAll sorts us = enc s' ∧ Inv s' ∧ m s' < m s)) : (T.loop lvl inits sorts key locs t).den P Post env K := by
  refine ⟨fun vs => ∃ s, vs = enc s ∧ Inv s, fun vs => leastOf fun k => ∃ s, vs = enc s ∧ Inv s ∧ m s = k, ⟨s0, h0, hI⟩, fun vs _ ⟨s, hs, hi⟩ => ?_⟩
  obtain ⟨⟨s1, e1, i1, k1⟩, _⟩ := leastOf_spec (p := fun k => ∃ s, vs = enc s ∧ Inv s ∧ m s = k) ⟨m s, s, hs, hi, rfl⟩
  obtain ⟨L, hL⟩ : ∃ L, L = leastOf fun k => ∃ s, vs = enc s ∧ Inv s ∧ m s = k := ⟨_, rfl⟩
  dsimp only
  rw [← hL] at k1 ⊢
  subst e1
  refine T.den_mono t (hr s1 i1) fun l us h => ?_
  unfold upd at h ⊢
  by_cases e : l = lvl
  · rw [if_pos e] at h ⊢
    obtain ⟨s', a, b, c⟩ := h
    refine ⟨⟨s', a, b⟩, ?_⟩
    exact Nat.lt_of_le_of_lt ((leastOf_spec (p := fun k => ∃ s, coAll sorts us = enc s ∧ Inv s ∧ m s = k) ⟨m s', s', a, b, rfl⟩).2 _ ⟨s', a, b, rfl⟩) (Nat.lt_of_lt_of_eq c k1)
  · rw [if_neg e] at h ⊢; exact h
abbrev Lv := List (List AV)
abbrev cA (l : Lv) (i : Int) (k : Nat) : AV := (l.getD i.toNat []).getD k (.int 0)
abbrev cI (l : Lv) (i : Int) (k : Nat) : Int := (cA l i k).i
abbrev cB (l : Lv) (i : Int) (k : Nat) : Bool := (cA l i k).b
abbrev cR (l : Lv) (i : Int) (k : Nat) : Value := (cA l i k).r
abbrev cL (l : Lv) (i : Int) (k : Nat) : Lv := (cA l i k).l
def imin (a b : Int) : Int := if b < a then b else a
def imax (a b : Int) : Int := if a < b then b else a
def iterF {σ α : Type} (step : (σ → Option α) → σ → Option α) : Nat → σ → Option α
  | 0, _ => none
  | n + 1, s => step (iterF step n) s
end Go.Sx
