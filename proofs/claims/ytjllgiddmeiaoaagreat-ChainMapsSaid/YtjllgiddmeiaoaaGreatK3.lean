/-
  Texts of this claim, joined (part 3).
-/
import Derived.Test.YtjllgiddmeiaoaaGreatK2
import Derived.Test.YtjllgiddmeiaoaaGreatProg
import Derived.Lib.Hide
set_option linter.unusedVariables false
set_option linter.unusedSimpArgs false
set_option linter.unusedSectionVars false
set_option linter.constructorNameAsVariable false
namespace Go.Sx
open Go Go.RowKit Go.Dial
variable {env : List AV} {κ κ' : Nat → Value} {F F' : Nat → Prop} {w w' w0 : World} {U : Nat → Prop} {tmp : Nat → SV} {blk : Nat → Option SB} {L : Nat} {a : Act} {P : Program} {Post : R → Prop} {K : Nat → List AV → Prop}
def Path (P : Program) (Post : R → Prop) (w0 : World) (ro : Option Nat) (c : Code) (env : List AV) (K : Nat → List AV → Prop) (σ : SS) (k : Ex → SS → T) : Prop :=
 ∃ (ex : Ex) (σ' : SS) (rs : List AV) (K' : Nat → List AV → Prop), (k ex σ').den P Post (env ++ rs) K' ∧ (∀ l, l < σ.dep → K' l = K l) ∧ σ'.dep = σ.dep ∧ KnownOK (env ++ rs) σ'.n σ'.known ∧ (env ++ rs).length = σ'.n ∧ ∀ us, Leads P w0 ro c (env ++ rs ++ us) σ ex σ'
def RunOK (P : Program) (w0 : World) (run : Run) : Prop :=
 ∀ (Post : R → Prop) (K : Nat → List AV → Prop) (ro : Option Nat) (fid : Nat) (c : Code) (k : Ex → SS → T) (σ : SS) (env : List AV), env.length = σ.n → KnownOK env σ.n σ.known → (run ro fid c k σ).den P Post env K → Path P Post w0 ro c env K σ k
theorem needs_den (l : List E) (t : T) : (T.needs l t).den P Post env K ↔ (∀ e ∈ l, (den env e).b = true) ∧ t.den P Post env K := by
 induction l with
 | nil => simp [T.needs]
 | cons e l ih => simp only [T.needs, T.den, ih, List.forall_mem_cons, and_assoc]
theorem leaves_len (r : R) : r.leaves.length = (mkRes.RS.cnt r.shape).1 := by
 induction r with
 | cons x y ih1 ih2 => simp [R.leaves, R.shape, mkRes.RS.cnt, ih1, ih2]
 | agg x ih => exact ih
 | tup x ih => exact ih
 | _ => rfl
theorem learnAll (nd : List E) : ∀ σ : SS, ∃ kn, nd.foldl (fun σ e => σ.learn e true) σ = { σ with known := kn } ∧ (KnownOK env σ.n σ.known → (∀ e ∈ nd, e.sc σ.n = true ∧ (den env e).b = true) → KnownOK env σ.n kn) := by
 induction nd with
 | nil => intro σ; exact ⟨σ.known, rfl, fun h _ => h⟩
 | cons e nd ih =>
  intro σ
  obtain ⟨kn, h1, h2⟩ := ih (σ.learn e true)
  refine ⟨kn, h1, fun h hn => ?_⟩
  exact h2 (learn_ok h (hn e (List.mem_cons_self ..)).1 (hn e (List.mem_cons_self ..)).2) (fun x hx => hn x (List.mem_cons_of_mem _ hx))
theorem KnownOK.ext' {n : Nat} {rs : List AV} {known : List (E × Bool)} (h : KnownOK env n known) (hn : env.length = n) : KnownOK (env ++ rs) n known := h.ext hn (Nat.le_refl _)
def OneRes (P : Program) (Post : R → Prop) (K : Nat → List AV → Prop) (w0 : World) (ro : Option Nat) (env : List AV) (ops : Array Oper) (i : Nat) (σ : SS) (k : SS → Seen → T) : Prop :=
 ∃ (r1 : List AV) (σ' : SS) (s : Stp) (K' : Nat → List AV → Prop), (k σ' s.seen).den P Post (env ++ r1) K' ∧ (∀ l, l < σ.dep → K' l = K l) ∧ KnownOK (env ++ r1) σ'.n σ'.known ∧ (env ++ r1).length = σ'.n ∧
  (∀ rs, StepSem P w0 (env ++ r1 ++ rs) ro σ.L ops σ.N σ'.N i s σ.tmp σ.blk) ∧ σ'.tmp = updO σ.tmp s.seen.dst s.v ∧ σ'.blk = updL σ.blk s.wr ∧ σ'.L = σ.L ∧ σ'.dep = σ.dep
theorem wanted_ext {ops : Array Oper} {o : Oper} {b : Bool} {known : List (E × Bool)} {n : Nat} (hg : ∀ j want, o.guard = some (j, want) → ∃ d e, (ops[j]?).bind (·.dst) = some d ∧ tmp d = .vb e ∧ ∃ t, truth known e = some t ∧ b = decide (t = want)) (h0 : o.guard = none → b = true)
  (hk : KnownOK env n known) (hn : env.length = n) (rs : List AV) : wantedIs ops o tmp (env ++ rs) b := by
 unfold wantedIs
 split
 ·rename_i hh; exact h0 hh
 ·rename_i j want hh
  obtain ⟨d, e, h1, h2, t, h3, h4⟩ := hg j want hh
  refine ⟨d, h1, .inl ⟨e, h2, ?_⟩⟩
  rw [h4, truth_ok (hk.ext' hn) h3]
theorem dstOk_spec {σ : SS} {o : Oper} (h : dstOk σ o = true) : ∀ d, o.dst = some d → d < σ.L := fun d hd => by
 unfold dstOk at h
 rw [hd] at h
 exact blt_lt h
theorem eff_spec {σ : SS} {o : Oper} {v : SV} {wr : List (Nat × Option SB)} (hw : WrOk σ.N wr) (hd : ∀ d, o.dst = some d → d < σ.L) : (σ.eff o v wr).tmp = updO σ.tmp o.dst v ∧ (σ.eff o v wr).blk = updL σ.blk wr ∧ (σ.eff o v wr).N = wrLen σ.N wr ∧ (σ.eff o v wr).L = σ.L ∧ (σ.eff o v wr).n = σ.n ∧ (σ.eff o v wr).known = σ.known ∧ (σ.eff o v wr).dep = σ.dep := by
 obtain ⟨h1, h2, h3, h4, h5, h6, h7⟩ := write_spec σ wr hw
 obtain ⟨g1, g2, g3, g4, g5, g6, g7⟩ := put_spec (σ.write wr) (dst := o.dst) (v := v) (fun d hd' => by rw [h4]; exact hd d hd')
 exact ⟨by rw [← h3]; exact g1, g2.trans h1, g3.trans h2, g6.trans h4, g4.trans h5, g5.trans h6, g7.trans h7⟩
theorem step_map {cons : Nat → Bool} {own : Bool} {ro : Option Nat} (hfit : PFit P) {ops : Array Oper} {i : Nat} {o : Oper} (ho : ops[i]? = some o) {σ σ₁ : SS} {f : Nat} (hc : core P cons own σ₁.tr σ.N σ.ev σ.blk o = .inl f []) {ks vs : SV} (hm : MapFn P f ks vs) (hk : ks.names = []) (hv : vs.names = []) (hks : ks.sc 0 = true) (hvs : vs.sc 0 = true)
  (hd : ∀ d, o.dst = some d → d < σ.L) (hw : wantedIs ops o σ.tmp env true) :
  StepSem P w0 env ro σ.L ops σ.N (σ.N + 1) i ⟨.map σ.N, [(σ.N, some (.map ks vs))], { rt := readsOf ops o, rb := footOf σ.ev o, dst := o.dst, wb := [σ.N] }⟩ σ.tmp σ.blk := by
 refine ⟨rfl, fun b hb => by rw [List.mem_singleton.1 hb]; exact Nat.lt_succ_self _, Nat.le_succ _, fun b hb => .inr (by rw [List.mem_singleton.1 hb]; exact Nat.le_refl _), fun b h1 h2 => List.mem_singleton.2 (by omega), hd, fun κ F U tmp' blk' a w K Q h ht hb' hf hro _ hK => ?_, fun x hx => (by cases hx)⟩
 have hev : ∀ x ∈ o.op.operands, evOf tmp' x = σ.ev x := fun x hx => by rw [ev_eq]; exact reads_agree ht x hx
 have hbk : ∀ x ∈ o.op.operands, ∀ b ∈ (σ.ev x).names, blk' b = σ.blk b := fun x hx b hb => hb' b (by unfold footOf; exact List.mem_flatMap.2 ⟨x, by simpa using hx, hb⟩)
 have hc' : core P cons own σ₁.tr σ.N (evOf tmp') blk' o = .inl f [] := by rw [core_congr hev hbk]; exact hc
 obtain ⟨g, cargs, tys, fs, xs, fn, hop, hg, hfn, hbody, hl⟩ := core_inl hc'
 have hevg := h.ev g
 rw [hg] at hevg
 obtain ⟨ds, cs, e1, hp1, hp2, d1, d2⟩ := hevg
 have hl' : (fs.list = [] ∧ cargs.toList = []) ∧ xs.list = [] := by
  have := hl.symm
  simp only [List.append_eq_nil_iff, List.map_eq_nil_iff] at this
  exact this
 have hds : ds = #[] := by
  have := (tup_list hp1 d1).1
  rw [hl'.1.1] at this
  exact Array.eq_empty_of_size_eq_zero (by simpa using this)
 have hcs : cs = #[] := by
  have := (tup_list hp2 d2).1
  rw [hl'.2] at this
  exact Array.eq_empty_of_size_eq_zero (by simpa using this)
 have hca : cargs = #[] := by rw [← Array.toArray_toList (xs := cargs), hl'.1.2]
 subst hds; subst hcs; subst hca
 have hrun : (execOp a.eval o).run P w = .ok (.enter f #[]) w := by
  have hn : ¬ fn.name = "runtime.NumGoroutine" := hfit.name f fn hfn
  have hb0 : ¬ fn.body = none := by intro hh; rw [hh] at hbody; cases hbody
  simp only [execOp, hop, resolve, e1, Deferred.ofValue, Sem.run_bind, Sem.run_pure, Result.andThen_ok, invoke, callFunc]
  simp [hfn, hn, hb0]
 have hUN : ¬ U σ.N := hf σ.N (Nat.le_refl _) (Nat.lt_succ_self _)
 unfold wpOpIn
 rw [ho]
 simp only
 rw [if_pos (wanted_is h hw ht)]
 refine opIn_call (core_nodefer hc' (fun m hm => by cases hm)) hrun (hm w) ?_
 rintro e w' ⟨r, es, clock, rfl, q1, q2, q3, q4, q5, q6, q7⟩
 refine ⟨_, rfl, ?_⟩
 have hmd : MapDen env (upd κ σ.N (.pointer (some ⟨r, 0, none⟩))) F w' ks vs es.toList := by
  have h1 : MapDen [] (upd κ σ.N (.pointer (some ⟨r, 0, none⟩))) F w' ks vs es.toList := q6.keep (fun b hb => by rw [hk, hv] at hb; cases hb) (fun _ h => h.elim) (fun _ h => h.elim)
  have hag : Agree 0 [] env := by
   have := agree_ext (env := []) (rs := env) (n := 0) rfl
   exact this
  exact h1.re hag hks hvs
 have hold : ∀ b k, liveB (blk' b) = true → blockOf (κ b) = some k → k < w.heap.size := fun b k hb hk => by
  obtain ⟨y, hy, hl⟩ := live_some hb
  exact ((h.blks b y hy).lt hl hk).2
 have hne : ∀ b, U b → b ≠ σ.N := fun b hb e => hUN (e ▸ hb)
 have hlive : ∀ b, liveB (upd blk' σ.N (some (.map ks vs)) b) = true → b = σ.N ∨ (liveB (blk' b) = true ∧ b ≠ σ.N) := fun b hb => by
  by_cases e : b = σ.N
  ·exact .inl e
  ·rw [upd_other e] at hb; exact .inr ⟨hb, e⟩
 have hrel : Rel w0 env (upd κ σ.N (.pointer (some ⟨r, 0, none⟩))) F (fun b => U b ∨ (σ.N ≤ b ∧ b < σ.N + 1)) tmp' (upd blk' σ.N (some (.map ks vs))) σ.L a w' := by
  refine h.world (fun b hb => .inl hb) (fun b hb => upd_other (hne b hb)) (fun k hk => hk) (fun k hF => q7.block k (h.F k hF)) (fun b x hx => ?_) (fun b c k hb hc h1 h2 => ?_) (fun b k hb h1 => ?_) (fun k hF => Nat.lt_of_lt_of_le (h.F k hF) q7.size) (h.below.trans (q7.mono h.below.size))
  ·by_cases e : b = σ.N
   ·subst e; rw [upd_same] at hx; cases hx
    exact .inr ⟨⟨r, es, clock, upd_same .., q2, Nat.le_trans h.below.size q1, q3, q4, q5, hmd⟩, .inr ⟨Nat.le_refl _, Nat.lt_succ_self _⟩, fun c hc => by simp only [SB.names, hk, hv] at hc; cases hc⟩
   ·rw [upd_other e] at hx
    exact .inl ⟨hx, fun hl k hk => q7.block k (hold b k (by rw [hx]; exact hl) hk)⟩
  ·rcases hlive b hb with rfl | ⟨hb1, hb2⟩ <;> rcases hlive c hc with rfl | ⟨hc1, hc2⟩
   ·rfl
   ·rw [upd_same] at h1; rw [upd_other hc2] at h2
    have h1 : r = k := by simpa [blockOf] using h1
    have := hold c k hc1 h2; omega
   ·rw [upd_same] at h2; rw [upd_other hb2] at h1
    have h2 : r = k := by simpa [blockOf] using h2
    have := hold b k hb1 h1; omega
   ·rw [upd_other hb2] at h1; rw [upd_other hc2] at h2
    exact h.inj b c k hb1 hc1 h1 h2
  ·rcases hlive b hb with rfl | ⟨hb1, hb2⟩
   ·rw [upd_same] at h1
    have h1 : r = k := by simpa [blockOf] using h1
    intro hF; have := h.F _ hF; omega
   ·rw [upd_other hb2] at h1; exact h.nF b k hb1 h1
 have hkept : Kept U blk' κ F w (upd blk' σ.N (some (.map ks vs))) (upd κ σ.N (.pointer (some ⟨r, 0, none⟩))) F w' := by
  refine ⟨fun b hb => upd_other (hne b hb), fun _ h => h, fun _ h => .inl h, q7.size, fun k hk _ => q7.block k hk, fun b k hb h1 => ?_, .of fun k hk => .inr (q7.block k hk)⟩
  rcases hlive b hb with rfl | ⟨hb1, hb2⟩
  ·rw [upd_same] at h1
   have h1 : r = k := by simpa [blockOf] using h1
   exact .inl (by omega)
  ·rw [upd_other hb2] at h1; exact .inr ⟨b, hb1, h1⟩
 have hput := hrel.put (dst := o.dst) (v := .map σ.N) (u := .map (some r)) hd ⟨r, upd_same .., rfl⟩ (fun b hb => by rw [show b = σ.N by simpa [SV.names] using hb]; exact .inr ⟨Nat.le_refl _, Nat.lt_succ_self _⟩)
 exact hK _ F _ w' hput hkept (by cases o.dst <;> rfl)
end Go.Sx
namespace Go.Sx
open Go Go.RowKit Go.Dial
variable {env : List AV} {κ κ' : Nat → Value} {F F' : Nat → Prop} {w w' w0 : World} {U : Nat → Prop} {tmp : Nat → SV} {blk : Nat → Option SB} {L : Nat} {a : Act} {P : Program} {Post : R → Prop} {K : Nat → List AV → Prop} {cfg : Cfg} {run : Run} {ro : Option Nat}
theorem okSV_spec {σ : SS} {vs : List SV} (h : vs.all σ.okSV = true) : ∀ x ∈ vs, ∀ b ∈ x.names, b < σ.N := fun x hx b hb => by
 have := List.all_eq_true.1 h x hx
 unfold SS.okSV at this
 rw [Bool.and_eq_true, List.all_eq_true] at this
 exact blt_lt (this.2 b hb)
theorem back_spec {σ σ' : SS} {dst : Option Nat} {v : SV} (hle : σ.N ≤ σ'.N) (hd : ∀ d, dst = some d → d < σ.L) : (SS.put { σ' with rf := σ.rf } dst v).tmp = updO σ.tmp dst v ∧ (SS.put { σ' with rf := σ.rf } dst v).blk = updL σ.blk (changedWr σ σ') ∧ (SS.put { σ' with rf := σ.rf } dst v).N = σ'.N ∧ (SS.put { σ' with rf := σ.rf } dst v).L = σ.L ∧
  (SS.put { σ' with rf := σ.rf } dst v).n = σ'.n ∧ (SS.put { σ' with rf := σ.rf } dst v).known = σ'.known ∧ (SS.put { σ' with rf := σ.rf } dst v).dep = σ'.dep := by
 obtain ⟨g1, g2, g3, g4, g5, g6, g7⟩ := put_spec { σ' with rf := σ.rf } (dst := dst) (v := v) hd
 refine ⟨g1, ?_, g3, g6, g4, g5, g7⟩
 rw [g2]
 funext b
 rw [changed_blk hle (fun _ _ => rfl)]
 split
 ·rfl
 ·rename_i h
  have h1 : σ'.blk b = none := Ov.get_out (by have : ¬ b < σ'.N := h; exact Nat.le_of_not_lt this)
  have h2 : σ.blk b = none := Ov.get_out (by have : ¬ b < σ'.N := h; have : σ.hp.len = σ.N := rfl; omega)
  rw [h2]; exact h1
theorem fin_sound (hrun : RunOK P w0 run) (hfit : PFit P) {own : Bool} {id i : Nat} {ops : Array Oper} {o : Oper} (ho : ops[i]? = some o) {σ : SS} {kn : List (E × Bool)} {k : SS → Seen → T} (hn : env.length = σ.n) (hk : KnownOK env σ.n kn)
  (hw : ∀ rs, wantedIs ops o σ.tmp (env ++ rs) true) {x : Out} (hx : core P cfg.cons.contains own (truth kn) σ.N σ.ev σ.blk o = x) (h : (fin P cfg run id { σ with known := kn } o x k (readsOf ops o)).den P Post env K) : OneRes P Post K w0 ro env ops i σ k := by
 cases x with
 | no m => exact h.elim
 | br c => exact h.elim
 | ok needs v wr =>
  replace h : (finOk id { σ with known := kn } o needs v wr k (readsOf ops o)).den P Post env K := h
  unfold finOk at h
  simp only [fL_eq fE_eq, fSV_eq, fWr_eq, SS.go_eq] at h
  split at h
  ·rename_i hc
   simp only [Bool.and_eq_true] at hc
   obtain ⟨⟨⟨⟨c1, c2⟩, c3⟩, c4⟩, c5⟩ := hc
   rw [List.all_eq_true] at c1
   rw [needs_den] at h
   obtain ⟨hnd, hden⟩ := h
   have hd := dstOk_spec c5
   obtain ⟨kn', l1, l2⟩ := learnAll (env := env) (needs.filter (fun e => SS.tr { σ with known := kn } e != some true)) { σ with known := kn }
   rw [l1] at hden
   have hkn := l2 hk (fun e he => ⟨c1 e he, hnd e he⟩)
   have hns : ∀ rs, ∀ e ∈ needs, (den (env ++ rs) e).b = true := fun rs e he => by
     cases ht : (SS.tr { σ with known := kn } e != some true) with
     | true =>
      have hm : e ∈ needs.filter (fun e => SS.tr { σ with known := kn } e != some true) := List.mem_filter.2 ⟨he, ht⟩
      rw [den_ext hn (c1 e hm)]; exact hnd e hm
     | false =>
      have : SS.tr { σ with known := kn } e = some true := by simpa using ht
      exact truth_ok (hk.ext' hn) this
   have hstep : ∀ rs, WrOk σ.N (padWr σ.N wr) ∧ StepSem P w0 (env ++ rs) ro σ.L ops σ.N (wrLen σ.N (padWr σ.N wr)) i ⟨v, padWr σ.N wr, seenOf { σ with known := kn } o v wr (readsOf ops o)⟩ σ.tmp σ.blk := fun rs => by
    cases hl : leanOf { σ with known := kn } o v wr with
    | some rh =>
     obtain ⟨rfl, hs⟩ := step_lean (w0 := w0) (env := env ++ rs) (ro := ro) ho (σ := { σ with known := kn }) (σ₁ := { σ with known := kn }) hx (hns rs) hl hd (hw rs)
     unfold seenOf
     rw [hl]
     exact ⟨trivial, hs⟩
    | none =>
     unfold seenOf
     rw [hl]
     exact step_ok ho (σ := σ) (σ₁ := { σ with known := kn }) (hk.ext' hn) hx (hns rs) c4 hd (hw rs)
   obtain ⟨p1, p2, p3, p4, p5, p6, p7⟩ := eff_spec (σ := { σ with known := kn' }) (o := o) (v := v) (hstep []).1 hd
   have hsd : (seenOf { σ with known := kn } o v wr (readsOf ops o)).dst = o.dst := by unfold seenOf; split <;> rfl
   refine ⟨[], _, ⟨v, padWr σ.N wr, seenOf { σ with known := kn } o v wr (readsOf ops o)⟩, K, by rw [List.append_nil]; exact hden, fun _ _ => rfl, ?_, ?_, fun rs => ?_, by rw [hsd]; exact p1, p2, p4, p7⟩
   ·rw [List.append_nil, p5, p6]; exact hkn
   ·rw [List.append_nil, p5]; exact hn
   ·rw [List.append_nil, p3]; exact (hstep rs).2
  ·exact h.elim
 | call f args sh wr =>
  replace h : (finCall id { σ with known := kn } o f args sh wr k (readsOf ops o)).den P Post env K := h
  unfold finCall at h
  split at h
  ·rename_i hc
   simp only [Bool.and_eq_true] at hc
   obtain ⟨⟨⟨c1, c2⟩, c3⟩, c4⟩ := hc
   simp only [fE_eq, fSV_eq, fWr_eq, SS.go_eq] at h
   obtain ⟨r, hr, hcon, hden⟩ := h
   have hd := dstOk_spec c2
   have hwr : ∀ y ∈ wr, y.1 ∈ footOf σ.ev o ∧ y.1 < σ.N := fun y hy => by
    have := List.all_eq_true.1 c4 y hy
    simp only [Bool.and_eq_true] at this
    exact ⟨(show y.1 ∈ footOf (SS.ev { σ with known := kn }) o from by simpa using this.1.1.1), blt_lt this.1.1.2⟩
   have hll := leaves_len r
   rw [hr] at hll
   have hstep : ∀ rs, WrOk σ.N (wr ++ (mkRes sh σ.n σ.N).2) ∧ StepSem P w0 (env ++ r.leaves ++ rs) ro σ.L ops σ.N (wrLen σ.N (wr ++ (mkRes sh σ.n σ.N).2)) i ⟨(mkRes sh σ.n σ.N).1, wr ++ (mkRes sh σ.n σ.N).2, { rt := readsOf ops o, rb := footOf σ.ev o, dst := o.dst, wb := (wr ++ (mkRes sh σ.n σ.N).2).map (·.1) }⟩ σ.tmp σ.blk := fun rs =>
    step_call hfit ho (σ := σ) (σ₁ := { σ with known := kn }) hx hr (n := σ.n) (by rw [List.append_assoc, den_ext hn c1]; exact hcon) (fun j y hj => by
     rw [List.append_assoc, List.getElem?_append_right (by omega)]
     rw [show σ.n + j - env.length = j by omega, List.getElem?_append_left (List.getElem?_eq_some_iff.1 hj).1]
     exact hj) hd hwr (by have := hw (r.leaves ++ rs); rw [← List.append_assoc] at this; exact this)
   obtain ⟨p1, p2, p3, p4, p5, p6, p7⟩ := eff_spec (σ := { σ with known := kn, n := σ.n + (mkRes.RS.cnt sh).1 }) (o := o) (v := (mkRes sh σ.n σ.N).1) (hstep []).1 hd
   refine ⟨r.leaves, SS.eff { σ with known := kn, n := σ.n + (mkRes.RS.cnt sh).1 } o (mkRes sh σ.n σ.N).1 (wr ++ (mkRes sh σ.n σ.N).2), ⟨(mkRes sh σ.n σ.N).1, wr ++ (mkRes sh σ.n σ.N).2, { rt := readsOf ops o, rb := footOf σ.ev o, dst := o.dst, wb := (wr ++ (mkRes sh σ.n σ.N).2).map (·.1) }⟩, K, hden, fun _ _ => rfl, ?_, ?_, fun rs => ?_, p1, p2, p4, p7⟩
   ·rw [p5, p6]; exact hk.ext hn (Nat.le_add_right _ _)
   ·rw [p5]; show _ = σ.n + _; rw [List.length_append, hn, hll]
   ·rw [p3]; exact (hstep rs).2
  ·exact h.elim
 | inl f vs =>
  unfold fin at h
  simp only at h
  split at h
  ·rename_i fn hfn
   split at h
   ·rename_i ks vs' _
    unfold finMap at h
    split at h
    ·rename_i hc
     simp only [Bool.and_eq_true, List.isEmpty_iff] at hc
     obtain ⟨⟨⟨⟨⟨c1, c2⟩, c3⟩, c4⟩, c5⟩, c6⟩ := hc
     subst c1
     simp only [SS.go_eq] at h
     obtain ⟨hm, hden⟩ := h
     have hd := dstOk_spec c6
     have hwr : WrOk σ.N [(σ.N, some (.map ks vs'))] := ⟨Nat.le_refl _, trivial⟩
     obtain ⟨p1, p2, p3, p4, p5, p6, p7⟩ := eff_spec (σ := { σ with known := kn }) (o := o) (v := .map σ.N) hwr hd
     have hN : wrLen σ.N [(σ.N, some (SB.map ks vs'))] = σ.N + 1 := by show max σ.N (σ.N + 1) = _; omega
     refine ⟨[], _, ⟨.map σ.N, [(σ.N, some (.map ks vs'))], { rt := readsOf ops o, rb := footOf σ.ev o, dst := o.dst, wb := [σ.N] }⟩, K, by rw [List.append_nil]; exact hden, fun _ _ => rfl, ?_, ?_, fun rs => ?_, p1, p2, p4, p7⟩
     ·rw [List.append_nil, p5, p6]; exact hk
     ·rw [List.append_nil, p5]; exact hn
     ·rw [List.append_nil, p3]
      show StepSem P w0 (env ++ rs) ro σ.L ops σ.N (wrLen σ.N _) i _ σ.tmp σ.blk
      rw [hN]
      exact step_map hfit ho (σ := σ) (σ₁ := { σ with known := kn }) hx hm c2 c3 c4 c5 hd (hw rs)
    ·exact h.elim
   ·rename_i c hmap hb
    unfold finInl at h
    simp only [fL_eq fSV_eq] at h
    split at h
    ·rename_i hc
     rw [Bool.and_eq_true] at hc
     obtain ⟨c1, c2⟩ := hc
     rw [Bool.and_eq_true] at c1
     have hvn := okSV_spec c1.1
     have hcl : ∀ b x, σ.blk b = some x → ∀ c ∈ x.names, c < σ.N := fun b x hx => SS.closed_spec (σ := { σ with known := kn }) c1.2 hx
     have hft : ∀ b ∈ footOf σ.ev o, b < σ.N := fun b hb => blt_lt (List.all_eq_true.1 c2 b hb)
     obtain ⟨ex, σ', rs, K', hden, hK, hdep, hkn, hlen, hl⟩ := hrun Post K none f c _ (SS.frame { σ with known := kn } vs fn.ntmps) env hn hk h
     have hex : (∀ id, ex ≠ .exit id) ∧ ∃ us, resultSV P σ' fn.results.toList = some us ∧ (backTo id { σ with known := kn } o k (readsOf ops o) (packSV us) σ').den P Post (env ++ rs) K' := by
      cases ex with
      | exit j => exact hden.elim
      | normal =>
       simp only [fSV_eq] at hden
       split at hden
       ·rename_i us hus; exact ⟨(fun _ h => by cases h), us, hus, hden⟩
       ·exact hden.elim
      | ret =>
       simp only [fSV_eq] at hden
       split at hden
       ·rename_i us hus; exact ⟨(fun _ h => by cases h), us, hus, hden⟩
       ·exact hden.elim
     obtain ⟨hex, us, hus, hden⟩ := hex
     unfold backTo at hden
     split at hden
     ·rename_i hdo
      simp only [SS.go_eq] at hden
      have hd := dstOk_spec hdo
      have hle : σ.N ≤ σ'.N := (hl []).le
      obtain ⟨p1, p2, p3, p4, p5, p6, p7⟩ := back_spec (σ := { σ with known := kn }) (σ' := σ') (dst := o.dst) (v := packSV us) hle hd
      refine ⟨rs, _, ⟨packSV us, changedWr σ σ', { rt := readsOf ops o, rb := List.range σ.N, dst := o.dst, wb := changed σ σ' }⟩, K', hden, hK, by rw [p5, p6]; exact hkn, by rw [p5]; exact hlen, fun ts => ?_, p1, p2, p4, by rw [p7]; exact hdep⟩
      rw [p3]
      exact step_inl hfit ho (σ := σ) (σ₁ := { σ with known := kn }) hx hfn hb hft hvn hcl hex ((hl ts).same ⟨rfl, rfl, rfl, rfl⟩ ⟨rfl, rfl, rfl, rfl⟩) hus hd (by have := hw (rs ++ ts); rw [← List.append_assoc] at this; exact this)
     ·exact hden.elim
    ·exact h.elim
   ·exact h.elim
  ·exact h.elim
 | yld b vs =>
  replace h : (finYld run id { σ with known := kn } o b vs k (readsOf ops o)).den P Post env K := h
  unfold finYld at h
  split at h
  ·rename_i li hb
   split at h
   ·rename_i hc
    simp only [Bool.and_eq_true, beq_iff_eq] at hc
    obtain ⟨⟨⟨⟨c1, c1'⟩, c2⟩, c3⟩, c4⟩ := hc
    have hvn := okSV_spec c1
    have hcl : ∀ b x, σ.blk b = some x → ∀ c ∈ x.names, c < σ.N := fun b x hx => SS.closed_spec (σ := { σ with known := kn }) c1' hx
    have hft : ∀ b ∈ footOf σ.ev o, b < σ.N := fun b hb => blt_lt (List.all_eq_true.1 c2 b hb)
    have hpar : ∀ t ∈ li.params.toList, t < li.rf.len := fun t ht => blt_lt (List.all_eq_true.1 c4 t ht)
    simp only [fL_eq fSV_eq, fO_eq, SS.go_eq, fB_eq] at h
    obtain ⟨ex, σ₁, rs, K₁, hden, hK1, hdep1, hkn1, hlen1, hl1⟩ := hrun Post K (some b) li.fn li.assign _ { σ with known := kn, rf := setParams li.params.toList vs li.rf } env hn hk h
    simp only at hden
    split at hden
    ·rename_i i₁ hb1
     obtain ⟨y1, y2, y3, y4⟩ := write_old (σ := σ₁) (y := some (.loop i₁ .busy .none)) hb1
     obtain ⟨_, _, _, _, y5, y6, y7⟩ := write_spec σ₁ [(b, some (.loop i₁ .busy .none))] ⟨by have := blk_lt hb1; omega, trivial⟩
     obtain ⟨ex₂, σ₂, rs₂, K₂, hden, hK2, hdep2, hkn2, hlen2, hl2⟩ := hrun Post K₁ (some b) li.fn li.body _ (σ₁.write [(b, some (.loop i₁ .busy .none))]) (env ++ rs) (by rw [y5]; exact hlen1) (by rw [y5, y6]; exact hkn1) hden
     simp only at hden
     split at hden
     ·rename_i i₂ hb2
      obtain ⟨z1, z2, z3, z4⟩ := write_old (σ := σ₂) (y := some (roundRec i₂ ex₂)) hb2
      obtain ⟨_, _, _, _, z5, z6, z7⟩ := write_spec σ₂ [(b, some (roundRec i₂ ex₂))] ⟨by have := blk_lt hb2; omega, trivial⟩
      replace hden : (backTo id { σ with known := kn } o k (readsOf ops o) (.vb (.bool (ex₂.jmp == .none))) (σ₂.write [(b, some (roundRec i₂ ex₂))])).den P Post (env ++ rs ++ rs₂) K₂ := hden
      unfold backTo at hden
      split at hden
      ·rename_i hdo
       simp only [SS.go_eq] at hden
       have hd := dstOk_spec hdo
       have hle1 : σ.N ≤ σ₁.N := (hl1 []).le
       have hle2 : σ₁.N ≤ σ₂.N := by have := (hl2 []).le; rw [y2] at this; exact this
       have hle : σ.N ≤ (σ₂.write [(b, some (roundRec i₂ ex₂))]).N := by rw [z2]; omega
       obtain ⟨p1, p2, p3, p4, p5, p6, p7⟩ := back_spec (σ := { σ with known := kn }) (σ' := σ₂.write [(b, some (roundRec i₂ ex₂))]) (dst := o.dst) (v := .vb (.bool (ex₂.jmp == .none))) hle hd
       refine ⟨rs ++ rs₂, _, ⟨.vb (.bool (ex₂.jmp == .none)), changedWr σ (σ₂.write [(b, some (roundRec i₂ ex₂))]), { rt := readsOf ops o, rb := List.range σ.N, dst := o.dst, wb := changed σ (σ₂.write [(b, some (roundRec i₂ ex₂))]) }⟩, K₂, by rw [← List.append_assoc]; exact hden, fun l hlt => ?_,
        by rw [← List.append_assoc, p5, p6, z5, z6]; exact hkn2, by rw [← List.append_assoc, p5, z5]; exact hlen2, fun ts => ?_, p1, p2, p4, by rw [p7, z7, hdep2, y7]; exact hdep1⟩
       ·rw [hK2 l (by rw [y7, hdep1]; exact hlt), hK1 l hlt]
       ·rw [p3]
        have hl1' := hl1 (rs₂ ++ ts)
        rw [← List.append_assoc] at hl1'
        rw [← List.append_assoc]
        refine step_yld ho (σ := σ) (σt := { σ with known := kn }) hx hft hvn hcl hb c3 hpar (hl1'.same ⟨rfl, rfl, rfl, rfl⟩ ⟨rfl, rfl, rfl, rfl⟩) hb1 (hl2 ts) hb2 hd ?_
        have := hw (rs ++ (rs₂ ++ ts))
        rw [← List.append_assoc, ← List.append_assoc] at this
        exact this
      ·exact hden.elim
     ·exact hden.elim
    ·exact hden.elim
   ·exact h.elim
  ·exact h.elim
theorem skip_sound {i : Nat} {ops : Array Oper} {o : Oper} (ho : ops[i]? = some o) {σ : SS} {kn : List (E × Bool)} {k : SS → Seen → T} (hn : env.length = σ.n) (hk : KnownOK env σ.n kn)
  (hw : ∀ rs, wantedIs ops o σ.tmp (env ++ rs) false) (h : (skipOp { σ with known := kn } o k (readsOf ops o)).den P Post env K) : OneRes P Post K w0 ro env ops i σ k := by
 unfold skipOp at h
 split at h
 ·rename_i c3
  have hd := dstOk_spec c3
  obtain ⟨p1, p2, p3, p4, p5, p6, p7⟩ := put_spec { σ with known := kn } (dst := o.dst) (v := .nil) hd
  refine ⟨[], SS.put { σ with known := kn } o.dst .nil, ⟨.nil, [], { rt := readsOf ops o, rb := [], dst := o.dst, wb := [] }⟩, K, by rw [List.append_nil]; exact h, fun _ _ => rfl, ?_, ?_, fun rs => ?_, p1, p2, p6, p7⟩
  ·rw [List.append_nil, p4, p5]; exact hk
  ·rw [List.append_nil, p4]; exact hn
  ·rw [List.append_nil, p3]
   exact step_skip ho (σ := σ) hd (hw rs)
 ·exact h.elim
theorem go_sound (hrun : RunOK P w0 run) (hfit : PFit P) {fid id i : Nat} {ops : Array Oper} {o : Oper} (ho : ops[i]? = some o) {σ : SS} {k : SS → Seen → T} (hn : env.length = σ.n)
  (hw : ∀ rs, wantedIs ops o σ.tmp (env ++ rs) true) : ∀ (n : Nat) (kn : List (E × Bool)), KnownOK env σ.n kn → (goOp P cfg run fid id o k (readsOf ops o) n { σ with known := kn }).den P Post env K → OneRes P Post K w0 ro env ops i σ k
 | 0, kn, _, h => h.elim
 | n + 1, kn, hk, h => by
  unfold goOp at h
  split at h
  ·rename_i c hc
   split at h
   ·rename_i hs
    obtain ⟨h1, h2⟩ := h
    cases hb : (den env c).b with
    | true => exact go_sound hrun hfit ho hn hw n (learnL kn c true) (learn_ok hk hs hb) (h1 hb)
    | false => exact go_sound hrun hfit ho hn hw n (learnL kn c false) (learn_ok hk hs hb) (h2 hb)
   ·exact h.elim
  ·exact fin_sound hrun hfit ho hn hk hw rfl h
theorem one_sound (hrun : RunOK P w0 run) (hfit : PFit P) {fid id i : Nat} {ops : Array Oper} {o : Oper} (ho : ops[i]? = some o) {σ : SS} {k : SS → Seen → T} (hn : env.length = σ.n) (hk : KnownOK env σ.n σ.known)
  (h : (oneOp P cfg run fid id ops o σ k).den P Post env K) : OneRes P Post K w0 ro env ops i σ k := by
 unfold oneOp at h
 simp only at h
 split at h
 ·rename_i hg
  exact go_sound hrun hfit ho hn (fun rs => wanted_ext (fun j want hh => by rw [hg] at hh; cases hh) (fun _ => rfl) hk hn rs) 16 σ.known hk h
 ·rename_i j want hg
  split at h
  ·rename_i e he
   obtain ⟨d, hd, hde⟩ := Option.map_eq_some_iff.1 he
   have W : ∀ (t : Bool), (∀ rs, (den (env ++ rs) e).b = t) → ∀ rs, wantedIs ops o σ.tmp (env ++ rs) (decide (t = want)) := fun t q2 rs => by
    unfold wantedIs
    rw [hg]
    exact ⟨d, hd, .inl ⟨e, hde, by rw [q2 rs]⟩⟩
   split at h
   ·rename_i t ht
    have q2 : ∀ rs, (den (env ++ rs) e).b = t := fun rs => truth_ok (hk.ext' hn) ht
    split at h
    ·rename_i hw
     exact go_sound hrun hfit ho hn (fun rs => by have := W t q2 rs; rwa [decide_eq_true hw] at this) 16 σ.known hk h
    ·rename_i hw
     exact skip_sound ho hn hk (fun rs => by have := W t q2 rs; rwa [decide_eq_false hw] at this) h
   ·split at h
    ·rename_i hs
     obtain ⟨h1, h2⟩ := h
     cases hb : (den env e).b with
     | true =>
      have q2 : ∀ rs, (den (env ++ rs) e).b = true := fun rs => by rw [den_ext hn hs]; exact hb
      have h1 := h1 hb
      split at h1
      ·rename_i hw
       exact go_sound hrun hfit ho hn (fun rs => by have := W true q2 rs; rwa [hw] at this) 16 (learnL σ.known e true) (learn_ok hk hs hb) h1
      ·rename_i hw
       have hw : want = false := by simpa using hw
       exact skip_sound ho hn (learn_ok hk hs hb) (fun rs => by have := W true q2 rs; rwa [hw] at this) h1
     | false =>
      have q2 : ∀ rs, (den (env ++ rs) e).b = false := fun rs => by rw [den_ext hn hs]; exact hb
      have h2 := h2 hb
      split at h2
      ·rename_i hw
       exact skip_sound ho hn (learn_ok hk hs hb) (fun rs => by have := W false q2 rs; rwa [hw] at this) h2
      ·rename_i hw
       have hw : want = false := by simpa using hw
       exact go_sound hrun hfit ho hn (fun rs => by have := W false q2 rs; rwa [hw] at this) 16 (learnL σ.known e false) (learn_ok hk hs hb) h2
    ·exact h.elim
  ·rename_i he
   obtain ⟨d, hd, hde⟩ := Option.map_eq_some_iff.1 he
   exact skip_sound ho hn hk (fun rs => by unfold wantedIs; rw [hg]; exact ⟨d, hd, .inr ⟨hde, rfl⟩⟩) h
  ·exact h.elim
theorem ops_sound (hrun : RunOK P w0 run) (hfit : PFit P) {fid id : Nat} {ops : Array Oper} {draw : Bool} {h0 : Ov (Option SB)} {k : SS → T} : ∀ (rest : List Oper) (i : Nat) (σ : SS) (seen : List Seen) (env : List AV) (K : Nat → List AV → Prop), (∀ (j : Nat) o, rest[j]? = some o → ops[i + j]? = some o) → env.length = σ.n → KnownOK env σ.n σ.known →
  (symOps P cfg run fid id ops draw h0 rest σ seen k).den P Post env K →
  ∃ (rs : List AV) (ss : List Stp) (σ' : SS) (K' : Nat → List AV → Prop), ss.length = rest.length ∧ (∀ us, Chain P w0 (env ++ rs ++ us) ro σ.L ops σ.N i σ.tmp σ.blk ss σ'.N σ'.tmp σ'.blk) ∧
   (draw = true → indep (masks ops.toList []) (seen.reverse ++ ss.map (·.seen)) = true ∧ edgesOk ops.toList = true ∧ rhOk h0 (seen.reverse ++ ss.map (·.seen)) = true) ∧ (k σ').den P Post (env ++ rs) K' ∧ (∀ l, l < σ.dep → K' l = K l) ∧ KnownOK (env ++ rs) σ'.n σ'.known ∧ (env ++ rs).length = σ'.n ∧ σ'.L = σ.L ∧ σ'.dep = σ.dep
 | [], i, σ, seen, env, K, _, hn, hk, h => by
  unfold symOps at h
  split at h
  ·rename_i hc
   refine ⟨[], [], σ, K, rfl, fun us => .nil _ _ _ _, fun hd => ?_, by rw [List.append_nil]; exact h, fun _ _ => rfl, by rw [List.append_nil]; exact hk, by rw [List.append_nil]; exact hn, rfl, rfl⟩
   rw [hd] at hc
   simp only [Bool.not_true, Bool.false_or, Bool.and_eq_true] at hc
   obtain ⟨⟨c1, c2⟩, c3⟩ := hc
   exact ⟨by simpa using c1, c2, by unfold rhOk at c3 ⊢; simpa using c3⟩
  ·exact h.elim
 | o :: rest, i, σ, seen, env, K, hget, hn, hk, h => by
  unfold symOps at h
  have ho := hget 0 o rfl
  rw [Nat.add_zero] at ho
  obtain ⟨r1, σ₁, s, K1, q1, q2, q3, q4, q5, q6, q7, q8, q9⟩ := one_sound (w0 := w0) (ro := ro) hrun hfit ho hn hk h
  obtain ⟨rs, ss, σ', K', g2, g3, g4, g5, g5k, g6, g7, g8, g9⟩ := ops_sound hrun hfit rest (i + 1) σ₁ (s.seen.fix h0 :: seen) (env ++ r1) K1 (fun j o' hj => by have := hget (j + 1) o' (by simpa using hj); rw [show i + (j + 1) = i + 1 + j by omega] at this; exact this) q4 q3 q1
  refine ⟨r1 ++ rs, { s with seen := s.seen.fix h0 } :: ss, σ', K', by simp [g2], fun us => ?_, fun hd => ?_, by rw [← List.append_assoc]; exact g5, fun l hl => (g5k l (by rw [q9]; exact hl)).trans (q2 l hl), by rw [← List.append_assoc]; exact g6, by rw [← List.append_assoc]; exact g7, by rw [g8, q8], by rw [g9, q9]⟩
  ·have c := g3 us
   rw [q8, q6, q7] at c
   have hsd : (s.seen.fix h0).dst = s.seen.dst := by unfold Seen.fix; split <;> rfl
   rw [← hsd] at c
   rw [← List.append_assoc]
   refine .cons ?_ c
   have := (q5 (rs ++ us)).fix h0
   rw [← List.append_assoc] at this
   exact this
  ·have := g4 hd
   rw [List.reverse_cons, List.append_assoc] at this
   exact this
theorem leads_region (hfit : PFit P) {id : Nat} {ops : Array Oper} {draw : Bool} {σ σ' : SS} {ss : List Stp} (hlen : ss.length = ops.size) (c : Chain P w0 env ro σ.L ops σ.N 0 σ.tmp σ.blk ss σ'.N σ'.tmp σ'.blk) (hL : σ'.L = σ.L)
  (hdr : draw = true → indep (masks ops.toList []) (ss.map (·.seen)) = true ∧ edgesOk ops.toList = true ∧ rhOk σ.hp (ss.map (·.seen)) = true) : Leads P w0 ro (.region id ops draw) env σ .normal σ' := by
 refine ⟨c.le, fun κ F U a w hr hU hro => ?_⟩
 cases draw with
 | false =>
  refine wpIn_region ?_
  rw [List.range_eq_range']
  have := c.ops (Q := fun e a' w' => e = Ex.normal.exit' ∧ Ends w0 env κ F U σ a w σ' a' w') hr (fun b h1 _ => hU b h1) hro (fun κ' F' a' w' h1 h2 h3 => ⟨rfl, κ', F', by rw [hL]; exact h1, h2, by rw [h3]; exact Marks.nil⟩)
  rw [hlen] at this
  exact this
 | true =>
  refine wpIn_region_any hfit.mix ?_
  obtain ⟨i1, i2, i3⟩ := hdr rfl
  have hsl : ∀ (j : Nat) s, ss[j]? = some s → ∀ x ∈ s.seen.rh, U x.1 ∧ SlIs κ env x := fun j s hs x hx => by
   unfold rhOk at i3
   rw [List.all_eq_true] at i3
   have h1 := i3 s.seen (List.mem_map.2 ⟨s, List.mem_of_getElem? hs, rfl⟩)
   rw [List.all_eq_true] at h1
   have h2 := h1 x hx
   split at h2
   ·rename_i e t l hb
    have hb : σ.blk x.1 = some (.row e t l) := hb
    refine ⟨(hr.bnames _ _ hb).1, ?_⟩
    have := sl_of_row hr hb
    rw [E.eqb_spec _ _ h2] at this
    exact this
   ·cases h2
  have hdone : ∀ k, doneOf (Array.replicate ops.size false) k = false := fun k => by
   unfold doneOf
   by_cases hk : k < ops.size
   ·simp [Array.getD, hk]
   ·simp [Array.getD, hk]
  have hT : ∀ (ss : List Stp) (i : Nat) (f : Nat → SV), foldT (doneOf (Array.replicate ops.size false)) i ss f = f := by
   intro ss
   induction ss with
   | nil => intro i f; rfl
   | cons x ss ih => intro i f; simp only [foldT, hdone]; exact ih _ _
  have hB : ∀ (ss : List Stp) (i : Nat) (f : Nat → Option SB), foldB (doneOf (Array.replicate ops.size false)) i ss f = f := by
   intro ss
   induction ss with
   | nil => intro i f; rfl
   | cons x ss ih => intro i f; simp only [foldB, hdone]; exact ih _ _
  refine c.draw (κ₀ := κ) (F₀ := F) (U₀ := U) (wI := w) (dI := a.defers) (fun b h1 _ => hU b h1) hro hlen i1 i2 hsl (fun κ' F' a' w' h1 h2 h3 => ⟨rfl, κ', F', by rw [hL]; exact h1, h2, by rw [h3]; exact Marks.nil⟩) ops.size _ (κ := κ) (F := F) (by simp) (fun j o _ hd => by rw [hdone] at hd; cases hd) ?_ ?_ ?_ rfl
  ·exact Nat.le_trans (List.length_filter_le _ _) (by simp)
  ·rw [hT, hB]
   have : Rel w0 env κ F U σ.tmp σ.blk σ.L a { w with drawn := w.drawn + 1 } :=
    hr.world (κ' := κ) (F' := F) (fun _ h => h) (fun _ _ => rfl) (fun _ h => h) (fun _ _ => rfl) (fun b x hx => .inl ⟨hx, fun _ _ _ => rfl⟩) hr.inj hr.nF hr.F (hr.below.trans ⟨rfl, rfl, rfl, Nat.le_refl _, fun _ _ => rfl⟩)
   exact this.monoU (fun b hb => .inl hb)
  ·rw [hB]
   exact ⟨fun _ _ => rfl, fun _ h => h, fun _ h => .inl h, Nat.le_refl _, fun _ _ _ => rfl, fun b _ h1 h2 => .inr ⟨b, h1, h2⟩, .of fun _ _ => .inr rfl⟩
theorem region_path (hrun : RunOK P w0 run) (hfit : PFit P) {fid id : Nat} {ops : Array Oper} {draw : Bool} {σ : SS} {k : Ex → SS → T} (hn : env.length = σ.n) (hk : KnownOK env σ.n σ.known) (h : (symOps P cfg run fid id ops draw σ.hp ops.toList σ [] (fun σ' => σ'.pack (k .normal))).den P Post env K) : Path P Post w0 ro (.region id ops draw) env K σ k := by
 obtain ⟨rs, ss, σ', K', g2, g3, g4, g5, g5k, g6, g7, g8, g9⟩ := ops_sound (w0 := w0) (ro := ro) hrun hfit ops.toList 0 σ [] env K (fun j o hj => by rw [Nat.zero_add]; simpa using hj) hn hk h
 obtain ⟨τ, t1, t2, t3, t4, t5, t6, t7, t8⟩ := σ'.pack_spec (k .normal)
 rw [t1] at g5
 refine ⟨.normal, τ, rs, K', g5, g5k, by rw [t6, g9], by rw [t4, t5]; exact g6, by rw [t4]; exact g7, fun us => ?_⟩
 exact (leads_region hfit (by rw [g2]; simp) (g3 us) g8 (fun hd => by have := g4 hd; simpa using this)).same ⟨rfl, rfl, rfl, rfl⟩ ⟨t7, t8, t2, t3⟩
theorem leads_freeze {σ : SS} {bs : List Nat} {c : Code} {ex : Ex} {σ' : SS} (hw : WrOk σ.N (iceOf σ.blk bs) ∧ wrLen σ.N (iceOf σ.blk bs) = σ.N) (h : Leads P w0 ro c env (σ.write (iceOf σ.blk bs)) ex σ') : Leads P w0 ro c env σ ex σ' := by
 obtain ⟨y1, y2, y3, y4, _⟩ := write_spec σ _ hw.1
 rw [hw.2] at y2
 refine ⟨by rw [← y2]; exact h.le, fun κ F U a w hr hU hro => ?_⟩
 obtain ⟨F1, r1, k1⟩ := hr.freeze bs
 rw [← y1] at r1 k1
 rw [← y3, ← y4] at r1
 refine wpIn_mono (h.go κ F1 U a w r1 (by rw [y2]; exact hU) hro) ?_
 rintro e a' w' ⟨he, κ', F', r, k, m⟩
 exact ⟨he, κ', F', by rw [← y2]; exact r, k1.trans k (fun _ h => h), m⟩
theorem ice_low (σ : SS) (bs : List Nat) : WrOk σ.N (iceOf σ.blk bs) ∧ wrLen σ.N (iceOf σ.blk bs) = σ.N := by
 have h := wr_low (iceOf σ.blk bs) [] σ.N (fun x hx => by
  obtain ⟨b, _, h1⟩ := List.mem_filterMap.1 hx
  split at h1
  ·rename_i e t l hb
   cases h1
   exact blk_lt hb
  ·cases h1) trivial
 rw [List.append_nil] at h
 exact h
theorem regions_path (hrun : RunOK P w0 run) (hfit : PFit P) {fid id : Nat} {ops : Array Oper} {draw : Bool} {σ : SS} {k : Ex → SS → T} (hn : env.length = σ.n) (hk : KnownOK env σ.n σ.known) (h : (symRegion P cfg run fid id ops draw (k .normal) σ).den P Post env K) : Path P Post w0 ro (.region id ops draw) env K σ k := by
 unfold symRegion at h
 split at h
 ·exact region_path hrun hfit hn hk h
 ·rename_i b bs _
  rw [SS.go_eq] at h
  obtain ⟨y1, y2, y3, y4, y5, y6, y7⟩ := write_spec σ _ (ice_low σ (b :: bs)).1
  obtain ⟨ex, σ', rs, K', q1, q2, q3, q4, q5, q6⟩ := region_path (w0 := w0) (ro := ro) hrun hfit (by rw [y5]; exact hn) (by rw [y5, y6]; exact hk) h
  exact ⟨ex, σ', rs, K', q1, fun l hl => q2 l (by rw [y7]; exact hl), by rw [q3, y7], q4, q5, fun us => leads_freeze (ice_low σ (b :: bs)) (q6 us)⟩
end Go.Sx
namespace Go.Sx
open Go Go.RowKit Go.Dial
variable {env : List AV} {κ κ' : Nat → Value} {F F' : Nat → Prop} {w w' w0 : World} {U : Nat → Prop} {tmp : Nat → SV} {blk : Nat → Option SB} {L : Nat} {a : Act} {P : Program} {Post : R → Prop} {K : Nat → List AV → Prop}
theorem leafAs_cell {x : SV} {e : E} {s : Ty} {u : Value} (hx : leafAs x s = some e) (h : SVden env κ F w x u) : Den F w u (den env e) ∧ (den env e).ty = s ∧ plainCell u = true := by
 unfold leafAs at hx
 split at hx
 ·cases hx; rw [show u = _ from h]; exact ⟨den_nil _, rfl, rfl⟩
 ·split at hx
  ·rename_i e' u' hl
   split at hx
   ·rename_i hs; cases hx; subst hs; exact leaf_cell hl h
   ·cases hx
  ·cases hx
theorem letterOf_some {p : Loc → Bool} : ∀ (l : List Loc) (n m : Nat) {sv : SV}, letterOf p l n m = some sv → ∃ i x, l[i]? = some x ∧ p x = true ∧ sv = x.letter (n + i) (m + i)
 | [], n, m, sv, h => by cases h
 | x :: l, n, m, sv, h => by
  unfold letterOf at h
  split at h
  ·rename_i hp; cases h; exact ⟨0, x, rfl, hp, rfl⟩
  ·obtain ⟨i, y, h1, h2, h3⟩ := letterOf_some l (n + 1) (m + 1) h
   exact ⟨i + 1, y, h1, h2, by rw [h3]; congr 1 <;> omega⟩
theorem letterOf_none {p : Loc → Bool} : ∀ (l : List Loc) (n m : Nat), letterOf p l n m = none ↔ l.any p = false
 | [], n, m => by simp [letterOf]
 | x :: l, n, m => by
  unfold letterOf
  cases hp : p x with
  | true => simp [hp]
  | false => simp [hp, letterOf_none l]
theorem headCells_get (locs : List Loc) (σ : SS) (b : Nat) : ∀ (l : List SV) (off i : Nat), (headCells locs σ b off l)[i]? = (l[i]?).map fun x => (letterOf (·.isCell b (off + i)) locs σ.n σ.N).getD x
 | [], off, i => by simp [headCells]
 | x :: l, off, 0 => by simp [headCells]
 | x :: l, off, i + 1 => by
  have := headCells_get locs σ b l (off + 1) i
  simp only [headCells, List.getElem?_cons_succ, this]
  rw [show off + 1 + i = off + (i + 1) by omega]
theorem head_tmp (locs : List Loc) (taken : List (Option Nat)) (σ : SS) (t : Nat) : (headOf locs taken σ).tmp t = if t < σ.L then headTmp locs σ t else .any := by
 show (Ov.fn σ.L (headTmp locs σ)).get .any t = _
 by_cases h : t < σ.L
 ·rw [if_pos h, Ov.get_fn h]
 ·rw [if_neg h]; exact Ov.get_out (by show σ.L ≤ t; omega)
theorem head_blk (locs : List Loc) (taken : List (Option Nat)) (σ : SS) (b : Nat) : (headOf locs taken σ).blk b = if b < σ.N + locs.length then headBlk locs taken σ b else none := by
 show (Ov.fn (σ.N + locs.length) (headBlk locs taken σ)).get none b = _
 by_cases h : b < σ.N + locs.length
 ·rw [if_pos h, Ov.get_fn h]
 ·rw [if_neg h]; exact Ov.get_out (by show σ.N + locs.length ≤ b; omega)
theorem innerOf_some {b : Nat} : ∀ (l : List Loc) (n : Nat) {y : SB}, innerOf b l n = some y → ∃ i e r, l[i]? = some (.inrow b e r) ∧ y = .row e r (.v (n + i))
 | [], n, y, h => by cases h
 | x :: l, n, y, h => by
  cases x with
  | inrow c e r =>
   simp only [innerOf] at h
   split at h
   ·rename_i hc; subst hc; cases h; exact ⟨0, e, r, rfl, rfl⟩
   ·obtain ⟨i, e, r, h1, h2⟩ := innerOf_some l (n + 1) h
    exact ⟨i + 1, e, r, h1, by rw [h2]; congr 2; omega⟩
  | _ =>
   simp only [innerOf] at h
   obtain ⟨i, e, r, h1, h2⟩ := innerOf_some l (n + 1) h
   exact ⟨i + 1, e, r, h1, by rw [h2]; congr 2; omega⟩
theorem innerOf_none {b : Nat} : ∀ (l : List Loc) (n : Nat), innerOf b l n = none → l.any (·.isIn b) = false
 | [], n, _ => rfl
 | x :: l, n, h => by
  cases x with
  | inrow c e r =>
   simp only [innerOf] at h
   split at h
   ·cases h
   ·rename_i hc
    have := innerOf_none l (n + 1) h
    rw [List.any_cons, this, Bool.or_false]
    simpa [Loc.isIn] using hc
  | _ =>
   simp only [innerOf] at h
   have := innerOf_none l (n + 1) h
   rw [List.any_cons, this]; rfl
theorem tails_spec {σ : SS} : ∀ (locs : List Loc) (rows : List (Option Nat)) (es : E), tails σ locs = some (rows, es) →
  rows.length = locs.length ∧ (den env es).g.length = locs.length ∧ ∀ (i : Nat) x, locs[i]? = some x → ∃ b e, rows[i]? = some b ∧ (den env es).g[i]? = some (den env e) ∧ tailStep σ x = some (b, e)
 | [], rows, es, h => by
  simp only [tails] at h; cases h
  exact ⟨rfl, rfl, fun i x hx => by simp at hx⟩
 | x :: l, rows, es, h => by
  simp only [tails] at h
  split at h
  ·rename_i b e bs es' h1 h2
   cases h
   obtain ⟨i1, i2, i3⟩ := tails_spec l bs es' h2
   refine ⟨by simp [i1], by simp [den, i2], fun i y hy => ?_⟩
   cases i with
   | zero => simp at hy; subst hy; exact ⟨b, e, rfl, by simp [den], h1⟩
   | succ i =>
    simp at hy
    obtain ⟨b', e', q1, q2, q3⟩ := i3 i y hy
    exact ⟨b', e', by simpa using q1, by simpa [den] using q2, q3⟩
  ·cases h
theorem distinct_spec : ∀ (l : List (Option Nat)), distinct l = true → ∀ (i j b : Nat), l[i]? = some (some b) → l[j]? = some (some b) → i = j
 | [], _, i, j, b, h, _ => by simp at h
 | x :: l, hd, i, j, b, h1, h2 => by
  have tl : ∀ (i j : Nat), l[i]? = some (some b) → l[j]? = some (some b) → i = j := fun i j q1 q2 => by
   cases x with
   | none => exact distinct_spec l hd i j b q1 q2
   | some c =>
    simp only [distinct, Bool.and_eq_true] at hd
    exact distinct_spec l hd.2 i j b q1 q2
  cases i with
  | zero =>
   cases j with
   | zero => rfl
   | succ j =>
    simp at h1 h2
    subst h1
    simp only [distinct, Bool.and_eq_true, Bool.not_eq_true', List.contains_eq_mem, decide_eq_false_iff_not] at hd
    exact absurd (List.mem_of_getElem? h2) hd.1
  | succ i =>
   cases j with
   | zero =>
    simp at h1 h2
    subst h2
    simp only [distinct, Bool.and_eq_true, Bool.not_eq_true', List.contains_eq_mem, decide_eq_false_iff_not] at hd
    exact absurd (List.mem_of_getElem? h1) hd.1
   | succ j => simp at h1 h2; rw [tl i j h1 h2]
theorem cellsFit_spec {locs : List Loc} {n N b : Nat} : ∀ (l m : List SV) (off : Nat), cellsFit locs n N b off l m = true → l.length = m.length ∧ ∀ (i : Nat) x y, l[i]? = some x → m[i]? = some y → locs.any (·.isCell b (off + i)) = true ∨ (x = y ∧ x.sc n = true ∧ ∀ c ∈ x.names, c < N)
 | [], [], off, _ => ⟨rfl, fun i x y h => by simp at h⟩
 | [], _ :: _, off, h => by cases h
 | _ :: _, [], off, h => by cases h
 | x :: l, y :: m, off, h => by
  simp only [cellsFit, Bool.and_eq_true] at h
  obtain ⟨h1, h2⟩ := h
  obtain ⟨i1, i2⟩ := cellsFit_spec l m (off + 1) h2
  refine ⟨by simp [i1], fun i x' y' g1 g2 => ?_⟩
  cases i with
  | zero =>
   simp at g1 g2; subst g1; subst g2
   rw [Bool.or_eq_true] at h1
   rcases h1 with h1 | h1
   ·exact .inl h1
   ·simp only [Bool.and_eq_true, beq_iff_eq, List.all_eq_true, decide_eq_true_eq] at h1
    exact .inr ⟨h1.1.1, h1.1.2, h1.2⟩
  | succ i =>
   simp at g1 g2
   have := i2 i x' y' g1 g2
   rw [show off + 1 + i = off + (i + 1) by omega] at this
   exact this
theorem rowVal_spec (h : Rel w0 env κ F U tmp blk L a w) {σ : SS} (hb : σ.blk = blk) {x : SV} {ety : Nat} {r : Ty} {b : Option Nat} {e : E} (hr : rowVal σ x ety r = some (b, e)) {u : Value} (hu : SVden env κ F w x u) :
  plainCell u = true ∧ (den env e) = .sl r (den env e).l ∧ (∃ us, w.ownsRow w0.heap.size ety r.len u (den env e).l.length us ∧ 0 < r.len ∧ RowsDen F w us r (den env e).l) ∧ ((b = none ∧ u = .slice none 0 0) ∨ ∃ c y, b = some c ∧ (blk c = some y ∧ liveB (some y) = true) ∧ u = κ c) := by
 unfold rowVal at hr
 split at hr
 ·split at hr
  ·rename_i hp
   cases hr
   rw [show u = _ from hu]
   refine ⟨rfl, rfl, ⟨[], World.ownsRow_nil _ _ _ _, hp, ⟨fun i r hr => by simp [den] at hr, fun i r k x hr => by simp [den] at hr⟩⟩, .inl ⟨rfl, rfl⟩⟩
  ·cases hr
 ·rename_i c
  split at hr
  ·rename_i a' t l hc
   split at hr
   ·rename_i hh
    obtain ⟨rfl, rfl⟩ := hh
    cases hr
    rw [hb] at hc
    obtain ⟨us, h1, h2, h3⟩ := h.blks c _ hc
    refine ⟨hu.2, rfl, ⟨us, by rw [hu.1]; exact h1, h2, h3⟩, .inr ⟨c, _, rfl, ⟨hc, rfl⟩, hu.1⟩⟩
   ·cases hr
  ·cases hr
 ·cases hr
theorem leafOf_names {e : E} {s : Ty} : ∀ b ∈ ((leafOf e s).getD .any).names, False := by
 intro b hb
 cases s <;> simp [leafOf, SV.names] at hb
theorem fits_rel {locs : List Loc} {taken rows : List (Option Nat)} {σ₀ σ : SS} {es : E} {rs : List AV} (hn : env.length = σ₀.n) (h : Rel w0 (env ++ rs) κ F U σ.tmp σ.blk σ.L a w) (ht : tails σ locs = some (rows, es))
  (hf : fits locs σ₀.n σ₀.N (headOf locs taken σ₀) σ rows = true) {U₀ : Nat → Prop} (hU : ∀ b, U b → b < σ₀.N → U₀ b)
  {rsE : List AV} (hloop : ∀ b i st p i', σ₀.blk b = some (.loop i st p) → σ.blk b = some (.loop i' st p) → SBden (env ++ rsE) κ F w0.heap.size w b (.loop i st p) ∧ ∀ c ∈ (SB.loop i st p).names, U₀ c) :
  (den (env ++ rs) es).g.map AV.ty = locs.map Loc.sort ∧ ∃ κ', (∀ b, ¬ (σ₀.N ≤ b ∧ b < σ₀.N + locs.length) → κ' b = κ b) ∧
   (∀ us, Rel w0 (env ++ ((den (env ++ rs) es).g ++ us)) κ' F (fun b => U₀ b ∨ (σ₀.N ≤ b ∧ b < σ₀.N + locs.length)) (headOf locs taken σ₀).tmp (headOf locs taken σ₀).blk (headOf locs taken σ₀).L a w) ∧
   ∀ b k, liveB ((headOf locs taken σ₀).blk b) = true → blockOf (κ' b) = some k → ∃ c, liveB (σ.blk c) = true ∧ blockOf (κ c) = some k := by
 obtain ⟨vs, hvs⟩ : ∃ vs, vs = (den (env ++ rs) es).g := ⟨_, rfl⟩
 obtain ⟨t1, t2, t3⟩ := tails_spec (env := env ++ rs) locs rows es ht
 rw [← hvs] at t2 t3 ⊢
 obtain ⟨N, hN⟩ : ∃ N, N = σ₀.N := ⟨_, rfl⟩
 obtain ⟨n, hn'⟩ : ∃ n, n = σ₀.n := ⟨_, rfl⟩
 rw [← hn'] at hn
 rw [← hN] at hU
 unfold fits at hf
 simp only [Bool.and_eq_true, beq_iff_eq] at hf
 obtain ⟨⟨⟨f1, f2⟩, f3⟩, f4⟩ := hf
 rw [List.all_eq_true] at f3 f4
 rw [← hN] at f3 f4
 rw [← hn'] at f3 f4
 rw [← hN]
 obtain ⟨κ', hκ⟩ : ∃ κ' : Nat → Value, ∀ b, κ' b = if N ≤ b ∧ b < N + locs.length then (match rows[b - N]? with | some (some c) => κ c | _ => .slice none 0 0) else κ b := ⟨_, fun _ => rfl⟩
 have hκ0 : ∀ b, ¬ (N ≤ b ∧ b < N + locs.length) → κ' b = κ b := fun b hb => by rw [hκ, if_neg hb]
 have hκ1 : ∀ b, b < N → κ' b = κ b := fun b hb => hκ0 b (by omega)
 have hκ2 : ∀ i, i < locs.length → κ' (N + i) = (match rows[i]? with | some (some c) => κ c | _ => .slice none 0 0) := fun i hi => by rw [hκ, if_pos (by omega), show N + i - N = i by omega]
 have cellU : ∀ c o sv, cellAt σ c o = some sv → ∃ u, SVden (env ++ rs) κ F w sv u := fun c o sv hs => by
  unfold cellAt at hs
  split at hs
  ·rename_i ty xs hb
   obtain ⟨g, cs, _, _, _, q1, q2, _⟩ := h.blks c _ hb
   obtain ⟨_, q3⟩ := tup_view q2 q1
   obtain ⟨u, _, hu⟩ := q3 o sv hs
   exact ⟨u, hu⟩
  ·cases hs
 have nzd : ∀ {sv : SV} {u : Value}, SVden (env ++ rs) κ F w sv u → SVden (env ++ rs) κ F w (nz σ.blk sv) u := fun hd => nz_den (fun b e t l hb => h.blks b _ hb) hd
 have hsorts : vs.map AV.ty = locs.map Loc.sort := by
  refine List.ext_getElem? (fun i => ?_)
  rw [List.getElem?_map, List.getElem?_map]
  cases hx : locs[i]? with
  | none => rw [List.getElem?_eq_none (by rw [t2]; exact List.getElem?_eq_none_iff.1 hx)]; rfl
  | some x =>
   obtain ⟨b, e, h1, h2, h3⟩ := t3 i x hx
   rw [h2]
   simp only [Option.map_some, Option.some.injEq]
   cases x with
   | tmp t s =>
    simp only [tailStep] at h3
    split at h3
    ·rename_i e' hl; cases h3; exact (leafAs_cell hl (nzd (h.tmps t))).2.1
    ·cases h3
   | tmprow t ety r =>
    simp only [tailStep] at h3
    rw [(rowVal_spec h rfl h3 (h.tmps t)).2.1]; rfl
   | cell c o s =>
    simp only [tailStep] at h3
    split at h3
    ·rename_i e' hl; cases h3
     obtain ⟨sv, q1, q2⟩ := Option.bind_eq_some_iff.1 hl
     obtain ⟨u, hu⟩ := cellU c o sv q1
     exact (leafAs_cell q2 (nzd hu)).2.1
    ·cases h3
   | cellrow c o ety r =>
    simp only [tailStep] at h3
    obtain ⟨sv, q1, q2⟩ := Option.bind_eq_some_iff.1 h3
    obtain ⟨u, hu⟩ := cellU c o sv q1
    rw [(rowVal_spec h rfl q2 hu).2.1]; rfl
   | inrow c ety r =>
    simp only [tailStep] at h3
    split at h3
    ·split at h3
     ·cases h3; rfl
     ·cases h3
    ·cases h3
 have rowOfI : ∀ i, i < locs.length → (∃ x ety r, locs[i]? = some x ∧ x.block (n + i) = some (.row ety r (.v (n + i)))) → ∃ x ety r b e u, locs[i]? = some x ∧ x.block (n + i) = some (.row ety r (.v (n + i))) ∧ rows[i]? = some b ∧ vs[i]? = some (den (env ++ rs) e) ∧ u = κ' (N + i) ∧
   (den (env ++ rs) e) = .sl r (den (env ++ rs) e).l ∧ (∃ us, w.ownsRow w0.heap.size ety r.len u (den (env ++ rs) e).l.length us ∧ 0 < r.len ∧ RowsDen F w us r (den (env ++ rs) e).l) ∧ ((b = none ∧ u = .slice none 0 0) ∨ ∃ c y, b = some c ∧ (σ.blk c = some y ∧ liveB (some y) = true) ∧ u = κ c) := by
  rintro i hi ⟨x, ety, r, hx, hbk⟩
  obtain ⟨b, e, h1, h2, h3⟩ := t3 i x hx
  have key : ∀ sv u, SVden (env ++ rs) κ F w sv u → rowVal σ sv ety r = some (b, e) → ∃ x ety r b e u, locs[i]? = some x ∧ x.block (n + i) = some (.row ety r (.v (n + i))) ∧ rows[i]? = some b ∧ vs[i]? = some (den (env ++ rs) e) ∧ u = κ' (N + i) ∧
    (den (env ++ rs) e) = .sl r (den (env ++ rs) e).l ∧ (∃ us, w.ownsRow w0.heap.size ety r.len u (den (env ++ rs) e).l.length us ∧ 0 < r.len ∧ RowsDen F w us r (den (env ++ rs) e).l) ∧ ((b = none ∧ u = .slice none 0 0) ∨ ∃ c y, b = some c ∧ (σ.blk c = some y ∧ liveB (some y) = true) ∧ u = κ c) := by
   intro sv u hu hr
   obtain ⟨_, d2, d3, d4⟩ := rowVal_spec h rfl hr hu
   refine ⟨x, ety, r, b, e, u, hx, hbk, h1, h2, ?_, d2, d3, d4⟩
   rw [hκ2 i hi, h1]
   rcases d4 with ⟨rfl, d5⟩ | ⟨c, y, rfl, _, d5⟩
   ·exact d5
   ·exact d5
  cases x with
  | tmp t s => simp [Loc.block] at hbk
  | cell c o s => simp [Loc.block] at hbk
  | inrow c e r => simp [Loc.block] at hbk
  | tmprow t ety' r' =>
   simp only [Loc.block] at hbk; cases hbk
   simp only [tailStep] at h3
   exact key _ _ (h.tmps t) h3
  | cellrow c o ety' r' =>
   simp only [Loc.block] at hbk; cases hbk
   simp only [tailStep] at h3
   obtain ⟨sv, q1, q2⟩ := Option.bind_eq_some_iff.1 h3
   obtain ⟨u, hu⟩ := cellU c o sv q1
   exact key sv u hu q2
 have hblkN : ∀ i x, i < locs.length → (headOf locs taken σ₀).blk (N + i) = some x → ∃ ety r, x = .row ety r (.v (n + i)) ∧ ∃ y, locs[i]? = some y ∧ y.block (n + i) = some (.row ety r (.v (n + i))) := fun i x hi hx => by
  rw [head_blk, ← hN, if_pos (by omega)] at hx
  unfold headBlk at hx
  rw [← hN, if_neg (by omega), show N + i - N = i by omega, ← hn'] at hx
  obtain ⟨y, hy, hyb⟩ := Option.bind_eq_some_iff.1 hx
  cases y with
  | tmp t s => simp [Loc.block] at hyb
  | cell c o s => simp [Loc.block] at hyb
  | inrow c e r => simp [Loc.block] at hyb
  | tmprow t ety r => simp only [Loc.block] at hyb; cases hyb; exact ⟨ety, r, rfl, _, hy, rfl⟩
  | cellrow c o ety r => simp only [Loc.block] at hyb; cases hyb; exact ⟨ety, r, rfl, _, hy, rfl⟩
 have from0 : ∀ b x, (headOf locs taken σ₀).blk b = some x → (b < N ∧ rows.contains (some b) = false ∧ blkFits locs n N b x (σ.blk b) = true ∧ (innerOf b locs n = some x ∨ (innerOf b locs n = none ∧ ((∃ ty xs, σ₀.blk b = some (.cells ty xs) ∧ x = .cells ty (.of (headCells locs σ₀ b 0 xs.list))) ∨ (σ₀.blk b = some x ∧ ∀ ty xs, x ≠ .cells ty xs))))) ∨ ∃ i, b = N + i ∧ i < locs.length := fun b x hx => by
  by_cases hb : b < N
  ·left
   have h4 := f4 b (List.mem_range.2 hb)
   rw [hx] at h4
   simp only [Bool.and_eq_true, Bool.not_eq_true'] at h4
   refine ⟨hb, h4.1, h4.2, ?_⟩
   rw [head_blk, ← hN, if_pos (by omega)] at hx
   unfold headBlk at hx
   rw [← hN, if_pos hb, ← hn'] at hx
   split at hx
   ·cases hx
   ·split at hx
    ·rename_i y hy; cases hx; exact .inl hy
    ·rename_i hy
     refine .inr ⟨hy, ?_⟩
     split at hx
     ·rename_i ty xs hb0; cases hx; exact .inl ⟨ty, xs, hb0, rfl⟩
     ·cases hx
     ·rename_i hne _
      exact .inr ⟨hx, fun ty xs e => by subst e; exact hne ty xs hx⟩
  ·right
   rw [head_blk, ← hN] at hx
   split at hx
   ·exact ⟨b - N, by omega, by omega⟩
   ·cases hx
 have fitsLive : ∀ b x, blkFits locs n N b x (σ.blk b) = true → ∃ y, σ.blk b = some y ∧ liveB (some y) = liveB (some x) := fun b x hx => by
  cases hy : σ.blk b with
  | none => rw [hy] at hx; cases x <;> simp [blkFits] at hx
  | some y =>
   rw [hy] at hx
   refine ⟨y, rfl, ?_⟩
   cases x <;> cases y <;> first | rfl | (simp [blkFits] at hx)
 have whose : ∀ b k, liveB ((headOf locs taken σ₀).blk b) = true → blockOf (κ' b) = some k → ∃ c, liveB (σ.blk c) = true ∧ blockOf (κ c) = some k ∧ ((b < N ∧ c = b ∧ rows.contains (some b) = false) ∨ ∃ i, b = N + i ∧ rows[i]? = some (some c)) := fun b k hl hk => by
  obtain ⟨x, hx, hxl⟩ := live_some hl
  rcases from0 b x hx with ⟨h1, h2, h3, _⟩ | ⟨i, rfl, hi⟩
  ·obtain ⟨y, hy, hyl⟩ := fitsLive b x h3
   exact ⟨b, by rw [hy, hyl]; exact hxl, by rw [← hκ1 b h1]; exact hk, .inl ⟨h1, rfl, h2⟩⟩
  ·obtain ⟨ety, r, rfl, y, hy, hyb⟩ := hblkN i x hi hx
   obtain ⟨x', ety', r', b, e, u, g1, g2, g3, g4, g5, g6, g7, g8⟩ := rowOfI i hi ⟨y, ety, r, hy, hyb⟩
   rw [← g5] at hk
   rcases g8 with ⟨rfl, g9⟩ | ⟨c, z, rfl, g9, g10⟩
   ·rw [g9] at hk; cases hk
   ·rw [g10] at hk
    exact ⟨c, by rw [g9.1]; exact g9.2, hk, .inr ⟨i, rfl, g3⟩⟩
 refine ⟨hsorts, κ', hκ0, fun us => ?_, fun b k hb hk => by obtain ⟨c, h1, h2, _⟩ := whose b k hb hk; exact ⟨c, h1, h2⟩⟩
 obtain ⟨env2, henv2⟩ : ∃ env2, env2 = env ++ (vs ++ us) := ⟨_, rfl⟩
 rw [← henv2]
 have hag : Agree n (env ++ rs) env2 := by rw [henv2]; exact (agree_ext hn).symm.trans (agree_ext hn)
 have hagE : Agree n (env ++ rsE) env2 := by rw [henv2]; exact (agree_ext hn).symm.trans (agree_ext hn)
 have hvar : ∀ i x, locs[i]? = some x → ∀ v, vs[i]? = some v → den env2 (.v (n + i)) = v := fun i x _ v hv => by
  rw [henv2]
  simp only [den, List.getD]
  rw [List.getElem?_append_right (by omega), show n + i - env.length = i by omega, List.getElem?_append_left (List.getElem?_eq_some_iff.1 hv).1, hv]; rfl
 have letter : ∀ i x, locs[i]? = some x → ∀ (sv : SV) (u : Value), SVden (env ++ rs) κ F w sv u →
   ((∃ s e, x.sort = s ∧ leafAs sv s = some e ∧ vs[i]? = some (den (env ++ rs) e) ∧ x.letter (n + i) (N + i) = (leafOf (.v (n + i)) s).getD .any) ∨ ∃ ety r b e, x.sort = .sl r ∧ rowVal σ sv ety r = some (b, e) ∧ rows[i]? = some b ∧ vs[i]? = some (den (env ++ rs) e) ∧ x.letter (n + i) (N + i) = .row (N + i)) →
   SVden env2 κ' F w (x.letter (n + i) (N + i)) u := fun i x hx sv u hu hh => by
  rcases hh with ⟨s, e, _, h2, h3, h4⟩ | ⟨ety, r, b, e, _, h2, h3, h4, h5⟩
  ·rw [h4]
   obtain ⟨d1, d2, _⟩ := leafAs_cell h2 hu
   have hv := hvar i x hx _ h3
   cases hl : leafOf (.v (n + i)) s with
   | none => trivial
   | some y =>
    have := leaf_den (env := env2) (κ := κ') (F := F) (w := w) hl (by rw [hv]; exact d2) (by rw [hv]; exact d1)
    exact this
  ·rw [h5]
   obtain ⟨d1, _, _, d4⟩ := rowVal_spec h rfl h2 hu
   refine ⟨?_, d1⟩
   rw [hκ2 i (by have := (List.getElem?_eq_some_iff.1 hx).1; exact this), h3]
   rcases d4 with ⟨rfl, d5⟩ | ⟨c, y, rfl, _, d5⟩
   ·exact d5
   ·exact d5
 have same : ∀ (x : SV) (u : Value), x.sc n = true → (∀ c ∈ x.names, c < N) → SVden (env ++ rs) κ F w x u → SVden env2 κ' F w x u := fun x u hs hnames hd =>
  (hd.re hag hs).keep (fun b hb => hκ1 b (hnames b hb)) (fun _ h => h) (fun _ _ => rfl)
 have letter_names : ∀ (i : Nat) (x : Loc), locs[i]? = some x → ∀ c ∈ (x.letter (n + i) (N + i)).names, (∃ e r, x = Loc.inrow c e r) ∨ (N ≤ c ∧ c < N + locs.length) := fun i x hx c hc => by
  have hi := (List.getElem?_eq_some_iff.1 hx).1
  cases x with
  | tmp t s => exact (leafOf_names c hc).elim
  | cell b o s => exact (leafOf_names c hc).elim
  | tmprow t e r => right; simp [Loc.letter, SV.names] at hc; omega
  | cellrow b o e r => right; simp [Loc.letter, SV.names] at hc; omega
  | inrow b e r => left; simp [Loc.letter, SV.names] at hc; subst hc; exact ⟨e, r, rfl⟩
 constructor
 case tmps =>
  intro t
  rw [head_tmp]
  split
  ·rename_i htl
   have h3 := f3 t (List.mem_range.2 (show t < (headOf locs taken σ₀).L from htl))
   rw [Bool.or_eq_true, Bool.or_eq_true] at h3
   rw [head_tmp, if_pos htl] at h3
   unfold headTmp at h3 ⊢
   rw [← hN, ← hn'] at h3 ⊢
   cases hlt : letterOf (·.isTmp t) locs n N with
   | some sv =>
    obtain ⟨i, x, hx, hp, rfl⟩ := letterOf_some locs n N hlt
    simp only [Option.getD_some]
    obtain ⟨b, e, g1, g2, g3⟩ := t3 i x hx
    cases x with
    | tmp t' s =>
     have : t' = t := by simpa [Loc.isTmp] using hp
     subst this
     refine letter i _ hx (nz σ.blk (σ.tmp t')) _ (nzd (h.tmps t')) ?_
     simp only [tailStep] at g3
     split at g3
     ·rename_i e' hl; cases g3; exact .inl ⟨_, _, rfl, hl, g2, rfl⟩
     ·cases g3
    | tmprow t' ety r =>
     have : t' = t := by simpa [Loc.isTmp] using hp
     subst this
     exact letter i _ hx (σ.tmp t') _ (h.tmps t') (.inr ⟨ety, r, b, e, rfl, g3, g1, g2, rfl⟩)
    | cell _ _ _ => simp [Loc.isTmp] at hp
    | cellrow _ _ _ _ => simp [Loc.isTmp] at hp
    | inrow _ _ _ => simp [Loc.isTmp] at hp
   | none =>
    rw [hlt] at h3
    simp only [Option.getD_none] at h3 ⊢
    rcases h3 with (h3 | h3) | h3
    ·rw [(letterOf_none locs n N).1 hlt] at h3; cases h3
    ·have : σ₀.tmp t = .any := by simpa using h3
     rw [this]; trivial
    ·simp only [Bool.and_eq_true, beq_iff_eq, List.all_eq_true, decide_eq_true_eq] at h3
     exact same _ _ h3.1.2 h3.2 (by rw [h3.1.1]; exact h.tmps t)
  ·trivial
 case size => rw [f1]; exact h.size
 case blks =>
  intro b x hx
  rcases from0 b x hx with ⟨h1, h2, h3, h4⟩ | ⟨i, rfl, hi⟩
  ·rcases h4 with h4 | ⟨h4n, h4⟩
   ·
    obtain ⟨i, e, r, hx', rfl⟩ := innerOf_some locs n h4
    obtain ⟨b', e', g1, g2, g3⟩ := t3 i _ hx'
    simp only [tailStep] at g3
    split at g3
    ·rename_i a' t' l' hb'
     split at g3
     ·rename_i hh
      obtain ⟨rfl, rfl⟩ := hh
      cases g3
      obtain ⟨us', q1, q2, q3⟩ := h.blks b _ hb'
      have hv := hvar i _ hx' _ g2
      refine ⟨us', ?_, q2, ?_⟩
      ·rw [hv, hκ1 b h1]; exact q1
      ·rw [hv]; exact q3
     ·cases g3
    ·cases g3
   ·rcases h4 with ⟨ty, xs₀, hb₀, rfl⟩ | ⟨h4, hnc⟩
    ·
     cases hy : σ.blk b with
     | none => rw [hy] at h3; simp [blkFits] at h3
     | some y =>
      rw [hy] at h3
      cases y with
      | cells ty' ys =>
       simp only [blkFits, Bool.and_eq_true, beq_iff_eq] at h3
       obtain ⟨⟨rfl, hp⟩, hc⟩ := h3
       obtain ⟨g, cs, q1, q2, q3, q4, q5, q6⟩ := h.blks b _ hy
       obtain ⟨s1, s2⟩ := tup_view q5 q4
       obtain ⟨c1, c2⟩ := cellsFit_spec _ _ 0 hc
       refine ⟨g, cs, by rw [hκ1 b h1]; exact q1, q2, q3, ?_, hp, q6⟩
       rw [of_list] at c1 c2
       have := tup_mk (env := env2) (κ := κ') (F := F) (w := w) (l := headCells locs σ₀ b 0 xs₀.list) (cs := cs.toList) (by rw [c1, list_len]; simpa using s1) (fun o x u g1 g2 => by
        have hy' : ∃ y, ys.list[o]? = some y := ⟨_, List.getElem?_eq_getElem (by rw [← c1]; exact (List.getElem?_eq_some_iff.1 g1).1)⟩
        obtain ⟨y, hy'⟩ := hy'
        obtain ⟨u', hu', hd⟩ := s2 o y hy'
        rw [Array.getElem?_toList, hu'] at g2; cases g2
        have g3 := headCells_get locs σ₀ b xs₀.list 0 o
        rw [g1] at g3
        obtain ⟨x₀, _, g4⟩ := Option.map_eq_some_iff.1 g3.symm
        rw [Nat.zero_add, ← hN, ← hn'] at g4
        cases hlt : letterOf (·.isCell b o) locs n N with
        | some sv =>
         rw [hlt, Option.getD_some] at g4
         subst g4
         obtain ⟨i, z, hz, hp', rfl⟩ := letterOf_some locs n N hlt
         obtain ⟨b', e, k1, k2, k3⟩ := t3 i z hz
         have hcell : cellAt σ b o = some y := by unfold cellAt; rw [hy]; exact hy'
         cases z with
         | tmp _ _ => simp [Loc.isCell] at hp'
         | tmprow _ _ _ => simp [Loc.isCell] at hp'
         | inrow _ _ _ => simp [Loc.isCell] at hp'
         | cell c o' s =>
          have hco : c = b ∧ o' = o := by simpa [Loc.isCell] using hp'
          obtain ⟨rfl, rfl⟩ := hco
          refine letter i _ hz (nz σ.blk y) _ (nzd hd) ?_
          simp only [tailStep, hcell, Option.bind_some] at k3
          split at k3
          ·rename_i e' hl; cases k3; exact .inl ⟨_, _, rfl, hl, k2, rfl⟩
          ·cases k3
         | cellrow c o' ety r =>
          have hco : c = b ∧ o' = o := by simpa [Loc.isCell] using hp'
          obtain ⟨rfl, rfl⟩ := hco
          simp only [tailStep, hcell, Option.bind_some] at k3
          exact letter i _ hz y _ hd (.inr ⟨ety, r, b', e, rfl, k3, k1, k2, rfl⟩)
        | none =>
         rcases c2 o x y g1 hy' with h6 | ⟨h6, h7, h8⟩
         ·rw [Nat.zero_add, (letterOf_none locs n N).1 hlt] at h6; cases h6
         ·subst h6; exact same x _ h7 h8 hd)
       simpa using this
      | _ => simp [blkFits] at h3
    ·cases hy : σ.blk b with
     | none => rw [hy] at h3; cases x <;> simp [blkFits] at h3
     | some y =>
      rw [hy] at h3
      have hsb := h.blks b y hy
      have hin := innerOf_none locs n h4n
      cases x with
      | cells ty xs => exact absurd rfl (hnc ty xs)
      | dead l => cases y <;> simp [blkFits] at h3
      | row e t l =>
       cases y with
       | row e' t' l' =>
        simp only [blkFits, Bool.and_eq_true, beq_iff_eq, Bool.or_eq_true, hin, Bool.false_eq_true, false_or] at h3
        obtain ⟨⟨rfl, rfl⟩, rfl, hs⟩ := h3
        obtain ⟨us', q1, q2, q3⟩ := hsb
        refine ⟨us', ?_, q2, ?_⟩
        ·rw [hag l hs, hκ1 b h1]; exact q1
        ·rw [hag l hs]; exact q3
       | _ => simp [blkFits] at h3
      | ice e t l =>
       cases y with
       | ice e' t' l' =>
        simp only [blkFits, Bool.and_eq_true, beq_iff_eq] at h3
        obtain ⟨⟨⟨rfl, rfl⟩, rfl⟩, hs⟩ := h3
        obtain ⟨q1, q2⟩ := hsb
        exact ⟨by rw [hag l hs, hκ1 b h1]; exact q1, by rw [hag l hs, hκ1 b h1]; exact q2⟩
       | _ => simp [blkFits] at h3
      | map ks vs' =>
       cases y with
       | map ks' vs'' =>
        simp only [blkFits, Bool.and_eq_true, beq_iff_eq, List.all_eq_true, decide_eq_true_eq] at h3
        obtain ⟨⟨⟨⟨rfl, rfl⟩, hs1⟩, hs2⟩, hnm⟩ := h3
        obtain ⟨r, es', cl, q1, q2, q3, q4, q5, q6, q7⟩ := hsb
        exact ⟨r, es', cl, by rw [hκ1 b h1]; exact q1, q2, q3, q4, q5, q6, (q7.re hag hs1 hs2).keep (fun c hc => hκ1 c (hnm c hc)) (fun _ h => h) (fun _ _ => rfl)⟩
       | _ => simp [blkFits] at h3
      | loop i st p =>
       cases y with
       | loop i' st' p' =>
        simp only [blkFits, Bool.and_eq_true, beq_iff_eq, List.all_eq_true] at h3
        obtain ⟨⟨⟨rfl, rfl⟩, hs⟩, hnm⟩ := h3
        obtain ⟨q, _⟩ := hloop b i st p i' h4 hy
        refine SBden.keep (SBden.re (x := .loop i st p) hagE hs q) (fun c hc => hκ1 c ?_) (hκ1 b h1) (fun _ h => h) (fun _ _ => rfl) (fun _ _ _ => rfl)
        obtain ⟨t, _, hc⟩ := List.mem_flatMap.1 hc
        exact blt_lt (hnm c (Ov.mem_flat (d := SV.any) rfl hc))
       | _ => simp [blkFits] at h3
  ·obtain ⟨ety, r, rfl, y, hy, hyb⟩ := hblkN i x hi hx
   obtain ⟨x', ety', r', b, e, u, g1, g2, g3, g4, g5, g6, ⟨us', g7, g8, g9⟩, _⟩ := rowOfI i hi ⟨y, ety, r, hy, hyb⟩
   rw [hy] at g1; cases g1
   rw [hyb] at g2; cases g2
   have hv := hvar i y hy _ g4
   refine ⟨us', ?_, g8, ?_⟩
   ·rw [hv, ← g5]; exact g7
   ·rw [hv]; exact g9
 case inj =>
  intro b c k hb hc g1 g2
  obtain ⟨b', p1, p2, p3⟩ := whose b k hb g1
  obtain ⟨c', q1, q2, q3⟩ := whose c k hc g2
  have hbc := h.inj b' c' k p1 q1 p2 q2
  subst hbc
  rcases p3 with ⟨_, p4, p5⟩ | ⟨i, p4, p5⟩ <;> rcases q3 with ⟨_, q4, q5⟩ | ⟨j, q4, q5⟩
  ·rw [← p4, ← q4]
  ·exfalso
   rw [← p4] at p5
   have : rows.contains (some b') = true := by simpa using List.mem_of_getElem? q5
   rw [p5] at this; cases this
  ·exfalso
   rw [← q4] at q5
   have : rows.contains (some b') = true := by simpa using List.mem_of_getElem? p5
   rw [q5] at this; cases this
  ·rw [p4, q4, distinct_spec rows f2 i j b' p5 q5]
 case nF =>
  intro b k hb g1
  obtain ⟨b', p1, p2, _⟩ := whose b k hb g1
  exact h.nF b' k p1 p2
 case F => exact h.F
 case tnames =>
  intro t b hb
  rw [head_tmp] at hb
  split at hb
  ·rename_i htl
   have h3 := f3 t (List.mem_range.2 (show t < (headOf locs taken σ₀).L from htl))
   rw [Bool.or_eq_true, Bool.or_eq_true] at h3
   rw [head_tmp, if_pos htl] at h3
   unfold headTmp at h3 hb
   rw [← hN, ← hn'] at h3 hb
   cases hlt : letterOf (·.isTmp t) locs n N with
   | some sv =>
    rw [hlt] at hb
    obtain ⟨i, x, hx, hp, rfl⟩ := letterOf_some locs n N hlt
    rcases letter_names i x hx b hb with ⟨e, r, rfl⟩ | h4
    ·simp [Loc.isTmp] at hp
    ·exact .inr h4
   | none =>
    rw [hlt] at h3 hb
    simp only [Option.getD_none] at h3 hb
    rcases h3 with (h3 | h3) | h3
    ·rw [(letterOf_none locs n N).1 hlt] at h3; cases h3
    ·have : σ₀.tmp t = .any := by simpa using h3
     rw [this] at hb; cases hb
    ·simp only [Bool.and_eq_true, beq_iff_eq, List.all_eq_true, decide_eq_true_eq] at h3
     left
     refine hU b ?_ (h3.2 b hb)
     rw [h3.1.1] at hb
     exact h.tnames t b hb
  ·cases hb
 case bnames =>
  intro b x hx
  rcases from0 b x hx with ⟨h1, h2, h3, h4⟩ | ⟨i, rfl, hi⟩
  ·obtain ⟨y, hy, _⟩ := fitsLive b x h3
   obtain ⟨hUb, hUn⟩ := h.bnames b y hy
   refine ⟨.inl (hU b hUb h1), fun c hc => ?_⟩
   rcases h4 with h4 | ⟨h4n, h4⟩
   ·obtain ⟨i, e, r, _, rfl⟩ := innerOf_some locs n h4
    cases hc
   ·rcases h4 with ⟨ty, xs₀, hb₀, rfl⟩ | ⟨h4, hnc⟩
    ·rw [hy] at h3
     cases y with
     | cells ty' ys =>
      simp only [blkFits, Bool.and_eq_true, beq_iff_eq] at h3
      obtain ⟨⟨rfl, hp⟩, hcf⟩ := h3
      obtain ⟨c1, c2⟩ := cellsFit_spec _ _ 0 hcf
      rw [of_list] at c1 c2
      obtain ⟨z, hz, hcz⟩ := (of_names _ c).1 hc
      obtain ⟨o, ho⟩ := List.getElem?_of_mem hz
      have g3 := headCells_get locs σ₀ b xs₀.list 0 o
      rw [ho] at g3
      obtain ⟨x₀, _, g4⟩ := Option.map_eq_some_iff.1 g3.symm
      rw [Nat.zero_add, ← hN, ← hn'] at g4
      cases hlt : letterOf (·.isCell b o) locs n N with
      | some sv =>
       rw [hlt, Option.getD_some] at g4
       subst g4
       obtain ⟨i, z', hz', hp', rfl⟩ := letterOf_some locs n N hlt
       rcases letter_names i z' hz' c hcz with ⟨e, r, rfl⟩ | h5
       ·simp [Loc.isCell] at hp'
       ·exact .inr h5
      | none =>
       have hy' : ∃ y, ys.list[o]? = some y := ⟨_, List.getElem?_eq_getElem (by rw [← c1]; exact (List.getElem?_eq_some_iff.1 ho).1)⟩
       obtain ⟨y, hy'⟩ := hy'
       rcases c2 o z y ho hy' with h6 | ⟨h6, h7, h8⟩
       ·rw [Nat.zero_add, (letterOf_none locs n N).1 hlt] at h6; cases h6
       ·subst h6
        exact .inl (hU c (hUn c (list_names ys z (List.mem_of_getElem? hy') c hcz)) (h8 c hcz))
     | _ => simp [blkFits] at h3
    ·rw [hy] at h3
     cases x with
     | cells ty xs => exact absurd rfl (hnc ty xs)
     | dead l => cases hc
     | row e t l => cases hc
     | ice e t l => cases hc
     | map ks vs' =>
      cases y with
      | map ks' vs'' =>
       simp only [blkFits, Bool.and_eq_true, beq_iff_eq, List.all_eq_true, decide_eq_true_eq] at h3
       obtain ⟨⟨⟨⟨rfl, rfl⟩, hs1⟩, hs2⟩, hnm⟩ := h3
       exact .inl (hU c (hUn c hc) (hnm c hc))
      | _ => simp [blkFits] at h3
     | loop i st p =>
      cases y with
      | loop i' st' p' =>
       simp only [blkFits, Bool.and_eq_true, beq_iff_eq, List.all_eq_true] at h3
       obtain ⟨⟨⟨rfl, rfl⟩, hs⟩, hnm⟩ := h3
       exact .inl ((hloop b i st p i' h4 hy).2 c hc)
      | _ => simp [blkFits] at h3
  ·obtain ⟨ety, r, rfl, y, hy, hyb⟩ := hblkN i x hi hx
   exact ⟨.inr ⟨by omega, by omega⟩, fun c hc => by cases hc⟩
 case below => exact h.below
end Go.Sx
namespace Go.Sx
open Go Go.RowKit Go.Dial
variable {env : List AV} {κ κ' : Nat → Value} {F F' : Nat → Prop} {w w' w0 : World} {U : Nat → Prop} {tmp : Nat → SV} {blk : Nat → Option SB} {L : Nat} {a : Act} {P : Program} {Post : R → Prop} {K : Nat → List AV → Prop} {cfg : Cfg} {run : Run} {ro : Option Nat}
theorem Ends.refl {σ : SS} (h : Rel w0 env κ F U σ.tmp σ.blk σ.L a w) : Ends w0 env κ F U σ a w σ a w := ⟨κ, F, h.monoU (fun b hb => .inl hb), Kept.refl, Marks.nil⟩
theorem leads_skip {σ : SS} : Leads P w0 ro .skip env σ .normal σ := ⟨Nat.le_refl _, fun _ _ _ _ _ h _ _ => wpIn_skip ⟨rfl, Ends.refl h⟩⟩
theorem leads_exit {σ : SS} {id : Nat} : Leads P w0 ro (.exit id) env σ (.exit id) σ := ⟨Nat.le_refl _, fun _ _ _ _ _ h _ _ => wpIn_exit ⟨rfl, Ends.refl h⟩⟩
theorem leads_ret {σ : SS} : Leads P w0 ro .ret env σ .ret σ := ⟨Nat.le_refl _, fun _ _ _ _ _ h _ _ => wpIn_ret ⟨rfl, Ends.refl h⟩⟩
theorem leads_seq {x y : Code} {σ σ₁ σ₂ : SS} {ex : Ex} (h1 : Leads P w0 ro x env σ .normal σ₁) (h2 : Leads P w0 ro y env σ₁ ex σ₂) : Leads P w0 ro (.seq x y) env σ ex σ₂ := by
 have l1 := h1.le
 have l2 := h2.le
 refine ⟨by omega, fun κ F U a w h hU hro => wpIn_seq (wpIn_mono (h1.go κ F U a w h hU hro) ?_)⟩
 rintro e a' w' ⟨rfl, hE⟩
 show y.wpIn (FR (roAt κ ro)) 0 P _ a' w'
 exact wpIn_then l1 hE hU hro h2 (fun a'' w'' hE => ⟨rfl, hE⟩)
theorem leads_seq_out {x y : Code} {σ σ₁ : SS} {ex : Ex} (hex : ex ≠ .normal) (h1 : Leads P w0 ro x env σ ex σ₁) : Leads P w0 ro (.seq x y) env σ ex σ₁ := by
 refine ⟨h1.le, fun κ F U a w h hU hro => wpIn_seq (wpIn_mono (h1.go κ F U a w h hU hro) ?_)⟩
 rintro e a' w' ⟨rfl, hE⟩
 cases ex with
 | normal => exact absurd rfl hex
 | exit id => exact ⟨rfl, hE⟩
 | ret => exact ⟨rfl, hE⟩
theorem leads_cond {c : Operand} {x y : Code} {σ σ' : SS} {ex : Ex} {e : E} {b : Bool} (he : σ.ev c = .vb e) (hb : (den env e).b = b) (h1 : Leads P w0 ro (if b then x else y) env σ ex σ') : Leads P w0 ro (.cond c x y) env σ ex σ' := by
 refine ⟨h1.le, fun κ F U a w h hU hro => ?_⟩
 have hv := h.ev c
 rw [← ev_eq, he] at hv
 exact wpIn_cond (hv.1.trans (by rw [hb])) (h1.go κ F U a w h hU hro)
theorem leads_block {id : Nat} {c : Code} {σ σ' : SS} {ex ex' : Ex} (hex : ex' = match ex with | .exit i => if i = id then .normal else .exit i | e => e) (h1 : Leads P w0 ro c env σ ex σ') : Leads P w0 ro (.block id c) env σ ex' σ' := by
 refine ⟨h1.le, fun κ F U a w h hU hro => wpIn_block (wpIn_mono (h1.go κ F U a w h hU hro) ?_)⟩
 rintro e a' w' ⟨rfl, hE⟩
 subst hex
 cases ex with
 | normal => exact ⟨rfl, hE⟩
 | ret => exact ⟨rfl, hE⟩
 | exit i =>
  show Exit.inBlock id _ (.exit i) a' w'
  unfold Exit.inBlock
  simp only
  split
  ·exact ⟨rfl, hE⟩
  ·exact ⟨rfl, hE⟩
structure LeadsR (P : Program) (w0 : World) (ro : Option Nat) (c : Code) (m : Nat) (env : List AV) (σ : SS) (ex : Ex) (σ' : SS) : Prop where
 le : σ.N ≤ σ'.N
 go : ∀ (κ : Nat → Value) (F U : Nat → Prop) (a : Act) (w : World), Rel w0 env κ F U σ.tmp σ.blk σ.L a w → (∀ b, σ.N ≤ b → ¬ U b) → (∀ b, ro = some b → U b) →
  Code.roundsIn (FR (roAt κ ro)) 0 P c (fun e a' w' => e = ex.exit' ∧ Ends w0 env κ F U σ a w σ' a' w') m a w
theorem LeadsR.loop {c : Code} {m : Nat} {σ σ' : SS} {ex : Ex} (h : LeadsR P w0 ro c m env σ ex σ') : Leads P w0 ro (.loop c) env σ ex σ' :=
 ⟨h.le, fun κ F U a w hr hU hro => wpIn_loop_rounds m (h.go κ F U a w hr hU hro)⟩
theorem roundsIn_mono {Fc : Fence} {c : Code} {Q Q' : Exit → Act → World → Prop} (hq : ∀ e a w, Q e a w → Q' e a w) : ∀ (m : Nat) (a : Act) (w : World), Code.roundsIn Fc 0 P c Q m a w → Code.roundsIn Fc 0 P c Q' m a w
 | 0, _, _, h => h
 | m + 1, a, w, h => by
  rw [roundsIn_succ] at h ⊢
  refine wpIn_mono h (fun e a' w' he => ?_)
  cases e with
  | normal => exact roundsIn_mono hq m a' w' he
  | _ => exact hq _ _ _ he
theorem rounds_more {c : Code} {m : Nat} {σ σ₁ σ₂ : SS} {ex : Ex} (h1 : Leads P w0 ro c env σ .normal σ₁) (h2 : LeadsR P w0 ro c m env σ₁ ex σ₂) : LeadsR P w0 ro c (m + 1) env σ ex σ₂ := by
 have l1 := h1.le
 have l2 := h2.le
 refine ⟨by omega, fun κ F U a w h hU hro => ?_⟩
 rw [roundsIn_succ]
 refine wpIn_mono (h1.go κ F U a w h hU hro) ?_
 rintro e a' w' ⟨rfl, κ1, F1, r1, k1, m1⟩
 show Code.roundsIn _ 0 P c _ m a' w'
 rw [← roAt_congr (κ := κ) (κ' := κ1) (ro := ro) (fun b hb => k1.kap b (hro b hb))]
 refine roundsIn_mono ?_ m a' w' (h2.go κ1 F1 _ a' w' r1 (fun b h2 hb => ?_) (fun b hb => .inl (hro b hb)))
 ·rintro e a'' w'' ⟨rfl, h4⟩
  exact ⟨rfl, Ends.trans l1 l2 r1 k1 m1 h4⟩
 ·rcases hb with hb | hb
  ·exact hU b (by omega) hb
  ·omega
theorem rounds_one {c : Code} {σ σ' : SS} {ex : Ex} (hex : ex ≠ .normal) (h1 : Leads P w0 ro c env σ ex σ') : LeadsR P w0 ro c 1 env σ ex σ' := by
 refine ⟨h1.le, fun κ F U a w h hU hro => ?_⟩
 rw [roundsIn_succ]
 refine wpIn_mono (h1.go κ F U a w h hU hro) ?_
 rintro e a' w' ⟨rfl, hE⟩
 cases ex with
 | normal => exact absurd rfl hex
 | exit id => exact ⟨rfl, hE⟩
 | ret => exact ⟨rfl, hE⟩
theorem Rel.forget (h : Rel w0 env κ F U tmp blk L a w) {tmp' : Nat → SV} (ht : ∀ t, tmp' t = .any ∨ tmp' t = tmp t) : Rel w0 env κ F U tmp' blk L a w :=
 { h with
  tmps := fun t => by rcases ht t with e | e; rw [e]; trivial; rw [e]; exact h.tmps t
  tnames := fun t b hb => by rcases ht t with e | e; rw [e] at hb; cases hb; rw [e] at hb; exact h.tnames t b hb }
theorem forget_spec (ds : List Nat) (locs : List Loc) : ∀ σ : SS, (∀ t, (forget ds locs σ).tmp t = .any ∨ (forget ds locs σ).tmp t = σ.tmp t) ∧ (forget ds locs σ).L = σ.L ∧ (forget ds locs σ).N = σ.N ∧ (forget ds locs σ).blk = σ.blk ∧ (forget ds locs σ).n = σ.n ∧ (forget ds locs σ).known = σ.known ∧ (forget ds locs σ).dep = σ.dep := by
 unfold forget
 induction ds with
 | nil => intro σ; exact ⟨fun t => .inr rfl, rfl, rfl, rfl, rfl, rfl, rfl⟩
 | cons d ds ih =>
  intro σ
  simp only [List.foldl_cons]
  split
  ·exact ih σ
  ·obtain ⟨h1, h2, h3, h4, h5, h6, h7⟩ := ih (σ.put (some d) .any)
   refine ⟨fun t => ?_, h2, h3, h4, h5, h6, h7⟩
   rcases h1 t with e | e
   ·exact .inl e
   ·rw [e]
    by_cases hd : d < σ.L
    ·obtain ⟨g1, _⟩ := put_spec σ (dst := some d) (v := .any) (fun x hx => by cases hx; exact hd)
     rw [g1]
     simp only [updO, upd]
     split
     ·exact .inl rfl
     ·exact .inr rfl
    ·by_cases ht : t < σ.L
     ·right
      have : Nat.beq d t = false := by rw [← Bool.not_eq_true, Nat.beq_eq]; omega
      show (Ov.put σ.rf d .any).get .any t = σ.rf.get .any t
      unfold Ov.get Ov.put
      simp only [this]
     ·left; exact Ov.get_out (by show σ.L ≤ t; omega)
theorem loop_later {rsE : List AV} {σ₀ σ : SS} {κE : Nat → Value} {FE U₀ : Nat → Prop} {aE : Act} {wE : World} {env' : List AV} (hE : Rel w0 (env ++ rsE) κE FE U₀ σ₀.tmp σ₀.blk σ₀.L aE wE) (k : Kept U₀ σ₀.blk κE FE wE σ.blk κ F w) (h : Rel w0 env' κ F U σ.tmp σ.blk σ.L a w) :
  ∀ b i st p i', σ₀.blk b = some (.loop i st p) → σ.blk b = some (.loop i' st p) → SBden (env ++ rsE) κ F w0.heap.size w b (.loop i st p) ∧ ∀ c ∈ (SB.loop i st p).names, U₀ c := by
 intro b i st p i' h0 h1
 obtain ⟨hUb, hnm⟩ := hE.bnames b _ h0
 refine ⟨?_, hnm⟩
 obtain ⟨l, r, q1, q2, q3, q4, q5, q6, q7, q8, q9, q10⟩ := hE.blks b _ h0
 obtain ⟨l', r', p1, p2, p3, p4, p5, _⟩ := h.blks b _ h1
 have hk := k.kap b hUb
 rw [p1, q1] at hk
 have : l' = l := by injection hk with h1; injection h1 with h1; injection h1
 subst this
 obtain ⟨r2, s1, s2, s3, s4, s5⟩ := k.recs l' r q2
 rw [p2] at s1
 have : r' = r2 := by injection s1 with s1; injection s1
 subst this
 exact ⟨l', r', p1, p2, p3, p4, p5, s2.trans q6, s3.trans q7, s4.trans q8, by rw [s5]; exact q9, fun t => by rw [s5]; exact k.sv hE (q10 t) (record_names hE h0 t)⟩
theorem rehead {U₀ : Nat → Prop} {blk0 blk1 blkh : Nat → Option SB} {κE κ1 : Nat → Value} {FE F1 : Nat → Prop} {wE w1 : World} {N M : Nat} (k : Kept U₀ blk0 κE FE wE blk1 κ1 F1 w1) (hκ : ∀ b, ¬ (N ≤ b ∧ b < M) → κ' b = κ1 b) (hU : ∀ b, N ≤ b → b < M → ¬ U₀ b)
  (hw : ∀ b j, liveB (blkh b) = true → blockOf (κ' b) = some j → ∃ c, liveB (blk1 c) = true ∧ blockOf (κ1 c) = some j) : Kept U₀ blk0 κE FE wE blkh κ' F1 w1 :=
 { k with
  kap := fun b hb => (hκ b (fun hh => hU b hh.1 hh.2 hb)).trans (k.kap b hb)
  prov := fun b j h1 h2 => by obtain ⟨c, h3, h4⟩ := hw b j h1 h2; exact k.prov c j h3 h4 }
theorem tails_co {σ : SS} : ∀ {locs : List Loc} {rows : List (Option Nat)} {es : E} {xs : List AV}, tails σ locs = some (rows, es) → xs.length = locs.length → (coAll (locs.map Loc.sort) xs).map AV.ty = locs.map Loc.sort
 | [], _, _, xs, _, _ => rfl
 | x :: l, rows, es, [], _, hl => by simp at hl
 | x :: l, rows, es, y :: xs, h, hl => by
  simp only [tails] at h
  split at h
  ·rename_i b e bs es' h1 h2
   show (co x.sort y).ty :: (coAll (l.map Loc.sort) xs).map AV.ty = x.sort :: l.map Loc.sort
   rw [tails_co h2 (by simpa using hl)]
   congr 1
   have leafs : ∀ {sv : SV} {e : E} {u : Ty}, leafAs sv u = some e → (co u y).ty = u := fun {sv} {e} {u} hh => by
    unfold leafAs at hh
    split at hh
    ·rfl
    ·split at hh
     ·rename_i e' u' hl
      split at hh
      ·rename_i hu; subst hu
       cases sv <;> simp only [SV.leaf] at hl <;> cases hl <;> rfl
      ·cases hh
     ·cases hh
   cases x with
   | tmp t s =>
    simp only [tailStep] at h1
    split at h1
    ·rename_i e' hlf; exact leafs hlf
    ·cases h1
   | cell c o s =>
    simp only [tailStep] at h1
    split at h1
    ·rename_i e' hlf
     obtain ⟨sv, _, q2⟩ := Option.bind_eq_some_iff.1 hlf
     exact leafs q2
    ·cases h1
   | tmprow _ _ _ => rfl
   | cellrow _ _ _ _ => rfl
   | inrow _ _ _ => rfl
  ·cases h
theorem fLoc_eq' {α : Type} (l : List Loc) (k : List Loc → α) : fL fLoc l k = k l := fL_eq fLoc_eq l k
theorem loop_path {fid id N₀ : Nat} {c : Code} {locs : List Loc} {ds : List Nat} {body : (Ex → SS → T) → SS → T} (ih : ∀ (Post : R → Prop) (K : Nat → List AV → Prop) (k : Ex → SS → T) (σ : SS) (env : List AV), env.length = σ.n → KnownOK env σ.n σ.known → (body k σ).den P Post env K → Path P Post w0 ro c env K σ k)
  {k : Ex → SS → T} {σ : SS} (hn : env.length = σ.n) (hk : KnownOK env σ.n σ.known) (h : (loopInv fid id N₀ locs ds body k σ).den P Post env K) : Path P Post w0 ro (.loop c) env K σ k := by
 unfold loopInv at h
 simp only [fLoc_eq', SS.go_eq, fE_eq, SS.all_eq] at h
 obtain ⟨g1, g2, g3, g4, g5, g6, g7⟩ := forget_spec ds locs σ
 obtain ⟨σ₀, hσ₀⟩ : ∃ σ₀, σ₀ = forget ds locs σ := ⟨_, rfl⟩
 rw [← hσ₀] at h g1 g2 g3 g4 g5 g6 g7
 split at h
 ·exact h.elim
 rename_i taken es htails
 split at h
 rotate_left
 ·exact h.elim
 rename_i hc
 rw [Bool.and_eq_true] at hc
 obtain ⟨c1, c2⟩ := hc
 obtain ⟨I, μ, h0, hround⟩ := h
 have hn0 : env.length = σ₀.n := by rw [g5]; exact hn
 obtain ⟨hd, hhd⟩ : ∃ hd, hd = headOf locs taken σ₀ := ⟨_, rfl⟩
 rw [← hhd] at c2 hround
 have hhN : hd.N = σ₀.N + locs.length := by rw [hhd]; rfl
 have hhn : hd.n = σ₀.n + locs.length := by rw [hhd]; rfl
 have hhk : hd.known = σ₀.known := by rw [hhd]; rfl
 have key : ∀ (v : Nat) (vs : List AV), μ vs = v → vs.map AV.ty = locs.map Loc.sort → I vs → ∃ (m : Nat) (ex : Ex) (σ' : SS) (rsT : List AV) (K' : Nat → List AV → Prop), (k ex σ').den P Post (env ++ rsT) K' ∧ (∀ l, l < σ.dep → K' l = K l) ∧ σ'.dep = σ.dep ∧ KnownOK (env ++ rsT) σ'.n σ'.known ∧ (env ++ rsT).length = σ'.n ∧ hd.N ≤ σ'.N ∧
   ∀ (us rsE : List AV) (κE : Nat → Value) (FE U₀ : Nat → Prop) (aE : Act) (wE : World), Rel w0 (env ++ rsE) κE FE U₀ σ₀.tmp σ₀.blk σ₀.L aE wE → (∀ b, σ₀.N ≤ b → ¬ U₀ b) → (∀ b, ro = some b → U₀ b) →
    ∀ (κ : Nat → Value) (F : Nat → Prop) (a : Act) (w : World), (∀ x, Rel w0 (env ++ (vs ++ x)) κ F (fun b => U₀ b ∨ (σ₀.N ≤ b ∧ b < hd.N)) hd.tmp hd.blk hd.L a w) → Kept U₀ σ₀.blk κE FE wE hd.blk κ F w → Marks wE aE.defers F w a.defers →
     Code.roundsIn (FR (roAt κE ro)) 0 P c (fun e a' w' => e = ex.exit' ∧ Ends w0 (env ++ rsT ++ us) κE FE U₀ σ₀ aE wE σ' a' w') m a w := by
  intro v
  induction v using Nat.strongRecOn with
  | _ v ihv =>
   intro vs hv hty hI
   have hvl : vs.length = locs.length := by have := congrArg List.length hty; simpa using this
   obtain ⟨ex₁, σ₁, rs₁, K₁, q1, q2, q3, q4, q5, q6⟩ := ih Post _ _ { hd with dep := σ.dep + 1 } (env ++ vs) (by rw [List.length_append, hn0, hvl]; exact hhn.symm) (by show KnownOK (env ++ vs) hd.n hd.known; rw [hhn, hhk, g6]; exact (by rw [← g5] at hk; exact hk.ext hn0 (Nat.le_add_right _ _))) (hround vs hty hI)
   have hle1 : hd.N ≤ σ₁.N := (q6 []).le
   have fin : ∀ (m₂ : Nat) (ex₂ : Ex) (σ₂ : SS) (rs₂ : List AV) (K₂ : Nat → List AV → Prop), (k ex₂ { σ₂ with dep := σ.dep }).den P Post (env ++ vs ++ rs₂) K₂ → (∀ l, l < σ.dep → K₂ l = K l) → KnownOK (env ++ vs ++ rs₂) σ₂.n σ₂.known → (env ++ vs ++ rs₂).length = σ₂.n → (∀ us, LeadsR P w0 ro c m₂ (env ++ vs ++ rs₂ ++ us) { hd with dep := σ.dep + 1 } ex₂ σ₂) → ∃ (m : Nat) (ex : Ex) (σ' : SS) (rsT : List AV) (K' : Nat → List AV → Prop), (k ex σ').den P Post (env ++ rsT) K' ∧ (∀ l, l < σ.dep → K' l = K l) ∧ σ'.dep = σ.dep ∧ KnownOK (env ++ rsT) σ'.n σ'.known ∧ (env ++ rsT).length = σ'.n ∧ hd.N ≤ σ'.N ∧
     ∀ (us rsE : List AV) (κE : Nat → Value) (FE U₀ : Nat → Prop) (aE : Act) (wE : World), Rel w0 (env ++ rsE) κE FE U₀ σ₀.tmp σ₀.blk σ₀.L aE wE → (∀ b, σ₀.N ≤ b → ¬ U₀ b) → (∀ b, ro = some b → U₀ b) →
      ∀ (κ : Nat → Value) (F : Nat → Prop) (a : Act) (w : World), (∀ x, Rel w0 (env ++ (vs ++ x)) κ F (fun b => U₀ b ∨ (σ₀.N ≤ b ∧ b < hd.N)) hd.tmp hd.blk hd.L a w) → Kept U₀ σ₀.blk κE FE wE hd.blk κ F w → Marks wE aE.defers F w a.defers →
       Code.roundsIn (FR (roAt κE ro)) 0 P c (fun e a' w' => e = ex.exit' ∧ Ends w0 (env ++ rsT ++ us) κE FE U₀ σ₀ aE wE σ' a' w') m a w := by
    intro m₂ ex₂ σ₂ rs₂ K₂ r1 r2 r3 r4 r5
    have hle2 : hd.N ≤ σ₂.N := (r5 []).le
    refine ⟨m₂, ex₂, { σ₂ with dep := σ.dep }, vs ++ rs₂, K₂, by rw [← List.append_assoc]; exact r1, r2, rfl, by rw [← List.append_assoc]; exact r3, by rw [← List.append_assoc]; exact r4, hle2, ?_⟩
    intro us rsE κE FE U₀ aE wE hE hfr hro κ F a w hH hK hM
    rw [← roAt_congr (κ := κE) (κ' := κ) (ro := ro) (fun b hb => hK.kap b (hro b hb))]
    have hr := hH (rs₂ ++ us)
    have e1 : env ++ vs ++ rs₂ ++ us = env ++ (vs ++ (rs₂ ++ us)) := by simp
    have e2 : env ++ (vs ++ rs₂) ++ us = env ++ (vs ++ (rs₂ ++ us)) := by simp
    have hl := r5 us
    rw [e1] at hl
    refine roundsIn_mono ?_ m₂ a w (hl.go κ F _ a w hr (fun b h1 hb => ?_) (fun b hb => .inl (hro b hb)))
    ·rintro e a' w' ⟨rfl, κ1, F1, r1, k1, m1⟩
     refine ⟨rfl, ?_⟩
     rw [e2]
     refine ⟨κ1, F1, ?_, hK.trans k1 (fun b hb => .inl hb), hM.trans hr k1 hK.size m1⟩
     refine r1.monoU (fun b hb => ?_)
     rcases hb with (hb | hb) | hb
     ·exact .inl hb
     ·exact .inr ⟨hb.1, by show b < σ₂.N; omega⟩
     ·exact .inr ⟨by have : hd.N ≤ b := hb.1; omega, hb.2⟩
    ·have h1 : hd.N ≤ b := h1
     rcases hb with hb | hb
     ·exact hfr b (by omega) hb
     ·omega
   have out : ex₁ ≠ .normal → (roundEnd id locs σ₀ hd σ.dep body k ex₁ σ₁) = k ex₁ { σ₁ with dep := σ.dep } → ∃ (m : Nat) (ex : Ex) (σ' : SS) (rsT : List AV) (K' : Nat → List AV → Prop), (k ex σ').den P Post (env ++ rsT) K' ∧ (∀ l, l < σ.dep → K' l = K l) ∧ σ'.dep = σ.dep ∧ KnownOK (env ++ rsT) σ'.n σ'.known ∧ (env ++ rsT).length = σ'.n ∧ hd.N ≤ σ'.N ∧
     ∀ (us rsE : List AV) (κE : Nat → Value) (FE U₀ : Nat → Prop) (aE : Act) (wE : World), Rel w0 (env ++ rsE) κE FE U₀ σ₀.tmp σ₀.blk σ₀.L aE wE → (∀ b, σ₀.N ≤ b → ¬ U₀ b) → (∀ b, ro = some b → U₀ b) →
      ∀ (κ : Nat → Value) (F : Nat → Prop) (a : Act) (w : World), (∀ x, Rel w0 (env ++ (vs ++ x)) κ F (fun b => U₀ b ∨ (σ₀.N ≤ b ∧ b < hd.N)) hd.tmp hd.blk hd.L a w) → Kept U₀ σ₀.blk κE FE wE hd.blk κ F w → Marks wE aE.defers F w a.defers →
       Code.roundsIn (FR (roAt κE ro)) 0 P c (fun e a' w' => e = ex.exit' ∧ Ends w0 (env ++ rsT ++ us) κE FE U₀ σ₀ aE wE σ' a' w') m a w := by
    intro hne heq
    rw [heq] at q1
    exact fin 1 ex₁ σ₁ rs₁ K₁ q1 (fun l hl => by rw [q2 l (by show l < σ.dep + 1; omega), upd_other (by omega)]) q4 q5 (fun us => rounds_one hne (q6 us))
   have more : ex₁ = .normal → (body (fun e σ' => match e with | .normal => T.stop id "the loop turns more" | e => k e { σ' with dep := σ.dep }) σ₁).den P Post (env ++ vs ++ rs₁) K₁ → ∃ (m : Nat) (ex : Ex) (σ' : SS) (rsT : List AV) (K' : Nat → List AV → Prop), (k ex σ').den P Post (env ++ rsT) K' ∧ (∀ l, l < σ.dep → K' l = K l) ∧ σ'.dep = σ.dep ∧ KnownOK (env ++ rsT) σ'.n σ'.known ∧ (env ++ rsT).length = σ'.n ∧ hd.N ≤ σ'.N ∧
     ∀ (us rsE : List AV) (κE : Nat → Value) (FE U₀ : Nat → Prop) (aE : Act) (wE : World), Rel w0 (env ++ rsE) κE FE U₀ σ₀.tmp σ₀.blk σ₀.L aE wE → (∀ b, σ₀.N ≤ b → ¬ U₀ b) → (∀ b, ro = some b → U₀ b) →
      ∀ (κ : Nat → Value) (F : Nat → Prop) (a : Act) (w : World), (∀ x, Rel w0 (env ++ (vs ++ x)) κ F (fun b => U₀ b ∨ (σ₀.N ≤ b ∧ b < hd.N)) hd.tmp hd.blk hd.L a w) → Kept U₀ σ₀.blk κE FE wE hd.blk κ F w → Marks wE aE.defers F w a.defers →
       Code.roundsIn (FR (roAt κE ro)) 0 P c (fun e a' w' => e = ex.exit' ∧ Ends w0 (env ++ rsT ++ us) κE FE U₀ σ₀ aE wE σ' a' w') m a w := by
    intro he hmore
    obtain ⟨ex₂, σ₂, rs₂, K₂, r1, r2, r3, r4, r5, r6⟩ := ih Post _ _ σ₁ (env ++ vs ++ rs₁) q5 q4 hmore
    have hne : ex₂ ≠ .normal := by rintro rfl; exact r1.elim
    have r1' : (k ex₂ { σ₂ with dep := σ.dep }).den P Post (env ++ vs ++ rs₁ ++ rs₂) K₂ := by
     cases ex₂ with
     | normal => exact r1.elim
     | exit j => exact r1
     | ret => exact r1
    have e3 : env ++ vs ++ rs₁ ++ rs₂ = env ++ vs ++ (rs₁ ++ rs₂) := by simp
    refine fin 2 ex₂ σ₂ (rs₁ ++ rs₂) K₂ (by rw [← e3]; exact r1') (fun l hl => ?_) (by rw [← e3]; exact r4) (by rw [← e3]; exact r5) (fun us => ?_)
    ·rw [r2 l (by rw [q3]; show l < σ.dep + 1; omega), q2 l (by show l < σ.dep + 1; omega), upd_other (by omega)]
    ·have h1 := q6 (rs₂ ++ us)
     have h2 := r6 us
     rw [← List.append_assoc] at h1
     rw [← e3]
     subst he
     exact rounds_more h1 (rounds_one hne h2)
   cases ex₁ with
   | exit j => exact out (fun h => by cases h) rfl
   | ret => exact out (fun h => by cases h) rfl
   | normal =>
    unfold roundEnd at q1
    simp only [fE_eq] at q1
    split at q1
    rotate_left
    ·exact more rfl q1
    rename_i rows es' htl
    split at q1
    rotate_left
    ·exact more rfl q1
    rename_i hfc
    rw [Bool.and_eq_true] at hfc
    have hag : K₁ σ.dep (den (env ++ vs ++ rs₁) es').g := q1
    rw [q2 σ.dep (Nat.lt_succ_self _), upd_same] at hag
    have hty' := tails_co (xs := (den (env ++ vs ++ rs₁) es').g) htl (tails_spec (env := env ++ vs ++ rs₁) locs rows es' htl).2.1
    obtain ⟨m, ex, σ', rsT, K', p1, p2, p3, p4, p5, p6, p7⟩ := ihv (μ (coAll (locs.map Loc.sort) (den (env ++ vs ++ rs₁) es').g)) (by rw [← hv]; exact hag.2) _ rfl hty' hag.1
    refine ⟨m + 1, ex, σ', rsT, K', p1, p2, p3, p4, p5, p6, ?_⟩
    intro us rsE κE FE U₀ aE wE hE hfr hro κ F a w hH hK hM
    rw [roundsIn_succ]
    have hr := hH rs₁
    have hl := q6 []
    have e0 : env ++ vs ++ rs₁ ++ [] = env ++ (vs ++ rs₁) := by simp
    rw [e0] at hl
    rw [← roAt_congr (κ := κE) (κ' := κ) (ro := ro) (fun b hb => hK.kap b (hro b hb))]
    refine wpIn_mono (hl.go κ F _ a w hr (fun b h1 hb => ?_) (fun b hb => .inl (hro b hb))) ?_
    ·have h1 : hd.N ≤ b := h1
     rcases hb with hb | hb
     ·exact hfr b (by omega) hb
     ·omega
    rintro e a' w' ⟨rfl, κ1, F1, r1, k1, m1⟩
    show Code.roundsIn (FR (roAt κ ro)) 0 P c _ m a' w'
    rw [roAt_congr (κ := κE) (κ' := κ) (ro := ro) (fun b hb => hK.kap b (hro b hb))]
    have K1 := hK.trans k1 (fun b hb => .inl hb)
    have M1 := hM.trans hr k1 hK.size m1
    obtain ⟨f1, κ', f2, f3, f4⟩ := fits_rel (taken := taken) (rows := rows) (es := es') hn0 r1 htl (by rw [← hhd]; exact hfc.1) (U₀ := U₀) (fun b hb hlt => by
     rcases hb with (hb | hb) | hb
     ·exact hb
     ·omega
     ·have : hd.N ≤ b := hb.1; omega) (rsE := rsE) (loop_later hE K1 r1)
    rw [← hhd] at f3 f4
    have hvs : coAll (locs.map Loc.sort) (den (env ++ vs ++ rs₁) es').g = (den (env ++ (vs ++ rs₁)) es').g := by
     rw [List.append_assoc]; exact coAll_id _ _ f1
    refine p7 us rsE κE FE U₀ aE wE hE hfr hro κ' F1 a' w' (fun x => ?_) (rehead K1 f2 (fun b h1 _ => hfr b h1) f4) M1
    rw [hvs, hhN]; exact f3 x
 obtain ⟨m, ex, σ', rsT, K', p1, p2, p3, p4, p5, p6, p7⟩ := key _ _ rfl (tails_co (xs := (den env es).g) htails (tails_spec (env := env) locs taken es htails).2.1) h0
 refine ⟨ex, σ', rsT, K', p1, p2, p3, p4, p5, fun us => LeadsR.loop (m := m) ⟨by omega, fun κ F U a w hr hU hro => ?_⟩⟩
 have hE : Rel w0 (env ++ (rsT ++ us)) κ F U σ₀.tmp σ₀.blk σ₀.L a w := by
  rw [g4, g2, ← List.append_assoc]
  exact hr.forget g1
 obtain ⟨f1, κ', f2, f3, f4⟩ := fits_rel (taken := taken) (rows := taken) (es := es) hn0 hE htails (by rw [← hhd]; exact c2) (U₀ := U) (fun b hb _ => hb) (rsE := rsT ++ us) (loop_later hE Kept.refl hE)
 rw [← hhd] at f3 f4
 have hes : (den (env ++ (rsT ++ us)) es).g = (den env es).g := by rw [den_ext hn0 c1]
 rw [hes] at f1 f3
 have := p7 us (rsT ++ us) κ F U a w hE (fun b h1 => hU b (by omega)) hro κ' F a w (fun x => by rw [coAll_id _ _ f1, hhN]; exact f3 x) (rehead Kept.refl f2 (fun b h1 _ => hU b (by omega)) f4) Marks.nil
 refine roundsIn_mono ?_ m a w this
 rintro e a' w' ⟨he, hEnd⟩
 refine ⟨he, ?_⟩
 unfold Ends at hEnd ⊢
 rw [g3, g4] at hEnd
 exact hEnd
theorem loop_unroll {id : Nat} {c : Code} {body : (Ex → SS → T) → SS → T} (ih : ∀ (Post : R → Prop) (K : Nat → List AV → Prop) (k : Ex → SS → T) (σ : SS) (env : List AV), env.length = σ.n → KnownOK env σ.n σ.known → (body k σ).den P Post env K → Path P Post w0 ro c env K σ k)
  {k : Ex → SS → T} : ∀ (n : Nat) (σ : SS) (env : List AV) (K : Nat → List AV → Prop), env.length = σ.n → KnownOK env σ.n σ.known → (unroll id body k n σ).den P Post env K →
  ∃ (m : Nat) (ex : Ex) (σ' : SS) (rs : List AV) (K' : Nat → List AV → Prop), (k ex σ').den P Post (env ++ rs) K' ∧ (∀ l, l < σ.dep → K' l = K l) ∧ σ'.dep = σ.dep ∧ KnownOK (env ++ rs) σ'.n σ'.known ∧ (env ++ rs).length = σ'.n ∧ ∀ us, LeadsR P w0 ro c m (env ++ rs ++ us) σ ex σ'
 | 0, σ, env, K, _, _, h => h.elim
 | n + 1, σ, env, K, hn, hk, h => by
  have h : (body (fun e σ' => match e with | .normal => unroll id body k n σ' | e => k e σ') σ).den P Post env K := h
  obtain ⟨ex, σ₁, rs, K₁, q1, q2, q3, q4, q5, q6⟩ := ih Post K _ σ env hn hk h
  cases ex with
  | normal =>
   obtain ⟨m, ex, σ', rs', K', p1, p2, p3, p4, p5, p6⟩ := loop_unroll ih n σ₁ (env ++ rs) K₁ q5 q4 q1
   refine ⟨m + 1, ex, σ', rs ++ rs', K', by rw [← List.append_assoc]; exact p1, fun l hl => (p2 l (by rw [q3]; exact hl)).trans (q2 l hl), p3.trans q3, by rw [← List.append_assoc]; exact p4, by rw [← List.append_assoc]; exact p5, fun us => ?_⟩
   have h1 := q6 (rs' ++ us)
   have h2 := p6 us
   rw [← List.append_assoc] at h1
   rw [← List.append_assoc]
   exact rounds_more h1 h2
  | exit j => exact ⟨1, .exit j, σ₁, rs, K₁, q1, q2, q3, q4, q5, fun us => rounds_one (fun h => by cases h) (q6 us)⟩
  | ret => exact ⟨1, .ret, σ₁, rs, K₁, q1, q2, q3, q4, q5, fun us => rounds_one (fun h => by cases h) (q6 us)⟩
theorem ice_spec (locs : List Loc) (k : SS → T) (σ : SS) : iceAt locs k σ = k σ ∨ ∃ bs, iceAt locs k σ = k (σ.write (iceOf σ.blk bs)) := by
 unfold iceAt
 split
 ·exact .inl rfl
 ·rename_i b bs _; exact .inr ⟨b :: bs, SS.go_eq _ _⟩
theorem leads_iced {σ σ' : SS} {bs : List Nat} {c : Code} {ex : Ex} (h : Leads P w0 ro c env σ ex σ') : Leads P w0 ro c env σ ex (σ'.write (iceOf σ'.blk bs)) := by
 have hw := ice_low σ' bs
 obtain ⟨y1, y2, y3, y4, _⟩ := write_spec σ' _ hw.1
 rw [hw.2] at y2
 refine ⟨by rw [y2]; exact h.le, fun κ F U a w hr hU hro => wpIn_mono (h.go κ F U a w hr hU hro) ?_⟩
 rintro e a' w' ⟨he, κ', F', r, k, m⟩
 obtain ⟨F1, r1, k1⟩ := r.freeze bs
 have m1 := m.next r k1
 rw [← y1] at r1 k1
 rw [← y3, ← y4] at r1
 exact ⟨he, κ', F1, by rw [y2]; exact r1, k.trans k1 (fun b hb => .inl hb), m1⟩
theorem Path.iced {c : Code} {σ : SS} {k : Ex → SS → T} {bs : List Nat} (h : Path P Post w0 ro c env K (σ.write (iceOf σ.blk bs)) k) : Path P Post w0 ro c env K σ k := by
 obtain ⟨y1, y2, y3, y4, y5, y6, y7⟩ := write_spec σ _ (ice_low σ bs).1
 obtain ⟨ex, σ', rs, K', q1, q2, q3, q4, q5, q6⟩ := h
 exact ⟨ex, σ', rs, K', q1, fun l hl => q2 l (by rw [y7]; exact hl), by rw [q3, y7], q4, q5, fun us => leads_freeze (ice_low σ bs) (q6 us)⟩
theorem ice_round {c : Code} {locs : List Loc} {body : (Ex → SS → T) → SS → T} (ih : ∀ (Post : R → Prop) (K : Nat → List AV → Prop) (k : Ex → SS → T) (σ : SS) (env : List AV), env.length = σ.n → KnownOK env σ.n σ.known → (body k σ).den P Post env K → Path P Post w0 ro c env K σ k)
  (Post : R → Prop) (K : Nat → List AV → Prop) (k : Ex → SS → T) (σ : SS) (env : List AV) (hn : env.length = σ.n) (hk : KnownOK env σ.n σ.known) (h : (body (iceEnd locs k) σ).den P Post env K) : Path P Post w0 ro c env K σ k := by
 obtain ⟨ex, σ', rs, K', q1, q2, q3, q4, q5, q6⟩ := ih Post K _ σ env hn hk h
 cases ex with
 | exit j => exact ⟨.exit j, σ', rs, K', q1, q2, q3, q4, q5, q6⟩
 | ret => exact ⟨.ret, σ', rs, K', q1, q2, q3, q4, q5, q6⟩
 | normal =>
  unfold iceEnd at q1
  simp only at q1
  rcases ice_spec locs (k .normal) σ' with e | ⟨bs, e⟩
  ·rw [e] at q1; exact ⟨.normal, σ', rs, K', q1, q2, q3, q4, q5, q6⟩
  ·rw [e] at q1
   obtain ⟨y1, y2, y3, y4, y5, y6, y7⟩ := write_spec σ' _ (ice_low σ' bs).1
   exact ⟨.normal, _, rs, K', q1, q2, y7.trans q3, by rw [y5, y6]; exact q4, by rw [y5]; exact q5, fun us => leads_iced (q6 us)⟩
theorem loop_ice {fid id : Nat} {c : Code} {locs : List Loc} {ds : List Nat} {body : (Ex → SS → T) → SS → T} (ih : ∀ (Post : R → Prop) (K : Nat → List AV → Prop) (k : Ex → SS → T) (σ : SS) (env : List AV), env.length = σ.n → KnownOK env σ.n σ.known → (body k σ).den P Post env K → Path P Post w0 ro c env K σ k)
  {k : Ex → SS → T} {σ : SS} (hn : env.length = σ.n) (hk : KnownOK env σ.n σ.known) (h : (loopIce fid id locs ds body k σ).den P Post env K) : Path P Post w0 ro (.loop c) env K σ k := by
 unfold loopIce at h
 simp only [fLoc_eq'] at h
 rcases ice_spec locs (loopInv fid id σ.N locs ds (fun k => body (iceEnd locs k)) k) σ with e | ⟨bs, e⟩
 ·rw [e] at h
  exact loop_path (body := fun k => body (iceEnd locs k)) (fun Post K k σ env => ice_round ih Post K k σ env) hn hk h
 ·rw [e] at h
  obtain ⟨y1, y2, y3, y4, y5, y6, y7⟩ := write_spec σ _ (ice_low σ bs).1
  exact Path.iced (loop_path (body := fun k => body (iceEnd locs k)) (fun Post K k σ env => ice_round ih Post K k σ env) (by rw [y5]; exact hn) (by rw [y5, y6]; exact hk) h)
theorem Path.stay {c : Code} {σ : SS} {k : Ex → SS → T} {ex : Ex} (hn : env.length = σ.n) (hk : KnownOK env σ.n σ.known) (h : (k ex σ).den P Post env K) (hl : ∀ env, Leads P w0 ro c env σ ex σ) : Path P Post w0 ro c env K σ k :=
 ⟨ex, σ, [], K, by rw [List.append_nil]; exact h, fun _ _ => rfl, rfl, by rw [List.append_nil]; exact hk, by rw [List.append_nil]; exact hn, fun _ => hl _⟩
theorem range_path (hrun : RunOK P w0 run) (hfit : PFit P) {fid : Nat} {g : Operand} {ps : Array Tmp} {assign body : Code} {k : Ex → SS → T} {σ : SS} (hn : env.length = σ.n) (hk : KnownOK env σ.n σ.known) (h : (symRange P run ro fid (σ.ev g) ps assign body k σ).den P Post env K) : Path P Post w0 ro (.rangeFunc g ps assign body) env K σ k := by
 unfold symRange at h
 split at h
 rotate_left
 ·exact h.elim
 rename_i f fs xs hg
 split at h
 rotate_left
 ·exact h.elim
 rename_i fn hfn
 split at h
 rotate_left
 ·exact h.elim
 rename_i c hb
 simp only [fL_eq fSV_eq, SS.go_eq] at h
 split at h
 rotate_left
 ·exact h.elim
 rename_i hc
 simp only [Bool.and_eq_true] at hc
 obtain ⟨⟨_, c2⟩, c3⟩ := hc
 obtain ⟨y1, y2, y3, y4⟩ := write_one (σ := σ) (b := σ.N) (y := some (.loop ⟨fid, σ.rf, ps, assign, body⟩ .ready .none)) (Nat.le_refl _)
 obtain ⟨_, _, _, _, y5, y6, y7⟩ := write_spec σ [(σ.N, some (.loop ⟨fid, σ.rf, ps, assign, body⟩ .ready .none))] ⟨Nat.le_refl _, trivial⟩
 obtain ⟨ex, σ', rs, K', q1, q2, q3, q4, q5, q6⟩ := hrun Post K none f c _ ((σ.write [(σ.N, some (.loop ⟨fid, σ.rf, ps, assign, body⟩ .ready .none))]).frame (fs.list ++ [.yld σ.N] ++ xs.list) fn.ntmps) env (hn.trans y5.symm) (by have hk' := hk; rw [← y5, ← y6] at hk'; exact hk') h
 have hdep : ((σ.write [(σ.N, some (.loop ⟨fid, σ.rf, ps, assign, body⟩ .ready .none))]).frame (fs.list ++ [.yld σ.N] ++ xs.list) fn.ntmps).dep = σ.dep := y7
 rw [hdep] at q2 q3
 have hfin : (∀ id, ex ≠ .exit id) ∧ ∃ i st p, σ'.blk σ.N = some (.loop i st p) ∧ st ≠ .busy ∧ (k p.ex { σ'.write [(σ.N, none)] with rf := σ.rf }).den P Post (env ++ rs) K' := by
  unfold rangeEnd at q1
  split at q1
  ·exact q1.elim
  ·rename_i i st p hnx hblk
   simp only [SS.go_eq] at q1
   split at q1
   ·rename_i hst
    refine ⟨fun id he => hnx id he, i, st, p, hblk, by simpa using hst, ?_⟩
    cases p <;> exact q1
   ·exact q1.elim
  ·exact q1.elim
 obtain ⟨hex, i, st, p, hblk, hst, hden⟩ := hfin
 obtain ⟨_, _, _, _, z5, z6, z7⟩ := write_spec σ' [(σ.N, none)] ⟨by have := blk_lt hblk; omega, trivial⟩
 refine ⟨p.ex, { σ'.write [(σ.N, none)] with rf := σ.rf }, rs, K', hden, q2, z7.trans q3, by have q4' := q4; rw [← z5, ← z6] at q4'; exact q4', q5.trans z5.symm, fun us => ?_⟩
 exact leads_range hfit hg hfn hb (fun b hb' => by subst hb'; simpa using c3) c2 hex (q6 us) hblk hst
theorem sym_path (hrun : RunOK P w0 run) (hfit : PFit P) {fid : Nat} (c : Code) : ∀ (Post : R → Prop) (K : Nat → List AV → Prop) (k : Ex → SS → T) (σ : SS) (env : List AV), env.length = σ.n → KnownOK env σ.n σ.known → (sym P cfg run ro fid c k σ).den P Post env K → Path P Post w0 ro c env K σ k := by
 induction c with
 | skip => intro Post K k σ env hn hk h; exact Path.stay hn hk h (fun _ => leads_skip)
 | exit id => intro Post K k σ env hn hk h; exact Path.stay hn hk h (fun _ => leads_exit)
 | ret => intro Post K k σ env hn hk h; exact Path.stay hn hk h (fun _ => leads_ret)
 | region id ops draw => intro Post K k σ env hn hk h; exact regions_path hrun hfit hn hk h
 | rangeFunc g ps x y ih1 ih2 => intro Post K k σ env hn hk h; exact range_path hrun hfit hn hk h
 | seq x y ih1 ih2 =>
  intro Post K k σ env hn hk h
  simp only [sym] at h
  obtain ⟨ex, σ₁, rs, K₁, q1, q2, q3, q4, q5, q6⟩ := ih1 Post K _ σ env hn hk h
  cases ex with
  | normal =>
   obtain ⟨ex, σ', rs', K', p1, p2, p3, p4, p5, p6⟩ := ih2 Post K₁ k σ₁ (env ++ rs) q5 q4 q1
   refine ⟨ex, σ', rs ++ rs', K', by rw [← List.append_assoc]; exact p1, fun l hl => (p2 l (by rw [q3]; exact hl)).trans (q2 l hl), p3.trans q3, by rw [← List.append_assoc]; exact p4, by rw [← List.append_assoc]; exact p5, fun us => ?_⟩
   have h1 := q6 (rs' ++ us)
   have h2 := p6 us
   rw [← List.append_assoc] at h1
   rw [← List.append_assoc]
   exact leads_seq h1 h2
  | exit j => exact ⟨.exit j, σ₁, rs, K₁, q1, q2, q3, q4, q5, fun us => leads_seq_out (fun h => by cases h) (q6 us)⟩
  | ret => exact ⟨.ret, σ₁, rs, K₁, q1, q2, q3, q4, q5, fun us => leads_seq_out (fun h => by cases h) (q6 us)⟩
 | cond c x y ih1 ih2 =>
  intro Post K k σ env hn hk h
  simp only [sym] at h
  unfold symCond at h
  split at h
  ·rename_i e he
   split at h
   ·rename_i ht
    obtain ⟨ex, σ', rs, K', q1, q2, q3, q4, q5, q6⟩ := ih1 Post K k σ env hn hk h
    exact ⟨ex, σ', rs, K', q1, q2, q3, q4, q5, fun us => leads_cond (b := true) he (by rw [List.append_assoc]; exact truth_ok (hk.ext' hn) ht) (q6 us)⟩
   ·rename_i ht
    obtain ⟨ex, σ', rs, K', q1, q2, q3, q4, q5, q6⟩ := ih2 Post K k σ env hn hk h
    exact ⟨ex, σ', rs, K', q1, q2, q3, q4, q5, fun us => leads_cond (b := false) he (by rw [List.append_assoc]; exact truth_ok (hk.ext' hn) ht) (q6 us)⟩
   ·split at h
    ·rename_i hs
     obtain ⟨h1, h2⟩ := h
     cases hb : (den env e).b with
     | true =>
      obtain ⟨ex, σ', rs, K', q1, q2, q3, q4, q5, q6⟩ := ih1 Post K k (σ.learn e true) env hn (learn_ok hk hs hb) (h1 hb)
      exact ⟨ex, σ', rs, K', q1, q2, q3, q4, q5, fun us => leads_cond (b := true) he (by rw [List.append_assoc, den_ext hn hs]; exact hb) ((q6 us).same ⟨rfl, rfl, rfl, rfl⟩ ⟨rfl, rfl, rfl, rfl⟩)⟩
     | false =>
      obtain ⟨ex, σ', rs, K', q1, q2, q3, q4, q5, q6⟩ := ih2 Post K k (σ.learn e false) env hn (learn_ok hk hs hb) (h2 hb)
      exact ⟨ex, σ', rs, K', q1, q2, q3, q4, q5, fun us => leads_cond (b := false) he (by rw [List.append_assoc, den_ext hn hs]; exact hb) ((q6 us).same ⟨rfl, rfl, rfl, rfl⟩ ⟨rfl, rfl, rfl, rfl⟩)⟩
    ·exact h.elim
  ·exact h.elim
 | block id c ih =>
  intro Post K k σ env hn hk h
  simp only [sym] at h
  obtain ⟨ex, σ', rs, K', q1, q2, q3, q4, q5, q6⟩ := ih Post K _ σ env hn hk h
  unfold atBlock at q1
  cases ex with
  | normal => exact ⟨.normal, σ', rs, K', q1, q2, q3, q4, q5, fun us => leads_block rfl (q6 us)⟩
  | ret => exact ⟨.ret, σ', rs, K', q1, q2, q3, q4, q5, fun us => leads_block rfl (q6 us)⟩
  | exit i =>
   simp only at q1
   split at q1
   ·rename_i hi; exact ⟨.normal, σ', rs, K', q1, q2, q3, q4, q5, fun us => leads_block (by simp only; rw [if_pos hi]) (q6 us)⟩
   ·rename_i hi; exact ⟨.exit i, σ', rs, K', q1, q2, q3, q4, q5, fun us => leads_block (by simp only; rw [if_neg hi]) (q6 us)⟩
 | loop c ih =>
  intro Post K k σ env hn hk h
  simp only [sym] at h
  unfold symLoop at h
  simp only at h
  split at h
  ·obtain ⟨m, ex, σ', rs, K', p1, p2, p3, p4, p5, p6⟩ := loop_unroll ih _ σ env K hn hk h
   exact ⟨ex, σ', rs, K', p1, p2, p3, p4, p5, fun us => (p6 us).loop⟩
  ·exact loop_ice ih hn hk h
  ·exact loop_ice ih hn hk h
 | _ => intro Post K k σ env hn hk h; exact h.elim
theorem symN_ok (hfit : PFit P) : ∀ n, RunOK P w0 (symN P cfg n)
 | 0 => fun _ _ _ _ _ _ _ _ _ _ h => h.elim
 | n + 1 => fun Post K ro fid c k σ env hn hk h => sym_path (symN_ok hfit n) hfit c Post K k σ env hn hk h
end Go.Sx
namespace Go.Sx
open Go Go.RowKit Go.Dial
variable {env : List AV} {κ κ' : Nat → Value} {F F' : Nat → Prop} {w w' w0 : World} {U : Nat → Prop} {tmp : Nat → SV} {blk : Nat → Option SB} {L : Nat} {a : Act} {P : Program} {Post : R → Prop} {K : Nat → List AV → Prop}
theorem nodupB_spec : ∀ (l : List Nat), nodupB l = true → l.Nodup
 | [], _ => List.nodup_nil
 | x :: l, h => by
  simp only [nodupB, Bool.and_eq_true, Bool.not_eq_true', List.contains_eq_mem, decide_eq_false_iff_not] at h
  exact List.nodup_cons.2 ⟨h.1, nodupB_spec l h.2⟩
theorem res_proper {σ : SS} : ∀ (x : SV) (s : RS) (re : RE), resOf σ x s = some re → x.proper = true → (re.den env).proper = true := by
 intro x
 induction x with
 | nil => intro s re h _; cases s <;> simp only [resOf] at h <;> cases h; rfl
 | cons x y _ ih2 =>
  intro s re h hp
  cases s <;> simp only [resOf] at h <;> try (cases h; done)
  split at h
  ·rename_i u v h1 h2
   cases h
   show (v.den env).proper = true
   exact ih2 _ _ h2 hp
  ·cases h
 | _ => intro s re h hp; cases hp
theorem res_of_den {σ : SS} (h : Rel w0 env κ F U σ.tmp σ.blk L a w) : ∀ (x : SV) (s : RS) (re : RE) (u : Value), resOf σ x s = some re → SVden env κ F w x u →
  RDen F w0.heap.size w (re.den env) u (x.names.flatMap fun b => (blockOf (κ b)).toList) ∧ ∀ b ∈ x.names, liveB (σ.blk b) = true := by
 intro x
 induction x with
 | vi e => intro s re u hr hd; cases s <;> simp only [resOf] at hr <;> cases hr; exact ⟨⟨hd.1, rfl⟩, fun b hb => by cases hb⟩
 | vb e => intro s re u hr hd; cases s <;> simp only [resOf] at hr <;> cases hr; exact ⟨⟨hd.1, rfl⟩, fun b hb => by cases hb⟩
 | vr e => intro s re u hr hd; cases s <;> simp only [resOf] at hr <;> cases hr; exact ⟨⟨hd.1, by rw [← hd.1]; exact hd.2.1, rfl⟩, fun b hb => by cases hb⟩
 | nilsl =>
  intro s re u hr hd
  cases s <;> simp only [resOf] at hr <;> try (cases hr; done)
  split at hr
  ·rename_i hp
   cases hr
   rw [show u = _ from hd]
   refine ⟨?_, fun b hb => by cases hb⟩
   simp only [RE.den]
   unfold RDen
   split
   ·exact ⟨den_nil _, rfl⟩
   ·exact ⟨[], World.ownsRow_nil _ _ _ _, hp, ⟨fun i r hr => by simp [den] at hr, fun i r k x hr => by simp [den] at hr⟩, rfl⟩
  ·cases hr
 | vs t e =>
  intro s re u hr hd
  cases s <;> simp only [resOf] at hr <;> try (cases hr; done)
  split at hr
  ·rename_i hh
   obtain ⟨hg, rfl⟩ := hh
   cases hr
   refine ⟨?_, fun b hb => by cases hb⟩
   simp only [RE.den]
   unfold RDen
   rw [if_pos hg]
   exact ⟨hd, rfl⟩
  ·cases hr
 | row b =>
  intro s re u hr hd
  cases s <;> simp only [resOf] at hr <;> try (cases hr; done)
  split at hr
  ·rename_i a' t' e hb
   split at hr
   ·rename_i hh
    obtain ⟨rfl, rfl, hg⟩ := hh
    cases hr
    obtain ⟨us, h1, h2, h3⟩ := h.blks b _ hb
    rw [hd.1]
    refine ⟨?_, fun c hc => ?_⟩
    ·simp only [RE.den]
     unfold RDen
     rw [if_neg (by rw [hg]; simp)]
     exact ⟨us, h1, h2, h3, by simp [SV.names]⟩
    simp [SV.names] at hc; subst hc; rw [hb]; rfl
   ·cases hr
  ·cases hr
 | nil => intro s re u hr hd; cases s <;> simp only [resOf] at hr <;> cases hr; exact ⟨⟨hd, rfl⟩, fun b hb => by cases hb⟩
 | cons x y ih1 ih2 =>
  intro s re u hr hd
  cases s <;> simp only [resOf] at hr <;> try (cases hr; done)
  split at hr
  ·rename_i u1 u2 h1 h2
   cases hr
   obtain ⟨p, q, rfl, d1, d2⟩ := hd
   obtain ⟨r1, n1⟩ := ih1 _ _ _ h1 d1
   obtain ⟨r2, n2⟩ := ih2 _ _ _ h2 d2
   refine ⟨⟨p, q, _, _, rfl, r1, r2, by simp [SV.names, List.flatMap_append]⟩, fun b hb => ?_⟩
   simp only [SV.names, List.mem_append] at hb
   rcases hb with hb | hb
   ·exact n1 b hb
   ·exact n2 b hb
  ·cases hr
 | agg x ih =>
  intro s re u hr hd
  cases s <;> simp only [resOf] at hr <;> try (cases hr; done)
  split at hr
  ·rename_i hp
   obtain ⟨re', h1, rfl⟩ := Option.map_eq_some_iff.1 hr
   obtain ⟨cs, rfl, _, d⟩ := hd
   obtain ⟨r1, n1⟩ := ih _ _ _ h1 d
   exact ⟨⟨cs, rfl, res_proper _ _ _ h1 hp, r1⟩, n1⟩
  ·cases hr
 | tup x ih =>
  intro s re u hr hd
  cases s <;> simp only [resOf] at hr <;> try (cases hr; done)
  split at hr
  ·rename_i hp
   obtain ⟨re', h1, rfl⟩ := Option.map_eq_some_iff.1 hr
   obtain ⟨cs, rfl, _, d⟩ := hd
   obtain ⟨r1, n1⟩ := ih _ _ _ h1 d
   exact ⟨⟨cs, rfl, res_proper _ _ _ h1 hp, r1⟩, n1⟩
  ·cases hr
 | _ => intro s re u hr hd; cases s <;> simp only [resOf] at hr <;> cases hr
theorem flat_nodup {f : Nat → List Nat} : ∀ ns : List Nat, ns.Nodup → (∀ b, (f b).Nodup) → (∀ b c k, b ∈ ns → c ∈ ns → k ∈ f b → k ∈ f c → b = c) → (ns.flatMap f).Nodup
 | [], _, _, _ => List.nodup_nil
 | n :: ns, h, hf, hi => by
  rw [List.nodup_cons] at h
  rw [List.flatMap_cons, List.nodup_append]
  refine ⟨hf n, flat_nodup ns h.2 hf (fun b c k hb hc => hi b c k (List.mem_cons_of_mem _ hb) (List.mem_cons_of_mem _ hc)), fun x hx y hy e => ?_⟩
  subst e
  obtain ⟨c, hc, hx2⟩ := List.mem_flatMap.1 hy
  have := hi n c x List.mem_cons_self (List.mem_cons_of_mem _ hc) hx hx2
  exact h.1 (this ▸ hc)
def AV.cells : AV → List AV
 | .agg l => l
 | x => [x]
def argOK (P : Program) (t : Nat) (x : AV) : Bool :=
 match flat P 12 t with
 | none => false
 | some ts => if isAggT P t then (match x with | .agg l => decide (l.map AV.ty = ts) | _ => false) else decide ([x.ty] = ts)
def argsOK (P : Program) : List Nat → List AV → Bool
 | [], [] => true
 | t :: ts, x :: xs => argOK P t x && argsOK P ts xs
 | _, _ => false
theorem mkArg_den {t n m : Nat} {s : SV} {x : AV} {u : Value} (hm : mkArg P t n = some (s, m)) (ho : argOK P t x = true) (hd : Den F w u x) (henv : ∀ (j : Nat) y, x.cells[j]? = some y → env[n + j]? = some y) :
  SVden env κ F w s u ∧ s.names = [] ∧ m = n + x.cells.length := by
 unfold mkArg at hm; unfold argOK at ho
 split at hm
 ·cases hm
 rename_i ts hts
 rw [hts] at ho
 dsimp only at hm ho
 have hv : ∀ (j : Nat) y, x.cells[j]? = some y → den env (.v (n + j)) = y := fun j y hy => by simp only [den]; simp [List.getD, henv j y hy]
 by_cases hag : isAggT P t = true
 ·simp only [hag, if_true] at hm ho
  split at hm
  ·rename_i hall
   split at ho
   ·rename_i l
    have ho := of_decide_eq_true ho
    have hlen : ts.length = l.length := by rw [← ho]; simp
    cases hm
    obtain ⟨cs, rfl, hl, hcs⟩ := hd.agg_view
    have hxs : ∀ (i : Nat) y, (List.map (fun x => x.getD SV.any) (ts.zipIdx.map fun (x : Ty × Nat) => leafOf (.v (n + x.2)) x.1))[i]? = some y → ∃ z, l[i]? = some z ∧ leafOf (.v (n + i)) z.ty = some y := by
     intro i y hy
     simp only [List.getElem?_map, List.getElem?_zipIdx, Option.map_map] at hy
     obtain ⟨s, hs, rfl⟩ := Option.map_eq_some_iff.1 hy
     have hs' := hs
     rw [← ho, List.getElem?_map] at hs'
     obtain ⟨z, hz, rfl⟩ := Option.map_eq_some_iff.1 hs'
     refine ⟨z, hz, ?_⟩
     have := List.all_eq_true.1 hall (leafOf (.v (n + i)) z.ty) (List.mem_map.2 ⟨(z.ty, i), List.mem_of_getElem? (by rw [List.getElem?_zipIdx, hs]; simp), rfl⟩)
     obtain ⟨v, hv⟩ := Option.isSome_iff_exists.1 this
     simp only [Function.comp, Nat.zero_add, hv, Option.getD_some]
    refine ⟨⟨_, rfl, of_proper _, tup_mk (by simp; omega) (fun i y v hy hu => ?_)⟩, ?_, by simp [AV.cells, hlen]⟩
    ·obtain ⟨z, hz, hle⟩ := hxs i y hy
     have := hv i z (by simpa [AV.cells] using hz)
     exact leaf_den hle (by rw [this]) (by rw [this]; exact hcs i v z hu hz)
    ·refine List.eq_nil_iff_forall_not_mem.2 fun b hb => ?_
     obtain ⟨y, hy, hby⟩ := (of_names _ b).1 hb
     obtain ⟨i, hi⟩ := List.getElem?_of_mem hy
     obtain ⟨z, hz, hle⟩ := hxs i y hi
     rw [leaf_names hle] at hby; cases hby
   ·cases ho
  ·cases hm
 ·simp only [hag] at hm ho
  have ho := of_decide_eq_true ho
  subst ho
  cases hle : leafOf (.v n) x.ty with
  | none => simp [hle] at hm
  | some v =>
   simp [hle] at hm
   obtain ⟨rfl, rfl⟩ := hm
   have hc : x.cells = [x] := by cases x <;> first | rfl | cases hle
   have := hv 0 x (by rw [hc]; rfl)
   rw [Nat.add_zero] at this
   exact ⟨leaf_den hle (by rw [this]) (by rw [this]; exact hd), leaf_names hle, by rw [hc]; rfl⟩
theorem mkArgs_den : ∀ (ts : List Nat) (n k : Nat) (xs : List SV) (args : List AV) (us : List Value), mkArgs P ts n = some (xs, k) → argsOK P ts args = true → us.length = args.length → (∀ (i : Nat) u x, us[i]? = some u → args[i]? = some x → Den F w u x) →
  (∀ (j : Nat) y, (args.flatMap AV.cells)[j]? = some y → env[n + j]? = some y) → xs.length = us.length ∧ k = n + (args.flatMap AV.cells).length ∧ ∀ (i : Nat) s u, xs[i]? = some s → us[i]? = some u → SVden env κ F w s u ∧ s.names = []
 | [], n, k, xs, args, us, hm, ho, hl, _, _ => by
  cases args with
  | nil =>
   simp only [mkArgs] at hm; cases hm
   exact ⟨hl.symm, rfl, fun i s u h => by simp at h⟩
  | cons => cases ho
 | t :: ts, n, k, xs, args, us, hm, ho, hl, hd, henv => by
  cases args with
  | nil => cases ho
  | cons x args =>
   cases us with
   | nil => simp at hl
   | cons u us =>
    simp only [argsOK, Bool.and_eq_true] at ho
    simp only [mkArgs] at hm
    split at hm
    ·rename_i s m h1
     split at hm
     ·rename_i l k' h2
      cases hm
      rw [List.flatMap_cons] at henv
      obtain ⟨a1, a2, a3⟩ := mkArg_den (κ := κ) h1 ho.1 (hd 0 u x rfl rfl) (fun j y hy => henv j y (by rw [List.getElem?_append_left (List.getElem?_eq_some_iff.1 hy).1]; exact hy))
      obtain ⟨b1, b2, b3⟩ := mkArgs_den ts m k l args us h2 ho.2 (by simpa using hl) (fun i u x h1 h2 => hd (i + 1) u x (by simpa using h1) (by simpa using h2)) (fun j y hy => by
       have := henv (x.cells.length + j) y (by rw [List.getElem?_append_right (by omega)]; rw [← hy]; congr 1; omega)
       rw [← this, a3]; congr 1; omega)
      refine ⟨by simp [b1], by rw [b2, a3]; simp; omega, fun i s' u' h3 h4 => ?_⟩
      cases i with
      | zero => simp at h3 h4; subst h3; subst h4; exact ⟨a1, a2⟩
      | succ i => exact b3 i s' u' (by simpa using h3) (by simpa using h4)
     ·cases hm
    ·cases hm
theorem ret_den {g : Bool} {fn : Func} {σ : SS} {r : R} (h : (retOf P g fn σ).den P (· = r) env K) : ∃ sh rv σ' v re, resultSV P σ fn.results.toList = some rv ∧ nodupB v.names = true ∧ resOf σ' v sh = some re ∧ re.den env = r ∧
  ((σ' = σ ∧ v = packSV rv) ∨ (σ' = σ.write (iceOf σ.blk (rv.flatMap (rowsIn σ.blk))) ∧ v = nz σ'.blk (packSV rv))) := by
 have key : ∀ (σ' : SS) sh v, (retWith σ' sh v).den P (· = r) env K → ∃ re, nodupB v.names = true ∧ resOf σ' v sh = some re ∧ re.den env = r := by
  intro σ' sh v h
  unfold retWith at h
  split at h
  rotate_left
  ·exact h.elim
  rename_i hnd
  split at h
  rotate_left
  ·exact h.elim
  rename_i re hre
  exact ⟨re, hnd, hre, h⟩
 unfold retOf at h
 split at h
 rotate_left
 ·exact h.elim
 ·exact h.elim
 rename_i sh rv hsh hrv
 split at h
 ·obtain ⟨re, h1, h2, h3⟩ := key _ _ _ h
  exact ⟨sh, rv, _, _, re, hrv, h1, h2, h3, .inr ⟨rfl, rfl⟩⟩
 ·obtain ⟨re, h1, h2, h3⟩ := key _ _ _ h
  exact ⟨sh, rv, _, _, re, hrv, h1, h2, h3, .inl ⟨rfl, rfl⟩⟩
theorem con_of_sym {cfg : Cfg} {f : Nat} {args : List AV} {r : R} (hfit : PFit P) (ho : ∀ fn, P.funcs[f]? = some fn → argsOK P fn.params.toList args = true) (h : (symFn P cfg f).den P (· = r) (args.flatMap AV.cells) K) : Con P f args r := by
 intro S vs w hS hvs
 unfold symFn at h
 split at h
 ·exact h.elim
 rename_i fn hf
 split at h
 rotate_left
 ·exact h.elim
 rename_i c xs n hb hm
 simp only [fL_eq fSV_eq, fN_eq] at h
 obtain ⟨m1, m2, _⟩ := mkArgs_den (P := P) (w := w) (env := args.flatMap AV.cells) (κ := fun _ => undef) (F := S) _ 0 n xs args vs.toList hm (ho fn hf) (by simpa using hvs.1) (fun i u x h1 h2 => hvs.2 i u x (by simpa using h1) h2) (fun j y hy => by rw [Nat.zero_add]; exact hy)
 have m1' : xs.length = vs.size := by simpa using m1
 obtain ⟨σ, hσ⟩ : ∃ σ : SS, σ = { rf := Ov.of xs fn.ntmps, hp := ⟨[], [], 0⟩, n, known := [], dep := 0 } := ⟨_, rfl⟩
 rw [← hσ] at h
 obtain ⟨ex, σ', rs, K', q1, _, _, _, _, q6⟩ := symN_ok (w0 := w) (cfg := cfg) hfit 12 (· = r) K none f c _ σ (args.flatMap AV.cells) (by rw [hσ]; simpa using m2.symm) (by rw [hσ]; exact fun x hx => by cases hx) h
 have hex : (∀ id, ex ≠ .exit id) ∧ (retOf P (cfg.cons.contains (f + 1000000)) fn σ').den P (· = r) (args.flatMap AV.cells ++ rs) K' := by
  cases ex with
  | exit id => exact q1.elim
  | normal => exact ⟨fun _ h => (by cases h), q1⟩
  | ret => exact ⟨fun _ h => (by cases h), q1⟩
 obtain ⟨hex, hret⟩ := hex
 have hl := q6 []
 rw [List.append_nil] at hl
 obtain ⟨sh, rv, σ2, v2, re, hrv, hnd, hre, hret, hcase⟩ := ret_den hret
 obtain ⟨_, _, m3⟩ := mkArgs_den (P := P) (w := w) (env := args.flatMap AV.cells ++ rs) (κ := fun _ => undef) (F := S) _ 0 n xs args vs.toList hm (ho fn hf) (by simpa using hvs.1) (fun i u x h1 h2 => hvs.2 i u x (by simpa using h1) h2) (fun j y hy => by
  rw [Nat.zero_add, List.getElem?_append_left (List.getElem?_eq_some_iff.1 hy).1]; exact hy)
 have hblk : ∀ b, σ.blk b = none := fun b => by rw [hσ]; exact Ov.get_out (Nat.zero_le _)
 have hN : σ.N = 0 := by rw [hσ]; rfl
 have hfr : σ = SS.frame { rf := ⟨[], [], 0⟩, hp := ⟨[], [], 0⟩, n, known := [], dep := 0 } xs fn.ntmps := hσ
 obtain ⟨fr1, fr2⟩ := frame_den (σ := { rf := ⟨[], [], 0⟩, hp := ⟨[], [], 0⟩, n, known := [], dep := 0 }) (env := args.flatMap AV.cells ++ rs) (κ := fun _ => undef) (F := S) (w := w) (vs := xs) (us := vs) (n := fn.ntmps) m1'.symm (fun i x u hx hu => (m3 i x u hx (by simpa using hu)).1)
 rw [← hfr] at fr1 fr2
 have hrel : Rel w (args.flatMap AV.cells ++ rs) (fun _ => undef) S (fun _ => False) σ.tmp σ.blk σ.L { tmps := vs ++ Array.replicate (fn.ntmps - vs.size) undef, defers := [] } w := by
  refine ⟨fr1, fr2, fun b x hx => ?_, fun b c k hb => ?_, fun b k hb => ?_, hS, fun t b hb => ?_, fun b x hx => ?_, Below.refl _ _⟩
  ·rw [hblk] at hx; cases hx
  ·rw [hblk] at hb; cases hb
  ·rw [hblk] at hb; cases hb
  ·rw [hfr] at hb
   exact frame_names (U := fun _ => False) (fun x hx b hb => by
    obtain ⟨i, hi⟩ := List.getElem?_of_mem hx
    have hv : i < vs.size := by rw [← m1']; exact (List.getElem?_eq_some_iff.1 hi).1
    have := (m3 i x vs[i] hi (by simp [hv])).2
    rw [this] at hb; cases hb) t b hb
  ·rw [hblk] at hx; cases hx
 refine (calls_of_leads hf hb hex hl hrel (fun _ _ h => h) hrv).mono ?_
 rintro e w' ⟨u, κ', F', a', rfl, hr, k, hv⟩
 have hfin : ∃ F2, Rel w (args.flatMap AV.cells ++ rs) κ' F2 (fun b => False ∨ (σ.N ≤ b ∧ b < σ'.N)) σ2.tmp σ2.blk σ2.L a' w' ∧ Kept (fun _ => False) σ.blk (fun _ => undef) S w σ2.blk κ' F2 w' ∧ SVden (args.flatMap AV.cells ++ rs) κ' F2 w' v2 u := by
  rcases hcase with ⟨rfl, rfl⟩ | ⟨rfl, rfl⟩
  ·exact ⟨F', hr, k, hv⟩
  ·obtain ⟨y1, y2, y3, y4, _⟩ := write_spec σ' _ (ice_low σ' (rv.flatMap (rowsIn σ'.blk))).1
   obtain ⟨F1, r1, k1⟩ := hr.freeze (rv.flatMap (rowsIn σ'.blk))
   rw [← y1] at r1 k1
   have r1' := r1
   rw [← y3, ← y4] at r1'
   refine ⟨F1, r1', k.trans k1 (fun _ h => h.elim), nz_den (b0 := w.heap.size) (fun b e t l hb => r1.blks b _ hb) (hv.keep (fun _ _ => rfl) k1.mono (fun _ _ => rfl))⟩
 obtain ⟨F2, hr, k, hv⟩ := hfin
 obtain ⟨d1, d2⟩ := res_of_den hr v2 sh re u hre hv
 rw [hret] at d1
 refine ⟨u, F2, _, rfl, d1, flat_nodup _ (nodupB_spec _ hnd) (fun b => ?_) (fun b c j hb hc h1 h2 => hr.inj b c j (d2 b hb) (d2 c hc) (by simpa using h1) (by simpa using h2)), fun j hj hF => ?_, fun j hj => ⟨?_, hr.F j hj⟩, hr.below⟩
 ·cases blockOf (κ' b) <;> simp
 ·obtain ⟨b, hb, hj⟩ := List.mem_flatMap.1 hj
  exact hr.nF b j (d2 b hb) (by simpa using hj) hF
 ·rcases k.new j hj with h1 | h1 | ⟨b, h1, _⟩
  ·exact .inl h1
  ·exact .inr h1
  ·rw [hblk] at h1; cases h1
end Go.Sx
namespace Go.Sx
open Go Go.RowKit Go.Dial
variable {α : Type} {g : α → List Int} {f : α → List Value} {k B : Nat} {w w' : World} {v : Value} {l : List α} {P : Program} {A : Option Addr} {c : Nat}
def tupA : Value → Array Value
 | .tuple cs => cs
 | _ => #[]
def R.val : R → Value
 | .i n => .int .i64 n
 | .b x => .bool x
 | .r v => v
 | .row _ _ _ => undef
 | .nil => .tuple #[]
 | .cons x y => .tuple (x.val :: (tupA y.val).toList).toArray
 | .agg x => .agg (tupA x.val)
 | .tup x => .tuple (tupA x.val)
def R.flatB : R → Bool
 | .i _ | .b _ | .nil => true
 | .r v => plainCell v
 | .row _ _ _ => false
 | .cons x y => x.flatB && y.flatB && y.proper
 | .agg x | .tup x => x.flatB && x.proper
theorem rden_uniq {F : Nat → Prop} {base : Nat} : ∀ (r : R) (u : Value) (bs : List Nat), r.flatB = true → RDen F base w r u bs → u = r.val
 | .i _, u, bs, _, h => h.1
 | .b _, u, bs, _, h => h.1
 | .nil, u, bs, _, h => h.1
 | .r v, u, bs, _, h => h.1
 | .row _ _ _, u, bs, hf, _ => by cases hf
 | .cons x y, u, bs, hf, h => by
  simp only [R.flatB, Bool.and_eq_true] at hf
  obtain ⟨p, q, b1, b2, rfl, h1, h2, rfl⟩ := h
  have e1 := rden_uniq x p b1 hf.1.1 h1
  have e2 := rden_uniq y _ b2 hf.1.2 h2
  simp only [R.val, e1, ← e2, tupA]
 | .agg x, u, bs, hf, h => by
  simp only [R.flatB, Bool.and_eq_true] at hf
  obtain ⟨cs, rfl, _, h2⟩ := h
  have e2 := rden_uniq x _ bs hf.1 h2
  simp only [R.val, ← e2, tupA]
 | .tup x, u, bs, hf, h => by
  simp only [R.flatB, Bool.and_eq_true] at hf
  obtain ⟨cs, rfl, _, h2⟩ := h
  have e2 := rden_uniq x _ bs hf.1 h2
  simp only [R.val, ← e2, tupA]
theorem con_calls {fn : Nat} {args : List AV} {r : R} (hc : Con P fn args r) (hr : r.flatB = true) {vs : Array Value} (hvs : ArgsDen (fun k => k < w.heap.size) w vs args) : Calls P fn vs w fun e w' => e = .returned r.val ∧ Below w.heap.size w w' :=
 (hc _ vs w (fun _ h => h) hvs).mono fun _ _ ⟨u, _, bs, he, hd, _, _, _, hb⟩ => ⟨by rw [he, rden_uniq r u bs hr hd], hb⟩
end Go.Sx
namespace Go.Sx
open Go
variable {P : Program}
variable {env : List AV}
theorem least {p : Nat → Prop} (h : ∃ n, p n) : ∃ n, p n ∧ ∀ k, p k → n ≤ k := by
 obtain ⟨n, hn⟩ := h
 induction n using Nat.strongRecOn with
 | _ n ih =>
  by_cases h : ∃ m, m < n ∧ p m
  ·obtain ⟨m, hm, hp⟩ := h
   exact ih m hm hp
  ·exact ⟨n, hn, fun k hk => Nat.not_lt.1 fun hl => h ⟨k, hl, hk⟩⟩
open Classical in
noncomputable def leastOf (p : Nat → Prop) : Nat := if h : ∃ n, p n then (least h).choose else 0
theorem leastOf_spec {p : Nat → Prop} (h : ∃ n, p n) : p (leastOf p) ∧ ∀ k, p k → leastOf p ≤ k := by
 unfold leastOf
 rw [dif_pos h]
 exact (least h).choose_spec
theorem T.den_mono {Post : R → Prop} : ∀ (t : T) {env : List AV} {K K' : Nat → List AV → Prop}, t.den P Post env K → (∀ l us, K l us → K' l us) → t.den P Post env K' := by
 intro t
 induction t with
 | stop _ _ => intro env K K' h _; exact h
 | ret x => intro env K K' h _; exact h
 | need e t ih => intro env K K' h hK; exact ⟨h.1, ih h.2 hK⟩
 | br e a b iha ihb => intro env K K' h hK; exact ⟨fun hb => iha (h.1 hb) hK, fun hb => ihb (h.2 hb) hK⟩
 | call f args sh t ih => intro env K K' h hK; obtain ⟨r, h1, h2, h3⟩ := h; exact ⟨r, h1, h2, ih h3 hK⟩
 | loop lvl inits sorts key locs t ih =>
  intro env K K' h hK
  obtain ⟨I, μ, h1, h2⟩ := h
  refine ⟨I, μ, h1, fun vs hv hI => ih (h2 vs hv hI) fun l us hu => ?_⟩
  unfold upd at hu ⊢
  by_cases e : l = lvl
  ·rw [if_pos e] at hu ⊢; exact hu
  ·rw [if_neg e] at hu ⊢; exact hK _ _ hu
 | again lvl es => intro env K K' h hK; exact hK _ _ h
 | ext f ks vs t ih => intro env K K' h hK; exact ⟨h.1, ih h.2 hK⟩
theorem T.den_loop {Post : R → Prop} {σ : Type} {K : Nat → List AV → Prop} {lvl : Nat} {inits : E} {sorts : List Ty} {key : Nat × Nat × Nat} {locs : List Loc} {t : T} (enc : σ → List AV) (Inv : σ → Prop) (m : σ → Nat) (s0 : σ)
  (h0 : coAll sorts (Sx.den env inits).g = enc s0) (hI : Inv s0)
  (hr : ∀ s, Inv s → t.den P Post (env ++ enc s) (upd K lvl fun us => ∃ s', coAll sorts us = enc s' ∧ Inv s' ∧ m s' < m s)) : (T.loop lvl inits sorts key locs t).den P Post env K := by
 refine ⟨fun vs => ∃ s, vs = enc s ∧ Inv s, fun vs => leastOf fun k => ∃ s, vs = enc s ∧ Inv s ∧ m s = k, ⟨s0, h0, hI⟩, fun vs _ ⟨s, hs, hi⟩ => ?_⟩
 obtain ⟨⟨s1, e1, i1, k1⟩, _⟩ := leastOf_spec (p := fun k => ∃ s, vs = enc s ∧ Inv s ∧ m s = k) ⟨m s, s, hs, hi, rfl⟩
 obtain ⟨L, hL⟩ : ∃ L, L = leastOf fun k => ∃ s, vs = enc s ∧ Inv s ∧ m s = k := ⟨_, rfl⟩
 dsimp only
 rw [← hL] at k1 ⊢
 subst e1
 refine T.den_mono t (hr s1 i1) fun l us h => ?_
 unfold upd at h ⊢
 by_cases e : l = lvl
 ·rw [if_pos e] at h ⊢
  obtain ⟨s', a, b, c⟩ := h
  refine ⟨⟨s', a, b⟩, ?_⟩
  exact Nat.lt_of_le_of_lt ((leastOf_spec (p := fun k => ∃ s, coAll sorts us = enc s ∧ Inv s ∧ m s = k) ⟨m s', s', a, b, rfl⟩).2 _ ⟨s', a, b, rfl⟩) (Nat.lt_of_lt_of_eq c k1)
 ·rw [if_neg e] at h ⊢; exact h
abbrev Lv := List (List AV)
abbrev cA (l : Lv) (i : Int) (k : Nat) : AV := (l.getD i.toNat []).getD k (.int 0)
abbrev cI (l : Lv) (i : Int) (k : Nat) : Int := (cA l i k).i
abbrev cB (l : Lv) (i : Int) (k : Nat) : Bool := (cA l i k).b
abbrev cR (l : Lv) (i : Int) (k : Nat) : Value := (cA l i k).r
abbrev cL (l : Lv) (i : Int) (k : Nat) : Lv := (cA l i k).l
def imin (a b : Int) : Int := if b < a then b else a
def imax (a b : Int) : Int := if a < b then b else a
def iterF {σ α : Type} (step : (σ → Option α) → σ → Option α) : Nat → σ → Option α
 | 0, _ => none
 | n + 1, s => step (iterF step n) s
end Go.Sx
namespace Go.Sx
open Go
variable {P : Program}
noncomputable section
def Ty.sem (t : Ty) : Type := Ty.rec (motive := fun _ => Type) Int Bool Value (fun _ _ => List (List AV)) AV (fun _ _ _ _ => AV) t
def Ty.enc (t : Ty) : AV → t.sem := Ty.rec (motive := fun t => AV → Ty.sem t) AV.i AV.b AV.r (fun _ _ => AV.l) (fun x => x) (fun _ _ _ _ x => x) t
def Ty.dec (t : Ty) : t.sem → AV := Ty.rec (motive := fun t => Ty.sem t → AV) AV.int AV.bool AV.raw (fun r _ => AV.sl r) (fun x => x) (fun _ _ _ _ x => x) t
theorem dec_enc (t : Ty) (x : AV) : t.dec (t.enc x) = co t x := by cases t <;> rfl
def tupT (ts : List Ty) : Type := List.rec (motive := fun _ => Type) Unit (fun a l ih => List.rec (motive := fun _ => Type) a.sem (fun _ _ _ => a.sem × ih) l) ts
def hdX (xs : List AV) : AV := List.rec (motive := fun _ => AV) (.int 0) (fun x _ _ => x) xs
def tlX (xs : List AV) : List AV := List.rec (motive := fun _ => List AV) [] (fun _ l _ => l) xs
def encT (ts : List Ty) : List AV → tupT ts :=
 List.rec (motive := fun ts => List AV → tupT ts) (fun _ => ()) (fun a l => List.rec (motive := fun l => (List AV → tupT l) → List AV → tupT (a :: l)) (fun _ xs => a.enc (hdX xs)) (fun _ _ _ ih xs => (a.enc (hdX xs), ih (tlX xs))) l) ts
def decT (ts : List Ty) : tupT ts → List AV :=
 List.rec (motive := fun ts => tupT ts → List AV) (fun _ => []) (fun a l => List.rec (motive := fun l => (tupT l → List AV) → tupT (a :: l) → List AV) (fun _ s => [a.dec s]) (fun _ _ _ ih s => a.dec s.1 :: ih s.2) l) ts
theorem decT_enc : ∀ (ts : List Ty) (xs : List AV), xs.length = ts.length → decT ts (encT ts xs) = coAll ts xs
 | [], [], _ => rfl
 | [], _ :: _, h => by simp at h
 | _ :: _, [], h => by simp at h
 | [t], [x], _ => by show [t.dec (t.enc x)] = [co t x]; rw [dec_enc]
 | [_], _ :: _ :: _, h => by simp at h
 | t :: b :: ts, x :: xs, h => by
  show t.dec (t.enc x) :: decT (b :: ts) (encT (b :: ts) xs) = co t x :: coAll (b :: ts) xs
  rw [dec_enc, decT_enc (b :: ts) xs (by simpa using h)]
theorem decT_ty {ts : List Ty} {xs : List AV} (h : xs.map AV.ty = ts) : decT ts (encT ts xs) = xs := by
 rw [decT_enc ts xs (by rw [← h, List.length_map]), coAll_id ts xs h]
def RS.tys (sh : RS) : List Ty := RS.rec (motive := fun _ => List Ty) [.int] [.bool] [.raw] (fun _ t => [.sl t]) [] (fun _ _ a b => a ++ b) (fun _ a => a) (fun _ a => a) sh
theorem leaves_ty (r : R) : r.leaves.map AV.ty = r.shape.tys := by
 induction r with
 | cons x y a b => show (x.leaves ++ y.leaves).map AV.ty = x.shape.tys ++ y.shape.tys; rw [List.map_append, a, b]
 | agg x a => exact a
 | tup x a => exact a
 | _ => rfl
def rmk (sh : RS) : List AV → R × List AV :=
 RS.rec (motive := fun _ => List AV → R × List AV) (fun xs => (.i (hdX xs).i, tlX xs)) (fun xs => (.b (hdX xs).b, tlX xs)) (fun xs => (.r (hdX xs).r, tlX xs)) (fun e t xs => (.row e t (hdX xs).l, tlX xs)) (fun xs => (.nil, xs))
  (fun _ _ a b xs => (.cons (a xs).1 (b (a xs).2).1, (b (a xs).2).2)) (fun _ a xs => (.agg (a xs).1, (a xs).2)) (fun _ a xs => (.tup (a xs).1, (a xs).2)) sh
theorem rmk_leaves (r : R) : ∀ rest, rmk r.shape (r.leaves ++ rest) = (r, rest) := by
 induction r with
 | cons x y a b =>
  intro rest
  have h1 := a (y.leaves ++ rest)
  have h2 := b rest
  show ((R.cons (rmk x.shape (x.leaves ++ y.leaves ++ rest)).1 (rmk y.shape (rmk x.shape (x.leaves ++ y.leaves ++ rest)).2).1, (rmk y.shape (rmk x.shape (x.leaves ++ y.leaves ++ rest)).2).2) : R × List AV) = _
  rw [List.append_assoc, h1, h2]
 | agg x a => intro rest; show ((R.agg (rmk x.shape (x.leaves ++ rest)).1, (rmk x.shape (x.leaves ++ rest)).2) : R × List AV) = _; rw [a]
 | tup x a => intro rest; show ((R.tup (rmk x.shape (x.leaves ++ rest)).1, (rmk x.shape (x.leaves ++ rest)).2) : R × List AV) = _; rw [a]
 | _ => intro rest; rfl
theorem rmk_spec (sh : RS) : ∀ xs : List AV, sh.tys.length ≤ xs.length → (rmk sh xs).1.shape = sh ∧ (rmk sh xs).2 = xs.drop sh.tys.length ∧ (rmk sh xs).1.leaves = coAll sh.tys xs := by
 induction sh with
 | cons x y a b =>
  intro xs h
  have hl : (RS.cons x y).tys = x.tys ++ y.tys := rfl
  rw [hl, List.length_append] at h
  obtain ⟨a1, a2, a3⟩ := a xs (by omega)
  obtain ⟨b1, b2, b3⟩ := b (xs.drop x.tys.length) (by rw [List.length_drop]; omega)
  have e : rmk (.cons x y) xs = (R.cons (rmk x xs).1 (rmk y (rmk x xs).2).1, (rmk y (rmk x xs).2).2) := rfl
  rw [e, a2, hl]
  refine ⟨by show RS.cons _ _ = _; rw [a1, b1], by rw [b2, List.drop_drop, List.length_append], ?_⟩
  show (rmk x xs).1.leaves ++ (rmk y (xs.drop x.tys.length)).1.leaves = _
  rw [a3, b3]
  unfold coAll
  conv => rhs; rw [← List.take_append_drop x.tys.length xs]
  rw [List.zipWith_append (by rw [List.length_take]; omega)]
  congr 1
  have : ∀ (ts : List Ty) (xs : List AV), List.zipWith co ts xs = List.zipWith co ts (xs.take ts.length) := by
   intro ts
   induction ts with
   | nil => intro xs; rfl
   | cons t ts ih => intro xs; cases xs with
    | nil => rfl
    | cons z zs => simp [ih zs]
  exact this _ _
 | agg x a => intro xs h; obtain ⟨a1, a2, a3⟩ := a xs h; exact ⟨congrArg RS.agg a1, a2, a3⟩
 | tup x a => intro xs h; obtain ⟨a1, a2, a3⟩ := a xs h; exact ⟨congrArg RS.tup a1, a2, a3⟩
 | nil => intro xs _; exact ⟨rfl, rfl, by cases xs <;> rfl⟩
 | _ =>
  intro xs h
  cases xs with
  | nil => exact absurd h (by simp [RS.tys])
  | cons x xs => exact ⟨rfl, rfl, rfl⟩
def rdec (sh : RS) (z : tupT sh.tys) : R := (rmk sh (decT sh.tys z)).1
theorem decT_len : ∀ (ts : List Ty) (z : tupT ts), (decT ts z).length = ts.length
 | [], _ => rfl
 | [_], _ => rfl
 | _ :: b :: ts, z => by show (_ :: decT (b :: ts) z.2).length = _; rw [List.length_cons, decT_len (b :: ts) z.2]; rfl
theorem co_dec (t : Ty) (s : t.sem) : co t (t.dec s) = t.dec s := by cases t <;> rfl
theorem cg2 {α β γ : Type} (f : α → β → γ) {a a' : α} {b b' : β} (h1 : a = a') (h2 : b = b') : f a b = f a' b' := by subst h1 h2; rfl
theorem coAll_dec : ∀ (ts : List Ty) (z : tupT ts), coAll ts (decT ts z) = decT ts z
 | [], _ => rfl
 | [t], z => congrArg (fun x => [x]) (co_dec t z)
 | t :: b :: ts, z => cg2 List.cons (co_dec t z.1) (coAll_dec (b :: ts) z.2)
theorem rdec_shape (sh : RS) (z : tupT sh.tys) : (rdec sh z).shape = sh := (rmk_spec sh _ (by rw [decT_len]; exact Nat.le_refl _)).1
theorem rdec_leaves (sh : RS) (z : tupT sh.tys) : (rdec sh z).leaves = decT sh.tys z := by
 unfold rdec
 rw [(rmk_spec sh _ (by rw [decT_len]; exact Nat.le_refl _)).2.2, coAll_dec]
theorem rdec_enc {r : R} {sh : RS} (h : r.shape = sh) : rdec sh (encT sh.tys r.leaves) = r := by
 subst h
 unfold rdec
 rw [decT_ty (leaves_ty r)]
 have := rmk_leaves r []
 rw [List.append_nil] at this
 rw [this]
def Ty.eqb (t : Ty) : Ty → Bool :=
 Ty.rec (motive := fun _ => Ty → Bool) (fun u => Ty.rec (motive := fun _ => Bool) true false false (fun _ _ => false) false (fun _ _ _ _ => false) u) (fun u => Ty.rec (motive := fun _ => Bool) false true false (fun _ _ => false) false (fun _ _ _ _ => false) u)
  (fun u => Ty.rec (motive := fun _ => Bool) false false true (fun _ _ => false) false (fun _ _ _ _ => false) u) (fun _ ih u => Ty.rec (motive := fun _ => Bool) false false false (fun r _ => ih r) false (fun _ _ _ _ => false) u)
  (fun u => Ty.rec (motive := fun _ => Bool) false false false (fun _ _ => false) true (fun _ _ _ _ => false) u) (fun _ _ ih1 ih2 u => Ty.rec (motive := fun _ => Bool) false false false (fun _ _ => false) false (fun a b _ _ => and (ih1 a) (ih2 b)) u) t
theorem Ty.eqb_eq {t : Ty} : ∀ {u : Ty}, t.eqb u = true → t = u := by
 induction t with
 | sl r ih => intro u h; cases u <;> first | exact absurd h (by decide) | (rw [ih (show Ty.eqb r _ = true from h)]) | cases h
 | cons a b ih1 ih2 =>
  intro u h
  cases u with
  | cons c d =>
   have h : (Ty.eqb a c && Ty.eqb b d) = true := h
   rw [Bool.and_eq_true] at h
   rw [ih1 h.1, ih2 h.2]
  | _ => cases h
 | _ => intro u h; cases u <;> first | rfl | cases h
def eqTs (ts : List Ty) : List Ty → Bool :=
 List.rec (motive := fun _ => List Ty → Bool) (fun us => List.rec (motive := fun _ => Bool) true (fun _ _ _ => false) us) (fun t _ ih us => List.rec (motive := fun _ => Bool) false (fun u us _ => and (t.eqb u) (ih us)) us) ts
theorem eqTs_eq : ∀ {ts us : List Ty}, eqTs ts us = true → ts = us
 | [], [], _ => rfl
 | [], _ :: _, h => by cases h
 | _ :: _, [], h => by cases h
 | t :: ts, u :: us, h => by
  have h : (Ty.eqb t u && eqTs ts us) = true := h
  rw [Bool.and_eq_true] at h
  rw [Ty.eqb_eq h.1, eqTs_eq h.2]
def RS.eqb (t : RS) : RS → Bool :=
 RS.rec (motive := fun _ => RS → Bool)
  (fun u => RS.rec (motive := fun _ => Bool) true false false (fun _ _ => false) false (fun _ _ _ _ => false) (fun _ _ => false) (fun _ _ => false) u)
  (fun u => RS.rec (motive := fun _ => Bool) false true false (fun _ _ => false) false (fun _ _ _ _ => false) (fun _ _ => false) (fun _ _ => false) u)
  (fun u => RS.rec (motive := fun _ => Bool) false false true (fun _ _ => false) false (fun _ _ _ _ => false) (fun _ _ => false) (fun _ _ => false) u)
  (fun e t u => RS.rec (motive := fun _ => Bool) false false false (fun e' t' => and (Nat.beq e e') (t.eqb t')) false (fun _ _ _ _ => false) (fun _ _ => false) (fun _ _ => false) u)
  (fun u => RS.rec (motive := fun _ => Bool) false false false (fun _ _ => false) true (fun _ _ _ _ => false) (fun _ _ => false) (fun _ _ => false) u)
  (fun _ _ ih1 ih2 u => RS.rec (motive := fun _ => Bool) false false false (fun _ _ => false) false (fun a b _ _ => and (ih1 a) (ih2 b)) (fun _ _ => false) (fun _ _ => false) u)
  (fun _ ih u => RS.rec (motive := fun _ => Bool) false false false (fun _ _ => false) false (fun _ _ _ _ => false) (fun a _ => ih a) (fun _ _ => false) u)
  (fun _ ih u => RS.rec (motive := fun _ => Bool) false false false (fun _ _ => false) false (fun _ _ _ _ => false) (fun _ _ => false) (fun a _ => ih a) u) t
theorem RS.eqb_eq {t : RS} : ∀ {u : RS}, t.eqb u = true → t = u := by
 induction t with
 | row e t =>
  intro u h
  cases u with
  | row e' t' =>
   have h : (Nat.beq e e' && Ty.eqb t t') = true := h
   rw [Bool.and_eq_true] at h
   rw [Nat.eq_of_beq_eq_true h.1, Ty.eqb_eq h.2]
  | _ => cases h
 | cons a b ih1 ih2 =>
  intro u h
  cases u with
  | cons c d =>
   have h : (RS.eqb a c && RS.eqb b d) = true := h
   rw [Bool.and_eq_true] at h
   rw [ih1 h.1, ih2 h.2]
  | _ => cases h
 | agg a ih => intro u h; cases u with
  | agg b => rw [ih (show RS.eqb a b = true from h)]
  | _ => cases h
 | tup a ih => intro u h; cases u with
  | tup b => rw [ih (show RS.eqb a b = true from h)]
  | _ => cases h
 | _ => intro u h; cases u <;> first | rfl | cases h
structure EvX where
 a : AV
 i : Int
 b : Bool
 r : Value
 l : List (List AV)
 g : List AV
 n : Int
def evX (env : List AV) (e : E) : EvX :=
 E.rec (motive := fun _ => EvX)
  (fun i => ⟨lget (.int 0) env i, (lget (.int 0) env i).i, (lget (.int 0) env i).b, (lget (.int 0) env i).r, (lget (.int 0) env i).l, (lget (.int 0) env i).g, (lget (.int 0) env i).num⟩)
  (fun n => ⟨.int n, n, false, undef, [], [], n⟩)
  (fun b => ⟨.bool b, 0, b, undef, [], [], 0⟩)
  (fun s => ⟨.raw (strOf s), 0, false, strOf s, [], [], 0⟩)
  (fun k n => ⟨.raw (.int k n), 0, false, .int k n, [], [], n⟩)
  (fun o _ _ x y => IOp.rec (motive := fun _ => EvX) ⟨.int (x.i + y.i), x.i + y.i, false, undef, [], [], x.i + y.i⟩ ⟨.int (x.i - y.i), x.i - y.i, false, undef, [], [], x.i - y.i⟩ ⟨.int (x.i * y.i), x.i * y.i, false, undef, [], [], x.i * y.i⟩
   ⟨.int (Int.tdiv x.i y.i), Int.tdiv x.i y.i, false, undef, [], [], Int.tdiv x.i y.i⟩ ⟨.int (Int.tmod x.i y.i), Int.tmod x.i y.i, false, undef, [], [], Int.tmod x.i y.i⟩ ⟨.int (imin x.i y.i), imin x.i y.i, false, undef, [], [], imin x.i y.i⟩ ⟨.int (imax x.i y.i), imax x.i y.i, false, undef, [], [], imax x.i y.i⟩
   ⟨.int (IOp.f .and x.i y.i), IOp.f .and x.i y.i, false, undef, [], [], IOp.f .and x.i y.i⟩ ⟨.int (IOp.f .or x.i y.i), IOp.f .or x.i y.i, false, undef, [], [], IOp.f .or x.i y.i⟩ ⟨.int (IOp.f .xor x.i y.i), IOp.f .xor x.i y.i, false, undef, [], [], IOp.f .xor x.i y.i⟩
   ⟨.int (IOp.f .andNot x.i y.i), IOp.f .andNot x.i y.i, false, undef, [], [], IOp.f .andNot x.i y.i⟩ ⟨.int (IOp.f .shl x.i y.i), IOp.f .shl x.i y.i, false, undef, [], [], IOp.f .shl x.i y.i⟩ ⟨.int (IOp.f .shr x.i y.i), IOp.f .shr x.i y.i, false, undef, [], [], IOp.f .shr x.i y.i⟩ o)
  (fun o _ _ x y => COp.rec (motive := fun _ => EvX) ⟨.bool (decide (x.i < y.i)), 0, decide (x.i < y.i), undef, [], [], 0⟩ ⟨.bool (decide (x.i ≤ y.i)), 0, decide (x.i ≤ y.i), undef, [], [], 0⟩ ⟨.bool (decide (x.i = y.i)), 0, decide (x.i = y.i), undef, [], [], 0⟩ o)
  (fun _ x => ⟨.bool (!x.b), 0, !x.b, undef, [], [], 0⟩)
  (fun _ _ x y => ⟨.bool (x.b == y.b), 0, x.b == y.b, undef, [], [], 0⟩)
  (fun _ _ x y => ⟨.bool (x.b && y.b), 0, x.b && y.b, undef, [], [], 0⟩)
  (fun _ _ x y => ⟨.bool ((AV.raw x.r).s == (AV.raw y.r).s), 0, (AV.raw x.r).s == (AV.raw y.r).s, undef, [], [], 0⟩)
  (fun _ x => ⟨.int (x.l.length : Int), (x.l.length : Int), false, undef, [], [], (x.l.length : Int)⟩)
  (fun _ x => ⟨.int ((AV.raw x.r).s.length : Int), ((AV.raw x.r).s.length : Int), false, undef, [], [], ((AV.raw x.r).s.length : Int)⟩)
  (fun _ _ k x y => ⟨cA x.l y.i k, cI x.l y.i k, cB x.l y.i k, cR x.l y.i k, cL x.l y.i k, (cA x.l y.i k).g, (cA x.l y.i k).num⟩)
  ⟨.agg [], 0, false, undef, [], [], 0⟩
  (fun _ _ x y => ⟨.agg (x.a :: y.g), 0, false, undef, [], x.a :: y.g, 0⟩)
  ⟨.sl .nil [], 0, false, undef, [], [], 0⟩
  (fun _ _ x y => ⟨.sl .nil (x.l ++ [y.g]), 0, false, undef, x.l ++ [y.g], [], 0⟩)
  (fun _ _ x y => ⟨.sl .nil (x.l ++ y.l), 0, false, undef, x.l ++ y.l, [], 0⟩)
  (fun _ _ x y => ⟨.sl .nil (List.take y.i.toNat x.l), 0, false, undef, List.take y.i.toNat x.l, [], 0⟩)
  (fun _ _ x y => ⟨.sl .nil (List.drop y.i.toNat x.l), 0, false, undef, List.drop y.i.toNat x.l, [], 0⟩)
  (fun _ _ k _ x y z => ⟨.sl .nil (List.modify x.l y.i.toNat (fun r => r.set k z.a)), 0, false, undef, List.modify x.l y.i.toNat (fun r => r.set k z.a), [], 0⟩)
  (fun _ _ x y => ⟨.sl .nil (List.replicate x.i.toNat y.g), 0, false, undef, List.replicate x.i.toNat y.g, [], 0⟩)
  (fun t _ x => ⟨.sl t x.l, 0, false, undef, x.l, [], 0⟩)
  (fun _ _ x y => ⟨.sl .nil (List.take x.l.length y.l ++ List.drop y.l.length x.l), 0, false, undef, List.take x.l.length y.l ++ List.drop y.l.length x.l, [], 0⟩)
  (fun t _ x => Ty.rec (motive := fun _ => EvX) ⟨.int x.i, x.i, false, undef, [], [], x.i⟩ ⟨.bool x.b, 0, x.b, undef, [], [], 0⟩ ⟨.raw x.r, 0, false, x.r, [], [], (AV.raw x.r).num⟩ (fun r _ => ⟨.sl r x.l, 0, false, undef, x.l, [], 0⟩) x (fun _ _ _ _ => x) t)
  (fun k _ x => ⟨.raw (.int k (k.wrap x.n)), 0, false, .int k (k.wrap x.n), [], [], k.wrap x.n⟩)
  (fun _ x => ⟨.int (IntKind.wrap .i64 x.n), IntKind.wrap .i64 x.n, false, undef, [], [], IntKind.wrap .i64 x.n⟩)
  (fun o k _ _ x y => ⟨.raw (.int k (kopf o k x.n y.n)), 0, false, .int k (kopf o k x.n y.n), [], [], kopf o k x.n y.n⟩)
  (fun o _ _ x y => COp.rec (motive := fun _ => EvX) ⟨.bool (decide (x.n < y.n)), 0, decide (x.n < y.n), undef, [], [], 0⟩ ⟨.bool (decide (x.n ≤ y.n)), 0, decide (x.n ≤ y.n), undef, [], [], 0⟩ ⟨.bool (decide (x.n = y.n)), 0, decide (x.n = y.n), undef, [], [], 0⟩ o) e
def EvX.ok (x : EvX) (y : AV) : Prop := x.a = y ∧ x.i = y.i ∧ x.b = y.b ∧ x.r = y.r ∧ x.l = y.l ∧ x.g = y.g ∧ x.n = y.num
theorem ok_int {a b : Int} (h : a = b) : EvX.ok ⟨.int a, a, false, undef, [], [], a⟩ (.int b) := by subst h; exact ⟨rfl, rfl, rfl, rfl, rfl, rfl, rfl⟩
theorem ok_any {a b : AV} (h : a = b) : EvX.ok ⟨a, a.i, a.b, a.r, a.l, a.g, a.num⟩ b := by subst h; exact ⟨rfl, rfl, rfl, rfl, rfl, rfl, rfl⟩
theorem ok_bool {a b : Bool} (h : a = b) : EvX.ok ⟨.bool a, 0, a, undef, [], [], 0⟩ (.bool b) := by subst h; exact ⟨rfl, rfl, rfl, rfl, rfl, rfl, rfl⟩
theorem ok_raw {a b : Value} (h : a = b) : EvX.ok ⟨.raw a, 0, false, a, [], [], (AV.raw a).num⟩ (.raw b) := by subst h; exact ⟨rfl, rfl, rfl, rfl, rfl, rfl, rfl⟩
theorem ok_sl {t : Ty} {a b : List (List AV)} (h : a = b) : EvX.ok ⟨.sl t a, 0, false, undef, a, [], 0⟩ (.sl t b) := by subst h; exact ⟨rfl, rfl, rfl, rfl, rfl, rfl, rfl⟩
theorem ok_agg {a b : List AV} (h : a = b) : EvX.ok ⟨.agg a, 0, false, undef, [], a, 0⟩ (.agg b) := by subst h; exact ⟨rfl, rfl, rfl, rfl, rfl, rfl, rfl⟩
section
variable {x : EvX} {y : AV} (h : x.ok y)
include h
theorem EvX.ok.A : x.a = y := h.1
theorem EvX.ok.I : x.i = y.i := h.2.1
theorem EvX.ok.B : x.b = y.b := h.2.2.1
theorem EvX.ok.R : x.r = y.r := h.2.2.2.1
theorem EvX.ok.L : x.l = y.l := h.2.2.2.2.1
theorem EvX.ok.G : x.g = y.g := h.2.2.2.2.2.1
theorem EvX.ok.N : x.n = y.num := h.2.2.2.2.2.2
end
theorem evX_ok (env : List AV) (e : E) : (evX env e).ok (den env e) := by
 induction e with
 | v i => refine ⟨?_, ?_, ?_, ?_, ?_, ?_, ?_⟩ <;> simp only [evX, den, lget_eq]
 | int n => exact ok_int rfl
 | bool n => exact ok_bool rfl
 | str n => exact ok_raw rfl
 | oint k n => exact ok_raw rfl
 | ii o a b iha ihb =>
  have h := fun o => cg2 (IOp.f o) iha.I ihb.I
  cases o with
  | add => exact ok_int (h .add)
  | sub => exact ok_int (h .sub)
  | mul => exact ok_int (h .mul)
  | quo => exact ok_int (h .quo)
  | rem => exact ok_int (h .rem)
  | min => exact ok_int (h .min)
  | max => exact ok_int (h .max)
  | and => exact ok_int (h .and)
  | or => exact ok_int (h .or)
  | xor => exact ok_int (h .xor)
  | andNot => exact ok_int (h .andNot)
  | shl => exact ok_int (h .shl)
  | shr => exact ok_int (h .shr)
 | cmp o a b iha ihb =>
  have h := fun o => cg2 (COp.f o) iha.I ihb.I
  cases o with
  | lt => exact ok_bool (h .lt)
  | le => exact ok_bool (h .le)
  | eq => exact ok_bool (h .eq)
 | not a ih => have h := congrArg not ih.B; exact ok_bool h
 | beq a b iha ihb => have h := cg2 BEq.beq iha.B ihb.B; exact ok_bool h
 | and a b iha ihb => have h := cg2 and iha.B ihb.B; exact ok_bool h
 | seq a b iha ihb => have h := cg2 (fun x y => (AV.raw x).s == (AV.raw y).s) iha.R ihb.R; exact ok_bool h
 | len a ih => have h := congrArg (fun l => ((List.length l : Nat) : Int)) ih.L; exact ok_int h
 | slen a ih => have h := congrArg (fun x => (((AV.raw x).s.length : Nat) : Int)) ih.R; exact ok_int h
 | cell a b k iha ihb => have h := cg2 (fun x y => cA x y k) iha.L ihb.I; exact ok_any h
 | rnil => exact ok_agg rfl
 | rcons a b iha ihb => have h := cg2 List.cons iha.A ihb.G; exact ok_agg h
 | lnil => exact ok_sl rfl
 | snoc a b iha ihb => have h := cg2 (fun x y => x ++ [y]) iha.L ihb.G; exact ok_sl h
 | app a b iha ihb => have h := cg2 (fun x y => x ++ y) iha.L ihb.L; exact ok_sl h
 | take a b iha ihb => have h := cg2 (fun x y => List.take (Int.toNat y) x) iha.L ihb.I; exact ok_sl h
 | drop a b iha ihb => have h := cg2 (fun x y => List.drop (Int.toNat y) x) iha.L ihb.I; exact ok_sl h
 | set a b k c iha ihb ihc => have h := cg2 (fun (p : List (List AV) × Int) z => List.modify p.1 (Int.toNat p.2) fun r => List.set r k z) (cg2 Prod.mk iha.L ihb.I) ihc.A; exact ok_sl h
 | rep a b iha ihb => have h := cg2 (fun x y => List.replicate (Int.toNat x) y) iha.I ihb.G; exact ok_sl h
 | typed t a ih => exact ok_sl ih.L
 | cpy a b iha ihb => have h := cg2 (fun x y => List.take (List.length x) y ++ List.drop (List.length y) x) iha.L ihb.L; exact ok_sl h
 | co t a ih =>
  cases t with
  | int => exact ok_int ih.I
  | bool => exact ok_bool ih.B
  | raw => exact ok_raw ih.R
  | sl r => exact ok_sl ih.L
  | nil => exact ih
  | cons x y => exact ih
 | kin k a ih => have h := congrArg (fun x => Value.int k (k.wrap x)) ih.N; exact ok_raw h
 | kout a ih => have h := congrArg (IntKind.wrap .i64) ih.N; exact ok_int h
 | kop o k a b iha ihb => have h := cg2 (fun x y => Value.int k (kopf o k x y)) iha.N ihb.N; exact ok_raw h
 | kcmp o a b iha ihb =>
  have h := fun o => cg2 (COp.f o) iha.N ihb.N
  cases o with
  | lt => exact ok_bool (h .lt)
  | le => exact ok_bool (h .le)
  | eq => exact ok_bool (h .eq)
def reL (env : List AV) (x : RE) : List AV := RE.rec (motive := fun _ => List AV) (fun e => [.int (evX env e).i]) (fun e => [.bool (evX env e).b]) (fun e => [.raw (evX env e).r]) (fun _ t e => [.sl t (evX env e).l]) [] (fun _ _ a b => a ++ b) (fun _ a => a) (fun _ a => a) x
def reS (x : RE) : RS := RE.rec (motive := fun _ => RS) (fun _ => .i) (fun _ => .b) (fun _ => .r) (fun e t _ => .row e t) .nil (fun _ _ a b => .cons a b) (fun _ a => .agg a) (fun _ a => .tup a) x
theorem reL_eq (env : List AV) (x : RE) : reL env x = (x.den env).leaves := by
 induction x with
 | i e => show [AV.int _] = [AV.int _]; rw [(evX_ok env e).2.1]
 | b e => show [AV.bool _] = [AV.bool _]; rw [(evX_ok env e).2.2.1]
 | r e => show [AV.raw _] = [AV.raw _]; rw [(evX_ok env e).2.2.2.1]
 | row a t e => show [AV.sl _ _] = [AV.sl _ _]; rw [(evX_ok env e).2.2.2.2.1]
 | nil => rfl
 | cons x y a b => show reL env x ++ reL env y = _ ++ _; rw [a, b]
 | agg x a => exact a
 | tup x a => exact a
theorem reS_eq (env : List AV) (x : RE) : reS x = (x.den env).shape := by
 induction x with
 | cons x y a b => show RS.cons (reS x) (reS y) = .cons _ _; rw [a, b]
 | agg x a => show RS.agg (reS x) = .agg _; rw [a]
 | tup x a => show RS.tup (reS x) = .tup _; rw [a]
 | _ => rfl
abbrev Ps := List (Bool × List Ty)
def Ps.tys (ps : Ps) : List Ty := List.rec (motive := fun _ => List Ty) [] (fun p _ ih => p.2 ++ ih) ps
def AV.aggB (ts : List Ty) : AV → Bool
 | .agg l => eqTs (l.map AV.ty) ts
 | _ => false
def AV.oneB (ts : List Ty) : AV → Bool
 | .agg _ => false
 | .int _ => eqTs [.int] ts
 | .bool _ => eqTs [.bool] ts
 | .raw _ => eqTs [.raw] ts
 | .sl t _ => eqTs [.sl t] ts
def chkA (ps : Ps) : List AV → Bool :=
 List.rec (motive := fun _ => List AV → Bool) (fun xs => List.rec (motive := fun _ => Bool) true (fun _ _ _ => false) xs)
  (fun p _ ih xs => List.rec (motive := fun _ => Bool) false (fun x xs _ => and (Bool.rec (motive := fun _ => Bool) (x.oneB p.2) (x.aggB p.2) p.1) (ih xs)) xs) ps
def cellsA (xs : List AV) : List AV := List.rec (motive := fun _ => List AV) [] (fun x _ ih => AV.cells x ++ ih) xs
def agrp (ps : Ps) : List AV → List AV := List.rec (motive := fun _ => List AV → List AV) (fun _ => []) (fun p _ ih xs => Bool.rec (motive := fun _ => AV) (hdX xs) (.agg (xs.take p.2.length)) p.1 :: ih (xs.drop p.2.length)) ps
def adec (ps : Ps) (s : tupT (Ps.tys ps)) : List AV := agrp ps (decT (Ps.tys ps) s)
theorem chkA_ok : ∀ (ps : Ps) (xs : List AV), chkA ps xs = true → agrp ps (cellsA xs) = xs ∧ (cellsA xs).map AV.ty = Ps.tys ps
 | [], [], _ => ⟨rfl, rfl⟩
 | [], _ :: _, h => by cases h
 | _ :: _, [], h => by cases h
 | (true, ts) :: ps, x :: xs, h => by
  have h : (x.aggB ts && chkA ps xs) = true := h
  rw [Bool.and_eq_true] at h
  obtain ⟨h1, h2⟩ := chkA_ok ps xs h.2
  cases x with
  | agg l =>
   have hl := eqTs_eq h.1
   have hlen : ts.length = l.length := by rw [← hl, List.length_map]
   constructor
   ·show AV.agg ((l ++ cellsA xs).take ts.length) :: agrp ps ((l ++ cellsA xs).drop ts.length) = _
    rw [hlen, List.take_left, List.drop_left, h1]
   ·show (l ++ cellsA xs).map AV.ty = ts ++ Ps.tys ps
    rw [List.map_append, hl, h2]
  | _ => cases h.1
 | (false, ts) :: ps, x :: xs, h => by
  have h : (x.oneB ts && chkA ps xs) = true := h
  rw [Bool.and_eq_true] at h
  obtain ⟨h1, h2⟩ := chkA_ok ps xs h.2
  cases x with
  | agg l => cases h.1
  | _ =>
   have hx := eqTs_eq (us := ts) (ts := [_]) h.1
   subst hx
   constructor
   ·show hdX (_ :: cellsA xs) :: agrp ps (cellsA xs) = _
    rw [h1]; rfl
   ·show _ :: (cellsA xs).map AV.ty = _ :: Ps.tys ps
    rw [h2]; rfl
theorem adec_enc {ps : Ps} {xs : List AV} (h : chkA ps xs = true) : adec ps (encT (Ps.tys ps) (cellsA xs)) = xs := by
 obtain ⟨h1, h2⟩ := chkA_ok ps xs h
 unfold adec
 rw [decT_ty h2, h1]
theorem cellsA_eq (xs : List AV) : cellsA xs = xs.flatMap AV.cells := by
 induction xs with
 | nil => rfl
 | cons x xs ih => show AV.cells x ++ cellsA xs = _; rw [ih, List.flatMap_cons]
structure FnT where
 ps : Ps
 sh : RS
 fn : Nat → tupT (Ps.tys ps) → Option (tupT sh.tys)
def FnT.ok (P : Program) (f : Nat) (F : FnT) : Prop := ∀ (n : Nat) (s : tupT (Ps.tys F.ps)) (z : tupT F.sh.tys), F.fn n s = some z → Con P f (adec F.ps s) (rdec F.sh z)
abbrev Tab := List (Nat × FnT)
def Tab.ok (P : Program) (tab : Tab) : Prop := ∀ x ∈ tab, x.2.ok P x.1
abbrev MTab := List (Nat × SV × SV)
def MTab.ok (P : Program) (mt : MTab) : Prop := ∀ x ∈ mt, MapFn P x.1 x.2.1 x.2.2
def findF {β : Type} (tab : Tab) (f : Nat) (k : FnT → Option β) : Option β := List.rec (motive := fun _ => Option β) none (fun x _ ih => Bool.rec (motive := fun _ => Option β) ih (k x.2) (Nat.beq x.1 f)) tab
theorem findF_ok {β : Type} {tab : Tab} {f : Nat} {k : FnT → Option β} {z : β} (h : findF tab f k = some z) : ∃ F, (f, F) ∈ tab ∧ k F = some z := by
 induction tab with
 | nil => cases h
 | cons x tab ih =>
  have h : Bool.rec (motive := fun _ => Option β) (findF tab f k) (k x.2) (Nat.beq x.1 f) = some z := h
  cases hb : Nat.beq x.1 f with
  | true =>
   rw [hb] at h
   have := Nat.eq_of_beq_eq_true hb
   subst this
   exact ⟨x.2, List.mem_cons_self .., h⟩
  | false =>
   rw [hb] at h
   obtain ⟨F, h1, h2⟩ := ih h
   exact ⟨F, List.mem_cons_of_mem _ h1, h2⟩
def hasM (mt : MTab) (f : Nat) (ks vs : SV) : Bool := List.rec (motive := fun _ => Bool) false (fun x _ ih => or (and (Nat.beq x.1 f) (and (decide (x.2.1 = ks)) (decide (x.2.2 = vs)))) ih) mt
theorem hasM_ok {mt : MTab} {f : Nat} {ks vs : SV} (h : hasM mt f ks vs = true) : (f, ks, vs) ∈ mt := by
 induction mt with
 | nil => cases h
 | cons x mt ih =>
  have h : ((Nat.beq x.1 f && (decide (x.2.1 = ks) && decide (x.2.2 = vs))) || hasM mt f ks vs) = true := h
  rw [Bool.or_eq_true, Bool.and_eq_true, Bool.and_eq_true, decide_eq_true_iff, decide_eq_true_iff] at h
  rcases h with ⟨h1, h2, h3⟩ | h
  ·have := Nat.eq_of_beq_eq_true h1
   obtain ⟨a, b, c⟩ := x
   dsimp only at this h2 h3
   subst this h2 h3
   exact List.mem_cons_self ..
  ·exact List.mem_cons_of_mem _ (ih h)
def T.fn (tab : Tab) (mt : MTab) (n : Nat) (sh : RS) (t : T) : List AV → (Nat → List AV → Option (tupT sh.tys)) → Option (tupT sh.tys) :=
 T.rec (motive := fun _ => List AV → (Nat → List AV → Option (tupT sh.tys)) → Option (tupT sh.tys))
  (fun _ _ _ _ => none)
  (fun x env _ => Bool.rec (motive := fun _ => Option (tupT sh.tys)) none (some (encT sh.tys (reL env x))) ((reS x).eqb sh))
  (fun e _ t env K => cond (evX env e).b (t env K) none)
  (fun e _ _ a b env K => cond (evX env e).b (a env K) (b env K))
  (fun f args sh' _ t env K => findF tab f fun F => Bool.rec (motive := fun _ => Option (tupT sh.tys)) none (Option.bind (F.fn n (encT (Ps.tys F.ps) (cellsA (evX env args).g))) fun y => t (env ++ decT F.sh.tys y) K) (and (F.sh.eqb sh') (chkA F.ps (evX env args).g)))
  (fun lvl inits sorts _ _ _ t env K => Bool.rec (motive := fun _ => Option (tupT sh.tys)) none (iterF (σ := tupT sorts) (fun go s => t (env ++ decT sorts s) fun l us => Bool.rec (motive := fun _ => Option (tupT sh.tys)) (K l us) (Bool.rec (motive := fun _ => Option (tupT sh.tys)) none (go (encT sorts us)) (Nat.beq us.length sorts.length)) (Nat.beq l lvl)) n (encT sorts (evX env inits).g)) (Nat.beq (evX env inits).g.length sorts.length))
  (fun lvl es env K => K lvl (evX env es).g)
  (fun f ks vs _ t env K => Bool.rec (motive := fun _ => Option (tupT sh.tys)) none (t env K) (hasM mt f ks vs)) t
theorem T.fn_den {tab : Tab} {mt : MTab} {n : Nat} {sh : RS} (hC : tab.ok P) (hM : mt.ok P) {z : tupT sh.tys} : ∀ (t : T) (env : List AV) (K : Nat → List AV → Option (tupT sh.tys)) (K' : Nat → List AV → Prop), t.fn tab mt n sh env K = some z → (∀ l us, K l us = some z → K' l us) → t.den P (· = rdec sh z) env K' := by
 intro t
 induction t with
 | stop _ _ => intro env K K' h _; cases h
 | ret x =>
  intro env K K' h _
  have h : Bool.rec (motive := fun _ => Option (tupT sh.tys)) none (some (encT sh.tys (reL env x))) ((reS x).eqb sh) = some z := h
  cases hb : (reS x).eqb sh with
  | false => rw [hb] at h; cases h
  | true =>
   rw [hb] at h
   have h : some (encT sh.tys (reL env x)) = some z := h
   have hs := RS.eqb_eq hb
   rw [reS_eq env x] at hs
   show x.den env = rdec sh z
   rw [← Option.some.inj h, reL_eq, rdec_enc hs]
 | need e t ih =>
  intro env K K' h hK
  have h : cond (evX env e).b (t.fn tab mt n sh env K) none = some z := h
  rw [(evX_ok env e).2.2.1] at h
  cases hb : (Sx.den env e).b with
  | false => rw [hb] at h; cases h
  | true => rw [hb] at h; exact ⟨hb, ih env K K' h hK⟩
 | br e a b iha ihb =>
  intro env K K' h hK
  have h : cond (evX env e).b (a.fn tab mt n sh env K) (b.fn tab mt n sh env K) = some z := h
  rw [(evX_ok env e).2.2.1] at h
  refine ⟨fun hb => ?_, fun hb => ?_⟩
  ·rw [hb] at h; exact iha env K K' h hK
  ·rw [hb] at h; exact ihb env K K' h hK
 | call f args sh' t ih =>
  intro env K K' h hK
  have h : (findF tab f fun F => Bool.rec (motive := fun _ => Option (tupT sh.tys)) none (Option.bind (F.fn n (encT (Ps.tys F.ps) (cellsA (evX env args).g))) fun y => t.fn tab mt n sh (env ++ decT F.sh.tys y) K) (and (F.sh.eqb sh') (chkA F.ps (evX env args).g))) = some z := h
  obtain ⟨F, h1, h2⟩ := findF_ok h
  cases hb : (F.sh.eqb sh' && chkA F.ps (evX env args).g) with
  | false => rw [show (and (F.sh.eqb sh') (chkA F.ps (evX env args).g)) = false from hb] at h2; cases h2
  | true =>
   rw [show (and (F.sh.eqb sh') (chkA F.ps (evX env args).g)) = true from hb] at h2
   obtain ⟨y, hy, hz⟩ := Option.bind_eq_some_iff.1 (show Option.bind (F.fn n (encT (Ps.tys F.ps) (cellsA (evX env args).g))) _ = some z from h2)
   rw [Bool.and_eq_true] at hb
   have hs := RS.eqb_eq hb.1
   have hc := hC _ h1 n _ y hy
   dsimp only at hc
   rw [adec_enc hb.2, (evX_ok env args).2.2.2.2.2.1] at hc
   refine ⟨rdec F.sh y, by rw [rdec_shape, hs], hc, ?_⟩
   rw [rdec_leaves]
   exact ih _ K K' hz hK
 | loop lvl inits sorts key locs t ih =>
  intro env K K' h hK
  have h : Bool.rec (motive := fun _ => Option (tupT sh.tys)) none (iterF (σ := tupT sorts) (fun go s => t.fn tab mt n sh (env ++ decT sorts s) fun l us => Bool.rec (motive := fun _ => Option (tupT sh.tys)) (K l us) (Bool.rec (motive := fun _ => Option (tupT sh.tys)) none (go (encT sorts us)) (Nat.beq us.length sorts.length)) (Nat.beq l lvl)) n (encT sorts (evX env inits).g)) (Nat.beq (evX env inits).g.length sorts.length) = some z := h
  cases hl : Nat.beq (evX env inits).g.length sorts.length with
  | false => rw [hl] at h; cases h
  | true =>
   rw [hl] at h
   have h : iterF (σ := tupT sorts) (fun go s => t.fn tab mt n sh (env ++ decT sorts s) fun l us => Bool.rec (motive := fun _ => Option (tupT sh.tys)) (K l us) (Bool.rec (motive := fun _ => Option (tupT sh.tys)) none (go (encT sorts us)) (Nat.beq us.length sorts.length)) (Nat.beq l lvl)) n (encT sorts (evX env inits).g) = some z := h
   obtain ⟨step, hstep⟩ : ∃ step, step = fun (go : tupT sorts → Option (tupT sh.tys)) (s : tupT sorts) => t.fn tab mt n sh (env ++ decT sorts s) fun l us => Bool.rec (motive := fun _ => Option (tupT sh.tys)) (K l us) (Bool.rec (motive := fun _ => Option (tupT sh.tys)) none (go (encT sorts us)) (Nat.beq us.length sorts.length)) (Nat.beq l lvl) := ⟨_, rfl⟩
   rw [← hstep] at h
   refine T.den_loop (decT sorts) (fun s => ∃ m, iterF step m s = some z) (fun s => leastOf fun m => iterF step m s = some z) (encT sorts (evX env inits).g) ?_ ⟨n, h⟩ fun s hI => ?_
   ·rw [decT_enc _ _ (Nat.eq_of_beq_eq_true hl), (evX_ok env inits).2.2.2.2.2.1]
   obtain ⟨h1, h2⟩ := leastOf_spec hI
   obtain ⟨m, hm⟩ : ∃ m, m = leastOf fun m => iterF step m s = some z := ⟨_, rfl⟩
   rw [← hm] at h1 h2 ⊢
   cases m with
   | zero => cases h1
   | succ m =>
    have h1 : step (iterF step m) s = some z := h1
    have hst : step (iterF step m) s = t.fn tab mt n sh (env ++ decT sorts s) fun l us => Bool.rec (motive := fun _ => Option (tupT sh.tys)) (K l us) (Bool.rec (motive := fun _ => Option (tupT sh.tys)) none (iterF step m (encT sorts us)) (Nat.beq us.length sorts.length)) (Nat.beq l lvl) := by rw [hstep]
    rw [hst] at h1
    refine ih _ _ _ h1 fun l us hu => ?_
    unfold upd
    cases hb : Nat.beq l lvl with
    | true =>
     rw [hb] at hu
     have := Nat.eq_of_beq_eq_true hb
     rw [if_pos this]
     cases hc : Nat.beq us.length sorts.length with
     | false => rw [hc] at hu; cases hu
     | true =>
      rw [hc] at hu
      have hu : iterF step m (encT sorts us) = some z := hu
      exact ⟨encT sorts us, (decT_enc _ _ (Nat.eq_of_beq_eq_true hc)).symm, ⟨m, hu⟩, Nat.lt_succ_of_le ((leastOf_spec ⟨m, hu⟩).2 m hu)⟩
    | false =>
     rw [hb] at hu
     have : l ≠ lvl := fun e => by subst e; rw [show Nat.beq l l = true from Nat.beq_refl l] at hb; cases hb
     rw [if_neg this]
     exact hK _ _ hu
 | again lvl es =>
  intro env K K' h hK
  have h : K lvl (evX env es).g = some z := h
  rw [(evX_ok env es).2.2.2.2.2.1] at h
  exact hK _ _ h
 | ext f ks vs t ih =>
  intro env K K' h hK
  have h : Bool.rec (motive := fun _ => Option (tupT sh.tys)) none (t.fn tab mt n sh env K) (hasM mt f ks vs) = some z := h
  cases hb : hasM mt f ks vs with
  | false => rw [hb] at h; cases h
  | true => rw [hb] at h; exact ⟨hM _ (hasM_ok hb), ih env K K' h hK⟩
theorem FnT.ok_of {cfg : Cfg} {f : Nat} {F : FnT} {tab : Tab} {mt : MTab} (hfit : PFit P) (hC : tab.ok P) (hM : mt.ok P) (ho : ∀ s fn, P.funcs[f]? = some fn → argsOK P fn.params.toList (adec F.ps s) = true)
  (h : ∀ n s, (symFn P cfg f).fn tab mt n F.sh (cellsA (adec F.ps s)) (fun _ _ => none) = F.fn n s) : F.ok P f := fun n s z hz => by
 rw [← h n s] at hz
 exact con_of_sym (cfg := cfg) (K := fun _ _ => False) hfit (ho s) (by rw [← cellsA_eq]; exact T.fn_den hC hM _ _ _ _ hz fun _ _ h => by cases h)
theorem Tab.ok_nil : Tab.ok P [] := fun _ h => by cases h
theorem Tab.ok_cons {f : Nat} {F : FnT} {tab : Tab} (h : F.ok P f) (ht : tab.ok P) : Tab.ok P ((f, F) :: tab) := fun x hx => by
 rcases List.mem_cons.1 hx with rfl | hx
 ·exact h
 ·exact ht x hx
end
end Go.Sx
namespace Go.Proofs.YtjllgiddmeiaoaaGreat
open Go Go.Sx
theorem try_names : Tryz.prog.funcs.toList.all (fun fn => fn.name != "runtime.NumGoroutine") = true := by kernel_rfl
theorem try_mix : Tryz.prog.follows .mixedOrders = true := by kernel_rfl
theorem pfit : PFit Tryz.prog := ⟨try_mix, fun f fn h => by
 have h1 : fn ∈ Tryz.prog.funcs.toList := by rw [Array.mem_toList_iff]; exact Array.mem_of_getElem? h
 have h2 := List.all_eq_true.1 try_names fn h1
 simpa using h2⟩
end Go.Proofs.YtjllgiddmeiaoaaGreat
set_option maxRecDepth 100000
namespace Go.Proofs.YtjllgiddmeiaoaaGreat
open Go Go.Sx
noncomputable section
def consD1 : List Nat := [5, 6, 7, 8, 9, 10, 11, 12, 13, 14, 15, 16, 17, 18, 19, 20, 21, 22, 23, 24, 28, 29, 30, 31, 32, 33, 34, 35, 36, 37, 39, 41, 42, 43, 45, 47, 48, 49, 50, 51, 64, 66, 67, 69, 70, 73, 75, 76, 77, 79, 80, 81, 86, 88, 100, 101, 102, 103, 108, 111, 113, 114, 115, 132, 133, 142, 1000007, 1000008, 1000036, 1000037]
def mapsD1 : List (Nat × SV × SV) := [(117, SV.of [.agg (SV.of [.vi (.int 1), .vi (.int 1)]), .agg (SV.of [.vi (.int 2), .vi (.int 1)]), .agg (SV.of [.vi (.int 3), .vi (.int 2)]), .agg (SV.of [.vi (.int 4), .vi (.int 2)]), .agg (SV.of [.vi (.int 5), .vi (.int 1)]), .agg (SV.of [.vi (.int 5), .vi (.int 2)]), .agg (SV.of [.vi (.int 5), .vi (.int 3)]), .agg (SV.of [.vi (.int 6), .vi (.int 4)])], SV.of [.vi (.int 3), .vi (.int 2), .vi (.int 3), .vi (.int 6), .vi (.int 7), .vi (.int 7), .vi (.int 7), .vi (.int 8)])]
def Tab0 : Tab := []
theorem Tab0_ok : Tab0.ok Tryz.prog := Tab.ok_nil
def mt0 : MTab := []
theorem mt0_ok : mt0.ok Tryz.prog := fun _ h => by cases h
abbrev ref14_pick_a := Int
def ref14_pick_1 (n : Nat) (v0 v1 : Int) : Option ref14_pick_a :=
 (bif (decide (v0 < 0)) then bif ((decide ((-9223372036854775808) ≤ (v0 + 1))) && (decide ((v0 + 1) ≤ 9223372036854775807))) then bif ((decide ((-9223372036854775808) ≤ (0 - (v0 + 1)))) && (decide ((0 - (v0 + 1)) ≤ 9223372036854775807))) then bif (!(decide (v1 = 0))) then some (Int.tmod (0 - (v0 + 1)) v1) else none else none else none
 else bif (!(decide (v1 = 0))) then some (Int.tmod v0 v1) else none)
def ref14_pick (n : Nat) (v0 v1 : Int) : Option ref14_pick_a := ref14_pick_1 n v0 v1
def ref14_pick_t : FnT := ⟨[(false, [.int]), (false, [.int])], .i, fun n (s : Int × Int) => ref14_pick n s.1 s.2⟩
theorem ref14_pick_ok : ref14_pick_t.ok Tryz.prog 70 := FnT.ok_of (cfg := ⟨[], consD1, [], mapsD1⟩) (tab := Tab0) (mt := mt0) pfit Tab0_ok mt0_ok (fun s fn hf => by rw [Tryz.func70] at hf; cases hf; kernel_rfl) (fun n s => by kernel_rfl)
def ref14_pick_T : Tab := (70, ref14_pick_t) :: Tab0
theorem ref14_pick_T_ok : ref14_pick_T.ok Tryz.prog := Tab.ok_cons ref14_pick_ok Tab0_ok
abbrev ref14_Valid_a := Bool
def ref14_Valid_1 (n : Nat) (v0 v1 v2 v3 : Int) : Option ref14_Valid_a :=
 (bif (decide (0 ≤ v0)) then (bif (!(decide (v0 ≤ 3))) then some false
 else (bif (decide (0 ≤ v2)) then (bif (!(decide (v2 ≤ 1000))) then some false
 else (bif (decide (0 ≤ v3)) then (bif (!(decide (v3 ≤ 10000000))) then some false
 else (bif (decide (v0 = 0)) then some (decide (v1 = (-1)))
 else (bif (decide (0 ≤ v1)) then (bif (decide (v1 ≤ 63)) then some (decide (0 < v2))
 else some false)
 else some false)))
 else some false))
 else some false))
 else some false)
def ref14_Valid (n : Nat) (v0 v1 v2 v3 : Int) : Option ref14_Valid_a := ref14_Valid_1 n v0 v1 v2 v3
def ref14_Valid_t : FnT := ⟨[(true, [.int, .int, .int, .int])], .b, fun n (s : Int × Int × Int × Int) => ref14_Valid n s.1 s.2.1 s.2.2.1 s.2.2.2⟩
theorem ref14_Valid_ok : ref14_Valid_t.ok Tryz.prog 100 := FnT.ok_of (cfg := ⟨[], consD1, [], mapsD1⟩) (tab := ref14_pick_T) (mt := mt0) pfit ref14_pick_T_ok mt0_ok (fun s fn hf => by rw [Tryz.func100] at hf; cases hf; kernel_rfl) (fun n s => by kernel_rfl)
def ref14_Valid_T : Tab := (100, ref14_Valid_t) :: ref14_pick_T
theorem ref14_Valid_T_ok : ref14_Valid_T.ok Tryz.prog := Tab.ok_cons ref14_Valid_ok ref14_pick_T_ok
abbrev ref14_Formed_a := Bool
def ref14_Formed_1 (n : Nat) (v0 v1 v2 : Int) : Option ref14_Formed_a :=
 (bif (decide (1 ≤ v0)) then (bif (!(decide (v0 ≤ 7))) then some false
 else (bif (decide (0 ≤ v1)) then (bif (!(decide (v1 ≤ 10000000))) then some false
 else (bif (decide (v0 = 1)) then (bif (decide (0 ≤ v2)) then some (decide (v2 ≤ 63))
 else some false)
 else (bif (decide (v0 = 2)) then (bif (decide (0 ≤ v2)) then some (decide (v2 ≤ 63))
 else some false)
 else some (decide (v2 = (-1))))))
 else some false))
 else some false)
def ref14_Formed (n : Nat) (v0 v1 v2 : Int) : Option ref14_Formed_a := ref14_Formed_1 n v0 v1 v2
def ref14_Formed_t : FnT := ⟨[(true, [.int, .int, .int])], .b, fun n (s : Int × Int × Int) => ref14_Formed n s.1 s.2.1 s.2.2⟩
theorem ref14_Formed_ok : ref14_Formed_t.ok Tryz.prog 101 := FnT.ok_of (cfg := ⟨[], consD1, [], mapsD1⟩) (tab := ref14_Valid_T) (mt := mt0) pfit ref14_Valid_T_ok mt0_ok (fun s fn hf => by rw [Tryz.func101] at hf; cases hf; kernel_rfl) (fun n s => by kernel_rfl)
def ref14_Formed_T : Tab := (101, ref14_Formed_t) :: ref14_Valid_T
theorem ref14_Formed_T_ok : ref14_Formed_T.ok Tryz.prog := Tab.ok_cons ref14_Formed_ok ref14_Valid_T_ok
abbrev ref14_possible_a := Bool
def ref14_possible_1 (n : Nat) (v0 v1 v2 v3 v4 v5 v6 : Int) : Option ref14_possible_a :=
 (bif (decide (v5 < v3)) then some false
 else (bif (decide (v4 = 1)) then (bif (decide (v0 = 0)) then some (decide (v2 < 1000))
 else some false)
 else (bif (decide (v4 = 2)) then (bif (decide (v0 = 1)) then (bif (!(decide (v1 = v6))) then some (decide (v2 < 1000))
 else some false)
 else some false)
 else (bif (decide (v4 = 3)) then some (decide (v0 = 1))
 else (bif (decide (v4 = 4)) then some (decide (v0 = 2))
 else (bif (decide (v4 = 5)) then (bif (decide (v0 = 1)) then some true
 else some (decide (v0 = 2)))
 else (bif (decide (v4 = 6)) then some (decide (v0 = 3))
 else (bif (decide (v0 = 3)) then bif ((decide ((-9223372036854775808) ≤ (v3 + 2592000))) && (decide ((v3 + 2592000) ≤ 9223372036854775807))) then some (decide ((v3 + 2592000) ≤ v5)) else none
 else some false))))))))
def ref14_possible (n : Nat) (v0 v1 v2 v3 v4 v5 v6 : Int) : Option ref14_possible_a := ref14_possible_1 n v0 v1 v2 v3 v4 v5 v6
def ref14_possible_t : FnT := ⟨[(true, [.int, .int, .int, .int]), (true, [.int, .int, .int])], .b, fun n (s : Int × Int × Int × Int × Int × Int × Int) => ref14_possible n s.1 s.2.1 s.2.2.1 s.2.2.2.1 s.2.2.2.2.1 s.2.2.2.2.2.1 s.2.2.2.2.2.2⟩
theorem ref14_possible_ok : ref14_possible_t.ok Tryz.prog 102 := FnT.ok_of (cfg := ⟨[], consD1, [], mapsD1⟩) (tab := ref14_Formed_T) (mt := mt0) pfit ref14_Formed_T_ok mt0_ok (fun s fn hf => by rw [Tryz.func102] at hf; cases hf; kernel_rfl) (fun n s => by kernel_rfl)
def ref14_possible_T : Tab := (102, ref14_possible_t) :: ref14_Formed_T
theorem ref14_possible_T_ok : ref14_possible_T.ok Tryz.prog := Tab.ok_cons ref14_possible_ok ref14_Formed_T_ok
abbrev ref14_Step_a := Int × Int × Int × Int × Int
def ref14_Step_1 (n : Nat) (v0 v1 v2 v3 v4 v5 v6 : Int) : Option ref14_Step_a :=
 (ref14_Valid n v0 v1 v2 v3).bind fun y7 =>
 (bif (!y7) then some (0, 0, 0, 0, 140)
 else (ref14_Formed n v4 v5 v6).bind fun y8 =>
 (bif (!y8) then some (0, 0, 0, 0, 140)
 else (ref14_possible n v0 v1 v2 v3 v4 v5 v6).bind fun y9 =>
 (bif (!y9) then some (0, 0, 0, 0, 140)
 else (bif (decide (v4 = 1)) then bif ((decide ((-9223372036854775808) ≤ (v2 + 1))) && (decide ((v2 + 1) ≤ 9223372036854775807))) then some (1, v6, (v2 + 1), v5, 0) else none
 else (bif (decide (v4 = 2)) then bif ((decide ((-9223372036854775808) ≤ (v2 + 1))) && (decide ((v2 + 1) ≤ 9223372036854775807))) then some (1, v6, (v2 + 1), v5, 0) else none
 else (bif (decide (v4 = 3)) then some (2, v1, v2, v5, 0)
 else (bif (decide (v4 = 4)) then some (1, v1, v2, v5, 0)
 else (bif (decide (v4 = 6)) then some (1, v1, v2, v5, 0)
 else (bif (decide (v4 = 5)) then some (3, v1, v2, v5, 0)
 else some (0, (-1), v2, v5, 0))))))))))
def ref14_Step (n : Nat) (v0 v1 v2 v3 v4 v5 v6 : Int) : Option ref14_Step_a := ref14_Step_1 n v0 v1 v2 v3 v4 v5 v6
def ref14_Step_t : FnT := ⟨[(true, [.int, .int, .int, .int]), (true, [.int, .int, .int])], (.tup (.cons (.agg (.cons .i (.cons .i (.cons .i (.cons .i .nil))))) (.cons .i .nil))), fun n (s : Int × Int × Int × Int × Int × Int × Int) => ref14_Step n s.1 s.2.1 s.2.2.1 s.2.2.2.1 s.2.2.2.2.1 s.2.2.2.2.2.1 s.2.2.2.2.2.2⟩
theorem ref14_Step_ok : ref14_Step_t.ok Tryz.prog 67 := FnT.ok_of (cfg := ⟨[], consD1, [], mapsD1⟩) (tab := ref14_possible_T) (mt := mt0) pfit ref14_possible_T_ok mt0_ok (fun s fn hf => by rw [Tryz.func67] at hf; cases hf; kernel_rfl) (fun n s => by kernel_rfl)
def ref14_Step_T : Tab := (67, ref14_Step_t) :: ref14_possible_T
theorem ref14_Step_T_ok : ref14_Step_T.ok Tryz.prog := Tab.ok_cons ref14_Step_ok ref14_possible_T_ok
abbrev ref14_Run_a := Int × Int × Int × Int × Int × Int
abbrev ref14_Run_s0 := Int × Int × Int × Int × Int
def ref14_Run_2 (n : Nat) (go0 : ref14_Run_s0 → Option ref14_Run_a) (v0 : Lv) (v1 v2 v3 v4 v5 : Int) : Option ref14_Run_a :=
 (bif (decide (v1 < (v0.length : Int))) then bif (decide (0 ≤ v1)) then (ref14_Step n v2 v3 v4 v5 (cI v0 v1 0) (cI v0 v1 1) (cI v0 v1 2)).bind fun y6 =>
 (bif (!(decide (y6.2.2.2.2 = 0))) then some (0, 0, 0, 0, v1, 140)
 else (bif (decide (v1 = 40)) then some (0, 0, 0, 0, v1, 140)
 else bif ((decide ((-9223372036854775808) ≤ (v1 + 1))) && (decide ((v1 + 1) ≤ 9223372036854775807))) then go0 ((v1 + 1), y6.1, y6.2.1, y6.2.2.1, y6.2.2.2.1) else none)) else none
 else some (v2, v3, v4, v5, (v0.length : Int), 0))
def ref14_Run_1 (n : Nat) (v0 : Lv) : Option ref14_Run_a :=
 (iterF (fun go0 s => ref14_Run_2 n go0 v0 s.1 s.2.1 s.2.2.1 s.2.2.2.1 s.2.2.2.2) n ((0, 0, (-1), 0, 0) : ref14_Run_s0))
def ref14_Run (n : Nat) (v0 : Lv) : Option ref14_Run_a := ref14_Run_1 n v0
def ref14_Run_t : FnT := ⟨[(false, [(.sl (.cons .int (.cons .int (.cons .int .nil))))])], (.tup (.cons (.agg (.cons .i (.cons .i (.cons .i (.cons .i .nil))))) (.cons .i (.cons .i .nil)))), fun n (s : Lv) => ref14_Run n s⟩
theorem ref14_Run_ok : ref14_Run_t.ok Tryz.prog 86 := FnT.ok_of (cfg := ⟨[((86, 3, 5), .inv [(.tmp 6 .int), (.cell 3 0 .int), (.cell 3 1 .int), (.cell 3 2 .int), (.cell 3 3 .int)])], consD1, [], mapsD1⟩) (tab := ref14_Step_T) (mt := mt0) pfit ref14_Step_T_ok mt0_ok (fun s fn hf => by rw [Tryz.func86] at hf; cases hf; kernel_rfl) (fun n s => by kernel_rfl)
def ref14_Run_T : Tab := (86, ref14_Run_t) :: ref14_Step_T
theorem ref14_Run_T_ok : ref14_Run_T.ok Tryz.prog := Tab.ok_cons ref14_Run_ok ref14_Step_T_ok
abbrev ref14_Is_a := Bool
def ref14_Is_1 (n : Nat) (v0 : Lv) : Option ref14_Is_a :=
 (ref14_Run n v0).bind fun y1 =>
 some (decide (y1.2.2.2.2.2 = 0))
def ref14_Is (n : Nat) (v0 : Lv) : Option ref14_Is_a := ref14_Is_1 n v0
def ref14_Is_t : FnT := ⟨[(false, [(.sl (.cons .int (.cons .int (.cons .int .nil))))])], .b, fun n (s : Lv) => ref14_Is n s⟩
theorem ref14_Is_ok : ref14_Is_t.ok Tryz.prog 47 := FnT.ok_of (cfg := ⟨[], consD1, [], mapsD1⟩) (tab := ref14_Run_T) (mt := mt0) pfit ref14_Run_T_ok mt0_ok (fun s fn hf => by rw [Tryz.func47] at hf; cases hf; kernel_rfl) (fun n s => by kernel_rfl)
def ref14_Is_T : Tab := (47, ref14_Is_t) :: ref14_Run_T
theorem ref14_Is_T_ok : ref14_Is_T.ok Tryz.prog := Tab.ok_cons ref14_Is_ok ref14_Run_T_ok
abbrev ref14_at_a := Int × Int × Int × Int
abbrev ref14_at_s0 := Int × Int × Int × Int × Int
def ref14_at_2 (n : Nat) (go0 : ref14_at_s0 → Option ref14_at_a) (v0 : Lv) (v1 v2 v3 v4 v5 v6 : Int) : Option ref14_at_a :=
 (bif (decide (v2 < (v0.length : Int))) then bif (decide (0 ≤ v2)) then (bif (decide ((cI v0 v2 1) ≤ v1)) then (ref14_Step n v3 v4 v5 v6 (cI v0 v2 0) (cI v0 v2 1) (cI v0 v2 2)).bind fun y7 =>
 bif ((decide ((-9223372036854775808) ≤ (v2 + 1))) && (decide ((v2 + 1) ≤ 9223372036854775807))) then go0 ((v2 + 1), y7.1, y7.2.1, y7.2.2.1, y7.2.2.2.1) else none
 else some (v3, v4, v5, v6)) else none
 else some (v3, v4, v5, v6))
def ref14_at_1 (n : Nat) (v0 : Lv) (v1 : Int) : Option ref14_at_a :=
 (iterF (fun go0 s => ref14_at_2 n go0 v0 v1 s.1 s.2.1 s.2.2.1 s.2.2.2.1 s.2.2.2.2) n ((0, 0, (-1), 0, 0) : ref14_at_s0))
def ref14_at (n : Nat) (v0 : Lv) (v1 : Int) : Option ref14_at_a := ref14_at_1 n v0 v1
def ref14_at_t : FnT := ⟨[(false, [(.sl (.cons .int (.cons .int (.cons .int .nil))))]), (false, [.int])], (.agg (.cons .i (.cons .i (.cons .i (.cons .i .nil))))), fun n (s : Lv × Int) => ref14_at n s.1 s.2⟩
theorem ref14_at_ok : ref14_at_t.ok Tryz.prog 69 := FnT.ok_of (cfg := ⟨[((69, 3, 5), .inv [(.tmp 6 .int), (.cell 3 0 .int), (.cell 3 1 .int), (.cell 3 2 .int), (.cell 3 3 .int)])], consD1, [], mapsD1⟩) (tab := ref14_Is_T) (mt := mt0) pfit ref14_Is_T_ok mt0_ok (fun s fn hf => by rw [Tryz.func69] at hf; cases hf; kernel_rfl) (fun n s => by kernel_rfl)
def ref14_at_T : Tab := (69, ref14_at_t) :: ref14_Is_T
theorem ref14_at_T_ok : ref14_at_T.ok Tryz.prog := Tab.ok_cons ref14_at_ok ref14_Is_T_ok
abbrev ref14_At_a := Int × Int × Int × Int × Int
def ref14_At_1 (n : Nat) (v0 : Lv) (v1 : Int) : Option ref14_At_a :=
 (ref14_Is n v0).bind fun y2 =>
 (bif (!y2) then some (0, 0, 0, 0, 140)
 else (bif (decide (0 ≤ v1)) then (bif (!(decide (v1 ≤ 10000000))) then some (0, 0, 0, 0, 140)
 else (ref14_at n v0 v1).bind fun y3 =>
 some (y3.1, y3.2.1, y3.2.2.1, y3.2.2.2, 0))
 else some (0, 0, 0, 0, 140)))
def ref14_At (n : Nat) (v0 : Lv) (v1 : Int) : Option ref14_At_a := ref14_At_1 n v0 v1
def ref14_At_t : FnT := ⟨[(false, [(.sl (.cons .int (.cons .int (.cons .int .nil))))]), (false, [.int])], (.tup (.cons (.agg (.cons .i (.cons .i (.cons .i (.cons .i .nil))))) (.cons .i .nil))), fun n (s : Lv × Int) => ref14_At n s.1 s.2⟩
theorem ref14_At_ok : ref14_At_t.ok Tryz.prog 34 := FnT.ok_of (cfg := ⟨[], consD1, [], mapsD1⟩) (tab := ref14_at_T) (mt := mt0) pfit ref14_at_T_ok mt0_ok (fun s fn hf => by rw [Tryz.func34] at hf; cases hf; kernel_rfl) (fun n s => by kernel_rfl)
def ref14_At_T : Tab := (34, ref14_At_t) :: ref14_at_T
theorem ref14_At_T_ok : ref14_At_T.ok Tryz.prog := Tab.ok_cons ref14_At_ok ref14_at_T_ok
abbrev ref14_After_a := Int × Int × Int
def ref14_After_2 (n : Nat) (v0 v1 v3 v4 v5 v6 : Int) : Option ref14_After_a :=
 (bif (decide (v0 = 2)) then (ref14_pick n v4 2).bind fun y7 =>
 bif (decide (0 ≤ y7)) then bif (decide (y7 < 2)) then (ref14_pick n v5 6).bind fun y8 =>
 (bif (decide ((cI ((([] : Lv) ++ [[(AV.int 4)]]) ++ [[(AV.int 5)]]) y7 0) = 7)) then bif ((decide ((-9223372036854775808) ≤ (y8 + 2592000))) && (decide ((y8 + 2592000) ≤ 9223372036854775807))) then bif ((decide ((-9223372036854775808) ≤ (v3 + (y8 + 2592000)))) && (decide ((v3 + (y8 + 2592000)) ≤ 9223372036854775807))) then some ((cI ((([] : Lv) ++ [[(AV.int 4)]]) ++ [[(AV.int 5)]]) y7 0), (imin (v3 + (y8 + 2592000)) 10000000), (-1)) else none else none
 else bif ((decide ((-9223372036854775808) ≤ (v3 + y8))) && (decide ((v3 + y8) ≤ 9223372036854775807))) then (bif (decide ((cI ((([] : Lv) ++ [[(AV.int 4)]]) ++ [[(AV.int 5)]]) y7 0) = 1)) then (ref14_pick n v6 5).bind fun y9 =>
 some ((cI ((([] : Lv) ++ [[(AV.int 4)]]) ++ [[(AV.int 5)]]) y7 0), (imin (v3 + y8) 10000000), y9)
 else (bif (decide ((cI ((([] : Lv) ++ [[(AV.int 4)]]) ++ [[(AV.int 5)]]) y7 0) = 2)) then (ref14_pick n v6 5).bind fun y9 =>
 (bif (decide (y9 = v1)) then bif ((decide ((-9223372036854775808) ≤ (y9 + 1))) && (decide ((y9 + 1) ≤ 9223372036854775807))) then some ((cI ((([] : Lv) ++ [[(AV.int 4)]]) ++ [[(AV.int 5)]]) y7 0), (imin (v3 + y8) 10000000), (y9 + 1)) else none
 else some ((cI ((([] : Lv) ++ [[(AV.int 4)]]) ++ [[(AV.int 5)]]) y7 0), (imin (v3 + y8) 10000000), y9))
 else some ((cI ((([] : Lv) ++ [[(AV.int 4)]]) ++ [[(AV.int 5)]]) y7 0), (imin (v3 + y8) 10000000), (-1)))) else none) else none else none
 else (bif (decide (v0 = 3)) then (ref14_pick n v4 3).bind fun y7 =>
 bif (decide (0 ≤ y7)) then bif (decide (y7 < 3)) then (ref14_pick n v5 6).bind fun y8 =>
 (bif (decide ((cI (((([] : Lv) ++ [[(AV.int 7)]]) ++ [[(AV.int 6)]]) ++ [[(AV.int 7)]]) y7 0) = 7)) then bif ((decide ((-9223372036854775808) ≤ (y8 + 2592000))) && (decide ((y8 + 2592000) ≤ 9223372036854775807))) then bif ((decide ((-9223372036854775808) ≤ (v3 + (y8 + 2592000)))) && (decide ((v3 + (y8 + 2592000)) ≤ 9223372036854775807))) then some ((cI (((([] : Lv) ++ [[(AV.int 7)]]) ++ [[(AV.int 6)]]) ++ [[(AV.int 7)]]) y7 0), (imin (v3 + (y8 + 2592000)) 10000000), (-1)) else none else none
 else bif ((decide ((-9223372036854775808) ≤ (v3 + y8))) && (decide ((v3 + y8) ≤ 9223372036854775807))) then (bif (decide ((cI (((([] : Lv) ++ [[(AV.int 7)]]) ++ [[(AV.int 6)]]) ++ [[(AV.int 7)]]) y7 0) = 1)) then (ref14_pick n v6 5).bind fun y9 =>
 some ((cI (((([] : Lv) ++ [[(AV.int 7)]]) ++ [[(AV.int 6)]]) ++ [[(AV.int 7)]]) y7 0), (imin (v3 + y8) 10000000), y9)
 else (bif (decide ((cI (((([] : Lv) ++ [[(AV.int 7)]]) ++ [[(AV.int 6)]]) ++ [[(AV.int 7)]]) y7 0) = 2)) then (ref14_pick n v6 5).bind fun y9 =>
 (bif (decide (y9 = v1)) then bif ((decide ((-9223372036854775808) ≤ (y9 + 1))) && (decide ((y9 + 1) ≤ 9223372036854775807))) then some ((cI (((([] : Lv) ++ [[(AV.int 7)]]) ++ [[(AV.int 6)]]) ++ [[(AV.int 7)]]) y7 0), (imin (v3 + y8) 10000000), (y9 + 1)) else none
 else some ((cI (((([] : Lv) ++ [[(AV.int 7)]]) ++ [[(AV.int 6)]]) ++ [[(AV.int 7)]]) y7 0), (imin (v3 + y8) 10000000), y9))
 else some ((cI (((([] : Lv) ++ [[(AV.int 7)]]) ++ [[(AV.int 6)]]) ++ [[(AV.int 7)]]) y7 0), (imin (v3 + y8) 10000000), (-1)))) else none) else none else none
 else (ref14_pick n v4 1).bind fun y7 =>
 bif (decide (0 ≤ y7)) then bif (decide (y7 < 1)) then (ref14_pick n v5 6).bind fun y8 =>
 (bif (decide ((cI (([] : Lv) ++ [[(AV.int 1)]]) y7 0) = 7)) then bif ((decide ((-9223372036854775808) ≤ (y8 + 2592000))) && (decide ((y8 + 2592000) ≤ 9223372036854775807))) then bif ((decide ((-9223372036854775808) ≤ (v3 + (y8 + 2592000)))) && (decide ((v3 + (y8 + 2592000)) ≤ 9223372036854775807))) then some ((cI (([] : Lv) ++ [[(AV.int 1)]]) y7 0), (imin (v3 + (y8 + 2592000)) 10000000), (-1)) else none else none
 else bif ((decide ((-9223372036854775808) ≤ (v3 + y8))) && (decide ((v3 + y8) ≤ 9223372036854775807))) then (bif (decide ((cI (([] : Lv) ++ [[(AV.int 1)]]) y7 0) = 1)) then (ref14_pick n v6 5).bind fun y9 =>
 some ((cI (([] : Lv) ++ [[(AV.int 1)]]) y7 0), (imin (v3 + y8) 10000000), y9)
 else (bif (decide ((cI (([] : Lv) ++ [[(AV.int 1)]]) y7 0) = 2)) then (ref14_pick n v6 5).bind fun y9 =>
 (bif (decide (y9 = v1)) then bif ((decide ((-9223372036854775808) ≤ (y9 + 1))) && (decide ((y9 + 1) ≤ 9223372036854775807))) then some ((cI (([] : Lv) ++ [[(AV.int 1)]]) y7 0), (imin (v3 + y8) 10000000), (y9 + 1)) else none
 else some ((cI (([] : Lv) ++ [[(AV.int 1)]]) y7 0), (imin (v3 + y8) 10000000), y9))
 else some ((cI (([] : Lv) ++ [[(AV.int 1)]]) y7 0), (imin (v3 + y8) 10000000), (-1)))) else none) else none else none))
def ref14_After_1 (n : Nat) (v0 v1 v3 v4 v5 v6 : Int) : Option ref14_After_a :=
 (bif (decide (v0 = 1)) then (ref14_pick n v4 5).bind fun y7 =>
 bif (decide (0 ≤ y7)) then bif (decide (y7 < 5)) then (ref14_pick n v5 6).bind fun y8 =>
 (bif (decide ((cI (((((([] : Lv) ++ [[(AV.int 2)]]) ++ [[(AV.int 3)]]) ++ [[(AV.int 5)]]) ++ [[(AV.int 3)]]) ++ [[(AV.int 5)]]) y7 0) = 7)) then bif ((decide ((-9223372036854775808) ≤ (y8 + 2592000))) && (decide ((y8 + 2592000) ≤ 9223372036854775807))) then bif ((decide ((-9223372036854775808) ≤ (v3 + (y8 + 2592000)))) && (decide ((v3 + (y8 + 2592000)) ≤ 9223372036854775807))) then some ((cI (((((([] : Lv) ++ [[(AV.int 2)]]) ++ [[(AV.int 3)]]) ++ [[(AV.int 5)]]) ++ [[(AV.int 3)]]) ++ [[(AV.int 5)]]) y7 0), (imin (v3 + (y8 + 2592000)) 10000000), (-1)) else none else none
 else bif ((decide ((-9223372036854775808) ≤ (v3 + y8))) && (decide ((v3 + y8) ≤ 9223372036854775807))) then (bif (decide ((cI (((((([] : Lv) ++ [[(AV.int 2)]]) ++ [[(AV.int 3)]]) ++ [[(AV.int 5)]]) ++ [[(AV.int 3)]]) ++ [[(AV.int 5)]]) y7 0) = 1)) then (ref14_pick n v6 5).bind fun y9 =>
 some ((cI (((((([] : Lv) ++ [[(AV.int 2)]]) ++ [[(AV.int 3)]]) ++ [[(AV.int 5)]]) ++ [[(AV.int 3)]]) ++ [[(AV.int 5)]]) y7 0), (imin (v3 + y8) 10000000), y9)
 else (bif (decide ((cI (((((([] : Lv) ++ [[(AV.int 2)]]) ++ [[(AV.int 3)]]) ++ [[(AV.int 5)]]) ++ [[(AV.int 3)]]) ++ [[(AV.int 5)]]) y7 0) = 2)) then (ref14_pick n v6 5).bind fun y9 =>
 (bif (decide (y9 = v1)) then bif ((decide ((-9223372036854775808) ≤ (y9 + 1))) && (decide ((y9 + 1) ≤ 9223372036854775807))) then some ((cI (((((([] : Lv) ++ [[(AV.int 2)]]) ++ [[(AV.int 3)]]) ++ [[(AV.int 5)]]) ++ [[(AV.int 3)]]) ++ [[(AV.int 5)]]) y7 0), (imin (v3 + y8) 10000000), (y9 + 1)) else none
 else some ((cI (((((([] : Lv) ++ [[(AV.int 2)]]) ++ [[(AV.int 3)]]) ++ [[(AV.int 5)]]) ++ [[(AV.int 3)]]) ++ [[(AV.int 5)]]) y7 0), (imin (v3 + y8) 10000000), y9))
 else some ((cI (((((([] : Lv) ++ [[(AV.int 2)]]) ++ [[(AV.int 3)]]) ++ [[(AV.int 5)]]) ++ [[(AV.int 3)]]) ++ [[(AV.int 5)]]) y7 0), (imin (v3 + y8) 10000000), (-1)))) else none) else none else none
 else ref14_After_2 n v0 v1 v3 v4 v5 v6)
def ref14_After (n : Nat) (v0 v1 v2 v3 v4 v5 v6 : Int) : Option ref14_After_a := ref14_After_1 n v0 v1 v3 v4 v5 v6
def ref14_After_t : FnT := ⟨[(true, [.int, .int, .int, .int]), (true, [.int, .int, .int])], (.agg (.cons .i (.cons .i (.cons .i .nil)))), fun n (s : Int × Int × Int × Int × Int × Int × Int) => ref14_After n s.1 s.2.1 s.2.2.1 s.2.2.2.1 s.2.2.2.2.1 s.2.2.2.2.2.1 s.2.2.2.2.2.2⟩
theorem ref14_After_ok : ref14_After_t.ok Tryz.prog 66 := FnT.ok_of (cfg := ⟨[], consD1, [], mapsD1⟩) (tab := ref14_At_T) (mt := mt0) pfit ref14_At_T_ok mt0_ok (fun s fn hf => by rw [Tryz.func66] at hf; cases hf; kernel_rfl) (fun n s => by kernel_rfl)
def ref14_After_T : Tab := (66, ref14_After_t) :: ref14_At_T
theorem ref14_After_T_ok : ref14_After_T.ok Tryz.prog := Tab.ok_cons ref14_After_ok ref14_At_T_ok
abbrev ref14_Made_a := Lv
abbrev ref14_Made_s0 := Lv × Int × Int × Int × Int × Int
def ref14_Made_2 (n : Nat) (go0 : ref14_Made_s0 → Option ref14_Made_a) (v0 v1 : Lv) (v2 v3 v4 v5 v6 : Int) : Option ref14_Made_a :=
 (bif (decide (v2 < (v0.length : Int))) then (bif (decide (v2 < 16)) then bif (decide (0 ≤ v2)) then (ref14_After n v3 v4 v5 v6 (cI v0 v2 0) (cI v0 v2 1) (cI v0 v2 2)).bind fun y7 =>
 (ref14_Step n v3 v4 v5 v6 y7.1 y7.2.1 y7.2.2).bind fun y10 =>
 (bif (decide (y10.2.2.2.2 = 0)) then bif (decide ((((v1.length : Int) + 1) * 24) ≤ 140737488355328)) then bif ((decide ((-9223372036854775808) ≤ (v2 + 1))) && (decide ((v2 + 1) ≤ 9223372036854775807))) then go0 ((v1 ++ [[(AV.int y7.1), (AV.int y7.2.1), (AV.int y7.2.2)]]), (v2 + 1), y10.1, y10.2.1, y10.2.2.1, y10.2.2.2.1) else none else none
 else bif ((decide ((-9223372036854775808) ≤ (v2 + 1))) && (decide ((v2 + 1) ≤ 9223372036854775807))) then go0 (v1, (v2 + 1), v3, v4, v5, v6) else none) else none
 else some v1)
 else some v1)
def ref14_Made_1 (n : Nat) (v0 : Lv) : Option ref14_Made_a :=
 (iterF (fun go0 s => ref14_Made_2 n go0 v0 s.1 s.2.1 s.2.2.1 s.2.2.2.1 s.2.2.2.2.1 s.2.2.2.2.2) n ((([] : Lv), 0, 0, (-1), 0, 0) : ref14_Made_s0))
def ref14_Made (n : Nat) (v0 : Lv) : Option ref14_Made_a := ref14_Made_1 n v0
def ref14_Made_t : FnT := ⟨[(false, [(.sl (.cons .int (.cons .int (.cons .int .nil))))])], (.row 131 (.cons .int (.cons .int (.cons .int .nil)))), fun n (s : Lv) => ref14_Made n s⟩
theorem ref14_Made_ok : ref14_Made_t.ok Tryz.prog 32 := FnT.ok_of (cfg := ⟨[((32, 4, 4), .inv [(.tmprow 4 131 (.cons .int (.cons .int (.cons .int .nil)))), (.tmp 5 .int), (.cell 2 0 .int), (.cell 2 1 .int), (.cell 2 2 .int), (.cell 2 3 .int)])], consD1, [], mapsD1⟩) (tab := ref14_After_T) (mt := mt0) pfit ref14_After_T_ok mt0_ok (fun s fn hf => by rw [Tryz.func32] at hf; cases hf; kernel_rfl) (fun n s => by kernel_rfl)
def ref14_Made_T : Tab := (32, ref14_Made_t) :: ref14_After_T
theorem ref14_Made_T_ok : ref14_Made_T.ok Tryz.prog := Tab.ok_cons ref14_Made_ok ref14_After_T_ok
abbrev life_Valid_a := Bool
def life_Valid_1 (n : Nat) (v0 v1 v2 v3 : Int) : Option life_Valid_a :=
 (bif (decide (0 ≤ v0)) then (bif (!(decide (v0 ≤ 3))) then some false
 else (bif (decide (0 ≤ v2)) then (bif (!(decide (v2 ≤ 1000))) then some false
 else (bif (decide (0 ≤ v3)) then (bif (!(decide (v3 ≤ 10000000))) then some false
 else (bif (decide (v0 = 0)) then some (decide (v1 = (-1)))
 else (bif (decide (0 ≤ v1)) then (bif (decide (v1 ≤ 63)) then some (decide (1 ≤ v2))
 else some false)
 else some false)))
 else some false))
 else some false))
 else some false)
def life_Valid (n : Nat) (v0 v1 v2 v3 : Int) : Option life_Valid_a := life_Valid_1 n v0 v1 v2 v3
def life_Valid_t : FnT := ⟨[(true, [.int, .int, .int, .int])], .b, fun n (s : Int × Int × Int × Int) => life_Valid n s.1 s.2.1 s.2.2.1 s.2.2.2⟩
theorem life_Valid_ok : life_Valid_t.ok Tryz.prog 132 := FnT.ok_of (cfg := ⟨[], consD1, [], mapsD1⟩) (tab := ref14_Made_T) (mt := mt0) pfit ref14_Made_T_ok mt0_ok (fun s fn hf => by rw [Tryz.func132] at hf; cases hf; kernel_rfl) (fun n s => by kernel_rfl)
def life_Valid_T : Tab := (132, life_Valid_t) :: ref14_Made_T
theorem life_Valid_T_ok : life_Valid_T.ok Tryz.prog := Tab.ok_cons life_Valid_ok ref14_Made_T_ok
abbrev life_Formed_a := Bool
def life_Formed_1 (n : Nat) (v0 v1 v2 : Int) : Option life_Formed_a :=
 (bif (decide (1 ≤ v0)) then (bif (!(decide (v0 ≤ 7))) then some false
 else (bif (decide (0 ≤ v1)) then (bif (!(decide (v1 ≤ 10000000))) then some false
 else bif (decide (0 ≤ v0)) then bif (decide (v0 < 8)) then (bif (cB ((((((((([] : Lv) ++ [[(AV.int 0), (AV.int 0), (AV.bool false)]]) ++ [[(AV.int 1), (AV.int 1), (AV.bool true)]]) ++ [[(AV.int 2), (AV.int 1), (AV.bool true)]]) ++ [[(AV.int 2), (AV.int 2), (AV.bool false)]]) ++ [[(AV.int 4), (AV.int 1), (AV.bool false)]]) ++ [[(AV.int 6), (AV.int 3), (AV.bool false)]]) ++ [[(AV.int 8), (AV.int 1), (AV.bool false)]]) ++ [[(AV.int 8), (AV.int 0), (AV.bool false)]]) v0 2) then (bif (decide (0 ≤ v2)) then some (decide (v2 ≤ 63))
 else some false)
 else some (decide (v2 = (-1)))) else none else none)
 else some false))
 else some false)
def life_Formed (n : Nat) (v0 v1 v2 : Int) : Option life_Formed_a := life_Formed_1 n v0 v1 v2
def life_Formed_t : FnT := ⟨[(true, [.int, .int, .int])], .b, fun n (s : Int × Int × Int) => life_Formed n s.1 s.2.1 s.2.2⟩
theorem life_Formed_ok : life_Formed_t.ok Tryz.prog 133 := FnT.ok_of (cfg := ⟨[], consD1, [], mapsD1⟩) (tab := life_Valid_T) (mt := mt0) pfit life_Valid_T_ok mt0_ok (fun s fn hf => by rw [Tryz.func133] at hf; cases hf; kernel_rfl) (fun n s => by kernel_rfl)
def life_Formed_T : Tab := (133, life_Formed_t) :: life_Valid_T
theorem life_Formed_T_ok : life_Formed_T.ok Tryz.prog := Tab.ok_cons life_Formed_ok life_Valid_T_ok
abbrev life_Step_a := Int × Int × Int × Int × Int
def life_Step_6 (n : Nat) (v1 v2 v3 v4 v5 v6 : Int) : Option life_Step_a :=
 (bif (cB ((((((((([] : Lv) ++ [[(AV.int 0), (AV.int 0), (AV.bool false)]]) ++ [[(AV.int 1), (AV.int 1), (AV.bool true)]]) ++ [[(AV.int 2), (AV.int 1), (AV.bool true)]]) ++ [[(AV.int 2), (AV.int 2), (AV.bool false)]]) ++ [[(AV.int 4), (AV.int 1), (AV.bool false)]]) ++ [[(AV.int 6), (AV.int 3), (AV.bool false)]]) ++ [[(AV.int 8), (AV.int 1), (AV.bool false)]]) ++ [[(AV.int 8), (AV.int 0), (AV.bool false)]]) v4 2) then (bif (decide (v2 = 1000)) then some (0, 0, 0, 0, 140)
 else (bif (decide (v1 = v6)) then some (0, 0, 0, 0, 140)
 else (bif (decide (v4 = 7)) then bif ((decide ((-9223372036854775808) ≤ (v5 - v3))) && (decide ((v5 - v3) ≤ 9223372036854775807))) then (bif (decide ((v5 - v3) < 2592000)) then some (0, 0, 0, 0, 140)
 else bif ((decide ((-9223372036854775808) ≤ (v2 + 1))) && (decide ((v2 + 1) ≤ 9223372036854775807))) then (bif (decide ((cI ((((((((([] : Lv) ++ [[(AV.int 0), (AV.int 0), (AV.bool false)]]) ++ [[(AV.int 1), (AV.int 1), (AV.bool true)]]) ++ [[(AV.int 2), (AV.int 1), (AV.bool true)]]) ++ [[(AV.int 2), (AV.int 2), (AV.bool false)]]) ++ [[(AV.int 4), (AV.int 1), (AV.bool false)]]) ++ [[(AV.int 6), (AV.int 3), (AV.bool false)]]) ++ [[(AV.int 8), (AV.int 1), (AV.bool false)]]) ++ [[(AV.int 8), (AV.int 0), (AV.bool false)]]) v4 1) = 0)) then some ((cI ((((((((([] : Lv) ++ [[(AV.int 0), (AV.int 0), (AV.bool false)]]) ++ [[(AV.int 1), (AV.int 1), (AV.bool true)]]) ++ [[(AV.int 2), (AV.int 1), (AV.bool true)]]) ++ [[(AV.int 2), (AV.int 2), (AV.bool false)]]) ++ [[(AV.int 4), (AV.int 1), (AV.bool false)]]) ++ [[(AV.int 6), (AV.int 3), (AV.bool false)]]) ++ [[(AV.int 8), (AV.int 1), (AV.bool false)]]) ++ [[(AV.int 8), (AV.int 0), (AV.bool false)]]) v4 1), (-1), (v2 + 1), v5, 0)
 else some ((cI ((((((((([] : Lv) ++ [[(AV.int 0), (AV.int 0), (AV.bool false)]]) ++ [[(AV.int 1), (AV.int 1), (AV.bool true)]]) ++ [[(AV.int 2), (AV.int 1), (AV.bool true)]]) ++ [[(AV.int 2), (AV.int 2), (AV.bool false)]]) ++ [[(AV.int 4), (AV.int 1), (AV.bool false)]]) ++ [[(AV.int 6), (AV.int 3), (AV.bool false)]]) ++ [[(AV.int 8), (AV.int 1), (AV.bool false)]]) ++ [[(AV.int 8), (AV.int 0), (AV.bool false)]]) v4 1), v6, (v2 + 1), v5, 0)) else none) else none
 else bif ((decide ((-9223372036854775808) ≤ (v2 + 1))) && (decide ((v2 + 1) ≤ 9223372036854775807))) then (bif (decide ((cI ((((((((([] : Lv) ++ [[(AV.int 0), (AV.int 0), (AV.bool false)]]) ++ [[(AV.int 1), (AV.int 1), (AV.bool true)]]) ++ [[(AV.int 2), (AV.int 1), (AV.bool true)]]) ++ [[(AV.int 2), (AV.int 2), (AV.bool false)]]) ++ [[(AV.int 4), (AV.int 1), (AV.bool false)]]) ++ [[(AV.int 6), (AV.int 3), (AV.bool false)]]) ++ [[(AV.int 8), (AV.int 1), (AV.bool false)]]) ++ [[(AV.int 8), (AV.int 0), (AV.bool false)]]) v4 1) = 0)) then some ((cI ((((((((([] : Lv) ++ [[(AV.int 0), (AV.int 0), (AV.bool false)]]) ++ [[(AV.int 1), (AV.int 1), (AV.bool true)]]) ++ [[(AV.int 2), (AV.int 1), (AV.bool true)]]) ++ [[(AV.int 2), (AV.int 2), (AV.bool false)]]) ++ [[(AV.int 4), (AV.int 1), (AV.bool false)]]) ++ [[(AV.int 6), (AV.int 3), (AV.bool false)]]) ++ [[(AV.int 8), (AV.int 1), (AV.bool false)]]) ++ [[(AV.int 8), (AV.int 0), (AV.bool false)]]) v4 1), (-1), (v2 + 1), v5, 0)
 else some ((cI ((((((((([] : Lv) ++ [[(AV.int 0), (AV.int 0), (AV.bool false)]]) ++ [[(AV.int 1), (AV.int 1), (AV.bool true)]]) ++ [[(AV.int 2), (AV.int 1), (AV.bool true)]]) ++ [[(AV.int 2), (AV.int 2), (AV.bool false)]]) ++ [[(AV.int 4), (AV.int 1), (AV.bool false)]]) ++ [[(AV.int 6), (AV.int 3), (AV.bool false)]]) ++ [[(AV.int 8), (AV.int 1), (AV.bool false)]]) ++ [[(AV.int 8), (AV.int 0), (AV.bool false)]]) v4 1), v6, (v2 + 1), v5, 0)) else none)))
 else (bif (decide (v4 = 7)) then bif ((decide ((-9223372036854775808) ≤ (v5 - v3))) && (decide ((v5 - v3) ≤ 9223372036854775807))) then (bif (decide ((v5 - v3) < 2592000)) then some (0, 0, 0, 0, 140)
 else (bif (decide ((cI ((((((((([] : Lv) ++ [[(AV.int 0), (AV.int 0), (AV.bool false)]]) ++ [[(AV.int 1), (AV.int 1), (AV.bool true)]]) ++ [[(AV.int 2), (AV.int 1), (AV.bool true)]]) ++ [[(AV.int 2), (AV.int 2), (AV.bool false)]]) ++ [[(AV.int 4), (AV.int 1), (AV.bool false)]]) ++ [[(AV.int 6), (AV.int 3), (AV.bool false)]]) ++ [[(AV.int 8), (AV.int 1), (AV.bool false)]]) ++ [[(AV.int 8), (AV.int 0), (AV.bool false)]]) v4 1) = 0)) then some ((cI ((((((((([] : Lv) ++ [[(AV.int 0), (AV.int 0), (AV.bool false)]]) ++ [[(AV.int 1), (AV.int 1), (AV.bool true)]]) ++ [[(AV.int 2), (AV.int 1), (AV.bool true)]]) ++ [[(AV.int 2), (AV.int 2), (AV.bool false)]]) ++ [[(AV.int 4), (AV.int 1), (AV.bool false)]]) ++ [[(AV.int 6), (AV.int 3), (AV.bool false)]]) ++ [[(AV.int 8), (AV.int 1), (AV.bool false)]]) ++ [[(AV.int 8), (AV.int 0), (AV.bool false)]]) v4 1), (-1), v2, v5, 0)
 else some ((cI ((((((((([] : Lv) ++ [[(AV.int 0), (AV.int 0), (AV.bool false)]]) ++ [[(AV.int 1), (AV.int 1), (AV.bool true)]]) ++ [[(AV.int 2), (AV.int 1), (AV.bool true)]]) ++ [[(AV.int 2), (AV.int 2), (AV.bool false)]]) ++ [[(AV.int 4), (AV.int 1), (AV.bool false)]]) ++ [[(AV.int 6), (AV.int 3), (AV.bool false)]]) ++ [[(AV.int 8), (AV.int 1), (AV.bool false)]]) ++ [[(AV.int 8), (AV.int 0), (AV.bool false)]]) v4 1), v1, v2, v5, 0))) else none
 else (bif (decide ((cI ((((((((([] : Lv) ++ [[(AV.int 0), (AV.int 0), (AV.bool false)]]) ++ [[(AV.int 1), (AV.int 1), (AV.bool true)]]) ++ [[(AV.int 2), (AV.int 1), (AV.bool true)]]) ++ [[(AV.int 2), (AV.int 2), (AV.bool false)]]) ++ [[(AV.int 4), (AV.int 1), (AV.bool false)]]) ++ [[(AV.int 6), (AV.int 3), (AV.bool false)]]) ++ [[(AV.int 8), (AV.int 1), (AV.bool false)]]) ++ [[(AV.int 8), (AV.int 0), (AV.bool false)]]) v4 1) = 0)) then some ((cI ((((((((([] : Lv) ++ [[(AV.int 0), (AV.int 0), (AV.bool false)]]) ++ [[(AV.int 1), (AV.int 1), (AV.bool true)]]) ++ [[(AV.int 2), (AV.int 1), (AV.bool true)]]) ++ [[(AV.int 2), (AV.int 2), (AV.bool false)]]) ++ [[(AV.int 4), (AV.int 1), (AV.bool false)]]) ++ [[(AV.int 6), (AV.int 3), (AV.bool false)]]) ++ [[(AV.int 8), (AV.int 1), (AV.bool false)]]) ++ [[(AV.int 8), (AV.int 0), (AV.bool false)]]) v4 1), (-1), v2, v5, 0)
 else some ((cI ((((((((([] : Lv) ++ [[(AV.int 0), (AV.int 0), (AV.bool false)]]) ++ [[(AV.int 1), (AV.int 1), (AV.bool true)]]) ++ [[(AV.int 2), (AV.int 1), (AV.bool true)]]) ++ [[(AV.int 2), (AV.int 2), (AV.bool false)]]) ++ [[(AV.int 4), (AV.int 1), (AV.bool false)]]) ++ [[(AV.int 6), (AV.int 3), (AV.bool false)]]) ++ [[(AV.int 8), (AV.int 1), (AV.bool false)]]) ++ [[(AV.int 8), (AV.int 0), (AV.bool false)]]) v4 1), v1, v2, v5, 0))))
def life_Step_5 (n : Nat) (v0 v1 v2 v3 v4 v5 v6 : Int) : Option life_Step_a :=
 (bif (decide ((IOp.f .and (IOp.f .shr (cI ((((((((([] : Lv) ++ [[(AV.int 0), (AV.int 0), (AV.bool false)]]) ++ [[(AV.int 1), (AV.int 1), (AV.bool true)]]) ++ [[(AV.int 2), (AV.int 1), (AV.bool true)]]) ++ [[(AV.int 2), (AV.int 2), (AV.bool false)]]) ++ [[(AV.int 4), (AV.int 1), (AV.bool false)]]) ++ [[(AV.int 6), (AV.int 3), (AV.bool false)]]) ++ [[(AV.int 8), (AV.int 1), (AV.bool false)]]) ++ [[(AV.int 8), (AV.int 0), (AV.bool false)]]) v4 0) v0) 1) = 0)) then some (0, 0, 0, 0, 140)
 else life_Step_6 n v1 v2 v3 v4 v5 v6)
def life_Step_4 (n : Nat) (v0 v1 v2 v3 v4 v5 v6 : Int) : Option life_Step_a :=
 (bif (decide (v5 < v3)) then some (0, 0, 0, 0, 140)
 else bif (decide (0 ≤ v4)) then bif (decide (v4 < 8)) then bif (decide (0 ≤ v0)) then life_Step_5 n v0 v1 v2 v3 v4 v5 v6 else none else none else none)
def life_Step_3 (n : Nat) (v0 v1 v2 v3 v4 v5 v6 : Int) (v8 : Bool) : Option life_Step_a :=
 (bif (!v8) then some (0, 0, 0, 0, 140)
 else life_Step_4 n v0 v1 v2 v3 v4 v5 v6)
def life_Step_2 (n : Nat) (v0 v1 v2 v3 v4 v5 v6 : Int) (v7 : Bool) : Option life_Step_a :=
 (bif (!v7) then some (0, 0, 0, 0, 140)
 else (life_Formed n v4 v5 v6).bind fun y8 =>
 life_Step_3 n v0 v1 v2 v3 v4 v5 v6 y8)
def life_Step_1 (n : Nat) (v0 v1 v2 v3 v4 v5 v6 : Int) : Option life_Step_a :=
 (life_Valid n v0 v1 v2 v3).bind fun y7 =>
 life_Step_2 n v0 v1 v2 v3 v4 v5 v6 y7
def life_Step (n : Nat) (v0 v1 v2 v3 v4 v5 v6 : Int) : Option life_Step_a := life_Step_1 n v0 v1 v2 v3 v4 v5 v6
def life_Step_t : FnT := ⟨[(true, [.int, .int, .int, .int]), (true, [.int, .int, .int])], (.tup (.cons (.agg (.cons .i (.cons .i (.cons .i (.cons .i .nil))))) (.cons .i .nil))), fun n (s : Int × Int × Int × Int × Int × Int × Int) => life_Step n s.1 s.2.1 s.2.2.1 s.2.2.2.1 s.2.2.2.2.1 s.2.2.2.2.2.1 s.2.2.2.2.2.2⟩
theorem life_Step_ok : life_Step_t.ok Tryz.prog 111 := FnT.ok_of (cfg := ⟨[], consD1, [], mapsD1⟩) (tab := life_Formed_T) (mt := mt0) pfit life_Formed_T_ok mt0_ok (fun s fn hf => by rw [Tryz.func111] at hf; cases hf; kernel_rfl) (fun n s => by kernel_rfl)
def life_Step_T : Tab := (111, life_Step_t) :: life_Formed_T
theorem life_Step_T_ok : life_Step_T.ok Tryz.prog := Tab.ok_cons life_Step_ok life_Formed_T_ok
abbrev life_Run_a := Int × Int × Int × Int × Int × Int
abbrev life_Run_s0 := Int × Int × Int × Int × Int × Int × Int × Int × Int × Int
def life_Run_2 (n : Nat) (go0 : life_Run_s0 → Option life_Run_a) (v0 : Lv) (v1 v2 v3 v4 v5 v6 v7 v8 v9 v10 : Int) : Option life_Run_a :=
 (bif (decide (v1 < ((List.take ((imin (v0.length : Int) 40)).toNat v0).length : Int))) then bif (decide (0 ≤ v1)) then (life_Step n v7 v8 v9 v10 (cI (List.take ((imin (v0.length : Int) 40)).toNat v0) v1 0) (cI (List.take ((imin (v0.length : Int) 40)).toNat v0) v1 1) (cI (List.take ((imin (v0.length : Int) 40)).toNat v0) v1 2)).bind fun y11 =>
 (bif (!(decide (y11.2.2.2.2 = 0))) then (bif (decide (v2 < (v0.length : Int))) then some (0, 0, 0, 0, v2, 140)
 else some (v3, v4, v5, v6, v2, 0))
 else bif ((decide ((-9223372036854775808) ≤ (v1 + 1))) && (decide ((v1 + 1) ≤ 9223372036854775807))) then go0 ((v1 + 1), (v1 + 1), y11.1, y11.2.1, y11.2.2.1, y11.2.2.2.1, y11.1, y11.2.1, y11.2.2.1, y11.2.2.2.1) else none) else none
 else (bif (decide (v2 < (v0.length : Int))) then some (0, 0, 0, 0, v2, 140)
 else some (v3, v4, v5, v6, v2, 0)))
def life_Run_1 (n : Nat) (v0 : Lv) : Option life_Run_a :=
 bif (decide (0 ≤ (imin (v0.length : Int) 40))) then bif (decide ((imin (v0.length : Int) 40) ≤ (v0.length : Int))) then (iterF (fun go0 s => life_Run_2 n go0 v0 s.1 s.2.1 s.2.2.1 s.2.2.2.1 s.2.2.2.2.1 s.2.2.2.2.2.1 s.2.2.2.2.2.2.1 s.2.2.2.2.2.2.2.1 s.2.2.2.2.2.2.2.2.1 s.2.2.2.2.2.2.2.2.2) n ((0, 0, 0, (-1), 0, 0, 0, (-1), 0, 0) : life_Run_s0)) else none else none
def life_Run (n : Nat) (v0 : Lv) : Option life_Run_a := life_Run_1 n v0
def life_Run_t : FnT := ⟨[(false, [(.sl (.cons .int (.cons .int (.cons .int .nil))))])], (.tup (.cons (.agg (.cons .i (.cons .i (.cons .i (.cons .i .nil))))) (.cons .i (.cons .i .nil)))), fun n (s : Lv) => life_Run n s⟩
theorem life_Run_ok : life_Run_t.ok Tryz.prog 43 := FnT.ok_of (cfg := ⟨[((110, 3, 13), .inv [(.tmp 15 .int), (.cell 1 0 .int), (.cell 2 0 .int), (.cell 2 1 .int), (.cell 2 2 .int), (.cell 2 3 .int), (.cell 7 0 .int), (.cell 7 1 .int), (.cell 7 2 .int), (.cell 7 3 .int)])], consD1, [], mapsD1⟩) (tab := life_Step_T) (mt := mt0) pfit life_Step_T_ok mt0_ok (fun s fn hf => by rw [Tryz.func43] at hf; cases hf; kernel_rfl) (fun n s => by kernel_rfl)
def life_Run_T : Tab := (43, life_Run_t) :: life_Step_T
theorem life_Run_T_ok : life_Run_T.ok Tryz.prog := Tab.ok_cons life_Run_ok life_Step_T_ok
abbrev life_at_a := Int × Int × Int × Int × Bool
abbrev life_at_s0 := Int × Int
def life_at_2 (n : Nat) (go0 : life_at_s0 → Option life_at_a) (v0 : Lv) (v1 v8 v9 : Int) : Option life_at_a :=
 (bif (decide (v8 < v9)) then bif ((decide ((-9223372036854775808) ≤ (v8 + v9))) && (decide ((v8 + v9) ≤ 9223372036854775807))) then bif (decide (0 ≤ 1)) then bif (decide (0 ≤ (IntKind.wrap .i64 (kopf .shr .u64 (IntKind.wrap .u64 (v8 + v9)) 1)))) then bif (decide ((IntKind.wrap .i64 (kopf .shr .u64 (IntKind.wrap .u64 (v8 + v9)) 1)) < (v0.length : Int))) then (bif (!(decide (v1 < (cI v0 (IntKind.wrap .i64 (kopf .shr .u64 (IntKind.wrap .u64 (v8 + v9)) 1)) 1)))) then bif ((decide ((-9223372036854775808) ≤ ((IntKind.wrap .i64 (kopf .shr .u64 (IntKind.wrap .u64 (v8 + v9)) 1)) + 1))) && (decide (((IntKind.wrap .i64 (kopf .shr .u64 (IntKind.wrap .u64 (v8 + v9)) 1)) + 1) ≤ 9223372036854775807))) then go0 (((IntKind.wrap .i64 (kopf .shr .u64 (IntKind.wrap .u64 (v8 + v9)) 1)) + 1), v9) else none
 else go0 (v8, (IntKind.wrap .i64 (kopf .shr .u64 (IntKind.wrap .u64 (v8 + v9)) 1)))) else none else none else none else none
 else bif (decide (0 ≤ v8)) then bif (decide (v8 ≤ (v0.length : Int))) then (life_Run n (List.take (v8).toNat v0)).bind fun y10 =>
 some (y10.1, y10.2.1, y10.2.2.1, y10.2.2.2.1, true) else none else none)
def life_at_1 (n : Nat) (v0 : Lv) (v1 : Int) : Option life_at_a :=
 (life_Run n v0).bind fun y2 =>
 (bif (!(decide (y2.2.2.2.2.2 = 0))) then some (0, 0, 0, 0, false)
 else (bif (decide (0 ≤ v1)) then (bif (!(decide (v1 ≤ 10000000))) then some (0, 0, 0, 0, false)
 else (iterF (fun go0 s => life_at_2 n go0 v0 v1 s.1 s.2) n ((0, (v0.length : Int)) : life_at_s0)))
 else some (0, 0, 0, 0, false)))
def life_at (n : Nat) (v0 : Lv) (v1 : Int) : Option life_at_a := life_at_1 n v0 v1
def life_at_t : FnT := ⟨[(false, [(.sl (.cons .int (.cons .int (.cons .int .nil))))]), (false, [.int])], (.tup (.cons (.agg (.cons .i (.cons .i (.cons .i (.cons .i .nil))))) (.cons .b .nil))), fun n (s : Lv × Int) => life_at n s.1 s.2⟩
theorem life_at_ok : life_at_t.ok Tryz.prog 108 := FnT.ok_of (cfg := ⟨[((130, 2, 5), .inv [(.tmp 5 .int), (.tmp 6 .int)])], consD1, [], mapsD1⟩) (tab := life_Run_T) (mt := mt0) pfit life_Run_T_ok mt0_ok (fun s fn hf => by rw [Tryz.func108] at hf; cases hf; kernel_rfl) (fun n s => by kernel_rfl)
def life_at_T : Tab := (108, life_at_t) :: life_Run_T
theorem life_at_T_ok : life_at_T.ok Tryz.prog := Tab.ok_cons life_at_ok life_Run_T_ok
abbrev life_At_a := Int × Int × Int × Int × Int
def life_At_1 (n : Nat) (v0 : Lv) (v1 : Int) : Option life_At_a :=
 (life_at n v0 v1).bind fun y2 =>
 (bif (!y2.2.2.2.2) then some (0, 0, 0, 0, 140)
 else some (y2.1, y2.2.1, y2.2.2.1, y2.2.2.2.1, 0))
def life_At (n : Nat) (v0 : Lv) (v1 : Int) : Option life_At_a := life_At_1 n v0 v1
def life_At_t : FnT := ⟨[(false, [(.sl (.cons .int (.cons .int (.cons .int .nil))))]), (false, [.int])], (.tup (.cons (.agg (.cons .i (.cons .i (.cons .i (.cons .i .nil))))) (.cons .i .nil))), fun n (s : Lv × Int) => life_At n s.1 s.2⟩
theorem life_At_ok : life_At_t.ok Tryz.prog 75 := FnT.ok_of (cfg := ⟨[], consD1, [], mapsD1⟩) (tab := life_at_T) (mt := mt0) pfit life_at_T_ok mt0_ok (fun s fn hf => by rw [Tryz.func75] at hf; cases hf; kernel_rfl) (fun n s => by kernel_rfl)
def life_At_T : Tab := (75, life_At_t) :: life_at_T
theorem life_At_T_ok : life_At_T.ok Tryz.prog := Tab.ok_cons life_At_ok life_at_T_ok
end
end Go.Proofs.YtjllgiddmeiaoaaGreat
set_option maxRecDepth 100000
namespace Go.Proofs.YtjllgiddmeiaoaaGreat
open Go Go.Sx
noncomputable section
def consD2 : List Nat := [5, 6, 7, 8, 9, 10, 11, 12, 13, 14, 15, 16, 17, 18, 19, 20, 21, 22, 23, 24, 28, 29, 30, 31, 32, 33, 34, 35, 36, 37, 39, 41, 42, 43, 45, 47, 48, 49, 50, 51, 64, 66, 67, 69, 70, 73, 75, 76, 77, 79, 80, 81, 86, 88, 100, 101, 102, 103, 108, 111, 113, 114, 115, 132, 133, 142, 1000007, 1000008, 1000036, 1000037]
def mapsD2 : List (Nat × SV × SV) := [(117, SV.of [.agg (SV.of [.vi (.int 1), .vi (.int 1)]), .agg (SV.of [.vi (.int 2), .vi (.int 1)]), .agg (SV.of [.vi (.int 3), .vi (.int 2)]), .agg (SV.of [.vi (.int 4), .vi (.int 2)]), .agg (SV.of [.vi (.int 5), .vi (.int 1)]), .agg (SV.of [.vi (.int 5), .vi (.int 2)]), .agg (SV.of [.vi (.int 5), .vi (.int 3)]), .agg (SV.of [.vi (.int 6), .vi (.int 4)])], SV.of [.vi (.int 3), .vi (.int 2), .vi (.int 3), .vi (.int 6), .vi (.int 7), .vi (.int 7), .vi (.int 7), .vi (.int 8)])]
abbrev ref16_pick_a := Int
def ref16_pick_1 (n : Nat) (v0 v1 : Int) : Option ref16_pick_a :=
 (bif (decide (v0 < 0)) then bif ((decide ((-9223372036854775808) ≤ (v0 + 1))) && (decide ((v0 + 1) ≤ 9223372036854775807))) then bif ((decide ((-9223372036854775808) ≤ (0 - (v0 + 1)))) && (decide ((0 - (v0 + 1)) ≤ 9223372036854775807))) then bif (!(decide (v1 = 0))) then some (Int.tmod (0 - (v0 + 1)) v1) else none else none else none
 else bif (!(decide (v1 = 0))) then some (Int.tmod v0 v1) else none)
def ref16_pick (n : Nat) (v0 v1 : Int) : Option ref16_pick_a := ref16_pick_1 n v0 v1
def ref16_pick_t : FnT := ⟨[(false, [.int]), (false, [.int])], .i, fun n (s : Int × Int) => ref16_pick n s.1 s.2⟩
theorem ref16_pick_ok : ref16_pick_t.ok Tryz.prog 64 := FnT.ok_of (cfg := ⟨[], consD2, [], mapsD2⟩) (tab := life_At_T) (mt := mt0) pfit life_At_T_ok mt0_ok (fun s fn hf => by rw [Tryz.func64] at hf; cases hf; kernel_rfl) (fun n s => by kernel_rfl)
def ref16_pick_T : Tab := (64, ref16_pick_t) :: life_At_T
theorem ref16_pick_T_ok : ref16_pick_T.ok Tryz.prog := Tab.ok_cons ref16_pick_ok life_At_T_ok
abbrev ref16_MadeRules_a := Int × Int × Int × Int
def ref16_MadeRules_2 (n : Nat) (v0 v1 v2 v3 v4 v5 : Int) : Option ref16_MadeRules_a :=
 (bif (decide (v5 = 3)) then (ref16_pick n v0 86400).bind fun y6 =>
 bif ((decide ((-9223372036854775808) ≤ (1 + y6))) && (decide ((1 + y6) ≤ 9223372036854775807))) then (ref16_pick n v1 12).bind fun y7 =>
 bif ((decide ((-9223372036854775808) ≤ (1 + y7))) && (decide ((1 + y7) ≤ 9223372036854775807))) then bif ((decide ((-9223372036854775808) ≤ (Int.tdiv v1 16))) && (decide ((Int.tdiv v1 16) ≤ 9223372036854775807))) then (ref16_pick n (Int.tdiv v1 16) 4).bind fun y8 =>
 (bif (decide (y8 = 3)) then (ref16_pick n v1 86400).bind fun y9 =>
 bif ((decide ((-9223372036854775808) ≤ (1 + y9))) && (decide ((1 + y9) ≤ 9223372036854775807))) then (ref16_pick n v2 12).bind fun y10 =>
 bif ((decide ((-9223372036854775808) ≤ (1 + y10))) && (decide ((1 + y10) ≤ 9223372036854775807))) then bif ((decide ((-9223372036854775808) ≤ (Int.tdiv v2 16))) && (decide ((Int.tdiv v2 16) ≤ 9223372036854775807))) then (ref16_pick n (Int.tdiv v2 16) 4).bind fun y11 =>
 (bif (decide (y11 = 3)) then (ref16_pick n v2 86400).bind fun y12 =>
 bif ((decide ((-9223372036854775808) ≤ (1 + y12))) && (decide ((1 + y12) ≤ 9223372036854775807))) then (ref16_pick n v3 12).bind fun y13 =>
 bif ((decide ((-9223372036854775808) ≤ (1 + y13))) && (decide ((1 + y13) ≤ 9223372036854775807))) then bif ((decide ((-9223372036854775808) ≤ (Int.tdiv v3 16))) && (decide ((Int.tdiv v3 16) ≤ 9223372036854775807))) then (ref16_pick n (Int.tdiv v3 16) 4).bind fun y14 =>
 (bif (decide (y14 = 3)) then (ref16_pick n v3 86400).bind fun y15 =>
 bif ((decide ((-9223372036854775808) ≤ (1 + y15))) && (decide ((1 + y15) ≤ 9223372036854775807))) then some ((1 + y6), (1 + y9), (1 + y12), (1 + y15)) else none
 else some ((1 + y6), (1 + y9), (1 + y12), (1 + y13))) else none else none else none
 else (ref16_pick n v3 12).bind fun y12 =>
 bif ((decide ((-9223372036854775808) ≤ (1 + y12))) && (decide ((1 + y12) ≤ 9223372036854775807))) then bif ((decide ((-9223372036854775808) ≤ (Int.tdiv v3 16))) && (decide ((Int.tdiv v3 16) ≤ 9223372036854775807))) then (ref16_pick n (Int.tdiv v3 16) 4).bind fun y13 =>
 (bif (decide (y13 = 3)) then (ref16_pick n v3 86400).bind fun y14 =>
 bif ((decide ((-9223372036854775808) ≤ (1 + y14))) && (decide ((1 + y14) ≤ 9223372036854775807))) then some ((1 + y6), (1 + y9), (1 + y10), (1 + y14)) else none
 else some ((1 + y6), (1 + y9), (1 + y10), (1 + y12))) else none else none) else none else none else none
 else (ref16_pick n v2 12).bind fun y9 =>
 bif ((decide ((-9223372036854775808) ≤ (1 + y9))) && (decide ((1 + y9) ≤ 9223372036854775807))) then bif ((decide ((-9223372036854775808) ≤ (Int.tdiv v2 16))) && (decide ((Int.tdiv v2 16) ≤ 9223372036854775807))) then (ref16_pick n (Int.tdiv v2 16) 4).bind fun y10 =>
 (bif (decide (y10 = 3)) then (ref16_pick n v2 86400).bind fun y11 =>
 bif ((decide ((-9223372036854775808) ≤ (1 + y11))) && (decide ((1 + y11) ≤ 9223372036854775807))) then (ref16_pick n v3 12).bind fun y12 =>
 bif ((decide ((-9223372036854775808) ≤ (1 + y12))) && (decide ((1 + y12) ≤ 9223372036854775807))) then bif ((decide ((-9223372036854775808) ≤ (Int.tdiv v3 16))) && (decide ((Int.tdiv v3 16) ≤ 9223372036854775807))) then (ref16_pick n (Int.tdiv v3 16) 4).bind fun y13 =>
 (bif (decide (y13 = 3)) then (ref16_pick n v3 86400).bind fun y14 =>
 bif ((decide ((-9223372036854775808) ≤ (1 + y14))) && (decide ((1 + y14) ≤ 9223372036854775807))) then some ((1 + y6), (1 + y7), (1 + y11), (1 + y14)) else none
 else some ((1 + y6), (1 + y7), (1 + y11), (1 + y12))) else none else none else none
 else (ref16_pick n v3 12).bind fun y11 =>
 bif ((decide ((-9223372036854775808) ≤ (1 + y11))) && (decide ((1 + y11) ≤ 9223372036854775807))) then bif ((decide ((-9223372036854775808) ≤ (Int.tdiv v3 16))) && (decide ((Int.tdiv v3 16) ≤ 9223372036854775807))) then (ref16_pick n (Int.tdiv v3 16) 4).bind fun y12 =>
 (bif (decide (y12 = 3)) then (ref16_pick n v3 86400).bind fun y13 =>
 bif ((decide ((-9223372036854775808) ≤ (1 + y13))) && (decide ((1 + y13) ≤ 9223372036854775807))) then some ((1 + y6), (1 + y7), (1 + y9), (1 + y13)) else none
 else some ((1 + y6), (1 + y7), (1 + y9), (1 + y11))) else none else none) else none else none) else none else none else none
 else (ref16_pick n v1 12).bind fun y6 =>
 bif ((decide ((-9223372036854775808) ≤ (1 + y6))) && (decide ((1 + y6) ≤ 9223372036854775807))) then bif ((decide ((-9223372036854775808) ≤ (Int.tdiv v1 16))) && (decide ((Int.tdiv v1 16) ≤ 9223372036854775807))) then (ref16_pick n (Int.tdiv v1 16) 4).bind fun y7 =>
 (bif (decide (y7 = 3)) then (ref16_pick n v1 86400).bind fun y8 =>
 bif ((decide ((-9223372036854775808) ≤ (1 + y8))) && (decide ((1 + y8) ≤ 9223372036854775807))) then (ref16_pick n v2 12).bind fun y9 =>
 bif ((decide ((-9223372036854775808) ≤ (1 + y9))) && (decide ((1 + y9) ≤ 9223372036854775807))) then bif ((decide ((-9223372036854775808) ≤ (Int.tdiv v2 16))) && (decide ((Int.tdiv v2 16) ≤ 9223372036854775807))) then (ref16_pick n (Int.tdiv v2 16) 4).bind fun y10 =>
 (bif (decide (y10 = 3)) then (ref16_pick n v2 86400).bind fun y11 =>
 bif ((decide ((-9223372036854775808) ≤ (1 + y11))) && (decide ((1 + y11) ≤ 9223372036854775807))) then (ref16_pick n v3 12).bind fun y12 =>
 bif ((decide ((-9223372036854775808) ≤ (1 + y12))) && (decide ((1 + y12) ≤ 9223372036854775807))) then bif ((decide ((-9223372036854775808) ≤ (Int.tdiv v3 16))) && (decide ((Int.tdiv v3 16) ≤ 9223372036854775807))) then (ref16_pick n (Int.tdiv v3 16) 4).bind fun y13 =>
 (bif (decide (y13 = 3)) then (ref16_pick n v3 86400).bind fun y14 =>
 bif ((decide ((-9223372036854775808) ≤ (1 + y14))) && (decide ((1 + y14) ≤ 9223372036854775807))) then some ((1 + v4), (1 + y8), (1 + y11), (1 + y14)) else none
 else some ((1 + v4), (1 + y8), (1 + y11), (1 + y12))) else none else none else none
 else (ref16_pick n v3 12).bind fun y11 =>
 bif ((decide ((-9223372036854775808) ≤ (1 + y11))) && (decide ((1 + y11) ≤ 9223372036854775807))) then bif ((decide ((-9223372036854775808) ≤ (Int.tdiv v3 16))) && (decide ((Int.tdiv v3 16) ≤ 9223372036854775807))) then (ref16_pick n (Int.tdiv v3 16) 4).bind fun y12 =>
 (bif (decide (y12 = 3)) then (ref16_pick n v3 86400).bind fun y13 =>
 bif ((decide ((-9223372036854775808) ≤ (1 + y13))) && (decide ((1 + y13) ≤ 9223372036854775807))) then some ((1 + v4), (1 + y8), (1 + y9), (1 + y13)) else none
 else some ((1 + v4), (1 + y8), (1 + y9), (1 + y11))) else none else none) else none else none else none
 else (ref16_pick n v2 12).bind fun y8 =>
 bif ((decide ((-9223372036854775808) ≤ (1 + y8))) && (decide ((1 + y8) ≤ 9223372036854775807))) then bif ((decide ((-9223372036854775808) ≤ (Int.tdiv v2 16))) && (decide ((Int.tdiv v2 16) ≤ 9223372036854775807))) then (ref16_pick n (Int.tdiv v2 16) 4).bind fun y9 =>
 (bif (decide (y9 = 3)) then (ref16_pick n v2 86400).bind fun y10 =>
 bif ((decide ((-9223372036854775808) ≤ (1 + y10))) && (decide ((1 + y10) ≤ 9223372036854775807))) then (ref16_pick n v3 12).bind fun y11 =>
 bif ((decide ((-9223372036854775808) ≤ (1 + y11))) && (decide ((1 + y11) ≤ 9223372036854775807))) then bif ((decide ((-9223372036854775808) ≤ (Int.tdiv v3 16))) && (decide ((Int.tdiv v3 16) ≤ 9223372036854775807))) then (ref16_pick n (Int.tdiv v3 16) 4).bind fun y12 =>
 (bif (decide (y12 = 3)) then (ref16_pick n v3 86400).bind fun y13 =>
 bif ((decide ((-9223372036854775808) ≤ (1 + y13))) && (decide ((1 + y13) ≤ 9223372036854775807))) then some ((1 + v4), (1 + y6), (1 + y10), (1 + y13)) else none
 else some ((1 + v4), (1 + y6), (1 + y10), (1 + y11))) else none else none else none
 else (ref16_pick n v3 12).bind fun y10 =>
 bif ((decide ((-9223372036854775808) ≤ (1 + y10))) && (decide ((1 + y10) ≤ 9223372036854775807))) then bif ((decide ((-9223372036854775808) ≤ (Int.tdiv v3 16))) && (decide ((Int.tdiv v3 16) ≤ 9223372036854775807))) then (ref16_pick n (Int.tdiv v3 16) 4).bind fun y11 =>
 (bif (decide (y11 = 3)) then (ref16_pick n v3 86400).bind fun y12 =>
 bif ((decide ((-9223372036854775808) ≤ (1 + y12))) && (decide ((1 + y12) ≤ 9223372036854775807))) then some ((1 + v4), (1 + y6), (1 + y8), (1 + y12)) else none
 else some ((1 + v4), (1 + y6), (1 + y8), (1 + y10))) else none else none) else none else none) else none else none)
def ref16_MadeRules_1 (n : Nat) (v0 v1 v2 v3 : Int) : Option ref16_MadeRules_a :=
 (ref16_pick n v0 12).bind fun y4 =>
 bif ((decide ((-9223372036854775808) ≤ (1 + y4))) && (decide ((1 + y4) ≤ 9223372036854775807))) then bif ((decide ((-9223372036854775808) ≤ (Int.tdiv v0 16))) && (decide ((Int.tdiv v0 16) ≤ 9223372036854775807))) then (ref16_pick n (Int.tdiv v0 16) 4).bind fun y5 =>
 ref16_MadeRules_2 n v0 v1 v2 v3 y4 y5 else none else none
def ref16_MadeRules (n : Nat) (v0 v1 v2 v3 : Int) : Option ref16_MadeRules_a := ref16_MadeRules_1 n v0 v1 v2 v3
def ref16_MadeRules_t : FnT := ⟨[(true, [.int, .int, .int, .int])], (.agg (.cons .i (.cons .i (.cons .i (.cons .i .nil))))), fun n (s : Int × Int × Int × Int) => ref16_MadeRules n s.1 s.2.1 s.2.2.1 s.2.2.2⟩
theorem ref16_MadeRules_ok : ref16_MadeRules_t.ok Tryz.prog 31 := FnT.ok_of (cfg := ⟨[((31, 3, 0), .unroll 5)], consD2, [], mapsD2⟩) (tab := ref16_pick_T) (mt := mt0) pfit ref16_pick_T_ok mt0_ok (fun s fn hf => by rw [Tryz.func31] at hf; cases hf; kernel_rfl) (fun n s => by kernel_rfl)
def ref16_MadeRules_T : Tab := (31, ref16_MadeRules_t) :: ref16_pick_T
theorem ref16_MadeRules_T_ok : ref16_MadeRules_T.ok Tryz.prog := Tab.ok_cons ref16_MadeRules_ok ref16_pick_T_ok
abbrev ref16_Rules_a := Bool
def ref16_Rules_1 (n : Nat) (v0 v1 v2 v3 : Int) : Option ref16_Rules_a :=
 (bif (decide (1 ≤ v0)) then (bif (decide (v0 ≤ 1000000)) then (bif (decide (1 ≤ v1)) then (bif (decide (v1 ≤ 1000000)) then (bif (decide (1 ≤ v2)) then (bif (decide (v2 ≤ 1000000)) then (bif (decide (1 ≤ v3)) then some (decide (v3 ≤ 1000000))
 else some false)
 else some false)
 else some false)
 else some false)
 else some false)
 else some false)
 else some false)
def ref16_Rules (n : Nat) (v0 v1 v2 v3 : Int) : Option ref16_Rules_a := ref16_Rules_1 n v0 v1 v2 v3
def ref16_Rules_t : FnT := ⟨[(true, [.int, .int, .int, .int])], .b, fun n (s : Int × Int × Int × Int) => ref16_Rules n s.1 s.2.1 s.2.2.1 s.2.2.2⟩
theorem ref16_Rules_ok : ref16_Rules_t.ok Tryz.prog 80 := FnT.ok_of (cfg := ⟨[], consD2, [], mapsD2⟩) (tab := ref16_MadeRules_T) (mt := mt0) pfit ref16_MadeRules_T_ok mt0_ok (fun s fn hf => by rw [Tryz.func80] at hf; cases hf; kernel_rfl) (fun n s => by kernel_rfl)
def ref16_Rules_T : Tab := (80, ref16_Rules_t) :: ref16_MadeRules_T
theorem ref16_Rules_T_ok : ref16_Rules_T.ok Tryz.prog := Tab.ok_cons ref16_Rules_ok ref16_MadeRules_T_ok
abbrev ref16_Claim_a := Bool
def ref16_Claim_1 (n : Nat) (v0 v1 v2 v3 v4 : Int) : Option ref16_Claim_a :=
 (bif (decide (0 ≤ v0)) then (bif (decide (v0 ≤ 99999999)) then (bif (decide (0 ≤ v1)) then (bif (decide (v1 ≤ 7)) then (bif (decide (0 ≤ v2)) then (bif (decide (v2 ≤ 7)) then (bif (!(decide (v1 = v2))) then (bif (decide (0 ≤ v3)) then (bif (decide (v3 ≤ 63)) then (bif (decide (0 ≤ v4)) then some (decide (v4 ≤ 10000000))
 else some false)
 else some false)
 else some false)
 else some false)
 else some false)
 else some false)
 else some false)
 else some false)
 else some false)
 else some false)
def ref16_Claim (n : Nat) (v0 v1 v2 v3 v4 : Int) (v5 : Bool) : Option ref16_Claim_a := ref16_Claim_1 n v0 v1 v2 v3 v4
def ref16_Claim_t : FnT := ⟨[(true, [.int, .int, .int, .int, .int, .bool])], .b, fun n (s : Int × Int × Int × Int × Int × Bool) => ref16_Claim n s.1 s.2.1 s.2.2.1 s.2.2.2.1 s.2.2.2.2.1 s.2.2.2.2.2⟩
theorem ref16_Claim_ok : ref16_Claim_t.ok Tryz.prog 81 := FnT.ok_of (cfg := ⟨[], consD2, [], mapsD2⟩) (tab := ref16_Rules_T) (mt := mt0) pfit ref16_Rules_T_ok mt0_ok (fun s fn hf => by rw [Tryz.func81] at hf; cases hf; kernel_rfl) (fun n s => by kernel_rfl)
def ref16_Claim_T : Tab := (81, ref16_Claim_t) :: ref16_Rules_T
theorem ref16_Claim_T_ok : ref16_Claim_T.ok Tryz.prog := Tab.ok_cons ref16_Claim_ok ref16_Rules_T_ok
abbrev ref16_Valid_a := Bool
abbrev ref16_Valid_s0 := Int × Int
def ref16_Valid_2 (n : Nat) (go0 : ref16_Valid_s0 → Option ref16_Valid_a) (v10 : Lv) (v13 v14 : Int) : Option ref16_Valid_a :=
 (bif (decide (v14 < (v10.length : Int))) then bif (decide (0 ≤ v14)) then (bif (decide (1 ≤ (cI v10 v14 0))) then (bif (!(decide ((cI v10 v14 0) ≤ 6))) then some false
 else (bif (decide (v13 ≤ (cI v10 v14 1))) then (bif (!(decide ((cI v10 v14 1) ≤ 20000000))) then some false
 else (bif (decide ((cI v10 v14 0) = 2)) then (bif (decide (1 ≤ (cI v10 v14 2))) then (bif (!(decide ((cI v10 v14 2) ≤ 9))) then some false
 else bif ((decide ((-9223372036854775808) ≤ (v14 + 1))) && (decide ((v14 + 1) ≤ 9223372036854775807))) then go0 ((cI v10 v14 1), (v14 + 1)) else none)
 else some false)
 else (bif (decide ((cI v10 v14 0) = 6)) then (bif (decide (1 ≤ (cI v10 v14 2))) then (bif (!(decide ((cI v10 v14 2) ≤ 9))) then some false
 else bif ((decide ((-9223372036854775808) ≤ (v14 + 1))) && (decide ((v14 + 1) ≤ 9223372036854775807))) then go0 ((cI v10 v14 1), (v14 + 1)) else none)
 else some false)
 else (bif (!(decide ((cI v10 v14 2) = 0))) then some false
 else bif ((decide ((-9223372036854775808) ≤ (v14 + 1))) && (decide ((v14 + 1) ≤ 9223372036854775807))) then go0 ((cI v10 v14 1), (v14 + 1)) else none))))
 else some false))
 else some false) else none
 else some true)
def ref16_Valid_1 (n : Nat) (v0 v1 v2 v3 v4 v5 v6 v7 v8 : Int) (v9 : Bool) (v10 : Lv) : Option ref16_Valid_a :=
 (ref16_Rules n v0 v1 v2 v3).bind fun y11 =>
 (bif (!y11) then some false
 else (ref16_Claim n v4 v5 v6 v7 v8 v9).bind fun y12 =>
 (bif (!y12) then some false
 else (bif (decide (20 < (v10.length : Int))) then some false
 else (iterF (fun go0 s => ref16_Valid_2 n go0 v10 s.1 s.2) n ((v8, 0) : ref16_Valid_s0)))))
def ref16_Valid (n : Nat) (v0 v1 v2 v3 v4 v5 v6 v7 v8 : Int) (v9 : Bool) (v10 : Lv) : Option ref16_Valid_a := ref16_Valid_1 n v0 v1 v2 v3 v4 v5 v6 v7 v8 v9 v10
def ref16_Valid_t : FnT := ⟨[(true, [.int, .int, .int, .int]), (true, [.int, .int, .int, .int, .int, .bool]), (false, [(.sl (.cons .int (.cons .int (.cons .int .nil))))])], .b, fun n (s : Int × Int × Int × Int × Int × Int × Int × Int × Int × Bool × Lv) => ref16_Valid n s.1 s.2.1 s.2.2.1 s.2.2.2.1 s.2.2.2.2.1 s.2.2.2.2.2.1 s.2.2.2.2.2.2.1 s.2.2.2.2.2.2.2.1 s.2.2.2.2.2.2.2.2.1 s.2.2.2.2.2.2.2.2.2.1 s.2.2.2.2.2.2.2.2.2.2⟩
theorem ref16_Valid_ok : ref16_Valid_t.ok Tryz.prog 48 := FnT.ok_of (cfg := ⟨[((48, 5, 2), .inv [(.tmp 7 .int), (.tmp 8 .int)])], consD2, [], mapsD2⟩) (tab := ref16_Claim_T) (mt := mt0) pfit ref16_Claim_T_ok mt0_ok (fun s fn hf => by rw [Tryz.func48] at hf; cases hf; kernel_rfl) (fun n s => by kernel_rfl)
def ref16_Valid_T : Tab := (48, ref16_Valid_t) :: ref16_Claim_T
theorem ref16_Valid_T_ok : ref16_Valid_T.ok Tryz.prog := Tab.ok_cons ref16_Valid_ok ref16_Claim_T_ok
abbrev ref16_status_a := Int × Int × Int
def ref16_status_1 (n : Nat) (v0 v1 v2 v3 v4 v5 : Int) : Option ref16_status_a :=
 (bif (decide (v4 = 1)) then bif ((decide ((-9223372036854775808) ≤ (v5 + v0))) && (decide ((v5 + v0) ≤ 9223372036854775807))) then some (v4, v5, (v5 + v0)) else none
 else (bif (decide (v4 = 2)) then bif ((decide ((-9223372036854775808) ≤ (v5 + v2))) && (decide ((v5 + v2) ≤ 9223372036854775807))) then some (v4, v5, (v5 + v2)) else none
 else (bif (decide (v4 = 3)) then bif ((decide ((-9223372036854775808) ≤ (v5 + v1))) && (decide ((v5 + v1) ≤ 9223372036854775807))) then some (v4, v5, (v5 + v1)) else none
 else (bif (decide (v4 = 4)) then bif ((decide ((-9223372036854775808) ≤ (v5 + v3))) && (decide ((v5 + v3) ≤ 9223372036854775807))) then some (v4, v5, (v5 + v3)) else none
 else some (v4, v5, (-1))))))
def ref16_status (n : Nat) (v0 v1 v2 v3 v4 v5 : Int) : Option ref16_status_a := ref16_status_1 n v0 v1 v2 v3 v4 v5
def ref16_status_t : FnT := ⟨[(true, [.int, .int, .int, .int]), (false, [.int]), (false, [.int])], (.agg (.cons .i (.cons .i (.cons .i .nil)))), fun n (s : Int × Int × Int × Int × Int × Int) => ref16_status n s.1 s.2.1 s.2.2.1 s.2.2.2.1 s.2.2.2.2.1 s.2.2.2.2.2⟩
theorem ref16_status_ok : ref16_status_t.ok Tryz.prog 113 := FnT.ok_of (cfg := ⟨[], consD2, [], mapsD2⟩) (tab := ref16_Valid_T) (mt := mt0) pfit ref16_Valid_T_ok mt0_ok (fun s fn hf => by rw [Tryz.func113] at hf; cases hf; kernel_rfl) (fun n s => by kernel_rfl)
def ref16_status_T : Tab := (113, ref16_status_t) :: ref16_Valid_T
theorem ref16_status_T_ok : ref16_status_T.ok Tryz.prog := Tab.ok_cons ref16_status_ok ref16_Valid_T_ok
abbrev ref16_after_a := Int
def ref16_after_1 (n : Nat) (v0 : Int) : Option ref16_after_a :=
 (bif (decide (v0 = 3)) then some 4
 else (bif (decide (v0 = 4)) then some 5
 else some 3))
def ref16_after (n : Nat) (v0 : Int) : Option ref16_after_a := ref16_after_1 n v0
def ref16_after_t : FnT := ⟨[(false, [.int])], .i, fun n (s : Int) => ref16_after n s⟩
theorem ref16_after_ok : ref16_after_t.ok Tryz.prog 114 := FnT.ok_of (cfg := ⟨[], consD2, [], mapsD2⟩) (tab := ref16_status_T) (mt := mt0) pfit ref16_status_T_ok mt0_ok (fun s fn hf => by rw [Tryz.func114] at hf; cases hf; kernel_rfl) (fun n s => by kernel_rfl)
def ref16_after_T : Tab := (114, ref16_after_t) :: ref16_status_T
theorem ref16_after_T_ok : ref16_after_T.ok Tryz.prog := Tab.ok_cons ref16_after_ok ref16_status_T_ok
abbrev ref16_becomes_a := Int
def ref16_becomes_1 (n : Nat) (v5 : Bool) (v6 v7 v9 : Int) : Option ref16_becomes_a :=
 (bif (decide (v7 = 1)) then (bif (decide (v6 = 1)) then some 3
 else some (-1))
 else (bif (decide (v7 = 2)) then (bif (decide (v6 = 1)) then (bif (decide (v9 = 1)) then (bif (!v5) then some 6
 else some (-1))
 else some 2)
 else some (-1))
 else (bif (decide (v7 = 3)) then (bif (decide (v6 = 2)) then some 3
 else some (-1))
 else (bif (decide (v7 = 4)) then (bif (decide (v6 = 2)) then some 6
 else some (-1))
 else (bif (decide (v7 = 5)) then (bif (decide (v6 = 1)) then some 7
 else (bif (decide (v6 = 2)) then some 7
 else (bif (decide (v6 = 3)) then some 7
 else some (-1))))
 else (bif (decide (v7 = 6)) then (bif (decide (v6 = 4)) then (bif (!(decide (v9 = 1))) then some 8
 else (bif (!v5) then some 8
 else some (-1)))
 else some (-1))
 else some (-1)))))))
def ref16_becomes (n : Nat) (v0 v1 v2 v3 v4 : Int) (v5 : Bool) (v6 v7 v8 v9 : Int) : Option ref16_becomes_a := ref16_becomes_1 n v5 v6 v7 v9
def ref16_becomes_t : FnT := ⟨[(true, [.int, .int, .int, .int, .int, .bool]), (false, [.int]), (true, [.int, .int, .int])], .i, fun n (s : Int × Int × Int × Int × Int × Bool × Int × Int × Int × Int) => ref16_becomes n s.1 s.2.1 s.2.2.1 s.2.2.2.1 s.2.2.2.2.1 s.2.2.2.2.2.1 s.2.2.2.2.2.2.1 s.2.2.2.2.2.2.2.1 s.2.2.2.2.2.2.2.2.1 s.2.2.2.2.2.2.2.2.2⟩
theorem ref16_becomes_ok : ref16_becomes_t.ok Tryz.prog 115 := FnT.ok_of (cfg := ⟨[], consD2, [], mapsD2⟩) (tab := ref16_after_T) (mt := mt0) pfit ref16_after_T_ok mt0_ok (fun s fn hf => by rw [Tryz.func115] at hf; cases hf; kernel_rfl) (fun n s => by kernel_rfl)
def ref16_becomes_T : Tab := (115, ref16_becomes_t) :: ref16_after_T
theorem ref16_becomes_T_ok : ref16_becomes_T.ok Tryz.prog := Tab.ok_cons ref16_becomes_ok ref16_after_T_ok
abbrev ref16_run_a := Lv × Lv
abbrev ref16_run_s0 := Lv × Lv × Int
abbrev ref16_run_s1 := Lv × Int × Int × Int
def ref16_run_4 (n : Nat) (go0 : ref16_run_s0 → Option ref16_run_a) (go1 : ref16_run_s1 → Option ref16_run_a) (v0 v1 v2 v3 v4 v5 v6 v7 v8 : Int) (v9 : Bool) (v10 : Lv) (v11 : Int) (v16 : Lv) (v17 : Int) (v18 : Lv) (v19 v21 : Int) : Option ref16_run_a :=
 (bif (decide (0 ≤ v21)) then (bif (decide (v21 ≤ (imin (cI v10 v17 1) v11))) then (ref16_after n v19).bind fun y22 =>
 (ref16_status n v0 v1 v2 v3 y22 v21).bind fun y23 =>
 bif (decide ((((v18.length : Int) + 1) * 24) ≤ 140737488355328)) then go1 ((v18 ++ [[(AV.int y23.1), (AV.int y23.2.1), (AV.int y23.2.2)]]), y23.1, y23.2.1, y23.2.2) else none
 else (bif (decide (v17 = (v10.length : Int))) then some (v18, v16)
 else (bif (decide (v11 < (cI v10 v17 1))) then some (v18, v16)
 else (ref16_becomes n v4 v5 v6 v7 v8 v9 v19 (cI v10 v17 0) (cI v10 v17 1) (cI v10 v17 2)).bind fun y22 =>
 (bif (decide (y22 < 0)) then bif (decide ((((v16.length : Int) + 1) * 8) ≤ 140737488355328)) then bif ((decide ((-9223372036854775808) ≤ (v17 + 1))) && (decide ((v17 + 1) ≤ 9223372036854775807))) then go0 (v18, (v16 ++ [[(AV.int v17)]]), (v17 + 1)) else none else none
 else (ref16_status n v0 v1 v2 v3 y22 (cI v10 v17 1)).bind fun y23 =>
 bif (decide ((((v18.length : Int) + 1) * 24) ≤ 140737488355328)) then bif ((decide ((-9223372036854775808) ≤ (v17 + 1))) && (decide ((v17 + 1) ≤ 9223372036854775807))) then go0 ((v18 ++ [[(AV.int y23.1), (AV.int y23.2.1), (AV.int y23.2.2)]]), v16, (v17 + 1)) else none else none))))
 else (bif (decide (v17 = (v10.length : Int))) then some (v18, v16)
 else (bif (decide (v11 < (cI v10 v17 1))) then some (v18, v16)
 else (ref16_becomes n v4 v5 v6 v7 v8 v9 v19 (cI v10 v17 0) (cI v10 v17 1) (cI v10 v17 2)).bind fun y22 =>
 (bif (decide (y22 < 0)) then bif (decide ((((v16.length : Int) + 1) * 8) ≤ 140737488355328)) then bif ((decide ((-9223372036854775808) ≤ (v17 + 1))) && (decide ((v17 + 1) ≤ 9223372036854775807))) then go0 (v18, (v16 ++ [[(AV.int v17)]]), (v17 + 1)) else none else none
 else (ref16_status n v0 v1 v2 v3 y22 (cI v10 v17 1)).bind fun y23 =>
 bif (decide ((((v18.length : Int) + 1) * 24) ≤ 140737488355328)) then bif ((decide ((-9223372036854775808) ≤ (v17 + 1))) && (decide ((v17 + 1) ≤ 9223372036854775807))) then go0 ((v18 ++ [[(AV.int y23.1), (AV.int y23.2.1), (AV.int y23.2.2)]]), v16, (v17 + 1)) else none else none))))
def ref16_run_5 (n : Nat) (go0 : ref16_run_s0 → Option ref16_run_a) (go1 : ref16_run_s1 → Option ref16_run_a) (v0 v1 v2 v3 v4 v5 v6 v7 v8 : Int) (v9 : Bool) (v10 : Lv) (v11 : Int) (v16 : Lv) (v17 : Int) (v18 : Lv) (v19 v21 : Int) : Option ref16_run_a :=
 (bif (decide (0 ≤ v21)) then (bif (decide (v21 ≤ v11)) then (ref16_after n v19).bind fun y22 =>
 (ref16_status n v0 v1 v2 v3 y22 v21).bind fun y23 =>
 bif (decide ((((v18.length : Int) + 1) * 24) ≤ 140737488355328)) then go1 ((v18 ++ [[(AV.int y23.1), (AV.int y23.2.1), (AV.int y23.2.2)]]), y23.1, y23.2.1, y23.2.2) else none
 else (bif (decide (v17 = (v10.length : Int))) then some (v18, v16)
 else bif (decide (0 ≤ v17)) then bif (decide (v17 < (v10.length : Int))) then (bif (decide (v11 < (cI v10 v17 1))) then some (v18, v16)
 else (ref16_becomes n v4 v5 v6 v7 v8 v9 v19 (cI v10 v17 0) (cI v10 v17 1) (cI v10 v17 2)).bind fun y22 =>
 (bif (decide (y22 < 0)) then bif (decide ((((v16.length : Int) + 1) * 8) ≤ 140737488355328)) then bif ((decide ((-9223372036854775808) ≤ (v17 + 1))) && (decide ((v17 + 1) ≤ 9223372036854775807))) then go0 (v18, (v16 ++ [[(AV.int v17)]]), (v17 + 1)) else none else none
 else (ref16_status n v0 v1 v2 v3 y22 (cI v10 v17 1)).bind fun y23 =>
 bif (decide ((((v18.length : Int) + 1) * 24) ≤ 140737488355328)) then bif ((decide ((-9223372036854775808) ≤ (v17 + 1))) && (decide ((v17 + 1) ≤ 9223372036854775807))) then go0 ((v18 ++ [[(AV.int y23.1), (AV.int y23.2.1), (AV.int y23.2.2)]]), v16, (v17 + 1)) else none else none)) else none else none))
 else (bif (decide (v17 = (v10.length : Int))) then some (v18, v16)
 else bif (decide (0 ≤ v17)) then bif (decide (v17 < (v10.length : Int))) then (bif (decide (v11 < (cI v10 v17 1))) then some (v18, v16)
 else (ref16_becomes n v4 v5 v6 v7 v8 v9 v19 (cI v10 v17 0) (cI v10 v17 1) (cI v10 v17 2)).bind fun y22 =>
 (bif (decide (y22 < 0)) then bif (decide ((((v16.length : Int) + 1) * 8) ≤ 140737488355328)) then bif ((decide ((-9223372036854775808) ≤ (v17 + 1))) && (decide ((v17 + 1) ≤ 9223372036854775807))) then go0 (v18, (v16 ++ [[(AV.int v17)]]), (v17 + 1)) else none else none
 else (ref16_status n v0 v1 v2 v3 y22 (cI v10 v17 1)).bind fun y23 =>
 bif (decide ((((v18.length : Int) + 1) * 24) ≤ 140737488355328)) then bif ((decide ((-9223372036854775808) ≤ (v17 + 1))) && (decide ((v17 + 1) ≤ 9223372036854775807))) then go0 ((v18 ++ [[(AV.int y23.1), (AV.int y23.2.1), (AV.int y23.2.2)]]), v16, (v17 + 1)) else none else none)) else none else none))
def ref16_run_3 (n : Nat) (go0 : ref16_run_s0 → Option ref16_run_a) (v0 v1 v2 v3 v4 v5 v6 v7 v8 : Int) (v9 : Bool) (v10 : Lv) (v11 : Int) (v15 v16 : Lv) (v17 : Int) : Option ref16_run_a :=
 (bif (decide (v17 < (v10.length : Int))) then bif (decide (0 ≤ v17)) then bif ((decide ((-9223372036854775808) ≤ ((v15.length : Int) - 1))) && (decide (((v15.length : Int) - 1) ≤ 9223372036854775807))) then bif (decide (0 ≤ ((v15.length : Int) - 1))) then bif (decide (((v15.length : Int) - 1) < (v15.length : Int))) then (iterF (fun go1 s => ref16_run_4 n go0 go1 v0 v1 v2 v3 v4 v5 v6 v7 v8 v9 v10 v11 v16 v17 s.1 s.2.1 s.2.2.2) n ((v15, (cI v15 ((v15.length : Int) - 1) 0), (cI v15 ((v15.length : Int) - 1) 1), (cI v15 ((v15.length : Int) - 1) 2)) : ref16_run_s1)) else none else none else none else none
 else bif ((decide ((-9223372036854775808) ≤ ((v15.length : Int) - 1))) && (decide (((v15.length : Int) - 1) ≤ 9223372036854775807))) then bif (decide (0 ≤ ((v15.length : Int) - 1))) then bif (decide (((v15.length : Int) - 1) < (v15.length : Int))) then (iterF (fun go1 s => ref16_run_5 n go0 go1 v0 v1 v2 v3 v4 v5 v6 v7 v8 v9 v10 v11 v16 v17 s.1 s.2.1 s.2.2.2) n ((v15, (cI v15 ((v15.length : Int) - 1) 0), (cI v15 ((v15.length : Int) - 1) 1), (cI v15 ((v15.length : Int) - 1) 2)) : ref16_run_s1)) else none else none else none)
def ref16_run_2 (n : Nat) (go0 : ref16_run_s0 → Option ref16_run_a) (v0 v1 v2 v3 v4 v5 v6 v7 v8 : Int) (v9 : Bool) (v10 : Lv) (v11 : Int) (v15 v16 : Lv) (v17 : Int) : Option ref16_run_a :=
 (bif (decide (v17 ≤ (v10.length : Int))) then ref16_run_3 n go0 v0 v1 v2 v3 v4 v5 v6 v7 v8 v9 v10 v11 v15 v16 v17
 else some (v15, v16))
def ref16_run_1 (n : Nat) (v0 v1 v2 v3 v4 v5 v6 v7 v8 : Int) (v9 : Bool) (v10 : Lv) (v11 : Int) : Option ref16_run_a :=
 (ref16_status n v0 v1 v2 v3 1 v8).bind fun y12 =>
 (iterF (fun go0 s => ref16_run_2 n go0 v0 v1 v2 v3 v4 v5 v6 v7 v8 v9 v10 v11 s.1 s.2.1 s.2.2) n (((([] : Lv) ++ [[(AV.int y12.1), (AV.int y12.2.1), (AV.int y12.2.2)]]), ([] : Lv), 0) : ref16_run_s0))
def ref16_run (n : Nat) (v0 v1 v2 v3 v4 v5 v6 v7 v8 : Int) (v9 : Bool) (v10 : Lv) (v11 : Int) : Option ref16_run_a := ref16_run_1 n v0 v1 v2 v3 v4 v5 v6 v7 v8 v9 v10 v11
def ref16_run_t : FnT := ⟨[(true, [.int, .int, .int, .int]), (true, [.int, .int, .int, .int, .int, .bool]), (false, [(.sl (.cons .int (.cons .int (.cons .int .nil))))]), (false, [.int])], (.tup (.cons (.row 116 (.cons .int (.cons .int (.cons .int .nil)))) (.cons (.row 3 (.cons .int .nil)) .nil))), fun n (s : Int × Int × Int × Int × Int × Int × Int × Int × Int × Bool × Lv × Int) => ref16_run n s.1 s.2.1 s.2.2.1 s.2.2.2.1 s.2.2.2.2.1 s.2.2.2.2.2.1 s.2.2.2.2.2.2.1 s.2.2.2.2.2.2.2.1 s.2.2.2.2.2.2.2.2.1 s.2.2.2.2.2.2.2.2.2.1 s.2.2.2.2.2.2.2.2.2.2.1 s.2.2.2.2.2.2.2.2.2.2.2⟩
theorem ref16_run_ok : ref16_run_t.ok Tryz.prog 88 := FnT.ok_of (cfg := ⟨[((88, 4, 3), .inv [(.tmprow 10 116 (.cons .int (.cons .int (.cons .int .nil)))), (.tmprow 11 3 (.cons .int .nil)), (.tmp 12 .int)]), ((88, 10, 8), .inv [(.tmprow 10 116 (.cons .int (.cons .int (.cons .int .nil)))), (.cell 6 0 .int), (.cell 6 1 .int), (.cell 6 2 .int)])], consD2, [], mapsD2⟩) (tab := ref16_becomes_T) (mt := mt0) pfit ref16_becomes_T_ok mt0_ok (fun s fn hf => by rw [Tryz.func88] at hf; cases hf; kernel_rfl) (fun n s => by kernel_rfl)
def ref16_run_T : Tab := (88, ref16_run_t) :: ref16_becomes_T
theorem ref16_run_T_ok : ref16_run_T.ok Tryz.prog := Tab.ok_cons ref16_run_ok ref16_becomes_T_ok
abbrev ref16_Outcome_a := Int × Int × Int × Int
def ref16_Outcome_1 (n : Nat) (v0 v1 v2 v3 v4 v5 v6 v7 v8 : Int) (v9 : Bool) (v10 : Lv) (v11 : Int) : Option ref16_Outcome_a :=
 (ref16_Valid n v0 v1 v2 v3 v4 v5 v6 v7 v8 v9 v10).bind fun y12 =>
 (bif (!y12) then some (0, 0, 0, 160)
 else (bif (decide (0 ≤ v11)) then (bif (!(decide (v11 ≤ 20000000))) then some (0, 0, 0, 160)
 else (bif (decide (v11 < v8)) then some (0, 0, v8, 0)
 else (ref16_run n v0 v1 v2 v3 v4 v5 v6 v7 v8 v9 v10 v11).bind fun y13 =>
 bif ((decide ((-9223372036854775808) ≤ ((y13.1.length : Int) - 1))) && (decide (((y13.1.length : Int) - 1) ≤ 9223372036854775807))) then bif (decide (0 ≤ ((y13.1.length : Int) - 1))) then bif (decide (((y13.1.length : Int) - 1) < (y13.1.length : Int))) then some ((cI y13.1 ((y13.1.length : Int) - 1) 0), (cI y13.1 ((y13.1.length : Int) - 1) 1), (cI y13.1 ((y13.1.length : Int) - 1) 2), 0) else none else none else none))
 else some (0, 0, 0, 160)))
def ref16_Outcome (n : Nat) (v0 v1 v2 v3 v4 v5 v6 v7 v8 : Int) (v9 : Bool) (v10 : Lv) (v11 : Int) : Option ref16_Outcome_a := ref16_Outcome_1 n v0 v1 v2 v3 v4 v5 v6 v7 v8 v9 v10 v11
def ref16_Outcome_t : FnT := ⟨[(true, [.int, .int, .int, .int]), (true, [.int, .int, .int, .int, .int, .bool]), (false, [(.sl (.cons .int (.cons .int (.cons .int .nil))))]), (false, [.int])], (.tup (.cons (.agg (.cons .i (.cons .i (.cons .i .nil)))) (.cons .i .nil))), fun n (s : Int × Int × Int × Int × Int × Int × Int × Int × Int × Bool × Lv × Int) => ref16_Outcome n s.1 s.2.1 s.2.2.1 s.2.2.2.1 s.2.2.2.2.1 s.2.2.2.2.2.1 s.2.2.2.2.2.2.1 s.2.2.2.2.2.2.2.1 s.2.2.2.2.2.2.2.2.1 s.2.2.2.2.2.2.2.2.2.1 s.2.2.2.2.2.2.2.2.2.2.1 s.2.2.2.2.2.2.2.2.2.2.2⟩
theorem ref16_Outcome_ok : ref16_Outcome_t.ok Tryz.prog 51 := FnT.ok_of (cfg := ⟨[], consD2, [], mapsD2⟩) (tab := ref16_run_T) (mt := mt0) pfit ref16_run_T_ok mt0_ok (fun s fn hf => by rw [Tryz.func51] at hf; cases hf; kernel_rfl) (fun n s => by kernel_rfl)
def ref16_Outcome_T : Tab := (51, ref16_Outcome_t) :: ref16_run_T
theorem ref16_Outcome_T_ok : ref16_Outcome_T.ok Tryz.prog := Tab.ok_cons ref16_Outcome_ok ref16_run_T_ok
abbrev ref16_Timeline_a := Lv × Int
def ref16_Timeline_1 (n : Nat) (v0 v1 v2 v3 v4 v5 v6 v7 v8 : Int) (v9 : Bool) (v10 : Lv) : Option ref16_Timeline_a :=
 (ref16_Valid n v0 v1 v2 v3 v4 v5 v6 v7 v8 v9 v10).bind fun y11 =>
 (bif (!y11) then some (([] : Lv), 160)
 else (ref16_run n v0 v1 v2 v3 v4 v5 v6 v7 v8 v9 v10 40000000).bind fun y12 =>
 some (y12.1, 0))
def ref16_Timeline (n : Nat) (v0 v1 v2 v3 v4 v5 v6 v7 v8 : Int) (v9 : Bool) (v10 : Lv) : Option ref16_Timeline_a := ref16_Timeline_1 n v0 v1 v2 v3 v4 v5 v6 v7 v8 v9 v10
def ref16_Timeline_t : FnT := ⟨[(true, [.int, .int, .int, .int]), (true, [.int, .int, .int, .int, .int, .bool]), (false, [(.sl (.cons .int (.cons .int (.cons .int .nil))))])], (.tup (.cons (.row 116 (.cons .int (.cons .int (.cons .int .nil)))) (.cons .i .nil))), fun n (s : Int × Int × Int × Int × Int × Int × Int × Int × Int × Bool × Lv) => ref16_Timeline n s.1 s.2.1 s.2.2.1 s.2.2.2.1 s.2.2.2.2.1 s.2.2.2.2.2.1 s.2.2.2.2.2.2.1 s.2.2.2.2.2.2.2.1 s.2.2.2.2.2.2.2.2.1 s.2.2.2.2.2.2.2.2.2.1 s.2.2.2.2.2.2.2.2.2.2⟩
theorem ref16_Timeline_ok : ref16_Timeline_t.ok Tryz.prog 49 := FnT.ok_of (cfg := ⟨[], consD2, [], mapsD2⟩) (tab := ref16_Outcome_T) (mt := mt0) pfit ref16_Outcome_T_ok mt0_ok (fun s fn hf => by rw [Tryz.func49] at hf; cases hf; kernel_rfl) (fun n s => by kernel_rfl)
def ref16_Timeline_T : Tab := (49, ref16_Timeline_t) :: ref16_Outcome_T
theorem ref16_Timeline_T_ok : ref16_Timeline_T.ok Tryz.prog := Tab.ok_cons ref16_Timeline_ok ref16_Outcome_T_ok
abbrev ref16_Made_a := Int × Int × Int × Int × Int × Int × Int × Int × Int × Bool × Lv
abbrev ref16_Made_s0 := Lv × Int × Int
def ref16_Made_4 (n : Nat) (go0 : ref16_Made_s0 → Option ref16_Made_a) (v10 v21 : Lv) (v22 v23 v24 v25 v28 : Int) : Option ref16_Made_a :=
 (bif (decide (0 < v28)) then bif ((decide ((-9223372036854775808) ≤ (Int.tdiv (cI v10 v23 1) 4))) && (decide ((Int.tdiv (cI v10 v23 1) 4) ≤ 9223372036854775807))) then (ref16_pick n (Int.tdiv (cI v10 v23 1) 4) 3).bind fun y30 =>
 (bif (decide (0 < y30)) then bif ((decide ((-9223372036854775808) ≤ (v28 - 1))) && (decide ((v28 - 1) ≤ 9223372036854775807))) then (ref16_pick n (cI v10 v23 1) 3).bind fun y31 =>
 bif ((decide ((-9223372036854775808) ≤ ((v28 - 1) + y31))) && (decide (((v28 - 1) + y31) ≤ 9223372036854775807))) then (bif (decide ((1 + v24) = 2)) then (ref16_pick n (cI v10 v23 2) 4).bind fun y32 =>
 bif ((decide ((-9223372036854775808) ≤ (1 + y32))) && (decide ((1 + y32) ≤ 9223372036854775807))) then bif (decide ((((v21.length : Int) + 1) * 24) ≤ 140737488355328)) then bif ((decide ((-9223372036854775808) ≤ (v23 + 1))) && (decide ((v23 + 1) ≤ 9223372036854775807))) then go0 ((v21 ++ [[(AV.int (1 + v24)), (AV.int (imax v22 ((v28 - 1) + y31))), (AV.int (1 + y32))]]), (imax v22 ((v28 - 1) + y31)), (v23 + 1)) else none else none else none
 else (bif (decide ((1 + v24) = 6)) then (ref16_pick n (cI v10 v23 2) 4).bind fun y32 =>
 bif ((decide ((-9223372036854775808) ≤ (1 + y32))) && (decide ((1 + y32) ≤ 9223372036854775807))) then bif (decide ((((v21.length : Int) + 1) * 24) ≤ 140737488355328)) then bif ((decide ((-9223372036854775808) ≤ (v23 + 1))) && (decide ((v23 + 1) ≤ 9223372036854775807))) then go0 ((v21 ++ [[(AV.int (1 + v24)), (AV.int (imax v22 ((v28 - 1) + y31))), (AV.int (1 + y32))]]), (imax v22 ((v28 - 1) + y31)), (v23 + 1)) else none else none else none
 else bif (decide ((((v21.length : Int) + 1) * 24) ≤ 140737488355328)) then bif ((decide ((-9223372036854775808) ≤ (v23 + 1))) && (decide ((v23 + 1) ≤ 9223372036854775807))) then go0 ((v21 ++ [[(AV.int (1 + v24)), (AV.int (imax v22 ((v28 - 1) + y31))), (AV.int 0)]]), (imax v22 ((v28 - 1) + y31)), (v23 + 1)) else none else none)) else none else none
 else (bif (decide ((1 + v24) = 2)) then (ref16_pick n (cI v10 v23 2) 4).bind fun y31 =>
 bif ((decide ((-9223372036854775808) ≤ (1 + y31))) && (decide ((1 + y31) ≤ 9223372036854775807))) then bif (decide ((((v21.length : Int) + 1) * 24) ≤ 140737488355328)) then bif ((decide ((-9223372036854775808) ≤ (v23 + 1))) && (decide ((v23 + 1) ≤ 9223372036854775807))) then go0 ((v21 ++ [[(AV.int (1 + v24)), (AV.int (v22 + v25)), (AV.int (1 + y31))]]), (v22 + v25), (v23 + 1)) else none else none else none
 else (bif (decide ((1 + v24) = 6)) then (ref16_pick n (cI v10 v23 2) 4).bind fun y31 =>
 bif ((decide ((-9223372036854775808) ≤ (1 + y31))) && (decide ((1 + y31) ≤ 9223372036854775807))) then bif (decide ((((v21.length : Int) + 1) * 24) ≤ 140737488355328)) then bif ((decide ((-9223372036854775808) ≤ (v23 + 1))) && (decide ((v23 + 1) ≤ 9223372036854775807))) then go0 ((v21 ++ [[(AV.int (1 + v24)), (AV.int (v22 + v25)), (AV.int (1 + y31))]]), (v22 + v25), (v23 + 1)) else none else none else none
 else bif (decide ((((v21.length : Int) + 1) * 24) ≤ 140737488355328)) then bif ((decide ((-9223372036854775808) ≤ (v23 + 1))) && (decide ((v23 + 1) ≤ 9223372036854775807))) then go0 ((v21 ++ [[(AV.int (1 + v24)), (AV.int (v22 + v25)), (AV.int 0)]]), (v22 + v25), (v23 + 1)) else none else none))) else none
 else (bif (decide ((1 + v24) = 2)) then (ref16_pick n (cI v10 v23 2) 4).bind fun y30 =>
 bif ((decide ((-9223372036854775808) ≤ (1 + y30))) && (decide ((1 + y30) ≤ 9223372036854775807))) then bif (decide ((((v21.length : Int) + 1) * 24) ≤ 140737488355328)) then bif ((decide ((-9223372036854775808) ≤ (v23 + 1))) && (decide ((v23 + 1) ≤ 9223372036854775807))) then go0 ((v21 ++ [[(AV.int (1 + v24)), (AV.int (v22 + v25)), (AV.int (1 + y30))]]), (v22 + v25), (v23 + 1)) else none else none else none
 else (bif (decide ((1 + v24) = 6)) then (ref16_pick n (cI v10 v23 2) 4).bind fun y30 =>
 bif ((decide ((-9223372036854775808) ≤ (1 + y30))) && (decide ((1 + y30) ≤ 9223372036854775807))) then bif (decide ((((v21.length : Int) + 1) * 24) ≤ 140737488355328)) then bif ((decide ((-9223372036854775808) ≤ (v23 + 1))) && (decide ((v23 + 1) ≤ 9223372036854775807))) then go0 ((v21 ++ [[(AV.int (1 + v24)), (AV.int (v22 + v25)), (AV.int (1 + y30))]]), (v22 + v25), (v23 + 1)) else none else none else none
 else bif (decide ((((v21.length : Int) + 1) * 24) ≤ 140737488355328)) then bif ((decide ((-9223372036854775808) ≤ (v23 + 1))) && (decide ((v23 + 1) ≤ 9223372036854775807))) then go0 ((v21 ++ [[(AV.int (1 + v24)), (AV.int (v22 + v25)), (AV.int 0)]]), (v22 + v25), (v23 + 1)) else none else none)))
def ref16_Made_3 (n : Nat) (go0 : ref16_Made_s0 → Option ref16_Made_a) (v10 : Lv) (v11 v12 v13 v14 v15 v16 v17 v18 v19 v20 : Int) (v21 : Lv) (v22 v23 : Int) : Option ref16_Made_a :=
 (bif (decide (v23 < 10)) then bif (decide (0 ≤ v23)) then (ref16_pick n (cI v10 v23 0) 6).bind fun y24 =>
 bif ((decide ((-9223372036854775808) ≤ (1 + y24))) && (decide ((1 + y24) ≤ 9223372036854775807))) then (ref16_pick n (cI v10 v23 1) 4).bind fun y25 =>
 bif ((decide ((-9223372036854775808) ≤ (v22 + y25))) && (decide ((v22 + y25) ≤ 9223372036854775807))) then (ref16_Outcome n v11 v12 v13 v14 v15 v16 (Int.tmod ((v16 + 1) + v20) 8) v17 v18 (decide (v19 = 0)) v21 v22).bind fun y26 =>
 ref16_Made_4 n go0 v10 v21 v22 v23 y24 y25 y26.2.2.1 else none else none else none
 else some (v11, v12, v13, v14, v15, v16, (Int.tmod ((v16 + 1) + v20) 8), v17, v18, (decide (v19 = 0)), v21))
def ref16_Made_2 (n : Nat) (go0 : ref16_Made_s0 → Option ref16_Made_a) (v10 : Lv) (v11 v12 v13 v14 v15 v16 v17 v18 v19 v20 : Int) (v21 : Lv) (v22 v23 : Int) : Option ref16_Made_a :=
 (bif (decide (v23 < (v10.length : Int))) then ref16_Made_3 n go0 v10 v11 v12 v13 v14 v15 v16 v17 v18 v19 v20 v21 v22 v23
 else some (v11, v12, v13, v14, v15, v16, (Int.tmod ((v16 + 1) + v20) 8), v17, v18, (decide (v19 = 0)), v21))
def ref16_Made_1 (n : Nat) (v0 v1 v2 v3 v4 v5 v6 v7 v8 v9 : Int) (v10 : Lv) : Option ref16_Made_a :=
 (ref16_MadeRules n v0 v1 v2 v3).bind fun y11 =>
 (ref16_pick n v4 100000000).bind fun y15 =>
 (ref16_pick n v5 8).bind fun y16 =>
 (ref16_pick n v7 64).bind fun y17 =>
 (ref16_pick n v8 1000).bind fun y18 =>
 (ref16_pick n v9 2).bind fun y19 =>
 bif ((decide ((-9223372036854775808) ≤ (y16 + 1))) && (decide ((y16 + 1) ≤ 9223372036854775807))) then (ref16_pick n v6 7).bind fun y20 =>
 bif ((decide ((-9223372036854775808) ≤ ((y16 + 1) + y20))) && (decide (((y16 + 1) + y20) ≤ 9223372036854775807))) then (iterF (fun go0 s => ref16_Made_2 n go0 v10 y11.1 y11.2.1 y11.2.2.1 y11.2.2.2 y15 y16 y17 y18 y19 y20 s.1 s.2.1 s.2.2) n ((([] : Lv), y18, 0) : ref16_Made_s0)) else none else none
def ref16_Made (n : Nat) (v0 v1 v2 v3 v4 v5 v6 v7 v8 v9 : Int) (v10 : Lv) : Option ref16_Made_a := ref16_Made_1 n v0 v1 v2 v3 v4 v5 v6 v7 v8 v9 v10
def ref16_Made_t : FnT := ⟨[(true, [.int, .int, .int, .int, .int, .int, .int, .int, .int, .int, (.sl (.cons .int (.cons .int (.cons .int .nil))))])], (.tup (.cons (.agg (.cons .i (.cons .i (.cons .i (.cons .i .nil))))) (.cons (.agg (.cons .i (.cons .i (.cons .i (.cons .i (.cons .i (.cons .b .nil))))))) (.cons (.row 72 (.cons .int (.cons .int (.cons .int .nil)))) .nil)))), fun n (s : Int × Int × Int × Int × Int × Int × Int × Int × Int × Int × Lv) => ref16_Made n s.1 s.2.1 s.2.2.1 s.2.2.2.1 s.2.2.2.2.1 s.2.2.2.2.2.1 s.2.2.2.2.2.2.1 s.2.2.2.2.2.2.2.1 s.2.2.2.2.2.2.2.2.1 s.2.2.2.2.2.2.2.2.2.1 s.2.2.2.2.2.2.2.2.2.2⟩
theorem ref16_Made_ok : ref16_Made_t.ok Tryz.prog 33 := FnT.ok_of (cfg := ⟨[((33, 8, 10), .inv [(.tmprow 8 72 (.cons .int (.cons .int (.cons .int .nil)))), (.tmp 9 .int), (.tmp 10 .int)])], consD2, [], mapsD2⟩) (tab := ref16_Timeline_T) (mt := mt0) pfit ref16_Timeline_T_ok mt0_ok (fun s fn hf => by rw [Tryz.func33] at hf; cases hf; kernel_rfl) (fun n s => by kernel_rfl)
def ref16_Made_T : Tab := (33, ref16_Made_t) :: ref16_Timeline_T
theorem ref16_Made_T_ok : ref16_Made_T.ok Tryz.prog := Tab.ok_cons ref16_Made_ok ref16_Timeline_T_ok
abbrev ref16_Ints_a := Bool
abbrev ref16_Ints_s0 := Int
def ref16_Ints_2 (n : Nat) (go0 : ref16_Ints_s0 → Option ref16_Ints_a) (v0 v1 : Lv) (v2 : Int) : Option ref16_Ints_a :=
 (bif (decide (v2 < (v0.length : Int))) then bif (decide (0 ≤ v2)) then bif (decide (v2 < (v1.length : Int))) then (bif (!(decide ((cI v0 v2 0) = (cI v1 v2 0)))) then some false
 else bif ((decide ((-9223372036854775808) ≤ (v2 + 1))) && (decide ((v2 + 1) ≤ 9223372036854775807))) then go0 (v2 + 1) else none) else none else none
 else some true)
def ref16_Ints_1 (n : Nat) (v0 v1 : Lv) : Option ref16_Ints_a :=
 (bif (!(decide ((v0.length : Int) = (v1.length : Int)))) then some false
 else (iterF (fun go0 s => ref16_Ints_2 n go0 v0 v1 s) n (0 : ref16_Ints_s0)))
def ref16_Ints (n : Nat) (v0 v1 : Lv) : Option ref16_Ints_a := ref16_Ints_1 n v0 v1
def ref16_Ints_t : FnT := ⟨[(false, [(.sl (.cons .int .nil))]), (false, [(.sl (.cons .int .nil))])], .b, fun n (s : Lv × Lv) => ref16_Ints n s.1 s.2⟩
theorem ref16_Ints_ok : ref16_Ints_t.ok Tryz.prog 24 := FnT.ok_of (cfg := ⟨[((24, 4, 0), .inv [(.tmp 5 .int)])], consD2, [], mapsD2⟩) (tab := ref16_Made_T) (mt := mt0) pfit ref16_Made_T_ok mt0_ok (fun s fn hf => by rw [Tryz.func24] at hf; cases hf; kernel_rfl) (fun n s => by kernel_rfl)
def ref16_Ints_T : Tab := (24, ref16_Ints_t) :: ref16_Made_T
theorem ref16_Ints_T_ok : ref16_Ints_T.ok Tryz.prog := Tab.ok_cons ref16_Ints_ok ref16_Made_T_ok
abbrev claim_isClaim_a := Bool
def claim_isClaim_1 (n : Nat) (v0 v1 v2 v3 v4 : Int) : Option claim_isClaim_a :=
 (bif (decide (0 ≤ v0)) then (bif (decide (v0 ≤ 99999999)) then (bif (decide (0 ≤ v1)) then (bif (decide (v1 ≤ 7)) then (bif (decide (0 ≤ v2)) then (bif (decide (v2 ≤ 7)) then (bif (!(decide (v1 = v2))) then (bif (decide (0 ≤ v3)) then (bif (decide (v3 ≤ 63)) then (bif (decide (0 ≤ v4)) then some (decide (v4 ≤ 10000000))
 else some false)
 else some false)
 else some false)
 else some false)
 else some false)
 else some false)
 else some false)
 else some false)
 else some false)
 else some false)
def claim_isClaim (n : Nat) (v0 v1 v2 v3 v4 : Int) (v5 : Bool) : Option claim_isClaim_a := claim_isClaim_1 n v0 v1 v2 v3 v4
def claim_isClaim_t : FnT := ⟨[(true, [.int, .int, .int, .int, .int, .bool])], .b, fun n (s : Int × Int × Int × Int × Int × Bool) => claim_isClaim n s.1 s.2.1 s.2.2.1 s.2.2.2.1 s.2.2.2.2.1 s.2.2.2.2.2⟩
theorem claim_isClaim_ok : claim_isClaim_t.ok Tryz.prog 79 := FnT.ok_of (cfg := ⟨[], consD2, [], mapsD2⟩) (tab := ref16_Ints_T) (mt := mt0) pfit ref16_Ints_T_ok mt0_ok (fun s fn hf => by rw [Tryz.func79] at hf; cases hf; kernel_rfl) (fun n s => by kernel_rfl)
def claim_isClaim_T : Tab := (79, claim_isClaim_t) :: ref16_Ints_T
theorem claim_isClaim_T_ok : claim_isClaim_T.ok Tryz.prog := Tab.ok_cons claim_isClaim_ok ref16_Ints_T_ok
abbrev claim_Valid_a := Bool
abbrev claim_Valid_s0 := Int × Int
abbrev claim_Valid_s1 := Int
def claim_Valid_3 (n : Nat) (go0 : claim_Valid_s0 → Option claim_Valid_a) (v10 : Lv) (v13 v14 : Int) : Option claim_Valid_a :=
 (bif (decide (v13 < (v10.length : Int))) then bif (decide (0 ≤ v13)) then (bif (decide ((cI v10 v13 0) = 2)) then (bif (decide (1 ≤ (cI v10 v13 0))) then (bif (!(decide ((cI v10 v13 0) ≤ 6))) then some (!(decide (0 ≤ v13)))
 else (bif (decide (v14 ≤ (cI v10 v13 1))) then (bif (!(decide ((cI v10 v13 1) ≤ 20000000))) then some (!(decide (0 ≤ v13)))
 else (bif (decide (1 ≤ (cI v10 v13 2))) then (bif (!(decide ((cI v10 v13 2) ≤ 9))) then some (!(decide (0 ≤ v13)))
 else bif ((decide ((-9223372036854775808) ≤ (v13 + 1))) && (decide ((v13 + 1) ≤ 9223372036854775807))) then go0 ((v13 + 1), (cI v10 v13 1)) else none)
 else some (!(decide (0 ≤ v13)))))
 else some (!(decide (0 ≤ v13)))))
 else some (!(decide (0 ≤ v13))))
 else (bif (decide ((cI v10 v13 0) = 6)) then (bif (decide (1 ≤ (cI v10 v13 0))) then (bif (!(decide ((cI v10 v13 0) ≤ 6))) then some (!(decide (0 ≤ v13)))
 else (bif (decide (v14 ≤ (cI v10 v13 1))) then (bif (!(decide ((cI v10 v13 1) ≤ 20000000))) then some (!(decide (0 ≤ v13)))
 else (bif (decide (1 ≤ (cI v10 v13 2))) then (bif (!(decide ((cI v10 v13 2) ≤ 9))) then some (!(decide (0 ≤ v13)))
 else bif ((decide ((-9223372036854775808) ≤ (v13 + 1))) && (decide ((v13 + 1) ≤ 9223372036854775807))) then go0 ((v13 + 1), (cI v10 v13 1)) else none)
 else some (!(decide (0 ≤ v13)))))
 else some (!(decide (0 ≤ v13)))))
 else some (!(decide (0 ≤ v13))))
 else (bif (decide (1 ≤ (cI v10 v13 0))) then (bif (!(decide ((cI v10 v13 0) ≤ 6))) then some (!(decide (0 ≤ v13)))
 else (bif (decide (v14 ≤ (cI v10 v13 1))) then (bif (!(decide ((cI v10 v13 1) ≤ 20000000))) then some (!(decide (0 ≤ v13)))
 else (bif (decide (0 ≤ (cI v10 v13 2))) then (bif (!(decide ((cI v10 v13 2) ≤ 0))) then some (!(decide (0 ≤ v13)))
 else bif ((decide ((-9223372036854775808) ≤ (v13 + 1))) && (decide ((v13 + 1) ≤ 9223372036854775807))) then go0 ((v13 + 1), (cI v10 v13 1)) else none)
 else some (!(decide (0 ≤ v13)))))
 else some (!(decide (0 ≤ v13)))))
 else some (!(decide (0 ≤ v13)))))) else none
 else some true)
def claim_Valid_2 (n : Nat) (go0 : claim_Valid_s1 → Option claim_Valid_a) (v0 v1 v2 v3 v4 v5 v6 v7 v8 : Int) (v9 : Bool) (v10 : Lv) (v11 : Int) : Option claim_Valid_a :=
 (bif (decide (v11 < 4)) then bif (decide (0 ≤ v11)) then (bif (decide (1 ≤ (cI ((((([] : Lv) ++ [[(AV.int v0)]]) ++ [[(AV.int v2)]]) ++ [[(AV.int v1)]]) ++ [[(AV.int v3)]]) v11 0))) then (bif (!(decide ((cI ((((([] : Lv) ++ [[(AV.int v0)]]) ++ [[(AV.int v2)]]) ++ [[(AV.int v1)]]) ++ [[(AV.int v3)]]) v11 0) ≤ 1000000))) then some false
 else bif ((decide ((-9223372036854775808) ≤ (v11 + 1))) && (decide ((v11 + 1) ≤ 9223372036854775807))) then go0 (v11 + 1) else none)
 else some false) else none
 else (claim_isClaim n v4 v5 v6 v7 v8 v9).bind fun y12 =>
 (bif (!y12) then some false
 else (bif (decide (20 < (v10.length : Int))) then some false
 else (iterF (fun go0 s => claim_Valid_3 n go0 v10 s.1 s.2) n ((0, v8) : claim_Valid_s0)))))
def claim_Valid_1 (n : Nat) (v0 v1 v2 v3 v4 v5 v6 v7 v8 : Int) (v9 : Bool) (v10 : Lv) : Option claim_Valid_a :=
 (iterF (fun go0 s => claim_Valid_2 n go0 v0 v1 v2 v3 v4 v5 v6 v7 v8 v9 v10 s) n (0 : claim_Valid_s1))
def claim_Valid (n : Nat) (v0 v1 v2 v3 v4 v5 v6 v7 v8 : Int) (v9 : Bool) (v10 : Lv) : Option claim_Valid_a := claim_Valid_1 n v0 v1 v2 v3 v4 v5 v6 v7 v8 v9 v10
def claim_Valid_t : FnT := ⟨[(true, [.int, .int, .int, .int]), (true, [.int, .int, .int, .int, .int, .bool]), (false, [(.sl (.cons .int (.cons .int (.cons .int .nil))))])], .b, fun n (s : Int × Int × Int × Int × Int × Int × Int × Int × Int × Bool × Lv) => claim_Valid n s.1 s.2.1 s.2.2.1 s.2.2.2.1 s.2.2.2.2.1 s.2.2.2.2.2.1 s.2.2.2.2.2.2.1 s.2.2.2.2.2.2.2.1 s.2.2.2.2.2.2.2.2.1 s.2.2.2.2.2.2.2.2.2.1 s.2.2.2.2.2.2.2.2.2.2⟩
theorem claim_Valid_ok : claim_Valid_t.ok Tryz.prog 45 := FnT.ok_of (cfg := ⟨[((78, 2, 4), .inv [(.tmp 15 .int)]), ((112, 2, 7), .inv [(.tmp 8 .int), (.cell 5 0 .int)])], consD2, [], mapsD2⟩) (tab := claim_isClaim_T) (mt := mt0) pfit claim_isClaim_T_ok mt0_ok (fun s fn hf => by rw [Tryz.func45] at hf; cases hf; kernel_rfl) (fun n s => by kernel_rfl)
def claim_Valid_T : Tab := (45, claim_Valid_t) :: claim_isClaim_T
theorem claim_Valid_T_ok : claim_Valid_T.ok Tryz.prog := Tab.ok_cons claim_Valid_ok claim_isClaim_T_ok
abbrev claim_Ends_a := Int × Int
abbrev claim_Ends_s0 := Int
def claim_Ends_2 (n : Nat) (go0 : claim_Ends_s0 → Option claim_Ends_a) (v0 v1 v2 v3 v4 v5 v6 v7 v8 : Int) (v9 : Bool) (v10 : Int) : Option claim_Ends_a :=
 (bif (decide (v10 < 4)) then bif (decide (0 ≤ v10)) then (bif (decide (1 ≤ (cI ((((([] : Lv) ++ [[(AV.int v0)]]) ++ [[(AV.int v2)]]) ++ [[(AV.int v1)]]) ++ [[(AV.int v3)]]) v10 0))) then (bif (!(decide ((cI ((((([] : Lv) ++ [[(AV.int v0)]]) ++ [[(AV.int v2)]]) ++ [[(AV.int v1)]]) ++ [[(AV.int v3)]]) v10 0) ≤ 1000000))) then some (0, 160)
 else bif ((decide ((-9223372036854775808) ≤ (v10 + 1))) && (decide ((v10 + 1) ≤ 9223372036854775807))) then go0 (v10 + 1) else none)
 else some (0, 160)) else none
 else (claim_isClaim n v4 v5 v6 v7 v8 v9).bind fun y11 =>
 (bif (!y11) then some (0, 160)
 else bif ((decide ((-9223372036854775808) ≤ (v8 + v0))) && (decide ((v8 + v0) ≤ 9223372036854775807))) then bif ((decide ((-9223372036854775808) ≤ ((v8 + v0) - 1))) && (decide (((v8 + v0) - 1) ≤ 9223372036854775807))) then bif ((decide ((-9223372036854775808) ≤ (((v8 + v0) - 1) + v2))) && (decide ((((v8 + v0) - 1) + v2) ≤ 9223372036854775807))) then bif ((decide ((-9223372036854775808) ≤ ((((v8 + v0) - 1) + v2) + v1))) && (decide (((((v8 + v0) - 1) + v2) + v1) ≤ 9223372036854775807))) then bif ((decide ((-9223372036854775808) ≤ (((((v8 + v0) - 1) + v2) + v1) + v3))) && (decide ((((((v8 + v0) - 1) + v2) + v1) + v3) ≤ 9223372036854775807))) then some ((((((v8 + v0) - 1) + v2) + v1) + v3), 0) else none else none else none else none else none))
def claim_Ends_1 (n : Nat) (v0 v1 v2 v3 v4 v5 v6 v7 v8 : Int) (v9 : Bool) : Option claim_Ends_a :=
 (iterF (fun go0 s => claim_Ends_2 n go0 v0 v1 v2 v3 v4 v5 v6 v7 v8 v9 s) n (0 : claim_Ends_s0))
def claim_Ends (n : Nat) (v0 v1 v2 v3 v4 v5 v6 v7 v8 : Int) (v9 : Bool) : Option claim_Ends_a := claim_Ends_1 n v0 v1 v2 v3 v4 v5 v6 v7 v8 v9
def claim_Ends_t : FnT := ⟨[(true, [.int, .int, .int, .int]), (true, [.int, .int, .int, .int, .int, .bool])], (.tup (.cons .i (.cons .i .nil))), fun n (s : Int × Int × Int × Int × Int × Int × Int × Int × Int × Bool) => claim_Ends n s.1 s.2.1 s.2.2.1 s.2.2.2.1 s.2.2.2.2.1 s.2.2.2.2.2.1 s.2.2.2.2.2.2.1 s.2.2.2.2.2.2.2.1 s.2.2.2.2.2.2.2.2.1 s.2.2.2.2.2.2.2.2.2⟩
theorem claim_Ends_ok : claim_Ends_t.ok Tryz.prog 41 := FnT.ok_of (cfg := ⟨[((78, 2, 4), .inv [(.tmp 15 .int)])], consD2, [], mapsD2⟩) (tab := claim_Valid_T) (mt := mt0) pfit claim_Valid_T_ok mt0_ok (fun s fn hf => by rw [Tryz.func41] at hf; cases hf; kernel_rfl) (fun n s => by kernel_rfl)
def claim_Ends_T : Tab := (41, claim_Ends_t) :: claim_Valid_T
theorem claim_Ends_T_ok : claim_Ends_T.ok Tryz.prog := Tab.ok_cons claim_Ends_ok claim_Valid_T_ok
end
end Go.Proofs.YtjllgiddmeiaoaaGreat
namespace Go.Dial.Clm
structure Rl where
 a : Int
 c : Int
 s : Int
 r : Int
deriving DecidableEq
structure Cl where
 n : Int
 f : Int
 t : Int
 h : Int
 a : Int
 b : Bool
deriving DecidableEq
structure Ce where
 k : Int
 a : Int
 r : Int
deriving DecidableEq
structure Cs where
 s : Int
 f : Int
 n : Int
deriving DecidableEq
def RlV (r : Rl) : Prop := 1 ≤ r.a ∧ r.a ≤ 1000000 ∧ 1 ≤ r.c ∧ r.c ≤ 1000000 ∧ 1 ≤ r.s ∧ r.s ≤ 1000000 ∧ 1 ≤ r.r ∧ r.r ≤ 1000000
instance (r : Rl) : Decidable (RlV r) := by unfold RlV; infer_instance
def ClV (c : Cl) : Prop := 0 ≤ c.n ∧ c.n ≤ 99999999 ∧ 0 ≤ c.f ∧ c.f ≤ 7 ∧ 0 ≤ c.t ∧ c.t ≤ 7 ∧ c.f ≠ c.t ∧ 0 ≤ c.h ∧ c.h ≤ 63 ∧ 0 ≤ c.a ∧ c.a ≤ 10000000
instance (c : Cl) : Decidable (ClV c) := by unfold ClV; infer_instance
def CeV (last : Int) (e : Ce) : Prop := 1 ≤ e.k ∧ e.k ≤ 6 ∧ last ≤ e.a ∧ e.a ≤ 20000000 ∧ (e.k = 2 ∨ e.k = 6 → 1 ≤ e.r ∧ e.r ≤ 9) ∧ (¬ (e.k = 2 ∨ e.k = 6) → e.r = 0)
instance (last : Int) (e : Ce) : Decidable (CeV last e) := by unfold CeV; infer_instance
def EvV : Int → List Ce → Prop
 | _, [] => True
 | last, e :: es => CeV last e ∧ EvV e.a es
instance EvV.dec : (last : Int) → (es : List Ce) → Decidable (EvV last es)
 | _, [] => .isTrue trivial
 | last, e :: es => by
  have := EvV.dec e.a es
  unfold EvV
  infer_instance
def ClmV (r : Rl) (c : Cl) (es : List Ce) : Prop := RlV r ∧ ClV c ∧ es.length ≤ 20 ∧ EvV c.a es
instance (r : Rl) (c : Cl) (es : List Ce) : Decidable (ClmV r c es) := by unfold ClmV; infer_instance
def dur (r : Rl) (s : Int) : Int := if s = 1 then r.a else if s = 2 then r.s else if s = 3 then r.c else r.r
def st (r : Rl) (s f : Int) : Cs := ⟨s, f, if 1 ≤ s ∧ s ≤ 4 then f + dur r s else -1⟩
def aft (s : Int) : Int := if s = 3 then 4 else if s = 4 then 5 else 3
def bec (b : Bool) (s : Int) (e : Ce) : Int :=
 if e.k = 1 then (if s = 1 then 3 else -1)
 else if e.k = 2 then (if s = 1 then (if e.r = 1 then (if b then -1 else 6) else 2) else -1)
 else if e.k = 3 then (if s = 2 then 3 else -1)
 else if e.k = 4 then (if s = 2 then 6 else -1)
 else if e.k = 5 then (if s = 1 ∨ s = 2 ∨ s = 3 then 7 else -1)
 else if e.k = 6 then (if s = 4 then (if e.r = 1 ∧ b then -1 else 8) else -1)
 else -1
def act (x : Cs) : Prop := 1 ≤ x.s ∧ x.s ≤ 4
instance (x : Cs) : Decidable (act x) := by unfold act; infer_instance
def rk (s : Int) : Nat := if s = 1 ∨ s = 2 then 3 else if s = 3 then 2 else if s = 4 then 1 else 0
theorem rk_le (s : Int) : rk s ≤ 3 := by unfold rk; split; omega; split; omega; split <;> omega
theorem rk_aft {s : Int} (h : 1 ≤ s ∧ s ≤ 4) : rk (aft s) < rk s := by
 have : s = 1 ∨ s = 2 ∨ s = 3 ∨ s = 4 := by omega
 rcases this with rfl | rfl | rfl | rfl <;> decide
def tl (r : Rl) (b : Bool) : Cs → List Ce → List Cs
 | now, e :: es => if h : act now ∧ now.n ≤ e.a then st r (aft now.s) now.n :: tl r b (st r (aft now.s) now.n) (e :: es)
   else if bec b now.s e < 0 then tl r b now es else st r (bec b now.s e) e.a :: tl r b (st r (bec b now.s e) e.a) es
 | now, [] => if h : act now then st r (aft now.s) now.n :: tl r b (st r (aft now.s) now.n) [] else []
termination_by now es => 5 * es.length + rk now.s
decreasing_by
 ·have := rk_aft h.1
  simp only [st]; omega
 ·have := rk_le now.s
  simp only [List.length_cons]; omega
 ·have := rk_le (st r (bec b now.s e) e.a).s
  simp only [List.length_cons]; omega
 ·have := rk_aft h
  simp only [st]; omega
theorem tl_auto {r : Rl} {b : Bool} {now : Cs} {e : Ce} {es : List Ce} (h : act now ∧ now.n ≤ e.a) : tl r b now (e :: es) = st r (aft now.s) now.n :: tl r b (st r (aft now.s) now.n) (e :: es) := by
 rw [tl, dif_pos h]
theorem tl_void {r : Rl} {b : Bool} {now : Cs} {e : Ce} {es : List Ce} (h : ¬ (act now ∧ now.n ≤ e.a)) (hb : bec b now.s e < 0) : tl r b now (e :: es) = tl r b now es := by
 rw [tl, dif_neg h, if_pos hb]
theorem tl_ev {r : Rl} {b : Bool} {now : Cs} {e : Ce} {es : List Ce} (h : ¬ (act now ∧ now.n ≤ e.a)) (hb : ¬ bec b now.s e < 0) : tl r b now (e :: es) = st r (bec b now.s e) e.a :: tl r b (st r (bec b now.s e) e.a) es := by
 rw [tl, dif_neg h, if_neg hb]
theorem tl_end {r : Rl} {b : Bool} {now : Cs} (h : act now) : tl r b now [] = st r (aft now.s) now.n :: tl r b (st r (aft now.s) now.n) [] := by
 rw [tl, dif_pos h]
theorem tl_nil {r : Rl} {b : Bool} {now : Cs} (h : ¬ act now) : tl r b now [] = [] := by
 rw [tl, dif_neg h]
theorem tl_all {r : Rl} {b : Bool} (P : Cs → Prop) (A : Cs → List Ce → Prop)
  (h1 : ∀ now e es, A now (e :: es) → act now → now.n ≤ e.a → P (st r (aft now.s) now.n) ∧ A (st r (aft now.s) now.n) (e :: es))
  (h2 : ∀ now e es, A now (e :: es) → ¬ (act now ∧ now.n ≤ e.a) → bec b now.s e < 0 → A now es)
  (h3 : ∀ now e es, A now (e :: es) → ¬ (act now ∧ now.n ≤ e.a) → ¬ bec b now.s e < 0 → P (st r (bec b now.s e) e.a) ∧ A (st r (bec b now.s e) e.a) es)
  (h4 : ∀ now, A now [] → act now → P (st r (aft now.s) now.n) ∧ A (st r (aft now.s) now.n) []) : ∀ (m : Nat) now es, 5 * es.length + rk now.s ≤ m → A now es → ∀ x ∈ tl r b now es, P x := by
 intro m
 induction m with
 | zero =>
  intro now es hm hA x hx
  have he : es = [] := by
   cases es with
   | nil => rfl
   | cons e es => simp at hm
  subst he
  by_cases ha : act now
  ·have := rk_aft ha; omega
  ·rw [tl_nil ha] at hx; cases hx
 | succ m ih =>
  intro now es hm hA x hx
  cases es with
  | nil =>
   by_cases ha : act now
   ·rw [tl_end ha] at hx
    obtain ⟨p, q⟩ := h4 now hA ha
    rcases List.mem_cons.1 hx with rfl | hx
    ·exact p
    ·exact ih _ _ (by have := rk_aft ha; simp only [st]; omega) q x hx
   ·rw [tl_nil ha] at hx; cases hx
  | cons e es =>
   by_cases ha : act now ∧ now.n ≤ e.a
   ·rw [tl_auto ha] at hx
    obtain ⟨p, q⟩ := h1 now e es hA ha.1 ha.2
    rcases List.mem_cons.1 hx with rfl | hx
    ·exact p
    ·exact ih _ _ (by have := rk_aft ha.1; simp only [st]; omega) q x hx
   ·by_cases hb : bec b now.s e < 0
    ·rw [tl_void ha hb] at hx
     exact ih _ _ (by simp only [List.length_cons] at hm; have := rk_le now.s; omega) (h2 now e es hA ha hb) x hx
    ·rw [tl_ev ha hb] at hx
     obtain ⟨p, q⟩ := h3 now e es hA ha hb
     rcases List.mem_cons.1 hx with rfl | hx
     ·exact p
     ·exact ih _ _ (by simp only [List.length_cons] at hm; have := rk_le (st r (bec b now.s e) e.a).s; omega) q x hx
theorem tl_len {r : Rl} {b : Bool} : ∀ (m : Nat) now es, 5 * es.length + rk now.s ≤ m → (tl r b now es).length ≤ 5 * es.length + rk now.s := by
 intro m
 induction m with
 | zero =>
  intro now es hm
  have he : es = [] := by
   cases es with
   | nil => rfl
   | cons e es => simp at hm
  subst he
  by_cases ha : act now
  ·have := rk_aft ha; omega
  ·rw [tl_nil ha]; simp
 | succ m ih =>
  intro now es hm
  cases es with
  | nil =>
   by_cases ha : act now
   ·rw [tl_end ha]
    have h1 := rk_aft ha
    have := ih (st r (aft now.s) now.n) [] (by simp only [st]; omega)
    simp only [st, List.length_cons, List.length_nil] at this ⊢; omega
   ·rw [tl_nil ha]; simp
  | cons e es =>
   by_cases ha : act now ∧ now.n ≤ e.a
   ·rw [tl_auto ha]
    have h1 := rk_aft ha.1
    have := ih (st r (aft now.s) now.n) (e :: es) (by simp only [st]; omega)
    simp only [st, List.length_cons] at this ⊢; omega
   ·by_cases hb : bec b now.s e < 0
    ·rw [tl_void ha hb]
     simp only [List.length_cons] at hm ⊢
     have h1 := rk_le now.s
     have := ih now es (by omega)
     omega
    ·rw [tl_ev ha hb]
     simp only [List.length_cons] at hm ⊢
     have h1 := rk_le (st r (bec b now.s e) e.a).s
     have := ih (st r (bec b now.s e) e.a) es (by omega)
     omega
theorem evV_mono {l m : Int} {es : List Ce} (h : EvV l es) (hm : m ≤ l) : EvV m es := by
 cases es with
 | nil => trivial
 | cons e es => exact ⟨⟨h.1.1, h.1.2.1, by have := h.1.2.2.1; omega, h.1.2.2.2⟩, h.2⟩
theorem evV_ge {l : Int} {es : List Ce} (h : EvV l es) : ∀ e ∈ es, l ≤ e.a ∧ e.a ≤ 20000000 := by
 induction es generalizing l with
 | nil => intro e he; cases he
 | cons x es ih =>
  intro e he
  rcases List.mem_cons.1 he with rfl | he
  ·exact ⟨h.1.2.2.1, h.1.2.2.2.1⟩
  ·have := ih h.2 e he
   have := h.1.2.2.1
   omega
theorem dur_bd {r : Rl} (h : RlV r) (s : Int) : 1 ≤ dur r s ∧ dur r s ≤ 1000000 := by
 unfold RlV at h; unfold dur; split; omega; split; omega; split <;> omega
theorem st_n {r : Rl} (h : RlV r) {s f : Int} (ha : 1 ≤ s ∧ s ≤ 4) : f < (st r s f).n ∧ (st r s f).n ≤ f + 1000000 := by
 have := dur_bd h s
 simp only [st]; rw [if_pos ha]; omega
theorem tl_ge {r : Rl} (hr : RlV r) {b : Bool} {now : Cs} {es : List Ce} {m : Int} (h1 : act now → m ≤ now.n) (h2 : ∀ e ∈ es, m ≤ e.a) : ∀ x ∈ tl r b now es, m ≤ x.f := by
 refine tl_all (r := r) (b := b) (fun x => m ≤ x.f) (fun now es => (act now → m ≤ now.n) ∧ ∀ e ∈ es, m ≤ e.a) ?_ ?_ ?_ ?_ _ now es (Nat.le_refl _) ⟨h1, h2⟩
 ·intro now e es ⟨g1, g2⟩ ha hle
  exact ⟨g1 ha, fun hx => by have := st_n hr (s := aft now.s) (f := now.n) hx; have := g1 ha; omega, g2⟩
 ·intro now e es ⟨g1, g2⟩ _ _
  exact ⟨g1, fun x hx => g2 x (List.mem_cons_of_mem _ hx)⟩
 ·intro now e es ⟨g1, g2⟩ _ _
  have := g2 e (List.mem_cons_self ..)
  exact ⟨this, fun hx => by have := st_n hr (s := bec b now.s e) (f := e.a) hx; omega, fun x hx => g2 x (List.mem_cons_of_mem _ hx)⟩
 ·intro now ⟨g1, g2⟩ ha
  exact ⟨g1 ha, fun hx => by have := st_n hr (s := aft now.s) (f := now.n) hx; have := g1 ha; omega, g2⟩
theorem tl_le {r : Rl} (hr : RlV r) {b : Bool} {now : Cs} {es : List Ce} (h1 : now.f + 1000000 * rk now.s ≤ 23000000) (h0 : act now → now.n ≤ now.f + 1000000) (h2 : ∀ e ∈ es, e.a ≤ 20000000) : ∀ x ∈ tl r b now es, x.f ≤ 23000000 := by
 refine tl_all (r := r) (b := b) (fun x => x.f ≤ 23000000) (fun now es => now.f + 1000000 * rk now.s ≤ 23000000 ∧ (act now → now.n ≤ now.f + 1000000) ∧ ∀ e ∈ es, e.a ≤ 20000000) ?_ ?_ ?_ ?_ _ now es (Nat.le_refl _) ⟨h1, h0, h2⟩
 ·intro now e es ⟨g1, g0, g2⟩ ha hle
  have k1 := rk_aft ha
  have k2 := g0 ha
  refine ⟨?_, ?_, fun hx => (st_n hr hx).2, g2⟩
  ·simp only [st]; omega
  ·simp only [st]; omega
 ·intro now e es ⟨g1, g0, g2⟩ _ _
  exact ⟨g1, g0, fun x hx => g2 x (List.mem_cons_of_mem _ hx)⟩
 ·intro now e es ⟨g1, g0, g2⟩ _ _
  have k1 := g2 e (List.mem_cons_self ..)
  have k2 := rk_le (st r (bec b now.s e) e.a).s
  refine ⟨?_, ?_, fun hx => (st_n hr hx).2, fun x hx => g2 x (List.mem_cons_of_mem _ hx)⟩
  ·simp only [st]; omega
  ·simp only [st] at k2 ⊢; omega
 ·intro now ⟨g1, g0, g2⟩ ha
  have k1 := rk_aft ha
  have k2 := g0 ha
  refine ⟨?_, ?_, fun hx => (st_n hr hx).2, g2⟩
  ·simp only [st]; omega
  ·simp only [st]; omega
def x0 (r : Rl) (c : Cl) : Cs := st r 1 c.a
def timeline (r : Rl) (c : Cl) (es : List Ce) : List Cs := x0 r c :: tl r c.b (x0 r c) es
def upTo (u : Int) (l : List Cs) : List Cs := l.takeWhile fun x => decide (x.f ≤ u)
def outV (r : Rl) (c : Cl) (es : List Ce) (t : Int) : Cs := ((upTo t (timeline r c es)).getLast?).getD ⟨0, 0, c.a⟩
def OkOut (r : Rl) (c : Cl) (es : List Ce) (t : Int) : Prop := ClmV r c es ∧ 0 ≤ t ∧ t ≤ 20000000
instance (r : Rl) (c : Cl) (es : List Ce) (t : Int) : Decidable (OkOut r c es t) := by unfold OkOut; infer_instance
def outR (r : Rl) (c : Cl) (es : List Ce) (t : Int) : Cs × Int := if OkOut r c es t then (outV r c es t, 0) else (⟨0, 0, 0⟩, 160)
def endsV (r : Rl) (c : Cl) : Int := c.a + r.a - 1 + r.s + r.c + r.r
end Go.Dial.Clm
namespace Go.Dial.Lif
structure Ev where
 k : Int
 a : Int
 h : Int
deriving DecidableEq
structure Ln where
 s : Int
 h : Int
 e : Int
 t : Int
deriving DecidableEq
structure St where
 h : Int
 e : Int
 f : Int
 t : Int
deriving DecidableEq
def first : Ln := ⟨0, -1, 0, 0⟩
def zero : Ln := ⟨0, 0, 0, 0⟩
def Vld (l : Ln) : Prop := 0 ≤ l.s ∧ l.s ≤ 3 ∧ 0 ≤ l.e ∧ l.e ≤ 1000 ∧ 0 ≤ l.t ∧ l.t ≤ 10000000 ∧ (l.s = 0 → l.h = -1) ∧ (l.s ≠ 0 → 0 ≤ l.h ∧ l.h ≤ 63 ∧ 1 ≤ l.e)
instance (l : Ln) : Decidable (Vld l) := by unfold Vld; infer_instance
def vldB (l : Ln) : Bool := decide (Vld l)
def Named (k : Int) : Prop := k = 1 ∨ k = 2
instance (k : Int) : Decidable (Named k) := by unfold Named; infer_instance
def Frm (e : Ev) : Prop := 1 ≤ e.k ∧ e.k ≤ 7 ∧ 0 ≤ e.a ∧ e.a ≤ 10000000 ∧ (Named e.k → 0 ≤ e.h ∧ e.h ≤ 63) ∧ (¬ Named e.k → e.h = -1)
instance (e : Ev) : Decidable (Frm e) := by unfold Frm; infer_instance
def frmB (e : Ev) : Bool := decide (Frm e)
def Pos (l : Ln) (e : Ev) : Prop := l.t ≤ e.a ∧ ((e.k = 1 ∧ l.s = 0 ∧ l.e < 1000) ∨ (e.k = 2 ∧ l.s = 1 ∧ l.h ≠ e.h ∧ l.e < 1000) ∨ (e.k = 3 ∧ l.s = 1) ∨ (e.k = 4 ∧ l.s = 2) ∨ (e.k = 5 ∧ (l.s = 1 ∨ l.s = 2)) ∨ (e.k = 6 ∧ l.s = 3) ∨ (e.k = 7 ∧ l.s = 3 ∧ l.t + 2592000 ≤ e.a))
instance (l : Ln) (e : Ev) : Decidable (Pos l e) := by unfold Pos; infer_instance
def nxt (l : Ln) (e : Ev) : Ln :=
 if e.k = 1 ∨ e.k = 2 then ⟨1, e.h, l.e + 1, e.a⟩ else if e.k = 3 then ⟨2, l.h, l.e, e.a⟩ else if e.k = 4 ∨ e.k = 6 then ⟨1, l.h, l.e, e.a⟩ else if e.k = 5 then ⟨3, l.h, l.e, e.a⟩ else ⟨0, -1, l.e, e.a⟩
def Ok (l : Ln) (e : Ev) : Prop := Vld l ∧ Frm e ∧ Pos l e
instance (l : Ln) (e : Ev) : Decidable (Ok l e) := by unfold Ok; infer_instance
def stepR (l : Ln) (e : Ev) : Ln × Int := if Ok l e then (nxt l e, 0) else (zero, 140)
theorem stepR_ok {l : Ln} {e : Ev} (h : Ok l e) : stepR l e = (nxt l e, 0) := if_pos h
theorem stepR_no {l : Ln} {e : Ev} (h : ¬ Ok l e) : stepR l e = (zero, 140) := if_neg h
theorem vld_first : Vld first := by decide
theorem nxt_vld {l : Ln} {e : Ev} (h : Ok l e) : Vld (nxt l e) := by
 obtain ⟨⟨h1, h2, h3, h4, h5, h6, h7, h8⟩, ⟨f1, f2, f3, f4, f5, f6⟩, p1, p2⟩ := h
 unfold Named at f5 f6
 unfold nxt
 by_cases c1 : e.k = 1 ∨ e.k = 2
 ·rw [if_pos c1]; have := f5 c1; refine ⟨?_, ?_, ?_, ?_, ?_, ?_, ?_, ?_⟩ <;> simp only <;> omega
 rw [if_neg c1]
 by_cases c3 : e.k = 3
 ·rw [if_pos c3]; have := h8 (by omega); refine ⟨?_, ?_, ?_, ?_, ?_, ?_, ?_, ?_⟩ <;> simp only <;> omega
 rw [if_neg c3]
 by_cases c4 : e.k = 4 ∨ e.k = 6
 ·rw [if_pos c4]; have := h8 (by omega); refine ⟨?_, ?_, ?_, ?_, ?_, ?_, ?_, ?_⟩ <;> simp only <;> omega
 rw [if_neg c4]
 by_cases c5 : e.k = 5
 ·rw [if_pos c5]; have := h8 (by omega); refine ⟨?_, ?_, ?_, ?_, ?_, ?_, ?_, ?_⟩ <;> simp only <;> omega
 rw [if_neg c5]
 refine ⟨?_, ?_, ?_, ?_, ?_, ?_, ?_, ?_⟩ <;> simp <;> omega
theorem nxt_t (l : Ln) (e : Ev) : (nxt l e).t = e.a := by unfold nxt; split; rfl; split; rfl; split; rfl; split <;> rfl
def runF : Ln → List Ev → Ln × Nat
 | l, [] => (l, 0)
 | l, e :: es => if Ok l e then ((runF (nxt l e) es).1, (runF (nxt l e) es).2 + 1) else (l, 0)
theorem runF_le (l : Ln) (es : List Ev) : (runF l es).2 ≤ es.length := by
 induction es generalizing l with
 | nil => simp [runF]
 | cons e es ih => unfold runF; split <;> simp; exact ih _
def All : Ln → List Ev → Prop
 | _, [] => True
 | l, e :: es => Ok l e ∧ All (nxt l e) es
def fin (l : Ln) (es : List Ev) : Ln := es.foldl nxt l
theorem runF_all {l : Ln} {es : List Ev} : (runF l es).2 = es.length ↔ All l es := by
 induction es generalizing l with
 | nil => simp [runF, All]
 | cons e es ih =>
  unfold runF All
  by_cases h : Ok l e
  ·rw [if_pos h]; simp only [List.length_cons, Nat.add_right_cancel_iff, ih, h, true_and]
  ·rw [if_neg h]; simp [h]
theorem runF_fin {l : Ln} {es : List Ev} (h : All l es) : runF l es = (fin l es, es.length) := by
 induction es generalizing l with
 | nil => rfl
 | cons e es ih =>
  obtain ⟨h1, h2⟩ := h
  rw [runF, if_pos h1, ih h2]; rfl
theorem runF_vld {l : Ln} (hl : Vld l) (es : List Ev) : Vld (runF l es).1 := by
 induction es generalizing l with
 | nil => exact hl
 | cons e es ih =>
  unfold runF
  by_cases h : Ok l e
  ·rw [if_pos h]; exact ih (nxt_vld h)
  ·rw [if_neg h]; exact hl
theorem runF_app {l : Ln} {a b : List Ev} (h : All l a) : runF l (a ++ b) = ((runF (fin l a) b).1, a.length + (runF (fin l a) b).2) := by
 induction a generalizing l with
 | nil => simp [fin]
 | cons e a ih =>
  obtain ⟨h1, h2⟩ := h
  rw [List.cons_append, runF, if_pos h1, ih h2]
  simp [fin]; omega
theorem all_app {l : Ln} {a b : List Ev} : All l (a ++ b) ↔ All l a ∧ All (fin l a) b := by
 induction a generalizing l with
 | nil => simp [All, fin]
 | cons e a ih => simp only [List.cons_append, All, ih, fin, List.foldl_cons, and_assoc]
theorem fin_app (l : Ln) (a b : List Ev) : fin l (a ++ b) = fin (fin l a) b := by simp [fin]
theorem all_vld {l : Ln} {es : List Ev} (hl : Vld l) (h : All l es) : Vld (fin l es) := by
 have := runF_vld hl es
 rwa [runF_fin h] at this
theorem all_take {l : Ln} {es : List Ev} (h : All l es) (k : Nat) : All l (es.take k) := by
 rw [← List.take_append_drop k es, all_app] at h; exact h.1
def runR (es : List Ev) : (Ln × Nat) × Int := if (runF first (es.take 40)).2 = es.length then (((runF first (es.take 40)).1, es.length), 0) else ((zero, (runF first (es.take 40)).2), 140)
def Life (es : List Ev) : Prop := All first es ∧ es.length ≤ 40
theorem life_iff {es : List Ev} : (runF first (es.take 40)).2 = es.length ↔ Life es := by
 constructor
 ·intro h
  have h1 := runF_le first (es.take 40)
  have h2 : es.length ≤ 40 := by simp at h1; omega
  rw [List.take_of_length_le h2] at h
  exact ⟨runF_all.1 h, h2⟩
 ·rintro ⟨h1, h2⟩
  rw [List.take_of_length_le h2]; exact runF_all.2 h1
instance (es : List Ev) : Decidable (Life es) := decidable_of_iff _ life_iff
theorem runR_life {es : List Ev} (h : Life es) : runR es = ((fin first es, es.length), 0) := by
 rw [runR, if_pos (life_iff.2 h), List.take_of_length_le h.2, runF_fin h.1]
theorem runR_no {es : List Ev} (h : ¬ Life es) : runR es = ((zero, (runF first (es.take 40)).2), 140) := by
 rw [runR, if_neg (fun e => h (life_iff.1 e))]
theorem life_take {es : List Ev} (h : Life es) (k : Nat) : Life (es.take k) := ⟨all_take h.1 k, by have := h.2; simp; omega⟩
theorem all_times {l : Ln} {es : List Ev} (h : All l es) : ∀ e ∈ es, l.t ≤ e.a := by
 induction es generalizing l with
 | nil => simp
 | cons x es ih =>
  obtain ⟨h1, h2⟩ := h
  intro e he
  have hx := h1.2.2.1
  rcases List.mem_cons.1 he with rfl | he
  ·exact hx
  ·have := ih h2 e he; rw [nxt_t] at this; omega
theorem all_sorted {l : Ln} {es : List Ev} (h : All l es) {i j : Nat} (hij : i ≤ j) (hj : j < es.length) : (es[i]'(by omega)).a ≤ es[j].a := by
 induction es generalizing l i j with
 | nil => simp at hj
 | cons x es ih =>
  obtain ⟨h1, h2⟩ := h
  cases i with
  | zero =>
   cases j with
   | zero => exact Int.le_refl _
   | succ j =>
    have := all_times h2 (es[j]'(by simpa using hj)) (List.getElem_mem _)
    rw [nxt_t] at this
    simpa using this
  | succ i =>
   cases j with
   | zero => omega
   | succ j => simpa using ih h2 (i := i) (j := j) (by omega) (by simpa using hj)
def upto (es : List Ev) (t : Int) : Nat := (es.takeWhile fun e => decide (e.a ≤ t)).length
theorem upto_le (es : List Ev) (t : Int) : upto es t ≤ es.length := by
 unfold upto; exact List.Sublist.length_le (List.takeWhile_sublist _)
theorem upto_lt {es : List Ev} {t : Int} {i : Nat} (h : i < upto es t) : (es[i]'(Nat.lt_of_lt_of_le h (upto_le es t))).a ≤ t := by
 have h1 : i < (es.takeWhile fun e => decide (e.a ≤ t)).length := h
 have h2 := List.all_eq_true.1 List.all_takeWhile _ (List.getElem_mem h1)
 have h3 : (es.takeWhile fun e => decide (e.a ≤ t))[i] = es[i]'(Nat.lt_of_lt_of_le h (upto_le es t)) := by
  have := (List.takeWhile_prefix (fun e : Ev => decide (e.a ≤ t)) (l := es))
  exact List.IsPrefix.getElem this h1
 rw [h3] at h2; simpa using h2
theorem upto_at {es : List Ev} {t : Int} (h : upto es t < es.length) : t < (es[upto es t]).a := by
 induction es with
 | nil => simp at h
 | cons x es ih =>
  by_cases hx : x.a ≤ t
  ·have e : upto (x :: es) t = upto es t + 1 := by simp [upto, hx]
   simp only [e] at h ⊢
   simpa using ih (by simpa using h)
  ·have e : upto (x :: es) t = 0 := by simp [upto, hx]
   simp only [e]
   simpa using hx
def atL (es : List Ev) (t : Int) : Ln := fin first (es.take (upto es t))
def OkAt (es : List Ev) (t : Int) : Prop := Life es ∧ 0 ≤ t ∧ t ≤ 10000000
instance (es : List Ev) (t : Int) : Decidable (OkAt es t) := by unfold OkAt; infer_instance
def atR (es : List Ev) (t : Int) : Ln × Int := if OkAt es t then (atL es t, 0) else (zero, 140)
def Used (l : Ln) : Prop := l.s = 1 ∨ l.s = 2
instance (l : Ln) : Decidable (Used l) := by unfold Used; infer_instance
theorem vldB_iff {l : Ln} : vldB l = true ↔ Vld l := decide_eq_true_iff
def OkKeep (es : List Ev) (t : Int) : Prop := OkAt es t ∧ Used (atL es t)
instance (es : List Ev) (t : Int) : Decidable (OkKeep es t) := by unfold OkKeep; infer_instance
def OkFate (es : List Ev) (me ma t : Int) : Prop := OkKeep es ma ∧ (atL es ma).e = me ∧ ma ≤ t ∧ t ≤ 10000000
instance (es : List Ev) (me ma t : Int) : Decidable (OkFate es me ma t) := by unfold OkFate; infer_instance
theorem atL_vld {es : List Ev} (h : Life es) (t : Int) : Vld (atL es t) := all_vld vld_first (all_take h.1 _)
end Go.Dial.Lif
set_option maxRecDepth 100000
namespace Go.Proofs.YtjllgiddmeiaoaaGreat
open Go Go.Sx Go.Dial.Lif
theorem ref14_Valid_v (n : Nat) (l : Ln) : ref14_Valid n l.s l.h l.e l.t = some (vldB l) := by
 unfold ref14_Valid ref14_Valid_1 vldB Vld
 grind
theorem life_Valid_v (n : Nat) (l : Ln) : life_Valid n l.s l.h l.e l.t = some (vldB l) := by
 unfold life_Valid life_Valid_1 vldB Vld
 grind
theorem ref14_Formed_v (n : Nat) (e : Ev) : ref14_Formed n e.k e.a e.h = some (frmB e) := by
 unfold ref14_Formed ref14_Formed_1 frmB Frm Named
 grind
theorem ref14_possible_v (n : Nat) (l : Ln) (e : Ev) (hl : Vld l) (he : Frm e) : ref14_possible n l.s l.h l.e l.t e.k e.a e.h = some (decide (Pos l e)) := by
 unfold Vld at hl
 unfold Frm Named at he
 by_cases hp : Pos l e <;> simp only [hp, decide_true, decide_false] <;> unfold Pos at hp <;> unfold ref14_possible ref14_possible_1 <;> grind
abbrev stepT (l : Ln) (e : Ev) : Int × Int × Int × Int × Int := ((stepR l e).1.s, (stepR l e).1.h, (stepR l e).1.e, (stepR l e).1.t, (stepR l e).2)
theorem ref14_Step_v (n : Nat) (l : Ln) (e : Ev) : ref14_Step n l.s l.h l.e l.t e.k e.a e.h = some (stepT l e) := by
 unfold ref14_Step ref14_Step_1 stepT
 rw [ref14_Valid_v, ref14_Formed_v]
 by_cases h1 : Vld l
 ·by_cases h2 : Frm e
  ·rw [ref14_possible_v n l e h1 h2]
   by_cases h3 : Pos l e
   ·rw [stepR_ok ⟨h1, h2, h3⟩]
    simp only [vldB, frmB, h1, h2, h3, decide_true, Option.bind_some, Bool.not_true, cond_false]
    unfold nxt
    unfold Vld at h1
    unfold Frm Named at h2
    unfold Pos at h3
    grind
   ·rw [stepR_no (fun h => h3 h.2.2)]
    simp [vldB, frmB, h1, h2, h3, zero]
  ·rw [stepR_no (fun h => h2 h.2.1)]
   simp [vldB, frmB, h1, h2, zero]
 ·rw [stepR_no (fun h => h1 h.1)]
  simp [vldB, h1, zero]
theorem kinds {k : Int} (h1 : 1 ≤ k) (h2 : k ≤ 7) : k = 1 ∨ k = 2 ∨ k = 3 ∨ k = 4 ∨ k = 5 ∨ k = 6 ∨ k = 7 := by omega
theorem states {s : Int} (h1 : 0 ≤ s) (h2 : s ≤ 3) : s = 0 ∨ s = 1 ∨ s = 2 ∨ s = 3 := by omega
theorem life_Formed_v (n : Nat) (e : Ev) : life_Formed n e.k e.a e.h = some (frmB e) := by
 obtain ⟨k, a, h⟩ := e
 by_cases hk : 1 ≤ k ∧ k ≤ 7
 ·unfold life_Formed life_Formed_1 frmB Frm Named
  rcases kinds hk.1 hk.2 with rfl | rfl | rfl | rfl | rfl | rfl | rfl <;> simp [cB, cA] <;> grind
 ·unfold life_Formed life_Formed_1 frmB Frm Named
  grind
theorem bit1_0 : IOp.f .and (IOp.f .shr 1 0) 1 = 1 := by decide +kernel
theorem bit1_1 : IOp.f .and (IOp.f .shr 1 1) 1 = 0 := by decide +kernel
theorem bit1_2 : IOp.f .and (IOp.f .shr 1 2) 1 = 0 := by decide +kernel
theorem bit1_3 : IOp.f .and (IOp.f .shr 1 3) 1 = 0 := by decide +kernel
theorem bit2_0 : IOp.f .and (IOp.f .shr 2 0) 1 = 0 := by decide +kernel
theorem bit2_1 : IOp.f .and (IOp.f .shr 2 1) 1 = 1 := by decide +kernel
theorem bit2_2 : IOp.f .and (IOp.f .shr 2 2) 1 = 0 := by decide +kernel
theorem bit2_3 : IOp.f .and (IOp.f .shr 2 3) 1 = 0 := by decide +kernel
theorem bit4_0 : IOp.f .and (IOp.f .shr 4 0) 1 = 0 := by decide +kernel
theorem bit4_1 : IOp.f .and (IOp.f .shr 4 1) 1 = 0 := by decide +kernel
theorem bit4_2 : IOp.f .and (IOp.f .shr 4 2) 1 = 1 := by decide +kernel
theorem bit4_3 : IOp.f .and (IOp.f .shr 4 3) 1 = 0 := by decide +kernel
theorem bit6_0 : IOp.f .and (IOp.f .shr 6 0) 1 = 0 := by decide +kernel
theorem bit6_1 : IOp.f .and (IOp.f .shr 6 1) 1 = 1 := by decide +kernel
theorem bit6_2 : IOp.f .and (IOp.f .shr 6 2) 1 = 1 := by decide +kernel
theorem bit6_3 : IOp.f .and (IOp.f .shr 6 3) 1 = 0 := by decide +kernel
theorem bit8_0 : IOp.f .and (IOp.f .shr 8 0) 1 = 0 := by decide +kernel
theorem bit8_1 : IOp.f .and (IOp.f .shr 8 1) 1 = 0 := by decide +kernel
theorem bit8_2 : IOp.f .and (IOp.f .shr 8 2) 1 = 0 := by decide +kernel
theorem bit8_3 : IOp.f .and (IOp.f .shr 8 3) 1 = 1 := by decide +kernel
theorem life_Step_4_v (n : Nat) (l : Ln) (e : Ev) (h1 : Vld l) (h2 : Frm e) : life_Step_4 n l.s l.h l.e l.t e.k e.a e.h = some (stepT l e) := by
 obtain ⟨k, a, h⟩ := e
 obtain ⟨s, g, p, t⟩ := l
 unfold stepT stepR Ok Pos
 simp only [h1, h2, true_and]
 unfold Vld at h1
 unfold Frm Named at h2
 unfold nxt zero life_Step_4 life_Step_5 life_Step_6
 simp only at h1 h2 ⊢
 rcases kinds h2.1 h2.2.1 with rfl | rfl | rfl | rfl | rfl | rfl | rfl <;> rcases states h1.1 h1.2.1 with rfl | rfl | rfl | rfl <;>
  simp [cI, cB, cA, bit1_0, bit1_1, bit1_2, bit1_3, bit2_0, bit2_1, bit2_2, bit2_3, bit4_0, bit4_1, bit4_2, bit4_3, bit6_0, bit6_1, bit6_2, bit6_3, bit8_0, bit8_1, bit8_2, bit8_3] <;> grind
theorem life_Step_v (n : Nat) (l : Ln) (e : Ev) : life_Step n l.s l.h l.e l.t e.k e.a e.h = some (stepT l e) := by
 unfold life_Step life_Step_1 life_Step_2 life_Step_3
 rw [life_Valid_v, life_Formed_v]
 by_cases h1 : Vld l
 ·by_cases h2 : Frm e
  ·simp only [vldB, frmB, h1, h2, decide_true, Option.bind_some, Bool.not_true, cond_false]
   exact life_Step_4_v n l e h1 h2
  ·unfold stepT
   rw [stepR_no (fun h => h2 h.2.1)]
   simp [vldB, frmB, h1, h2, zero]
 ·unfold stepT
  rw [stepR_no (fun h => h1 h.1)]
  simp [vldB, h1, zero]
end Go.Proofs.YtjllgiddmeiaoaaGreat
