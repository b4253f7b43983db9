/-
  RefusalLines: for all integers the law's function gives true: a number that is not held is refused; mail reaches the holder alone; no condition beyond the row's own.
-/
import Derived.Test.YtbfkkigbedmhgaaGreatJNSProof10
import Derived.Test.YtbfkkigbedmhgaaGreatRows
set_option linter.unusedVariables false
set_option linter.unusedSimpArgs false
namespace Go.Proofs.YtbfkkigbedmhgaaGreat
open Go Go.ChangeShapes Go.WideShapes Go.ChangeAt Go.WideMaps Go.WideElems Go.RowKit Go.Dial Go.Sx
theorem Qi:ownKnob Tryz.prog.godebug=none:=by kernel_rfl
theorem LJ:laidOutB Tryz.prog=true:=by kernel_rfl
set_option maxRecDepth 100000 in
theorem My(os:Os)(started:os.Started)(H:Type)(enc:TypeId×Value->H):
  ReturnsInHanded {} Tryz.checked os 10 .any (Rows.refusalLinesSpec.pre6 enc Tryz.prog Tryz.f10 [] false)
   (Rows.refusalLinesSpec.post enc Tryz.prog Tryz.f10 false true false false):=by
 refine returnsInHanded_of_change (C:=Tryz.checked) Qi started (by kernel_rfl) Tryz.func10
  (ChangeSpec.witness6 (enc:=enc) (C:=Tryz.checked) (os:=os) false ⟨#[],#[.agg #[.slice none 0 0,.slice none 0 0,.int .i64 0,.slice none 0 0,.slice none 0 0,.int .i64 0,.int .i64 0,.int .i64 0,.int .i64 0,.int .i64 0,.int .i64 0,.int .i64 0,.int .i64 0,.int .i64 0,.int .i64 0,.int .i64 0,.slice none 0 0,.slice none 0 0],.int .i64 0,.int .i64 0,.int .i64 0,.int .i64 0],[]⟩ 8 (by kernel_rfl) (by kernel_rfl) (by kernel_rfl) (by kernel_rfl)) ?_
 intro W base args ds gs before hval0 hW _ hsz;have hW':=hW;obtain⟨p,q,hA0,hV,rfl,hfz,hnd⟩:=hW;have hA:DataW.TrodAll enc Tryz.prog W 0 (fun _=>true) true Tryz.f10.params.toList args.toList ds p:=hA0
 obtain⟨d0,d1,d2,d3,d4,rfl⟩:∃d0 d1 d2 d3 d4,ds=[d0,d1,d2,d3,d4]:=by
  match ds,th _ hA with
  |[d0,d1,d2,d3,d4],_=>exact⟨d0,d1,d2,d3,d4,rfl⟩
 have hc:=Cc (F:=law28_RefusalLines_t) uB (ts:=Tryz.f10.params.toList) (vs:=args.toList) (by kernel_rfl) hA (fun j t v h1 h2=>hval0 j t v (by simpa using h1) (by simpa using h2)) sT
 rw[Array.toArray_toList]at hc;refine hc.mono fun e W2 ⟨he,hb⟩=>⟨_,he,?_⟩
 exact GC hW' rfl rfl rfl rfl LJ (by rw[Tryz.params10];exact G6 (by kernel_rfl)) rfl Tryz.underlying4 hb
theorem holds10:Rows.RefusalLinesSaid:=
 OpenClaim.holds_of_wide 10 Tryz.f10 rfl rfl rfl rfl rfl rfl rfl ⟨rfl,rfl,rfl,rfl,rfl⟩ rfl rfl rfl rfl rfl (by kernel_rfl) Tryz.func10 (by kernel_rfl)
  (of_decide_eq_true (by kernel_rfl)) (by unfold Func.isWrapper;first|(rw[if_pos (by decide +kernel)];kernel_rfl)|(rw[if_neg (by decide +kernel)];exact⟨rfl,rfl⟩))
  (fun os started H enc _=>My os started H enc)
end Go.Proofs.YtbfkkigbedmhgaaGreat
