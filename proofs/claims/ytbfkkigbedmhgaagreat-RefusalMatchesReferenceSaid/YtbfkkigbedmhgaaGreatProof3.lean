/-
  RefusalMatchesReference: for all integers the law's function gives true: the functions agree with the reference; no condition beyond the row's own.
-/
import Derived.Test.YtbfkkigbedmhgaaGreatJP8
import Derived.Test.YtbfkkigbedmhgaaGreatRows
set_option linter.unusedVariables false
set_option linter.unusedSimpArgs false
namespace Go.Proofs.YtbfkkigbedmhgaaGreat
open Go Go.ChangeShapes Go.WideShapes Go.ChangeAt Go.WideMaps Go.WideElems Go.RowKit Go.Dial Go.Sx
theorem Rq:ownKnob Tryz.prog.godebug=none:=by kernel_rfl
theorem Ox:laidOutB Tryz.prog=true:=by kernel_rfl
set_option maxRecDepth 100000 in
theorem O4(os:Os)(started:os.Started)(H:Type)(enc:TypeId×Value->H):
  ReturnsInHanded {} Tryz.checked os 3 .any (Rows.refusalMatchesReferenceSpec.pre6 enc Tryz.prog Tryz.f3 [] false)
   (Rows.refusalMatchesReferenceSpec.post enc Tryz.prog Tryz.f3 false true false false):=by
 refine returnsInHanded_of_change (C:=Tryz.checked) Rq started (by kernel_rfl) Tryz.func3
  (ChangeSpec.witness6 (enc:=enc) (C:=Tryz.checked) (os:=os) false ⟨#[],#[.agg #[.slice none 0 0,.slice none 0 0,.int .i64 0,.slice none 0 0,.slice none 0 0,.int .i64 0,.int .i64 0,.int .i64 0,.int .i64 0,.int .i64 0,.int .i64 0,.int .i64 0,.int .i64 0,.int .i64 0,.int .i64 0,.int .i64 0,.slice none 0 0,.slice none 0 0],.agg #[.int .i64 0,.int .i64 0,.int .i64 0],.int .i64 0,.int .i64 0,.int .i64 0,.int .i64 0,.int .i64 0,.int .i64 0],[]⟩ 8 (by kernel_rfl) (by kernel_rfl) (by kernel_rfl) (by kernel_rfl)) ?_
 intro W base args ds gs before hval0 hW _ hsz;have hW':=hW;obtain⟨p,q,hA0,hV,rfl,hfz,hnd⟩:=hW;have hA:DataW.TrodAll enc Tryz.prog W 0 (fun _=>true) true Tryz.f3.params.toList args.toList ds p:=hA0
 obtain⟨d0,d1,d2,d3,d4,d5,d6,d7,rfl⟩:∃d0 d1 d2 d3 d4 d5 d6 d7,ds=[d0,d1,d2,d3,d4,d5,d6,d7]:=by
  match ds,BW _ hA with
  |[d0,d1,d2,d3,d4,d5,d6,d7],_=>exact⟨d0,d1,d2,d3,d4,d5,d6,d7,rfl⟩
 have hc:=Lc (F:=law28_RefusalMatchesReference_t) lV (ts:=Tryz.f3.params.toList) (vs:=args.toList) (by kernel_rfl) hA (fun j t v h1 h2=>hval0 j t v (by simpa using h1) (by simpa using h2)) lz
 rw[Array.toArray_toList]at hc;refine hc.mono fun e W2 ⟨he,hb⟩=>⟨_,he,?_⟩
 exact NM hW' rfl rfl rfl rfl Ox (by rw[Tryz.params3];exact Nv (by kernel_rfl)) rfl Tryz.underlying4 hb
theorem holds3:Rows.RefusalMatchesReferenceSaid:=
 OpenClaim.holds_of_wide 3 Tryz.f3 rfl rfl rfl rfl rfl rfl rfl ⟨rfl,rfl,rfl,rfl,rfl⟩ rfl rfl rfl rfl rfl (by kernel_rfl) Tryz.func3 (by kernel_rfl)
  (of_decide_eq_true (by kernel_rfl)) (by unfold Func.isWrapper;first|(rw[if_pos (by decide +kernel)];kernel_rfl)|(rw[if_neg (by decide +kernel)];exact⟨rfl,rfl⟩))
  (fun os started H enc _=>O4 os started H enc)
end Go.Proofs.YtbfkkigbedmhgaaGreat
