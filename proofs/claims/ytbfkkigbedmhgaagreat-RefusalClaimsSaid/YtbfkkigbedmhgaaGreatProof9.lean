/-
  RefusalClaims: for all integers the law's function gives true: calls are refused for a closed claim just at the carrier that lost; no condition beyond the row's own.
-/
import Derived.Test.YtbfkkigbedmhgaaGreatJMSProof9
import Derived.Test.YtbfkkigbedmhgaaGreatRows
set_option linter.unusedVariables false
set_option linter.unusedSimpArgs false
namespace Go.Proofs.YtbfkkigbedmhgaaGreat
open Go Go.ChangeShapes Go.WideShapes Go.ChangeAt Go.WideMaps Go.WideElems Go.RowKit Go.Dial Go.Sx
theorem SL:ownKnob Tryz.prog.godebug=none:=by kernel_rfl
theorem O0:laidOutB Tryz.prog=true:=by kernel_rfl
set_option maxRecDepth 100000 in
theorem Qj(os:Os)(started:os.Started)(H:Type)(enc:TypeId×Value->H):
  ReturnsInHanded {} Tryz.checked os 9 .any (Rows.refusalClaimsSpec.pre6 enc Tryz.prog Tryz.f9 [] false)
   (Rows.refusalClaimsSpec.post enc Tryz.prog Tryz.f9 false true false false):=by
 refine returnsInHanded_of_change (C:=Tryz.checked) SL started (by kernel_rfl) Tryz.func9
  (ChangeSpec.witness6 (enc:=enc) (C:=Tryz.checked) (os:=os) false ⟨#[],#[.agg #[.slice none 0 0,.slice none 0 0,.int .i64 0,.slice none 0 0,.slice none 0 0,.int .i64 0,.int .i64 0,.int .i64 0,.int .i64 0,.int .i64 0,.int .i64 0,.int .i64 0,.int .i64 0,.int .i64 0,.int .i64 0,.int .i64 0,.slice none 0 0,.slice none 0 0],.int .i64 0,.int .i64 0,.int .i64 0],[]⟩ 8 (by kernel_rfl) (by kernel_rfl) (by kernel_rfl) (by kernel_rfl)) ?_
 intro W base args ds gs before hval0 hW _ hsz;have hW':=hW;obtain⟨p,q,hA0,hV,rfl,hfz,hnd⟩:=hW;have hA:DataW.TrodAll enc Tryz.prog W 0 (fun _=>true) true Tryz.f9.params.toList args.toList ds p:=hA0
 obtain⟨d0,d1,d2,d3,rfl⟩:∃d0 d1 d2 d3,ds=[d0,d1,d2,d3]:=by
  match ds,iX _ hA with
  |[d0,d1,d2,d3],_=>exact⟨d0,d1,d2,d3,rfl⟩
 have hc:=ng (F:=law28_RefusalClaims_t) uC (ts:=Tryz.f9.params.toList) (vs:=args.toList) (by kernel_rfl) hA (fun j t v h1 h2=>hval0 j t v (by simpa using h1) (by simpa using h2)) sF
 rw[Array.toArray_toList]at hc;refine hc.mono fun e W2 ⟨he,hb⟩=>⟨_,he,?_⟩
 exact rK hW' rfl rfl rfl rfl O0 (by rw[Tryz.params9];exact rj (by kernel_rfl)) rfl Tryz.underlying4 hb
theorem holds9:Rows.RefusalClaimsSaid:=
 OpenClaim.holds_of_wide 9 Tryz.f9 rfl rfl rfl rfl rfl rfl rfl ⟨rfl,rfl,rfl,rfl,rfl⟩ rfl rfl rfl rfl rfl (by kernel_rfl) Tryz.func9 (by kernel_rfl)
  (of_decide_eq_true (by kernel_rfl)) (by unfold Func.isWrapper;first|(rw[if_pos (by decide +kernel)];kernel_rfl)|(rw[if_neg (by decide +kernel)];exact⟨rfl,rfl⟩))
  (fun os started H enc _=>Qj os started H enc)
end Go.Proofs.YtbfkkigbedmhgaaGreat
