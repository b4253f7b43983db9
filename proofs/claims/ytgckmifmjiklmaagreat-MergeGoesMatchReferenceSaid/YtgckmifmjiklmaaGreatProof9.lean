/-
  MergeGoesMatchReference: successors, claims and chains agree with the reference implementation; no condition beyond the row's own.
-/
import Derived.Test.YtgckmifmjiklmaaGreatJG7
import Derived.Test.YtgckmifmjiklmaaGreatRows
set_option linter.unusedVariables false
set_option linter.unusedSimpArgs false
namespace Go.Proofs.YtgckmifmjiklmaaGreat
open Go Go.ChangeShapes Go.WideShapes Go.ChangeAt Go.WideMaps Go.WideElems Go.RowKit Go.Dial Go.Sx
theorem RC:ownKnob Tryz.prog.godebug=none:=by kernel_rfl
theorem OR:laidOutB Tryz.prog=true:=by kernel_rfl
set_option maxRecDepth 100000 in
theorem PW(os:Os)(started:os.Started)(H:Type)(enc:TypeId×Value->H):
  ReturnsInHanded {} Tryz.checked os 9 .any (Rows.mergeGoesMatchReferenceSpec.pre6 enc Tryz.prog Tryz.f9 [] false)
   (Rows.mergeGoesMatchReferenceSpec.post enc Tryz.prog Tryz.f9 false true false false):=by
 refine returnsInHanded_of_change (C:=Tryz.checked) RC started (by kernel_rfl) Tryz.func9
  (ChangeSpec.witness6 (enc:=enc) (C:=Tryz.checked) (os:=os) false ⟨#[],#[.agg #[.int .i64 0,.int .i64 0,.int .i64 0],.slice none 0 0,.slice none 0 0,.agg #[.int .i64 0,.int .i64 0,.int .i64 0],.int .i64 0,.int .i64 0,.int .i64 0,.agg #[.int .i64 0,.int .i64 0,.int .i64 0,.int .i64 0,.int .i64 0,.int .i64 0,.int .i64 0,.int .i64 0,.int .i64 0,.int .i64 0,.slice none 0 0],.agg #[.int .i64 0,.int .i64 0,.int .i64 0,.int .i64 0,.int .i64 0,.bool false],.agg #[.int .i64 0,.int .i64 0,.int .i64 0,.int .i64 0,.int .i64 0,.int .i64 0,.slice none 0 0,.slice none 0 0]],[]⟩ 8 (by kernel_rfl) (by kernel_rfl) (by kernel_rfl) (by kernel_rfl)) ?_
 intro W base args ds gs before hval0 hW _ hsz;have hW':=hW;obtain⟨p,q,hA0,hV,rfl,hfz,hnd⟩:=hW;have hA:DataW.TrodAll enc Tryz.prog W 0 (fun _=>true) true Tryz.f9.params.toList args.toList ds p:=hA0
 obtain⟨d0,d1,d2,d3,d4,d5,d6,d7,d8,d9,rfl⟩:∃d0 d1 d2 d3 d4 d5 d6 d7 d8 d9,ds=[d0,d1,d2,d3,d4,d5,d6,d7,d8,d9]:=by
  match ds,BF _ hA with
  |[d0,d1,d2,d3,d4,d5,d6,d7,d8,d9],_=>exact⟨d0,d1,d2,d3,d4,d5,d6,d7,d8,d9,rfl⟩
 have hc:=LE (F:=law42_MergeGoesMatchReference_t) jP (ts:=Tryz.f9.params.toList) (vs:=args.toList) (by kernel_rfl) hA (fun j t v h1 h2=>hval0 j t v (by simpa using h1) (by simpa using h2)) jq
 rw[Array.toArray_toList]at hc;refine hc.mono fun e W2 ⟨he,hb⟩=>⟨_,he,?_⟩
 exact OM hW' rfl rfl rfl rfl OR (by rw[Tryz.params9];exact Oj (by kernel_rfl)) rfl Tryz.underlying4 hb
theorem holds9:Rows.MergeGoesMatchReferenceSaid:=
 OpenClaim.holds_of_wide 9 Tryz.f9 rfl rfl rfl rfl rfl rfl rfl ⟨rfl,rfl,rfl,rfl,rfl⟩ rfl rfl rfl rfl rfl (by kernel_rfl) Tryz.func9 (by kernel_rfl)
  (of_decide_eq_true (by kernel_rfl)) (by unfold Func.isWrapper;first|(rw[if_pos (by decide +kernel)];kernel_rfl)|(rw[if_neg (by decide +kernel)];exact⟨rfl,rfl⟩))
  (fun os started H enc _=>PW os started H enc)
end Go.Proofs.YtgckmifmjiklmaaGreat
