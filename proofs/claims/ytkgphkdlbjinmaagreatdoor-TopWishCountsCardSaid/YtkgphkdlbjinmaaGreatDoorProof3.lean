/-
  TopWishCounts: for all arguments the law's function gives true, the tables of the program lying as its text has them; no condition beyond the row's own.
-/
import Derived.Test.YtkgphkdlbjinmaaGreatDoorJT7
import Derived.Test.YtkgphkdlbjinmaaGreatDoorRows
import Derived.Test.YtkgphkdlbjinmaaGreatDoorCards
import Derived.Test.YtkgphkdlbjinmaaGreatDoorTie
set_option linter.unusedVariables false
set_option linter.unusedSimpArgs false
namespace Go.Proofs.YtkgphkdlbjinmaaGreatDoor
open Go Go.ChangeShapes Go.WideShapes Go.ChangeAt Go.WideMaps Go.WideElems Go.RowKit Go.Dial Go.Sx
set_option maxRecDepth 100000 in
theorem Ln(os:Os)(started:os.Started)(H:Type)(enc:TypeId×Value->H):
  ReturnsInHanded {} Tryz.checked os 3 .any (fun w args=>(Rows.topWishCountsSpec.pre enc Tryz.prog Tryz.f3 [] false w args/\laidMetH Tryz.prog AN w)/\sizedMet enc Tryz.prog Tryz.f3 (OpenSpec.ofChange Rows.topWishCountsSpec) false w args)
   (Rows.topWishCountsSpec.post enc Tryz.prog Tryz.f3 false true false false):=by
 refine returnsInHanded_of_change_and (C:=Tryz.checked) (X:=fun w _=>laidMetH Tryz.prog AN w) (fun _ _ _ hh h=>h.of_heap hh) MV started (by kernel_rfl) Tryz.func3
  (ChangeSpec.witness_shaped (enc:=enc) (C:=Tryz.checked) (os:=os) (X:=fun w _=>laidMetH Tryz.prog AN w) false (World.doorLaid Tryz.prog 400 os) #[.agg #[.int .i64 0,.int .i64 0,.int .i64 0,.int .i64 0,.int .i64 0,.int .i64 0,.int .i64 0,.slice none 0 0],.int .i64 0,.int .i64 0,.int .i64 0,.int .i64 0,.agg #[.int .i64 0,.int .i64 0,.int .i64 0,.int .i64 0],.int .i64 0,.int .i64 0] 8 rfl (World.shaped_of_RefB (by kernel_rfl) (by kernel_rfl)) (by kernel_rfl) (by kernel_rfl) (by kernel_rfl) (Kn os _)) ?_
 intro W base args ds gs before hval0 hW _ hsz hL _;have hW':=hW;obtain⟨p,q,hA0,hV,rfl,hfz,hnd⟩:=hW;have hA:DataW.TrodAll enc Tryz.prog W 0 (fun _=>true) true Tryz.f3.params.toList args.toList ds p:=hA0
 obtain⟨d0,d1,d2,d3,d4,d5,d6,d7,rfl⟩:∃d0 d1 d2 d3 d4 d5 d6 d7,ds=[d0,d1,d2,d3,d4,d5,d6,d7]:=by
  match ds,yo _ hA with
  |[d0,d1,d2,d3,d4,d5,d6,d7],_=>exact⟨d0,d1,d2,d3,d4,d5,d6,d7,rfl⟩
 have hc:=G8 (F:=top_TopWishCounts_t) uX (ts:=Tryz.f3.params.toList) (vs:=args.toList) (EZ hL) (by kernel_rfl) hA (fun j t v h1 h2=>hval0 j t v (by simpa using h1) (by simpa using h2)) tt
 rw[Array.toArray_toList]at hc;refine hc.mono fun e W2 ⟨he,hb⟩=>⟨_,he,?_⟩
 exact Kx hW' rfl rfl rfl rfl JT (by rw[Tryz.params3];exact J5 (by kernel_rfl)) rfl Tryz.underlying4 hb
theorem L4:Rows.TopWishCountsSaid:=
 OpenClaim.holds_of_wide 3 Tryz.f3 rfl rfl rfl rfl rfl rfl rfl ⟨rfl,rfl,rfl,rfl,rfl⟩ rfl rfl rfl rfl rfl (by kernel_rfl) Tryz.func3 (by kernel_rfl)
  (of_decide_eq_true (by kernel_rfl)) (by unfold Func.isWrapper;first|(rw[if_pos (by decide +kernel)];kernel_rfl)|(rw[if_neg (by decide +kernel)];exact⟨rfl,rfl⟩))
  (fun os started H enc _=>Ln os started H enc)
theorem card3:Rows.TopWishCountsCardSaid:=
 Claim7.holds_tied_plain_at .later [] [.data,.data,.data] true (true, "ec64f1cc9c8cd47d65433b90f89bc1b28ea87f565f34a97dc80f3ba7504011b9") false
  L4 (fun _ h=>by cases h) (by kernel_rfl) (fun _ h=>by cases h) topWishCounts_row_tie rfl ⟨rfl,rfl⟩ (by kernel_rfl) rfl
  (fun f fn hf hfn=>by
   obtain rfl:f=3:=Option.some.inj ((show Tryz.prog.funcNamed "dialtone/dialtonetop.TopWishCounts" = some 3 by kernel_rfl).symm.trans hf) |>.symm
   obtain rfl:fn=Tryz.f3:=(Option.some.inj (Tryz.func3.symm.trans hfn)).symm
   exact⟨by kernel_rfl,fun j t ht=>by
    rw[Tryz.params3]at ht;exact GM (by kernel_rfl) j t ht⟩)
  (by kernel_rfl)
end Go.Proofs.YtkgphkdlbjinmaaGreatDoor
