/-
  Texts of this claim, joined (part 4).
-/
import Derived.Test.YtgckmifmjiklmaaGreatJG3
import Derived.Lib.Hide
set_option linter.unusedVariables false
set_option linter.unusedSimpArgs false
set_option linter.unusedSectionVars false
set_option linter.constructorNameAsVariable false
set_option maxRecDepth 100000
namespace Go.Proofs.YtgckmifmjiklmaaGreat
open Go Go.Sx
noncomputable section
abbrev lS:=Lv
abbrev yb:=Int
def BA(n:Nat)(go0:yb->Option lS)(v0:Lv)(v1 v2:Int):Option lS:=
 (bif v2<(v0.length:Int) then bif 0<=v2 then(bif (cI v0 v2 0)<v1 then bif(-9223372036854775808<=(v2+1))&&((v2+1)<=9223372036854775807)then go0 (v2+1)else none else(bif (cI v0 v2 0)=v1 then some v0 else bif v2<=(v0.length:Int) then bif (v0.length:Int)<=(v0.length:Int) then bif ((((([]:Lv)++[[(AV.int v1)]])++(List.drop (v2).toNat (List.take ((v0.length:Int)).toNat v0))).length:Int)*8)<=140737488355328 then bif ((((List.take (v2).toNat v0)++((([]:Lv)++[[(AV.int v1)]])++(List.drop (v2).toNat (List.take ((v0.length:Int)).toNat v0)))).length:Int)*8)<=140737488355328 then some ((List.take (v2).toNat v0)++((([]:Lv)++[[(AV.int v1)]])++(List.drop (v2).toNat (List.take ((v0.length:Int)).toNat v0))))else none else none else none else none))else none else bif 0<=v2 then bif v2<=(v0.length:Int) then bif (v0.length:Int)<=(v0.length:Int) then bif ((((([]:Lv)++[[(AV.int v1)]])++(List.drop (v2).toNat (List.take ((v0.length:Int)).toNat v0))).length:Int)*8)<=140737488355328 then bif ((((List.take (v2).toNat v0)++((([]:Lv)++[[(AV.int v1)]])++(List.drop (v2).toNat (List.take ((v0.length:Int)).toNat v0)))).length:Int)*8)<=140737488355328 then some ((List.take (v2).toNat v0)++((([]:Lv)++[[(AV.int v1)]])++(List.drop (v2).toNat (List.take ((v0.length:Int)).toNat v0))))else none else none else none else none else none)
def By(n:Nat)(v0:Lv)(v1:Int):Option lS:=
 (aa (fun go0 s=>BA n go0 v0 v1 s) n (0:yb))
def iI(n:Nat)(v0:Lv)(v1:Int):Option lS:=By n v0 v1
def ref13_put_t:FnT:=⟨[(false,[tSa]),(false,[.int])],(.row 1000003 (.cons .int .nil)),fun n (s:Lv×Int)=>iI n s.1 s.2⟩
theorem I7:ref13_put_t.ok Tryz.prog 216:=FnT.ok_of (cfg:=⟨[((216,2,0),.inv [(.tmp 5 .int)])],aL,[],[]⟩) av rV aA (fun s fn hf=>by rw[Tryz.func216]at hf;cases hf;kernel_rfl) (fun n s=>by kernel_rfl)
def ref13_put_T:Tab:=(216,ref13_put_t)::ref13_Same_T
theorem sX:ref13_put_T.ok Tryz.prog:=Tab.ok_cons I7 rV
abbrev fd:=Lv
abbrev jb:=Lv×Int
def vA(n:Nat)(go0:jb->Option fd)(v1 v4:Lv)(v5:Int):Option fd:=
 (bif v5<(v1.length:Int) then bif 0<=v5 then(iI n v4 (cI v1 v5 0)).bind fun y6=>
 (iI n y6 (cI v1 v5 1)).bind fun y7=>
 bif(-9223372036854775808<=(v5+1))&&((v5+1)<=9223372036854775807)then go0 (y7,(v5+1))else none else none else some v4)
def xd(n:Nat)(go0:jb->Option fd)(v0 v1 v2:Lv)(v3:Int):Option fd:=
 (bif v3<(v0.length:Int) then bif 0<=v3 then(iI n v2 (cI v0 v3 0)).bind fun y4=>
 (iI n y4 (cI v0 v3 1)).bind fun y5=>
 bif(-9223372036854775808<=(v3+1))&&((v3+1)<=9223372036854775807)then go0 (y5,(v3+1))else none else none else(aa (fun go0 s=>vA n go0 v1 s.1 s.2) n ((v2,0):jb)))
def wK(n:Nat)(v0 v1:Lv):Option fd:=
 (aa (fun go0 s=>xd n go0 v0 v1 s.1 s.2) n ((((([]:Lv)++[[(AV.int 0)]])++[[(AV.int 100000000)]]),0):jb))
def l7(n:Nat)(v0 v1:Lv):Option fd:=wK n v0 v1
def ref13_edges_t:FnT:=⟨[(false,[tSc]),(false,[tSc])],(.row 1000003 (.cons .int .nil)),fun n (s:Lv×Lv)=>l7 n s.1 s.2⟩
theorem EW:ref13_edges_t.ok Tryz.prog 197:=FnT.ok_of (cfg:=⟨[((197,3,1),.inv [(.tmp 5 tSa),(.tmp 6 .int)]),((197,7,3),.inv [(.tmp 5 tSa),(.tmp 7 .int)])],aL,[],[]⟩) av sX aA (fun s fn hf=>by rw[Tryz.func197]at hf;cases hf;kernel_rfl) (fun n s=>by kernel_rfl)
def ref13_edges_T:Tab:=(197,ref13_edges_t)::ref13_put_T
theorem qb:ref13_edges_T.ok Tryz.prog:=Tab.ok_cons EW sX
abbrev aF:=Lv×Int
abbrev bH:=Lv×Int
def dn(n:Nat)(go0:bH->Option aF)(v3 v4:Int)(v5 v6:Lv)(v7 v8:Int):Option aF:=
 (bif 0<=v8 then(bif v8=v3 then(bif v4<0 then go0 (v6,(v7+1))else(bif 0<(v6.length:Int) then bif(-9223372036854775808<=((v6.length:Int)-1))&&(((v6.length:Int)-1)<=9223372036854775807)then bif 0<=(aq ((v6.length:Int)-1) 0) then bif (aq ((v6.length:Int)-1) 0)<(v6.length:Int) then(bif (cI v6 (aq ((v6.length:Int)-1) 0) 1)=(cI v5 v7 0) then(bif (cI v6 (aq ((v6.length:Int)-1) 0) 2)=v4 then bif 0<=(v7+1) then bif 0<=((v6.length:Int)-1) then bif ((v6.length:Int)-1)<(v6.length:Int) then go0 ((List.modify v6 (((v6.length:Int)-1)).toNat (fun r=>r.set 1 (AV.int (cI v5 (v7+1) 0)))),(v7+1))else none else none else none else bif 0<=(v7+1) then bif (((v6.length:Int)+1)*24)<=140737488355328 then go0 ((v6++[[(AV.int (cI v5 v7 0)),(AV.int (cI v5 (v7+1) 0)),(AV.int v4)]]),(v7+1))else none else none)else bif 0<=(v7+1) then bif (((v6.length:Int)+1)*24)<=140737488355328 then go0 ((v6++[[(AV.int (cI v5 v7 0)),(AV.int (cI v5 (v7+1) 0)),(AV.int v4)]]),(v7+1))else none else none)else none else none else none else bif 0<=(v7+1) then bif (((v6.length:Int)+1)*24)<=140737488355328 then go0 ((v6++[[(AV.int (cI v5 v7 0)),(AV.int (cI v5 (v7+1) 0)),(AV.int v4)]]),(v7+1))else none else none))else(bif v8<0 then go0 (v6,(v7+1))else(bif 0<(v6.length:Int) then bif(-9223372036854775808<=((v6.length:Int)-1))&&(((v6.length:Int)-1)<=9223372036854775807)then bif 0<=(aq ((v6.length:Int)-1) 0) then bif (aq ((v6.length:Int)-1) 0)<(v6.length:Int) then(bif (cI v6 (aq ((v6.length:Int)-1) 0) 1)=(cI v5 v7 0) then(bif (cI v6 (aq ((v6.length:Int)-1) 0) 2)=v8 then bif 0<=(v7+1) then bif 0<=((v6.length:Int)-1) then bif ((v6.length:Int)-1)<(v6.length:Int) then go0 ((List.modify v6 (((v6.length:Int)-1)).toNat (fun r=>r.set 1 (AV.int (cI v5 (v7+1) 0)))),(v7+1))else none else none else none else bif 0<=(v7+1) then bif (((v6.length:Int)+1)*24)<=140737488355328 then go0 ((v6++[[(AV.int (cI v5 v7 0)),(AV.int (cI v5 (v7+1) 0)),(AV.int v8)]]),(v7+1))else none else none)else bif 0<=(v7+1) then bif (((v6.length:Int)+1)*24)<=140737488355328 then go0 ((v6++[[(AV.int (cI v5 v7 0)),(AV.int (cI v5 (v7+1) 0)),(AV.int v8)]]),(v7+1))else none else none)else none else none else none else bif 0<=(v7+1) then bif (((v6.length:Int)+1)*24)<=140737488355328 then go0 ((v6++[[(AV.int (cI v5 v7 0)),(AV.int (cI v5 (v7+1) 0)),(AV.int v8)]]),(v7+1))else none else none)))else(bif v8<0 then go0 (v6,(v7+1))else(bif 0<(v6.length:Int) then bif(-9223372036854775808<=((v6.length:Int)-1))&&(((v6.length:Int)-1)<=9223372036854775807)then bif 0<=(aq ((v6.length:Int)-1) 0) then bif (aq ((v6.length:Int)-1) 0)<(v6.length:Int) then(bif (cI v6 (aq ((v6.length:Int)-1) 0) 1)=(cI v5 v7 0) then(bif (cI v6 (aq ((v6.length:Int)-1) 0) 2)=v8 then bif 0<=(v7+1) then bif 0<=((v6.length:Int)-1) then bif ((v6.length:Int)-1)<(v6.length:Int) then go0 ((List.modify v6 (((v6.length:Int)-1)).toNat (fun r=>r.set 1 (AV.int (cI v5 (v7+1) 0)))),(v7+1))else none else none else none else bif 0<=(v7+1) then bif (((v6.length:Int)+1)*24)<=140737488355328 then go0 ((v6++[[(AV.int (cI v5 v7 0)),(AV.int (cI v5 (v7+1) 0)),(AV.int v8)]]),(v7+1))else none else none)else bif 0<=(v7+1) then bif (((v6.length:Int)+1)*24)<=140737488355328 then go0 ((v6++[[(AV.int (cI v5 v7 0)),(AV.int (cI v5 (v7+1) 0)),(AV.int v8)]]),(v7+1))else none else none)else none else none else none else bif 0<=(v7+1) then bif (((v6.length:Int)+1)*24)<=140737488355328 then go0 ((v6++[[(AV.int (cI v5 v7 0)),(AV.int (cI v5 (v7+1) 0)),(AV.int v8)]]),(v7+1))else none else none)))
def rz(n:Nat)(go0:bH->Option aF)(v3 v4:Int)(v5 v6:Lv)(v7 v8 v9:Int):Option aF:=
 (bif 0<=v9 then(bif v9=v3 then(bif v4<0 then go0 (v6,(v7+1))else(bif 0<(v6.length:Int) then bif(-9223372036854775808<=((v6.length:Int)-1))&&(((v6.length:Int)-1)<=9223372036854775807)then bif 0<=(aq ((v6.length:Int)-1) 0) then bif (aq ((v6.length:Int)-1) 0)<(v6.length:Int) then(bif (cI v6 (aq ((v6.length:Int)-1) 0) 1)=(cI v5 v7 0) then(bif (cI v6 (aq ((v6.length:Int)-1) 0) 2)=v4 then bif 0<=(v7+1) then bif 0<=((v6.length:Int)-1) then bif ((v6.length:Int)-1)<(v6.length:Int) then go0 ((List.modify v6 (((v6.length:Int)-1)).toNat (fun r=>r.set 1 (AV.int (cI v5 (v7+1) 0)))),(v7+1))else none else none else none else bif 0<=(v7+1) then bif (((v6.length:Int)+1)*24)<=140737488355328 then go0 ((v6++[[(AV.int (cI v5 v7 0)),(AV.int (cI v5 (v7+1) 0)),(AV.int v4)]]),(v7+1))else none else none)else bif 0<=(v7+1) then bif (((v6.length:Int)+1)*24)<=140737488355328 then go0 ((v6++[[(AV.int (cI v5 v7 0)),(AV.int (cI v5 (v7+1) 0)),(AV.int v4)]]),(v7+1))else none else none)else none else none else none else bif 0<=(v7+1) then bif (((v6.length:Int)+1)*24)<=140737488355328 then go0 ((v6++[[(AV.int (cI v5 v7 0)),(AV.int (cI v5 (v7+1) 0)),(AV.int v4)]]),(v7+1))else none else none))else(bif v9<0 then go0 (v6,(v7+1))else(bif 0<(v6.length:Int) then bif(-9223372036854775808<=((v6.length:Int)-1))&&(((v6.length:Int)-1)<=9223372036854775807)then bif 0<=(aq ((v6.length:Int)-1) 0) then bif (aq ((v6.length:Int)-1) 0)<(v6.length:Int) then(bif (cI v6 (aq ((v6.length:Int)-1) 0) 1)=(cI v5 v7 0) then(bif (cI v6 (aq ((v6.length:Int)-1) 0) 2)=v9 then bif 0<=(v7+1) then bif 0<=((v6.length:Int)-1) then bif ((v6.length:Int)-1)<(v6.length:Int) then go0 ((List.modify v6 (((v6.length:Int)-1)).toNat (fun r=>r.set 1 (AV.int (cI v5 (v7+1) 0)))),(v7+1))else none else none else none else bif 0<=(v7+1) then bif (((v6.length:Int)+1)*24)<=140737488355328 then go0 ((v6++[[(AV.int (cI v5 v7 0)),(AV.int (cI v5 (v7+1) 0)),(AV.int v9)]]),(v7+1))else none else none)else bif 0<=(v7+1) then bif (((v6.length:Int)+1)*24)<=140737488355328 then go0 ((v6++[[(AV.int (cI v5 v7 0)),(AV.int (cI v5 (v7+1) 0)),(AV.int v9)]]),(v7+1))else none else none)else none else none else none else bif 0<=(v7+1) then bif (((v6.length:Int)+1)*24)<=140737488355328 then go0 ((v6++[[(AV.int (cI v5 v7 0)),(AV.int (cI v5 (v7+1) 0)),(AV.int v9)]]),(v7+1))else none else none)))else dn n go0 v3 v4 v5 v6 v7 v8)
abbrev Eb:= @dn
def sj(n:Nat)(go0:bH->Option aF)(v3 v4:Int)(v5 v6:Lv)(v7 v8 v9:Int):Option aF:=
 (bif 0<=v9 then go0 (v6,(v7+1))else Eb n go0 v3 v4 v5 v6 v7 v8)
abbrev Cm:= @dn
def qd(n:Nat)(go0:bH->Option aF)(v3 v4:Int)(v5 v6:Lv)(v7 v8 v9:Int):Option aF:=
 (bif v9<0 then(bif 0<=v9 then(bif v9=v3 then(bif v4<0 then go0 (v6,(v7+1))else(bif 0<(v6.length:Int) then bif(-9223372036854775808<=((v6.length:Int)-1))&&(((v6.length:Int)-1)<=9223372036854775807)then bif 0<=(aq ((v6.length:Int)-1) 0) then bif (aq ((v6.length:Int)-1) 0)<(v6.length:Int) then(bif (cI v6 (aq ((v6.length:Int)-1) 0) 1)=(cI v5 v7 0) then(bif (cI v6 (aq ((v6.length:Int)-1) 0) 2)=v4 then bif 0<=(v7+1) then bif 0<=((v6.length:Int)-1) then bif ((v6.length:Int)-1)<(v6.length:Int) then go0 ((List.modify v6 (((v6.length:Int)-1)).toNat (fun r=>r.set 1 (AV.int (cI v5 (v7+1) 0)))),(v7+1))else none else none else none else bif 0<=(v7+1) then bif (((v6.length:Int)+1)*24)<=140737488355328 then go0 ((v6++[[(AV.int (cI v5 v7 0)),(AV.int (cI v5 (v7+1) 0)),(AV.int v4)]]),(v7+1))else none else none)else bif 0<=(v7+1) then bif (((v6.length:Int)+1)*24)<=140737488355328 then go0 ((v6++[[(AV.int (cI v5 v7 0)),(AV.int (cI v5 (v7+1) 0)),(AV.int v4)]]),(v7+1))else none else none)else none else none else none else bif 0<=(v7+1) then bif (((v6.length:Int)+1)*24)<=140737488355328 then go0 ((v6++[[(AV.int (cI v5 v7 0)),(AV.int (cI v5 (v7+1) 0)),(AV.int v4)]]),(v7+1))else none else none))else go0 (v6,(v7+1)))else go0 (v6,(v7+1)))else Cm n go0 v3 v4 v5 v6 v7 v8)
abbrev B7:= @dn
def pD(n:Nat)(go0:bH->Option aF)(v2 v3 v4:Int)(v5 v6:Lv)(v7 v8 v9:Int):Option aF:=
 (bif v2=2 then qd n go0 v3 v4 v5 v6 v7 v8 v9 else B7 n go0 v3 v4 v5 v6 v7 v8)
def kB(n:Nat)(go0:bH->Option aF)(v2 v3 v4:Int)(v5 v6:Lv)(v7 v8 v9:Int):Option aF:=
 (bif v2=1 then sj n go0 v3 v4 v5 v6 v7 v8 v9 else pD n go0 v2 v3 v4 v5 v6 v7 v8 v9)
def kV(n:Nat)(go0:bH->Option aF)(v2 v3 v4:Int)(v5 v6:Lv)(v7 v8 v9:Int):Option aF:=
 (bif v2=0 then rz n go0 v3 v4 v5 v6 v7 v8 v9 else kB n go0 v2 v3 v4 v5 v6 v7 v8 v9)
def qW(n:Nat)(go0:bH->Option aF)(v0 v1:Lv)(v2 v3 v4:Int)(v5 v6:Lv)(v7:Int):Option aF:=
 (bif (v7+1)<(v5.length:Int) then bif 0<=v7 then bif v7<(v5.length:Int) then(iB n v0 (cI v5 v7 0)).bind fun y8=>
 (iB n v1 (cI v5 v7 0)).bind fun y9=>
 kV n go0 v2 v3 v4 v5 v6 v7 y8 y9 else none else none else(ce n v6).bind fun y8=>
 (bif(!y8)then some (([]:Lv),130)else some (v6,0)))
def rK(n:Nat)(go0:bH->Option aF)(v0 v1:Lv)(v2 v3 v4:Int)(v5 v6:Lv)(v7:Int):Option aF:=
 bif(-9223372036854775808<=(v7+1))&&((v7+1)<=9223372036854775807)then qW n go0 v0 v1 v2 v3 v4 v5 v6 v7 else none
def rW(n:Nat)(v0 v1:Lv)(v2 v3 v4:Int):Option aF:=
 (l7 n v0 v1).bind fun y5=>
 (aa (fun go0 s=>rK n go0 v0 v1 v2 v3 v4 y5 s.1 s.2) n ((([]:Lv),0):bH))
def cv(n:Nat)(v0 v1:Lv)(v2 v3 v4:Int):Option aF:=rW n v0 v1 v2 v3 v4
def ref13_combine_t:FnT:=⟨[(false,[tSc]),(false,[tSc]),(false,[.int]),(false,[.int]),(false,[.int])],(.tup (.cons (.row 116 (.cons .int (.cons .int (.cons .int .nil)))) (.cons .i .nil))),fun n (s:Lv×Lv×Int×Int×Int)=>cv n s.1 s.2.1 s.2.2.1 s.2.2.2.1 s.2.2.2.2⟩
theorem B9:ref13_combine_t.ok Tryz.prog 166:=FnT.ok_of (cfg:=⟨[((166,4,0),.inv [(.tmprow 13 116 (.cons .int (.cons .int (.cons .int .nil)))),(.tmp 14 .int)])],aL,[],[]⟩) av qb aA (fun s fn hf=>by rw[Tryz.func166]at hf;cases hf;kernel_rfl) (fun n s=>by kernel_rfl)
def ref13_combine_T:Tab:=(166,ref13_combine_t)::ref13_edges_T
theorem mF:ref13_combine_T.ok Tryz.prog:=Tab.ok_cons B9 qb
abbrev zF:=Lv×Int
def yE(n:Nat)(v0:Lv)(v1 v2 v3:Int):Option zF:=
 (ce n v0).bind fun y4=>
 (bif(!y4)then some (([]:Lv),130)else(bif 0<=v1 then(bif v1<v2 then(bif !(v2<=100000000)then some (([]:Lv),130)else(bif 0<=v3 then(bif !(v3<=7)then some (([]:Lv),130)else(cv n v0 (([]:Lv)++[[(AV.int v1),(AV.int v2),(AV.int v3)]]) 0 (-1) (-1)).bind fun y5=>
 some (y5.1,y5.2))else some (([]:Lv),130)))else some (([]:Lv),130))else some (([]:Lv),130)))
def ox(n:Nat)(v0:Lv)(v1 v2 v3:Int):Option zF:=yE n v0 v1 v2 v3
def ref13_Give_t:FnT:=⟨[(false,[tSc]),(true,[.int,.int]),(false,[.int])],(.tup (.cons (.row 116 (.cons .int (.cons .int (.cons .int .nil)))) (.cons .i .nil))),fun n (s:Lv×Int×Int×Int)=>ox n s.1 s.2.1 s.2.2.1 s.2.2.2⟩
theorem HJ:ref13_Give_t.ok Tryz.prog 164:=FnT.ok_of (cfg:=⟨[],aL,[],[]⟩) av mF aA (fun s fn hf=>by rw[Tryz.func164]at hf;cases hf;kernel_rfl) (fun n s=>by kernel_rfl)
def ref13_Give_T:Tab:=(164,ref13_Give_t)::ref13_combine_T
theorem rj:ref13_Give_T.ok Tryz.prog:=Tab.ok_cons HJ mF
abbrev Av:=Lv×Int
def yg(n:Nat)(v0:Lv)(v1 v2:Int):Option Av:=
 (ce n v0).bind fun y3=>
 (bif(!y3)then some (([]:Lv),130)else(bif 0<=v1 then(bif v1<v2 then(bif !(v2<=100000000)then some (([]:Lv),130)else(cv n v0 (([]:Lv)++[[(AV.int v1),(AV.int v2),(AV.int 0)]]) 1 (-1) (-1)).bind fun y4=>
 some (y4.1,y4.2))else some (([]:Lv),130))else some (([]:Lv),130)))
def od(n:Nat)(v0:Lv)(v1 v2:Int):Option Av:=yg n v0 v1 v2
def ref13_Take_t:FnT:=⟨[(false,[tSc]),(true,[.int,.int])],(.tup (.cons (.row 116 (.cons .int (.cons .int (.cons .int .nil)))) (.cons .i .nil))),fun n (s:Lv×Int×Int)=>od n s.1 s.2.1 s.2.2⟩
theorem Ha:ref13_Take_t.ok Tryz.prog 165:=FnT.ok_of (cfg:=⟨[],aL,[],[]⟩) av rj aA (fun s fn hf=>by rw[Tryz.func165]at hf;cases hf;kernel_rfl) (fun n s=>by kernel_rfl)
def ref13_Take_T:Tab:=(165,ref13_Take_t)::ref13_Give_T
theorem rq:ref13_Take_T.ok Tryz.prog:=Tab.ok_cons Ha rj
abbrev zX:=Lv×Int
def yC(n:Nat)(v0:Lv)(v1 v2:Int):Option zX:=
 (ce n v0).bind fun y3=>
 (bif(!y3)then some (([]:Lv),130)else(bif 0<=v1 then(bif !(v1<=7)then some (([]:Lv),130)else(bif 0<=v2 then(bif !(v2<=7)then some (([]:Lv),130)else(cv n v0 ([]:Lv) 0 v1 v2).bind fun y4=>
 some (y4.1,y4.2))else some (([]:Lv),130)))else some (([]:Lv),130)))
def kJ(n:Nat)(v0:Lv)(v1 v2:Int):Option zX:=yC n v0 v1 v2
def ref13_Swap_t:FnT:=⟨[(false,[tSc]),(false,[.int]),(false,[.int])],(.tup (.cons (.row 116 (.cons .int (.cons .int (.cons .int .nil)))) (.cons .i .nil))),fun n (s:Lv×Int×Int)=>kJ n s.1 s.2.1 s.2.2⟩
theorem Gs:ref13_Swap_t.ok Tryz.prog 116:=FnT.ok_of (cfg:=⟨[],aL,[],[]⟩) av rq aA (fun s fn hf=>by rw[Tryz.func116]at hf;cases hf;kernel_rfl) (fun n s=>by kernel_rfl)
def ref13_Swap_T:Tab:=(116,ref13_Swap_t)::ref13_Take_T
theorem r8:ref13_Swap_T.ok Tryz.prog:=Tab.ok_cons Gs rq
abbrev zP:=Lv×Int
def zW(n:Nat)(v0:Lv)(v1 v2:Int):Option zP:=
 (ce n v0).bind fun y3=>
 (bif(!y3)then some (([]:Lv),130)else(bif 0<=v1 then(bif v1<v2 then(bif !(v2<=100000000)then some (([]:Lv),130)else(cv n v0 (([]:Lv)++[[(AV.int v1),(AV.int v2),(AV.int 0)]]) 2 (-1) (-1)).bind fun y4=>
 some (y4.1,y4.2))else some (([]:Lv),130))else some (([]:Lv),130)))
def oa(n:Nat)(v0:Lv)(v1 v2:Int):Option zP:=zW n v0 v1 v2
def ref13_Only_t:FnT:=⟨[(false,[tSc]),(true,[.int,.int])],(.tup (.cons (.row 116 (.cons .int (.cons .int (.cons .int .nil)))) (.cons .i .nil))),fun n (s:Lv×Int×Int)=>oa n s.1 s.2.1 s.2.2⟩
theorem HP:ref13_Only_t.ok Tryz.prog 121:=FnT.ok_of (cfg:=⟨[],aL,[],[]⟩) av r8 aA (fun s fn hf=>by rw[Tryz.func121]at hf;cases hf;kernel_rfl) (fun n s=>by kernel_rfl)
def ref13_Only_T:Tab:=(121,ref13_Only_t)::ref13_Swap_T
theorem qw:ref13_Only_T.ok Tryz.prog:=Tab.ok_cons HP r8
abbrev qy:=Lv×Int
def qV(n:Nat)(v0 v1:Lv):Option qy:=
 (ce n v0).bind fun y2=>
 (bif(!y2)then some (([]:Lv),130)else(ce n v1).bind fun y3=>
 (bif(!y3)then some (([]:Lv),130)else(cv n v0 v1 0 (-1) (-1)).bind fun y4=>
 some (y4.1,y4.2)))
def jE(n:Nat)(v0 v1:Lv):Option qy:=qV n v0 v1
def ref13_Overlay_t:FnT:=⟨[(false,[tSc]),(false,[tSc])],(.tup (.cons (.row 116 (.cons .int (.cons .int (.cons .int .nil)))) (.cons .i .nil))),fun n (s:Lv×Lv)=>jE n s.1 s.2⟩
theorem CJ:ref13_Overlay_t.ok Tryz.prog 122:=FnT.ok_of (cfg:=⟨[],aL,[],[]⟩) av qw aA (fun s fn hf=>by rw[Tryz.func122]at hf;cases hf;kernel_rfl) (fun n s=>by kernel_rfl)
def ref13_Overlay_T:Tab:=(122,ref13_Overlay_t)::ref13_Only_T
theorem mo:ref13_Overlay_T.ok Tryz.prog:=Tab.ok_cons CJ qw
abbrev kC:=Lv
abbrev vQ:=Lv×Int
def zZ(n:Nat)(go0:vQ->Option kC)(v0 v1:Lv)(v2:Int):Option kC:=
 (bif v2<(v0.length:Int) then(bif v2<12 then bif 0<=v2 then(eH n (cI v0 v2 0) (cI v0 v2 1)).bind fun y3=>
 (dQ n (cI v0 v2 2) 5).bind fun y5=>
 (bif y5<4 then bif(-9223372036854775808<=(2*y5))&&((2*y5)<=9223372036854775807)then(ox n v1 y3.1 y3.2 (2*y5)).bind fun y6=>
 bif(-9223372036854775808<=(v2+1))&&((v2+1)<=9223372036854775807)then go0 (y6.1,(v2+1))else none else none else(od n v1 y3.1 y3.2).bind fun y6=>
 bif(-9223372036854775808<=(v2+1))&&((v2+1)<=9223372036854775807)then go0 (y6.1,(v2+1))else none)else none else some v1)else some v1)
def zm(n:Nat)(v0:Lv):Option kC:=
 (aa (fun go0 s=>zZ n go0 v0 s.1 s.2) n ((([]:Lv),0):vQ))
def nQ(n:Nat)(v0:Lv):Option kC:=zm n v0
def ref13_Made_t:FnT:=⟨[(false,[tSc])],(.row 116 (.cons .int (.cons .int (.cons .int .nil)))),fun n (s:Lv)=>nQ n s⟩
theorem HD:ref13_Made_t.ok Tryz.prog 115:=FnT.ok_of (cfg:=⟨[((115,3,0),.inv [(.tmprow 3 116 (.cons .int (.cons .int (.cons .int .nil)))),(.tmp 4 .int)])],aL,[],[]⟩) av mo aA (fun s fn hf=>by rw[Tryz.func115]at hf;cases hf;kernel_rfl) (fun n s=>by kernel_rfl)
def ref13_Made_T:Tab:=(115,ref13_Made_t)::ref13_Overlay_T
theorem qq:ref13_Made_T.ok Tryz.prog:=Tab.ok_cons HD mo
abbrev jC:=Bool
abbrev uq:=Int×Int×Int×Int
def wt(n:Nat)(go0:uq->Option jC)(v0:Lv)(v1 v3 v4:Int):Option jC:=
 (bif v1<(v0.length:Int) then bif 0<=v1 then(bif 0<=(cI v0 v1 0) then(bif (cI v0 v1 0)<(cI v0 v1 1) then(bif !((cI v0 v1 1)<=100000000)then some (!(decide (0<=v1)))else(bif 0<=(cI v0 v1 2) then(bif !((cI v0 v1 2)<=7)then some (!(decide (0<=v1)))else(bif (cI v0 v1 0)<v3 then some (!(decide (0<=v1)))else(bif(((decide ((cI v0 v1 0)=v3))&&(decide ((cI v0 v1 1)=(cI v0 v1 1))))&&(decide ((cI v0 v1 2)=v4)))then some (!(decide (0<=v1)))else bif(-9223372036854775808<=(v1+1))&&((v1+1)<=9223372036854775807)then go0 ((v1+1),(cI v0 v1 0),(cI v0 v1 1),(cI v0 v1 2))else none)))else some (!(decide (0<=v1)))))else some (!(decide (0<=v1))))else some (!(decide (0<=v1))))else none else some true)
def wl(n:Nat)(v0:Lv):Option jC:=
 (bif (v0.length:Int)<=40 then(aa (fun go0 s=>wt n go0 v0 s.1 s.2.2.1 s.2.2.2) n ((0,0,0,(-1)):uq))else some false)
def dk(n:Nat)(v0:Lv):Option jC:=wl n v0
def block_Valid_t:FnT:=⟨[(false,[tSc])],.b,fun n (s:Lv)=>dk n s⟩
theorem EX:block_Valid_t.ok Tryz.prog 69:=FnT.ok_of (cfg:=⟨[((97,2,2),.inv [(.tmp 8 .int),(.cell 0 0 .int),(.cell 0 1 .int),(.cell 0 2 .int)])],aL,[],[]⟩) av qq aA (fun s fn hf=>by rw[Tryz.func69]at hf;cases hf;kernel_rfl) (fun n s=>by kernel_rfl)
def block_Valid_T:Tab:=(69,block_Valid_t)::ref13_Made_T
theorem pQ:block_Valid_T.ok Tryz.prog:=Tab.ok_cons EX qq
abbrev gA:=Lv×Int×Int
abbrev nH:=Lv
def pA(n:Nat)(go0:nH->Option gA)(v1:Int)(v2:Lv):Option gA:=
 (bif 0<(v2.length:Int) then(bif (cI v2 0 1)<=v1 then bif 1<=(v2.length:Int) then bif (v2.length:Int)<=(v2.length:Int) then go0 (List.drop ((1:Int)).toNat (List.take ((v2.length:Int)).toNat v2))else none else none else(bif (v2.length:Int)=0 then some (([]:Lv),(-1),100000000)else(bif v1<(cI v2 0 0) then some (v2,(-1),(cI v2 0 0))else some (v2,(cI v2 0 2),(cI v2 0 1)))))else(bif (v2.length:Int)=0 then some (([]:Lv),(-1),100000000)else bif 0<(v2.length:Int) then(bif v1<(cI v2 0 0) then some (v2,(-1),(cI v2 0 0))else some (v2,(cI v2 0 2),(cI v2 0 1)))else none))
def pB(n:Nat)(v0:Lv)(v1:Int):Option gA:=
 (aa (fun go0 s=>pA n go0 v1 s) n (v0:nH))
def cy(n:Nat)(v0:Lv)(v1:Int):Option gA:=pB n v0 v1
def block_pieces_1_t:FnT:=⟨[(false,[tSc]),(false,[.int])],(.tup (.cons (.row 1000116 (.cons .int (.cons .int (.cons .int .nil)))) (.cons .i (.cons .i .nil)))),fun n (s:Lv×Int)=>cy n s.1 s.2⟩
theorem Bf:block_pieces_1_t.ok Tryz.prog 229:=FnT.ok_of (cfg:=⟨[((229,1,0),.inv [(.tmp 0 tSc)])],aL,[],[]⟩) av pQ aA (fun s fn hf=>by rw[Tryz.func229]at hf;cases hf;kernel_rfl) (fun n s=>by kernel_rfl)
def block_pieces_1_T:Tab:=(229,block_pieces_1_t)::block_Valid_T
theorem lk:block_pieces_1_T.ok Tryz.prog:=Tab.ok_cons Bf pQ
abbrev kW:=Lv×Int
abbrev xk:=Int×Lv×Lv×Lv
def oT(n:Nat)(go0:xk->Option kW)(v4:Int)(v5 v6 v7:Lv):Option kW:=
 (bif v4<=99999999 then(cy n v6 v4).bind fun y8=>
 (cy n v7 v4).bind fun y11=>
 (bif y11.2.1=(-1) then go0 ((af y8.2.2 y11.2.2),v5,y8.1,y11.1)else(bif y8.2.1=(-1) then go0 ((af y8.2.2 y11.2.2),v5,y8.1,y11.1)else(bif 0<(v5.length:Int) then bif(-9223372036854775808<=((v5.length:Int)-1))&&(((v5.length:Int)-1)<=9223372036854775807)then bif 0<=((v5.length:Int)-1) then bif ((v5.length:Int)-1)<(v5.length:Int) then(bif (cI v5 ((v5.length:Int)-1) 1)=v4 then(bif (cI v5 ((v5.length:Int)-1) 2)=y8.2.1 then go0 ((af y8.2.2 y11.2.2),(List.modify v5 (((v5.length:Int)-1)).toNat (fun r=>r.set 1 (AV.int (af y8.2.2 y11.2.2)))),y8.1,y11.1)else bif (((v5.length:Int)+1)*24)<=140737488355328 then go0 ((af y8.2.2 y11.2.2),(v5++[[(AV.int v4),(AV.int (af y8.2.2 y11.2.2)),(AV.int y8.2.1)]]),y8.1,y11.1)else none)else bif (((v5.length:Int)+1)*24)<=140737488355328 then go0 ((af y8.2.2 y11.2.2),(v5++[[(AV.int v4),(AV.int (af y8.2.2 y11.2.2)),(AV.int y8.2.1)]]),y8.1,y11.1)else none)else none else none else none else bif (((v5.length:Int)+1)*24)<=140737488355328 then go0 ((af y8.2.2 y11.2.2),(v5++[[(AV.int v4),(AV.int (af y8.2.2 y11.2.2)),(AV.int y8.2.1)]]),y8.1,y11.1)else none)))else(bif 40<(v5.length:Int) then some (([]:Lv),130)else some (v5,0)))
def yv(n:Nat)(v0:Lv)(v1 v2:Int):Option kW:=
 (dk n v0).bind fun y3=>
 (bif(!y3)then some (([]:Lv),130)else(bif 0<=v1 then(bif v1<v2 then(bif !(v2<=100000000)then some (([]:Lv),130)else(aa (fun go0 s=>oT n go0 s.1 s.2.1 s.2.2.1 s.2.2.2) n ((0,([]:Lv),v0,(([]:Lv)++[[(AV.int v1),(AV.int v2),(AV.int 0)]])):xk)))else some (([]:Lv),130))else some (([]:Lv),130)))
def kK(n:Nat)(v0:Lv)(v1 v2:Int):Option kW:=yv n v0 v1 v2
def block_Only_t:FnT:=⟨[(false,[tSc]),(true,[.int,.int])],(.tup (.cons (.row 116 (.cons .int (.cons .int (.cons .int .nil)))) (.cons .i .nil))),fun n (s:Lv×Int×Int)=>kK n s.1 s.2.1 s.2.2⟩
theorem Gw:block_Only_t.ok Tryz.prog 204:=FnT.ok_of (cfg:=⟨[((230,1,11),.inv [(.tmp 5 .int),(.cellrow 5 0 116 (.cons .int (.cons .int (.cons .int .nil)))),(.cell 6 0 tSc),(.cell 7 0 tSc)])],aL,[],[]⟩) av lk aA (fun s fn hf=>by rw[Tryz.func204]at hf;cases hf;kernel_rfl) (fun n s=>by kernel_rfl)
def block_Only_T:Tab:=(204,block_Only_t)::block_pieces_1_T
theorem ru:block_Only_T.ok Tryz.prog:=Tab.ok_cons Gw lk
abbrev eb:=Lv×Int
abbrev pT:=Int×Lv×Lv×Lv
def kN(n:Nat)(go0:pT->Option eb)(v4:Int)(v5 v6 v7:Lv):Option eb:=
 (bif v4<=99999999 then(cy n v6 v4).bind fun y8=>
 (cy n v7 v4).bind fun y11=>
 (bif !(y11.2.1=(-1))then(bif 0<(v5.length:Int) then bif(-9223372036854775808<=((v5.length:Int)-1))&&(((v5.length:Int)-1)<=9223372036854775807)then bif 0<=((v5.length:Int)-1) then bif ((v5.length:Int)-1)<(v5.length:Int) then(bif (cI v5 ((v5.length:Int)-1) 1)=v4 then(bif (cI v5 ((v5.length:Int)-1) 2)=y11.2.1 then go0 ((af y8.2.2 y11.2.2),(List.modify v5 (((v5.length:Int)-1)).toNat (fun r=>r.set 1 (AV.int (af y8.2.2 y11.2.2)))),y8.1,y11.1)else bif (((v5.length:Int)+1)*24)<=140737488355328 then go0 ((af y8.2.2 y11.2.2),(v5++[[(AV.int v4),(AV.int (af y8.2.2 y11.2.2)),(AV.int y11.2.1)]]),y8.1,y11.1)else none)else bif (((v5.length:Int)+1)*24)<=140737488355328 then go0 ((af y8.2.2 y11.2.2),(v5++[[(AV.int v4),(AV.int (af y8.2.2 y11.2.2)),(AV.int y11.2.1)]]),y8.1,y11.1)else none)else none else none else none else bif (((v5.length:Int)+1)*24)<=140737488355328 then go0 ((af y8.2.2 y11.2.2),(v5++[[(AV.int v4),(AV.int (af y8.2.2 y11.2.2)),(AV.int y11.2.1)]]),y8.1,y11.1)else none)else(bif y8.2.1=(-1) then go0 ((af y8.2.2 y11.2.2),v5,y8.1,y11.1)else(bif 0<(v5.length:Int) then bif(-9223372036854775808<=((v5.length:Int)-1))&&(((v5.length:Int)-1)<=9223372036854775807)then bif 0<=((v5.length:Int)-1) then bif ((v5.length:Int)-1)<(v5.length:Int) then(bif (cI v5 ((v5.length:Int)-1) 1)=v4 then(bif (cI v5 ((v5.length:Int)-1) 2)=y8.2.1 then go0 ((af y8.2.2 y11.2.2),(List.modify v5 (((v5.length:Int)-1)).toNat (fun r=>r.set 1 (AV.int (af y8.2.2 y11.2.2)))),y8.1,y11.1)else bif (((v5.length:Int)+1)*24)<=140737488355328 then go0 ((af y8.2.2 y11.2.2),(v5++[[(AV.int v4),(AV.int (af y8.2.2 y11.2.2)),(AV.int y8.2.1)]]),y8.1,y11.1)else none)else bif (((v5.length:Int)+1)*24)<=140737488355328 then go0 ((af y8.2.2 y11.2.2),(v5++[[(AV.int v4),(AV.int (af y8.2.2 y11.2.2)),(AV.int y8.2.1)]]),y8.1,y11.1)else none)else none else none else none else bif (((v5.length:Int)+1)*24)<=140737488355328 then go0 ((af y8.2.2 y11.2.2),(v5++[[(AV.int v4),(AV.int (af y8.2.2 y11.2.2)),(AV.int y8.2.1)]]),y8.1,y11.1)else none)))else(bif 40<(v5.length:Int) then some (([]:Lv),130)else some (v5,0)))
def sd(n:Nat)(v0 v1:Lv)(v3:Bool):Option eb:=
 (bif(!v3)then some (([]:Lv),130)else(aa (fun go0 s=>kN n go0 s.1 s.2.1 s.2.2.1 s.2.2.2) n ((0,([]:Lv),v0,v1):pT)))
def qz(n:Nat)(v0 v1:Lv)(v2:Bool):Option eb:=
 (bif(!v2)then some (([]:Lv),130)else(dk n v1).bind fun y3=>
 sd n v0 v1 y3)
def qT(n:Nat)(v0 v1:Lv):Option eb:=
 (dk n v0).bind fun y2=>
 qz n v0 v1 y2
def gL(n:Nat)(v0 v1:Lv):Option eb:=qT n v0 v1
def block_Overlay_t:FnT:=⟨[(false,[tSc]),(false,[tSc])],(.tup (.cons (.row 116 (.cons .int (.cons .int (.cons .int .nil)))) (.cons .i .nil))),fun n (s:Lv×Lv)=>gL n s.1 s.2⟩
theorem Cn:block_Overlay_t.ok Tryz.prog 205:=FnT.ok_of (cfg:=⟨[((230,1,7),.inv [(.tmp 5 .int),(.cellrow 1 0 116 (.cons .int (.cons .int (.cons .int .nil)))),(.cell 2 0 tSc),(.cell 3 0 tSc)])],aL,[],[]⟩) av ru aA (fun s fn hf=>by rw[Tryz.func205]at hf;cases hf;kernel_rfl) (fun n s=>by kernel_rfl)
def block_Overlay_T:Tab:=(205,block_Overlay_t)::block_Only_T
theorem my:block_Overlay_T.ok Tryz.prog:=Tab.ok_cons Cn ru
abbrev dp:=Lv×Int
abbrev w9:=Int×Lv×Lv×Lv
def ql(n:Nat)(go0:w9->Option dp)(v1 v2 v4:Int)(v5 v6 v7:Lv):Option dp:=
 (bif v4<=99999999 then(cy n v6 v4).bind fun y8=>
 (cy n v7 v4).bind fun y11=>
 (bif y8.2.1=v1 then(bif v2=(-1) then go0 ((af y8.2.2 y11.2.2),v5,y8.1,y11.1)else(bif 0<(v5.length:Int) then bif(-9223372036854775808<=((v5.length:Int)-1))&&(((v5.length:Int)-1)<=9223372036854775807)then bif 0<=((v5.length:Int)-1) then bif ((v5.length:Int)-1)<(v5.length:Int) then(bif (cI v5 ((v5.length:Int)-1) 1)=v4 then(bif (cI v5 ((v5.length:Int)-1) 2)=v2 then go0 ((af y8.2.2 y11.2.2),(List.modify v5 (((v5.length:Int)-1)).toNat (fun r=>r.set 1 (AV.int (af y8.2.2 y11.2.2)))),y8.1,y11.1)else bif (((v5.length:Int)+1)*24)<=140737488355328 then go0 ((af y8.2.2 y11.2.2),(v5++[[(AV.int v4),(AV.int (af y8.2.2 y11.2.2)),(AV.int v2)]]),y8.1,y11.1)else none)else bif (((v5.length:Int)+1)*24)<=140737488355328 then go0 ((af y8.2.2 y11.2.2),(v5++[[(AV.int v4),(AV.int (af y8.2.2 y11.2.2)),(AV.int v2)]]),y8.1,y11.1)else none)else none else none else none else bif (((v5.length:Int)+1)*24)<=140737488355328 then go0 ((af y8.2.2 y11.2.2),(v5++[[(AV.int v4),(AV.int (af y8.2.2 y11.2.2)),(AV.int v2)]]),y8.1,y11.1)else none))else(bif y8.2.1=(-1) then go0 ((af y8.2.2 y11.2.2),v5,y8.1,y11.1)else(bif 0<(v5.length:Int) then bif(-9223372036854775808<=((v5.length:Int)-1))&&(((v5.length:Int)-1)<=9223372036854775807)then bif 0<=((v5.length:Int)-1) then bif ((v5.length:Int)-1)<(v5.length:Int) then(bif (cI v5 ((v5.length:Int)-1) 1)=v4 then(bif (cI v5 ((v5.length:Int)-1) 2)=y8.2.1 then go0 ((af y8.2.2 y11.2.2),(List.modify v5 (((v5.length:Int)-1)).toNat (fun r=>r.set 1 (AV.int (af y8.2.2 y11.2.2)))),y8.1,y11.1)else bif (((v5.length:Int)+1)*24)<=140737488355328 then go0 ((af y8.2.2 y11.2.2),(v5++[[(AV.int v4),(AV.int (af y8.2.2 y11.2.2)),(AV.int y8.2.1)]]),y8.1,y11.1)else none)else bif (((v5.length:Int)+1)*24)<=140737488355328 then go0 ((af y8.2.2 y11.2.2),(v5++[[(AV.int v4),(AV.int (af y8.2.2 y11.2.2)),(AV.int y8.2.1)]]),y8.1,y11.1)else none)else none else none else none else bif (((v5.length:Int)+1)*24)<=140737488355328 then go0 ((af y8.2.2 y11.2.2),(v5++[[(AV.int v4),(AV.int (af y8.2.2 y11.2.2)),(AV.int y8.2.1)]]),y8.1,y11.1)else none)))else(bif 40<(v5.length:Int) then some (([]:Lv),130)else some (v5,0)))
def Ak(n:Nat)(v0:Lv)(v1 v2:Int):Option dp:=
 (bif !(v2<=7)then some (([]:Lv),130)else(aa (fun go0 s=>ql n go0 v1 v2 s.1 s.2.1 s.2.2.1 s.2.2.2) n ((0,([]:Lv),v0,([]:Lv)):w9)))
def zi(n:Nat)(v0:Lv)(v1 v2:Int):Option dp:=
 (bif 0<=v2 then Ak n v0 v1 v2 else some (([]:Lv),130))
def zI(n:Nat)(v0:Lv)(v1 v2:Int):Option dp:=
 (bif !(v1<=7)then some (([]:Lv),130)else zi n v0 v1 v2)
def yW(n:Nat)(v0:Lv)(v1 v2:Int):Option dp:=
 (bif 0<=v1 then zI n v0 v1 v2 else some (([]:Lv),130))
def yx(n:Nat)(v0:Lv)(v1 v2:Int)(v3:Bool):Option dp:=
 (bif(!v3)then some (([]:Lv),130)else yW n v0 v1 v2)
def xC(n:Nat)(v0:Lv)(v1 v2:Int):Option dp:=
 (dk n v0).bind fun y3=>
 yx n v0 v1 v2 y3
def f7(n:Nat)(v0:Lv)(v1 v2:Int):Option dp:=xC n v0 v1 v2
def block_Swap_t:FnT:=⟨[(false,[tSc]),(false,[.int]),(false,[.int])],(.tup (.cons (.row 116 (.cons .int (.cons .int (.cons .int .nil)))) (.cons .i .nil))),fun n (s:Lv×Int×Int)=>f7 n s.1 s.2.1 s.2.2⟩
theorem G4:block_Swap_t.ok Tryz.prog 201:=FnT.ok_of (cfg:=⟨[((230,1,9),.inv [(.tmp 5 .int),(.cellrow 3 0 116 (.cons .int (.cons .int (.cons .int .nil)))),(.cell 4 0 tSc),(.cell 5 0 tSc)])],aL,[],[]⟩) av my aA (fun s fn hf=>by rw[Tryz.func201]at hf;cases hf;kernel_rfl) (fun n s=>by kernel_rfl)
def block_Swap_T:Tab:=(201,block_Swap_t)::block_Overlay_T
theorem rM:block_Swap_T.ok Tryz.prog:=Tab.ok_cons G4 my
abbrev jM:=Int
abbrev tP:=Int×Int
def Hb(n:Nat)(go0:tP->Option jM)(v0:Lv)(v1 v3 v4:Int):Option jM:=
 (bif v4<(v0.length:Int) then bif 0<=v4 then(bif (cI v0 v4 2)=v1 then bif(-9223372036854775808<=((cI v0 v4 1)-(cI v0 v4 0)))&&(((cI v0 v4 1)-(cI v0 v4 0))<=9223372036854775807)then bif(-9223372036854775808<=(v3+((cI v0 v4 1)-(cI v0 v4 0))))&&((v3+((cI v0 v4 1)-(cI v0 v4 0)))<=9223372036854775807)then bif(-9223372036854775808<=(v4+1))&&((v4+1)<=9223372036854775807)then go0 ((v3+((cI v0 v4 1)-(cI v0 v4 0))),(v4+1))else none else none else none else bif(-9223372036854775808<=(v4+1))&&((v4+1)<=9223372036854775807)then go0 (v3,(v4+1))else none)else none else some v3)
def Hm(n:Nat)(v0:Lv)(v1:Int):Option jM:=
 (dk n v0).bind fun y2=>
 (bif(!y2)then some 0 else(aa (fun go0 s=>Hb n go0 v0 v1 s.1 s.2) n ((0,0):tP)))
def Ko(n:Nat)(v0:Lv)(v1:Int):Option jM:=Hm n v0 v1
def block_Count_t:FnT:=⟨[(false,[tSc]),(false,[.int])],.i,fun n (s:Lv×Int)=>Ko n s.1 s.2⟩
theorem EP:block_Count_t.ok Tryz.prog 95:=FnT.ok_of (cfg:=⟨[((95,5,0),.inv [(.tmp 5 .int),(.tmp 13 .int)])],aL,[],[]⟩) av rM aA (fun s fn hf=>by rw[Tryz.func95]at hf;cases hf;kernel_rfl) (fun n s=>by kernel_rfl)
def block_Count_T:Tab:=(95,block_Count_t)::block_Swap_T
theorem pK:block_Count_T.ok Tryz.prog:=Tab.ok_cons EP rM
abbrev k8:=Int×Bool
abbrev vO:=Int
def IH(n:Nat)(go0:vO->Option k8)(v0:Lv)(v1 v2:Int):Option k8:=
 (bif v2<(v0.length:Int) then bif 0<=v2 then(bif (cI v0 v2 0)<=v1 then(bif v1<(cI v0 v2 1) then(bif v2<0 then some (0,false)else(dk n v0).bind fun y3=>
 (bif(!y3)then some (0,false)else some ((cI v0 v2 2),true)))else bif(-9223372036854775808<=(v2+1))&&((v2+1)<=9223372036854775807)then go0 (v2+1)else none)else bif(-9223372036854775808<=(v2+1))&&((v2+1)<=9223372036854775807)then go0 (v2+1)else none)else none else some (0,false))
def Jm(n:Nat)(v0:Lv)(v1:Int):Option k8:=
 (aa (fun go0 s=>IH n go0 v0 v1 s) n (0:vO))
def L2(n:Nat)(v0:Lv)(v1:Int):Option k8:=Jm n v0 v1
def block_Find_t:FnT:=⟨[(false,[tSc]),(false,[.int])],(.tup (.cons .i (.cons .b .nil))),fun n (s:Lv×Int)=>L2 n s.1 s.2⟩
theorem G3:block_Find_t.ok Tryz.prog 38:=FnT.ok_of (cfg:=⟨[((97,2,1),.inv [(.tmp 8 .int)])],aL,[],[]⟩) av pK aA (fun s fn hf=>by rw[Tryz.func38]at hf;cases hf;kernel_rfl) (fun n s=>by kernel_rfl)
def block_Find_T:Tab:=(38,block_Find_t)::block_Count_T
theorem rG:block_Find_T.ok Tryz.prog:=Tab.ok_cons G3 pK
end
end Go.Proofs.YtgckmifmjiklmaaGreat
namespace Go.Dial.Blk
structure B3 where
 f:Int
 t:Int
 c:Int
deriving DecidableEq
def Asc:Int->Int->List B3->Prop
 |_,_,[]=>True
 |e,k,b::l=>0<=b.f/\b.f<b.t/\b.t<=100000000/\0<=b.c/\b.c<=7/\e<=b.f/\(b.f=e->b.c≠k)/\Asc b.t b.c l
def Canon(l:List B3):Prop:=Asc 0 (-1) l
def hold:List B3->Int->Int
 |[],_=> -1
 |b::l,n=>if b.f<=n/\n<b.t then b.c else hold l n
theorem IT(n:Int):hold [] n= -1:=rfl
theorem cq{b:B3}{n:Int}(l:List B3)(h:b.f<=n/\n<b.t):hold (b::l) n=b.c:=by simp[hold,h]
theorem bg{b:B3}{n:Int}(l:List B3)(h:¬(b.f<=n/\n<b.t)):hold (b::l) n=hold l n:=by rw[hold,if_neg h]
theorem oC{l:List B3}{e k n:Int}(h:Asc e k l)(hn:n<e):hold l n= -1:=by
 induction l generalizing e k with
 |nil=>rfl
 |cons b l ih=>rw[bg l (by obtain⟨_,_,_,_,_,h6,_⟩:=h;omega)];exact ih h.2.2.2.2.2.2.2 (by obtain⟨_,_,_,_,_,h6,_⟩:=h;omega)
theorem A7{l:List B3}{e k:Int}(h:Asc e k l)(hk:0<=k):hold l e≠k:=by
 cases l with
 |nil=>simp[hold];omega
 |cons b l=>
  obtain⟨h1,h2,h3,h4,h5,h6,h7,h8⟩:=h;by_cases hb:b.f=e
  ·rw[cq l (by omega)];exact h7 hb
  ·rw[bg l (by omega),oC h8 (by omega)];omega
theorem cz{l:List B3}{e k:Int}(h:Asc e k l)(n:Int): -1<=hold l n/\hold l n<=7:=by
 induction l generalizing e k with
 |nil=>simp[hold]
 |cons b l ih=>
  obtain⟨h1,h2,h3,h4,h5,h6,h7,h8⟩:=h;unfold hold;split
  ·omega
  ·exact ih h8
theorem Fl{l:List B3}{e k:Int}(h:Asc e k l){n:Int}(hn:0<=hold l n):e<=n/\0<=n/\n<100000000:=by
 induction l generalizing e k with
 |nil=>simp[hold]at hn
 |cons b l ih=>
  obtain⟨h1,h2,h3,h4,h5,h6,h7,h8⟩:=h;unfold hold at hn;split at hn
  ·omega
  ·have:=ih h8 hn;omega
theorem Asc.uniq{a b:List B3}{e k:Int}(ha:Asc e k a)(hb:Asc e k b)(h:∀n,e<=n->hold a n=hold b n):a=b:=by
 induction a generalizing b e k with
 | nil=>
  cases b with
  |nil=>rfl
  |cons y b=>
   obtain⟨h1,h2,h3,h4,h5,h6,h7,h8⟩:=hb;have:=h y.f h6
   rw[cq b (by omega)]at this
   simp[hold]at this;omega
 | cons x a ih=>
  obtain⟨p1,p2,p3,p4,p5,p6,p7,p8⟩:=ha;cases b with
  |nil=>
   have:=h x.f p6
   rw[cq a (by omega)]at this
   simp[hold]at this;omega
  | cons y b=>
   obtain⟨q1,q2,q3,q4,q5,q6,q7,q8⟩:=hb;have hf:x.f=y.f:=by
    rcases Int.lt_trichotomy x.f y.f with hl|hl|hl
    ·have:=h x.f p6
     rw[cq a (by omega),bg b (by omega),oC q8 (by omega)]at this;omega
    ·exact hl
    ·have:=h y.f q6
     rw[cq b (by omega),bg a (by omega),oC p8 (by omega)]at this;omega
   have hc:x.c=y.c:=by
    have:=h x.f p6
    rwa [cq a (by omega),cq b (by omega)]at this
   have ht:x.t=y.t:=by
    rcases Int.lt_trichotomy x.t y.t with hl|hl|hl
    ·have:=h x.t (by omega)
     rw[bg a (by omega),cq b (by omega),<-hc]at this
     exact absurd this (A7 p8 p4)
    ·exact hl
    ·have:=h y.t (by omega)
     rw[bg b (by omega),cq a (by omega),hc]at this
     exact absurd this.symm (A7 q8 q4)
   obtain⟨xf,xt,xc⟩:=x;obtain⟨yf,yt,yc⟩:=y;simp only at hf hc ht
   subst hf hc ht;congr 1
   exact ih p8 q8 (fun n hn=>by
    have:=h n (by simp only at *;omega)
    rwa [bg a (by simp only at *;omega),bg b (by simp only at *;omega)]at this)
theorem Canon.uniq{a b:List B3}(ha:Canon a)(hb:Canon b)(h:∀n,0<=n->n<100000000->hold a n=hold b n):a=b:=
 Asc.uniq ha hb fun n hn=>by
  by_cases h1:n<100000000
  ·exact h n hn h1
  ·have e1:¬0<=hold a n:=fun hh=>by have:=Fl ha hh;omega
   have e2:¬0<=hold b n:=fun hh=>by have:=Fl hb hh;omega
   have r1:=cz ha n;have r2:=cz hb n;omega
def fin:Int->Int->List B3->Int×Int
 |e,k,[]=>(e,k)
 |_,_,b::l=>fin b.t b.c l
theorem lu(l:List B3)(e k:Int)(y:B3):fin e k (l++[y])=(y.t,y.c):=by
 induction l generalizing e k with
 |nil=>rfl
 |cons b l ih=>exact ih _ _
theorem Asc.snoc{l:List B3}{e k:Int}{y:B3}:Asc e k (l++[y])↔Asc e k l/\0<=y.f/\y.f<y.t/\y.t<=100000000/\0<=y.c/\y.c<=7/\(fin e k l).1<=y.f/\(y.f=(fin e k l).1->y.c≠(fin e k l).2):=by
 induction l generalizing e k with
 |nil=>simp[Asc,fin]
 |cons b l ih=>simp only[List.cons_append,Asc,ih,fin];constructor<;>intro h<;>simp_all
theorem zx(l:List B3)(y:B3)(n:Int)(h:¬(y.f<=n/\n<y.t)\/∀b∈l,¬(b.f<=n/\n<b.t)):hold (l++[y]) n=if y.f<=n/\n<y.t then y.c else hold l n:=by
 induction l with
 |nil=>simp[hold]
 | cons b l ih=>
  simp only[List.cons_append,hold];by_cases hb:b.f<=n/\n<b.t
  ·rw[if_pos hb,if_pos hb]
   rcases h with h|h
   ·rw[if_neg h]
   ·exact absurd hb (h b (by simp))
  ·rw[if_neg hb,if_neg hb]
   exact ih (h.imp_right fun h b hb=>h b (List.mem_cons_of_mem _ hb))
theorem Asc.fin_le{l:List B3}{e k:Int}(h:Asc e k l):e<=(fin e k l).1:=by
 induction l generalizing e k with
 |nil=>exact Int.le_refl _
 |cons b l ih=>
  obtain⟨h1,h2,h3,h4,h5,h6,h7,h8⟩:=h;have:=ih h8
  simp only[fin];omega
theorem Asc.le_fin{l:List B3}{e k:Int}(h:Asc e k l):∀b∈l,b.t<=(fin e k l).1:=by
 induction l generalizing e k with
 |nil=>simp
 |cons b l ih=>
  obtain⟨h1,h2,h3,h4,h5,h6,h7,h8⟩:=h;intro c hc;rcases List.mem_cons.1 hc with rfl|hc
  ·exact h8.fin_le
  ·exact ih h8 c hc
def step(out:List B3)(f t k:Int):List B3:=
 if k= -1 then out else
 match out.getLast? with
 |some y=>if y.t=f/\y.c=k then out.dropLast++[⟨y.f,t,k⟩]else out++[⟨f,t,k⟩]
 |none=>[⟨f,t,k⟩]
theorem ez(out:List B3)(f t:Int):step out f t (-1)=out:=by simp[step]
theorem qD(l:List B3)(y:B3)(f t k:Int)(hk:k≠ -1):step (l++[y]) f t k=if y.t=f/\y.c=k then l++[⟨y.f,t,k⟩]else(l++[y])++[⟨f,t,k⟩]:=by simp[step,hk]
theorem uM(f t k:Int)(hk:k≠ -1):step [] f t k=[⟨f,t,k⟩]:=by simp[step,hk]
def Upto(g:Int->Int)(p:Int)(out:List B3):Prop:=Canon out/\(fin 0 (-1) out).1<=p/\∀n,hold out n=if 0<=n/\n<p then g n else -1
theorem Upto.nil(g:Int->Int):Upto g 0 []:=⟨trivial,by simp[fin],fun n=>by rw[if_neg (by omega)];rfl⟩
theorem Upto.step{g:Int->Int}{f t k:Int}{out:List B3}(h:Upto g f out)(h0:0<=f)(h1:f<t)(h2:t<=100000000)(hk: -1<=k/\k<=7)(hg:∀n,f<=n->n<t->g n=k):Upto g t (step out f t k):=by
 obtain⟨hc,hf,hh⟩:=h;by_cases hk1:k= -1
 ·subst hk1
  rw[ez];refine⟨hc,by omega,fun n=>?_⟩
  rw[hh n];by_cases hn:0<=n/\n<f
  ·rw[if_pos hn,if_pos (by omega)]
  ·rw[if_neg hn]
   split
   ·exact(hg n (by omega) (by omega)).symm
   ·rfl
 rcases List.eq_nil_or_concat out with rfl|⟨l,y,rfl⟩
 ·rw[uM _ _ _ hk1]
  refine⟨⟨h0,h1,h2,by show 0<=k;omega,hk.2,h0,fun _=>hk1,trivial⟩,by simp[fin],fun n=>?_⟩
  have:=hh n
  simp only[hold]at this⊢;by_cases hn:f<=n/\n<t
  ·rw[if_pos hn,if_pos (by omega),hg n hn.1 hn.2]
  ·rw[if_neg hn,this]
   by_cases h3:0<=n/\n<f
   ·rw[if_pos h3,if_pos (by omega)]
   ·rw[if_neg h3,if_neg (by omega)]
 ·rw[List.concat_eq_append]at *
  rw[qD _ _ _ _ _ hk1];have hc':=hc;rw[Canon,Asc.snoc]at hc;obtain⟨c0,c1,c2,c3,c4,c5,c6,c7⟩:=hc;rw[lu]at hf;simp only at hf
  have hle:=c0.le_fin;split
  ·rename_i hy
   obtain⟨rfl,rfl⟩:=hy;refine⟨Asc.snoc.2 ⟨c0,c1,by simp only;omega,h2,c4,c5,c6,c7⟩,by rw[lu];exact Int.le_refl _,fun n=>?_⟩
   rw[zx _ _ _ (by
    by_cases hn:y.f<=n/\n<t
    ·exact .inr fun b hb=>by have:=hle b hb;omega
    ·exact .inl hn)]
   have:=hh n
   rw[zx _ _ _ (by
    by_cases hn:y.f<=n/\n<y.t
    ·exact .inr fun b hb=>by have:=hle b hb;omega
    ·exact .inl hn)]at this
   simp only
   by_cases hn:y.f<=n/\n<t
   ·rw[if_pos hn,if_pos (by omega)]
    by_cases hn2:n<y.t
    ·rw[if_pos (by omega),if_pos (by omega)]at this;exact this
    ·exact(hg n (by omega) hn.2).symm
   ·rw[if_neg hn]
    rw[if_neg (by omega)]at this
    rw[this];by_cases h3:0<=n/\n<y.t
    ·rw[if_pos h3,if_pos (by omega)]
    ·rw[if_neg h3,if_neg (by omega)]
  ·rename_i hy
   refine⟨Asc.snoc.2 ⟨hc',h0,h1,h2,by simp only;omega,hk.2,by rw[lu];exact hf,by rw[lu];intro e1 e2;exact hy ⟨e1.symm,e2.symm⟩⟩,by rw[lu];exact Int.le_refl _,fun n=>?_⟩
   have hle2:∀b∈l++[y],b.t<=f:=by
    intro b hb;have:=Asc.le_fin hc' b hb
    rw[lu]at this;simp only at this;omega
   rw[zx _ _ _ (by
    by_cases hn:f<=n/\n<t
    ·exact .inr fun b hb=>by have:=hle2 b hb;omega
    ·exact .inl hn)]
   simp only
   by_cases hn:f<=n/\n<t
   ·rw[if_pos hn,if_pos (by omega),hg n hn.1 hn.2]
   ·rw[if_neg hn,hh n]
    by_cases h3:0<=n/\n<f
    ·rw[if_pos h3,if_pos (by omega)]
    ·rw[if_neg h3,if_neg (by omega)]
def at_:List B3->Int->List B3×Int×Int
 |[],_=>([],-1,100000000)
 |b::l,n=>if b.t<=n then at_ l n else if n<b.f then(b::l,-1,b.f)else(b::l,b.c,b.t)
theorem AR(l:List B3){n:Int}(h:n<100000000):n<(at_ l n).2.2:=by
 induction l with
 |nil=>exact h
 |cons b l ih=>
  unfold at_;split
  ·exact ih
  ·split<;>simp only<;>omega
def Di(a b:List B3)(n:Int):List (Int×Int×Int×Int):=
 if _h:n<100000000 then
  (n,min (at_ a n).2.2 (at_ b n).2.2,(at_ a n).2.1,(at_ b n).2.1)::Di (at_ a n).1 (at_ b n).1 (min (at_ a n).2.2 (at_ b n).2.2)else[]
termination_by (100000000-n).toNat
decreasing_by
 have h1:=AR a _h;have h2:=AR b _h;omega
theorem FP(l:List B3)(n:Int):∃pre,l=pre++(at_ l n).1:=by
 induction l with
 |nil=>exact⟨[],rfl⟩
 |cons b l ih=>
  unfold at_;split
  ·obtain⟨pre,h⟩:=ih;exact⟨b::pre,by rw[List.cons_append,<-h]⟩
  ·split<;>exact⟨[],rfl⟩
def Some(l:List B3):Prop:=∃e k,Asc e k l
theorem Asc.some{e k:Int}{l:List B3}(h:Asc e k l):Some l:=⟨e,k,h⟩
theorem Some.tail{b:B3}{l:List B3}(h:Some (b::l)):Some l:=by obtain⟨e,k,h⟩:=h;exact⟨_,_,h.2.2.2.2.2.2.2⟩
theorem AN{l:List B3}(h:Some l)(n:Int):Some (at_ l n).1/\(at_ l n).2.2<=100000000/\(∀m,n<=m->m<(at_ l n).2.2->hold l m=(at_ l n).2.1)/\(∀m,n<=m->hold (at_ l n).1 m=hold l m)/\ -1<=(at_ l n).2.1/\(at_ l n).2.1<=7:=by
 induction l with
 |nil=>exact⟨h,Int.le_refl _,fun _ _ _=>rfl,fun _ _=>rfl,by simp[at_],by simp[at_]⟩
 | cons b l ih=>
  have h0:=h;obtain⟨e,k,h1,h2,h3,h4,h5,h6,h7,h8⟩:=h0;by_cases hb:b.t<=n
  ·rw[show at_ (b::l) n=at_ l n by rw[at_,if_pos hb]]
   obtain⟨i1,i2,i3,i4,i5⟩:=ih h.tail;refine⟨i1,i2,fun m hm hm2=>?_,fun m hm=>?_,i5⟩
   ·rw[bg l (by omega)];exact i3 m hm hm2
   ·rw[bg l (by omega)];exact i4 m hm
  ·by_cases hf:n<b.f
   ·rw[show at_ (b::l) n=(b::l,-1,b.f) by rw[at_,if_neg hb,if_pos hf]]
    refine⟨h,by simp only;omega,fun m hm hm2=>?_,fun _ _=>rfl,by simp,by simp⟩
    simp only at hm2
    rw[bg l (by omega)];exact oC h8 (by omega)
   ·rw[show at_ (b::l) n=(b::l,b.c,b.t) by rw[at_,if_neg hb,if_neg hf]]
    refine⟨h,h3,fun m hm hm2=>?_,fun _ _=>rfl,by simp only;omega,h5⟩
    simp only at hm2
    exact cq l (by omega)
theorem Kl(g:Int->Int->Int)(hgr:∀x y,-1<=x->x<=7-> -1<=y->y<=7-> -1<=g x y/\g x y<=7){a b:List B3}(A B:Int->Int){n:Int}(ha:Some a)(hb:Some b)(hn:0<=n)(hn2:n<=100000000)
  (hA:∀m,n<=m->hold a m=A m) (hB:∀m,n<=m->hold b m=B m) {out:List B3} (ho:Upto (fun m=>g (A m) (B m)) n out):
  Upto (fun m=>g (A m) (B m)) 100000000 ((Di a b n).foldl (fun o p=>step o p.1 p.2.1 (g p.2.2.1 p.2.2.2)) out):=by
 obtain⟨d,hd⟩:∃d,d=(100000000-n).toNat:=⟨_,rfl⟩
 induction d using Nat.strongRecOn generalizing a b n out with
 | _ d ih=>
  by_cases h:n<100000000
  ·rw[Di,dif_pos h,List.foldl_cons]
   obtain⟨a1,a2,a3,a4,a5,a6⟩:=AN ha n;obtain⟨b1,b2,b3,b4,b5,b6⟩:=AN hb n;have hga:=AR a h;have hgb:=AR b h;obtain⟨t,ht⟩:∃t,t=min (at_ a n).2.2 (at_ b n).2.2:=⟨_,rfl⟩
   rw[<-ht];refine ih ((100000000-t).toNat) (by omega) a1 b1 (by omega) (by omega) (fun m hm=>(a4 m (by omega)).trans (hA m (by omega))) (fun m hm=>(b4 m (by omega)).trans (hB m (by omega))) ?_ rfl
   refine Upto.step ho hn (by omega) (by omega) (hgr _ _ a5 a6 b5 b6) fun m hm hm2=>?_
   rw[<-hA m hm,<-hB m hm,a3 m hm (by omega),b3 m hm (by omega)]
  ·rw[Di,dif_neg h]
   have:n=100000000:=by omega
   subst this;exact ho
def Cut(K:List Int)(l:List B3):Prop:=∀b∈l,b.f∈K/\b.t∈K
theorem Cut.nil(K:List Int):Cut K []:=fun _ h=>by simp at h
theorem Cut.mono{K K':List Int}{l:List B3}(h:Cut K l)(hK:∀x∈K,x∈K'):Cut K' l:=fun b hb=>⟨hK _ (h b hb).1,hK _ (h b hb).2⟩
theorem LK{l:List B3}{e k:Int}(h:Asc e k l){n:Int}(hn:hold l (n-1)≠hold l n):∃b∈l,b.f=n\/b.t=n:=by
 induction l generalizing e k with
 |nil=>exact absurd rfl hn
 | cons b l ih=>
  obtain⟨h1,h2,h3,h4,h5,h6,h7,h8⟩:=h;by_cases hb:b.f=n\/b.t=n
  ·exact⟨b,by simp,hb⟩
  ·by_cases hi:b.f<=n/\n<b.t
   ·rw[cq l hi,cq l (by omega)]at hn;exact absurd rfl hn
   ·rw[bg l hi,bg l (by omega)]at hn
    obtain⟨c,hc,hh⟩:=ih h8 hn;exact⟨c,by simp[hc],hh⟩
theorem D9{l:List B3}{e k:Int}(h:Asc e k l){b:B3}(hb:b∈l):(b.f≠e->hold l (b.f-1)≠hold l b.f)/\hold l (b.t-1)≠hold l b.t:=by
 induction l generalizing e k with
 |nil=>simp at hb
 | cons c l ih=>
  obtain⟨h1,h2,h3,h4,h5,h6,h7,h8⟩:=h;rcases List.mem_cons.1 hb with rfl|hb
  ·constructor
   ·intro _
    rw[bg (n:=b.f-1) l (by omega),cq (n:=b.f) l (by omega),oC h8 (by omega)];omega
   ·rw[cq (n:=b.t-1) l (by omega),bg (n:=b.t) l (by omega)]
    exact(A7 h8 h4).symm
  ·have hmem:c.t<=b.f/\b.f<b.t:=by
    clear ih
    have:∀(l:List B3) e k,Asc e k l->b∈l->e<=b.f/\b.f<b.t:=by
     intro l;induction l with
     |nil=>intro _ _ _ hm;simp at hm
     |cons x l ih2=>
      intro e k hx hm;obtain⟨x1,x2,x3,x4,x5,x6,x7,x8⟩:=hx;rcases List.mem_cons.1 hm with rfl|hm
      ·exact⟨x6,x2⟩
      ·have:=ih2 _ _ x8 hm;omega
    exact this l _ _ h8 hb
   have i:=ih h8 hb;constructor
   ·intro _
    by_cases he:b.f=c.t
    ·rw[cq (n:=b.f-1) l (by omega),bg (n:=b.f) l (by omega),he]
     exact(A7 h8 h4).symm
    ·rw[bg l (by omega),bg l (by omega)];exact i.1 he
   ·by_cases he:b.t-1<c.t
    ·omega
    ·rw[bg l (by omega),bg l (by omega)];exact i.2
theorem Canon.change{l:List B3}(h:Canon l){b:B3}(hb:b∈l):hold l (b.f-1)≠hold l b.f/\hold l (b.t-1)≠hold l b.t:=by
 have h':Asc (-5) (-1) l:=by
  cases l with
  |nil=>trivial
  |cons c l=>obtain⟨h1,h2,h3,h4,h5,h6,h7,h8⟩:=h;exact⟨h1,h2,h3,h4,h5,by omega,fun _=>by omega,h8⟩
 have hf:0<=b.f:=by
  have:∀(l:List B3) e k,Asc e k l->b∈l->0<=b.f:=by
   intro l;induction l with
   |nil=>intro _ _ _ hm;simp at hm
   |cons x l ih2=>
    intro e k hx hm;obtain⟨x1,x2,x3,x4,x5,x6,x7,x8⟩:=hx;rcases List.mem_cons.1 hm with rfl|hm
    ·exact x1
    ·exact ih2 _ _ x8 hm
  exact this l _ _ h hb
 exact⟨(D9 h' hb).1 (by omega),(D9 h' hb).2⟩
theorem M9{l:List B3}{e k:Int}(h:Asc e k l){b:B3}(hb:b∈l):e<=b.f/\b.f<b.t:=by
 induction l generalizing e k with
 |nil=>simp at hb
 |cons x l ih=>
  obtain⟨x1,x2,x3,x4,x5,x6,x7,x8⟩:=h;rcases List.mem_cons.1 hb with rfl|hb
  ·exact⟨x6,x2⟩
  ·have:=ih x8 hb;omega
def IsMap(g:Int->Int)(o:List B3):Prop:=Canon o/\∀n,0<=n->n<100000000->hold o n=g n
theorem IsMap.uniq{g:Int->Int}{a b:List B3}(ha:IsMap g a)(hb:IsMap g b):a=b:=Canon.uniq ha.1 hb.1 fun n h1 h2=>by rw[ha.2 n h1 h2,hb.2 n h1 h2]
theorem IsMap.congr{g g':Int->Int}{a:List B3}(ha:IsMap g a)(h:∀n,0<=n->n<100000000->g n=g' n):IsMap g' a:=⟨ha.1,fun n h1 h2=>by rw[ha.2 n h1 h2,h n h1 h2]⟩
open Classical in
noncomputable def aZ (g:Int->Int):List B3:=if h:∃o,IsMap g o then h.choose else[]
theorem gw{g:Int->Int}{o:List B3}(h:IsMap g o):aZ g=o:=by
 unfold aZ;rw[dif_pos ⟨o,h⟩];exact(Exists.choose_spec (p:=fun o=>IsMap g o) ⟨o,h⟩).uniq h
theorem Upto.isMap{g:Int->Int}{o:List B3}(h:Upto g 100000000 o):IsMap g o:=⟨h.1,fun n h1 h2=>by rw[h.2.2 n,if_pos ⟨h1,h2⟩]⟩
theorem Canon.isMap{l:List B3}(h:Canon l):IsMap (hold l) l:=⟨h,fun _ _ _=>rfl⟩
theorem DA{l:List B3}(h:Canon l):aZ (hold l)=l:=gw h.isMap
theorem jw{l:List B3}{e k n:Int}(h:Asc e k l)(hn:n<0\/100000000<=n):hold l n= -1:=by
 have h1:=cz h n;by_cases h2:0<=hold l n
 ·have:=Fl h h2;omega
 ·omega
noncomputable def dx (g:Int->Int):List B3×Int:=if(aZ g).length<=40 then(aZ g,0)else([],130)
def dX:List Int->Int->List Int
 |[],n=>[n]
 |x::l,n=>if x<n then x::dX l n else if x=n then x::l else n::x::l
theorem putI_mem{l:List Int}{n y:Int}:y∈dX l n↔y=n\/y∈l:=by
 induction l with
 |nil=>simp[dX]
 | cons x l ih=>
  unfold dX;split
  ·simp only[List.mem_cons,ih];grind
  ·split
   ·rename_i h;subst h;simp only[List.mem_cons];grind
   ·simp only[List.mem_cons]
theorem BJ{l:List Int}{n:Int}(h:l.Pairwise (·<·)):(dX l n).Pairwise (·<·):=by
 induction l with
 |nil=>simp[dX]
 | cons x l ih=>
  rw[List.pairwise_cons]at h;unfold dX;split
  ·rename_i hx
   rw[List.pairwise_cons];refine⟨fun y hy=>?_,ih h.2⟩
   rcases putI_mem.1 hy with rfl|hy
   ·exact hx
   ·exact h.1 y hy
  ·split
   ·rw[List.pairwise_cons];exact h
   ·rename_i h1 h2
    rw[List.pairwise_cons,List.pairwise_cons];refine⟨fun y hy=>?_,h⟩
    rcases List.mem_cons.1 hy with rfl|hy
    ·omega
    ·have:=h.1 y hy;omega
theorem uU(l:List Int)(n:Int):(dX l n).length<=l.length+1:=by
 induction l with
 |nil=>simp[dX]
 |cons x l ih=>
  unfold dX;split
  ·simp;omega
  ·split<;>simp
def ef(o:List Int)(l:List B3):List Int:=l.foldl (fun o b=>dX (dX o b.f) b.t) o
theorem Jn(l:List B3):∀(o:List Int) (y:Int),y∈ef o l↔y∈o\/∃b∈l,y=b.f\/y=b.t:=by
 induction l with
 |nil=>intro o y;simp[ef]
 |cons b l ih=>
  intro o y;show y∈ef (dX (dX o b.f) b.t) l↔_
  rw[ih,putI_mem,putI_mem];simp only[List.mem_cons,exists_eq_or_imp];grind
theorem BS(l:List B3):∀(o:List Int),o.Pairwise (·<·)->(ef o l).Pairwise (·<·):=by
 induction l with
 |nil=>intro o h;exact h
 |cons b l ih=>intro o h;exact ih _ (BJ (BJ h))
theorem oV(l:List B3):∀(o:List Int),(ef o l).length<=o.length+2*l.length:=by
 induction l with
 |nil=>intro o;simp[ef]
 |cons b l ih=>
  intro o;have h1:=ih (dX (dX o b.f) b.t);have h2:=uU (dX o b.f) b.t;have h3:=uU o b.f;show(ef (dX (dX o b.f) b.t) l).length<=_
  simp only[List.length_cons];omega
def fo(a b:List B3):List Int:=ef (ef [0,100000000] a) b
theorem mL{l:List B3}{e k:Int}(h:Asc e k l){b:B3}(hb:b∈l):0<=b.f/\b.f<b.t/\b.t<=100000000/\0<=b.c/\b.c<=7:=by
 induction l generalizing e k with
 |nil=>simp at hb
 |cons x l ih=>
  obtain⟨x1,x2,x3,x4,x5,x6,x7,x8⟩:=h;rcases List.mem_cons.1 hb with rfl|hb
  ·exact⟨x1,x2,x3,x4,x5⟩
  ·exact ih x8 hb
structure Edges (a b:List B3) (E:List Int):Prop where
 sorted:E.Pairwise (·<·)
 first:E[0]?=some 0
 last:E[E.length-1]?=some 100000000
 two:2<=E.length
 mem:∀c,c∈a\/c∈b->c.f∈E/\c.t∈E
theorem gf{E:List Int}(h:E.Pairwise (·<·)){i j:Nat}{x y:Int}(hi:E[i]?=some x)(hj:E[j]?=some y)(hij:i<j):x<y:=by
 obtain⟨h1,rfl⟩:=List.getElem?_eq_some_iff.1 hi;obtain⟨h2,rfl⟩:=List.getElem?_eq_some_iff.1 hj;exact List.pairwise_iff_getElem.1 h i j h1 h2 hij
theorem Oz{a b:List B3}(ha:Canon a)(hb:Canon b):Edges a b (fo a b):=by
 have hs:(fo a b).Pairwise (·<·):=BS _ _ (BS _ _ (by decide))
 have hm:∀y,y∈fo a b↔(y=0\/y=100000000)\/(∃c∈a,y=c.f\/y=c.t)\/∃c∈b,y=c.f\/y=c.t:=fun y=>by
  unfold fo;rw[Jn,Jn];simp only[List.mem_cons,List.not_mem_nil,or_false,or_assoc]
 have hbd:∀y∈fo a b,0<=y/\y<=100000000:=fun y hy=>by
  rcases(hm y).1 hy with(rfl|rfl)|⟨c,hc,h⟩|⟨c,hc,h⟩
  ·decide
  ·decide
  ·have:=mL ha hc;omega
  ·have:=mL hb hc;omega
 have h0:(0:Int)∈fo a b:=(hm 0).2 (.inl (.inl rfl))
 have h1:(100000000:Int)∈fo a b:=(hm _).2 (.inl (.inr rfl))
 obtain⟨i,hi⟩:=List.getElem?_of_mem h0;obtain⟨j,hj⟩:=List.getElem?_of_mem h1;have hil:=(List.getElem?_eq_some_iff.1 hi).1;have hjl:=(List.getElem?_eq_some_iff.1 hj).1;have hi0:i=0:=by
  rcases Nat.eq_zero_or_pos i with h|h
  ·exact h
  ·have hz:=List.getElem?_eq_getElem (l:=fo a b) (i:=0) (by omega)
   have h2:=gf hs hz hi h;have h3:=(hbd _ (List.mem_of_getElem? hz)).1;omega
 have hjl2:j=(fo a b).length-1:=by
  rcases Nat.lt_or_ge j ((fo a b).length-1)with h|h
  ·have hz:=List.getElem?_eq_getElem (l:=fo a b) (i:=(fo a b).length-1) (by omega)
   have h2:=gf hs hj hz h;have h3:=(hbd _ (List.mem_of_getElem? hz)).2;omega
  ·omega
 have hij:i≠j:=fun h=>by subst h;rw[hi]at hj;cases hj
 subst hi0;subst hjl2;exact⟨hs,hi,hj,by omega,fun c hc=>⟨(hm _).2 (.inr (by rcases hc with hc|hc;exact .inl ⟨c,hc,.inl rfl⟩;exact .inr ⟨c,hc,.inl rfl⟩)),(hm _).2 (.inr (by rcases hc with hc|hc;exact .inl ⟨c,hc,.inr rfl⟩;exact .inr ⟨c,hc,.inr rfl⟩))⟩⟩
theorem KN{l:List B3}{E:List Int}(hl:Canon l)(hs:E.Pairwise (·<·))(hm:∀c∈l,c.f∈E/\c.t∈E){i:Nat}{p q:Int}(hp:E[i]?=some p)(hq:E[i+1]?=some q):∀n,p<=n->n<q->hold l n=hold l p:=by
 have noMem:∀n,p<n->n<q->n∉E:=fun n h1 h2 hn=>by
  obtain⟨j,hj⟩:=List.getElem?_of_mem hn;rcases Nat.lt_or_ge i j with h3|h3
  ·rcases Nat.lt_or_ge (i+1) j with h4|h4
   ·have:=gf hs hq hj h4;omega
   ·have:j=i+1:=by omega
    subst this;rw[hq]at hj;cases hj;omega
  ·rcases Nat.lt_or_ge j i with h4|h4
   ·have:=gf hs hj hp h4;omega
   ·have:j=i:=by omega
    subst this;rw[hp]at hj;cases hj;omega
 have key:∀(k:Nat),p+k<q->hold l (p+k)=hold l p:=by
  intro k;induction k with
  |zero=>intro _;simp
  | succ k ih=>
   intro hk;have h1:=ih (by omega)
   by_cases h2:hold l (p+(k+1:Nat)-1)=hold l (p+(k+1:Nat))
   ·rw[<-h2,<-h1];congr 1;omega
   ·obtain⟨c,hc,h3⟩:=LK hl h2
    have:=hm c hc
    rcases h3 with h3|h3
    ·exact absurd (h3▸this.1) (noMem _ (by omega) hk)
    ·exact absurd (h3▸this.2) (noMem _ (by omega) hk)
 intro n h1 h2;have:=key (n-p).toNat (by omega)
 rwa [show p+((n-p).toNat:Int)=n by omega]at this
structure PInv (g:Int->Int->Int) (A B:Int->Int) (from_:Int) (o a b:List B3):Prop where
 lo:0<=from_
 hi:from_<=100000000
 up:Upto (fun m=>g (A m) (B m)) from_ o
 sa:Some a
 sb:Some b
 ha:∀m,from_<=m->hold a m=A m
 hb:∀m,from_<=m->hold b m=B m
 len:o.length<=from_.toNat
theorem CO(o:List B3)(f t k:Int):(step o f t k).length<=o.length+1:=by
 unfold step;split
 ·omega
 ·split
  ·rename_i y hy
   split
   ·have:o≠[]:=fun h=>by subst h;simp at hy
    have:=List.length_pos_iff.2 this
    simp
    try omega
   ·simp
  ·simp
theorem PInv.begin(g:Int->Int->Int){a b:List B3}(ha:Canon a)(hb:Canon b):PInv g (hold a) (hold b) 0 [] a b:=⟨by decide,by decide,Upto.nil _,⟨_,_,ha⟩,⟨_,_,hb⟩,fun _ _=>rfl,fun _ _=>rfl,by simp⟩
theorem PInv.next{g:Int->Int->Int}{A B:Int->Int}{p:Int}{o a b:List B3}(hg:∀x y,-1<=x->x<=7-> -1<=y->y<=7-> -1<=g x y/\g x y<=7)(h:PInv g A B p o a b)(hp:p<100000000):
  p<min (at_ a p).2.2 (at_ b p).2.2/\PInv g A B (min (at_ a p).2.2 (at_ b p).2.2) (step o p (min (at_ a p).2.2 (at_ b p).2.2) (g (at_ a p).2.1 (at_ b p).2.1)) (at_ a p).1 (at_ b p).1:=by
 obtain⟨a1,a2,a3,a4,a5,a6⟩:=AN h.sa p;obtain⟨b1,b2,b3,b4,b5,b6⟩:=AN h.sb p;have ga:=AR a hp;have gb:=AR b hp;have h0:=h.lo;obtain⟨t,ht⟩:∃t,t=min (at_ a p).2.2 (at_ b p).2.2:=⟨_,rfl⟩
 rw[<-ht];have hl:=CO o p t (g (at_ a p).2.1 (at_ b p).2.1);have hlen:=h.len;refine⟨by omega,by omega,by omega,?_,a1,b1,fun m hm=>(a4 m (by omega)).trans (h.ha m (by omega)),fun m hm=>(b4 m (by omega)).trans (h.hb m (by omega)),by omega⟩
 refine Upto.step h.up h0 (by omega) (by omega) (hg _ _ a5 a6 b5 b6) fun m h1 h2=>?_
 rw[<-h.ha m h1,<-h.hb m h1,a3 m h1 (by omega),b3 m h1 (by omega)]
theorem PInv.done{g:Int->Int->Int}{A B:Int->Int}{p:Int}{o a b:List B3}(h:PInv g A B p o a b)(hp:¬p<=99999999):IsMap (fun m=>g (A m) (B m)) o/\aZ (fun m=>g (A m) (B m))=o/\o.length<=100000000:=by
 have h1:=h.hi;have:p=100000000:=by omega
 subst this;exact⟨h.up.isMap,gw h.up.isMap,by have:=h.len;omega⟩
theorem uK{l:List B3}{e k:Int}(h:Asc e k l){b:B3}(hb:b∈l){n:Int}(hn:b.f<=n/\n<b.t):hold l n=b.c:=by
 induction l generalizing e k with
 |nil=>simp at hb
 | cons x l ih=>
  obtain⟨x1,x2,x3,x4,x5,x6,x7,x8⟩:=h;rcases List.mem_cons.1 hb with rfl|hb
  ·exact cq l hn
  ·have:=M9 x8 hb
   rw[bg l (by omega)]
   exact ih x8 hb
theorem KV{l:List B3}{n:Int}(h:hold l n≠ -1):∃b∈l,b.f<=n/\n<b.t/\hold l n=b.c:=by
 induction l with
 |nil=>exact absurd rfl h
 | cons b l ih=>
  by_cases hb:b.f<=n/\n<b.t
  ·exact⟨b,by simp,hb.1,hb.2,cq l hb⟩
  ·rw[bg l hb]at h⊢
   obtain⟨c,h1,h2⟩:=ih h;exact⟨c,by simp[h1],h2⟩
theorem NW{l:List B3}(h:Canon l){b:B3}(hb:b∈l):hold l b.f≠ -1/\hold l (b.f-1)≠hold l b.f:=by
 have h1:=mL h hb;have h2:=uK h hb (n:=b.f) (by omega)
 exact⟨by omega,(h.change hb).1⟩
theorem zn{l:List B3}(h:Canon l){n:Int}(h1:hold l n≠ -1)(h2:hold l (n-1)≠hold l n):n∈l.map (·.f):=by
 obtain⟨b,hb,h3,h4,h5⟩:=KV h1;by_cases h6:b.f=n
 ·exact List.mem_map.2 ⟨b,hb,h6⟩
 ·exact absurd ((uK h hb (n:=n-1) (by omega)).trans h5.symm) h2
theorem Lp{s K:List Int}(hs:s.Pairwise (·<·))(h:∀x∈s,x∈K):s.length<=K.length:=by
 induction s generalizing K with
 |nil=>simp
 | cons x s ih=>
  rw[List.pairwise_cons]at hs;have hlt:(K.filter (fun y=>decide (x<y))).length<K.length:=List.length_filter_lt_length_iff_exists.2 ⟨x,h x (by simp),by simp⟩
  have:=ih (K:=K.filter (fun y=>decide (x<y))) hs.2 fun y hy=>by
   rw[List.mem_filter];exact⟨h y (by simp[hy]),by simpa using hs.1 y hy⟩
  simp only[List.length_cons];omega
theorem GO{l:List B3}{e k:Int}(h:Asc e k l):(l.map (·.f)).Pairwise (·<·):=by
 induction l generalizing e k with
 |nil=>simp
 |cons b l ih=>
  obtain⟨h1,h2,h3,h4,h5,h6,h7,h8⟩:=h;rw[List.map_cons,List.pairwise_cons];refine⟨fun y hy=>?_,ih h8⟩
  obtain⟨c,hc,rfl⟩:=List.mem_map.1 hy;have:=M9 h8 hc
  show b.f<c.f
  omega
theorem Ip{o:List B3}{K:List Int}(h:Canon o)(hK:∀n,hold o n≠ -1->hold o (n-1)≠hold o n->n∈K):o.length<=K.length:=by
 have:=Lp (GO h) (K:=K) fun x hx=>by
  obtain⟨b,hb,rfl⟩:=List.mem_map.1 hx;have:=NW h hb
  exact hK _ this.1 this.2
 simpa using this
theorem IsMap.at{g:Int->Int}{o:List B3}(h:IsMap g o)(n:Int):hold o n=if 0<=n/\n<100000000 then g n else -1:=by
 split
 ·rename_i h1;exact h.2 n h1.1 h1.2
 ·exact jw h.1 (by omega)
theorem vh{a b:List B3}(ha:Canon a)(hb:Canon b)(g:Int->Int->Int)(hg:∀x y,-1<=x->x<=7-> -1<=y->y<=7-> -1<=g x y/\g x y<=7):IsMap (fun m=>g (hold a m) (hold b m)) (aZ fun m=>g (hold a m) (hold b m)):=by
 have:=(Kl g hg (hold a) (hold b) (n:=0) (a:=a) (b:=b) ⟨_,_,ha⟩ ⟨_,_,hb⟩ (by decide) (by decide) (fun _ _=>rfl) (fun _ _=>rfl) (out:=[]) (Upto.nil _)).isMap
 rw[gw this];exact this
theorem eG{l o:List B3}(hl:Canon l)(φ:Int->Int)(h0:φ (-1)= -1)(h:IsMap (fun n=>φ (hold l n)) o):o.length<=l.length:=by
 have:=Ip (K:=l.map (·.f)) h.1 fun n h1 h2=>by
  rw[h.at]at h1;rw[h.at,h.at]at h2;refine zn hl (fun hh=>?_) (fun hh=>?_)
  ·simp only[hh,h0]at h1;split at h1<;>exact h1 rfl
  ·have:=jw hl (n:=n-1)
   split at h1
   ·rename_i hn
    rw[if_pos hn]at h2;by_cases hn1:0<=n-1/\n-1<100000000
    ·rw[if_pos hn1,hh]at h2;exact h2 rfl
    ·rw[this (by omega)]at hh
     rw[<-hh,h0]at h1;exact h1 rfl
   ·exact h1 rfl
 simpa using this
theorem pg{l o:List B3}(hl:Canon l)(f t:Int)(h:IsMap (fun n=>if f<=n/\n<t then hold l n else -1) o):o.length<=l.length:=by
 have := Ip (K:=(l.map (·.f)).map (fun s=>max s f)) h.1 fun n h1 h2=>by
  rw[h.at]at h1;rw[h.at,h.at]at h2;split at h1
  ·rename_i hn
   rw[if_pos hn]at h2;split at h1
   ·rename_i hr
    rw[if_pos hr]at h2;obtain⟨b,hb,b1,b2,b3⟩:=KV h1;refine List.mem_map.2 ⟨b.f,List.mem_map.2 ⟨b,hb,rfl⟩,?_⟩
    by_cases hnf:n=f
    ·omega
    ·by_cases hbn:b.f=n
     ·omega
     ·have h5:=mL hl hb
      have:=uK hl hb (n:=n-1) (by omega)
      rw[if_pos (by omega),if_pos (by omega),this,b3]at h2
      exact absurd rfl h2
   ·exact absurd rfl h1
  ·exact absurd rfl h1
 simpa using this
theorem C5{l o:List B3}(hl:Canon l)(f t:Int)(g:Int->Int->Int)(hg:∀n m x,(f<=n/\n<t↔f<=m/\m<t)->g n x=g m x)(h0:∀n,¬(f<=n/\n<t)->g n (-1)= -1)(h3:∀n x,g n (-1)= -1\/g n x=g n (-1))
  (h:IsMap (fun n=>g n (hold l n)) o) (hf0:0<=f):o.length<=l.length+2:=by
 have := Ip (K:=l.map (·.f)++[f,t]) h.1 fun n h1 h2=>by
  rw[List.mem_append];by_cases hnf:n=f
  ·right;simp[hnf]
  ·by_cases hnt:n=t
   ·right;simp[hnt]
   ·left
    rw[h.at]at h1;rw[h.at,h.at]at h2;have hnm:(f<=n-1/\n-1<t)↔(f<=n/\n<t):=by omega
    split at h1
    ·rename_i hn
     rw[if_pos hn]at h2;by_cases hn1:0<=n-1/\n-1<100000000
     ·rw [if_pos hn1,hg (n-1) n _ hnm]at h2
      by_cases hh:hold l (n-1)=hold l n
      ·rw[hh]at h2;exact absurd rfl h2
      ·by_cases hz:hold l n= -1
       ·by_cases hr:f<=n/\n<t
        ·rcases h3 n (hold l (n-1))with h4|h4
         ·rw[hz,h4]at h1;exact absurd rfl h1
         ·rw[hz,h4]at h2;exact absurd rfl h2
        ·rw[hz,h0 n hr]at h1;exact absurd rfl h1
       ·exact zn hl hz hh
     ·have:n=0:=by omega
      subst this;have hr:¬(f<=0/\0<t):=by omega
      by_cases hz:hold l 0= -1
      ·rw[hz,h0 0 hr]at h1;exact absurd rfl h1
      ·refine zn hl hz ?_
       rw[jw hl (by omega)];exact fun h=>hz h.symm
    ·exact absurd rfl h1
 simpa using this
def ind(H:Int->Int)(c n:Int):Int:=if H n=c then 1 else 0
end Go.Dial.Blk
namespace Go.Sx
open Go
theorem DK{σ α:Type}(step:(σ->Option α)->σ->Option α)(n:Nat)(s:σ):aa step (n+1) s=step (aa step n) s:=rfl
theorem ar{σ α:Type}{step:(σ->Option α)->σ->Option α}(Inv:σ->Prop)(mu:σ->Nat)(r:α)
  (h:∀s go,Inv s->(∀s',Inv s'->mu s'<mu s->go s'=some r)->step go s=some r):∀(n:Nat) (s:σ),Inv s->mu s<n->aa step n s=some r:=by
 intro n;induction n with
 |zero=>intro s _ hm;omega
 |succ n ih=>
  intro s hi hm;exact h s _ hi fun s' hi' hm'=>ih s' hi' (by omega)
theorem ir{σ α:Type}{step:(σ->Option α)->σ->Option α}(Inv:σ->Prop)(mu:σ->Nat)(Post:α->Prop)
  (h:∀s go,Inv s->(∀s',Inv s'->mu s'<mu s->∃r,go s'=some r/\Post r)->∃r,step go s=some r/\Post r):∀(n:Nat) (s:σ),Inv s->mu s<n->∃r,aa step n s=some r/\Post r:=by
 intro n;induction n with
 |zero=>intro s _ hm;omega
 |succ n ih=>
  intro s hi hm;exact h s _ hi fun s' hi' hm'=>ih s' hi' (by omega)
theorem bv{α:Type}{f:α->List AV}{l:List α}{i:Int}{k:Nat}{x:α}(h:l[i.toNat]?=some x):cA (l.map f) i k=(f x).getD k (.int 0):=by
 simp[cA,List.getD,h]
theorem bV{α:Type}{l:List α}{i:Nat}{x:α}(h:l[i]?=some x):l.take (i+1)=l.take i++[x]:=by
 rw[List.take_add_one,h];rfl
theorem aD{α:Type}{l:List α}{i:Nat}(h:i<l.length):∃x,l[i]?=some x:=⟨_,List.getElem?_eq_getElem h⟩
end Go.Sx
namespace Go.Proofs.YtgckmifmjiklmaaGreat
open Go Go.Sx
def ae(n:Int):Prop:= -9223372036854775808<=n/\n<=9223372036854775807
def pk(c k:Int):Int:=if c<0 then Int.tmod (0-(c+1)) k else Int.tmod c k
theorem A3{a k:Int}(ha:0<=a)(hk:0<k):0<=Int.tmod a k/\Int.tmod a k<k:=⟨Int.tmod_nonneg _ ha,Int.tmod_lt_of_pos _ hk⟩
theorem aY(c:Int){k:Int}(hk:0<k):0<=pk c k/\pk c k<k:=by
 unfold pk;split
 ·exact A3 (by omega) hk
 ·exact A3 (by omega) hk
abbrev bG(x:Int×Int×Int):List AV:=[.int x.1,.int x.2.1,.int x.2.2]
open Go.Dial.Blk
abbrev bR(b:B3):List AV:=[.int b.f,.int b.t,.int b.c]
abbrev bL(l:List B3):Lv:=l.map bR
theorem ij{l:List B3}{i:Nat}{b:B3}(h:l[i]?=some b):cI (bL l) (i:Int) 0=b.f/\cI (bL l) (i:Int) 1=b.t/\cI (bL l) (i:Int) 2=b.c:=by
 have hc:∀k,cA (bL l) (i:Int) k=(bR b).getD k (.int 0):=fun k=>bv (by simpa using h)
 refine⟨?_,?_,?_⟩<;>(simp only[cI,hc];rfl)
theorem kS{α:Type}{l:List α}{i:Nat}{x:α}(h:l[i]?=some x):l.drop i=x::l.drop (i+1):=by
 obtain⟨hl,rfl⟩:=List.getElem?_eq_some_iff.1 h;exact List.drop_eq_getElem_cons hl
def gr:Int->Int->List B3->Bool
 |_,_,[]=>true
 |e,k,b::l=>decide (0<=b.f/\b.f<b.t/\b.t<=100000000/\0<=b.c/\b.c<=7/\e<=b.f/\(b.f=e->b.c≠k))&&gr b.t b.c l
theorem uv:∀(l:List B3) (e k:Int),gr e k l=true↔Dial.Blk.Asc e k l
 |[],_,_=>by simp[gr,Dial.Blk.Asc]
 |b::l,e,k=>by
  rw[gr,Bool.and_eq_true,uv l,decide_eq_true_eq,Dial.Blk.Asc];simp only[and_assoc]
def vldB(l:List B3):Bool:=decide (l.length<=40)&&gr 0 (-1) l
theorem db(l:List B3):vldB l=true↔l.length<=40/\Canon l:=by rw[vldB,Bool.and_eq_true,decide_eq_true_eq,uv];rfl
theorem eP(n:Nat){c k:Int}(hc:ae c)(hk:0<k):dQ n c k=some (pk c k):=by
 unfold dQ Ah pk;unfold ae at hc;grind
def il(a b:Int):Int×Int:=
 if pk a 8=7 then(1666666*pk a 60,1666666*(pk a 60+1+pk b (60-pk a 60))+40)else(pk a 60,pk a 60+1+pk b (60-pk a 60))
theorem ND(a b:Int):0<=(il a b).1/\(il a b).1<(il a b).2/\(il a b).2<=100000000:=by
 have h1:=aY a (k:=60) (by decide)
 have h2:=aY b (k:=60-pk a 60) (by omega)
 unfold il;split<;>simp only<;>omega
theorem m9(n:Nat){a b:Int}(ha:ae a)(hb:ae b):eH n a b=some (il a b):=by
 have h1:=aY a (k:=60) (by decide)
 have h2:=aY b (k:=60-pk a 60) (by omega)
 unfold eH xe il;rw[eP n ha (k:=60) (by decide),Option.bind_some,eP n hb (k:=60-pk a 60) (by omega),Option.bind_some,eP n ha (k:=8) (by decide),Option.bind_some]
 generalize pk a 60=x at *
 generalize pk b (60-x)=y at *
 generalize pk a 8=z at *
 grind
theorem tR(n:Nat)(l:List B3)(k:Int)(hn:l.length<n)(hl:l.length<=1000):iB n (bL l) k=some (hold l k):=by
 unfold iB tY;refine ar (fun s=>∃i:Nat,s=(i:Int)/\i<=l.length/\hold l k=hold (l.drop i) k) (fun s=>l.length-s.toNat) _ ?_ n _ ⟨0,rfl,by omega,by simp⟩ (by simp;omega)
 rintro _ go ⟨i,rfl,hi,hE⟩ ih;unfold sW;by_cases hlt:i<l.length
 ·obtain⟨b,hb⟩:=aD hlt
  obtain⟨g0,g1,g2⟩:=ij hb;have c1:(i:Int)<(l.length:Int):=by omega
  have c2:(0:Int)<=(i:Int):=by omega
  have c4:(-9223372036854775808:Int)<=(i:Int)+1:=by omega
  have c5:(i:Int)+1<=(9223372036854775807:Int):=by omega
  simp only[g0,g1,g2,List.length_map,c1,c2,c4,c5,decide_true,cond_true,Bool.and_self];rw[kS hb,hold]at hE;have hgo:¬(b.f<=k/\k<b.t)->go ((i:Int)+1)=some (hold l k):=fun hv=>ih _ ⟨i+1,by simp,by omega,by rw[hE,if_neg hv]⟩ (by omega)
  by_cases hv:b.f<=k/\k<b.t
  ·rw[if_pos hv]at hE
   rw[hE];grind
  ·rw[hgo hv];grind
 ·have h0:i=l.length:=by omega
  have c1:¬(i:Int)<(l.length:Int):=by omega
  rw[h0,List.drop_length]at hE;simp only[List.length_map,c1,decide_false,cond_false];rw[hE];rfl
theorem cu(n:Nat)(l:List B3)(hn:41<n):ce n (bL l)=some (vldB l):=by
 unfold ce xb;by_cases h3:l.length<=40
 ·have c3:¬(40:Int)<(l.length:Int):=by omega
  have e3:vldB l=gr 0 (-1) l:=by simp[vldB,h3]
  simp only[List.length_map,c3,decide_false,cond_false,e3];refine ar (fun s=>∃(i:Nat) (e k:Int),s=(i:Int)/\i<=l.length/\gr 0 (-1) l=gr e k (l.drop i)/\(i=0->e=0/\k= -1)/\∀j,i=j+1->∃p,l[j]?=some p/\e=p.t/\k=p.c) (fun s=>l.length-s.toNat) _ ?_ n _ ⟨0,0,-1,rfl,by omega,by simp,fun _=>⟨rfl,rfl⟩,fun j hj=>by omega⟩ (by simp;omega)
  rintro _ go ⟨i,e,k,rfl,hi,hE,h0,hp⟩ ih;unfold vY;by_cases hlt:i<l.length
  ·obtain⟨b,hb⟩:=aD hlt
   obtain⟨g0,g1,g2⟩:=ij hb;have c1:(i:Int)<(l.length:Int):=by omega
   have c2:(0:Int)<=(i:Int):=by omega
   have c4:(-9223372036854775808:Int)<=(i:Int)+1:=by omega
   have c5:(i:Int)+1<=(9223372036854775807:Int):=by omega
   simp only[g0,g1,g2,List.length_map,c1,c2,c4,c5,decide_true,cond_true,Bool.and_self];rw[kS hb,gr]at hE;have hgo:(0<=b.f/\b.f<b.t/\b.t<=100000000/\0<=b.c/\b.c<=7/\e<=b.f/\(b.f=e->b.c≠k))->go ((i:Int)+1)=some (gr 0 (-1) l):=fun hv=>ih _ ⟨i+1,b.t,b.c,by simp,by omega,by rw[hE,decide_eq_true hv,Bool.true_and],fun h=>by omega,fun j hj=>⟨b,by rw[show j=i by omega];exact hb,rfl,rfl⟩⟩ (by omega)
   by_cases hv:(0<=b.f/\b.f<b.t/\b.t<=100000000/\0<=b.c/\b.c<=7/\e<=b.f/\(b.f=e->b.c≠k))
   ·rw[hgo hv]
    obtain⟨v1,v2,v3,v4,v5,v6,v7⟩:=hv;cases i with
    |zero=>simp[v1,v2,v3,v4,v5]
    |succ j=>
     obtain⟨p,hp1,rfl,rfl⟩:=hp j rfl;obtain⟨q0,q1,q2⟩:=ij hp1;have e1:((j+1:Nat):Int)-1=(j:Int):=by omega
     simp only[e1,q1,q2];have d1:(0:Int)<((j+1:Nat):Int):=by omega
     have d2:(0:Int)<=(j:Int):=by omega
     have d3:(j:Int)<(l.length:Int):=by omega
     have d4:(-9223372036854775808:Int)<=(j:Int):=by omega
     have d5:(j:Int)<=(9223372036854775807:Int):=by omega
     grind
   ·have hf:gr 0 (-1) l=false:=by rw[hE,decide_eq_false hv,Bool.false_and]
    rw[hf];cases i with
    |zero=>
     obtain⟨rfl,rfl⟩:=h0 rfl;have:¬(0<=b.f/\b.f<b.t/\b.t<=100000000/\0<=b.c/\b.c<=7):=fun hh=>hv ⟨hh.1,hh.2.1,hh.2.2.1,hh.2.2.2.1,hh.2.2.2.2,hh.1,fun _=>by omega⟩
     have d1:¬(0:Int)<((0:Nat):Int):=by decide
     simp only[d1,decide_false,cond_false];grind
    |succ j=>
     obtain⟨p,hp1,rfl,rfl⟩:=hp j rfl;obtain⟨q0,q1,q2⟩:=ij hp1;have e1:((j+1:Nat):Int)-1=(j:Int):=by omega
     simp only[e1,q1,q2];have d1:(0:Int)<((j+1:Nat):Int):=by omega
     have d2:(0:Int)<=(j:Int):=by omega
     have d3:(j:Int)<(l.length:Int):=by omega
     have d4:(-9223372036854775808:Int)<=(j:Int):=by omega
     have d5:(j:Int)<=(9223372036854775807:Int):=by omega
     grind
  ·have h0:i=l.length:=by omega
   have c1:¬(i:Int)<(l.length:Int):=by omega
   simp only[List.length_map,c1,decide_false,cond_false];rw[hE,h0,List.drop_length];rfl
 ·have c3:(40:Int)<(l.length:Int):=by omega
  have e3:vldB l=false:=by simp[vldB,h3]
  simp only[List.length_map,c3,decide_true,cond_true,e3]
abbrev iR(x:Int):List AV:=[.int x]
abbrev iL(l:List Int):Lv:=l.map iR
theorem qY{l:List Int}{i:Nat}{x:Int}(h:l[i]?=some x):cI (iL l) (i:Int) 0=x:=by
 have hc:∀k,cA (iL l) (i:Int) k=(iR x).getD k (.int 0):=fun k=>bv (by simpa using h)
 simp only[cI,hc];rfl
theorem lP(n:Nat)(l:List Int)(x:Int)(hn:l.length<n)(hl:l.length<=1000):iI n (iL l) x=some (iL (dX l x)):=by
 unfold iI By;refine ar (fun s=>∃i:Nat,s=(i:Int)/\i<=l.length/\dX l x=l.take i++dX (l.drop i) x) (fun s=>l.length-s.toNat) _ ?_ n _ ⟨0,rfl,by omega,by simp⟩ (by simp;omega)
 rintro _ go ⟨i,rfl,hi,hE⟩ ih;unfold BA;have ht:(i:Int).toNat=i:=by omega
 have ht2:((iL l).length:Int).toNat=l.length:=by simp
 have e1:List.take l.length (iL l)=iL l:=by rw[List.take_of_length_le (by simp)]
 have e2:List.take i (iL l)++(([]:Lv)++[[AV.int x]]++List.drop i (iL l))=iL (l.take i++x::l.drop i):=by simp[iL,List.map_take,List.map_drop]
 by_cases hlt:i<l.length
 ·obtain⟨b,hb⟩:=aD hlt
  have g0:=qY hb;have c1:(i:Int)<((iL l).length:Int):=by simp;omega
  have c2:(0:Int)<=(i:Int):=by omega
  have c3:(i:Int)<=((iL l).length:Int):=by omega
  have c4:(-9223372036854775808:Int)<=(i:Int)+1:=by omega
  have c5:(i:Int)+1<=(9223372036854775807:Int):=by omega
  have c6:((iL l).length:Int)<=((iL l).length:Int):=Int.le_refl _
  rw[kS hb,dX]at hE;rw[decide_eq_true c1,cond_true,decide_eq_true c2,cond_true,g0];by_cases h1:b<x
  ·rw[decide_eq_true h1,cond_true,decide_eq_true c4,decide_eq_true c5,Bool.and_self,cond_true]
   exact ih _ ⟨i+1,by simp,by omega,by rw[hE,if_pos h1,bV hb];simp⟩ (by first|omega|(simp only;omega))
  ·rw[if_neg h1]at hE
   rw[decide_eq_false h1,cond_false];by_cases h2:b=x
   ·rw[decide_eq_true h2,cond_true,hE,if_pos h2]
    congr 2
    rw[<-kS hb,List.take_append_drop]
   ·rw[if_neg h2]at hE
    rw[decide_eq_false h2,cond_false,decide_eq_true c3,cond_true,decide_eq_true c6,cond_true,ht,ht2,e1,e2,<-kS hb]at *
    have k1:(((([]:Lv)++[[AV.int x]]++List.drop i (iL l)).length:Int)*8)<=140737488355328:=by simp;omega
    have k2:((iL (l.take i++x::l.drop i)).length:Int)*8<=140737488355328:=by simp;omega
    rw[decide_eq_true k1,cond_true,decide_eq_true k2,cond_true,hE]
 ·have h0:i=l.length:=by omega
  have c1:¬(i:Int)<((iL l).length:Int):=by simp;omega
  have c2:(0:Int)<=(i:Int):=by omega
  have c3:(i:Int)<=((iL l).length:Int):=by simp;omega
  have c6:((iL l).length:Int)<=((iL l).length:Int):=Int.le_refl _
  have k1:(((([]:Lv)++[[AV.int x]]++List.drop i (iL l)).length:Int)*8)<=140737488355328:=by simp;omega
  have k2:((iL (l.take i++x::l.drop i)).length:Int)*8<=140737488355328:=by simp;omega
  have hd:l.drop i=[]:=by rw[h0];exact List.drop_length
  rw[hd,dX]at hE;rw[decide_eq_false c1,cond_false,decide_eq_true c2,cond_true,decide_eq_true c3,cond_true,decide_eq_true c6,cond_true,ht,ht2,e1,e2,decide_eq_true k1,cond_true,decide_eq_true k2,cond_true,hE,hd]
theorem Gg{l:List B3}{o:List Int}{i:Nat}{b:B3}(h:l[i]?=some b):ef o (l.take (i+1))=dX (dX (ef o (l.take i)) b.f) b.t:=by
 rw[bV h];simp[ef,List.foldl_append]
theorem GJ(n:Nat)(a b:List B3)(hn:210<n)(ha:a.length<=41)(hb:b.length<=41):l7 n (bL a) (bL b)=some (iL (fo a b)):=by
 have l1:∀i,(ef [0,100000000] (a.take i)).length<=84:=fun i=>by have:=oV (a.take i) [0,100000000];simp at this;omega
 have l2:∀i,(ef (ef [0,100000000] a) (b.take i)).length<=166:=fun i=>by
  have h1:=oV (b.take i) (ef [0,100000000] a);have h2:=oV a [0,100000000];simp at h1 h2;omega
 unfold l7 wK;refine ar (fun s=>∃i:Nat,s=(iL (ef [0,100000000] (a.take i)),(i:Int))/\i<=a.length) (fun s=>a.length-s.2.toNat) _ ?_ n _ ⟨0,rfl,by omega⟩ (by simp;omega)
 rintro _ go ⟨i,rfl,hi⟩ ih;simp only at ih⊢
 unfold xd;by_cases hlt:i<a.length
 ·obtain⟨c,hc⟩:=aD hlt
  obtain⟨g0,g1,g2⟩:=ij hc;have c1:(i:Int)<((bL a).length:Int):=by simp;omega
  have c2:(0:Int)<=(i:Int):=by omega
  have c4:(-9223372036854775808:Int)<=(i:Int)+1:=by omega
  have c5:(i:Int)+1<=(9223372036854775807:Int):=by omega
  have hl:=l1 i;have hl2:=uU (ef [0,100000000] (a.take i)) c.f;rw[decide_eq_true c1,cond_true,decide_eq_true c2,cond_true,g0,g1,lP n _ _ (by omega) (by omega),Option.bind_some,lP n _ _ (by omega) (by omega),Option.bind_some,decide_eq_true c4,decide_eq_true c5,Bool.and_self,cond_true,<-Gg hc]
  exact ih _ ⟨i+1,by simp,by omega⟩ (by first|omega|(simp only;omega))
 ·have c1:¬(i:Int)<((bL a).length:Int):=by simp;omega
  rw[decide_eq_false c1,cond_false,List.take_of_length_le (by omega)]
  refine ar (fun s=>∃i:Nat,s=(iL (ef (ef [0,100000000] a) (b.take i)),(i:Int))/\i<=b.length) (fun s=>b.length-s.2.toNat) _ ?_ n _ ⟨0,rfl,by omega⟩ (by simp;omega)
  rintro _ go ⟨i,rfl,hi⟩ ih;simp only at ih⊢
  unfold vA;by_cases hlt:i<b.length
  ·obtain⟨c,hc⟩:=aD hlt
   obtain⟨g0,g1,g2⟩:=ij hc;have c1:(i:Int)<((bL b).length:Int):=by simp;omega
   have c2:(0:Int)<=(i:Int):=by omega
   have c4:(-9223372036854775808:Int)<=(i:Int)+1:=by omega
   have c5:(i:Int)+1<=(9223372036854775807:Int):=by omega
   have hl:=l2 i;have hl2:=uU (ef (ef [0,100000000] a) (b.take i)) c.f;rw[decide_eq_true c1,cond_true,decide_eq_true c2,cond_true,g0,g1,lP n _ _ (by omega) (by omega),Option.bind_some,lP n _ _ (by omega) (by omega),Option.bind_some,decide_eq_true c4,decide_eq_true c5,Bool.and_self,cond_true,<-Gg hc]
   exact ih _ ⟨i+1,by simp,by omega⟩ (by first|omega|(simp only;omega))
  ·have c1:¬(i:Int)<((bL b).length:Int):=by simp;omega
   rw[decide_eq_false c1,cond_false,List.take_of_length_le (by omega)]
   rfl
def Pb{α:Type}(go0:Lv×Int->Option α)(v6:Lv)(v7 P Q y:Int):Option α:=
 (bif 0<(v6.length:Int) then bif(-9223372036854775808<=((v6.length:Int)-1))&&(((v6.length:Int)-1)<=9223372036854775807)then bif 0<=(aq ((v6.length:Int)-1) 0) then bif (aq ((v6.length:Int)-1) 0)<(v6.length:Int) then(bif (cI v6 (aq ((v6.length:Int)-1) 0) 1)=P then(bif (cI v6 (aq ((v6.length:Int)-1) 0) 2)=y then bif 0<=(v7+1) then bif 0<=((v6.length:Int)-1) then bif ((v6.length:Int)-1)<(v6.length:Int) then go0 ((List.modify v6 (((v6.length:Int)-1)).toNat (fun r=>r.set 1 (AV.int Q))),(v7+1))else none else none else none else bif 0<=(v7+1) then bif (((v6.length:Int)+1)*24)<=140737488355328 then go0 ((v6++[[(AV.int P),(AV.int Q),(AV.int y)]]),(v7+1))else none else none)else bif 0<=(v7+1) then bif (((v6.length:Int)+1)*24)<=140737488355328 then go0 ((v6++[[(AV.int P),(AV.int Q),(AV.int y)]]),(v7+1))else none else none)else none else none else none else bif 0<=(v7+1) then bif (((v6.length:Int)+1)*24)<=140737488355328 then go0 ((v6++[[(AV.int P),(AV.int Q),(AV.int y)]]),(v7+1))else none else none)
theorem kT(l m:List B3):bL (l++m)=bL l++bL m:=List.map_append
theorem Oh{α:Type}(l:List α)(x:α)(f:α->α):(l++[x]).modify l.length f=l++[f x]:=by
 induction l with
 |nil=>rfl
 |cons a l ih=>
  show(a::(l++[x])).modify (l.length+1) f=a::(l++[f x])
  rw[List.modify_succ_cons,ih]
theorem NP(l:List B3)(y:B3)(q:Int):List.modify (bL (l++[y])) l.length (fun r=>r.set 1 (AV.int q))=bL (l++[⟨y.f,q,y.c⟩]):=by
 rw[kT,kT];have:=Oh (bL l) (bR y) (fun r=>r.set 1 (AV.int q))
 rw[show(bL l).length=l.length by simp]at this
 exact this
theorem MQ{α:Type}(go0:Lv×Int->Option α)(o:List B3)(i:Nat)(p q y:Int)(hy:0<=y)(hl:o.length<=1000):Pb go0 (bL o) (i:Int) p q y=go0 (bL (Dial.Blk.step o p q y),(i:Int)+1):=by
 have c2:(0:Int)<=(i:Int)+1:=by omega
 have hy1:y≠ -1:=by omega
 unfold Pb;rcases List.eq_nil_or_concat o with rfl|⟨l,b,rfl⟩
 ·rw[uM _ _ _ hy1,decide_eq_false (by simp:¬(0:Int)<((bL []).length:Int)),cond_false,decide_eq_true c2,cond_true,decide_eq_true (by simp:(((bL []).length:Int)+1)*24<=140737488355328),cond_true]
  rfl
 ·rw[List.concat_eq_append]at *
  have hb:(l++[b])[l.length]?=some b:=by simp
  obtain⟨g0,g1,g2⟩:=ij hb;have hlen:((bL (l++[b])).length:Int)=(l.length:Int)+1:=by simp
  have hle:l.length<=1000:=by simp at hl;omega
  have e1:((bL (l++[b])).length:Int)-1=(l.length:Int):=by omega
  have e2:aq (((bL (l++[b])).length:Int)-1) 0=(l.length:Int):=by rw[e1];unfold aq;split<;>omega
  have e3:(l.length:Int).toNat=l.length:=by omega
  rw[e2,e1,g1,g2,e3,NP];have k1:(0:Int)<((bL (l++[b])).length:Int):=by omega
  have k2:(-9223372036854775808:Int)<=(l.length:Int):=by omega
  have k3:(l.length:Int)<=9223372036854775807:=by omega
  have k4:(0:Int)<=(l.length:Int):=by omega
  have k5:(l.length:Int)<((bL (l++[b])).length:Int):=by omega
  have k6:(((bL (l++[b])).length:Int)+1)*24<=140737488355328:=by omega
  rw[qD _ _ _ _ _ hy1,decide_eq_true k1,cond_true,decide_eq_true k2,decide_eq_true k3,Bool.and_self,cond_true,decide_eq_true k4,cond_true,decide_eq_true k5,cond_true,decide_eq_true c2,decide_eq_true k6];simp only[cond_true];by_cases h1:b.t=p
  ·by_cases h2:b.c=y
   ·rw[decide_eq_true h1,decide_eq_true h2,if_pos ⟨h1,h2⟩,<-h2];simp only[cond_true]
   ·rw[decide_eq_true h1,decide_eq_false h2,if_neg (fun h=>h2 h.2)];simp only[cond_true,cond_false];rw[kT (l++[b])];rfl
  ·rw[decide_eq_false h1,if_neg (fun h=>h1 h.1)];simp only[cond_false];rw[kT (l++[b])];rfl
def gcR(w f t x y:Int):Int:=
 if w=1/\0<=y then -1 else
 if(w=0/\0<=y)\/(w=2/\y<0)then(if 0<=y/\y=f then t else y)else(if 0<=x/\x=f then t else x)
theorem O1(n:Nat)(go:Lv×Int->Option aF)(v3 v4:Int)(E:List Int)(o:List B3)(i:Nat)(x p q:Int)(hp:E[i]?=some p)(hq:E[i+1]?=some q)(hx: -1<=x)(h4: -1<=v4)(hl:o.length<=1000):
  dn n go v3 v4 (iL E) (bL o) (i:Int) x=go (bL (Dial.Blk.step o p q (if 0<=x/\x=v3 then v4 else x)),(i:Int)+1):=by
 have hP:cI (iL E) (i:Int) 0=p:=qY hp
 have hQ:cI (iL E) ((i:Int)+1) 0=q:=qY (i:=i+1) hq
 unfold dn;rw[hP,hQ];by_cases h0:0<=x
 ·rw[decide_eq_true h0,cond_true]
  by_cases h1:x=v3
  ·rw[decide_eq_true h1,cond_true,if_pos ⟨h0,h1⟩]
   by_cases h2:v4<0
   ·have:v4= -1:=by omega
    rw[decide_eq_true h2,cond_true,this,ez]
   ·rw[decide_eq_false h2,cond_false]
    exact MQ go o i p q v4 (by omega) hl
  ·rw[decide_eq_false h1,cond_false,if_neg (fun h=>h1 h.2),decide_eq_false (by omega:¬x<0),cond_false]
   exact MQ go o i p q x h0 hl
 ·have:x= -1:=by omega
  subst this;rw[if_neg (by omega),ez]
  rfl
theorem Q8(n:Nat)(go:Lv×Int->Option aF)(w v3 v4:Int)(hw:w=0\/w=1\/w=2)(E:List Int)(o:List B3)(i:Nat)(x y p q:Int)(hp:E[i]?=some p)(hq:E[i+1]?=some q)(hx: -1<=x)(hy: -1<=y)(h4: -1<=v4)(hl:o.length<=1000):
  kV n go w v3 v4 (iL E) (bL o) (i:Int) x y=go (bL (Dial.Blk.step o p q (gcR w v3 v4 x y)),(i:Int)+1):=by
 unfold gcR;have hX:=O1 n go v3 v4 E o i x p q hp hq hx h4 hl;unfold kV;rcases hw with rfl|rfl|rfl
 ·rw[decide_eq_true rfl,cond_true]
  unfold rz;by_cases h0:0<=y
  ·have hY:=O1 n go v3 v4 E o i y p q hp hq hy h4 hl
   unfold dn at hY;rw[decide_eq_true h0,cond_true]at hY⊢
   rw[if_neg (by omega),if_pos (by omega)]
   exact hY
  ·rw[decide_eq_false h0,cond_false,if_neg (by omega),if_neg (by omega)]
   exact hX
 ·rw[decide_eq_false (by decide),cond_false]
  unfold kB;rw[decide_eq_true rfl,cond_true];unfold sj;by_cases h0:0<=y
  ·rw[decide_eq_true h0,cond_true,if_pos ⟨rfl,h0⟩,ez]
  ·rw[decide_eq_false h0,cond_false,if_neg (by omega),if_neg (by omega)]
   exact hX
 ·rw[decide_eq_false (by decide),cond_false]
  unfold kB;rw[decide_eq_false (by decide),cond_false]
  unfold pD;rw[decide_eq_true rfl,cond_true];unfold qd;by_cases h0:y<0
  ·have:y= -1:=by omega
   subst this;rw[if_neg (by omega),if_pos (by omega),if_neg (by omega),ez]
   rfl
  ·rw[decide_eq_false h0,cond_false,if_neg (by omega),if_neg (by omega)]
   exact hX
theorem QK{w f t x y:Int}(hx: -1<=x/\x<=7)(hy: -1<=y/\y<=7)(ht: -1<=t/\t<=7): -1<=gcR w f t x y/\gcR w f t x y<=7:=by
 unfold gcR;repeat' split
 all_goals omega
theorem fk(n:Nat)(a b:List B3)(w v3 v4:Int)(ha:Canon a)(hb:Canon b)(hal:a.length<=41)(hbl:b.length<=41)(hw:w=0\/w=1\/w=2)(h4: -1<=v4/\v4<=7)(hn:210<n):
  cv n (bL a) (bL b) w v3 v4=some (bL (dx fun m=>gcR w v3 v4 (hold a m) (hold b m)).1,(dx fun m=>gcR w v3 v4 (hold a m) (hold b m)).2)/\IsMap (fun m=>gcR w v3 v4 (hold a m) (hold b m)) (aZ fun m=>gcR w v3 v4 (hold a m) (hold b m)):=by
 obtain⟨g,hg⟩:∃g:Int->Int,g=fun m=>gcR w v3 v4 (hold a m) (hold b m):=⟨_,rfl⟩
 rw[<-hg];obtain⟨E,hE⟩:∃E,E=fo a b:=⟨_,rfl⟩
 have hEd:=Oz ha hb;have hEl:E.length<=166:=by
  rw[hE];have h1:=oV b (ef [0,100000000] a);have h2:=oV a [0,100000000];show(ef (ef [0,100000000] a) b).length<=166
  simp at h2;omega
 rw[<-hE]at hEd;have fold:∀k,k<E.length->∃o,(∃p,E[k]?=some p/\Upto g p o)/\o.length<=k/\o=(List.range k).foldl (fun o i=>Dial.Blk.step o (E.getD i 0) (E.getD (i+1) 0) (g (E.getD i 0))) []:=by
  intro k;induction k with
  |zero=>intro _;exact⟨[],⟨0,hEd.first,Upto.nil g⟩,by simp,rfl⟩
  | succ k ih=>
   intro hk;obtain⟨o,⟨p,hp,ho⟩,hol,hof⟩:=ih (by omega)
   obtain⟨q,hq⟩:=aD (l:=E) (i:=k+1) hk
   have hpq:=gf hEd.sorted hp hq (by omega)
   have hq2:q<=100000000:=by
    rcases Nat.lt_or_ge (k+1) (E.length-1)with h|h
    ·have:=gf hEd.sorted hq hEd.last h;omega
    ·have:k+1=E.length-1:=by omega
     rw[this,hEd.last]at hq;cases hq;omega
   have hp0:0<=p:=by
    rcases Nat.eq_zero_or_pos k with h|h
    ·subst h;rw[hEd.first]at hp;cases hp;omega
    ·have:=gf hEd.sorted hEd.first hp h;omega
   have hr1:=cz ha p;have hr2:=cz hb p;have hs:=ho.step hp0 hpq hq2 (k:=g p) (by rw[hg];exact QK hr1 hr2 h4) (fun m h1 h2=>by
    rw[hg];show gcR _ _ _ _ _=gcR _ _ _ _ _
    rw[KN ha hEd.sorted (fun c hc=>hEd.mem c (.inl hc)) hp hq m h1 h2,KN hb hEd.sorted (fun c hc=>hEd.mem c (.inr hc)) hp hq m h1 h2])
   refine⟨Dial.Blk.step o p q (g p),⟨q,hq,hs⟩,?_,?_⟩
   ·have:=CO o p q (g p);omega
   ·rw[List.range_succ,List.foldl_append,<-hof]
    simp[List.getD,hp,hq]
 obtain⟨o,⟨p,hp,ho⟩,hol,hof⟩:=fold (E.length-1) (by have:=hEd.two;omega)
 rw[hEd.last]at hp;cases hp
 have hmap:=gw ho.isMap;have hv:vldB o=decide (o.length<=40):=by
  have:gr 0 (-1) o=true:=(uv o 0 (-1)).2 ho.1
  rw[vldB,this,Bool.and_true]
 refine⟨?_,by rw[hmap];exact ho.isMap⟩
 unfold dx;rw[hmap];unfold cv rW;rw[GJ n a b hn hal hbl,Option.bind_some,<-hE];refine ar (fun s=>∃i:Nat,s=(bL ((List.range i).foldl (fun o i=>Dial.Blk.step o (E.getD i 0) (E.getD (i+1) 0) (g (E.getD i 0))) []),(i:Int))/\i<=E.length-1) (fun s=>E.length-s.2.toNat) _ ?_ n _ ⟨0,rfl,by omega⟩ (by simp;omega)
 rintro _ go ⟨i,rfl,hi⟩ ih;simp only at ih⊢
 have htwo:=hEd.two;have c4:(-9223372036854775808:Int)<=(i:Int)+1:=by omega
 have c5:(i:Int)+1<=(9223372036854775807:Int):=by omega
 unfold rK;rw[decide_eq_true c4,decide_eq_true c5,Bool.and_self,cond_true];unfold qW;by_cases hlt:i+1<E.length
 ·obtain⟨o',⟨p,hp,_⟩,hol',hof'⟩:=fold i (by omega)
  obtain⟨q,hq⟩:=aD (l:=E) (i:=i+1) hlt
  have c1:(i:Int)+1<((iL E).length:Int):=by simp;omega
  have c2:(0:Int)<=(i:Int):=by omega
  have c3:(i:Int)<((iL E).length:Int):=by omega
  have hr1:=cz ha p;have hr2:=cz hb p;rw[<-hof',decide_eq_true c1,cond_true,decide_eq_true c2,cond_true,decide_eq_true c3,cond_true,qY hp,tR n a p (by omega) (by omega),Option.bind_some,tR n b p (by omega) (by omega),Option.bind_some,
   Q8 n go w v3 v4 hw E o' i _ _ p q hp hq (by omega) (by omega) h4.1 (by omega)]
  refine ih _ ⟨i+1,?_,by omega⟩ (by first|omega|(simp only;omega))
  rw[List.range_succ,List.foldl_append,<-hof'];simp[List.getD,hp,hq,hg]
 ·have hie:i=E.length-1:=by omega
  have c1:¬(i:Int)+1<((iL E).length:Int):=by simp;omega
  rw[hie,<-hof,<-hie,decide_eq_false c1,cond_false,cu n o (by omega),Option.bind_some,hv]
  by_cases h40:o.length<=40
  ·rw[decide_eq_true h40,if_pos h40];rfl
  ·rw[decide_eq_false h40,if_neg h40];rfl
theorem mE{f t c:Int}(h0:0<=f)(h1:f<t)(h2:t<=100000000)(h3:0<=c)(h4:c<=7):Canon [⟨f,t,c⟩]:=⟨h0,h1,h2,h3,h4,h0,fun _=>by show c≠ -1;omega,trivial⟩
theorem JR(n:Nat)(l:List B3)(f t c:Int)(hc:Canon l)(hl:l.length<=40)(h0:0<=f)(h1:f<t)(h2:t<=100000000)(h3:0<=c)(h4:c<=7)(hn:210<n):
  ox n (bL l) f t c=some (bL (dx fun m=>gcR 0 (-1) (-1) (hold l m) (hold [⟨f,t,c⟩] m)).1,(dx fun m=>gcR 0 (-1) (-1) (hold l m) (hold [⟨f,t,c⟩] m)).2)/\IsMap (fun m=>gcR 0 (-1) (-1) (hold l m) (hold [⟨f,t,c⟩] m)) (aZ fun m=>gcR 0 (-1) (-1) (hold l m) (hold [⟨f,t,c⟩] m)):=by
 have hV:vldB l=true:=(db l).2 ⟨hl,hc⟩
 obtain⟨e1,e2⟩:=fk n l [⟨f,t,c⟩] 0 (-1) (-1) hc (mE h0 h1 h2 h3 h4) (by omega) (by simp) (.inl rfl) (by decide) hn
 refine⟨?_,e2⟩
 unfold ox yE;rw[cu n l (by omega),Option.bind_some,hV,Bool.not_true,cond_false,decide_eq_true h0,cond_true,decide_eq_true h1,cond_true,decide_eq_true h2,Bool.not_true,cond_false,decide_eq_true h3,cond_true,decide_eq_true h4,Bool.not_true,cond_false]
 have:([]:Lv)++[[AV.int f,AV.int t,AV.int c]]=bL [⟨f,t,c⟩]:=rfl
 rw[this,e1];rfl
theorem I3(n:Nat)(l:List B3)(f t:Int)(hc:Canon l)(hl:l.length<=40)(h0:0<=f)(h1:f<t)(h2:t<=100000000)(hn:210<n):
  od n (bL l) f t=some (bL (dx fun m=>gcR 1 (-1) (-1) (hold l m) (hold [⟨f,t,0⟩] m)).1,(dx fun m=>gcR 1 (-1) (-1) (hold l m) (hold [⟨f,t,0⟩] m)).2)/\IsMap (fun m=>gcR 1 (-1) (-1) (hold l m) (hold [⟨f,t,0⟩] m)) (aZ fun m=>gcR 1 (-1) (-1) (hold l m) (hold [⟨f,t,0⟩] m)):=by
 have hV:vldB l=true:=(db l).2 ⟨hl,hc⟩
 obtain⟨e1,e2⟩:=fk n l [⟨f,t,0⟩] 1 (-1) (-1) hc (mE h0 h1 h2 (by decide) (by decide)) (by omega) (by simp) (.inr (.inl rfl)) (by decide) hn
 refine⟨?_,e2⟩
 unfold od yg;rw[cu n l (by omega),Option.bind_some,hV,Bool.not_true,cond_false,decide_eq_true h0,cond_true,decide_eq_true h1,cond_true,decide_eq_true h2,Bool.not_true,cond_false]
 have:([]:Lv)++[[AV.int f,AV.int t,AV.int 0]]=bL [⟨f,t,0⟩]:=rfl
 rw[this,e1];rfl
end Go.Proofs.YtgckmifmjiklmaaGreat
namespace Go.Dial.Mrg
open Go.Dial.Blk
def has(s c:Int):Bool:=s.toNat.testBit c.toNat
def iO(s c:Int):Int:=((s.toNat ||| 2 ^ c.toNat:Nat):Int)
def lq(s c:Int):Int:=((s.toNat &&& (255-2 ^ c.toNat):Nat):Int)
def lA(s t:Int):Prop:=s.toNat &&& t.toNat=s.toNat
instance (s t:Int):Decidable (lA s t):=inferInstanceAs (Decidable (_=_))
theorem QL(P:Int->Prop)(h:∀k:Fin 256,P (k.val:Int))(s:Int)(h0:0<=s)(h1:s<=255):P s:=by
 have:=h ⟨s.toNat,by omega⟩
 simpa[Int.toNat_of_nonneg h0]using this
theorem IQ(P:Int->Prop)(h:∀k:Fin 8,P (k.val:Int))(s:Int)(h0:0<=s)(h1:s<=7):P s:=by
 have:=h ⟨s.toNat,by omega⟩
 simpa[Int.toNat_of_nonneg h0]using this
theorem P0{s c:Int}(h0:0<=s)(h1:s<=255)(c0:0<=c)(c1:c<=7):0<=iO s c/\iO s c<=255:=by
 refine⟨by unfold iO;omega,?_⟩
 revert s
 refine IQ (fun c=>∀ {s:Int},0<=s->s<=255->iO s c<=255) (fun k=>?_) c c0 c1
 intro s h0 h1;have hk:(2:Nat) ^ k.val<2 ^ 8:=Nat.pow_lt_pow_right (by decide) k.isLt
 have:(s.toNat ||| 2 ^ k.val)<2 ^ 8:=Nat.or_lt_two_pow (by omega) hk
 unfold iO;simp only[Int.toNat_natCast];omega
theorem PD(s c:Int):0<=lq s c/\lq s c<=255:=by
 unfold lq;have h1:s.toNat &&& (255-2 ^ c.toNat)<=255-2 ^ c.toNat:=Nat.and_le_right
 have h2:255-2 ^ c.toNat<=255:=Nat.sub_le _ _
 generalize 255-2 ^ c.toNat=y at *
 omega
theorem K8{s c d:Int}(c0:0<=c)(d0:0<=d):has (iO s c) d=(has s d||decide (d=c)):=by
 unfold has iO;rw[Int.toNat_natCast,Nat.testBit_or,Nat.testBit_two_pow];congr 1
 rw[decide_eq_decide];omega
theorem PS{s c d:Int}(c0:0<=c)(c1:c<=7)(d0:0<=d)(d1:d<=7):has (lq s c) d=(has s d&&decide (d≠c)):=by
 unfold has lq;rw[Int.toNat_natCast,Nat.testBit_and];congr 1
 revert c0 c1 d0 d1
 intro c0 c1 d0 d1;refine IQ (fun c=>((255-2 ^ c.toNat).testBit d.toNat=decide (d≠c))) (fun k=>?_) c c0 c1
 refine IQ (fun d=>((255-2 ^ (k.val:Int).toNat).testBit d.toNat=decide (d≠(k.val:Int)))) (fun j=>?_) d d0 d1
 revert k j
 decide +kernel
theorem KT{s t c:Int}(h:lA s t)(hc:has s c=true):has t c=true:=by
 unfold has at *
 unfold lA at h;rw[<-h,Nat.testBit_and]at hc;simp only[Bool.and_eq_true]at hc;exact hc.2
theorem PP{s t:Int}(h0:0<=s)(h1:s<=255)(h2:0<=t)(h3:t<=255)(h:∀c,0<=c->c<=7->has s c=has t c):s=t:=by
 have:s.toNat=t.toNat:=Nat.eq_of_testBit_eq fun i=>by
  by_cases hi:i<=7
  ·have:=h (i:Int) (by omega) (by omega)
   unfold has at this;rwa [Int.toNat_natCast]at this
  ·have a:s.toNat.testBit i=false:=Nat.testBit_lt_two_pow (Nat.lt_of_lt_of_le (by omega:s.toNat<2 ^ 8) (Nat.pow_le_pow_right (by decide) (by omega)))
   have b:t.toNat.testBit i=false:=Nat.testBit_lt_two_pow (Nat.lt_of_lt_of_le (by omega:t.toNat<2 ^ 8) (Nat.pow_le_pow_right (by decide) (by omega)))
   rw[a,b]
 omega
def g(l:List Int)(c:Int):Int:=l.getD c.toNat 0
theorem rn{l:List Int}(hl:l.length=8){c d v:Int}(c0:0<=c)(c1:c<=7)(d0:0<=d)(d1:d<=7):g (l.set c.toNat v) d=if d=c then v else g l d:=by
 unfold g;rw[List.getD_eq_getElem?_getD,List.getElem?_set,List.getD_eq_getElem?_getD];by_cases h:d=c
 ·subst h;rw[if_pos rfl,if_pos rfl,if_pos (by omega)];rfl
 ·rw[if_neg h,if_neg (by omega)]
theorem PR(l:List Int)(i:Nat)(v:Int)(h:i<l.length):(l.set i v).sum=l.sum-l.getD i 0+v:=by
 induction l generalizing i with
 |nil=>simp at h
 | cons x l ih=>
  cases i with
  |zero=>simp[List.set];omega
  |succ i=>
   have:=ih i (by simpa using h)
   simp only[List.set_cons_succ,List.sum_cons,List.getD_cons_succ,this];omega
theorem O0{l:List Int}(hl:l.length=8){c:Int}(v:Int)(c0:0<=c)(c1:c<=7):(l.set c.toNat v).sum=l.sum-g l c+v:=PR l c.toNat v (by omega)
structure Wd where
 al:Int
 ev:Int
 bl:List B3
 ba:List Int
 le:List Int
structure Ev where
 k:Int
 at_:Int
 a:Int
 b:Int
 c:Int
 f:Int
 t:Int
 m:Int
structure WV (w:Wd):Prop where
 e0:0<=w.ev
 e1:w.ev<=255
 a0:0<=w.al
 sub:lA w.al w.ev
 bal:w.ba.length=8
 lel:w.le.length=8
 can:Canon w.bl
 few:w.bl.length<=40
 own:∀b∈w.bl,has w.al b.c=true
 b0:∀c,0<=c->c<=7-> -1000000000000<=g w.ba c/\g w.ba c<=1000000000000
 l0:∀c,0<=c->c<=7->0<=g w.le c/\g w.le c<=9
 dead:∀c,0<=c->c<=7->has w.al c=false->g w.ba c=0/\g w.le c=0
 sum:w.ba.sum=0
 near:∀c d,0<=c->c<=7->0<=d->d<=7->has w.al c=true->has w.al d=true->g w.le c-g w.le d<=1
theorem WV.a1{w:Wd}(h:WV w):w.al<=255:=by
 have h1:=h.sub;have h2:=h.e1;have h3:=h.e0;have h4:=h.a0;unfold lA at h1;have:w.al.toNat &&& w.ev.toNat<=w.ev.toNat:=Nat.and_le_right
 omega
def rho(e:Ev)(n x:Int):Int:=
 if x=e.a then
  if e.k=1\/((e.k=2\/e.k=3)/\e.f<=n/\n<e.t)then e.b else if e.k=3 then e.c else x else x
structure Frm (e:Ev):Prop where
 t0:0<=e.at_
 t1:e.at_<=10000000
 a0:0<=e.a
 a1:e.a<=7
 b0:0<=e.b
 b1:e.b<=7
 c0:0<=e.c
 c1:e.c<=7
 kind:1<=e.k/\e.k<=4
 bare:e.k=1\/e.k=4->e.f=0/\e.t=0/\e.m=0
 full:e.k=2\/e.k=3->0<=e.f/\e.f<e.t/\e.t<=100000000/\ -1000000000000<=e.m/\e.m<=1000000000000
 noC:e.k≠3->e.c=0
 noB:e.k=4->e.b=0
 other:e.k≠4->e.a≠e.b
 third:e.k=3->e.a≠e.c
def RG(ba:List Int)(e:Ev):List Int:=
 if e.k=1 then(ba.set e.b.toNat (g ba e.b+g ba e.a)).set e.a.toNat 0 else if e.k=2 then(ba.set e.a.toNat (g ba e.a-e.m)).set e.b.toNat e.m else if e.k=3 then((ba.set e.b.toNat (g ba e.b+e.m)).set e.c.toNat (g (ba.set e.b.toNat (g ba e.b+e.m)) e.c+(g ba e.a-e.m))).set e.a.toNat 0 else ba
def Ru(le:List Int)(e:Ev):List Int:=
 if e.k=2 then le.set e.b.toNat (g le e.a)else if e.k=4 then le.set e.a.toNat (g le e.a+1)else le.set e.a.toNat 0
noncomputable def aft (w:Wd) (e:Ev):Wd where
 al:=if e.k=2 then iO w.al e.b else if e.k=4 then w.al else lq w.al e.a
 ev:=if e.k=2 then iO w.ev e.b else w.ev
 bl:=aZ fun n=>rho e n (hold w.bl n)
 ba:=RG w.ba e
 le:=Ru w.le e
structure Can (w:Wd) (e:Ev):Prop where
 a:has w.al e.a=true
 m:e.k=1->has w.al e.b=true
 s:e.k=2->has w.ev e.b=false
 w3:e.k=3->has w.al e.b=true/\has w.al e.c=true
 u:e.k=4->∀c,0<=c->c<=7->has w.al c=true->g w.le e.a<=g w.le c
structure Poss (w:Wd) (e:Ev):Prop where
 v:WV w
 f:Frm e
 c:Can w e
 v2:WV (aft w e)
open Classical in
noncomputable def ew (w:Wd) (e:Ev):Option Wd:=if Poss w e then some (aft w e)else none
theorem i9{w v:Wd}{e:Ev}(h:ew w e=some v):Poss w e/\v=aft w e:=by
 unfold ew at h;split at h
 ·rename_i hp;cases h;exact⟨hp,rfl⟩
 ·cases h
theorem JN{w:Wd}{e:Ev}(h:Poss w e):ew w e=some (aft w e):=if_pos h
theorem Nn{e:Ev}(hf:Frm e)(n x:Int)(h0: -1<=x)(h1:x<=7): -1<=rho e n x/\rho e n x<=7:=by
 obtain⟨h2,h3,h4,h5,h6,h7,h8,h9⟩:=hf;unfold rho;repeat' split
 all_goals omega
theorem M4{e:Ev}(hf:Frm e)(n:Int):rho e n (-1)= -1:=by
 have:=hf.a0
 unfold rho;rw[if_neg (by omega)]
theorem Ay{e:Ev}(hf:Frm e){l:List B3}(hl:Canon l):IsMap (fun n=>rho e n (hold l n)) (aZ fun n=>rho e n (hold l n)):=by
 by_cases hr:0<=e.f/\e.f<e.t/\e.t<=100000000
 ·have h1:Canon [⟨e.f,e.t,0⟩]:=⟨hr.1,hr.2.1,hr.2.2,(show(0:Int)<=0 by decide),(show(0:Int)<=7 by decide),hr.1,fun _=>(show(0:Int)≠ -1 by decide),trivial⟩
  have:=vh hl h1 (fun x y=>rho e (if y=0 then e.f else -1) x) fun x y a b _ _=>Nn hf _ x a b
  have hE:(fun m=>rho e (if hold [⟨e.f,e.t,0⟩] m=0 then e.f else -1) (hold l m))=fun n=>rho e n (hold l n):=by
   funext m
   by_cases hm:e.f<=m/\m<e.t
   ·have h2:e.f<=e.f/\e.f<e.t:=by omega
    rw[cq (b:=⟨e.f,e.t,0⟩) [] hm,if_pos rfl];unfold rho;simp only[hm,h2]
   ·rw[bg (b:=⟨e.f,e.t,0⟩) [] hm,IT,if_neg (by decide)]
    have h2:¬(e.f<= -1/\(-1:Int)<e.t):=by omega
    unfold rho;simp only[hm,h2]
  rw[hE]at this;exact this
 ·have hk:¬(e.k=2\/e.k=3):=fun h=>hr ⟨(hf.full h).1,(hf.full h).2.1,(hf.full h).2.2.1⟩
  have:=vh hl (b:=[]) trivial (fun x y=>rho e 0 x) fun x y a b _ _=>Nn hf _ x a b
  have hE:(fun m:Int=>rho e 0 (hold l m))=fun n=>rho e n (hold l n):=by
   funext m
   unfold rho;simp only[hk,false_and]
  rw[hE]at this;exact this
theorem Ol{w:Wd}{e:Ev}(hf:Frm e)(hc:Canon w.bl)(n:Int):hold (aft w e).bl n=rho e n (hold w.bl n):=by
 have:=(Ay hf hc).at n
 show hold (aZ _) n=_
 rw[this];split
 ·rfl
 ·rw[jw hc (by omega),M4 hf]
theorem Mt{w:Wd}{e:Ev}(hf:Frm e){c:Int}(c0:0<=c)(c1:c<=7):has (aft w e).al c=if e.k=2 then(has w.al c||decide (c=e.b))else if e.k=4 then has w.al c else(has w.al c&&decide (c≠e.a)):=by
 show has (if e.k=2 then iO w.al e.b else if e.k=4 then w.al else lq w.al e.a) c=_
 by_cases h:e.k=2
 ·rw[if_pos h,if_pos h,K8 hf.b0 c0]
 ·rw[if_neg h,if_neg h]
  by_cases h4:e.k=4
  ·rw[if_pos h4,if_pos h4]
  ·rw[if_neg h4,if_neg h4,PS hf.a0 hf.a1 c0 c1]
theorem P8{w:Wd}{e:Ev}(hf:Frm e){c:Int}(c0:0<=c):has (aft w e).ev c=if e.k=2 then(has w.ev c||decide (c=e.b))else has w.ev c:=by
 show has (if e.k=2 then iO w.ev e.b else w.ev) c=_
 by_cases h:e.k=2
 ·rw[if_pos h,if_pos h,K8 hf.b0 c0]
 ·rw[if_neg h,if_neg h]
noncomputable def bE:Wd->List Ev->Nat->Option Wd×Nat
 |w,[],i=>(some w,i)
 |w,e::l,i=>match ew w e with
  |none=>(none,i)
  |some v=>bE v l (i+1)
def Srt:List Ev->Prop
 |[]=>True
 |[_]=>True
 |a::b::l=>a.at_<=b.at_/\Srt (b::l)
def PossL:Wd->List Ev->Prop
 |w,[]=>WV w
 |w,e::l=>Poss w e/\PossL (aft w e) l
noncomputable def dY (w:Wd) (l:List Ev):Wd:=l.foldl aft w
theorem Ao(w:Wd)(e:Ev)(l:List Ev):dY w (e::l)=dY (aft w e) l:=rfl
theorem ON(w:Wd)(l m:List Ev):dY w (l++m)=dY (dY w l) m:=List.foldl_append
theorem PossL.v{w:Wd}{l:List Ev}(h:PossL w l):WV w:=by
 cases l with
 |nil=>exact h
 |cons e l=>exact h.1.v
theorem PossL.v2:∀ {l:List Ev} {w:Wd},PossL w l->WV (dY w l)
 |[],_,h=>h
 |e::l,w,h=>PossL.v2 (l:=l) h.2
theorem PossL.app:∀ {l m:List Ev} {w:Wd},PossL w (l++m)↔PossL w l/\PossL (dY w l) m
 |[],m,w=>⟨fun h=>⟨h.v,h⟩,fun h=>h.2⟩
 |e::l,m,w=>by
  show(Poss w e/\PossL (aft w e) (l++m))↔(Poss w e/\PossL (aft w e) l)/\PossL (dY (aft w e) l) m
  rw[PossL.app (l:=l),and_assoc]
theorem FO:∀ {l:List Ev} {w:Wd} (i:Nat),PossL w l->bE w l i=(some (dY w l),i+l.length)
 |[],w,i,_=>rfl
 |e::l,w,i,h=>by
  rw[bE,JN h.1];show bE (aft w e) l (i+1)=_
  rw[FO (i+1) h.2];simp only[List.length_cons,Ao];congr 1;omega
theorem Gc:∀ {l:List Ev} {w v:Wd} {i j:Nat},WV w->bE w l i=(some v,j)->PossL w l
 |[],w,v,i,j,hw,_=>hw
 | e::l,w,v,i,j,hw,h=>by
  rw[bE]at h;cases hs:ew w e with
  |none=>rw[hs]at h;cases h
  |some u=>
   rw[hs]at h;obtain⟨hp,rfl⟩:=i9 hs;exact⟨hp,Gc hp.v2 h⟩
structure RunOk (w:Wd) (l:List Ev):Prop where
 v:WV w
 few:l.length<=20
 srt:Srt l
noncomputable instance (w:Wd) (l:List Ev):Decidable (RunOk w l):=Classical.propDecidable _
noncomputable def iu (w:Wd) (l:List Ev):Option Wd×Nat:=if RunOk w l then bE w l 0 else(none,0)
structure Good (w:Wd) (l:List Ev):Prop where
 few:l.length<=20
 srt:Srt l
 p:PossL w l
theorem Aq{w:Wd}{l:List Ev}(h:Good w l):iu w l=(some (dY w l),l.length):=by
 unfold iu;rw[if_pos ⟨h.p.v,h.few,h.srt⟩,FO 0 h.p];simp
theorem FS{w v:Wd}{l:List Ev}{j:Nat}(h:iu w l=(some v,j)):Good w l:=by
 unfold iu at h;split at h
 ·rename_i hr;exact⟨hr.few,hr.srt,Gc hr.v h⟩
 ·cases h
theorem Srt.tail{e:Ev}{l:List Ev}(h:Srt (e::l)):Srt l:=by
 cases l with
 |nil=>trivial
 |cons b l=>exact h.2
theorem Srt.snoc{l:List Ev}{e:Ev}(h:Srt l)(he:∀d∈l,d.at_<=e.at_):Srt (l++[e]):=by
 induction l with
 |nil=>trivial
 |cons a l ih=>
  have h2:=ih h.tail fun d hd=>he d (by simp[hd])
  cases l with
  |nil=>exact⟨he a (by simp),trivial⟩
  |cons b l=>exact⟨h.1,h2⟩
def untl(l:List Ev)(t:Int):List Ev:=l.takeWhile fun e=>decide (e.at_<=t)
theorem Srt.take{l:List Ev}(h:Srt l)(t:Int):Srt (untl l t):=by
 induction l with
 |nil=>trivial
 | cons a l ih=>
  unfold untl at *
  rw[List.takeWhile_cons];split
  ·have:=ih h.tail
   cases l with
   |nil=>trivial
   |cons b l=>
    rw[List.takeWhile_cons]at this⊢
    split
    ·rename_i hb;rw[if_pos hb]at this;exact⟨h.1,this⟩
    ·trivial
  ·trivial
theorem uY(l:List Ev)(t:Int):untl l t++l.dropWhile (fun e=>decide (e.at_<=t))=l:=List.takeWhile_append_dropWhile
theorem Good.untl{w:Wd}{l:List Ev}(h:Good w l)(t:Int):Good w (untl l t):=by
 refine⟨?_,h.srt.take t,?_⟩
 ·have:=congrArg List.length (uY l t)
  rw[List.length_append]at this;have:=h.few;omega
 ·have:=h.p
  rw[<-uY l t]at this;exact(PossL.app.1 this).1
def gZ(l:List Ev)(n x:Int):Int:=l.foldl (fun x e=>rho e n x) x
theorem mC(e:Ev)(l:List Ev)(n x:Int):gZ (e::l) n x=gZ l n (rho e n x):=rfl
theorem PossL.forms:∀ {l:List Ev} {w:Wd},PossL w l->∀e∈l,Frm e
 |[],_,_,e,he=>by simp at he
 |a::l,w,h,e,he=>by
  rcases List.mem_cons.1 he with rfl|he
  ·exact h.1.f
  ·exact PossL.forms (l:=l) h.2 e he
theorem PossL.hold:∀ {l:List Ev} {w:Wd},PossL w l->∀n,Blk.hold (dY w l).bl n=gZ l n (Blk.hold w.bl n)
 |[],_,_,n=>rfl
 |e::l,w,h,n=>by
  rw[Ao,PossL.hold (l:=l) h.2 n,Ol h.1.f h.1.v.can,mC]
theorem K3{w:Wd}{e:Ev}(h:Poss w e){x:Int}(x0:0<=x)(hx:has w.ev x=true):has (aft w e).ev x=true:=by
 rw[P8 h.f x0];split
 ·rw[hx];rfl
 ·exact hx
theorem Ml{w:Wd}{e:Ev}(h:Poss w e){x:Int}(x0:0<=x)(x1:x<=7)(hx:has w.ev x=true)(hd:has w.al x=false):has (aft w e).al x=false/\x≠e.a:=by
 have hne:x≠e.a:=fun hh=>by have:=h.c.a;rw[<-hh,hd]at this;cases this
 refine⟨?_,hne⟩
 rw[Mt h.f x0 x1];by_cases h2:e.k=2
 ·have hb:x≠e.b:=fun hh=>by have:=h.c.s h2;rw[<-hh,hx]at this;cases this
  rw[if_pos h2,hd,decide_eq_false hb];rfl
 ·rw[if_neg h2]
  split
  ·exact hd
  ·rw[hd];rfl
theorem PossL.dead:∀ {l:List Ev} {w:Wd},PossL w l->∀ {x:Int},0<=x->x<=7->has w.ev x=true->has w.al x=false->has (dY w l).al x=false/\∀n,gZ l n x=x
 |[],_,_,x,_,_,_,hd=>⟨hd,fun _=>rfl⟩
 |e::l,w,h,x,x0,x1,hx,hd=>by
  obtain⟨h1,h2⟩:=Ml h.1 x0 x1 hx hd;obtain⟨h3,h4⟩:=PossL.dead (l:=l) h.2 x0 x1 (K3 h.1 x0 hx) h1
  refine⟨h3,fun n=>?_⟩
  rw[mC];have:rho e n x=x:=by unfold rho;rw[if_neg h2]
  rw[this,h4]
theorem PossL.own:∀ {l:List Ev} {w:Wd},PossL w l->∀(n:Int) {x:Int},0<=x->x<=7->has (dY w l).al x=true->(∀e∈l,¬(e.k=2/\e.a=x))->gZ l n x=x
 |[],_,_,n,x,_,_,_,_=>rfl
 | e :: l,w,h,n,x,x0,x1,hx,hs=>by
  have hr:rho e n x=x:=by
   unfold rho;by_cases hxa:x=e.a
   ·rw[if_pos hxa]
    have hk:=h.1.f.kind;have h2:¬e.k=2:=fun h2=>hs e (by simp) ⟨h2,hxa.symm⟩
    by_cases h4:e.k=4
    ·rw[if_neg (by omega),if_neg (by omega)]
    ·exfalso
     have ha:has w.al x=true:=by rw[hxa];exact h.1.c.a
     have h5:has (aft w e).al x=false:=by
      rw[Mt h.1.f x0 x1,if_neg h2,if_neg h4,decide_eq_false (fun hh=>hh hxa),Bool.and_false]
     have h6:=PossL.dead (l:=l) h.2 x0 x1 (K3 h.1 x0 (KT h.1.v.sub ha)) h5;rw[Ao,h6.1]at hx;cases hx
   ·rw[if_neg hxa]
  rw[mC,hr];exact PossL.own (l:=l) h.2 n x0 x1 hx fun d hd=>hs d (by simp[hd])
theorem Srt.drop{l:List Ev}(h:Srt l)(p:Ev->Bool):Srt (l.dropWhile p):=by
 induction l with
 |nil=>trivial
 |cons a l ih=>
  rw[List.dropWhile_cons];split
  ·exact ih h.tail
  ·exact h
theorem Good.drop{w:Wd}{l:List Ev}(h:Good w l)(t:Int):Good (dY w (Mrg.untl l t)) (l.dropWhile fun e=>decide (e.at_<=t)):=by
 refine⟨?_,h.srt.drop _,?_⟩
 ·have:=congrArg List.length (uY l t)
  rw[List.length_append]at this;have:=h.few;omega
 ·have:=h.p
  rw[<-uY l t]at this;exact(PossL.app.1 this).2
theorem Good.snoc{w:Wd}{l:List Ev}{e:Ev}(h:Good w l)(h20:l.length+1<=20)(hp:Poss (dY w l) e)(ht:∀d∈l,d.at_<=e.at_):Good w (l++[e]):=
 ⟨by simp;omega,h.srt.snoc ht,PossL.app.2 ⟨h.p,hp,hp.v2⟩⟩
def bc(b:B3)(f:Int):Int:=max b.f (min f b.t)
def car(b:B3)(x y z:Int)(mid:Bool):Int:=if b.c=x then(if mid then y else z)else b.c
def prt(o:List B3)(p q k:Int):List B3:=if p=q then o else Blk.step o p q k
def jn(x y z f t:Int)(o:List B3)(b:B3):List B3:=
 prt (prt (prt o b.f (bc b f) (car b x y z false)) (bc b f) (bc b t) (car b x y z true)) (bc b t) b.t (car b x y z false)
def jQ(x y z f t:Int)(n h:Int):Int:=if h=x then(if f<=n/\n<t then y else z)else h
theorem rT{g:Int->Int}{o:List B3}{p q k:Int}(h:Upto g p o)(p0:0<=p)(pq:p<=q)(q1:q<=100000000)(hk: -1<=k/\k<=7)(hg:∀n,p<=n->n<q->g n=k):Upto g q (prt o p q k):=by
 unfold prt;by_cases he:p=q
 ·rw[if_pos he,<-he];exact h
 ·rw[if_neg he];exact h.step p0 (by omega) q1 hk hg
theorem FA{g:Int->Int}{o:List B3}{p q:Int}(h:Upto g p o)(p0:0<=p)(pq:p<=q)(q1:q<=100000000)(hg:∀n,p<=n->n<q->g n= -1):Upto g q o:=by
 have:=rT h p0 pq q1 (k:= -1) (by omega) hg
 unfold prt at this;split at this
 ·exact this
 ·rwa [ez]at this
theorem lH(o:List B3)(p q k:Int):(prt o p q k).length<=o.length+1:=by
 unfold prt;split
 ·omega
 ·exact CO o p q k
theorem Oe(x y z f t:Int)(o:List B3)(b:B3):(jn x y z f t o b).length<=o.length+3:=by
 unfold jn;have h1:=lH o b.f (bc b f) (car b x y z false);have h2:=lH (prt o b.f (bc b f) (car b x y z false)) (bc b f) (bc b t) (car b x y z true);have h3:=lH (prt (prt o b.f (bc b f) (car b x y z false)) (bc b f) (bc b t) (car b x y z true)) (bc b t) b.t (car b x y z false);omega
theorem OT{x y z f t:Int}(ft:f<t)(y0:0<=y)(y1:y<=7)(z0:0<=z)(z1:z<=7)(x0:0<=x){l:List B3}(hl:Canon l):∀(m:List B3) (pre:List B3) (e k:Int) (o:List B3),l=pre++m->Asc e k m->0<=e->e<=100000000 →
  (∀n,e<=n->hold l n=hold m n)->Upto (fun n=>jQ x y z f t n (hold l n)) e o->∃q,e<=q/\q<=100000000/\(∀n,q<=n->hold l n= -1)/\Upto (fun n=>jQ x y z f t n (hold l n)) q (m.foldl (jn x y z f t) o):=by
 intro m;induction m with
 |nil=>intro pre e k o _ _ e0 e1 hh ho;exact⟨e,Int.le_refl _,e1,fun n hn=>(hh n hn).trans rfl,ho⟩
 | cons b m ih=>
  intro pre e k o hpre ha e0 e1 hh ho;obtain⟨b1,b2,b3,b4,b5,b6,b7,b8⟩:=ha;have hgap:=FA ho e0 b6 (by omega) (q:=b.f) fun n h1 h2=>by
   show jQ x y z f t n (hold l n)= -1
   rw[hh n h1,bg m (by omega),oC b8 (by omega)]
   unfold jQ;rw[if_neg (by omega)]
  have hin:∀n,b.f<=n->n<b.t->hold l n=b.c:=fun n h1 h2=>by rw[hh n (by omega),cq m ⟨h1,h2⟩]
  have hm1:b.f<=bc b f/\bc b f<=b.t:=by unfold bc;omega
  have hm2:bc b f<=bc b t/\bc b t<=b.t:=by unfold bc;omega
  have hcb:∀mid,-1<=car b x y z mid/\car b x y z mid<=7:=fun mid=>by
   unfold car;split
   ·split<;>omega
   ·omega
  have s1:=rT hgap b1 hm1.1 (by omega) (hcb false) fun n h1 h2=>by
   show jQ x y z f t n (hold l n)=_
   rw[hin n h1 (by omega)]
   unfold jQ car;have hnr:¬(f<=n/\n<t):=by unfold bc at h2;omega
   rw[if_neg hnr];simp
  have s2:=rT s1 (by omega) hm2.1 (by omega) (hcb true) fun n h1 h2=>by
   show jQ x y z f t n (hold l n)=_
   rw[hin n (by omega) (by omega)]
   unfold jQ car;have hr:f<=n/\n<t:=by unfold bc at h1 h2;omega
   rw[if_pos hr];simp
  have s3:=rT s2 (by omega) hm2.2 (by omega) (hcb false) fun n h1 h2=>by
   show jQ x y z f t n (hold l n)=_
   rw[hin n (by omega) (by omega)]
   unfold jQ car;have hnr:¬(f<=n/\n<t):=by unfold bc at h1;omega
   rw[if_neg hnr];simp
  obtain⟨q,q1,q2,q3,q4⟩:=ih (pre++[b]) b.t b.c (jn x y z f t o b) (by rw[hpre];simp) b8 (by omega) b3 (fun n hn=>by rw[hh n (by omega),bg m (by omega)]) s3
  exact⟨q,by omega,q2,q3,q4⟩
theorem PI{x y z f t:Int}(ft:f<t)(y0:0<=y)(y1:y<=7)(z0:0<=z)(z1:z<=7)(x0:0<=x){l:List B3}(hl:Canon l):IsMap (fun n=>jQ x y z f t n (hold l n)) (l.foldl (jn x y z f t) []):=by
 obtain⟨q,q1,q2,q3,q4⟩:=OT ft y0 y1 z0 z1 x0 hl l [] 0 (-1) [] rfl hl (by decide) (by decide) (fun _ _=>rfl) (Upto.nil _)
 have:=FA q4 q1 q2 (Int.le_refl _) fun n h1 h2=>by
  show jQ x y z f t n (hold l n)= -1
  rw[q3 n h1];unfold jQ;rw[if_neg (by omega)]
 exact this.isMap
end Go.Dial.Mrg
namespace Go.Proofs.YtgckmifmjiklmaaGreat
open Go Go.Sx Go.Dial.Blk
theorem gC(n:Nat)(l:List B3)(hn:41<n):dk n (bL l)=some (vldB l):=by
 unfold dk wl;by_cases h3:l.length<=40
 ·have c3:(l.length:Int)<=(40:Int):=by omega
  have e3:vldB l=gr 0 (-1) l:=by simp[vldB,h3]
  simp only[List.length_map,c3,decide_true,cond_true,e3];refine ar (fun s=>∃(i:Nat) (z e k:Int),s=((i:Int),z,e,k)/\i<=l.length/\gr 0 (-1) l=gr e k (l.drop i)) (fun s=>l.length-s.1.toNat) _ ?_ n _ ⟨0,0,0,-1,rfl,by omega,by simp⟩ (by simp;omega)
  rintro _ go ⟨i,z,e,k,rfl,hi,hE⟩ ih;simp only at ih⊢
  unfold wt;by_cases hlt:i<l.length
  ·obtain⟨b,hb⟩:=aD hlt
   obtain⟨g0,g1,g2⟩:=ij hb;have c1:(i:Int)<(l.length:Int):=by omega
   have c2:(0:Int)<=(i:Int):=by omega
   have c4:(-9223372036854775808:Int)<=(i:Int)+1:=by omega
   have c5:(i:Int)+1<=(9223372036854775807:Int):=by omega
   simp only[g0,g1,g2,List.length_map,c1,c2,c4,c5,decide_true,cond_true,Bool.and_self,Bool.not_true];rw[kS hb,gr]at hE;have hgo:(0<=b.f/\b.f<b.t/\b.t<=100000000/\0<=b.c/\b.c<=7/\e<=b.f/\(b.f=e->b.c≠k))->go ((i:Int)+1,b.f,b.t,b.c)=some (gr 0 (-1) l):=fun hv=>ih _ ⟨i+1,b.f,b.t,b.c,by simp,by omega,by rw[hE,decide_eq_true hv,Bool.true_and]⟩ (by first|omega|(simp only;omega))
   by_cases hv:(0<=b.f/\b.f<b.t/\b.t<=100000000/\0<=b.c/\b.c<=7/\e<=b.f/\(b.f=e->b.c≠k))
   ·rw[hgo hv];grind
   ·have hf:gr 0 (-1) l=false:=by rw[hE,decide_eq_false hv,Bool.false_and]
    rw[hf];grind
  ·have h0:i=l.length:=by omega
   have c1:¬(i:Int)<(l.length:Int):=by omega
   simp only[List.length_map,c1,decide_false,cond_false];rw[hE,h0,List.drop_length];rfl
 ·have c3:¬(l.length:Int)<=(40:Int):=by omega
  have e3:vldB l=false:=by simp[vldB,h3]
  simp only[List.length_map,c3,decide_false,cond_false,e3]
theorem dD(n:Nat)(l:List B3)(k:Int)(hn:l.length<n):cy n (bL l) k=some (bL (at_ l k).1,(at_ l k).2.1,(at_ l k).2.2):=by
 unfold cy pB;refine ar (fun s=>∃m:List B3,s=bL m/\at_ m k=at_ l k) (fun s=>s.length) _ ?_ n _ ⟨l,rfl,rfl⟩ (by simp;omega)
 rintro _ go ⟨m,rfl,hE⟩ ih;unfold pA;cases m with
 |nil=>
  rw[<-hE];simp[at_]
 | cons b m=>
  have hb:(b::m)[0]?=some b:=rfl
  obtain⟨g0,g1,g2⟩:=ij hb;have c1:(0:Int)<((bL (b::m)).length:Int):=by simp
  have c2:(1:Int)<=((bL (b::m)).length:Int):=by omega
  have c3:((bL (b::m)).length:Int)<=((bL (b::m)).length:Int):=Int.le_refl _
  have c4:¬((bL (b::m)).length:Int)=0:=by omega
  have hd:List.drop ((1:Int)).toNat (List.take (((bL (b::m)).length:Int)).toNat (bL (b::m)))=bL m:=by
   rw[show(((bL (b::m)).length:Int)).toNat=(bL (b::m)).length from by omega,List.take_length];rfl
  have g0:cI (bL (b::m)) 0 0=b.f:=g0
  have g1:cI (bL (b::m)) 0 1=b.t:=g1
  have g2:cI (bL (b::m)) 0 2=b.c:=g2
  rw[decide_eq_true c1,cond_true,decide_eq_true c2,cond_true,decide_eq_true c3,cond_true,decide_eq_false c4,cond_false,hd,g0,g1,g2];rw[at_]at hE;by_cases h1:b.t<=k
  ·rw[if_pos h1]at hE
   rw[decide_eq_true h1,cond_true];exact ih _ ⟨m,rfl,hE⟩ (by simp)
  ·rw[if_neg h1]at hE
   rw[decide_eq_false h1,cond_false];by_cases h2:k<b.f
   ·rw[if_pos h2]at hE;rw[decide_eq_true h2,cond_true,<-hE]
   ·rw[if_neg h2]at hE;rw[decide_eq_false h2,cond_false,<-hE]
def O5{α:Type}(go:Lv->Option α)(v6:Lv)(P Q y:Int):Option α:=
 (bif 0<(v6.length:Int) then bif(-9223372036854775808<=((v6.length:Int)-1))&&(((v6.length:Int)-1)<=9223372036854775807)then bif 0<=((v6.length:Int)-1) then bif ((v6.length:Int)-1)<(v6.length:Int) then(bif (cI v6 ((v6.length:Int)-1) 1)=P then(bif (cI v6 ((v6.length:Int)-1) 2)=y then go (List.modify v6 (((v6.length:Int)-1)).toNat (fun r=>r.set 1 (AV.int Q)))else bif (((v6.length:Int)+1)*24)<=140737488355328 then go (v6++[[(AV.int P),(AV.int Q),(AV.int y)]])else none)else bif (((v6.length:Int)+1)*24)<=140737488355328 then go (v6++[[(AV.int P),(AV.int Q),(AV.int y)]])else none)else none else none else none else bif (((v6.length:Int)+1)*24)<=140737488355328 then go (v6++[[(AV.int P),(AV.int Q),(AV.int y)]])else none)
theorem um{α:Type}(go:Lv->Option α)(o:List B3)(p q y:Int)(hy:y≠ -1)(hl:o.length<=100000000):O5 go (bL o) p q y=go (bL (Dial.Blk.step o p q y)):=by
 unfold O5;rcases List.eq_nil_or_concat o with rfl|⟨l,b,rfl⟩
 ·rw[uM _ _ _ hy,decide_eq_false (by simp:¬(0:Int)<((bL []).length:Int)),cond_false,decide_eq_true (by simp:(((bL []).length:Int)+1)*24<=140737488355328),cond_true]
  rfl
 ·rw[List.concat_eq_append]at *
  have hb:(l++[b])[l.length]?=some b:=by simp
  obtain⟨g0,g1,g2⟩:=ij hb;have hlen:((bL (l++[b])).length:Int)=(l.length:Int)+1:=by simp
  have hle:l.length<=100000000:=by simp at hl;omega
  have e1:((bL (l++[b])).length:Int)-1=(l.length:Int):=by omega
  have e3:(l.length:Int).toNat=l.length:=by omega
  rw[e1,g1,g2,e3,NP];have k1:(0:Int)<((bL (l++[b])).length:Int):=by omega
  have k2:(-9223372036854775808:Int)<=(l.length:Int):=by omega
  have k3:(l.length:Int)<=9223372036854775807:=by omega
  have k4:(0:Int)<=(l.length:Int):=by omega
  have k5:(l.length:Int)<((bL (l++[b])).length:Int):=by omega
  have k6:(((bL (l++[b])).length:Int)+1)*24<=140737488355328:=by omega
  rw[qD _ _ _ _ _ hy,decide_eq_true k1,cond_true,decide_eq_true k2,decide_eq_true k3,Bool.and_self,cond_true,decide_eq_true k4,cond_true,decide_eq_true k5,cond_true,decide_eq_true k6];simp only[cond_true];by_cases h1:b.t=p
  ·by_cases h2:b.c=y
   ·rw[decide_eq_true h1,decide_eq_true h2,if_pos ⟨h1,h2⟩,<-h2];simp only[cond_true]
   ·rw[decide_eq_true h1,decide_eq_false h2,if_neg (fun h=>h2 h.2)];simp only[cond_true,cond_false];rw[kT (l++[b])];rfl
  ·rw[decide_eq_false h1,if_neg (fun h=>h1 h.1)];simp only[cond_false];rw[kT (l++[b])];rfl
theorem iK(a b:Int):af a b=min a b:=by unfold af;omega
def fg(x y:Int):Int:=if y= -1 then x else y
theorem OF(x y:Int)(h1: -1<=x)(h2:x<=7)(h3: -1<=y)(h4:y<=7): -1<=fg x y/\fg x y<=7:=by unfold fg;split<;>omega
theorem Je{α:Type}(n:Nat)(g:Int->Int->Int)(gbd:∀x y,-1<=x->x<=7-> -1<=y->y<=7-> -1<=g x y/\g x y<=7)(A B:List B3)(hA:Canon A)(hB:Canon B)(stp:(Int×Lv×Lv×Lv->Option α)->Int×Lv×Lv×Lv->Option α)(R:List B3->Option α)
  (h1:∀go p (o a b:List B3),p<=99999999->0<=p->o.length<=100000000->a.length<=A.length->b.length<=B.length->stp go (p,bL o,bL a,bL b)=go (min (at_ a p).2.2 (at_ b p).2.2,bL (Dial.Blk.step o p (min (at_ a p).2.2 (at_ b p).2.2) (g (at_ a p).2.1 (at_ b p).2.1)),bL (at_ a p).1,bL (at_ b p).1))
  (h2:∀go p (o a b:List B3),¬p<=99999999->stp go (p,bL o,bL a,bL b)=R o) (hn:100000001<n) (r:α) (hR:∀o,IsMap (fun m=>g (hold A m) (hold B m)) o->R o=some r):
  aa stp n (0,bL [],bL A,bL B)=some r:=by
 refine ar (fun s=>∃(p:Int) (o a b:List B3),s=(p,bL o,bL a,bL b)/\PInv g (hold A) (hold B) p o a b/\a.length<=A.length/\b.length<=B.length) (fun s=>(100000000-s.1).toNat) _ ?_ n _ ⟨0,[],A,B,rfl,PInv.begin _ hA hB,Nat.le_refl _,Nat.le_refl _⟩ (by first|omega|(simp only;omega))
 rintro _ go ⟨p,o,a,b,rfl,hI,hal,hbl⟩ ih;simp only at ih
 have hlo:=hI.lo;have hhi:=hI.hi;have hlen:=hI.len;by_cases hp:p<=99999999
 ·obtain⟨n1,n2⟩:=hI.next gbd (by omega)
  have sa:=FP a p;have sb:=FP b p;have la:(at_ a p).1.length<=a.length:=by obtain⟨pre,h⟩:=sa;have:=congrArg List.length h;simp at this;omega
  have lb:(at_ b p).1.length<=b.length:=by obtain⟨pre,h⟩:=sb;have:=congrArg List.length h;simp at this;omega
  rw[h1 go p o a b hp hlo (by omega) hal hbl]
  exact ih _ ⟨_,_,_,_,rfl,n2,by omega,by omega⟩ (by first|omega|(simp only;omega))
 ·obtain⟨d1,d2,d3⟩:=hI.done hp
  rw[h2 go p o a b hp,hR o d1]
def km(l:List B3)(f t:Int):Int->Int:=fun n=>if f<=n/\n<t then hold l n else -1
def kD(x y:Int):Int:=if y= -1 then -1 else x
theorem IO(x y:Int)(h1: -1<=x)(h2:x<=7)(h3: -1<=y)(h4:y<=7): -1<=kD x y/\kD x y<=7:=by unfold kD;split<;>omega
theorem uW(f t c n:Int):hold [⟨f,t,c⟩] n=if f<=n/\n<t then c else -1:=by
 by_cases h:f<=n/\n<t
 ·rw[if_pos h];exact cq (b:=⟨f,t,c⟩) [] h
 ·rw[if_neg h];exact bg (b:=⟨f,t,c⟩) [] h
theorem KU(l:List B3)(f t:Int):(fun m=>kD (hold l m) (hold [⟨f,t,0⟩] m))=km l f t:=by
 funext m
 unfold kD km;rw[uW];by_cases h:f<=m/\m<t
 ·rw[if_pos h,if_pos h,if_neg (by decide)]
 ·rw[if_neg h,if_neg h,if_pos rfl]
theorem lG{l:List B3}{f t:Int}(hc:Canon l)(h0:0<=f)(h1:f<t)(h2:t<=100000000):IsMap (km l f t) (aZ (km l f t)):=by
 have:=vh hc (mE h0 h1 h2 (c:=0) (by decide) (by decide)) kD IO
 rwa [KU]at this
theorem Af(n:Nat)(l:List B3)(f t:Int)(hc:Canon l)(hl:l.length<=40)(h0:0<=f)(h1:f<t)(h2:t<=100000000)(hn:100000001<n):kK n (bL l) f t=some (bL (aZ (km l f t)),0):=by
 have hV:vldB l=true:=(db l).2 ⟨hl,hc⟩
 have hM:=lG hc h0 h1 h2;have hlen:=pg hc f t hM;unfold kK yv;rw[gC n l (by omega),Option.bind_some,hV,Bool.not_true,cond_false,decide_eq_true h0,cond_true,decide_eq_true h1,cond_true,decide_eq_true h2,Bool.not_true,cond_false]
 refine Je n kD IO l [⟨f,t,0⟩] hc (mE h0 h1 h2 (by decide) (by decide)) _ (fun o=>bif 40<((bL o).length:Int) then some (([]:Lv),130)else some (bL o,0)) ?_ ?_ hn _ ?_
 ·intro go p o a b hp hp0 hol hal hbl
  simp only
  unfold oT;have hbl':b.length<=1:=hbl
  rw[decide_eq_true hp,cond_true,dD n a p (by omega),Option.bind_some,dD n b p (by omega),Option.bind_some]
  simp only[iK];by_cases hy:(at_ b p).2.1= -1
  ·rw[decide_eq_true hy,cond_true]
   have e:kD (at_ a p).2.1 (at_ b p).2.1= -1:=by unfold kD;rw[if_pos hy]
   rw[e,ez]
  ·rw[decide_eq_false hy,cond_false]
   have e:kD (at_ a p).2.1 (at_ b p).2.1=(at_ a p).2.1:=by unfold kD;rw[if_neg hy]
   rw[e];by_cases hx:(at_ a p).2.1= -1
   ·rw[decide_eq_true hx,cond_true,hx,ez]
   ·rw[decide_eq_false hx,cond_false]
    exact um (fun out=>go (min (at_ a p).2.2 (at_ b p).2.2,out,bL (at_ a p).1,bL (at_ b p).1)) o p _ _ hx (by omega)
 ·intro go p o a b hp
  simp only
  unfold oT;rw[decide_eq_false hp,cond_false]
 ·intro o ho
  rw[KU]at ho;have:o=aZ (km l f t):=(gw ho).symm
  subst this;simp only[List.length_map];rw[decide_eq_false (by omega),cond_false]
theorem qR(n:Nat)(a b:List B3)(ha:Canon a)(hal:a.length<=40)(hb:Canon b)(hbl:b.length<=40)(hn:100000001<n):
  gL n (bL a) (bL b)=some (bL (dx fun m=>fg (hold a m) (hold b m)).1,(dx fun m=>fg (hold a m) (hold b m)).2):=by
 have hV:vldB a=true:=(db a).2 ⟨hal,ha⟩
 have hW:vldB b=true:=(db b).2 ⟨hbl,hb⟩
 unfold gL qT;rw[gC n a (by omega),Option.bind_some,hV]
 unfold qz;rw[Bool.not_true,cond_false,gC n b (by omega),Option.bind_some,hW]
 unfold sd;rw[Bool.not_true,cond_false];refine Je n fg OF a b ha hb _ (fun o=>bif 40<((bL o).length:Int) then some (([]:Lv),130)else some (bL o,0)) ?_ ?_ hn _ ?_
 ·intro go p o a' b' hp hp0 hol hal' hbl'
  simp only
  unfold kN;rw[decide_eq_true hp,cond_true,dD n a' p (by omega),Option.bind_some,dD n b' p (by omega),Option.bind_some]
  simp only[iK];by_cases hy:(at_ b' p).2.1= -1
  ·rw[decide_eq_true hy,Bool.not_true,cond_false]
   have e:fg (at_ a' p).2.1 (at_ b' p).2.1=(at_ a' p).2.1:=by unfold fg;rw[if_pos hy]
   rw[e];by_cases hx:(at_ a' p).2.1= -1
   ·rw[decide_eq_true hx,cond_true,hx,ez]
   ·rw[decide_eq_false hx,cond_false]
    exact um (fun out=>go (min (at_ a' p).2.2 (at_ b' p).2.2,out,bL (at_ a' p).1,bL (at_ b' p).1)) o p _ _ hx (by omega)
  ·rw[decide_eq_false hy,Bool.not_false,cond_true]
   have e:fg (at_ a' p).2.1 (at_ b' p).2.1=(at_ b' p).2.1:=by unfold fg;rw[if_neg hy]
   rw[e];exact um (fun out=>go (min (at_ a' p).2.2 (at_ b' p).2.2,out,bL (at_ a' p).1,bL (at_ b' p).1)) o p _ _ hy (by omega)
 ·intro go p o a' b' hp
  simp only
  unfold kN;rw[decide_eq_false hp,cond_false]
 ·intro o ho
  unfold dx;rw[gw ho];simp only[List.length_map];by_cases h40:o.length<=40
  ·rw[decide_eq_false (by omega:¬(40:Int)<(o.length:Int)),if_pos h40];rfl
  ·rw[decide_eq_true (by omega:(40:Int)<(o.length:Int)),if_neg h40];rfl
def swR(f t x:Int):Int:=if x=f then t else x
theorem fx{l:List B3}(hc:Canon l){f t:Int}(t0:0<=t)(t1:t<=7):IsMap (fun m=>swR f t (hold l m)) (aZ fun m=>swR f t (hold l m)):=
 vh hc (b:=[]) trivial (fun x _=>swR f t x) fun x y a b _ _=>by unfold swR;split<;>omega
theorem kF(n:Nat)(l:List B3)(f t:Int)(hc:Canon l)(hl:l.length<=40)(f0:0<=f)(f1:f<=7)(t0:0<=t)(t1:t<=7)(hn:100000001<n):f7 n (bL l) f t=some (bL (aZ fun m=>swR f t (hold l m)),0):=by
 have hV:vldB l=true:=(db l).2 ⟨hl,hc⟩
 have hM:=fx hc (f:=f) t0 t1;have hlen:=eG hc (swR f t) (by unfold swR;rw[if_neg (by omega)]) hM
 unfold f7 xC;rw[gC n l (by omega),Option.bind_some,hV]
 unfold yx yW zI zi Ak;rw[Bool.not_true,cond_false,decide_eq_true f0,cond_true,decide_eq_true f1,Bool.not_true,cond_false,decide_eq_true t0,cond_true,decide_eq_true t1,Bool.not_true,cond_false];refine Je n (fun x _=>swR f t x) (fun x y a b _ _=>by unfold swR;split<;>omega) l [] hc trivial _ (fun o=>bif 40<((bL o).length:Int) then some (([]:Lv),130)else some (bL o,0)) ?_ ?_ hn _ ?_
 ·intro go p o a b hp hp0 hol hal hbl
  simp only
  unfold ql;have hbl':b.length<=0:=hbl
  rw[decide_eq_true hp,cond_true,dD n a p (by omega),Option.bind_some,dD n b p (by omega),Option.bind_some]
  simp only[iK];by_cases hy:(at_ a p).2.1=f
  ·rw[decide_eq_true hy,cond_true,decide_eq_false (by omega:¬t= -1),cond_false]
   have e:swR f t (at_ a p).2.1=t:=by unfold swR;rw[if_pos hy]
   rw[e];exact um (fun out=>go (min (at_ a p).2.2 (at_ b p).2.2,out,bL (at_ a p).1,bL (at_ b p).1)) o p _ _ (by omega) (by omega)
  ·rw[decide_eq_false hy,cond_false]
   have e:swR f t (at_ a p).2.1=(at_ a p).2.1:=by unfold swR;rw[if_neg hy]
   rw[e];by_cases hx:(at_ a p).2.1= -1
   ·rw[decide_eq_true hx,cond_true,hx,ez]
   ·rw[decide_eq_false hx,cond_false]
    exact um (fun out=>go (min (at_ a p).2.2 (at_ b p).2.2,out,bL (at_ a p).1,bL (at_ b p).1)) o p _ _ hx (by omega)
 ·intro go p o a b hp
  simp only
  unfold ql;rw[decide_eq_false hp,cond_false]
 ·intro o ho
  have:o=aZ (fun m=>swR f t (hold l m)):=(gw ho).symm
  subst this;simp only[List.length_map];rw[decide_eq_false (by omega),cond_false]
theorem xN(n:Nat)(l:List B3)(f t:Int)(hc:Canon l)(hl:l.length<=40)(f0:0<=f)(f1:f<=7)(t0:0<=t)(t1:t<=7)(hn:210<n):kJ n (bL l) f t=some (bL (aZ fun m=>swR f t (hold l m)),0):=by
 have hV:vldB l=true:=(db l).2 ⟨hl,hc⟩
 have hM:=fx hc (f:=f) t0 t1;have hlen:=eG hc (swR f t) (by unfold swR;rw[if_neg (by omega)]) hM
 obtain⟨e1,e2⟩:=fk n l [] 0 f t hc trivial (by omega) (by simp) (.inl rfl) (by omega) hn
 have hE:(fun m=>gcR 0 f t (hold l m) (hold [] m))=fun m=>swR f t (hold l m):=by
  funext m
  have:=cz hc m
  rw[IT];unfold gcR swR;repeat' split
  all_goals first|rfl|omega
 rw[hE]at e1;unfold kJ yC;rw[cu n l (by omega),Option.bind_some,hV,Bool.not_true,cond_false,decide_eq_true f0,cond_true,decide_eq_true f1,Bool.not_true,cond_false,decide_eq_true t0,cond_true,decide_eq_true t1,Bool.not_true,cond_false]
 have e1':cv n (bL l) ([]:Lv) 0 f t=_:=e1
 rw[e1',Option.bind_some];unfold dx;rw[if_pos (by omega)]
open Go.Dial.Mrg
theorem MJ:∀(j:Fin 8) (k:Fin 256),decide (IOp.f .and (IOp.f .shr (k.val:Int) (j.val:Int)) 1=1)=has (k.val:Int) (j.val:Int)/\decide (Int.tmod (IOp.f .shr (k.val:Int) (j.val:Int)) 2=1)=has (k.val:Int) (j.val:Int)
  ∧ IOp.f .or (k.val:Int) (IOp.f .shl 1 (j.val:Int))=iO (k.val:Int) (j.val:Int)/\IOp.f .andNot (k.val:Int) (IOp.f .shl 1 (j.val:Int))=lq (k.val:Int) (j.val:Int):=by
 decide +kernel
theorem AA{s c:Int}(h0:0<=s)(h1:s<=255)(c0:0<=c)(c1:c<=7):decide (IOp.f .and (IOp.f .shr s c) 1=1)=has s c/\decide (Int.tmod (IOp.f .shr s c) 2=1)=has s c
  ∧ IOp.f .or s (IOp.f .shl 1 c)=iO s c/\IOp.f .andNot s (IOp.f .shl 1 c)=lq s c:=by
 refine IQ (fun c=>decide (IOp.f .and (IOp.f .shr s c) 1=1)=has s c/\decide (Int.tmod (IOp.f .shr s c) 2=1)=has s c
  ∧ IOp.f .or s (IOp.f .shl 1 c)=iO s c/\IOp.f .andNot s (IOp.f .shl 1 c)=lq s c) (fun j=>?_) c c0 c1
 exact QL (fun s=>decide (IOp.f .and (IOp.f .shr s (j.val:Int)) 1=1)=has s (j.val:Int)/\decide (Int.tmod (IOp.f .shr s (j.val:Int)) 2=1)=has s (j.val:Int)
  ∧ IOp.f .or s (IOp.f .shl 1 (j.val:Int))=iO s (j.val:Int)/\IOp.f .andNot s (IOp.f .shl 1 (j.val:Int))=lq s (j.val:Int)) (fun k=>MJ j k) s h0 h1
theorem fQ{s c:Int}(h0:0<=s)(h1:s<=255)(c0:0<=c)(c1:c<=7):decide (IOp.f .and (IOp.f .shr s c) 1=1)=has s c:=(AA h0 h1 c0 c1).1
theorem cM{s c:Int}(h0:0<=s)(h1:s<=255)(c0:0<=c)(c1:c<=7):decide (Int.tmod (IOp.f .shr s c) 2=1)=has s c:=(AA h0 h1 c0 c1).2.1
theorem DE{s c:Int}(h0:0<=s)(h1:s<=255)(c0:0<=c)(c1:c<=7):IOp.f .or s (IOp.f .shl 1 c)=iO s c:=(AA h0 h1 c0 c1).2.2.1
theorem nO{s c:Int}(h0:0<=s)(h1:s<=255)(c0:0<=c)(c1:c<=7):IOp.f .andNot s (IOp.f .shl 1 c)=lq s c:=(AA h0 h1 c0 c1).2.2.2
theorem Pr{a b:Int}(a0:0<=a)(a1:a<=9223372036854775807)(b0:0<=b)(b1:b<=255):IOp.f .and a b=((a.toNat &&& b.toNat:Nat):Int):=by
 have ha:BitVec.ofInt 64 a=BitVec.ofNat 64 a.toNat:=by
  rw[<-BitVec.ofInt_natCast,Int.toNat_of_nonneg a0]
 have hb:BitVec.ofInt 64 b=BitVec.ofNat 64 b.toNat:=by
  rw[<-BitVec.ofInt_natCast,Int.toNat_of_nonneg b0]
 have hle:a.toNat &&& b.toNat<=b.toNat:=Nat.and_le_right
 show IntKind.i64.wrap ((BitVec.ofInt 64 a &&& BitVec.ofInt 64 b).toNat:Int)=_
 rw[ha,hb,BitVec.toNat_and,BitVec.toNat_ofNat,BitVec.toNat_ofNat,Nat.mod_eq_of_lt (by omega),Nat.mod_eq_of_lt (by omega)]
 generalize a.toNat &&& b.toNat=x at hle
 have hx:x<=255:=by omega
 have:((x:Int)) % 18446744073709551616=(x:Int):=by omega
 have hd:decide ((x:Int)>=9223372036854775808)=false:=by rw[decide_eq_false_iff_not];omega
 show(if(true&&decide ((x:Int) % 18446744073709551616>=9223372036854775808))=true then(x:Int) % 18446744073709551616-18446744073709551616 else(x:Int) % 18446744073709551616)=_
 rw[this,hd];rfl
theorem Px{a b:Int}(a0:0<=a)(a1:a<=9223372036854775807)(b0:0<=b)(b1:b<=255):IOp.f .and a b=a↔lA a b:=by
 rw[Pr a0 a1 b0 b1];unfold lA;omega
theorem cc{l:List Int}(hl:l.length=8){c:Int}(c0:0<=c)(c1:c<=7):cI (iL l) c 0=g l c:=by
 obtain⟨x,hx⟩:=aD (l:=l) (i:=c.toNat) (by omega)
 have:=qY hx
 rw[Int.toNat_of_nonneg c0]at this;rw[this];unfold g;rw[List.getD_eq_getElem?_getD,hx];rfl
theorem dF(l:List Int)(i:Nat)(v:Int):List.modify (iL l) i (fun r=>r.set 0 (AV.int v))=iL (l.set i v):=by
 induction l generalizing i with
 |nil=>cases i<;>rfl
 | cons x l ih=>
  cases i with
  |zero=>rfl
  |succ i=>
   show iR x::List.modify (iL l) i _=iR x::iL (l.set i v)
   rw[ih]
theorem QI(l:List Int)(x:Int):iL (l++[x])=iL l++[[AV.int x]]:=List.map_append
theorem dB(l:List Int):(iL l).length=l.length:=by simp
theorem inR{x:Int}(h0: -9223372036854775808<=x)(h1:x<=9223372036854775807):((decide ((-9223372036854775808)<=x))&&(decide (x<=9223372036854775807)))=true:=by
 rw[decide_eq_true h0,decide_eq_true h1];rfl
noncomputable instance (w:Wd):Decidable (WV w):=Classical.propDecidable _
noncomputable def vB (w:Wd):Bool:=decide (WV w)
theorem eJ{w:Wd}(h:WV w):vB w=true:=by unfold vB;exact decide_eq_true h
theorem aR{w:Wd}(h:¬WV w):vB w=false:=by unfold vB;exact decide_eq_false h
theorem vB_iff{w:Wd}:vB w=true↔WV w:=by unfold vB;exact decide_eq_true_iff
theorem JK{s:Int}(h0:1<=s)(h1:s<=255):∃c,0<=c/\c<=7/\has s c=true:=by
 apply Classical.byContradiction
 intro h;have:s=0:=PP (by omega) h1 (by decide) (by decide) fun c c0 c1=>by
  have h2:has 0 c=false:=by unfold has;simp
  rw[h2];cases hc:has s c with
  |false=>rfl
  |true=>exact absurd ⟨c,c0,c1,hc⟩ h
 omega
end Go.Proofs.YtgckmifmjiklmaaGreat
namespace Go.Proofs.YtgckmifmjiklmaaGreat
open Go Go.Sx
noncomputable section
abbrev cw:=Bool
abbrev fD:=Int×Int
abbrev sT:=Int×Lv×Int
abbrev tH:=Int
def wH(n:Nat)(go0:fD->Option cw)(v8:Lv)(v10 v12 v13:Int):Option cw:=
 (bif v13<(v8.length:Int) then bif 0<=v13 then bif(-9223372036854775808<=(v13+1))&&((v13+1)<=9223372036854775807)then go0 ((af v12 (cI v8 v13 0)),(v13+1))else none else none else bif(-9223372036854775808<=(v10-v12))&&((v10-v12)<=9223372036854775807)then some (decide ((v10-v12)<=1))else none)
def nf(n:Nat)(go0:fD->Option cw)(v8:Lv)(v10 v11:Int):Option cw:=
 (bif v11<(v8.length:Int) then bif 0<=v11 then bif(-9223372036854775808<=(v11+1))&&((v11+1)<=9223372036854775807)then go0 ((aq v10 (cI v8 v11 0)),(v11+1))else none else none else(aa (fun go0 s=>wH n go0 v8 v10 s.1 s.2) n (((cI v8 0 0),1):fD)))
def vV(n:Nat)(go0:sT->Option cw)(v0:Int)(v3 v4:Lv)(v7:Int)(v8:Lv)(v9:Int):Option cw:=
 (bif v9<(v3.length:Int) then bif 0<=v9 then(bif (-1000000000000)<=(cI v3 v9 0) then(bif !((cI v3 v9 0)<=1000000000000)then some false else bif v9<(v4.length:Int) then(bif 0<=(cI v4 v9 0) then(bif !((cI v4 v9 0)<=9)then some false else(bif !((IOp.f .and (IOp.f .shr v0 v9) 1)=1)then(bif !((cI v3 v9 0)=0)then some false else(bif !((cI v4 v9 0)=0)then some false else bif(-9223372036854775808<=(v7+(cI v3 v9 0)))&&((v7+(cI v3 v9 0))<=9223372036854775807)then bif(-9223372036854775808<=(v9+1))&&((v9+1)<=9223372036854775807)then go0 ((v7+(cI v3 v9 0)),v8,(v9+1))else none else none))else bif(-9223372036854775808<=(v7+(cI v3 v9 0)))&&((v7+(cI v3 v9 0))<=9223372036854775807)then bif (((v8.length:Int)+1)*8)<=140737488355328 then bif(-9223372036854775808<=(v9+1))&&((v9+1)<=9223372036854775807)then go0 ((v7+(cI v3 v9 0)),(v8++[[(AV.int (cI v4 v9 0))]]),(v9+1))else none else none else none))else some false)else none)else some false)else none else(bif v7=0 then(bif (v8.length:Int)=0 then some true else(bif (v8.length:Int)<1 then none else bif 0<(v8.length:Int) then(aa (fun go0 s=>nf n go0 v8 s.1 s.2) n (((cI v8 0 0),1):fD))else none))else some false))
def vC(n:Nat)(go0:tH->Option cw)(v0:Int)(v2 v3 v4:Lv)(v6:Int):Option cw:=
 (bif v6<(v2.length:Int) then bif 0<=v6 then bif 0<=(cI v2 v6 2) then(bif !((IOp.f .and (IOp.f .shr v0 (cI v2 v6 2)) 1)=1)then some false else bif(-9223372036854775808<=(v6+1))&&((v6+1)<=9223372036854775807)then go0 (v6+1)else none)else none else none else(aa (fun go0 s=>vV n go0 v0 v3 v4 s.1 s.2.1 s.2.2) n ((0,([]:Lv),0):sT)))
def we(n:Nat)(v0 v1:Int)(v2 v3 v4:Lv):Option cw:=
 (bif 0<=v1 then(bif !(v1<=255)then some false else(bif !((IOp.f .and v0 v1)=v0)then some false else(bif v0<0 then some false else(bif !((v3.length:Int)=8)then some false else(bif !((v4.length:Int)=8)then some false else(dk n v2).bind fun y5=>
 (bif(!y5)then some false else(aa (fun go0 s=>vC n go0 v0 v2 v3 v4 s) n (0:tH))))))))else some false)
def cS(n:Nat)(v0 v1:Int)(v2 v3 v4:Lv):Option cw:=we n v0 v1 v2 v3 v4
def merge_Valid_t:FnT:=⟨[(true,[.int,.int,tSc,tSa,tSa])],.b,fun n (s:Int×Int×Lv×Lv×Lv)=>cS n s.1 s.2.1 s.2.2.1 s.2.2.2.1 s.2.2.2.2⟩
theorem Fp:merge_Valid_t.ok Tryz.prog 18:=FnT.ok_of (cfg:=⟨[((97,2,1),.inv [(.tmp 8 .int)]),((18,8,2),.inv [(.tmp 3 .int),(.tmprow 4 3 (.cons .int .nil)),(.tmp 51 .int)]),((74,5,5),.inv [(.tmp 3 .int),(.tmp 4 .int)]),((75,5,7),.inv [(.tmp 3 .int),(.tmp 4 .int)])],aL,[],[]⟩) av rG aA (fun s fn hf=>by rw[Tryz.func18]at hf;cases hf;kernel_rfl) (fun n s=>by kernel_rfl)
def merge_Valid_T:Tab:=(18,merge_Valid_t)::block_Find_T
theorem pO:merge_Valid_T.ok Tryz.prog:=Tab.ok_cons Fp rG
abbrev iF:=Lv
def iJ(n:Nat)(v0:Lv):Option iF:=
 bif ((v0.length:Int)*8)<=140737488355328 then some v0 else none
def aC(n:Nat)(v0:Lv):Option iF:=iJ n v0
def slices_Clone___int_int_t:FnT:=⟨[(false,[tSa])],(.row 3 (.cons .int .nil)),fun n (s:Lv)=>aC n s⟩
theorem oj:slices_Clone___int_int_t.ok Tryz.prog 128:=FnT.ok_of (cfg:=⟨[],aL,[],[]⟩) av pO aA (fun s fn hf=>by rw[Tryz.func128]at hf;cases hf;kernel_rfl) (fun n s=>by kernel_rfl)
def slices_Clone___int_int_T:Tab:=(128,slices_Clone___int_int_t)::merge_Valid_T
theorem fY:slices_Clone___int_int_T.ok Tryz.prog:=Tab.ok_cons oj pO
abbrev dT:=Lv
def dV(n:Nat)(v0:Lv):Option dT:=
 bif ((v0.length:Int)*24)<=140737488355328 then some v0 else none
def aI(n:Nat)(v0:Lv):Option dT:=dV n v0
def slices_Clone___api_Block_api_Block_t:FnT:=⟨[(false,[tSc])],(.row 116 (.cons .int (.cons .int (.cons .int .nil)))),fun n (s:Lv)=>aI n s⟩
theorem ik:slices_Clone___api_Block_api_Block_t.ok Tryz.prog 127:=FnT.ok_of (cfg:=⟨[],aL,[],[]⟩) av fY aA (fun s fn hf=>by rw[Tryz.func127]at hf;cases hf;kernel_rfl) (fun n s=>by kernel_rfl)
def slices_Clone___api_Block_api_Block_T:Tab:=(127,slices_Clone___api_Block_api_Block_t)::slices_Clone___int_int_T
theorem du:slices_Clone___api_Block_api_Block_T.ok Tryz.prog:=Tab.ok_cons ik fY
abbrev er:=Lv
def jo(n:Nat)(v0:Lv):Option er:=
 bif ((v0.length:Int)*24)<=140737488355328 then some v0 else none
def eO(n:Nat)(v0:Lv):Option er:=jo n v0
def slices_Clone___api_Debt_api_Debt_t:FnT:=⟨[(false,[tSc])],(.row 114 (.cons .int (.cons .int (.cons .int .nil)))),fun n (s:Lv)=>eO n s⟩
theorem jd:slices_Clone___api_Debt_api_Debt_t.ok Tryz.prog 87:=FnT.ok_of (cfg:=⟨[],aL,[],[]⟩) av du aA (fun s fn hf=>by rw[Tryz.func87]at hf;cases hf;kernel_rfl) (fun n s=>by kernel_rfl)
def slices_Clone___api_Debt_api_Debt_T:Tab:=(87,slices_Clone___api_Debt_api_Debt_t)::slices_Clone___api_Block_api_Block_T
theorem dM:slices_Clone___api_Debt_api_Debt_T.ok Tryz.prog:=Tab.ok_cons jd du
abbrev az:=Int×Int×Lv×Lv×Lv×Int
abbrev wk:=Int
def yy(n:Nat)(v0 v1:Int)(v2 v3 v4:Lv)(v6 v7 v8 v9 v10 v11 v12:Int):Option az:=
 (bif v6<=10000000 then(bif 0<=v7 then(bif v7<=7 then(bif 0<=v8 then(bif v8<=7 then(bif 0<=v9 then(bif v9<=7 then(bif !((IOp.f .and (IOp.f .shr v0 v7) 1)=1)then some (0,0,([]:Lv),([]:Lv),([]:Lv),420)else(aI n v2).bind fun y13=>
 (aC n v3).bind fun y14=>
 (aC n v4).bind fun y15=>
 (bif(v10=0)&&(v11=0)then(bif v12=0 then(bif v9=0 then(bif (IOp.f .and (IOp.f .shr v0 v8) 1)=1 then(bif((decide (v7=v8))==true)then some (0,0,([]:Lv),([]:Lv),([]:Lv),420)else(f7 n y13 v7 v8).bind fun y16=>
 (bif !(y16.2=0)then some (0,0,([]:Lv),([]:Lv),([]:Lv),420)else bif v8<(y14.length:Int) then bif v7<(y14.length:Int) then bif(-9223372036854775808<=((cI y14 v8 0)+(cI y14 v7 0)))&&(((cI y14 v8 0)+(cI y14 v7 0))<=9223372036854775807)then bif v7<(y15.length:Int) then(cS n (IOp.f .andNot v0 (IOp.f .shl 1 v7)) v1 y16.1 (List.modify (List.modify y14 (v8).toNat (fun r=>r.set 0 (AV.int ((cI y14 v8 0)+(cI y14 v7 0))))) (v7).toNat (fun r=>r.set 0 (AV.int 0))) (List.modify y15 (v7).toNat (fun r=>r.set 0 (AV.int 0)))).bind fun y18=>
 (bif(!y18)then some (0,0,([]:Lv),([]:Lv),([]:Lv),420)else some ((IOp.f .andNot v0 (IOp.f .shl 1 v7)),v1,y16.1,(List.modify (List.modify y14 (v8).toNat (fun r=>r.set 0 (AV.int ((cI y14 v8 0)+(cI y14 v7 0))))) (v7).toNat (fun r=>r.set 0 (AV.int 0))),(List.modify y15 (v7).toNat (fun r=>r.set 0 (AV.int 0))),0))else none else none else none else none))else some (0,0,([]:Lv),([]:Lv),([]:Lv),420))else some (0,0,([]:Lv),([]:Lv),([]:Lv),420))else some (0,0,([]:Lv),([]:Lv),([]:Lv),420))else some (0,0,([]:Lv),([]:Lv),([]:Lv),420)))else some (0,0,([]:Lv),([]:Lv),([]:Lv),420))else some (0,0,([]:Lv),([]:Lv),([]:Lv),420))else some (0,0,([]:Lv),([]:Lv),([]:Lv),420))else some (0,0,([]:Lv),([]:Lv),([]:Lv),420))else some (0,0,([]:Lv),([]:Lv),([]:Lv),420))else some (0,0,([]:Lv),([]:Lv),([]:Lv),420))else some (0,0,([]:Lv),([]:Lv),([]:Lv),420))
def pC(n:Nat)(v0 v1:Int)(v2 v3 v4:Lv)(v6 v7 v8 v9 v10 v11 v12:Int):Option az:=
 (bif 0<=v6 then yy n v0 v1 v2 v3 v4 v6 v7 v8 v9 v10 v11 v12 else some (0,0,([]:Lv),([]:Lv),([]:Lv),420))
def ws(n:Nat)(v0 v1:Int)(v2 v3 v4:Lv)(v7 v8 v9 v10 v11 v12:Int):Option az:=
 (bif v9<=7 then(bif !((IOp.f .and (IOp.f .shr v0 v7) 1)=1)then some (0,0,([]:Lv),([]:Lv),([]:Lv),420)else(aI n v2).bind fun y13=>
 (aC n v3).bind fun y14=>
 (aC n v4).bind fun y15=>
 (bif 0<=v10 then(bif v10<v11 then(bif v11<=100000000 then(bif (-1000000000000)<=v12 then(bif v12<=1000000000000 then(bif v9=0 then(bif((decide ((IOp.f .and (IOp.f .shr v1 v8) 1)=1))==true)then some (0,0,([]:Lv),([]:Lv),([]:Lv),420)else(kK n y13 v10 v11).bind fun y16=>
 (bif !(y16.2=0)then some (0,0,([]:Lv),([]:Lv),([]:Lv),420)else(f7 n y16.1 v7 v8).bind fun y18=>
 (bif !(y18.2=0)then some (0,0,([]:Lv),([]:Lv),([]:Lv),420)else(gL n y13 y18.1).bind fun y20=>
 (bif !(y20.2=0)then some (0,0,([]:Lv),([]:Lv),([]:Lv),420)else bif v7<(y14.length:Int) then bif(-9223372036854775808<=((cI y14 v7 0)-v12))&&(((cI y14 v7 0)-v12)<=9223372036854775807)then bif v7<(y15.length:Int) then bif v8<(y14.length:Int) then bif v8<(y15.length:Int) then(cS n (IOp.f .or v0 (IOp.f .shl 1 v8)) (IOp.f .or v1 (IOp.f .shl 1 v8)) y20.1 (List.modify (List.modify y14 (v7).toNat (fun r=>r.set 0 (AV.int ((cI y14 v7 0)-v12)))) (v8).toNat (fun r=>r.set 0 (AV.int v12))) (List.modify y15 (v8).toNat (fun r=>r.set 0 (AV.int (cI y15 v7 0))))).bind fun y22=>
 (bif(!y22)then some (0,0,([]:Lv),([]:Lv),([]:Lv),420)else some ((IOp.f .or v0 (IOp.f .shl 1 v8)),(IOp.f .or v1 (IOp.f .shl 1 v8)),y20.1,(List.modify (List.modify y14 (v7).toNat (fun r=>r.set 0 (AV.int ((cI y14 v7 0)-v12)))) (v8).toNat (fun r=>r.set 0 (AV.int v12))),(List.modify y15 (v8).toNat (fun r=>r.set 0 (AV.int (cI y15 v7 0)))),0))else none else none else none else none else none))))else some (0,0,([]:Lv),([]:Lv),([]:Lv),420))else some (0,0,([]:Lv),([]:Lv),([]:Lv),420))else some (0,0,([]:Lv),([]:Lv),([]:Lv),420))else some (0,0,([]:Lv),([]:Lv),([]:Lv),420))else some (0,0,([]:Lv),([]:Lv),([]:Lv),420))else some (0,0,([]:Lv),([]:Lv),([]:Lv),420)))else some (0,0,([]:Lv),([]:Lv),([]:Lv),420))
def wh(n:Nat)(v0 v1:Int)(v2 v3 v4:Lv)(v7 v8 v9 v10 v11 v12:Int):Option az:=
 (bif 0<=v9 then ws n v0 v1 v2 v3 v4 v7 v8 v9 v10 v11 v12 else some (0,0,([]:Lv),([]:Lv),([]:Lv),420))
def wj(n:Nat)(v0 v1:Int)(v2 v3 v4:Lv)(v7 v8 v9 v10 v11 v12:Int):Option az:=
 (bif v8<=7 then wh n v0 v1 v2 v3 v4 v7 v8 v9 v10 v11 v12 else some (0,0,([]:Lv),([]:Lv),([]:Lv),420))
def xT(n:Nat)(v0 v1:Int)(v2 v3 v4:Lv)(v7 v8 v9 v10 v11 v12:Int):Option az:=
 (bif 0<=v8 then wj n v0 v1 v2 v3 v4 v7 v8 v9 v10 v11 v12 else some (0,0,([]:Lv),([]:Lv),([]:Lv),420))
def xX(n:Nat)(v0 v1:Int)(v2 v3 v4:Lv)(v7 v8 v9 v10 v11 v12:Int):Option az:=
 (bif v7<=7 then xT n v0 v1 v2 v3 v4 v7 v8 v9 v10 v11 v12 else some (0,0,([]:Lv),([]:Lv),([]:Lv),420))
def Ap(n:Nat)(v0 v1:Int)(v2 v3 v4:Lv)(v7 v8 v9 v10 v11 v12:Int):Option az:=
 (bif 0<=v7 then xX n v0 v1 v2 v3 v4 v7 v8 v9 v10 v11 v12 else some (0,0,([]:Lv),([]:Lv),([]:Lv),420))
def yh(n:Nat)(v0 v1:Int)(v2 v3 v4:Lv)(v6 v7 v8 v9 v10 v11 v12:Int):Option az:=
 (bif v6<=10000000 then Ap n v0 v1 v2 v3 v4 v7 v8 v9 v10 v11 v12 else some (0,0,([]:Lv),([]:Lv),([]:Lv),420))
def qj(n:Nat)(v0 v1:Int)(v2 v3 v4:Lv)(v6 v7 v8 v9 v10 v11 v12:Int):Option az:=
 (bif 0<=v6 then yh n v0 v1 v2 v3 v4 v6 v7 v8 v9 v10 v11 v12 else some (0,0,([]:Lv),([]:Lv),([]:Lv),420))
def wa(n:Nat)(v0 v1 v7 v8 v9 v10 v11 v12:Int)(v13 v14 v15:Lv):Option az:=
 (bif (IOp.f .and (IOp.f .shr v0 v8) 1)=1 then(bif (IOp.f .and (IOp.f .shr v0 v9) 1)=1 then(bif !(v7=v8)then(bif((decide (v7=v9))==true)then some (0,0,([]:Lv),([]:Lv),([]:Lv),420)else(kK n v13 v10 v11).bind fun y16=>
 (bif !(y16.2=0)then some (0,0,([]:Lv),([]:Lv),([]:Lv),420)else(f7 n y16.1 v7 v8).bind fun y18=>
 (bif !(y18.2=0)then some (0,0,([]:Lv),([]:Lv),([]:Lv),420)else(f7 n v13 v7 v9).bind fun y20=>
 (bif !(y20.2=0)then some (0,0,([]:Lv),([]:Lv),([]:Lv),420)else(gL n y20.1 y18.1).bind fun y22=>
 (bif !(y22.2=0)then some (0,0,([]:Lv),([]:Lv),([]:Lv),420)else bif v8<(v14.length:Int) then bif(-9223372036854775808<=((cI v14 v8 0)+v12))&&(((cI v14 v8 0)+v12)<=9223372036854775807)then bif v9<(v14.length:Int) then bif v7<(v14.length:Int) then bif(-9223372036854775808<=((cI (List.modify v14 (v8).toNat (fun r=>r.set 0 (AV.int ((cI v14 v8 0)+v12)))) v7 0)-v12))&&(((cI (List.modify v14 (v8).toNat (fun r=>r.set 0 (AV.int ((cI v14 v8 0)+v12)))) v7 0)-v12)<=9223372036854775807)then bif(-9223372036854775808<=((cI (List.modify v14 (v8).toNat (fun r=>r.set 0 (AV.int ((cI v14 v8 0)+v12)))) v9 0)+((cI (List.modify v14 (v8).toNat (fun r=>r.set 0 (AV.int ((cI v14 v8 0)+v12)))) v7 0)-v12)))&&(((cI (List.modify v14 (v8).toNat (fun r=>r.set 0 (AV.int ((cI v14 v8 0)+v12)))) v9 0)+((cI (List.modify v14 (v8).toNat (fun r=>r.set 0 (AV.int ((cI v14 v8 0)+v12)))) v7 0)-v12))<=9223372036854775807)then bif v7<(v15.length:Int) then(cS n (IOp.f .andNot v0 (IOp.f .shl 1 v7)) v1 y22.1 (List.modify (List.modify (List.modify v14 (v8).toNat (fun r=>r.set 0 (AV.int ((cI v14 v8 0)+v12)))) (v9).toNat (fun r=>r.set 0 (AV.int ((cI (List.modify v14 (v8).toNat (fun r=>r.set 0 (AV.int ((cI v14 v8 0)+v12)))) v9 0)+((cI (List.modify v14 (v8).toNat (fun r=>r.set 0 (AV.int ((cI v14 v8 0)+v12)))) v7 0)-v12))))) (v7).toNat (fun r=>r.set 0 (AV.int 0))) (List.modify v15 (v7).toNat (fun r=>r.set 0 (AV.int 0)))).bind fun y24=>
 (bif(!y24)then some (0,0,([]:Lv),([]:Lv),([]:Lv),420)else some ((IOp.f .andNot v0 (IOp.f .shl 1 v7)),v1,y22.1,(List.modify (List.modify (List.modify v14 (v8).toNat (fun r=>r.set 0 (AV.int ((cI v14 v8 0)+v12)))) (v9).toNat (fun r=>r.set 0 (AV.int ((cI (List.modify v14 (v8).toNat (fun r=>r.set 0 (AV.int ((cI v14 v8 0)+v12)))) v9 0)+((cI (List.modify v14 (v8).toNat (fun r=>r.set 0 (AV.int ((cI v14 v8 0)+v12)))) v7 0)-v12))))) (v7).toNat (fun r=>r.set 0 (AV.int 0))),(List.modify v15 (v7).toNat (fun r=>r.set 0 (AV.int 0))),0))else none else none else none else none else none else none else none)))))else some (0,0,([]:Lv),([]:Lv),([]:Lv),420))else some (0,0,([]:Lv),([]:Lv),([]:Lv),420))else some (0,0,([]:Lv),([]:Lv),([]:Lv),420))
def wn(n:Nat)(v0 v1 v7 v8 v9 v10 v11 v12:Int)(v13 v14 v15:Lv):Option az:=
 (bif v12<=1000000000000 then wa n v0 v1 v7 v8 v9 v10 v11 v12 v13 v14 v15 else some (0,0,([]:Lv),([]:Lv),([]:Lv),420))
def vN(n:Nat)(v0 v1 v7 v8 v9 v10 v11 v12:Int)(v13 v14 v15:Lv):Option az:=
 (bif (-1000000000000)<=v12 then wn n v0 v1 v7 v8 v9 v10 v11 v12 v13 v14 v15 else some (0,0,([]:Lv),([]:Lv),([]:Lv),420))
def wg(n:Nat)(v0 v1 v7 v8 v9 v10 v11 v12:Int)(v13 v14 v15:Lv):Option az:=
 (bif v11<=100000000 then vN n v0 v1 v7 v8 v9 v10 v11 v12 v13 v14 v15 else some (0,0,([]:Lv),([]:Lv),([]:Lv),420))
def wB(n:Nat)(v0 v1 v7 v8 v9 v10 v11 v12:Int)(v13 v14 v15:Lv):Option az:=
 (bif v10<v11 then wg n v0 v1 v7 v8 v9 v10 v11 v12 v13 v14 v15 else some (0,0,([]:Lv),([]:Lv),([]:Lv),420))
def wV(n:Nat)(v0 v1 v7 v8 v9 v10 v11 v12:Int)(v13 v14 v15:Lv):Option az:=
 (bif 0<=v10 then wB n v0 v1 v7 v8 v9 v10 v11 v12 v13 v14 v15 else some (0,0,([]:Lv),([]:Lv),([]:Lv),420))
def wA(n:Nat)(v0 v1:Int)(v2 v3 v4:Lv)(v7 v8 v9 v10 v11 v12:Int):Option az:=
 (bif !((IOp.f .and (IOp.f .shr v0 v7) 1)=1)then some (0,0,([]:Lv),([]:Lv),([]:Lv),420)else(aI n v2).bind fun y13=>
 (aC n v3).bind fun y14=>
 (aC n v4).bind fun y15=>
 wV n v0 v1 v7 v8 v9 v10 v11 v12 y13 y14 y15)
def vG(n:Nat)(v0 v1:Int)(v2 v3 v4:Lv)(v7 v8 v9 v10 v11 v12:Int):Option az:=
 (bif v9<=7 then wA n v0 v1 v2 v3 v4 v7 v8 v9 v10 v11 v12 else some (0,0,([]:Lv),([]:Lv),([]:Lv),420))
def vW(n:Nat)(v0 v1:Int)(v2 v3 v4:Lv)(v7 v8 v9 v10 v11 v12:Int):Option az:=
 (bif 0<=v9 then vG n v0 v1 v2 v3 v4 v7 v8 v9 v10 v11 v12 else some (0,0,([]:Lv),([]:Lv),([]:Lv),420))
def wN(n:Nat)(v0 v1:Int)(v2 v3 v4:Lv)(v7 v8 v9 v10 v11 v12:Int):Option az:=
 (bif v8<=7 then vW n v0 v1 v2 v3 v4 v7 v8 v9 v10 v11 v12 else some (0,0,([]:Lv),([]:Lv),([]:Lv),420))
def w8(n:Nat)(v0 v1:Int)(v2 v3 v4:Lv)(v7 v8 v9 v10 v11 v12:Int):Option az:=
 (bif 0<=v8 then wN n v0 v1 v2 v3 v4 v7 v8 v9 v10 v11 v12 else some (0,0,([]:Lv),([]:Lv),([]:Lv),420))
def wF(n:Nat)(v0 v1:Int)(v2 v3 v4:Lv)(v7 v8 v9 v10 v11 v12:Int):Option az:=
 (bif v7<=7 then w8 n v0 v1 v2 v3 v4 v7 v8 v9 v10 v11 v12 else some (0,0,([]:Lv),([]:Lv),([]:Lv),420))
def xh(n:Nat)(v0 v1:Int)(v2 v3 v4:Lv)(v7 v8 v9 v10 v11 v12:Int):Option az:=
 (bif 0<=v7 then wF n v0 v1 v2 v3 v4 v7 v8 v9 v10 v11 v12 else some (0,0,([]:Lv),([]:Lv),([]:Lv),420))
def vJ(n:Nat)(v0 v1:Int)(v2 v3 v4:Lv)(v6 v7 v8 v9 v10 v11 v12:Int):Option az:=
 (bif v6<=10000000 then xh n v0 v1 v2 v3 v4 v7 v8 v9 v10 v11 v12 else some (0,0,([]:Lv),([]:Lv),([]:Lv),420))
def m5(n:Nat)(v0 v1:Int)(v2 v3 v4:Lv)(v6 v7 v8 v9 v10 v11 v12:Int):Option az:=
 (bif 0<=v6 then vJ n v0 v1 v2 v3 v4 v6 v7 v8 v9 v10 v11 v12 else some (0,0,([]:Lv),([]:Lv),([]:Lv),420))
def xq(n:Nat)(go0:wk->Option az)(v0 v1 v7:Int)(v13 v14 v15:Lv)(v16:Int):Option az:=
 (bif v16<(v15.length:Int) then bif 0<=v16 then(bif !((IOp.f .and (IOp.f .shr v0 v16) 1)=1)then bif(-9223372036854775808<=(v16+1))&&((v16+1)<=9223372036854775807)then go0 (v16+1)else none else bif v7<(v15.length:Int) then(bif !((cI v15 v7 0)<=(cI v15 v16 0))then some (0,0,([]:Lv),([]:Lv),([]:Lv),420)else bif(-9223372036854775808<=(v16+1))&&((v16+1)<=9223372036854775807)then go0 (v16+1)else none)else none)else none else bif v7<(v15.length:Int) then bif(-9223372036854775808<=((cI v15 v7 0)+1))&&(((cI v15 v7 0)+1)<=9223372036854775807)then(cS n v0 v1 v13 v14 (List.modify v15 (v7).toNat (fun r=>r.set 0 (AV.int ((cI v15 v7 0)+1))))).bind fun y17=>
 (bif(!y17)then some (0,0,([]:Lv),([]:Lv),([]:Lv),420)else some (v0,v1,v13,v14,(List.modify v15 (v7).toNat (fun r=>r.set 0 (AV.int ((cI v15 v7 0)+1)))),0))else none else none)
def vK(n:Nat)(v0 v1:Int)(v2 v3 v4:Lv)(v6 v7 v8 v9 v10 v11 v12:Int):Option az:=
 (bif v6<=10000000 then(bif 0<=v7 then(bif v7<=7 then(bif 0<=v8 then(bif v8<=7 then(bif 0<=v9 then(bif v9<=7 then(bif !((IOp.f .and (IOp.f .shr v0 v7) 1)=1)then some (0,0,([]:Lv),([]:Lv),([]:Lv),420)else(aI n v2).bind fun y13=>
 (aC n v3).bind fun y14=>
 (aC n v4).bind fun y15=>
 (bif(v10=0)&&(v11=0)then(bif v12=0 then(bif v8=0 then(bif !(v9=0)then some (0,0,([]:Lv),([]:Lv),([]:Lv),420)else(aa (fun go0 s=>xq n go0 v0 v1 v7 y13 y14 y15 s) n (0:wk)))else some (0,0,([]:Lv),([]:Lv),([]:Lv),420))else some (0,0,([]:Lv),([]:Lv),([]:Lv),420))else some (0,0,([]:Lv),([]:Lv),([]:Lv),420)))else some (0,0,([]:Lv),([]:Lv),([]:Lv),420))else some (0,0,([]:Lv),([]:Lv),([]:Lv),420))else some (0,0,([]:Lv),([]:Lv),([]:Lv),420))else some (0,0,([]:Lv),([]:Lv),([]:Lv),420))else some (0,0,([]:Lv),([]:Lv),([]:Lv),420))else some (0,0,([]:Lv),([]:Lv),([]:Lv),420))else some (0,0,([]:Lv),([]:Lv),([]:Lv),420))
def ng(n:Nat)(v0 v1:Int)(v2 v3 v4:Lv)(v6 v7 v8 v9 v10 v11 v12:Int):Option az:=
 (bif 0<=v6 then vK n v0 v1 v2 v3 v4 v6 v7 v8 v9 v10 v11 v12 else some (0,0,([]:Lv),([]:Lv),([]:Lv),420))
def wJ(n:Nat)(v0 v1:Int)(v2 v3 v4:Lv)(v5 v6 v7 v8 v9 v10 v11 v12:Int):Option az:=
 (bif v5=4 then ng n v0 v1 v2 v3 v4 v6 v7 v8 v9 v10 v11 v12 else some (0,0,([]:Lv),([]:Lv),([]:Lv),420))
def ww(n:Nat)(v0 v1:Int)(v2 v3 v4:Lv)(v5 v6 v7 v8 v9 v10 v11 v12:Int):Option az:=
 (bif v5=3 then m5 n v0 v1 v2 v3 v4 v6 v7 v8 v9 v10 v11 v12 else wJ n v0 v1 v2 v3 v4 v5 v6 v7 v8 v9 v10 v11 v12)
def yd(n:Nat)(v0 v1:Int)(v2 v3 v4:Lv)(v5 v6 v7 v8 v9 v10 v11 v12:Int):Option az:=
 (bif v5=2 then qj n v0 v1 v2 v3 v4 v6 v7 v8 v9 v10 v11 v12 else ww n v0 v1 v2 v3 v4 v5 v6 v7 v8 v9 v10 v11 v12)
def ze(n:Nat)(v0 v1:Int)(v2 v3 v4:Lv)(v5 v6 v7 v8 v9 v10 v11 v12:Int):Option az:=
 (bif v5=1 then pC n v0 v1 v2 v3 v4 v6 v7 v8 v9 v10 v11 v12 else yd n v0 v1 v2 v3 v4 v5 v6 v7 v8 v9 v10 v11 v12)
def kO(n:Nat)(v0 v1:Int)(v2 v3 v4:Lv)(v5 v6 v7 v8 v9 v10 v11 v12:Int):Option az:=ze n v0 v1 v2 v3 v4 v5 v6 v7 v8 v9 v10 v11 v12
def merge_step_t:FnT:=⟨[(true,[.int,.int,tSc,tSa,tSa]),(true,[.int,.int,.int,.int,.int,.int,.int,.int])],(.tup (.cons (.agg (.cons .i (.cons .i (.cons (.row 116 (.cons .int (.cons .int (.cons .int .nil)))) (.cons (.row 3 (.cons .int .nil)) (.cons (.row 3 (.cons .int .nil)) .nil)))))) (.cons .i .nil))),fun n (s:Int×Int×Lv×Lv×Lv×Int×Int×Int×Int×Int×Int×Int×Int)=>kO n s.1 s.2.1 s.2.2.1 s.2.2.2.1 s.2.2.2.2.1 s.2.2.2.2.2.1 s.2.2.2.2.2.2.1 s.2.2.2.2.2.2.2.1 s.2.2.2.2.2.2.2.2.1 s.2.2.2.2.2.2.2.2.2.1 s.2.2.2.2.2.2.2.2.2.2.1 s.2.2.2.2.2.2.2.2.2.2.2.1 s.2.2.2.2.2.2.2.2.2.2.2.2⟩
theorem HQ:merge_step_t.ok Tryz.prog 62:=FnT.ok_of (cfg:=⟨[((170,3,21),.inv [(.tmp 25 .int)])],aL,[],[]⟩) av dM aA (fun s fn hf=>by rw[Tryz.func62]at hf;cases hf;kernel_rfl) (fun n s=>by kernel_rfl)
def merge_step_T:Tab:=(62,merge_step_t)::slices_Clone___api_Debt_api_Debt_T
theorem qK:merge_step_T.ok Tryz.prog:=Tab.ok_cons HQ dM
abbrev yI:=Int×Int×Lv×Lv×Lv×Int
def IY(n:Nat)(v0 v1:Int)(v2 v3 v4:Lv)(v5 v6 v7 v8 v9 v10 v11 v12:Int):Option yI:=
 (cS n v0 v1 v2 v3 v4).bind fun y13=>
 (bif(!y13)then some (0,0,([]:Lv),([]:Lv),([]:Lv),420)else(kO n v0 v1 v2 v3 v4 v5 v6 v7 v8 v9 v10 v11 v12).bind fun y14=>
 some (y14.1,y14.2.1,y14.2.2.1,y14.2.2.2.1,y14.2.2.2.2.1,y14.2.2.2.2.2))
def DP(n:Nat)(v0 v1:Int)(v2 v3 v4:Lv)(v5 v6 v7 v8 v9 v10 v11 v12:Int):Option yI:=IY n v0 v1 v2 v3 v4 v5 v6 v7 v8 v9 v10 v11 v12
def merge_Step_t:FnT:=⟨[(true,[.int,.int,tSc,tSa,tSa]),(true,[.int,.int,.int,.int,.int,.int,.int,.int])],(.tup (.cons (.agg (.cons .i (.cons .i (.cons (.row 116 (.cons .int (.cons .int (.cons .int .nil)))) (.cons (.row 3 (.cons .int .nil)) (.cons (.row 3 (.cons .int .nil)) .nil)))))) (.cons .i .nil))),fun n (s:Int×Int×Lv×Lv×Lv×Int×Int×Int×Int×Int×Int×Int×Int)=>DP n s.1 s.2.1 s.2.2.1 s.2.2.2.1 s.2.2.2.2.1 s.2.2.2.2.2.1 s.2.2.2.2.2.2.1 s.2.2.2.2.2.2.2.1 s.2.2.2.2.2.2.2.2.1 s.2.2.2.2.2.2.2.2.2.1 s.2.2.2.2.2.2.2.2.2.2.1 s.2.2.2.2.2.2.2.2.2.2.2.1 s.2.2.2.2.2.2.2.2.2.2.2.2⟩
theorem GY:merge_Step_t.ok Tryz.prog 16:=FnT.ok_of (cfg:=⟨[],aL,[],[]⟩) av qK aA (fun s fn hf=>by rw[Tryz.func16]at hf;cases hf;kernel_rfl) (fun n s=>by kernel_rfl)
def merge_Step_T:Tab:=(16,merge_Step_t)::merge_step_T
theorem rC:merge_Step_T.ok Tryz.prog:=Tab.ok_cons GY qK
end
open Go.Dial.Blk Go.Dial.Mrg
def lvs(w:Wd)(i:Nat):List Int:=((List.range i).filter (fun c:Nat=>has w.al (c:Int))).map (fun c:Nat=>g w.le (c:Int))
theorem Jv(w:Wd)(i:Nat):lvs w (i+1)=if has w.al (i:Int)then lvs w i++[g w.le (i:Int)]else lvs w i:=by
 unfold lvs;rw[List.range_succ,List.filter_append,List.map_append];by_cases h:has w.al (i:Int)=true
 ·simp[h]
 ·simp[h]
theorem sR(w:Wd)(i:Nat)(y:Int):y∈lvs w i↔∃c:Nat,c<i/\has w.al (c:Int)=true/\g w.le (c:Int)=y:=by
 unfold lvs;simp only[List.mem_map,List.mem_filter,List.mem_range];constructor
 ·rintro ⟨c,⟨h1,h2⟩,h3⟩;exact⟨c,h1,h2,h3⟩
 ·rintro ⟨c,h1,h2,h3⟩;exact⟨c,⟨h1,h2⟩,h3⟩
theorem Lc(w:Wd)(i:Nat):(lvs w i).length<=i:=by
 unfold lvs;rw[List.length_map];have:=List.length_filter_le (fun c=>has w.al ((c:Nat):Int)) (List.range i)
 rw[List.length_range]at this;exact this
theorem N5(w:Wd):(∀c d,0<=c->c<=7->0<=d->d<=7->has w.al c=true->has w.al d=true->g w.le c-g w.le d<=1)↔∀x∈lvs w 8,∀y∈lvs w 8,x-y<=1:=by
 constructor
 ·intro h x hx y hy
  obtain⟨c,c1,c2,rfl⟩:=(sR w 8 x).1 hx;obtain⟨d,d1,d2,rfl⟩:=(sR w 8 y).1 hy;exact h c d (by omega) (by omega) (by omega) (by omega) c2 d2
 ·intro h c d c0 c1 d0 d1 hc hd
  have ec:((c.toNat:Nat):Int)=c:=Int.toNat_of_nonneg c0
  have ed:((d.toNat:Nat):Int)=d:=Int.toNat_of_nonneg d0
  refine h _ ((sR w 8 _).2 ⟨c.toNat,by omega,by rw[ec];exact hc,by rw[ec]⟩) _ ((sR w 8 _).2 ⟨d.toNat,by omega,by rw[ed];exact hd,by rw[ed]⟩)
theorem Km(n:Nat)(L:List Int)(hL:0<L.length)(h8:L.length<=8)(hb:∀x∈L,0<=x/\x<=9)(hn:10<n):
  (aa (fun go0 s=>nf n go0 (iL L) s.1 s.2) n (((cI (iL L) 0 0),1):fD))=some (decide (∀x∈L,∀y∈L,x-y<=1)):=by
 obtain⟨x0,hx0⟩:=aD hL;have h00:cI (iL L) 0 0=x0:=qY (i:=0) hx0
 have hm0:=List.mem_of_getElem? hx0;have hone:∀(j:Nat) (x:Int),j<1->L[j]?=some x->x=x0:=fun j x hj hx=>by
  have:j=0:=by omega
  subst this;rw[hx0]at hx;cases hx;rfl
 rw[h00];have hlen:=dB L;refine ar (fun s=>∃(i:Nat) (M:Int),s=(M,(i:Int))/\i<=L.length/\M∈L/\∀j x,j<i->L[j]?=some x->x<=M) (fun s=>L.length-s.2.toNat) _ ?_ n _ ⟨1,x0,rfl,by omega,hm0,fun j x hj hx=>Int.le_of_eq (hone j x hj hx)⟩ (by simp;omega)
 rintro _ go ⟨i,M,rfl,hi,hM,hmax⟩ ih;simp only at ih⊢
 unfold nf;by_cases hlt:i<L.length
 ·obtain⟨x,hx⟩:=aD hlt
  rw[decide_eq_true (by omega:(i:Int)<((iL L).length:Int)),cond_true,decide_eq_true (by omega:(0:Int)<=(i:Int)),cond_true,inR (by omega) (by omega),cond_true,qY hx]
  refine ih _ ⟨i+1,aq M x,by simp,by omega,?_,fun j y hj hy=>?_⟩ (by first|omega|(simp only;omega))
  ·unfold aq;split
   ·exact List.mem_of_getElem? hx
   ·exact hM
  ·have:y<=M\/y=x:=by
    by_cases h:j<i
    ·exact .inl (hmax j y h hy)
    ·have:j=i:=by omega
     subst this;rw[hx]at hy;cases hy;exact .inr rfl
   unfold aq;split<;>omega
 ·rw [decide_eq_false (by omega:¬(i:Int)<((iL L).length:Int)),cond_false,h00]
  have hmax':∀x∈L,x<=M:=fun x hx=>by
   obtain⟨j,hj⟩:=List.getElem?_of_mem hx;exact hmax j x (by have:=(List.getElem?_eq_some_iff.1 hj).1;omega) hj
  clear ih
  refine ar (fun s=>∃(i:Nat) (m:Int),s=(m,(i:Int))/\i<=L.length/\m∈L/\∀j x,j<i->L[j]?=some x->m<=x) (fun s=>L.length-s.2.toNat) _ ?_ n _ ⟨1,x0,rfl,by omega,hm0,fun j x hj hx=>Int.le_of_eq (hone j x hj hx).symm⟩ (by simp;omega)
  rintro _ go ⟨i,m,rfl,hi,hm,hmin⟩ ih;simp only at ih⊢
  unfold wH;by_cases hlt:i<L.length
  ·obtain⟨x,hx⟩:=aD hlt
   rw[decide_eq_true (by omega:(i:Int)<((iL L).length:Int)),cond_true,decide_eq_true (by omega:(0:Int)<=(i:Int)),cond_true,inR (by omega) (by omega),cond_true,qY hx]
   refine ih _ ⟨i+1,af m x,by simp,by omega,?_,fun j y hj hy=>?_⟩ (by first|omega|(simp only;omega))
   ·unfold af;split
    ·exact List.mem_of_getElem? hx
    ·exact hm
   ·have:m<=y\/y=x:=by
     by_cases h:j<i
     ·exact .inl (hmin j y h hy)
     ·have:j=i:=by omega
      subst this;rw[hx]at hy;cases hy;exact .inr rfl
    unfold af;split<;>omega
  ·have hmin':∀x∈L,m<=x:=fun x hx=>by
    obtain⟨j,hj⟩:=List.getElem?_of_mem hx;exact hmin j x (by have:=(List.getElem?_eq_some_iff.1 hj).1;omega) hj
   have q1:=hb M hM;have q2:=hb m hm;rw[decide_eq_false (by omega:¬(i:Int)<((iL L).length:Int)),cond_false,inR (by omega) (by omega),cond_true]
   congr 1
   rw[decide_eq_decide];constructor
   ·intro h x hx y hy
    have:=hmax' x hx;have:=hmin' y hy;omega
   ·intro h;exact h M hM m hm
theorem gJ(n:Nat)(w:Wd)(ha:ae w.al)(hn:50<n):cS n w.al w.ev (bL w.bl) (iL w.ba) (iL w.le)=some (vB w):=by
 unfold cS we;by_cases e0:0<=w.ev
 case neg=>rw[decide_eq_false e0,cond_false,aR (fun h=>e0 h.e0)]
 rw[decide_eq_true e0,cond_true];by_cases e1:w.ev<=255
 case neg=>rw[decide_eq_false e1,Bool.not_false,cond_true,aR (fun h=>e1 h.e1)]
 rw[decide_eq_true e1,Bool.not_true,cond_false];by_cases a0:0<=w.al
 case neg=>
  rw[decide_eq_true (by omega:w.al<0),aR (fun h=>a0 h.a0)]
  cases decide (IOp.f .and w.al w.ev=w.al)<;>rfl
 have hand:=Px a0 ha.2 e0 e1;by_cases hs:lA w.al w.ev
 case neg=>rw[decide_eq_false (fun h=>hs (hand.1 h)),Bool.not_false,cond_true,aR (fun h=>hs h.sub)]
 rw[decide_eq_true (hand.2 hs),Bool.not_true,cond_false,decide_eq_false (by omega:¬w.al<0),cond_false]
 have a1:w.al<=255:=by
  have h1:=hs;unfold lA at h1;have:w.al.toNat &&& w.ev.toNat<=w.ev.toNat:=Nat.and_le_right
  omega
 rw[dB,dB];by_cases l1:w.ba.length=8
 case neg=>rw[decide_eq_false (by omega),Bool.not_false,cond_true,aR (fun h=>l1 h.bal)]
 rw[decide_eq_true (by omega),Bool.not_true,cond_false]
 by_cases l2:w.le.length=8
 case neg=>rw[decide_eq_false (by omega),Bool.not_false,cond_true,aR (fun h=>l2 h.lel)]
 rw[decide_eq_true (by omega),Bool.not_true,cond_false,gC n w.bl (by omega),Option.bind_some]
 by_cases hv:vldB w.bl=true
 case neg=>
  have:vldB w.bl=false:=by simpa using hv
  rw[this,Bool.not_false,cond_true,aR (fun h=>hv ((db _).2 ⟨h.few,h.can⟩))]
 rw[hv,Bool.not_true,cond_false];obtain⟨hfew,hcan⟩:=(db _).1 hv;have il1:((iL w.ba).length:Int)=8:=by rw[dB,l1];rfl
 have il2:((iL w.le).length:Int)=8:=by rw[dB,l2];rfl
 refine ar (fun s=>∃i:Nat,s=(i:Int)/\i<=w.bl.length/\∀(j:Nat) b,j<i->w.bl[j]?=some b->has w.al b.c=true) (fun s=>w.bl.length-s.toNat) _ ?_ n _ ⟨0,rfl,by omega,fun j b hj=>by omega⟩ (by simp;omega)
 rintro _ go ⟨i,rfl,hi,hown⟩ ih;unfold vC;by_cases hlt:i<w.bl.length
 ·obtain⟨b,hb⟩:=aD hlt
  obtain⟨g0,g1,g2⟩:=ij hb;have hbm:=List.mem_of_getElem? hb;have hbd:=mL hcan hbm;rw[decide_eq_true (by rw[List.length_map];omega:(i:Int)<((bL w.bl).length:Int)),cond_true,decide_eq_true (by omega:(0:Int)<=(i:Int)),cond_true,g2,decide_eq_true (by omega:0<=b.c),cond_true,fQ a0 a1 (by omega) (by omega)]
  by_cases hh:has w.al b.c=true
  ·rw[hh,Bool.not_true,cond_false,inR (by omega) (by omega),cond_true]
   refine ih _ ⟨i+1,by simp,by omega,fun j c hj hc=>?_⟩ (by first|omega|(simp only;omega))
   by_cases h:j<i
   ·exact hown j c h hc
   ·have:j=i:=by omega
    subst this;rw[hb]at hc;cases hc;exact hh
  ·have hh':has w.al b.c=false:=by simpa using hh
   rw[hh',Bool.not_false,cond_true,aR (fun h=>hh (h.own b hbm))]
 ·rw [decide_eq_false (by rw[List.length_map];omega:¬(i:Int)<((bL w.bl).length:Int)),cond_false]
  have hown':∀b∈w.bl,has w.al b.c=true:=fun b hb=>by
   obtain⟨j,hj⟩:=List.getElem?_of_mem hb;exact hown j b (by have:=(List.getElem?_eq_some_iff.1 hj).1;omega) hj
  clear ih
  refine ar (fun s=>∃i:Nat,s=((w.ba.take i).sum,iL (lvs w i),(i:Int))/\i<=8/\ -1000000000000*(i:Int)<=(w.ba.take i).sum/\(w.ba.take i).sum<=1000000000000*(i:Int)
   ∧ ∀c,0<=c->c<(i:Int)->(-1000000000000<=g w.ba c/\g w.ba c<=1000000000000)/\(0<=g w.le c/\g w.le c<=9)/\(has w.al c=false->g w.ba c=0/\g w.le c=0)) (fun s=>8-s.2.2.toNat) _ ?_ n _ ⟨0,rfl,by omega,by simp,by simp,fun c h0 h1=>by omega⟩ (by first|omega|(simp only;omega))
  rintro _ go ⟨i,rfl,hi,hs1,hs2,hok⟩ ih;simp only at ih⊢
  unfold vV;by_cases hlt:i<8
  ·have i0:(0:Int)<=(i:Int):=by omega
   have i7:(i:Int)<=7:=by omega
   obtain⟨x,hx⟩:=aD (l:=w.ba) (i:=i) (by omega)
   have hgx:g w.ba (i:Int)=x:=by unfold g;rw[Int.toNat_natCast,List.getD_eq_getElem?_getD,hx];rfl
   have htk:(w.ba.take (i+1)).sum=(w.ba.take i).sum+g w.ba (i:Int):=by rw[bV hx,List.sum_append,hgx];simp
   have hll:=Lc w i;rw[decide_eq_true (by omega:(i:Int)<((iL w.ba).length:Int)),cond_true,decide_eq_true i0,cond_true,cc l1 i0 i7,cc l2 i0 i7]
   by_cases b0: -1000000000000<=g w.ba (i:Int)
   case neg=>rw[decide_eq_false b0,cond_false,aR (fun h=>b0 (h.b0 _ i0 i7).1)]
   rw[decide_eq_true b0,cond_true];by_cases b1:g w.ba (i:Int)<=1000000000000
   case neg=>rw[decide_eq_false b1,Bool.not_false,cond_true,aR (fun h=>b1 (h.b0 _ i0 i7).2)]
   rw[decide_eq_true b1,Bool.not_true,cond_false,decide_eq_true (by omega:(i:Int)<((iL w.le).length:Int)),cond_true]
   by_cases k0:0<=g w.le (i:Int)
   case neg=>rw[decide_eq_false k0,cond_false,aR (fun h=>k0 (h.l0 _ i0 i7).1)]
   rw[decide_eq_true k0,cond_true];by_cases k1:g w.le (i:Int)<=9
   case neg=>rw[decide_eq_false k1,Bool.not_false,cond_true,aR (fun h=>k1 (h.l0 _ i0 i7).2)]
   rw[decide_eq_true k1,Bool.not_true,cond_false,fQ a0 a1 i0 i7];have hok':(has w.al (i:Int)=false->g w.ba (i:Int)=0/\g w.le (i:Int)=0)->∀c,0<=c->c<((i+1:Nat):Int)->(-1000000000000<=g w.ba c/\g w.ba c<=1000000000000)/\(0<=g w.le c/\g w.le c<=9)/\(has w.al c=false->g w.ba c=0/\g w.le c=0):=fun hd c c0 c1=>by
    by_cases hc:c<(i:Int)
    ·exact hok c c0 hc
    ·have:c=(i:Int):=by omega
     subst this;exact⟨⟨b0,b1⟩,⟨k0,k1⟩,hd⟩
   have esucc:((i+1:Nat):Int)=(i:Int)+1:=by omega
   by_cases hh:has w.al (i:Int)=true
   ·have hgo:=ih _ ⟨i+1,rfl,by omega,by rw[htk,esucc];omega,by rw[htk,esucc];omega,hok' (fun h=>by rw[hh]at h;cases h)⟩ (by first|omega|(simp only;omega))
    rw[htk,Jv,if_pos hh,esucc,QI]at hgo;rw[hh,Bool.not_true,cond_false,inR (by omega) (by omega),cond_true,decide_eq_true (by rw[dB];omega:(((iL (lvs w i)).length:Int)+1)*8<=140737488355328),cond_true,inR (by omega) (by omega),cond_true]
    exact hgo
   ·have hh':has w.al (i:Int)=false:=by simpa using hh
    rw[hh',Bool.not_false,cond_true];by_cases z0:g w.ba (i:Int)=0
    case neg=>rw[decide_eq_false z0,Bool.not_false,cond_true,aR (fun h=>z0 (h.dead _ i0 i7 hh').1)]
    rw[decide_eq_true z0,Bool.not_true,cond_false];by_cases z1:g w.le (i:Int)=0
    case neg=>rw[decide_eq_false z1,Bool.not_false,cond_true,aR (fun h=>z1 (h.dead _ i0 i7 hh').2)]
    have hgo:=ih _ ⟨i+1,rfl,by omega,by rw[htk,esucc];omega,by rw[htk,esucc];omega,hok' (fun h=>⟨z0,z1⟩)⟩ (by first|omega|(simp only;omega))
    rw[htk,Jv,if_neg hh,esucc]at hgo;rw[decide_eq_true z1,Bool.not_true,cond_false,inR (by omega) (by omega),cond_true,inR (by omega) (by omega),cond_true]
    exact hgo
  ·have hi8:i=8:=by omega
   subst hi8;have htk:w.ba.take 8=w.ba:=List.take_of_length_le (by omega)
   rw[decide_eq_false (by omega:¬((8:Nat):Int)<((iL w.ba).length:Int)),cond_false,htk]
   by_cases hz:w.ba.sum=0
   case neg=>rw[decide_eq_false hz,cond_false,aR (fun h=>hz h.sum)]
   rw[decide_eq_true hz,cond_true];have hvB:vB w=decide (∀x∈lvs w 8,∀y∈lvs w 8,x-y<=1):=by
    unfold vB;rw[decide_eq_decide,<-N5];refine⟨fun h=>h.near,fun h=>⟨e0,e1,a0,hs,l1,l2,hcan,hfew,hown',fun c c0 c1=>(hok c c0 (by omega)).1,fun c c0 c1=>(hok c c0 (by omega)).2.1,fun c c0 c1=>(hok c c0 (by omega)).2.2,hz,h⟩⟩
   have hbd:∀x∈lvs w 8,0<=x/\x<=9:=fun x hx=>by
    obtain⟨c,c1,c2,rfl⟩:=(sR w 8 x).1 hx;exact(hok c (by omega) (by omega)).2.1
   have hll:=Lc w 8;have hlen:=dB (lvs w 8);rw[hvB];by_cases hnil:(lvs w 8).length=0
   ·have:lvs w 8=[]:=List.length_eq_zero_iff.1 hnil
    rw[this];rfl
   ·rw[decide_eq_false (by omega),cond_false,decide_eq_false (by omega),cond_false,decide_eq_true (by omega),cond_true]
    exact Km n (lvs w 8) (by omega) hll hbd (by omega)
theorem cF{α:Type}{P:Prop}[Decidable P]{x z r:α}(h:P->x=r)(h2:¬P->z=r):(bif decide P then x else z)=r:=by
 by_cases hP:P
 ·rw[decide_eq_true hP,cond_true];exact h hP
 ·rw[decide_eq_false hP,cond_false];exact h2 hP
theorem cN{α:Type}{P:Prop}[Decidable P]{x z r:α}(h:P->x=r)(h2:¬P->z=r):(bif !(decide P)then z else x)=r:=by
 by_cases hP:P
 ·rw[decide_eq_true hP,Bool.not_true,cond_false];exact h hP
 ·rw[decide_eq_false hP,Bool.not_false,cond_true];exact h2 hP
theorem cBl{α:Type}{b:Bool}{x z r:α}(h:b=true->x=r)(h2:b=false->z=r):(bif b then x else z)=r:=by
 cases b
 ·exact h2 rfl
 ·exact h rfl
theorem cBN{α:Type}{b:Bool}{x z r:α}(h:b=true->x=r)(h2:b=false->z=r):(bif !b then z else x)=r:=by
 cases b
 ·exact h2 rfl
 ·exact h rfl
theorem cAn{α:Type}{P Q:Prop}[Decidable P][Decidable Q]{x z r:α}(h:P/\Q->x=r)(h2:¬(P/\Q)->z=r):(bif(decide P&&decide Q)then x else z)=r:=by
 by_cases hP:P/\Q
 ·rw[decide_eq_true hP.1,decide_eq_true hP.2];exact h hP
 ·have:(decide P&&decide Q)=false:=by
   rw[Bool.and_eq_false_iff,decide_eq_false_iff_not,decide_eq_false_iff_not];by_cases h:P
   ·exact .inr (fun hq=>hP ⟨h,hq⟩)
   ·exact .inl h
  rw[this];exact h2 hP
theorem gN{α:Type}{P:Prop}[Decidable P]{x z r:α}(hP:P)(h:x=r):(bif decide P then x else z)=r:=by rw[decide_eq_true hP];exact h
theorem gO{α:Type}{x:Int}{y z r:α}(h0: -9223372036854775808<=x)(h1:x<=9223372036854775807)(h:y=r):(bif(-9223372036854775808<=x)&&(x<=9223372036854775807)then y else z)=r:=by rw[inR h0 h1];exact h
def Ok{α:Type}(P:α->Prop)(x:Option α):Prop:=∃r,x=some r/\P r
theorem oF{α:Type}{T:α->Prop}{P:Prop}[Decidable P]{x z:Option α}(h:P->Ok T x)(h2:¬P->Ok T z):Ok T (bif decide P then x else z):=by
 by_cases hP:P
 ·rw[decide_eq_true hP,cond_true];exact h hP
 ·rw[decide_eq_false hP,cond_false];exact h2 hP
theorem oN{α:Type}{T:α->Prop}{P:Prop}[Decidable P]{x z:Option α}(h:P->Ok T x)(h2:¬P->Ok T z):Ok T (bif !(decide P)then z else x):=by
 by_cases hP:P
 ·rw[decide_eq_true hP,Bool.not_true,cond_false];exact h hP
 ·rw[decide_eq_false hP,Bool.not_false,cond_true];exact h2 hP
theorem oB{α:Type}{T:α->Prop}{b:Bool}{x z:Option α}(h:b=true->Ok T x)(h2:b=false->Ok T z):Ok T (bif b then x else z):=by
 cases b
 ·exact h2 rfl
 ·exact h rfl
theorem oBN{α:Type}{T:α->Prop}{b:Bool}{x z:Option α}(h:b=true->Ok T x)(h2:b=false->Ok T z):Ok T (bif !b then z else x):=by
 cases b
 ·exact h2 rfl
 ·exact h rfl
theorem hN{α:Type}{T:α->Prop}{P:Prop}[Decidable P]{x z:Option α}(hP:P)(h:Ok T x):Ok T (bif decide P then x else z):=by rw[decide_eq_true hP];exact h
theorem hO{α:Type}{T:α->Prop}{x:Int}{y z:Option α}(h0: -9223372036854775808<=x)(h1:x<=9223372036854775807)(h:Ok T y):Ok T (bif(-9223372036854775808<=x)&&(x<=9223372036854775807)then y else z):=by rw[inR h0 h1];exact h
theorem hD{α:Type}{T:α->Prop}{r:α}(h:T r):Ok T (some r):=⟨r,rfl,h⟩
theorem dE{σ α:Type}{step:(σ->Option α)->σ->Option α}(Inv:σ->Prop)(mu:σ->Nat)(Post:α->Prop)
 (h:∀s go,Inv s->(∀s',Inv s'->mu s'<mu s->Ok Post (go s'))->Ok Post (step go s)):∀(n:Nat) (s:σ),Inv s->mu s<n->Ok Post (aa step n s):=ir Inv mu Post h
def lw:Option Wd->Int×Int×Lv×Lv×Lv×Int
 |none=>(0,0,([]:Lv),([]:Lv),([]:Lv),420)
 |some v=>(v.al,v.ev,bL v.bl,iL v.ba,iL v.le,0)
theorem Nh(v:Wd):lw (some v)=(v.al,v.ev,bL v.bl,iL v.ba,iL v.le,0):=rfl
theorem noW{w:Wd}{e:Ev}(h:¬Poss w e):(some (0,0,([]:Lv),([]:Lv),([]:Lv),420):Option (Int×Int×Lv×Lv×Lv×Int))=some (lw (ew w e)):=by
 unfold ew;rw[if_neg h];rfl
theorem Aw{w:Wd}{e:Ev}(h:Poss w e){a b c d f}(ha:(aft w e).al=a)(hb:(aft w e).ev=b)(hc:bL (aft w e).bl=c)(hd:iL (aft w e).ba=d)(hf:iL (aft w e).le=f):some (a,b,c,d,f,(0:Int))=some (lw (ew w e)):=by
 rw[JN h,<-ha,<-hb,<-hc,<-hd,<-hf];rfl
theorem uh(n:Nat)(l:List B3)(h:l.length<=40):aI n (bL l)=some (bL l):=by
 unfold aI dV;rw[decide_eq_true (by rw[List.length_map];omega)];rfl
theorem gT(n:Nat)(l:List Int)(h:l.length=8):aC n (iL l)=some (iL l):=by
 unfold aC iJ;rw[decide_eq_true (by rw[List.length_map];omega)];rfl
theorem H2{w:Wd}{e:Ev}(hw:WV w)(hf:Frm e):ae (aft w e).al:=by
 have h0:=hw.a0;have h1:=hw.a1;show ae (if e.k=2 then iO w.al e.b else if e.k=4 then w.al else lq w.al e.a)
 split
 ·have:=P0 h0 h1 hf.b0 hf.b1;unfold ae;omega
 ·split
  ·unfold ae;omega
  ·have:=PD w.al e.a;unfold ae;omega
theorem Fq{e:Ev}{l:List B3}(hc:Canon l)(hf:Frm e)(hk:e.k=2\/e.k=3):(fun m=>fg (hold (if e.k=2 then l else aZ fun m=>swR e.a e.c (hold l m)) m) (hold (aZ fun m=>swR e.a e.b (hold (aZ (km l e.f e.t)) m)) m))=fun n=>rho e n (hold l n):=by
 obtain⟨f0,f1,f2,_,_⟩:=hf.full hk;have a0:=hf.a0;have hM1:=lG hc f0 f1 f2;have hM2:=fx hM1.1 (f:=e.a) hf.b0 hf.b1;have hM3:=fx hc (f:=e.a) hf.c0 hf.c1;funext m
 rw[hM2.at m];have h3:hold (if e.k=2 then l else aZ fun m=>swR e.a e.c (hold l m)) m=if e.k=2 then hold l m else if 0<=m/\m<100000000 then swR e.a e.c (hold l m)else -1:=by
  by_cases h2:e.k=2
  ·rw[if_pos h2,if_pos h2]
  ·rw[if_neg h2,if_neg h2,hM3.at m]
 rw[h3,hM1.at m];have h4:=jw hc (n:=m);have h5:=cz hc m;have hb0:=hf.b0;by_cases hm:0<=m/\m<100000000
 ·rw[if_pos hm,if_pos hm,if_pos hm]
  unfold km;generalize hold l m=x at *
  unfold swR fg rho;by_cases hr:e.f<=m/\m<e.t
  ·rw[if_pos hr]
   by_cases hx:x=e.a
   ·rcases hk with hk|hk
    ·simp only[hk,hx,hr,if_true];simp;omega
    ·simp only[hk,hx,hr,if_true];simp;omega
   ·simp only[hx,if_false]
    by_cases h1:x= -1
    ·simp[h1]
    ·simp[h1]
  ·rw[if_neg hr]
   have:¬(-1:Int)=e.a:=by omega
   rcases hk with hk|hk
   ·simp[hk,hr,this]
   ·simp[hk,hr,this]
 ·simp only[hm,if_false]
  rw[h4 (by omega),M4 hf]
  unfold fg;rw[if_pos rfl];split<;>rfl
theorem G5(n:Nat)(w:Wd)(hw:WV w)(at_ a b c f t m:Int)(hn:100000001<n):pC n w.al w.ev (bL w.bl) (iL w.ba) (iL w.le) at_ a b c f t m=some (lw (ew w ⟨1,at_,a,b,c,f,t,m⟩)):=by
 have A0:=hw.a0;have A1:=hw.a1;have il1:((iL w.ba).length:Int)=8:=by rw[dB,hw.bal];rfl
 have il2:((iL w.le).length:Int)=8:=by rw[dB,hw.lel];rfl
 unfold pC;refine cF (fun t0=>?_) (fun h=>noW fun p=>h p.f.t0)
 unfold yy;refine cF (fun t1=>?_) (fun h=>noW fun p=>h p.f.t1)
 refine cF (fun a0=>?_) (fun h=>noW fun p=>h p.f.a0)
 refine cF (fun a1=>?_) (fun h=>noW fun p=>h p.f.a1)
 refine cF (fun b0=>?_) (fun h=>noW fun p=>h p.f.b0)
 refine cF (fun b1=>?_) (fun h=>noW fun p=>h p.f.b1)
 refine cF (fun c0=>?_) (fun h=>noW fun p=>h p.f.c0)
 refine cF (fun c1=>?_) (fun h=>noW fun p=>h p.f.c1)
 rw[fQ A0 A1 a0 a1,fQ A0 A1 b0 b1];refine cBN (fun ha=>?_) (fun h=>noW fun p=>by have:=p.c.a;rw[h]at this;cases this)
 rw[uh n _ hw.few,Option.bind_some,gT n _ hw.bal,Option.bind_some,gT n _ hw.lel,Option.bind_some];refine cAn (fun hr=>?_) (fun h=>noW fun p=>h ⟨(p.f.bare (.inl rfl)).1,(p.f.bare (.inl rfl)).2.1⟩)
 refine cF (fun hm=>?_) (fun h=>noW fun p=>h (p.f.bare (.inl rfl)).2.2)
 refine cF (fun hc=>?_) (fun h=>noW fun p=>h (p.f.noC (by decide:(1:Int)≠3)))
 refine cBl (fun hb=>?_) (fun h=>noW fun p=>by have:=p.c.m rfl;rw[h]at this;cases this)
 rw[beq_true];by_cases hab:a=b
 ·rw[decide_eq_true hab];exact noW fun p=>p.f.other (by decide:(1:Int)≠4) hab
 rw[decide_eq_false hab,cond_false,kF n w.bl a b hw.can hw.few a0 a1 b0 b1 hn,Option.bind_some];refine cN (fun _=>?_) (fun h=>absurd rfl h)
 rw[cc hw.bal b0 b1,cc hw.bal a0 a1];have q1:=hw.b0 a a0 a1;have q2:=hw.b0 b b0 b1;refine gN (by omega) (gN (by omega) (gO (by omega) (by omega) (gN (by omega) ?_)))
 obtain⟨rfl,rfl⟩:=hr;subst hm;subst hc;have hf:Frm ⟨1,at_,a,b,0,0,0,0⟩:=⟨t0,t1,a0,a1,b0,b1,c0,c1,(show 1<=(1:Int)/\(1:Int)<=4 by decide),fun _=>⟨rfl,rfl,rfl⟩,fun h=>by simp at h,fun _=>rfl,fun h=>by simp at h,fun _=>hab,fun h=>by simp at h⟩
 have e1:(aft w ⟨1,at_,a,b,0,0,0,0⟩).al=IOp.f .andNot w.al (IOp.f .shl 1 a):=by rw[nO A0 A1 a0 a1];rfl
 have e2:(aft w ⟨1,at_,a,b,0,0,0,0⟩).ev=w.ev:=rfl
 have e3:bL (aft w ⟨1,at_,a,b,0,0,0,0⟩).bl=bL (aZ fun m=>swR a b (hold w.bl m)):=by
  have:(fun n=>rho ⟨1,at_,a,b,0,0,0,0⟩ n (hold w.bl n))=fun m=>swR a b (hold w.bl m):=by
   funext m
   unfold rho swR;simp
  show bL (aZ fun n=>rho ⟨1,at_,a,b,0,0,0,0⟩ n (hold w.bl n))=_
  rw[this]
 have e4:iL (aft w ⟨1,at_,a,b,0,0,0,0⟩).ba=List.modify (List.modify (iL w.ba) b.toNat (fun r=>r.set 0 (AV.int (g w.ba b+g w.ba a)))) a.toNat (fun r=>r.set 0 (AV.int 0)):=by rw[dF,dF];rfl
 have e5:iL (aft w ⟨1,at_,a,b,0,0,0,0⟩).le=List.modify (iL w.le) a.toNat (fun r=>r.set 0 (AV.int 0)):=by rw[dF];rfl
 have hV:=gJ n (aft w ⟨1,at_,a,b,0,0,0,0⟩) (H2 hw hf) (by omega)
 rw[e1,e2,e3,e4,e5]at hV;rw[hV,Option.bind_some];refine cBN (fun h=>?_) (fun h=>noW fun p=>by rw[eJ p.v2]at h;cases h)
 refine Aw ⟨hw,hf,⟨ha,fun _=>hb,fun h=>by simp at h,fun h=>by simp at h,fun h=>by simp at h⟩,vB_iff.1 h⟩ e1 e2 e3 e4 e5
theorem HE(n:Nat)(w:Wd)(hw:WV w)(at_ a b c f t m:Int)(hn:100000001<n):qj n w.al w.ev (bL w.bl) (iL w.ba) (iL w.le) at_ a b c f t m=some (lw (ew w ⟨2,at_,a,b,c,f,t,m⟩)):=by
 have A0:=hw.a0;have A1:=hw.a1;have il1:((iL w.ba).length:Int)=8:=by rw[dB,hw.bal];rfl
 have il2:((iL w.le).length:Int)=8:=by rw[dB,hw.lel];rfl
 unfold qj;refine cF (fun t0=>?_) (fun h=>noW fun p=>h p.f.t0)
 unfold yh;refine cF (fun t1=>?_) (fun h=>noW fun p=>h p.f.t1)
 unfold Ap;refine cF (fun a0=>?_) (fun h=>noW fun p=>h p.f.a0)
 unfold xX;refine cF (fun a1=>?_) (fun h=>noW fun p=>h p.f.a1)
 unfold xT;refine cF (fun b0=>?_) (fun h=>noW fun p=>h p.f.b0)
 unfold wj;refine cF (fun b1=>?_) (fun h=>noW fun p=>h p.f.b1)
 unfold wh;refine cF (fun c0=>?_) (fun h=>noW fun p=>h p.f.c0)
 unfold ws;refine cF (fun c1=>?_) (fun h=>noW fun p=>h p.f.c1)
 rw[fQ A0 A1 a0 a1,fQ hw.e0 hw.e1 b0 b1];refine cBN (fun ha=>?_) (fun h=>noW fun p=>by have:=p.c.a;rw[h]at this;cases this)
 rw[uh n _ hw.few,Option.bind_some,gT n _ hw.bal,Option.bind_some,gT n _ hw.lel,Option.bind_some];refine cF (fun f0=>?_) (fun h=>noW fun p=>h (p.f.full (.inl rfl)).1)
 refine cF (fun f1=>?_) (fun h=>noW fun p=>h (p.f.full (.inl rfl)).2.1)
 refine cF (fun f2=>?_) (fun h=>noW fun p=>h (p.f.full (.inl rfl)).2.2.1)
 refine cF (fun m0=>?_) (fun h=>noW fun p=>h (p.f.full (.inl rfl)).2.2.2.1)
 refine cF (fun m1=>?_) (fun h=>noW fun p=>h (p.f.full (.inl rfl)).2.2.2.2)
 refine cF (fun hc=>?_) (fun h=>noW fun p=>h (p.f.noC (by decide:(2:Int)≠3)))
 rw[beq_true];refine cBl (fun h=>noW fun p=>by have:=p.c.s rfl;rw[h]at this;cases this) (fun hb=>?_)
 subst hc;have hac:has w.al b=false:=by
  cases h:has w.al b with
  |false=>rfl
  |true=>rw[KT hw.sub h]at hb;cases hb
 have hab:a≠b:=fun h=>by rw[h,hac]at ha;cases ha
 have hf:Frm ⟨2,at_,a,b,0,f,t,m⟩:=⟨t0,t1,a0,a1,b0,b1,c0,c1,(show 1<=(2:Int)/\(2:Int)<=4 by decide),fun h=>by simp at h,fun _=>⟨f0,f1,f2,m0,m1⟩,fun _=>rfl,fun h=>by simp at h,fun _=>hab,fun h=>by simp at h⟩
 have hM1:=lG hw.can f0 f1 f2;have hl1:=pg hw.can f t hM1;have hfew:=hw.few;have hM2:=fx hM1.1 (f:=a) b0 b1;have hl2:=eG hM1.1 (swR a b) (by unfold swR;rw[if_neg (by omega)]) hM2
 rw[Af n w.bl f t hw.can hw.few f0 f1 f2 hn,Option.bind_some];refine cN (fun _=>?_) (fun h=>absurd rfl h)
 rw[kF n _ a b hM1.1 (by omega) a0 a1 b0 b1 hn,Option.bind_some]
 refine cN (fun _=>?_) (fun h=>absurd rfl h)
 have hovl:=Fq hw.can hf (.inl rfl);simp only[if_true]at hovl;rw[qR n w.bl _ hw.can hw.few hM2.1 (by omega) hn,Option.bind_some,hovl]
 unfold dx;by_cases h40:(aZ fun n=>rho ⟨2,at_,a,b,0,f,t,m⟩ n (hold w.bl n)).length<=40
 case neg=>
  rw[if_neg h40];refine cN (fun h=>absurd h (by decide)) (fun _=>noW fun p=>h40 p.v2.few)
 rw[if_pos h40];refine cN (fun _=>?_) (fun h=>absurd rfl h)
 rw[cc hw.bal a0 a1,cc hw.lel a0 a1];have q1:=hw.b0 a a0 a1;refine gN (by omega) (gO (by omega) (by omega) (gN (by omega) (gN (by omega) (gN (by omega) ?_))))
 have e1:(aft w ⟨2,at_,a,b,0,f,t,m⟩).al=IOp.f .or w.al (IOp.f .shl 1 b):=by rw[DE A0 A1 b0 b1];rfl
 have e2:(aft w ⟨2,at_,a,b,0,f,t,m⟩).ev=IOp.f .or w.ev (IOp.f .shl 1 b):=by rw[DE hw.e0 hw.e1 b0 b1];rfl
 have e3:bL (aft w ⟨2,at_,a,b,0,f,t,m⟩).bl=bL (aZ fun n=>rho ⟨2,at_,a,b,0,f,t,m⟩ n (hold w.bl n)):=rfl
 have e4:iL (aft w ⟨2,at_,a,b,0,f,t,m⟩).ba=List.modify (List.modify (iL w.ba) a.toNat (fun r=>r.set 0 (AV.int (g w.ba a-m)))) b.toNat (fun r=>r.set 0 (AV.int m)):=by rw[dF,dF];rfl
 have e5:iL (aft w ⟨2,at_,a,b,0,f,t,m⟩).le=List.modify (iL w.le) b.toNat (fun r=>r.set 0 (AV.int (g w.le a))):=by rw[dF];rfl
 have hV:=gJ n (aft w ⟨2,at_,a,b,0,f,t,m⟩) (H2 hw hf) (by omega)
 rw[e1,e2,e3,e4,e5]at hV;rw[hV,Option.bind_some];refine cBN (fun h=>?_) (fun h=>noW fun p=>by rw[eJ p.v2]at h;cases h)
 refine Aw ⟨hw,hf,⟨ha,fun h=>by simp at h,fun _=>hb,fun h=>by simp at h,fun h=>by simp at h⟩,vB_iff.1 h⟩ e1 e2 e3 e4 e5
theorem G6(n:Nat)(w:Wd)(hw:WV w)(at_ a b c f t m:Int)(hn:100000001<n):m5 n w.al w.ev (bL w.bl) (iL w.ba) (iL w.le) at_ a b c f t m=some (lw (ew w ⟨3,at_,a,b,c,f,t,m⟩)):=by
 have A0:=hw.a0;have A1:=hw.a1;have il1:((iL w.ba).length:Int)=8:=by rw[dB,hw.bal];rfl
 have il2:((iL w.le).length:Int)=8:=by rw[dB,hw.lel];rfl
 unfold m5;refine cF (fun t0=>?_) (fun h=>noW fun p=>h p.f.t0)
 unfold vJ;refine cF (fun t1=>?_) (fun h=>noW fun p=>h p.f.t1)
 unfold xh;refine cF (fun a0=>?_) (fun h=>noW fun p=>h p.f.a0)
 unfold wF;refine cF (fun a1=>?_) (fun h=>noW fun p=>h p.f.a1)
 unfold w8;refine cF (fun b0=>?_) (fun h=>noW fun p=>h p.f.b0)
 unfold wN;refine cF (fun b1=>?_) (fun h=>noW fun p=>h p.f.b1)
 unfold vW;refine cF (fun c0=>?_) (fun h=>noW fun p=>h p.f.c0)
 unfold vG;refine cF (fun c1=>?_) (fun h=>noW fun p=>h p.f.c1)
 unfold wA;rw[fQ A0 A1 a0 a1];refine cBN (fun ha=>?_) (fun h=>noW fun p=>by have:=p.c.a;rw[h]at this;cases this)
 rw[uh n _ hw.few,Option.bind_some,gT n _ hw.bal,Option.bind_some,gT n _ hw.lel,Option.bind_some];unfold wV;refine cF (fun f0=>?_) (fun h=>noW fun p=>h (p.f.full (.inr rfl)).1)
 unfold wB;refine cF (fun f1=>?_) (fun h=>noW fun p=>h (p.f.full (.inr rfl)).2.1)
 unfold wg;refine cF (fun f2=>?_) (fun h=>noW fun p=>h (p.f.full (.inr rfl)).2.2.1)
 unfold vN;refine cF (fun m0=>?_) (fun h=>noW fun p=>h (p.f.full (.inr rfl)).2.2.2.1)
 unfold wn;refine cF (fun m1=>?_) (fun h=>noW fun p=>h (p.f.full (.inr rfl)).2.2.2.2)
 unfold wa;rw[fQ A0 A1 b0 b1,fQ A0 A1 c0 c1];refine cBl (fun hb=>?_) (fun h=>noW fun p=>by have:=(p.c.w3 rfl).1;rw[h]at this;cases this)
 refine cBl (fun hc=>?_) (fun h=>noW fun p=>by have:=(p.c.w3 rfl).2;rw[h]at this;cases this)
 by_cases hab:a=b
 ·rw[decide_eq_true hab];exact noW fun p=>p.f.other (by decide:(3:Int)≠4) hab
 rw[decide_eq_false hab,Bool.not_false,cond_true,beq_true];by_cases hac:a=c
 ·rw[decide_eq_true hac];exact noW fun p=>p.f.third rfl hac
 rw[decide_eq_false hac,cond_false];have hf:Frm ⟨3,at_,a,b,c,f,t,m⟩:=⟨t0,t1,a0,a1,b0,b1,c0,c1,(show 1<=(3:Int)/\(3:Int)<=4 by decide),fun h=>by simp at h,fun _=>⟨f0,f1,f2,m0,m1⟩,fun h=>absurd rfl h,fun h=>by simp at h,fun _=>hab,fun _=>hac⟩
 have hM1:=lG hw.can f0 f1 f2;have hl1:=pg hw.can f t hM1;have hfew:=hw.few;have hM2:=fx hM1.1 (f:=a) b0 b1;have hl2:=eG hM1.1 (swR a b) (by unfold swR;rw[if_neg (by omega)]) hM2
 have hM3:=fx hw.can (f:=a) c0 c1;have hl3:=eG hw.can (swR a c) (by unfold swR;rw[if_neg (by omega)]) hM3
 rw[Af n w.bl f t hw.can hw.few f0 f1 f2 hn,Option.bind_some];refine cN (fun _=>?_) (fun h=>absurd rfl h)
 rw[kF n _ a b hM1.1 (by omega) a0 a1 b0 b1 hn,Option.bind_some]
 refine cN (fun _=>?_) (fun h=>absurd rfl h)
 rw[kF n _ a c hw.can hw.few a0 a1 c0 c1 hn,Option.bind_some];refine cN (fun _=>?_) (fun h=>absurd rfl h)
 have hovl:=Fq hw.can hf (.inr rfl);simp only[show ¬(3:Int)=2 by decide,if_false]at hovl
 rw[qR n _ _ hM3.1 (by omega) hM2.1 (by omega) hn,Option.bind_some,hovl]
 unfold dx;by_cases h40:(aZ fun n=>rho ⟨3,at_,a,b,c,f,t,m⟩ n (hold w.bl n)).length<=40
 case neg=>
  rw[if_neg h40];refine cN (fun h=>absurd h (by decide)) (fun _=>noW fun p=>h40 p.v2.few)
 rw[if_pos h40];refine cN (fun _=>?_) (fun h=>absurd rfl h)
 have hl8:(w.ba.set b.toNat (g w.ba b+m)).length=8:=by rw[List.length_set,hw.bal]
 have e6:g (w.ba.set b.toNat (g w.ba b+m)) a=g w.ba a:=by rw[rn hw.bal b0 b1 a0 a1,if_neg hab]
 rw[cc hw.bal b0 b1,dF,cc hl8 a0 a1,cc hl8 c0 c1,e6];have q1:=hw.b0 a a0 a1;have q2:=hw.b0 b b0 b1;have q3:=hw.b0 c c0 c1;have q4:g (w.ba.set b.toNat (g w.ba b+m)) c=if c=b then g w.ba b+m else g w.ba c:=rn hw.bal b0 b1 c0 c1
 have q5: -3000000000000<=g (w.ba.set b.toNat (g w.ba b+m)) c/\g (w.ba.set b.toNat (g w.ba b+m)) c<=3000000000000:=by rw[q4];split<;>omega
 refine gN (by omega) (gO (by omega) (by omega) (gN (by omega) (gN (by omega) (gO (by omega) (by omega) (gO (by omega) (by omega) (gN (by omega) ?_))))))
 have e1:(aft w ⟨3,at_,a,b,c,f,t,m⟩).al=IOp.f .andNot w.al (IOp.f .shl 1 a):=by rw[nO A0 A1 a0 a1];rfl
 have e2:(aft w ⟨3,at_,a,b,c,f,t,m⟩).ev=w.ev:=rfl
 have e3:bL (aft w ⟨3,at_,a,b,c,f,t,m⟩).bl=bL (aZ fun n=>rho ⟨3,at_,a,b,c,f,t,m⟩ n (hold w.bl n)):=rfl
 have e4:iL (aft w ⟨3,at_,a,b,c,f,t,m⟩).ba=List.modify (List.modify (iL (w.ba.set b.toNat (g w.ba b+m))) c.toNat (fun r=>r.set 0 (AV.int (g (w.ba.set b.toNat (g w.ba b+m)) c+(g w.ba a-m))))) a.toNat (fun r=>r.set 0 (AV.int 0)):=by rw[dF,dF];rfl
 have e5:iL (aft w ⟨3,at_,a,b,c,f,t,m⟩).le=List.modify (iL w.le) a.toNat (fun r=>r.set 0 (AV.int 0)):=by rw[dF];rfl
 have hV:=gJ n (aft w ⟨3,at_,a,b,c,f,t,m⟩) (H2 hw hf) (by omega)
 rw[e1,e2,e3,e4,e5]at hV;rw[hV,Option.bind_some];refine cBN (fun h=>?_) (fun h=>noW fun p=>by rw[eJ p.v2]at h;cases h)
 refine Aw ⟨hw,hf,⟨ha,fun h=>by simp at h,fun h=>by simp at h,fun _=>⟨hb,hc⟩,fun h=>by simp at h⟩,vB_iff.1 h⟩ e1 e2 e3 e4 e5
theorem GR(n:Nat)(w:Wd)(hw:WV w)(at_ a b c f t m:Int)(hn:100000001<n):ng n w.al w.ev (bL w.bl) (iL w.ba) (iL w.le) at_ a b c f t m=some (lw (ew w ⟨4,at_,a,b,c,f,t,m⟩)):=by
 have A0:=hw.a0;have A1:=hw.a1;have il2:((iL w.le).length:Int)=8:=by rw[dB,hw.lel];rfl
 unfold ng;refine cF (fun t0=>?_) (fun h=>noW fun p=>h p.f.t0)
 unfold vK;refine cF (fun t1=>?_) (fun h=>noW fun p=>h p.f.t1)
 refine cF (fun a0=>?_) (fun h=>noW fun p=>h p.f.a0)
 refine cF (fun a1=>?_) (fun h=>noW fun p=>h p.f.a1)
 refine cF (fun b0=>?_) (fun h=>noW fun p=>h p.f.b0)
 refine cF (fun b1=>?_) (fun h=>noW fun p=>h p.f.b1)
 refine cF (fun c0=>?_) (fun h=>noW fun p=>h p.f.c0)
 refine cF (fun c1=>?_) (fun h=>noW fun p=>h p.f.c1)
 rw[fQ A0 A1 a0 a1];refine cBN (fun ha=>?_) (fun h=>noW fun p=>by have:=p.c.a;rw[h]at this;cases this)
 rw[uh n _ hw.few,Option.bind_some,gT n _ hw.bal,Option.bind_some,gT n _ hw.lel,Option.bind_some];refine cAn (fun hr=>?_) (fun h=>noW fun p=>h ⟨(p.f.bare (.inr rfl)).1,(p.f.bare (.inr rfl)).2.1⟩)
 refine cF (fun hm=>?_) (fun h=>noW fun p=>h (p.f.bare (.inr rfl)).2.2)
 refine cF (fun hb=>?_) (fun h=>noW fun p=>h (p.f.noB rfl))
 refine cN (fun hc=>?_) (fun h=>noW fun p=>h (p.f.noC (by decide:(4:Int)≠3)))
 obtain⟨rfl,rfl⟩:=hr;subst hm;subst hc;subst hb;have hf:Frm ⟨4,at_,a,0,0,0,0,0⟩:=⟨t0,t1,a0,a1,b0,b1,c0,c1,(show 1<=(4:Int)/\(4:Int)<=4 by decide),fun _=>⟨rfl,rfl,rfl⟩,fun h=>by simp at h,fun _=>rfl,fun _=>rfl,fun h=>absurd rfl h,fun h=>by simp at h⟩
 refine ar (fun s=>∃i:Nat,s=(i:Int)/\i<=8/\∀c,0<=c->c<(i:Int)->has w.al c=true->g w.le a<=g w.le c) (fun s=>8-s.toNat) _ ?_ n _ ⟨0,rfl,by omega,fun c h0 h1=>by omega⟩ (by first|omega|(simp only;omega))
 rintro _ go ⟨i,rfl,hi,hall⟩ ih;unfold xq;have esucc:((i+1:Nat):Int)=(i:Int)+1:=by omega
 by_cases hlt:i<8
 ·have i0:(0:Int)<=(i:Int):=by omega
  have i7:(i:Int)<=7:=by omega
  have hgo:(has w.al (i:Int)=true->g w.le a<=g w.le (i:Int))->go ((i:Int)+1)=some (lw (ew w ⟨4,at_,a,0,0,0,0,0⟩)):=fun h=>by
   refine ih _ ⟨i+1,esucc.symm,by omega,fun c h0 h1 h2=>?_⟩ (by first|omega|(simp only;omega))
   by_cases h3:c<(i:Int)
   ·exact hall c h0 h3 h2
   ·have:c=(i:Int):=by omega
    subst this;exact h h2
  rw[fQ A0 A1 i0 i7,cc hw.lel a0 a1,cc hw.lel i0 i7];refine gN (by omega) (gN i0 (cBN (fun hh=>?_) (fun hh=>?_)))
  ·refine gN (by omega) (cN (fun h=>?_) (fun h=>noW fun p=>h (p.c.u rfl _ i0 i7 hh)))
   exact gO (by omega) (by omega) (hgo fun _=>h)
  ·exact gO (by omega) (by omega) (hgo fun h=>by rw[hh]at h;cases h)
 ·have hi8:i=8:=by omega
  subst hi8;have hl:=hw.l0 a a0 a1;rw[decide_eq_false (by omega:¬((8:Nat):Int)<((iL w.le).length:Int)),cond_false,cc hw.lel a0 a1]
  refine gN (by omega) (gO (by omega) (by omega) ?_)
  have e1:(aft w ⟨4,at_,a,0,0,0,0,0⟩).al=w.al:=rfl
  have e2:(aft w ⟨4,at_,a,0,0,0,0,0⟩).ev=w.ev:=rfl
  have e3:bL (aft w ⟨4,at_,a,0,0,0,0,0⟩).bl=bL w.bl:=by
   show bL (aZ _)=_
   have:(fun n=>rho ⟨4,at_,a,0,0,0,0,0⟩ n (hold w.bl n))=hold w.bl:=by
    funext m
    unfold rho;simp
   rw[this,DA hw.can]
  have e4:iL (aft w ⟨4,at_,a,0,0,0,0,0⟩).ba=iL w.ba:=rfl
  have e5:iL (aft w ⟨4,at_,a,0,0,0,0,0⟩).le=List.modify (iL w.le) a.toNat (fun r=>r.set 0 (AV.int (g w.le a+1))):=by rw[dF];rfl
  have hV:=gJ n (aft w ⟨4,at_,a,0,0,0,0,0⟩) (H2 hw hf) (by omega)
  rw[e1,e2,e3,e4,e5]at hV;rw[hV,Option.bind_some];refine cBN (fun h=>?_) (fun h=>noW fun p=>by rw[eJ p.v2]at h;cases h)
  refine Aw ⟨hw,hf,⟨ha,fun h=>by simp at h,fun h=>by simp at h,fun h=>by simp at h,fun _ c c0 c1 hc=>hall c c0 (by omega) hc⟩,vB_iff.1 h⟩ e1 e2 e3 e4 e5
theorem IP(n:Nat)(w:Wd)(hw:WV w)(e:Ev)(hn:100000001<n):kO n w.al w.ev (bL w.bl) (iL w.ba) (iL w.le) e.k e.at_ e.a e.b e.c e.f e.t e.m=some (lw (ew w e)):=by
 obtain⟨k,at_,a,b,c,f,t,m⟩:=e;unfold kO ze;refine cF (fun h=>?_) (fun h1=>?_)
 ·replace h:k=1:=h
  subst h;exact G5 n w hw at_ a b c f t m hn
 unfold yd;refine cF (fun h=>?_) (fun h2=>?_)
 ·replace h:k=2:=h
  subst h;exact HE n w hw at_ a b c f t m hn
 unfold ww;refine cF (fun h=>?_) (fun h3=>?_)
 ·replace h:k=3:=h
  subst h;exact G6 n w hw at_ a b c f t m hn
 unfold wJ;refine cF (fun h=>?_) (fun h4=>noW fun p=>?_)
 ·replace h:k=4:=h
  subst h;exact GR n w hw at_ a b c f t m hn
 ·have:=p.f.kind
  simp only at h1 h2 h3 h4 this
  omega
end Go.Proofs.YtgckmifmjiklmaaGreat
namespace Go.Proofs.YtgckmifmjiklmaaGreat
open Go Go.Sx
noncomputable section
abbrev gX:=Int×Int×Lv×Lv×Lv×Int×Int
abbrev pY:=Int×Int×Int×Lv×Lv×Lv
abbrev yz:=Int
def sE(n:Nat)(go0:pY->Option gX)(v5:Lv)(v11 v12 v13:Int)(v14 v15 v16:Lv):Option gX:=
 (bif v11<(v5.length:Int) then bif 0<=v11 then(kO n v12 v13 v14 v15 v16 (cI v5 v11 0) (cI v5 v11 1) (cI v5 v11 2) (cI v5 v11 3) (cI v5 v11 4) (cI v5 v11 5) (cI v5 v11 6) (cI v5 v11 7)).bind fun y17=>
 (bif !(y17.2.2.2.2.2=0)then some (0,0,([]:Lv),([]:Lv),([]:Lv),v11,y17.2.2.2.2.2)else bif(-9223372036854775808<=(v11+1))&&((v11+1)<=9223372036854775807)then go0 ((v11+1),y17.1,y17.2.1,y17.2.2.1,y17.2.2.2.1,y17.2.2.2.2.1)else none)else none else some (v12,v13,v14,v15,v16,(v5.length:Int),0))
def BI(n:Nat)(go0:yz->Option gX)(v0 v1:Int)(v2 v3 v4 v5:Lv)(v7:Int):Option gX:=
 (bif 0<v7 then bif 0<=v7 then bif v7<(v5.length:Int) then bif(-9223372036854775808<=(v7-1))&&((v7-1)<=9223372036854775807)then bif 0<=(v7-1) then bif (v7-1)<(v5.length:Int) then(bif (cI v5 v7 1)<(cI v5 (v7-1) 1) then some (0,0,([]:Lv),([]:Lv),([]:Lv),0,420)else(bif (cI v5 (v7-1) 1)<(cI v5 v7 1) then go0 (v7-1)else go0 (v7-1)))else none else none else none else none else none else(aI n v2).bind fun y8=>
 (aC n v3).bind fun y9=>
 (aC n v4).bind fun y10=>
 (aa (fun go0 s=>sE n go0 v5 s.1 s.2.1 s.2.2.1 s.2.2.2.1 s.2.2.2.2.1 s.2.2.2.2.2) n ((0,v0,v1,y8,y9,y10):pY)))
def BP(n:Nat)(v0 v1:Int)(v2 v3 v4 v5:Lv):Option gX:=
 (cS n v0 v1 v2 v3 v4).bind fun y6=>
 (bif(!y6)then some (0,0,([]:Lv),([]:Lv),([]:Lv),0,420)else(bif 20<(v5.length:Int) then some (0,0,([]:Lv),([]:Lv),([]:Lv),0,420)else bif(-9223372036854775808<=((v5.length:Int)-1))&&(((v5.length:Int)-1)<=9223372036854775807)then(aa (fun go0 s=>BI n go0 v0 v1 v2 v3 v4 v5 s) n (((v5.length:Int)-1):yz))else none))
def dS(n:Nat)(v0 v1:Int)(v2 v3 v4 v5:Lv):Option gX:=BP n v0 v1 v2 v3 v4 v5
def merge_Run_t:FnT:=⟨[(true,[.int,.int,tSc,tSa,tSa]),(false,[tSh])],(.tup (.cons (.agg (.cons .i (.cons .i (.cons (.row 116 (.cons .int (.cons .int (.cons .int .nil)))) (.cons (.row 3 (.cons .int .nil)) (.cons (.row 3 (.cons .int .nil)) .nil)))))) (.cons .i (.cons .i .nil)))),fun n (s:Int×Int×Lv×Lv×Lv×Lv)=>dS n s.1 s.2.1 s.2.2.1 s.2.2.2.1 s.2.2.2.2.1 s.2.2.2.2.2⟩
theorem J3:merge_Run_t.ok Tryz.prog 21:=FnT.ok_of (cfg:=⟨[((21,5,0),.inv [(.tmp 29 .int),(.cell 0 0 .int),(.cell 0 1 .int),(.cellrow 0 2 116 (.cons .int (.cons .int (.cons .int .nil)))),(.cellrow 0 3 3 (.cons .int .nil)),(.cellrow 0 4 3 (.cons .int .nil))]),((77,2,2),.inv [(.tmp 5 .int)])],aL,[],[]⟩) av rC aA (fun s fn hf=>by rw[Tryz.func21]at hf;cases hf;kernel_rfl) (fun n s=>by kernel_rfl)
def merge_Run_T:Tab:=(21,merge_Run_t)::merge_Step_T
theorem tq:merge_Run_T.ok Tryz.prog:=Tab.ok_cons J3 rC
abbrev mB:=Bool
def mj(n:Nat)(v0 v1:Int)(v2 v3 v4 v5:Lv)(v6:Int):Option mB:=
 (dS n v0 v1 v2 v3 v4 v5).bind fun y7=>
 (bif y7.2.2.2.2.2.2=0 then(bif 0<=v6 then some (decide (v6<=20000000))else some false)else some false)
def dG(n:Nat)(v0 v1:Int)(v2 v3 v4 v5:Lv)(v6:Int):Option mB:=mj n v0 v1 v2 v3 v4 v5 v6
def merge_isPossible_t:FnT:=⟨[(true,[.int,.int,tSc,tSa,tSa]),(false,[tSh]),(false,[.int])],.b,fun n (s:Int×Int×Lv×Lv×Lv×Lv×Int)=>dG n s.1 s.2.1 s.2.2.1 s.2.2.2.1 s.2.2.2.2.1 s.2.2.2.2.2.1 s.2.2.2.2.2.2⟩
theorem xy:merge_isPossible_t.ok Tryz.prog 80:=FnT.ok_of (cfg:=⟨[],aL,[],[]⟩) av tq aA (fun s fn hf=>by rw[Tryz.func80]at hf;cases hf;kernel_rfl) (fun n s=>by kernel_rfl)
def merge_isPossible_T:Tab:=(80,merge_isPossible_t)::merge_Run_T
theorem j3:merge_isPossible_T.ok Tryz.prog:=Tab.ok_cons xy tq
abbrev fz:=Int
abbrev mp:=Int×Int
def nK(n:Nat)(go0:mp->Option fz)(v0:Lv)(v2 v3 v4 v5:Int):Option fz:=
 (bif v4<(v0.length:Int) then bif 0<=v4 then(bif v3<(cI v0 v4 1) then some v5 else(bif !((cI v0 v4 2)=v5)then bif(-9223372036854775808<=(v4+1))&&((v4+1)<=9223372036854775807)then go0 ((v4+1),v5)else none else bif(-9223372036854775808<=((cI v0 v4 6)-1))&&(((cI v0 v4 6)-1)<=9223372036854775807)then(bif (cI v0 v4 5)<=v2 then(bif (cI v0 v4 0)=1 then bif(-9223372036854775808<=(v4+1))&&((v4+1)<=9223372036854775807)then go0 ((v4+1),(cI v0 v4 3))else none else(bif !((cI v0 v4 0)=4)then(bif v2<=((cI v0 v4 6)-1) then bif(-9223372036854775808<=(v4+1))&&((v4+1)<=9223372036854775807)then go0 ((v4+1),(cI v0 v4 3))else none else(bif (cI v0 v4 0)=3 then bif(-9223372036854775808<=(v4+1))&&((v4+1)<=9223372036854775807)then go0 ((v4+1),(cI v0 v4 4))else none else bif(-9223372036854775808<=(v4+1))&&((v4+1)<=9223372036854775807)then go0 ((v4+1),v5)else none))else bif(-9223372036854775808<=(v4+1))&&((v4+1)<=9223372036854775807)then go0 ((v4+1),v5)else none))else(bif (cI v0 v4 0)=1 then bif(-9223372036854775808<=(v4+1))&&((v4+1)<=9223372036854775807)then go0 ((v4+1),(cI v0 v4 3))else none else(bif !((cI v0 v4 0)=4)then(bif (cI v0 v4 0)=3 then bif(-9223372036854775808<=(v4+1))&&((v4+1)<=9223372036854775807)then go0 ((v4+1),(cI v0 v4 4))else none else bif(-9223372036854775808<=(v4+1))&&((v4+1)<=9223372036854775807)then go0 ((v4+1),v5)else none)else bif(-9223372036854775808<=(v4+1))&&((v4+1)<=9223372036854775807)then go0 ((v4+1),v5)else none)))else none))else none else some v5)
def nI(n:Nat)(v0:Lv)(v1 v2 v3:Int):Option fz:=
 (aa (fun go0 s=>nK n go0 v0 v2 v3 s.1 s.2) n ((0,v1):mp))
def dZ(n:Nat)(v0:Lv)(v1 v2 v3:Int):Option fz:=nI n v0 v1 v2 v3
def merge_successor_t:FnT:=⟨[(false,[tSh]),(false,[.int]),(false,[.int]),(false,[.int])],.i,fun n (s:Lv×Int×Int×Int)=>dZ n s.1 s.2.1 s.2.2.1 s.2.2.2⟩
theorem xZ:merge_successor_t.ok Tryz.prog 92:=FnT.ok_of (cfg:=⟨[((130,1,5),.inv [(.tmp 8 .int),(.cell 0 0 .int)])],aL,[],[]⟩) av j3 aA (fun s fn hf=>by rw[Tryz.func92]at hf;cases hf;kernel_rfl) (fun n s=>by kernel_rfl)
def merge_successor_T:Tab:=(92,merge_successor_t)::merge_isPossible_T
theorem kw:merge_successor_T.ok Tryz.prog:=Tab.ok_cons xZ j3
abbrev nu:=Int×Int
def nx(n:Nat)(v0 v1:Int)(v2 v3 v4 v5:Lv)(v6 v7 v8:Int):Option nu:=
 (dG n v0 v1 v2 v3 v4 v5 v8).bind fun y9=>
 (bif(!y9)then some (0,420)else(bif 0<=v6 then(bif !(v6<=7)then some (0,420)else(bif 0<=v7 then(bif !(v7<=99999999)then some (0,420)else(dZ n v5 v6 v7 v8).bind fun y10=>
 some (y10,0))else some (0,420)))else some (0,420)))
def bi(n:Nat)(v0 v1:Int)(v2 v3 v4 v5:Lv)(v6 v7 v8:Int):Option nu:=nx n v0 v1 v2 v3 v4 v5 v6 v7 v8
def merge_Successor_t:FnT:=⟨[(true,[.int,.int,tSc,tSa,tSa]),(false,[tSh]),(false,[.int]),(false,[.int]),(false,[.int])],(.tup (.cons .i (.cons .i .nil))),fun n (s:Int×Int×Lv×Lv×Lv×Lv×Int×Int×Int)=>bi n s.1 s.2.1 s.2.2.1 s.2.2.2.1 s.2.2.2.2.1 s.2.2.2.2.2.1 s.2.2.2.2.2.2.1 s.2.2.2.2.2.2.2.1 s.2.2.2.2.2.2.2.2⟩
theorem xH:merge_Successor_t.ok Tryz.prog 29:=FnT.ok_of (cfg:=⟨[],aL,[],[]⟩) av kw aA (fun s fn hf=>by rw[Tryz.func29]at hf;cases hf;kernel_rfl) (fun n s=>by kernel_rfl)
def merge_Successor_T:Tab:=(29,merge_Successor_t)::merge_successor_T
theorem kh:merge_Successor_T.ok Tryz.prog:=Tab.ok_cons xH kw
abbrev wZ:=Int×Int×Int×Int×Int×Bool×Bool
def vu(n:Nat)(v0 v1:Int)(v2 v3 v4 v5:Lv)(v6 v7 v8 v9 v10:Int)(v11:Bool)(v12:Int):Option wZ:=
 (dG n v0 v1 v2 v3 v4 v5 v12).bind fun y13=>
 (bif(!y13)then some (0,0,0,0,0,false,false)else(bif 0<=v7 then(bif !(v7<=7)then some (0,0,0,0,0,false,false)else(bif 0<=v8 then(bif !(v8<=7)then some (0,0,0,0,0,false,false)else(bif 0<=v6 then(bif !(v6<=99999999)then some (0,0,0,0,0,false,false)else(dZ n v5 v7 v6 v12).bind fun y14=>
 (dZ n v5 v8 v6 v12).bind fun y15=>
 (bif y14=y15 then some (0,0,0,0,0,false,false)else some (v6,y14,y15,v9,v10,v11,true)))else some (0,0,0,0,0,false,false)))else some (0,0,0,0,0,false,false)))else some (0,0,0,0,0,false,false)))
def cf(n:Nat)(v0 v1:Int)(v2 v3 v4 v5:Lv)(v6 v7 v8 v9 v10:Int)(v11:Bool)(v12:Int):Option wZ:=vu n v0 v1 v2 v3 v4 v5 v6 v7 v8 v9 v10 v11 v12
def merge_Claim_t:FnT:=⟨[(true,[.int,.int,tSc,tSa,tSa]),(false,[tSh]),(true,[.int,.int,.int,.int,.int,.bool]),(false,[.int])],(.tup (.cons (.agg (.cons .i (.cons .i (.cons .i (.cons .i (.cons .i (.cons .b .nil))))))) (.cons .b .nil))),fun n (s:Int×Int×Lv×Lv×Lv×Lv×Int×Int×Int×Int×Int×Bool×Int)=>cf n s.1 s.2.1 s.2.2.1 s.2.2.2.1 s.2.2.2.2.1 s.2.2.2.2.2.1 s.2.2.2.2.2.2.1 s.2.2.2.2.2.2.2.1 s.2.2.2.2.2.2.2.2.1 s.2.2.2.2.2.2.2.2.2.1 s.2.2.2.2.2.2.2.2.2.2.1 s.2.2.2.2.2.2.2.2.2.2.2.1 s.2.2.2.2.2.2.2.2.2.2.2.2⟩
theorem Fh:merge_Claim_t.ok Tryz.prog 40:=FnT.ok_of (cfg:=⟨[],aL,[],[]⟩) av kh aA (fun s fn hf=>by rw[Tryz.func40]at hf;cases hf;kernel_rfl) (fun n s=>by kernel_rfl)
def merge_Claim_T:Tab:=(40,merge_Claim_t)::merge_Successor_T
theorem oO:merge_Claim_T.ok Tryz.prog:=Tab.ok_cons Fh kh
abbrev nR:=Int×Int×Lv×Lv×Lv×Int
abbrev Bx:=Int×Lv
def Mg(n:Nat)(go0:Bx->Option nR)(v0 v1:Int)(v2 v3 v4 v5:Lv)(v6 v8:Int)(v9:Lv):Option nR:=
 (bif v8<(v5.length:Int) then bif 0<=v8 then(bif v6<(cI v5 v8 1) then(dS n v0 v1 v2 v3 v4 v9).bind fun y10=>
 some (y10.1,y10.2.1,y10.2.2.1,y10.2.2.2.1,y10.2.2.2.2.1,0)else bif (((v9.length:Int)+1)*64)<=140737488355328 then bif(-9223372036854775808<=(v8+1))&&((v8+1)<=9223372036854775807)then go0 ((v8+1),(v9++[[(AV.int (cI v5 v8 0)),(AV.int (cI v5 v8 1)),(AV.int (cI v5 v8 2)),(AV.int (cI v5 v8 3)),(AV.int (cI v5 v8 4)),(AV.int (cI v5 v8 5)),(AV.int (cI v5 v8 6)),(AV.int (cI v5 v8 7))]]))else none else none)else none else(dS n v0 v1 v2 v3 v4 v9).bind fun y10=>
 some (y10.1,y10.2.1,y10.2.2.1,y10.2.2.2.1,y10.2.2.2.2.1,0))
def Lj(n:Nat)(v0 v1:Int)(v2 v3 v4 v5:Lv)(v6:Int):Option nR:=
 (dG n v0 v1 v2 v3 v4 v5 v6).bind fun y7=>
 (bif(!y7)then some (0,0,([]:Lv),([]:Lv),([]:Lv),420)else(aa (fun go0 s=>Mg n go0 v0 v1 v2 v3 v4 v5 v6 s.1 s.2) n ((0,([]:Lv)):Bx)))
def Ox(n:Nat)(v0 v1:Int)(v2 v3 v4 v5:Lv)(v6:Int):Option nR:=Lj n v0 v1 v2 v3 v4 v5 v6
def merge_At_t:FnT:=⟨[(true,[.int,.int,tSc,tSa,tSa]),(false,[tSh]),(false,[.int])],(.tup (.cons (.agg (.cons .i (.cons .i (.cons (.row 116 (.cons .int (.cons .int (.cons .int .nil)))) (.cons (.row 3 (.cons .int .nil)) (.cons (.row 3 (.cons .int .nil)) .nil)))))) (.cons .i .nil))),fun n (s:Int×Int×Lv×Lv×Lv×Lv×Int)=>Ox n s.1 s.2.1 s.2.2.1 s.2.2.2.1 s.2.2.2.2.1 s.2.2.2.2.2.1 s.2.2.2.2.2.2⟩
theorem Kj:merge_At_t.ok Tryz.prog 24:=FnT.ok_of (cfg:=⟨[((130,1,6),.inv [(.tmp 8 .int),(.cellrow 4 0 41 (.cons .int (.cons .int (.cons .int (.cons .int (.cons .int (.cons .int (.cons .int (.cons .int .nil)))))))))])],aL,[],[]⟩) av oO aA (fun s fn hf=>by rw[Tryz.func24]at hf;cases hf;kernel_rfl) (fun n s=>by kernel_rfl)
def merge_At_T:Tab:=(24,merge_At_t)::merge_Claim_T
theorem vF:merge_At_T.ok Tryz.prog:=Tab.ok_cons Kj oO
abbrev ay:=Lv×Int
abbrev bD:=Lv×Int
abbrev tQ:=Int×Int×Lv
abbrev eI:=Int
abbrev dC:=Int×Lv
def HY(n:Nat)(go0:bD->Option ay)(go1:tQ->Option ay)(v17 v21 v22:Int)(v23:Lv):Option ay:=
 (bif v22<(v23.length:Int) then bif 0<=v22 then(bif !((cI v23 v22 0)=(cI v23 v22 1))then bif 0<=v21 then bif v21<(v23.length:Int) then bif(-9223372036854775808<=(v21+1))&&((v21+1)<=9223372036854775807)then bif(-9223372036854775808<=(v22+1))&&((v22+1)<=9223372036854775807)then go1 ((v21+1),(v22+1),(List.modify (List.modify (List.modify v23 (v21).toNat (fun r=>r.set 0 (AV.int (cI v23 v22 0)))) (v21).toNat (fun r=>r.set 1 (AV.int (cI v23 v22 1)))) (v21).toNat (fun r=>r.set 2 (AV.int (cI v23 v22 2)))))else none else none else none else none else bif(-9223372036854775808<=(v22+1))&&((v22+1)<=9223372036854775807)then go1 (v21,(v22+1),v23)else none)else none else bif 0<=v21 then bif v21<(v23.length:Int) then bif v21<=(((List.take (v21).toNat v23)++(List.replicate (((v23.length:Int)-v21)).toNat [(AV.int 0),(AV.int 0),(AV.int 0)])).length:Int) then bif(-9223372036854775808<=(v17+1))&&((v17+1)<=9223372036854775807)then go0 ((List.take (v21).toNat ((List.take (v21).toNat v23)++(List.replicate (((v23.length:Int)-v21)).toNat [(AV.int 0),(AV.int 0),(AV.int 0)]))),(v17+1))else none else none else none else none)
def m4(n:Nat)(go0:bD->Option ay)(go1:eI->Option ay)(v17:Int)(v19:Lv)(v20:Int):Option ay:=
 (bif v20<(v19.length:Int) then bif 0<=v20 then(bif (cI v19 v20 0)=(cI v19 v20 1) then(bif v20=(-1) then bif(-9223372036854775808<=(v17+1))&&((v17+1)<=9223372036854775807)then go0 (v19,(v17+1))else none else bif(-9223372036854775808<=(v20+1))&&((v20+1)<=9223372036854775807)then(aa (fun go1 s=>HY n go0 go1 v17 s.1 s.2.1 s.2.2) n ((v20,(v20+1),v19):tQ))else none)else bif(-9223372036854775808<=(v20+1))&&((v20+1)<=9223372036854775807)then go1 (v20+1)else none)else none else bif(-9223372036854775808<=(v17+1))&&((v17+1)<=9223372036854775807)then go0 (v19,(v17+1))else none)
def GX(n:Nat)(go0:bD->Option ay)(go1:dC->Option ay)(v5 v16:Lv)(v17 v18:Int)(v19:Lv):Option ay:=
 (bif v18<(v16.length:Int) then bif 0<=v18 then bif v18<(v19.length:Int) then(bif (cI v19 v18 0)=(cI v5 v17 2) then(bif (cI v19 v18 1)=(cI v5 v17 2) then bif(-9223372036854775808<=(v18+1))&&((v18+1)<=9223372036854775807)then go1 ((v18+1),(List.modify (List.modify v19 (v18).toNat (fun r=>r.set 0 (AV.int (cI v5 v17 3)))) (v18).toNat (fun r=>r.set 1 (AV.int (cI v5 v17 3)))))else none else bif(-9223372036854775808<=(v18+1))&&((v18+1)<=9223372036854775807)then go1 ((v18+1),(List.modify v19 (v18).toNat (fun r=>r.set 0 (AV.int (cI v5 v17 3)))))else none)else(bif (cI v19 v18 1)=(cI v5 v17 2) then bif(-9223372036854775808<=(v18+1))&&((v18+1)<=9223372036854775807)then go1 ((v18+1),(List.modify v19 (v18).toNat (fun r=>r.set 1 (AV.int (cI v5 v17 3)))))else none else bif(-9223372036854775808<=(v18+1))&&((v18+1)<=9223372036854775807)then go1 ((v18+1),v19)else none))else none else none else(aa (fun go1 s=>m4 n go0 go1 v17 v19 s) n (0:eI)))
abbrev Fr:= @m4
def ur(n:Nat)(go0:bD->Option ay)(go1:dC->Option ay)(v5 v16:Lv)(v17 v18:Int)(v19:Lv):Option ay:=
 (bif v18<((v16.length:Int)+1) then bif 0<=v18 then bif v18<(v19.length:Int) then(bif (cI v19 v18 0)=(cI v5 v17 2) then(bif (cI v19 v18 1)=(cI v5 v17 2) then bif(-9223372036854775808<=(v18+1))&&((v18+1)<=9223372036854775807)then go1 ((v18+1),(List.modify (List.modify v19 (v18).toNat (fun r=>r.set 0 (AV.int (cI v5 v17 4)))) (v18).toNat (fun r=>r.set 1 (AV.int (cI v5 v17 4)))))else none else bif(-9223372036854775808<=(v18+1))&&((v18+1)<=9223372036854775807)then go1 ((v18+1),(List.modify v19 (v18).toNat (fun r=>r.set 0 (AV.int (cI v5 v17 4)))))else none)else(bif (cI v19 v18 1)=(cI v5 v17 2) then bif(-9223372036854775808<=(v18+1))&&((v18+1)<=9223372036854775807)then go1 ((v18+1),(List.modify v19 (v18).toNat (fun r=>r.set 1 (AV.int (cI v5 v17 4)))))else none else bif(-9223372036854775808<=(v18+1))&&((v18+1)<=9223372036854775807)then go1 ((v18+1),v19)else none))else none else none else(aa (fun go1 s=>Fr n go0 go1 v17 v19 s) n (0:eI)))
abbrev EN:= @ur
abbrev Fa:= @m4
def Fu(n:Nat)(go0:bD->Option ay)(go1:dC->Option ay)(v5 v16:Lv)(v17 v18:Int)(v19:Lv):Option ay:=
 (bif v18<(v16.length:Int) then bif 0<=v18 then bif v18<(v19.length:Int) then(bif (cI v19 v18 0)=(cI v5 v17 2) then(bif (cI v19 v18 1)=(cI v5 v17 2) then bif(-9223372036854775808<=(v18+1))&&((v18+1)<=9223372036854775807)then go1 ((v18+1),(List.modify (List.modify v19 (v18).toNat (fun r=>r.set 0 (AV.int (cI v5 v17 4)))) (v18).toNat (fun r=>r.set 1 (AV.int (cI v5 v17 4)))))else none else bif(-9223372036854775808<=(v18+1))&&((v18+1)<=9223372036854775807)then go1 ((v18+1),(List.modify v19 (v18).toNat (fun r=>r.set 0 (AV.int (cI v5 v17 4)))))else none)else(bif (cI v19 v18 1)=(cI v5 v17 2) then bif(-9223372036854775808<=(v18+1))&&((v18+1)<=9223372036854775807)then go1 ((v18+1),(List.modify v19 (v18).toNat (fun r=>r.set 1 (AV.int (cI v5 v17 4)))))else none else bif(-9223372036854775808<=(v18+1))&&((v18+1)<=9223372036854775807)then go1 ((v18+1),v19)else none))else none else none else(aa (fun go1 s=>Fa n go0 go1 v17 v19 s) n (0:eI)))
def Fo(n:Nat)(go0:bD->Option ay)(v5 v16:Lv)(v17:Int):Option ay:=
 (bif (cI v5 v17 7)<0 then bif(-9223372036854775808<=(0-(cI v5 v17 7)))&&((0-(cI v5 v17 7))<=9223372036854775807)then bif (((v16.length:Int)+1)*24)<=140737488355328 then(aa (fun go1 s=>EN n go0 go1 v5 v16 v17 s.1 s.2) n ((0,(v16++[[(AV.int (cI v5 v17 3)),(AV.int (cI v5 v17 2)),(AV.int (0-(cI v5 v17 7)))]])):dC))else none else none else(aa (fun go1 s=>Fu n go0 go1 v5 v16 v17 s.1 s.2) n ((0,v16):dC)))
def ED(n:Nat)(go0:bD->Option ay)(v5 v16:Lv)(v17:Int):Option ay:=
 (bif 0<(cI v5 v17 7) then bif (((v16.length:Int)+1)*24)<=140737488355328 then(aa (fun go1 s=>ur n go0 go1 v5 v16 v17 s.1 s.2) n ((0,(v16++[[(AV.int (cI v5 v17 2)),(AV.int (cI v5 v17 3)),(AV.int (cI v5 v17 7))]])):dC))else none else Fo n go0 v5 v16 v17)
def Fb(n:Nat)(go0:bD->Option ay)(v5 v16:Lv)(v17:Int):Option ay:=
 (bif (cI v5 v17 0)=3 then ED n go0 v5 v16 v17 else bif(-9223372036854775808<=(v17+1))&&((v17+1)<=9223372036854775807)then go0 (v16,(v17+1))else none)
def GU(n:Nat)(go0:bD->Option ay)(v5 v16:Lv)(v17:Int):Option ay:=
 (bif (cI v5 v17 0)=2 then(bif 0<(cI v5 v17 7) then bif (((v16.length:Int)+1)*24)<=140737488355328 then bif(-9223372036854775808<=(v17+1))&&((v17+1)<=9223372036854775807)then go0 ((v16++[[(AV.int (cI v5 v17 2)),(AV.int (cI v5 v17 3)),(AV.int (cI v5 v17 7))]]),(v17+1))else none else none else(bif (cI v5 v17 7)<0 then bif(-9223372036854775808<=(0-(cI v5 v17 7)))&&((0-(cI v5 v17 7))<=9223372036854775807)then bif (((v16.length:Int)+1)*24)<=140737488355328 then bif(-9223372036854775808<=(v17+1))&&((v17+1)<=9223372036854775807)then go0 ((v16++[[(AV.int (cI v5 v17 3)),(AV.int (cI v5 v17 2)),(AV.int (0-(cI v5 v17 7)))]]),(v17+1))else none else none else none else bif(-9223372036854775808<=(v17+1))&&((v17+1)<=9223372036854775807)then go0 (v16,(v17+1))else none))else Fb n go0 v5 v16 v17)
def Gr(n:Nat)(go0:bD->Option ay)(v5 v16:Lv)(v17:Int):Option ay:=
 (bif (cI v5 v17 0)=1 then(aa (fun go1 s=>GX n go0 go1 v5 v16 v17 s.1 s.2) n ((0,v16):dC))else GU n go0 v5 v16 v17)
def Hk(n:Nat)(go0:bD->Option ay)(v5 v16:Lv)(v17:Int):Option ay:=
 (bif v17<(v5.length:Int) then bif 0<=v17 then Gr n go0 v5 v16 v17 else none else some (v16,0))
def GC(n:Nat)(go0:eI->Option ay)(v5 v6:Lv)(v14:Int):Option ay:=
 (bif v14<(v6.length:Int) then bif 0<=v14 then(bif 0<=(cI v6 v14 0) then(bif !((cI v6 v14 0)<=7)then some (([]:Lv),420)else(bif 0<=(cI v6 v14 1) then(bif !((cI v6 v14 1)<=7)then some (([]:Lv),420)else bif(-9223372036854775808<=(v14+1))&&((v14+1)<=9223372036854775807)then go0 (v14+1)else none)else some (([]:Lv),420)))else some (([]:Lv),420))else none else(eO n v6).bind fun y15=>
 (aa (fun go0 s=>Hk n go0 v5 s.1 s.2) n ((y15,0):bD)))
def Gy(n:Nat)(v5 v6:Lv)(v13:Int):Option ay:=
 (bif !(v13=0)then some (([]:Lv),420)else(aa (fun go0 s=>GC n go0 v5 v6 s) n (0:eI)))
def GS(n:Nat)(v0 v1:Int)(v2 v3 v4 v5 v6:Lv):Option ay:=
 (dS n v0 v1 v2 v3 v4 v5).bind fun y7=>
 Gy n v5 v6 y7.2.2.2.2.2.2
def Bz(n:Nat)(v0 v1:Int)(v2 v3 v4 v5 v6:Lv):Option ay:=GS n v0 v1 v2 v3 v4 v5 v6
def merge_Debts_t:FnT:=⟨[(true,[.int,.int,tSc,tSa,tSa]),(false,[tSh]),(false,[tSc])],(.tup (.cons (.row 114 (.cons .int (.cons .int (.cons .int .nil)))) (.cons .i .nil))),fun n (s:Int×Int×Lv×Lv×Lv×Lv×Lv)=>Bz n s.1 s.2.1 s.2.2.1 s.2.2.2.1 s.2.2.2.2.1 s.2.2.2.2.2.1 s.2.2.2.2.2.2⟩
theorem EZ:merge_Debts_t.ok Tryz.prog 26:=FnT.ok_of (cfg:=⟨[((131,2,6),.inv [(.tmp 8 .int)]),((26,7,8),.inv [(.tmprow 12 114 (.cons .int (.cons .int (.cons .int .nil)))),(.tmp 33 .int)]),((88,2,12),.inv [(.tmp 11 .int),(.inrow 8 114 (.cons .int (.cons .int (.cons .int .nil))))]),((131,2,14),.inv [(.tmp 8 .int)]),((132,5,16),.inv [(.tmp 5 .int),(.tmp 6 .int),(.inrow 8 114 (.cons .int (.cons .int (.cons .int .nil))))]),((88,2,14),.inv [(.tmp 11 .int),(.inrow 13 114 (.cons .int (.cons .int (.cons .int .nil))))]),((131,2,16),.inv [(.tmp 8 .int)]),((132,5,18),.inv [(.tmp 5 .int),(.tmp 6 .int),(.inrow 13 114 (.cons .int (.cons .int (.cons .int .nil))))])],aL,[(132,11),(132,12)],[]⟩) av vF aA (fun s fn hf=>by rw[Tryz.func26]at hf;cases hf;kernel_rfl) (fun n s=>by kernel_rfl)
def merge_Debts_T:Tab:=(26,merge_Debts_t)::merge_At_T
theorem oJ:merge_Debts_T.ok Tryz.prog:=Tab.ok_cons EZ vF
end
end Go.Proofs.YtgckmifmjiklmaaGreat
