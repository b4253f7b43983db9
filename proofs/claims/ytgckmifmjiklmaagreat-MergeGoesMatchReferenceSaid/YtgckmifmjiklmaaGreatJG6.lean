/-
  Texts of this claim, joined (part 6).
-/
import Derived.Test.YtgckmifmjiklmaaGreatJG5
import Derived.Lib.Hide
set_option linter.unusedVariables false
set_option linter.unusedSimpArgs false
set_option linter.unusedSectionVars false
set_option linter.constructorNameAsVariable false
set_option maxRecDepth 100000
namespace Go.Proofs.YtgckmifmjiklmaaGreat
open Go Go.Sx
noncomputable section
abbrev ap:=Int×Int×Int×Int
abbrev bI:=Int×Lv×Int×Int×Int×Int×Int×Int
abbrev bx:=Int×Int×Int×Int×Int×Int
def CM(n:Nat)(go0:bI->Option ap)(go1:bx->Option ap)(v9:Bool)(v10:Lv)(v11 v13:Int)(v14:Lv)(v21 v22 v23 v24 v25 v26:Int):Option ap:=
 (bif((cI v10 v13 0)=5)&&(v24=2)then(bif (cI v10 v13 2)=1 then(bif(v9==true)then bif (((v14.length:Int)+1)*8)<=140737488355328 then bif(-9223372036854775808<=(v13+1))&&((v13+1)<=9223372036854775807)then go0 ((v13+1),(v14++[[(AV.int v13)]]),v21,v22,v23,v24,v25,v26)else none else none else(bif v11<(cI v10 v13 1) then some (v21,v22,v23,0)else bif(-9223372036854775808<=(v13+1))&&((v13+1)<=9223372036854775807)then go0 ((v13+1),v14,7,(cI v10 v13 1),(-1),7,(cI v10 v13 1),(-1))else none))else(bif v11<(cI v10 v13 1) then some (v21,v22,v23,0)else bif(-9223372036854775808<=(v13+1))&&((v13+1)<=9223372036854775807)then go0 ((v13+1),v14,7,(cI v10 v13 1),(-1),7,(cI v10 v13 1),(-1))else none))else(bif((cI v10 v13 0)=5)&&(v24=3)then(bif (cI v10 v13 2)=1 then(bif(v9==true)then bif (((v14.length:Int)+1)*8)<=140737488355328 then bif(-9223372036854775808<=(v13+1))&&((v13+1)<=9223372036854775807)then go0 ((v13+1),(v14++[[(AV.int v13)]]),v21,v22,v23,v24,v25,v26)else none else none else(bif v11<(cI v10 v13 1) then some (v21,v22,v23,0)else bif(-9223372036854775808<=(v13+1))&&((v13+1)<=9223372036854775807)then go0 ((v13+1),v14,7,(cI v10 v13 1),(-1),7,(cI v10 v13 1),(-1))else none))else(bif v11<(cI v10 v13 1) then some (v21,v22,v23,0)else bif(-9223372036854775808<=(v13+1))&&((v13+1)<=9223372036854775807)then go0 ((v13+1),v14,7,(cI v10 v13 1),(-1),7,(cI v10 v13 1),(-1))else none))else(bif((cI v10 v13 0)=6)&&(v24=4)then(bif (cI v10 v13 2)=1 then(bif(v9==true)then bif (((v14.length:Int)+1)*8)<=140737488355328 then bif(-9223372036854775808<=(v13+1))&&((v13+1)<=9223372036854775807)then go0 ((v13+1),(v14++[[(AV.int v13)]]),v21,v22,v23,v24,v25,v26)else none else none else(bif v11<(cI v10 v13 1) then some (v21,v22,v23,0)else bif(-9223372036854775808<=(v13+1))&&((v13+1)<=9223372036854775807)then go0 ((v13+1),v14,8,(cI v10 v13 1),(-1),8,(cI v10 v13 1),(-1))else none))else(bif v11<(cI v10 v13 1) then some (v21,v22,v23,0)else bif(-9223372036854775808<=(v13+1))&&((v13+1)<=9223372036854775807)then go0 ((v13+1),v14,8,(cI v10 v13 1),(-1),8,(cI v10 v13 1),(-1))else none))else(bif (cI v10 v13 2)=1 then(bif (cI v10 v13 0)=2 then bif (((v14.length:Int)+1)*8)<=140737488355328 then bif(-9223372036854775808<=(v13+1))&&((v13+1)<=9223372036854775807)then go0 ((v13+1),(v14++[[(AV.int v13)]]),v21,v22,v23,v24,v25,v26)else none else none else bif (((v14.length:Int)+1)*8)<=140737488355328 then bif(-9223372036854775808<=(v13+1))&&((v13+1)<=9223372036854775807)then go0 ((v13+1),(v14++[[(AV.int v13)]]),v21,v22,v23,v24,v25,v26)else none else none)else bif (((v14.length:Int)+1)*8)<=140737488355328 then bif(-9223372036854775808<=(v13+1))&&((v13+1)<=9223372036854775807)then go0 ((v13+1),(v14++[[(AV.int v13)]]),v21,v22,v23,v24,v25,v26)else none else none))))
def CI(n:Nat)(go0:bI->Option ap)(go1:bx->Option ap)(v9:Bool)(v10:Lv)(v11 v13:Int)(v14:Lv)(v21 v22 v23 v24 v25 v26:Int):Option ap:=
 (bif((cI v10 v13 0)=5)&&(v24=1)then(bif (cI v10 v13 2)=1 then(bif(v9==true)then bif (((v14.length:Int)+1)*8)<=140737488355328 then bif(-9223372036854775808<=(v13+1))&&((v13+1)<=9223372036854775807)then go0 ((v13+1),(v14++[[(AV.int v13)]]),v21,v22,v23,v24,v25,v26)else none else none else(bif v11<(cI v10 v13 1) then some (v21,v22,v23,0)else bif(-9223372036854775808<=(v13+1))&&((v13+1)<=9223372036854775807)then go0 ((v13+1),v14,7,(cI v10 v13 1),(-1),7,(cI v10 v13 1),(-1))else none))else(bif v11<(cI v10 v13 1) then some (v21,v22,v23,0)else bif(-9223372036854775808<=(v13+1))&&((v13+1)<=9223372036854775807)then go0 ((v13+1),v14,7,(cI v10 v13 1),(-1),7,(cI v10 v13 1),(-1))else none))else CM n go0 go1 v9 v10 v11 v13 v14 v21 v22 v23 v24 v25 v26)
def Cc(n:Nat)(go0:bI->Option ap)(go1:bx->Option ap)(v9:Bool)(v10:Lv)(v11 v13:Int)(v14:Lv)(v21 v22 v23 v24 v25 v26:Int):Option ap:=
 (bif((cI v10 v13 0)=4)&&(v24=2)then(bif (cI v10 v13 2)=1 then(bif(v9==true)then bif (((v14.length:Int)+1)*8)<=140737488355328 then bif(-9223372036854775808<=(v13+1))&&((v13+1)<=9223372036854775807)then go0 ((v13+1),(v14++[[(AV.int v13)]]),v21,v22,v23,v24,v25,v26)else none else none else(bif v11<(cI v10 v13 1) then some (v21,v22,v23,0)else bif(-9223372036854775808<=(v13+1))&&((v13+1)<=9223372036854775807)then go0 ((v13+1),v14,6,(cI v10 v13 1),(-1),6,(cI v10 v13 1),(-1))else none))else(bif v11<(cI v10 v13 1) then some (v21,v22,v23,0)else bif(-9223372036854775808<=(v13+1))&&((v13+1)<=9223372036854775807)then go0 ((v13+1),v14,6,(cI v10 v13 1),(-1),6,(cI v10 v13 1),(-1))else none))else CI n go0 go1 v9 v10 v11 v13 v14 v21 v22 v23 v24 v25 v26)
def Cx(n:Nat)(go0:bI->Option ap)(go1:bx->Option ap)(v1:Int)(v9:Bool)(v10:Lv)(v11 v13:Int)(v14:Lv)(v21 v22 v23 v24 v25 v26:Int):Option ap:=
 (bif((cI v10 v13 0)=3)&&(v24=2)then(bif (cI v10 v13 2)=1 then(bif(v9==true)then bif (((v14.length:Int)+1)*8)<=140737488355328 then bif(-9223372036854775808<=(v13+1))&&((v13+1)<=9223372036854775807)then go0 ((v13+1),(v14++[[(AV.int v13)]]),v21,v22,v23,v24,v25,v26)else none else none else bif(-9223372036854775808<=((cI v10 v13 1)+v1))&&(((cI v10 v13 1)+v1)<=9223372036854775807)then(bif v11<(cI v10 v13 1) then some (v21,v22,v23,0)else bif(-9223372036854775808<=(v13+1))&&((v13+1)<=9223372036854775807)then go0 ((v13+1),v14,3,(cI v10 v13 1),((cI v10 v13 1)+v1),3,(cI v10 v13 1),((cI v10 v13 1)+v1))else none)else none)else bif(-9223372036854775808<=((cI v10 v13 1)+v1))&&(((cI v10 v13 1)+v1)<=9223372036854775807)then(bif v11<(cI v10 v13 1) then some (v21,v22,v23,0)else bif(-9223372036854775808<=(v13+1))&&((v13+1)<=9223372036854775807)then go0 ((v13+1),v14,3,(cI v10 v13 1),((cI v10 v13 1)+v1),3,(cI v10 v13 1),((cI v10 v13 1)+v1))else none)else none)else Cc n go0 go1 v9 v10 v11 v13 v14 v21 v22 v23 v24 v25 v26)
def Cf(n:Nat)(go0:bI->Option ap)(go1:bx->Option ap)(v1 v2:Int)(v9:Bool)(v10:Lv)(v11 v13:Int)(v14:Lv)(v21 v22 v23 v24 v25 v26:Int):Option ap:=
 (bif((cI v10 v13 0)=2)&&(v24=1)then(bif (cI v10 v13 2)=1 then(bif(v9==true)then bif (((v14.length:Int)+1)*8)<=140737488355328 then bif(-9223372036854775808<=(v13+1))&&((v13+1)<=9223372036854775807)then go0 ((v13+1),(v14++[[(AV.int v13)]]),v21,v22,v23,v24,v25,v26)else none else none else(bif v11<(cI v10 v13 1) then some (v21,v22,v23,0)else bif(-9223372036854775808<=(v13+1))&&((v13+1)<=9223372036854775807)then go0 ((v13+1),v14,6,(cI v10 v13 1),(-1),6,(cI v10 v13 1),(-1))else none))else bif(-9223372036854775808<=((cI v10 v13 1)+v2))&&(((cI v10 v13 1)+v2)<=9223372036854775807)then(bif v11<(cI v10 v13 1) then some (v21,v22,v23,0)else bif(-9223372036854775808<=(v13+1))&&((v13+1)<=9223372036854775807)then go0 ((v13+1),v14,2,(cI v10 v13 1),((cI v10 v13 1)+v2),2,(cI v10 v13 1),((cI v10 v13 1)+v2))else none)else none)else Cx n go0 go1 v1 v9 v10 v11 v13 v14 v21 v22 v23 v24 v25 v26)
def rB(n:Nat)(go0:bI->Option ap)(go1:bx->Option ap)(v1 v2:Int)(v9:Bool)(v10:Lv)(v11 v13:Int)(v14:Lv)(v21 v22 v23 v24 v25 v26:Int):Option ap:=
 (bif((cI v10 v13 0)=1)&&(v24=1)then(bif (cI v10 v13 2)=1 then(bif(v9==true)then bif (((v14.length:Int)+1)*8)<=140737488355328 then bif(-9223372036854775808<=(v13+1))&&((v13+1)<=9223372036854775807)then go0 ((v13+1),(v14++[[(AV.int v13)]]),v21,v22,v23,v24,v25,v26)else none else none else bif(-9223372036854775808<=((cI v10 v13 1)+v1))&&(((cI v10 v13 1)+v1)<=9223372036854775807)then(bif v11<(cI v10 v13 1) then some (v21,v22,v23,0)else bif(-9223372036854775808<=(v13+1))&&((v13+1)<=9223372036854775807)then go0 ((v13+1),v14,3,(cI v10 v13 1),((cI v10 v13 1)+v1),3,(cI v10 v13 1),((cI v10 v13 1)+v1))else none)else none)else bif(-9223372036854775808<=((cI v10 v13 1)+v1))&&(((cI v10 v13 1)+v1)<=9223372036854775807)then(bif v11<(cI v10 v13 1) then some (v21,v22,v23,0)else bif(-9223372036854775808<=(v13+1))&&((v13+1)<=9223372036854775807)then go0 ((v13+1),v14,3,(cI v10 v13 1),((cI v10 v13 1)+v1),3,(cI v10 v13 1),((cI v10 v13 1)+v1))else none)else none)else Cf n go0 go1 v1 v2 v9 v10 v11 v13 v14 v21 v22 v23 v24 v25 v26)
def Eq(n:Nat)(go0:bI->Option ap)(go1:bx->Option ap)(v1 v2 v3:Int)(v9:Bool)(v10:Lv)(v11 v13:Int)(v14:Lv)(v21 v22 v23 v24 v25 v26:Int):Option ap:=
 (bif v26<=(cI v10 v13 1) then(bif v24=1 then bif(-9223372036854775808<=(v26+v1))&&((v26+v1)<=9223372036854775807)then(bif v11<v26 then some (v21,v22,v23,0)else go1 (3,v26,(v26+v1),3,v26,(v26+v1)))else none else(bif v24=2 then bif(-9223372036854775808<=(v26+v1))&&((v26+v1)<=9223372036854775807)then(bif v11<v26 then some (v21,v22,v23,0)else go1 (3,v26,(v26+v1),3,v26,(v26+v1)))else none else(bif v24=3 then bif(-9223372036854775808<=(v26+v3))&&((v26+v3)<=9223372036854775807)then(bif v11<v26 then some (v21,v22,v23,0)else go1 (4,v26,(v26+v3),4,v26,(v26+v3)))else none else(bif v24=4 then(bif v11<v26 then some (v21,v22,v23,0)else go1 (5,v26,(-1),5,v26,(-1)))else(bif v11<v26 then some (v21,v22,v23,0)else go1 (0,v26,(-1),0,v26,(-1)))))))else rB n go0 go1 v1 v2 v9 v10 v11 v13 v14 v21 v22 v23 v24 v25 v26)
abbrev Cu:= @rB
def Dg(n:Nat)(go0:bI->Option ap)(go1:bx->Option ap)(v1 v2 v3:Int)(v9:Bool)(v10:Lv)(v11 v13:Int)(v14:Lv)(v21 v22 v23 v24 v25 v26:Int):Option ap:=
 (bif 0<=v26 then Eq n go0 go1 v1 v2 v3 v9 v10 v11 v13 v14 v21 v22 v23 v24 v25 v26 else Cu n go0 go1 v1 v2 v9 v10 v11 v13 v14 v21 v22 v23 v24 v25 v26)
def CD(n:Nat)(go0:bx->Option ap)(v1 v3 v11 v21 v22 v23 v24 v26:Int):Option ap:=
 (bif 0<=v26 then(bif v26<=4611686018427387904 then(bif v24=1 then bif(-9223372036854775808<=(v26+v1))&&((v26+v1)<=9223372036854775807)then(bif v11<v26 then some (v21,v22,v23,0)else go0 (3,v26,(v26+v1),3,v26,(v26+v1)))else none else(bif v24=2 then bif(-9223372036854775808<=(v26+v1))&&((v26+v1)<=9223372036854775807)then(bif v11<v26 then some (v21,v22,v23,0)else go0 (3,v26,(v26+v1),3,v26,(v26+v1)))else none else(bif v24=3 then bif(-9223372036854775808<=(v26+v3))&&((v26+v3)<=9223372036854775807)then(bif v11<v26 then some (v21,v22,v23,0)else go0 (4,v26,(v26+v3),4,v26,(v26+v3)))else none else(bif v24=4 then(bif v11<v26 then some (v21,v22,v23,0)else go0 (5,v26,(-1),5,v26,(-1)))else(bif v11<v26 then some (v21,v22,v23,0)else go0 (0,v26,(-1),0,v26,(-1)))))))else some (v21,v22,v23,0))else some (v21,v22,v23,0))
def C0(n:Nat)(go0:bI->Option ap)(v1 v2 v3:Int)(v9:Bool)(v10:Lv)(v11 v13:Int)(v14:Lv)(v15 v16 v17 v18 v19 v20:Int):Option ap:=
 (bif v13<(v10.length:Int) then bif 0<=v13 then(aa (fun go1 s=>Dg n go0 go1 v1 v2 v3 v9 v10 v11 v13 v14 s.1 s.2.1 s.2.2.1 s.2.2.2.1 s.2.2.2.2.1 s.2.2.2.2.2) n ((v15,v16,v17,v18,v19,v20):bx))else none else(aa (fun go0 s=>CD n go0 v1 v3 v11 s.1 s.2.1 s.2.2.1 s.2.2.2.1 s.2.2.2.2.2) n ((v15,v16,v17,v18,v19,v20):bx)))
def DL(n:Nat)(v0 v1 v2 v3 v8:Int)(v9:Bool)(v10:Lv)(v11:Int):Option ap:=
 (bif v11<v8 then some (0,0,v8,0)else(aa (fun go0 s=>C0 n go0 v1 v2 v3 v9 v10 v11 s.1 s.2.1 s.2.2.1 s.2.2.2.1 s.2.2.2.2.1 s.2.2.2.2.2.1 s.2.2.2.2.2.2.1 s.2.2.2.2.2.2.2) n ((0,([]:Lv),1,v8,(v8+v0),1,v8,(v8+v0)):bI)))
def Dq(n:Nat)(v0 v1 v2 v3 v8:Int)(v9:Bool)(v10:Lv)(v11:Int):Option ap:=
 (bif !(v11<=20000000)then some (0,0,0,160)else bif(-9223372036854775808<=(v8+v0))&&((v8+v0)<=9223372036854775807)then DL n v0 v1 v2 v3 v8 v9 v10 v11 else none)
def Dm(n:Nat)(v0 v1 v2 v3 v8:Int)(v9:Bool)(v10:Lv)(v11:Int):Option ap:=
 (bif 0<=v11 then Dq n v0 v1 v2 v3 v8 v9 v10 v11 else some (0,0,0,160))
def Df(n:Nat)(v0 v1 v2 v3 v8:Int)(v9:Bool)(v10:Lv)(v11:Int)(v12:Bool):Option ap:=
 (bif(!v12)then some (0,0,0,160)else Dm n v0 v1 v2 v3 v8 v9 v10 v11)
def DM(n:Nat)(v0 v1 v2 v3 v4 v5 v6 v7 v8:Int)(v9:Bool)(v10:Lv)(v11:Int):Option ap:=
 (gU n v0 v1 v2 v3 v4 v5 v6 v7 v8 v9 v10).bind fun y12=>
 Df n v0 v1 v2 v3 v8 v9 v10 v11 y12
def wL(n:Nat)(v0 v1 v2 v3 v4 v5 v6 v7 v8:Int)(v9:Bool)(v10:Lv)(v11:Int):Option ap:=DM n v0 v1 v2 v3 v4 v5 v6 v7 v8 v9 v10 v11
def claim_Outcome_t:FnT:=⟨[(true,[.int,.int,.int,.int]),(true,[.int,.int,.int,.int,.int,.bool]),(false,[tSc]),(false,[.int])],(.tup (.cons (.agg (.cons .i (.cons .i (.cons .i .nil)))) (.cons .i .nil))),fun n (s:Int×Int×Int×Int×Int×Int×Int×Int×Int×Bool×Lv×Int)=>wL n s.1 s.2.1 s.2.2.1 s.2.2.2.1 s.2.2.2.2.1 s.2.2.2.2.2.1 s.2.2.2.2.2.2.1 s.2.2.2.2.2.2.2.1 s.2.2.2.2.2.2.2.2.1 s.2.2.2.2.2.2.2.2.2.1 s.2.2.2.2.2.2.2.2.2.2.1 s.2.2.2.2.2.2.2.2.2.2.2⟩
theorem Ct:claim_Outcome_t.ok Tryz.prog 105:=FnT.ok_of (cfg:=⟨[((143,5,32),.inv [(.tmp 24 .int),(.cellrow 12 12 3 (.cons .int .nil)),(.cell 13 0 .int),(.cell 13 1 .int),(.cell 13 2 .int),(.cell 27 0 .int),(.cell 27 1 .int),(.cell 27 2 .int)]),((145,1,42),.inv [(.cell 13 0 .int),(.cell 13 1 .int),(.cell 13 2 .int),(.cell 27 0 .int),(.cell 27 1 .int),(.cell 27 2 .int)]),((145,1,40),.inv [(.cell 13 0 .int),(.cell 13 1 .int),(.cell 13 2 .int),(.cell 27 0 .int),(.cell 27 1 .int),(.cell 27 2 .int)])],aH,[],aG⟩) av rR aX (fun s fn hf=>by rw[Tryz.func105]at hf;cases hf;kernel_rfl) (fun n s=>by kernel_rfl)
def claim_Outcome_T:Tab:=(105,claim_Outcome_t)::claim_Ends_T
theorem mh:claim_Outcome_T.ok Tryz.prog:=Tab.ok_cons Ct rR
abbrev xP:=Int×Int
def Jz(n:Nat)(v0 v1 v2 v3 v4 v5 v6 v7 v8:Int)(v9:Bool)(v10:Lv)(v11:Int):Option xP:=
 (wL n v0 v1 v2 v3 v4 v5 v6 v7 v8 v9 v10 v11).bind fun y12=>
 (bif !(y12.2.2.2=0)then some (0,y12.2.2.2)else(bif y12.1=4 then some (v6,0)else(bif y12.1=5 then some (v6,0)else some (v5,0))))
def LA(n:Nat)(v0 v1 v2 v3 v4 v5 v6 v7 v8:Int)(v9:Bool)(v10:Lv)(v11:Int):Option xP:=Jz n v0 v1 v2 v3 v4 v5 v6 v7 v8 v9 v10 v11
def claim_With_t:FnT:=⟨[(true,[.int,.int,.int,.int]),(true,[.int,.int,.int,.int,.int,.bool]),(false,[tSc]),(false,[.int])],(.tup (.cons .i (.cons .i .nil))),fun n (s:Int×Int×Int×Int×Int×Int×Int×Int×Int×Bool×Lv×Int)=>LA n s.1 s.2.1 s.2.2.1 s.2.2.2.1 s.2.2.2.2.1 s.2.2.2.2.2.1 s.2.2.2.2.2.2.1 s.2.2.2.2.2.2.2.1 s.2.2.2.2.2.2.2.2.1 s.2.2.2.2.2.2.2.2.2.1 s.2.2.2.2.2.2.2.2.2.2.1 s.2.2.2.2.2.2.2.2.2.2.2⟩
theorem Hu:claim_With_t.ok Tryz.prog 42:=FnT.ok_of (cfg:=⟨[],aH,[],aG⟩) av mh aX (fun s fn hf=>by rw[Tryz.func42]at hf;cases hf;kernel_rfl) (fun n s=>by kernel_rfl)
def claim_With_T:Tab:=(42,claim_With_t)::claim_Outcome_T
theorem rm:claim_With_T.ok Tryz.prog:=Tab.ok_cons Hu mh
abbrev ak:=Lv×Int
abbrev be:=Int×Lv×Lv×Int×Int×Int
abbrev aU:=Lv×Int×Int×Int
def nJ(n:Nat)(go0:be->Option ak)(go1:aU->Option ak)(v9:Bool)(v10:Lv)(v12:Int)(v13 v18:Lv)(v19 v20 v21:Int):Option ak:=
 (bif((cI v10 v12 0)=5)&&(v19=2)then(bif (cI v10 v12 2)=1 then(bif(v9==true)then bif (((v13.length:Int)+1)*8)<=140737488355328 then bif(-9223372036854775808<=(v12+1))&&((v12+1)<=9223372036854775807)then go0 ((v12+1),(v13++[[(AV.int v12)]]),v18,v19,v20,v21)else none else none else bif (((v18.length:Int)+1)*24)<=140737488355328 then bif(-9223372036854775808<=(v12+1))&&((v12+1)<=9223372036854775807)then go0 ((v12+1),v13,(v18++[[(AV.int 7),(AV.int (cI v10 v12 1)),(AV.int (-1))]]),7,(cI v10 v12 1),(-1))else none else none)else bif (((v18.length:Int)+1)*24)<=140737488355328 then bif(-9223372036854775808<=(v12+1))&&((v12+1)<=9223372036854775807)then go0 ((v12+1),v13,(v18++[[(AV.int 7),(AV.int (cI v10 v12 1)),(AV.int (-1))]]),7,(cI v10 v12 1),(-1))else none else none)else(bif((cI v10 v12 0)=5)&&(v19=3)then(bif (cI v10 v12 2)=1 then(bif(v9==true)then bif (((v13.length:Int)+1)*8)<=140737488355328 then bif(-9223372036854775808<=(v12+1))&&((v12+1)<=9223372036854775807)then go0 ((v12+1),(v13++[[(AV.int v12)]]),v18,v19,v20,v21)else none else none else bif (((v18.length:Int)+1)*24)<=140737488355328 then bif(-9223372036854775808<=(v12+1))&&((v12+1)<=9223372036854775807)then go0 ((v12+1),v13,(v18++[[(AV.int 7),(AV.int (cI v10 v12 1)),(AV.int (-1))]]),7,(cI v10 v12 1),(-1))else none else none)else bif (((v18.length:Int)+1)*24)<=140737488355328 then bif(-9223372036854775808<=(v12+1))&&((v12+1)<=9223372036854775807)then go0 ((v12+1),v13,(v18++[[(AV.int 7),(AV.int (cI v10 v12 1)),(AV.int (-1))]]),7,(cI v10 v12 1),(-1))else none else none)else(bif((cI v10 v12 0)=6)&&(v19=4)then(bif (cI v10 v12 2)=1 then(bif(v9==true)then bif (((v13.length:Int)+1)*8)<=140737488355328 then bif(-9223372036854775808<=(v12+1))&&((v12+1)<=9223372036854775807)then go0 ((v12+1),(v13++[[(AV.int v12)]]),v18,v19,v20,v21)else none else none else bif (((v18.length:Int)+1)*24)<=140737488355328 then bif(-9223372036854775808<=(v12+1))&&((v12+1)<=9223372036854775807)then go0 ((v12+1),v13,(v18++[[(AV.int 8),(AV.int (cI v10 v12 1)),(AV.int (-1))]]),8,(cI v10 v12 1),(-1))else none else none)else bif (((v18.length:Int)+1)*24)<=140737488355328 then bif(-9223372036854775808<=(v12+1))&&((v12+1)<=9223372036854775807)then go0 ((v12+1),v13,(v18++[[(AV.int 8),(AV.int (cI v10 v12 1)),(AV.int (-1))]]),8,(cI v10 v12 1),(-1))else none else none)else(bif (cI v10 v12 2)=1 then(bif (cI v10 v12 0)=2 then bif (((v13.length:Int)+1)*8)<=140737488355328 then bif(-9223372036854775808<=(v12+1))&&((v12+1)<=9223372036854775807)then go0 ((v12+1),(v13++[[(AV.int v12)]]),v18,v19,v20,v21)else none else none else bif (((v13.length:Int)+1)*8)<=140737488355328 then bif(-9223372036854775808<=(v12+1))&&((v12+1)<=9223372036854775807)then go0 ((v12+1),(v13++[[(AV.int v12)]]),v18,v19,v20,v21)else none else none)else bif (((v13.length:Int)+1)*8)<=140737488355328 then bif(-9223372036854775808<=(v12+1))&&((v12+1)<=9223372036854775807)then go0 ((v12+1),(v13++[[(AV.int v12)]]),v18,v19,v20,v21)else none else none))))
def nr(n:Nat)(go0:be->Option ak)(go1:aU->Option ak)(v9:Bool)(v10:Lv)(v12:Int)(v13 v18:Lv)(v19 v20 v21:Int):Option ak:=
 (bif((cI v10 v12 0)=5)&&(v19=1)then(bif (cI v10 v12 2)=1 then(bif(v9==true)then bif (((v13.length:Int)+1)*8)<=140737488355328 then bif(-9223372036854775808<=(v12+1))&&((v12+1)<=9223372036854775807)then go0 ((v12+1),(v13++[[(AV.int v12)]]),v18,v19,v20,v21)else none else none else bif (((v18.length:Int)+1)*24)<=140737488355328 then bif(-9223372036854775808<=(v12+1))&&((v12+1)<=9223372036854775807)then go0 ((v12+1),v13,(v18++[[(AV.int 7),(AV.int (cI v10 v12 1)),(AV.int (-1))]]),7,(cI v10 v12 1),(-1))else none else none)else bif (((v18.length:Int)+1)*24)<=140737488355328 then bif(-9223372036854775808<=(v12+1))&&((v12+1)<=9223372036854775807)then go0 ((v12+1),v13,(v18++[[(AV.int 7),(AV.int (cI v10 v12 1)),(AV.int (-1))]]),7,(cI v10 v12 1),(-1))else none else none)else nJ n go0 go1 v9 v10 v12 v13 v18 v19 v20 v21)
def qm(n:Nat)(go0:be->Option ak)(go1:aU->Option ak)(v9:Bool)(v10:Lv)(v12:Int)(v13 v18:Lv)(v19 v20 v21:Int):Option ak:=
 (bif((cI v10 v12 0)=4)&&(v19=2)then(bif (cI v10 v12 2)=1 then(bif(v9==true)then bif (((v13.length:Int)+1)*8)<=140737488355328 then bif(-9223372036854775808<=(v12+1))&&((v12+1)<=9223372036854775807)then go0 ((v12+1),(v13++[[(AV.int v12)]]),v18,v19,v20,v21)else none else none else bif (((v18.length:Int)+1)*24)<=140737488355328 then bif(-9223372036854775808<=(v12+1))&&((v12+1)<=9223372036854775807)then go0 ((v12+1),v13,(v18++[[(AV.int 6),(AV.int (cI v10 v12 1)),(AV.int (-1))]]),6,(cI v10 v12 1),(-1))else none else none)else bif (((v18.length:Int)+1)*24)<=140737488355328 then bif(-9223372036854775808<=(v12+1))&&((v12+1)<=9223372036854775807)then go0 ((v12+1),v13,(v18++[[(AV.int 6),(AV.int (cI v10 v12 1)),(AV.int (-1))]]),6,(cI v10 v12 1),(-1))else none else none)else nr n go0 go1 v9 v10 v12 v13 v18 v19 v20 v21)
def oR(n:Nat)(go0:be->Option ak)(go1:aU->Option ak)(v1:Int)(v9:Bool)(v10:Lv)(v12:Int)(v13 v18:Lv)(v19 v20 v21:Int):Option ak:=
 (bif((cI v10 v12 0)=3)&&(v19=2)then(bif (cI v10 v12 2)=1 then(bif(v9==true)then bif (((v13.length:Int)+1)*8)<=140737488355328 then bif(-9223372036854775808<=(v12+1))&&((v12+1)<=9223372036854775807)then go0 ((v12+1),(v13++[[(AV.int v12)]]),v18,v19,v20,v21)else none else none else bif(-9223372036854775808<=((cI v10 v12 1)+v1))&&(((cI v10 v12 1)+v1)<=9223372036854775807)then bif (((v18.length:Int)+1)*24)<=140737488355328 then bif(-9223372036854775808<=(v12+1))&&((v12+1)<=9223372036854775807)then go0 ((v12+1),v13,(v18++[[(AV.int 3),(AV.int (cI v10 v12 1)),(AV.int ((cI v10 v12 1)+v1))]]),3,(cI v10 v12 1),((cI v10 v12 1)+v1))else none else none else none)else bif(-9223372036854775808<=((cI v10 v12 1)+v1))&&(((cI v10 v12 1)+v1)<=9223372036854775807)then bif (((v18.length:Int)+1)*24)<=140737488355328 then bif(-9223372036854775808<=(v12+1))&&((v12+1)<=9223372036854775807)then go0 ((v12+1),v13,(v18++[[(AV.int 3),(AV.int (cI v10 v12 1)),(AV.int ((cI v10 v12 1)+v1))]]),3,(cI v10 v12 1),((cI v10 v12 1)+v1))else none else none else none)else qm n go0 go1 v9 v10 v12 v13 v18 v19 v20 v21)
def pV(n:Nat)(go0:be->Option ak)(go1:aU->Option ak)(v1 v2:Int)(v9:Bool)(v10:Lv)(v12:Int)(v13 v18:Lv)(v19 v20 v21:Int):Option ak:=
 (bif((cI v10 v12 0)=2)&&(v19=1)then(bif (cI v10 v12 2)=1 then(bif(v9==true)then bif (((v13.length:Int)+1)*8)<=140737488355328 then bif(-9223372036854775808<=(v12+1))&&((v12+1)<=9223372036854775807)then go0 ((v12+1),(v13++[[(AV.int v12)]]),v18,v19,v20,v21)else none else none else bif (((v18.length:Int)+1)*24)<=140737488355328 then bif(-9223372036854775808<=(v12+1))&&((v12+1)<=9223372036854775807)then go0 ((v12+1),v13,(v18++[[(AV.int 6),(AV.int (cI v10 v12 1)),(AV.int (-1))]]),6,(cI v10 v12 1),(-1))else none else none)else bif(-9223372036854775808<=((cI v10 v12 1)+v2))&&(((cI v10 v12 1)+v2)<=9223372036854775807)then bif (((v18.length:Int)+1)*24)<=140737488355328 then bif(-9223372036854775808<=(v12+1))&&((v12+1)<=9223372036854775807)then go0 ((v12+1),v13,(v18++[[(AV.int 2),(AV.int (cI v10 v12 1)),(AV.int ((cI v10 v12 1)+v2))]]),2,(cI v10 v12 1),((cI v10 v12 1)+v2))else none else none else none)else oR n go0 go1 v1 v9 v10 v12 v13 v18 v19 v20 v21)
def dH(n:Nat)(go0:be->Option ak)(go1:aU->Option ak)(v1 v2:Int)(v9:Bool)(v10:Lv)(v12:Int)(v13 v18:Lv)(v19 v20 v21:Int):Option ak:=
 (bif((cI v10 v12 0)=1)&&(v19=1)then(bif (cI v10 v12 2)=1 then(bif(v9==true)then bif (((v13.length:Int)+1)*8)<=140737488355328 then bif(-9223372036854775808<=(v12+1))&&((v12+1)<=9223372036854775807)then go0 ((v12+1),(v13++[[(AV.int v12)]]),v18,v19,v20,v21)else none else none else bif(-9223372036854775808<=((cI v10 v12 1)+v1))&&(((cI v10 v12 1)+v1)<=9223372036854775807)then bif (((v18.length:Int)+1)*24)<=140737488355328 then bif(-9223372036854775808<=(v12+1))&&((v12+1)<=9223372036854775807)then go0 ((v12+1),v13,(v18++[[(AV.int 3),(AV.int (cI v10 v12 1)),(AV.int ((cI v10 v12 1)+v1))]]),3,(cI v10 v12 1),((cI v10 v12 1)+v1))else none else none else none)else bif(-9223372036854775808<=((cI v10 v12 1)+v1))&&(((cI v10 v12 1)+v1)<=9223372036854775807)then bif (((v18.length:Int)+1)*24)<=140737488355328 then bif(-9223372036854775808<=(v12+1))&&((v12+1)<=9223372036854775807)then go0 ((v12+1),v13,(v18++[[(AV.int 3),(AV.int (cI v10 v12 1)),(AV.int ((cI v10 v12 1)+v1))]]),3,(cI v10 v12 1),((cI v10 v12 1)+v1))else none else none else none)else pV n go0 go1 v1 v2 v9 v10 v12 v13 v18 v19 v20 v21)
def gn(n:Nat)(go0:be->Option ak)(go1:aU->Option ak)(v1 v2 v3:Int)(v9:Bool)(v10:Lv)(v12:Int)(v13 v18:Lv)(v19 v20 v21:Int):Option ak:=
 (bif v21<=(cI v10 v12 1) then(bif v19=1 then bif(-9223372036854775808<=(v21+v1))&&((v21+v1)<=9223372036854775807)then bif (((v18.length:Int)+1)*24)<=140737488355328 then go1 ((v18++[[(AV.int 3),(AV.int v21),(AV.int (v21+v1))]]),3,v21,(v21+v1))else none else none else(bif v19=2 then bif(-9223372036854775808<=(v21+v1))&&((v21+v1)<=9223372036854775807)then bif (((v18.length:Int)+1)*24)<=140737488355328 then go1 ((v18++[[(AV.int 3),(AV.int v21),(AV.int (v21+v1))]]),3,v21,(v21+v1))else none else none else(bif v19=3 then bif(-9223372036854775808<=(v21+v3))&&((v21+v3)<=9223372036854775807)then bif (((v18.length:Int)+1)*24)<=140737488355328 then go1 ((v18++[[(AV.int 4),(AV.int v21),(AV.int (v21+v3))]]),4,v21,(v21+v3))else none else none else(bif v19=4 then bif (((v18.length:Int)+1)*24)<=140737488355328 then go1 ((v18++[[(AV.int 5),(AV.int v21),(AV.int (-1))]]),5,v21,(-1))else none else bif (((v18.length:Int)+1)*24)<=140737488355328 then go1 ((v18++[[(AV.int 0),(AV.int v21),(AV.int (-1))]]),0,v21,(-1))else none))))else dH n go0 go1 v1 v2 v9 v10 v12 v13 v18 v19 v20 v21)
abbrev nD:= @dH
def pF(n:Nat)(go0:be->Option ak)(go1:aU->Option ak)(v1 v2 v3:Int)(v9:Bool)(v10:Lv)(v12:Int)(v13 v18:Lv)(v19 v20 v21:Int):Option ak:=
 (bif 0<=v21 then gn n go0 go1 v1 v2 v3 v9 v10 v12 v13 v18 v19 v20 v21 else nD n go0 go1 v1 v2 v9 v10 v12 v13 v18 v19 v20 v21)
def fC(n:Nat)(go0:aU->Option ak)(v1 v3:Int)(v18:Lv)(v19 v21:Int):Option ak:=
 (bif 0<=v21 then(bif v21<=4611686018427387904 then(bif v19=1 then bif(-9223372036854775808<=(v21+v1))&&((v21+v1)<=9223372036854775807)then bif (((v18.length:Int)+1)*24)<=140737488355328 then go0 ((v18++[[(AV.int 3),(AV.int v21),(AV.int (v21+v1))]]),3,v21,(v21+v1))else none else none else(bif v19=2 then bif(-9223372036854775808<=(v21+v1))&&((v21+v1)<=9223372036854775807)then bif (((v18.length:Int)+1)*24)<=140737488355328 then go0 ((v18++[[(AV.int 3),(AV.int v21),(AV.int (v21+v1))]]),3,v21,(v21+v1))else none else none else(bif v19=3 then bif(-9223372036854775808<=(v21+v3))&&((v21+v3)<=9223372036854775807)then bif (((v18.length:Int)+1)*24)<=140737488355328 then go0 ((v18++[[(AV.int 4),(AV.int v21),(AV.int (v21+v3))]]),4,v21,(v21+v3))else none else none else(bif v19=4 then bif (((v18.length:Int)+1)*24)<=140737488355328 then go0 ((v18++[[(AV.int 5),(AV.int v21),(AV.int (-1))]]),5,v21,(-1))else none else bif (((v18.length:Int)+1)*24)<=140737488355328 then go0 ((v18++[[(AV.int 0),(AV.int v21),(AV.int (-1))]]),0,v21,(-1))else none))))else some (v18,0))else some (v18,0))
def o4(n:Nat)(go0:be->Option ak)(v1 v2 v3:Int)(v9:Bool)(v10:Lv)(v12:Int)(v13 v14:Lv)(v15 v16 v17:Int):Option ak:=
 (bif v12<(v10.length:Int) then bif 0<=v12 then(aa (fun go1 s=>pF n go0 go1 v1 v2 v3 v9 v10 v12 v13 s.1 s.2.1 s.2.2.1 s.2.2.2) n ((v14,v15,v16,v17):aU))else none else(aa (fun go0 s=>fC n go0 v1 v3 s.1 s.2.1 s.2.2.2) n ((v14,v15,v16,v17):aU)))
def pU(n:Nat)(v0 v1 v2 v3 v8:Int)(v9:Bool)(v10:Lv)(v11:Bool):Option ak:=
 (bif(!v11)then some (([]:Lv),160)else bif(-9223372036854775808<=(v8+v0))&&((v8+v0)<=9223372036854775807)then(aa (fun go0 s=>o4 n go0 v1 v2 v3 v9 v10 s.1 s.2.1 s.2.2.1 s.2.2.2.1 s.2.2.2.2.1 s.2.2.2.2.2) n ((0,([]:Lv),(([]:Lv)++[[(AV.int 1),(AV.int v8),(AV.int (v8+v0))]]),1,v8,(v8+v0)):be))else none)
def pv(n:Nat)(v0 v1 v2 v3 v4 v5 v6 v7 v8:Int)(v9:Bool)(v10:Lv):Option ak:=
 (gU n v0 v1 v2 v3 v4 v5 v6 v7 v8 v9 v10).bind fun y11=>
 pU n v0 v1 v2 v3 v8 v9 v10 y11
def iX(n:Nat)(v0 v1 v2 v3 v4 v5 v6 v7 v8:Int)(v9:Bool)(v10:Lv):Option ak:=pv n v0 v1 v2 v3 v4 v5 v6 v7 v8 v9 v10
def claim_Timeline_t:FnT:=⟨[(true,[.int,.int,.int,.int]),(true,[.int,.int,.int,.int,.int,.bool]),(false,[tSc])],(.tup (.cons (.row 156 (.cons .int (.cons .int (.cons .int .nil)))) (.cons .i .nil))),fun n (s:Int×Int×Int×Int×Int×Int×Int×Int×Int×Bool×Lv)=>iX n s.1 s.2.1 s.2.2.1 s.2.2.2.1 s.2.2.2.2.1 s.2.2.2.2.2.1 s.2.2.2.2.2.2.1 s.2.2.2.2.2.2.2.1 s.2.2.2.2.2.2.2.2.1 s.2.2.2.2.2.2.2.2.2.1 s.2.2.2.2.2.2.2.2.2.2⟩
theorem Bd:claim_Timeline_t.ok Tryz.prog 41:=FnT.ok_of (cfg:=⟨[((143,5,31),.inv [(.tmp 24 .int),(.cellrow 10 12 3 (.cons .int .nil)),(.cellrow 13 0 156 (.cons .int (.cons .int (.cons .int .nil)))),(.cell 24 0 .int),(.cell 24 1 .int),(.cell 24 2 .int)]),((145,1,39),.inv [(.cellrow 13 0 156 (.cons .int (.cons .int (.cons .int .nil)))),(.cell 24 0 .int),(.cell 24 1 .int),(.cell 24 2 .int)]),((145,1,37),.inv [(.cellrow 13 0 156 (.cons .int (.cons .int (.cons .int .nil)))),(.cell 24 0 .int),(.cell 24 1 .int),(.cell 24 2 .int)])],aH,[],aG⟩) av rm aX (fun s fn hf=>by rw[Tryz.func41]at hf;cases hf;kernel_rfl) (fun n s=>by kernel_rfl)
def claim_Timeline_T:Tab:=(41,claim_Timeline_t)::claim_With_T
theorem lg:claim_Timeline_T.ok Tryz.prog:=Tab.ok_cons Bd rm
abbrev yu:=Int
def xR(n:Nat)(v0 v1:Int):Option yu:=
 (bif v0<0 then bif(-9223372036854775808<=(v0+1))&&((v0+1)<=9223372036854775807)then bif(-9223372036854775808<=(0-(v0+1)))&&((0-(v0+1))<=9223372036854775807)then bif !(v1=0)then some (Int.tmod (0-(v0+1)) v1)else none else none else none else bif !(v1=0)then some (Int.tmod v0 v1)else none)
def bn(n:Nat)(v0 v1:Int):Option yu:=xR n v0 v1
def ref14_pick_t:FnT:=⟨[(false,[.int]),(false,[.int])],.i,fun n (s:Int×Int)=>bn n s.1 s.2⟩
theorem HB:ref14_pick_t.ok Tryz.prog 183:=FnT.ok_of (cfg:=⟨[],aH,[],aG⟩) av lg aX (fun s fn hf=>by rw[Tryz.func183]at hf;cases hf;kernel_rfl) (fun n s=>by kernel_rfl)
def ref14_pick_T:Tab:=(183,ref14_pick_t)::claim_Timeline_T
theorem sm:ref14_pick_T.ok Tryz.prog:=Tab.ok_cons HB lg
abbrev xv:=Bool
def vw(n:Nat)(v0 v1 v2 v3:Int):Option xv:=
 (bif 0<=v0 then(bif !(v0<=3)then some false else(bif 0<=v2 then(bif !(v2<=1000)then some false else(bif 0<=v3 then(bif !(v3<=10000000)then some false else(bif v0=0 then some (decide (v1=(-1)))else(bif 0<=v1 then(bif v1<=63 then some (decide (0<v2))else some false)else some false)))else some false))else some false))else some false)
def mf(n:Nat)(v0 v1 v2 v3:Int):Option xv:=vw n v0 v1 v2 v3
def ref14_Valid_t:FnT:=⟨[(true,[.int,.int,.int,.int])],.b,fun n (s:Int×Int×Int×Int)=>mf n s.1 s.2.1 s.2.2.1 s.2.2.2⟩
theorem EH:ref14_Valid_t.ok Tryz.prog 185:=FnT.ok_of (cfg:=⟨[],aH,[],aG⟩) av sm aX (fun s fn hf=>by rw[Tryz.func185]at hf;cases hf;kernel_rfl) (fun n s=>by kernel_rfl)
def ref14_Valid_T:Tab:=(185,ref14_Valid_t)::ref14_pick_T
theorem o8:ref14_Valid_T.ok Tryz.prog:=Tab.ok_cons EH sm
abbrev tI:=Bool
def tX(n:Nat)(v0 v1 v2:Int):Option tI:=
 (bif 1<=v0 then(bif !(v0<=7)then some false else(bif 0<=v1 then(bif !(v1<=10000000)then some false else(bif v0=1 then(bif 0<=v2 then some (decide (v2<=63))else some false)else(bif v0=2 then(bif 0<=v2 then some (decide (v2<=63))else some false)else some (decide (v2=(-1))))))else some false))else some false)
def kQ(n:Nat)(v0 v1 v2:Int):Option tI:=tX n v0 v1 v2
def ref14_Formed_t:FnT:=⟨[(true,[.int,.int,.int])],.b,fun n (s:Int×Int×Int)=>kQ n s.1 s.2.1 s.2.2⟩
theorem Ef:ref14_Formed_t.ok Tryz.prog 186:=FnT.ok_of (cfg:=⟨[],aH,[],aG⟩) av o8 aX (fun s fn hf=>by rw[Tryz.func186]at hf;cases hf;kernel_rfl) (fun n s=>by kernel_rfl)
def ref14_Formed_T:Tab:=(186,ref14_Formed_t)::ref14_Valid_T
theorem nM:ref14_Formed_T.ok Tryz.prog:=Tab.ok_cons Ef o8
abbrev qf:=Bool
def oP(n:Nat)(v0 v1 v2 v3 v4 v5 v6:Int):Option qf:=
 (bif v5<v3 then some false else(bif v4=1 then(bif v0=0 then some (decide (v2<1000))else some false)else(bif v4=2 then(bif v0=1 then(bif !(v1=v6)then some (decide (v2<1000))else some false)else some false)else(bif v4=3 then some (decide (v0=1))else(bif v4=4 then some (decide (v0=2))else(bif v4=5 then(bif v0=1 then some true else some (decide (v0=2)))else(bif v4=6 then some (decide (v0=3))else(bif v0=3 then bif(-9223372036854775808<=(v3+2592000))&&((v3+2592000)<=9223372036854775807)then some (decide ((v3+2592000)<=v5))else none else some false))))))))
def iS(n:Nat)(v0 v1 v2 v3 v4 v5 v6:Int):Option qf:=oP n v0 v1 v2 v3 v4 v5 v6
def ref14_possible_t:FnT:=⟨[(true,[.int,.int,.int,.int]),(true,[.int,.int,.int])],.b,fun n (s:Int×Int×Int×Int×Int×Int×Int)=>iS n s.1 s.2.1 s.2.2.1 s.2.2.2.1 s.2.2.2.2.1 s.2.2.2.2.2.1 s.2.2.2.2.2.2⟩
theorem Bh:ref14_possible_t.ok Tryz.prog 187:=FnT.ok_of (cfg:=⟨[],aH,[],aG⟩) av nM aX (fun s fn hf=>by rw[Tryz.func187]at hf;cases hf;kernel_rfl) (fun n s=>by kernel_rfl)
def ref14_possible_T:Tab:=(187,ref14_possible_t)::ref14_Formed_T
theorem lh:ref14_possible_T.ok Tryz.prog:=Tab.ok_cons Bh nM
abbrev yw:=Int×Int×Int×Int×Int
def yk(n:Nat)(v0 v1 v2 v3 v4 v5 v6:Int):Option yw:=
 (mf n v0 v1 v2 v3).bind fun y7=>
 (bif(!y7)then some (0,0,0,0,140)else(kQ n v4 v5 v6).bind fun y8=>
 (bif(!y8)then some (0,0,0,0,140)else(iS n v0 v1 v2 v3 v4 v5 v6).bind fun y9=>
 (bif(!y9)then some (0,0,0,0,140)else(bif v4=1 then bif(-9223372036854775808<=(v2+1))&&((v2+1)<=9223372036854775807)then some (1,v6,(v2+1),v5,0)else none else(bif v4=2 then bif(-9223372036854775808<=(v2+1))&&((v2+1)<=9223372036854775807)then some (1,v6,(v2+1),v5,0)else none else(bif v4=3 then some (2,v1,v2,v5,0)else(bif v4=4 then some (1,v1,v2,v5,0)else(bif v4=6 then some (1,v1,v2,v5,0)else(bif v4=5 then some (3,v1,v2,v5,0)else some (0,(-1),v2,v5,0))))))))))
def f8(n:Nat)(v0 v1 v2 v3 v4 v5 v6:Int):Option yw:=yk n v0 v1 v2 v3 v4 v5 v6
def ref14_Step_t:FnT:=⟨[(true,[.int,.int,.int,.int]),(true,[.int,.int,.int])],(.tup (.cons (.agg (.cons .i (.cons .i (.cons .i (.cons .i .nil))))) (.cons .i .nil))),fun n (s:Int×Int×Int×Int×Int×Int×Int)=>f8 n s.1 s.2.1 s.2.2.1 s.2.2.2.1 s.2.2.2.2.1 s.2.2.2.2.2.1 s.2.2.2.2.2.2⟩
theorem GG:ref14_Step_t.ok Tryz.prog 150:=FnT.ok_of (cfg:=⟨[],aH,[],aG⟩) av lh aX (fun s fn hf=>by rw[Tryz.func150]at hf;cases hf;kernel_rfl) (fun n s=>by kernel_rfl)
def ref14_Step_T:Tab:=(150,ref14_Step_t)::ref14_possible_T
theorem qt:ref14_Step_T.ok Tryz.prog:=Tab.ok_cons GG lh
abbrev lQ:=Int×Int×Int×Int×Int×Int
abbrev Au:=Int×Int×Int×Int×Int
def B2(n:Nat)(go0:Au->Option lQ)(v0:Lv)(v1 v2 v3 v4 v5:Int):Option lQ:=
 (bif v1<(v0.length:Int) then bif 0<=v1 then(f8 n v2 v3 v4 v5 (cI v0 v1 0) (cI v0 v1 1) (cI v0 v1 2)).bind fun y6=>
 (bif !(y6.2.2.2.2=0)then some (0,0,0,0,v1,140)else(bif v1=40 then some (0,0,0,0,v1,140)else bif(-9223372036854775808<=(v1+1))&&((v1+1)<=9223372036854775807)then go0 ((v1+1),y6.1,y6.2.1,y6.2.2.1,y6.2.2.2.1)else none))else none else some (v2,v3,v4,v5,(v0.length:Int),0))
def B1(n:Nat)(v0:Lv):Option lQ:=
 (aa (fun go0 s=>B2 n go0 v0 s.1 s.2.1 s.2.2.1 s.2.2.2.1 s.2.2.2.2) n ((0,0,(-1),0,0):Au))
def r7(n:Nat)(v0:Lv):Option lQ:=B1 n v0
def ref14_Run_t:FnT:=⟨[(false,[tSc])],(.tup (.cons (.agg (.cons .i (.cons .i (.cons .i (.cons .i .nil))))) (.cons .i (.cons .i .nil)))),fun n (s:Lv)=>r7 n s⟩
theorem IG:ref14_Run_t.ok Tryz.prog 188:=FnT.ok_of (cfg:=⟨[((188,3,5),.inv [(.tmp 6 .int),(.cell 3 0 .int),(.cell 3 1 .int),(.cell 3 2 .int),(.cell 3 3 .int)])],aH,[],aG⟩) av qt aX (fun s fn hf=>by rw[Tryz.func188]at hf;cases hf;kernel_rfl) (fun n s=>by kernel_rfl)
def ref14_Run_T:Tab:=(188,ref14_Run_t)::ref14_Step_T
theorem tS:ref14_Run_T.ok Tryz.prog:=Tab.ok_cons IG qt
abbrev CZ:=Bool
def Et(n:Nat)(v0:Lv):Option CZ:=
 (r7 n v0).bind fun y1=>
 some (decide (y1.2.2.2.2.2=0))
def pH(n:Nat)(v0:Lv):Option CZ:=Et n v0
def ref14_Is_t:FnT:=⟨[(false,[tSc])],.b,fun n (s:Lv)=>pH n s⟩
theorem KC:ref14_Is_t.ok Tryz.prog 151:=FnT.ok_of (cfg:=⟨[],aH,[],aG⟩) av tS aX (fun s fn hf=>by rw[Tryz.func151]at hf;cases hf;kernel_rfl) (fun n s=>by kernel_rfl)
def ref14_Is_T:Tab:=(151,ref14_Is_t)::ref14_Run_T
theorem wD:ref14_Is_T.ok Tryz.prog:=Tab.ok_cons KC tS
abbrev og:=Int×Int×Int×Int
abbrev B0:=Int×Int×Int×Int×Int
def Ej(n:Nat)(go0:B0->Option og)(v0:Lv)(v1 v2 v3 v4 v5 v6:Int):Option og:=
 (bif v2<(v0.length:Int) then bif 0<=v2 then(bif (cI v0 v2 1)<=v1 then(f8 n v3 v4 v5 v6 (cI v0 v2 0) (cI v0 v2 1) (cI v0 v2 2)).bind fun y7=>
 bif(-9223372036854775808<=(v2+1))&&((v2+1)<=9223372036854775807)then go0 ((v2+1),y7.1,y7.2.1,y7.2.2.1,y7.2.2.2.1)else none else some (v3,v4,v5,v6))else none else some (v3,v4,v5,v6))
def Do(n:Nat)(v0:Lv)(v1:Int):Option og:=
 (aa (fun go0 s=>Ej n go0 v0 v1 s.1 s.2.1 s.2.2.1 s.2.2.2.1 s.2.2.2.2) n ((0,0,(-1),0,0):B0))
def u9(n:Nat)(v0:Lv)(v1:Int):Option og:=Do n v0 v1
def ref14_at_t:FnT:=⟨[(false,[tSc]),(false,[.int])],(.agg (.cons .i (.cons .i (.cons .i (.cons .i .nil))))),fun n (s:Lv×Int)=>u9 n s.1 s.2⟩
theorem Ke:ref14_at_t.ok Tryz.prog 153:=FnT.ok_of (cfg:=⟨[((153,3,5),.inv [(.tmp 6 .int),(.cell 3 0 .int),(.cell 3 1 .int),(.cell 3 2 .int),(.cell 3 3 .int)])],aH,[],aG⟩) av wD aX (fun s fn hf=>by rw[Tryz.func153]at hf;cases hf;kernel_rfl) (fun n s=>by kernel_rfl)
def ref14_at_T:Tab:=(153,ref14_at_t)::ref14_Is_T
theorem vS:ref14_at_T.ok Tryz.prog:=Tab.ok_cons Ke wD
abbrev DG:=Int×Int×Int×Int×Int
def Dh(n:Nat)(v0:Lv)(v1:Int):Option DG:=
 (pH n v0).bind fun y2=>
 (bif(!y2)then some (0,0,0,0,140)else(bif 0<=v1 then(bif !(v1<=10000000)then some (0,0,0,0,140)else(u9 n v0 v1).bind fun y3=>
 some (y3.1,y3.2.1,y3.2.2.1,y3.2.2.2,0))else some (0,0,0,0,140)))
def dq(n:Nat)(v0:Lv)(v1:Int):Option DG:=Dh n v0 v1
def ref14_At_t:FnT:=⟨[(false,[tSc]),(false,[.int])],(.tup (.cons (.agg (.cons .i (.cons .i (.cons .i (.cons .i .nil))))) (.cons .i .nil))),fun n (s:Lv×Int)=>dq n s.1 s.2⟩
theorem KG:ref14_At_t.ok Tryz.prog 110:=FnT.ok_of (cfg:=⟨[],aH,[],aG⟩) av vS aX (fun s fn hf=>by rw[Tryz.func110]at hf;cases hf;kernel_rfl) (fun n s=>by kernel_rfl)
def ref14_At_T:Tab:=(110,ref14_At_t)::ref14_at_T
theorem wu:ref14_At_T.ok Tryz.prog:=Tab.ok_cons KG vS
abbrev m6:=Int×Int×Int
def wY(n:Nat)(v0 v1 v3 v4 v5 v6:Int):Option m6:=
 (bif v0=2 then(bn n v4 2).bind fun y7=>
 bif 0<=y7 then bif y7<2 then(bn n v5 6).bind fun y8=>
 (bif (cI ((([]:Lv)++[[(AV.int 4)]])++[[(AV.int 5)]]) y7 0)=7 then bif(-9223372036854775808<=(y8+2592000))&&((y8+2592000)<=9223372036854775807)then bif(-9223372036854775808<=(v3+(y8+2592000)))&&((v3+(y8+2592000))<=9223372036854775807)then some ((cI ((([]:Lv)++[[(AV.int 4)]])++[[(AV.int 5)]]) y7 0),(af (v3+(y8+2592000)) 10000000),(-1))else none else none else bif(-9223372036854775808<=(v3+y8))&&((v3+y8)<=9223372036854775807)then(bif (cI ((([]:Lv)++[[(AV.int 4)]])++[[(AV.int 5)]]) y7 0)=1 then(bn n v6 5).bind fun y9=>
 some ((cI ((([]:Lv)++[[(AV.int 4)]])++[[(AV.int 5)]]) y7 0),(af (v3+y8) 10000000),y9)else(bif (cI ((([]:Lv)++[[(AV.int 4)]])++[[(AV.int 5)]]) y7 0)=2 then(bn n v6 5).bind fun y9=>
 (bif y9=v1 then bif(-9223372036854775808<=(y9+1))&&((y9+1)<=9223372036854775807)then some ((cI ((([]:Lv)++[[(AV.int 4)]])++[[(AV.int 5)]]) y7 0),(af (v3+y8) 10000000),(y9+1))else none else some ((cI ((([]:Lv)++[[(AV.int 4)]])++[[(AV.int 5)]]) y7 0),(af (v3+y8) 10000000),y9))else some ((cI ((([]:Lv)++[[(AV.int 4)]])++[[(AV.int 5)]]) y7 0),(af (v3+y8) 10000000),(-1))))else none)else none else none else(bif v0=3 then(bn n v4 3).bind fun y7=>
 bif 0<=y7 then bif y7<3 then(bn n v5 6).bind fun y8=>
 (bif (cI (((([]:Lv)++[[(AV.int 7)]])++[[(AV.int 6)]])++[[(AV.int 7)]]) y7 0)=7 then bif(-9223372036854775808<=(y8+2592000))&&((y8+2592000)<=9223372036854775807)then bif(-9223372036854775808<=(v3+(y8+2592000)))&&((v3+(y8+2592000))<=9223372036854775807)then some ((cI (((([]:Lv)++[[(AV.int 7)]])++[[(AV.int 6)]])++[[(AV.int 7)]]) y7 0),(af (v3+(y8+2592000)) 10000000),(-1))else none else none else bif(-9223372036854775808<=(v3+y8))&&((v3+y8)<=9223372036854775807)then(bif (cI (((([]:Lv)++[[(AV.int 7)]])++[[(AV.int 6)]])++[[(AV.int 7)]]) y7 0)=1 then(bn n v6 5).bind fun y9=>
 some ((cI (((([]:Lv)++[[(AV.int 7)]])++[[(AV.int 6)]])++[[(AV.int 7)]]) y7 0),(af (v3+y8) 10000000),y9)else(bif (cI (((([]:Lv)++[[(AV.int 7)]])++[[(AV.int 6)]])++[[(AV.int 7)]]) y7 0)=2 then(bn n v6 5).bind fun y9=>
 (bif y9=v1 then bif(-9223372036854775808<=(y9+1))&&((y9+1)<=9223372036854775807)then some ((cI (((([]:Lv)++[[(AV.int 7)]])++[[(AV.int 6)]])++[[(AV.int 7)]]) y7 0),(af (v3+y8) 10000000),(y9+1))else none else some ((cI (((([]:Lv)++[[(AV.int 7)]])++[[(AV.int 6)]])++[[(AV.int 7)]]) y7 0),(af (v3+y8) 10000000),y9))else some ((cI (((([]:Lv)++[[(AV.int 7)]])++[[(AV.int 6)]])++[[(AV.int 7)]]) y7 0),(af (v3+y8) 10000000),(-1))))else none)else none else none else(bn n v4 1).bind fun y7=>
 bif 0<=y7 then bif y7<1 then(bn n v5 6).bind fun y8=>
 (bif (cI (([]:Lv)++[[(AV.int 1)]]) y7 0)=7 then bif(-9223372036854775808<=(y8+2592000))&&((y8+2592000)<=9223372036854775807)then bif(-9223372036854775808<=(v3+(y8+2592000)))&&((v3+(y8+2592000))<=9223372036854775807)then some ((cI (([]:Lv)++[[(AV.int 1)]]) y7 0),(af (v3+(y8+2592000)) 10000000),(-1))else none else none else bif(-9223372036854775808<=(v3+y8))&&((v3+y8)<=9223372036854775807)then(bif (cI (([]:Lv)++[[(AV.int 1)]]) y7 0)=1 then(bn n v6 5).bind fun y9=>
 some ((cI (([]:Lv)++[[(AV.int 1)]]) y7 0),(af (v3+y8) 10000000),y9)else(bif (cI (([]:Lv)++[[(AV.int 1)]]) y7 0)=2 then(bn n v6 5).bind fun y9=>
 (bif y9=v1 then bif(-9223372036854775808<=(y9+1))&&((y9+1)<=9223372036854775807)then some ((cI (([]:Lv)++[[(AV.int 1)]]) y7 0),(af (v3+y8) 10000000),(y9+1))else none else some ((cI (([]:Lv)++[[(AV.int 1)]]) y7 0),(af (v3+y8) 10000000),y9))else some ((cI (([]:Lv)++[[(AV.int 1)]]) y7 0),(af (v3+y8) 10000000),(-1))))else none)else none else none))
def vM(n:Nat)(v0 v1 v3 v4 v5 v6:Int):Option m6:=
 (bif v0=1 then(bn n v4 5).bind fun y7=>
 bif 0<=y7 then bif y7<5 then(bn n v5 6).bind fun y8=>
 (bif (cI (((((([]:Lv)++[[(AV.int 2)]])++[[(AV.int 3)]])++[[(AV.int 5)]])++[[(AV.int 3)]])++[[(AV.int 5)]]) y7 0)=7 then bif(-9223372036854775808<=(y8+2592000))&&((y8+2592000)<=9223372036854775807)then bif(-9223372036854775808<=(v3+(y8+2592000)))&&((v3+(y8+2592000))<=9223372036854775807)then some ((cI (((((([]:Lv)++[[(AV.int 2)]])++[[(AV.int 3)]])++[[(AV.int 5)]])++[[(AV.int 3)]])++[[(AV.int 5)]]) y7 0),(af (v3+(y8+2592000)) 10000000),(-1))else none else none else bif(-9223372036854775808<=(v3+y8))&&((v3+y8)<=9223372036854775807)then(bif (cI (((((([]:Lv)++[[(AV.int 2)]])++[[(AV.int 3)]])++[[(AV.int 5)]])++[[(AV.int 3)]])++[[(AV.int 5)]]) y7 0)=1 then(bn n v6 5).bind fun y9=>
 some ((cI (((((([]:Lv)++[[(AV.int 2)]])++[[(AV.int 3)]])++[[(AV.int 5)]])++[[(AV.int 3)]])++[[(AV.int 5)]]) y7 0),(af (v3+y8) 10000000),y9)else(bif (cI (((((([]:Lv)++[[(AV.int 2)]])++[[(AV.int 3)]])++[[(AV.int 5)]])++[[(AV.int 3)]])++[[(AV.int 5)]]) y7 0)=2 then(bn n v6 5).bind fun y9=>
 (bif y9=v1 then bif(-9223372036854775808<=(y9+1))&&((y9+1)<=9223372036854775807)then some ((cI (((((([]:Lv)++[[(AV.int 2)]])++[[(AV.int 3)]])++[[(AV.int 5)]])++[[(AV.int 3)]])++[[(AV.int 5)]]) y7 0),(af (v3+y8) 10000000),(y9+1))else none else some ((cI (((((([]:Lv)++[[(AV.int 2)]])++[[(AV.int 3)]])++[[(AV.int 5)]])++[[(AV.int 3)]])++[[(AV.int 5)]]) y7 0),(af (v3+y8) 10000000),y9))else some ((cI (((((([]:Lv)++[[(AV.int 2)]])++[[(AV.int 3)]])++[[(AV.int 5)]])++[[(AV.int 3)]])++[[(AV.int 5)]]) y7 0),(af (v3+y8) 10000000),(-1))))else none)else none else none else wY n v0 v1 v3 v4 v5 v6)
def jr(n:Nat)(v0 v1 v2 v3 v4 v5 v6:Int):Option m6:=vM n v0 v1 v3 v4 v5 v6
def ref14_After_t:FnT:=⟨[(true,[.int,.int,.int,.int]),(true,[.int,.int,.int])],(.agg (.cons .i (.cons .i (.cons .i .nil)))),fun n (s:Int×Int×Int×Int×Int×Int×Int)=>jr n s.1 s.2.1 s.2.2.1 s.2.2.2.1 s.2.2.2.2.1 s.2.2.2.2.2.1 s.2.2.2.2.2.2⟩
theorem E6:ref14_After_t.ok Tryz.prog 149:=FnT.ok_of (cfg:=⟨[],aH,[],aG⟩) av wu aX (fun s fn hf=>by rw[Tryz.func149]at hf;cases hf;kernel_rfl) (fun n s=>by kernel_rfl)
def ref14_After_T:Tab:=(149,ref14_After_t)::ref14_At_T
theorem pR:ref14_After_T.ok Tryz.prog:=Tab.ok_cons E6 wu
abbrev kA:=Lv
abbrev wR:=Lv×Int×Int×Int×Int×Int
def yO(n:Nat)(go0:wR->Option kA)(v0 v1:Lv)(v2 v3 v4 v5 v6:Int):Option kA:=
 (bif v2<(v0.length:Int) then(bif v2<16 then bif 0<=v2 then(jr n v3 v4 v5 v6 (cI v0 v2 0) (cI v0 v2 1) (cI v0 v2 2)).bind fun y7=>
 (f8 n v3 v4 v5 v6 y7.1 y7.2.1 y7.2.2).bind fun y10=>
 (bif y10.2.2.2.2=0 then bif (((v1.length:Int)+1)*24)<=140737488355328 then bif(-9223372036854775808<=(v2+1))&&((v2+1)<=9223372036854775807)then go0 ((v1++[[(AV.int y7.1),(AV.int y7.2.1),(AV.int y7.2.2)]]),(v2+1),y10.1,y10.2.1,y10.2.2.1,y10.2.2.2.1)else none else none else bif(-9223372036854775808<=(v2+1))&&((v2+1)<=9223372036854775807)then go0 (v1,(v2+1),v3,v4,v5,v6)else none)else none else some v1)else some v1)
def yN(n:Nat)(v0:Lv):Option kA:=
 (aa (fun go0 s=>yO n go0 v0 s.1 s.2.1 s.2.2.1 s.2.2.2.1 s.2.2.2.2.1 s.2.2.2.2.2) n ((([]:Lv),0,0,(-1),0,0):wR))
def kz(n:Nat)(v0:Lv):Option kA:=yN n v0
def ref14_Made_t:FnT:=⟨[(false,[tSc])],(.row 224 (.cons .int (.cons .int (.cons .int .nil)))),fun n (s:Lv)=>kz n s⟩
theorem Hc:ref14_Made_t.ok Tryz.prog 109:=FnT.ok_of (cfg:=⟨[((109,4,4),.inv [(.tmprow 4 224 (.cons .int (.cons .int (.cons .int .nil)))),(.tmp 5 .int),(.cell 2 0 .int),(.cell 2 1 .int),(.cell 2 2 .int),(.cell 2 3 .int)])],aH,[],aG⟩) av pR aX (fun s fn hf=>by rw[Tryz.func109]at hf;cases hf;kernel_rfl) (fun n s=>by kernel_rfl)
def ref14_Made_T:Tab:=(109,ref14_Made_t)::ref14_After_T
theorem qn:ref14_Made_T.ok Tryz.prog:=Tab.ok_cons Hc pR
abbrev zt:=Bool
def zk(n:Nat)(v0 v1 v2 v3:Int):Option zt:=
 (bif 0<=v0 then(bif !(v0<=3)then some false else(bif 0<=v2 then(bif !(v2<=1000)then some false else(bif 0<=v3 then(bif !(v3<=10000000)then some false else(bif v0=0 then some (decide (v1=(-1)))else(bif 0<=v1 then(bif v1<=63 then some (decide (1<=v2))else some false)else some false)))else some false))else some false))else some false)
def om(n:Nat)(v0 v1 v2 v3:Int):Option zt:=zk n v0 v1 v2 v3
def life_Valid_t:FnT:=⟨[(true,[.int,.int,.int,.int])],.b,fun n (s:Int×Int×Int×Int)=>om n s.1 s.2.1 s.2.2.1 s.2.2.2⟩
theorem Hx:life_Valid_t.ok Tryz.prog 222:=FnT.ok_of (cfg:=⟨[],aH,[],aG⟩) av qn aX (fun s fn hf=>by rw[Tryz.func222]at hf;cases hf;kernel_rfl) (fun n s=>by kernel_rfl)
def life_Valid_T:Tab:=(222,life_Valid_t)::ref14_Made_T
theorem se:life_Valid_T.ok Tryz.prog:=Tab.ok_cons Hx qn
abbrev wy:=Bool
def nl(n:Nat)(v0 v1 v2:Int):Option wy:=
 (bif 1<=v0 then(bif !(v0<=7)then some false else(bif 0<=v1 then(bif !(v1<=10000000)then some false else bif 0<=v0 then bif v0<8 then(bif(cB ((((((((([]:Lv)++[[(AV.int 0),(AV.int 0),(AV.bool false)]])++[[(AV.int 1),(AV.int 1),(AV.bool true)]])++[[(AV.int 2),(AV.int 1),(AV.bool true)]])++[[(AV.int 2),(AV.int 2),(AV.bool false)]])++[[(AV.int 4),(AV.int 1),(AV.bool false)]])++[[(AV.int 6),(AV.int 3),(AV.bool false)]])++[[(AV.int 8),(AV.int 1),(AV.bool false)]])++[[(AV.int 8),(AV.int 0),(AV.bool false)]]) v0 2)then(bif 0<=v2 then some (decide (v2<=63))else some false)else some (decide (v2=(-1))))else none else none)else some false))else some false)
def jp(n:Nat)(v0 v1 v2:Int):Option wy:=nl n v0 v1 v2
def life_Formed_t:FnT:=⟨[(true,[.int,.int,.int])],.b,fun n (s:Int×Int×Int)=>jp n s.1 s.2.1 s.2.2⟩
theorem EQ:life_Formed_t.ok Tryz.prog 223:=FnT.ok_of (cfg:=⟨[],aH,[],aG⟩) av se aX (fun s fn hf=>by rw[Tryz.func223]at hf;cases hf;kernel_rfl) (fun n s=>by kernel_rfl)
def life_Formed_T:Tab:=(223,life_Formed_t)::life_Valid_T
theorem qk:life_Formed_T.ok Tryz.prog:=Tab.ok_cons EQ se
abbrev fy:=Int×Int×Int×Int×Int
def Bq(n:Nat)(v1 v2 v3 v4 v5 v6:Int):Option fy:=
 (bif(cB ((((((((([]:Lv)++[[(AV.int 0),(AV.int 0),(AV.bool false)]])++[[(AV.int 1),(AV.int 1),(AV.bool true)]])++[[(AV.int 2),(AV.int 1),(AV.bool true)]])++[[(AV.int 2),(AV.int 2),(AV.bool false)]])++[[(AV.int 4),(AV.int 1),(AV.bool false)]])++[[(AV.int 6),(AV.int 3),(AV.bool false)]])++[[(AV.int 8),(AV.int 1),(AV.bool false)]])++[[(AV.int 8),(AV.int 0),(AV.bool false)]]) v4 2)then(bif v2=1000 then some (0,0,0,0,140)else(bif v1=v6 then some (0,0,0,0,140)else(bif v4=7 then bif(-9223372036854775808<=(v5-v3))&&((v5-v3)<=9223372036854775807)then(bif (v5-v3)<2592000 then some (0,0,0,0,140)else bif(-9223372036854775808<=(v2+1))&&((v2+1)<=9223372036854775807)then(bif (cI ((((((((([]:Lv)++[[(AV.int 0),(AV.int 0),(AV.bool false)]])++[[(AV.int 1),(AV.int 1),(AV.bool true)]])++[[(AV.int 2),(AV.int 1),(AV.bool true)]])++[[(AV.int 2),(AV.int 2),(AV.bool false)]])++[[(AV.int 4),(AV.int 1),(AV.bool false)]])++[[(AV.int 6),(AV.int 3),(AV.bool false)]])++[[(AV.int 8),(AV.int 1),(AV.bool false)]])++[[(AV.int 8),(AV.int 0),(AV.bool false)]]) v4 1)=0 then some ((cI ((((((((([]:Lv)++[[(AV.int 0),(AV.int 0),(AV.bool false)]])++[[(AV.int 1),(AV.int 1),(AV.bool true)]])++[[(AV.int 2),(AV.int 1),(AV.bool true)]])++[[(AV.int 2),(AV.int 2),(AV.bool false)]])++[[(AV.int 4),(AV.int 1),(AV.bool false)]])++[[(AV.int 6),(AV.int 3),(AV.bool false)]])++[[(AV.int 8),(AV.int 1),(AV.bool false)]])++[[(AV.int 8),(AV.int 0),(AV.bool false)]]) v4 1),(-1),(v2+1),v5,0)else some ((cI ((((((((([]:Lv)++[[(AV.int 0),(AV.int 0),(AV.bool false)]])++[[(AV.int 1),(AV.int 1),(AV.bool true)]])++[[(AV.int 2),(AV.int 1),(AV.bool true)]])++[[(AV.int 2),(AV.int 2),(AV.bool false)]])++[[(AV.int 4),(AV.int 1),(AV.bool false)]])++[[(AV.int 6),(AV.int 3),(AV.bool false)]])++[[(AV.int 8),(AV.int 1),(AV.bool false)]])++[[(AV.int 8),(AV.int 0),(AV.bool false)]]) v4 1),v6,(v2+1),v5,0))else none)else none else bif(-9223372036854775808<=(v2+1))&&((v2+1)<=9223372036854775807)then(bif (cI ((((((((([]:Lv)++[[(AV.int 0),(AV.int 0),(AV.bool false)]])++[[(AV.int 1),(AV.int 1),(AV.bool true)]])++[[(AV.int 2),(AV.int 1),(AV.bool true)]])++[[(AV.int 2),(AV.int 2),(AV.bool false)]])++[[(AV.int 4),(AV.int 1),(AV.bool false)]])++[[(AV.int 6),(AV.int 3),(AV.bool false)]])++[[(AV.int 8),(AV.int 1),(AV.bool false)]])++[[(AV.int 8),(AV.int 0),(AV.bool false)]]) v4 1)=0 then some ((cI ((((((((([]:Lv)++[[(AV.int 0),(AV.int 0),(AV.bool false)]])++[[(AV.int 1),(AV.int 1),(AV.bool true)]])++[[(AV.int 2),(AV.int 1),(AV.bool true)]])++[[(AV.int 2),(AV.int 2),(AV.bool false)]])++[[(AV.int 4),(AV.int 1),(AV.bool false)]])++[[(AV.int 6),(AV.int 3),(AV.bool false)]])++[[(AV.int 8),(AV.int 1),(AV.bool false)]])++[[(AV.int 8),(AV.int 0),(AV.bool false)]]) v4 1),(-1),(v2+1),v5,0)else some ((cI ((((((((([]:Lv)++[[(AV.int 0),(AV.int 0),(AV.bool false)]])++[[(AV.int 1),(AV.int 1),(AV.bool true)]])++[[(AV.int 2),(AV.int 1),(AV.bool true)]])++[[(AV.int 2),(AV.int 2),(AV.bool false)]])++[[(AV.int 4),(AV.int 1),(AV.bool false)]])++[[(AV.int 6),(AV.int 3),(AV.bool false)]])++[[(AV.int 8),(AV.int 1),(AV.bool false)]])++[[(AV.int 8),(AV.int 0),(AV.bool false)]]) v4 1),v6,(v2+1),v5,0))else none)))else(bif v4=7 then bif(-9223372036854775808<=(v5-v3))&&((v5-v3)<=9223372036854775807)then(bif (v5-v3)<2592000 then some (0,0,0,0,140)else(bif (cI ((((((((([]:Lv)++[[(AV.int 0),(AV.int 0),(AV.bool false)]])++[[(AV.int 1),(AV.int 1),(AV.bool true)]])++[[(AV.int 2),(AV.int 1),(AV.bool true)]])++[[(AV.int 2),(AV.int 2),(AV.bool false)]])++[[(AV.int 4),(AV.int 1),(AV.bool false)]])++[[(AV.int 6),(AV.int 3),(AV.bool false)]])++[[(AV.int 8),(AV.int 1),(AV.bool false)]])++[[(AV.int 8),(AV.int 0),(AV.bool false)]]) v4 1)=0 then some ((cI ((((((((([]:Lv)++[[(AV.int 0),(AV.int 0),(AV.bool false)]])++[[(AV.int 1),(AV.int 1),(AV.bool true)]])++[[(AV.int 2),(AV.int 1),(AV.bool true)]])++[[(AV.int 2),(AV.int 2),(AV.bool false)]])++[[(AV.int 4),(AV.int 1),(AV.bool false)]])++[[(AV.int 6),(AV.int 3),(AV.bool false)]])++[[(AV.int 8),(AV.int 1),(AV.bool false)]])++[[(AV.int 8),(AV.int 0),(AV.bool false)]]) v4 1),(-1),v2,v5,0)else some ((cI ((((((((([]:Lv)++[[(AV.int 0),(AV.int 0),(AV.bool false)]])++[[(AV.int 1),(AV.int 1),(AV.bool true)]])++[[(AV.int 2),(AV.int 1),(AV.bool true)]])++[[(AV.int 2),(AV.int 2),(AV.bool false)]])++[[(AV.int 4),(AV.int 1),(AV.bool false)]])++[[(AV.int 6),(AV.int 3),(AV.bool false)]])++[[(AV.int 8),(AV.int 1),(AV.bool false)]])++[[(AV.int 8),(AV.int 0),(AV.bool false)]]) v4 1),v1,v2,v5,0)))else none else(bif (cI ((((((((([]:Lv)++[[(AV.int 0),(AV.int 0),(AV.bool false)]])++[[(AV.int 1),(AV.int 1),(AV.bool true)]])++[[(AV.int 2),(AV.int 1),(AV.bool true)]])++[[(AV.int 2),(AV.int 2),(AV.bool false)]])++[[(AV.int 4),(AV.int 1),(AV.bool false)]])++[[(AV.int 6),(AV.int 3),(AV.bool false)]])++[[(AV.int 8),(AV.int 1),(AV.bool false)]])++[[(AV.int 8),(AV.int 0),(AV.bool false)]]) v4 1)=0 then some ((cI ((((((((([]:Lv)++[[(AV.int 0),(AV.int 0),(AV.bool false)]])++[[(AV.int 1),(AV.int 1),(AV.bool true)]])++[[(AV.int 2),(AV.int 1),(AV.bool true)]])++[[(AV.int 2),(AV.int 2),(AV.bool false)]])++[[(AV.int 4),(AV.int 1),(AV.bool false)]])++[[(AV.int 6),(AV.int 3),(AV.bool false)]])++[[(AV.int 8),(AV.int 1),(AV.bool false)]])++[[(AV.int 8),(AV.int 0),(AV.bool false)]]) v4 1),(-1),v2,v5,0)else some ((cI ((((((((([]:Lv)++[[(AV.int 0),(AV.int 0),(AV.bool false)]])++[[(AV.int 1),(AV.int 1),(AV.bool true)]])++[[(AV.int 2),(AV.int 1),(AV.bool true)]])++[[(AV.int 2),(AV.int 2),(AV.bool false)]])++[[(AV.int 4),(AV.int 1),(AV.bool false)]])++[[(AV.int 6),(AV.int 3),(AV.bool false)]])++[[(AV.int 8),(AV.int 1),(AV.bool false)]])++[[(AV.int 8),(AV.int 0),(AV.bool false)]]) v4 1),v1,v2,v5,0))))
def Br(n:Nat)(v0 v1 v2 v3 v4 v5 v6:Int):Option fy:=
 (bif (IOp.f .and (IOp.f .shr (cI ((((((((([]:Lv)++[[(AV.int 0),(AV.int 0),(AV.bool false)]])++[[(AV.int 1),(AV.int 1),(AV.bool true)]])++[[(AV.int 2),(AV.int 1),(AV.bool true)]])++[[(AV.int 2),(AV.int 2),(AV.bool false)]])++[[(AV.int 4),(AV.int 1),(AV.bool false)]])++[[(AV.int 6),(AV.int 3),(AV.bool false)]])++[[(AV.int 8),(AV.int 1),(AV.bool false)]])++[[(AV.int 8),(AV.int 0),(AV.bool false)]]) v4 0) v0) 1)=0 then some (0,0,0,0,140)else Bq n v1 v2 v3 v4 v5 v6)
def sK(n:Nat)(v0 v1 v2 v3 v4 v5 v6:Int):Option fy:=
 (bif v5<v3 then some (0,0,0,0,140)else bif 0<=v4 then bif v4<8 then bif 0<=v0 then Br n v0 v1 v2 v3 v4 v5 v6 else none else none else none)
def Bv(n:Nat)(v0 v1 v2 v3 v4 v5 v6:Int)(v8:Bool):Option fy:=
 (bif(!v8)then some (0,0,0,0,140)else sK n v0 v1 v2 v3 v4 v5 v6)
def Bj(n:Nat)(v0 v1 v2 v3 v4 v5 v6:Int)(v7:Bool):Option fy:=
 (bif(!v7)then some (0,0,0,0,140)else(jp n v4 v5 v6).bind fun y8=>
 Bv n v0 v1 v2 v3 v4 v5 v6 y8)
def B5(n:Nat)(v0 v1 v2 v3 v4 v5 v6:Int):Option fy:=
 (om n v0 v1 v2 v3).bind fun y7=>
 Bj n v0 v1 v2 v3 v4 v5 v6 y7
def mM(n:Nat)(v0 v1 v2 v3 v4 v5 v6:Int):Option fy:=B5 n v0 v1 v2 v3 v4 v5 v6
def life_Step_t:FnT:=⟨[(true,[.int,.int,.int,.int]),(true,[.int,.int,.int])],(.tup (.cons (.agg (.cons .i (.cons .i (.cons .i (.cons .i .nil))))) (.cons .i .nil))),fun n (s:Int×Int×Int×Int×Int×Int×Int)=>mM n s.1 s.2.1 s.2.2.1 s.2.2.2.1 s.2.2.2.2.1 s.2.2.2.2.2.1 s.2.2.2.2.2.2⟩
theorem Iy:life_Step_t.ok Tryz.prog 210:=FnT.ok_of (cfg:=⟨[],aH,[],aG⟩) av qk aX (fun s fn hf=>by rw[Tryz.func210]at hf;cases hf;kernel_rfl) (fun n s=>by kernel_rfl)
def life_Step_T:Tab:=(210,life_Step_t)::life_Formed_T
theorem tp:life_Step_T.ok Tryz.prog:=Tab.ok_cons Iy qk
abbrev oe:=Int×Int×Int×Int×Int×Int
abbrev Bu:=Int×Int×Int×Int×Int×Int×Int×Int×Int×Int
def Dc(n:Nat)(go0:Bu->Option oe)(v0:Lv)(v1 v2 v3 v4 v5 v6 v7 v8 v9 v10:Int):Option oe:=
 (bif v1<((List.take ((af (v0.length:Int) 40)).toNat v0).length:Int) then bif 0<=v1 then(mM n v7 v8 v9 v10 (cI (List.take ((af (v0.length:Int) 40)).toNat v0) v1 0) (cI (List.take ((af (v0.length:Int) 40)).toNat v0) v1 1) (cI (List.take ((af (v0.length:Int) 40)).toNat v0) v1 2)).bind fun y11=>
 (bif !(y11.2.2.2.2=0)then(bif v2<(v0.length:Int) then some (0,0,0,0,v2,140)else some (v3,v4,v5,v6,v2,0))else bif(-9223372036854775808<=(v1+1))&&((v1+1)<=9223372036854775807)then go0 ((v1+1),(v1+1),y11.1,y11.2.1,y11.2.2.1,y11.2.2.2.1,y11.1,y11.2.1,y11.2.2.1,y11.2.2.2.1)else none)else none else(bif v2<(v0.length:Int) then some (0,0,0,0,v2,140)else some (v3,v4,v5,v6,v2,0)))
def C1(n:Nat)(v0:Lv):Option oe:=
 bif 0<=(af (v0.length:Int) 40) then bif (af (v0.length:Int) 40)<=(v0.length:Int) then(aa (fun go0 s=>Dc n go0 v0 s.1 s.2.1 s.2.2.1 s.2.2.2.1 s.2.2.2.2.1 s.2.2.2.2.2.1 s.2.2.2.2.2.2.1 s.2.2.2.2.2.2.2.1 s.2.2.2.2.2.2.2.2.1 s.2.2.2.2.2.2.2.2.2) n ((0,0,0,(-1),0,0,0,(-1),0,0):Bu))else none else none
def lM(n:Nat)(v0:Lv):Option oe:=C1 n v0
def life_Run_t:FnT:=⟨[(false,[tSc])],(.tup (.cons (.agg (.cons .i (.cons .i (.cons .i (.cons .i .nil))))) (.cons .i (.cons .i .nil)))),fun n (s:Lv)=>lM n s⟩
theorem Kp:life_Run_t.ok Tryz.prog 158:=FnT.ok_of (cfg:=⟨[((209,3,13),.inv [(.tmp 15 .int),(.cell 1 0 .int),(.cell 2 0 .int),(.cell 2 1 .int),(.cell 2 2 .int),(.cell 2 3 .int),(.cell 7 0 .int),(.cell 7 1 .int),(.cell 7 2 .int),(.cell 7 3 .int)])],aH,[],aG⟩) av tp aX (fun s fn hf=>by rw[Tryz.func158]at hf;cases hf;kernel_rfl) (fun n s=>by kernel_rfl)
def life_Run_T:Tab:=(158,life_Run_t)::life_Step_T
theorem wq:life_Run_T.ok Tryz.prog:=Tab.ok_cons Kp tp
abbrev qP:=Int×Int×Int×Int×Bool
abbrev CX:=Int×Int
def Fz(n:Nat)(go0:CX->Option qP)(v0:Lv)(v1 v8 v9:Int):Option qP:=
 (bif v8<v9 then bif(-9223372036854775808<=(v8+v9))&&((v8+v9)<=9223372036854775807)then bif 0<=1 then bif 0<=(IntKind.wrap .i64 (iN .shr .u64 (IntKind.wrap .u64 (v8+v9)) 1)) then bif (IntKind.wrap .i64 (iN .shr .u64 (IntKind.wrap .u64 (v8+v9)) 1))<(v0.length:Int) then(bif !(v1<(cI v0 (IntKind.wrap .i64 (iN .shr .u64 (IntKind.wrap .u64 (v8+v9)) 1)) 1))then bif(-9223372036854775808<=((IntKind.wrap .i64 (iN .shr .u64 (IntKind.wrap .u64 (v8+v9)) 1))+1))&&(((IntKind.wrap .i64 (iN .shr .u64 (IntKind.wrap .u64 (v8+v9)) 1))+1)<=9223372036854775807)then go0 (((IntKind.wrap .i64 (iN .shr .u64 (IntKind.wrap .u64 (v8+v9)) 1))+1),v9)else none else go0 (v8,(IntKind.wrap .i64 (iN .shr .u64 (IntKind.wrap .u64 (v8+v9)) 1))))else none else none else none else none else bif 0<=v8 then bif v8<=(v0.length:Int) then(lM n (List.take (v8).toNat v0)).bind fun y10=>
 some (y10.1,y10.2.1,y10.2.2.1,y10.2.2.2.1,true)else none else none)
def Gj(n:Nat)(v0:Lv)(v1:Int):Option qP:=
 (lM n v0).bind fun y2=>
 (bif !(y2.2.2.2.2.2=0)then some (0,0,0,0,false)else(bif 0<=v1 then(bif !(v1<=10000000)then some (0,0,0,0,false)else(aa (fun go0 s=>Fz n go0 v0 v1 s.1 s.2) n ((0,(v0.length:Int)):CX)))else some (0,0,0,0,false)))
def AF(n:Nat)(v0:Lv)(v1:Int):Option qP:=Gj n v0 v1
def life_at_t:FnT:=⟨[(false,[tSc]),(false,[.int])],(.tup (.cons (.agg (.cons .i (.cons .i (.cons .i (.cons .i .nil))))) (.cons .b .nil))),fun n (s:Lv×Int)=>AF n s.1 s.2⟩
theorem LJ:life_at_t.ok Tryz.prog 196:=FnT.ok_of (cfg:=⟨[((214,2,5),.inv [(.tmp 5 .int),(.tmp 6 .int)])],aH,[],aG⟩) av wq aX (fun s fn hf=>by rw[Tryz.func196]at hf;cases hf;kernel_rfl) (fun n s=>by kernel_rfl)
def life_at_T:Tab:=(196,life_at_t)::life_Run_T
theorem zR:life_at_T.ok Tryz.prog:=Tab.ok_cons LJ wq
abbrev F7:=Int×Int×Int×Int×Int
def FW(n:Nat)(v0:Lv)(v1:Int):Option F7:=
 (AF n v0 v1).bind fun y2=>
 (bif(!y2.2.2.2.2)then some (0,0,0,0,140)else some (y2.1,y2.2.1,y2.2.2.1,y2.2.2.2.1,0))
def oH(n:Nat)(v0:Lv)(v1:Int):Option F7:=FW n v0 v1
def life_At_t:FnT:=⟨[(false,[tSc]),(false,[.int])],(.tup (.cons (.agg (.cons .i (.cons .i (.cons .i (.cons .i .nil))))) (.cons .i .nil))),fun n (s:Lv×Int)=>oH n s.1 s.2⟩
theorem L8:life_At_t.ok Tryz.prog 163:=FnT.ok_of (cfg:=⟨[],aH,[],aG⟩) av zR aX (fun s fn hf=>by rw[Tryz.func163]at hf;cases hf;kernel_rfl) (fun n s=>by kernel_rfl)
def life_At_T:Tab:=(163,life_At_t)::life_at_T
theorem zM:life_At_T.ok Tryz.prog:=Tab.ok_cons L8 zR
abbrev jG:=Bool
abbrev tF:=Int×Int
def xn(n:Nat)(go0:tF->Option jG)(v0 v2 v3 v4 v5:Int)(v7:Lv)(v14 v15:Int):Option jG:=
 (bif v15<(v7.length:Int) then bif 0<=v15 then(bif !((cI v7 v15 0)=v0)then some false else(gU n v2 v3 v4 v5 (cI v7 v15 0) (cI v7 v15 1) (cI v7 v15 2) (cI v7 v15 3) (cI v7 v15 4) (cB v7 v15 5) (cL v7 v15 6)).bind fun y16=>
 (bif(!y16)then some false else(bif (cI v7 v15 4)<v14 then some false else bif(-9223372036854775808<=(v15+1))&&((v15+1)<=9223372036854775807)then go0 ((cI v7 v15 4),(v15+1))else none)))else none else some true)
def vH(n:Nat)(v0 v1 v2 v3 v4 v5:Int)(v6 v7:Lv):Option jG:=
 (lM n v6).bind fun y8=>
 (bif !(y8.2.2.2.2.2=0)then some false else(bif 0<=v0 then(bif !(v0<=99999999)then some false else(bif 0<=v1 then(bif !(v1<=7)then some false else(bif 8<(v7.length:Int) then some false else(aa (fun go0 s=>xn n go0 v0 v2 v3 v4 v5 v7 s.1 s.2) n ((0,0):tF))))else some false))else some false))
def lX(n:Nat)(v0 v1 v2 v3 v4 v5:Int)(v6 v7:Lv):Option jG:=vH n v0 v1 v2 v3 v4 v5 v6 v7
def chain_Valid_t:FnT:=⟨[(true,[.int,.int,.int,.int,.int,.int,tSc,(.sl (.cons .int (.cons .int (.cons .int (.cons .int (.cons .int (.cons .bool (.cons tSc .nil))))))))])],.b,fun n (s:Int×Int×Int×Int×Int×Int×Lv×Lv)=>lX n s.1 s.2.1 s.2.2.1 s.2.2.2.1 s.2.2.2.2.1 s.2.2.2.2.2.1 s.2.2.2.2.2.2.1 s.2.2.2.2.2.2.2⟩
theorem Ff:chain_Valid_t.ok Tryz.prog 112:=FnT.ok_of (cfg:=⟨[((112,6,3),.inv [(.tmp 6 .int),(.tmp 39 .int)])],aH,[],aG⟩) av zM aX (fun s fn hf=>by rw[Tryz.func112]at hf;cases hf;kernel_rfl) (fun n s=>by kernel_rfl)
def chain_Valid_T:Tab:=(112,chain_Valid_t)::life_At_T
theorem pr:chain_Valid_T.ok Tryz.prog:=Tab.ok_cons Ff zM
abbrev aw:=Lv
abbrev cO:=Lv×Int
abbrev aQ:=Int×Lv
abbrev lm:=Unit
def mO(n:Nat)(go0:cO->Option aw)(go1:cO->Option aw)(v9:Int)(v10 v12:Lv)(v13:Int):Option aw:=
 (bif v13<(v10.length:Int) then bif 0<=v13 then(bif (cI v10 v13 0)=4 then bif (((v12.length:Int)+1)*24)<=140737488355328 then bif(-9223372036854775808<=(v13+1))&&((v13+1)<=9223372036854775807)then go1 ((v12++[[(AV.int (cI v10 v13 1)),(AV.int v9),(AV.bool (decide ((cI v10 v13 0)=8)))]]),(v13+1))else none else none else(bif (cI v10 v13 0)=8 then bif (((v12.length:Int)+1)*24)<=140737488355328 then bif(-9223372036854775808<=(v13+1))&&((v13+1)<=9223372036854775807)then go1 ((v12++[[(AV.int (cI v10 v13 1)),(AV.int v9),(AV.bool (decide ((cI v10 v13 0)=8)))]]),(v13+1))else none else none else bif(-9223372036854775808<=(v13+1))&&((v13+1)<=9223372036854775807)then go1 (v12,(v13+1))else none))else none else bif(-9223372036854775808<=(v9+1))&&((v9+1)<=9223372036854775807)then go0 (v12,(v9+1))else none)
def fp(n:Nat)(go0:aQ->Option aw)(go1:aQ->Option aw)(v10 v12:Int)(v13:Lv):Option aw:=
 (bif 0<v12 then bif 0<=v12 then bif v12<(v13.length:Int) then bif(-9223372036854775808<=(v12-1))&&((v12-1)<=9223372036854775807)then bif 0<=(v12-1) then bif (v12-1)<(v13.length:Int) then(bif (cI v13 v12 0)<(cI v13 (v12-1) 0) then(bif (cI v13 v12 1)<(cI v13 (v12-1) 1) then go1 ((v12-1),(List.modify (List.modify (List.modify (List.modify (List.modify (List.modify v13 (v12).toNat (fun r=>r.set 0 (AV.int (cI v13 (v12-1) 0)))) (v12).toNat (fun r=>r.set 1 (AV.int (cI v13 (v12-1) 1)))) (v12).toNat (fun r=>r.set 2 (AV.bool (cB v13 (v12-1) 2)))) ((v12-1)).toNat (fun r=>r.set 0 (AV.int (cI v13 v12 0)))) ((v12-1)).toNat (fun r=>r.set 1 (AV.int (cI v13 v12 1)))) ((v12-1)).toNat (fun r=>r.set 2 (AV.bool (cB v13 v12 2)))))else(bif (cI v13 (v12-1) 1)<(cI v13 v12 1) then go1 ((v12-1),(List.modify (List.modify (List.modify (List.modify (List.modify (List.modify v13 (v12).toNat (fun r=>r.set 0 (AV.int (cI v13 (v12-1) 0)))) (v12).toNat (fun r=>r.set 1 (AV.int (cI v13 (v12-1) 1)))) (v12).toNat (fun r=>r.set 2 (AV.bool (cB v13 (v12-1) 2)))) ((v12-1)).toNat (fun r=>r.set 0 (AV.int (cI v13 v12 0)))) ((v12-1)).toNat (fun r=>r.set 1 (AV.int (cI v13 v12 1)))) ((v12-1)).toNat (fun r=>r.set 2 (AV.bool (cB v13 v12 2)))))else go1 ((v12-1),(List.modify (List.modify (List.modify (List.modify (List.modify (List.modify v13 (v12).toNat (fun r=>r.set 0 (AV.int (cI v13 (v12-1) 0)))) (v12).toNat (fun r=>r.set 1 (AV.int (cI v13 (v12-1) 1)))) (v12).toNat (fun r=>r.set 2 (AV.bool (cB v13 (v12-1) 2)))) ((v12-1)).toNat (fun r=>r.set 0 (AV.int (cI v13 v12 0)))) ((v12-1)).toNat (fun r=>r.set 1 (AV.int (cI v13 v12 1)))) ((v12-1)).toNat (fun r=>r.set 2 (AV.bool (cB v13 v12 2)))))))else(bif (cI v13 (v12-1) 0)<(cI v13 v12 0) then(bif (cI v13 v12 1)<(cI v13 (v12-1) 1) then bif(-9223372036854775808<=(v10+1))&&((v10+1)<=9223372036854775807)then go0 ((v10+1),v13)else none else(bif (cI v13 (v12-1) 1)<(cI v13 v12 1) then bif(-9223372036854775808<=(v10+1))&&((v10+1)<=9223372036854775807)then go0 ((v10+1),v13)else none else bif(-9223372036854775808<=(v10+1))&&((v10+1)<=9223372036854775807)then go0 ((v10+1),v13)else none))else(bif (cI v13 v12 1)<(cI v13 (v12-1) 1) then go1 ((v12-1),(List.modify (List.modify (List.modify (List.modify (List.modify (List.modify v13 (v12).toNat (fun r=>r.set 0 (AV.int (cI v13 (v12-1) 0)))) (v12).toNat (fun r=>r.set 1 (AV.int (cI v13 (v12-1) 1)))) (v12).toNat (fun r=>r.set 2 (AV.bool (cB v13 (v12-1) 2)))) ((v12-1)).toNat (fun r=>r.set 0 (AV.int (cI v13 v12 0)))) ((v12-1)).toNat (fun r=>r.set 1 (AV.int (cI v13 v12 1)))) ((v12-1)).toNat (fun r=>r.set 2 (AV.bool (cB v13 v12 2)))))else(bif (cI v13 (v12-1) 1)<(cI v13 v12 1) then bif(-9223372036854775808<=(v10+1))&&((v10+1)<=9223372036854775807)then go0 ((v10+1),v13)else none else bif(-9223372036854775808<=(v10+1))&&((v10+1)<=9223372036854775807)then go0 ((v10+1),v13)else none))))else none else none else none else none else none else bif(-9223372036854775808<=(v10+1))&&((v10+1)<=9223372036854775807)then go0 ((v10+1),v13)else none)
def yY(n:Nat)(go0:aQ->Option aw)(v10:Int)(v11:Lv):Option aw:=
 (bif v10<20 then(aa (fun go1 s=>fp n go0 go1 v10 s.1 s.2) n ((v10,v11):aQ))else none)
abbrev bT:= @fp
def yq(n:Nat)(go0:lm->Option aw):Option aw:=
 none
def iG(n:Nat)(go0:aQ->Option aw)(v8:Lv)(v10:Int)(v11:Lv):Option aw:=
 (bif v10<(v8.length:Int) then(aa (fun go1 s=>bT n go0 go1 v10 s.1 s.2) n ((v10,v11):aQ))else(bif 20<(v8.length:Int) then(aa (fun go0 s=>yq n go0 ) n (():lm))else some v11))
def mq(n:Nat)(go0:cO->Option aw)(v8:Lv):Option aw:=
 (bif 20<=(v8.length:Int) then(aa (fun go0 s=>yY n go0 s.1 s.2) n ((1,v8):aQ))else(aa (fun go0 s=>iG n go0 v8 s.1 s.2) n ((1,v8):aQ)))
def mi(n:Nat)(go0:cO->Option aw)(v2 v3 v4 v5:Int)(v7 v8:Lv)(v9:Int):Option aw:=
 (bif v9<(v7.length:Int) then bif 0<=v9 then(iX n v2 v3 v4 v5 (cI v7 v9 0) (cI v7 v9 1) (cI v7 v9 2) (cI v7 v9 3) (cI v7 v9 4) (cB v7 v9 5) (cL v7 v9 6)).bind fun y10=>
 (aa (fun go1 s=>mO n go0 go1 v9 y10.1 s.1 s.2) n ((v8,0):cO))else none else mq n go0 v8)
def mH(n:Nat)(v2 v3 v4 v5:Int)(v7:Lv):Option aw:=
 (aa (fun go0 s=>mi n go0 v2 v3 v4 v5 v7 s.1 s.2) n ((([]:Lv),0):cO))
def gh(n:Nat)(v0 v1 v2 v3 v4 v5:Int)(v6 v7:Lv):Option aw:=mH n v2 v3 v4 v5 v7
def chain_happenings_t:FnT:=⟨[(true,[.int,.int,.int,.int,.int,.int,tSc,(.sl (.cons .int (.cons .int (.cons .int (.cons .int (.cons .int (.cons .bool (.cons tSc .nil))))))))])],(.row 239 (.cons .int (.cons .int (.cons .bool .nil)))),fun n (s:Int×Int×Int×Int×Int×Int×Lv×Lv)=>gh n s.1 s.2.1 s.2.2.1 s.2.2.2.1 s.2.2.2.2.1 s.2.2.2.2.2.1 s.2.2.2.2.2.2.1 s.2.2.2.2.2.2.2⟩
theorem xx:chain_happenings_t.ok Tryz.prog 161:=FnT.ok_of (cfg:=⟨[((211,2,0),.unroll 1),((211,7,0),.unroll 1),((194,3,0),.unroll 3),((161,3,1),.inv [(.tmprow 3 239 (.cons .int (.cons .int (.cons .bool .nil)))),(.tmp 13 .int)]),((161,7,6),.inv [(.tmprow 3 239 (.cons .int (.cons .int (.cons .bool .nil)))),(.tmp 30 .int)]),((225,1,3),.inv [(.tmp 8 .int),(.inrow 1 239 (.cons .int (.cons .int (.cons .bool .nil))))]),((225,4,5),.inv [(.tmp 9 .int),(.inrow 1 239 (.cons .int (.cons .int (.cons .bool .nil))))]),((211,9,5),.inv [])],aH,[],aG⟩) av pr aX (fun s fn hf=>by rw[Tryz.func161]at hf;cases hf;kernel_rfl) (fun n s=>by kernel_rfl)
def chain_happenings_T:Tab:=(161,chain_happenings_t)::chain_Valid_T
theorem jY:chain_happenings_T.ok Tryz.prog:=Tab.ok_cons xx pr
abbrev ax:=Int×Lv×Int
abbrev bQ:=Int×Int×Int×Int×Int×Lv×Int×Lv
abbrev dj:=Int
abbrev ju:=Bool×Int×Int×Int×Lv×Int×Lv
def sy(n:Nat)(go0:bQ->Option ax)(go1:dj->Option ax)(v1:Int)(v7:Lv)(v8:Int)(v10:Lv)(v12:Int)(v16:Lv)(v17:Int)(v18:Lv)(v20 v21:Int):Option ax:=
 (bif v20=1 then(bif v21=(cI v7 (cI v10 v12 1) 3) then bif (((v18.length:Int)+1)*8)<=140737488355328 then bif 0<=((v18.length:Int)+1) then(bif 0<((v18.length:Int)+1) then bif(-9223372036854775808<=(((v18.length:Int)+1)-1))&&((((v18.length:Int)+1)-1)<=9223372036854775807)then bif 0<=(((v18.length:Int)+1)-1) then bif (((v18.length:Int)+1)-1)<((v18.length:Int)+1) then bif 0<=(cI (v18++[[(AV.int (cI v10 v12 1))]]) (((v18.length:Int)+1)-1) 0) then bif (cI (v18++[[(AV.int (cI v10 v12 1))]]) (((v18.length:Int)+1)-1) 0)<(v7.length:Int) then(bif v8<(cI v10 v12 0) then some (v17,v16,0)else bif(-9223372036854775808<=(v12+1))&&((v12+1)<=9223372036854775807)then go0 ((cI v7 (cI (v18++[[(AV.int (cI v10 v12 1))]]) (((v18.length:Int)+1)-1) 0) 2),(v12+1),(cI v10 v12 0),(cI v10 v12 1),1,(List.take (List.replicate (((v18.length:Int)+1)).toNat [(AV.int 0)]).length (v18++[[(AV.int (cI v10 v12 1))]])++List.drop (v18++[[(AV.int (cI v10 v12 1))]]).length (List.replicate (((v18.length:Int)+1)).toNat [(AV.int 0)])),(cI v7 (cI (v18++[[(AV.int (cI v10 v12 1))]]) (((v18.length:Int)+1)-1) 0) 2),(v18++[[(AV.int (cI v10 v12 1))]]))else none)else none else none else none else none else none else(bif v8<(cI v10 v12 0) then some (v17,v16,0)else bif(-9223372036854775808<=(v12+1))&&((v12+1)<=9223372036854775807)then go0 (v1,(v12+1),(cI v10 v12 0),(cI v10 v12 1),1,(List.take (List.replicate (((v18.length:Int)+1)).toNat [(AV.int 0)]).length (v18++[[(AV.int (cI v10 v12 1))]])++List.drop (v18++[[(AV.int (cI v10 v12 1))]]).length (List.replicate (((v18.length:Int)+1)).toNat [(AV.int 0)])),v1,(v18++[[(AV.int (cI v10 v12 1))]]))else none))else none else none else bif 0<=(v18.length:Int) then bif ((v18.length:Int)*8)<=140737488355328 then(bif 0<(v18.length:Int) then bif(-9223372036854775808<=((v18.length:Int)-1))&&(((v18.length:Int)-1)<=9223372036854775807)then bif 0<=((v18.length:Int)-1) then bif ((v18.length:Int)-1)<(v18.length:Int) then bif 0<=(cI v18 ((v18.length:Int)-1) 0) then bif (cI v18 ((v18.length:Int)-1) 0)<(v7.length:Int) then(bif v8<(cI v10 v12 0) then some (v17,v16,0)else bif(-9223372036854775808<=(v12+1))&&((v12+1)<=9223372036854775807)then go0 ((cI v7 (cI v18 ((v18.length:Int)-1) 0) 2),(v12+1),(cI v10 v12 0),(cI v10 v12 1),2,(List.take (List.replicate ((v18.length:Int)).toNat [(AV.int 0)]).length v18++List.drop v18.length (List.replicate ((v18.length:Int)).toNat [(AV.int 0)])),(cI v7 (cI v18 ((v18.length:Int)-1) 0) 2),v18)else none)else none else none else none else none else none else(bif v8<(cI v10 v12 0) then some (v17,v16,0)else bif(-9223372036854775808<=(v12+1))&&((v12+1)<=9223372036854775807)then go0 (v1,(v12+1),(cI v10 v12 0),(cI v10 v12 1),2,(List.take (List.replicate ((v18.length:Int)).toNat [(AV.int 0)]).length v18++List.drop v18.length (List.replicate ((v18.length:Int)).toNat [(AV.int 0)])),v1,v18)else none))else none else none)else bif 0<=(v18.length:Int) then bif ((v18.length:Int)*8)<=140737488355328 then(bif 0<(v18.length:Int) then bif(-9223372036854775808<=((v18.length:Int)-1))&&(((v18.length:Int)-1)<=9223372036854775807)then bif 0<=((v18.length:Int)-1) then bif ((v18.length:Int)-1)<(v18.length:Int) then bif 0<=(cI v18 ((v18.length:Int)-1) 0) then bif (cI v18 ((v18.length:Int)-1) 0)<(v7.length:Int) then(bif v8<(cI v10 v12 0) then some (v17,v16,0)else bif(-9223372036854775808<=(v12+1))&&((v12+1)<=9223372036854775807)then go0 ((cI v7 (cI v18 ((v18.length:Int)-1) 0) 2),(v12+1),(cI v10 v12 0),(cI v10 v12 1),2,(List.take (List.replicate ((v18.length:Int)).toNat [(AV.int 0)]).length v18++List.drop v18.length (List.replicate ((v18.length:Int)).toNat [(AV.int 0)])),(cI v7 (cI v18 ((v18.length:Int)-1) 0) 2),v18)else none)else none else none else none else none else none else(bif v8<(cI v10 v12 0) then some (v17,v16,0)else bif(-9223372036854775808<=(v12+1))&&((v12+1)<=9223372036854775807)then go0 (v1,(v12+1),(cI v10 v12 0),(cI v10 v12 1),2,(List.take (List.replicate ((v18.length:Int)).toNat [(AV.int 0)]).length v18++List.drop v18.length (List.replicate ((v18.length:Int)).toNat [(AV.int 0)])),v1,v18)else none))else none else none)
def iV(n:Nat)(go0:bQ->Option ax)(go1:dj->Option ax)(v1:Int)(v7:Lv)(v8:Int)(v10:Lv)(v11 v12:Int)(v16:Lv)(v17:Int)(v18:Lv)(v20 v21:Int):Option ax:=
 (bif v11=(cI v7 (cI v10 v12 1) 1) then sy n go0 go1 v1 v7 v8 v10 v12 v16 v17 v18 v20 v21 else bif 0<=(v18.length:Int) then bif ((v18.length:Int)*8)<=140737488355328 then(bif 0<(v18.length:Int) then bif(-9223372036854775808<=((v18.length:Int)-1))&&(((v18.length:Int)-1)<=9223372036854775807)then bif 0<=((v18.length:Int)-1) then bif ((v18.length:Int)-1)<(v18.length:Int) then bif 0<=(cI v18 ((v18.length:Int)-1) 0) then bif (cI v18 ((v18.length:Int)-1) 0)<(v7.length:Int) then(bif v8<(cI v10 v12 0) then some (v17,v16,0)else bif(-9223372036854775808<=(v12+1))&&((v12+1)<=9223372036854775807)then go0 ((cI v7 (cI v18 ((v18.length:Int)-1) 0) 2),(v12+1),(cI v10 v12 0),(cI v10 v12 1),2,(List.take (List.replicate ((v18.length:Int)).toNat [(AV.int 0)]).length v18++List.drop v18.length (List.replicate ((v18.length:Int)).toNat [(AV.int 0)])),(cI v7 (cI v18 ((v18.length:Int)-1) 0) 2),v18)else none)else none else none else none else none else none else(bif v8<(cI v10 v12 0) then some (v17,v16,0)else bif(-9223372036854775808<=(v12+1))&&((v12+1)<=9223372036854775807)then go0 (v1,(v12+1),(cI v10 v12 0),(cI v10 v12 1),2,(List.take (List.replicate ((v18.length:Int)).toNat [(AV.int 0)]).length v18++List.drop v18.length (List.replicate ((v18.length:Int)).toNat [(AV.int 0)])),v1,v18)else none))else none else none)
def sH(n:Nat)(go0:bQ->Option ax)(go1:ju->Option ax)(v1:Int)(v7:Lv)(v8:Int)(v10:Lv)(v12 v19 v21 v22 v23:Int)(v24:Lv)(v25:Int)(v26:Lv):Option ax:=
 (bif v19<(v26.length:Int) then bif(-9223372036854775808<=((v26.length:Int)-1))&&(((v26.length:Int)-1)<=9223372036854775807)then bif 0<=((v26.length:Int)-1) then bif ((v26.length:Int)-1)<(v26.length:Int) then(bif (cI v26 ((v26.length:Int)-1) 0)=(cI v10 v12 1) then bif ((v26.length:Int)-1)<=(v26.length:Int) then bif 0<=((List.take (((v26.length:Int)-1)).toNat v26).length:Int) then bif (((List.take (((v26.length:Int)-1)).toNat v26).length:Int)*8)<=140737488355328 then(bif 0<((List.take (((v26.length:Int)-1)).toNat v26).length:Int) then bif(-9223372036854775808<=(((List.take (((v26.length:Int)-1)).toNat v26).length:Int)-1))&&((((List.take (((v26.length:Int)-1)).toNat v26).length:Int)-1)<=9223372036854775807)then bif 0<=(((List.take (((v26.length:Int)-1)).toNat v26).length:Int)-1) then bif (((List.take (((v26.length:Int)-1)).toNat v26).length:Int)-1)<((List.take (((v26.length:Int)-1)).toNat v26).length:Int) then bif 0<=(cI (List.take (((v26.length:Int)-1)).toNat v26) (((List.take (((v26.length:Int)-1)).toNat v26).length:Int)-1) 0) then bif (cI (List.take (((v26.length:Int)-1)).toNat v26) (((List.take (((v26.length:Int)-1)).toNat v26).length:Int)-1) 0)<(v7.length:Int) then(bif v8<(cI v10 v12 0) then some (v25,v24,0)else go1 (true,(cI v10 v12 0),(cI v26 ((v26.length:Int)-1) 0),3,(List.take (List.replicate (((List.take (((v26.length:Int)-1)).toNat v26).length:Int)).toNat [(AV.int 0)]).length (List.take (((v26.length:Int)-1)).toNat v26)++List.drop (List.take (((v26.length:Int)-1)).toNat v26).length (List.replicate (((List.take (((v26.length:Int)-1)).toNat v26).length:Int)).toNat [(AV.int 0)])),(cI v7 (cI (List.take (((v26.length:Int)-1)).toNat v26) (((List.take (((v26.length:Int)-1)).toNat v26).length:Int)-1) 0) 2),(List.take (((v26.length:Int)-1)).toNat v26)))else none else none else none else none else none else(bif v8<(cI v10 v12 0) then some (v25,v24,0)else go1 (true,(cI v10 v12 0),(cI v26 ((v26.length:Int)-1) 0),3,(List.take (List.replicate (((List.take (((v26.length:Int)-1)).toNat v26).length:Int)).toNat [(AV.int 0)]).length (List.take (((v26.length:Int)-1)).toNat v26)++List.drop (List.take (((v26.length:Int)-1)).toNat v26).length (List.replicate (((List.take (((v26.length:Int)-1)).toNat v26).length:Int)).toNat [(AV.int 0)])),v1,(List.take (((v26.length:Int)-1)).toNat v26))))else none else none else none else bif ((v26.length:Int)-1)<=(v26.length:Int) then bif 0<=((List.take (((v26.length:Int)-1)).toNat v26).length:Int) then bif (((List.take (((v26.length:Int)-1)).toNat v26).length:Int)*8)<=140737488355328 then(bif 0<((List.take (((v26.length:Int)-1)).toNat v26).length:Int) then bif(-9223372036854775808<=(((List.take (((v26.length:Int)-1)).toNat v26).length:Int)-1))&&((((List.take (((v26.length:Int)-1)).toNat v26).length:Int)-1)<=9223372036854775807)then bif 0<=(((List.take (((v26.length:Int)-1)).toNat v26).length:Int)-1) then bif (((List.take (((v26.length:Int)-1)).toNat v26).length:Int)-1)<((List.take (((v26.length:Int)-1)).toNat v26).length:Int) then bif 0<=(cI (List.take (((v26.length:Int)-1)).toNat v26) (((List.take (((v26.length:Int)-1)).toNat v26).length:Int)-1) 0) then bif (cI (List.take (((v26.length:Int)-1)).toNat v26) (((List.take (((v26.length:Int)-1)).toNat v26).length:Int)-1) 0)<(v7.length:Int) then(bif v8<(cI v10 v12 0) then some (v25,v24,0)else go1 (true,(cI v10 v12 0),(cI v26 ((v26.length:Int)-1) 0),4,(List.take (List.replicate (((List.take (((v26.length:Int)-1)).toNat v26).length:Int)).toNat [(AV.int 0)]).length (List.take (((v26.length:Int)-1)).toNat v26)++List.drop (List.take (((v26.length:Int)-1)).toNat v26).length (List.replicate (((List.take (((v26.length:Int)-1)).toNat v26).length:Int)).toNat [(AV.int 0)])),(cI v7 (cI (List.take (((v26.length:Int)-1)).toNat v26) (((List.take (((v26.length:Int)-1)).toNat v26).length:Int)-1) 0) 2),(List.take (((v26.length:Int)-1)).toNat v26)))else none else none else none else none else none else(bif v8<(cI v10 v12 0) then some (v25,v24,0)else go1 (true,(cI v10 v12 0),(cI v26 ((v26.length:Int)-1) 0),4,(List.take (List.replicate (((List.take (((v26.length:Int)-1)).toNat v26).length:Int)).toNat [(AV.int 0)]).length (List.take (((v26.length:Int)-1)).toNat v26)++List.drop (List.take (((v26.length:Int)-1)).toNat v26).length (List.replicate (((List.take (((v26.length:Int)-1)).toNat v26).length:Int)).toNat [(AV.int 0)])),v1,(List.take (((v26.length:Int)-1)).toNat v26))))else none else none else none)else none else none else none else(bif 0<(v26.length:Int) then bif(-9223372036854775808<=((v26.length:Int)-1))&&(((v26.length:Int)-1)<=9223372036854775807)then bif 0<=((v26.length:Int)-1) then bif ((v26.length:Int)-1)<(v26.length:Int) then bif 0<=(cI v26 ((v26.length:Int)-1) 0) then bif (cI v26 ((v26.length:Int)-1) 0)<(v7.length:Int) then bif(-9223372036854775808<=(v12+1))&&((v12+1)<=9223372036854775807)then go0 ((cI v7 (cI v26 ((v26.length:Int)-1) 0) 2),(v12+1),v21,v22,v23,v24,v25,v26)else none else none else none else none else none else none else bif(-9223372036854775808<=(v12+1))&&((v12+1)<=9223372036854775807)then go0 (v1,(v12+1),v21,v22,v23,v24,v25,v26)else none))
def gS(n:Nat)(go0:bQ->Option ax)(go1:ju->Option ax)(v1:Int)(v7:Lv)(v8:Int)(v10:Lv)(v12 v19:Int)(v20:Bool)(v21 v22 v23:Int)(v24:Lv)(v25:Int)(v26:Lv):Option ax:=
 (bif v20 then sH n go0 go1 v1 v7 v8 v10 v12 v19 v21 v22 v23 v24 v25 v26 else some (v25,v24,0))
def Bk(n:Nat)(go0:bQ->Option ax)(go1:dj->Option ax)(v1:Int)(v7:Lv)(v8:Int)(v10:Lv)(v12 v13 v14 v15:Int)(v16:Lv)(v17:Int)(v18:Lv)(v19:Int):Option ax:=
 (bif v19<0 then bif 0<=(v18.length:Int) then bif ((v18.length:Int)*8)<=140737488355328 then(bif 0<(v18.length:Int) then bif(-9223372036854775808<=((v18.length:Int)-1))&&(((v18.length:Int)-1)<=9223372036854775807)then bif 0<=((v18.length:Int)-1) then bif ((v18.length:Int)-1)<(v18.length:Int) then bif 0<=(cI v18 ((v18.length:Int)-1) 0) then bif (cI v18 ((v18.length:Int)-1) 0)<(v7.length:Int) then(bif v8<(cI v10 v12 0) then some (v17,v16,0)else bif(-9223372036854775808<=(v12+1))&&((v12+1)<=9223372036854775807)then go0 ((cI v7 (cI v18 ((v18.length:Int)-1) 0) 2),(v12+1),(cI v10 v12 0),(cI v10 v12 1),5,(List.take (List.replicate ((v18.length:Int)).toNat [(AV.int 0)]).length v18++List.drop v18.length (List.replicate ((v18.length:Int)).toNat [(AV.int 0)])),(cI v7 (cI v18 ((v18.length:Int)-1) 0) 2),v18)else none)else none else none else none else none else none else(bif v8<(cI v10 v12 0) then some (v17,v16,0)else bif(-9223372036854775808<=(v12+1))&&((v12+1)<=9223372036854775807)then go0 (v1,(v12+1),(cI v10 v12 0),(cI v10 v12 1),5,(List.take (List.replicate ((v18.length:Int)).toNat [(AV.int 0)]).length v18++List.drop v18.length (List.replicate ((v18.length:Int)).toNat [(AV.int 0)])),v1,v18)else none))else none else none else(aa (fun go1 s=>gS n go0 go1 v1 v7 v8 v10 v12 v19 s.1 s.2.1 s.2.2.1 s.2.2.2.1 s.2.2.2.2.1 s.2.2.2.2.2.1 s.2.2.2.2.2.2) n ((true,v13,v14,v15,v16,v17,v18):ju)))
def DZ(n:Nat)(go0:bQ->Option ax)(go1:dj->Option ax)(v1:Int)(v6 v7:Lv)(v8:Int)(v10:Lv)(v11 v12 v13 v14 v15:Int)(v16:Lv)(v17:Int)(v18:Lv)(v19:Int):Option ax:=
 (bif(!(cB v10 v12 2))then(oH n v6 (af (cI v10 v12 0) 10000000)).bind fun y20=>
 iV n go0 go1 v1 v7 v8 v10 v11 v12 v16 v17 v18 y20.1 y20.2.1 else Bk n go0 go1 v1 v7 v8 v10 v12 v13 v14 v15 v16 v17 v18 v19)
def CY(n:Nat)(go0:bQ->Option ax)(go1:dj->Option ax)(v1:Int)(v6 v7:Lv)(v8:Int)(v10:Lv)(v11 v12 v13 v14 v15:Int)(v16:Lv)(v17:Int)(v18:Lv)(v19:Int):Option ax:=
 (bif (cI v10 v12 1)=(cI v18 v19 0) then bif 0<=(cI v10 v12 1) then bif (cI v10 v12 1)<(v7.length:Int) then DZ n go0 go1 v1 v6 v7 v8 v10 v11 v12 v13 v14 v15 v16 v17 v18 v19 else none else none else bif(-9223372036854775808<=(v19+1))&&((v19+1)<=9223372036854775807)then go1 (v19+1)else none)
abbrev Bm:= @iV
def BN(n:Nat)(go0:bQ->Option ax)(go1:dj->Option ax)(v1:Int)(v6 v7:Lv)(v8:Int)(v10:Lv)(v11 v12:Int)(v16:Lv)(v17:Int)(v18:Lv):Option ax:=
 (bif(!(cB v10 v12 2))then(oH n v6 (af (cI v10 v12 0) 10000000)).bind fun y20=>
 Bm n go0 go1 v1 v7 v8 v10 v11 v12 v16 v17 v18 y20.1 y20.2.1 else bif 0<=(v18.length:Int) then bif ((v18.length:Int)*8)<=140737488355328 then(bif 0<(v18.length:Int) then bif(-9223372036854775808<=((v18.length:Int)-1))&&(((v18.length:Int)-1)<=9223372036854775807)then bif 0<=((v18.length:Int)-1) then bif ((v18.length:Int)-1)<(v18.length:Int) then bif 0<=(cI v18 ((v18.length:Int)-1) 0) then bif (cI v18 ((v18.length:Int)-1) 0)<(v7.length:Int) then(bif v8<(cI v10 v12 0) then some (v17,v16,0)else bif(-9223372036854775808<=(v12+1))&&((v12+1)<=9223372036854775807)then go0 ((cI v7 (cI v18 ((v18.length:Int)-1) 0) 2),(v12+1),(cI v10 v12 0),(cI v10 v12 1),5,(List.take (List.replicate ((v18.length:Int)).toNat [(AV.int 0)]).length v18++List.drop v18.length (List.replicate ((v18.length:Int)).toNat [(AV.int 0)])),(cI v7 (cI v18 ((v18.length:Int)-1) 0) 2),v18)else none)else none else none else none else none else none else(bif v8<(cI v10 v12 0) then some (v17,v16,0)else bif(-9223372036854775808<=(v12+1))&&((v12+1)<=9223372036854775807)then go0 (v1,(v12+1),(cI v10 v12 0),(cI v10 v12 1),5,(List.take (List.replicate ((v18.length:Int)).toNat [(AV.int 0)]).length v18++List.drop v18.length (List.replicate ((v18.length:Int)).toNat [(AV.int 0)])),v1,v18)else none))else none else none)
def uT(n:Nat)(go0:bQ->Option ax)(go1:dj->Option ax)(v1:Int)(v6 v7:Lv)(v8:Int)(v10:Lv)(v11 v12 v13 v14 v15:Int)(v16:Lv)(v17:Int)(v18:Lv)(v19:Int):Option ax:=
 (bif v19<(v18.length:Int) then bif 0<=v19 then CY n go0 go1 v1 v6 v7 v8 v10 v11 v12 v13 v14 v15 v16 v17 v18 v19 else none else bif 0<=(cI v10 v12 1) then bif (cI v10 v12 1)<(v7.length:Int) then BN n go0 go1 v1 v6 v7 v8 v10 v11 v12 v16 v17 v18 else none else none)
def Dx(n:Nat)(go0:bQ->Option ax)(v1:Int)(v6 v7:Lv)(v8:Int)(v10:Lv)(v11 v12 v13 v14 v15:Int)(v16:Lv)(v17:Int)(v18:Lv):Option ax:=
 (bif v12<(v10.length:Int) then bif 0<=v12 then(aa (fun go1 s=>uT n go0 go1 v1 v6 v7 v8 v10 v11 v12 v13 v14 v15 v16 v17 v18 s) n (0:dj))else none else some (v17,v16,0))
def Dn(n:Nat)(v0 v1 v2 v3 v4 v5:Int)(v6 v7:Lv)(v8:Int):Option ax:=
 (bif !(v8<=20000000)then some (0,([]:Lv),170)else(gh n v0 v1 v2 v3 v4 v5 v6 v7).bind fun y10=>
 (aa (fun go0 s=>Dx n go0 v1 v6 v7 v8 y10 s.1 s.2.1 s.2.2.1 s.2.2.2.1 s.2.2.2.2.1 s.2.2.2.2.2.1 s.2.2.2.2.2.2.1 s.2.2.2.2.2.2.2) n ((v1,0,0,0,0,([]:Lv),v1,([]:Lv)):bQ)))
def Dt(n:Nat)(v0 v1 v2 v3 v4 v5:Int)(v6 v7:Lv)(v8:Int):Option ax:=
 (bif 0<=v8 then Dn n v0 v1 v2 v3 v4 v5 v6 v7 v8 else some (0,([]:Lv),170))
def D5(n:Nat)(v0 v1 v2 v3 v4 v5:Int)(v6 v7:Lv)(v8:Int)(v9:Bool):Option ax:=
 (bif(!v9)then some (0,([]:Lv),170)else Dt n v0 v1 v2 v3 v4 v5 v6 v7 v8)
def DD(n:Nat)(v0 v1 v2 v3 v4 v5:Int)(v6 v7:Lv)(v8:Int):Option ax:=
 (lX n v0 v1 v2 v3 v4 v5 v6 v7).bind fun y9=>
 D5 n v0 v1 v2 v3 v4 v5 v6 v7 v8 y9
def uS(n:Nat)(v0 v1 v2 v3 v4 v5:Int)(v6 v7:Lv)(v8:Int):Option ax:=DD n v0 v1 v2 v3 v4 v5 v6 v7 v8
def chain_At_t:FnT:=⟨[(true,[.int,.int,.int,.int,.int,.int,tSc,(.sl (.cons .int (.cons .int (.cons .int (.cons .int (.cons .int (.cons .bool (.cons tSc .nil))))))))]),(false,[.int])],(.tup (.cons .i (.cons (.row 3 (.cons .int .nil)) (.cons .i .nil)))),fun n (s:Int×Int×Int×Int×Int×Int×Lv×Lv×Int)=>uS n s.1 s.2.1 s.2.2.1 s.2.2.2.1 s.2.2.2.2.1 s.2.2.2.2.2.1 s.2.2.2.2.2.2.1 s.2.2.2.2.2.2.2.1 s.2.2.2.2.2.2.2.2⟩
theorem Ka:chain_At_t.ok Tryz.prog 50:=FnT.ok_of (cfg:=⟨[((159,5,9),.inv [(.tmp 5 .int),(.tmp 22 .int),(.cell 2 0 .int),(.cell 2 1 .int),(.cell 2 2 .int),(.cellrow 2 3 3 (.cons .int .nil)),(.cell 2 4 .int),(.cellrow 7 0 3 (.cons .int .nil))]),((162,2,19),.inv [(.tmp 8 .int)]),((159,10,22),.inv [(.tmp 10 .bool),(.cell 2 0 .int),(.cell 2 1 .int),(.cell 2 2 .int),(.cellrow 2 3 3 (.cons .int .nil)),(.cell 2 4 .int),(.cellrow 7 0 3 (.cons .int .nil))])],aH,[(159,15)],aG⟩) av jY aX (fun s fn hf=>by rw[Tryz.func50]at hf;cases hf;kernel_rfl) (fun n s=>by kernel_rfl)
def chain_At_T:Tab:=(50,chain_At_t)::chain_happenings_T
theorem wv:chain_At_T.ok Tryz.prog:=Tab.ok_cons Ka jY
abbrev yS:=Int
def xI(n:Nat)(v0 v1:Int):Option yS:=
 (bif v0<0 then bif(-9223372036854775808<=(v0+1))&&((v0+1)<=9223372036854775807)then bif(-9223372036854775808<=(0-(v0+1)))&&((0-(v0+1))<=9223372036854775807)then bif !(v1=0)then some (Int.tmod (0-(v0+1)) v1)else none else none else none else bif !(v1=0)then some (Int.tmod v0 v1)else none)
def ck(n:Nat)(v0 v1:Int):Option yS:=xI n v0 v1
def ref17_pick_t:FnT:=⟨[(false,[.int]),(false,[.int])],.i,fun n (s:Int×Int)=>ck n s.1 s.2⟩
theorem Gz:ref17_pick_t.ok Tryz.prog 108:=FnT.ok_of (cfg:=⟨[],aH,[],aG⟩) av wv aX (fun s fn hf=>by rw[Tryz.func108]at hf;cases hf;kernel_rfl) (fun n s=>by kernel_rfl)
def ref17_pick_T:Tab:=(108,ref17_pick_t)::chain_At_T
theorem qS:ref17_pick_T.ok Tryz.prog:=Tab.ok_cons Gz wv
abbrev aj:=Int×Int×Int×Int×Int×Int×Lv×Lv
abbrev am:=Int×Lv
def aS(n:Nat)(go0:am->Option aj)(go1:am->Option aj)(v15 v36:Int)(v37:Lv):Option aj:=
 (bif 0<v36 then bif 0<=v36 then bif v36<(v37.length:Int) then bif(-9223372036854775808<=(v36-1))&&((v36-1)<=9223372036854775807)then bif 0<=(v36-1) then bif (v36-1)<(v37.length:Int) then(bif (cI v37 v36 4)<(cI v37 (v36-1) 4) then go1 ((v36-1),(List.modify (List.modify (List.modify (List.modify (List.modify (List.modify (List.modify (List.modify (List.modify (List.modify (List.modify (List.modify (List.modify (List.modify v37 (v36).toNat (fun r=>r.set 0 (AV.int (cI v37 (v36-1) 0)))) (v36).toNat (fun r=>r.set 1 (AV.int (cI v37 (v36-1) 1)))) (v36).toNat (fun r=>r.set 2 (AV.int (cI v37 (v36-1) 2)))) (v36).toNat (fun r=>r.set 3 (AV.int (cI v37 (v36-1) 3)))) (v36).toNat (fun r=>r.set 4 (AV.int (cI v37 (v36-1) 4)))) (v36).toNat (fun r=>r.set 5 (AV.bool (cB v37 (v36-1) 5)))) (v36).toNat (fun r=>r.set 6 (AV.sl (.cons .int (.cons .int (.cons .int .nil))) (cL v37 (v36-1) 6)))) ((v36-1)).toNat (fun r=>r.set 0 (AV.int (cI v37 v36 0)))) ((v36-1)).toNat (fun r=>r.set 1 (AV.int (cI v37 v36 1)))) ((v36-1)).toNat (fun r=>r.set 2 (AV.int (cI v37 v36 2)))) ((v36-1)).toNat (fun r=>r.set 3 (AV.int (cI v37 v36 3)))) ((v36-1)).toNat (fun r=>r.set 4 (AV.int (cI v37 v36 4)))) ((v36-1)).toNat (fun r=>r.set 5 (AV.bool (cB v37 v36 5)))) ((v36-1)).toNat (fun r=>r.set 6 (AV.sl (.cons .int (.cons .int (.cons .int .nil))) (cL v37 v36 6)))))else bif(-9223372036854775808<=(v15+1))&&((v15+1)<=9223372036854775807)then go0 ((v15+1),v37)else none)else none else none else none else none else none else bif(-9223372036854775808<=(v15+1))&&((v15+1)<=9223372036854775807)then go0 ((v15+1),v37)else none)
abbrev GA:= @aS
def IE(n:Nat)(go0:am->Option aj)(v8 v15:Int)(v16:Lv)(v23 v24 v25:Int)(v26:Bool)(v27:Lv)(v28 v31 v35:Int):Option aj:=
 (bif v35<7 then bif (((v16.length:Int)+1)*72)<=140737488355328 then bif(-9223372036854775808<=(((v16.length:Int)+1)-1))&&((((v16.length:Int)+1)-1)<=9223372036854775807)then(aa (fun go1 s=>aS n go0 go1 v15 s.1 s.2) n (((((v16.length:Int)+1)-1),(v16++[[(AV.int v8),(AV.int (cI v16 (((v16.length:Int)-v28)-1) 2)),(AV.int (Int.tmod (v23+1) 8)),(AV.int v31),(AV.int v25),(AV.bool v26),(AV.sl (.cons .int (.cons .int (.cons .int .nil))) v27)]])):am))else none else none else bif (((v16.length:Int)+1)*72)<=140737488355328 then bif(-9223372036854775808<=(((v16.length:Int)+1)-1))&&((((v16.length:Int)+1)-1)<=9223372036854775807)then(aa (fun go1 s=>GA n go0 go1 v15 s.1 s.2) n (((((v16.length:Int)+1)-1),(v16++[[(AV.int v8),(AV.int (cI v16 (((v16.length:Int)-v28)-1) 2)),(AV.int (Int.tmod (v23+1) 8)),(AV.int v24),(AV.int v25),(AV.bool v26),(AV.sl (.cons .int (.cons .int (.cons .int .nil))) v27)]])):am))else none else none)
abbrev Gv:= @aS
def Iu(n:Nat)(go0:am->Option aj)(v7:Lv)(v8 v15:Int)(v16:Lv)(v23 v24 v25:Int)(v26:Bool)(v27:Lv)(v28 v31:Int):Option aj:=
 (bif 0<=v31 then bif(-9223372036854775808<=(Int.tdiv (cI v7 v15 7) 16))&&((Int.tdiv (cI v7 v15 7) 16)<=9223372036854775807)then(ck n (Int.tdiv (cI v7 v15 7) 16) 8).bind fun y35=>
 IE n go0 v8 v15 v16 v23 v24 v25 v26 v27 v28 v31 y35 else none else bif (((v16.length:Int)+1)*72)<=140737488355328 then bif(-9223372036854775808<=(((v16.length:Int)+1)-1))&&((((v16.length:Int)+1)-1)<=9223372036854775807)then(aa (fun go1 s=>Gv n go0 go1 v15 s.1 s.2) n (((((v16.length:Int)+1)-1),(v16++[[(AV.int v8),(AV.int (cI v16 (((v16.length:Int)-v28)-1) 2)),(AV.int (Int.tmod (v23+1) 8)),(AV.int v24),(AV.int v25),(AV.bool v26),(AV.sl (.cons .int (.cons .int (.cons .int .nil))) v27)]])):am))else none else none)
abbrev Hz:= @aS
abbrev GP:= @aS
def He(n:Nat)(go0:am->Option aj)(v8 v15:Int)(v16:Lv)(v23 v24 v25:Int)(v26:Bool)(v27:Lv)(v28 v31 v35:Int):Option aj:=
 (bif v35<7 then bif (((v16.length:Int)+1)*72)<=140737488355328 then bif(-9223372036854775808<=(((v16.length:Int)+1)-1))&&((((v16.length:Int)+1)-1)<=9223372036854775807)then(aa (fun go1 s=>Hz n go0 go1 v15 s.1 s.2) n (((((v16.length:Int)+1)-1),(v16++[[(AV.int v8),(AV.int (cI v16 (((v16.length:Int)-v28)-1) 2)),(AV.int v23),(AV.int v31),(AV.int v25),(AV.bool v26),(AV.sl (.cons .int (.cons .int (.cons .int .nil))) v27)]])):am))else none else none else bif (((v16.length:Int)+1)*72)<=140737488355328 then bif(-9223372036854775808<=(((v16.length:Int)+1)-1))&&((((v16.length:Int)+1)-1)<=9223372036854775807)then(aa (fun go1 s=>GP n go0 go1 v15 s.1 s.2) n (((((v16.length:Int)+1)-1),(v16++[[(AV.int v8),(AV.int (cI v16 (((v16.length:Int)-v28)-1) 2)),(AV.int v23),(AV.int v24),(AV.int v25),(AV.bool v26),(AV.sl (.cons .int (.cons .int (.cons .int .nil))) v27)]])):am))else none else none)
abbrev Ho:= @aS
def GM(n:Nat)(go0:am->Option aj)(v7:Lv)(v8 v15:Int)(v16:Lv)(v23 v24 v25:Int)(v26:Bool)(v27:Lv)(v28 v31:Int):Option aj:=
 (bif 0<=v31 then bif(-9223372036854775808<=(Int.tdiv (cI v7 v15 7) 16))&&((Int.tdiv (cI v7 v15 7) 16)<=9223372036854775807)then(ck n (Int.tdiv (cI v7 v15 7) 16) 8).bind fun y35=>
 He n go0 v8 v15 v16 v23 v24 v25 v26 v27 v28 v31 y35 else none else bif (((v16.length:Int)+1)*72)<=140737488355328 then bif(-9223372036854775808<=(((v16.length:Int)+1)-1))&&((((v16.length:Int)+1)-1)<=9223372036854775807)then(aa (fun go1 s=>Ho n go0 go1 v15 s.1 s.2) n (((((v16.length:Int)+1)-1),(v16++[[(AV.int v8),(AV.int (cI v16 (((v16.length:Int)-v28)-1) 2)),(AV.int v23),(AV.int v24),(AV.int v25),(AV.bool v26),(AV.sl (.cons .int (.cons .int (.cons .int .nil))) v27)]])):am))else none else none)
def ID(n:Nat)(go0:am->Option aj)(v7:Lv)(v8:Int)(v14:Lv)(v15:Int)(v16:Lv)(v23 v24 v25:Int)(v26:Bool)(v27:Lv)(v28:Int):Option aj:=
 (bif (cI v16 (((v16.length:Int)-v28)-1) 2)=v23 then bif(-9223372036854775808<=(v23+1))&&((v23+1)<=9223372036854775807)then(dq n v14 v25).bind fun y30=>
 Iu n go0 v7 v8 v15 v16 v23 v24 v25 v26 v27 v28 y30.2.1 else none else(dq n v14 v25).bind fun y30=>
 GM n go0 v7 v8 v15 v16 v23 v24 v25 v26 v27 v28 y30.2.1)
abbrev GV:= @aS
abbrev HN:= @aS
def Hv(n:Nat)(go0:am->Option aj)(v8 v9 v15:Int)(v16:Lv)(v23 v24 v25:Int)(v26:Bool)(v27:Lv)(v31 v35:Int):Option aj:=
 (bif v35<7 then bif (((v16.length:Int)+1)*72)<=140737488355328 then bif(-9223372036854775808<=(((v16.length:Int)+1)-1))&&((((v16.length:Int)+1)-1)<=9223372036854775807)then(aa (fun go1 s=>GV n go0 go1 v15 s.1 s.2) n (((((v16.length:Int)+1)-1),(v16++[[(AV.int v8),(AV.int v9),(AV.int (Int.tmod (v23+1) 8)),(AV.int v31),(AV.int v25),(AV.bool v26),(AV.sl (.cons .int (.cons .int (.cons .int .nil))) v27)]])):am))else none else none else bif (((v16.length:Int)+1)*72)<=140737488355328 then bif(-9223372036854775808<=(((v16.length:Int)+1)-1))&&((((v16.length:Int)+1)-1)<=9223372036854775807)then(aa (fun go1 s=>HN n go0 go1 v15 s.1 s.2) n (((((v16.length:Int)+1)-1),(v16++[[(AV.int v8),(AV.int v9),(AV.int (Int.tmod (v23+1) 8)),(AV.int v24),(AV.int v25),(AV.bool v26),(AV.sl (.cons .int (.cons .int (.cons .int .nil))) v27)]])):am))else none else none)
abbrev HC:= @aS
def Hf(n:Nat)(go0:am->Option aj)(v7:Lv)(v8 v9 v15:Int)(v16:Lv)(v23 v24 v25:Int)(v26:Bool)(v27:Lv)(v31:Int):Option aj:=
 (bif 0<=v31 then bif(-9223372036854775808<=(Int.tdiv (cI v7 v15 7) 16))&&((Int.tdiv (cI v7 v15 7) 16)<=9223372036854775807)then(ck n (Int.tdiv (cI v7 v15 7) 16) 8).bind fun y35=>
 Hv n go0 v8 v9 v15 v16 v23 v24 v25 v26 v27 v31 y35 else none else bif (((v16.length:Int)+1)*72)<=140737488355328 then bif(-9223372036854775808<=(((v16.length:Int)+1)-1))&&((((v16.length:Int)+1)-1)<=9223372036854775807)then(aa (fun go1 s=>HC n go0 go1 v15 s.1 s.2) n (((((v16.length:Int)+1)-1),(v16++[[(AV.int v8),(AV.int v9),(AV.int (Int.tmod (v23+1) 8)),(AV.int v24),(AV.int v25),(AV.bool v26),(AV.sl (.cons .int (.cons .int (.cons .int .nil))) v27)]])):am))else none else none)
abbrev GH:= @aS
abbrev G9:= @aS
def GN(n:Nat)(go0:am->Option aj)(v8 v9 v15:Int)(v16:Lv)(v23 v24 v25:Int)(v26:Bool)(v27:Lv)(v31 v35:Int):Option aj:=
 (bif v35<7 then bif (((v16.length:Int)+1)*72)<=140737488355328 then bif(-9223372036854775808<=(((v16.length:Int)+1)-1))&&((((v16.length:Int)+1)-1)<=9223372036854775807)then(aa (fun go1 s=>GH n go0 go1 v15 s.1 s.2) n (((((v16.length:Int)+1)-1),(v16++[[(AV.int v8),(AV.int v9),(AV.int v23),(AV.int v31),(AV.int v25),(AV.bool v26),(AV.sl (.cons .int (.cons .int (.cons .int .nil))) v27)]])):am))else none else none else bif (((v16.length:Int)+1)*72)<=140737488355328 then bif(-9223372036854775808<=(((v16.length:Int)+1)-1))&&((((v16.length:Int)+1)-1)<=9223372036854775807)then(aa (fun go1 s=>G9 n go0 go1 v15 s.1 s.2) n (((((v16.length:Int)+1)-1),(v16++[[(AV.int v8),(AV.int v9),(AV.int v23),(AV.int v24),(AV.int v25),(AV.bool v26),(AV.sl (.cons .int (.cons .int (.cons .int .nil))) v27)]])):am))else none else none)
abbrev HR:= @aS
def HS(n:Nat)(go0:am->Option aj)(v7:Lv)(v8 v9 v15:Int)(v16:Lv)(v23 v24 v25:Int)(v26:Bool)(v27:Lv)(v31:Int):Option aj:=
 (bif 0<=v31 then bif(-9223372036854775808<=(Int.tdiv (cI v7 v15 7) 16))&&((Int.tdiv (cI v7 v15 7) 16)<=9223372036854775807)then(ck n (Int.tdiv (cI v7 v15 7) 16) 8).bind fun y35=>
 GN n go0 v8 v9 v15 v16 v23 v24 v25 v26 v27 v31 y35 else none else bif (((v16.length:Int)+1)*72)<=140737488355328 then bif(-9223372036854775808<=(((v16.length:Int)+1)-1))&&((((v16.length:Int)+1)-1)<=9223372036854775807)then(aa (fun go1 s=>HR n go0 go1 v15 s.1 s.2) n (((((v16.length:Int)+1)-1),(v16++[[(AV.int v8),(AV.int v9),(AV.int v23),(AV.int v24),(AV.int v25),(AV.bool v26),(AV.sl (.cons .int (.cons .int (.cons .int .nil))) v27)]])):am))else none else none)
def Hn(n:Nat)(go0:am->Option aj)(v7:Lv)(v8 v9:Int)(v14:Lv)(v15:Int)(v16:Lv)(v23 v24 v25:Int)(v26:Bool)(v27:Lv):Option aj:=
 (bif v9=v23 then bif(-9223372036854775808<=(v23+1))&&((v23+1)<=9223372036854775807)then(dq n v14 v25).bind fun y30=>
 Hf n go0 v7 v8 v9 v15 v16 v23 v24 v25 v26 v27 y30.2.1 else none else(dq n v14 v25).bind fun y30=>
 HS n go0 v7 v8 v9 v15 v16 v23 v24 v25 v26 v27 y30.2.1)
def zJ(n:Nat)(go0:am->Option aj)(v7:Lv)(v8 v9:Int)(v14:Lv)(v15:Int)(v16:Lv)(v23 v24 v25:Int)(v26:Bool)(v27:Lv)(v28:Int):Option aj:=
 (bif 0<((v16.length:Int)-v28) then bif(-9223372036854775808<=(((v16.length:Int)-v28)-1))&&((((v16.length:Int)-v28)-1)<=9223372036854775807)then bif 0<=(((v16.length:Int)-v28)-1) then bif (((v16.length:Int)-v28)-1)<(v16.length:Int) then ID n go0 v7 v8 v14 v15 v16 v23 v24 v25 v26 v27 v28 else none else none else none else Hn n go0 v7 v8 v9 v14 v15 v16 v23 v24 v25 v26 v27)
abbrev Gp:= @aS
abbrev Gt:= @aS
def Hq(n:Nat)(go0:am->Option aj)(v8 v15:Int)(v16:Lv)(v22 v23 v24 v25:Int)(v26:Bool)(v27:Lv)(v31 v35:Int):Option aj:=
 (bif v35<7 then bif (((v16.length:Int)+1)*72)<=140737488355328 then bif(-9223372036854775808<=(((v16.length:Int)+1)-1))&&((((v16.length:Int)+1)-1)<=9223372036854775807)then(aa (fun go1 s=>Gp n go0 go1 v15 s.1 s.2) n (((((v16.length:Int)+1)-1),(v16++[[(AV.int v8),(AV.int v22),(AV.int (Int.tmod (v23+1) 8)),(AV.int v31),(AV.int v25),(AV.bool v26),(AV.sl (.cons .int (.cons .int (.cons .int .nil))) v27)]])):am))else none else none else bif (((v16.length:Int)+1)*72)<=140737488355328 then bif(-9223372036854775808<=(((v16.length:Int)+1)-1))&&((((v16.length:Int)+1)-1)<=9223372036854775807)then(aa (fun go1 s=>Gt n go0 go1 v15 s.1 s.2) n (((((v16.length:Int)+1)-1),(v16++[[(AV.int v8),(AV.int v22),(AV.int (Int.tmod (v23+1) 8)),(AV.int v24),(AV.int v25),(AV.bool v26),(AV.sl (.cons .int (.cons .int (.cons .int .nil))) v27)]])):am))else none else none)
abbrev Hi:= @aS
def HU(n:Nat)(go0:am->Option aj)(v7:Lv)(v8 v15:Int)(v16:Lv)(v22 v23 v24 v25:Int)(v26:Bool)(v27:Lv)(v31:Int):Option aj:=
 (bif 0<=v31 then bif(-9223372036854775808<=(Int.tdiv (cI v7 v15 7) 16))&&((Int.tdiv (cI v7 v15 7) 16)<=9223372036854775807)then(ck n (Int.tdiv (cI v7 v15 7) 16) 8).bind fun y35=>
 Hq n go0 v8 v15 v16 v22 v23 v24 v25 v26 v27 v31 y35 else none else bif (((v16.length:Int)+1)*72)<=140737488355328 then bif(-9223372036854775808<=(((v16.length:Int)+1)-1))&&((((v16.length:Int)+1)-1)<=9223372036854775807)then(aa (fun go1 s=>Hi n go0 go1 v15 s.1 s.2) n (((((v16.length:Int)+1)-1),(v16++[[(AV.int v8),(AV.int v22),(AV.int (Int.tmod (v23+1) 8)),(AV.int v24),(AV.int v25),(AV.bool v26),(AV.sl (.cons .int (.cons .int (.cons .int .nil))) v27)]])):am))else none else none)
abbrev HH:= @aS
abbrev HO:= @aS
def HZ(n:Nat)(go0:am->Option aj)(v8 v15:Int)(v16:Lv)(v22 v23 v24 v25:Int)(v26:Bool)(v27:Lv)(v31 v35:Int):Option aj:=
 (bif v35<7 then bif (((v16.length:Int)+1)*72)<=140737488355328 then bif(-9223372036854775808<=(((v16.length:Int)+1)-1))&&((((v16.length:Int)+1)-1)<=9223372036854775807)then(aa (fun go1 s=>HH n go0 go1 v15 s.1 s.2) n (((((v16.length:Int)+1)-1),(v16++[[(AV.int v8),(AV.int v22),(AV.int v23),(AV.int v31),(AV.int v25),(AV.bool v26),(AV.sl (.cons .int (.cons .int (.cons .int .nil))) v27)]])):am))else none else none else bif (((v16.length:Int)+1)*72)<=140737488355328 then bif(-9223372036854775808<=(((v16.length:Int)+1)-1))&&((((v16.length:Int)+1)-1)<=9223372036854775807)then(aa (fun go1 s=>HO n go0 go1 v15 s.1 s.2) n (((((v16.length:Int)+1)-1),(v16++[[(AV.int v8),(AV.int v22),(AV.int v23),(AV.int v24),(AV.int v25),(AV.bool v26),(AV.sl (.cons .int (.cons .int (.cons .int .nil))) v27)]])):am))else none else none)
abbrev GL:= @aS
def GI(n:Nat)(go0:am->Option aj)(v7:Lv)(v8 v15:Int)(v16:Lv)(v22 v23 v24 v25:Int)(v26:Bool)(v27:Lv)(v31:Int):Option aj:=
 (bif 0<=v31 then bif(-9223372036854775808<=(Int.tdiv (cI v7 v15 7) 16))&&((Int.tdiv (cI v7 v15 7) 16)<=9223372036854775807)then(ck n (Int.tdiv (cI v7 v15 7) 16) 8).bind fun y35=>
 HZ n go0 v8 v15 v16 v22 v23 v24 v25 v26 v27 v31 y35 else none else bif (((v16.length:Int)+1)*72)<=140737488355328 then bif(-9223372036854775808<=(((v16.length:Int)+1)-1))&&((((v16.length:Int)+1)-1)<=9223372036854775807)then(aa (fun go1 s=>GL n go0 go1 v15 s.1 s.2) n (((((v16.length:Int)+1)-1),(v16++[[(AV.int v8),(AV.int v22),(AV.int v23),(AV.int v24),(AV.int v25),(AV.bool v26),(AV.sl (.cons .int (.cons .int (.cons .int .nil))) v27)]])):am))else none else none)
def Gu(n:Nat)(go0:am->Option aj)(v7:Lv)(v8:Int)(v14:Lv)(v15:Int)(v16:Lv)(v22 v23 v24 v25:Int)(v26:Bool)(v27:Lv):Option aj:=
 (bif v22=v23 then bif(-9223372036854775808<=(v23+1))&&((v23+1)<=9223372036854775807)then(dq n v14 v25).bind fun y30=>
 HU n go0 v7 v8 v15 v16 v22 v23 v24 v25 v26 v27 y30.2.1 else none else(dq n v14 v25).bind fun y30=>
 GI n go0 v7 v8 v15 v16 v22 v23 v24 v25 v26 v27 y30.2.1)
def yX(n:Nat)(go0:am->Option aj)(v7:Lv)(v8 v9:Int)(v14:Lv)(v15:Int)(v16:Lv)(v22 v23 v24 v25:Int)(v26:Bool)(v27:Lv)(v28 v29:Int):Option aj:=
 (bif v29<15 then zJ n go0 v7 v8 v9 v14 v15 v16 v23 v24 v25 v26 v27 v28 else Gu n go0 v7 v8 v14 v15 v16 v22 v23 v24 v25 v26 v27)
def yK(n:Nat)(go0:am->Option aj)(v2 v3 v4 v5:Int)(v7:Lv)(v8 v9 v10 v11 v12 v13:Int)(v14:Lv)(v15:Int)(v16:Lv):Option aj:=
 (bif v15<5 then bif 0<=v15 then(iP n v2 v3 v4 v5 (cI v7 v15 0) (cI v7 v15 1) (cI v7 v15 2) (cI v7 v15 3) (cI v7 v15 4) (cI v7 v15 5) (cL v7 v15 6)).bind fun y17=>
 (ck n (cI v7 v15 7) 3).bind fun y28=>
 bif(-9223372036854775808<=((v16.length:Int)-y28))&&(((v16.length:Int)-y28)<=9223372036854775807)then(ck n (cI v7 v15 7) 16).bind fun y29=>
 yX n go0 v7 v8 v9 v14 v15 v16 y17.2.2.2.2.2.1 y17.2.2.2.2.2.2.1 y17.2.2.2.2.2.2.2.1 y17.2.2.2.2.2.2.2.2.1 y17.2.2.2.2.2.2.2.2.2.1 y17.2.2.2.2.2.2.2.2.2.2 y28 y29 else none else none else some (v8,v9,v10,v11,v12,v13,v14,v16))
def An(n:Nat)(go0:am->Option aj)(v2 v3 v4 v5:Int)(v7:Lv)(v8 v9 v10 v11 v12 v13:Int)(v14:Lv)(v15:Int)(v16:Lv):Option aj:=
 (bif v15<(v7.length:Int) then yK n go0 v2 v3 v4 v5 v7 v8 v9 v10 v11 v12 v13 v14 v15 v16 else some (v8,v9,v10,v11,v12,v13,v14,v16))
def yT(n:Nat)(v0 v1 v2 v3 v4 v5:Int)(v6 v7:Lv):Option aj:=
 (ck n v0 100000000).bind fun y8=>
 (ck n v1 8).bind fun y9=>
 (ea n v2 v3 v4 v5).bind fun y10=>
 (kz n v6).bind fun y14=>
 (aa (fun go0 s=>An n go0 v2 v3 v4 v5 v7 y8 y9 y10.1 y10.2.1 y10.2.2.1 y10.2.2.2 y14 s.1 s.2) n ((0,([]:Lv)):am))
def kM(n:Nat)(v0 v1 v2 v3 v4 v5:Int)(v6 v7:Lv):Option aj:=yT n v0 v1 v2 v3 v4 v5 v6 v7
def ref17_Made_t:FnT:=⟨[(true,[.int,.int,.int,.int,.int,.int,tSc,(.sl (.cons .int (.cons .int (.cons .int (.cons .int (.cons .int (.cons .int (.cons tSc (.cons .int .nil)))))))))])],(.agg (.cons .i (.cons .i (.cons .i (.cons .i (.cons .i (.cons .i (.cons (.row 224 (.cons .int (.cons .int (.cons .int .nil)))) (.cons (.row 172 (.cons .int (.cons .int (.cons .int (.cons .int (.cons .int (.cons .bool (.cons tSc .nil)))))))) .nil))))))))),fun n (s:Int×Int×Int×Int×Int×Int×Lv×Lv)=>kM n s.1 s.2.1 s.2.2.1 s.2.2.2.1 s.2.2.2.2.1 s.2.2.2.2.2.1 s.2.2.2.2.2.2.1 s.2.2.2.2.2.2.2⟩
theorem G7:ref17_Made_t.ok Tryz.prog 45:=FnT.ok_of (cfg:=⟨[((45,3,5),.inv [(.tmp 4 .int),(.cellrow 3 7 172 (.cons .int (.cons .int (.cons .int (.cons .int (.cons .int (.cons .bool (.cons tSc .nil))))))))]),((45,20,24),.inv [(.tmp 12 .int),(.cellrow 3 7 172 (.cons .int (.cons .int (.cons .int (.cons .int (.cons .int (.cons .bool (.cons tSc .nil))))))))]),((45,20,23),.inv [(.tmp 12 .int),(.cellrow 3 7 172 (.cons .int (.cons .int (.cons .int (.cons .int (.cons .int (.cons .bool (.cons tSc .nil))))))))]),((45,20,22),.inv [(.tmp 12 .int),(.cellrow 3 7 172 (.cons .int (.cons .int (.cons .int (.cons .int (.cons .int (.cons .bool (.cons tSc .nil))))))))]),((45,20,21),.inv [(.tmp 12 .int),(.cellrow 3 7 172 (.cons .int (.cons .int (.cons .int (.cons .int (.cons .int (.cons .bool (.cons tSc .nil))))))))]),((45,20,20),.inv [(.tmp 12 .int),(.cellrow 3 7 172 (.cons .int (.cons .int (.cons .int (.cons .int (.cons .int (.cons .bool (.cons tSc .nil))))))))])],aH,[],aG⟩) av qS aX (fun s fn hf=>by rw[Tryz.func45]at hf;cases hf;kernel_rfl) (fun n s=>by kernel_rfl)
def ref17_Made_T:Tab:=(45,ref17_Made_t)::ref17_pick_T
theorem rD:ref17_Made_T.ok Tryz.prog:=Tab.ok_cons G7 qS
abbrev yL:=Int×Int
def Ab(n:Nat)(v0 v1:Int)(v2 v3 v4 v5:Lv)(v6 v7 v8 v9 v10 v11:Int)(v12 v13:Lv)(v14:Int):Option yL:=
 (uS n v6 v7 v8 v9 v10 v11 v12 v13 v14).bind fun y15=>
 (bif !(y15.2.2=0)then some (0,420)else(bi n v0 v1 v2 v3 v4 v5 y15.1 v6 v14).bind fun y18=>
 some (y18.1,y18.2))
def gu(n:Nat)(v0 v1:Int)(v2 v3 v4 v5:Lv)(v6 v7 v8 v9 v10 v11:Int)(v12 v13:Lv)(v14:Int):Option yL:=Ab n v0 v1 v2 v3 v4 v5 v6 v7 v8 v9 v10 v11 v12 v13 v14
def merge_With_t:FnT:=⟨[(true,[.int,.int,tSc,tSa,tSa]),(false,[tSh]),(true,[.int,.int,.int,.int,.int,.int,tSc,(.sl (.cons .int (.cons .int (.cons .int (.cons .int (.cons .int (.cons .bool (.cons tSc .nil))))))))]),(false,[.int])],(.tup (.cons .i (.cons .i .nil))),fun n (s:Int×Int×Lv×Lv×Lv×Lv×Int×Int×Int×Int×Int×Int×Lv×Lv×Int)=>gu n s.1 s.2.1 s.2.2.1 s.2.2.2.1 s.2.2.2.2.1 s.2.2.2.2.2.1 s.2.2.2.2.2.2.1 s.2.2.2.2.2.2.2.1 s.2.2.2.2.2.2.2.2.1 s.2.2.2.2.2.2.2.2.2.1 s.2.2.2.2.2.2.2.2.2.2.1 s.2.2.2.2.2.2.2.2.2.2.2.1 s.2.2.2.2.2.2.2.2.2.2.2.2.1 s.2.2.2.2.2.2.2.2.2.2.2.2.2.1 s.2.2.2.2.2.2.2.2.2.2.2.2.2.2⟩
theorem G0:merge_With_t.ok Tryz.prog 48:=FnT.ok_of (cfg:=⟨[],aH,[],aG⟩) av rD aX (fun s fn hf=>by rw[Tryz.func48]at hf;cases hf;kernel_rfl) (fun n s=>by kernel_rfl)
def merge_With_T:Tab:=(48,merge_With_t)::ref17_Made_T
theorem rd:merge_With_T.ok Tryz.prog:=Tab.ok_cons G0 rD
abbrev jL:=Bool
abbrev tA:=Int
def wS(n:Nat)(go0:tA->Option jL)(v0 v2 v3 v4 v5:Int)(v7:Lv)(v9:Int):Option jL:=
 (bif v9<(v7.length:Int) then bif 0<=v9 then(bif !((cI v7 v9 0)=v0)then some false else(gR n v2 v3 v4 v5 (cI v7 v9 0) (cI v7 v9 1) (cI v7 v9 2) (cI v7 v9 3) (cI v7 v9 4) (cB v7 v9 5) (cL v7 v9 6)).bind fun y10=>
 (bif(!y10)then some false else(bif 0<v9 then bif(-9223372036854775808<=(v9-1))&&((v9-1)<=9223372036854775807)then bif 0<=(v9-1) then bif (v9-1)<(v7.length:Int) then(bif (cI v7 v9 4)<(cI v7 (v9-1) 4) then some false else bif(-9223372036854775808<=(v9+1))&&((v9+1)<=9223372036854775807)then go0 (v9+1)else none)else none else none else none else bif(-9223372036854775808<=(v9+1))&&((v9+1)<=9223372036854775807)then go0 (v9+1)else none)))else none else some true)
def wO(n:Nat)(v0 v1 v2 v3 v4 v5:Int)(v6 v7:Lv):Option jL:=
 (bif 0<=v0 then(bif !(v0<=99999999)then some false else(bif 0<=v1 then(bif !(v1<=7)then some false else(pH n v6).bind fun y8=>
 (bif(!y8)then some false else(bif 8<(v7.length:Int) then some false else(aa (fun go0 s=>wS n go0 v0 v2 v3 v4 v5 v7 s) n (0:tA)))))else some false))else some false)
def lZ(n:Nat)(v0 v1 v2 v3 v4 v5:Int)(v6 v7:Lv):Option jL:=wO n v0 v1 v2 v3 v4 v5 v6 v7
def ref17_Valid_t:FnT:=⟨[(true,[.int,.int,.int,.int,.int,.int,tSc,(.sl (.cons .int (.cons .int (.cons .int (.cons .int (.cons .int (.cons .bool (.cons tSc .nil))))))))])],.b,fun n (s:Int×Int×Int×Int×Int×Int×Lv×Lv)=>lZ n s.1 s.2.1 s.2.2.1 s.2.2.2.1 s.2.2.2.2.1 s.2.2.2.2.2.1 s.2.2.2.2.2.2.1 s.2.2.2.2.2.2.2⟩
theorem E2:ref17_Valid_t.ok Tryz.prog 154:=FnT.ok_of (cfg:=⟨[((154,4,1),.inv [(.tmp 3 .int)])],aH,[],aG⟩) av rd aX (fun s fn hf=>by rw[Tryz.func154]at hf;cases hf;kernel_rfl) (fun n s=>by kernel_rfl)
def ref17_Valid_T:Tab:=(154,ref17_Valid_t)::merge_With_T
theorem o9:ref17_Valid_T.ok Tryz.prog:=Tab.ok_cons E2 rd
abbrev aK:=Lv
abbrev dA:=Lv×Int
abbrev bj:=Int×Lv
def mV(n:Nat)(go0:dA->Option aK)(go1:dA->Option aK)(v9:Int)(v10 v12:Lv)(v13:Int):Option aK:=
 (bif v13<(v10.length:Int) then bif 0<=v13 then(bif (cI v10 v13 0)=4 then bif (((v12.length:Int)+1)*24)<=140737488355328 then bif(-9223372036854775808<=(v13+1))&&((v13+1)<=9223372036854775807)then go1 ((v12++[[(AV.int (cI v10 v13 1)),(AV.int v9),(AV.bool (decide ((cI v10 v13 0)=8)))]]),(v13+1))else none else none else(bif (cI v10 v13 0)=8 then bif (((v12.length:Int)+1)*24)<=140737488355328 then bif(-9223372036854775808<=(v13+1))&&((v13+1)<=9223372036854775807)then go1 ((v12++[[(AV.int (cI v10 v13 1)),(AV.int v9),(AV.bool (decide ((cI v10 v13 0)=8)))]]),(v13+1))else none else none else bif(-9223372036854775808<=(v13+1))&&((v13+1)<=9223372036854775807)then go1 (v12,(v13+1))else none))else none else bif(-9223372036854775808<=(v9+1))&&((v9+1)<=9223372036854775807)then go0 (v12,(v9+1))else none)
def bU(n:Nat)(go0:bj->Option aK)(go1:bj->Option aK)(v10 v12:Int)(v13:Lv):Option aK:=
 (bif 0<v12 then bif 0<=v12 then bif v12<(v13.length:Int) then bif(-9223372036854775808<=(v12-1))&&((v12-1)<=9223372036854775807)then bif 0<=(v12-1) then bif (v12-1)<(v13.length:Int) then(bif !((cI v13 v12 0)=(cI v13 (v12-1) 0))then(bif (cI v13 v12 0)<(cI v13 (v12-1) 0) then go1 ((v12-1),(List.modify (List.modify (List.modify (List.modify (List.modify (List.modify v13 (v12).toNat (fun r=>r.set 0 (AV.int (cI v13 (v12-1) 0)))) (v12).toNat (fun r=>r.set 1 (AV.int (cI v13 (v12-1) 1)))) (v12).toNat (fun r=>r.set 2 (AV.bool (cB v13 (v12-1) 2)))) ((v12-1)).toNat (fun r=>r.set 0 (AV.int (cI v13 v12 0)))) ((v12-1)).toNat (fun r=>r.set 1 (AV.int (cI v13 v12 1)))) ((v12-1)).toNat (fun r=>r.set 2 (AV.bool (cB v13 v12 2)))))else bif(-9223372036854775808<=(v10+1))&&((v10+1)<=9223372036854775807)then go0 ((v10+1),v13)else none)else(bif !((cI v13 v12 1)=(cI v13 (v12-1) 1))then(bif (cI v13 v12 1)<(cI v13 (v12-1) 1) then go1 ((v12-1),(List.modify (List.modify (List.modify (List.modify (List.modify (List.modify v13 (v12).toNat (fun r=>r.set 0 (AV.int (cI v13 (v12-1) 0)))) (v12).toNat (fun r=>r.set 1 (AV.int (cI v13 (v12-1) 1)))) (v12).toNat (fun r=>r.set 2 (AV.bool (cB v13 (v12-1) 2)))) ((v12-1)).toNat (fun r=>r.set 0 (AV.int (cI v13 v12 0)))) ((v12-1)).toNat (fun r=>r.set 1 (AV.int (cI v13 v12 1)))) ((v12-1)).toNat (fun r=>r.set 2 (AV.bool (cB v13 v12 2)))))else bif(-9223372036854775808<=(v10+1))&&((v10+1)<=9223372036854775807)then go0 ((v10+1),v13)else none)else(bif(!(cB v13 v12 2))then(bif(cB v13 (v12-1) 2)then go1 ((v12-1),(List.modify (List.modify (List.modify (List.modify (List.modify (List.modify v13 (v12).toNat (fun r=>r.set 0 (AV.int (cI v13 (v12-1) 0)))) (v12).toNat (fun r=>r.set 1 (AV.int (cI v13 (v12-1) 1)))) (v12).toNat (fun r=>r.set 2 (AV.bool (cB v13 (v12-1) 2)))) ((v12-1)).toNat (fun r=>r.set 0 (AV.int (cI v13 v12 0)))) ((v12-1)).toNat (fun r=>r.set 1 (AV.int (cI v13 v12 1)))) ((v12-1)).toNat (fun r=>r.set 2 (AV.bool (cB v13 v12 2)))))else bif(-9223372036854775808<=(v10+1))&&((v10+1)<=9223372036854775807)then go0 ((v10+1),v13)else none)else bif(-9223372036854775808<=(v10+1))&&((v10+1)<=9223372036854775807)then go0 ((v10+1),v13)else none)))else none else none else none else none else none else bif(-9223372036854775808<=(v10+1))&&((v10+1)<=9223372036854775807)then go0 ((v10+1),v13)else none)
def iE(n:Nat)(go0:bj->Option aK)(v10:Int)(v11:Lv):Option aK:=
 (bif v10<(v11.length:Int) then(aa (fun go1 s=>bU n go0 go1 v10 s.1 s.2) n ((v10,v11):bj))else some v11)
def ml(n:Nat)(go0:dA->Option aK)(v2 v3 v4 v5:Int)(v7 v8:Lv)(v9:Int):Option aK:=
 (bif v9<(v7.length:Int) then bif 0<=v9 then(iW n v2 v3 v4 v5 (cI v7 v9 0) (cI v7 v9 1) (cI v7 v9 2) (cI v7 v9 3) (cI v7 v9 4) (cB v7 v9 5) (cL v7 v9 6)).bind fun y10=>
 (aa (fun go1 s=>mV n go0 go1 v9 y10.1 s.1 s.2) n ((v8,0):dA))else none else(aa (fun go0 s=>iE n go0 s.1 s.2) n ((1,v8):bj)))
def mU(n:Nat)(v2 v3 v4 v5:Int)(v7:Lv):Option aK:=
 (aa (fun go0 s=>ml n go0 v2 v3 v4 v5 v7 s.1 s.2) n ((([]:Lv),0):dA))
def gm(n:Nat)(v0 v1 v2 v3 v4 v5:Int)(v6 v7:Lv):Option aK:=mU n v2 v3 v4 v5 v7
def ref17_happenings_t:FnT:=⟨[(true,[.int,.int,.int,.int,.int,.int,tSc,(.sl (.cons .int (.cons .int (.cons .int (.cons .int (.cons .int (.cons .bool (.cons tSc .nil))))))))])],(.row 261 (.cons .int (.cons .int (.cons .bool .nil)))),fun n (s:Int×Int×Int×Int×Int×Int×Lv×Lv)=>gm n s.1 s.2.1 s.2.2.1 s.2.2.2.1 s.2.2.2.2.1 s.2.2.2.2.2.1 s.2.2.2.2.2.2.1 s.2.2.2.2.2.2.2⟩
theorem xw:ref17_happenings_t.ok Tryz.prog 189:=FnT.ok_of (cfg:=⟨[((189,3,1),.inv [(.tmprow 3 261 (.cons .int (.cons .int (.cons .bool .nil)))),(.tmp 4 .int)]),((189,7,4),.inv [(.tmprow 3 261 (.cons .int (.cons .int (.cons .bool .nil)))),(.tmp 7 .int)]),((189,12,3),.inv [(.tmp 8 .int),(.inrow 1 261 (.cons .int (.cons .int (.cons .bool .nil))))]),((189,15,5),.inv [(.tmp 9 .int),(.inrow 1 261 (.cons .int (.cons .int (.cons .bool .nil))))])],aH,[],aG⟩) av o9 aX (fun s fn hf=>by rw[Tryz.func189]at hf;cases hf;kernel_rfl) (fun n s=>by kernel_rfl)
def ref17_happenings_T:Tab:=(189,ref17_happenings_t)::ref17_Valid_T
theorem jZ:ref17_happenings_T.ok Tryz.prog:=Tab.ok_cons xw o9
abbrev jz:=Int
abbrev sP:=Int
def jA(n:Nat)(go0:sP->Option jz)(v0:Lv)(v1 v2:Int):Option jz:=
 (bif v2<(v0.length:Int) then bif 0<=v2 then(bif (cI v0 v2 0)=v1 then some v2 else bif(-9223372036854775808<=(v2+1))&&((v2+1)<=9223372036854775807)then go0 (v2+1)else none)else none else some (-1))
def nb(n:Nat)(v0:Lv)(v1:Int):Option jz:=
 (aa (fun go0 s=>jA n go0 v0 v1 s) n (0:sP))
def eB(n:Nat)(v0:Lv)(v1:Int):Option jz:=nb n v0 v1
def ref17_place_t:FnT:=⟨[(false,[tSa]),(false,[.int])],.i,fun n (s:Lv×Int)=>eB n s.1 s.2⟩
theorem Fj:ref17_place_t.ok Tryz.prog 190:=FnT.ok_of (cfg:=⟨[((190,2,0),.inv [(.tmp 5 .int)])],aH,[],aG⟩) av jZ aX (fun s fn hf=>by rw[Tryz.func190]at hf;cases hf;kernel_rfl) (fun n s=>by kernel_rfl)
def ref17_place_T:Tab:=(190,ref17_place_t)::ref17_happenings_T
theorem pL:ref17_place_T.ok Tryz.prog:=Tab.ok_cons Fj jZ
abbrev cd:=Lv×Lv
abbrev fP:=Lv×Lv×Int
abbrev pn:=Lv×Lv
def sw(n:Nat)(go0:fP->Option cd)(go1:pn->Option cd)(v9:Lv)(v12 v13:Int)(v14 v15:Lv):Option cd:=
 bif(-9223372036854775808<=(v13+1))&&((v13+1)<=9223372036854775807)then(bif (v13+1)<(v15.length:Int) then bif(-9223372036854775808<=((v15.length:Int)-1))&&(((v15.length:Int)-1)<=9223372036854775807)then bif 0<=((v15.length:Int)-1) then bif ((v15.length:Int)-1)<(v15.length:Int) then bif (((v14.length:Int)+1)*24)<=140737488355328 then bif ((v15.length:Int)-1)<=(v15.length:Int) then go1 ((v14++[[(AV.int (cI v9 v12 0)),(AV.int (cI v15 ((v15.length:Int)-1) 0)),(AV.int 4)]]),(List.take (((v15.length:Int)-1)).toNat v15))else none else none else none else none else none else bif (((v14.length:Int)+1)*24)<=140737488355328 then bif 0<=v13 then bif v13<=(v15.length:Int) then bif (((List.take (v13).toNat v15).length:Int)*8)<=140737488355328 then bif(-9223372036854775808<=(v12+1))&&((v12+1)<=9223372036854775807)then go0 ((List.take (v13).toNat v15),(v14++[[(AV.int (cI v9 v12 0)),(AV.int (cI v9 v12 1)),(AV.int 3)]]),(v12+1))else none else none else none else none else none)else none
def BV(n:Nat)(go0:fP->Option cd)(v1:Int)(v6 v7 v9 v10 v11:Lv)(v12:Int):Option cd:=
 (bif(!(cB v9 v12 2))then(dq n v6 (af (cI v9 v12 0) 10000000)).bind fun y13=>
 (bif (v10.length:Int)=0 then(bif v1=(cI v7 (cI v9 v12 1) 1) then(bif y13.1=1 then(bif y13.2.1=(cI v7 (cI v9 v12 1) 3) then bif (((v10.length:Int)+1)*8)<=140737488355328 then bif (((v11.length:Int)+1)*24)<=140737488355328 then bif(-9223372036854775808<=(v12+1))&&((v12+1)<=9223372036854775807)then go0 ((v10++[[(AV.int (cI v9 v12 1))]]),(v11++[[(AV.int (cI v9 v12 0)),(AV.int (cI v9 v12 1)),(AV.int 1)]]),(v12+1))else none else none else none else bif (((v11.length:Int)+1)*24)<=140737488355328 then bif(-9223372036854775808<=(v12+1))&&((v12+1)<=9223372036854775807)then go0 (v10,(v11++[[(AV.int (cI v9 v12 0)),(AV.int (cI v9 v12 1)),(AV.int 2)]]),(v12+1))else none else none)else bif (((v11.length:Int)+1)*24)<=140737488355328 then bif(-9223372036854775808<=(v12+1))&&((v12+1)<=9223372036854775807)then go0 (v10,(v11++[[(AV.int (cI v9 v12 0)),(AV.int (cI v9 v12 1)),(AV.int 2)]]),(v12+1))else none else none)else bif (((v11.length:Int)+1)*24)<=140737488355328 then bif(-9223372036854775808<=(v12+1))&&((v12+1)<=9223372036854775807)then go0 (v10,(v11++[[(AV.int (cI v9 v12 0)),(AV.int (cI v9 v12 1)),(AV.int 2)]]),(v12+1))else none else none)else bif(-9223372036854775808<=((v10.length:Int)-1))&&(((v10.length:Int)-1)<=9223372036854775807)then bif 0<=((v10.length:Int)-1) then bif ((v10.length:Int)-1)<(v10.length:Int) then bif 0<=(cI v10 ((v10.length:Int)-1) 0) then bif (cI v10 ((v10.length:Int)-1) 0)<(v7.length:Int) then(bif (cI v7 (cI v10 ((v10.length:Int)-1) 0) 2)=(cI v7 (cI v9 v12 1) 1) then(bif y13.1=1 then(bif y13.2.1=(cI v7 (cI v9 v12 1) 3) then bif (((v10.length:Int)+1)*8)<=140737488355328 then bif (((v11.length:Int)+1)*24)<=140737488355328 then bif(-9223372036854775808<=(v12+1))&&((v12+1)<=9223372036854775807)then go0 ((v10++[[(AV.int (cI v9 v12 1))]]),(v11++[[(AV.int (cI v9 v12 0)),(AV.int (cI v9 v12 1)),(AV.int 1)]]),(v12+1))else none else none else none else bif (((v11.length:Int)+1)*24)<=140737488355328 then bif(-9223372036854775808<=(v12+1))&&((v12+1)<=9223372036854775807)then go0 (v10,(v11++[[(AV.int (cI v9 v12 0)),(AV.int (cI v9 v12 1)),(AV.int 2)]]),(v12+1))else none else none)else bif (((v11.length:Int)+1)*24)<=140737488355328 then bif(-9223372036854775808<=(v12+1))&&((v12+1)<=9223372036854775807)then go0 (v10,(v11++[[(AV.int (cI v9 v12 0)),(AV.int (cI v9 v12 1)),(AV.int 2)]]),(v12+1))else none else none)else bif (((v11.length:Int)+1)*24)<=140737488355328 then bif(-9223372036854775808<=(v12+1))&&((v12+1)<=9223372036854775807)then go0 (v10,(v11++[[(AV.int (cI v9 v12 0)),(AV.int (cI v9 v12 1)),(AV.int 2)]]),(v12+1))else none else none)else none else none else none else none else none)else(eB n v10 (cI v9 v12 1)).bind fun y13=>
 (bif y13<0 then bif (((v11.length:Int)+1)*24)<=140737488355328 then bif(-9223372036854775808<=(v12+1))&&((v12+1)<=9223372036854775807)then go0 (v10,(v11++[[(AV.int (cI v9 v12 0)),(AV.int (cI v9 v12 1)),(AV.int 5)]]),(v12+1))else none else none else(aa (fun go1 s=>sw n go0 go1 v9 v12 y13 s.1 s.2) n ((v11,v10):pn))))
def BX(n:Nat)(go0:fP->Option cd)(v1:Int)(v6 v7:Lv)(v8:Int)(v9 v10 v11:Lv)(v12:Int):Option cd:=
 (bif (cI v9 v12 0)<=v8 then bif 0<=(cI v9 v12 1) then bif (cI v9 v12 1)<(v7.length:Int) then BV n go0 v1 v6 v7 v9 v10 v11 v12 else none else none else some (v11,v10))
def Bn(n:Nat)(go0:fP->Option cd)(v1:Int)(v6 v7:Lv)(v8:Int)(v9 v10 v11:Lv)(v12:Int):Option cd:=
 (bif v12<(v9.length:Int) then bif 0<=v12 then BX n go0 v1 v6 v7 v8 v9 v10 v11 v12 else none else some (v11,v10))
def BT(n:Nat)(v0 v1 v2 v3 v4 v5:Int)(v6 v7:Lv)(v8:Int):Option cd:=
 (gm n v0 v1 v2 v3 v4 v5 v6 v7).bind fun y9=>
 (aa (fun go0 s=>Bn n go0 v1 v6 v7 v8 y9 s.1 s.2.1 s.2.2) n ((([]:Lv),([]:Lv),0):fP))
def rc(n:Nat)(v0 v1 v2 v3 v4 v5:Int)(v6 v7:Lv)(v8:Int):Option cd:=BT n v0 v1 v2 v3 v4 v5 v6 v7 v8
def ref17_run_t:FnT:=⟨[(true,[.int,.int,.int,.int,.int,.int,tSc,(.sl (.cons .int (.cons .int (.cons .int (.cons .int (.cons .int (.cons .bool (.cons tSc .nil))))))))]),(false,[.int])],(.tup (.cons (.row 179 (.cons .int (.cons .int (.cons .int .nil)))) (.cons (.row 3 (.cons .int .nil)) .nil))),fun n (s:Int×Int×Int×Int×Int×Int×Lv×Lv×Int)=>rc n s.1 s.2.1 s.2.2.1 s.2.2.2.1 s.2.2.2.2.1 s.2.2.2.2.2.1 s.2.2.2.2.2.2.1 s.2.2.2.2.2.2.2.1 s.2.2.2.2.2.2.2.2⟩
theorem Jk:ref17_run_t.ok Tryz.prog 156:=FnT.ok_of (cfg:=⟨[((156,5,2),.inv [(.tmprow 7 3 (.cons .int .nil)),(.tmprow 6 179 (.cons .int (.cons .int (.cons .int .nil)))),(.tmp 9 .int)]),((156,18,9),.inv [(.tmprow 6 179 (.cons .int (.cons .int (.cons .int .nil)))),(.tmprow 7 3 (.cons .int .nil))])],aH,[(156,20)],aG⟩) av pL aX (fun s fn hf=>by rw[Tryz.func156]at hf;cases hf;kernel_rfl) (fun n s=>by kernel_rfl)
def ref17_run_T:Tab:=(156,ref17_run_t)::ref17_place_T
theorem tt:ref17_run_T.ok Tryz.prog:=Tab.ok_cons Jk pL
abbrev Dy:=Int×Lv×Int
def DW(n:Nat)(v0 v1 v2 v3 v4 v5:Int)(v6 v7:Lv)(v8:Int):Option Dy:=
 (lZ n v0 v1 v2 v3 v4 v5 v6 v7).bind fun y9=>
 (bif(!y9)then some (0,([]:Lv),170)else(bif 0<=v8 then(bif !(v8<=20000000)then some (0,([]:Lv),170)else(rc n v0 v1 v2 v3 v4 v5 v6 v7 v8).bind fun y10=>
 (bif (y10.2.length:Int)=0 then some (v1,y10.2,0)else bif(-9223372036854775808<=((y10.2.length:Int)-1))&&(((y10.2.length:Int)-1)<=9223372036854775807)then bif 0<=((y10.2.length:Int)-1) then bif ((y10.2.length:Int)-1)<(y10.2.length:Int) then bif 0<=(cI y10.2 ((y10.2.length:Int)-1) 0) then bif (cI y10.2 ((y10.2.length:Int)-1) 0)<(v7.length:Int) then some ((cI v7 (cI y10.2 ((y10.2.length:Int)-1) 0) 2),y10.2,0)else none else none else none else none else none))else some (0,([]:Lv),170)))
def ve(n:Nat)(v0 v1 v2 v3 v4 v5:Int)(v6 v7:Lv)(v8:Int):Option Dy:=DW n v0 v1 v2 v3 v4 v5 v6 v7 v8
def ref17_At_t:FnT:=⟨[(true,[.int,.int,.int,.int,.int,.int,tSc,(.sl (.cons .int (.cons .int (.cons .int (.cons .int (.cons .int (.cons .bool (.cons tSc .nil))))))))]),(false,[.int])],(.tup (.cons .i (.cons (.row 3 (.cons .int .nil)) (.cons .i .nil)))),fun n (s:Int×Int×Int×Int×Int×Int×Lv×Lv×Int)=>ve n s.1 s.2.1 s.2.2.1 s.2.2.2.1 s.2.2.2.2.1 s.2.2.2.2.2.1 s.2.2.2.2.2.2.1 s.2.2.2.2.2.2.2.1 s.2.2.2.2.2.2.2.2⟩
theorem Ks:ref17_At_t.ok Tryz.prog 111:=FnT.ok_of (cfg:=⟨[],aH,[],aG⟩) av tt aX (fun s fn hf=>by rw[Tryz.func111]at hf;cases hf;kernel_rfl) (fun n s=>by kernel_rfl)
def ref17_At_T:Tab:=(111,ref17_At_t)::ref17_run_T
theorem vR:ref17_At_T.ok Tryz.prog:=Tab.ok_cons Ks tt
abbrev gQ:=Int×Int×Lv×Lv×Lv×Int×Int
abbrev oU:=Int×Int×Int×Lv×Lv×Lv
abbrev As:=Int
def sr(n:Nat)(go0:oU->Option gQ)(v5:Lv)(v13 v14 v15:Int)(v16 v17 v18:Lv):Option gQ:=
 (bif v13<(v5.length:Int) then bif 0<=v13 then(lc n v14 v15 v16 v17 v18 (cI v5 v13 0) (cI v5 v13 1) (cI v5 v13 2) (cI v5 v13 3) (cI v5 v13 4) (cI v5 v13 5) (cI v5 v13 6) (cI v5 v13 7)).bind fun y19=>
 (bif !(y19.2.2.2.2.2=0)then some (0,0,([]:Lv),([]:Lv),([]:Lv),v13,420)else bif(-9223372036854775808<=(v13+1))&&((v13+1)<=9223372036854775807)then go0 ((v13+1),y19.1,y19.2.1,y19.2.2.1,y19.2.2.2.1,y19.2.2.2.2.1)else none)else none else some (v14,v15,v16,v17,v18,(v5.length:Int),0))
def BQ(n:Nat)(go0:As->Option gQ)(v0 v1:Int)(v2 v3 v4 v5:Lv)(v7:Int):Option gQ:=
 (bif v7<(v5.length:Int) then bif 0<=v7 then bif(-9223372036854775808<=(v7-1))&&((v7-1)<=9223372036854775807)then bif 0<=(v7-1) then bif (v7-1)<(v5.length:Int) then(bif (cI v5 v7 1)<(cI v5 (v7-1) 1) then some (0,0,([]:Lv),([]:Lv),([]:Lv),0,420)else bif(-9223372036854775808<=(v7+1))&&((v7+1)<=9223372036854775807)then go0 (v7+1)else none)else none else none else none else none else(gz n v0 v1 v2 v3 v4).bind fun y8=>
 (aa (fun go0 s=>sr n go0 v5 s.1 s.2.1 s.2.2.1 s.2.2.2.1 s.2.2.2.2.1 s.2.2.2.2.2) n ((0,y8.1,y8.2.1,y8.2.2.1,y8.2.2.2.1,y8.2.2.2.2):oU)))
def Bi(n:Nat)(v0 v1:Int)(v2 v3 v4 v5:Lv):Option gQ:=
 (dN n v0 v1 v2 v3 v4).bind fun y6=>
 (bif(!y6)then some (0,0,([]:Lv),([]:Lv),([]:Lv),0,420)else(bif 20<(v5.length:Int) then some (0,0,([]:Lv),([]:Lv),([]:Lv),0,420)else(aa (fun go0 s=>BQ n go0 v0 v1 v2 v3 v4 v5 s) n (1:As))))
def mm(n:Nat)(v0 v1:Int)(v2 v3 v4 v5:Lv):Option gQ:=Bi n v0 v1 v2 v3 v4 v5
def ref42_Run_t:FnT:=⟨[(true,[.int,.int,tSc,tSa,tSa]),(false,[tSh])],(.tup (.cons (.agg (.cons .i (.cons .i (.cons (.row 116 (.cons .int (.cons .int (.cons .int .nil)))) (.cons (.row 3 (.cons .int .nil)) (.cons (.row 3 (.cons .int .nil)) .nil)))))) (.cons .i (.cons .i .nil)))),fun n (s:Int×Int×Lv×Lv×Lv×Lv)=>mm n s.1 s.2.1 s.2.2.1 s.2.2.2.1 s.2.2.2.2.1 s.2.2.2.2.2⟩
theorem Jh:ref42_Run_t.ok Tryz.prog 22:=FnT.ok_of (cfg:=⟨[((22,4,2),.inv [(.tmp 7 .int)]),((22,10,8),.inv [(.tmp 9 .int),(.cell 6 0 .int),(.cell 6 1 .int),(.cellrow 6 2 116 (.cons .int (.cons .int (.cons .int .nil)))),(.cellrow 6 3 3 (.cons .int .nil)),(.cellrow 6 4 3 (.cons .int .nil))])],aH,[],aG⟩) av vR aX (fun s fn hf=>by rw[Tryz.func22]at hf;cases hf;kernel_rfl) (fun n s=>by kernel_rfl)
def ref42_Run_T:Tab:=(22,ref42_Run_t)::ref17_At_T
theorem uk:ref42_Run_T.ok Tryz.prog:=Tab.ok_cons Jh vR
abbrev jH:=Lv
abbrev tZ:=Int
def xj(n:Nat)(go0:tZ->Option jH)(v0:Lv)(v1 v2:Int):Option jH:=
 (bif v2<(v0.length:Int) then bif 0<=v2 then(bif (cI v0 v2 1)<=v1 then bif(-9223372036854775808<=(v2+1))&&((v2+1)<=9223372036854775807)then go0 (v2+1)else none else bif v2<=(v0.length:Int) then some (List.take (v2).toNat v0)else none)else none else bif 0<=v2 then bif v2<=(v0.length:Int) then some (List.take (v2).toNat v0)else none else none)
def wz(n:Nat)(v0:Lv)(v1:Int):Option jH:=
 (aa (fun go0 s=>xj n go0 v0 v1 s) n (0:tZ))
def jt(n:Nat)(v0:Lv)(v1:Int):Option jH:=wz n v0 v1
def ref42_Until_t:FnT:=⟨[(false,[tSh]),(false,[.int])],(.row 1000041 (.cons .int (.cons .int (.cons .int (.cons .int (.cons .int (.cons .int (.cons .int (.cons .int .nil))))))))),fun n (s:Lv×Int)=>jt n s.1 s.2⟩
theorem Fk:ref42_Until_t.ok Tryz.prog 83:=FnT.ok_of (cfg:=⟨[((83,2,0),.inv [(.tmp 5 .int)])],aH,[],aG⟩) av uk aX (fun s fn hf=>by rw[Tryz.func83]at hf;cases hf;kernel_rfl) (fun n s=>by kernel_rfl)
def ref42_Until_T:Tab:=(83,ref42_Until_t)::ref42_Run_T
theorem ph:ref42_Until_T.ok Tryz.prog:=Tab.ok_cons Fk uk
abbrev Dp:=Int×Int×Lv×Lv×Lv×Int
def DX(n:Nat)(v0 v1:Int)(v2 v3 v4 v5:Lv)(v6:Int):Option Dp:=
 (mm n v0 v1 v2 v3 v4 v5).bind fun y7=>
 (bif !(y7.2.2.2.2.2.2=0)then some (0,0,([]:Lv),([]:Lv),([]:Lv),420)else(bif 0<=v6 then(bif !(v6<=20000000)then some (0,0,([]:Lv),([]:Lv),([]:Lv),420)else(jt n v5 v6).bind fun y14=>
 (mm n v0 v1 v2 v3 v4 y14).bind fun y15=>
 some (y15.1,y15.2.1,y15.2.2.1,y15.2.2.2.1,y15.2.2.2.2.1,0))else some (0,0,([]:Lv),([]:Lv),([]:Lv),420)))
def uu(n:Nat)(v0 v1:Int)(v2 v3 v4 v5:Lv)(v6:Int):Option Dp:=DX n v0 v1 v2 v3 v4 v5 v6
def ref42_At_t:FnT:=⟨[(true,[.int,.int,tSc,tSa,tSa]),(false,[tSh]),(false,[.int])],(.tup (.cons (.agg (.cons .i (.cons .i (.cons (.row 116 (.cons .int (.cons .int (.cons .int .nil)))) (.cons (.row 3 (.cons .int .nil)) (.cons (.row 3 (.cons .int .nil)) .nil)))))) (.cons .i .nil))),fun n (s:Int×Int×Lv×Lv×Lv×Lv×Int)=>uu n s.1 s.2.1 s.2.2.1 s.2.2.2.1 s.2.2.2.2.1 s.2.2.2.2.2.1 s.2.2.2.2.2.2⟩
theorem J7:ref42_At_t.ok Tryz.prog 25:=FnT.ok_of (cfg:=⟨[],aH,[],aG⟩) av ph aX (fun s fn hf=>by rw[Tryz.func25]at hf;cases hf;kernel_rfl) (fun n s=>by kernel_rfl)
def ref42_At_T:Tab:=(25,ref42_At_t)::ref42_Until_T
theorem xu:ref42_At_T.ok Tryz.prog:=Tab.ok_cons J7 ph
abbrev fA:=Int×Int
abbrev mW:=Int×Int
def nA(n:Nat)(go0:mW->Option fA)(v7:Int)(v15:Lv)(v16 v17:Int):Option fA:=
 (bif v17<(v15.length:Int) then bif 0<=v17 then(bif !((cI v15 v17 2)=v16)then bif(-9223372036854775808<=(v17+1))&&((v17+1)<=9223372036854775807)then go0 (v16,(v17+1))else none else(bif (cI v15 v17 5)<=v7 then(bif (cI v15 v17 0)=1 then bif(-9223372036854775808<=(v17+1))&&((v17+1)<=9223372036854775807)then go0 ((cI v15 v17 3),(v17+1))else none else(bif (cI v15 v17 0)=2 then(bif v7<(cI v15 v17 6) then bif(-9223372036854775808<=(v17+1))&&((v17+1)<=9223372036854775807)then go0 ((cI v15 v17 3),(v17+1))else none else bif(-9223372036854775808<=(v17+1))&&((v17+1)<=9223372036854775807)then go0 (v16,(v17+1))else none)else(bif (cI v15 v17 0)=3 then(bif v7<(cI v15 v17 6) then bif(-9223372036854775808<=(v17+1))&&((v17+1)<=9223372036854775807)then go0 ((cI v15 v17 3),(v17+1))else none else bif(-9223372036854775808<=(v17+1))&&((v17+1)<=9223372036854775807)then go0 ((cI v15 v17 4),(v17+1))else none)else bif(-9223372036854775808<=(v17+1))&&((v17+1)<=9223372036854775807)then go0 (v16,(v17+1))else none)))else(bif (cI v15 v17 0)=1 then bif(-9223372036854775808<=(v17+1))&&((v17+1)<=9223372036854775807)then go0 ((cI v15 v17 3),(v17+1))else none else(bif (cI v15 v17 0)=2 then bif(-9223372036854775808<=(v17+1))&&((v17+1)<=9223372036854775807)then go0 (v16,(v17+1))else none else(bif (cI v15 v17 0)=3 then bif(-9223372036854775808<=(v17+1))&&((v17+1)<=9223372036854775807)then go0 ((cI v15 v17 4),(v17+1))else none else bif(-9223372036854775808<=(v17+1))&&((v17+1)<=9223372036854775807)then go0 (v16,(v17+1))else none)))))else none else some (v16,0))
def ny(n:Nat)(v0 v1:Int)(v2 v3 v4 v5:Lv)(v6 v7 v8:Int):Option fA:=
 (uu n v0 v1 v2 v3 v4 v5 v8).bind fun y9=>
 (bif !(y9.2.2.2.2.2=0)then some (0,420)else(bif 0<=v6 then(bif !(v6<=7)then some (0,420)else(bif 0<=v7 then(bif !(v7<=99999999)then some (0,420)else(jt n v5 v8).bind fun y15=>
 (aa (fun go0 s=>nA n go0 v7 y15 s.1 s.2) n ((v6,0):mW)))else some (0,420)))else some (0,420)))
def a9(n:Nat)(v0 v1:Int)(v2 v3 v4 v5:Lv)(v6 v7 v8:Int):Option fA:=ny n v0 v1 v2 v3 v4 v5 v6 v7 v8
def ref42_Successor_t:FnT:=⟨[(true,[.int,.int,tSc,tSa,tSa]),(false,[tSh]),(false,[.int]),(false,[.int]),(false,[.int])],(.tup (.cons .i (.cons .i .nil))),fun n (s:Int×Int×Lv×Lv×Lv×Lv×Int×Int×Int)=>a9 n s.1 s.2.1 s.2.2.1 s.2.2.2.1 s.2.2.2.2.1 s.2.2.2.2.2.1 s.2.2.2.2.2.2.1 s.2.2.2.2.2.2.2.1 s.2.2.2.2.2.2.2.2⟩
theorem z9:ref42_Successor_t.ok Tryz.prog 46:=FnT.ok_of (cfg:=⟨[((46,6,6),.inv [(.tmp 2 .int),(.tmp 15 .int)])],aH,[],aG⟩) av xu aX (fun s fn hf=>by rw[Tryz.func46]at hf;cases hf;kernel_rfl) (fun n s=>by kernel_rfl)
def ref42_Successor_T:Tab:=(46,ref42_Successor_t)::ref42_At_T
theorem kx:ref42_Successor_T.ok Tryz.prog:=Tab.ok_cons z9 xu
abbrev vZ:=Int×Int×Int×Int×Int×Bool×Bool
def wd(n:Nat)(v0 v1:Int)(v2 v3 v4 v5:Lv)(v6 v7 v8 v9 v10:Int)(v11:Bool)(v12:Int):Option vZ:=
 (a9 n v0 v1 v2 v3 v4 v5 v7 v6 v12).bind fun y13=>
 (a9 n v0 v1 v2 v3 v4 v5 v8 v6 v12).bind fun y15=>
 (bif !(y13.2=0)then some (0,0,0,0,0,false,false)else(bif !(y15.2=0)then some (0,0,0,0,0,false,false)else(bif y13.1=y15.1 then some (0,0,0,0,0,false,false)else some (v6,y13.1,y15.1,v9,v10,v11,true))))
def cT(n:Nat)(v0 v1:Int)(v2 v3 v4 v5:Lv)(v6 v7 v8 v9 v10:Int)(v11:Bool)(v12:Int):Option vZ:=wd n v0 v1 v2 v3 v4 v5 v6 v7 v8 v9 v10 v11 v12
def ref42_Claim_t:FnT:=⟨[(true,[.int,.int,tSc,tSa,tSa]),(false,[tSh]),(true,[.int,.int,.int,.int,.int,.bool]),(false,[.int])],(.tup (.cons (.agg (.cons .i (.cons .i (.cons .i (.cons .i (.cons .i (.cons .b .nil))))))) (.cons .b .nil))),fun n (s:Int×Int×Lv×Lv×Lv×Lv×Int×Int×Int×Int×Int×Bool×Int)=>cT n s.1 s.2.1 s.2.2.1 s.2.2.2.1 s.2.2.2.2.1 s.2.2.2.2.2.1 s.2.2.2.2.2.2.1 s.2.2.2.2.2.2.2.1 s.2.2.2.2.2.2.2.2.1 s.2.2.2.2.2.2.2.2.2.1 s.2.2.2.2.2.2.2.2.2.2.1 s.2.2.2.2.2.2.2.2.2.2.2.1 s.2.2.2.2.2.2.2.2.2.2.2.2⟩
theorem Fg:ref42_Claim_t.ok Tryz.prog 47:=FnT.ok_of (cfg:=⟨[],aH,[],aG⟩) av kx aX (fun s fn hf=>by rw[Tryz.func47]at hf;cases hf;kernel_rfl) (fun n s=>by kernel_rfl)
def ref42_Claim_T:Tab:=(47,ref42_Claim_t)::ref42_Successor_T
theorem o6:ref42_Claim_T.ok Tryz.prog:=Tab.ok_cons Fg kx
abbrev yi:=Int×Int
def yF(n:Nat)(v0 v1:Int)(v2 v3 v4 v5:Lv)(v6 v7 v8 v9 v10 v11:Int)(v12 v13:Lv)(v14:Int):Option yi:=
 (ve n v6 v7 v8 v9 v10 v11 v12 v13 v14).bind fun y15=>
 (bif !(y15.2.2=0)then some (0,420)else(a9 n v0 v1 v2 v3 v4 v5 y15.1 v6 v14).bind fun y18=>
 some (y18.1,y18.2))
def gq(n:Nat)(v0 v1:Int)(v2 v3 v4 v5:Lv)(v6 v7 v8 v9 v10 v11:Int)(v12 v13:Lv)(v14:Int):Option yi:=yF n v0 v1 v2 v3 v4 v5 v6 v7 v8 v9 v10 v11 v12 v13 v14
def ref42_With_t:FnT:=⟨[(true,[.int,.int,tSc,tSa,tSa]),(false,[tSh]),(true,[.int,.int,.int,.int,.int,.int,tSc,(.sl (.cons .int (.cons .int (.cons .int (.cons .int (.cons .int (.cons .bool (.cons tSc .nil))))))))]),(false,[.int])],(.tup (.cons .i (.cons .i .nil))),fun n (s:Int×Int×Lv×Lv×Lv×Lv×Int×Int×Int×Int×Int×Int×Lv×Lv×Int)=>gq n s.1 s.2.1 s.2.2.1 s.2.2.2.1 s.2.2.2.2.1 s.2.2.2.2.2.1 s.2.2.2.2.2.2.1 s.2.2.2.2.2.2.2.1 s.2.2.2.2.2.2.2.2.1 s.2.2.2.2.2.2.2.2.2.1 s.2.2.2.2.2.2.2.2.2.2.1 s.2.2.2.2.2.2.2.2.2.2.2.1 s.2.2.2.2.2.2.2.2.2.2.2.2.1 s.2.2.2.2.2.2.2.2.2.2.2.2.2.1 s.2.2.2.2.2.2.2.2.2.2.2.2.2.2⟩
theorem Hs:ref42_With_t.ok Tryz.prog 49:=FnT.ok_of (cfg:=⟨[],aH,[],aG⟩) av o6 aX (fun s fn hf=>by rw[Tryz.func49]at hf;cases hf;kernel_rfl) (fun n s=>by kernel_rfl)
def ref42_With_T:Tab:=(49,ref42_With_t)::ref42_Claim_T
theorem qX:ref42_With_T.ok Tryz.prog:=Tab.ok_cons Hs o6
abbrev ki:=Lv
abbrev xa:=Lv×Int
def x9(n:Nat)(go0:xa->Option ki)(v2:Int)(v6:Lv)(v7:Int):Option ki:=
 (dQ n v2 4).bind fun y8=>
 bif(-9223372036854775808<=(39+y8))&&((39+y8)<=9223372036854775807)then(bif v7<(39+y8) then bif(-9223372036854775808<=(2*v7))&&((2*v7)<=9223372036854775807)then bif(-9223372036854775808<=((2*v7)+1))&&(((2*v7)+1)<=9223372036854775807)then bif (((v6.length:Int)+1)*24)<=140737488355328 then bif(-9223372036854775808<=(v7+1))&&((v7+1)<=9223372036854775807)then go0 ((v6++[[(AV.int (2*v7)),(AV.int ((2*v7)+1)),(AV.int 1)]]),(v7+1))else none else none else none else none else some v6)else none
def zQ(n:Nat)(v0:Lv)(v1 v2 v3:Int):Option ki:=
 bif ((v0.length:Int)*24)<=140737488355328 then(bif (v0.length:Int)=0 then some (([]:Lv)++[[(AV.int v2),(AV.int v3),(AV.int 0)]])else(dQ n v3 (v0.length:Int)).bind fun y4=>
 (dQ n v1 6).bind fun y5=>
 (bif y5=0 then bif 0<=y4 then bif y4<(v0.length:Int) then some (List.modify v0 (y4).toNat (fun r=>r.set 0 (AV.int v2)))else none else none else(bif y5=1 then bif 0<=y4 then bif y4<(v0.length:Int) then some (List.modify v0 (y4).toNat (fun r=>r.set 1 (AV.int v2)))else none else none else(bif y5=2 then bif 0<=y4 then bif y4<(v0.length:Int) then some (List.modify v0 (y4).toNat (fun r=>r.set 2 (AV.int v2)))else none else none else(bif y5=3 then bif 0<=y4 then bif y4<(v0.length:Int) then bif (((v0.length:Int)+1)*24)<=140737488355328 then some (v0++[[(AV.int (cI v0 y4 0)),(AV.int (cI v0 y4 1)),(AV.int (cI v0 y4 2))]])else none else none else none else(bif y5=4 then bif 0<=y4 then bif y4<(v0.length:Int) then bif 0<(v0.length:Int) then some (List.modify (List.modify (List.modify (List.modify (List.modify (List.modify v0 ((0:Int)).toNat (fun r=>r.set 0 (AV.int (cI v0 y4 0)))) ((0:Int)).toNat (fun r=>r.set 1 (AV.int (cI v0 y4 1)))) ((0:Int)).toNat (fun r=>r.set 2 (AV.int (cI v0 y4 2)))) (y4).toNat (fun r=>r.set 0 (AV.int (cI v0 0 0)))) (y4).toNat (fun r=>r.set 1 (AV.int (cI v0 0 1)))) (y4).toNat (fun r=>r.set 2 (AV.int (cI v0 0 2))))else none else none else none else(aa (fun go0 s=>x9 n go0 v2 s.1 s.2) n ((([]:Lv),0):xa))))))))else none
def ja(n:Nat)(v0:Lv)(v1 v2 v3:Int):Option ki:=zQ n v0 v1 v2 v3
def ref13_Bent_t:FnT:=⟨[(false,[tSc]),(false,[.int]),(false,[.int]),(false,[.int])],(.row 116 (.cons .int (.cons .int (.cons .int .nil)))),fun n (s:Lv×Int×Int×Int)=>ja n s.1 s.2.1 s.2.2.1 s.2.2.2⟩
theorem HF:ref13_Bent_t.ok Tryz.prog 59:=FnT.ok_of (cfg:=⟨[((59,8,2),.inv [(.tmprow 9 116 (.cons .int (.cons .int (.cons .int .nil)))),(.tmp 11 .int)])],aH,[],aG⟩) av qX aX (fun s fn hf=>by rw[Tryz.func59]at hf;cases hf;kernel_rfl) (fun n s=>by kernel_rfl)
def ref13_Bent_T:Tab:=(59,ref13_Bent_t)::ref42_With_T
theorem sg:ref13_Bent_T.ok Tryz.prog:=Tab.ok_cons HF qX
abbrev fM:=Int×Int×Lv×Lv×Lv×Lv
abbrev gH:=Lv
def iy(n:Nat)(go0:gH->Option fM)(v9 v10:Int)(v11 v12 v13 v15:Lv):Option fM:=
 (bif (v15.length:Int)<21 then bif (((v15.length:Int)+1)*64)<=140737488355328 then go0 (v15++[[(AV.int 4),(AV.int 10000000),(AV.int 0),(AV.int 0),(AV.int 0),(AV.int 0),(AV.int 0),(AV.int 0)]])else none else some (v9,v10,v11,v12,v13,v15))
def Ar(n:Nat)(v5:Lv)(v6 v7 v8 v9 v10:Int)(v11 v12 v13:Lv)(v14:Int):Option fM:=
 (bif 0<(v5.length:Int) then(aN n v8 (v5.length:Int)).bind fun y15=>
 bif 0<=y15 then bif y15<(v5.length:Int) then(bif v14=6 then some (v9,v10,v11,v12,v13,(List.modify v5 (y15).toNat (fun r=>r.set 0 (AV.int v7))))else(bif v14=7 then some (v9,v10,v11,v12,v13,(List.modify v5 (y15).toNat (fun r=>r.set 1 (AV.int v7))))else(bif v14=8 then some (v9,v10,v11,v12,v13,(List.modify v5 (y15).toNat (fun r=>r.set 2 (AV.int v7))))else(bif v14=9 then some (v9,v10,v11,v12,v13,(List.modify v5 (y15).toNat (fun r=>r.set 3 (AV.int v7))))else(bif v14=10 then some (v9,v10,v11,v12,v13,(List.modify v5 (y15).toNat (fun r=>r.set 4 (AV.int v7))))else(bif v14=11 then some (v9,v10,v11,v12,v13,(List.modify v5 (y15).toNat (fun r=>r.set 7 (AV.int v7))))else some (v9,v10,v11,v12,v13,(List.modify v5 (y15).toNat (fun r=>r.set 6 (AV.int v7))))))))))else none else none else(bif v14=0 then some (v7,v10,v11,v12,v13,v5)else(bif v14=1 then some (v9,v7,v11,v12,v13,v5)else(bif v14=2 then(aN n v8 8).bind fun y15=>
 bif 0<=y15 then bif y15<(v12.length:Int) then some (v9,v10,v11,(List.modify v12 (y15).toNat (fun r=>r.set 0 (AV.int v7))),v13,v5)else none else none else(bif v14=3 then(aN n v8 8).bind fun y15=>
 bif 0<=y15 then bif y15<(v13.length:Int) then some (v9,v10,v11,v12,(List.modify v13 (y15).toNat (fun r=>r.set 0 (AV.int v7))),v5)else none else none else(bif v14=4 then bif(-9223372036854775808<=(Int.tdiv v6 13))&&((Int.tdiv v6 13)<=9223372036854775807)then(ja n v11 (Int.tdiv v6 13) v7 v8).bind fun y15=>
 some (v9,v10,y15,v12,v13,v5)else none else(aa (fun go0 s=>iy n go0 v9 v10 v11 v12 v13 s) n (v5:gH))))))))
abbrev JX:= @iy
def zN(n:Nat)(v5:Lv)(v6 v7 v8 v9 v10:Int)(v11 v12 v13:Lv)(v14:Int):Option fM:=
 (bif 6<=v14 then Ar n v5 v6 v7 v8 v9 v10 v11 v12 v13 v14 else(bif v14=0 then some (v7,v10,v11,v12,v13,v5)else(bif v14=1 then some (v9,v7,v11,v12,v13,v5)else(bif v14=2 then(aN n v8 8).bind fun y15=>
 bif 0<=y15 then bif y15<(v12.length:Int) then some (v9,v10,v11,(List.modify v12 (y15).toNat (fun r=>r.set 0 (AV.int v7))),v13,v5)else none else none else(bif v14=3 then(aN n v8 8).bind fun y15=>
 bif 0<=y15 then bif y15<(v13.length:Int) then some (v9,v10,v11,v12,(List.modify v13 (y15).toNat (fun r=>r.set 0 (AV.int v7))),v5)else none else none else(bif v14=4 then bif(-9223372036854775808<=(Int.tdiv v6 13))&&((Int.tdiv v6 13)<=9223372036854775807)then(ja n v11 (Int.tdiv v6 13) v7 v8).bind fun y15=>
 some (v9,v10,y15,v12,v13,v5)else none else(aa (fun go0 s=>JX n go0 v9 v10 v11 v12 v13 s) n (v5:gH))))))))
def yr(n:Nat)(v0 v1:Int)(v2 v3 v4 v5:Lv)(v6 v7 v8:Int):Option fM:=
 (gz n v0 v1 v2 v3 v4).bind fun y9=>
 bif ((v5.length:Int)*64)<=140737488355328 then(aN n v6 13).bind fun y14=>
 zN n v5 v6 v7 v8 y9.1 y9.2.1 y9.2.2.1 y9.2.2.2.1 y9.2.2.2.2 y14 else none
def nX(n:Nat)(v0 v1:Int)(v2 v3 v4 v5:Lv)(v6 v7 v8:Int):Option fM:=yr n v0 v1 v2 v3 v4 v5 v6 v7 v8
def ref42_Bent_t:FnT:=⟨[(true,[.int,.int,tSc,tSa,tSa]),(false,[tSh]),(false,[.int]),(false,[.int]),(false,[.int])],(.tup (.cons (.agg (.cons .i (.cons .i (.cons (.row 116 (.cons .int (.cons .int (.cons .int .nil)))) (.cons (.row 3 (.cons .int .nil)) (.cons (.row 3 (.cons .int .nil)) .nil)))))) (.cons (.row 41 (.cons .int (.cons .int (.cons .int (.cons .int (.cons .int (.cons .int (.cons .int (.cons .int .nil))))))))) .nil))),fun n (s:Int×Int×Lv×Lv×Lv×Lv×Int×Int×Int)=>nX n s.1 s.2.1 s.2.2.1 s.2.2.2.1 s.2.2.2.2.1 s.2.2.2.2.2.1 s.2.2.2.2.2.2.1 s.2.2.2.2.2.2.2.1 s.2.2.2.2.2.2.2.2⟩
theorem Hy:ref42_Bent_t.ok Tryz.prog 14:=FnT.ok_of (cfg:=⟨[((14,22,9),.inv [(.tmprow 13 41 (.cons .int (.cons .int (.cons .int (.cons .int (.cons .int (.cons .int (.cons .int (.cons .int .nil)))))))))])],aH,[],aG⟩) av sg aX (fun s fn hf=>by rw[Tryz.func14]at hf;cases hf;kernel_rfl) (fun n s=>by kernel_rfl)
def ref42_Bent_T:Tab:=(14,ref42_Bent_t)::ref13_Bent_T
theorem Dl:ref42_Bent_T.ok Tryz.prog:=Tab.ok_cons Hy sg
end
open Go.Dial.Blk Go.Dial.Mrg
theorem BZ(n:Nat)(w:Wd)(l:List Ev)(hl:l.length<=1000000)(hn:1000001<n):mm n w.al w.ev (bL w.bl) (iL w.ba) (iL w.le) (evL l)=some (AP (iu w l)):=by
 unfold mm Bi;rw[fe n w (by omega),Option.bind_some]
 refine cBN (fun hv=>?_) (fun h=>noR fun p=>by rw[eJ p.v]at h;cases h)
 have hw:=vB_iff.1 hv;rw[ku];refine cF (fun h20=>noR fun p=>by have:=p.few;omega) (fun h20=>?_)
 have fin:Srt l->(gz n w.al w.ev (bL w.bl) (iL w.ba) (iL w.le)).bind (fun y8=>
   (aa (fun go0 s=>sr n go0 (evL l) s.1 s.2.1 s.2.2.1 s.2.2.2.1 s.2.2.2.2.1 s.2.2.2.2.2) n ((0,y8.1,y8.2.1,y8.2.2.1,y8.2.2.2.1,y8.2.2.2.2):oU)))=some (AP (iu w l)):=fun hs=>by
  rw[oW n w (by have:=hw.few;omega) (by rw[hw.bal];decide) (by rw[hw.lel];decide),Option.bind_some]
  have hE:iu w l=bE w l 0:=by unfold iu;rw[if_pos ⟨hw,by omega,hs⟩]
  rw[hE];refine ar (fun s=>∃(i:Nat) (u:Wd),s=((i:Int),u.al,u.ev,bL u.bl,iL u.ba,iL u.le)/\i<=l.length/\WV u/\bE u (l.drop i) i=bE w l 0) (fun s=>l.length-s.1.toNat) _ ?_ n _ ⟨0,w,rfl,by omega,hw,rfl⟩ (by first|omega|(simp only;omega))
  rintro _ go ⟨i,u,rfl,hi,hu,hE⟩ ih;simp only at ih⊢
  unfold sr;rw[ku];by_cases hlt:i<l.length
  ·obtain⟨e,he⟩:=aD hlt
   obtain⟨g0,g1,g2,g3,g4,g5,g6,g7⟩:=nY he;refine cF (fun _=>gN (by omega) ?_) (fun h=>absurd h (by omega))
   rw[g0,g1,g2,g3,g4,g5,g6,g7,xO n u e (by omega),Option.bind_some]
   rw[kS he,bE]at hE;cases hs:ew u e with
   |none=>
    rw[hs]at hE;rw[<-hE];exact cN (fun h=>absurd h (by show ¬(420:Int)=0;decide)) (fun _=>rfl)
   |some v=>
    rw[hs]at hE;obtain⟨hp,_⟩:=i9 hs;have hv2:WV v:=by rw[(i9 hs).2];exact hp.v2
    refine cN (fun _=>gO (by omega) (by omega) ?_) (fun h=>absurd rfl h)
    exact ih _ ⟨i+1,v,rfl,by omega,hv2,hE⟩ (by first|omega|(simp only;omega))
  ·have hi2:i=l.length:=by omega
   subst hi2;refine cF (fun h=>absurd h (by omega)) (fun _=>?_)
   rw[List.drop_length,bE]at hE;rw[<-hE];rfl
 refine ar (fun s=>∃i:Nat,s=(i:Int)/\1<=i/\i<=l.length+1/\∀(k:Nat) a b,k+1<i->l[k]?=some a->l[k+1]?=some b->a.at_<=b.at_) (fun s=>(l.length+1)-s.toNat) _ ?_ n _ ⟨1,rfl,by omega,by omega,fun k a b hk=>by omega⟩ (by first|omega|(simp only;omega))
 rintro _ go ⟨i,rfl,h1,h2,hs⟩ ih;unfold BQ;rw[ku];refine cF (fun hp=>?_) (fun hp=>?_)
 ·obtain⟨j,rfl⟩:∃j,i=j+1:=⟨i-1,by omega⟩
  obtain⟨b,hb⟩:=aD (l:=l) (i:=j+1) (by omega)
  obtain⟨a,hA⟩:=aD (l:=l) (i:=j) (by omega)
  have gb:=(nY hb).2.1;have ga:=(nY hA).2.1;have e1:((j+1:Nat):Int)-1=(j:Int):=by omega
  rw[e1,gb,ga];refine gN (by omega) (gO (by omega) (by omega) (gN (by omega) (gN (by omega) (cF (fun hlt=>noR fun p=>?_) (fun hge=>gO (by omega) (by omega) ?_)))))
  ·have:=(tv l).1 p.srt j a b hA hb;omega
  ·refine ih _ ⟨j+2,by omega,by omega,by omega,fun k x y hk hx hy=>?_⟩ (by omega)
   by_cases hkj:k=j
   ·subst hkj;rw[hA]at hx;rw[hb]at hy;cases hx;cases hy;omega
   ·exact hs k x y (by omega) hx hy
 ·exact fin ((tv l).2 fun k a b h3 h4=>hs k a b (by have:=(List.getElem?_eq_some_iff.1 h4).1;omega) h3 h4)
theorem vE(n:Nat)(l:List Ev)(hl:l.length<=1000000)(t:Int)(hn:1000001<n):jt n (evL l) t=some (evL (untl l t)):=by
 unfold jt wz;refine ar (fun s=>∃i:Nat,s=(i:Int)/\i<=l.length/\untl l t=l.take i++untl (l.drop i) t) (fun s=>l.length-s.toNat) _ ?_ n _ ⟨0,rfl,by omega,rfl⟩ (by first|omega|(simp only;omega))
 rintro _ go ⟨i,rfl,hi,hE⟩ ih;unfold xj;rw[ku];have htk:untl l t=l.take i->some (List.take (i:Int).toNat (evL l))=some (evL (untl l t)):=fun h=>by rw[h,evL,evL,List.map_take,Int.toNat_natCast]
 refine cF (fun hlt=>gN (by omega) ?_) (fun hlt=>gN (by omega) (gN (by omega) (htk ?_)))
 ·obtain⟨e,he⟩:=aD (l:=l) (i:=i) (by omega)
  have g1:=(nY he).2.1;rw[kS he]at hE;rw[g1];refine cF (fun ht=>gO (by omega) (by omega) (ih _ ⟨i+1,rfl,by omega,?_⟩ (by first|omega|(simp only;omega)))) (fun ht=>gN (by omega) (htk ?_))
  ·rw[hE,IN ht,bV he,List.append_assoc];rfl
  ·rw[hE,Ik (by omega),List.append_nil]
 ·rw[hE,List.drop_of_length_le (by omega)]
  show _++[]=_
  rw[List.append_nil]
theorem Lr(n:Nat)(w:Wd)(l:List Ev)(hl:l.length<=1000000)(t:Int)(hn:1000001<n):uu n w.al w.ev (bL w.bl) (iL w.ba) (iL w.le) (evL l) t=some (lw (atW w l t)):=by
 unfold uu DX;rw[BZ n w l hl hn,Option.bind_some];cases hr:iu w l with
 | mk o j=>
  cases o with
  |none=>
   refine cN (fun h=>absurd h (by show ¬(420:Int)=0;decide)) (fun _=>noA fun p=>?_)
   rw[Aq p.g]at hr;cases hr
  |some v=>
   have hg:=FS hr;refine cN (fun _=>cF (fun t0=>cN (fun t1=>?_) (fun h=>noA fun p=>h p.t1)) (fun h=>noA fun p=>h p.t0)) (fun h=>absurd rfl h)
   have e1:atW w l t=some (dY w (untl l t)):=if_pos ⟨hg,t0,t1⟩
   have hul:=(hg.untl t).few;rw[vE n l hl t hn,Option.bind_some,BZ n w _ (by omega) hn,Option.bind_some,Aq (hg.untl t),e1];rfl
end Go.Proofs.YtgckmifmjiklmaaGreat
namespace Go.Dial.Clm
structure Rl where
 a:Int
 c:Int
 s:Int
 r:Int
deriving DecidableEq
structure Cl where
 n:Int
 f:Int
 t:Int
 h:Int
 a:Int
 b:Bool
deriving DecidableEq
structure Ce where
 k:Int
 a:Int
 r:Int
deriving DecidableEq
structure Cs where
 s:Int
 f:Int
 n:Int
deriving DecidableEq
def RlV(r:Rl):Prop:=1<=r.a/\r.a<=1000000/\1<=r.c/\r.c<=1000000/\1<=r.s/\r.s<=1000000/\1<=r.r/\r.r<=1000000
instance (r:Rl):Decidable (RlV r):=by unfold RlV;infer_instance
def ClV(c:Cl):Prop:=0<=c.n/\c.n<=99999999/\0<=c.f/\c.f<=7/\0<=c.t/\c.t<=7/\c.f≠c.t/\0<=c.h/\c.h<=63/\0<=c.a/\c.a<=10000000
instance (c:Cl):Decidable (ClV c):=by unfold ClV;infer_instance
def CeV(last:Int)(e:Ce):Prop:=1<=e.k/\e.k<=6/\last<=e.a/\e.a<=20000000/\(e.k=2\/e.k=6->1<=e.r/\e.r<=9)/\(¬(e.k=2\/e.k=6)->e.r=0)
instance (last:Int) (e:Ce):Decidable (CeV last e):=by unfold CeV;infer_instance
def EvV:Int->List Ce->Prop
 |_,[]=>True
 |last,e::es=>CeV last e/\EvV e.a es
instance EvV.dec:(last:Int)->(es:List Ce)->Decidable (EvV last es)
 |_,[]=>.isTrue trivial
 |last,e::es=>by
  have:=EvV.dec e.a es
  unfold EvV;infer_instance
def cD(r:Rl)(c:Cl)(es:List Ce):Prop:=RlV r/\ClV c/\es.length<=20/\EvV c.a es
instance (r:Rl) (c:Cl) (es:List Ce):Decidable (cD r c es):=by unfold cD;infer_instance
def dur(r:Rl)(s:Int):Int:=if s=1 then r.a else if s=2 then r.s else if s=3 then r.c else r.r
def st(r:Rl)(s f:Int):Cs:=⟨s,f,if 1<=s/\s<=4 then f+dur r s else -1⟩
def aft(s:Int):Int:=if s=3 then 4 else if s=4 then 5 else 3
def bec(b:Bool)(s:Int)(e:Ce):Int:=
 if e.k=1 then(if s=1 then 3 else -1)else if e.k=2 then(if s=1 then(if e.r=1 then(if b then -1 else 6)else 2)else -1)else if e.k=3 then(if s=2 then 3 else -1)else if e.k=4 then(if s=2 then 6 else -1)else if e.k=5 then(if s=1\/s=2\/s=3 then 7 else -1)else if e.k=6 then(if s=4 then(if e.r=1/\b then -1 else 8)else -1)else -1
def act(x:Cs):Prop:=1<=x.s/\x.s<=4
instance (x:Cs):Decidable (act x):=by unfold act;infer_instance
def rk(s:Int):Nat:=if s=1\/s=2 then 3 else if s=3 then 2 else if s=4 then 1 else 0
theorem eT(s:Int):rk s<=3:=by unfold rk;split;omega;split;omega;split<;>omega
theorem dg{s:Int}(h:1<=s/\s<=4):rk (aft s)<rk s:=by
 have:s=1\/s=2\/s=3\/s=4:=by omega
 rcases this with rfl|rfl|rfl|rfl<;>decide
def tl(r:Rl)(b:Bool):Cs->List Ce->List Cs
 |now,e::es=>if h:act now/\now.n<=e.a then st r (aft now.s) now.n::tl r b (st r (aft now.s) now.n) (e::es)else if bec b now.s e<0 then tl r b now es else st r (bec b now.s e) e.a::tl r b (st r (bec b now.s e) e.a) es
 |now,[]=>if h:act now then st r (aft now.s) now.n::tl r b (st r (aft now.s) now.n) []else[]
termination_by now es=>5*es.length+rk now.s
decreasing_by
 ·have:=dg h.1
  simp only[st];omega
 ·have:=eT now.s
  simp only[List.length_cons];omega
 ·have:=eT (st r (bec b now.s e) e.a).s
  simp only[List.length_cons];omega
 ·have:=dg h
  simp only[st];omega
theorem oE{r:Rl}{b:Bool}{now:Cs}{e:Ce}{es:List Ce}(h:act now/\now.n<=e.a):tl r b now (e::es)=st r (aft now.s) now.n::tl r b (st r (aft now.s) now.n) (e::es):=by
 rw[tl,dif_pos h]
theorem oD{r:Rl}{b:Bool}{now:Cs}{e:Ce}{es:List Ce}(h:¬(act now/\now.n<=e.a))(hb:bec b now.s e<0):tl r b now (e::es)=tl r b now es:=by
 rw[tl,dif_neg h,if_pos hb]
theorem A4{r:Rl}{b:Bool}{now:Cs}{e:Ce}{es:List Ce}(h:¬(act now/\now.n<=e.a))(hb:¬bec b now.s e<0):tl r b now (e::es)=st r (bec b now.s e) e.a::tl r b (st r (bec b now.s e) e.a) es:=by
 rw[tl,dif_neg h,if_neg hb]
theorem tg{r:Rl}{b:Bool}{now:Cs}(h:act now):tl r b now []=st r (aft now.s) now.n::tl r b (st r (aft now.s) now.n) []:=by
 rw[tl,dif_pos h]
theorem kE{r:Rl}{b:Bool}{now:Cs}(h:¬act now):tl r b now []=[]:=by
 rw[tl,dif_neg h]
theorem zY{r:Rl}{b:Bool}(P:Cs->Prop)(A:Cs->List Ce->Prop)
  (h1:∀now e es,A now (e::es)->act now->now.n<=e.a->P (st r (aft now.s) now.n)/\A (st r (aft now.s) now.n) (e::es))
  (h2:∀now e es,A now (e::es)->¬(act now/\now.n<=e.a)->bec b now.s e<0->A now es)
  (h3:∀now e es,A now (e::es)->¬(act now/\now.n<=e.a)->¬bec b now.s e<0->P (st r (bec b now.s e) e.a)/\A (st r (bec b now.s e) e.a) es)
  (h4:∀now,A now []->act now->P (st r (aft now.s) now.n)/\A (st r (aft now.s) now.n) []):∀(m:Nat) now es,5*es.length+rk now.s<=m->A now es->∀x∈tl r b now es,P x:=by
 intro m;induction m with
 | zero=>
  intro now es hm hA x hx;have he:es=[]:=by
   cases es with
   |nil=>rfl
   |cons e es=>simp at hm
  subst he;by_cases ha:act now
  ·have:=dg ha;omega
  ·rw[kE ha]at hx;cases hx
 | succ m ih=>
  intro now es hm hA x hx;cases es with
  | nil=>
   by_cases ha:act now
   ·rw[tg ha]at hx
    obtain⟨p,q⟩:=h4 now hA ha;rcases List.mem_cons.1 hx with rfl|hx
    ·exact p
    ·exact ih _ _ (by have:=dg ha;simp only[st];omega) q x hx
   ·rw[kE ha]at hx;cases hx
  | cons e es=>
   by_cases ha:act now/\now.n<=e.a
   ·rw[oE ha]at hx
    obtain⟨p,q⟩:=h1 now e es hA ha.1 ha.2;rcases List.mem_cons.1 hx with rfl|hx
    ·exact p
    ·exact ih _ _ (by have:=dg ha.1;simp only[st];omega) q x hx
   ·by_cases hb:bec b now.s e<0
    ·rw[oD ha hb]at hx
     exact ih _ _ (by simp only[List.length_cons]at hm;have:=eT now.s;omega) (h2 now e es hA ha hb) x hx
    ·rw[A4 ha hb]at hx
     obtain⟨p,q⟩:=h3 now e es hA ha hb;rcases List.mem_cons.1 hx with rfl|hx
     ·exact p
     ·exact ih _ _ (by simp only[List.length_cons]at hm;have:=eT (st r (bec b now.s e) e.a).s;omega) q x hx
theorem Iw{r:Rl}{b:Bool}:∀(m:Nat) now es,5*es.length+rk now.s<=m->(tl r b now es).length<=5*es.length+rk now.s:=by
 intro m;induction m with
 | zero=>
  intro now es hm;have he:es=[]:=by
   cases es with
   |nil=>rfl
   |cons e es=>simp at hm
  subst he;by_cases ha:act now
  ·have:=dg ha;omega
  ·rw[kE ha];simp
 | succ m ih=>
  intro now es hm;cases es with
  | nil=>
   by_cases ha:act now
   ·rw[tg ha]
    have h1:=dg ha;have:=ih (st r (aft now.s) now.n) [] (by simp only[st];omega)
    simp only[st,List.length_cons,List.length_nil]at this⊢;omega
   ·rw[kE ha];simp
  | cons e es=>
   by_cases ha:act now/\now.n<=e.a
   ·rw[oE ha]
    have h1:=dg ha.1;have:=ih (st r (aft now.s) now.n) (e::es) (by simp only[st];omega)
    simp only[st,List.length_cons]at this⊢;omega
   ·by_cases hb:bec b now.s e<0
    ·rw[oD ha hb]
     simp only[List.length_cons]at hm⊢;have h1:=eT now.s;have:=ih now es (by omega)
     omega
    ·rw[A4 ha hb]
     simp only[List.length_cons]at hm⊢;have h1:=eT (st r (bec b now.s e) e.a).s;have:=ih (st r (bec b now.s e) e.a) es (by omega)
     omega
theorem NX{l m:Int}{es:List Ce}(h:EvV l es)(hm:m<=l):EvV m es:=by
 cases es with
 |nil=>trivial
 |cons e es=>exact⟨⟨h.1.1,h.1.2.1,by have:=h.1.2.2.1;omega,h.1.2.2.2⟩,h.2⟩
theorem sZ{l:Int}{es:List Ce}(h:EvV l es):∀e∈es,l<=e.a/\e.a<=20000000:=by
 induction es generalizing l with
 |nil=>intro e he;cases he
 | cons x es ih=>
  intro e he;rcases List.mem_cons.1 he with rfl|he
  ·exact⟨h.1.2.2.1,h.1.2.2.2.1⟩
  ·have:=ih h.2 e he
   have:=h.1.2.2.1
   omega
theorem MU{r:Rl}(h:RlV r)(s:Int):1<=dur r s/\dur r s<=1000000:=by
 unfold RlV at h;unfold dur;split;omega;split;omega;split<;>omega
theorem nh{r:Rl}(h:RlV r){s f:Int}(ha:1<=s/\s<=4):f<(st r s f).n/\(st r s f).n<=f+1000000:=by
 have:=MU h s
 simp only[st];rw[if_pos ha];omega
theorem LX{r:Rl}(hr:RlV r){b:Bool}{now:Cs}{es:List Ce}{m:Int}(h1:act now->m<=now.n)(h2:∀e∈es,m<=e.a):∀x∈tl r b now es,m<=x.f:=by
 refine zY (r:=r) (b:=b) (fun x=>m<=x.f) (fun now es=>(act now->m<=now.n)/\∀e∈es,m<=e.a) ?_ ?_ ?_ ?_ _ now es (Nat.le_refl _) ⟨h1,h2⟩
 ·intro now e es ⟨g1,g2⟩ ha hle
  exact⟨g1 ha,fun hx=>by have:=nh hr (s:=aft now.s) (f:=now.n) hx;have:=g1 ha;omega,g2⟩
 ·intro now e es ⟨g1,g2⟩ _ _
  exact⟨g1,fun x hx=>g2 x (List.mem_cons_of_mem _ hx)⟩
 ·intro now e es ⟨g1,g2⟩ _ _
  have:=g2 e (List.mem_cons_self ..)
  exact⟨this,fun hx=>by have:=nh hr (s:=bec b now.s e) (f:=e.a) hx;omega,fun x hx=>g2 x (List.mem_cons_of_mem _ hx)⟩
 ·intro now ⟨g1,g2⟩ ha
  exact⟨g1 ha,fun hx=>by have:=nh hr (s:=aft now.s) (f:=now.n) hx;have:=g1 ha;omega,g2⟩
theorem Ph{r:Rl}(hr:RlV r){b:Bool}{now:Cs}{es:List Ce}(h1:now.f+1000000*rk now.s<=23000000)(h0:act now->now.n<=now.f+1000000)(h2:∀e∈es,e.a<=20000000):∀x∈tl r b now es,x.f<=23000000:=by
 refine zY (r:=r) (b:=b) (fun x=>x.f<=23000000) (fun now es=>now.f+1000000*rk now.s<=23000000/\(act now->now.n<=now.f+1000000)/\∀e∈es,e.a<=20000000) ?_ ?_ ?_ ?_ _ now es (Nat.le_refl _) ⟨h1,h0,h2⟩
 ·intro now e es ⟨g1,g0,g2⟩ ha hle
  have k1:=dg ha;have k2:=g0 ha;refine⟨?_,?_,fun hx=>(nh hr hx).2,g2⟩
  ·simp only[st];omega
  ·simp only[st];omega
 ·intro now e es ⟨g1,g0,g2⟩ _ _
  exact⟨g1,g0,fun x hx=>g2 x (List.mem_cons_of_mem _ hx)⟩
 ·intro now e es ⟨g1,g0,g2⟩ _ _
  have k1:=g2 e (List.mem_cons_self ..);have k2:=eT (st r (bec b now.s e) e.a).s;refine⟨?_,?_,fun hx=>(nh hr hx).2,fun x hx=>g2 x (List.mem_cons_of_mem _ hx)⟩
  ·simp only[st];omega
  ·simp only[st]at k2⊢;omega
 ·intro now ⟨g1,g0,g2⟩ ha
  have k1:=dg ha;have k2:=g0 ha;refine⟨?_,?_,fun hx=>(nh hr hx).2,g2⟩
  ·simp only[st];omega
  ·simp only[st];omega
def x0(r:Rl)(c:Cl):Cs:=st r 1 c.a
def an(r:Rl)(c:Cl)(es:List Ce):List Cs:=x0 r c::tl r c.b (x0 r c) es
def de(u:Int)(l:List Cs):List Cs:=l.takeWhile fun x=>decide (x.f<=u)
def yV(r:Rl)(c:Cl)(es:List Ce)(t:Int):Cs:=((de t (an r c es)).getLast?).getD ⟨0,0,c.a⟩
def Ei(r:Rl)(c:Cl)(es:List Ce)(t:Int):Prop:=cD r c es/\0<=t/\t<=20000000
instance (r:Rl) (c:Cl) (es:List Ce) (t:Int):Decidable (Ei r c es t):=by unfold Ei;infer_instance
def Fw(r:Rl)(c:Cl)(es:List Ce)(t:Int):Cs×Int:=if Ei r c es t then(yV r c es t,0)else(⟨0,0,0⟩,160)
def ic(r:Rl)(c:Cl):Int:=c.a+r.a-1+r.s+r.c+r.r
end Go.Dial.Clm
namespace Go.Dial.Lif
structure Ev where
 k:Int
 a:Int
 h:Int
deriving DecidableEq
structure Ln where
 s:Int
 h:Int
 e:Int
 t:Int
deriving DecidableEq
structure St where
 h:Int
 e:Int
 f:Int
 t:Int
deriving DecidableEq
def first:Ln:=⟨0,-1,0,0⟩
def zero:Ln:=⟨0,0,0,0⟩
def Vld(l:Ln):Prop:=0<=l.s/\l.s<=3/\0<=l.e/\l.e<=1000/\0<=l.t/\l.t<=10000000/\(l.s=0->l.h= -1)/\(l.s≠0->0<=l.h/\l.h<=63/\1<=l.e)
instance (l:Ln):Decidable (Vld l):=by unfold Vld;infer_instance
def vldB(l:Ln):Bool:=decide (Vld l)
def kG(k:Int):Prop:=k=1\/k=2
instance (k:Int):Decidable (kG k):=by unfold kG;infer_instance
def Frm(e:Ev):Prop:=1<=e.k/\e.k<=7/\0<=e.a/\e.a<=10000000/\(kG e.k->0<=e.h/\e.h<=63)/\(¬kG e.k->e.h= -1)
instance (e:Ev):Decidable (Frm e):=by unfold Frm;infer_instance
def sJ(e:Ev):Bool:=decide (Frm e)
def Pos(l:Ln)(e:Ev):Prop:=l.t<=e.a/\((e.k=1/\l.s=0/\l.e<1000)\/(e.k=2/\l.s=1/\l.h≠e.h/\l.e<1000)\/(e.k=3/\l.s=1)\/(e.k=4/\l.s=2)\/(e.k=5/\(l.s=1\/l.s=2))\/(e.k=6/\l.s=3)\/(e.k=7/\l.s=3/\l.t+2592000<=e.a))
instance (l:Ln) (e:Ev):Decidable (Pos l e):=by unfold Pos;infer_instance
def nxt(l:Ln)(e:Ev):Ln:=
 if e.k=1\/e.k=2 then⟨1,e.h,l.e+1,e.a⟩else if e.k=3 then⟨2,l.h,l.e,e.a⟩else if e.k=4\/e.k=6 then⟨1,l.h,l.e,e.a⟩else if e.k=5 then⟨3,l.h,l.e,e.a⟩else⟨0,-1,l.e,e.a⟩
def Ok(l:Ln)(e:Ev):Prop:=Vld l/\Frm e/\Pos l e
instance (l:Ln) (e:Ev):Decidable (Ok l e):=by unfold Ok;infer_instance
def qO(l:Ln)(e:Ev):Ln×Int:=if Ok l e then(nxt l e,0)else(zero,140)
theorem pZ{l:Ln}{e:Ev}(h:Ok l e):qO l e=(nxt l e,0):=if_pos h
theorem ip{l:Ln}{e:Ev}(h:¬Ok l e):qO l e=(zero,140):=if_neg h
theorem FZ:Vld first:=by decide
theorem PB{l:Ln}{e:Ev}(h:Ok l e):Vld (nxt l e):=by
 obtain⟨⟨h1,h2,h3,h4,h5,h6,h7,h8⟩,⟨f1,f2,f3,f4,f5,f6⟩,p1,p2⟩:=h;unfold kG at f5 f6;unfold nxt;by_cases c1:e.k=1\/e.k=2
 ·rw[if_pos c1];have:=f5 c1;refine⟨?_,?_,?_,?_,?_,?_,?_,?_⟩<;>simp only<;>omega
 rw[if_neg c1];by_cases c3:e.k=3
 ·rw[if_pos c3];have:=h8 (by omega);refine⟨?_,?_,?_,?_,?_,?_,?_,?_⟩<;>simp only<;>omega
 rw[if_neg c3];by_cases c4:e.k=4\/e.k=6
 ·rw[if_pos c4];have:=h8 (by omega);refine⟨?_,?_,?_,?_,?_,?_,?_,?_⟩<;>simp only<;>omega
 rw[if_neg c4];by_cases c5:e.k=5
 ·rw[if_pos c5];have:=h8 (by omega);refine⟨?_,?_,?_,?_,?_,?_,?_,?_⟩<;>simp only<;>omega
 rw[if_neg c5];refine⟨?_,?_,?_,?_,?_,?_,?_,?_⟩<;>simp<;>omega
theorem O9(l:Ln)(e:Ev):(nxt l e).t=e.a:=by unfold nxt;split;rfl;split;rfl;split;rfl;split<;>rfl
def bE:Ln->List Ev->Ln×Nat
 |l,[]=>(l,0)
 |l,e::es=>if Ok l e then((bE (nxt l e) es).1,(bE (nxt l e) es).2+1)else(l,0)
theorem PZ(l:Ln)(es:List Ev):(bE l es).2<=es.length:=by
 induction es generalizing l with
 |nil=>simp[bE]
 |cons e es ih=>unfold bE;split<;>simp;exact ih _
def All:Ln->List Ev->Prop
 |_,[]=>True
 |l,e::es=>Ok l e/\All (nxt l e) es
def fin(l:Ln)(es:List Ev):Ln:=es.foldl nxt l
theorem runF_all{l:Ln}{es:List Ev}:(bE l es).2=es.length↔All l es:=by
 induction es generalizing l with
 |nil=>simp[bE,All]
 |cons e es ih=>
  unfold bE All;by_cases h:Ok l e
  ·rw[if_pos h];simp only[List.length_cons,Nat.add_right_cancel_iff,ih,h,true_and]
  ·rw[if_neg h];simp[h]
theorem Ii{l:Ln}{es:List Ev}(h:All l es):bE l es=(fin l es,es.length):=by
 induction es generalizing l with
 |nil=>rfl
 |cons e es ih=>
  obtain⟨h1,h2⟩:=h;rw[bE,if_pos h1,ih h2];rfl
theorem Oy{l:Ln}(hl:Vld l)(es:List Ev):Vld (bE l es).1:=by
 induction es generalizing l with
 |nil=>exact hl
 |cons e es ih=>
  unfold bE;by_cases h:Ok l e
  ·rw[if_pos h];exact ih (PB h)
  ·rw[if_neg h];exact hl
theorem Oa{l:Ln}{a b:List Ev}(h:All l a):bE l (a++b)=((bE (fin l a) b).1,a.length+(bE (fin l a) b).2):=by
 induction a generalizing l with
 |nil=>simp[fin]
 |cons e a ih=>
  obtain⟨h1,h2⟩:=h;rw[List.cons_append,bE,if_pos h1,ih h2];simp[fin];omega
theorem tN{l:Ln}{a b:List Ev}:All l (a++b)↔All l a/\All (fin l a) b:=by
 induction a generalizing l with
 |nil=>simp[All,fin]
 |cons e a ih=>simp only[List.cons_append,All,ih,fin,List.foldl_cons,and_assoc]
theorem AS(l:Ln)(a b:List Ev):fin l (a++b)=fin (fin l a) b:=by simp[fin]
theorem KO{l:Ln}{es:List Ev}(hl:Vld l)(h:All l es):Vld (fin l es):=by
 have:=Oy hl es
 rwa [Ii h]at this
theorem Cr{l:Ln}{es:List Ev}(h:All l es)(k:Nat):All l (es.take k):=by
 rw[<-List.take_append_drop k es,tN]at h;exact h.1
def na(es:List Ev):(Ln×Nat)×Int:=if(bE first (es.take 40)).2=es.length then(((bE first (es.take 40)).1,es.length),0)else((zero,(bE first (es.take 40)).2),140)
def fu(es:List Ev):Prop:=All first es/\es.length<=40
theorem life_iff{es:List Ev}:(bE first (es.take 40)).2=es.length↔fu es:=by
 constructor
 ·intro h
  have h1:=PZ first (es.take 40);have h2:es.length<=40:=by simp at h1;omega
  rw[List.take_of_length_le h2]at h;exact⟨runF_all.1 h,h2⟩
 ·rintro ⟨h1,h2⟩
  rw[List.take_of_length_le h2];exact runF_all.2 h1
instance (es:List Ev):Decidable (fu es):=decidable_of_iff _ life_iff
theorem j4{es:List Ev}(h:fu es):na es=((fin first es,es.length),0):=by
 rw[na,if_pos (life_iff.2 h),List.take_of_length_le h.2,Ii h.1]
theorem AY{es:List Ev}(h:¬fu es):na es=((zero,(bE first (es.take 40)).2),140):=by
 rw[na,if_neg (fun e=>h (life_iff.1 e))]
theorem Nc{es:List Ev}(h:fu es)(k:Nat):fu (es.take k):=⟨Cr h.1 k,by have:=h.2;simp;omega⟩
theorem NA{l:Ln}{es:List Ev}(h:All l es):∀e∈es,l.t<=e.a:=by
 induction es generalizing l with
 |nil=>simp
 |cons x es ih=>
  obtain⟨h1,h2⟩:=h;intro e he;have hx:=h1.2.2.1;rcases List.mem_cons.1 he with rfl|he
  ·exact hx
  ·have:=ih h2 e he;rw[O9]at this;omega
theorem LU{l:Ln}{es:List Ev}(h:All l es){i j:Nat}(hij:i<=j)(hj:j<es.length):(es[i]'(by omega)).a<=es[j].a:=by
 induction es generalizing l i j with
 |nil=>simp at hj
 | cons x es ih=>
  obtain⟨h1,h2⟩:=h;cases i with
  | zero=>
   cases j with
   |zero=>exact Int.le_refl _
   |succ j=>
    have:=NA h2 (es[j]'(by simpa using hj)) (List.getElem_mem _)
    rw[O9]at this;simpa using this
  |succ i=>
   cases j with
   |zero=>omega
   |succ j=>simpa using ih h2 (i:=i) (j:=j) (by omega) (by simpa using hj)
def ee(es:List Ev)(t:Int):Nat:=(es.takeWhile fun e=>decide (e.a<=t)).length
theorem AW(es:List Ev)(t:Int):ee es t<=es.length:=by
 unfold ee;exact List.Sublist.length_le (List.takeWhile_sublist _)
theorem KW{es:List Ev}{t:Int}{i:Nat}(h:i<ee es t):(es[i]'(Nat.lt_of_lt_of_le h (AW es t))).a<=t:=by
 have h1:i<(es.takeWhile fun e=>decide (e.a<=t)).length:=h
 have h2:=List.all_eq_true.1 List.all_takeWhile _ (List.getElem_mem h1);have h3:(es.takeWhile fun e=>decide (e.a<=t))[i]=es[i]'(Nat.lt_of_lt_of_le h (AW es t)):=by
  have:=(List.takeWhile_prefix (fun e:Ev=>decide (e.a<=t)) (l:=es))
  exact List.IsPrefix.getElem this h1
 rw[h3]at h2;simpa using h2
theorem KQ{es:List Ev}{t:Int}(h:ee es t<es.length):t<(es[ee es t]).a:=by
 induction es with
 |nil=>simp at h
 | cons x es ih=>
  by_cases hx:x.a<=t
  ·have e:ee (x::es) t=ee es t+1:=by simp[ee,hx]
   simp only[e]at h⊢;simpa using ih (by simpa using h)
  ·have e:ee (x::es) t=0:=by simp[ee,hx]
   simp only[e];simpa using hx
def atL(es:List Ev)(t:Int):Ln:=fin first (es.take (ee es t))
def nq(es:List Ev)(t:Int):Prop:=fu es/\0<=t/\t<=10000000
instance (es:List Ev) (t:Int):Decidable (nq es t):=by unfold nq;infer_instance
def atR(es:List Ev)(t:Int):Ln×Int:=if nq es t then(atL es t,0)else(zero,140)
def OD(l:Ln):Prop:=l.s=1\/l.s=2
instance (l:Ln):Decidable (OD l):=by unfold OD;infer_instance
theorem db{l:Ln}:vldB l=true↔Vld l:=decide_eq_true_iff
def JP(es:List Ev)(t:Int):Prop:=nq es t/\OD (atL es t)
instance (es:List Ev) (t:Int):Decidable (JP es t):=by unfold JP;infer_instance
def Nf(es:List Ev)(me ma t:Int):Prop:=JP es ma/\(atL es ma).e=me/\ma<=t/\t<=10000000
instance (es:List Ev) (me ma t:Int):Decidable (Nf es me ma t):=by unfold Nf;infer_instance
theorem Pk{es:List Ev}(h:fu es)(t:Int):Vld (atL es t):=KO FZ (Cr h.1 _)
end Go.Dial.Lif
namespace Go.Proofs.YtgckmifmjiklmaaGreat
open Go Go.Sx Go.Dial.Lif
theorem HT(n:Nat)(l:Ln):mf n l.s l.h l.e l.t=some (Go.Dial.Lif.vldB l):=by
 unfold mf vw Go.Dial.Lif.vldB Vld;grind
theorem Ij(n:Nat)(l:Ln):om n l.s l.h l.e l.t=some (Go.Dial.Lif.vldB l):=by
 unfold om zk Go.Dial.Lif.vldB Vld;grind
theorem EY(n:Nat)(e:Ev):kQ n e.k e.a e.h=some (sJ e):=by
 unfold kQ tX sJ Frm kG;grind
theorem Ci(n:Nat)(l:Ln)(e:Ev)(hl:Vld l)(he:Frm e):iS n l.s l.h l.e l.t e.k e.a e.h=some (decide (Pos l e)):=by
 unfold Vld at hl;unfold Frm kG at he;by_cases hp:Pos l e<;>simp only[hp,decide_true,decide_false]<;>unfold Pos at hp<;>unfold iS oP<;>grind
abbrev jc(l:Ln)(e:Ev):Int×Int×Int×Int×Int:=((qO l e).1.s,(qO l e).1.h,(qO l e).1.e,(qO l e).1.t,(qO l e).2)
theorem pf(n:Nat)(l:Ln)(e:Ev):f8 n l.s l.h l.e l.t e.k e.a e.h=some (jc l e):=by
 unfold f8 yk jc;rw[HT,EY];by_cases h1:Vld l
 ·by_cases h2:Frm e
  ·rw[Ci n l e h1 h2]
   by_cases h3:Pos l e
   ·rw[pZ ⟨h1,h2,h3⟩]
    simp only[Go.Dial.Lif.vldB,sJ,h1,h2,h3,decide_true,Option.bind_some,Bool.not_true,cond_false];unfold nxt;unfold Vld at h1;unfold Frm kG at h2;unfold Pos at h3;grind
   ·rw[ip (fun h=>h3 h.2.2)]
    simp[Go.Dial.Lif.vldB,sJ,h1,h2,h3,zero]
  ·rw[ip (fun h=>h2 h.2.1)]
   simp[Go.Dial.Lif.vldB,sJ,h1,h2,zero]
 ·rw[ip (fun h=>h1 h.1)]
  simp[Go.Dial.Lif.vldB,h1,zero]
theorem kinds{k:Int}(h1:1<=k)(h2:k<=7):k=1\/k=2\/k=3\/k=4\/k=5\/k=6\/k=7:=by omega
theorem QQ{s:Int}(h1:0<=s)(h2:s<=3):s=0\/s=1\/s=2\/s=3:=by omega
theorem Hh(n:Nat)(e:Ev):jp n e.k e.a e.h=some (sJ e):=by
 obtain⟨k,a,h⟩:=e;by_cases hk:1<=k/\k<=7
 ·unfold jp nl sJ Frm kG
  rcases kinds hk.1 hk.2 with rfl|rfl|rfl|rfl|rfl|rfl|rfl<;>simp[cB,cA]<;>grind
 ·unfold jp nl sJ Frm kG
  grind
theorem Qv:IOp.f .and (IOp.f .shr 1 0) 1=1:=by decide +kernel
theorem Qi:IOp.f .and (IOp.f .shr 1 1) 1=0:=by decide +kernel
theorem Qc:IOp.f .and (IOp.f .shr 1 2) 1=0:=by decide +kernel
theorem Qd:IOp.f .and (IOp.f .shr 1 3) 1=0:=by decide +kernel
theorem QM:IOp.f .and (IOp.f .shr 2 0) 1=0:=by decide +kernel
theorem P2:IOp.f .and (IOp.f .shr 2 1) 1=1:=by decide +kernel
theorem QN:IOp.f .and (IOp.f .shr 2 2) 1=0:=by decide +kernel
theorem QT:IOp.f .and (IOp.f .shr 2 3) 1=0:=by decide +kernel
theorem QD:IOp.f .and (IOp.f .shr 4 0) 1=0:=by decide +kernel
theorem Qp:IOp.f .and (IOp.f .shr 4 1) 1=0:=by decide +kernel
theorem P7:IOp.f .and (IOp.f .shr 4 2) 1=1:=by decide +kernel
theorem QP:IOp.f .and (IOp.f .shr 4 3) 1=0:=by decide +kernel
theorem QU:IOp.f .and (IOp.f .shr 6 0) 1=0:=by decide +kernel
theorem P3:IOp.f .and (IOp.f .shr 6 1) 1=1:=by decide +kernel
theorem QA:IOp.f .and (IOp.f .shr 6 2) 1=1:=by decide +kernel
theorem QS:IOp.f .and (IOp.f .shr 6 3) 1=0:=by decide +kernel
theorem Qo:IOp.f .and (IOp.f .shr 8 0) 1=0:=by decide +kernel
theorem Qx:IOp.f .and (IOp.f .shr 8 1) 1=0:=by decide +kernel
theorem QH:IOp.f .and (IOp.f .shr 8 2) 1=0:=by decide +kernel
theorem Qt:IOp.f .and (IOp.f .shr 8 3) 1=1:=by decide +kernel
theorem Ht(n:Nat)(l:Ln)(e:Ev)(h1:Vld l)(h2:Frm e):sK n l.s l.h l.e l.t e.k e.a e.h=some (jc l e):=by
 obtain⟨k,a,h⟩:=e;obtain⟨s,g,p,t⟩:=l;unfold jc qO Go.Dial.Lif.Ok Pos;simp only[h1,h2,true_and];unfold Vld at h1;unfold Frm kG at h2;unfold nxt zero sK Br Bq;simp only at h1 h2⊢
 rcases kinds h2.1 h2.2.1 with rfl|rfl|rfl|rfl|rfl|rfl|rfl<;>rcases QQ h1.1 h1.2.1 with rfl|rfl|rfl|rfl <;>
  simp[cI,cB,cA,Qv,Qi,Qc,Qd,QM,P2,QN,QT,QD,Qp,P7,QP,QU,P3,QA,QS,Qo,Qx,QH,Qt]<;>grind
theorem Kd(n:Nat)(l:Ln)(e:Ev):mM n l.s l.h l.e l.t e.k e.a e.h=some (jc l e):=by
 unfold mM B5 Bj Bv;rw[Ij,Hh];by_cases h1:Vld l
 ·by_cases h2:Frm e
  ·simp only[Go.Dial.Lif.vldB,sJ,h1,h2,decide_true,Option.bind_some,Bool.not_true,cond_false]
   exact Ht n l e h1 h2
  ·unfold jc
   rw[ip (fun h=>h2 h.2.1)]
   simp[Go.Dial.Lif.vldB,sJ,h1,h2,zero]
 ·unfold jc
  rw[ip (fun h=>h1 h.1)]
  simp[Go.Dial.Lif.vldB,h1,zero]
abbrev lfR(e:Ev):List AV:=[.int e.k,.int e.a,.int e.h]
abbrev lfL(es:List Ev):Lv:=es.map lfR
abbrev nc(es:List Ev):Int×Int×Int×Int×Int×Int:=((na es).1.1.s,(na es).1.1.h,(na es).1.1.e,(na es).1.1.t,((na es).1.2:Int),(na es).2)
theorem l6{es:List Ev}{i:Nat}{e:Ev}(hA:All first (es.take i))(h40:i<=40)(he:es[i]?=some e)(hs:i=40\/¬Go.Dial.Lif.Ok (fin first (es.take i)) e):na es=((zero,i),140):=by
 have hi:i<es.length:=(List.getElem?_eq_some_iff.1 he).1
 have e1:es.take 40=es.take i++(es.drop i).take (40-i):=by
  rw[<-List.take_append_drop i (es.take 40),List.take_take,List.drop_take];congr 2
  omega
 have e2:(bE first (es.take 40)).2=i:=by
  rw[e1,Oa hA];have hl:(es.take i).length=i:=by simp;omega
  have:(bE (fin first (es.take i)) ((es.drop i).take (40-i))).2=0:=by
   rcases hs with hs|hs
   ·subst hs;simp[bE]
   ·cases hk:40-i with
    |zero=>simp[bE]
    | succ k=>
     have:es.drop i=e::es.drop (i+1):=by
      rw[List.drop_eq_getElem_cons hi];congr 1
      exact(List.getElem?_eq_some_iff.1 he).2
     rw[this,List.take_succ_cons,bE,if_neg hs]
  simp[hl,this]
 rw[AY (fun h=>?_),e2]
 have:=life_iff.2 h
 omega
theorem Ge{es:List Ev}{i:Nat}(hA:All first (es.take i))(h40:i<=40)(he:i=es.length):na es=((fin first (es.take i),i),0):=by
 subst he;rw[List.take_length]at hA⊢
 exact j4 ⟨hA,h40⟩
theorem KH(n:Nat)(es:List Ev)(hn:es.length<n):r7 n (lfL es)=some (nc es):=by
 unfold r7 B1;refine ar (fun s=>∃(i:Nat) (l:Ln),s=((i:Int),l.s,l.h,l.e,l.t)/\i<=es.length/\i<=40/\All first (es.take i)/\l=fin first (es.take i)) (fun s=>es.length-s.1.toNat) _ ?_ n _ ⟨0,first,rfl,by omega,by omega,trivial,rfl⟩ (by simp;omega)
 rintro _ go ⟨i,l,rfl,hi,h40,hA,hl⟩ ih;simp only
 unfold B2;have c2:(0:Int)<=(i:Int):=by omega
 have c4:(-9223372036854775808:Int)<=(i:Int)+1:=by omega
 have c5:(i:Int)+1<=(9223372036854775807:Int):=by omega
 by_cases hlt:i<es.length
 ·obtain⟨e,he⟩:=aD hlt
  have hc:∀k,cA (lfL es) (i:Int) k=(lfR e).getD k (.int 0):=fun k=>bv (by simpa using he)
  have hs:f8 n l.s l.h l.e l.t (cI (lfL es) i 0) (cI (lfL es) i 1) (cI (lfL es) i 2)=some (jc l e):=by
   simp only[cI,hc];exact pf n l e
  have c1:(i:Int)<(es.length:Int):=by omega
  simp only[hs,List.length_map,Option.bind_some,c1,c2,c4,c5,decide_true,cond_true,Bool.and_self,jc];by_cases hok:Go.Dial.Lif.Ok l e
  ·simp only[pZ hok,decide_true,Bool.not_true,cond_false]
   by_cases h4:i=40
   ·have h4':(i:Int)=40:=by omega
    simp only[h4',decide_true,cond_true];unfold nc;rw[l6 hA h40 he (.inl h4),h4];rfl
   ·have h4':¬(i:Int)=40:=by omega
    simp only[h4',decide_false,cond_false];exact ih _ ⟨i+1,nxt l e,rfl,by omega,by omega,by rw[bV he,tN];exact⟨hA,by rw[<-hl];exact⟨hok,trivial⟩⟩,by rw[bV he,AS,<-hl];rfl⟩ (by simp only;omega)
  ·have e140:decide ((140:Int)=0)=false:=rfl
   simp only[ip hok,e140,Bool.not_false,cond_true];unfold nc;rw[l6 hA h40 he (.inr (by rw[<-hl];exact hok))];rfl
 ·have h0:i=es.length:=by omega
  have c1:¬(i:Int)<(es.length:Int):=by omega
  simp only[List.length_map,c1,decide_false,cond_false];unfold nc;rw[Ge hA h40 h0,<-hl,h0]
theorem uD(n:Nat)(es:List Ev)(hn:es.length<n):lM n (lfL es)=some (nc es):=by
 unfold lM C1;have c1:0<=af ((lfL es).length:Int) 40:=by unfold af;split<;>omega
 have c2:af ((lfL es).length:Int) 40<=((lfL es).length:Int):=by unfold af;split<;>omega
 have hT:List.take (af ((lfL es).length:Int) 40).toNat (lfL es)=lfL (es.take 40):=by
  unfold lfL af;rw[<-List.map_take];congr 1
  split
  ·rfl
  ·rw[List.take_of_length_le (by simp),List.take_of_length_le (by simp at *;omega)]
 simp only[c1,c2,decide_true,cond_true];refine ar (fun s=>∃(i:Nat) (l:Ln),s=((i:Int),(i:Int),l.s,l.h,l.e,l.t,l.s,l.h,l.e,l.t)/\i<=es.length/\i<=40/\All first (es.take i)/\l=fin first (es.take i)) (fun s=>es.length-s.1.toNat) _ ?_ n _ ⟨0,first,rfl,by omega,by omega,trivial,rfl⟩ (by simp;omega)
 rintro _ go ⟨i,l,rfl,hi,h40,hA,hl⟩ ih;simp only
 unfold Dc;rw[hT];have c2:(0:Int)<=(i:Int):=by omega
 have c4:(-9223372036854775808:Int)<=(i:Int)+1:=by omega
 have c5:(i:Int)+1<=(9223372036854775807:Int):=by omega
 by_cases hlt:i<es.length
 ·obtain⟨e,he⟩:=aD hlt
  have c3:(i:Int)<(es.length:Int):=by omega
  by_cases h4:i=40
  ·have c1:¬(i:Int)<((es.take 40).length:Int):=by rw[List.length_take];omega
   simp only[List.length_map,c1,decide_false,cond_false,c3,decide_true,cond_true];unfold nc;rw[l6 hA h40 he (.inl h4)];rfl
  ·have hc:∀k,cA (lfL (es.take 40)) (i:Int) k=(lfR e).getD k (.int 0):=fun k=>bv (by
    rw[show(i:Int).toNat=i by simp,List.getElem?_take,if_pos (by omega)];exact he)
   have hs:mM n l.s l.h l.e l.t (cI (lfL (es.take 40)) i 0) (cI (lfL (es.take 40)) i 1) (cI (lfL (es.take 40)) i 2)=some (jc l e):=by
    simp only[cI,hc];exact Kd n l e
   have c1:(i:Int)<((es.take 40).length:Int):=by rw[List.length_take];omega
   simp only[hs,List.length_map,c1,c2,c4,c5,decide_true,cond_true,Bool.and_self,Option.bind_some,jc];by_cases hok:Go.Dial.Lif.Ok l e
   ·simp only[pZ hok,decide_true,Bool.not_true,cond_false]
    exact ih _ ⟨i+1,nxt l e,rfl,by omega,by omega,by rw[bV he,tN];exact⟨hA,by rw[<-hl];exact⟨hok,trivial⟩⟩,by rw[bV he,AS,<-hl];rfl⟩ (by simp only;omega)
   ·have e140:decide ((140:Int)=0)=false:=rfl
    simp only[ip hok,e140,Bool.not_false,cond_true,List.length_map,c3,decide_true];unfold nc;rw[l6 hA h40 he (.inr (by rw[<-hl];exact hok))];rfl
 ·have h0:i=es.length:=by omega
  have c1:¬(i:Int)<((es.take 40).length:Int):=by rw[List.length_take];omega
  have c3:¬(i:Int)<(es.length:Int):=by omega
  simp only[List.length_map,c1,c3,decide_false,cond_false];unfold nc;rw[Ge hA h40 h0,<-hl]
theorem fJ(n:Nat){c k:Int}(hc:ae c)(hk:0<k):bn n c k=some (pk c k):=by
 unfold bn xR pk;unfold ae at hc;grind
theorem OZ{es:List Ev}{t:Int}{i:Nat}{e:Ev}(he:es[i]?=some e)(hi:i<=ee es t):(i<ee es t↔e.a<=t):=by
 have hlt:=(List.getElem?_eq_some_iff.1 he);obtain⟨hl,rfl⟩:=hlt;constructor
 ·intro h;exact KW h
 ·intro h
  rcases Nat.lt_or_ge i (ee es t)with h1|h1
  ·exact h1
  ·have:i=ee es t:=by omega
   subst this;have:=KQ hl
   omega
theorem LN(n:Nat)(es:List Ev)(t:Int)(hL:fu es)(hn:es.length<n):u9 n (lfL es) t=some ((atL es t).s,(atL es t).h,(atL es t).e,(atL es t).t):=by
 unfold u9 Do;refine ar (fun s=>∃(i:Nat) (l:Ln),s=((i:Int),l.s,l.h,l.e,l.t)/\i<=ee es t/\l=fin first (es.take i)) (fun s=>es.length-s.1.toNat) _ ?_ n _ ⟨0,first,rfl,by omega,rfl⟩ (by simp;omega)
 rintro _ go ⟨i,l,rfl,hi,hl⟩ ih;simp only
 unfold Ej;have hle:=AW es t;have h40:=hL.2;have c2:(0:Int)<=(i:Int):=by omega
 have c4:(-9223372036854775808:Int)<=(i:Int)+1:=by omega
 have c5:(i:Int)+1<=(9223372036854775807:Int):=by omega
 by_cases hlt:i<es.length
 ·obtain⟨e,he⟩:=aD hlt
  have hc:∀k,cA (lfL es) (i:Int) k=(lfR e).getD k (.int 0):=fun k=>bv (by simpa using he)
  have h0:cI (lfL es) i 0=e.k:=by simp only[cI,hc];rfl
  have h1:cI (lfL es) i 1=e.a:=by simp only[cI,hc];rfl
  have h2:cI (lfL es) i 2=e.h:=by simp only[cI,hc];rfl
  have c1:(i:Int)<(es.length:Int):=by omega
  simp only[h0,h1,h2,pf n l e,List.length_map,Option.bind_some,c1,c2,c4,c5,decide_true,cond_true,Bool.and_self,jc];have hu:=OZ he hi;by_cases ht:e.a<=t
  ·have hok:Go.Dial.Lif.Ok l e:=by
    have:=(Cr hL.1 (i+1))
    rw[bV he,tN,<-hl]at this;exact this.2.1
   simp only[ht,decide_true,cond_true,pZ hok];exact ih _ ⟨i+1,nxt l e,rfl,by have:=hu.2 ht;omega,by rw[bV he,AS,<-hl];rfl⟩ (by simp only;omega)
  ·simp only[ht,decide_false,cond_false]
   have:i=ee es t:=by
    have:¬i<ee es t:=fun h=>ht (hu.1 h)
    omega
   unfold atL;rw[<-this,<-hl]
 ·have h0:i=es.length:=by omega
  have c1:¬(i:Int)<(es.length:Int):=by omega
  simp only[List.length_map,c1,decide_false,cond_false];have:i=ee es t:=by omega
  unfold atL;rw[<-this,<-hl]
theorem C6(n:Nat)(es:List Ev)(hn:es.length<n):pH n (lfL es)=some (decide (fu es)):=by
 unfold pH Et;rw[KH n es hn];simp only[Option.bind_some,nc];by_cases h:fu es
 ·rw[j4 h];simp[h]
 ·rw[AY h];simp[h]
abbrev atT(es:List Ev)(t:Int):Int×Int×Int×Int×Int:=((atR es t).1.s,(atR es t).1.h,(atR es t).1.e,(atR es t).1.t,(atR es t).2)
theorem DJ(n:Nat)(es:List Ev)(t:Int)(hn:es.length<n):dq n (lfL es) t=some (atT es t):=by
 unfold dq Dh atT atR nq;rw[C6 n es hn];by_cases h:fu es
 ·rw[LN n es t h hn]
  simp only[h,decide_true,Option.bind_some,Bool.not_true,cond_false,true_and];unfold zero;grind
 ·simp[h,zero]
theorem Ry{a b:Int}(ha:0<=a)(hb:0<=b)(h:a+b<=9223372036854775807):IntKind.wrap .i64 (iN .shr .u64 (IntKind.wrap .u64 (a+b)) 1)=(a+b) / 2:=by
 have h1:IntKind.wrap .u64 (a+b)=a+b:=by
  unfold IntKind.wrap;simp only[IntKind.bits,IntKind.signed,Bool.false_and];simp
  omega
 rw[h1];have h2:iN .shr .u64 (a+b) 1=(a+b) / 2:=by
  unfold iN;simp only[IntKind.bits];rw[Int.fdiv_eq_ediv_of_nonneg _ (by decide)]
  rfl
 rw[h2];unfold IntKind.wrap;simp only[IntKind.bits,IntKind.signed,Bool.true_and];have h3:(a+b) / 2 % 2 ^ 64=(a+b) / 2:=Int.emod_eq_of_lt (by omega) (by omega)
 simp only[h3];rw[if_neg (by simp;omega)]
end Go.Proofs.YtgckmifmjiklmaaGreat
namespace Go.Proofs.YtgckmifmjiklmaaGreat
open Go Go.Sx Go.Dial.Clm
abbrev ceR(e:Ce):List AV:=[.int e.k,.int e.a,.int e.r]
abbrev ceL(es:List Ce):Lv:=es.map ceR
abbrev csR(x:Cs):List AV:=[.int x.s,.int x.f,.int x.n]
abbrev csL(l:List Cs):Lv:=l.map csR
theorem aO(n:Nat){c k:Int}(hc:ae c)(hk:0<k):ag n c k=some (pk c k):=by
 unfold ag Ax pk;unfold ae at hc;grind
theorem GZ(n:Nat)(r:Rl):lV n r.a r.c r.s r.r=some (decide (RlV r)):=by
 by_cases h:RlV r<;>simp only[h,decide_true,decide_false]<;>unfold RlV at h<;>unfold lV xi<;>grind
theorem GD(n:Nat)(c:Cl):lW n c.n c.f c.t c.h c.a c.b=some (decide (ClV c)):=by
 by_cases h:ClV c<;>simp only[h,decide_true,decide_false]<;>unfold ClV at h<;>unfold lW xl<;>grind
theorem cJ{α:Type}{l:List α}{i:Nat}{x:α}(h:l[i]?=some x):l.drop i=x::l.drop (i+1):=by
 obtain⟨hl,rfl⟩:=List.getElem?_eq_some_iff.1 h;exact List.drop_eq_getElem_cons hl
theorem nn(n:Nat)(r:Rl)(c:Cl)(es:List Ce)(hn:25<n):gR n r.a r.c r.s r.r c.n c.f c.t c.h c.a c.b (ceL es)=some (decide (cD r c es)):=by
 unfold gR wQ cD;rw[GZ,GD];by_cases h1:RlV r
 ·by_cases h2:ClV c
  ·by_cases h3:es.length<=20
   ·have c3:¬(20:Int)<(es.length:Int):=by omega
    simp only[h1,h2,h3,decide_true,Option.bind_some,Bool.not_true,cond_false,List.length_map,c3,decide_false,true_and];refine ar (fun s=>∃(i:Nat) (last:Int),s=(last,(i:Int))/\i<=es.length/\(EvV c.a es↔EvV last (es.drop i))) (fun s=>es.length-s.2.toNat) _ ?_ n _ ⟨0,c.a,rfl,by omega,by simp⟩ (by simp;omega)
    rintro _ go ⟨i,last,rfl,hi,hE⟩ ih;simp only
    unfold wo;by_cases hlt:i<es.length
    ·obtain⟨e,he⟩:=aD hlt
     have hc:∀k,cA (ceL es) (i:Int) k=(ceR e).getD k (.int 0):=fun k=>bv (by simpa using he)
     have g0:cI (ceL es) i 0=e.k:=by simp only[cI,hc];rfl
     have g1:cI (ceL es) i 1=e.a:=by simp only[cI,hc];rfl
     have g2:cI (ceL es) i 2=e.r:=by simp only[cI,hc];rfl
     have c1:(i:Int)<(es.length:Int):=by omega
     have c2:(0:Int)<=(i:Int):=by omega
     have c4:(-9223372036854775808:Int)<=(i:Int)+1:=by omega
     have c5:(i:Int)+1<=(9223372036854775807:Int):=by omega
     simp only[g0,g1,g2,List.length_map,c1,c2,c4,c5,decide_true,cond_true,Bool.and_self];rw[cJ he]at hE;have hgo:CeV last e->go (e.a,(i:Int)+1)=some (decide (EvV c.a es)):=fun hv=>ih _ ⟨i+1,e.a,by simp,by omega,by rw[hE];exact⟨fun h=>h.2,fun h=>⟨hv,h⟩⟩⟩ (by simp only;omega)
     by_cases hv:CeV last e
     ·rw[hgo hv]
      unfold CeV at hv;grind
     ·have:¬EvV c.a es:=fun h=>hv (hE.1 h).1
      simp only[this,decide_false];unfold CeV at hv;grind
    ·have h0:i=es.length:=by omega
     have c1:¬(i:Int)<(es.length:Int):=by omega
     simp only[List.length_map,c1,decide_false,cond_false];subst h0;rw[List.drop_length]at hE;have:EvV c.a es:=hE.2 trivial
     simp[this]
   ·have c3:(20:Int)<(es.length:Int):=by omega
    simp only[h1,h2,h3,decide_true,Option.bind_some,Bool.not_true,cond_false,List.length_map,c3,cond_true,true_and,false_and,decide_false]
  ·simp[h1,h2]
 ·simp[h1]
abbrev stT(x:Cs):Int×Int×Int:=(x.s,x.f,x.n)
theorem iY(n:Nat)(r:Rl)(hr:RlV r)(s f:Int)(h1:0<=f)(h2:f<=100000000):ct n r.a r.c r.s r.r s f=some (stT (st r s f)):=by
 unfold ct tC stT st dur;unfold RlV at hr;grind
theorem vL(n:Nat)(s:Int):jx n s=some (aft s):=by
 unfold jx vU aft;grind
theorem DU(n:Nat)(c:Cl)(s:Int)(e:Ce):eo n c.n c.f c.t c.h c.a c.b s e.k e.a e.r=some (bec c.b s e):=by
 unfold eo qU bec;grind
theorem j5{out:List Cs}{now:Cs}(h:out.getLast?=some now)(k:Nat):cA (csL out) ((out.length:Int)-1) k=(csR now).getD k (.int 0):=by
 refine bv ?_
 rw[List.getLast?_eq_getElem?]at h;rw[show((out.length:Int)-1).toNat=out.length-1 by omega]
 exact h
theorem Jj{out:List Cs}{now:Cs}(h:out.getLast?=some now):1<=out.length:=by
 cases out with
 |nil=>cases h
 |cons x l=>simp
structure RunI (r:Rl) (c:Cl) (es:List Ce) (u:Int) (out:List Cs) (now:Cs) (i:Nat):Prop where
 le:i<=es.length
 last:out.getLast?=some now
 form:∃s f,now=st r s f/\0<=f/\f<=40000000
 rest:de u (an r c es)=out++de u (tl r c.b now (es.drop i))
 evs:∃l,0<=l/\EvV l (es.drop i)
theorem RunI.len{r:Rl}{c:Cl}{es:List Ce}{u:Int}{out:List Cs}{now:Cs}{i:Nat}(h:RunI r c es u out now i)(hl:es.length<=20):out.length<=110:=by
 have h1:(de u (an r c es)).length<=(an r c es).length:=by unfold de;exact List.Sublist.length_le (List.takeWhile_sublist _)
 have h2:=Iw (r:=r) (b:=c.b) _ (x0 r c) es (Nat.le_refl _);have h3:=eT (x0 r c).s;have h4:=congrArg List.length h.rest;unfold an at h1 h4;simp only[List.length_cons,List.length_append]at h1 h4;omega
theorem H9{r:Rl}(hr:RlV r){s f:Int}(h0:0<=f):0<=(st r s f).n↔act (st r s f):=by
 unfold act;by_cases h:1<=s/\s<=4
 ·have:=(nh hr (f:=f) h).1
  exact⟨fun _=>h,fun _=>by omega⟩
 ·simp only[st]
  rw[if_neg h];exact⟨fun h'=>by omega,fun h'=>absurd h' h⟩
theorem Nb{u:Int}{l:List Cs}(h:∀x∈l,u<x.f):de u l=[]:=by
 cases l with
 |nil=>rfl
 |cons x l=>
  have:=h x (List.mem_cons_self ..)
  unfold de;rw[List.takeWhile_cons];simp;omega
theorem tB{u:Int}{x:Cs}{l:List Cs}(h:x.f<=u):de u (x::l)=x::de u l:=by
 unfold de;rw[List.takeWhile_cons];simp[h]
theorem RunI.auto{r:Rl}{c:Cl}{es:List Ce}{u:Int}{out:List Cs}{now:Cs}{i:Nat}(hr:RlV r)(hu:u<=40000000)(h:RunI r c es u out now i)(ha:act now)(h1:∀e,es[i]?=some e->now.n<=e.a)(h2:now.n<=u):
  RunI r c es u (out++[st r (aft now.s) now.n]) (st r (aft now.s) now.n) i:=by
 obtain⟨s,f,hf,f0,f1⟩:=h.form;have h0:0<=now.n:=by rw[hf];exact(H9 hr f0).2 (hf▸ha)
 refine⟨h.le,by simp,⟨_,_,rfl,h0,by omega⟩,?_,h.evs⟩
 rw[h.rest];have:tl r c.b now (es.drop i)=st r (aft now.s) now.n::tl r c.b (st r (aft now.s) now.n) (es.drop i):=by
  cases hd:es.drop i with
  |nil=>exact tg ha
  | cons e rest=>
   have he:es[i]?=some e:=by
    have:=congrArg (fun l=>l[0]?) hd
    simpa using this
   exact oE ⟨ha,h1 e he⟩
 rw[this,tB (by exact h2)]
 simp
theorem RunI.done{r:Rl}{c:Cl}{es:List Ce}{u:Int}{out:List Cs}{now:Cs}{i:Nat}(hr:RlV r)(h:RunI r c es u out now i)(h1:act now->u<now.n)(h2:∀e,es[i]?=some e->u<e.a):de u (an r c es)=out:=by
 rw[h.rest];obtain⟨l,l0,hE⟩:=h.evs;have:de u (tl r c.b now (es.drop i))=[]:=by
  refine Nb fun x hx=>?_
  have:=LX hr (b:=c.b) (now:=now) (es:=es.drop i) (m:=u+1) (fun ha=>by have:=h1 ha;omega) (fun e he=>?_) x hx
  ·omega
  ·cases hd:es.drop i with
   |nil=>rw[hd]at he;cases he
   | cons y rest=>
    have hy:es[i]?=some y:=by
     have:=congrArg (fun l=>l[0]?) hd
     simpa using this
    have h3:=h2 y hy;rw[hd]at he hE;rcases List.mem_cons.1 he with rfl|he
    ·omega
    ·have:=(sZ hE.2 e he).1;omega
 rw[this];simp
theorem RunI.event{r:Rl}{c:Cl}{es:List Ce}{u:Int}{out:List Cs}{now:Cs}{i:Nat}{e:Ce}(h:RunI r c es u out now i)(he:es[i]?=some e)(h1:¬(act now/\now.n<=e.a))(hb:¬bec c.b now.s e<0)(h2:e.a<=u):
  RunI r c es u (out++[st r (bec c.b now.s e) e.a]) (st r (bec c.b now.s e) e.a) (i+1):=by
 obtain⟨l,l0,hE⟩:=h.evs;have hd:=cJ he;rw[hd]at hE;have hlt:=(List.getElem?_eq_some_iff.1 he).1;refine⟨hlt,by simp,⟨_,_,rfl,by have:=hE.1.2.2.1;omega,by have:=hE.1.2.2.2.1;omega⟩,?_,⟨e.a,by have:=hE.1.2.2.1;omega,hE.2⟩⟩
 rw[h.rest,hd,A4 h1 hb,tB (by exact h2)]
 simp
theorem RunI.void{r:Rl}{c:Cl}{es:List Ce}{u:Int}{out:List Cs}{now:Cs}{i:Nat}{e:Ce}(h:RunI r c es u out now i)(he:es[i]?=some e)(h1:¬(act now/\now.n<=e.a))(hb:bec c.b now.s e<0):RunI r c es u out now (i+1):=by
 obtain⟨l,l0,hE⟩:=h.evs;have hd:=cJ he;rw[hd]at hE;have hlt:=(List.getElem?_eq_some_iff.1 he).1;refine⟨hlt,h.last,h.form,?_,⟨e.a,by have:=hE.1.2.2.1;omega,hE.2⟩⟩
 rw[h.rest,hd,oD h1 hb]
theorem PO{n:Nat}{r:Rl}{c:Cl}{es:List Ce}{u:Int}{out:List Cs}{now:Cs}{i:Nat}{go:fU->Option cg}(hr:RlV r)(hu2:u<=40000000)(hlen:es.length<=20)(hI:RunI r c es u out now i)(h0:i=es.length)(hn:rk now.s<n)(vd:Lv)(hv:True):
  ∃q:Lv×Lv,(bif decide ((i:Int)<(es.length:Int))then none else aa (fun go1 s=>sB n go go1 r.a r.c r.s r.r c.n c.f c.t c.h c.a c.b (ceL es) u vd (i:Int) s.1 s.2.1 s.2.2.2) n (csL out,now.s,now.f,now.n))=some q/\q.1=csL (de u (an r c es)):=by
 have c7:¬(i:Int)<(es.length:Int):=by omega
 have hnone:∀e,¬es[i]?=some e:=fun e he=>by have:=(List.getElem?_eq_some_iff.1 he).1;omega
 simp only[c7,decide_false,cond_false];refine ir (fun s=>∃(out:List Cs) (now:Cs),s=(csL out,now.s,now.f,now.n)/\RunI r c es u out now i) (fun s=>rk s.2.1) (fun q:Lv×Lv=>q.1=csL (de u (an r c es))) ?_ n _ ⟨out,now,rfl,hI⟩ hn
 rintro _ go1 ⟨out,now,rfl,hI⟩ ih1;simp only
 unfold sB;have hol:=hI.len hlen;obtain⟨s,f,hf,f0,f1⟩:=hI.form;have hact:=H9 hr (s:=s) f0;rw[<-hf]at hact;have c11:((out.length:Int)+1)*24<=140737488355328:=by omega
 have hne:(i:Int)=((ceL es).length:Int):=by simp;omega
 rw[show decide ((i:Int)=((ceL es).length:Int))=true from decide_eq_true hne]
 simp only[List.length_map,c11,decide_true];simp only[cond_true,vL,Option.bind_some];by_cases hn0:0<=now.n
 ·simp only[hn0,decide_true,cond_true]
  by_cases hnm:now.n<=u
  ·simp only[hnm,decide_true,cond_true,iY n r hr (aft now.s) now.n hn0 (by omega),Option.bind_some,stT]
   exact ih1 _ ⟨out++[st r (aft now.s) now.n],_,by simp,hI.auto hr hu2 (hact.1 hn0) (fun e' he'=>absurd he' (hnone e')) hnm⟩ (dg (hact.1 hn0))
  ·simp only[hnm,decide_false,cond_false]
   exact⟨_,rfl,by rw[hI.done hr (fun _=>by omega) (fun e' he'=>absurd he' (hnone e'))]⟩
 ·simp only[hn0,decide_false,cond_false]
  exact⟨_,rfl,by rw[hI.done hr (fun h=>absurd (hact.2 h) hn0) (fun e' he'=>absurd he' (hnone e'))]⟩
theorem BU(n:Nat)(r:Rl)(c:Cl)(es:List Ce)(u:Int)(h:cD r c es)(hn:200<n)(hu1:c.a<=u)(hu2:u<=40000000):
  ∃vd,jW n r.a r.c r.s r.r c.n c.f c.t c.h c.a c.b (ceL es) u=some (csL (de u (an r c es)),vd):=by
 obtain⟨hr,hcl,hlen,hE⟩:=h;have ha0:0<=c.a/\c.a<=10000000:=by unfold ClV at hcl;omega
 have main:∃q:Lv×Lv,jW n r.a r.c r.s r.r c.n c.f c.t c.h c.a c.b (ceL es) u=some q/\q.1=csL (de u (an r c es)):=by
  unfold jW BL;rw[iY n r hr 1 c.a (by omega) (by omega)]
  simp only[Option.bind_some];refine ir (fun s=>∃(out:List Cs) (vd:Lv) (i:Nat) (now:Cs),s=(csL out,vd,(i:Int))/\vd.length<=i/\RunI r c es u out now i) (fun s=>es.length+1-s.2.2.toNat) (fun q:Lv×Lv=>q.1=csL (de u (an r c es))) ?_ n _
   ⟨[x0 r c],[],0,x0 r c,rfl,by simp,by omega,rfl,⟨1,c.a,rfl,by omega,by omega⟩,by unfold an;rw[tB (by exact hu1)];simp,⟨c.a,by omega,by simpa using hE⟩⟩ (by simp;omega)
  rintro _ go ⟨out,vd,i,now,rfl,hvd,hI⟩ ih;simp only
  unfold BY Bs;have hpos:=Jj hI.last;have hol:=hI.len hlen;have hle:=hI.le;have c1:(i:Int)<=(es.length:Int):=by omega
  have c2:(-9223372036854775808:Int)<=(out.length:Int)-1:=by omega
  have c3:(out.length:Int)-1<=(9223372036854775807:Int):=by omega
  have c4:(0:Int)<=(out.length:Int)-1:=by omega
  have c5:(out.length:Int)-1<(out.length:Int):=by omega
  have l0:cI (csL out) ((out.length:Int)-1) 0=now.s:=by simp only[cI,j5 hI.last];rfl
  have l1:cI (csL out) ((out.length:Int)-1) 1=now.f:=by simp only[cI,j5 hI.last];rfl
  have l2:cI (csL out) ((out.length:Int)-1) 2=now.n:=by simp only[cI,j5 hI.last];rfl
  have c6:(0:Int)<=(i:Int):=by omega
  have c8:(-9223372036854775808:Int)<=(i:Int)+1:=by omega
  have c9:(i:Int)+1<=(9223372036854775807:Int):=by omega
  have c10:((vd.length:Int)+1)*8<=140737488355328:=by omega
  simp only[List.length_map,c1,c2,c3,c4,c5,c6,l0,l1,l2,decide_true,cond_true,Bool.and_self];have stat:∀(out:List Cs) (now:Cs),RunI r c es u out now i->∃s f,now=st r s f/\0<=f/\f<=40000000:=fun _ _ h=>h.form
  by_cases hlt:i<es.length
  ·as_aux_lemma=>
   have c7:(i:Int)<(es.length:Int):=by omega
   obtain⟨e,he⟩:=aD hlt;have hc:∀k,cA (ceL es) (i:Int) k=(ceR e).getD k (.int 0):=fun k=>bv (by simpa using he)
   have g0:cI (ceL es) i 0=e.k:=by simp only[cI,hc];rfl
   have g1:cI (ceL es) i 1=e.a:=by simp only[cI,hc];rfl
   have g2:cI (ceL es) i 2=e.r:=by simp only[cI,hc];rfl
   simp only[c7,decide_true,cond_true];refine ir (fun s=>∃(out:List Cs) (now:Cs),s=(csL out,now.s,now.f,now.n)/\RunI r c es u out now i) (fun s=>rk s.2.1) (fun q:Lv×Lv=>q.1=csL (de u (an r c es))) ?_ n _ ⟨out,now,rfl,hI⟩ (by have:=eT now.s;simp only;omega)
   rintro _ go1 ⟨out,now,rfl,hI⟩ ih1;simp only
   unfold BM;have hol:=hI.len hlen;obtain⟨s,f,hf,f0,f1⟩:=hI.form;have hact:=H9 hr (s:=s) f0;rw[<-hf]at hact;have e0:0<=e.a/\e.a<=20000000:=by
    obtain⟨l,l0,hE'⟩:=hI.evs;rw[cJ he]at hE';have:=hE'.1.2.2
    omega
   have c11:((out.length:Int)+1)*24<=140737488355328:=by omega
   have hne:¬(i:Int)=(es.length:Int):=by omega
   simp only[g0,g1,g2,List.length_map,c8,c9,c10,c11,hne,decide_true,decide_false,cond_true,cond_false,Bool.and_self,vL,DU,Option.bind_some];have tail:¬(act now/\now.n<=af e.a u)->∃q:Lv×Lv,(bif decide (u<e.a)then some (csL out,vd)else bif decide (bec c.b now.s e<0)then go (csL out,vd++[[AV.int (i:Int)]],(i:Int)+1)else
     (ct n r.a r.c r.s r.r (bec c.b now.s e) e.a).bind fun y23=>go (csL out++[[AV.int y23.1,AV.int y23.2.1,AV.int y23.2.2]],vd,(i:Int)+1))=some q/\q.1=csL (de u (an r c es)):=fun hna=>by
    by_cases hue:u<e.a
    ·simp only[hue,decide_true,cond_true]
     refine⟨_,rfl,?_⟩
     have hm:af e.a u=u:=by unfold af;rw[if_pos hue]
     rw[hm]at hna;rw[hI.done hr (fun ha=>by have:¬now.n<=u:=fun h=>hna ⟨ha,h⟩;omega) (fun e' he'=>by rw[he]at he';cases he';exact hue)]
    ·have hm:af e.a u=e.a:=by unfold af;rw[if_neg hue]
     rw[hm]at hna;simp only[hue,decide_false,cond_false];by_cases hb:bec c.b now.s e<0
     ·simp only[hb,decide_true,cond_true]
      exact ih _ ⟨out,vd++[[AV.int (i:Int)]],i+1,now,by simp,by simp;omega,hI.void he hna hb⟩ (by simp only;omega)
     ·simp only[hb,decide_false,cond_false,iY n r hr (bec c.b now.s e) e.a e0.1 (by omega),Option.bind_some,stT]
      exact ih _ ⟨out++[st r (bec c.b now.s e) e.a],vd,i+1,_,by simp,by omega,hI.event he hna hb (by omega)⟩ (by simp only;omega)
   by_cases hn0:0<=now.n
   ·simp only[hn0,decide_true,cond_true]
    by_cases hnm:now.n<=af e.a u
    ·have hle:now.n<=e.a/\now.n<=u:=by unfold af at hnm;split at hnm<;>omega
     simp only[hnm,decide_true,cond_true,iY n r hr (aft now.s) now.n hn0 (by omega),Option.bind_some,stT]
     exact ih1 _ ⟨out++[st r (aft now.s) now.n],_,by simp,hI.auto hr hu2 (hact.1 hn0) (fun e' he'=>by rw[he]at he';cases he';exact hle.1) hle.2⟩ (dg (hact.1 hn0))
    ·simp only[hnm,decide_false,cond_false]
     exact tail fun h=>hnm h.2
   ·simp only[hn0,decide_false,cond_false]
    exact tail fun h=>hn0 (hact.2 h.1)
  ·have c7:¬(i:Int)<(es.length:Int):=by omega
   have:=PO (n:=n) (go:=go) hr hu2 hlen hI (by omega) (by have:=eT now.s;omega) vd trivial
   simp only[c7,decide_false,cond_false]at this⊢;exact this
 obtain⟨⟨q1,q2⟩,h1,h2⟩:=main;exact⟨q2,by rw[h1];simp only at h2;rw[h2]⟩
theorem CU(n:Nat)(r:Rl)(c:Cl)(es:List Ce)(t:Int)(hn:200<n):jF n r.a r.c r.s r.r c.n c.f c.t c.h c.a c.b (ceL es) t=some ((Fw r c es t).1.s,(Fw r c es t).1.f,(Fw r c es t).1.n,(Fw r c es t).2):=by
 unfold jF rX Fw Ei;rw[nn n r c es (by omega)]
 by_cases hv:cD r c es
 ·simp only[hv,decide_true,Option.bind_some,Bool.not_true,cond_false,true_and]
  by_cases h0:0<=t
  ·by_cases h1:t<=20000000
   ·by_cases h2:t<c.a
    ·simp only[h0,h1,h2,decide_true,Bool.not_true,cond_false,cond_true,and_self,if_true]
     have:de t (an r c es)=[]:=by
      unfold an de;rw[List.takeWhile_cons];simp[x0,st];omega
     unfold yV;rw[this];rfl
    ·obtain⟨vd,hrun⟩:=BU n r c es t hv hn (by omega) (by omega)
     simp only[h0,h1,h2,hrun,decide_true,decide_false,Bool.not_true,cond_false,cond_true,and_self,if_true,Option.bind_some];unfold yV;obtain⟨out,hout⟩:∃out,out=de t (an r c es):=⟨_,rfl⟩
     rw[<-hout];have hne:out≠[]:=by
      rw[hout];unfold an;rw[tB (by simp[x0,st];omega)]
      simp
     obtain⟨now,hl⟩:∃now,out.getLast?=some now:=⟨_,List.getLast?_eq_some_getLast hne⟩
     have hpos:=Jj hl;have hlen:out.length<=110:=by
      have k1:(de t (an r c es)).length<=(an r c es).length:=by unfold de;exact List.Sublist.length_le (List.takeWhile_sublist _)
      have k2:=Iw (r:=r) (b:=c.b) _ (x0 r c) es (Nat.le_refl _);have k3:=eT (x0 r c).s;have k4:=hv.2.2.1;rw[<-hout]at k1;unfold an at k1;simp only[List.length_cons]at k1;omega
     have c2:(-9223372036854775808:Int)<=(out.length:Int)-1:=by omega
     have c3:(out.length:Int)-1<=(9223372036854775807:Int):=by omega
     have c4:(0:Int)<=(out.length:Int)-1:=by omega
     have c5:(out.length:Int)-1<(out.length:Int):=by omega
     have l0:cI (csL out) ((out.length:Int)-1) 0=now.s:=by simp only[cI,j5 hl];rfl
     have l1:cI (csL out) ((out.length:Int)-1) 1=now.f:=by simp only[cI,j5 hl];rfl
     have l2:cI (csL out) ((out.length:Int)-1) 2=now.n:=by simp only[cI,j5 hl];rfl
     simp only[List.length_map,c2,c3,c4,c5,l0,l1,l2,decide_true,Bool.and_self];simp only[cond_true,hl,Option.getD_some]
   ·have:¬(0<=t/\t<=20000000):=fun h=>h1 h.2
    simp[h0,h1]
  ·simp[h0]
 ·simp[hv]
theorem mX{α:Type}{p:α->Bool}:∀ {l:List α},(∀x∈l,p x=true)->l.takeWhile p=l
 |[],_=>rfl
 |x::l,h=>by
  rw[List.takeWhile_cons,h x (List.mem_cons_self ..),if_pos rfl,mX fun y hy=>h y (List.mem_cons_of_mem _ hy)]
theorem NO{r:Rl}{c:Cl}{es:List Ce}(h:cD r c es){u:Int}(hu:23000000<=u):de u (an r c es)=an r c es:=by
 obtain⟨hr,hc,hl,hE⟩:=h;unfold ClV at hc;unfold de;refine mX fun x hx=>?_
 unfold an at hx;have h0:(x0 r c).f=c.a:=rfl
 rcases List.mem_cons.1 hx with rfl|hx
 ·simp;omega
 ·have:=Ph hr (b:=c.b) (now:=x0 r c) (es:=es) (by rw[h0];have:=eT (x0 r c).s;omega) (fun _=>(nh hr (s:=1) (f:=c.a) (by omega)).2) (fun e he=>(sZ hE e he).2) x hx
  simp;omega
theorem Co(n:Nat)(r:Rl)(c:Cl)(es:List Ce)(hn:200<n):iW n r.a r.c r.s r.r c.n c.f c.t c.h c.a c.b (ceL es)=some (if cD r c es then(csL (an r c es),0)else([],160)):=by
 unfold iW qh;rw[nn n r c es (by omega)]
 by_cases hv:cD r c es
 ·have hc:=hv.2.1
  unfold ClV at hc;obtain⟨vd,hrun⟩:=BU n r c es 40000000 hv hn (by omega) (by omega)
  simp only[hv,hrun,decide_true,Option.bind_some,Bool.not_true,cond_false,if_true,NO hv (show(23000000:Int)<=40000000 by decide)]
 ·simp[hv]
def mr(v:Int):Int:=if pk (Int.tdiv v 16) 4=3 then 1+pk v 86400 else 1+pk v 12
theorem qF(v:Int):1<=mr v/\mr v<=86400:=by
 have h1:=aY v (k:=86400) (by decide)
 have h2:=aY v (k:=12) (by decide)
 unfold mr;split<;>omega
theorem xz{v:Int}(h:ae v):ae (Int.tdiv v 16):=by
 unfold ae at h⊢
 rcases Int.le_total 0 v with h0|h0
 ·rw[Int.tdiv_eq_ediv_of_nonneg h0];omega
 ·obtain⟨w,rfl⟩:∃w,v= -w:=⟨-v,by omega⟩
  rw[Int.neg_tdiv,Int.tdiv_eq_ediv_of_nonneg (by omega)];omega
theorem nG(n:Nat)(a b c d:Int)(ha:ae a)(hb:ae b)(hc:ae c)(hd:ae d):ea n a b c d=some (mr a,mr b,mr c,mr d):=by
 have key:∀v,(0<=pk v 12/\pk v 12<12)/\0<=pk v 86400/\pk v 86400<86400:=fun v=>⟨aY v (by decide),aY v (by decide)⟩
 have ta:=xz ha;have tb:=xz hb;have tc:=xz hc;have td:=xz hd;unfold ea nL nt mr;have p4:(0:Int)<4:=by decide
 have p12:(0:Int)<12:=by decide
 have pd:(0:Int)<86400:=by decide
 simp only[aO n ha p12,aO n hb p12,aO n hc p12,aO n hd p12,aO n ha pd,aO n hb pd,aO n hc pd,aO n hd pd,
  aO n ta p4,aO n tb p4,aO n tc p4,aO n td p4,Option.bind_some]
 have ka:=key a;have kb:=key b;have kc:=key c;have kd:=key d;unfold ae at ta tb tc td;generalize pk (Int.tdiv a 16) 4=x1
 generalize pk (Int.tdiv b 16) 4=x2
 generalize pk (Int.tdiv c 16) 4=x3
 generalize pk (Int.tdiv d 16) 4=x4
 generalize Int.tdiv a 16=y1 at *
 generalize Int.tdiv b 16=y2 at *
 generalize Int.tdiv c 16=y3 at *
 generalize Int.tdiv d 16=y4 at *
 generalize pk a 12=a1 at *
 generalize pk b 12=b1 at *
 generalize pk c 12=c1 at *
 generalize pk d 12=d1 at *
 generalize pk a 86400=a2 at *
 generalize pk b 86400=b2 at *
 generalize pk c 86400=c2 at *
 generalize pk d 86400=d2 at *
 have r1:∀z:Int,0<=z->z<86400->(decide ((-9223372036854775808:Int)<=1+z)&&decide (1+z<=9223372036854775807))=true:=fun z h1 h2=>by simp;omega
 simp only[r1 a1 ka.1.1 (by omega),r1 b1 kb.1.1 (by omega),r1 c1 kc.1.1 (by omega),r1 d1 kd.1.1 (by omega),r1 a2 ka.2.1 (by omega),r1 b2 kb.2.1 (by omega),r1 c2 kc.2.1 (by omega),r1 d2 kd.2.1 (by omega),ta,tb,tc,td,decide_true,Bool.and_self]
 simp only[cond_true];by_cases h1:x1=3<;>by_cases h2:x2=3<;>by_cases h3:x3=3<;>by_cases h4:x4=3<;>simp only[h1,h2,h3,h4,decide_true,decide_false,if_true,if_false]<;>rfl
end Go.Proofs.YtgckmifmjiklmaaGreat
namespace Go.Proofs.YtgckmifmjiklmaaGreat
open Go Go.Sx Go.Dial.Lif
theorem Kx{es:List Ev}(h:All first es){t:Int}{i:Nat}{e:Ev}(he:es[i]?=some e):i<ee es t↔e.a<=t:=by
 obtain⟨hl,rfl⟩:=List.getElem?_eq_some_iff.1 he;constructor
 ·intro h;exact KW h
 ·intro ht
  rcases Nat.lt_or_ge i (ee es t)with h1|h1
  ·exact h1
  ·have h2:=KQ (es:=es) (t:=t) (by omega)
   have h3:=LU h h1 hl;omega
theorem NF(n:Nat)(es:List Ev)(t:Int)(hn:es.length<n):AF n (lfL es) t=some (if nq es t then((atL es t).s,(atL es t).h,(atL es t).e,(atL es t).t,true)else(0,0,0,0,false)):=by
 unfold AF Gj;rw[uD n es hn];simp only[Option.bind_some,nc];by_cases hL:fu es
 ·by_cases ht:0<=t/\t<=10000000
  ·have hA:nq es t:=⟨hL,ht⟩
   simp only[j4 hL,hA,ht.1,ht.2,decide_true,Bool.not_true,cond_false,cond_true,if_true];have hle:=AW es t;have h40:=hL.2;refine ar (fun s=>∃i j:Nat,s=((i:Int),(j:Int))/\i<=ee es t/\ee es t<=j/\j<=es.length) (fun s=>(s.2-s.1).toNat) _ ?_ n _ ⟨0,es.length,by simp,by omega,by omega,by omega⟩ (by simp;omega)
   rintro _ go ⟨i,j,rfl,h1,h2,h3⟩ ih;simp only
   unfold Fz;by_cases hij:i<j
   ·have c1:(i:Int)<(j:Int):=by omega
    have c2:(-9223372036854775808:Int)<=(i:Int)+j:=by omega
    have c3:(i:Int)+j<=(9223372036854775807:Int):=by omega
    obtain⟨k,hk⟩:∃k,k=(i+j) / 2:=⟨_,rfl⟩
    have hh:IntKind.wrap .i64 (iN .shr .u64 (IntKind.wrap .u64 ((i:Int)+j)) 1)=(k:Int):=by
     rw[Ry (by omega) (by omega) (by omega)];omega
    have c4:(0:Int)<=(k:Int):=by omega
    have c5:(k:Int)<(es.length:Int):=by omega
    have c6:(-9223372036854775808:Int)<=(k:Int)+1:=by omega
    have c7:(k:Int)+1<=(9223372036854775807:Int):=by omega
    have c8:(0:Int)<=1:=by omega
    obtain⟨e,he⟩:=aD (show k<es.length by omega)
    have hc:cI (lfL es) k 1=e.a:=by simp only[cI];rw[bv (by simpa using he)];rfl
    have hu:=Kx hL.1 (t:=t) he;simp only[c1,c2,c3,hh,c4,c5,c6,c7,c8,hc,List.length_map,decide_true,cond_true,Bool.and_self];by_cases hlt:t<e.a
    ·simp only[hlt,decide_true,Bool.not_true,cond_false]
     refine ih _ ⟨i,k,rfl,h1,?_,by omega⟩ (by simp only;omega)
     have:¬k<ee es t:=fun h=>by have:=hu.1 h;omega
     omega
    ·simp only[hlt,decide_false,Bool.not_false,cond_true]
     refine ih _ ⟨k+1,j,rfl,?_,h2,h3⟩ (by simp only;omega)
     have:=hu.2 (by omega)
     omega
   ·have c1:¬(i:Int)<(j:Int):=by omega
    have c2:(0:Int)<=(i:Int):=by omega
    have c3:(i:Int)<=(es.length:Int):=by omega
    have hi:i=ee es t:=by omega
    have hT:List.take (i:Int).toNat (lfL es)=lfL (es.take i):=by
     rw[<-List.map_take];rfl
    simp only[c1,c2,c3,List.length_map,decide_true,decide_false,cond_true,cond_false,hT];rw[uD n (es.take i) (by simp;omega)]
    simp only[Option.bind_some,nc,j4 (Nc hL i)];unfold atL;rw[<-hi]
  ·have hA:¬nq es t:=fun h=>ht h.2
   simp only[j4 hL,hA,decide_true,Bool.not_true,cond_false,if_false];grind
 ·have hA:¬nq es t:=fun h=>hL h.1
  simp[AY hL,hA]
theorem M2(n:Nat)(es:List Ev)(t:Int)(hn:es.length<n):oH n (lfL es) t=some (atT es t):=by
 unfold oH FW;rw[NF n es t hn];unfold atT atR;by_cases h:nq es t<;>simp[h,zero]
theorem Gq(n:Nat)(l:Ln)(x:Int×Int×Int)(hl:Vld l)(h1:ae x.1)(h2:ae x.2.1)(h3:ae x.2.2):∃e:Ev,jr n l.s l.h l.e l.t x.1 x.2.1 x.2.2=some (e.k,e.a,e.h):=by
 obtain⟨s,g,p,t⟩:=l;obtain⟨x,y,z⟩:=x;unfold Vld at hl;simp only at hl h1 h2 h3⊢
 have q5:=aY x (k:=5) (by decide)
 have q3:=aY x (k:=3) (by decide)
 have q2:=aY x (k:=2) (by decide)
 have q1:=aY x (k:=1) (by decide)
 have r6:=aY y (k:=6) (by decide)
 have w5:=aY z (k:=5) (by decide)
 have key:∃w:Int×Int×Int,jr n s g p t x y z=some w:=by
  unfold jr vM wY;simp only[fJ n h1 (show(0:Int)<5 by decide),fJ n h1 (show(0:Int)<3 by decide),fJ n h1 (show(0:Int)<2 by decide),fJ n h1 (show(0:Int)<1 by decide),
   fJ n h2 (show(0:Int)<6 by decide),fJ n h3 (show(0:Int)<5 by decide),Option.bind_some]
  generalize pk x 5=a5 at *
  generalize pk x 3=a3 at *
  generalize pk x 2=a2 at *
  generalize pk x 1=a1 at *
  generalize pk y 6=b at *
  generalize pk z 5=c at *
  have n1:(-9223372036854775808:Int)<=b+2592000:=by omega
  have n2:b+2592000<=(9223372036854775807:Int):=by omega
  have n3:(-9223372036854775808:Int)<=t+(b+2592000):=by omega
  have n4:t+(b+2592000)<=(9223372036854775807:Int):=by omega
  have n5:(-9223372036854775808:Int)<=t+b:=by omega
  have n6:t+b<=(9223372036854775807:Int):=by omega
  have n7:(-9223372036854775808:Int)<=c+1:=by omega
  have n8:c+1<=(9223372036854775807:Int):=by omega
  simp only[q5,q3,q2,q1,n1,n2,n3,n4,n5,n6,n7,n8,decide_true,Bool.and_self,cond_true];cases decide (s=1)<;>cases decide (s=2)<;>cases decide (s=3)<;>simp only[cond_true,cond_false]<;>(repeat' (split<;>try exact⟨_,rfl⟩))<;>first|exact⟨_,rfl⟩|(simp only[Bool.cond_eq_ite];repeat' (split<;>try exact⟨_,rfl⟩))
 obtain⟨w,hw⟩:=key;exact⟨⟨w.1,w.2.1,w.2.2⟩,hw⟩
theorem Ja(n:Nat)(xs:List (Int×Int×Int))(hx:∀x∈xs,ae x.1/\ae x.2.1/\ae x.2.2)(hn:16<n):∃es,kz n (xs.map bG)=some (lfL es)/\All first es/\es.length<=16:=by
 have main:∃r,kz n (xs.map bG)=some r/\∃es,r=lfL es/\All first es/\es.length<=16:=by
  unfold kz yN;refine ir (fun s=>∃(i:Nat) (es:List Ev) (l:Ln),s=(lfL es,(i:Int),l.s,l.h,l.e,l.t)/\All first es/\es.length<=i/\i<=16/\l=fin first es) (fun s=>16-s.2.1.toNat) (fun r=>∃es,r=lfL es/\All first es/\es.length<=16) ?_ n _ ⟨0,[],first,rfl,trivial,by simp,by omega,rfl⟩ (by simp;omega)
  rintro _ go ⟨i,es,l,rfl,hA,hle,hi,hl⟩ ih;simp only
  unfold yO;have done:∃r,some (lfL es)=some r/\∃es,r=lfL es/\All first es/\es.length<=16:=⟨_,rfl,es,rfl,hA,by omega⟩
  by_cases h1:i<xs.length
  ·by_cases h2:i<16
   ·obtain⟨x,hxe⟩:=aD h1
    have hc:∀k,cA (xs.map bG) (i:Int) k=(bG x).getD k (.int 0):=fun k=>bv (by simpa using hxe)
    have g0:cI (xs.map bG) i 0=x.1:=by simp only[cI,hc];rfl
    have g1:cI (xs.map bG) i 1=x.2.1:=by simp only[cI,hc];rfl
    have g2:cI (xs.map bG) i 2=x.2.2:=by simp only[cI,hc];rfl
    obtain⟨b1,b2,b3⟩:=hx x (List.mem_of_getElem? hxe);have hv:Vld l:=by rw[hl];exact KO FZ hA
    obtain⟨e,he⟩:=Gq n l x hv b1 b2 b3;have c1:(i:Int)<(xs.length:Int):=by omega
    have c2:(i:Int)<16:=by omega
    have c3:(0:Int)<=(i:Int):=by omega
    have c4:(-9223372036854775808:Int)<=(i:Int)+1:=by omega
    have c5:(i:Int)+1<=(9223372036854775807:Int):=by omega
    have c6:((es.length:Int)+1)*24<=140737488355328:=by omega
    simp only[g0,g1,g2,he,pf n l e,List.length_map,c1,c2,c3,c4,c5,c6,decide_true,cond_true,Bool.and_self,Option.bind_some,jc];by_cases hok:Go.Dial.Lif.Ok l e
    ·simp only[pZ hok,decide_true,cond_true]
     exact ih _ ⟨i+1,es++[e],nxt l e,by simp,by rw[tN];exact⟨hA,by rw[<-hl];exact⟨hok,trivial⟩⟩,by simp;omega,by omega,by rw[AS,<-hl];rfl⟩ (by simp only;omega)
    ·have e140:decide ((140:Int)=0)=false:=rfl
     simp only[ip hok,e140,cond_false];exact ih _ ⟨i+1,es,l,by simp,hA,by omega,by omega,hl⟩ (by simp only;omega)
   ·have c1:(i:Int)<(xs.length:Int):=by omega
    have c2:¬(i:Int)<16:=by omega
    simp only[List.length_map,c1,c2,decide_true,decide_false,cond_true,cond_false];exact done
  ·have c1:¬(i:Int)<(xs.length:Int):=by omega
   simp only[List.length_map,c1,decide_false,cond_false];exact done
 obtain⟨r,h1,es,rfl,h2,h3⟩:=main;exact⟨es,h1,h2,h3⟩
end Go.Proofs.YtgckmifmjiklmaaGreat
