/-
  Texts of this claim, joined (part 6).
-/
import Derived.Test.YtgckmifmjiklmaaGreatJG5
import Derived.Lib.Hide
set_option linter.unusedVariables false
set_option linter.unusedSimpArgs false
set_option linter.unusedSectionVars false
set_option linter.constructorNameAsVariable false
set_option maxRecDepth 100000
namespace Go.Proofs.YtgckmifmjiklmaaGreat
open Go Go.Sx
noncomputable section
abbrev ap:=Int×Int×Int×Int
abbrev bI:=Int×Lv×Int×Int×Int×Int×Int×Int
abbrev bx:=Int×Int×Int×Int×Int×Int
def CD(n:Nat)(go0:bI->Option ap)(go1:bx->Option ap)(v9:Bool)(v10:Lv)(v11 v13:Int)(v14:Lv)(v21 v22 v23 v24 v25 v26:Int):Option ap:=
 (bif((cI v10 v13 0)=5)&&(v24=2)then(bif (cI v10 v13 2)=1 then(bif(v9==true)then bif (((v14.length:Int)+1)*8)<=140737488355328 then bif(-9223372036854775808<=(v13+1))&&((v13+1)<=9223372036854775807)then go0 ((v13+1),(v14++[[(AV.int v13)]]),v21,v22,v23,v24,v25,v26)else none else none else(bif v11<(cI v10 v13 1) then some (v21,v22,v23,0)else bif(-9223372036854775808<=(v13+1))&&((v13+1)<=9223372036854775807)then go0 ((v13+1),v14,7,(cI v10 v13 1),(-1),7,(cI v10 v13 1),(-1))else none))else(bif v11<(cI v10 v13 1) then some (v21,v22,v23,0)else bif(-9223372036854775808<=(v13+1))&&((v13+1)<=9223372036854775807)then go0 ((v13+1),v14,7,(cI v10 v13 1),(-1),7,(cI v10 v13 1),(-1))else none))else(bif((cI v10 v13 0)=5)&&(v24=3)then(bif (cI v10 v13 2)=1 then(bif(v9==true)then bif (((v14.length:Int)+1)*8)<=140737488355328 then bif(-9223372036854775808<=(v13+1))&&((v13+1)<=9223372036854775807)then go0 ((v13+1),(v14++[[(AV.int v13)]]),v21,v22,v23,v24,v25,v26)else none else none else(bif v11<(cI v10 v13 1) then some (v21,v22,v23,0)else bif(-9223372036854775808<=(v13+1))&&((v13+1)<=9223372036854775807)then go0 ((v13+1),v14,7,(cI v10 v13 1),(-1),7,(cI v10 v13 1),(-1))else none))else(bif v11<(cI v10 v13 1) then some (v21,v22,v23,0)else bif(-9223372036854775808<=(v13+1))&&((v13+1)<=9223372036854775807)then go0 ((v13+1),v14,7,(cI v10 v13 1),(-1),7,(cI v10 v13 1),(-1))else none))else(bif((cI v10 v13 0)=6)&&(v24=4)then(bif (cI v10 v13 2)=1 then(bif(v9==true)then bif (((v14.length:Int)+1)*8)<=140737488355328 then bif(-9223372036854775808<=(v13+1))&&((v13+1)<=9223372036854775807)then go0 ((v13+1),(v14++[[(AV.int v13)]]),v21,v22,v23,v24,v25,v26)else none else none else(bif v11<(cI v10 v13 1) then some (v21,v22,v23,0)else bif(-9223372036854775808<=(v13+1))&&((v13+1)<=9223372036854775807)then go0 ((v13+1),v14,8,(cI v10 v13 1),(-1),8,(cI v10 v13 1),(-1))else none))else(bif v11<(cI v10 v13 1) then some (v21,v22,v23,0)else bif(-9223372036854775808<=(v13+1))&&((v13+1)<=9223372036854775807)then go0 ((v13+1),v14,8,(cI v10 v13 1),(-1),8,(cI v10 v13 1),(-1))else none))else(bif (cI v10 v13 2)=1 then(bif (cI v10 v13 0)=2 then bif (((v14.length:Int)+1)*8)<=140737488355328 then bif(-9223372036854775808<=(v13+1))&&((v13+1)<=9223372036854775807)then go0 ((v13+1),(v14++[[(AV.int v13)]]),v21,v22,v23,v24,v25,v26)else none else none else bif (((v14.length:Int)+1)*8)<=140737488355328 then bif(-9223372036854775808<=(v13+1))&&((v13+1)<=9223372036854775807)then go0 ((v13+1),(v14++[[(AV.int v13)]]),v21,v22,v23,v24,v25,v26)else none else none)else bif (((v14.length:Int)+1)*8)<=140737488355328 then bif(-9223372036854775808<=(v13+1))&&((v13+1)<=9223372036854775807)then go0 ((v13+1),(v14++[[(AV.int v13)]]),v21,v22,v23,v24,v25,v26)else none else none))))
def Ck(n:Nat)(go0:bI->Option ap)(go1:bx->Option ap)(v9:Bool)(v10:Lv)(v11 v13:Int)(v14:Lv)(v21 v22 v23 v24 v25 v26:Int):Option ap:=
 (bif((cI v10 v13 0)=5)&&(v24=1)then(bif (cI v10 v13 2)=1 then(bif(v9==true)then bif (((v14.length:Int)+1)*8)<=140737488355328 then bif(-9223372036854775808<=(v13+1))&&((v13+1)<=9223372036854775807)then go0 ((v13+1),(v14++[[(AV.int v13)]]),v21,v22,v23,v24,v25,v26)else none else none else(bif v11<(cI v10 v13 1) then some (v21,v22,v23,0)else bif(-9223372036854775808<=(v13+1))&&((v13+1)<=9223372036854775807)then go0 ((v13+1),v14,7,(cI v10 v13 1),(-1),7,(cI v10 v13 1),(-1))else none))else(bif v11<(cI v10 v13 1) then some (v21,v22,v23,0)else bif(-9223372036854775808<=(v13+1))&&((v13+1)<=9223372036854775807)then go0 ((v13+1),v14,7,(cI v10 v13 1),(-1),7,(cI v10 v13 1),(-1))else none))else CD n go0 go1 v9 v10 v11 v13 v14 v21 v22 v23 v24 v25 v26)
def CI(n:Nat)(go0:bI->Option ap)(go1:bx->Option ap)(v9:Bool)(v10:Lv)(v11 v13:Int)(v14:Lv)(v21 v22 v23 v24 v25 v26:Int):Option ap:=
 (bif((cI v10 v13 0)=4)&&(v24=2)then(bif (cI v10 v13 2)=1 then(bif(v9==true)then bif (((v14.length:Int)+1)*8)<=140737488355328 then bif(-9223372036854775808<=(v13+1))&&((v13+1)<=9223372036854775807)then go0 ((v13+1),(v14++[[(AV.int v13)]]),v21,v22,v23,v24,v25,v26)else none else none else(bif v11<(cI v10 v13 1) then some (v21,v22,v23,0)else bif(-9223372036854775808<=(v13+1))&&((v13+1)<=9223372036854775807)then go0 ((v13+1),v14,6,(cI v10 v13 1),(-1),6,(cI v10 v13 1),(-1))else none))else(bif v11<(cI v10 v13 1) then some (v21,v22,v23,0)else bif(-9223372036854775808<=(v13+1))&&((v13+1)<=9223372036854775807)then go0 ((v13+1),v14,6,(cI v10 v13 1),(-1),6,(cI v10 v13 1),(-1))else none))else Ck n go0 go1 v9 v10 v11 v13 v14 v21 v22 v23 v24 v25 v26)
def Cd(n:Nat)(go0:bI->Option ap)(go1:bx->Option ap)(v1:Int)(v9:Bool)(v10:Lv)(v11 v13:Int)(v14:Lv)(v21 v22 v23 v24 v25 v26:Int):Option ap:=
 (bif((cI v10 v13 0)=3)&&(v24=2)then(bif (cI v10 v13 2)=1 then(bif(v9==true)then bif (((v14.length:Int)+1)*8)<=140737488355328 then bif(-9223372036854775808<=(v13+1))&&((v13+1)<=9223372036854775807)then go0 ((v13+1),(v14++[[(AV.int v13)]]),v21,v22,v23,v24,v25,v26)else none else none else bif(-9223372036854775808<=((cI v10 v13 1)+v1))&&(((cI v10 v13 1)+v1)<=9223372036854775807)then(bif v11<(cI v10 v13 1) then some (v21,v22,v23,0)else bif(-9223372036854775808<=(v13+1))&&((v13+1)<=9223372036854775807)then go0 ((v13+1),v14,3,(cI v10 v13 1),((cI v10 v13 1)+v1),3,(cI v10 v13 1),((cI v10 v13 1)+v1))else none)else none)else bif(-9223372036854775808<=((cI v10 v13 1)+v1))&&(((cI v10 v13 1)+v1)<=9223372036854775807)then(bif v11<(cI v10 v13 1) then some (v21,v22,v23,0)else bif(-9223372036854775808<=(v13+1))&&((v13+1)<=9223372036854775807)then go0 ((v13+1),v14,3,(cI v10 v13 1),((cI v10 v13 1)+v1),3,(cI v10 v13 1),((cI v10 v13 1)+v1))else none)else none)else CI n go0 go1 v9 v10 v11 v13 v14 v21 v22 v23 v24 v25 v26)
def B8(n:Nat)(go0:bI->Option ap)(go1:bx->Option ap)(v1 v2:Int)(v9:Bool)(v10:Lv)(v11 v13:Int)(v14:Lv)(v21 v22 v23 v24 v25 v26:Int):Option ap:=
 (bif((cI v10 v13 0)=2)&&(v24=1)then(bif (cI v10 v13 2)=1 then(bif(v9==true)then bif (((v14.length:Int)+1)*8)<=140737488355328 then bif(-9223372036854775808<=(v13+1))&&((v13+1)<=9223372036854775807)then go0 ((v13+1),(v14++[[(AV.int v13)]]),v21,v22,v23,v24,v25,v26)else none else none else(bif v11<(cI v10 v13 1) then some (v21,v22,v23,0)else bif(-9223372036854775808<=(v13+1))&&((v13+1)<=9223372036854775807)then go0 ((v13+1),v14,6,(cI v10 v13 1),(-1),6,(cI v10 v13 1),(-1))else none))else bif(-9223372036854775808<=((cI v10 v13 1)+v2))&&(((cI v10 v13 1)+v2)<=9223372036854775807)then(bif v11<(cI v10 v13 1) then some (v21,v22,v23,0)else bif(-9223372036854775808<=(v13+1))&&((v13+1)<=9223372036854775807)then go0 ((v13+1),v14,2,(cI v10 v13 1),((cI v10 v13 1)+v2),2,(cI v10 v13 1),((cI v10 v13 1)+v2))else none)else none)else Cd n go0 go1 v1 v9 v10 v11 v13 v14 v21 v22 v23 v24 v25 v26)
def qW(n:Nat)(go0:bI->Option ap)(go1:bx->Option ap)(v1 v2:Int)(v9:Bool)(v10:Lv)(v11 v13:Int)(v14:Lv)(v21 v22 v23 v24 v25 v26:Int):Option ap:=
 (bif((cI v10 v13 0)=1)&&(v24=1)then(bif (cI v10 v13 2)=1 then(bif(v9==true)then bif (((v14.length:Int)+1)*8)<=140737488355328 then bif(-9223372036854775808<=(v13+1))&&((v13+1)<=9223372036854775807)then go0 ((v13+1),(v14++[[(AV.int v13)]]),v21,v22,v23,v24,v25,v26)else none else none else bif(-9223372036854775808<=((cI v10 v13 1)+v1))&&(((cI v10 v13 1)+v1)<=9223372036854775807)then(bif v11<(cI v10 v13 1) then some (v21,v22,v23,0)else bif(-9223372036854775808<=(v13+1))&&((v13+1)<=9223372036854775807)then go0 ((v13+1),v14,3,(cI v10 v13 1),((cI v10 v13 1)+v1),3,(cI v10 v13 1),((cI v10 v13 1)+v1))else none)else none)else bif(-9223372036854775808<=((cI v10 v13 1)+v1))&&(((cI v10 v13 1)+v1)<=9223372036854775807)then(bif v11<(cI v10 v13 1) then some (v21,v22,v23,0)else bif(-9223372036854775808<=(v13+1))&&((v13+1)<=9223372036854775807)then go0 ((v13+1),v14,3,(cI v10 v13 1),((cI v10 v13 1)+v1),3,(cI v10 v13 1),((cI v10 v13 1)+v1))else none)else none)else B8 n go0 go1 v1 v2 v9 v10 v11 v13 v14 v21 v22 v23 v24 v25 v26)
def Ee(n:Nat)(go0:bI->Option ap)(go1:bx->Option ap)(v1 v2 v3:Int)(v9:Bool)(v10:Lv)(v11 v13:Int)(v14:Lv)(v21 v22 v23 v24 v25 v26:Int):Option ap:=
 (bif v26<=(cI v10 v13 1) then(bif v24=1 then bif(-9223372036854775808<=(v26+v1))&&((v26+v1)<=9223372036854775807)then(bif v11<v26 then some (v21,v22,v23,0)else go1 (3,v26,(v26+v1),3,v26,(v26+v1)))else none else(bif v24=2 then bif(-9223372036854775808<=(v26+v1))&&((v26+v1)<=9223372036854775807)then(bif v11<v26 then some (v21,v22,v23,0)else go1 (3,v26,(v26+v1),3,v26,(v26+v1)))else none else(bif v24=3 then bif(-9223372036854775808<=(v26+v3))&&((v26+v3)<=9223372036854775807)then(bif v11<v26 then some (v21,v22,v23,0)else go1 (4,v26,(v26+v3),4,v26,(v26+v3)))else none else(bif v24=4 then(bif v11<v26 then some (v21,v22,v23,0)else go1 (5,v26,(-1),5,v26,(-1)))else(bif v11<v26 then some (v21,v22,v23,0)else go1 (0,v26,(-1),0,v26,(-1)))))))else qW n go0 go1 v1 v2 v9 v10 v11 v13 v14 v21 v22 v23 v24 v25 v26)
abbrev Cb:= @qW
def Ej(n:Nat)(go0:bI->Option ap)(go1:bx->Option ap)(v1 v2 v3:Int)(v9:Bool)(v10:Lv)(v11 v13:Int)(v14:Lv)(v21 v22 v23 v24 v25 v26:Int):Option ap:=
 (bif 0<=v26 then Ee n go0 go1 v1 v2 v3 v9 v10 v11 v13 v14 v21 v22 v23 v24 v25 v26 else Cb n go0 go1 v1 v2 v9 v10 v11 v13 v14 v21 v22 v23 v24 v25 v26)
def CO(n:Nat)(go0:bx->Option ap)(v1 v3 v11 v21 v22 v23 v24 v26:Int):Option ap:=
 (bif 0<=v26 then(bif v26<=4611686018427387904 then(bif v24=1 then bif(-9223372036854775808<=(v26+v1))&&((v26+v1)<=9223372036854775807)then(bif v11<v26 then some (v21,v22,v23,0)else go0 (3,v26,(v26+v1),3,v26,(v26+v1)))else none else(bif v24=2 then bif(-9223372036854775808<=(v26+v1))&&((v26+v1)<=9223372036854775807)then(bif v11<v26 then some (v21,v22,v23,0)else go0 (3,v26,(v26+v1),3,v26,(v26+v1)))else none else(bif v24=3 then bif(-9223372036854775808<=(v26+v3))&&((v26+v3)<=9223372036854775807)then(bif v11<v26 then some (v21,v22,v23,0)else go0 (4,v26,(v26+v3),4,v26,(v26+v3)))else none else(bif v24=4 then(bif v11<v26 then some (v21,v22,v23,0)else go0 (5,v26,(-1),5,v26,(-1)))else(bif v11<v26 then some (v21,v22,v23,0)else go0 (0,v26,(-1),0,v26,(-1)))))))else some (v21,v22,v23,0))else some (v21,v22,v23,0))
def El(n:Nat)(go0:bI->Option ap)(v1 v2 v3:Int)(v9:Bool)(v10:Lv)(v11 v13:Int)(v14:Lv)(v15 v16 v17 v18 v19 v20:Int):Option ap:=
 (bif v13<(v10.length:Int) then bif 0<=v13 then(aa (fun go1 s=>Ej n go0 go1 v1 v2 v3 v9 v10 v11 v13 v14 s.1 s.2.1 s.2.2.1 s.2.2.2.1 s.2.2.2.2.1 s.2.2.2.2.2) n ((v15,v16,v17,v18,v19,v20):bx))else none else(aa (fun go0 s=>CO n go0 v1 v3 v11 s.1 s.2.1 s.2.2.1 s.2.2.2.1 s.2.2.2.2.2) n ((v15,v16,v17,v18,v19,v20):bx)))
def DS(n:Nat)(v0 v1 v2 v3 v8:Int)(v9:Bool)(v10:Lv)(v11:Int):Option ap:=
 (bif v11<v8 then some (0,0,v8,0)else(aa (fun go0 s=>El n go0 v1 v2 v3 v9 v10 v11 s.1 s.2.1 s.2.2.1 s.2.2.2.1 s.2.2.2.2.1 s.2.2.2.2.2.1 s.2.2.2.2.2.2.1 s.2.2.2.2.2.2.2) n ((0,([]:Lv),1,v8,(v8+v0),1,v8,(v8+v0)):bI)))
def Ed(n:Nat)(v0 v1 v2 v3 v8:Int)(v9:Bool)(v10:Lv)(v11:Int):Option ap:=
 (bif(!(v11<=20000000 !(v11<=20000000)then some (0,0,0,160)else bif(-9223372036854775808<=(v8+v0))&&((v8+v0)<=9223372036854775807)then DS n v0 v1 v2 v3 v8 v9 v10 v11 else none)
def Dp(n:Nat)(v0 v1 v2 v3 v8:Int)(v9:Bool)(v10:Lv)(v11:Int):Option ap:=
 (bif 0<=v11 then Ed n v0 v1 v2 v3 v8 v9 v10 v11 else some (0,0,0,160))
def DA(n:Nat)(v0 v1 v2 v3 v8:Int)(v9:Bool)(v10:Lv)(v11:Int)(v12:Bool):Option ap:=
 (bif(!v12)then some (0,0,0,160)else Dp n v0 v1 v2 v3 v8 v9 v10 v11)
def Eq(n:Nat)(v0 v1 v2 v3 v4 v5 v6 v7 v8:Int)(v9:Bool)(v10:Lv)(v11:Int):Option ap:=
 (gV n v0 v1 v2 v3 v4 v5 v6 v7 v8 v9 v10).bind fun y12=>
 DA n v0 v1 v2 v3 v8 v9 v10 v11 y12
def wR(n:Nat)(v0 v1 v2 v3 v4 v5 v6 v7 v8:Int)(v9:Bool)(v10:Lv)(v11:Int):Option ap:=Eq n v0 v1 v2 v3 v4 v5 v6 v7 v8 v9 v10 v11
def claim_Outcome_t:FnT:=⟨[(true,[.int,.int,.int,.int]),(true,[.int,.int,.int,.int,.int,.bool]),(false,[tSc]),(false,[.int])],(.tup (.cons (.agg (.cons .i (.cons .i (.cons .i .nil)))) (.cons .i .nil))),fun n (s:Int×Int×Int×Int×Int×Int×Int×Int×Int×Bool×Lv×Int)=>wR n s.1 s.2.1 s.2.2.1 s.2.2.2.1 s.2.2.2.2.1 s.2.2.2.2.2.1 s.2.2.2.2.2.2.1 s.2.2.2.2.2.2.2.1 s.2.2.2.2.2.2.2.2.1 s.2.2.2.2.2.2.2.2.2.1 s.2.2.2.2.2.2.2.2.2.2.1 s.2.2.2.2.2.2.2.2.2.2.2⟩
theorem B7:claim_Outcome_t.ok Tryz.prog 105:=FnT.ok_of (cfg:=⟨[((143,5,32),.inv [(.tmp 24 .int),(.cellrow 12 12 3 (.cons .int .nil)),(.cell 13 0 .int),(.cell 13 1 .int),(.cell 13 2 .int),(.cell 27 0 .int),(.cell 27 1 .int),(.cell 27 2 .int)]),((145,1,42),.inv [(.cell 13 0 .int),(.cell 13 1 .int),(.cell 13 2 .int),(.cell 27 0 .int),(.cell 27 1 .int),(.cell 27 2 .int)]),((145,1,40),.inv [(.cell 13 0 .int),(.cell 13 1 .int),(.cell 13 2 .int),(.cell 27 0 .int),(.cell 27 1 .int),(.cell 27 2 .int)])],aH,[],aG⟩) av rF aX (fun s fn hf=>by rw[Tryz.func105]at hf;cases hf;kernel_rfl) (fun n s=>by kernel_rfl)
def claim_Outcome_T:Tab:=(105,claim_Outcome_t)::claim_Ends_T
theorem mT:claim_Outcome_T.ok Tryz.prog:=Tab.ok_cons B7 rF
abbrev xP:=Int×Int
def Ju(n:Nat)(v0 v1 v2 v3 v4 v5 v6 v7 v8:Int)(v9:Bool)(v10:Lv)(v11:Int):Option xP:=
 (wR n v0 v1 v2 v3 v4 v5 v6 v7 v8 v9 v10 v11).bind fun y12=>
 (bif(!(y12.2.2.2=0 !(y12.2.2.2=0)then some (0,y12.2.2.2)else(bif y12.1=4 then some (v6,0)else(bif y12.1=5 then some (v6,0)else some (v5,0))))
def Me(n:Nat)(v0 v1 v2 v3 v4 v5 v6 v7 v8:Int)(v9:Bool)(v10:Lv)(v11:Int):Option xP:=Ju n v0 v1 v2 v3 v4 v5 v6 v7 v8 v9 v10 v11
def claim_With_t:FnT:=⟨[(true,[.int,.int,.int,.int]),(true,[.int,.int,.int,.int,.int,.bool]),(false,[tSc]),(false,[.int])],(.tup (.cons .i (.cons .i .nil))),fun n (s:Int×Int×Int×Int×Int×Int×Int×Int×Int×Bool×Lv×Int)=>Me n s.1 s.2.1 s.2.2.1 s.2.2.2.1 s.2.2.2.2.1 s.2.2.2.2.2.1 s.2.2.2.2.2.2.1 s.2.2.2.2.2.2.2.1 s.2.2.2.2.2.2.2.2.1 s.2.2.2.2.2.2.2.2.2.1 s.2.2.2.2.2.2.2.2.2.2.1 s.2.2.2.2.2.2.2.2.2.2.2⟩
theorem GA:claim_With_t.ok Tryz.prog 42:=FnT.ok_of (cfg:=⟨[],aH,[],aG⟩) av mT aX (fun s fn hf=>by rw[Tryz.func42]at hf;cases hf;kernel_rfl) (fun n s=>by kernel_rfl)
def claim_With_T:Tab:=(42,claim_With_t)::claim_Outcome_T
theorem rP:claim_With_T.ok Tryz.prog:=Tab.ok_cons GA mT
abbrev ak:=Lv×Int
abbrev be:=Int×Lv×Lv×Int×Int×Int
abbrev aU:=Lv×Int×Int×Int
def nC(n:Nat)(go0:be->Option ak)(go1:aU->Option ak)(v9:Bool)(v10:Lv)(v12:Int)(v13 v18:Lv)(v19 v20 v21:Int):Option ak:=
 (bif((cI v10 v12 0)=5)&&(v19=2)then(bif (cI v10 v12 2)=1 then(bif(v9==true)then bif (((v13.length:Int)+1)*8)<=140737488355328 then bif(-9223372036854775808<=(v12+1))&&((v12+1)<=9223372036854775807)then go0 ((v12+1),(v13++[[(AV.int v12)]]),v18,v19,v20,v21)else none else none else bif (((v18.length:Int)+1)*24)<=140737488355328 then bif(-9223372036854775808<=(v12+1))&&((v12+1)<=9223372036854775807)then go0 ((v12+1),v13,(v18++[[(AV.int 7),(AV.int (cI v10 v12 1)),(AV.int (-1))]]),7,(cI v10 v12 1),(-1))else none else none)else bif (((v18.length:Int)+1)*24)<=140737488355328 then bif(-9223372036854775808<=(v12+1))&&((v12+1)<=9223372036854775807)then go0 ((v12+1),v13,(v18++[[(AV.int 7),(AV.int (cI v10 v12 1)),(AV.int (-1))]]),7,(cI v10 v12 1),(-1))else none else none)else(bif((cI v10 v12 0)=5)&&(v19=3)then(bif (cI v10 v12 2)=1 then(bif(v9==true)then bif (((v13.length:Int)+1)*8)<=140737488355328 then bif(-9223372036854775808<=(v12+1))&&((v12+1)<=9223372036854775807)then go0 ((v12+1),(v13++[[(AV.int v12)]]),v18,v19,v20,v21)else none else none else bif (((v18.length:Int)+1)*24)<=140737488355328 then bif(-9223372036854775808<=(v12+1))&&((v12+1)<=9223372036854775807)then go0 ((v12+1),v13,(v18++[[(AV.int 7),(AV.int (cI v10 v12 1)),(AV.int (-1))]]),7,(cI v10 v12 1),(-1))else none else none)else bif (((v18.length:Int)+1)*24)<=140737488355328 then bif(-9223372036854775808<=(v12+1))&&((v12+1)<=9223372036854775807)then go0 ((v12+1),v13,(v18++[[(AV.int 7),(AV.int (cI v10 v12 1)),(AV.int (-1))]]),7,(cI v10 v12 1),(-1))else none else none)else(bif((cI v10 v12 0)=6)&&(v19=4)then(bif (cI v10 v12 2)=1 then(bif(v9==true)then bif (((v13.length:Int)+1)*8)<=140737488355328 then bif(-9223372036854775808<=(v12+1))&&((v12+1)<=9223372036854775807)then go0 ((v12+1),(v13++[[(AV.int v12)]]),v18,v19,v20,v21)else none else none else bif (((v18.length:Int)+1)*24)<=140737488355328 then bif(-9223372036854775808<=(v12+1))&&((v12+1)<=9223372036854775807)then go0 ((v12+1),v13,(v18++[[(AV.int 8),(AV.int (cI v10 v12 1)),(AV.int (-1))]]),8,(cI v10 v12 1),(-1))else none else none)else bif (((v18.length:Int)+1)*24)<=140737488355328 then bif(-9223372036854775808<=(v12+1))&&((v12+1)<=9223372036854775807)then go0 ((v12+1),v13,(v18++[[(AV.int 8),(AV.int (cI v10 v12 1)),(AV.int (-1))]]),8,(cI v10 v12 1),(-1))else none else none)else(bif (cI v10 v12 2)=1 then(bif (cI v10 v12 0)=2 then bif (((v13.length:Int)+1)*8)<=140737488355328 then bif(-9223372036854775808<=(v12+1))&&((v12+1)<=9223372036854775807)then go0 ((v12+1),(v13++[[(AV.int v12)]]),v18,v19,v20,v21)else none else none else bif (((v13.length:Int)+1)*8)<=140737488355328 then bif(-9223372036854775808<=(v12+1))&&((v12+1)<=9223372036854775807)then go0 ((v12+1),(v13++[[(AV.int v12)]]),v18,v19,v20,v21)else none else none)else bif (((v13.length:Int)+1)*8)<=140737488355328 then bif(-9223372036854775808<=(v12+1))&&((v12+1)<=9223372036854775807)then go0 ((v12+1),(v13++[[(AV.int v12)]]),v18,v19,v20,v21)else none else none))))
def nM(n:Nat)(go0:be->Option ak)(go1:aU->Option ak)(v9:Bool)(v10:Lv)(v12:Int)(v13 v18:Lv)(v19 v20 v21:Int):Option ak:=
 (bif((cI v10 v12 0)=5)&&(v19=1)then(bif (cI v10 v12 2)=1 then(bif(v9==true)then bif (((v13.length:Int)+1)*8)<=140737488355328 then bif(-9223372036854775808<=(v12+1))&&((v12+1)<=9223372036854775807)then go0 ((v12+1),(v13++[[(AV.int v12)]]),v18,v19,v20,v21)else none else none else bif (((v18.length:Int)+1)*24)<=140737488355328 then bif(-9223372036854775808<=(v12+1))&&((v12+1)<=9223372036854775807)then go0 ((v12+1),v13,(v18++[[(AV.int 7),(AV.int (cI v10 v12 1)),(AV.int (-1))]]),7,(cI v10 v12 1),(-1))else none else none)else bif (((v18.length:Int)+1)*24)<=140737488355328 then bif(-9223372036854775808<=(v12+1))&&((v12+1)<=9223372036854775807)then go0 ((v12+1),v13,(v18++[[(AV.int 7),(AV.int (cI v10 v12 1)),(AV.int (-1))]]),7,(cI v10 v12 1),(-1))else none else none)else nC n go0 go1 v9 v10 v12 v13 v18 v19 v20 v21)
def pM(n:Nat)(go0:be->Option ak)(go1:aU->Option ak)(v9:Bool)(v10:Lv)(v12:Int)(v13 v18:Lv)(v19 v20 v21:Int):Option ak:=
 (bif((cI v10 v12 0)=4)&&(v19=2)then(bif (cI v10 v12 2)=1 then(bif(v9==true)then bif (((v13.length:Int)+1)*8)<=140737488355328 then bif(-9223372036854775808<=(v12+1))&&((v12+1)<=9223372036854775807)then go0 ((v12+1),(v13++[[(AV.int v12)]]),v18,v19,v20,v21)else none else none else bif (((v18.length:Int)+1)*24)<=140737488355328 then bif(-9223372036854775808<=(v12+1))&&((v12+1)<=9223372036854775807)then go0 ((v12+1),v13,(v18++[[(AV.int 6),(AV.int (cI v10 v12 1)),(AV.int (-1))]]),6,(cI v10 v12 1),(-1))else none else none)else bif (((v18.length:Int)+1)*24)<=140737488355328 then bif(-9223372036854775808<=(v12+1))&&((v12+1)<=9223372036854775807)then go0 ((v12+1),v13,(v18++[[(AV.int 6),(AV.int (cI v10 v12 1)),(AV.int (-1))]]),6,(cI v10 v12 1),(-1))else none else none)else nM n go0 go1 v9 v10 v12 v13 v18 v19 v20 v21)
def pL(n:Nat)(go0:be->Option ak)(go1:aU->Option ak)(v1:Int)(v9:Bool)(v10:Lv)(v12:Int)(v13 v18:Lv)(v19 v20 v21:Int):Option ak:=
 (bif((cI v10 v12 0)=3)&&(v19=2)then(bif (cI v10 v12 2)=1 then(bif(v9==true)then bif (((v13.length:Int)+1)*8)<=140737488355328 then bif(-9223372036854775808<=(v12+1))&&((v12+1)<=9223372036854775807)then go0 ((v12+1),(v13++[[(AV.int v12)]]),v18,v19,v20,v21)else none else none else bif(-9223372036854775808<=((cI v10 v12 1)+v1))&&(((cI v10 v12 1)+v1)<=9223372036854775807)then bif (((v18.length:Int)+1)*24)<=140737488355328 then bif(-9223372036854775808<=(v12+1))&&((v12+1)<=9223372036854775807)then go0 ((v12+1),v13,(v18++[[(AV.int 3),(AV.int (cI v10 v12 1)),(AV.int ((cI v10 v12 1)+v1))]]),3,(cI v10 v12 1),((cI v10 v12 1)+v1))else none else none else none)else bif(-9223372036854775808<=((cI v10 v12 1)+v1))&&(((cI v10 v12 1)+v1)<=9223372036854775807)then bif (((v18.length:Int)+1)*24)<=140737488355328 then bif(-9223372036854775808<=(v12+1))&&((v12+1)<=9223372036854775807)then go0 ((v12+1),v13,(v18++[[(AV.int 3),(AV.int (cI v10 v12 1)),(AV.int ((cI v10 v12 1)+v1))]]),3,(cI v10 v12 1),((cI v10 v12 1)+v1))else none else none else none)else pM n go0 go1 v9 v10 v12 v13 v18 v19 v20 v21)
def o6(n:Nat)(go0:be->Option ak)(go1:aU->Option ak)(v1 v2:Int)(v9:Bool)(v10:Lv)(v12:Int)(v13 v18:Lv)(v19 v20 v21:Int):Option ak:=
 (bif((cI v10 v12 0)=2)&&(v19=1)then(bif (cI v10 v12 2)=1 then(bif(v9==true)then bif (((v13.length:Int)+1)*8)<=140737488355328 then bif(-9223372036854775808<=(v12+1))&&((v12+1)<=9223372036854775807)then go0 ((v12+1),(v13++[[(AV.int v12)]]),v18,v19,v20,v21)else none else none else bif (((v18.length:Int)+1)*24)<=140737488355328 then bif(-9223372036854775808<=(v12+1))&&((v12+1)<=9223372036854775807)then go0 ((v12+1),v13,(v18++[[(AV.int 6),(AV.int (cI v10 v12 1)),(AV.int (-1))]]),6,(cI v10 v12 1),(-1))else none else none)else bif(-9223372036854775808<=((cI v10 v12 1)+v2))&&(((cI v10 v12 1)+v2)<=9223372036854775807)then bif (((v18.length:Int)+1)*24)<=140737488355328 then bif(-9223372036854775808<=(v12+1))&&((v12+1)<=9223372036854775807)then go0 ((v12+1),v13,(v18++[[(AV.int 2),(AV.int (cI v10 v12 1)),(AV.int ((cI v10 v12 1)+v2))]]),2,(cI v10 v12 1),((cI v10 v12 1)+v2))else none else none else none)else pL n go0 go1 v1 v9 v10 v12 v13 v18 v19 v20 v21)
def dL(n:Nat)(go0:be->Option ak)(go1:aU->Option ak)(v1 v2:Int)(v9:Bool)(v10:Lv)(v12:Int)(v13 v18:Lv)(v19 v20 v21:Int):Option ak:=
 (bif((cI v10 v12 0)=1)&&(v19=1)then(bif (cI v10 v12 2)=1 then(bif(v9==true)then bif (((v13.length:Int)+1)*8)<=140737488355328 then bif(-9223372036854775808<=(v12+1))&&((v12+1)<=9223372036854775807)then go0 ((v12+1),(v13++[[(AV.int v12)]]),v18,v19,v20,v21)else none else none else bif(-9223372036854775808<=((cI v10 v12 1)+v1))&&(((cI v10 v12 1)+v1)<=9223372036854775807)then bif (((v18.length:Int)+1)*24)<=140737488355328 then bif(-9223372036854775808<=(v12+1))&&((v12+1)<=9223372036854775807)then go0 ((v12+1),v13,(v18++[[(AV.int 3),(AV.int (cI v10 v12 1)),(AV.int ((cI v10 v12 1)+v1))]]),3,(cI v10 v12 1),((cI v10 v12 1)+v1))else none else none else none)else bif(-9223372036854775808<=((cI v10 v12 1)+v1))&&(((cI v10 v12 1)+v1)<=9223372036854775807)then bif (((v18.length:Int)+1)*24)<=140737488355328 then bif(-9223372036854775808<=(v12+1))&&((v12+1)<=9223372036854775807)then go0 ((v12+1),v13,(v18++[[(AV.int 3),(AV.int (cI v10 v12 1)),(AV.int ((cI v10 v12 1)+v1))]]),3,(cI v10 v12 1),((cI v10 v12 1)+v1))else none else none else none)else o6 n go0 go1 v1 v2 v9 v10 v12 v13 v18 v19 v20 v21)
def gA(n:Nat)(go0:be->Option ak)(go1:aU->Option ak)(v1 v2 v3:Int)(v9:Bool)(v10:Lv)(v12:Int)(v13 v18:Lv)(v19 v20 v21:Int):Option ak:=
 (bif v21<=(cI v10 v12 1) then(bif v19=1 then bif(-9223372036854775808<=(v21+v1))&&((v21+v1)<=9223372036854775807)then bif (((v18.length:Int)+1)*24)<=140737488355328 then go1 ((v18++[[(AV.int 3),(AV.int v21),(AV.int (v21+v1))]]),3,v21,(v21+v1))else none else none else(bif v19=2 then bif(-9223372036854775808<=(v21+v1))&&((v21+v1)<=9223372036854775807)then bif (((v18.length:Int)+1)*24)<=140737488355328 then go1 ((v18++[[(AV.int 3),(AV.int v21),(AV.int (v21+v1))]]),3,v21,(v21+v1))else none else none else(bif v19=3 then bif(-9223372036854775808<=(v21+v3))&&((v21+v3)<=9223372036854775807)then bif (((v18.length:Int)+1)*24)<=140737488355328 then go1 ((v18++[[(AV.int 4),(AV.int v21),(AV.int (v21+v3))]]),4,v21,(v21+v3))else none else none else(bif v19=4 then bif (((v18.length:Int)+1)*24)<=140737488355328 then go1 ((v18++[[(AV.int 5),(AV.int v21),(AV.int (-1))]]),5,v21,(-1))else none else bif (((v18.length:Int)+1)*24)<=140737488355328 then go1 ((v18++[[(AV.int 0),(AV.int v21),(AV.int (-1))]]),0,v21,(-1))else none))))else dL n go0 go1 v1 v2 v9 v10 v12 v13 v18 v19 v20 v21)
abbrev nK:= @dL
def pI(n:Nat)(go0:be->Option ak)(go1:aU->Option ak)(v1 v2 v3:Int)(v9:Bool)(v10:Lv)(v12:Int)(v13 v18:Lv)(v19 v20 v21:Int):Option ak:=
 (bif 0<=v21 then gA n go0 go1 v1 v2 v3 v9 v10 v12 v13 v18 v19 v20 v21 else nK n go0 go1 v1 v2 v9 v10 v12 v13 v18 v19 v20 v21)
def fC(n:Nat)(go0:aU->Option ak)(v1 v3:Int)(v18:Lv)(v19 v21:Int):Option ak:=
 (bif 0<=v21 then(bif v21<=4611686018427387904 then(bif v19=1 then bif(-9223372036854775808<=(v21+v1))&&((v21+v1)<=9223372036854775807)then bif (((v18.length:Int)+1)*24)<=140737488355328 then go0 ((v18++[[(AV.int 3),(AV.int v21),(AV.int (v21+v1))]]),3,v21,(v21+v1))else none else none else(bif v19=2 then bif(-9223372036854775808<=(v21+v1))&&((v21+v1)<=9223372036854775807)then bif (((v18.length:Int)+1)*24)<=140737488355328 then go0 ((v18++[[(AV.int 3),(AV.int v21),(AV.int (v21+v1))]]),3,v21,(v21+v1))else none else none else(bif v19=3 then bif(-9223372036854775808<=(v21+v3))&&((v21+v3)<=9223372036854775807)then bif (((v18.length:Int)+1)*24)<=140737488355328 then go0 ((v18++[[(AV.int 4),(AV.int v21),(AV.int (v21+v3))]]),4,v21,(v21+v3))else none else none else(bif v19=4 then bif (((v18.length:Int)+1)*24)<=140737488355328 then go0 ((v18++[[(AV.int 5),(AV.int v21),(AV.int (-1))]]),5,v21,(-1))else none else bif (((v18.length:Int)+1)*24)<=140737488355328 then go0 ((v18++[[(AV.int 0),(AV.int v21),(AV.int (-1))]]),0,v21,(-1))else none))))else some (v18,0))else some (v18,0))
def oL(n:Nat)(go0:be->Option ak)(v1 v2 v3:Int)(v9:Bool)(v10:Lv)(v12:Int)(v13 v14:Lv)(v15 v16 v17:Int):Option ak:=
 (bif v12<(v10.length:Int) then bif 0<=v12 then(aa (fun go1 s=>pI n go0 go1 v1 v2 v3 v9 v10 v12 v13 s.1 s.2.1 s.2.2.1 s.2.2.2) n ((v14,v15,v16,v17):aU))else none else(aa (fun go0 s=>fC n go0 v1 v3 s.1 s.2.1 s.2.2.2) n ((v14,v15,v16,v17):aU)))
def oZ(n:Nat)(v0 v1 v2 v3 v8:Int)(v9:Bool)(v10:Lv)(v11:Bool):Option ak:=
 (bif(!v11)then some (([]:Lv),160)else bif(-9223372036854775808<=(v8+v0))&&((v8+v0)<=9223372036854775807)then(aa (fun go0 s=>oL n go0 v1 v2 v3 v9 v10 s.1 s.2.1 s.2.2.1 s.2.2.2.1 s.2.2.2.2.1 s.2.2.2.2.2) n ((0,([]:Lv),(([]:Lv)++[[(AV.int 1),(AV.int v8),(AV.int (v8+v0))]]),1,v8,(v8+v0)):be))else none)
def o8(n:Nat)(v0 v1 v2 v3 v4 v5 v6 v7 v8:Int)(v9:Bool)(v10:Lv):Option ak:=
 (gV n v0 v1 v2 v3 v4 v5 v6 v7 v8 v9 v10).bind fun y11=>
 oZ n v0 v1 v2 v3 v8 v9 v10 y11
def iS(n:Nat)(v0 v1 v2 v3 v4 v5 v6 v7 v8:Int)(v9:Bool)(v10:Lv):Option ak:=o8 n v0 v1 v2 v3 v4 v5 v6 v7 v8 v9 v10
def claim_Timeline_t:FnT:=⟨[(true,[.int,.int,.int,.int]),(true,[.int,.int,.int,.int,.int,.bool]),(false,[tSc])],(.tup (.cons (.row 156 (.cons .int (.cons .int (.cons .int .nil)))) (.cons .i .nil))),fun n (s:Int×Int×Int×Int×Int×Int×Int×Int×Int×Bool×Lv)=>iS n s.1 s.2.1 s.2.2.1 s.2.2.2.1 s.2.2.2.2.1 s.2.2.2.2.2.1 s.2.2.2.2.2.2.1 s.2.2.2.2.2.2.2.1 s.2.2.2.2.2.2.2.2.1 s.2.2.2.2.2.2.2.2.2.1 s.2.2.2.2.2.2.2.2.2.2⟩
theorem Bh:claim_Timeline_t.ok Tryz.prog 41:=FnT.ok_of (cfg:=⟨[((143,5,31),.inv [(.tmp 24 .int),(.cellrow 10 12 3 (.cons .int .nil)),(.cellrow 13 0 156 (.cons .int (.cons .int (.cons .int .nil)))),(.cell 24 0 .int),(.cell 24 1 .int),(.cell 24 2 .int)]),((145,1,39),.inv [(.cellrow 13 0 156 (.cons .int (.cons .int (.cons .int .nil)))),(.cell 24 0 .int),(.cell 24 1 .int),(.cell 24 2 .int)]),((145,1,37),.inv [(.cellrow 13 0 156 (.cons .int (.cons .int (.cons .int .nil)))),(.cell 24 0 .int),(.cell 24 1 .int),(.cell 24 2 .int)])],aH,[],aG⟩) av rP aX (fun s fn hf=>by rw[Tryz.func41]at hf;cases hf;kernel_rfl) (fun n s=>by kernel_rfl)
def claim_Timeline_T:Tab:=(41,claim_Timeline_t)::claim_With_T
theorem lg:claim_Timeline_T.ok Tryz.prog:=Tab.ok_cons Bh rP
abbrev yY:=Int
def xT(n:Nat)(v0 v1:Int):Option yY:=
 (bif v0<0 then bif(-9223372036854775808<=(v0+1))&&((v0+1)<=9223372036854775807)then bif(-9223372036854775808<=(0-(v0+1)))&&((0-(v0+1))<=9223372036854775807)then bif(!(v1=0 !(v1=0)then some (Int.tmod (0-(v0+1)) v1)else none else none else none else bif(!(v1=0 !(v1=0)then some (Int.tmod v0 v1)else none)
def bn(n:Nat)(v0 v1:Int):Option yY:=xT n v0 v1
def ref14_pick_t:FnT:=⟨[(false,[.int]),(false,[.int])],.i,fun n (s:Int×Int)=>bn n s.1 s.2⟩
theorem HH:ref14_pick_t.ok Tryz.prog 183:=FnT.ok_of (cfg:=⟨[],aH,[],aG⟩) av lg aX (fun s fn hf=>by rw[Tryz.func183]at hf;cases hf;kernel_rfl) (fun n s=>by kernel_rfl)
def ref14_pick_T:Tab:=(183,ref14_pick_t)::claim_Timeline_T
theorem qu:ref14_pick_T.ok Tryz.prog:=Tab.ok_cons HH lg
abbrev wo:=Bool
def vF(n:Nat)(v0 v1 v2 v3:Int):Option wo:=
 (bif 0<=v0 then(bif(!(v0<=3 !(v0<=3)then some false else(bif 0<=v2 then(bif(!(v2<=1000 !(v2<=1000)then some false else(bif 0<=v3 then(bif(!(v3<=10000000 !(v3<=10000000)then some false else(bif v0=0 then some (decide (v1=(-1)))else(bif 0<=v1 then(bif v1<=63 then some (decide (0<v2))else some false)else some false)))else some false))else some false))else some false)
def lZ(n:Nat)(v0 v1 v2 v3:Int):Option wo:=vF n v0 v1 v2 v3
def ref14_Valid_t:FnT:=⟨[(true,[.int,.int,.int,.int])],.b,fun n (s:Int×Int×Int×Int)=>lZ n s.1 s.2.1 s.2.2.1 s.2.2.2⟩
theorem EE:ref14_Valid_t.ok Tryz.prog 185:=FnT.ok_of (cfg:=⟨[],aH,[],aG⟩) av qu aX (fun s fn hf=>by rw[Tryz.func185]at hf;cases hf;kernel_rfl) (fun n s=>by kernel_rfl)
def ref14_Valid_T:Tab:=(185,ref14_Valid_t)::ref14_pick_T
theorem pW:ref14_Valid_T.ok Tryz.prog:=Tab.ok_cons EE qu
abbrev tB:=Bool
def sO(n:Nat)(v0 v1 v2:Int):Option tB:=
 (bif 1<=v0 then(bif(!(v0<=7 !(v0<=7)then some false else(bif 0<=v1 then(bif(!(v1<=10000000 !(v1<=10000000)then some false else(bif v0=1 then(bif 0<=v2 then some (decide (v2<=63))else some false)else(bif v0=2 then(bif 0<=v2 then some (decide (v2<=63))else some false)else some (decide (v2=(-1))))))else some false))else some false)
def kz(n:Nat)(v0 v1 v2:Int):Option tB:=sO n v0 v1 v2
def ref14_Formed_t:FnT:=⟨[(true,[.int,.int,.int])],.b,fun n (s:Int×Int×Int)=>kz n s.1 s.2.1 s.2.2⟩
theorem DE:ref14_Formed_t.ok Tryz.prog 186:=FnT.ok_of (cfg:=⟨[],aH,[],aG⟩) av pW aX (fun s fn hf=>by rw[Tryz.func186]at hf;cases hf;kernel_rfl) (fun n s=>by kernel_rfl)
def ref14_Formed_T:Tab:=(186,ref14_Formed_t)::ref14_Valid_T
theorem nt:ref14_Formed_T.ok Tryz.prog:=Tab.ok_cons DE pW
abbrev pP:=Bool
def o4(n:Nat)(v0 v1 v2 v3 v4 v5 v6:Int):Option pP:=
 (bif v5<v3 then some false else(bif v4=1 then(bif v0=0 then some (decide (v2<1000))else some false)else(bif v4=2 then(bif v0=1 then(bif(!(v1=v6 !(v1=v6)then some (decide (v2<1000))else some false)else some false)else(bif v4=3 then some (decide (v0=1))else(bif v4=4 then some (decide (v0=2))else(bif v4=5 then(bif v0=1 then some true else some (decide (v0=2)))else(bif v4=6 then some (decide (v0=3))else(bif v0=3 then bif(-9223372036854775808<=(v3+2592000))&&((v3+2592000)<=9223372036854775807)then some (decide ((v3+2592000)<=v5))else none else some false))))))))
def iZ(n:Nat)(v0 v1 v2 v3 v4 v5 v6:Int):Option pP:=o4 n v0 v1 v2 v3 v4 v5 v6
def ref14_possible_t:FnT:=⟨[(true,[.int,.int,.int,.int]),(true,[.int,.int,.int])],.b,fun n (s:Int×Int×Int×Int×Int×Int×Int)=>iZ n s.1 s.2.1 s.2.2.1 s.2.2.2.1 s.2.2.2.2.1 s.2.2.2.2.2.1 s.2.2.2.2.2.2⟩
theorem Bf:ref14_possible_t.ok Tryz.prog 187:=FnT.ok_of (cfg:=⟨[],aH,[],aG⟩) av nt aX (fun s fn hf=>by rw[Tryz.func187]at hf;cases hf;kernel_rfl) (fun n s=>by kernel_rfl)
def ref14_possible_T:Tab:=(187,ref14_possible_t)::ref14_Formed_T
theorem lj:ref14_possible_T.ok Tryz.prog:=Tab.ok_cons Bf nt
abbrev zY:=Int×Int×Int×Int×Int
def zX(n:Nat)(v0 v1 v2 v3 v4 v5 v6:Int):Option zY:=
 (lZ n v0 v1 v2 v3).bind fun y7=>
 (bif(!y7)then some (0,0,0,0,140)else(kz n v4 v5 v6).bind fun y8=>
 (bif(!y8)then some (0,0,0,0,140)else(iZ n v0 v1 v2 v3 v4 v5 v6).bind fun y9=>
 (bif(!y9)then some (0,0,0,0,140)else(bif v4=1 then bif(-9223372036854775808<=(v2+1))&&((v2+1)<=9223372036854775807)then some (1,v6,(v2+1),v5,0)else none else(bif v4=2 then bif(-9223372036854775808<=(v2+1))&&((v2+1)<=9223372036854775807)then some (1,v6,(v2+1),v5,0)else none else(bif v4=3 then some (2,v1,v2,v5,0)else(bif v4=4 then some (1,v1,v2,v5,0)else(bif v4=6 then some (1,v1,v2,v5,0)else(bif v4=5 then some (3,v1,v2,v5,0)else some (0,(-1),v2,v5,0))))))))))
def gd(n:Nat)(v0 v1 v2 v3 v4 v5 v6:Int):Option zY:=zX n v0 v1 v2 v3 v4 v5 v6
def ref14_Step_t:FnT:=⟨[(true,[.int,.int,.int,.int]),(true,[.int,.int,.int])],(.tup (.cons (.agg (.cons .i (.cons .i (.cons .i (.cons .i .nil))))) (.cons .i .nil))),fun n (s:Int×Int×Int×Int×Int×Int×Int)=>gd n s.1 s.2.1 s.2.2.1 s.2.2.2.1 s.2.2.2.2.1 s.2.2.2.2.2.1 s.2.2.2.2.2.2⟩
theorem HU:ref14_Step_t.ok Tryz.prog 150:=FnT.ok_of (cfg:=⟨[],aH,[],aG⟩) av lj aX (fun s fn hf=>by rw[Tryz.func150]at hf;cases hf;kernel_rfl) (fun n s=>by kernel_rfl)
def ref14_Step_T:Tab:=(150,ref14_Step_t)::ref14_possible_T
theorem qz:ref14_Step_T.ok Tryz.prog:=Tab.ok_cons HU lj
abbrev lP:=Int×Int×Int×Int×Int×Int
abbrev x9:=Int×Int×Int×Int×Int
def Bj(n:Nat)(go0:x9->Option lP)(v0:Lv)(v1 v2 v3 v4 v5:Int):Option lP:=
 (bif v1<(v0.length:Int) then bif 0<=v1 then(gd n v2 v3 v4 v5 (cI v0 v1 0) (cI v0 v1 1) (cI v0 v1 2)).bind fun y6=>
 (bif(!(y6.2.2.2.2=0 !(y6.2.2.2.2=0)then some (0,0,0,0,v1,140)else(bif v1=40 then some (0,0,0,0,v1,140)else bif(-9223372036854775808<=(v1+1))&&((v1+1)<=9223372036854775807)then go0 ((v1+1),y6.1,y6.2.1,y6.2.2.1,y6.2.2.2.1)else none))else none else some (v2,v3,v4,v5,(v0.length:Int),0))
def BC(n:Nat)(v0:Lv):Option lP:=
 (aa (fun go0 s=>Bj n go0 v0 s.1 s.2.1 s.2.2.1 s.2.2.2.1 s.2.2.2.2) n ((0,0,(-1),0,0):x9))
def rO(n:Nat)(v0:Lv):Option lP:=BC n v0
def ref14_Run_t:FnT:=⟨[(false,[tSc])],(.tup (.cons (.agg (.cons .i (.cons .i (.cons .i (.cons .i .nil))))) (.cons .i (.cons .i .nil)))),fun n (s:Lv)=>rO n s⟩
theorem Iq:ref14_Run_t.ok Tryz.prog 188:=FnT.ok_of (cfg:=⟨[((188,3,5),.inv [(.tmp 6 .int),(.cell 3 0 .int),(.cell 3 1 .int),(.cell 3 2 .int),(.cell 3 3 .int)])],aH,[],aG⟩) av qz aX (fun s fn hf=>by rw[Tryz.func188]at hf;cases hf;kernel_rfl) (fun n s=>by kernel_rfl)
def ref14_Run_T:Tab:=(188,ref14_Run_t)::ref14_Step_T
theorem tO:ref14_Run_T.ok Tryz.prog:=Tab.ok_cons Iq qz
abbrev DF:=Bool
def DM(n:Nat)(v0:Lv):Option DF:=
 (rO n v0).bind fun y1=>
 some (decide (y1.2.2.2.2.2=0))
def ph(n:Nat)(v0:Lv):Option DF:=DM n v0
def ref14_Is_t:FnT:=⟨[(false,[tSc])],.b,fun n (s:Lv)=>ph n s⟩
theorem Kf:ref14_Is_t.ok Tryz.prog 151:=FnT.ok_of (cfg:=⟨[],aH,[],aG⟩) av tO aX (fun s fn hf=>by rw[Tryz.func151]at hf;cases hf;kernel_rfl) (fun n s=>by kernel_rfl)
def ref14_Is_T:Tab:=(151,ref14_Is_t)::ref14_Run_T
theorem wO:ref14_Is_T.ok Tryz.prog:=Tab.ok_cons Kf tO
abbrev oe:=Int×Int×Int×Int
abbrev BB:=Int×Int×Int×Int×Int
def Em(n:Nat)(go0:BB->Option oe)(v0:Lv)(v1 v2 v3 v4 v5 v6:Int):Option oe:=
 (bif v2<(v0.length:Int) then bif 0<=v2 then(bif (cI v0 v2 1)<=v1 then(gd n v3 v4 v5 v6 (cI v0 v2 0) (cI v0 v2 1) (cI v0 v2 2)).bind fun y7=>
 bif(-9223372036854775808<=(v2+1))&&((v2+1)<=9223372036854775807)then go0 ((v2+1),y7.1,y7.2.1,y7.2.2.1,y7.2.2.2.1)else none else some (v3,v4,v5,v6))else none else some (v3,v4,v5,v6))
def DU(n:Nat)(v0:Lv)(v1:Int):Option oe:=
 (aa (fun go0 s=>Em n go0 v0 v1 s.1 s.2.1 s.2.2.1 s.2.2.2.1 s.2.2.2.2) n ((0,0,(-1),0,0):BB))
def uY(n:Nat)(v0:Lv)(v1:Int):Option oe:=DU n v0 v1
def ref14_at_t:FnT:=⟨[(false,[tSc]),(false,[.int])],(.agg (.cons .i (.cons .i (.cons .i (.cons .i .nil))))),fun n (s:Lv×Int)=>uY n s.1 s.2⟩
theorem Kn:ref14_at_t.ok Tryz.prog 153:=FnT.ok_of (cfg:=⟨[((153,3,5),.inv [(.tmp 6 .int),(.cell 3 0 .int),(.cell 3 1 .int),(.cell 3 2 .int),(.cell 3 3 .int)])],aH,[],aG⟩) av wO aX (fun s fn hf=>by rw[Tryz.func153]at hf;cases hf;kernel_rfl) (fun n s=>by kernel_rfl)
def ref14_at_T:Tab:=(153,ref14_at_t)::ref14_Is_T
theorem wK:ref14_at_T.ok Tryz.prog:=Tab.ok_cons Kn wO
abbrev Dl:=Int×Int×Int×Int×Int
def DI(n:Nat)(v0:Lv)(v1:Int):Option Dl:=
 (ph n v0).bind fun y2=>
 (bif(!y2)then some (0,0,0,0,140)else(bif 0<=v1 then(bif(!(v1<=10000000 !(v1<=10000000)then some (0,0,0,0,140)else(uY n v0 v1).bind fun y3=>
 some (y3.1,y3.2.1,y3.2.2.1,y3.2.2.2,0))else some (0,0,0,0,140)))
def dq(n:Nat)(v0:Lv)(v1:Int):Option Dl:=DI n v0 v1
def ref14_At_t:FnT:=⟨[(false,[tSc]),(false,[.int])],(.tup (.cons (.agg (.cons .i (.cons .i (.cons .i (.cons .i .nil))))) (.cons .i .nil))),fun n (s:Lv×Int)=>dq n s.1 s.2⟩
theorem Kt:ref14_At_t.ok Tryz.prog 110:=FnT.ok_of (cfg:=⟨[],aH,[],aG⟩) av wK aX (fun s fn hf=>by rw[Tryz.func110]at hf;cases hf;kernel_rfl) (fun n s=>by kernel_rfl)
def ref14_At_T:Tab:=(110,ref14_At_t)::ref14_at_T
theorem wh:ref14_At_T.ok Tryz.prog:=Tab.ok_cons Kt wK
abbrev ng:=Int×Int×Int
def vC(n:Nat)(v0 v1 v3 v4 v5 v6:Int):Option ng:=
 (bif v0=2 then(bn n v4 2).bind fun y7=>
 bif 0<=y7 then bif y7<2 then(bn n v5 6).bind fun y8=>
 (bif (cI ((([]:Lv)++[[(AV.int 4)]])++[[(AV.int 5)]]) y7 0)=7 then bif(-9223372036854775808<=(y8+2592000))&&((y8+2592000)<=9223372036854775807)then bif(-9223372036854775808<=(v3+(y8+2592000)))&&((v3+(y8+2592000))<=9223372036854775807)then some ((cI ((([]:Lv)++[[(AV.int 4)]])++[[(AV.int 5)]]) y7 0),(af (v3+(y8+2592000)) 10000000),(-1))else none else none else bif(-9223372036854775808<=(v3+y8))&&((v3+y8)<=9223372036854775807)then(bif (cI ((([]:Lv)++[[(AV.int 4)]])++[[(AV.int 5)]]) y7 0)=1 then(bn n v6 5).bind fun y9=>
 some ((cI ((([]:Lv)++[[(AV.int 4)]])++[[(AV.int 5)]]) y7 0),(af (v3+y8) 10000000),y9)else(bif (cI ((([]:Lv)++[[(AV.int 4)]])++[[(AV.int 5)]]) y7 0)=2 then(bn n v6 5).bind fun y9=>
 (bif y9=v1 then bif(-9223372036854775808<=(y9+1))&&((y9+1)<=9223372036854775807)then some ((cI ((([]:Lv)++[[(AV.int 4)]])++[[(AV.int 5)]]) y7 0),(af (v3+y8) 10000000),(y9+1))else none else some ((cI ((([]:Lv)++[[(AV.int 4)]])++[[(AV.int 5)]]) y7 0),(af (v3+y8) 10000000),y9))else some ((cI ((([]:Lv)++[[(AV.int 4)]])++[[(AV.int 5)]]) y7 0),(af (v3+y8) 10000000),(-1))))else none)else none else none else(bif v0=3 then(bn n v4 3).bind fun y7=>
 bif 0<=y7 then bif y7<3 then(bn n v5 6).bind fun y8=>
 (bif (cI (((([]:Lv)++[[(AV.int 7)]])++[[(AV.int 6)]])++[[(AV.int 7)]]) y7 0)=7 then bif(-9223372036854775808<=(y8+2592000))&&((y8+2592000)<=9223372036854775807)then bif(-9223372036854775808<=(v3+(y8+2592000)))&&((v3+(y8+2592000))<=9223372036854775807)then some ((cI (((([]:Lv)++[[(AV.int 7)]])++[[(AV.int 6)]])++[[(AV.int 7)]]) y7 0),(af (v3+(y8+2592000)) 10000000),(-1))else none else none else bif(-9223372036854775808<=(v3+y8))&&((v3+y8)<=9223372036854775807)then(bif (cI (((([]:Lv)++[[(AV.int 7)]])++[[(AV.int 6)]])++[[(AV.int 7)]]) y7 0)=1 then(bn n v6 5).bind fun y9=>
 some ((cI (((([]:Lv)++[[(AV.int 7)]])++[[(AV.int 6)]])++[[(AV.int 7)]]) y7 0),(af (v3+y8) 10000000),y9)else(bif (cI (((([]:Lv)++[[(AV.int 7)]])++[[(AV.int 6)]])++[[(AV.int 7)]]) y7 0)=2 then(bn n v6 5).bind fun y9=>
 (bif y9=v1 then bif(-9223372036854775808<=(y9+1))&&((y9+1)<=9223372036854775807)then some ((cI (((([]:Lv)++[[(AV.int 7)]])++[[(AV.int 6)]])++[[(AV.int 7)]]) y7 0),(af (v3+y8) 10000000),(y9+1))else none else some ((cI (((([]:Lv)++[[(AV.int 7)]])++[[(AV.int 6)]])++[[(AV.int 7)]]) y7 0),(af (v3+y8) 10000000),y9))else some ((cI (((([]:Lv)++[[(AV.int 7)]])++[[(AV.int 6)]])++[[(AV.int 7)]]) y7 0),(af (v3+y8) 10000000),(-1))))else none)else none else none else(bn n v4 1).bind fun y7=>
 bif 0<=y7 then bif y7<1 then(bn n v5 6).bind fun y8=>
 (bif (cI (([]:Lv)++[[(AV.int 1)]]) y7 0)=7 then bif(-9223372036854775808<=(y8+2592000))&&((y8+2592000)<=9223372036854775807)then bif(-9223372036854775808<=(v3+(y8+2592000)))&&((v3+(y8+2592000))<=9223372036854775807)then some ((cI (([]:Lv)++[[(AV.int 1)]]) y7 0),(af (v3+(y8+2592000)) 10000000),(-1))else none else none else bif(-9223372036854775808<=(v3+y8))&&((v3+y8)<=9223372036854775807)then(bif (cI (([]:Lv)++[[(AV.int 1)]]) y7 0)=1 then(bn n v6 5).bind fun y9=>
 some ((cI (([]:Lv)++[[(AV.int 1)]]) y7 0),(af (v3+y8) 10000000),y9)else(bif (cI (([]:Lv)++[[(AV.int 1)]]) y7 0)=2 then(bn n v6 5).bind fun y9=>
 (bif y9=v1 then bif(-9223372036854775808<=(y9+1))&&((y9+1)<=9223372036854775807)then some ((cI (([]:Lv)++[[(AV.int 1)]]) y7 0),(af (v3+y8) 10000000),(y9+1))else none else some ((cI (([]:Lv)++[[(AV.int 1)]]) y7 0),(af (v3+y8) 10000000),y9))else some ((cI (([]:Lv)++[[(AV.int 1)]]) y7 0),(af (v3+y8) 10000000),(-1))))else none)else none else none))
def wV(n:Nat)(v0 v1 v3 v4 v5 v6:Int):Option ng:=
 (bif v0=1 then(bn n v4 5).bind fun y7=>
 bif 0<=y7 then bif y7<5 then(bn n v5 6).bind fun y8=>
 (bif (cI (((((([]:Lv)++[[(AV.int 2)]])++[[(AV.int 3)]])++[[(AV.int 5)]])++[[(AV.int 3)]])++[[(AV.int 5)]]) y7 0)=7 then bif(-9223372036854775808<=(y8+2592000))&&((y8+2592000)<=9223372036854775807)then bif(-9223372036854775808<=(v3+(y8+2592000)))&&((v3+(y8+2592000))<=9223372036854775807)then some ((cI (((((([]:Lv)++[[(AV.int 2)]])++[[(AV.int 3)]])++[[(AV.int 5)]])++[[(AV.int 3)]])++[[(AV.int 5)]]) y7 0),(af (v3+(y8+2592000)) 10000000),(-1))else none else none else bif(-9223372036854775808<=(v3+y8))&&((v3+y8)<=9223372036854775807)then(bif (cI (((((([]:Lv)++[[(AV.int 2)]])++[[(AV.int 3)]])++[[(AV.int 5)]])++[[(AV.int 3)]])++[[(AV.int 5)]]) y7 0)=1 then(bn n v6 5).bind fun y9=>
 some ((cI (((((([]:Lv)++[[(AV.int 2)]])++[[(AV.int 3)]])++[[(AV.int 5)]])++[[(AV.int 3)]])++[[(AV.int 5)]]) y7 0),(af (v3+y8) 10000000),y9)else(bif (cI (((((([]:Lv)++[[(AV.int 2)]])++[[(AV.int 3)]])++[[(AV.int 5)]])++[[(AV.int 3)]])++[[(AV.int 5)]]) y7 0)=2 then(bn n v6 5).bind fun y9=>
 (bif y9=v1 then bif(-9223372036854775808<=(y9+1))&&((y9+1)<=9223372036854775807)then some ((cI (((((([]:Lv)++[[(AV.int 2)]])++[[(AV.int 3)]])++[[(AV.int 5)]])++[[(AV.int 3)]])++[[(AV.int 5)]]) y7 0),(af (v3+y8) 10000000),(y9+1))else none else some ((cI (((((([]:Lv)++[[(AV.int 2)]])++[[(AV.int 3)]])++[[(AV.int 5)]])++[[(AV.int 3)]])++[[(AV.int 5)]]) y7 0),(af (v3+y8) 10000000),y9))else some ((cI (((((([]:Lv)++[[(AV.int 2)]])++[[(AV.int 3)]])++[[(AV.int 5)]])++[[(AV.int 3)]])++[[(AV.int 5)]]) y7 0),(af (v3+y8) 10000000),(-1))))else none)else none else none else vC n v0 v1 v3 v4 v5 v6)
def jt(n:Nat)(v0 v1 v2 v3 v4 v5 v6:Int):Option ng:=wV n v0 v1 v3 v4 v5 v6
def ref14_After_t:FnT:=⟨[(true,[.int,.int,.int,.int]),(true,[.int,.int,.int])],(.agg (.cons .i (.cons .i (.cons .i .nil)))),fun n (s:Int×Int×Int×Int×Int×Int×Int)=>jt n s.1 s.2.1 s.2.2.1 s.2.2.2.1 s.2.2.2.2.1 s.2.2.2.2.2.1 s.2.2.2.2.2.2⟩
theorem Fh:ref14_After_t.ok Tryz.prog 149:=FnT.ok_of (cfg:=⟨[],aH,[],aG⟩) av wh aX (fun s fn hf=>by rw[Tryz.func149]at hf;cases hf;kernel_rfl) (fun n s=>by kernel_rfl)
def ref14_After_T:Tab:=(149,ref14_After_t)::ref14_At_T
theorem pj:ref14_After_T.ok Tryz.prog:=Tab.ok_cons Fh wh
abbrev kv:=Lv
abbrev vS:=Lv×Int×Int×Int×Int×Int
def yD(n:Nat)(go0:vS->Option kv)(v0 v1:Lv)(v2 v3 v4 v5 v6:Int):Option kv:=
 (bif v2<(v0.length:Int) then(bif v2<16 then bif 0<=v2 then(jt n v3 v4 v5 v6 (cI v0 v2 0) (cI v0 v2 1) (cI v0 v2 2)).bind fun y7=>
 (gd n v3 v4 v5 v6 y7.1 y7.2.1 y7.2.2).bind fun y10=>
 (bif y10.2.2.2.2=0 then bif (((v1.length:Int)+1)*24)<=140737488355328 then bif(-9223372036854775808<=(v2+1))&&((v2+1)<=9223372036854775807)then go0 ((v1++[[(AV.int y7.1),(AV.int y7.2.1),(AV.int y7.2.2)]]),(v2+1),y10.1,y10.2.1,y10.2.2.1,y10.2.2.2.1)else none else none else bif(-9223372036854775808<=(v2+1))&&((v2+1)<=9223372036854775807)then go0 (v1,(v2+1),v3,v4,v5,v6)else none)else none else some v1)else some v1)
def yU(n:Nat)(v0:Lv):Option kv:=
 (aa (fun go0 s=>yD n go0 v0 s.1 s.2.1 s.2.2.1 s.2.2.2.1 s.2.2.2.2.1 s.2.2.2.2.2) n ((([]:Lv),0,0,(-1),0,0):vS))
def kq(n:Nat)(v0:Lv):Option kv:=yU n v0
def ref14_Made_t:FnT:=⟨[(false,[tSc])],(.row 224 (.cons .int (.cons .int (.cons .int .nil)))),fun n (s:Lv)=>kq n s⟩
theorem Gq:ref14_Made_t.ok Tryz.prog 109:=FnT.ok_of (cfg:=⟨[((109,4,4),.inv [(.tmprow 4 224 (.cons .int (.cons .int (.cons .int .nil)))),(.tmp 5 .int),(.cell 2 0 .int),(.cell 2 1 .int),(.cell 2 2 .int),(.cell 2 3 .int)])],aH,[],aG⟩) av pj aX (fun s fn hf=>by rw[Tryz.func109]at hf;cases hf;kernel_rfl) (fun n s=>by kernel_rfl)
def ref14_Made_T:Tab:=(109,ref14_Made_t)::ref14_After_T
theorem rq:ref14_Made_T.ok Tryz.prog:=Tab.ok_cons Gq pj
abbrev xB:=Bool
def zu(n:Nat)(v0 v1 v2 v3:Int):Option xB:=
 (bif 0<=v0 then(bif(!(v0<=3 !(v0<=3)then some false else(bif 0<=v2 then(bif(!(v2<=1000 !(v2<=1000)then some false else(bif 0<=v3 then(bif(!(v3<=10000000 !(v3<=10000000)then some false else(bif v0=0 then some (decide (v1=(-1)))else(bif 0<=v1 then(bif v1<=63 then some (decide (1<=v2))else some false)else some false)))else some false))else some false))else some false)
def nU(n:Nat)(v0 v1 v2 v3:Int):Option xB:=zu n v0 v1 v2 v3
def life_Valid_t:FnT:=⟨[(true,[.int,.int,.int,.int])],.b,fun n (s:Int×Int×Int×Int)=>nU n s.1 s.2.1 s.2.2.1 s.2.2.2⟩
theorem G3:life_Valid_t.ok Tryz.prog 222:=FnT.ok_of (cfg:=⟨[],aH,[],aG⟩) av rq aX (fun s fn hf=>by rw[Tryz.func222]at hf;cases hf;kernel_rfl) (fun n s=>by kernel_rfl)
def life_Valid_T:Tab:=(222,life_Valid_t)::ref14_Made_T
theorem qt:life_Valid_T.ok Tryz.prog:=Tab.ok_cons G3 rq
abbrev wA:=Bool
def mY(n:Nat)(v0 v1 v2:Int):Option wA:=
 (bif 1<=v0 then(bif(!(v0<=7 !(v0<=7)then some false else(bif 0<=v1 then(bif(!(v1<=10000000 !(v1<=10000000)then some false else bif 0<=v0 then bif v0<8 then(bif(cB ((((((((([]:Lv)++[[(AV.int 0),(AV.int 0),(AV.bool false)]])++[[(AV.int 1),(AV.int 1),(AV.bool true)]])++[[(AV.int 2),(AV.int 1),(AV.bool true)]])++[[(AV.int 2),(AV.int 2),(AV.bool false)]])++[[(AV.int 4),(AV.int 1),(AV.bool false)]])++[[(AV.int 6),(AV.int 3),(AV.bool false)]])++[[(AV.int 8),(AV.int 1),(AV.bool false)]])++[[(AV.int 8),(AV.int 0),(AV.bool false)]]) v0 2)then(bif 0<=v2 then some (decide (v2<=63))else some false)else some (decide (v2=(-1))))else none else none)else some false))else some false)
def jq(n:Nat)(v0 v1 v2:Int):Option wA:=mY n v0 v1 v2
def life_Formed_t:FnT:=⟨[(true,[.int,.int,.int])],.b,fun n (s:Int×Int×Int)=>jq n s.1 s.2.1 s.2.2⟩
theorem Ft:life_Formed_t.ok Tryz.prog 223:=FnT.ok_of (cfg:=⟨[],aH,[],aG⟩) av qt aX (fun s fn hf=>by rw[Tryz.func223]at hf;cases hf;kernel_rfl) (fun n s=>by kernel_rfl)
def life_Formed_T:Tab:=(223,life_Formed_t)::life_Valid_T
theorem qg:life_Formed_T.ok Tryz.prog:=Tab.ok_cons Ft qt
abbrev fx:=Int×Int×Int×Int×Int
def Bn(n:Nat)(v1 v2 v3 v4 v5 v6:Int):Option fx:=
 (bif(cB ((((((((([]:Lv)++[[(AV.int 0),(AV.int 0),(AV.bool false)]])++[[(AV.int 1),(AV.int 1),(AV.bool true)]])++[[(AV.int 2),(AV.int 1),(AV.bool true)]])++[[(AV.int 2),(AV.int 2),(AV.bool false)]])++[[(AV.int 4),(AV.int 1),(AV.bool false)]])++[[(AV.int 6),(AV.int 3),(AV.bool false)]])++[[(AV.int 8),(AV.int 1),(AV.bool false)]])++[[(AV.int 8),(AV.int 0),(AV.bool false)]]) v4 2)then(bif v2=1000 then some (0,0,0,0,140)else(bif v1=v6 then some (0,0,0,0,140)else(bif v4=7 then bif(-9223372036854775808<=(v5-v3))&&((v5-v3)<=9223372036854775807)then(bif (v5-v3)<2592000 then some (0,0,0,0,140)else bif(-9223372036854775808<=(v2+1))&&((v2+1)<=9223372036854775807)then(bif (cI ((((((((([]:Lv)++[[(AV.int 0),(AV.int 0),(AV.bool false)]])++[[(AV.int 1),(AV.int 1),(AV.bool true)]])++[[(AV.int 2),(AV.int 1),(AV.bool true)]])++[[(AV.int 2),(AV.int 2),(AV.bool false)]])++[[(AV.int 4),(AV.int 1),(AV.bool false)]])++[[(AV.int 6),(AV.int 3),(AV.bool false)]])++[[(AV.int 8),(AV.int 1),(AV.bool false)]])++[[(AV.int 8),(AV.int 0),(AV.bool false)]]) v4 1)=0 then some ((cI ((((((((([]:Lv)++[[(AV.int 0),(AV.int 0),(AV.bool false)]])++[[(AV.int 1),(AV.int 1),(AV.bool true)]])++[[(AV.int 2),(AV.int 1),(AV.bool true)]])++[[(AV.int 2),(AV.int 2),(AV.bool false)]])++[[(AV.int 4),(AV.int 1),(AV.bool false)]])++[[(AV.int 6),(AV.int 3),(AV.bool false)]])++[[(AV.int 8),(AV.int 1),(AV.bool false)]])++[[(AV.int 8),(AV.int 0),(AV.bool false)]]) v4 1),(-1),(v2+1),v5,0)else some ((cI ((((((((([]:Lv)++[[(AV.int 0),(AV.int 0),(AV.bool false)]])++[[(AV.int 1),(AV.int 1),(AV.bool true)]])++[[(AV.int 2),(AV.int 1),(AV.bool true)]])++[[(AV.int 2),(AV.int 2),(AV.bool false)]])++[[(AV.int 4),(AV.int 1),(AV.bool false)]])++[[(AV.int 6),(AV.int 3),(AV.bool false)]])++[[(AV.int 8),(AV.int 1),(AV.bool false)]])++[[(AV.int 8),(AV.int 0),(AV.bool false)]]) v4 1),v6,(v2+1),v5,0))else none)else none else bif(-9223372036854775808<=(v2+1))&&((v2+1)<=9223372036854775807)then(bif (cI ((((((((([]:Lv)++[[(AV.int 0),(AV.int 0),(AV.bool false)]])++[[(AV.int 1),(AV.int 1),(AV.bool true)]])++[[(AV.int 2),(AV.int 1),(AV.bool true)]])++[[(AV.int 2),(AV.int 2),(AV.bool false)]])++[[(AV.int 4),(AV.int 1),(AV.bool false)]])++[[(AV.int 6),(AV.int 3),(AV.bool false)]])++[[(AV.int 8),(AV.int 1),(AV.bool false)]])++[[(AV.int 8),(AV.int 0),(AV.bool false)]]) v4 1)=0 then some ((cI ((((((((([]:Lv)++[[(AV.int 0),(AV.int 0),(AV.bool false)]])++[[(AV.int 1),(AV.int 1),(AV.bool true)]])++[[(AV.int 2),(AV.int 1),(AV.bool true)]])++[[(AV.int 2),(AV.int 2),(AV.bool false)]])++[[(AV.int 4),(AV.int 1),(AV.bool false)]])++[[(AV.int 6),(AV.int 3),(AV.bool false)]])++[[(AV.int 8),(AV.int 1),(AV.bool false)]])++[[(AV.int 8),(AV.int 0),(AV.bool false)]]) v4 1),(-1),(v2+1),v5,0)else some ((cI ((((((((([]:Lv)++[[(AV.int 0),(AV.int 0),(AV.bool false)]])++[[(AV.int 1),(AV.int 1),(AV.bool true)]])++[[(AV.int 2),(AV.int 1),(AV.bool true)]])++[[(AV.int 2),(AV.int 2),(AV.bool false)]])++[[(AV.int 4),(AV.int 1),(AV.bool false)]])++[[(AV.int 6),(AV.int 3),(AV.bool false)]])++[[(AV.int 8),(AV.int 1),(AV.bool false)]])++[[(AV.int 8),(AV.int 0),(AV.bool false)]]) v4 1),v6,(v2+1),v5,0))else none)))else(bif v4=7 then bif(-9223372036854775808<=(v5-v3))&&((v5-v3)<=9223372036854775807)then(bif (v5-v3)<2592000 then some (0,0,0,0,140)else(bif (cI ((((((((([]:Lv)++[[(AV.int 0),(AV.int 0),(AV.bool false)]])++[[(AV.int 1),(AV.int 1),(AV.bool true)]])++[[(AV.int 2),(AV.int 1),(AV.bool true)]])++[[(AV.int 2),(AV.int 2),(AV.bool false)]])++[[(AV.int 4),(AV.int 1),(AV.bool false)]])++[[(AV.int 6),(AV.int 3),(AV.bool false)]])++[[(AV.int 8),(AV.int 1),(AV.bool false)]])++[[(AV.int 8),(AV.int 0),(AV.bool false)]]) v4 1)=0 then some ((cI ((((((((([]:Lv)++[[(AV.int 0),(AV.int 0),(AV.bool false)]])++[[(AV.int 1),(AV.int 1),(AV.bool true)]])++[[(AV.int 2),(AV.int 1),(AV.bool true)]])++[[(AV.int 2),(AV.int 2),(AV.bool false)]])++[[(AV.int 4),(AV.int 1),(AV.bool false)]])++[[(AV.int 6),(AV.int 3),(AV.bool false)]])++[[(AV.int 8),(AV.int 1),(AV.bool false)]])++[[(AV.int 8),(AV.int 0),(AV.bool false)]]) v4 1),(-1),v2,v5,0)else some ((cI ((((((((([]:Lv)++[[(AV.int 0),(AV.int 0),(AV.bool false)]])++[[(AV.int 1),(AV.int 1),(AV.bool true)]])++[[(AV.int 2),(AV.int 1),(AV.bool true)]])++[[(AV.int 2),(AV.int 2),(AV.bool false)]])++[[(AV.int 4),(AV.int 1),(AV.bool false)]])++[[(AV.int 6),(AV.int 3),(AV.bool false)]])++[[(AV.int 8),(AV.int 1),(AV.bool false)]])++[[(AV.int 8),(AV.int 0),(AV.bool false)]]) v4 1),v1,v2,v5,0)))else none else(bif (cI ((((((((([]:Lv)++[[(AV.int 0),(AV.int 0),(AV.bool false)]])++[[(AV.int 1),(AV.int 1),(AV.bool true)]])++[[(AV.int 2),(AV.int 1),(AV.bool true)]])++[[(AV.int 2),(AV.int 2),(AV.bool false)]])++[[(AV.int 4),(AV.int 1),(AV.bool false)]])++[[(AV.int 6),(AV.int 3),(AV.bool false)]])++[[(AV.int 8),(AV.int 1),(AV.bool false)]])++[[(AV.int 8),(AV.int 0),(AV.bool false)]]) v4 1)=0 then some ((cI ((((((((([]:Lv)++[[(AV.int 0),(AV.int 0),(AV.bool false)]])++[[(AV.int 1),(AV.int 1),(AV.bool true)]])++[[(AV.int 2),(AV.int 1),(AV.bool true)]])++[[(AV.int 2),(AV.int 2),(AV.bool false)]])++[[(AV.int 4),(AV.int 1),(AV.bool false)]])++[[(AV.int 6),(AV.int 3),(AV.bool false)]])++[[(AV.int 8),(AV.int 1),(AV.bool false)]])++[[(AV.int 8),(AV.int 0),(AV.bool false)]]) v4 1),(-1),v2,v5,0)else some ((cI ((((((((([]:Lv)++[[(AV.int 0),(AV.int 0),(AV.bool false)]])++[[(AV.int 1),(AV.int 1),(AV.bool true)]])++[[(AV.int 2),(AV.int 1),(AV.bool true)]])++[[(AV.int 2),(AV.int 2),(AV.bool false)]])++[[(AV.int 4),(AV.int 1),(AV.bool false)]])++[[(AV.int 6),(AV.int 3),(AV.bool false)]])++[[(AV.int 8),(AV.int 1),(AV.bool false)]])++[[(AV.int 8),(AV.int 0),(AV.bool false)]]) v4 1),v1,v2,v5,0))))
def BG(n:Nat)(v0 v1 v2 v3 v4 v5 v6:Int):Option fx:=
 (bif (IOp.f .and (IOp.f .shr (cI ((((((((([]:Lv)++[[(AV.int 0),(AV.int 0),(AV.bool false)]])++[[(AV.int 1),(AV.int 1),(AV.bool true)]])++[[(AV.int 2),(AV.int 1),(AV.bool true)]])++[[(AV.int 2),(AV.int 2),(AV.bool false)]])++[[(AV.int 4),(AV.int 1),(AV.bool false)]])++[[(AV.int 6),(AV.int 3),(AV.bool false)]])++[[(AV.int 8),(AV.int 1),(AV.bool false)]])++[[(AV.int 8),(AV.int 0),(AV.bool false)]]) v4 0) v0) 1)=0 then some (0,0,0,0,140)else Bn n v1 v2 v3 v4 v5 v6)
def sB(n:Nat)(v0 v1 v2 v3 v4 v5 v6:Int):Option fx:=
 (bif v5<v3 then some (0,0,0,0,140)else bif 0<=v4 then bif v4<8 then bif 0<=v0 then BG n v0 v1 v2 v3 v4 v5 v6 else none else none else none)
def BH(n:Nat)(v0 v1 v2 v3 v4 v5 v6:Int)(v8:Bool):Option fx:=
 (bif(!v8)then some (0,0,0,0,140)else sB n v0 v1 v2 v3 v4 v5 v6)
def BT(n:Nat)(v0 v1 v2 v3 v4 v5 v6:Int)(v7:Bool):Option fx:=
 (bif(!v7)then some (0,0,0,0,140)else(jq n v4 v5 v6).bind fun y8=>
 BH n v0 v1 v2 v3 v4 v5 v6 y8)
def BU(n:Nat)(v0 v1 v2 v3 v4 v5 v6:Int):Option fx:=
 (nU n v0 v1 v2 v3).bind fun y7=>
 BT n v0 v1 v2 v3 v4 v5 v6 y7
def mC(n:Nat)(v0 v1 v2 v3 v4 v5 v6:Int):Option fx:=BU n v0 v1 v2 v3 v4 v5 v6
def life_Step_t:FnT:=⟨[(true,[.int,.int,.int,.int]),(true,[.int,.int,.int])],(.tup (.cons (.agg (.cons .i (.cons .i (.cons .i (.cons .i .nil))))) (.cons .i .nil))),fun n (s:Int×Int×Int×Int×Int×Int×Int)=>mC n s.1 s.2.1 s.2.2.1 s.2.2.2.1 s.2.2.2.2.1 s.2.2.2.2.2.1 s.2.2.2.2.2.2⟩
theorem IY:life_Step_t.ok Tryz.prog 210:=FnT.ok_of (cfg:=⟨[],aH,[],aG⟩) av qg aX (fun s fn hf=>by rw[Tryz.func210]at hf;cases hf;kernel_rfl) (fun n s=>by kernel_rfl)
def life_Step_T:Tab:=(210,life_Step_t)::life_Formed_T
theorem tF:life_Step_T.ok Tryz.prog:=Tab.ok_cons IY qg
abbrev nP:=Int×Int×Int×Int×Int×Int
abbrev BJ:=Int×Int×Int×Int×Int×Int×Int×Int×Int×Int
def Ek(n:Nat)(go0:BJ->Option nP)(v0:Lv)(v1 v2 v3 v4 v5 v6 v7 v8 v9 v10:Int):Option nP:=
 (bif v1<((List.take ((af (v0.length:Int) 40)).toNat v0).length:Int) then bif 0<=v1 then(mC n v7 v8 v9 v10 (cI (List.take ((af (v0.length:Int) 40)).toNat v0) v1 0) (cI (List.take ((af (v0.length:Int) 40)).toNat v0) v1 1) (cI (List.take ((af (v0.length:Int) 40)).toNat v0) v1 2)).bind fun y11=>
 (bif(!(y11.2.2.2.2=0 !(y11.2.2.2.2=0)then(bif v2<(v0.length:Int) then some (0,0,0,0,v2,140)else some (v3,v4,v5,v6,v2,0))else bif(-9223372036854775808<=(v1+1))&&((v1+1)<=9223372036854775807)then go0 ((v1+1),(v1+1),y11.1,y11.2.1,y11.2.2.1,y11.2.2.2.1,y11.1,y11.2.1,y11.2.2.1,y11.2.2.2.1)else none)else none else(bif v2<(v0.length:Int) then some (0,0,0,0,v2,140)else some (v3,v4,v5,v6,v2,0)))
def DO(n:Nat)(v0:Lv):Option nP:=
 bif 0<=(af (v0.length:Int) 40) then bif (af (v0.length:Int) 40)<=(v0.length:Int) then(aa (fun go0 s=>Ek n go0 v0 s.1 s.2.1 s.2.2.1 s.2.2.2.1 s.2.2.2.2.1 s.2.2.2.2.2.1 s.2.2.2.2.2.2.1 s.2.2.2.2.2.2.2.1 s.2.2.2.2.2.2.2.2.1 s.2.2.2.2.2.2.2.2.2) n ((0,0,0,(-1),0,0,0,(-1),0,0):BJ))else none else none
def lp(n:Nat)(v0:Lv):Option nP:=DO n v0
def life_Run_t:FnT:=⟨[(false,[tSc])],(.tup (.cons (.agg (.cons .i (.cons .i (.cons .i (.cons .i .nil))))) (.cons .i (.cons .i .nil)))),fun n (s:Lv)=>lp n s⟩
theorem J8:life_Run_t.ok Tryz.prog 158:=FnT.ok_of (cfg:=⟨[((209,3,13),.inv [(.tmp 15 .int),(.cell 1 0 .int),(.cell 2 0 .int),(.cell 2 1 .int),(.cell 2 2 .int),(.cell 2 3 .int),(.cell 7 0 .int),(.cell 7 1 .int),(.cell 7 2 .int),(.cell 7 3 .int)])],aH,[],aG⟩) av tF aX (fun s fn hf=>by rw[Tryz.func158]at hf;cases hf;kernel_rfl) (fun n s=>by kernel_rfl)
def life_Run_T:Tab:=(158,life_Run_t)::life_Step_T
theorem wN:life_Run_T.ok Tryz.prog:=Tab.ok_cons J8 tF
abbrev qU:=Int×Int×Int×Int×Bool
abbrev D5:=Int×Int
def Ge(n:Nat)(go0:D5->Option qU)(v0:Lv)(v1 v8 v9:Int):Option qU:=
 (bif v8<v9 then bif(-9223372036854775808<=(v8+v9))&&((v8+v9)<=9223372036854775807)then bif 0<=1 then bif 0<=(IntKind.wrap .i64 (ia .shr .u64 (IntKind.wrap .u64 (v8+v9)) 1)) then bif (IntKind.wrap .i64 (ia .shr .u64 (IntKind.wrap .u64 (v8+v9)) 1))<(v0.length:Int) then(bif(!(v1<(cI v0 (IntKind.wrap .i64 (ia .shr .u64 (IntKind.wrap .u64 (v8+v9)) 1)) 1) !(v1<(cI v0 (IntKind.wrap .i64 (ia .shr .u64 (IntKind.wrap .u64 (v8+v9)) 1)) 1))then bif(-9223372036854775808<=((IntKind.wrap .i64 (ia .shr .u64 (IntKind.wrap .u64 (v8+v9)) 1))+1))&&(((IntKind.wrap .i64 (ia .shr .u64 (IntKind.wrap .u64 (v8+v9)) 1))+1)<=9223372036854775807)then go0 (((IntKind.wrap .i64 (ia .shr .u64 (IntKind.wrap .u64 (v8+v9)) 1))+1),v9)else none else go0 (v8,(IntKind.wrap .i64 (ia .shr .u64 (IntKind.wrap .u64 (v8+v9)) 1))))else none else none else none else none else bif 0<=v8 then bif v8<=(v0.length:Int) then(lp n (List.take (v8).toNat v0)).bind fun y10=>
 some (y10.1,y10.2.1,y10.2.2.1,y10.2.2.2.1,true)else none else none)
def Gf(n:Nat)(v0:Lv)(v1:Int):Option qU:=
 (lp n v0).bind fun y2=>
 (bif(!(y2.2.2.2.2.2=0 !(y2.2.2.2.2.2=0)then some (0,0,0,0,false)else(bif 0<=v1 then(bif(!(v1<=10000000 !(v1<=10000000)then some (0,0,0,0,false)else(aa (fun go0 s=>Ge n go0 v0 v1 s.1 s.2) n ((0,(v0.length:Int)):D5)))else some (0,0,0,0,false)))
def A6(n:Nat)(v0:Lv)(v1:Int):Option qU:=Gf n v0 v1
def life_at_t:FnT:=⟨[(false,[tSc]),(false,[.int])],(.tup (.cons (.agg (.cons .i (.cons .i (.cons .i (.cons .i .nil))))) (.cons .b .nil))),fun n (s:Lv×Int)=>A6 n s.1 s.2⟩
theorem LS:life_at_t.ok Tryz.prog 196:=FnT.ok_of (cfg:=⟨[((214,2,5),.inv [(.tmp 5 .int),(.tmp 6 .int)])],aH,[],aG⟩) av wN aX (fun s fn hf=>by rw[Tryz.func196]at hf;cases hf;kernel_rfl) (fun n s=>by kernel_rfl)
def life_at_T:Tab:=(196,life_at_t)::life_Run_T
theorem yF:life_at_T.ok Tryz.prog:=Tab.ok_cons LS wN
abbrev Gh:=Int×Int×Int×Int×Int
def FI(n:Nat)(v0:Lv)(v1:Int):Option Gh:=
 (A6 n v0 v1).bind fun y2=>
 (bif(!y2.2.2.2.2)then some (0,0,0,0,140)else some (y2.1,y2.2.1,y2.2.2.1,y2.2.2.2.1,0))
def oE(n:Nat)(v0:Lv)(v1:Int):Option Gh:=FI n v0 v1
def life_At_t:FnT:=⟨[(false,[tSc]),(false,[.int])],(.tup (.cons (.agg (.cons .i (.cons .i (.cons .i (.cons .i .nil))))) (.cons .i .nil))),fun n (s:Lv×Int)=>oE n s.1 s.2⟩
theorem LQ:life_At_t.ok Tryz.prog 163:=FnT.ok_of (cfg:=⟨[],aH,[],aG⟩) av yF aX (fun s fn hf=>by rw[Tryz.func163]at hf;cases hf;kernel_rfl) (fun n s=>by kernel_rfl)
def life_At_T:Tab:=(163,life_At_t)::life_at_T
theorem xX:life_At_T.ok Tryz.prog:=Tab.ok_cons LQ yF
abbrev jA:=Bool
abbrev tM:=Int×Int
def vu(n:Nat)(go0:tM->Option jA)(v0 v2 v3 v4 v5:Int)(v7:Lv)(v14 v15:Int):Option jA:=
 (bif v15<(v7.length:Int) then bif 0<=v15 then(bif(!((cI v7 v15 0)=v0 !((cI v7 v15 0)=v0)then some false else(gV n v2 v3 v4 v5 (cI v7 v15 0) (cI v7 v15 1) (cI v7 v15 2) (cI v7 v15 3) (cI v7 v15 4) (cB v7 v15 5) (cL v7 v15 6)).bind fun y16=>
 (bif(!y16)then some false else(bif (cI v7 v15 4)<v14 then some false else bif(-9223372036854775808<=(v15+1))&&((v15+1)<=9223372036854775807)then go0 ((cI v7 v15 4),(v15+1))else none)))else none else some true)
def vL(n:Nat)(v0 v1 v2 v3 v4 v5:Int)(v6 v7:Lv):Option jA:=
 (lp n v6).bind fun y8=>
 (bif(!(y8.2.2.2.2.2=0 !(y8.2.2.2.2.2=0)then some false else(bif 0<=v0 then(bif(!(v0<=99999999 !(v0<=99999999)then some false else(bif 0<=v1 then(bif(!(v1<=7 !(v1<=7)then some false else(bif 8<(v7.length:Int) then some false else(aa (fun go0 s=>vu n go0 v0 v2 v3 v4 v5 v7 s.1 s.2) n ((0,0):tM))))else some false))else some false))
def l6(n:Nat)(v0 v1 v2 v3 v4 v5:Int)(v6 v7:Lv):Option jA:=vL n v0 v1 v2 v3 v4 v5 v6 v7
def chain_Valid_t:FnT:=⟨[(true,[.int,.int,.int,.int,.int,.int,tSc,(.sl (.cons .int (.cons .int (.cons .int (.cons .int (.cons .int (.cons .bool (.cons tSc .nil))))))))])],.b,fun n (s:Int×Int×Int×Int×Int×Int×Lv×Lv)=>l6 n s.1 s.2.1 s.2.2.1 s.2.2.2.1 s.2.2.2.2.1 s.2.2.2.2.2.1 s.2.2.2.2.2.2.1 s.2.2.2.2.2.2.2⟩
theorem ER:chain_Valid_t.ok Tryz.prog 112:=FnT.ok_of (cfg:=⟨[((112,6,3),.inv [(.tmp 6 .int),(.tmp 39 .int)])],aH,[],aG⟩) av xX aX (fun s fn hf=>by rw[Tryz.func112]at hf;cases hf;kernel_rfl) (fun n s=>by kernel_rfl)
def chain_Valid_T:Tab:=(112,chain_Valid_t)::life_At_T
theorem qk:chain_Valid_T.ok Tryz.prog:=Tab.ok_cons ER xX
abbrev aw:=Lv
abbrev cM:=Lv×Int
abbrev aQ:=Int×Lv
abbrev ll:=Unit
def mA(n:Nat)(go0:cM->Option aw)(go1:cM->Option aw)(v9:Int)(v10 v12:Lv)(v13:Int):Option aw:=
 (bif v13<(v10.length:Int) then bif 0<=v13 then(bif (cI v10 v13 0)=4 then bif (((v12.length:Int)+1)*24)<=140737488355328 then bif(-9223372036854775808<=(v13+1))&&((v13+1)<=9223372036854775807)then go1 ((v12++[[(AV.int (cI v10 v13 1)),(AV.int v9),(AV.bool (decide ((cI v10 v13 0)=8)))]]),(v13+1))else none else none else(bif (cI v10 v13 0)=8 then bif (((v12.length:Int)+1)*24)<=140737488355328 then bif(-9223372036854775808<=(v13+1))&&((v13+1)<=9223372036854775807)then go1 ((v12++[[(AV.int (cI v10 v13 1)),(AV.int v9),(AV.bool (decide ((cI v10 v13 0)=8)))]]),(v13+1))else none else none else bif(-9223372036854775808<=(v13+1))&&((v13+1)<=9223372036854775807)then go1 (v12,(v13+1))else none))else none else bif(-9223372036854775808<=(v9+1))&&((v9+1)<=9223372036854775807)then go0 (v12,(v9+1))else none)
def fm(n:Nat)(go0:aQ->Option aw)(go1:aQ->Option aw)(v10 v12:Int)(v13:Lv):Option aw:=
 (bif 0<v12 then bif 0<=v12 then bif v12<(v13.length:Int) then bif(-9223372036854775808<=(v12-1))&&((v12-1)<=9223372036854775807)then bif 0<=(v12-1) then bif (v12-1)<(v13.length:Int) then(bif (cI v13 v12 0)<(cI v13 (v12-1) 0) then(bif (cI v13 v12 1)<(cI v13 (v12-1) 1) then go1 ((v12-1),(List.modify (List.modify (List.modify (List.modify (List.modify (List.modify v13 (v12).toNat (fun r=>r.set 0 (AV.int (cI v13 (v12-1) 0)))) (v12).toNat (fun r=>r.set 1 (AV.int (cI v13 (v12-1) 1)))) (v12).toNat (fun r=>r.set 2 (AV.bool (cB v13 (v12-1) 2)))) ((v12-1)).toNat (fun r=>r.set 0 (AV.int (cI v13 v12 0)))) ((v12-1)).toNat (fun r=>r.set 1 (AV.int (cI v13 v12 1)))) ((v12-1)).toNat (fun r=>r.set 2 (AV.bool (cB v13 v12 2)))))else(bif (cI v13 (v12-1) 1)<(cI v13 v12 1) then go1 ((v12-1),(List.modify (List.modify (List.modify (List.modify (List.modify (List.modify v13 (v12).toNat (fun r=>r.set 0 (AV.int (cI v13 (v12-1) 0)))) (v12).toNat (fun r=>r.set 1 (AV.int (cI v13 (v12-1) 1)))) (v12).toNat (fun r=>r.set 2 (AV.bool (cB v13 (v12-1) 2)))) ((v12-1)).toNat (fun r=>r.set 0 (AV.int (cI v13 v12 0)))) ((v12-1)).toNat (fun r=>r.set 1 (AV.int (cI v13 v12 1)))) ((v12-1)).toNat (fun r=>r.set 2 (AV.bool (cB v13 v12 2)))))else go1 ((v12-1),(List.modify (List.modify (List.modify (List.modify (List.modify (List.modify v13 (v12).toNat (fun r=>r.set 0 (AV.int (cI v13 (v12-1) 0)))) (v12).toNat (fun r=>r.set 1 (AV.int (cI v13 (v12-1) 1)))) (v12).toNat (fun r=>r.set 2 (AV.bool (cB v13 (v12-1) 2)))) ((v12-1)).toNat (fun r=>r.set 0 (AV.int (cI v13 v12 0)))) ((v12-1)).toNat (fun r=>r.set 1 (AV.int (cI v13 v12 1)))) ((v12-1)).toNat (fun r=>r.set 2 (AV.bool (cB v13 v12 2)))))))else(bif (cI v13 (v12-1) 0)<(cI v13 v12 0) then(bif (cI v13 v12 1)<(cI v13 (v12-1) 1) then bif(-9223372036854775808<=(v10+1))&&((v10+1)<=9223372036854775807)then go0 ((v10+1),v13)else none else(bif (cI v13 (v12-1) 1)<(cI v13 v12 1) then bif(-9223372036854775808<=(v10+1))&&((v10+1)<=9223372036854775807)then go0 ((v10+1),v13)else none else bif(-9223372036854775808<=(v10+1))&&((v10+1)<=9223372036854775807)then go0 ((v10+1),v13)else none))else(bif (cI v13 v12 1)<(cI v13 (v12-1) 1) then go1 ((v12-1),(List.modify (List.modify (List.modify (List.modify (List.modify (List.modify v13 (v12).toNat (fun r=>r.set 0 (AV.int (cI v13 (v12-1) 0)))) (v12).toNat (fun r=>r.set 1 (AV.int (cI v13 (v12-1) 1)))) (v12).toNat (fun r=>r.set 2 (AV.bool (cB v13 (v12-1) 2)))) ((v12-1)).toNat (fun r=>r.set 0 (AV.int (cI v13 v12 0)))) ((v12-1)).toNat (fun r=>r.set 1 (AV.int (cI v13 v12 1)))) ((v12-1)).toNat (fun r=>r.set 2 (AV.bool (cB v13 v12 2)))))else(bif (cI v13 (v12-1) 1)<(cI v13 v12 1) then bif(-9223372036854775808<=(v10+1))&&((v10+1)<=9223372036854775807)then go0 ((v10+1),v13)else none else bif(-9223372036854775808<=(v10+1))&&((v10+1)<=9223372036854775807)then go0 ((v10+1),v13)else none))))else none else none else none else none else none else bif(-9223372036854775808<=(v10+1))&&((v10+1)<=9223372036854775807)then go0 ((v10+1),v13)else none)
def zi(n:Nat)(go0:aQ->Option aw)(v10:Int)(v11:Lv):Option aw:=
 (bif v10<20 then(aa (fun go1 s=>fm n go0 go1 v10 s.1 s.2) n ((v10,v11):aQ))else none)
abbrev bT:= @fm
def yv(n:Nat)(go0:ll->Option aw):Option aw:=
 none
def ip(n:Nat)(go0:aQ->Option aw)(v8:Lv)(v10:Int)(v11:Lv):Option aw:=
 (bif v10<(v8.length:Int) then(aa (fun go1 s=>bT n go0 go1 v10 s.1 s.2) n ((v10,v11):aQ))else(bif 20<(v8.length:Int) then(aa (fun go0 s=>yv n go0 ) n (():ll))else some v11))
def mn(n:Nat)(go0:cM->Option aw)(v8:Lv):Option aw:=
 (bif 20<=(v8.length:Int) then(aa (fun go0 s=>zi n go0 s.1 s.2) n ((1,v8):aQ))else(aa (fun go0 s=>ip n go0 v8 s.1 s.2) n ((1,v8):aQ)))
def mz(n:Nat)(go0:cM->Option aw)(v2 v3 v4 v5:Int)(v7 v8:Lv)(v9:Int):Option aw:=
 (bif v9<(v7.length:Int) then bif 0<=v9 then(iS n v2 v3 v4 v5 (cI v7 v9 0) (cI v7 v9 1) (cI v7 v9 2) (cI v7 v9 3) (cI v7 v9 4) (cB v7 v9 5) (cL v7 v9 6)).bind fun y10=>
 (aa (fun go1 s=>mA n go0 go1 v9 y10.1 s.1 s.2) n ((v8,0):cM))else none else mn n go0 v8)
def mH(n:Nat)(v2 v3 v4 v5:Int)(v7:Lv):Option aw:=
 (aa (fun go0 s=>mz n go0 v2 v3 v4 v5 v7 s.1 s.2) n ((([]:Lv),0):cM))
def gx(n:Nat)(v0 v1 v2 v3 v4 v5:Int)(v6 v7:Lv):Option aw:=mH n v2 v3 v4 v5 v7
def chain_happenings_t:FnT:=⟨[(true,[.int,.int,.int,.int,.int,.int,tSc,(.sl (.cons .int (.cons .int (.cons .int (.cons .int (.cons .int (.cons .bool (.cons tSc .nil))))))))])],(.row 239 (.cons .int (.cons .int (.cons .bool .nil)))),fun n (s:Int×Int×Int×Int×Int×Int×Lv×Lv)=>gx n s.1 s.2.1 s.2.2.1 s.2.2.2.1 s.2.2.2.2.1 s.2.2.2.2.2.1 s.2.2.2.2.2.2.1 s.2.2.2.2.2.2.2⟩
theorem xx:chain_happenings_t.ok Tryz.prog 161:=FnT.ok_of (cfg:=⟨[((211,2,0),.unroll 1),((211,7,0),.unroll 1),((194,3,0),.unroll 3),((161,3,1),.inv [(.tmprow 3 239 (.cons .int (.cons .int (.cons .bool .nil)))),(.tmp 13 .int)]),((161,7,6),.inv [(.tmprow 3 239 (.cons .int (.cons .int (.cons .bool .nil)))),(.tmp 30 .int)]),((225,1,3),.inv [(.tmp 8 .int),(.inrow 1 239 (.cons .int (.cons .int (.cons .bool .nil))))]),((225,4,5),.inv [(.tmp 9 .int),(.inrow 1 239 (.cons .int (.cons .int (.cons .bool .nil))))]),((211,9,5),.inv [])],aH,[],aG⟩) av qk aX (fun s fn hf=>by rw[Tryz.func161]at hf;cases hf;kernel_rfl) (fun n s=>by kernel_rfl)
def chain_happenings_T:Tab:=(161,chain_happenings_t)::chain_Valid_T
theorem jZ:chain_happenings_T.ok Tryz.prog:=Tab.ok_cons xx qk
abbrev ax:=Int×Lv×Int
abbrev bS:=Int×Int×Int×Int×Int×Lv×Int×Lv
abbrev dk:=Int
abbrev js:=Bool×Int×Int×Int×Lv×Int×Lv
def sA(n:Nat)(go0:bS->Option ax)(go1:dk->Option ax)(v1:Int)(v7:Lv)(v8:Int)(v10:Lv)(v12:Int)(v16:Lv)(v17:Int)(v18:Lv)(v20 v21:Int):Option ax:=
 (bif v20=1 then(bif v21=(cI v7 (cI v10 v12 1) 3) then bif (((v18.length:Int)+1)*8)<=140737488355328 then bif 0<=((v18.length:Int)+1) then(bif 0<((v18.length:Int)+1) then bif(-9223372036854775808<=(((v18.length:Int)+1)-1))&&((((v18.length:Int)+1)-1)<=9223372036854775807)then bif 0<=(((v18.length:Int)+1)-1) then bif (((v18.length:Int)+1)-1)<((v18.length:Int)+1) then bif 0<=(cI (v18++[[(AV.int (cI v10 v12 1))]]) (((v18.length:Int)+1)-1) 0) then bif (cI (v18++[[(AV.int (cI v10 v12 1))]]) (((v18.length:Int)+1)-1) 0)<(v7.length:Int) then(bif v8<(cI v10 v12 0) then some (v17,v16,0)else bif(-9223372036854775808<=(v12+1))&&((v12+1)<=9223372036854775807)then go0 ((cI v7 (cI (v18++[[(AV.int (cI v10 v12 1))]]) (((v18.length:Int)+1)-1) 0) 2),(v12+1),(cI v10 v12 0),(cI v10 v12 1),1,(List.take (List.replicate (((v18.length:Int)+1)).toNat [(AV.int 0)]).length (v18++[[(AV.int (cI v10 v12 1))]])++List.drop (v18++[[(AV.int (cI v10 v12 1))]]).length (List.replicate (((v18.length:Int)+1)).toNat [(AV.int 0)])),(cI v7 (cI (v18++[[(AV.int (cI v10 v12 1))]]) (((v18.length:Int)+1)-1) 0) 2),(v18++[[(AV.int (cI v10 v12 1))]]))else none)else none else none else none else none else none else(bif v8<(cI v10 v12 0) then some (v17,v16,0)else bif(-9223372036854775808<=(v12+1))&&((v12+1)<=9223372036854775807)then go0 (v1,(v12+1),(cI v10 v12 0),(cI v10 v12 1),1,(List.take (List.replicate (((v18.length:Int)+1)).toNat [(AV.int 0)]).length (v18++[[(AV.int (cI v10 v12 1))]])++List.drop (v18++[[(AV.int (cI v10 v12 1))]]).length (List.replicate (((v18.length:Int)+1)).toNat [(AV.int 0)])),v1,(v18++[[(AV.int (cI v10 v12 1))]]))else none))else none else none else bif 0<=(v18.length:Int) then bif ((v18.length:Int)*8)<=140737488355328 then(bif 0<(v18.length:Int) then bif(-9223372036854775808<=((v18.length:Int)-1))&&(((v18.length:Int)-1)<=9223372036854775807)then bif 0<=((v18.length:Int)-1) then bif ((v18.length:Int)-1)<(v18.length:Int) then bif 0<=(cI v18 ((v18.length:Int)-1) 0) then bif (cI v18 ((v18.length:Int)-1) 0)<(v7.length:Int) then(bif v8<(cI v10 v12 0) then some (v17,v16,0)else bif(-9223372036854775808<=(v12+1))&&((v12+1)<=9223372036854775807)then go0 ((cI v7 (cI v18 ((v18.length:Int)-1) 0) 2),(v12+1),(cI v10 v12 0),(cI v10 v12 1),2,(List.take (List.replicate ((v18.length:Int)).toNat [(AV.int 0)]).length v18++List.drop v18.length (List.replicate ((v18.length:Int)).toNat [(AV.int 0)])),(cI v7 (cI v18 ((v18.length:Int)-1) 0) 2),v18)else none)else none else none else none else none else none else(bif v8<(cI v10 v12 0) then some (v17,v16,0)else bif(-9223372036854775808<=(v12+1))&&((v12+1)<=9223372036854775807)then go0 (v1,(v12+1),(cI v10 v12 0),(cI v10 v12 1),2,(List.take (List.replicate ((v18.length:Int)).toNat [(AV.int 0)]).length v18++List.drop v18.length (List.replicate ((v18.length:Int)).toNat [(AV.int 0)])),v1,v18)else none))else none else none)else bif 0<=(v18.length:Int) then bif ((v18.length:Int)*8)<=140737488355328 then(bif 0<(v18.length:Int) then bif(-9223372036854775808<=((v18.length:Int)-1))&&(((v18.length:Int)-1)<=9223372036854775807)then bif 0<=((v18.length:Int)-1) then bif ((v18.length:Int)-1)<(v18.length:Int) then bif 0<=(cI v18 ((v18.length:Int)-1) 0) then bif (cI v18 ((v18.length:Int)-1) 0)<(v7.length:Int) then(bif v8<(cI v10 v12 0) then some (v17,v16,0)else bif(-9223372036854775808<=(v12+1))&&((v12+1)<=9223372036854775807)then go0 ((cI v7 (cI v18 ((v18.length:Int)-1) 0) 2),(v12+1),(cI v10 v12 0),(cI v10 v12 1),2,(List.take (List.replicate ((v18.length:Int)).toNat [(AV.int 0)]).length v18++List.drop v18.length (List.replicate ((v18.length:Int)).toNat [(AV.int 0)])),(cI v7 (cI v18 ((v18.length:Int)-1) 0) 2),v18)else none)else none else none else none else none else none else(bif v8<(cI v10 v12 0) then some (v17,v16,0)else bif(-9223372036854775808<=(v12+1))&&((v12+1)<=9223372036854775807)then go0 (v1,(v12+1),(cI v10 v12 0),(cI v10 v12 1),2,(List.take (List.replicate ((v18.length:Int)).toNat [(AV.int 0)]).length v18++List.drop v18.length (List.replicate ((v18.length:Int)).toNat [(AV.int 0)])),v1,v18)else none))else none else none)
def i6(n:Nat)(go0:bS->Option ax)(go1:dk->Option ax)(v1:Int)(v7:Lv)(v8:Int)(v10:Lv)(v11 v12:Int)(v16:Lv)(v17:Int)(v18:Lv)(v20 v21:Int):Option ax:=
 (bif v11=(cI v7 (cI v10 v12 1) 1) then sA n go0 go1 v1 v7 v8 v10 v12 v16 v17 v18 v20 v21 else bif 0<=(v18.length:Int) then bif ((v18.length:Int)*8)<=140737488355328 then(bif 0<(v18.length:Int) then bif(-9223372036854775808<=((v18.length:Int)-1))&&(((v18.length:Int)-1)<=9223372036854775807)then bif 0<=((v18.length:Int)-1) then bif ((v18.length:Int)-1)<(v18.length:Int) then bif 0<=(cI v18 ((v18.length:Int)-1) 0) then bif (cI v18 ((v18.length:Int)-1) 0)<(v7.length:Int) then(bif v8<(cI v10 v12 0) then some (v17,v16,0)else bif(-9223372036854775808<=(v12+1))&&((v12+1)<=9223372036854775807)then go0 ((cI v7 (cI v18 ((v18.length:Int)-1) 0) 2),(v12+1),(cI v10 v12 0),(cI v10 v12 1),2,(List.take (List.replicate ((v18.length:Int)).toNat [(AV.int 0)]).length v18++List.drop v18.length (List.replicate ((v18.length:Int)).toNat [(AV.int 0)])),(cI v7 (cI v18 ((v18.length:Int)-1) 0) 2),v18)else none)else none else none else none else none else none else(bif v8<(cI v10 v12 0) then some (v17,v16,0)else bif(-9223372036854775808<=(v12+1))&&((v12+1)<=9223372036854775807)then go0 (v1,(v12+1),(cI v10 v12 0),(cI v10 v12 1),2,(List.take (List.replicate ((v18.length:Int)).toNat [(AV.int 0)]).length v18++List.drop v18.length (List.replicate ((v18.length:Int)).toNat [(AV.int 0)])),v1,v18)else none))else none else none)
def sr(n:Nat)(go0:bS->Option ax)(go1:js->Option ax)(v1:Int)(v7:Lv)(v8:Int)(v10:Lv)(v12 v19 v21 v22 v23:Int)(v24:Lv)(v25:Int)(v26:Lv):Option ax:=
 (bif v19<(v26.length:Int) then bif(-9223372036854775808<=((v26.length:Int)-1))&&(((v26.length:Int)-1)<=9223372036854775807)then bif 0<=((v26.length:Int)-1) then bif ((v26.length:Int)-1)<(v26.length:Int) then(bif (cI v26 ((v26.length:Int)-1) 0)=(cI v10 v12 1) then bif ((v26.length:Int)-1)<=(v26.length:Int) then bif 0<=((List.take (((v26.length:Int)-1)).toNat v26).length:Int) then bif (((List.take (((v26.length:Int)-1)).toNat v26).length:Int)*8)<=140737488355328 then(bif 0<((List.take (((v26.length:Int)-1)).toNat v26).length:Int) then bif(-9223372036854775808<=(((List.take (((v26.length:Int)-1)).toNat v26).length:Int)-1))&&((((List.take (((v26.length:Int)-1)).toNat v26).length:Int)-1)<=9223372036854775807)then bif 0<=(((List.take (((v26.length:Int)-1)).toNat v26).length:Int)-1) then bif (((List.take (((v26.length:Int)-1)).toNat v26).length:Int)-1)<((List.take (((v26.length:Int)-1)).toNat v26).length:Int) then bif 0<=(cI (List.take (((v26.length:Int)-1)).toNat v26) (((List.take (((v26.length:Int)-1)).toNat v26).length:Int)-1) 0) then bif (cI (List.take (((v26.length:Int)-1)).toNat v26) (((List.take (((v26.length:Int)-1)).toNat v26).length:Int)-1) 0)<(v7.length:Int) then(bif v8<(cI v10 v12 0) then some (v25,v24,0)else go1 (true,(cI v10 v12 0),(cI v26 ((v26.length:Int)-1) 0),3,(List.take (List.replicate (((List.take (((v26.length:Int)-1)).toNat v26).length:Int)).toNat [(AV.int 0)]).length (List.take (((v26.length:Int)-1)).toNat v26)++List.drop (List.take (((v26.length:Int)-1)).toNat v26).length (List.replicate (((List.take (((v26.length:Int)-1)).toNat v26).length:Int)).toNat [(AV.int 0)])),(cI v7 (cI (List.take (((v26.length:Int)-1)).toNat v26) (((List.take (((v26.length:Int)-1)).toNat v26).length:Int)-1) 0) 2),(List.take (((v26.length:Int)-1)).toNat v26)))else none else none else none else none else none else(bif v8<(cI v10 v12 0) then some (v25,v24,0)else go1 (true,(cI v10 v12 0),(cI v26 ((v26.length:Int)-1) 0),3,(List.take (List.replicate (((List.take (((v26.length:Int)-1)).toNat v26).length:Int)).toNat [(AV.int 0)]).length (List.take (((v26.length:Int)-1)).toNat v26)++List.drop (List.take (((v26.length:Int)-1)).toNat v26).length (List.replicate (((List.take (((v26.length:Int)-1)).toNat v26).length:Int)).toNat [(AV.int 0)])),v1,(List.take (((v26.length:Int)-1)).toNat v26))))else none else none else none else bif ((v26.length:Int)-1)<=(v26.length:Int) then bif 0<=((List.take (((v26.length:Int)-1)).toNat v26).length:Int) then bif (((List.take (((v26.length:Int)-1)).toNat v26).length:Int)*8)<=140737488355328 then(bif 0<((List.take (((v26.length:Int)-1)).toNat v26).length:Int) then bif(-9223372036854775808<=(((List.take (((v26.length:Int)-1)).toNat v26).length:Int)-1))&&((((List.take (((v26.length:Int)-1)).toNat v26).length:Int)-1)<=9223372036854775807)then bif 0<=(((List.take (((v26.length:Int)-1)).toNat v26).length:Int)-1) then bif (((List.take (((v26.length:Int)-1)).toNat v26).length:Int)-1)<((List.take (((v26.length:Int)-1)).toNat v26).length:Int) then bif 0<=(cI (List.take (((v26.length:Int)-1)).toNat v26) (((List.take (((v26.length:Int)-1)).toNat v26).length:Int)-1) 0) then bif (cI (List.take (((v26.length:Int)-1)).toNat v26) (((List.take (((v26.length:Int)-1)).toNat v26).length:Int)-1) 0)<(v7.length:Int) then(bif v8<(cI v10 v12 0) then some (v25,v24,0)else go1 (true,(cI v10 v12 0),(cI v26 ((v26.length:Int)-1) 0),4,(List.take (List.replicate (((List.take (((v26.length:Int)-1)).toNat v26).length:Int)).toNat [(AV.int 0)]).length (List.take (((v26.length:Int)-1)).toNat v26)++List.drop (List.take (((v26.length:Int)-1)).toNat v26).length (List.replicate (((List.take (((v26.length:Int)-1)).toNat v26).length:Int)).toNat [(AV.int 0)])),(cI v7 (cI (List.take (((v26.length:Int)-1)).toNat v26) (((List.take (((v26.length:Int)-1)).toNat v26).length:Int)-1) 0) 2),(List.take (((v26.length:Int)-1)).toNat v26)))else none else none else none else none else none else(bif v8<(cI v10 v12 0) then some (v25,v24,0)else go1 (true,(cI v10 v12 0),(cI v26 ((v26.length:Int)-1) 0),4,(List.take (List.replicate (((List.take (((v26.length:Int)-1)).toNat v26).length:Int)).toNat [(AV.int 0)]).length (List.take (((v26.length:Int)-1)).toNat v26)++List.drop (List.take (((v26.length:Int)-1)).toNat v26).length (List.replicate (((List.take (((v26.length:Int)-1)).toNat v26).length:Int)).toNat [(AV.int 0)])),v1,(List.take (((v26.length:Int)-1)).toNat v26))))else none else none else none)else none else none else none else(bif 0<(v26.length:Int) then bif(-9223372036854775808<=((v26.length:Int)-1))&&(((v26.length:Int)-1)<=9223372036854775807)then bif 0<=((v26.length:Int)-1) then bif ((v26.length:Int)-1)<(v26.length:Int) then bif 0<=(cI v26 ((v26.length:Int)-1) 0) then bif (cI v26 ((v26.length:Int)-1) 0)<(v7.length:Int) then bif(-9223372036854775808<=(v12+1))&&((v12+1)<=9223372036854775807)then go0 ((cI v7 (cI v26 ((v26.length:Int)-1) 0) 2),(v12+1),v21,v22,v23,v24,v25,v26)else none else none else none else none else none else none else bif(-9223372036854775808<=(v12+1))&&((v12+1)<=9223372036854775807)then go0 (v1,(v12+1),v21,v22,v23,v24,v25,v26)else none))
def gR(n:Nat)(go0:bS->Option ax)(go1:js->Option ax)(v1:Int)(v7:Lv)(v8:Int)(v10:Lv)(v12 v19:Int)(v20:Bool)(v21 v22 v23:Int)(v24:Lv)(v25:Int)(v26:Lv):Option ax:=
 (bif v20 then sr n go0 go1 v1 v7 v8 v10 v12 v19 v21 v22 v23 v24 v25 v26 else some (v25,v24,0))
def Bl(n:Nat)(go0:bS->Option ax)(go1:dk->Option ax)(v1:Int)(v7:Lv)(v8:Int)(v10:Lv)(v12 v13 v14 v15:Int)(v16:Lv)(v17:Int)(v18:Lv)(v19:Int):Option ax:=
 (bif v19<0 then bif 0<=(v18.length:Int) then bif ((v18.length:Int)*8)<=140737488355328 then(bif 0<(v18.length:Int) then bif(-9223372036854775808<=((v18.length:Int)-1))&&(((v18.length:Int)-1)<=9223372036854775807)then bif 0<=((v18.length:Int)-1) then bif ((v18.length:Int)-1)<(v18.length:Int) then bif 0<=(cI v18 ((v18.length:Int)-1) 0) then bif (cI v18 ((v18.length:Int)-1) 0)<(v7.length:Int) then(bif v8<(cI v10 v12 0) then some (v17,v16,0)else bif(-9223372036854775808<=(v12+1))&&((v12+1)<=9223372036854775807)then go0 ((cI v7 (cI v18 ((v18.length:Int)-1) 0) 2),(v12+1),(cI v10 v12 0),(cI v10 v12 1),5,(List.take (List.replicate ((v18.length:Int)).toNat [(AV.int 0)]).length v18++List.drop v18.length (List.replicate ((v18.length:Int)).toNat [(AV.int 0)])),(cI v7 (cI v18 ((v18.length:Int)-1) 0) 2),v18)else none)else none else none else none else none else none else(bif v8<(cI v10 v12 0) then some (v17,v16,0)else bif(-9223372036854775808<=(v12+1))&&((v12+1)<=9223372036854775807)then go0 (v1,(v12+1),(cI v10 v12 0),(cI v10 v12 1),5,(List.take (List.replicate ((v18.length:Int)).toNat [(AV.int 0)]).length v18++List.drop v18.length (List.replicate ((v18.length:Int)).toNat [(AV.int 0)])),v1,v18)else none))else none else none else(aa (fun go1 s=>gR n go0 go1 v1 v7 v8 v10 v12 v19 s.1 s.2.1 s.2.2.1 s.2.2.2.1 s.2.2.2.2.1 s.2.2.2.2.2.1 s.2.2.2.2.2.2) n ((true,v13,v14,v15,v16,v17,v18):js)))
def Db(n:Nat)(go0:bS->Option ax)(go1:dk->Option ax)(v1:Int)(v6 v7:Lv)(v8:Int)(v10:Lv)(v11 v12 v13 v14 v15:Int)(v16:Lv)(v17:Int)(v18:Lv)(v19:Int):Option ax:=
 (bif(!(cB v10 v12 2))then(oE n v6 (af (cI v10 v12 0) 10000000)).bind fun y20=>
 i6 n go0 go1 v1 v7 v8 v10 v11 v12 v16 v17 v18 y20.1 y20.2.1 else Bl n go0 go1 v1 v7 v8 v10 v12 v13 v14 v15 v16 v17 v18 v19)
def D1(n:Nat)(go0:bS->Option ax)(go1:dk->Option ax)(v1:Int)(v6 v7:Lv)(v8:Int)(v10:Lv)(v11 v12 v13 v14 v15:Int)(v16:Lv)(v17:Int)(v18:Lv)(v19:Int):Option ax:=
 (bif (cI v10 v12 1)=(cI v18 v19 0) then bif 0<=(cI v10 v12 1) then bif (cI v10 v12 1)<(v7.length:Int) then Db n go0 go1 v1 v6 v7 v8 v10 v11 v12 v13 v14 v15 v16 v17 v18 v19 else none else none else bif(-9223372036854775808<=(v19+1))&&((v19+1)<=9223372036854775807)then go1 (v19+1)else none)
abbrev BO:= @i6
def BL(n:Nat)(go0:bS->Option ax)(go1:dk->Option ax)(v1:Int)(v6 v7:Lv)(v8:Int)(v10:Lv)(v11 v12:Int)(v16:Lv)(v17:Int)(v18:Lv):Option ax:=
 (bif(!(cB v10 v12 2))then(oE n v6 (af (cI v10 v12 0) 10000000)).bind fun y20=>
 BO n go0 go1 v1 v7 v8 v10 v11 v12 v16 v17 v18 y20.1 y20.2.1 else bif 0<=(v18.length:Int) then bif ((v18.length:Int)*8)<=140737488355328 then(bif 0<(v18.length:Int) then bif(-9223372036854775808<=((v18.length:Int)-1))&&(((v18.length:Int)-1)<=9223372036854775807)then bif 0<=((v18.length:Int)-1) then bif ((v18.length:Int)-1)<(v18.length:Int) then bif 0<=(cI v18 ((v18.length:Int)-1) 0) then bif (cI v18 ((v18.length:Int)-1) 0)<(v7.length:Int) then(bif v8<(cI v10 v12 0) then some (v17,v16,0)else bif(-9223372036854775808<=(v12+1))&&((v12+1)<=9223372036854775807)then go0 ((cI v7 (cI v18 ((v18.length:Int)-1) 0) 2),(v12+1),(cI v10 v12 0),(cI v10 v12 1),5,(List.take (List.replicate ((v18.length:Int)).toNat [(AV.int 0)]).length v18++List.drop v18.length (List.replicate ((v18.length:Int)).toNat [(AV.int 0)])),(cI v7 (cI v18 ((v18.length:Int)-1) 0) 2),v18)else none)else none else none else none else none else none else(bif v8<(cI v10 v12 0) then some (v17,v16,0)else bif(-9223372036854775808<=(v12+1))&&((v12+1)<=9223372036854775807)then go0 (v1,(v12+1),(cI v10 v12 0),(cI v10 v12 1),5,(List.take (List.replicate ((v18.length:Int)).toNat [(AV.int 0)]).length v18++List.drop v18.length (List.replicate ((v18.length:Int)).toNat [(AV.int 0)])),v1,v18)else none))else none else none)
def uF(n:Nat)(go0:bS->Option ax)(go1:dk->Option ax)(v1:Int)(v6 v7:Lv)(v8:Int)(v10:Lv)(v11 v12 v13 v14 v15:Int)(v16:Lv)(v17:Int)(v18:Lv)(v19:Int):Option ax:=
 (bif v19<(v18.length:Int) then bif 0<=v19 then D1 n go0 go1 v1 v6 v7 v8 v10 v11 v12 v13 v14 v15 v16 v17 v18 v19 else none else bif 0<=(cI v10 v12 1) then bif (cI v10 v12 1)<(v7.length:Int) then BL n go0 go1 v1 v6 v7 v8 v10 v11 v12 v16 v17 v18 else none else none)
def D8(n:Nat)(go0:bS->Option ax)(v1:Int)(v6 v7:Lv)(v8:Int)(v10:Lv)(v11 v12 v13 v14 v15:Int)(v16:Lv)(v17:Int)(v18:Lv):Option ax:=
 (bif v12<(v10.length:Int) then bif 0<=v12 then(aa (fun go1 s=>uF n go0 go1 v1 v6 v7 v8 v10 v11 v12 v13 v14 v15 v16 v17 v18 s) n (0:dk))else none else some (v17,v16,0))
def DH(n:Nat)(v0 v1 v2 v3 v4 v5:Int)(v6 v7:Lv)(v8:Int):Option ax:=
 (bif(!(v8<=20000000 !(v8<=20000000)then some (0,([]:Lv),170)else(gx n v0 v1 v2 v3 v4 v5 v6 v7).bind fun y10=>
 (aa (fun go0 s=>D8 n go0 v1 v6 v7 v8 y10 s.1 s.2.1 s.2.2.1 s.2.2.2.1 s.2.2.2.2.1 s.2.2.2.2.2.1 s.2.2.2.2.2.2.1 s.2.2.2.2.2.2.2) n ((v1,0,0,0,0,([]:Lv),v1,([]:Lv)):bS)))
def DX(n:Nat)(v0 v1 v2 v3 v4 v5:Int)(v6 v7:Lv)(v8:Int):Option ax:=
 (bif 0<=v8 then DH n v0 v1 v2 v3 v4 v5 v6 v7 v8 else some (0,([]:Lv),170))
def Du(n:Nat)(v0 v1 v2 v3 v4 v5:Int)(v6 v7:Lv)(v8:Int)(v9:Bool):Option ax:=
 (bif(!v9)then some (0,([]:Lv),170)else DX n v0 v1 v2 v3 v4 v5 v6 v7 v8)
def DZ(n:Nat)(v0 v1 v2 v3 v4 v5:Int)(v6 v7:Lv)(v8:Int):Option ax:=
 (l6 n v0 v1 v2 v3 v4 v5 v6 v7).bind fun y9=>
 Du n v0 v1 v2 v3 v4 v5 v6 v7 v8 y9
def vl(n:Nat)(v0 v1 v2 v3 v4 v5:Int)(v6 v7:Lv)(v8:Int):Option ax:=DZ n v0 v1 v2 v3 v4 v5 v6 v7 v8
def chain_At_t:FnT:=⟨[(true,[.int,.int,.int,.int,.int,.int,tSc,(.sl (.cons .int (.cons .int (.cons .int (.cons .int (.cons .int (.cons .bool (.cons tSc .nil))))))))]),(false,[.int])],(.tup (.cons .i (.cons (.row 3 (.cons .int .nil)) (.cons .i .nil)))),fun n (s:Int×Int×Int×Int×Int×Int×Lv×Lv×Int)=>vl n s.1 s.2.1 s.2.2.1 s.2.2.2.1 s.2.2.2.2.1 s.2.2.2.2.2.1 s.2.2.2.2.2.2.1 s.2.2.2.2.2.2.2.1 s.2.2.2.2.2.2.2.2⟩
theorem Ku:chain_At_t.ok Tryz.prog 50:=FnT.ok_of (cfg:=⟨[((159,5,9),.inv [(.tmp 5 .int),(.tmp 22 .int),(.cell 2 0 .int),(.cell 2 1 .int),(.cell 2 2 .int),(.cellrow 2 3 3 (.cons .int .nil)),(.cell 2 4 .int),(.cellrow 7 0 3 (.cons .int .nil))]),((162,2,19),.inv [(.tmp 8 .int)]),((159,10,22),.inv [(.tmp 10 .bool),(.cell 2 0 .int),(.cell 2 1 .int),(.cell 2 2 .int),(.cellrow 2 3 3 (.cons .int .nil)),(.cell 2 4 .int),(.cellrow 7 0 3 (.cons .int .nil))])],aH,[(159,15)],aG⟩) av jZ aX (fun s fn hf=>by rw[Tryz.func50]at hf;cases hf;kernel_rfl) (fun n s=>by kernel_rfl)
def chain_At_T:Tab:=(50,chain_At_t)::chain_happenings_T
theorem vE:chain_At_T.ok Tryz.prog:=Tab.ok_cons Ku jZ
abbrev za:=Int
def zm(n:Nat)(v0 v1:Int):Option za:=
 (bif v0<0 then bif(-9223372036854775808<=(v0+1))&&((v0+1)<=9223372036854775807)then bif(-9223372036854775808<=(0-(v0+1)))&&((0-(v0+1))<=9223372036854775807)then bif(!(v1=0 !(v1=0)then some (Int.tmod (0-(v0+1)) v1)else none else none else none else bif(!(v1=0 !(v1=0)then some (Int.tmod v0 v1)else none)
def ck(n:Nat)(v0 v1:Int):Option za:=zm n v0 v1
def ref17_pick_t:FnT:=⟨[(false,[.int]),(false,[.int])],.i,fun n (s:Int×Int)=>ck n s.1 s.2⟩
theorem GH:ref17_pick_t.ok Tryz.prog 108:=FnT.ok_of (cfg:=⟨[],aH,[],aG⟩) av vE aX (fun s fn hf=>by rw[Tryz.func108]at hf;cases hf;kernel_rfl) (fun n s=>by kernel_rfl)
def ref17_pick_T:Tab:=(108,ref17_pick_t)::chain_At_T
theorem r7:ref17_pick_T.ok Tryz.prog:=Tab.ok_cons GH vE
abbrev aj:=Int×Int×Int×Int×Int×Int×Lv×Lv
abbrev am:=Int×Lv
def aS(n:Nat)(go0:am->Option aj)(go1:am->Option aj)(v15 v36:Int)(v37:Lv):Option aj:=
 (bif 0<v36 then bif 0<=v36 then bif v36<(v37.length:Int) then bif(-9223372036854775808<=(v36-1))&&((v36-1)<=9223372036854775807)then bif 0<=(v36-1) then bif (v36-1)<(v37.length:Int) then(bif (cI v37 v36 4)<(cI v37 (v36-1) 4) then go1 ((v36-1),(List.modify (List.modify (List.modify (List.modify (List.modify (List.modify (List.modify (List.modify (List.modify (List.modify (List.modify (List.modify (List.modify (List.modify v37 (v36).toNat (fun r=>r.set 0 (AV.int (cI v37 (v36-1) 0)))) (v36).toNat (fun r=>r.set 1 (AV.int (cI v37 (v36-1) 1)))) (v36).toNat (fun r=>r.set 2 (AV.int (cI v37 (v36-1) 2)))) (v36).toNat (fun r=>r.set 3 (AV.int (cI v37 (v36-1) 3)))) (v36).toNat (fun r=>r.set 4 (AV.int (cI v37 (v36-1) 4)))) (v36).toNat (fun r=>r.set 5 (AV.bool (cB v37 (v36-1) 5)))) (v36).toNat (fun r=>r.set 6 (AV.sl (.cons .int (.cons .int (.cons .int .nil))) (cL v37 (v36-1) 6)))) ((v36-1)).toNat (fun r=>r.set 0 (AV.int (cI v37 v36 0)))) ((v36-1)).toNat (fun r=>r.set 1 (AV.int (cI v37 v36 1)))) ((v36-1)).toNat (fun r=>r.set 2 (AV.int (cI v37 v36 2)))) ((v36-1)).toNat (fun r=>r.set 3 (AV.int (cI v37 v36 3)))) ((v36-1)).toNat (fun r=>r.set 4 (AV.int (cI v37 v36 4)))) ((v36-1)).toNat (fun r=>r.set 5 (AV.bool (cB v37 v36 5)))) ((v36-1)).toNat (fun r=>r.set 6 (AV.sl (.cons .int (.cons .int (.cons .int .nil))) (cL v37 v36 6)))))else bif(-9223372036854775808<=(v15+1))&&((v15+1)<=9223372036854775807)then go0 ((v15+1),v37)else none)else none else none else none else none else none else bif(-9223372036854775808<=(v15+1))&&((v15+1)<=9223372036854775807)then go0 ((v15+1),v37)else none)
abbrev Gp:= @aS
def I5(n:Nat)(go0:am->Option aj)(v8 v15:Int)(v16:Lv)(v23 v24 v25:Int)(v26:Bool)(v27:Lv)(v28 v31 v35:Int):Option aj:=
 (bif v35<7 then bif (((v16.length:Int)+1)*72)<=140737488355328 then bif(-9223372036854775808<=(((v16.length:Int)+1)-1))&&((((v16.length:Int)+1)-1)<=9223372036854775807)then(aa (fun go1 s=>aS n go0 go1 v15 s.1 s.2) n (((((v16.length:Int)+1)-1),(v16++[[(AV.int v8),(AV.int (cI v16 (((v16.length:Int)-v28)-1) 2)),(AV.int (Int.tmod (v23+1) 8)),(AV.int v31),(AV.int v25),(AV.bool v26),(AV.sl (.cons .int (.cons .int (.cons .int .nil))) v27)]])):am))else none else none else bif (((v16.length:Int)+1)*72)<=140737488355328 then bif(-9223372036854775808<=(((v16.length:Int)+1)-1))&&((((v16.length:Int)+1)-1)<=9223372036854775807)then(aa (fun go1 s=>Gp n go0 go1 v15 s.1 s.2) n (((((v16.length:Int)+1)-1),(v16++[[(AV.int v8),(AV.int (cI v16 (((v16.length:Int)-v28)-1) 2)),(AV.int (Int.tmod (v23+1) 8)),(AV.int v24),(AV.int v25),(AV.bool v26),(AV.sl (.cons .int (.cons .int (.cons .int .nil))) v27)]])):am))else none else none)
abbrev Gw:= @aS
def JL(n:Nat)(go0:am->Option aj)(v7:Lv)(v8 v15:Int)(v16:Lv)(v23 v24 v25:Int)(v26:Bool)(v27:Lv)(v28 v31:Int):Option aj:=
 (bif 0<=v31 then bif(-9223372036854775808<=(Int.tdiv (cI v7 v15 7) 16))&&((Int.tdiv (cI v7 v15 7) 16)<=9223372036854775807)then(ck n (Int.tdiv (cI v7 v15 7) 16) 8).bind fun y35=>
 I5 n go0 v8 v15 v16 v23 v24 v25 v26 v27 v28 v31 y35 else none else bif (((v16.length:Int)+1)*72)<=140737488355328 then bif(-9223372036854775808<=(((v16.length:Int)+1)-1))&&((((v16.length:Int)+1)-1)<=9223372036854775807)then(aa (fun go1 s=>Gw n go0 go1 v15 s.1 s.2) n (((((v16.length:Int)+1)-1),(v16++[[(AV.int v8),(AV.int (cI v16 (((v16.length:Int)-v28)-1) 2)),(AV.int (Int.tmod (v23+1) 8)),(AV.int v24),(AV.int v25),(AV.bool v26),(AV.sl (.cons .int (.cons .int (.cons .int .nil))) v27)]])):am))else none else none)
abbrev Ha:= @aS
abbrev GM:= @aS
def HN(n:Nat)(go0:am->Option aj)(v8 v15:Int)(v16:Lv)(v23 v24 v25:Int)(v26:Bool)(v27:Lv)(v28 v31 v35:Int):Option aj:=
 (bif v35<7 then bif (((v16.length:Int)+1)*72)<=140737488355328 then bif(-9223372036854775808<=(((v16.length:Int)+1)-1))&&((((v16.length:Int)+1)-1)<=9223372036854775807)then(aa (fun go1 s=>Ha n go0 go1 v15 s.1 s.2) n (((((v16.length:Int)+1)-1),(v16++[[(AV.int v8),(AV.int (cI v16 (((v16.length:Int)-v28)-1) 2)),(AV.int v23),(AV.int v31),(AV.int v25),(AV.bool v26),(AV.sl (.cons .int (.cons .int (.cons .int .nil))) v27)]])):am))else none else none else bif (((v16.length:Int)+1)*72)<=140737488355328 then bif(-9223372036854775808<=(((v16.length:Int)+1)-1))&&((((v16.length:Int)+1)-1)<=9223372036854775807)then(aa (fun go1 s=>GM n go0 go1 v15 s.1 s.2) n (((((v16.length:Int)+1)-1),(v16++[[(AV.int v8),(AV.int (cI v16 (((v16.length:Int)-v28)-1) 2)),(AV.int v23),(AV.int v24),(AV.int v25),(AV.bool v26),(AV.sl (.cons .int (.cons .int (.cons .int .nil))) v27)]])):am))else none else none)
abbrev Hh:= @aS
def Ho(n:Nat)(go0:am->Option aj)(v7:Lv)(v8 v15:Int)(v16:Lv)(v23 v24 v25:Int)(v26:Bool)(v27:Lv)(v28 v31:Int):Option aj:=
 (bif 0<=v31 then bif(-9223372036854775808<=(Int.tdiv (cI v7 v15 7) 16))&&((Int.tdiv (cI v7 v15 7) 16)<=9223372036854775807)then(ck n (Int.tdiv (cI v7 v15 7) 16) 8).bind fun y35=>
 HN n go0 v8 v15 v16 v23 v24 v25 v26 v27 v28 v31 y35 else none else bif (((v16.length:Int)+1)*72)<=140737488355328 then bif(-9223372036854775808<=(((v16.length:Int)+1)-1))&&((((v16.length:Int)+1)-1)<=9223372036854775807)then(aa (fun go1 s=>Hh n go0 go1 v15 s.1 s.2) n (((((v16.length:Int)+1)-1),(v16++[[(AV.int v8),(AV.int (cI v16 (((v16.length:Int)-v28)-1) 2)),(AV.int v23),(AV.int v24),(AV.int v25),(AV.bool v26),(AV.sl (.cons .int (.cons .int (.cons .int .nil))) v27)]])):am))else none else none)
def JG(n:Nat)(go0:am->Option aj)(v7:Lv)(v8:Int)(v14:Lv)(v15:Int)(v16:Lv)(v23 v24 v25:Int)(v26:Bool)(v27:Lv)(v28:Int):Option aj:=
 (bif (cI v16 (((v16.length:Int)-v28)-1) 2)=v23 then bif(-9223372036854775808<=(v23+1))&&((v23+1)<=9223372036854775807)then(dq n v14 v25).bind fun y30=>
 JL n go0 v7 v8 v15 v16 v23 v24 v25 v26 v27 v28 y30.2.1 else none else(dq n v14 v25).bind fun y30=>
 Ho n go0 v7 v8 v15 v16 v23 v24 v25 v26 v27 v28 y30.2.1)
abbrev GS:= @aS
abbrev HD:= @aS
def Hj(n:Nat)(go0:am->Option aj)(v8 v9 v15:Int)(v16:Lv)(v23 v24 v25:Int)(v26:Bool)(v27:Lv)(v31 v35:Int):Option aj:=
 (bif v35<7 then bif (((v16.length:Int)+1)*72)<=140737488355328 then bif(-9223372036854775808<=(((v16.length:Int)+1)-1))&&((((v16.length:Int)+1)-1)<=9223372036854775807)then(aa (fun go1 s=>GS n go0 go1 v15 s.1 s.2) n (((((v16.length:Int)+1)-1),(v16++[[(AV.int v8),(AV.int v9),(AV.int (Int.tmod (v23+1) 8)),(AV.int v31),(AV.int v25),(AV.bool v26),(AV.sl (.cons .int (.cons .int (.cons .int .nil))) v27)]])):am))else none else none else bif (((v16.length:Int)+1)*72)<=140737488355328 then bif(-9223372036854775808<=(((v16.length:Int)+1)-1))&&((((v16.length:Int)+1)-1)<=9223372036854775807)then(aa (fun go1 s=>HD n go0 go1 v15 s.1 s.2) n (((((v16.length:Int)+1)-1),(v16++[[(AV.int v8),(AV.int v9),(AV.int (Int.tmod (v23+1) 8)),(AV.int v24),(AV.int v25),(AV.bool v26),(AV.sl (.cons .int (.cons .int (.cons .int .nil))) v27)]])):am))else none else none)
abbrev HP:= @aS
def GI(n:Nat)(go0:am->Option aj)(v7:Lv)(v8 v9 v15:Int)(v16:Lv)(v23 v24 v25:Int)(v26:Bool)(v27:Lv)(v31:Int):Option aj:=
 (bif 0<=v31 then bif(-9223372036854775808<=(Int.tdiv (cI v7 v15 7) 16))&&((Int.tdiv (cI v7 v15 7) 16)<=9223372036854775807)then(ck n (Int.tdiv (cI v7 v15 7) 16) 8).bind fun y35=>
 Hj n go0 v8 v9 v15 v16 v23 v24 v25 v26 v27 v31 y35 else none else bif (((v16.length:Int)+1)*72)<=140737488355328 then bif(-9223372036854775808<=(((v16.length:Int)+1)-1))&&((((v16.length:Int)+1)-1)<=9223372036854775807)then(aa (fun go1 s=>HP n go0 go1 v15 s.1 s.2) n (((((v16.length:Int)+1)-1),(v16++[[(AV.int v8),(AV.int v9),(AV.int (Int.tmod (v23+1) 8)),(AV.int v24),(AV.int v25),(AV.bool v26),(AV.sl (.cons .int (.cons .int (.cons .int .nil))) v27)]])):am))else none else none)
abbrev GQ:= @aS
abbrev Hm:= @aS
def Hn(n:Nat)(go0:am->Option aj)(v8 v9 v15:Int)(v16:Lv)(v23 v24 v25:Int)(v26:Bool)(v27:Lv)(v31 v35:Int):Option aj:=
 (bif v35<7 then bif (((v16.length:Int)+1)*72)<=140737488355328 then bif(-9223372036854775808<=(((v16.length:Int)+1)-1))&&((((v16.length:Int)+1)-1)<=9223372036854775807)then(aa (fun go1 s=>GQ n go0 go1 v15 s.1 s.2) n (((((v16.length:Int)+1)-1),(v16++[[(AV.int v8),(AV.int v9),(AV.int v23),(AV.int v31),(AV.int v25),(AV.bool v26),(AV.sl (.cons .int (.cons .int (.cons .int .nil))) v27)]])):am))else none else none else bif (((v16.length:Int)+1)*72)<=140737488355328 then bif(-9223372036854775808<=(((v16.length:Int)+1)-1))&&((((v16.length:Int)+1)-1)<=9223372036854775807)then(aa (fun go1 s=>Hm n go0 go1 v15 s.1 s.2) n (((((v16.length:Int)+1)-1),(v16++[[(AV.int v8),(AV.int v9),(AV.int v23),(AV.int v24),(AV.int v25),(AV.bool v26),(AV.sl (.cons .int (.cons .int (.cons .int .nil))) v27)]])):am))else none else none)
abbrev Hb:= @aS
def Gr(n:Nat)(go0:am->Option aj)(v7:Lv)(v8 v9 v15:Int)(v16:Lv)(v23 v24 v25:Int)(v26:Bool)(v27:Lv)(v31:Int):Option aj:=
 (bif 0<=v31 then bif(-9223372036854775808<=(Int.tdiv (cI v7 v15 7) 16))&&((Int.tdiv (cI v7 v15 7) 16)<=9223372036854775807)then(ck n (Int.tdiv (cI v7 v15 7) 16) 8).bind fun y35=>
 Hn n go0 v8 v9 v15 v16 v23 v24 v25 v26 v27 v31 y35 else none else bif (((v16.length:Int)+1)*72)<=140737488355328 then bif(-9223372036854775808<=(((v16.length:Int)+1)-1))&&((((v16.length:Int)+1)-1)<=9223372036854775807)then(aa (fun go1 s=>Hb n go0 go1 v15 s.1 s.2) n (((((v16.length:Int)+1)-1),(v16++[[(AV.int v8),(AV.int v9),(AV.int v23),(AV.int v24),(AV.int v25),(AV.bool v26),(AV.sl (.cons .int (.cons .int (.cons .int .nil))) v27)]])):am))else none else none)
def GV(n:Nat)(go0:am->Option aj)(v7:Lv)(v8 v9:Int)(v14:Lv)(v15:Int)(v16:Lv)(v23 v24 v25:Int)(v26:Bool)(v27:Lv):Option aj:=
 (bif v9=v23 then bif(-9223372036854775808<=(v23+1))&&((v23+1)<=9223372036854775807)then(dq n v14 v25).bind fun y30=>
 GI n go0 v7 v8 v9 v15 v16 v23 v24 v25 v26 v27 y30.2.1 else none else(dq n v14 v25).bind fun y30=>
 Gr n go0 v7 v8 v9 v15 v16 v23 v24 v25 v26 v27 y30.2.1)
def As(n:Nat)(go0:am->Option aj)(v7:Lv)(v8 v9:Int)(v14:Lv)(v15:Int)(v16:Lv)(v23 v24 v25:Int)(v26:Bool)(v27:Lv)(v28:Int):Option aj:=
 (bif 0<((v16.length:Int)-v28) then bif(-9223372036854775808<=(((v16.length:Int)-v28)-1))&&((((v16.length:Int)-v28)-1)<=9223372036854775807)then bif 0<=(((v16.length:Int)-v28)-1) then bif (((v16.length:Int)-v28)-1)<(v16.length:Int) then JG n go0 v7 v8 v14 v15 v16 v23 v24 v25 v26 v27 v28 else none else none else none else GV n go0 v7 v8 v9 v14 v15 v16 v23 v24 v25 v26 v27)
abbrev GT:= @aS
abbrev HV:= @aS
def HZ(n:Nat)(go0:am->Option aj)(v8 v15:Int)(v16:Lv)(v22 v23 v24 v25:Int)(v26:Bool)(v27:Lv)(v31 v35:Int):Option aj:=
 (bif v35<7 then bif (((v16.length:Int)+1)*72)<=140737488355328 then bif(-9223372036854775808<=(((v16.length:Int)+1)-1))&&((((v16.length:Int)+1)-1)<=9223372036854775807)then(aa (fun go1 s=>GT n go0 go1 v15 s.1 s.2) n (((((v16.length:Int)+1)-1),(v16++[[(AV.int v8),(AV.int v22),(AV.int (Int.tmod (v23+1) 8)),(AV.int v31),(AV.int v25),(AV.bool v26),(AV.sl (.cons .int (.cons .int (.cons .int .nil))) v27)]])):am))else none else none else bif (((v16.length:Int)+1)*72)<=140737488355328 then bif(-9223372036854775808<=(((v16.length:Int)+1)-1))&&((((v16.length:Int)+1)-1)<=9223372036854775807)then(aa (fun go1 s=>HV n go0 go1 v15 s.1 s.2) n (((((v16.length:Int)+1)-1),(v16++[[(AV.int v8),(AV.int v22),(AV.int (Int.tmod (v23+1) 8)),(AV.int v24),(AV.int v25),(AV.bool v26),(AV.sl (.cons .int (.cons .int (.cons .int .nil))) v27)]])):am))else none else none)
abbrev HS:= @aS
def HM(n:Nat)(go0:am->Option aj)(v7:Lv)(v8 v15:Int)(v16:Lv)(v22 v23 v24 v25:Int)(v26:Bool)(v27:Lv)(v31:Int):Option aj:=
 (bif 0<=v31 then bif(-9223372036854775808<=(Int.tdiv (cI v7 v15 7) 16))&&((Int.tdiv (cI v7 v15 7) 16)<=9223372036854775807)then(ck n (Int.tdiv (cI v7 v15 7) 16) 8).bind fun y35=>
 HZ n go0 v8 v15 v16 v22 v23 v24 v25 v26 v27 v31 y35 else none else bif (((v16.length:Int)+1)*72)<=140737488355328 then bif(-9223372036854775808<=(((v16.length:Int)+1)-1))&&((((v16.length:Int)+1)-1)<=9223372036854775807)then(aa (fun go1 s=>HS n go0 go1 v15 s.1 s.2) n (((((v16.length:Int)+1)-1),(v16++[[(AV.int v8),(AV.int v22),(AV.int (Int.tmod (v23+1) 8)),(AV.int v24),(AV.int v25),(AV.bool v26),(AV.sl (.cons .int (.cons .int (.cons .int .nil))) v27)]])):am))else none else none)
abbrev Hk:= @aS
abbrev HE:= @aS
def HT(n:Nat)(go0:am->Option aj)(v8 v15:Int)(v16:Lv)(v22 v23 v24 v25:Int)(v26:Bool)(v27:Lv)(v31 v35:Int):Option aj:=
 (bif v35<7 then bif (((v16.length:Int)+1)*72)<=140737488355328 then bif(-9223372036854775808<=(((v16.length:Int)+1)-1))&&((((v16.length:Int)+1)-1)<=9223372036854775807)then(aa (fun go1 s=>Hk n go0 go1 v15 s.1 s.2) n (((((v16.length:Int)+1)-1),(v16++[[(AV.int v8),(AV.int v22),(AV.int v23),(AV.int v31),(AV.int v25),(AV.bool v26),(AV.sl (.cons .int (.cons .int (.cons .int .nil))) v27)]])):am))else none else none else bif (((v16.length:Int)+1)*72)<=140737488355328 then bif(-9223372036854775808<=(((v16.length:Int)+1)-1))&&((((v16.length:Int)+1)-1)<=9223372036854775807)then(aa (fun go1 s=>HE n go0 go1 v15 s.1 s.2) n (((((v16.length:Int)+1)-1),(v16++[[(AV.int v8),(AV.int v22),(AV.int v23),(AV.int v24),(AV.int v25),(AV.bool v26),(AV.sl (.cons .int (.cons .int (.cons .int .nil))) v27)]])):am))else none else none)
abbrev GE:= @aS
def HX(n:Nat)(go0:am->Option aj)(v7:Lv)(v8 v15:Int)(v16:Lv)(v22 v23 v24 v25:Int)(v26:Bool)(v27:Lv)(v31:Int):Option aj:=
 (bif 0<=v31 then bif(-9223372036854775808<=(Int.tdiv (cI v7 v15 7) 16))&&((Int.tdiv (cI v7 v15 7) 16)<=9223372036854775807)then(ck n (Int.tdiv (cI v7 v15 7) 16) 8).bind fun y35=>
 HT n go0 v8 v15 v16 v22 v23 v24 v25 v26 v27 v31 y35 else none else bif (((v16.length:Int)+1)*72)<=140737488355328 then bif(-9223372036854775808<=(((v16.length:Int)+1)-1))&&((((v16.length:Int)+1)-1)<=9223372036854775807)then(aa (fun go1 s=>GE n go0 go1 v15 s.1 s.2) n (((((v16.length:Int)+1)-1),(v16++[[(AV.int v8),(AV.int v22),(AV.int v23),(AV.int v24),(AV.int v25),(AV.bool v26),(AV.sl (.cons .int (.cons .int (.cons .int .nil))) v27)]])):am))else none else none)
def GB(n:Nat)(go0:am->Option aj)(v7:Lv)(v8:Int)(v14:Lv)(v15:Int)(v16:Lv)(v22 v23 v24 v25:Int)(v26:Bool)(v27:Lv):Option aj:=
 (bif v22=v23 then bif(-9223372036854775808<=(v23+1))&&((v23+1)<=9223372036854775807)then(dq n v14 v25).bind fun y30=>
 HM n go0 v7 v8 v15 v16 v22 v23 v24 v25 v26 v27 y30.2.1 else none else(dq n v14 v25).bind fun y30=>
 HX n go0 v7 v8 v15 v16 v22 v23 v24 v25 v26 v27 y30.2.1)
def zK(n:Nat)(go0:am->Option aj)(v7:Lv)(v8 v9:Int)(v14:Lv)(v15:Int)(v16:Lv)(v22 v23 v24 v25:Int)(v26:Bool)(v27:Lv)(v28 v29:Int):Option aj:=
 (bif v29<15 then As n go0 v7 v8 v9 v14 v15 v16 v23 v24 v25 v26 v27 v28 else GB n go0 v7 v8 v14 v15 v16 v22 v23 v24 v25 v26 v27)
def yP(n:Nat)(go0:am->Option aj)(v2 v3 v4 v5:Int)(v7:Lv)(v8 v9 v10 v11 v12 v13:Int)(v14:Lv)(v15:Int)(v16:Lv):Option aj:=
 (bif v15<5 then bif 0<=v15 then(iW n v2 v3 v4 v5 (cI v7 v15 0) (cI v7 v15 1) (cI v7 v15 2) (cI v7 v15 3) (cI v7 v15 4) (cI v7 v15 5) (cL v7 v15 6)).bind fun y17=>
 (ck n (cI v7 v15 7) 3).bind fun y28=>
 bif(-9223372036854775808<=((v16.length:Int)-y28))&&(((v16.length:Int)-y28)<=9223372036854775807)then(ck n (cI v7 v15 7) 16).bind fun y29=>
 zK n go0 v7 v8 v9 v14 v15 v16 y17.2.2.2.2.2.1 y17.2.2.2.2.2.2.1 y17.2.2.2.2.2.2.2.1 y17.2.2.2.2.2.2.2.2.1 y17.2.2.2.2.2.2.2.2.2.1 y17.2.2.2.2.2.2.2.2.2.2 y28 y29 else none else none else some (v8,v9,v10,v11,v12,v13,v14,v16))
def Ar(n:Nat)(go0:am->Option aj)(v2 v3 v4 v5:Int)(v7:Lv)(v8 v9 v10 v11 v12 v13:Int)(v14:Lv)(v15:Int)(v16:Lv):Option aj:=
 (bif v15<(v7.length:Int) then yP n go0 v2 v3 v4 v5 v7 v8 v9 v10 v11 v12 v13 v14 v15 v16 else some (v8,v9,v10,v11,v12,v13,v14,v16))
def yB(n:Nat)(v0 v1 v2 v3 v4 v5:Int)(v6 v7:Lv):Option aj:=
 (ck n v0 100000000).bind fun y8=>
 (ck n v1 8).bind fun y9=>
 (dZ n v2 v3 v4 v5).bind fun y10=>
 (kq n v6).bind fun y14=>
 (aa (fun go0 s=>Ar n go0 v2 v3 v4 v5 v7 y8 y9 y10.1 y10.2.1 y10.2.2.1 y10.2.2.2 y14 s.1 s.2) n ((0,([]:Lv)):am))
def kL(n:Nat)(v0 v1 v2 v3 v4 v5:Int)(v6 v7:Lv):Option aj:=yB n v0 v1 v2 v3 v4 v5 v6 v7
def ref17_Made_t:FnT:=⟨[(true,[.int,.int,.int,.int,.int,.int,tSc,(.sl (.cons .int (.cons .int (.cons .int (.cons .int (.cons .int (.cons .int (.cons tSc (.cons .int .nil)))))))))])],(.agg (.cons .i (.cons .i (.cons .i (.cons .i (.cons .i (.cons .i (.cons (.row 224 (.cons .int (.cons .int (.cons .int .nil)))) (.cons (.row 172 (.cons .int (.cons .int (.cons .int (.cons .int (.cons .int (.cons .bool (.cons tSc .nil)))))))) .nil))))))))),fun n (s:Int×Int×Int×Int×Int×Int×Lv×Lv)=>kL n s.1 s.2.1 s.2.2.1 s.2.2.2.1 s.2.2.2.2.1 s.2.2.2.2.2.1 s.2.2.2.2.2.2.1 s.2.2.2.2.2.2.2⟩
theorem HL:ref17_Made_t.ok Tryz.prog 45:=FnT.ok_of (cfg:=⟨[((45,3,5),.inv [(.tmp 4 .int),(.cellrow 3 7 172 (.cons .int (.cons .int (.cons .int (.cons .int (.cons .int (.cons .bool (.cons tSc .nil))))))))]),((45,20,24),.inv [(.tmp 12 .int),(.cellrow 3 7 172 (.cons .int (.cons .int (.cons .int (.cons .int (.cons .int (.cons .bool (.cons tSc .nil))))))))]),((45,20,23),.inv [(.tmp 12 .int),(.cellrow 3 7 172 (.cons .int (.cons .int (.cons .int (.cons .int (.cons .int (.cons .bool (.cons tSc .nil))))))))]),((45,20,22),.inv [(.tmp 12 .int),(.cellrow 3 7 172 (.cons .int (.cons .int (.cons .int (.cons .int (.cons .int (.cons .bool (.cons tSc .nil))))))))]),((45,20,21),.inv [(.tmp 12 .int),(.cellrow 3 7 172 (.cons .int (.cons .int (.cons .int (.cons .int (.cons .int (.cons .bool (.cons tSc .nil))))))))]),((45,20,20),.inv [(.tmp 12 .int),(.cellrow 3 7 172 (.cons .int (.cons .int (.cons .int (.cons .int (.cons .int (.cons .bool (.cons tSc .nil))))))))])],aH,[],aG⟩) av r7 aX (fun s fn hf=>by rw[Tryz.func45]at hf;cases hf;kernel_rfl) (fun n s=>by kernel_rfl)
def ref17_Made_T:Tab:=(45,ref17_Made_t)::ref17_pick_T
theorem qq:ref17_Made_T.ok Tryz.prog:=Tab.ok_cons HL r7
abbrev Aq:=Int×Int
def yo(n:Nat)(v0 v1:Int)(v2 v3 v4 v5:Lv)(v6 v7 v8 v9 v10 v11:Int)(v12 v13:Lv)(v14:Int):Option Aq:=
 (vl n v6 v7 v8 v9 v10 v11 v12 v13 v14).bind fun y15=>
 (bif(!(y15.2.2=0 !(y15.2.2=0)then some (0,420)else(bi n v0 v1 v2 v3 v4 v5 y15.1 v6 v14).bind fun y18=>
 some (y18.1,y18.2))
def gj(n:Nat)(v0 v1:Int)(v2 v3 v4 v5:Lv)(v6 v7 v8 v9 v10 v11:Int)(v12 v13:Lv)(v14:Int):Option Aq:=yo n v0 v1 v2 v3 v4 v5 v6 v7 v8 v9 v10 v11 v12 v13 v14
def merge_With_t:FnT:=⟨[(true,[.int,.int,tSc,tSa,tSa]),(false,[tSh]),(true,[.int,.int,.int,.int,.int,.int,tSc,(.sl (.cons .int (.cons .int (.cons .int (.cons .int (.cons .int (.cons .bool (.cons tSc .nil))))))))]),(false,[.int])],(.tup (.cons .i (.cons .i .nil))),fun n (s:Int×Int×Lv×Lv×Lv×Lv×Int×Int×Int×Int×Int×Int×Lv×Lv×Int)=>gj n s.1 s.2.1 s.2.2.1 s.2.2.2.1 s.2.2.2.2.1 s.2.2.2.2.2.1 s.2.2.2.2.2.2.1 s.2.2.2.2.2.2.2.1 s.2.2.2.2.2.2.2.2.1 s.2.2.2.2.2.2.2.2.2.1 s.2.2.2.2.2.2.2.2.2.2.1 s.2.2.2.2.2.2.2.2.2.2.2.1 s.2.2.2.2.2.2.2.2.2.2.2.2.1 s.2.2.2.2.2.2.2.2.2.2.2.2.2.1 s.2.2.2.2.2.2.2.2.2.2.2.2.2.2⟩
theorem G2:merge_With_t.ok Tryz.prog 48:=FnT.ok_of (cfg:=⟨[],aH,[],aG⟩) av qq aX (fun s fn hf=>by rw[Tryz.func48]at hf;cases hf;kernel_rfl) (fun n s=>by kernel_rfl)
def merge_With_T:Tab:=(48,merge_With_t)::ref17_Made_T
theorem qT:merge_With_T.ok Tryz.prog:=Tab.ok_cons G2 qq
abbrev jM:=Bool
abbrev sZ:=Int
def wm(n:Nat)(go0:sZ->Option jM)(v0 v2 v3 v4 v5:Int)(v7:Lv)(v9:Int):Option jM:=
 (bif v9<(v7.length:Int) then bif 0<=v9 then(bif(!((cI v7 v9 0)=v0 !((cI v7 v9 0)=v0)then some false else(gW n v2 v3 v4 v5 (cI v7 v9 0) (cI v7 v9 1) (cI v7 v9 2) (cI v7 v9 3) (cI v7 v9 4) (cB v7 v9 5) (cL v7 v9 6)).bind fun y10=>
 (bif(!y10)then some false else(bif 0<v9 then bif(-9223372036854775808<=(v9-1))&&((v9-1)<=9223372036854775807)then bif 0<=(v9-1) then bif (v9-1)<(v7.length:Int) then(bif (cI v7 v9 4)<(cI v7 (v9-1) 4) then some false else bif(-9223372036854775808<=(v9+1))&&((v9+1)<=9223372036854775807)then go0 (v9+1)else none)else none else none else none else bif(-9223372036854775808<=(v9+1))&&((v9+1)<=9223372036854775807)then go0 (v9+1)else none)))else none else some true)
def wQ(n:Nat)(v0 v1 v2 v3 v4 v5:Int)(v6 v7:Lv):Option jM:=
 (bif 0<=v0 then(bif(!(v0<=99999999 !(v0<=99999999)then some false else(bif 0<=v1 then(bif(!(v1<=7 !(v1<=7)then some false else(ph n v6).bind fun y8=>
 (bif(!y8)then some false else(bif 8<(v7.length:Int) then some false else(aa (fun go0 s=>wm n go0 v0 v2 v3 v4 v5 v7 s) n (0:sZ)))))else some false))else some false)
def lW(n:Nat)(v0 v1 v2 v3 v4 v5:Int)(v6 v7:Lv):Option jM:=wQ n v0 v1 v2 v3 v4 v5 v6 v7
def ref17_Valid_t:FnT:=⟨[(true,[.int,.int,.int,.int,.int,.int,tSc,(.sl (.cons .int (.cons .int (.cons .int (.cons .int (.cons .int (.cons .bool (.cons tSc .nil))))))))])],.b,fun n (s:Int×Int×Int×Int×Int×Int×Lv×Lv)=>lW n s.1 s.2.1 s.2.2.1 s.2.2.2.1 s.2.2.2.2.1 s.2.2.2.2.2.1 s.2.2.2.2.2.2.1 s.2.2.2.2.2.2.2⟩
theorem Fi:ref17_Valid_t.ok Tryz.prog 154:=FnT.ok_of (cfg:=⟨[((154,4,1),.inv [(.tmp 3 .int)])],aH,[],aG⟩) av qT aX (fun s fn hf=>by rw[Tryz.func154]at hf;cases hf;kernel_rfl) (fun n s=>by kernel_rfl)
def ref17_Valid_T:Tab:=(154,ref17_Valid_t)::merge_With_T
theorem oY:ref17_Valid_T.ok Tryz.prog:=Tab.ok_cons Fi qT
abbrev aL:=Lv
abbrev dz:=Lv×Int
abbrev bj:=Int×Lv
def mh(n:Nat)(go0:dz->Option aL)(go1:dz->Option aL)(v9:Int)(v10 v12:Lv)(v13:Int):Option aL:=
 (bif v13<(v10.length:Int) then bif 0<=v13 then(bif (cI v10 v13 0)=4 then bif (((v12.length:Int)+1)*24)<=140737488355328 then bif(-9223372036854775808<=(v13+1))&&((v13+1)<=9223372036854775807)then go1 ((v12++[[(AV.int (cI v10 v13 1)),(AV.int v9),(AV.bool (decide ((cI v10 v13 0)=8)))]]),(v13+1))else none else none else(bif (cI v10 v13 0)=8 then bif (((v12.length:Int)+1)*24)<=140737488355328 then bif(-9223372036854775808<=(v13+1))&&((v13+1)<=9223372036854775807)then go1 ((v12++[[(AV.int (cI v10 v13 1)),(AV.int v9),(AV.bool (decide ((cI v10 v13 0)=8)))]]),(v13+1))else none else none else bif(-9223372036854775808<=(v13+1))&&((v13+1)<=9223372036854775807)then go1 (v12,(v13+1))else none))else none else bif(-9223372036854775808<=(v9+1))&&((v9+1)<=9223372036854775807)then go0 (v12,(v9+1))else none)
def bV(n:Nat)(go0:bj->Option aL)(go1:bj->Option aL)(v10 v12:Int)(v13:Lv):Option aL:=
 (bif 0<v12 then bif 0<=v12 then bif v12<(v13.length:Int) then bif(-9223372036854775808<=(v12-1))&&((v12-1)<=9223372036854775807)then bif 0<=(v12-1) then bif (v12-1)<(v13.length:Int) then(bif(!((cI v13 v12 0)=(cI v13 (v12-1) 0) !((cI v13 v12 0)=(cI v13 (v12-1) 0))then(bif (cI v13 v12 0)<(cI v13 (v12-1) 0) then go1 ((v12-1),(List.modify (List.modify (List.modify (List.modify (List.modify (List.modify v13 (v12).toNat (fun r=>r.set 0 (AV.int (cI v13 (v12-1) 0)))) (v12).toNat (fun r=>r.set 1 (AV.int (cI v13 (v12-1) 1)))) (v12).toNat (fun r=>r.set 2 (AV.bool (cB v13 (v12-1) 2)))) ((v12-1)).toNat (fun r=>r.set 0 (AV.int (cI v13 v12 0)))) ((v12-1)).toNat (fun r=>r.set 1 (AV.int (cI v13 v12 1)))) ((v12-1)).toNat (fun r=>r.set 2 (AV.bool (cB v13 v12 2)))))else bif(-9223372036854775808<=(v10+1))&&((v10+1)<=9223372036854775807)then go0 ((v10+1),v13)else none)else(bif(!((cI v13 v12 1)=(cI v13 (v12-1) 1) !((cI v13 v12 1)=(cI v13 (v12-1) 1))then(bif (cI v13 v12 1)<(cI v13 (v12-1) 1) then go1 ((v12-1),(List.modify (List.modify (List.modify (List.modify (List.modify (List.modify v13 (v12).toNat (fun r=>r.set 0 (AV.int (cI v13 (v12-1) 0)))) (v12).toNat (fun r=>r.set 1 (AV.int (cI v13 (v12-1) 1)))) (v12).toNat (fun r=>r.set 2 (AV.bool (cB v13 (v12-1) 2)))) ((v12-1)).toNat (fun r=>r.set 0 (AV.int (cI v13 v12 0)))) ((v12-1)).toNat (fun r=>r.set 1 (AV.int (cI v13 v12 1)))) ((v12-1)).toNat (fun r=>r.set 2 (AV.bool (cB v13 v12 2)))))else bif(-9223372036854775808<=(v10+1))&&((v10+1)<=9223372036854775807)then go0 ((v10+1),v13)else none)else(bif(!(cB v13 v12 2))then(bif(cB v13 (v12-1) 2)then go1 ((v12-1),(List.modify (List.modify (List.modify (List.modify (List.modify (List.modify v13 (v12).toNat (fun r=>r.set 0 (AV.int (cI v13 (v12-1) 0)))) (v12).toNat (fun r=>r.set 1 (AV.int (cI v13 (v12-1) 1)))) (v12).toNat (fun r=>r.set 2 (AV.bool (cB v13 (v12-1) 2)))) ((v12-1)).toNat (fun r=>r.set 0 (AV.int (cI v13 v12 0)))) ((v12-1)).toNat (fun r=>r.set 1 (AV.int (cI v13 v12 1)))) ((v12-1)).toNat (fun r=>r.set 2 (AV.bool (cB v13 v12 2)))))else bif(-9223372036854775808<=(v10+1))&&((v10+1)<=9223372036854775807)then go0 ((v10+1),v13)else none)else bif(-9223372036854775808<=(v10+1))&&((v10+1)<=9223372036854775807)then go0 ((v10+1),v13)else none)))else none else none else none else none else none else bif(-9223372036854775808<=(v10+1))&&((v10+1)<=9223372036854775807)then go0 ((v10+1),v13)else none)
def iI(n:Nat)(go0:bj->Option aL)(v10:Int)(v11:Lv):Option aL:=
 (bif v10<(v11.length:Int) then(aa (fun go1 s=>bV n go0 go1 v10 s.1 s.2) n ((v10,v11):bj))else some v11)
def mP(n:Nat)(go0:dz->Option aL)(v2 v3 v4 v5:Int)(v7 v8:Lv)(v9:Int):Option aL:=
 (bif v9<(v7.length:Int) then bif 0<=v9 then(iT n v2 v3 v4 v5 (cI v7 v9 0) (cI v7 v9 1) (cI v7 v9 2) (cI v7 v9 3) (cI v7 v9 4) (cB v7 v9 5) (cL v7 v9 6)).bind fun y10=>
 (aa (fun go1 s=>mh n go0 go1 v9 y10.1 s.1 s.2) n ((v8,0):dz))else none else(aa (fun go0 s=>iI n go0 s.1 s.2) n ((1,v8):bj)))
def ml(n:Nat)(v2 v3 v4 v5:Int)(v7:Lv):Option aL:=
 (aa (fun go0 s=>mP n go0 v2 v3 v4 v5 v7 s.1 s.2) n ((([]:Lv),0):dz))
def f7(n:Nat)(v0 v1 v2 v3 v4 v5:Int)(v6 v7:Lv):Option aL:=ml n v2 v3 v4 v5 v7
def ref17_happenings_t:FnT:=⟨[(true,[.int,.int,.int,.int,.int,.int,tSc,(.sl (.cons .int (.cons .int (.cons .int (.cons .int (.cons .int (.cons .bool (.cons tSc .nil))))))))])],(.row 261 (.cons .int (.cons .int (.cons .bool .nil)))),fun n (s:Int×Int×Int×Int×Int×Int×Lv×Lv)=>f7 n s.1 s.2.1 s.2.2.1 s.2.2.2.1 s.2.2.2.2.1 s.2.2.2.2.2.1 s.2.2.2.2.2.2.1 s.2.2.2.2.2.2.2⟩
theorem xy:ref17_happenings_t.ok Tryz.prog 189:=FnT.ok_of (cfg:=⟨[((189,3,1),.inv [(.tmprow 3 261 (.cons .int (.cons .int (.cons .bool .nil)))),(.tmp 4 .int)]),((189,7,4),.inv [(.tmprow 3 261 (.cons .int (.cons .int (.cons .bool .nil)))),(.tmp 7 .int)]),((189,12,3),.inv [(.tmp 8 .int),(.inrow 1 261 (.cons .int (.cons .int (.cons .bool .nil))))]),((189,15,5),.inv [(.tmp 9 .int),(.inrow 1 261 (.cons .int (.cons .int (.cons .bool .nil))))])],aH,[],aG⟩) av oY aX (fun s fn hf=>by rw[Tryz.func189]at hf;cases hf;kernel_rfl) (fun n s=>by kernel_rfl)
def ref17_happenings_T:Tab:=(189,ref17_happenings_t)::ref17_Valid_T
theorem j7:ref17_happenings_T.ok Tryz.prog:=Tab.ok_cons xy oY
abbrev jI:=Int
abbrev tw:=Int
def jB(n:Nat)(go0:tw->Option jI)(v0:Lv)(v1 v2:Int):Option jI:=
 (bif v2<(v0.length:Int) then bif 0<=v2 then(bif (cI v0 v2 0)=v1 then some v2 else bif(-9223372036854775808<=(v2+1))&&((v2+1)<=9223372036854775807)then go0 (v2+1)else none)else none else some (-1))
def na(n:Nat)(v0:Lv)(v1:Int):Option jI:=
 (aa (fun go0 s=>jB n go0 v0 v1 s) n (0:tw))
def eB(n:Nat)(v0:Lv)(v1:Int):Option jI:=na n v0 v1
def ref17_place_t:FnT:=⟨[(false,[tSa]),(false,[.int])],.i,fun n (s:Lv×Int)=>eB n s.1 s.2⟩
theorem Fq:ref17_place_t.ok Tryz.prog 190:=FnT.ok_of (cfg:=⟨[((190,2,0),.inv [(.tmp 5 .int)])],aH,[],aG⟩) av j7 aX (fun s fn hf=>by rw[Tryz.func190]at hf;cases hf;kernel_rfl) (fun n s=>by kernel_rfl)
def ref17_place_T:Tab:=(190,ref17_place_t)::ref17_happenings_T
theorem pV:ref17_place_T.ok Tryz.prog:=Tab.ok_cons Fq j7
abbrev cd:=Lv×Lv
abbrev fD:=Lv×Lv×Int
abbrev oJ:=Lv×Lv
def sL(n:Nat)(go0:fD->Option cd)(go1:oJ->Option cd)(v9:Lv)(v12 v13:Int)(v14 v15:Lv):Option cd:=
 bif(-9223372036854775808<=(v13+1))&&((v13+1)<=9223372036854775807)then(bif (v13+1)<(v15.length:Int) then bif(-9223372036854775808<=((v15.length:Int)-1))&&(((v15.length:Int)-1)<=9223372036854775807)then bif 0<=((v15.length:Int)-1) then bif ((v15.length:Int)-1)<(v15.length:Int) then bif (((v14.length:Int)+1)*24)<=140737488355328 then bif ((v15.length:Int)-1)<=(v15.length:Int) then go1 ((v14++[[(AV.int (cI v9 v12 0)),(AV.int (cI v15 ((v15.length:Int)-1) 0)),(AV.int 4)]]),(List.take (((v15.length:Int)-1)).toNat v15))else none else none else none else none else none else bif (((v14.length:Int)+1)*24)<=140737488355328 then bif 0<=v13 then bif v13<=(v15.length:Int) then bif (((List.take (v13).toNat v15).length:Int)*8)<=140737488355328 then bif(-9223372036854775808<=(v12+1))&&((v12+1)<=9223372036854775807)then go0 ((List.take (v13).toNat v15),(v14++[[(AV.int (cI v9 v12 0)),(AV.int (cI v9 v12 1)),(AV.int 3)]]),(v12+1))else none else none else none else none else none)else none
def Bo(n:Nat)(go0:fD->Option cd)(v1:Int)(v6 v7 v9 v10 v11:Lv)(v12:Int):Option cd:=
 (bif(!(cB v9 v12 2))then(dq n v6 (af (cI v9 v12 0) 10000000)).bind fun y13=>
 (bif (v10.length:Int)=0 then(bif v1=(cI v7 (cI v9 v12 1) 1) then(bif y13.1=1 then(bif y13.2.1=(cI v7 (cI v9 v12 1) 3) then bif (((v10.length:Int)+1)*8)<=140737488355328 then bif (((v11.length:Int)+1)*24)<=140737488355328 then bif(-9223372036854775808<=(v12+1))&&((v12+1)<=9223372036854775807)then go0 ((v10++[[(AV.int (cI v9 v12 1))]]),(v11++[[(AV.int (cI v9 v12 0)),(AV.int (cI v9 v12 1)),(AV.int 1)]]),(v12+1))else none else none else none else bif (((v11.length:Int)+1)*24)<=140737488355328 then bif(-9223372036854775808<=(v12+1))&&((v12+1)<=9223372036854775807)then go0 (v10,(v11++[[(AV.int (cI v9 v12 0)),(AV.int (cI v9 v12 1)),(AV.int 2)]]),(v12+1))else none else none)else bif (((v11.length:Int)+1)*24)<=140737488355328 then bif(-9223372036854775808<=(v12+1))&&((v12+1)<=9223372036854775807)then go0 (v10,(v11++[[(AV.int (cI v9 v12 0)),(AV.int (cI v9 v12 1)),(AV.int 2)]]),(v12+1))else none else none)else bif (((v11.length:Int)+1)*24)<=140737488355328 then bif(-9223372036854775808<=(v12+1))&&((v12+1)<=9223372036854775807)then go0 (v10,(v11++[[(AV.int (cI v9 v12 0)),(AV.int (cI v9 v12 1)),(AV.int 2)]]),(v12+1))else none else none)else bif(-9223372036854775808<=((v10.length:Int)-1))&&(((v10.length:Int)-1)<=9223372036854775807)then bif 0<=((v10.length:Int)-1) then bif ((v10.length:Int)-1)<(v10.length:Int) then bif 0<=(cI v10 ((v10.length:Int)-1) 0) then bif (cI v10 ((v10.length:Int)-1) 0)<(v7.length:Int) then(bif (cI v7 (cI v10 ((v10.length:Int)-1) 0) 2)=(cI v7 (cI v9 v12 1) 1) then(bif y13.1=1 then(bif y13.2.1=(cI v7 (cI v9 v12 1) 3) then bif (((v10.length:Int)+1)*8)<=140737488355328 then bif (((v11.length:Int)+1)*24)<=140737488355328 then bif(-9223372036854775808<=(v12+1))&&((v12+1)<=9223372036854775807)then go0 ((v10++[[(AV.int (cI v9 v12 1))]]),(v11++[[(AV.int (cI v9 v12 0)),(AV.int (cI v9 v12 1)),(AV.int 1)]]),(v12+1))else none else none else none else bif (((v11.length:Int)+1)*24)<=140737488355328 then bif(-9223372036854775808<=(v12+1))&&((v12+1)<=9223372036854775807)then go0 (v10,(v11++[[(AV.int (cI v9 v12 0)),(AV.int (cI v9 v12 1)),(AV.int 2)]]),(v12+1))else none else none)else bif (((v11.length:Int)+1)*24)<=140737488355328 then bif(-9223372036854775808<=(v12+1))&&((v12+1)<=9223372036854775807)then go0 (v10,(v11++[[(AV.int (cI v9 v12 0)),(AV.int (cI v9 v12 1)),(AV.int 2)]]),(v12+1))else none else none)else bif (((v11.length:Int)+1)*24)<=140737488355328 then bif(-9223372036854775808<=(v12+1))&&((v12+1)<=9223372036854775807)then go0 (v10,(v11++[[(AV.int (cI v9 v12 0)),(AV.int (cI v9 v12 1)),(AV.int 2)]]),(v12+1))else none else none)else none else none else none else none else none)else(eB n v10 (cI v9 v12 1)).bind fun y13=>
 (bif y13<0 then bif (((v11.length:Int)+1)*24)<=140737488355328 then bif(-9223372036854775808<=(v12+1))&&((v12+1)<=9223372036854775807)then go0 (v10,(v11++[[(AV.int (cI v9 v12 0)),(AV.int (cI v9 v12 1)),(AV.int 5)]]),(v12+1))else none else none else(aa (fun go1 s=>sL n go0 go1 v9 v12 y13 s.1 s.2) n ((v11,v10):oJ))))
def BX(n:Nat)(go0:fD->Option cd)(v1:Int)(v6 v7:Lv)(v8:Int)(v9 v10 v11:Lv)(v12:Int):Option cd:=
 (bif (cI v9 v12 0)<=v8 then bif 0<=(cI v9 v12 1) then bif (cI v9 v12 1)<(v7.length:Int) then Bo n go0 v1 v6 v7 v9 v10 v11 v12 else none else none else some (v11,v10))
def BQ(n:Nat)(go0:fD->Option cd)(v1:Int)(v6 v7:Lv)(v8:Int)(v9 v10 v11:Lv)(v12:Int):Option cd:=
 (bif v12<(v9.length:Int) then bif 0<=v12 then BX n go0 v1 v6 v7 v8 v9 v10 v11 v12 else none else some (v11,v10))
def Bp(n:Nat)(v0 v1 v2 v3 v4 v5:Int)(v6 v7:Lv)(v8:Int):Option cd:=
 (f7 n v0 v1 v2 v3 v4 v5 v6 v7).bind fun y9=>
 (aa (fun go0 s=>BQ n go0 v1 v6 v7 v8 y9 s.1 s.2.1 s.2.2) n ((([]:Lv),([]:Lv),0):fD))
def qG(n:Nat)(v0 v1 v2 v3 v4 v5:Int)(v6 v7:Lv)(v8:Int):Option cd:=Bp n v0 v1 v2 v3 v4 v5 v6 v7 v8
def ref17_run_t:FnT:=⟨[(true,[.int,.int,.int,.int,.int,.int,tSc,(.sl (.cons .int (.cons .int (.cons .int (.cons .int (.cons .int (.cons .bool (.cons tSc .nil))))))))]),(false,[.int])],(.tup (.cons (.row 179 (.cons .int (.cons .int (.cons .int .nil)))) (.cons (.row 3 (.cons .int .nil)) .nil))),fun n (s:Int×Int×Int×Int×Int×Int×Lv×Lv×Int)=>qG n s.1 s.2.1 s.2.2.1 s.2.2.2.1 s.2.2.2.2.1 s.2.2.2.2.2.1 s.2.2.2.2.2.2.1 s.2.2.2.2.2.2.2.1 s.2.2.2.2.2.2.2.2⟩
theorem JB:ref17_run_t.ok Tryz.prog 156:=FnT.ok_of (cfg:=⟨[((156,5,2),.inv [(.tmprow 7 3 (.cons .int .nil)),(.tmprow 6 179 (.cons .int (.cons .int (.cons .int .nil)))),(.tmp 9 .int)]),((156,18,9),.inv [(.tmprow 6 179 (.cons .int (.cons .int (.cons .int .nil)))),(.tmprow 7 3 (.cons .int .nil))])],aH,[(156,20)],aG⟩) av pV aX (fun s fn hf=>by rw[Tryz.func156]at hf;cases hf;kernel_rfl) (fun n s=>by kernel_rfl)
def ref17_run_T:Tab:=(156,ref17_run_t)::ref17_place_T
theorem ue:ref17_run_T.ok Tryz.prog:=Tab.ok_cons JB pV
abbrev Dv:=Int×Lv×Int
def C1(n:Nat)(v0 v1 v2 v3 v4 v5:Int)(v6 v7:Lv)(v8:Int):Option Dv:=
 (lW n v0 v1 v2 v3 v4 v5 v6 v7).bind fun y9=>
 (bif(!y9)then some (0,([]:Lv),170)else(bif 0<=v8 then(bif(!(v8<=20000000 !(v8<=20000000)then some (0,([]:Lv),170)else(qG n v0 v1 v2 v3 v4 v5 v6 v7 v8).bind fun y10=>
 (bif (y10.2.length:Int)=0 then some (v1,y10.2,0)else bif(-9223372036854775808<=((y10.2.length:Int)-1))&&(((y10.2.length:Int)-1)<=9223372036854775807)then bif 0<=((y10.2.length:Int)-1) then bif ((y10.2.length:Int)-1)<(y10.2.length:Int) then bif 0<=(cI y10.2 ((y10.2.length:Int)-1) 0) then bif (cI y10.2 ((y10.2.length:Int)-1) 0)<(v7.length:Int) then some ((cI v7 (cI y10.2 ((y10.2.length:Int)-1) 0) 2),y10.2,0)else none else none else none else none else none))else some (0,([]:Lv),170)))
def uA(n:Nat)(v0 v1 v2 v3 v4 v5:Int)(v6 v7:Lv)(v8:Int):Option Dv:=C1 n v0 v1 v2 v3 v4 v5 v6 v7 v8
def ref17_At_t:FnT:=⟨[(true,[.int,.int,.int,.int,.int,.int,tSc,(.sl (.cons .int (.cons .int (.cons .int (.cons .int (.cons .int (.cons .bool (.cons tSc .nil))))))))]),(false,[.int])],(.tup (.cons .i (.cons (.row 3 (.cons .int .nil)) (.cons .i .nil)))),fun n (s:Int×Int×Int×Int×Int×Int×Lv×Lv×Int)=>uA n s.1 s.2.1 s.2.2.1 s.2.2.2.1 s.2.2.2.2.1 s.2.2.2.2.2.1 s.2.2.2.2.2.2.1 s.2.2.2.2.2.2.2.1 s.2.2.2.2.2.2.2.2⟩
theorem J9:ref17_At_t.ok Tryz.prog 111:=FnT.ok_of (cfg:=⟨[],aH,[],aG⟩) av ue aX (fun s fn hf=>by rw[Tryz.func111]at hf;cases hf;kernel_rfl) (fun n s=>by kernel_rfl)
def ref17_At_T:Tab:=(111,ref17_At_t)::ref17_run_T
theorem vZ:ref17_At_T.ok Tryz.prog:=Tab.ok_cons J9 ue
abbrev gU:=Int×Int×Lv×Lv×Lv×Int×Int
abbrev pt:=Int×Int×Int×Lv×Lv×Lv
abbrev yj:=Int
def sE(n:Nat)(go0:pt->Option gU)(v5:Lv)(v13 v14 v15:Int)(v16 v17 v18:Lv):Option gU:=
 (bif v13<(v5.length:Int) then bif 0<=v13 then(kT n v14 v15 v16 v17 v18 (cI v5 v13 0) (cI v5 v13 1) (cI v5 v13 2) (cI v5 v13 3) (cI v5 v13 4) (cI v5 v13 5) (cI v5 v13 6) (cI v5 v13 7)).bind fun y19=>
 (bif(!(y19.2.2.2.2.2=0 !(y19.2.2.2.2.2=0)then some (0,0,([]:Lv),([]:Lv),([]:Lv),v13,420)else bif(-9223372036854775808<=(v13+1))&&((v13+1)<=9223372036854775807)then go0 ((v13+1),y19.1,y19.2.1,y19.2.2.1,y19.2.2.2.1,y19.2.2.2.2.1)else none)else none else some (v14,v15,v16,v17,v18,(v5.length:Int),0))
def Bz(n:Nat)(go0:yj->Option gU)(v0 v1:Int)(v2 v3 v4 v5:Lv)(v7:Int):Option gU:=
 (bif v7<(v5.length:Int) then bif 0<=v7 then bif(-9223372036854775808<=(v7-1))&&((v7-1)<=9223372036854775807)then bif 0<=(v7-1) then bif (v7-1)<(v5.length:Int) then(bif (cI v5 v7 1)<(cI v5 (v7-1) 1) then some (0,0,([]:Lv),([]:Lv),([]:Lv),0,420)else bif(-9223372036854775808<=(v7+1))&&((v7+1)<=9223372036854775807)then go0 (v7+1)else none)else none else none else none else none else(gr n v0 v1 v2 v3 v4).bind fun y8=>
 (aa (fun go0 s=>sE n go0 v5 s.1 s.2.1 s.2.2.1 s.2.2.2.1 s.2.2.2.2.1 s.2.2.2.2.2) n ((0,y8.1,y8.2.1,y8.2.2.1,y8.2.2.2.1,y8.2.2.2.2):pt)))
def Bw(n:Nat)(v0 v1:Int)(v2 v3 v4 v5:Lv):Option gU:=
 (dN n v0 v1 v2 v3 v4).bind fun y6=>
 (bif(!y6)then some (0,0,([]:Lv),([]:Lv),([]:Lv),0,420)else(bif 20<(v5.length:Int) then some (0,0,([]:Lv),([]:Lv),([]:Lv),0,420)else(aa (fun go0 s=>Bz n go0 v0 v1 v2 v3 v4 v5 s) n (1:yj))))
def mF(n:Nat)(v0 v1:Int)(v2 v3 v4 v5:Lv):Option gU:=Bw n v0 v1 v2 v3 v4 v5
def ref42_Run_t:FnT:=⟨[(true,[.int,.int,tSc,tSa,tSa]),(false,[tSh])],(.tup (.cons (.agg (.cons .i (.cons .i (.cons (.row 116 (.cons .int (.cons .int (.cons .int .nil)))) (.cons (.row 3 (.cons .int .nil)) (.cons (.row 3 (.cons .int .nil)) .nil)))))) (.cons .i (.cons .i .nil)))),fun n (s:Int×Int×Lv×Lv×Lv×Lv)=>mF n s.1 s.2.1 s.2.2.1 s.2.2.2.1 s.2.2.2.2.1 s.2.2.2.2.2⟩
theorem Jh:ref42_Run_t.ok Tryz.prog 22:=FnT.ok_of (cfg:=⟨[((22,4,2),.inv [(.tmp 7 .int)]),((22,10,8),.inv [(.tmp 9 .int),(.cell 6 0 .int),(.cell 6 1 .int),(.cellrow 6 2 116 (.cons .int (.cons .int (.cons .int .nil)))),(.cellrow 6 3 3 (.cons .int .nil)),(.cellrow 6 4 3 (.cons .int .nil))])],aH,[],aG⟩) av vZ aX (fun s fn hf=>by rw[Tryz.func22]at hf;cases hf;kernel_rfl) (fun n s=>by kernel_rfl)
def ref42_Run_T:Tab:=(22,ref42_Run_t)::ref17_At_T
theorem sY:ref42_Run_T.ok Tryz.prog:=Tab.ok_cons Jh vZ
abbrev jK:=Lv
abbrev tS:=Int
def vU(n:Nat)(go0:tS->Option jK)(v0:Lv)(v1 v2:Int):Option jK:=
 (bif v2<(v0.length:Int) then bif 0<=v2 then(bif (cI v0 v2 1)<=v1 then bif(-9223372036854775808<=(v2+1))&&((v2+1)<=9223372036854775807)then go0 (v2+1)else none else bif v2<=(v0.length:Int) then some (List.take (v2).toNat v0)else none)else none else bif 0<=v2 then bif v2<=(v0.length:Int) then some (List.take (v2).toNat v0)else none else none)
def wJ(n:Nat)(v0:Lv)(v1:Int):Option jK:=
 (aa (fun go0 s=>vU n go0 v0 v1 s) n (0:tS))
def jv(n:Nat)(v0:Lv)(v1:Int):Option jK:=wJ n v0 v1
def ref42_Until_t:FnT:=⟨[(false,[tSh]),(false,[.int])],(.row 1000041 (.cons .int (.cons .int (.cons .int (.cons .int (.cons .int (.cons .int (.cons .int (.cons .int .nil))))))))),fun n (s:Lv×Int)=>jv n s.1 s.2⟩
theorem EC:ref42_Until_t.ok Tryz.prog 83:=FnT.ok_of (cfg:=⟨[((83,2,0),.inv [(.tmp 5 .int)])],aH,[],aG⟩) av sY aX (fun s fn hf=>by rw[Tryz.func83]at hf;cases hf;kernel_rfl) (fun n s=>by kernel_rfl)
def ref42_Until_T:Tab:=(83,ref42_Until_t)::ref42_Run_T
theorem oX:ref42_Until_T.ok Tryz.prog:=Tab.ok_cons EC sY
abbrev Dw:=Int×Int×Lv×Lv×Lv×Int
def Dg(n:Nat)(v0 v1:Int)(v2 v3 v4 v5:Lv)(v6:Int):Option Dw:=
 (mF n v0 v1 v2 v3 v4 v5).bind fun y7=>
 (bif(!(y7.2.2.2.2.2.2=0 !(y7.2.2.2.2.2.2=0)then some (0,0,([]:Lv),([]:Lv),([]:Lv),420)else(bif 0<=v6 then(bif(!(v6<=20000000 !(v6<=20000000)then some (0,0,([]:Lv),([]:Lv),([]:Lv),420)else(jv n v5 v6).bind fun y14=>
 (mF n v0 v1 v2 v3 v4 y14).bind fun y15=>
 some (y15.1,y15.2.1,y15.2.2.1,y15.2.2.2.1,y15.2.2.2.2.1,0))else some (0,0,([]:Lv),([]:Lv),([]:Lv),420)))
def uE(n:Nat)(v0 v1:Int)(v2 v3 v4 v5:Lv)(v6:Int):Option Dw:=Dg n v0 v1 v2 v3 v4 v5 v6
def ref42_At_t:FnT:=⟨[(true,[.int,.int,tSc,tSa,tSa]),(false,[tSh]),(false,[.int])],(.tup (.cons (.agg (.cons .i (.cons .i (.cons (.row 116 (.cons .int (.cons .int (.cons .int .nil)))) (.cons (.row 3 (.cons .int .nil)) (.cons (.row 3 (.cons .int .nil)) .nil)))))) (.cons .i .nil))),fun n (s:Int×Int×Lv×Lv×Lv×Lv×Int)=>uE n s.1 s.2.1 s.2.2.1 s.2.2.2.1 s.2.2.2.2.1 s.2.2.2.2.2.1 s.2.2.2.2.2.2⟩
theorem Km:ref42_At_t.ok Tryz.prog 25:=FnT.ok_of (cfg:=⟨[],aH,[],aG⟩) av oX aX (fun s fn hf=>by rw[Tryz.func25]at hf;cases hf;kernel_rfl) (fun n s=>by kernel_rfl)
def ref42_At_T:Tab:=(25,ref42_At_t)::ref42_Until_T
theorem xq:ref42_At_T.ok Tryz.prog:=Tab.ok_cons Km oX
abbrev fA:=Int×Int
abbrev mS:=Int×Int
def nu(n:Nat)(go0:mS->Option fA)(v7:Int)(v15:Lv)(v16 v17:Int):Option fA:=
 (bif v17<(v15.length:Int) then bif 0<=v17 then(bif(!((cI v15 v17 2)=v16 !((cI v15 v17 2)=v16)then bif(-9223372036854775808<=(v17+1))&&((v17+1)<=9223372036854775807)then go0 (v16,(v17+1))else none else(bif (cI v15 v17 5)<=v7 then(bif (cI v15 v17 0)=1 then bif(-9223372036854775808<=(v17+1))&&((v17+1)<=9223372036854775807)then go0 ((cI v15 v17 3),(v17+1))else none else(bif (cI v15 v17 0)=2 then(bif v7<(cI v15 v17 6) then bif(-9223372036854775808<=(v17+1))&&((v17+1)<=9223372036854775807)then go0 ((cI v15 v17 3),(v17+1))else none else bif(-9223372036854775808<=(v17+1))&&((v17+1)<=9223372036854775807)then go0 (v16,(v17+1))else none)else(bif (cI v15 v17 0)=3 then(bif v7<(cI v15 v17 6) then bif(-9223372036854775808<=(v17+1))&&((v17+1)<=9223372036854775807)then go0 ((cI v15 v17 3),(v17+1))else none else bif(-9223372036854775808<=(v17+1))&&((v17+1)<=9223372036854775807)then go0 ((cI v15 v17 4),(v17+1))else none)else bif(-9223372036854775808<=(v17+1))&&((v17+1)<=9223372036854775807)then go0 (v16,(v17+1))else none)))else(bif (cI v15 v17 0)=1 then bif(-9223372036854775808<=(v17+1))&&((v17+1)<=9223372036854775807)then go0 ((cI v15 v17 3),(v17+1))else none else(bif (cI v15 v17 0)=2 then bif(-9223372036854775808<=(v17+1))&&((v17+1)<=9223372036854775807)then go0 (v16,(v17+1))else none else(bif (cI v15 v17 0)=3 then bif(-9223372036854775808<=(v17+1))&&((v17+1)<=9223372036854775807)then go0 ((cI v15 v17 4),(v17+1))else none else bif(-9223372036854775808<=(v17+1))&&((v17+1)<=9223372036854775807)then go0 (v16,(v17+1))else none)))))else none else some (v16,0))
def nL(n:Nat)(v0 v1:Int)(v2 v3 v4 v5:Lv)(v6 v7 v8:Int):Option fA:=
 (uE n v0 v1 v2 v3 v4 v5 v8).bind fun y9=>
 (bif(!(y9.2.2.2.2.2=0 !(y9.2.2.2.2.2=0)then some (0,420)else(bif 0<=v6 then(bif(!(v6<=7 !(v6<=7)then some (0,420)else(bif 0<=v7 then(bif(!(v7<=99999999 !(v7<=99999999)then some (0,420)else(jv n v5 v8).bind fun y15=>
 (aa (fun go0 s=>nu n go0 v7 y15 s.1 s.2) n ((v6,0):mS)))else some (0,420)))else some (0,420)))
def bb(n:Nat)(v0 v1:Int)(v2 v3 v4 v5:Lv)(v6 v7 v8:Int):Option fA:=nL n v0 v1 v2 v3 v4 v5 v6 v7 v8
def ref42_Successor_t:FnT:=⟨[(true,[.int,.int,tSc,tSa,tSa]),(false,[tSh]),(false,[.int]),(false,[.int]),(false,[.int])],(.tup (.cons .i (.cons .i .nil))),fun n (s:Int×Int×Lv×Lv×Lv×Lv×Int×Int×Int)=>bb n s.1 s.2.1 s.2.2.1 s.2.2.2.1 s.2.2.2.2.1 s.2.2.2.2.2.1 s.2.2.2.2.2.2.1 s.2.2.2.2.2.2.2.1 s.2.2.2.2.2.2.2.2⟩
theorem Ai:ref42_Successor_t.ok Tryz.prog 46:=FnT.ok_of (cfg:=⟨[((46,6,6),.inv [(.tmp 2 .int),(.tmp 15 .int)])],aH,[],aG⟩) av xq aX (fun s fn hf=>by rw[Tryz.func46]at hf;cases hf;kernel_rfl) (fun n s=>by kernel_rfl)
def ref42_Successor_T:Tab:=(46,ref42_Successor_t)::ref42_At_T
theorem lc:ref42_Successor_T.ok Tryz.prog:=Tab.ok_cons Ai xq
abbrev xi:=Int×Int×Int×Int×Int×Bool×Bool
def wX(n:Nat)(v0 v1:Int)(v2 v3 v4 v5:Lv)(v6 v7 v8 v9 v10:Int)(v11:Bool)(v12:Int):Option xi:=
 (bb n v0 v1 v2 v3 v4 v5 v7 v6 v12).bind fun y13=>
 (bb n v0 v1 v2 v3 v4 v5 v8 v6 v12).bind fun y15=>
 (bif(!(y13.2=0 !(y13.2=0)then some (0,0,0,0,0,false,false)else(bif(!(y15.2=0 !(y15.2=0)then some (0,0,0,0,0,false,false)else(bif y13.1=y15.1 then some (0,0,0,0,0,false,false)else some (v6,y13.1,y15.1,v9,v10,v11,true))))
def cU(n:Nat)(v0 v1:Int)(v2 v3 v4 v5:Lv)(v6 v7 v8 v9 v10:Int)(v11:Bool)(v12:Int):Option xi:=wX n v0 v1 v2 v3 v4 v5 v6 v7 v8 v9 v10 v11 v12
def ref42_Claim_t:FnT:=⟨[(true,[.int,.int,tSc,tSa,tSa]),(false,[tSh]),(true,[.int,.int,.int,.int,.int,.bool]),(false,[.int])],(.tup (.cons (.agg (.cons .i (.cons .i (.cons .i (.cons .i (.cons .i (.cons .b .nil))))))) (.cons .b .nil))),fun n (s:Int×Int×Lv×Lv×Lv×Lv×Int×Int×Int×Int×Int×Bool×Int)=>cU n s.1 s.2.1 s.2.2.1 s.2.2.2.1 s.2.2.2.2.1 s.2.2.2.2.2.1 s.2.2.2.2.2.2.1 s.2.2.2.2.2.2.2.1 s.2.2.2.2.2.2.2.2.1 s.2.2.2.2.2.2.2.2.2.1 s.2.2.2.2.2.2.2.2.2.2.1 s.2.2.2.2.2.2.2.2.2.2.2.1 s.2.2.2.2.2.2.2.2.2.2.2.2⟩
theorem ES:ref42_Claim_t.ok Tryz.prog 47:=FnT.ok_of (cfg:=⟨[],aH,[],aG⟩) av lc aX (fun s fn hf=>by rw[Tryz.func47]at hf;cases hf;kernel_rfl) (fun n s=>by kernel_rfl)
def ref42_Claim_T:Tab:=(47,ref42_Claim_t)::ref42_Successor_T
theorem pw:ref42_Claim_T.ok Tryz.prog:=Tab.ok_cons ES lc
abbrev yQ:=Int×Int
def yh(n:Nat)(v0 v1:Int)(v2 v3 v4 v5:Lv)(v6 v7 v8 v9 v10 v11:Int)(v12 v13:Lv)(v14:Int):Option yQ:=
 (uA n v6 v7 v8 v9 v10 v11 v12 v13 v14).bind fun y15=>
 (bif(!(y15.2.2=0 !(y15.2.2=0)then some (0,420)else(bb n v0 v1 v2 v3 v4 v5 y15.1 v6 v14).bind fun y18=>
 some (y18.1,y18.2))
def gv(n:Nat)(v0 v1:Int)(v2 v3 v4 v5:Lv)(v6 v7 v8 v9 v10 v11:Int)(v12 v13:Lv)(v14:Int):Option yQ:=yh n v0 v1 v2 v3 v4 v5 v6 v7 v8 v9 v10 v11 v12 v13 v14
def ref42_With_t:FnT:=⟨[(true,[.int,.int,tSc,tSa,tSa]),(false,[tSh]),(true,[.int,.int,.int,.int,.int,.int,tSc,(.sl (.cons .int (.cons .int (.cons .int (.cons .int (.cons .int (.cons .bool (.cons tSc .nil))))))))]),(false,[.int])],(.tup (.cons .i (.cons .i .nil))),fun n (s:Int×Int×Lv×Lv×Lv×Lv×Int×Int×Int×Int×Int×Int×Lv×Lv×Int)=>gv n s.1 s.2.1 s.2.2.1 s.2.2.2.1 s.2.2.2.2.1 s.2.2.2.2.2.1 s.2.2.2.2.2.2.1 s.2.2.2.2.2.2.2.1 s.2.2.2.2.2.2.2.2.1 s.2.2.2.2.2.2.2.2.2.1 s.2.2.2.2.2.2.2.2.2.2.1 s.2.2.2.2.2.2.2.2.2.2.2.1 s.2.2.2.2.2.2.2.2.2.2.2.2.1 s.2.2.2.2.2.2.2.2.2.2.2.2.2.1 s.2.2.2.2.2.2.2.2.2.2.2.2.2.2⟩
theorem Gy:ref42_With_t.ok Tryz.prog 49:=FnT.ok_of (cfg:=⟨[],aH,[],aG⟩) av pw aX (fun s fn hf=>by rw[Tryz.func49]at hf;cases hf;kernel_rfl) (fun n s=>by kernel_rfl)
def ref42_With_T:Tab:=(49,ref42_With_t)::ref42_Claim_T
theorem qQ:ref42_With_T.ok Tryz.prog:=Tab.ok_cons Gy pw
abbrev kJ:=Lv
abbrev wg:=Lv×Int
def xY(n:Nat)(go0:wg->Option kJ)(v2:Int)(v6:Lv)(v7:Int):Option kJ:=
 (dR n v2 4).bind fun y8=>
 bif(-9223372036854775808<=(39+y8))&&((39+y8)<=9223372036854775807)then(bif v7<(39+y8) then bif(-9223372036854775808<=(2*v7))&&((2*v7)<=9223372036854775807)then bif(-9223372036854775808<=((2*v7)+1))&&(((2*v7)+1)<=9223372036854775807)then bif (((v6.length:Int)+1)*24)<=140737488355328 then bif(-9223372036854775808<=(v7+1))&&((v7+1)<=9223372036854775807)then go0 ((v6++[[(AV.int (2*v7)),(AV.int ((2*v7)+1)),(AV.int 1)]]),(v7+1))else none else none else none else none else some v6)else none
def zT(n:Nat)(v0:Lv)(v1 v2 v3:Int):Option kJ:=
 bif ((v0.length:Int)*24)<=140737488355328 then(bif (v0.length:Int)=0 then some (([]:Lv)++[[(AV.int v2),(AV.int v3),(AV.int 0)]])else(dR n v3 (v0.length:Int)).bind fun y4=>
 (dR n v1 6).bind fun y5=>
 (bif y5=0 then bif 0<=y4 then bif y4<(v0.length:Int) then some (List.modify v0 (y4).toNat (fun r=>r.set 0 (AV.int v2)))else none else none else(bif y5=1 then bif 0<=y4 then bif y4<(v0.length:Int) then some (List.modify v0 (y4).toNat (fun r=>r.set 1 (AV.int v2)))else none else none else(bif y5=2 then bif 0<=y4 then bif y4<(v0.length:Int) then some (List.modify v0 (y4).toNat (fun r=>r.set 2 (AV.int v2)))else none else none else(bif y5=3 then bif 0<=y4 then bif y4<(v0.length:Int) then bif (((v0.length:Int)+1)*24)<=140737488355328 then some (v0++[[(AV.int (cI v0 y4 0)),(AV.int (cI v0 y4 1)),(AV.int (cI v0 y4 2))]])else none else none else none else(bif y5=4 then bif 0<=y4 then bif y4<(v0.length:Int) then bif 0<(v0.length:Int) then some (List.modify (List.modify (List.modify (List.modify (List.modify (List.modify v0 ((0:Int)).toNat (fun r=>r.set 0 (AV.int (cI v0 y4 0)))) ((0:Int)).toNat (fun r=>r.set 1 (AV.int (cI v0 y4 1)))) ((0:Int)).toNat (fun r=>r.set 2 (AV.int (cI v0 y4 2)))) (y4).toNat (fun r=>r.set 0 (AV.int (cI v0 0 0)))) (y4).toNat (fun r=>r.set 1 (AV.int (cI v0 0 1)))) (y4).toNat (fun r=>r.set 2 (AV.int (cI v0 0 2))))else none else none else none else(aa (fun go0 s=>xY n go0 v2 s.1 s.2) n ((([]:Lv),0):wg))))))))else none
def iU(n:Nat)(v0:Lv)(v1 v2 v3:Int):Option kJ:=zT n v0 v1 v2 v3
def ref13_Bent_t:FnT:=⟨[(false,[tSc]),(false,[.int]),(false,[.int]),(false,[.int])],(.row 116 (.cons .int (.cons .int (.cons .int .nil)))),fun n (s:Lv×Int×Int×Int)=>iU n s.1 s.2.1 s.2.2.1 s.2.2.2⟩
theorem Hw:ref13_Bent_t.ok Tryz.prog 59:=FnT.ok_of (cfg:=⟨[((59,8,2),.inv [(.tmprow 9 116 (.cons .int (.cons .int (.cons .int .nil)))),(.tmp 11 .int)])],aH,[],aG⟩) av qQ aX (fun s fn hf=>by rw[Tryz.func59]at hf;cases hf;kernel_rfl) (fun n s=>by kernel_rfl)
def ref13_Bent_T:Tab:=(59,ref13_Bent_t)::ref42_With_T
theorem rY:ref13_Bent_T.ok Tryz.prog:=Tab.ok_cons Hw qQ
abbrev fU:=Int×Int×Lv×Lv×Lv×Lv
abbrev gD:=Lv
def iJ(n:Nat)(go0:gD->Option fU)(v9 v10:Int)(v11 v12 v13 v15:Lv):Option fU:=
 (bif (v15.length:Int)<21 then bif (((v15.length:Int)+1)*64)<=140737488355328 then go0 (v15++[[(AV.int 4),(AV.int 10000000),(AV.int 0),(AV.int 0),(AV.int 0),(AV.int 0),(AV.int 0),(AV.int 0)]])else none else some (v9,v10,v11,v12,v13,v15))
def Ac(n:Nat)(v5:Lv)(v6 v7 v8 v9 v10:Int)(v11 v12 v13:Lv)(v14:Int):Option fU:=
 (bif 0<(v5.length:Int) then(aN n v8 (v5.length:Int)).bind fun y15=>
 bif 0<=y15 then bif y15<(v5.length:Int) then(bif v14=6 then some (v9,v10,v11,v12,v13,(List.modify v5 (y15).toNat (fun r=>r.set 0 (AV.int v7))))else(bif v14=7 then some (v9,v10,v11,v12,v13,(List.modify v5 (y15).toNat (fun r=>r.set 1 (AV.int v7))))else(bif v14=8 then some (v9,v10,v11,v12,v13,(List.modify v5 (y15).toNat (fun r=>r.set 2 (AV.int v7))))else(bif v14=9 then some (v9,v10,v11,v12,v13,(List.modify v5 (y15).toNat (fun r=>r.set 3 (AV.int v7))))else(bif v14=10 then some (v9,v10,v11,v12,v13,(List.modify v5 (y15).toNat (fun r=>r.set 4 (AV.int v7))))else(bif v14=11 then some (v9,v10,v11,v12,v13,(List.modify v5 (y15).toNat (fun r=>r.set 7 (AV.int v7))))else some (v9,v10,v11,v12,v13,(List.modify v5 (y15).toNat (fun r=>r.set 6 (AV.int v7))))))))))else none else none else(bif v14=0 then some (v7,v10,v11,v12,v13,v5)else(bif v14=1 then some (v9,v7,v11,v12,v13,v5)else(bif v14=2 then(aN n v8 8).bind fun y15=>
 bif 0<=y15 then bif y15<(v12.length:Int) then some (v9,v10,v11,(List.modify v12 (y15).toNat (fun r=>r.set 0 (AV.int v7))),v13,v5)else none else none else(bif v14=3 then(aN n v8 8).bind fun y15=>
 bif 0<=y15 then bif y15<(v13.length:Int) then some (v9,v10,v11,v12,(List.modify v13 (y15).toNat (fun r=>r.set 0 (AV.int v7))),v5)else none else none else(bif v14=4 then bif(-9223372036854775808<=(Int.tdiv v6 13))&&((Int.tdiv v6 13)<=9223372036854775807)then(iU n v11 (Int.tdiv v6 13) v7 v8).bind fun y15=>
 some (v9,v10,y15,v12,v13,v5)else none else(aa (fun go0 s=>iJ n go0 v9 v10 v11 v12 v13 s) n (v5:gD))))))))
abbrev I7:= @iJ
def xV(n:Nat)(v5:Lv)(v6 v7 v8 v9 v10:Int)(v11 v12 v13:Lv)(v14:Int):Option fU:=
 (bif 6<=v14 then Ac n v5 v6 v7 v8 v9 v10 v11 v12 v13 v14 else(bif v14=0 then some (v7,v10,v11,v12,v13,v5)else(bif v14=1 then some (v9,v7,v11,v12,v13,v5)else(bif v14=2 then(aN n v8 8).bind fun y15=>
 bif 0<=y15 then bif y15<(v12.length:Int) then some (v9,v10,v11,(List.modify v12 (y15).toNat (fun r=>r.set 0 (AV.int v7))),v13,v5)else none else none else(bif v14=3 then(aN n v8 8).bind fun y15=>
 bif 0<=y15 then bif y15<(v13.length:Int) then some (v9,v10,v11,v12,(List.modify v13 (y15).toNat (fun r=>r.set 0 (AV.int v7))),v5)else none else none else(bif v14=4 then bif(-9223372036854775808<=(Int.tdiv v6 13))&&((Int.tdiv v6 13)<=9223372036854775807)then(iU n v11 (Int.tdiv v6 13) v7 v8).bind fun y15=>
 some (v9,v10,y15,v12,v13,v5)else none else(aa (fun go0 s=>I7 n go0 v9 v10 v11 v12 v13 s) n (v5:gD))))))))
def zn(n:Nat)(v0 v1:Int)(v2 v3 v4 v5:Lv)(v6 v7 v8:Int):Option fU:=
 (gr n v0 v1 v2 v3 v4).bind fun y9=>
 bif ((v5.length:Int)*64)<=140737488355328 then(aN n v6 13).bind fun y14=>
 xV n v5 v6 v7 v8 y9.1 y9.2.1 y9.2.2.1 y9.2.2.2.1 y9.2.2.2.2 y14 else none
def nX(n:Nat)(v0 v1:Int)(v2 v3 v4 v5:Lv)(v6 v7 v8:Int):Option fU:=zn n v0 v1 v2 v3 v4 v5 v6 v7 v8
def ref42_Bent_t:FnT:=⟨[(true,[.int,.int,tSc,tSa,tSa]),(false,[tSh]),(false,[.int]),(false,[.int]),(false,[.int])],(.tup (.cons (.agg (.cons .i (.cons .i (.cons (.row 116 (.cons .int (.cons .int (.cons .int .nil)))) (.cons (.row 3 (.cons .int .nil)) (.cons (.row 3 (.cons .int .nil)) .nil)))))) (.cons (.row 41 (.cons .int (.cons .int (.cons .int (.cons .int (.cons .int (.cons .int (.cons .int (.cons .int .nil))))))))) .nil))),fun n (s:Int×Int×Lv×Lv×Lv×Lv×Int×Int×Int)=>nX n s.1 s.2.1 s.2.2.1 s.2.2.2.1 s.2.2.2.2.1 s.2.2.2.2.2.1 s.2.2.2.2.2.2.1 s.2.2.2.2.2.2.2.1 s.2.2.2.2.2.2.2.2⟩
theorem G0:ref42_Bent_t.ok Tryz.prog 14:=FnT.ok_of (cfg:=⟨[((14,22,9),.inv [(.tmprow 13 41 (.cons .int (.cons .int (.cons .int (.cons .int (.cons .int (.cons .int (.cons .int (.cons .int .nil)))))))))])],aH,[],aG⟩) av rY aX (fun s fn hf=>by rw[Tryz.func14]at hf;cases hf;kernel_rfl) (fun n s=>by kernel_rfl)
def ref42_Bent_T:Tab:=(14,ref42_Bent_t)::ref13_Bent_T
theorem Eu:ref42_Bent_T.ok Tryz.prog:=Tab.ok_cons G0 rY
end
open Go.Dial.Blk Go.Dial.Mrg
theorem BP(n:Nat)(w:Wd)(l:List Ev)(hl:l.length<=1000000)(hn:1000001<n):mF n w.al w.ev (bL w.bl) (iL w.ba) (iL w.le) (evL l)=some (AP (iM w l)):=by
 unfold mF Bw;rw[eW n w (by omega),Option.bind_some]
 refine cBN (fun hv=>?_) (fun h=>noR fun p=>by rw[eI p.v]at h;cases h)
 have hw:=vB_iff.1 hv;rw[lf];refine cF (fun h20=>noR fun p=>by have:=p.few;omega) (fun h20=>?_)
 have fin:Srt l->(gr n w.al w.ev (bL w.bl) (iL w.ba) (iL w.le)).bind (fun y8=>
   (aa (fun go0 s=>sE n go0 (evL l) s.1 s.2.1 s.2.2.1 s.2.2.2.1 s.2.2.2.2.1 s.2.2.2.2.2) n ((0,y8.1,y8.2.1,y8.2.2.1,y8.2.2.2.1,y8.2.2.2.2):pt)))=some (AP (iM w l)):=fun hs=>by
  rw[pf n w (by have:=hw.few;omega) (by rw[hw.bal];decide) (by rw[hw.lel];decide),Option.bind_some]
  have hE:iM w l=bG w l 0:=by unfold iM;rw[if_pos ⟨hw,by omega,hs⟩]
  rw[hE];refine ar (fun s=>∃(i:Nat) (u:Wd),s=((i:Int),u.al,u.ev,bL u.bl,iL u.ba,iL u.le)/\i<=l.length/\WV u/\bG u (l.drop i) i=bG w l 0) (fun s=>l.length-s.1.toNat) _ ?_ n _ ⟨0,w,rfl,by omega,hw,rfl⟩ (by first|omega|(simp only;omega))
  rintro _ go ⟨i,u,rfl,hi,hu,hE⟩ ih;simp only at ih⊢
  unfold sE;rw[lf];by_cases hlt:i<l.length
  ·obtain⟨e,he⟩:=aD hlt
   obtain⟨g0,g1,g2,g3,g4,g5,g6,g7⟩:=nZ he;refine cF (fun _=>gN (by omega) ?_) (fun h=>absurd h (by omega))
   rw[g0,g1,g2,g3,g4,g5,g6,g7,zR n u e (by omega),Option.bind_some]
   rw[km he,bG]at hE;cases hs:ew u e with
   |none=>
    rw[hs]at hE;rw[<-hE];exact cN (fun h=>absurd h (by show ¬(420:Int)=0;decide)) (fun _=>rfl)
   |some v=>
    rw[hs]at hE;obtain⟨hp,_⟩:=iX hs;have hv2:WV v:=by rw[(iX hs).2];exact hp.v2
    refine cN (fun _=>gO (by omega) (by omega) ?_) (fun h=>absurd rfl h)
    exact ih _ ⟨i+1,v,rfl,by omega,hv2,hE⟩ (by first|omega|(simp only;omega))
  ·have hi2:i=l.length:=by omega
   subst hi2;refine cF (fun h=>absurd h (by omega)) (fun _=>?_)
   rw[List.drop_length,bG]at hE;rw[<-hE];rfl
 refine ar (fun s=>∃i:Nat,s=(i:Int)/\1<=i/\i<=l.length+1/\∀(k:Nat) a b,k+1<i->l[k]?=some a->l[k+1]?=some b->a.at_<=b.at_) (fun s=>(l.length+1)-s.toNat) _ ?_ n _ ⟨1,rfl,by omega,by omega,fun k a b hk=>by omega⟩ (by first|omega|(simp only;omega))
 rintro _ go ⟨i,rfl,h1,h2,hs⟩ ih;unfold Bz;rw[lf];refine cF (fun hp=>?_) (fun hp=>?_)
 ·obtain⟨j,rfl⟩:∃j,i=j+1:=⟨i-1,by omega⟩
  obtain⟨b,hb⟩:=aD (l:=l) (i:=j+1) (by omega)
  obtain⟨a,hA⟩:=aD (l:=l) (i:=j) (by omega)
  have gb:=(nZ hb).2.1;have ga:=(nZ hA).2.1;have e1:((j+1:Nat):Int)-1=(j:Int):=by omega
  rw[e1,gb,ga];refine gN (by omega) (gO (by omega) (by omega) (gN (by omega) (gN (by omega) (cF (fun hlt=>noR fun p=>?_) (fun hge=>gO (by omega) (by omega) ?_)))))
  ·have:=(ul l).1 p.srt j a b hA hb;omega
  ·refine ih _ ⟨j+2,by omega,by omega,by omega,fun k x y hk hx hy=>?_⟩ (by omega)
   by_cases hkj:k=j
   ·subst hkj;rw[hA]at hx;rw[hb]at hy;cases hx;cases hy;omega
   ·exact hs k x y (by omega) hx hy
 ·exact fin ((ul l).2 fun k a b h3 h4=>hs k a b (by have:=(List.getElem?_eq_some_iff.1 h4).1;omega) h3 h4)
theorem vP(n:Nat)(l:List Ev)(hl:l.length<=1000000)(t:Int)(hn:1000001<n):jv n (evL l) t=some (evL (untl l t)):=by
 unfold jv wJ;refine ar (fun s=>∃i:Nat,s=(i:Int)/\i<=l.length/\untl l t=l.take i++untl (l.drop i) t) (fun s=>l.length-s.toNat) _ ?_ n _ ⟨0,rfl,by omega,rfl⟩ (by first|omega|(simp only;omega))
 rintro _ go ⟨i,rfl,hi,hE⟩ ih;unfold vU;rw[lf];have htk:untl l t=l.take i->some (List.take (i:Int).toNat (evL l))=some (evL (untl l t)):=fun h=>by rw[h,evL,evL,List.map_take,Int.toNat_natCast]
 refine cF (fun hlt=>gN (by omega) ?_) (fun hlt=>gN (by omega) (gN (by omega) (htk ?_)))
 ·obtain⟨e,he⟩:=aD (l:=l) (i:=i) (by omega)
  have g1:=(nZ he).2.1;rw[km he]at hE;rw[g1];refine cF (fun ht=>gO (by omega) (by omega) (ih _ ⟨i+1,rfl,by omega,?_⟩ (by first|omega|(simp only;omega)))) (fun ht=>gN (by omega) (htk ?_))
  ·rw[hE,Jv ht,bU he,List.append_assoc];rfl
  ·rw[hE,Jj (by omega),List.append_nil]
 ·rw[hE,List.drop_of_length_le (by omega)]
  show _++[]=_
  rw[List.append_nil]
theorem LK(n:Nat)(w:Wd)(l:List Ev)(hl:l.length<=1000000)(t:Int)(hn:1000001<n):uE n w.al w.ev (bL w.bl) (iL w.ba) (iL w.le) (evL l) t=some (lO (atW w l t)):=by
 unfold uE Dg;rw[BP n w l hl hn,Option.bind_some];cases hr:iM w l with
 | mk o j=>
  cases o with
  |none=>
   refine cN (fun h=>absurd h (by show ¬(420:Int)=0;decide)) (fun _=>noA fun p=>?_)
   rw[xL p.g]at hr;cases hr
  |some v=>
   have hg:=F6 hr;refine cN (fun _=>cF (fun t0=>cN (fun t1=>?_) (fun h=>noA fun p=>h p.t1)) (fun h=>noA fun p=>h p.t0)) (fun h=>absurd rfl h)
   have e1:atW w l t=some (dT w (untl l t)):=if_pos ⟨hg,t0,t1⟩
   have hul:=(hg.untl t).few;rw[vP n l hl t hn,Option.bind_some,BP n w _ (by omega) hn,Option.bind_some,xL (hg.untl t),e1];rfl
end Go.Proofs.YtgckmifmjiklmaaGreat
namespace Go.Dial.Clm
structure Rl where
 a:Int
 c:Int
 s:Int
 r:Int
deriving DecidableEq
structure Cl where
 n:Int
 f:Int
 t:Int
 h:Int
 a:Int
 b:Bool
deriving DecidableEq
structure Ce where
 k:Int
 a:Int
 r:Int
deriving DecidableEq
structure Cs where
 s:Int
 f:Int
 n:Int
deriving DecidableEq
def RlV(r:Rl):Prop:=1<=r.a/\r.a<=1000000/\1<=r.c/\r.c<=1000000/\1<=r.s/\r.s<=1000000/\1<=r.r/\r.r<=1000000
instance (r:Rl):Decidable (RlV r):=by unfold RlV;infer_instance
def ClV(c:Cl):Prop:=0<=c.n/\c.n<=99999999/\0<=c.f/\c.f<=7/\0<=c.t/\c.t<=7/\c.f≠c.t/\0<=c.h/\c.h<=63/\0<=c.a/\c.a<=10000000
instance (c:Cl):Decidable (ClV c):=by unfold ClV;infer_instance
def CeV(last:Int)(e:Ce):Prop:=1<=e.k/\e.k<=6/\last<=e.a/\e.a<=20000000/\(e.k=2\/e.k=6->1<=e.r/\e.r<=9)/\(¬(e.k=2\/e.k=6)->e.r=0)
instance (last:Int) (e:Ce):Decidable (CeV last e):=by unfold CeV;infer_instance
def EvV:Int->List Ce->Prop
 |_,[]=>True
 |last,e::es=>CeV last e/\EvV e.a es
instance EvV.dec:(last:Int)->(es:List Ce)->Decidable (EvV last es)
 |_,[]=>.isTrue trivial
 |last,e::es=>by
  have:=EvV.dec e.a es
  unfold EvV;infer_instance
def cH(r:Rl)(c:Cl)(es:List Ce):Prop:=RlV r/\ClV c/\es.length<=20/\EvV c.a es
instance (r:Rl) (c:Cl) (es:List Ce):Decidable (cH r c es):=by unfold cH;infer_instance
def dur(r:Rl)(s:Int):Int:=if s=1 then r.a else if s=2 then r.s else if s=3 then r.c else r.r
def st(r:Rl)(s f:Int):Cs:=⟨s,f,if 1<=s/\s<=4 then f+dur r s else -1⟩
def aft(s:Int):Int:=if s=3 then 4 else if s=4 then 5 else 3
def bec(b:Bool)(s:Int)(e:Ce):Int:=
 if e.k=1 then(if s=1 then 3 else -1)else if e.k=2 then(if s=1 then(if e.r=1 then(if b then -1 else 6)else 2)else -1)else if e.k=3 then(if s=2 then 3 else -1)else if e.k=4 then(if s=2 then 6 else -1)else if e.k=5 then(if s=1\/s=2\/s=3 then 7 else -1)else if e.k=6 then(if s=4 then(if e.r=1/\b then -1 else 8)else -1)else -1
def act(x:Cs):Prop:=1<=x.s/\x.s<=4
instance (x:Cs):Decidable (act x):=by unfold act;infer_instance
def rk(s:Int):Nat:=if s=1\/s=2 then 3 else if s=3 then 2 else if s=4 then 1 else 0
theorem eT(s:Int):rk s<=3:=by unfold rk;split;omega;split;omega;split<;>omega
theorem dg{s:Int}(h:1<=s/\s<=4):rk (aft s)<rk s:=by
 have:s=1\/s=2\/s=3\/s=4:=by omega
 rcases this with rfl|rfl|rfl|rfl<;>decide
def tl(r:Rl)(b:Bool):Cs->List Ce->List Cs
 |now,e::es=>if h:act now/\now.n<=e.a then st r (aft now.s) now.n::tl r b (st r (aft now.s) now.n) (e::es)else if bec b now.s e<0 then tl r b now es else st r (bec b now.s e) e.a::tl r b (st r (bec b now.s e) e.a) es
 |now,[]=>if h:act now then st r (aft now.s) now.n::tl r b (st r (aft now.s) now.n) []else[]
termination_by now es=>5*es.length+rk now.s
decreasing_by
 ·have:=dg h.1
  simp only[st];omega
 ·have:=eT now.s
  simp only[List.length_cons];omega
 ·have:=eT (st r (bec b now.s e) e.a).s
  simp only[List.length_cons];omega
 ·have:=dg h
  simp only[st];omega
theorem oC{r:Rl}{b:Bool}{now:Cs}{e:Ce}{es:List Ce}(h:act now/\now.n<=e.a):tl r b now (e::es)=st r (aft now.s) now.n::tl r b (st r (aft now.s) now.n) (e::es):=by
 rw[tl,dif_pos h]
theorem oI{r:Rl}{b:Bool}{now:Cs}{e:Ce}{es:List Ce}(h:¬(act now/\now.n<=e.a))(hb:bec b now.s e<0):tl r b now (e::es)=tl r b now es:=by
 rw[tl,dif_neg h,if_pos hb]
theorem AS{r:Rl}{b:Bool}{now:Cs}{e:Ce}{es:List Ce}(h:¬(act now/\now.n<=e.a))(hb:¬bec b now.s e<0):tl r b now (e::es)=st r (bec b now.s e) e.a::tl r b (st r (bec b now.s e) e.a) es:=by
 rw[tl,dif_neg h,if_neg hb]
theorem tA{r:Rl}{b:Bool}{now:Cs}(h:act now):tl r b now []=st r (aft now.s) now.n::tl r b (st r (aft now.s) now.n) []:=by
 rw[tl,dif_pos h]
theorem kF{r:Rl}{b:Bool}{now:Cs}(h:¬act now):tl r b now []=[]:=by
 rw[tl,dif_neg h]
theorem yn{r:Rl}{b:Bool}(P:Cs->Prop)(A:Cs->List Ce->Prop)
  (h1:∀now e es,A now (e::es)->act now->now.n<=e.a->P (st r (aft now.s) now.n)/\A (st r (aft now.s) now.n) (e::es))
  (h2:∀now e es,A now (e::es)->¬(act now/\now.n<=e.a)->bec b now.s e<0->A now es)
  (h3:∀now e es,A now (e::es)->¬(act now/\now.n<=e.a)->¬bec b now.s e<0->P (st r (bec b now.s e) e.a)/\A (st r (bec b now.s e) e.a) es)
  (h4:∀now,A now []->act now->P (st r (aft now.s) now.n)/\A (st r (aft now.s) now.n) []):∀(m:Nat) now es,5*es.length+rk now.s<=m->A now es->∀x∈tl r b now es,P x:=by
 intro m;induction m with
 | zero=>
  intro now es hm hA x hx;have he:es=[]:=by
   cases es with
   |nil=>rfl
   |cons e es=>simp at hm
  subst he;by_cases ha:act now
  ·have:=dg ha;omega
  ·rw[kF ha]at hx;cases hx
 | succ m ih=>
  intro now es hm hA x hx;cases es with
  | nil=>
   by_cases ha:act now
   ·rw[tA ha]at hx
    obtain⟨p,q⟩:=h4 now hA ha;rcases List.mem_cons.1 hx with rfl|hx
    ·exact p
    ·exact ih _ _ (by have:=dg ha;simp only[st];omega) q x hx
   ·rw[kF ha]at hx;cases hx
  | cons e es=>
   by_cases ha:act now/\now.n<=e.a
   ·rw[oC ha]at hx
    obtain⟨p,q⟩:=h1 now e es hA ha.1 ha.2;rcases List.mem_cons.1 hx with rfl|hx
    ·exact p
    ·exact ih _ _ (by have:=dg ha.1;simp only[st];omega) q x hx
   ·by_cases hb:bec b now.s e<0
    ·rw[oI ha hb]at hx
     exact ih _ _ (by simp only[List.length_cons]at hm;have:=eT now.s;omega) (h2 now e es hA ha hb) x hx
    ·rw[AS ha hb]at hx
     obtain⟨p,q⟩:=h3 now e es hA ha hb;rcases List.mem_cons.1 hx with rfl|hx
     ·exact p
     ·exact ih _ _ (by simp only[List.length_cons]at hm;have:=eT (st r (bec b now.s e) e.a).s;omega) q x hx
theorem Jz{r:Rl}{b:Bool}:∀(m:Nat) now es,5*es.length+rk now.s<=m->(tl r b now es).length<=5*es.length+rk now.s:=by
 intro m;induction m with
 | zero=>
  intro now es hm;have he:es=[]:=by
   cases es with
   |nil=>rfl
   |cons e es=>simp at hm
  subst he;by_cases ha:act now
  ·have:=dg ha;omega
  ·rw[kF ha];simp
 | succ m ih=>
  intro now es hm;cases es with
  | nil=>
   by_cases ha:act now
   ·rw[tA ha]
    have h1:=dg ha;have:=ih (st r (aft now.s) now.n) [] (by simp only[st];omega)
    simp only[st,List.length_cons,List.length_nil]at this⊢;omega
   ·rw[kF ha];simp
  | cons e es=>
   by_cases ha:act now/\now.n<=e.a
   ·rw[oC ha]
    have h1:=dg ha.1;have:=ih (st r (aft now.s) now.n) (e::es) (by simp only[st];omega)
    simp only[st,List.length_cons]at this⊢;omega
   ·by_cases hb:bec b now.s e<0
    ·rw[oI ha hb]
     simp only[List.length_cons]at hm⊢;have h1:=eT now.s;have:=ih now es (by omega)
     omega
    ·rw[AS ha hb]
     simp only[List.length_cons]at hm⊢;have h1:=eT (st r (bec b now.s e) e.a).s;have:=ih (st r (bec b now.s e) e.a) es (by omega)
     omega
theorem Oa{l m:Int}{es:List Ce}(h:EvV l es)(hm:m<=l):EvV m es:=by
 cases es with
 |nil=>trivial
 |cons e es=>exact⟨⟨h.1.1,h.1.2.1,by have:=h.1.2.2.1;omega,h.1.2.2.2⟩,h.2⟩
theorem tC{l:Int}{es:List Ce}(h:EvV l es):∀e∈es,l<=e.a/\e.a<=20000000:=by
 induction es generalizing l with
 |nil=>intro e he;cases he
 | cons x es ih=>
  intro e he;rcases List.mem_cons.1 he with rfl|he
  ·exact⟨h.1.2.2.1,h.1.2.2.2.1⟩
  ·have:=ih h.2 e he
   have:=h.1.2.2.1
   omega
theorem M2{r:Rl}(h:RlV r)(s:Int):1<=dur r s/\dur r s<=1000000:=by
 unfold RlV at h;unfold dur;split;omega;split;omega;split<;>omega
theorem nb{r:Rl}(h:RlV r){s f:Int}(ha:1<=s/\s<=4):f<(st r s f).n/\(st r s f).n<=f+1000000:=by
 have:=M2 h s
 simp only[st];rw[if_pos ha];omega
theorem Lu{r:Rl}(hr:RlV r){b:Bool}{now:Cs}{es:List Ce}{m:Int}(h1:act now->m<=now.n)(h2:∀e∈es,m<=e.a):∀x∈tl r b now es,m<=x.f:=by
 refine yn (r:=r) (b:=b) (fun x=>m<=x.f) (fun now es=>(act now->m<=now.n)/\∀e∈es,m<=e.a) ?_ ?_ ?_ ?_ _ now es (Nat.le_refl _) ⟨h1,h2⟩
 ·intro now e es ⟨g1,g2⟩ ha hle
  exact⟨g1 ha,fun hx=>by have:=nb hr (s:=aft now.s) (f:=now.n) hx;have:=g1 ha;omega,g2⟩
 ·intro now e es ⟨g1,g2⟩ _ _
  exact⟨g1,fun x hx=>g2 x (List.mem_cons_of_mem _ hx)⟩
 ·intro now e es ⟨g1,g2⟩ _ _
  have:=g2 e (List.mem_cons_self ..)
  exact⟨this,fun hx=>by have:=nb hr (s:=bec b now.s e) (f:=e.a) hx;omega,fun x hx=>g2 x (List.mem_cons_of_mem _ hx)⟩
 ·intro now ⟨g1,g2⟩ ha
  exact⟨g1 ha,fun hx=>by have:=nb hr (s:=aft now.s) (f:=now.n) hx;have:=g1 ha;omega,g2⟩
theorem Pi{r:Rl}(hr:RlV r){b:Bool}{now:Cs}{es:List Ce}(h1:now.f+1000000*rk now.s<=23000000)(h0:act now->now.n<=now.f+1000000)(h2:∀e∈es,e.a<=20000000):∀x∈tl r b now es,x.f<=23000000:=by
 refine yn (r:=r) (b:=b) (fun x=>x.f<=23000000) (fun now es=>now.f+1000000*rk now.s<=23000000/\(act now->now.n<=now.f+1000000)/\∀e∈es,e.a<=20000000) ?_ ?_ ?_ ?_ _ now es (Nat.le_refl _) ⟨h1,h0,h2⟩
 ·intro now e es ⟨g1,g0,g2⟩ ha hle
  have k1:=dg ha;have k2:=g0 ha;refine⟨?_,?_,fun hx=>(nb hr hx).2,g2⟩
  ·simp only[st];omega
  ·simp only[st];omega
 ·intro now e es ⟨g1,g0,g2⟩ _ _
  exact⟨g1,g0,fun x hx=>g2 x (List.mem_cons_of_mem _ hx)⟩
 ·intro now e es ⟨g1,g0,g2⟩ _ _
  have k1:=g2 e (List.mem_cons_self ..);have k2:=eT (st r (bec b now.s e) e.a).s;refine⟨?_,?_,fun hx=>(nb hr hx).2,fun x hx=>g2 x (List.mem_cons_of_mem _ hx)⟩
  ·simp only[st];omega
  ·simp only[st]at k2⊢;omega
 ·intro now ⟨g1,g0,g2⟩ ha
  have k1:=dg ha;have k2:=g0 ha;refine⟨?_,?_,fun hx=>(nb hr hx).2,g2⟩
  ·simp only[st];omega
  ·simp only[st];omega
def x0(r:Rl)(c:Cl):Cs:=st r 1 c.a
def ao(r:Rl)(c:Cl)(es:List Ce):List Cs:=x0 r c::tl r c.b (x0 r c) es
def db(u:Int)(l:List Cs):List Cs:=l.takeWhile fun x=>decide (x.f<=u)
def Ag(r:Rl)(c:Cl)(es:List Ce)(t:Int):Cs:=((db t (ao r c es)).getLast?).getD ⟨0,0,c.a⟩
def CZ(r:Rl)(c:Cl)(es:List Ce)(t:Int):Prop:=cH r c es/\0<=t/\t<=20000000
instance (r:Rl) (c:Cl) (es:List Ce) (t:Int):Decidable (CZ r c es t):=by unfold CZ;infer_instance
def EF(r:Rl)(c:Cl)(es:List Ce)(t:Int):Cs×Int:=if CZ r c es t then(Ag r c es t,0)else(⟨0,0,0⟩,160)
def ik(r:Rl)(c:Cl):Int:=c.a+r.a-1+r.s+r.c+r.r
end Go.Dial.Clm
namespace Go.Dial.Lif
structure Ev where
 k:Int
 a:Int
 h:Int
deriving DecidableEq
structure Ln where
 s:Int
 h:Int
 e:Int
 t:Int
deriving DecidableEq
structure St where
 h:Int
 e:Int
 f:Int
 t:Int
deriving DecidableEq
def first:Ln:=⟨0,-1,0,0⟩
def zero:Ln:=⟨0,0,0,0⟩
def Vld(l:Ln):Prop:=0<=l.s/\l.s<=3/\0<=l.e/\l.e<=1000/\0<=l.t/\l.t<=10000000/\(l.s=0->l.h= -1)/\(l.s≠0->0<=l.h/\l.h<=63/\1<=l.e)
instance (l:Ln):Decidable (Vld l):=by unfold Vld;infer_instance
def vldB(l:Ln):Bool:=decide (Vld l)
def ko(k:Int):Prop:=k=1\/k=2
instance (k:Int):Decidable (ko k):=by unfold ko;infer_instance
def Frm(e:Ev):Prop:=1<=e.k/\e.k<=7/\0<=e.a/\e.a<=10000000/\(ko e.k->0<=e.h/\e.h<=63)/\(¬ko e.k->e.h= -1)
instance (e:Ev):Decidable (Frm e):=by unfold Frm;infer_instance
def sy(e:Ev):Bool:=decide (Frm e)
def Pos(l:Ln)(e:Ev):Prop:=l.t<=e.a/\((e.k=1/\l.s=0/\l.e<1000)\/(e.k=2/\l.s=1/\l.h≠e.h/\l.e<1000)\/(e.k=3/\l.s=1)\/(e.k=4/\l.s=2)\/(e.k=5/\(l.s=1\/l.s=2))\/(e.k=6/\l.s=3)\/(e.k=7/\l.s=3/\l.t+2592000<=e.a))
instance (l:Ln) (e:Ev):Decidable (Pos l e):=by unfold Pos;infer_instance
def nxt(l:Ln)(e:Ev):Ln:=
 if e.k=1\/e.k=2 then⟨1,e.h,l.e+1,e.a⟩else if e.k=3 then⟨2,l.h,l.e,e.a⟩else if e.k=4\/e.k=6 then⟨1,l.h,l.e,e.a⟩else if e.k=5 then⟨3,l.h,l.e,e.a⟩else⟨0,-1,l.e,e.a⟩
def Ok(l:Ln)(e:Ev):Prop:=Vld l/\Frm e/\Pos l e
instance (l:Ln) (e:Ev):Decidable (Ok l e):=by unfold Ok;infer_instance
def rM(l:Ln)(e:Ev):Ln×Int:=if Ok l e then(nxt l e,0)else(zero,140)
theorem pR{l:Ln}{e:Ev}(h:Ok l e):rM l e=(nxt l e,0):=if_pos h
theorem iH{l:Ln}{e:Ev}(h:¬Ok l e):rM l e=(zero,140):=if_neg h
theorem FJ:Vld first:=by decide
theorem PQ{l:Ln}{e:Ev}(h:Ok l e):Vld (nxt l e):=by
 obtain⟨⟨h1,h2,h3,h4,h5,h6,h7,h8⟩,⟨f1,f2,f3,f4,f5,f6⟩,p1,p2⟩:=h;unfold ko at f5 f6;unfold nxt;by_cases c1:e.k=1\/e.k=2
 ·rw[if_pos c1];have:=f5 c1;refine⟨?_,?_,?_,?_,?_,?_,?_,?_⟩<;>simp only<;>omega
 rw[if_neg c1];by_cases c3:e.k=3
 ·rw[if_pos c3];have:=h8 (by omega);refine⟨?_,?_,?_,?_,?_,?_,?_,?_⟩<;>simp only<;>omega
 rw[if_neg c3];by_cases c4:e.k=4\/e.k=6
 ·rw[if_pos c4];have:=h8 (by omega);refine⟨?_,?_,?_,?_,?_,?_,?_,?_⟩<;>simp only<;>omega
 rw[if_neg c4];by_cases c5:e.k=5
 ·rw[if_pos c5];have:=h8 (by omega);refine⟨?_,?_,?_,?_,?_,?_,?_,?_⟩<;>simp only<;>omega
 rw[if_neg c5];refine⟨?_,?_,?_,?_,?_,?_,?_,?_⟩<;>simp<;>omega
theorem Pd(l:Ln)(e:Ev):(nxt l e).t=e.a:=by unfold nxt;split;rfl;split;rfl;split;rfl;split<;>rfl
def bG:Ln->List Ev->Ln×Nat
 |l,[]=>(l,0)
 |l,e::es=>if Ok l e then((bG (nxt l e) es).1,(bG (nxt l e) es).2+1)else(l,0)
theorem PX(l:Ln)(es:List Ev):(bG l es).2<=es.length:=by
 induction es generalizing l with
 |nil=>simp[bG]
 |cons e es ih=>unfold bG;split<;>simp;exact ih _
def All:Ln->List Ev->Prop
 |_,[]=>True
 |l,e::es=>Ok l e/\All (nxt l e) es
def fin(l:Ln)(es:List Ev):Ln:=es.foldl nxt l
theorem runF_all{l:Ln}{es:List Ev}:(bG l es).2=es.length↔All l es:=by
 induction es generalizing l with
 |nil=>simp[bG,All]
 |cons e es ih=>
  unfold bG All;by_cases h:Ok l e
  ·rw[if_pos h];simp only[List.length_cons,Nat.add_right_cancel_iff,ih,h,true_and]
  ·rw[if_neg h];simp[h]
theorem IG{l:Ln}{es:List Ev}(h:All l es):bG l es=(fin l es,es.length):=by
 induction es generalizing l with
 |nil=>rfl
 |cons e es ih=>
  obtain⟨h1,h2⟩:=h;rw[bG,if_pos h1,ih h2];rfl
theorem NL{l:Ln}(hl:Vld l)(es:List Ev):Vld (bG l es).1:=by
 induction es generalizing l with
 |nil=>exact hl
 |cons e es ih=>
  unfold bG;by_cases h:Ok l e
  ·rw[if_pos h];exact ih (PQ h)
  ·rw[if_neg h];exact hl
theorem NS{l:Ln}{a b:List Ev}(h:All l a):bG l (a++b)=((bG (fin l a) b).1,a.length+(bG (fin l a) b).2):=by
 induction a generalizing l with
 |nil=>simp[fin]
 |cons e a ih=>
  obtain⟨h1,h2⟩:=h;rw[List.cons_append,bG,if_pos h1,ih h2];simp[fin];omega
theorem tg{l:Ln}{a b:List Ev}:All l (a++b)↔All l a/\All (fin l a) b:=by
 induction a generalizing l with
 |nil=>simp[All,fin]
 |cons e a ih=>simp only[List.cons_append,All,ih,fin,List.foldl_cons,and_assoc]
theorem AG(l:Ln)(a b:List Ev):fin l (a++b)=fin (fin l a) b:=by simp[fin]
theorem KP{l:Ln}{es:List Ev}(hl:Vld l)(h:All l es):Vld (fin l es):=by
 have:=NL hl es
 rwa [IG h]at this
theorem Cy{l:Ln}{es:List Ev}(h:All l es)(k:Nat):All l (es.take k):=by
 rw[<-List.take_append_drop k es,tg]at h;exact h.1
def nf(es:List Ev):(Ln×Nat)×Int:=if(bG first (es.take 40)).2=es.length then(((bG first (es.take 40)).1,es.length),0)else((zero,(bG first (es.take 40)).2),140)
def fw(es:List Ev):Prop:=All first es/\es.length<=40
theorem life_iff{es:List Ev}:(bG first (es.take 40)).2=es.length↔fw es:=by
 constructor
 ·intro h
  have h1:=PX first (es.take 40);have h2:es.length<=40:=by simp at h1;omega
  rw[List.take_of_length_le h2]at h;exact⟨runF_all.1 h,h2⟩
 ·rintro ⟨h1,h2⟩
  rw[List.take_of_length_le h2];exact runF_all.2 h1
instance (es:List Ev):Decidable (fw es):=decidable_of_iff _ life_iff
theorem j4{es:List Ev}(h:fw es):nf es=((fin first es,es.length),0):=by
 rw[nf,if_pos (life_iff.2 h),List.take_of_length_le h.2,IG h.1]
theorem A5{es:List Ev}(h:¬fw es):nf es=((zero,(bG first (es.take 40)).2),140):=by
 rw[nf,if_neg (fun e=>h (life_iff.1 e))]
theorem Nx{es:List Ev}(h:fw es)(k:Nat):fw (es.take k):=⟨Cy h.1 k,by have:=h.2;simp;omega⟩
theorem MZ{l:Ln}{es:List Ev}(h:All l es):∀e∈es,l.t<=e.a:=by
 induction es generalizing l with
 |nil=>simp
 |cons x es ih=>
  obtain⟨h1,h2⟩:=h;intro e he;have hx:=h1.2.2.1;rcases List.mem_cons.1 he with rfl|he
  ·exact hx
  ·have:=ih h2 e he;rw[Pd]at this;omega
theorem LB{l:Ln}{es:List Ev}(h:All l es){i j:Nat}(hij:i<=j)(hj:j<es.length):(es[i]'(by omega)).a<=es[j].a:=by
 induction es generalizing l i j with
 |nil=>simp at hj
 | cons x es ih=>
  obtain⟨h1,h2⟩:=h;cases i with
  | zero=>
   cases j with
   |zero=>exact Int.le_refl _
   |succ j=>
    have:=MZ h2 (es[j]'(by simpa using hj)) (List.getElem_mem _)
    rw[Pd]at this;simpa using this
  |succ i=>
   cases j with
   |zero=>omega
   |succ j=>simpa using ih h2 (i:=i) (j:=j) (by omega) (by simpa using hj)
def em(es:List Ev)(t:Int):Nat:=(es.takeWhile fun e=>decide (e.a<=t)).length
theorem AZ(es:List Ev)(t:Int):em es t<=es.length:=by
 unfold em;exact List.Sublist.length_le (List.takeWhile_sublist _)
theorem KS{es:List Ev}{t:Int}{i:Nat}(h:i<em es t):(es[i]'(Nat.lt_of_lt_of_le h (AZ es t))).a<=t:=by
 have h1:i<(es.takeWhile fun e=>decide (e.a<=t)).length:=h
 have h2:=List.all_eq_true.1 List.all_takeWhile _ (List.getElem_mem h1);have h3:(es.takeWhile fun e=>decide (e.a<=t))[i]=es[i]'(Nat.lt_of_lt_of_le h (AZ es t)):=by
  have:=(List.takeWhile_prefix (fun e:Ev=>decide (e.a<=t)) (l:=es))
  exact List.IsPrefix.getElem this h1
 rw[h3]at h2;simpa using h2
theorem KM{es:List Ev}{t:Int}(h:em es t<es.length):t<(es[em es t]).a:=by
 induction es with
 |nil=>simp at h
 | cons x es ih=>
  by_cases hx:x.a<=t
  ·have e:em (x::es) t=em es t+1:=by simp[em,hx]
   simp only[e]at h⊢;simpa using ih (by simpa using h)
  ·have e:em (x::es) t=0:=by simp[em,hx]
   simp only[e];simpa using hx
def atL(es:List Ev)(t:Int):Ln:=fin first (es.take (em es t))
def nk(es:List Ev)(t:Int):Prop:=fw es/\0<=t/\t<=10000000
instance (es:List Ev) (t:Int):Decidable (nk es t):=by unfold nk;infer_instance
def atR(es:List Ev)(t:Int):Ln×Int:=if nk es t then(atL es t,0)else(zero,140)
def N6(l:Ln):Prop:=l.s=1\/l.s=2
instance (l:Ln):Decidable (N6 l):=by unfold N6;infer_instance
theorem dd{l:Ln}:vldB l=true↔Vld l:=decide_eq_true_iff
def IF(es:List Ev)(t:Int):Prop:=nk es t/\N6 (atL es t)
instance (es:List Ev) (t:Int):Decidable (IF es t):=by unfold IF;infer_instance
def MY(es:List Ev)(me ma t:Int):Prop:=IF es ma/\(atL es ma).e=me/\ma<=t/\t<=10000000
instance (es:List Ev) (me ma t:Int):Decidable (MY es me ma t):=by unfold MY;infer_instance
theorem PH{es:List Ev}(h:fw es)(t:Int):Vld (atL es t):=KP FJ (Cy h.1 _)
end Go.Dial.Lif
namespace Go.Proofs.YtgckmifmjiklmaaGreat
open Go Go.Sx Go.Dial.Lif
theorem GK(n:Nat)(l:Ln):lZ n l.s l.h l.e l.t=some (Go.Dial.Lif.vldB l):=by
 unfold lZ vF Go.Dial.Lif.vldB Vld;grind
theorem Ip(n:Nat)(l:Ln):nU n l.s l.h l.e l.t=some (Go.Dial.Lif.vldB l):=by
 unfold nU zu Go.Dial.Lif.vldB Vld;grind
theorem EB(n:Nat)(e:Ev):kz n e.k e.a e.h=some (sy e):=by
 unfold kz sO sy Frm ko;grind
theorem CE(n:Nat)(l:Ln)(e:Ev)(hl:Vld l)(he:Frm e):iZ n l.s l.h l.e l.t e.k e.a e.h=some (decide (Pos l e)):=by
 unfold Vld at hl;unfold Frm ko at he;by_cases hp:Pos l e<;>simp only[hp,decide_true,decide_false]<;>unfold Pos at hp<;>unfold iZ o4<;>grind
abbrev iQ(l:Ln)(e:Ev):Int×Int×Int×Int×Int:=((rM l e).1.s,(rM l e).1.h,(rM l e).1.e,(rM l e).1.t,(rM l e).2)
theorem o5(n:Nat)(l:Ln)(e:Ev):gd n l.s l.h l.e l.t e.k e.a e.h=some (iQ l e):=by
 unfold gd zX iQ;rw[GK,EB];by_cases h1:Vld l
 ·by_cases h2:Frm e
  ·rw[CE n l e h1 h2]
   by_cases h3:Pos l e
   ·rw[pR ⟨h1,h2,h3⟩]
    simp only[Go.Dial.Lif.vldB,sy,h1,h2,h3,decide_true,Option.bind_some,Bool.not_true,cond_false];unfold nxt;unfold Vld at h1;unfold Frm ko at h2;unfold Pos at h3;grind
   ·rw[iH (fun h=>h3 h.2.2)]
    simp[Go.Dial.Lif.vldB,sy,h1,h2,h3,zero]
  ·rw[iH (fun h=>h2 h.2.1)]
   simp[Go.Dial.Lif.vldB,sy,h1,h2,zero]
 ·rw[iH (fun h=>h1 h.1)]
  simp[Go.Dial.Lif.vldB,h1,zero]
theorem kinds{k:Int}(h1:1<=k)(h2:k<=7):k=1\/k=2\/k=3\/k=4\/k=5\/k=6\/k=7:=by omega
theorem P7{s:Int}(h1:0<=s)(h2:s<=3):s=0\/s=1\/s=2\/s=3:=by omega
theorem Hv(n:Nat)(e:Ev):jq n e.k e.a e.h=some (sy e):=by
 obtain⟨k,a,h⟩:=e;by_cases hk:1<=k/\k<=7
 ·unfold jq mY sy Frm ko
  rcases kinds hk.1 hk.2 with rfl|rfl|rfl|rfl|rfl|rfl|rfl<;>simp[cB,cA]<;>grind
 ·unfold jq mY sy Frm ko
  grind
theorem P4:IOp.f .and (IOp.f .shr 1 0) 1=1:=by decide +kernel
theorem Qz:IOp.f .and (IOp.f .shr 1 1) 1=0:=by decide +kernel
theorem Qv:IOp.f .and (IOp.f .shr 1 2) 1=0:=by decide +kernel
theorem Qx:IOp.f .and (IOp.f .shr 1 3) 1=0:=by decide +kernel
theorem Qh:IOp.f .and (IOp.f .shr 2 0) 1=0:=by decide +kernel
theorem P1:IOp.f .and (IOp.f .shr 2 1) 1=1:=by decide +kernel
theorem QY:IOp.f .and (IOp.f .shr 2 2) 1=0:=by decide +kernel
theorem Qw:IOp.f .and (IOp.f .shr 2 3) 1=0:=by decide +kernel
theorem Qu:IOp.f .and (IOp.f .shr 4 0) 1=0:=by decide +kernel
theorem QM:IOp.f .and (IOp.f .shr 4 1) 1=0:=by decide +kernel
theorem Qt:IOp.f .and (IOp.f .shr 4 2) 1=1:=by decide +kernel
theorem QQ:IOp.f .and (IOp.f .shr 4 3) 1=0:=by decide +kernel
theorem Qy:IOp.f .and (IOp.f .shr 6 0) 1=0:=by decide +kernel
theorem P3:IOp.f .and (IOp.f .shr 6 1) 1=1:=by decide +kernel
theorem Qk:IOp.f .and (IOp.f .shr 6 2) 1=1:=by decide +kernel
theorem QU:IOp.f .and (IOp.f .shr 6 3) 1=0:=by decide +kernel
theorem Qj:IOp.f .and (IOp.f .shr 8 0) 1=0:=by decide +kernel
theorem Qg:IOp.f .and (IOp.f .shr 8 1) 1=0:=by decide +kernel
theorem QA:IOp.f .and (IOp.f .shr 8 2) 1=0:=by decide +kernel
theorem QD:IOp.f .and (IOp.f .shr 8 3) 1=1:=by decide +kernel
theorem HC(n:Nat)(l:Ln)(e:Ev)(h1:Vld l)(h2:Frm e):sB n l.s l.h l.e l.t e.k e.a e.h=some (iQ l e):=by
 obtain⟨k,a,h⟩:=e;obtain⟨s,g,p,t⟩:=l;unfold iQ rM Go.Dial.Lif.Ok Pos;simp only[h1,h2,true_and];unfold Vld at h1;unfold Frm ko at h2;unfold nxt zero sB BG Bn;simp only at h1 h2⊢
 rcases kinds h2.1 h2.2.1 with rfl|rfl|rfl|rfl|rfl|rfl|rfl<;>rcases P7 h1.1 h1.2.1 with rfl|rfl|rfl|rfl <;>
  simp[cI,cB,cA,P4,Qz,Qv,Qx,Qh,P1,QY,Qw,Qu,QM,Qt,QQ,Qy,P3,Qk,QU,Qj,Qg,QA,QD]<;>grind
theorem J7(n:Nat)(l:Ln)(e:Ev):mC n l.s l.h l.e l.t e.k e.a e.h=some (iQ l e):=by
 unfold mC BU BT BH;rw[Ip,Hv];by_cases h1:Vld l
 ·by_cases h2:Frm e
  ·simp only[Go.Dial.Lif.vldB,sy,h1,h2,decide_true,Option.bind_some,Bool.not_true,cond_false]
   exact HC n l e h1 h2
  ·unfold iQ
   rw[iH (fun h=>h2 h.2.1)]
   simp[Go.Dial.Lif.vldB,sy,h1,h2,zero]
 ·unfold iQ
  rw[iH (fun h=>h1 h.1)]
  simp[Go.Dial.Lif.vldB,h1,zero]
abbrev lfR(e:Ev):List AV:=[.int e.k,.int e.a,.int e.h]
abbrev lfL(es:List Ev):Lv:=es.map lfR
abbrev m8(es:List Ev):Int×Int×Int×Int×Int×Int:=((nf es).1.1.s,(nf es).1.1.h,(nf es).1.1.e,(nf es).1.1.t,((nf es).1.2:Int),(nf es).2)
theorem mf{es:List Ev}{i:Nat}{e:Ev}(hA:All first (es.take i))(h40:i<=40)(he:es[i]?=some e)(hs:i=40\/¬Go.Dial.Lif.Ok (fin first (es.take i)) e):nf es=((zero,i),140):=by
 have hi:i<es.length:=(List.getElem?_eq_some_iff.1 he).1
 have e1:es.take 40=es.take i++(es.drop i).take (40-i):=by
  rw[<-List.take_append_drop i (es.take 40),List.take_take,List.drop_take];congr 2
  omega
 have e2:(bG first (es.take 40)).2=i:=by
  rw[e1,NS hA];have hl:(es.take i).length=i:=by simp;omega
  have:(bG (fin first (es.take i)) ((es.drop i).take (40-i))).2=0:=by
   rcases hs with hs|hs
   ·subst hs;simp[bG]
   ·cases hk:40-i with
    |zero=>simp[bG]
    | succ k=>
     have:es.drop i=e::es.drop (i+1):=by
      rw[List.drop_eq_getElem_cons hi];congr 1
      exact(List.getElem?_eq_some_iff.1 he).2
     rw[this,List.take_succ_cons,bG,if_neg hs]
  simp[hl,this]
 rw[A5 (fun h=>?_),e2]
 have:=life_iff.2 h
 omega
theorem FS{es:List Ev}{i:Nat}(hA:All first (es.take i))(h40:i<=40)(he:i=es.length):nf es=((fin first (es.take i),i),0):=by
 subst he;rw[List.take_length]at hA⊢
 exact j4 ⟨hA,h40⟩
theorem Kv(n:Nat)(es:List Ev)(hn:es.length<n):rO n (lfL es)=some (m8 es):=by
 unfold rO BC;refine ar (fun s=>∃(i:Nat) (l:Ln),s=((i:Int),l.s,l.h,l.e,l.t)/\i<=es.length/\i<=40/\All first (es.take i)/\l=fin first (es.take i)) (fun s=>es.length-s.1.toNat) _ ?_ n _ ⟨0,first,rfl,by omega,by omega,trivial,rfl⟩ (by simp;omega)
 rintro _ go ⟨i,l,rfl,hi,h40,hA,hl⟩ ih;simp only
 unfold Bj;have c2:(0:Int)<=(i:Int):=by omega
 have c4:(-9223372036854775808:Int)<=(i:Int)+1:=by omega
 have c5:(i:Int)+1<=(9223372036854775807:Int):=by omega
 by_cases hlt:i<es.length
 ·obtain⟨e,he⟩:=aD hlt
  have hc:∀k,cA (lfL es) (i:Int) k=(lfR e).getD k (.int 0):=fun k=>bz (by simpa using he)
  have hs:gd n l.s l.h l.e l.t (cI (lfL es) i 0) (cI (lfL es) i 1) (cI (lfL es) i 2)=some (iQ l e):=by
   simp only[cI,hc];exact o5 n l e
  have c1:(i:Int)<(es.length:Int):=by omega
  simp only[hs,List.length_map,Option.bind_some,c1,c2,c4,c5,decide_true,cond_true,Bool.and_self,iQ];by_cases hok:Go.Dial.Lif.Ok l e
  ·simp only[pR hok,decide_true,Bool.not_true,cond_false]
   by_cases h4:i=40
   ·have h4':(i:Int)=40:=by omega
    simp only[h4',decide_true,cond_true];unfold m8;rw[mf hA h40 he (.inl h4),h4];rfl
   ·have h4':¬(i:Int)=40:=by omega
    simp only[h4',decide_false,cond_false];exact ih _ ⟨i+1,nxt l e,rfl,by omega,by omega,by rw[bU he,tg];exact⟨hA,by rw[<-hl];exact⟨hok,trivial⟩⟩,by rw[bU he,AG,<-hl];rfl⟩ (by simp only;omega)
  ·have e140:decide ((140:Int)=0)=false:=rfl
   simp only[iH hok,e140,Bool.not_false,cond_true];unfold m8;rw[mf hA h40 he (.inr (by rw[<-hl];exact hok))];rfl
 ·have h0:i=es.length:=by omega
  have c1:¬(i:Int)<(es.length:Int):=by omega
  simp only[List.length_map,c1,decide_false,cond_false];unfold m8;rw[FS hA h40 h0,<-hl,h0]
theorem uB(n:Nat)(es:List Ev)(hn:es.length<n):lp n (lfL es)=some (m8 es):=by
 unfold lp DO;have c1:0<=af ((lfL es).length:Int) 40:=by unfold af;split<;>omega
 have c2:af ((lfL es).length:Int) 40<=((lfL es).length:Int):=by unfold af;split<;>omega
 have hT:List.take (af ((lfL es).length:Int) 40).toNat (lfL es)=lfL (es.take 40):=by
  unfold lfL af;rw[<-List.map_take];congr 1
  split
  ·rfl
  ·rw[List.take_of_length_le (by simp),List.take_of_length_le (by simp at *;omega)]
 simp only[c1,c2,decide_true,cond_true];refine ar (fun s=>∃(i:Nat) (l:Ln),s=((i:Int),(i:Int),l.s,l.h,l.e,l.t,l.s,l.h,l.e,l.t)/\i<=es.length/\i<=40/\All first (es.take i)/\l=fin first (es.take i)) (fun s=>es.length-s.1.toNat) _ ?_ n _ ⟨0,first,rfl,by omega,by omega,trivial,rfl⟩ (by simp;omega)
 rintro _ go ⟨i,l,rfl,hi,h40,hA,hl⟩ ih;simp only
 unfold Ek;rw[hT];have c2:(0:Int)<=(i:Int):=by omega
 have c4:(-9223372036854775808:Int)<=(i:Int)+1:=by omega
 have c5:(i:Int)+1<=(9223372036854775807:Int):=by omega
 by_cases hlt:i<es.length
 ·obtain⟨e,he⟩:=aD hlt
  have c3:(i:Int)<(es.length:Int):=by omega
  by_cases h4:i=40
  ·have c1:¬(i:Int)<((es.take 40).length:Int):=by rw[List.length_take];omega
   simp only[List.length_map,c1,decide_false,cond_false,c3,decide_true,cond_true];unfold m8;rw[mf hA h40 he (.inl h4)];rfl
  ·have hc:∀k,cA (lfL (es.take 40)) (i:Int) k=(lfR e).getD k (.int 0):=fun k=>bz (by
    rw[show(i:Int).toNat=i by simp,List.getElem?_take,if_pos (by omega)];exact he)
   have hs:mC n l.s l.h l.e l.t (cI (lfL (es.take 40)) i 0) (cI (lfL (es.take 40)) i 1) (cI (lfL (es.take 40)) i 2)=some (iQ l e):=by
    simp only[cI,hc];exact J7 n l e
   have c1:(i:Int)<((es.take 40).length:Int):=by rw[List.length_take];omega
   simp only[hs,List.length_map,c1,c2,c4,c5,decide_true,cond_true,Bool.and_self,Option.bind_some,iQ];by_cases hok:Go.Dial.Lif.Ok l e
   ·simp only[pR hok,decide_true,Bool.not_true,cond_false]
    exact ih _ ⟨i+1,nxt l e,rfl,by omega,by omega,by rw[bU he,tg];exact⟨hA,by rw[<-hl];exact⟨hok,trivial⟩⟩,by rw[bU he,AG,<-hl];rfl⟩ (by simp only;omega)
   ·have e140:decide ((140:Int)=0)=false:=rfl
    simp only[iH hok,e140,Bool.not_false,cond_true,List.length_map,c3,decide_true];unfold m8;rw[mf hA h40 he (.inr (by rw[<-hl];exact hok))];rfl
 ·have h0:i=es.length:=by omega
  have c1:¬(i:Int)<((es.take 40).length:Int):=by rw[List.length_take];omega
  have c3:¬(i:Int)<(es.length:Int):=by omega
  simp only[List.length_map,c1,c3,decide_false,cond_false];unfold m8;rw[FS hA h40 h0,<-hl]
theorem fH(n:Nat){c k:Int}(hc:ae c)(hk:0<k):bn n c k=some (pk c k):=by
 unfold bn xT pk;unfold ae at hc;grind
theorem Oc{es:List Ev}{t:Int}{i:Nat}{e:Ev}(he:es[i]?=some e)(hi:i<=em es t):(i<em es t↔e.a<=t):=by
 have hlt:=(List.getElem?_eq_some_iff.1 he);obtain⟨hl,rfl⟩:=hlt;constructor
 ·intro h;exact KS h
 ·intro h
  rcases Nat.lt_or_ge i (em es t)with h1|h1
  ·exact h1
  ·have:i=em es t:=by omega
   subst this;have:=KM hl
   omega
theorem LO(n:Nat)(es:List Ev)(t:Int)(hL:fw es)(hn:es.length<n):uY n (lfL es) t=some ((atL es t).s,(atL es t).h,(atL es t).e,(atL es t).t):=by
 unfold uY DU;refine ar (fun s=>∃(i:Nat) (l:Ln),s=((i:Int),l.s,l.h,l.e,l.t)/\i<=em es t/\l=fin first (es.take i)) (fun s=>es.length-s.1.toNat) _ ?_ n _ ⟨0,first,rfl,by omega,rfl⟩ (by simp;omega)
 rintro _ go ⟨i,l,rfl,hi,hl⟩ ih;simp only
 unfold Em;have hle:=AZ es t;have h40:=hL.2;have c2:(0:Int)<=(i:Int):=by omega
 have c4:(-9223372036854775808:Int)<=(i:Int)+1:=by omega
 have c5:(i:Int)+1<=(9223372036854775807:Int):=by omega
 by_cases hlt:i<es.length
 ·obtain⟨e,he⟩:=aD hlt
  have hc:∀k,cA (lfL es) (i:Int) k=(lfR e).getD k (.int 0):=fun k=>bz (by simpa using he)
  have h0:cI (lfL es) i 0=e.k:=by simp only[cI,hc];rfl
  have h1:cI (lfL es) i 1=e.a:=by simp only[cI,hc];rfl
  have h2:cI (lfL es) i 2=e.h:=by simp only[cI,hc];rfl
  have c1:(i:Int)<(es.length:Int):=by omega
  simp only[h0,h1,h2,o5 n l e,List.length_map,Option.bind_some,c1,c2,c4,c5,decide_true,cond_true,Bool.and_self,iQ];have hu:=Oc he hi;by_cases ht:e.a<=t
  ·have hok:Go.Dial.Lif.Ok l e:=by
    have:=(Cy hL.1 (i+1))
    rw[bU he,tg,<-hl]at this;exact this.2.1
   simp only[ht,decide_true,cond_true,pR hok];exact ih _ ⟨i+1,nxt l e,rfl,by have:=hu.2 ht;omega,by rw[bU he,AG,<-hl];rfl⟩ (by simp only;omega)
  ·simp only[ht,decide_false,cond_false]
   have:i=em es t:=by
    have:¬i<em es t:=fun h=>ht (hu.1 h)
    omega
   unfold atL;rw[<-this,<-hl]
 ·have h0:i=es.length:=by omega
  have c1:¬(i:Int)<(es.length:Int):=by omega
  simp only[List.length_map,c1,decide_false,cond_false];have:i=em es t:=by omega
  unfold atL;rw[<-this,<-hl]
theorem Dj(n:Nat)(es:List Ev)(hn:es.length<n):ph n (lfL es)=some (decide (fw es)):=by
 unfold ph DM;rw[Kv n es hn];simp only[Option.bind_some,m8];by_cases h:fw es
 ·rw[j4 h];simp[h]
 ·rw[A5 h];simp[h]
abbrev atT(es:List Ev)(t:Int):Int×Int×Int×Int×Int:=((atR es t).1.s,(atR es t).1.h,(atR es t).1.e,(atR es t).1.t,(atR es t).2)
theorem DD(n:Nat)(es:List Ev)(t:Int)(hn:es.length<n):dq n (lfL es) t=some (atT es t):=by
 unfold dq DI atT atR nk;rw[Dj n es hn];by_cases h:fw es
 ·rw[LO n es t h hn]
  simp only[h,decide_true,Option.bind_some,Bool.not_true,cond_false,true_and];unfold zero;grind
 ·simp[h,zero]
theorem RA{a b:Int}(ha:0<=a)(hb:0<=b)(h:a+b<=9223372036854775807):IntKind.wrap .i64 (ia .shr .u64 (IntKind.wrap .u64 (a+b)) 1)=(a+b) / 2:=by
 have h1:IntKind.wrap .u64 (a+b)=a+b:=by
  unfold IntKind.wrap;simp only[IntKind.bits,IntKind.signed,Bool.false_and];simp
  omega
 rw[h1];have h2:ia .shr .u64 (a+b) 1=(a+b) / 2:=by
  unfold ia;simp only[IntKind.bits];rw[Int.fdiv_eq_ediv_of_nonneg _ (by decide)]
  rfl
 rw[h2];unfold IntKind.wrap;simp only[IntKind.bits,IntKind.signed,Bool.true_and];have h3:(a+b) / 2 % 2 ^ 64=(a+b) / 2:=Int.emod_eq_of_lt (by omega) (by omega)
 simp only[h3];rw[if_neg (by simp;omega)]
end Go.Proofs.YtgckmifmjiklmaaGreat
namespace Go.Proofs.YtgckmifmjiklmaaGreat
open Go Go.Sx Go.Dial.Clm
abbrev ceR(e:Ce):List AV:=[.int e.k,.int e.a,.int e.r]
abbrev ceL(es:List Ce):Lv:=es.map ceR
abbrev csR(x:Cs):List AV:=[.int x.s,.int x.f,.int x.n]
abbrev csL(l:List Cs):Lv:=l.map csR
theorem aO(n:Nat){c k:Int}(hc:ae c)(hk:0<k):ag n c k=some (pk c k):=by
 unfold ag zO pk;unfold ae at hc;grind
theorem GG(n:Nat)(r:Rl):lV n r.a r.c r.s r.r=some (decide (RlV r)):=by
 by_cases h:RlV r<;>simp only[h,decide_true,decide_false]<;>unfold RlV at h<;>unfold lV wk<;>grind
theorem Hc(n:Nat)(c:Cl):mc n c.n c.f c.t c.h c.a c.b=some (decide (ClV c)):=by
 by_cases h:ClV c<;>simp only[h,decide_true,decide_false]<;>unfold ClV at h<;>unfold mc vV<;>grind
theorem cJ{α:Type}{l:List α}{i:Nat}{x:α}(h:l[i]?=some x):l.drop i=x::l.drop (i+1):=by
 obtain⟨hl,rfl⟩:=List.getElem?_eq_some_iff.1 h;exact List.drop_eq_getElem_cons hl
theorem m9(n:Nat)(r:Rl)(c:Cl)(es:List Ce)(hn:25<n):gW n r.a r.c r.s r.r c.n c.f c.t c.h c.a c.b (ceL es)=some (decide (cH r c es)):=by
 unfold gW we cH;rw[GG,Hc];by_cases h1:RlV r
 ·by_cases h2:ClV c
  ·by_cases h3:es.length<=20
   ·have c3:¬(20:Int)<(es.length:Int):=by omega
    simp only[h1,h2,h3,decide_true,Option.bind_some,Bool.not_true,cond_false,List.length_map,c3,decide_false,true_and];refine ar (fun s=>∃(i:Nat) (last:Int),s=(last,(i:Int))/\i<=es.length/\(EvV c.a es↔EvV last (es.drop i))) (fun s=>es.length-s.2.toNat) _ ?_ n _ ⟨0,c.a,rfl,by omega,by simp⟩ (by simp;omega)
    rintro _ go ⟨i,last,rfl,hi,hE⟩ ih;simp only
    unfold vA;by_cases hlt:i<es.length
    ·obtain⟨e,he⟩:=aD hlt
     have hc:∀k,cA (ceL es) (i:Int) k=(ceR e).getD k (.int 0):=fun k=>bz (by simpa using he)
     have g0:cI (ceL es) i 0=e.k:=by simp only[cI,hc];rfl
     have g1:cI (ceL es) i 1=e.a:=by simp only[cI,hc];rfl
     have g2:cI (ceL es) i 2=e.r:=by simp only[cI,hc];rfl
     have c1:(i:Int)<(es.length:Int):=by omega
     have c2:(0:Int)<=(i:Int):=by omega
     have c4:(-9223372036854775808:Int)<=(i:Int)+1:=by omega
     have c5:(i:Int)+1<=(9223372036854775807:Int):=by omega
     simp only[g0,g1,g2,List.length_map,c1,c2,c4,c5,decide_true,cond_true,Bool.and_self];rw[cJ he]at hE;have hgo:CeV last e->go (e.a,(i:Int)+1)=some (decide (EvV c.a es)):=fun hv=>ih _ ⟨i+1,e.a,by simp,by omega,by rw[hE];exact⟨fun h=>h.2,fun h=>⟨hv,h⟩⟩⟩ (by simp only;omega)
     by_cases hv:CeV last e
     ·rw[hgo hv]
      unfold CeV at hv;grind
     ·have:¬EvV c.a es:=fun h=>hv (hE.1 h).1
      simp only[this,decide_false];unfold CeV at hv;grind
    ·have h0:i=es.length:=by omega
     have c1:¬(i:Int)<(es.length:Int):=by omega
     simp only[List.length_map,c1,decide_false,cond_false];subst h0;rw[List.drop_length]at hE;have:EvV c.a es:=hE.2 trivial
     simp[this]
   ·have c3:(20:Int)<(es.length:Int):=by omega
    simp only[h1,h2,h3,decide_true,Option.bind_some,Bool.not_true,cond_false,List.length_map,c3,cond_true,true_and,false_and,decide_false]
  ·simp[h1,h2]
 ·simp[h1]
abbrev stT(x:Cs):Int×Int×Int:=(x.s,x.f,x.n)
theorem jg(n:Nat)(r:Rl)(hr:RlV r)(s f:Int)(h1:0<=f)(h2:f<=100000000):ct n r.a r.c r.s r.r s f=some (stT (st r s f)):=by
 unfold ct tn stT st dur;unfold RlV at hr;grind
theorem xm(n:Nat)(s:Int):jp n s=some (aft s):=by
 unfold jp xv aft;grind
theorem Ec(n:Nat)(c:Cl)(s:Int)(e:Ce):ee n c.n c.f c.t c.h c.a c.b s e.k e.a e.r=some (bec c.b s e):=by
 unfold ee r9 bec;grind
theorem jW{out:List Cs}{now:Cs}(h:out.getLast?=some now)(k:Nat):cA (csL out) ((out.length:Int)-1) k=(csR now).getD k (.int 0):=by
 refine bz ?_
 rw[List.getLast?_eq_getElem?]at h;rw[show((out.length:Int)-1).toNat=out.length-1 by omega]
 exact h
theorem JZ{out:List Cs}{now:Cs}(h:out.getLast?=some now):1<=out.length:=by
 cases out with
 |nil=>cases h
 |cons x l=>simp
structure RunI (r:Rl) (c:Cl) (es:List Ce) (u:Int) (out:List Cs) (now:Cs) (i:Nat):Prop where
 le:i<=es.length
 last:out.getLast?=some now
 form:∃s f,now=st r s f/\0<=f/\f<=40000000
 rest:db u (ao r c es)=out++db u (tl r c.b now (es.drop i))
 evs:∃l,0<=l/\EvV l (es.drop i)
theorem RunI.len{r:Rl}{c:Cl}{es:List Ce}{u:Int}{out:List Cs}{now:Cs}{i:Nat}(h:RunI r c es u out now i)(hl:es.length<=20):out.length<=110:=by
 have h1:(db u (ao r c es)).length<=(ao r c es).length:=by unfold db;exact List.Sublist.length_le (List.takeWhile_sublist _)
 have h2:=Jz (r:=r) (b:=c.b) _ (x0 r c) es (Nat.le_refl _);have h3:=eT (x0 r c).s;have h4:=congrArg List.length h.rest;unfold ao at h1 h4;simp only[List.length_cons,List.length_append]at h1 h4;omega
theorem H8{r:Rl}(hr:RlV r){s f:Int}(h0:0<=f):0<=(st r s f).n↔act (st r s f):=by
 unfold act;by_cases h:1<=s/\s<=4
 ·have:=(nb hr (f:=f) h).1
  exact⟨fun _=>h,fun _=>by omega⟩
 ·simp only[st]
  rw[if_neg h];exact⟨fun h'=>by omega,fun h'=>absurd h' h⟩
theorem Nv{u:Int}{l:List Cs}(h:∀x∈l,u<x.f):db u l=[]:=by
 cases l with
 |nil=>rfl
 |cons x l=>
  have:=h x (List.mem_cons_self ..)
  unfold db;rw[List.takeWhile_cons];simp;omega
theorem tY{u:Int}{x:Cs}{l:List Cs}(h:x.f<=u):db u (x::l)=x::db u l:=by
 unfold db;rw[List.takeWhile_cons];simp[h]
theorem RunI.auto{r:Rl}{c:Cl}{es:List Ce}{u:Int}{out:List Cs}{now:Cs}{i:Nat}(hr:RlV r)(hu:u<=40000000)(h:RunI r c es u out now i)(ha:act now)(h1:∀e,es[i]?=some e->now.n<=e.a)(h2:now.n<=u):
  RunI r c es u (out++[st r (aft now.s) now.n]) (st r (aft now.s) now.n) i:=by
 obtain⟨s,f,hf,f0,f1⟩:=h.form;have h0:0<=now.n:=by rw[hf];exact(H8 hr f0).2 (hf▸ha)
 refine⟨h.le,by simp,⟨_,_,rfl,h0,by omega⟩,?_,h.evs⟩
 rw[h.rest];have:tl r c.b now (es.drop i)=st r (aft now.s) now.n::tl r c.b (st r (aft now.s) now.n) (es.drop i):=by
  cases hd:es.drop i with
  |nil=>exact tA ha
  | cons e rest=>
   have he:es[i]?=some e:=by
    have:=congrArg (fun l=>l[0]?) hd
    simpa using this
   exact oC ⟨ha,h1 e he⟩
 rw[this,tY (by exact h2)]
 simp
theorem RunI.done{r:Rl}{c:Cl}{es:List Ce}{u:Int}{out:List Cs}{now:Cs}{i:Nat}(hr:RlV r)(h:RunI r c es u out now i)(h1:act now->u<now.n)(h2:∀e,es[i]?=some e->u<e.a):db u (ao r c es)=out:=by
 rw[h.rest];obtain⟨l,l0,hE⟩:=h.evs;have:db u (tl r c.b now (es.drop i))=[]:=by
  refine Nv fun x hx=>?_
  have:=Lu hr (b:=c.b) (now:=now) (es:=es.drop i) (m:=u+1) (fun ha=>by have:=h1 ha;omega) (fun e he=>?_) x hx
  ·omega
  ·cases hd:es.drop i with
   |nil=>rw[hd]at he;cases he
   | cons y rest=>
    have hy:es[i]?=some y:=by
     have:=congrArg (fun l=>l[0]?) hd
     simpa using this
    have h3:=h2 y hy;rw[hd]at he hE;rcases List.mem_cons.1 he with rfl|he
    ·omega
    ·have:=(tC hE.2 e he).1;omega
 rw[this];simp
theorem RunI.event{r:Rl}{c:Cl}{es:List Ce}{u:Int}{out:List Cs}{now:Cs}{i:Nat}{e:Ce}(h:RunI r c es u out now i)(he:es[i]?=some e)(h1:¬(act now/\now.n<=e.a))(hb:¬bec c.b now.s e<0)(h2:e.a<=u):
  RunI r c es u (out++[st r (bec c.b now.s e) e.a]) (st r (bec c.b now.s e) e.a) (i+1):=by
 obtain⟨l,l0,hE⟩:=h.evs;have hd:=cJ he;rw[hd]at hE;have hlt:=(List.getElem?_eq_some_iff.1 he).1;refine⟨hlt,by simp,⟨_,_,rfl,by have:=hE.1.2.2.1;omega,by have:=hE.1.2.2.2.1;omega⟩,?_,⟨e.a,by have:=hE.1.2.2.1;omega,hE.2⟩⟩
 rw[h.rest,hd,AS h1 hb,tY (by exact h2)]
 simp
theorem RunI.void{r:Rl}{c:Cl}{es:List Ce}{u:Int}{out:List Cs}{now:Cs}{i:Nat}{e:Ce}(h:RunI r c es u out now i)(he:es[i]?=some e)(h1:¬(act now/\now.n<=e.a))(hb:bec c.b now.s e<0):RunI r c es u out now (i+1):=by
 obtain⟨l,l0,hE⟩:=h.evs;have hd:=cJ he;rw[hd]at hE;have hlt:=(List.getElem?_eq_some_iff.1 he).1;refine⟨hlt,h.last,h.form,?_,⟨e.a,by have:=hE.1.2.2.1;omega,hE.2⟩⟩
 rw[h.rest,hd,oI h1 hb]
theorem Px{n:Nat}{r:Rl}{c:Cl}{es:List Ce}{u:Int}{out:List Cs}{now:Cs}{i:Nat}{go:fW->Option cg}(hr:RlV r)(hu2:u<=40000000)(hlen:es.length<=20)(hI:RunI r c es u out now i)(h0:i=es.length)(hn:rk now.s<n)(vd:Lv)(hv:True):
  ∃q:Lv×Lv,(bif decide ((i:Int)<(es.length:Int))then none else aa (fun go1 s=>sI n go go1 r.a r.c r.s r.r c.n c.f c.t c.h c.a c.b (ceL es) u vd (i:Int) s.1 s.2.1 s.2.2.2) n (csL out,now.s,now.f,now.n))=some q/\q.1=csL (db u (ao r c es)):=by
 have c7:¬(i:Int)<(es.length:Int):=by omega
 have hnone:∀e,¬es[i]?=some e:=fun e he=>by have:=(List.getElem?_eq_some_iff.1 he).1;omega
 simp only[c7,decide_false,cond_false];refine iK (fun s=>∃(out:List Cs) (now:Cs),s=(csL out,now.s,now.f,now.n)/\RunI r c es u out now i) (fun s=>rk s.2.1) (fun q:Lv×Lv=>q.1=csL (db u (ao r c es))) ?_ n _ ⟨out,now,rfl,hI⟩ hn
 rintro _ go1 ⟨out,now,rfl,hI⟩ ih1;simp only
 unfold sI;have hol:=hI.len hlen;obtain⟨s,f,hf,f0,f1⟩:=hI.form;have hact:=H8 hr (s:=s) f0;rw[<-hf]at hact;have c11:((out.length:Int)+1)*24<=140737488355328:=by omega
 have hne:(i:Int)=((ceL es).length:Int):=by simp;omega
 rw[show decide ((i:Int)=((ceL es).length:Int))=true from decide_eq_true hne]
 simp only[List.length_map,c11,decide_true];simp only[cond_true,xm,Option.bind_some];by_cases hn0:0<=now.n
 ·simp only[hn0,decide_true,cond_true]
  by_cases hnm:now.n<=u
  ·simp only[hnm,decide_true,cond_true,jg n r hr (aft now.s) now.n hn0 (by omega),Option.bind_some,stT]
   exact ih1 _ ⟨out++[st r (aft now.s) now.n],_,by simp,hI.auto hr hu2 (hact.1 hn0) (fun e' he'=>absurd he' (hnone e')) hnm⟩ (dg (hact.1 hn0))
  ·simp only[hnm,decide_false,cond_false]
   exact⟨_,rfl,by rw[hI.done hr (fun _=>by omega) (fun e' he'=>absurd he' (hnone e'))]⟩
 ·simp only[hn0,decide_false,cond_false]
  exact⟨_,rfl,by rw[hI.done hr (fun h=>absurd (hact.2 h) hn0) (fun e' he'=>absurd he' (hnone e'))]⟩
theorem BF(n:Nat)(r:Rl)(c:Cl)(es:List Ce)(u:Int)(h:cH r c es)(hn:200<n)(hu1:c.a<=u)(hu2:u<=40000000):
  ∃vd,j5 n r.a r.c r.s r.r c.n c.f c.t c.h c.a c.b (ceL es) u=some (csL (db u (ao r c es)),vd):=by
 obtain⟨hr,hcl,hlen,hE⟩:=h;have ha0:0<=c.a/\c.a<=10000000:=by unfold ClV at hcl;omega
 have main:∃q:Lv×Lv,j5 n r.a r.c r.s r.r c.n c.f c.t c.h c.a c.b (ceL es) u=some q/\q.1=csL (db u (ao r c es)):=by
  unfold j5 BM;rw[jg n r hr 1 c.a (by omega) (by omega)]
  simp only[Option.bind_some];refine iK (fun s=>∃(out:List Cs) (vd:Lv) (i:Nat) (now:Cs),s=(csL out,vd,(i:Int))/\vd.length<=i/\RunI r c es u out now i) (fun s=>es.length+1-s.2.2.toNat) (fun q:Lv×Lv=>q.1=csL (db u (ao r c es))) ?_ n _
   ⟨[x0 r c],[],0,x0 r c,rfl,by simp,by omega,rfl,⟨1,c.a,rfl,by omega,by omega⟩,by unfold ao;rw[tY (by exact hu1)];simp,⟨c.a,by omega,by simpa using hE⟩⟩ (by simp;omega)
  rintro _ go ⟨out,vd,i,now,rfl,hvd,hI⟩ ih;simp only
  unfold BR Bt;have hpos:=JZ hI.last;have hol:=hI.len hlen;have hle:=hI.le;have c1:(i:Int)<=(es.length:Int):=by omega
  have c2:(-9223372036854775808:Int)<=(out.length:Int)-1:=by omega
  have c3:(out.length:Int)-1<=(9223372036854775807:Int):=by omega
  have c4:(0:Int)<=(out.length:Int)-1:=by omega
  have c5:(out.length:Int)-1<(out.length:Int):=by omega
  have l0:cI (csL out) ((out.length:Int)-1) 0=now.s:=by simp only[cI,jW hI.last];rfl
  have l1:cI (csL out) ((out.length:Int)-1) 1=now.f:=by simp only[cI,jW hI.last];rfl
  have l2:cI (csL out) ((out.length:Int)-1) 2=now.n:=by simp only[cI,jW hI.last];rfl
  have c6:(0:Int)<=(i:Int):=by omega
  have c8:(-9223372036854775808:Int)<=(i:Int)+1:=by omega
  have c9:(i:Int)+1<=(9223372036854775807:Int):=by omega
  have c10:((vd.length:Int)+1)*8<=140737488355328:=by omega
  simp only[List.length_map,c1,c2,c3,c4,c5,c6,l0,l1,l2,decide_true,cond_true,Bool.and_self];have stat:∀(out:List Cs) (now:Cs),RunI r c es u out now i->∃s f,now=st r s f/\0<=f/\f<=40000000:=fun _ _ h=>h.form
  by_cases hlt:i<es.length
  ·as_aux_lemma=>
   have c7:(i:Int)<(es.length:Int):=by omega
   obtain⟨e,he⟩:=aD hlt;have hc:∀k,cA (ceL es) (i:Int) k=(ceR e).getD k (.int 0):=fun k=>bz (by simpa using he)
   have g0:cI (ceL es) i 0=e.k:=by simp only[cI,hc];rfl
   have g1:cI (ceL es) i 1=e.a:=by simp only[cI,hc];rfl
   have g2:cI (ceL es) i 2=e.r:=by simp only[cI,hc];rfl
   simp only[c7,decide_true,cond_true];refine iK (fun s=>∃(out:List Cs) (now:Cs),s=(csL out,now.s,now.f,now.n)/\RunI r c es u out now i) (fun s=>rk s.2.1) (fun q:Lv×Lv=>q.1=csL (db u (ao r c es))) ?_ n _ ⟨out,now,rfl,hI⟩ (by have:=eT now.s;simp only;omega)
   rintro _ go1 ⟨out,now,rfl,hI⟩ ih1;simp only
   unfold Br;have hol:=hI.len hlen;obtain⟨s,f,hf,f0,f1⟩:=hI.form;have hact:=H8 hr (s:=s) f0;rw[<-hf]at hact;have e0:0<=e.a/\e.a<=20000000:=by
    obtain⟨l,l0,hE'⟩:=hI.evs;rw[cJ he]at hE';have:=hE'.1.2.2
    omega
   have c11:((out.length:Int)+1)*24<=140737488355328:=by omega
   have hne:¬(i:Int)=(es.length:Int):=by omega
   simp only[g0,g1,g2,List.length_map,c8,c9,c10,c11,hne,decide_true,decide_false,cond_true,cond_false,Bool.and_self,xm,Ec,Option.bind_some];have tail:¬(act now/\now.n<=af e.a u)->∃q:Lv×Lv,(bif decide (u<e.a)then some (csL out,vd)else bif decide (bec c.b now.s e<0)then go (csL out,vd++[[AV.int (i:Int)]],(i:Int)+1)else
     (ct n r.a r.c r.s r.r (bec c.b now.s e) e.a).bind fun y23=>go (csL out++[[AV.int y23.1,AV.int y23.2.1,AV.int y23.2.2]],vd,(i:Int)+1))=some q/\q.1=csL (db u (ao r c es)):=fun hna=>by
    by_cases hue:u<e.a
    ·simp only[hue,decide_true,cond_true]
     refine⟨_,rfl,?_⟩
     have hm:af e.a u=u:=by unfold af;rw[if_pos hue]
     rw[hm]at hna;rw[hI.done hr (fun ha=>by have:¬now.n<=u:=fun h=>hna ⟨ha,h⟩;omega) (fun e' he'=>by rw[he]at he';cases he';exact hue)]
    ·have hm:af e.a u=e.a:=by unfold af;rw[if_neg hue]
     rw[hm]at hna;simp only[hue,decide_false,cond_false];by_cases hb:bec c.b now.s e<0
     ·simp only[hb,decide_true,cond_true]
      exact ih _ ⟨out,vd++[[AV.int (i:Int)]],i+1,now,by simp,by simp;omega,hI.void he hna hb⟩ (by simp only;omega)
     ·simp only[hb,decide_false,cond_false,jg n r hr (bec c.b now.s e) e.a e0.1 (by omega),Option.bind_some,stT]
      exact ih _ ⟨out++[st r (bec c.b now.s e) e.a],vd,i+1,_,by simp,by omega,hI.event he hna hb (by omega)⟩ (by simp only;omega)
   by_cases hn0:0<=now.n
   ·simp only[hn0,decide_true,cond_true]
    by_cases hnm:now.n<=af e.a u
    ·have hle:now.n<=e.a/\now.n<=u:=by unfold af at hnm;split at hnm<;>omega
     simp only[hnm,decide_true,cond_true,jg n r hr (aft now.s) now.n hn0 (by omega),Option.bind_some,stT]
     exact ih1 _ ⟨out++[st r (aft now.s) now.n],_,by simp,hI.auto hr hu2 (hact.1 hn0) (fun e' he'=>by rw[he]at he';cases he';exact hle.1) hle.2⟩ (dg (hact.1 hn0))
    ·simp only[hnm,decide_false,cond_false]
     exact tail fun h=>hnm h.2
   ·simp only[hn0,decide_false,cond_false]
    exact tail fun h=>hn0 (hact.2 h.1)
  ·have c7:¬(i:Int)<(es.length:Int):=by omega
   have:=Px (n:=n) (go:=go) hr hu2 hlen hI (by omega) (by have:=eT now.s;omega) vd trivial
   simp only[c7,decide_false,cond_false]at this⊢;exact this
 obtain⟨⟨q1,q2⟩,h1,h2⟩:=main;exact⟨q2,by rw[h1];simp only at h2;rw[h2]⟩
theorem Dy(n:Nat)(r:Rl)(c:Cl)(es:List Ce)(t:Int)(hn:200<n):jJ n r.a r.c r.s r.r c.n c.f c.t c.h c.a c.b (ceL es) t=some ((EF r c es t).1.s,(EF r c es t).1.f,(EF r c es t).1.n,(EF r c es t).2):=by
 unfold jJ qo EF CZ;rw[m9 n r c es (by omega)]
 by_cases hv:cH r c es
 ·simp only[hv,decide_true,Option.bind_some,Bool.not_true,cond_false,true_and]
  by_cases h0:0<=t
  ·by_cases h1:t<=20000000
   ·by_cases h2:t<c.a
    ·simp only[h0,h1,h2,decide_true,Bool.not_true,cond_false,cond_true,and_self,if_true]
     have:db t (ao r c es)=[]:=by
      unfold ao db;rw[List.takeWhile_cons];simp[x0,st];omega
     unfold Ag;rw[this];rfl
    ·obtain⟨vd,hrun⟩:=BF n r c es t hv hn (by omega) (by omega)
     simp only[h0,h1,h2,hrun,decide_true,decide_false,Bool.not_true,cond_false,cond_true,and_self,if_true,Option.bind_some];unfold Ag;obtain⟨out,hout⟩:∃out,out=db t (ao r c es):=⟨_,rfl⟩
     rw[<-hout];have hne:out≠[]:=by
      rw[hout];unfold ao;rw[tY (by simp[x0,st];omega)]
      simp
     obtain⟨now,hl⟩:∃now,out.getLast?=some now:=⟨_,List.getLast?_eq_some_getLast hne⟩
     have hpos:=JZ hl;have hlen:out.length<=110:=by
      have k1:(db t (ao r c es)).length<=(ao r c es).length:=by unfold db;exact List.Sublist.length_le (List.takeWhile_sublist _)
      have k2:=Jz (r:=r) (b:=c.b) _ (x0 r c) es (Nat.le_refl _);have k3:=eT (x0 r c).s;have k4:=hv.2.2.1;rw[<-hout]at k1;unfold ao at k1;simp only[List.length_cons]at k1;omega
     have c2:(-9223372036854775808:Int)<=(out.length:Int)-1:=by omega
     have c3:(out.length:Int)-1<=(9223372036854775807:Int):=by omega
     have c4:(0:Int)<=(out.length:Int)-1:=by omega
     have c5:(out.length:Int)-1<(out.length:Int):=by omega
     have l0:cI (csL out) ((out.length:Int)-1) 0=now.s:=by simp only[cI,jW hl];rfl
     have l1:cI (csL out) ((out.length:Int)-1) 1=now.f:=by simp only[cI,jW hl];rfl
     have l2:cI (csL out) ((out.length:Int)-1) 2=now.n:=by simp only[cI,jW hl];rfl
     simp only[List.length_map,c2,c3,c4,c5,l0,l1,l2,decide_true,Bool.and_self];simp only[cond_true,hl,Option.getD_some]
   ·have:¬(0<=t/\t<=20000000):=fun h=>h1 h.2
    simp[h0,h1]
  ·simp[h0]
 ·simp[hv]
theorem nh{α:Type}{p:α->Bool}:∀ {l:List α},(∀x∈l,p x=true)->l.takeWhile p=l
 |[],_=>rfl
 |x::l,h=>by
  rw[List.takeWhile_cons,h x (List.mem_cons_self ..),if_pos rfl,nh fun y hy=>h y (List.mem_cons_of_mem _ hy)]
theorem OU{r:Rl}{c:Cl}{es:List Ce}(h:cH r c es){u:Int}(hu:23000000<=u):db u (ao r c es)=ao r c es:=by
 obtain⟨hr,hc,hl,hE⟩:=h;unfold ClV at hc;unfold db;refine nh fun x hx=>?_
 unfold ao at hx;have h0:(x0 r c).f=c.a:=rfl
 rcases List.mem_cons.1 hx with rfl|hx
 ·simp;omega
 ·have:=Pi hr (b:=c.b) (now:=x0 r c) (es:=es) (by rw[h0];have:=eT (x0 r c).s;omega) (fun _=>(nb hr (s:=1) (f:=c.a) (by omega)).2) (fun e he=>(tC hE e he).2) x hx
  simp;omega
theorem CL(n:Nat)(r:Rl)(c:Cl)(es:List Ce)(hn:200<n):iT n r.a r.c r.s r.r c.n c.f c.t c.h c.a c.b (ceL es)=some (if cH r c es then(csL (ao r c es),0)else([],160)):=by
 unfold iT py;rw[m9 n r c es (by omega)]
 by_cases hv:cH r c es
 ·have hc:=hv.2.1
  unfold ClV at hc;obtain⟨vd,hrun⟩:=BF n r c es 40000000 hv hn (by omega) (by omega)
  simp only[hv,hrun,decide_true,Option.bind_some,Bool.not_true,cond_false,if_true,OU hv (show(23000000:Int)<=40000000 by decide)]
 ·simp[hv]
def mr(v:Int):Int:=if pk (Int.tdiv v 16) 4=3 then 1+pk v 86400 else 1+pk v 12
theorem sm(v:Int):1<=mr v/\mr v<=86400:=by
 have h1:=aY v (k:=86400) (by decide)
 have h2:=aY v (k:=12) (by decide)
 unfold mr;split<;>omega
theorem xz{v:Int}(h:ae v):ae (Int.tdiv v 16):=by
 unfold ae at h⊢
 rcases Int.le_total 0 v with h0|h0
 ·rw[Int.tdiv_eq_ediv_of_nonneg h0];omega
 ·obtain⟨w,rfl⟩:∃w,v= -w:=⟨-v,by omega⟩
  rw[Int.neg_tdiv,Int.tdiv_eq_ediv_of_nonneg (by omega)];omega
theorem ny(n:Nat)(a b c d:Int)(ha:ae a)(hb:ae b)(hc:ae c)(hd:ae d):dZ n a b c d=some (mr a,mr b,mr c,mr d):=by
 have key:∀v,(0<=pk v 12/\pk v 12<12)/\0<=pk v 86400/\pk v 86400<86400:=fun v=>⟨aY v (by decide),aY v (by decide)⟩
 have ta:=xz ha;have tb:=xz hb;have tc:=xz hc;have td:=xz hd;unfold dZ nr nw mr;have p4:(0:Int)<4:=by decide
 have p12:(0:Int)<12:=by decide
 have pd:(0:Int)<86400:=by decide
 simp only[aO n ha p12,aO n hb p12,aO n hc p12,aO n hd p12,aO n ha pd,aO n hb pd,aO n hc pd,aO n hd pd,
  aO n ta p4,aO n tb p4,aO n tc p4,aO n td p4,Option.bind_some]
 have ka:=key a;have kb:=key b;have kc:=key c;have kd:=key d;unfold ae at ta tb tc td;generalize pk (Int.tdiv a 16) 4=x1
 generalize pk (Int.tdiv b 16) 4=x2
 generalize pk (Int.tdiv c 16) 4=x3
 generalize pk (Int.tdiv d 16) 4=x4
 generalize Int.tdiv a 16=y1 at *
 generalize Int.tdiv b 16=y2 at *
 generalize Int.tdiv c 16=y3 at *
 generalize Int.tdiv d 16=y4 at *
 generalize pk a 12=a1 at *
 generalize pk b 12=b1 at *
 generalize pk c 12=c1 at *
 generalize pk d 12=d1 at *
 generalize pk a 86400=a2 at *
 generalize pk b 86400=b2 at *
 generalize pk c 86400=c2 at *
 generalize pk d 86400=d2 at *
 have r1:∀z:Int,0<=z->z<86400->(decide ((-9223372036854775808:Int)<=1+z)&&decide (1+z<=9223372036854775807))=true:=fun z h1 h2=>by simp;omega
 simp only[r1 a1 ka.1.1 (by omega),r1 b1 kb.1.1 (by omega),r1 c1 kc.1.1 (by omega),r1 d1 kd.1.1 (by omega),r1 a2 ka.2.1 (by omega),r1 b2 kb.2.1 (by omega),r1 c2 kc.2.1 (by omega),r1 d2 kd.2.1 (by omega),ta,tb,tc,td,decide_true,Bool.and_self]
 simp only[cond_true];by_cases h1:x1=3<;>by_cases h2:x2=3<;>by_cases h3:x3=3<;>by_cases h4:x4=3<;>simp only[h1,h2,h3,h4,decide_true,decide_false,if_true,if_false]<;>rfl
end Go.Proofs.YtgckmifmjiklmaaGreat
namespace Go.Proofs.YtgckmifmjiklmaaGreat
open Go Go.Sx Go.Dial.Lif
theorem Kr{es:List Ev}(h:All first es){t:Int}{i:Nat}{e:Ev}(he:es[i]?=some e):i<em es t↔e.a<=t:=by
 obtain⟨hl,rfl⟩:=List.getElem?_eq_some_iff.1 he;constructor
 ·intro h;exact KS h
 ·intro ht
  rcases Nat.lt_or_ge i (em es t)with h1|h1
  ·exact h1
  ·have h2:=KM (es:=es) (t:=t) (by omega)
   have h3:=LB h h1 hl;omega
theorem No(n:Nat)(es:List Ev)(t:Int)(hn:es.length<n):A6 n (lfL es) t=some (if nk es t then((atL es t).s,(atL es t).h,(atL es t).e,(atL es t).t,true)else(0,0,0,0,false)):=by
 unfold A6 Gf;rw[uB n es hn];simp only[Option.bind_some,m8];by_cases hL:fw es
 ·by_cases ht:0<=t/\t<=10000000
  ·have hA:nk es t:=⟨hL,ht⟩
   simp only[j4 hL,hA,ht.1,ht.2,decide_true,Bool.not_true,cond_false,cond_true,if_true];have hle:=AZ es t;have h40:=hL.2;refine ar (fun s=>∃i j:Nat,s=((i:Int),(j:Int))/\i<=em es t/\em es t<=j/\j<=es.length) (fun s=>(s.2-s.1).toNat) _ ?_ n _ ⟨0,es.length,by simp,by omega,by omega,by omega⟩ (by simp;omega)
   rintro _ go ⟨i,j,rfl,h1,h2,h3⟩ ih;simp only
   unfold Ge;by_cases hij:i<j
   ·have c1:(i:Int)<(j:Int):=by omega
    have c2:(-9223372036854775808:Int)<=(i:Int)+j:=by omega
    have c3:(i:Int)+j<=(9223372036854775807:Int):=by omega
    obtain⟨k,hk⟩:∃k,k=(i+j) / 2:=⟨_,rfl⟩
    have hh:IntKind.wrap .i64 (ia .shr .u64 (IntKind.wrap .u64 ((i:Int)+j)) 1)=(k:Int):=by
     rw[RA (by omega) (by omega) (by omega)];omega
    have c4:(0:Int)<=(k:Int):=by omega
    have c5:(k:Int)<(es.length:Int):=by omega
    have c6:(-9223372036854775808:Int)<=(k:Int)+1:=by omega
    have c7:(k:Int)+1<=(9223372036854775807:Int):=by omega
    have c8:(0:Int)<=1:=by omega
    obtain⟨e,he⟩:=aD (show k<es.length by omega)
    have hc:cI (lfL es) k 1=e.a:=by simp only[cI];rw[bz (by simpa using he)];rfl
    have hu:=Kr hL.1 (t:=t) he;simp only[c1,c2,c3,hh,c4,c5,c6,c7,c8,hc,List.length_map,decide_true,cond_true,Bool.and_self];by_cases hlt:t<e.a
    ·simp only[hlt,decide_true,Bool.not_true,cond_false]
     refine ih _ ⟨i,k,rfl,h1,?_,by omega⟩ (by simp only;omega)
     have:¬k<em es t:=fun h=>by have:=hu.1 h;omega
     omega
    ·simp only[hlt,decide_false,Bool.not_false,cond_true]
     refine ih _ ⟨k+1,j,rfl,?_,h2,h3⟩ (by simp only;omega)
     have:=hu.2 (by omega)
     omega
   ·have c1:¬(i:Int)<(j:Int):=by omega
    have c2:(0:Int)<=(i:Int):=by omega
    have c3:(i:Int)<=(es.length:Int):=by omega
    have hi:i=em es t:=by omega
    have hT:List.take (i:Int).toNat (lfL es)=lfL (es.take i):=by
     rw[<-List.map_take];rfl
    simp only[c1,c2,c3,List.length_map,decide_true,decide_false,cond_true,cond_false,hT];rw[uB n (es.take i) (by simp;omega)]
    simp only[Option.bind_some,m8,j4 (Nx hL i)];unfold atL;rw[<-hi]
  ·have hA:¬nk es t:=fun h=>ht h.2
   simp only[j4 hL,hA,decide_true,Bool.not_true,cond_false,if_false];grind
 ·have hA:¬nk es t:=fun h=>hL h.1
  simp[A5 hL,hA]
theorem M4(n:Nat)(es:List Ev)(t:Int)(hn:es.length<n):oE n (lfL es) t=some (atT es t):=by
 unfold oE FI;rw[No n es t hn];unfold atT atR;by_cases h:nk es t<;>simp[h,zero]
theorem GO(n:Nat)(l:Ln)(x:Int×Int×Int)(hl:Vld l)(h1:ae x.1)(h2:ae x.2.1)(h3:ae x.2.2):∃e:Ev,jt n l.s l.h l.e l.t x.1 x.2.1 x.2.2=some (e.k,e.a,e.h):=by
 obtain⟨s,g,p,t⟩:=l;obtain⟨x,y,z⟩:=x;unfold Vld at hl;simp only at hl h1 h2 h3⊢
 have q5:=aY x (k:=5) (by decide)
 have q3:=aY x (k:=3) (by decide)
 have q2:=aY x (k:=2) (by decide)
 have q1:=aY x (k:=1) (by decide)
 have r6:=aY y (k:=6) (by decide)
 have w5:=aY z (k:=5) (by decide)
 have key:∃w:Int×Int×Int,jt n s g p t x y z=some w:=by
  unfold jt wV vC;simp only[fH n h1 (show(0:Int)<5 by decide),fH n h1 (show(0:Int)<3 by decide),fH n h1 (show(0:Int)<2 by decide),fH n h1 (show(0:Int)<1 by decide),
   fH n h2 (show(0:Int)<6 by decide),fH n h3 (show(0:Int)<5 by decide),Option.bind_some]
  generalize pk x 5=a5 at *
  generalize pk x 3=a3 at *
  generalize pk x 2=a2 at *
  generalize pk x 1=a1 at *
  generalize pk y 6=b at *
  generalize pk z 5=c at *
  have n1:(-9223372036854775808:Int)<=b+2592000:=by omega
  have n2:b+2592000<=(9223372036854775807:Int):=by omega
  have n3:(-9223372036854775808:Int)<=t+(b+2592000):=by omega
  have n4:t+(b+2592000)<=(9223372036854775807:Int):=by omega
  have n5:(-9223372036854775808:Int)<=t+b:=by omega
  have n6:t+b<=(9223372036854775807:Int):=by omega
  have n7:(-9223372036854775808:Int)<=c+1:=by omega
  have n8:c+1<=(9223372036854775807:Int):=by omega
  simp only[q5,q3,q2,q1,n1,n2,n3,n4,n5,n6,n7,n8,decide_true,Bool.and_self,cond_true];cases decide (s=1)<;>cases decide (s=2)<;>cases decide (s=3)<;>simp only[cond_true,cond_false]<;>(repeat' (split<;>try exact⟨_,rfl⟩))<;>first|exact⟨_,rfl⟩|(simp only[Bool.cond_eq_ite];repeat' (split<;>try exact⟨_,rfl⟩))
 obtain⟨w,hw⟩:=key;exact⟨⟨w.1,w.2.1,w.2.2⟩,hw⟩
theorem Jk(n:Nat)(xs:List (Int×Int×Int))(hx:∀x∈xs,ae x.1/\ae x.2.1/\ae x.2.2)(hn:16<n):∃es,kq n (xs.map bE)=some (lfL es)/\All first es/\es.length<=16:=by
 have main:∃r,kq n (xs.map bE)=some r/\∃es,r=lfL es/\All first es/\es.length<=16:=by
  unfold kq yU;refine iK (fun s=>∃(i:Nat) (es:List Ev) (l:Ln),s=(lfL es,(i:Int),l.s,l.h,l.e,l.t)/\All first es/\es.length<=i/\i<=16/\l=fin first es) (fun s=>16-s.2.1.toNat) (fun r=>∃es,r=lfL es/\All first es/\es.length<=16) ?_ n _ ⟨0,[],first,rfl,trivial,by simp,by omega,rfl⟩ (by simp;omega)
  rintro _ go ⟨i,es,l,rfl,hA,hle,hi,hl⟩ ih;simp only
  unfold yD;have done:∃r,some (lfL es)=some r/\∃es,r=lfL es/\All first es/\es.length<=16:=⟨_,rfl,es,rfl,hA,by omega⟩
  by_cases h1:i<xs.length
  ·by_cases h2:i<16
   ·obtain⟨x,hxe⟩:=aD h1
    have hc:∀k,cA (xs.map bE) (i:Int) k=(bE x).getD k (.int 0):=fun k=>bz (by simpa using hxe)
    have g0:cI (xs.map bE) i 0=x.1:=by simp only[cI,hc];rfl
    have g1:cI (xs.map bE) i 1=x.2.1:=by simp only[cI,hc];rfl
    have g2:cI (xs.map bE) i 2=x.2.2:=by simp only[cI,hc];rfl
    obtain⟨b1,b2,b3⟩:=hx x (List.mem_of_getElem? hxe);have hv:Vld l:=by rw[hl];exact KP FJ hA
    obtain⟨e,he⟩:=GO n l x hv b1 b2 b3;have c1:(i:Int)<(xs.length:Int):=by omega
    have c2:(i:Int)<16:=by omega
    have c3:(0:Int)<=(i:Int):=by omega
    have c4:(-9223372036854775808:Int)<=(i:Int)+1:=by omega
    have c5:(i:Int)+1<=(9223372036854775807:Int):=by omega
    have c6:((es.length:Int)+1)*24<=140737488355328:=by omega
    simp only[g0,g1,g2,he,o5 n l e,List.length_map,c1,c2,c3,c4,c5,c6,decide_true,cond_true,Bool.and_self,Option.bind_some,iQ];by_cases hok:Go.Dial.Lif.Ok l e
    ·simp only[pR hok,decide_true,cond_true]
     exact ih _ ⟨i+1,es++[e],nxt l e,by simp,by rw[tg];exact⟨hA,by rw[<-hl];exact⟨hok,trivial⟩⟩,by simp;omega,by omega,by rw[AG,<-hl];rfl⟩ (by simp only;omega)
    ·have e140:decide ((140:Int)=0)=false:=rfl
     simp only[iH hok,e140,cond_false];exact ih _ ⟨i+1,es,l,by simp,hA,by omega,by omega,hl⟩ (by simp only;omega)
   ·have c1:(i:Int)<(xs.length:Int):=by omega
    have c2:¬(i:Int)<16:=by omega
    simp only[List.length_map,c1,c2,decide_true,decide_false,cond_true,cond_false];exact done
  ·have c1:¬(i:Int)<(xs.length:Int):=by omega
   simp only[List.length_map,c1,decide_false,cond_false];exact done
 obtain⟨r,h1,es,rfl,h2,h3⟩:=main;exact⟨es,h1,h2,h3⟩
end Go.Proofs.YtgckmifmjiklmaaGreat
