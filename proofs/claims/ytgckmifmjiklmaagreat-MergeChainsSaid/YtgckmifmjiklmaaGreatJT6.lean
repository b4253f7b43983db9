/-
  Texts of this claim, joined (part 6).
-/
import Derived.Test.YtgckmifmjiklmaaGreatJT5
import Derived.Lib.Hide
set_option linter.unusedVariables false
set_option linter.unusedSimpArgs false
set_option linter.unusedSectionVars false
set_option linter.constructorNameAsVariable false
set_option maxRecDepth 100000
namespace Go.Proofs.YtgckmifmjiklmaaGreat
open Go Go.Sx
noncomputable section
def HD:List Nat:=[11,12,13,14,15,16,17,18,19,20,21,22,23,24,25,26,27,28,29,30,32,33,34,35,36,37,38,39,40,41,42,43,44,45,46,47,48,49,50,51,52,54,55,56,57,58,59,61,62,63,64,66,67,69,80,83,87,90,91,92,95,96,99,100,101,105,107,108,109,110,111,112,115,116,121,122,127,128,136,138,139,149,150,151,153,154,156,158,161,163,164,165,166,172,173,174,175,176,183,185,186,187,188,189,190,196,197,198,201,204,205,207,210,216,222,223,226,229,1000012,1000056,1000083,1000197,1000216,1000229]
def GP:List (Nat×SV×SV):=[(141,SV.of [.agg (SV.of [.vi (.int 1),.vi (.int 1)]),.agg (SV.of [.vi (.int 2),.vi (.int 1)]),.agg (SV.of [.vi (.int 3),.vi (.int 2)]),.agg (SV.of [.vi (.int 4),.vi (.int 2)]),.agg (SV.of [.vi (.int 5),.vi (.int 1)]),.agg (SV.of [.vi (.int 5),.vi (.int 2)]),.agg (SV.of [.vi (.int 5),.vi (.int 3)]),.agg (SV.of [.vi (.int 6),.vi (.int 4)])],SV.of [.vi (.int 3),.vi (.int 2),.vi (.int 3),.vi (.int 6),.vi (.int 7),.vi (.int 7),.vi (.int 7),.vi (.int 8)])]
abbrev ao:=Int×Int×Int×Int
abbrev bp:=Int×Lv×Int×Int×Int×Int×Int×Int
abbrev bj:=Int×Int×Int×Int×Int×Int
def AL(n:Nat) (go0:bp->Option ao) (go1:bj->Option ao) (v9:Bool) (v10:Lv) (v11 v13:Int) (v14:Lv) (v21 v22 v23 v24 v25 v26:Int):Option ao:=
 (bif((decide ((cI v10 v13 0)=5))&&(decide (v24=2)))then(bif(decide ((cI v10 v13 2)=1))then(bif(v9==true)then bif(decide ((((v14.length:Int)+1)*8)<=140737488355328))then bif((decide ((-9223372036854775808)<=(v13+1)))&&(decide ((v13+1)<=9223372036854775807)))then go0 ((v13+1),(v14++[[(AV.int v13)]]),v21,v22,v23,v24,v25,v26)else none else none
 else(bif(decide (v11<(cI v10 v13 1)))then some (v21,v22,v23,0)
 else bif((decide ((-9223372036854775808)<=(v13+1)))&&(decide ((v13+1)<=9223372036854775807)))then go0 ((v13+1),v14,7,(cI v10 v13 1),(-1),7,(cI v10 v13 1),(-1))else none))
 else(bif(decide (v11<(cI v10 v13 1)))then some (v21,v22,v23,0)
 else bif((decide ((-9223372036854775808)<=(v13+1)))&&(decide ((v13+1)<=9223372036854775807)))then go0 ((v13+1),v14,7,(cI v10 v13 1),(-1),7,(cI v10 v13 1),(-1))else none))
 else(bif((decide ((cI v10 v13 0)=5))&&(decide (v24=3)))then(bif(decide ((cI v10 v13 2)=1))then(bif(v9==true)then bif(decide ((((v14.length:Int)+1)*8)<=140737488355328))then bif((decide ((-9223372036854775808)<=(v13+1)))&&(decide ((v13+1)<=9223372036854775807)))then go0 ((v13+1),(v14++[[(AV.int v13)]]),v21,v22,v23,v24,v25,v26)else none else none
 else(bif(decide (v11<(cI v10 v13 1)))then some (v21,v22,v23,0)
 else bif((decide ((-9223372036854775808)<=(v13+1)))&&(decide ((v13+1)<=9223372036854775807)))then go0 ((v13+1),v14,7,(cI v10 v13 1),(-1),7,(cI v10 v13 1),(-1))else none))
 else(bif(decide (v11<(cI v10 v13 1)))then some (v21,v22,v23,0)
 else bif((decide ((-9223372036854775808)<=(v13+1)))&&(decide ((v13+1)<=9223372036854775807)))then go0 ((v13+1),v14,7,(cI v10 v13 1),(-1),7,(cI v10 v13 1),(-1))else none))
 else(bif((decide ((cI v10 v13 0)=6))&&(decide (v24=4)))then(bif(decide ((cI v10 v13 2)=1))then(bif(v9==true)then bif(decide ((((v14.length:Int)+1)*8)<=140737488355328))then bif((decide ((-9223372036854775808)<=(v13+1)))&&(decide ((v13+1)<=9223372036854775807)))then go0 ((v13+1),(v14++[[(AV.int v13)]]),v21,v22,v23,v24,v25,v26)else none else none
 else(bif(decide (v11<(cI v10 v13 1)))then some (v21,v22,v23,0)
 else bif((decide ((-9223372036854775808)<=(v13+1)))&&(decide ((v13+1)<=9223372036854775807)))then go0 ((v13+1),v14,8,(cI v10 v13 1),(-1),8,(cI v10 v13 1),(-1))else none))
 else(bif(decide (v11<(cI v10 v13 1)))then some (v21,v22,v23,0)
 else bif((decide ((-9223372036854775808)<=(v13+1)))&&(decide ((v13+1)<=9223372036854775807)))then go0 ((v13+1),v14,8,(cI v10 v13 1),(-1),8,(cI v10 v13 1),(-1))else none))
 else(bif(decide ((cI v10 v13 2)=1))then(bif(decide ((cI v10 v13 0)=2))then bif(decide ((((v14.length:Int)+1)*8)<=140737488355328))then bif((decide ((-9223372036854775808)<=(v13+1)))&&(decide ((v13+1)<=9223372036854775807)))then go0 ((v13+1),(v14++[[(AV.int v13)]]),v21,v22,v23,v24,v25,v26)else none else none
 else bif(decide ((((v14.length:Int)+1)*8)<=140737488355328))then bif((decide ((-9223372036854775808)<=(v13+1)))&&(decide ((v13+1)<=9223372036854775807)))then go0 ((v13+1),(v14++[[(AV.int v13)]]),v21,v22,v23,v24,v25,v26)else none else none)
 else bif(decide ((((v14.length:Int)+1)*8)<=140737488355328))then bif((decide ((-9223372036854775808)<=(v13+1)))&&(decide ((v13+1)<=9223372036854775807)))then go0 ((v13+1),(v14++[[(AV.int v13)]]),v21,v22,v23,v24,v25,v26)else none else none))))
def AU(n:Nat) (go0:bp->Option ao) (go1:bj->Option ao) (v9:Bool) (v10:Lv) (v11 v13:Int) (v14:Lv) (v21 v22 v23 v24 v25 v26:Int):Option ao:=
 (bif((decide ((cI v10 v13 0)=5))&&(decide (v24=1)))then(bif(decide ((cI v10 v13 2)=1))then(bif(v9==true)then bif(decide ((((v14.length:Int)+1)*8)<=140737488355328))then bif((decide ((-9223372036854775808)<=(v13+1)))&&(decide ((v13+1)<=9223372036854775807)))then go0 ((v13+1),(v14++[[(AV.int v13)]]),v21,v22,v23,v24,v25,v26)else none else none
 else(bif(decide (v11<(cI v10 v13 1)))then some (v21,v22,v23,0)
 else bif((decide ((-9223372036854775808)<=(v13+1)))&&(decide ((v13+1)<=9223372036854775807)))then go0 ((v13+1),v14,7,(cI v10 v13 1),(-1),7,(cI v10 v13 1),(-1))else none))
 else(bif(decide (v11<(cI v10 v13 1)))then some (v21,v22,v23,0)
 else bif((decide ((-9223372036854775808)<=(v13+1)))&&(decide ((v13+1)<=9223372036854775807)))then go0 ((v13+1),v14,7,(cI v10 v13 1),(-1),7,(cI v10 v13 1),(-1))else none))
 else AL n go0 go1 v9 v10 v11 v13 v14 v21 v22 v23 v24 v25 v26)
def AQ(n:Nat) (go0:bp->Option ao) (go1:bj->Option ao) (v9:Bool) (v10:Lv) (v11 v13:Int) (v14:Lv) (v21 v22 v23 v24 v25 v26:Int):Option ao:=
 (bif((decide ((cI v10 v13 0)=4))&&(decide (v24=2)))then(bif(decide ((cI v10 v13 2)=1))then(bif(v9==true)then bif(decide ((((v14.length:Int)+1)*8)<=140737488355328))then bif((decide ((-9223372036854775808)<=(v13+1)))&&(decide ((v13+1)<=9223372036854775807)))then go0 ((v13+1),(v14++[[(AV.int v13)]]),v21,v22,v23,v24,v25,v26)else none else none
 else(bif(decide (v11<(cI v10 v13 1)))then some (v21,v22,v23,0)
 else bif((decide ((-9223372036854775808)<=(v13+1)))&&(decide ((v13+1)<=9223372036854775807)))then go0 ((v13+1),v14,6,(cI v10 v13 1),(-1),6,(cI v10 v13 1),(-1))else none))
 else(bif(decide (v11<(cI v10 v13 1)))then some (v21,v22,v23,0)
 else bif((decide ((-9223372036854775808)<=(v13+1)))&&(decide ((v13+1)<=9223372036854775807)))then go0 ((v13+1),v14,6,(cI v10 v13 1),(-1),6,(cI v10 v13 1),(-1))else none))
 else AU n go0 go1 v9 v10 v11 v13 v14 v21 v22 v23 v24 v25 v26)
def AG(n:Nat) (go0:bp->Option ao) (go1:bj->Option ao) (v1:Int) (v9:Bool) (v10:Lv) (v11 v13:Int) (v14:Lv) (v21 v22 v23 v24 v25 v26:Int):Option ao:=
 (bif((decide ((cI v10 v13 0)=3))&&(decide (v24=2)))then(bif(decide ((cI v10 v13 2)=1))then(bif(v9==true)then bif(decide ((((v14.length:Int)+1)*8)<=140737488355328))then bif((decide ((-9223372036854775808)<=(v13+1)))&&(decide ((v13+1)<=9223372036854775807)))then go0 ((v13+1),(v14++[[(AV.int v13)]]),v21,v22,v23,v24,v25,v26)else none else none
 else bif((decide ((-9223372036854775808)<=((cI v10 v13 1)+v1)))&&(decide (((cI v10 v13 1)+v1)<=9223372036854775807)))then(bif(decide (v11<(cI v10 v13 1)))then some (v21,v22,v23,0)
 else bif((decide ((-9223372036854775808)<=(v13+1)))&&(decide ((v13+1)<=9223372036854775807)))then go0 ((v13+1),v14,3,(cI v10 v13 1),((cI v10 v13 1)+v1),3,(cI v10 v13 1),((cI v10 v13 1)+v1))else none)else none)
 else bif((decide ((-9223372036854775808)<=((cI v10 v13 1)+v1)))&&(decide (((cI v10 v13 1)+v1)<=9223372036854775807)))then(bif(decide (v11<(cI v10 v13 1)))then some (v21,v22,v23,0)
 else bif((decide ((-9223372036854775808)<=(v13+1)))&&(decide ((v13+1)<=9223372036854775807)))then go0 ((v13+1),v14,3,(cI v10 v13 1),((cI v10 v13 1)+v1),3,(cI v10 v13 1),((cI v10 v13 1)+v1))else none)else none)
 else AQ n go0 go1 v9 v10 v11 v13 v14 v21 v22 v23 v24 v25 v26)
def AS(n:Nat) (go0:bp->Option ao) (go1:bj->Option ao) (v1 v2:Int) (v9:Bool) (v10:Lv) (v11 v13:Int) (v14:Lv) (v21 v22 v23 v24 v25 v26:Int):Option ao:=
 (bif((decide ((cI v10 v13 0)=2))&&(decide (v24=1)))then(bif(decide ((cI v10 v13 2)=1))then(bif(v9==true)then bif(decide ((((v14.length:Int)+1)*8)<=140737488355328))then bif((decide ((-9223372036854775808)<=(v13+1)))&&(decide ((v13+1)<=9223372036854775807)))then go0 ((v13+1),(v14++[[(AV.int v13)]]),v21,v22,v23,v24,v25,v26)else none else none
 else(bif(decide (v11<(cI v10 v13 1)))then some (v21,v22,v23,0)
 else bif((decide ((-9223372036854775808)<=(v13+1)))&&(decide ((v13+1)<=9223372036854775807)))then go0 ((v13+1),v14,6,(cI v10 v13 1),(-1),6,(cI v10 v13 1),(-1))else none))
 else bif((decide ((-9223372036854775808)<=((cI v10 v13 1)+v2)))&&(decide (((cI v10 v13 1)+v2)<=9223372036854775807)))then(bif(decide (v11<(cI v10 v13 1)))then some (v21,v22,v23,0)
 else bif((decide ((-9223372036854775808)<=(v13+1)))&&(decide ((v13+1)<=9223372036854775807)))then go0 ((v13+1),v14,2,(cI v10 v13 1),((cI v10 v13 1)+v2),2,(cI v10 v13 1),((cI v10 v13 1)+v2))else none)else none)
 else AG n go0 go1 v1 v9 v10 v11 v13 v14 v21 v22 v23 v24 v25 v26)
def pn(n:Nat) (go0:bp->Option ao) (go1:bj->Option ao) (v1 v2:Int) (v9:Bool) (v10:Lv) (v11 v13:Int) (v14:Lv) (v21 v22 v23 v24 v25 v26:Int):Option ao:=
 (bif((decide ((cI v10 v13 0)=1))&&(decide (v24=1)))then(bif(decide ((cI v10 v13 2)=1))then(bif(v9==true)then bif(decide ((((v14.length:Int)+1)*8)<=140737488355328))then bif((decide ((-9223372036854775808)<=(v13+1)))&&(decide ((v13+1)<=9223372036854775807)))then go0 ((v13+1),(v14++[[(AV.int v13)]]),v21,v22,v23,v24,v25,v26)else none else none
 else bif((decide ((-9223372036854775808)<=((cI v10 v13 1)+v1)))&&(decide (((cI v10 v13 1)+v1)<=9223372036854775807)))then(bif(decide (v11<(cI v10 v13 1)))then some (v21,v22,v23,0)
 else bif((decide ((-9223372036854775808)<=(v13+1)))&&(decide ((v13+1)<=9223372036854775807)))then go0 ((v13+1),v14,3,(cI v10 v13 1),((cI v10 v13 1)+v1),3,(cI v10 v13 1),((cI v10 v13 1)+v1))else none)else none)
 else bif((decide ((-9223372036854775808)<=((cI v10 v13 1)+v1)))&&(decide (((cI v10 v13 1)+v1)<=9223372036854775807)))then(bif(decide (v11<(cI v10 v13 1)))then some (v21,v22,v23,0)
 else bif((decide ((-9223372036854775808)<=(v13+1)))&&(decide ((v13+1)<=9223372036854775807)))then go0 ((v13+1),v14,3,(cI v10 v13 1),((cI v10 v13 1)+v1),3,(cI v10 v13 1),((cI v10 v13 1)+v1))else none)else none)
 else AS n go0 go1 v1 v2 v9 v10 v11 v13 v14 v21 v22 v23 v24 v25 v26)
def Bp(n:Nat) (go0:bp->Option ao) (go1:bj->Option ao) (v1 v2 v3:Int) (v9:Bool) (v10:Lv) (v11 v13:Int) (v14:Lv) (v21 v22 v23 v24 v25 v26:Int):Option ao:=
 (bif(decide (v26<=(cI v10 v13 1)))then(bif(decide (v24=1))then bif((decide ((-9223372036854775808)<=(v26+v1)))&&(decide ((v26+v1)<=9223372036854775807)))then(bif(decide (v11<v26))then some (v21,v22,v23,0)
 else go1 (3,v26,(v26+v1),3,v26,(v26+v1)))else none
 else(bif(decide (v24=2))then bif((decide ((-9223372036854775808)<=(v26+v1)))&&(decide ((v26+v1)<=9223372036854775807)))then(bif(decide (v11<v26))then some (v21,v22,v23,0)
 else go1 (3,v26,(v26+v1),3,v26,(v26+v1)))else none
 else(bif(decide (v24=3))then bif((decide ((-9223372036854775808)<=(v26+v3)))&&(decide ((v26+v3)<=9223372036854775807)))then(bif(decide (v11<v26))then some (v21,v22,v23,0)
 else go1 (4,v26,(v26+v3),4,v26,(v26+v3)))else none
 else(bif(decide (v24=4))then(bif(decide (v11<v26))then some (v21,v22,v23,0)
 else go1 (5,v26,(-1),5,v26,(-1)))
 else(bif(decide (v11<v26))then some (v21,v22,v23,0)
 else go1 (0,v26,(-1),0,v26,(-1)))))))
 else pn n go0 go1 v1 v2 v9 v10 v11 v13 v14 v21 v22 v23 v24 v25 v26)
abbrev AM:= @pn
def Cd(n:Nat) (go0:bp->Option ao) (go1:bj->Option ao) (v1 v2 v3:Int) (v9:Bool) (v10:Lv) (v11 v13:Int) (v14:Lv) (v21 v22 v23 v24 v25 v26:Int):Option ao:=
 (bif(decide (0<=v26))then Bp n go0 go1 v1 v2 v3 v9 v10 v11 v13 v14 v21 v22 v23 v24 v25 v26
 else AM n go0 go1 v1 v2 v9 v10 v11 v13 v14 v21 v22 v23 v24 v25 v26)
def AW(n:Nat) (go0:bj->Option ao) (v1 v3 v11 v21 v22 v23 v24 v26:Int):Option ao:=
 (bif(decide (0<=v26))then(bif(decide (v26<=4611686018427387904))then(bif(decide (v24=1))then bif((decide ((-9223372036854775808)<=(v26+v1)))&&(decide ((v26+v1)<=9223372036854775807)))then(bif(decide (v11<v26))then some (v21,v22,v23,0)
 else go0 (3,v26,(v26+v1),3,v26,(v26+v1)))else none
 else(bif(decide (v24=2))then bif((decide ((-9223372036854775808)<=(v26+v1)))&&(decide ((v26+v1)<=9223372036854775807)))then(bif(decide (v11<v26))then some (v21,v22,v23,0)
 else go0 (3,v26,(v26+v1),3,v26,(v26+v1)))else none
 else(bif(decide (v24=3))then bif((decide ((-9223372036854775808)<=(v26+v3)))&&(decide ((v26+v3)<=9223372036854775807)))then(bif(decide (v11<v26))then some (v21,v22,v23,0)
 else go0 (4,v26,(v26+v3),4,v26,(v26+v3)))else none
 else(bif(decide (v24=4))then(bif(decide (v11<v26))then some (v21,v22,v23,0)
 else go0 (5,v26,(-1),5,v26,(-1)))
 else(bif(decide (v11<v26))then some (v21,v22,v23,0)
 else go0 (0,v26,(-1),0,v26,(-1)))))))
 else some (v21,v22,v23,0))
 else some (v21,v22,v23,0))
def Cb(n:Nat) (go0:bp->Option ao) (v1 v2 v3:Int) (v9:Bool) (v10:Lv) (v11 v13:Int) (v14:Lv) (v15 v16 v17 v18 v19 v20:Int):Option ao:=
 (bif(decide (v13<(v10.length:Int)))then bif(decide (0<=v13))then(ab (fun go1 s=>Cd n go0 go1 v1 v2 v3 v9 v10 v11 v13 v14 s.1 s.2.1 s.2.2.1 s.2.2.2.1 s.2.2.2.2.1 s.2.2.2.2.2) n ((v15,v16,v17,v18,v19,v20):bj))else none
 else(ab (fun go0 s=>AW n go0 v1 v3 v11 s.1 s.2.1 s.2.2.1 s.2.2.2.1 s.2.2.2.2.2) n ((v15,v16,v17,v18,v19,v20):bj)))
def A4(n:Nat) (v0 v1 v2 v3 v8:Int) (v9:Bool) (v10:Lv) (v11:Int):Option ao:=
 (bif(decide (v11<v8))then some (0,0,v8,0)
 else(ab (fun go0 s=>Cb n go0 v1 v2 v3 v9 v10 v11 s.1 s.2.1 s.2.2.1 s.2.2.2.1 s.2.2.2.2.1 s.2.2.2.2.2.1 s.2.2.2.2.2.2.1 s.2.2.2.2.2.2.2) n ((0,([]:Lv),1,v8,(v8+v0),1,v8,(v8+v0)):bp)))
def BT(n:Nat) (v0 v1 v2 v3 v8:Int) (v9:Bool) (v10:Lv) (v11:Int):Option ao:=
 (bif(!(decide (v11<=20000000)))then some (0,0,0,160)
 else bif((decide ((-9223372036854775808)<=(v8+v0)))&&(decide ((v8+v0)<=9223372036854775807)))then A4 n v0 v1 v2 v3 v8 v9 v10 v11 else none)
def Cj(n:Nat) (v0 v1 v2 v3 v8:Int) (v9:Bool) (v10:Lv) (v11:Int):Option ao:=
 (bif(decide (0<=v11))then BT n v0 v1 v2 v3 v8 v9 v10 v11
 else some (0,0,0,160))
def A3(n:Nat) (v0 v1 v2 v3 v8:Int) (v9:Bool) (v10:Lv) (v11:Int) (v12:Bool):Option ao:=
 (bif(!v12)then some (0,0,0,160)
 else Cj n v0 v1 v2 v3 v8 v9 v10 v11)
def BY(n:Nat) (v0 v1 v2 v3 v4 v5 v6 v7 v8:Int) (v9:Bool) (v10:Lv) (v11:Int):Option ao:=
 (gr n v0 v1 v2 v3 v4 v5 v6 v7 v8 v9 v10).bind fun y12=>
 A3 n v0 v1 v2 v3 v8 v9 v10 v11 y12
def uU(n:Nat) (v0 v1 v2 v3 v4 v5 v6 v7 v8:Int) (v9:Bool) (v10:Lv) (v11:Int):Option ao:=BY n v0 v1 v2 v3 v4 v5 v6 v7 v8 v9 v10 v11
def claim_Outcome_t:FnT:=⟨[(true,[.int,.int,.int,.int]),(true,[.int,.int,.int,.int,.int,.bool]),(false,[(.sl (.cons .int (.cons .int (.cons .int .nil))))]),(false,[.int])],(.tup (.cons (.agg (.cons .i (.cons .i (.cons .i .nil)))) (.cons .i .nil))),fun n (s:Int×Int×Int×Int×Int×Int×Int×Int×Int×Bool×Lv×Int)=>uU n s.1 s.2.1 s.2.2.1 s.2.2.2.1 s.2.2.2.2.1 s.2.2.2.2.2.1 s.2.2.2.2.2.2.1 s.2.2.2.2.2.2.2.1 s.2.2.2.2.2.2.2.2.1 s.2.2.2.2.2.2.2.2.2.1 s.2.2.2.2.2.2.2.2.2.2.1 s.2.2.2.2.2.2.2.2.2.2.2⟩
theorem AO:claim_Outcome_t.ok Tryz.prog 105:=FnT.ok_of (cfg:=⟨[((143,5,32),.inv [(.tmp 24 .int),(.cellrow 12 12 3 (.cons .int .nil)),(.cell 13 0 .int),(.cell 13 1 .int),(.cell 13 2 .int),(.cell 27 0 .int),(.cell 27 1 .int),(.cell 27 2 .int)]),((145,1,42),.inv [(.cell 13 0 .int),(.cell 13 1 .int),(.cell 13 2 .int),(.cell 27 0 .int),(.cell 27 1 .int),(.cell 27 2 .int)]),((145,1,40),.inv [(.cell 13 0 .int),(.cell 13 1 .int),(.cell 13 2 .int),(.cell 27 0 .int),(.cell 27 1 .int),(.cell 27 2 .int)])],HD,[],GP⟩) (tab:=claim_Ends_T) (mt:=mtE) az pR bB (fun s fn hf=>by rw[Tryz.func105]at hf;cases hf;kernel_rfl) (fun n s=>by kernel_rfl)
def claim_Outcome_T:Tab:=(105,claim_Outcome_t)::claim_Ends_T
theorem lB:claim_Outcome_T.ok Tryz.prog:=Tab.ok_cons AO pR
abbrev xi:=Int×Int
def Gg(n:Nat) (v0 v1 v2 v3 v4 v5 v6 v7 v8:Int) (v9:Bool) (v10:Lv) (v11:Int):Option xi:=
 (uU n v0 v1 v2 v3 v4 v5 v6 v7 v8 v9 v10 v11).bind fun y12=>
 (bif(!(decide (y12.2.2.2=0)))then some (0,y12.2.2.2)
 else(bif(decide (y12.1=4))then some (v6,0)
 else(bif(decide (y12.1=5))then some (v6,0)
 else some (v5,0))))
def J0(n:Nat) (v0 v1 v2 v3 v4 v5 v6 v7 v8:Int) (v9:Bool) (v10:Lv) (v11:Int):Option xi:=Gg n v0 v1 v2 v3 v4 v5 v6 v7 v8 v9 v10 v11
def claim_With_t:FnT:=⟨[(true,[.int,.int,.int,.int]),(true,[.int,.int,.int,.int,.int,.bool]),(false,[(.sl (.cons .int (.cons .int (.cons .int .nil))))]),(false,[.int])],(.tup (.cons .i (.cons .i .nil))),fun n (s:Int×Int×Int×Int×Int×Int×Int×Int×Int×Bool×Lv×Int)=>J0 n s.1 s.2.1 s.2.2.1 s.2.2.2.1 s.2.2.2.2.1 s.2.2.2.2.2.1 s.2.2.2.2.2.2.1 s.2.2.2.2.2.2.2.1 s.2.2.2.2.2.2.2.2.1 s.2.2.2.2.2.2.2.2.2.1 s.2.2.2.2.2.2.2.2.2.2.1 s.2.2.2.2.2.2.2.2.2.2.2⟩
theorem FF:claim_With_t.ok Tryz.prog 42:=FnT.ok_of (cfg:=⟨[],HD,[],GP⟩) (tab:=claim_Outcome_T) (mt:=mtE) az lB bB (fun s fn hf=>by rw[Tryz.func42]at hf;cases hf;kernel_rfl) (fun n s=>by kernel_rfl)
def claim_With_T:Tab:=(42,claim_With_t)::claim_Outcome_T
theorem pW:claim_With_T.ok Tryz.prog:=Tab.ok_cons FF lB
abbrev ak:=Lv×Int
abbrev aW:=Int×Lv×Lv×Int×Int×Int
abbrev aQ:=Lv×Int×Int×Int
def mi(n:Nat) (go0:aW->Option ak) (go1:aQ->Option ak) (v9:Bool) (v10:Lv) (v12:Int) (v13 v18:Lv) (v19 v20 v21:Int):Option ak:=
 (bif((decide ((cI v10 v12 0)=5))&&(decide (v19=2)))then(bif(decide ((cI v10 v12 2)=1))then(bif(v9==true)then bif(decide ((((v13.length:Int)+1)*8)<=140737488355328))then bif((decide ((-9223372036854775808)<=(v12+1)))&&(decide ((v12+1)<=9223372036854775807)))then go0 ((v12+1),(v13++[[(AV.int v12)]]),v18,v19,v20,v21)else none else none
 else bif(decide ((((v18.length:Int)+1)*24)<=140737488355328))then bif((decide ((-9223372036854775808)<=(v12+1)))&&(decide ((v12+1)<=9223372036854775807)))then go0 ((v12+1),v13,(v18++[[(AV.int 7),(AV.int (cI v10 v12 1)),(AV.int (-1))]]),7,(cI v10 v12 1),(-1))else none else none)
 else bif(decide ((((v18.length:Int)+1)*24)<=140737488355328))then bif((decide ((-9223372036854775808)<=(v12+1)))&&(decide ((v12+1)<=9223372036854775807)))then go0 ((v12+1),v13,(v18++[[(AV.int 7),(AV.int (cI v10 v12 1)),(AV.int (-1))]]),7,(cI v10 v12 1),(-1))else none else none)
 else(bif((decide ((cI v10 v12 0)=5))&&(decide (v19=3)))then(bif(decide ((cI v10 v12 2)=1))then(bif(v9==true)then bif(decide ((((v13.length:Int)+1)*8)<=140737488355328))then bif((decide ((-9223372036854775808)<=(v12+1)))&&(decide ((v12+1)<=9223372036854775807)))then go0 ((v12+1),(v13++[[(AV.int v12)]]),v18,v19,v20,v21)else none else none
 else bif(decide ((((v18.length:Int)+1)*24)<=140737488355328))then bif((decide ((-9223372036854775808)<=(v12+1)))&&(decide ((v12+1)<=9223372036854775807)))then go0 ((v12+1),v13,(v18++[[(AV.int 7),(AV.int (cI v10 v12 1)),(AV.int (-1))]]),7,(cI v10 v12 1),(-1))else none else none)
 else bif(decide ((((v18.length:Int)+1)*24)<=140737488355328))then bif((decide ((-9223372036854775808)<=(v12+1)))&&(decide ((v12+1)<=9223372036854775807)))then go0 ((v12+1),v13,(v18++[[(AV.int 7),(AV.int (cI v10 v12 1)),(AV.int (-1))]]),7,(cI v10 v12 1),(-1))else none else none)
 else(bif((decide ((cI v10 v12 0)=6))&&(decide (v19=4)))then(bif(decide ((cI v10 v12 2)=1))then(bif(v9==true)then bif(decide ((((v13.length:Int)+1)*8)<=140737488355328))then bif((decide ((-9223372036854775808)<=(v12+1)))&&(decide ((v12+1)<=9223372036854775807)))then go0 ((v12+1),(v13++[[(AV.int v12)]]),v18,v19,v20,v21)else none else none
 else bif(decide ((((v18.length:Int)+1)*24)<=140737488355328))then bif((decide ((-9223372036854775808)<=(v12+1)))&&(decide ((v12+1)<=9223372036854775807)))then go0 ((v12+1),v13,(v18++[[(AV.int 8),(AV.int (cI v10 v12 1)),(AV.int (-1))]]),8,(cI v10 v12 1),(-1))else none else none)
 else bif(decide ((((v18.length:Int)+1)*24)<=140737488355328))then bif((decide ((-9223372036854775808)<=(v12+1)))&&(decide ((v12+1)<=9223372036854775807)))then go0 ((v12+1),v13,(v18++[[(AV.int 8),(AV.int (cI v10 v12 1)),(AV.int (-1))]]),8,(cI v10 v12 1),(-1))else none else none)
 else(bif(decide ((cI v10 v12 2)=1))then(bif(decide ((cI v10 v12 0)=2))then bif(decide ((((v13.length:Int)+1)*8)<=140737488355328))then bif((decide ((-9223372036854775808)<=(v12+1)))&&(decide ((v12+1)<=9223372036854775807)))then go0 ((v12+1),(v13++[[(AV.int v12)]]),v18,v19,v20,v21)else none else none
 else bif(decide ((((v13.length:Int)+1)*8)<=140737488355328))then bif((decide ((-9223372036854775808)<=(v12+1)))&&(decide ((v12+1)<=9223372036854775807)))then go0 ((v12+1),(v13++[[(AV.int v12)]]),v18,v19,v20,v21)else none else none)
 else bif(decide ((((v13.length:Int)+1)*8)<=140737488355328))then bif((decide ((-9223372036854775808)<=(v12+1)))&&(decide ((v12+1)<=9223372036854775807)))then go0 ((v12+1),(v13++[[(AV.int v12)]]),v18,v19,v20,v21)else none else none))))
def mp(n:Nat) (go0:aW->Option ak) (go1:aQ->Option ak) (v9:Bool) (v10:Lv) (v12:Int) (v13 v18:Lv) (v19 v20 v21:Int):Option ak:=
 (bif((decide ((cI v10 v12 0)=5))&&(decide (v19=1)))then(bif(decide ((cI v10 v12 2)=1))then(bif(v9==true)then bif(decide ((((v13.length:Int)+1)*8)<=140737488355328))then bif((decide ((-9223372036854775808)<=(v12+1)))&&(decide ((v12+1)<=9223372036854775807)))then go0 ((v12+1),(v13++[[(AV.int v12)]]),v18,v19,v20,v21)else none else none
 else bif(decide ((((v18.length:Int)+1)*24)<=140737488355328))then bif((decide ((-9223372036854775808)<=(v12+1)))&&(decide ((v12+1)<=9223372036854775807)))then go0 ((v12+1),v13,(v18++[[(AV.int 7),(AV.int (cI v10 v12 1)),(AV.int (-1))]]),7,(cI v10 v12 1),(-1))else none else none)
 else bif(decide ((((v18.length:Int)+1)*24)<=140737488355328))then bif((decide ((-9223372036854775808)<=(v12+1)))&&(decide ((v12+1)<=9223372036854775807)))then go0 ((v12+1),v13,(v18++[[(AV.int 7),(AV.int (cI v10 v12 1)),(AV.int (-1))]]),7,(cI v10 v12 1),(-1))else none else none)
 else mi n go0 go1 v9 v10 v12 v13 v18 v19 v20 v21)
def nH(n:Nat) (go0:aW->Option ak) (go1:aQ->Option ak) (v9:Bool) (v10:Lv) (v12:Int) (v13 v18:Lv) (v19 v20 v21:Int):Option ak:=
 (bif((decide ((cI v10 v12 0)=4))&&(decide (v19=2)))then(bif(decide ((cI v10 v12 2)=1))then(bif(v9==true)then bif(decide ((((v13.length:Int)+1)*8)<=140737488355328))then bif((decide ((-9223372036854775808)<=(v12+1)))&&(decide ((v12+1)<=9223372036854775807)))then go0 ((v12+1),(v13++[[(AV.int v12)]]),v18,v19,v20,v21)else none else none
 else bif(decide ((((v18.length:Int)+1)*24)<=140737488355328))then bif((decide ((-9223372036854775808)<=(v12+1)))&&(decide ((v12+1)<=9223372036854775807)))then go0 ((v12+1),v13,(v18++[[(AV.int 6),(AV.int (cI v10 v12 1)),(AV.int (-1))]]),6,(cI v10 v12 1),(-1))else none else none)
 else bif(decide ((((v18.length:Int)+1)*24)<=140737488355328))then bif((decide ((-9223372036854775808)<=(v12+1)))&&(decide ((v12+1)<=9223372036854775807)))then go0 ((v12+1),v13,(v18++[[(AV.int 6),(AV.int (cI v10 v12 1)),(AV.int (-1))]]),6,(cI v10 v12 1),(-1))else none else none)
 else mp n go0 go1 v9 v10 v12 v13 v18 v19 v20 v21)
def nT(n:Nat) (go0:aW->Option ak) (go1:aQ->Option ak) (v1:Int) (v9:Bool) (v10:Lv) (v12:Int) (v13 v18:Lv) (v19 v20 v21:Int):Option ak:=
 (bif((decide ((cI v10 v12 0)=3))&&(decide (v19=2)))then(bif(decide ((cI v10 v12 2)=1))then(bif(v9==true)then bif(decide ((((v13.length:Int)+1)*8)<=140737488355328))then bif((decide ((-9223372036854775808)<=(v12+1)))&&(decide ((v12+1)<=9223372036854775807)))then go0 ((v12+1),(v13++[[(AV.int v12)]]),v18,v19,v20,v21)else none else none
 else bif((decide ((-9223372036854775808)<=((cI v10 v12 1)+v1)))&&(decide (((cI v10 v12 1)+v1)<=9223372036854775807)))then bif(decide ((((v18.length:Int)+1)*24)<=140737488355328))then bif((decide ((-9223372036854775808)<=(v12+1)))&&(decide ((v12+1)<=9223372036854775807)))then go0 ((v12+1),v13,(v18++[[(AV.int 3),(AV.int (cI v10 v12 1)),(AV.int ((cI v10 v12 1)+v1))]]),3,(cI v10 v12 1),((cI v10 v12 1)+v1))else none else none else none)
 else bif((decide ((-9223372036854775808)<=((cI v10 v12 1)+v1)))&&(decide (((cI v10 v12 1)+v1)<=9223372036854775807)))then bif(decide ((((v18.length:Int)+1)*24)<=140737488355328))then bif((decide ((-9223372036854775808)<=(v12+1)))&&(decide ((v12+1)<=9223372036854775807)))then go0 ((v12+1),v13,(v18++[[(AV.int 3),(AV.int (cI v10 v12 1)),(AV.int ((cI v10 v12 1)+v1))]]),3,(cI v10 v12 1),((cI v10 v12 1)+v1))else none else none else none)
 else nH n go0 go1 v9 v10 v12 v13 v18 v19 v20 v21)
def oj(n:Nat) (go0:aW->Option ak) (go1:aQ->Option ak) (v1 v2:Int) (v9:Bool) (v10:Lv) (v12:Int) (v13 v18:Lv) (v19 v20 v21:Int):Option ak:=
 (bif((decide ((cI v10 v12 0)=2))&&(decide (v19=1)))then(bif(decide ((cI v10 v12 2)=1))then(bif(v9==true)then bif(decide ((((v13.length:Int)+1)*8)<=140737488355328))then bif((decide ((-9223372036854775808)<=(v12+1)))&&(decide ((v12+1)<=9223372036854775807)))then go0 ((v12+1),(v13++[[(AV.int v12)]]),v18,v19,v20,v21)else none else none
 else bif(decide ((((v18.length:Int)+1)*24)<=140737488355328))then bif((decide ((-9223372036854775808)<=(v12+1)))&&(decide ((v12+1)<=9223372036854775807)))then go0 ((v12+1),v13,(v18++[[(AV.int 6),(AV.int (cI v10 v12 1)),(AV.int (-1))]]),6,(cI v10 v12 1),(-1))else none else none)
 else bif((decide ((-9223372036854775808)<=((cI v10 v12 1)+v2)))&&(decide (((cI v10 v12 1)+v2)<=9223372036854775807)))then bif(decide ((((v18.length:Int)+1)*24)<=140737488355328))then bif((decide ((-9223372036854775808)<=(v12+1)))&&(decide ((v12+1)<=9223372036854775807)))then go0 ((v12+1),v13,(v18++[[(AV.int 2),(AV.int (cI v10 v12 1)),(AV.int ((cI v10 v12 1)+v2))]]),2,(cI v10 v12 1),((cI v10 v12 1)+v2))else none else none else none)
 else nT n go0 go1 v1 v9 v10 v12 v13 v18 v19 v20 v21)
def de(n:Nat) (go0:aW->Option ak) (go1:aQ->Option ak) (v1 v2:Int) (v9:Bool) (v10:Lv) (v12:Int) (v13 v18:Lv) (v19 v20 v21:Int):Option ak:=
 (bif((decide ((cI v10 v12 0)=1))&&(decide (v19=1)))then(bif(decide ((cI v10 v12 2)=1))then(bif(v9==true)then bif(decide ((((v13.length:Int)+1)*8)<=140737488355328))then bif((decide ((-9223372036854775808)<=(v12+1)))&&(decide ((v12+1)<=9223372036854775807)))then go0 ((v12+1),(v13++[[(AV.int v12)]]),v18,v19,v20,v21)else none else none
 else bif((decide ((-9223372036854775808)<=((cI v10 v12 1)+v1)))&&(decide (((cI v10 v12 1)+v1)<=9223372036854775807)))then bif(decide ((((v18.length:Int)+1)*24)<=140737488355328))then bif((decide ((-9223372036854775808)<=(v12+1)))&&(decide ((v12+1)<=9223372036854775807)))then go0 ((v12+1),v13,(v18++[[(AV.int 3),(AV.int (cI v10 v12 1)),(AV.int ((cI v10 v12 1)+v1))]]),3,(cI v10 v12 1),((cI v10 v12 1)+v1))else none else none else none)
 else bif((decide ((-9223372036854775808)<=((cI v10 v12 1)+v1)))&&(decide (((cI v10 v12 1)+v1)<=9223372036854775807)))then bif(decide ((((v18.length:Int)+1)*24)<=140737488355328))then bif((decide ((-9223372036854775808)<=(v12+1)))&&(decide ((v12+1)<=9223372036854775807)))then go0 ((v12+1),v13,(v18++[[(AV.int 3),(AV.int (cI v10 v12 1)),(AV.int ((cI v10 v12 1)+v1))]]),3,(cI v10 v12 1),((cI v10 v12 1)+v1))else none else none else none)
 else oj n go0 go1 v1 v2 v9 v10 v12 v13 v18 v19 v20 v21)
def fH(n:Nat) (go0:aW->Option ak) (go1:aQ->Option ak) (v1 v2 v3:Int) (v9:Bool) (v10:Lv) (v12:Int) (v13 v18:Lv) (v19 v20 v21:Int):Option ak:=
 (bif(decide (v21<=(cI v10 v12 1)))then(bif(decide (v19=1))then bif((decide ((-9223372036854775808)<=(v21+v1)))&&(decide ((v21+v1)<=9223372036854775807)))then bif(decide ((((v18.length:Int)+1)*24)<=140737488355328))then go1 ((v18++[[(AV.int 3),(AV.int v21),(AV.int (v21+v1))]]),3,v21,(v21+v1))else none else none
 else(bif(decide (v19=2))then bif((decide ((-9223372036854775808)<=(v21+v1)))&&(decide ((v21+v1)<=9223372036854775807)))then bif(decide ((((v18.length:Int)+1)*24)<=140737488355328))then go1 ((v18++[[(AV.int 3),(AV.int v21),(AV.int (v21+v1))]]),3,v21,(v21+v1))else none else none
 else(bif(decide (v19=3))then bif((decide ((-9223372036854775808)<=(v21+v3)))&&(decide ((v21+v3)<=9223372036854775807)))then bif(decide ((((v18.length:Int)+1)*24)<=140737488355328))then go1 ((v18++[[(AV.int 4),(AV.int v21),(AV.int (v21+v3))]]),4,v21,(v21+v3))else none else none
 else(bif(decide (v19=4))then bif(decide ((((v18.length:Int)+1)*24)<=140737488355328))then go1 ((v18++[[(AV.int 5),(AV.int v21),(AV.int (-1))]]),5,v21,(-1))else none
 else bif(decide ((((v18.length:Int)+1)*24)<=140737488355328))then go1 ((v18++[[(AV.int 0),(AV.int v21),(AV.int (-1))]]),0,v21,(-1))else none))))
 else de n go0 go1 v1 v2 v9 v10 v12 v13 v18 v19 v20 v21)
abbrev mz:= @de
def oz(n:Nat) (go0:aW->Option ak) (go1:aQ->Option ak) (v1 v2 v3:Int) (v9:Bool) (v10:Lv) (v12:Int) (v13 v18:Lv) (v19 v20 v21:Int):Option ak:=
 (bif(decide (0<=v21))then fH n go0 go1 v1 v2 v3 v9 v10 v12 v13 v18 v19 v20 v21
 else mz n go0 go1 v1 v2 v9 v10 v12 v13 v18 v19 v20 v21)
def eZ(n:Nat) (go0:aQ->Option ak) (v1 v3:Int) (v18:Lv) (v19 v21:Int):Option ak:=
 (bif(decide (0<=v21))then(bif(decide (v21<=4611686018427387904))then(bif(decide (v19=1))then bif((decide ((-9223372036854775808)<=(v21+v1)))&&(decide ((v21+v1)<=9223372036854775807)))then bif(decide ((((v18.length:Int)+1)*24)<=140737488355328))then go0 ((v18++[[(AV.int 3),(AV.int v21),(AV.int (v21+v1))]]),3,v21,(v21+v1))else none else none
 else(bif(decide (v19=2))then bif((decide ((-9223372036854775808)<=(v21+v1)))&&(decide ((v21+v1)<=9223372036854775807)))then bif(decide ((((v18.length:Int)+1)*24)<=140737488355328))then go0 ((v18++[[(AV.int 3),(AV.int v21),(AV.int (v21+v1))]]),3,v21,(v21+v1))else none else none
 else(bif(decide (v19=3))then bif((decide ((-9223372036854775808)<=(v21+v3)))&&(decide ((v21+v3)<=9223372036854775807)))then bif(decide ((((v18.length:Int)+1)*24)<=140737488355328))then go0 ((v18++[[(AV.int 4),(AV.int v21),(AV.int (v21+v3))]]),4,v21,(v21+v3))else none else none
 else(bif(decide (v19=4))then bif(decide ((((v18.length:Int)+1)*24)<=140737488355328))then go0 ((v18++[[(AV.int 5),(AV.int v21),(AV.int (-1))]]),5,v21,(-1))else none
 else bif(decide ((((v18.length:Int)+1)*24)<=140737488355328))then go0 ((v18++[[(AV.int 0),(AV.int v21),(AV.int (-1))]]),0,v21,(-1))else none))))
 else some (v18,0))
 else some (v18,0))
def oa(n:Nat) (go0:aW->Option ak) (v1 v2 v3:Int) (v9:Bool) (v10:Lv) (v12:Int) (v13 v14:Lv) (v15 v16 v17:Int):Option ak:=
 (bif(decide (v12<(v10.length:Int)))then bif(decide (0<=v12))then(ab (fun go1 s=>oz n go0 go1 v1 v2 v3 v9 v10 v12 v13 s.1 s.2.1 s.2.2.1 s.2.2.2) n ((v14,v15,v16,v17):aQ))else none
 else(ab (fun go0 s=>eZ n go0 v1 v3 s.1 s.2.1 s.2.2.2) n ((v14,v15,v16,v17):aQ)))
def ny(n:Nat) (v0 v1 v2 v3 v8:Int) (v9:Bool) (v10:Lv) (v11:Bool):Option ak:=
 (bif(!v11)then some (([]:Lv),160)
 else bif((decide ((-9223372036854775808)<=(v8+v0)))&&(decide ((v8+v0)<=9223372036854775807)))then(ab (fun go0 s=>oa n go0 v1 v2 v3 v9 v10 s.1 s.2.1 s.2.2.1 s.2.2.2.1 s.2.2.2.2.1 s.2.2.2.2.2) n ((0,([]:Lv),(([]:Lv)++[[(AV.int 1),(AV.int v8),(AV.int (v8+v0))]]),1,v8,(v8+v0)):aW))else none)
def oI(n:Nat) (v0 v1 v2 v3 v4 v5 v6 v7 v8:Int) (v9:Bool) (v10:Lv):Option ak:=
 (gr n v0 v1 v2 v3 v4 v5 v6 v7 v8 v9 v10).bind fun y11=>
 ny n v0 v1 v2 v3 v8 v9 v10 y11
def iy(n:Nat) (v0 v1 v2 v3 v4 v5 v6 v7 v8:Int) (v9:Bool) (v10:Lv):Option ak:=oI n v0 v1 v2 v3 v4 v5 v6 v7 v8 v9 v10
def claim_Timeline_t:FnT:=⟨[(true,[.int,.int,.int,.int]),(true,[.int,.int,.int,.int,.int,.bool]),(false,[(.sl (.cons .int (.cons .int (.cons .int .nil))))])],(.tup (.cons (.row 156 (.cons .int (.cons .int (.cons .int .nil)))) (.cons .i .nil))),fun n (s:Int×Int×Int×Int×Int×Int×Int×Int×Int×Bool×Lv)=>iy n s.1 s.2.1 s.2.2.1 s.2.2.2.1 s.2.2.2.2.1 s.2.2.2.2.2.1 s.2.2.2.2.2.2.1 s.2.2.2.2.2.2.2.1 s.2.2.2.2.2.2.2.2.1 s.2.2.2.2.2.2.2.2.2.1 s.2.2.2.2.2.2.2.2.2.2⟩
theorem zl:claim_Timeline_t.ok Tryz.prog 41:=FnT.ok_of (cfg:=⟨[((143,5,31),.inv [(.tmp 24 .int),(.cellrow 10 12 3 (.cons .int .nil)),(.cellrow 13 0 156 (.cons .int (.cons .int (.cons .int .nil)))),(.cell 24 0 .int),(.cell 24 1 .int),(.cell 24 2 .int)]),((145,1,39),.inv [(.cellrow 13 0 156 (.cons .int (.cons .int (.cons .int .nil)))),(.cell 24 0 .int),(.cell 24 1 .int),(.cell 24 2 .int)]),((145,1,37),.inv [(.cellrow 13 0 156 (.cons .int (.cons .int (.cons .int .nil)))),(.cell 24 0 .int),(.cell 24 1 .int),(.cell 24 2 .int)])],HD,[],GP⟩) (tab:=claim_With_T) (mt:=mtE) az pW bB (fun s fn hf=>by rw[Tryz.func41]at hf;cases hf;kernel_rfl) (fun n s=>by kernel_rfl)
def claim_Timeline_T:Tab:=(41,claim_Timeline_t)::claim_With_T
theorem kh:claim_Timeline_T.ok Tryz.prog:=Tab.ok_cons zl pW
end
end Go.Proofs.YtgckmifmjiklmaaGreat
set_option maxRecDepth 100000
namespace Go.Proofs.YtgckmifmjiklmaaGreat
open Go Go.Sx
noncomputable section
def dr:List Nat:=[11,12,13,14,15,16,17,18,19,20,21,22,23,24,25,26,27,28,29,30,32,33,34,35,36,37,38,39,40,41,42,43,44,45,46,47,48,49,50,51,52,54,55,56,57,58,59,61,62,63,64,66,67,69,80,83,87,90,91,92,95,96,99,100,101,105,107,108,109,110,111,112,115,116,121,122,127,128,136,138,139,149,150,151,153,154,156,158,161,163,164,165,166,172,173,174,175,176,183,185,186,187,188,189,190,196,197,198,201,204,205,207,210,216,222,223,226,229,1000012,1000056,1000083,1000197,1000216,1000229]
def dt:List (Nat×SV×SV):=[(141,SV.of [.agg (SV.of [.vi (.int 1),.vi (.int 1)]),.agg (SV.of [.vi (.int 2),.vi (.int 1)]),.agg (SV.of [.vi (.int 3),.vi (.int 2)]),.agg (SV.of [.vi (.int 4),.vi (.int 2)]),.agg (SV.of [.vi (.int 5),.vi (.int 1)]),.agg (SV.of [.vi (.int 5),.vi (.int 2)]),.agg (SV.of [.vi (.int 5),.vi (.int 3)]),.agg (SV.of [.vi (.int 6),.vi (.int 4)])],SV.of [.vi (.int 3),.vi (.int 2),.vi (.int 3),.vi (.int 6),.vi (.int 7),.vi (.int 7),.vi (.int 7),.vi (.int 8)])]
abbrev wV:=Int
def xS(n:Nat) (v0 v1:Int):Option wV:=
 (bif(decide (v0<0))then bif((decide ((-9223372036854775808)<=(v0+1)))&&(decide ((v0+1)<=9223372036854775807)))then bif((decide ((-9223372036854775808)<=(0-(v0+1))))&&(decide ((0-(v0+1))<=9223372036854775807)))then bif(!(decide (v1=0)))then some (Int.tmod (0-(v0+1)) v1)else none else none else none
 else bif(!(decide (v1=0)))then some (Int.tmod v0 v1)else none)
def bb(n:Nat) (v0 v1:Int):Option wV:=xS n v0 v1
def ref14_pick_t:FnT:=⟨[(false,[.int]),(false,[.int])],.i,fun n (s:Int×Int)=>bb n s.1 s.2⟩
theorem FM:ref14_pick_t.ok Tryz.prog 183:=FnT.ok_of (cfg:=⟨[],dr,[],dt⟩) (tab:=claim_Timeline_T) (mt:=mtE) az kh bB (fun s fn hf=>by rw[Tryz.func183]at hf;cases hf;kernel_rfl) (fun n s=>by kernel_rfl)
def ref14_pick_T:Tab:=(183,ref14_pick_t)::claim_Timeline_T
theorem pb:ref14_pick_T.ok Tryz.prog:=Tab.ok_cons FM kh
abbrev tR:=Bool
def uD(n:Nat) (v0 v1 v2 v3:Int):Option tR:=
 (bif(decide (0<=v0))then(bif(!(decide (v0<=3)))then some false
 else(bif(decide (0<=v2))then(bif(!(decide (v2<=1000)))then some false
 else(bif(decide (0<=v3))then(bif(!(decide (v3<=10000000)))then some false
 else(bif(decide (v0=0))then some (decide (v1=(-1)))
 else(bif(decide (0<=v1))then(bif(decide (v1<=63))then some (decide (0<v2))
 else some false)
 else some false)))
 else some false))
 else some false))
 else some false)
def kM(n:Nat) (v0 v1 v2 v3:Int):Option tR:=uD n v0 v1 v2 v3
def ref14_Valid_t:FnT:=⟨[(true,[.int,.int,.int,.int])],.b,fun n (s:Int×Int×Int×Int)=>kM n s.1 s.2.1 s.2.2.1 s.2.2.2⟩
theorem C3:ref14_Valid_t.ok Tryz.prog 185:=FnT.ok_of (cfg:=⟨[],dr,[],dt⟩) (tab:=ref14_pick_T) (mt:=mtE) az pb bB (fun s fn hf=>by rw[Tryz.func185]at hf;cases hf;kernel_rfl) (fun n s=>by kernel_rfl)
def ref14_Valid_T:Tab:=(185,ref14_Valid_t)::ref14_pick_T
theorem nJ:ref14_Valid_T.ok Tryz.prog:=Tab.ok_cons C3 pb
abbrev rl:=Bool
def sq(n:Nat) (v0 v1 v2:Int):Option rl:=
 (bif(decide (1<=v0))then(bif(!(decide (v0<=7)))then some false
 else(bif(decide (0<=v1))then(bif(!(decide (v1<=10000000)))then some false
 else(bif(decide (v0=1))then(bif(decide (0<=v2))then some (decide (v2<=63))
 else some false)
 else(bif(decide (v0=2))then(bif(decide (0<=v2))then some (decide (v2<=63))
 else some false)
 else some (decide (v2=(-1))))))
 else some false))
 else some false)
def jD(n:Nat) (v0 v1 v2:Int):Option rl:=sq n v0 v1 v2
def ref14_Formed_t:FnT:=⟨[(true,[.int,.int,.int])],.b,fun n (s:Int×Int×Int)=>jD n s.1 s.2.1 s.2.2⟩
theorem BM:ref14_Formed_t.ok Tryz.prog 186:=FnT.ok_of (cfg:=⟨[],dr,[],dt⟩) (tab:=ref14_Valid_T) (mt:=mtE) az nJ bB (fun s fn hf=>by rw[Tryz.func186]at hf;cases hf;kernel_rfl) (fun n s=>by kernel_rfl)
def ref14_Formed_T:Tab:=(186,ref14_Formed_t)::ref14_Valid_T
theorem mh:ref14_Formed_T.ok Tryz.prog:=Tab.ok_cons BM nJ
abbrev oe:=Bool
def oL(n:Nat) (v0 v1 v2 v3 v4 v5 v6:Int):Option oe:=
 (bif(decide (v5<v3))then some false
 else(bif(decide (v4=1))then(bif(decide (v0=0))then some (decide (v2<1000))
 else some false)
 else(bif(decide (v4=2))then(bif(decide (v0=1))then(bif(!(decide (v1=v6)))then some (decide (v2<1000))
 else some false)
 else some false)
 else(bif(decide (v4=3))then some (decide (v0=1))
 else(bif(decide (v4=4))then some (decide (v0=2))
 else(bif(decide (v4=5))then(bif(decide (v0=1))then some true
 else some (decide (v0=2)))
 else(bif(decide (v4=6))then some (decide (v0=3))
 else(bif(decide (v0=3))then bif((decide ((-9223372036854775808)<=(v3+2592000)))&&(decide ((v3+2592000)<=9223372036854775807)))then some (decide ((v3+2592000)<=v5))else none
 else some false))))))))
def ia(n:Nat) (v0 v1 v2 v3 v4 v5 v6:Int):Option oe:=oL n v0 v1 v2 v3 v4 v5 v6
def ref14_possible_t:FnT:=⟨[(true,[.int,.int,.int,.int]),(true,[.int,.int,.int])],.b,fun n (s:Int×Int×Int×Int×Int×Int×Int)=>ia n s.1 s.2.1 s.2.2.1 s.2.2.2.1 s.2.2.2.2.1 s.2.2.2.2.2.1 s.2.2.2.2.2.2⟩
theorem zk:ref14_possible_t.ok Tryz.prog 187:=FnT.ok_of (cfg:=⟨[],dr,[],dt⟩) (tab:=ref14_Formed_T) (mt:=mtE) az mh bB (fun s fn hf=>by rw[Tryz.func187]at hf;cases hf;kernel_rfl) (fun n s=>by kernel_rfl)
def ref14_possible_T:Tab:=(187,ref14_possible_t)::ref14_Formed_T
theorem kl:ref14_possible_T.ok Tryz.prog:=Tab.ok_cons zk mh
abbrev yu:=Int×Int×Int×Int×Int
def vT(n:Nat) (v0 v1 v2 v3 v4 v5 v6:Int):Option yu:=
 (kM n v0 v1 v2 v3).bind fun y7=>
 (bif(!y7)then some (0,0,0,0,140)
 else(jD n v4 v5 v6).bind fun y8=>
 (bif(!y8)then some (0,0,0,0,140)
 else(ia n v0 v1 v2 v3 v4 v5 v6).bind fun y9=>
 (bif(!y9)then some (0,0,0,0,140)
 else(bif(decide (v4=1))then bif((decide ((-9223372036854775808)<=(v2+1)))&&(decide ((v2+1)<=9223372036854775807)))then some (1,v6,(v2+1),v5,0)else none
 else(bif(decide (v4=2))then bif((decide ((-9223372036854775808)<=(v2+1)))&&(decide ((v2+1)<=9223372036854775807)))then some (1,v6,(v2+1),v5,0)else none
 else(bif(decide (v4=3))then some (2,v1,v2,v5,0)
 else(bif(decide (v4=4))then some (1,v1,v2,v5,0)
 else(bif(decide (v4=6))then some (1,v1,v2,v5,0)
 else(bif(decide (v4=5))then some (3,v1,v2,v5,0)
 else some (0,(-1),v2,v5,0))))))))))
def fU(n:Nat) (v0 v1 v2 v3 v4 v5 v6:Int):Option yu:=vT n v0 v1 v2 v3 v4 v5 v6
def ref14_Step_t:FnT:=⟨[(true,[.int,.int,.int,.int]),(true,[.int,.int,.int])],(.tup (.cons (.agg (.cons .i (.cons .i (.cons .i (.cons .i .nil))))) (.cons .i .nil))),fun n (s:Int×Int×Int×Int×Int×Int×Int)=>fU n s.1 s.2.1 s.2.2.1 s.2.2.2.1 s.2.2.2.2.1 s.2.2.2.2.2.1 s.2.2.2.2.2.2⟩
theorem E6:ref14_Step_t.ok Tryz.prog 150:=FnT.ok_of (cfg:=⟨[],dr,[],dt⟩) (tab:=ref14_possible_T) (mt:=mtE) az kl bB (fun s fn hf=>by rw[Tryz.func150]at hf;cases hf;kernel_rfl) (fun n s=>by kernel_rfl)
def ref14_Step_T:Tab:=(150,ref14_Step_t)::ref14_possible_T
theorem pg:ref14_Step_T.ok Tryz.prog:=Tab.ok_cons E6 kl
abbrev kT:=Int×Int×Int×Int×Int×Int
abbrev wY:=Int×Int×Int×Int×Int
def zV(n:Nat) (go0:wY->Option kT) (v0:Lv) (v1 v2 v3 v4 v5:Int):Option kT:=
 (bif(decide (v1<(v0.length:Int)))then bif(decide (0<=v1))then(fU n v2 v3 v4 v5 (cI v0 v1 0) (cI v0 v1 1) (cI v0 v1 2)).bind fun y6=>
 (bif(!(decide (y6.2.2.2.2=0)))then some (0,0,0,0,v1,140)
 else(bif(decide (v1=40))then some (0,0,0,0,v1,140)
 else bif((decide ((-9223372036854775808)<=(v1+1)))&&(decide ((v1+1)<=9223372036854775807)))then go0 ((v1+1),y6.1,y6.2.1,y6.2.2.1,y6.2.2.2.1)else none))else none
 else some (v2,v3,v4,v5,(v0.length:Int),0))
def zq(n:Nat) (v0:Lv):Option kT:=
 (ab (fun go0 s=>zV n go0 v0 s.1 s.2.1 s.2.2.1 s.2.2.2.1 s.2.2.2.2) n ((0,0,(-1),0,0):wY))
def pa(n:Nat) (v0:Lv):Option kT:=zq n v0
def ref14_Run_t:FnT:=⟨[(false,[(.sl (.cons .int (.cons .int (.cons .int .nil))))])],(.tup (.cons (.agg (.cons .i (.cons .i (.cons .i (.cons .i .nil))))) (.cons .i (.cons .i .nil)))),fun n (s:Lv)=>pa n s⟩
theorem HZ:ref14_Run_t.ok Tryz.prog 188:=FnT.ok_of (cfg:=⟨[((188,3,5),.inv [(.tmp 6 .int),(.cell 3 0 .int),(.cell 3 1 .int),(.cell 3 2 .int),(.cell 3 3 .int)])],dr,[],dt⟩) (tab:=ref14_Step_T) (mt:=mtE) az pg bB (fun s fn hf=>by rw[Tryz.func188]at hf;cases hf;kernel_rfl) (fun n s=>by kernel_rfl)
def ref14_Run_T:Tab:=(188,ref14_Run_t)::ref14_Step_T
theorem rm:ref14_Run_T.ok Tryz.prog:=Tab.ok_cons HZ pg
abbrev Cx:=Bool
def Cq(n:Nat) (v0:Lv):Option Cx:=
 (pa n v0).bind fun y1=>
 some (decide (y1.2.2.2.2.2=0))
def sW(n:Nat) (v0:Lv):Option Cx:=Cq n v0
def ref14_Is_t:FnT:=⟨[(false,[(.sl (.cons .int (.cons .int (.cons .int .nil))))])],.b,fun n (s:Lv)=>sW n s⟩
theorem IC:ref14_Is_t.ok Tryz.prog 151:=FnT.ok_of (cfg:=⟨[],dr,[],dt⟩) (tab:=ref14_Run_T) (mt:=mtE) az rm bB (fun s fn hf=>by rw[Tryz.func151]at hf;cases hf;kernel_rfl) (fun n s=>by kernel_rfl)
def ref14_Is_T:Tab:=(151,ref14_Is_t)::ref14_Run_T
theorem ua:ref14_Is_T.ok Tryz.prog:=Tab.ok_cons IC rm
abbrev mW:=Int×Int×Int×Int
abbrev zS:=Int×Int×Int×Int×Int
def BQ(n:Nat) (go0:zS->Option mW) (v0:Lv) (v1 v2 v3 v4 v5 v6:Int):Option mW:=
 (bif(decide (v2<(v0.length:Int)))then bif(decide (0<=v2))then(bif(decide ((cI v0 v2 1)<=v1))then(fU n v3 v4 v5 v6 (cI v0 v2 0) (cI v0 v2 1) (cI v0 v2 2)).bind fun y7=>
 bif((decide ((-9223372036854775808)<=(v2+1)))&&(decide ((v2+1)<=9223372036854775807)))then go0 ((v2+1),y7.1,y7.2.1,y7.2.2.1,y7.2.2.2.1)else none
 else some (v3,v4,v5,v6))else none
 else some (v3,v4,v5,v6))
def BC(n:Nat) (v0:Lv) (v1:Int):Option mW:=
 (ab (fun go0 s=>BQ n go0 v0 v1 s.1 s.2.1 s.2.2.1 s.2.2.2.1 s.2.2.2.2) n ((0,0,(-1),0,0):zS))
def tg(n:Nat) (v0:Lv) (v1:Int):Option mW:=BC n v0 v1
def ref14_at_t:FnT:=⟨[(false,[(.sl (.cons .int (.cons .int (.cons .int .nil))))]),(false,[.int])],(.agg (.cons .i (.cons .i (.cons .i (.cons .i .nil))))),fun n (s:Lv×Int)=>tg n s.1 s.2⟩
theorem IE:ref14_at_t.ok Tryz.prog 153:=FnT.ok_of (cfg:=⟨[((153,3,5),.inv [(.tmp 6 .int),(.cell 3 0 .int),(.cell 3 1 .int),(.cell 3 2 .int),(.cell 3 3 .int)])],dr,[],dt⟩) (tab:=ref14_Is_T) (mt:=mtE) az ua bB (fun s fn hf=>by rw[Tryz.func153]at hf;cases hf;kernel_rfl) (fun n s=>by kernel_rfl)
def ref14_at_T:Tab:=(153,ref14_at_t)::ref14_Is_T
theorem uq:ref14_at_T.ok Tryz.prog:=Tab.ok_cons IE ua
abbrev CA:=Int×Int×Int×Int×Int
def B5(n:Nat) (v0:Lv) (v1:Int):Option CA:=
 (sW n v0).bind fun y2=>
 (bif(!y2)then some (0,0,0,0,140)
 else(bif(decide (0<=v1))then(bif(!(decide (v1<=10000000)))then some (0,0,0,0,140)
 else(tg n v0 v1).bind fun y3=>
 some (y3.1,y3.2.1,y3.2.2.1,y3.2.2.2,0))
 else some (0,0,0,0,140)))
def dF(n:Nat) (v0:Lv) (v1:Int):Option CA:=B5 n v0 v1
def ref14_At_t:FnT:=⟨[(false,[(.sl (.cons .int (.cons .int (.cons .int .nil))))]),(false,[.int])],(.tup (.cons (.agg (.cons .i (.cons .i (.cons .i (.cons .i .nil))))) (.cons .i .nil))),fun n (s:Lv×Int)=>dF n s.1 s.2⟩
theorem Ih:ref14_At_t.ok Tryz.prog 110:=FnT.ok_of (cfg:=⟨[],dr,[],dt⟩) (tab:=ref14_at_T) (mt:=mtE) az uq bB (fun s fn hf=>by rw[Tryz.func110]at hf;cases hf;kernel_rfl) (fun n s=>by kernel_rfl)
def ref14_At_T:Tab:=(110,ref14_At_t)::ref14_at_T
theorem tN:ref14_At_T.ok Tryz.prog:=Tab.ok_cons Ih uq
abbrev lW:=Int×Int×Int
def uV(n:Nat) (v0 v1 v3 v4 v5 v6:Int):Option lW:=
 (bif(decide (v0=2))then(bb n v4 2).bind fun y7=>
 bif(decide (0<=y7))then bif(decide (y7<2))then(bb n v5 6).bind fun y8=>
 (bif(decide ((cI ((([]:Lv)++[[(AV.int 4)]])++[[(AV.int 5)]]) y7 0)=7))then bif((decide ((-9223372036854775808)<=(y8+2592000)))&&(decide ((y8+2592000)<=9223372036854775807)))then bif((decide ((-9223372036854775808)<=(v3+(y8+2592000))))&&(decide ((v3+(y8+2592000))<=9223372036854775807)))then some ((cI ((([]:Lv)++[[(AV.int 4)]])++[[(AV.int 5)]]) y7 0),(ag (v3+(y8+2592000)) 10000000),(-1))else none else none
 else bif((decide ((-9223372036854775808)<=(v3+y8)))&&(decide ((v3+y8)<=9223372036854775807)))then(bif(decide ((cI ((([]:Lv)++[[(AV.int 4)]])++[[(AV.int 5)]]) y7 0)=1))then(bb n v6 5).bind fun y9=>
 some ((cI ((([]:Lv)++[[(AV.int 4)]])++[[(AV.int 5)]]) y7 0),(ag (v3+y8) 10000000),y9)
 else(bif(decide ((cI ((([]:Lv)++[[(AV.int 4)]])++[[(AV.int 5)]]) y7 0)=2))then(bb n v6 5).bind fun y9=>
 (bif(decide (y9=v1))then bif((decide ((-9223372036854775808)<=(y9+1)))&&(decide ((y9+1)<=9223372036854775807)))then some ((cI ((([]:Lv)++[[(AV.int 4)]])++[[(AV.int 5)]]) y7 0),(ag (v3+y8) 10000000),(y9+1))else none
 else some ((cI ((([]:Lv)++[[(AV.int 4)]])++[[(AV.int 5)]]) y7 0),(ag (v3+y8) 10000000),y9))
 else some ((cI ((([]:Lv)++[[(AV.int 4)]])++[[(AV.int 5)]]) y7 0),(ag (v3+y8) 10000000),(-1))))else none)else none else none
 else(bif(decide (v0=3))then(bb n v4 3).bind fun y7=>
 bif(decide (0<=y7))then bif(decide (y7<3))then(bb n v5 6).bind fun y8=>
 (bif(decide ((cI (((([]:Lv)++[[(AV.int 7)]])++[[(AV.int 6)]])++[[(AV.int 7)]]) y7 0)=7))then bif((decide ((-9223372036854775808)<=(y8+2592000)))&&(decide ((y8+2592000)<=9223372036854775807)))then bif((decide ((-9223372036854775808)<=(v3+(y8+2592000))))&&(decide ((v3+(y8+2592000))<=9223372036854775807)))then some ((cI (((([]:Lv)++[[(AV.int 7)]])++[[(AV.int 6)]])++[[(AV.int 7)]]) y7 0),(ag (v3+(y8+2592000)) 10000000),(-1))else none else none
 else bif((decide ((-9223372036854775808)<=(v3+y8)))&&(decide ((v3+y8)<=9223372036854775807)))then(bif(decide ((cI (((([]:Lv)++[[(AV.int 7)]])++[[(AV.int 6)]])++[[(AV.int 7)]]) y7 0)=1))then(bb n v6 5).bind fun y9=>
 some ((cI (((([]:Lv)++[[(AV.int 7)]])++[[(AV.int 6)]])++[[(AV.int 7)]]) y7 0),(ag (v3+y8) 10000000),y9)
 else(bif(decide ((cI (((([]:Lv)++[[(AV.int 7)]])++[[(AV.int 6)]])++[[(AV.int 7)]]) y7 0)=2))then(bb n v6 5).bind fun y9=>
 (bif(decide (y9=v1))then bif((decide ((-9223372036854775808)<=(y9+1)))&&(decide ((y9+1)<=9223372036854775807)))then some ((cI (((([]:Lv)++[[(AV.int 7)]])++[[(AV.int 6)]])++[[(AV.int 7)]]) y7 0),(ag (v3+y8) 10000000),(y9+1))else none
 else some ((cI (((([]:Lv)++[[(AV.int 7)]])++[[(AV.int 6)]])++[[(AV.int 7)]]) y7 0),(ag (v3+y8) 10000000),y9))
 else some ((cI (((([]:Lv)++[[(AV.int 7)]])++[[(AV.int 6)]])++[[(AV.int 7)]]) y7 0),(ag (v3+y8) 10000000),(-1))))else none)else none else none
 else(bb n v4 1).bind fun y7=>
 bif(decide (0<=y7))then bif(decide (y7<1))then(bb n v5 6).bind fun y8=>
 (bif(decide ((cI (([]:Lv)++[[(AV.int 1)]]) y7 0)=7))then bif((decide ((-9223372036854775808)<=(y8+2592000)))&&(decide ((y8+2592000)<=9223372036854775807)))then bif((decide ((-9223372036854775808)<=(v3+(y8+2592000))))&&(decide ((v3+(y8+2592000))<=9223372036854775807)))then some ((cI (([]:Lv)++[[(AV.int 1)]]) y7 0),(ag (v3+(y8+2592000)) 10000000),(-1))else none else none
 else bif((decide ((-9223372036854775808)<=(v3+y8)))&&(decide ((v3+y8)<=9223372036854775807)))then(bif(decide ((cI (([]:Lv)++[[(AV.int 1)]]) y7 0)=1))then(bb n v6 5).bind fun y9=>
 some ((cI (([]:Lv)++[[(AV.int 1)]]) y7 0),(ag (v3+y8) 10000000),y9)
 else(bif(decide ((cI (([]:Lv)++[[(AV.int 1)]]) y7 0)=2))then(bb n v6 5).bind fun y9=>
 (bif(decide (y9=v1))then bif((decide ((-9223372036854775808)<=(y9+1)))&&(decide ((y9+1)<=9223372036854775807)))then some ((cI (([]:Lv)++[[(AV.int 1)]]) y7 0),(ag (v3+y8) 10000000),(y9+1))else none
 else some ((cI (([]:Lv)++[[(AV.int 1)]]) y7 0),(ag (v3+y8) 10000000),y9))
 else some ((cI (([]:Lv)++[[(AV.int 1)]]) y7 0),(ag (v3+y8) 10000000),(-1))))else none)else none else none))
def uZ(n:Nat) (v0 v1 v3 v4 v5 v6:Int):Option lW:=
 (bif(decide (v0=1))then(bb n v4 5).bind fun y7=>
 bif(decide (0<=y7))then bif(decide (y7<5))then(bb n v5 6).bind fun y8=>
 (bif(decide ((cI (((((([]:Lv)++[[(AV.int 2)]])++[[(AV.int 3)]])++[[(AV.int 5)]])++[[(AV.int 3)]])++[[(AV.int 5)]]) y7 0)=7))then bif((decide ((-9223372036854775808)<=(y8+2592000)))&&(decide ((y8+2592000)<=9223372036854775807)))then bif((decide ((-9223372036854775808)<=(v3+(y8+2592000))))&&(decide ((v3+(y8+2592000))<=9223372036854775807)))then some ((cI (((((([]:Lv)++[[(AV.int 2)]])++[[(AV.int 3)]])++[[(AV.int 5)]])++[[(AV.int 3)]])++[[(AV.int 5)]]) y7 0),(ag (v3+(y8+2592000)) 10000000),(-1))else none else none
 else bif((decide ((-9223372036854775808)<=(v3+y8)))&&(decide ((v3+y8)<=9223372036854775807)))then(bif(decide ((cI (((((([]:Lv)++[[(AV.int 2)]])++[[(AV.int 3)]])++[[(AV.int 5)]])++[[(AV.int 3)]])++[[(AV.int 5)]]) y7 0)=1))then(bb n v6 5).bind fun y9=>
 some ((cI (((((([]:Lv)++[[(AV.int 2)]])++[[(AV.int 3)]])++[[(AV.int 5)]])++[[(AV.int 3)]])++[[(AV.int 5)]]) y7 0),(ag (v3+y8) 10000000),y9)
 else(bif(decide ((cI (((((([]:Lv)++[[(AV.int 2)]])++[[(AV.int 3)]])++[[(AV.int 5)]])++[[(AV.int 3)]])++[[(AV.int 5)]]) y7 0)=2))then(bb n v6 5).bind fun y9=>
 (bif(decide (y9=v1))then bif((decide ((-9223372036854775808)<=(y9+1)))&&(decide ((y9+1)<=9223372036854775807)))then some ((cI (((((([]:Lv)++[[(AV.int 2)]])++[[(AV.int 3)]])++[[(AV.int 5)]])++[[(AV.int 3)]])++[[(AV.int 5)]]) y7 0),(ag (v3+y8) 10000000),(y9+1))else none
 else some ((cI (((((([]:Lv)++[[(AV.int 2)]])++[[(AV.int 3)]])++[[(AV.int 5)]])++[[(AV.int 3)]])++[[(AV.int 5)]]) y7 0),(ag (v3+y8) 10000000),y9))
 else some ((cI (((((([]:Lv)++[[(AV.int 2)]])++[[(AV.int 3)]])++[[(AV.int 5)]])++[[(AV.int 3)]])++[[(AV.int 5)]]) y7 0),(ag (v3+y8) 10000000),(-1))))else none)else none else none
 else uV n v0 v1 v3 v4 v5 v6)
def iK(n:Nat) (v0 v1 v2 v3 v4 v5 v6:Int):Option lW:=uZ n v0 v1 v3 v4 v5 v6
def ref14_After_t:FnT:=⟨[(true,[.int,.int,.int,.int]),(true,[.int,.int,.int])],(.agg (.cons .i (.cons .i (.cons .i .nil)))),fun n (s:Int×Int×Int×Int×Int×Int×Int)=>iK n s.1 s.2.1 s.2.2.1 s.2.2.2.1 s.2.2.2.2.1 s.2.2.2.2.2.1 s.2.2.2.2.2.2⟩
theorem CM:ref14_After_t.ok Tryz.prog 149:=FnT.ok_of (cfg:=⟨[],dr,[],dt⟩) (tab:=ref14_At_T) (mt:=mtE) az tN bB (fun s fn hf=>by rw[Tryz.func149]at hf;cases hf;kernel_rfl) (fun n s=>by kernel_rfl)
def ref14_After_T:Tab:=(149,ref14_After_t)::ref14_At_T
theorem oT:ref14_After_T.ok Tryz.prog:=Tab.ok_cons CM tN
abbrev jQ:=Lv
abbrev vj:=Lv×Int×Int×Int×Int×Int
def wg(n:Nat) (go0:vj->Option jQ) (v0 v1:Lv) (v2 v3 v4 v5 v6:Int):Option jQ:=
 (bif(decide (v2<(v0.length:Int)))then(bif(decide (v2<16))then bif(decide (0<=v2))then(iK n v3 v4 v5 v6 (cI v0 v2 0) (cI v0 v2 1) (cI v0 v2 2)).bind fun y7=>
 (fU n v3 v4 v5 v6 y7.1 y7.2.1 y7.2.2).bind fun y10=>
 (bif(decide (y10.2.2.2.2=0))then bif(decide ((((v1.length:Int)+1)*24)<=140737488355328))then bif((decide ((-9223372036854775808)<=(v2+1)))&&(decide ((v2+1)<=9223372036854775807)))then go0 ((v1++[[(AV.int y7.1),(AV.int y7.2.1),(AV.int y7.2.2)]]),(v2+1),y10.1,y10.2.1,y10.2.2.1,y10.2.2.2.1)else none else none
 else bif((decide ((-9223372036854775808)<=(v2+1)))&&(decide ((v2+1)<=9223372036854775807)))then go0 (v1,(v2+1),v3,v4,v5,v6)else none)else none
 else some v1)
 else some v1)
def wl(n:Nat) (v0:Lv):Option jQ:=
 (ab (fun go0 s=>wg n go0 v0 s.1 s.2.1 s.2.2.1 s.2.2.2.1 s.2.2.2.2.1 s.2.2.2.2.2) n ((([]:Lv),0,0,(-1),0,0):vj))
def j9(n:Nat) (v0:Lv):Option jQ:=wl n v0
def ref14_Made_t:FnT:=⟨[(false,[(.sl (.cons .int (.cons .int (.cons .int .nil))))])],(.row 224 (.cons .int (.cons .int (.cons .int .nil)))),fun n (s:Lv)=>j9 n s⟩
theorem Er:ref14_Made_t.ok Tryz.prog 109:=FnT.ok_of (cfg:=⟨[((109,4,4),.inv [(.tmprow 4 224 (.cons .int (.cons .int (.cons .int .nil)))),(.tmp 5 .int),(.cell 2 0 .int),(.cell 2 1 .int),(.cell 2 2 .int),(.cell 2 3 .int)])],dr,[],dt⟩) (tab:=ref14_After_T) (mt:=mtE) az oT bB (fun s fn hf=>by rw[Tryz.func109]at hf;cases hf;kernel_rfl) (fun n s=>by kernel_rfl)
def ref14_Made_T:Tab:=(109,ref14_Made_t)::ref14_After_T
theorem qe:ref14_Made_T.ok Tryz.prog:=Tab.ok_cons Er oT
abbrev vG:=Bool
def vP(n:Nat) (v0 v1 v2 v3:Int):Option vG:=
 (bif(decide (0<=v0))then(bif(!(decide (v0<=3)))then some false
 else(bif(decide (0<=v2))then(bif(!(decide (v2<=1000)))then some false
 else(bif(decide (0<=v3))then(bif(!(decide (v3<=10000000)))then some false
 else(bif(decide (v0=0))then some (decide (v1=(-1)))
 else(bif(decide (0<=v1))then(bif(decide (v1<=63))then some (decide (1<=v2))
 else some false)
 else some false)))
 else some false))
 else some false))
 else some false)
def mI(n:Nat) (v0 v1 v2 v3:Int):Option vG:=vP n v0 v1 v2 v3
def life_Valid_t:FnT:=⟨[(true,[.int,.int,.int,.int])],.b,fun n (s:Int×Int×Int×Int)=>mI n s.1 s.2.1 s.2.2.1 s.2.2.2⟩
theorem Fq:life_Valid_t.ok Tryz.prog 222:=FnT.ok_of (cfg:=⟨[],dr,[],dt⟩) (tab:=ref14_Made_T) (mt:=mtE) az qe bB (fun s fn hf=>by rw[Tryz.func222]at hf;cases hf;kernel_rfl) (fun n s=>by kernel_rfl)
def life_Valid_T:Tab:=(222,life_Valid_t)::ref14_Made_T
theorem pO:life_Valid_T.ok Tryz.prog:=Tab.ok_cons Fq qe
abbrev tQ:=Bool
def lT(n:Nat) (v0 v1 v2:Int):Option tQ:=
 (bif(decide (1<=v0))then(bif(!(decide (v0<=7)))then some false
 else(bif(decide (0<=v1))then(bif(!(decide (v1<=10000000)))then some false
 else bif(decide (0<=v0))then bif(decide (v0<8))then(bif(Go.Sx.cB ((((((((([]:Lv)++[[(AV.int 0),(AV.int 0),(AV.bool false)]])++[[(AV.int 1),(AV.int 1),(AV.bool true)]])++[[(AV.int 2),(AV.int 1),(AV.bool true)]])++[[(AV.int 2),(AV.int 2),(AV.bool false)]])++[[(AV.int 4),(AV.int 1),(AV.bool false)]])++[[(AV.int 6),(AV.int 3),(AV.bool false)]])++[[(AV.int 8),(AV.int 1),(AV.bool false)]])++[[(AV.int 8),(AV.int 0),(AV.bool false)]]) v0 2)then(bif(decide (0<=v2))then some (decide (v2<=63))
 else some false)
 else some (decide (v2=(-1))))else none else none)
 else some false))
 else some false)
def iG(n:Nat) (v0 v1 v2:Int):Option tQ:=lT n v0 v1 v2
def life_Formed_t:FnT:=⟨[(true,[.int,.int,.int])],.b,fun n (s:Int×Int×Int)=>iG n s.1 s.2.1 s.2.2⟩
theorem Du:life_Formed_t.ok Tryz.prog 223:=FnT.ok_of (cfg:=⟨[],dr,[],dt⟩) (tab:=life_Valid_T) (mt:=mtE) az pO bB (fun s fn hf=>by rw[Tryz.func223]at hf;cases hf;kernel_rfl) (fun n s=>by kernel_rfl)
def life_Formed_T:Tab:=(223,life_Formed_t)::life_Valid_T
theorem nR:life_Formed_T.ok Tryz.prog:=Tab.ok_cons Du pO
abbrev eW:=Int×Int×Int×Int×Int
def zC(n:Nat) (v1 v2 v3 v4 v5 v6:Int):Option eW:=
 (bif(Go.Sx.cB ((((((((([]:Lv)++[[(AV.int 0),(AV.int 0),(AV.bool false)]])++[[(AV.int 1),(AV.int 1),(AV.bool true)]])++[[(AV.int 2),(AV.int 1),(AV.bool true)]])++[[(AV.int 2),(AV.int 2),(AV.bool false)]])++[[(AV.int 4),(AV.int 1),(AV.bool false)]])++[[(AV.int 6),(AV.int 3),(AV.bool false)]])++[[(AV.int 8),(AV.int 1),(AV.bool false)]])++[[(AV.int 8),(AV.int 0),(AV.bool false)]]) v4 2)then(bif(decide (v2=1000))then some (0,0,0,0,140)
 else(bif(decide (v1=v6))then some (0,0,0,0,140)
 else(bif(decide (v4=7))then bif((decide ((-9223372036854775808)<=(v5-v3)))&&(decide ((v5-v3)<=9223372036854775807)))then(bif(decide ((v5-v3)<2592000))then some (0,0,0,0,140)
 else bif((decide ((-9223372036854775808)<=(v2+1)))&&(decide ((v2+1)<=9223372036854775807)))then(bif(decide ((cI ((((((((([]:Lv)++[[(AV.int 0),(AV.int 0),(AV.bool false)]])++[[(AV.int 1),(AV.int 1),(AV.bool true)]])++[[(AV.int 2),(AV.int 1),(AV.bool true)]])++[[(AV.int 2),(AV.int 2),(AV.bool false)]])++[[(AV.int 4),(AV.int 1),(AV.bool false)]])++[[(AV.int 6),(AV.int 3),(AV.bool false)]])++[[(AV.int 8),(AV.int 1),(AV.bool false)]])++[[(AV.int 8),(AV.int 0),(AV.bool false)]]) v4 1)=0))then some ((cI ((((((((([]:Lv)++[[(AV.int 0),(AV.int 0),(AV.bool false)]])++[[(AV.int 1),(AV.int 1),(AV.bool true)]])++[[(AV.int 2),(AV.int 1),(AV.bool true)]])++[[(AV.int 2),(AV.int 2),(AV.bool false)]])++[[(AV.int 4),(AV.int 1),(AV.bool false)]])++[[(AV.int 6),(AV.int 3),(AV.bool false)]])++[[(AV.int 8),(AV.int 1),(AV.bool false)]])++[[(AV.int 8),(AV.int 0),(AV.bool false)]]) v4 1),(-1),(v2+1),v5,0)
 else some ((cI ((((((((([]:Lv)++[[(AV.int 0),(AV.int 0),(AV.bool false)]])++[[(AV.int 1),(AV.int 1),(AV.bool true)]])++[[(AV.int 2),(AV.int 1),(AV.bool true)]])++[[(AV.int 2),(AV.int 2),(AV.bool false)]])++[[(AV.int 4),(AV.int 1),(AV.bool false)]])++[[(AV.int 6),(AV.int 3),(AV.bool false)]])++[[(AV.int 8),(AV.int 1),(AV.bool false)]])++[[(AV.int 8),(AV.int 0),(AV.bool false)]]) v4 1),v6,(v2+1),v5,0))else none)else none
 else bif((decide ((-9223372036854775808)<=(v2+1)))&&(decide ((v2+1)<=9223372036854775807)))then(bif(decide ((cI ((((((((([]:Lv)++[[(AV.int 0),(AV.int 0),(AV.bool false)]])++[[(AV.int 1),(AV.int 1),(AV.bool true)]])++[[(AV.int 2),(AV.int 1),(AV.bool true)]])++[[(AV.int 2),(AV.int 2),(AV.bool false)]])++[[(AV.int 4),(AV.int 1),(AV.bool false)]])++[[(AV.int 6),(AV.int 3),(AV.bool false)]])++[[(AV.int 8),(AV.int 1),(AV.bool false)]])++[[(AV.int 8),(AV.int 0),(AV.bool false)]]) v4 1)=0))then some ((cI ((((((((([]:Lv)++[[(AV.int 0),(AV.int 0),(AV.bool false)]])++[[(AV.int 1),(AV.int 1),(AV.bool true)]])++[[(AV.int 2),(AV.int 1),(AV.bool true)]])++[[(AV.int 2),(AV.int 2),(AV.bool false)]])++[[(AV.int 4),(AV.int 1),(AV.bool false)]])++[[(AV.int 6),(AV.int 3),(AV.bool false)]])++[[(AV.int 8),(AV.int 1),(AV.bool false)]])++[[(AV.int 8),(AV.int 0),(AV.bool false)]]) v4 1),(-1),(v2+1),v5,0)
 else some ((cI ((((((((([]:Lv)++[[(AV.int 0),(AV.int 0),(AV.bool false)]])++[[(AV.int 1),(AV.int 1),(AV.bool true)]])++[[(AV.int 2),(AV.int 1),(AV.bool true)]])++[[(AV.int 2),(AV.int 2),(AV.bool false)]])++[[(AV.int 4),(AV.int 1),(AV.bool false)]])++[[(AV.int 6),(AV.int 3),(AV.bool false)]])++[[(AV.int 8),(AV.int 1),(AV.bool false)]])++[[(AV.int 8),(AV.int 0),(AV.bool false)]]) v4 1),v6,(v2+1),v5,0))else none)))
 else(bif(decide (v4=7))then bif((decide ((-9223372036854775808)<=(v5-v3)))&&(decide ((v5-v3)<=9223372036854775807)))then(bif(decide ((v5-v3)<2592000))then some (0,0,0,0,140)
 else(bif(decide ((cI ((((((((([]:Lv)++[[(AV.int 0),(AV.int 0),(AV.bool false)]])++[[(AV.int 1),(AV.int 1),(AV.bool true)]])++[[(AV.int 2),(AV.int 1),(AV.bool true)]])++[[(AV.int 2),(AV.int 2),(AV.bool false)]])++[[(AV.int 4),(AV.int 1),(AV.bool false)]])++[[(AV.int 6),(AV.int 3),(AV.bool false)]])++[[(AV.int 8),(AV.int 1),(AV.bool false)]])++[[(AV.int 8),(AV.int 0),(AV.bool false)]]) v4 1)=0))then some ((cI ((((((((([]:Lv)++[[(AV.int 0),(AV.int 0),(AV.bool false)]])++[[(AV.int 1),(AV.int 1),(AV.bool true)]])++[[(AV.int 2),(AV.int 1),(AV.bool true)]])++[[(AV.int 2),(AV.int 2),(AV.bool false)]])++[[(AV.int 4),(AV.int 1),(AV.bool false)]])++[[(AV.int 6),(AV.int 3),(AV.bool false)]])++[[(AV.int 8),(AV.int 1),(AV.bool false)]])++[[(AV.int 8),(AV.int 0),(AV.bool false)]]) v4 1),(-1),v2,v5,0)
 else some ((cI ((((((((([]:Lv)++[[(AV.int 0),(AV.int 0),(AV.bool false)]])++[[(AV.int 1),(AV.int 1),(AV.bool true)]])++[[(AV.int 2),(AV.int 1),(AV.bool true)]])++[[(AV.int 2),(AV.int 2),(AV.bool false)]])++[[(AV.int 4),(AV.int 1),(AV.bool false)]])++[[(AV.int 6),(AV.int 3),(AV.bool false)]])++[[(AV.int 8),(AV.int 1),(AV.bool false)]])++[[(AV.int 8),(AV.int 0),(AV.bool false)]]) v4 1),v1,v2,v5,0)))else none
 else(bif(decide ((cI ((((((((([]:Lv)++[[(AV.int 0),(AV.int 0),(AV.bool false)]])++[[(AV.int 1),(AV.int 1),(AV.bool true)]])++[[(AV.int 2),(AV.int 1),(AV.bool true)]])++[[(AV.int 2),(AV.int 2),(AV.bool false)]])++[[(AV.int 4),(AV.int 1),(AV.bool false)]])++[[(AV.int 6),(AV.int 3),(AV.bool false)]])++[[(AV.int 8),(AV.int 1),(AV.bool false)]])++[[(AV.int 8),(AV.int 0),(AV.bool false)]]) v4 1)=0))then some ((cI ((((((((([]:Lv)++[[(AV.int 0),(AV.int 0),(AV.bool false)]])++[[(AV.int 1),(AV.int 1),(AV.bool true)]])++[[(AV.int 2),(AV.int 1),(AV.bool true)]])++[[(AV.int 2),(AV.int 2),(AV.bool false)]])++[[(AV.int 4),(AV.int 1),(AV.bool false)]])++[[(AV.int 6),(AV.int 3),(AV.bool false)]])++[[(AV.int 8),(AV.int 1),(AV.bool false)]])++[[(AV.int 8),(AV.int 0),(AV.bool false)]]) v4 1),(-1),v2,v5,0)
 else some ((cI ((((((((([]:Lv)++[[(AV.int 0),(AV.int 0),(AV.bool false)]])++[[(AV.int 1),(AV.int 1),(AV.bool true)]])++[[(AV.int 2),(AV.int 1),(AV.bool true)]])++[[(AV.int 2),(AV.int 2),(AV.bool false)]])++[[(AV.int 4),(AV.int 1),(AV.bool false)]])++[[(AV.int 6),(AV.int 3),(AV.bool false)]])++[[(AV.int 8),(AV.int 1),(AV.bool false)]])++[[(AV.int 8),(AV.int 0),(AV.bool false)]]) v4 1),v1,v2,v5,0))))
def zo(n:Nat) (v0 v1 v2 v3 v4 v5 v6:Int):Option eW:=
 (bif(decide ((IOp.f .and (IOp.f .shr (cI ((((((((([]:Lv)++[[(AV.int 0),(AV.int 0),(AV.bool false)]])++[[(AV.int 1),(AV.int 1),(AV.bool true)]])++[[(AV.int 2),(AV.int 1),(AV.bool true)]])++[[(AV.int 2),(AV.int 2),(AV.bool false)]])++[[(AV.int 4),(AV.int 1),(AV.bool false)]])++[[(AV.int 6),(AV.int 3),(AV.bool false)]])++[[(AV.int 8),(AV.int 1),(AV.bool false)]])++[[(AV.int 8),(AV.int 0),(AV.bool false)]]) v4 0) v0) 1)=0))then some (0,0,0,0,140)
 else zC n v1 v2 v3 v4 v5 v6)
def qR(n:Nat) (v0 v1 v2 v3 v4 v5 v6:Int):Option eW:=
 (bif(decide (v5<v3))then some (0,0,0,0,140)
 else bif(decide (0<=v4))then bif(decide (v4<8))then bif(decide (0<=v0))then zo n v0 v1 v2 v3 v4 v5 v6 else none else none else none)
def zH(n:Nat) (v0 v1 v2 v3 v4 v5 v6:Int) (v8:Bool):Option eW:=
 (bif(!v8)then some (0,0,0,0,140)
 else qR n v0 v1 v2 v3 v4 v5 v6)
def Aa(n:Nat) (v0 v1 v2 v3 v4 v5 v6:Int) (v7:Bool):Option eW:=
 (bif(!v7)then some (0,0,0,0,140)
 else(iG n v4 v5 v6).bind fun y8=>
 zH n v0 v1 v2 v3 v4 v5 v6 y8)
def Ac(n:Nat) (v0 v1 v2 v3 v4 v5 v6:Int):Option eW:=
 (mI n v0 v1 v2 v3).bind fun y7=>
 Aa n v0 v1 v2 v3 v4 v5 v6 y7
def lj(n:Nat) (v0 v1 v2 v3 v4 v5 v6:Int):Option eW:=Ac n v0 v1 v2 v3 v4 v5 v6
def life_Step_t:FnT:=⟨[(true,[.int,.int,.int,.int]),(true,[.int,.int,.int])],(.tup (.cons (.agg (.cons .i (.cons .i (.cons .i (.cons .i .nil))))) (.cons .i .nil))),fun n (s:Int×Int×Int×Int×Int×Int×Int)=>lj n s.1 s.2.1 s.2.2.1 s.2.2.2.1 s.2.2.2.2.1 s.2.2.2.2.2.1 s.2.2.2.2.2.2⟩
theorem HM:life_Step_t.ok Tryz.prog 210:=FnT.ok_of (cfg:=⟨[],dr,[],dt⟩) (tab:=life_Formed_T) (mt:=mtE) az nR bB (fun s fn hf=>by rw[Tryz.func210]at hf;cases hf;kernel_rfl) (fun n s=>by kernel_rfl)
def life_Step_T:Tab:=(210,life_Step_t)::life_Formed_T
theorem rZ:life_Step_T.ok Tryz.prog:=Tab.ok_cons HM nR
abbrev m5:=Int×Int×Int×Int×Int×Int
abbrev zG:=Int×Int×Int×Int×Int×Int×Int×Int×Int×Int
def CC(n:Nat) (go0:zG->Option m5) (v0:Lv) (v1 v2 v3 v4 v5 v6 v7 v8 v9 v10:Int):Option m5:=
 (bif(decide (v1<((List.take ((ag (v0.length:Int) 40)).toNat v0).length:Int)))then bif(decide (0<=v1))then(lj n v7 v8 v9 v10 (cI (List.take ((ag (v0.length:Int) 40)).toNat v0) v1 0) (cI (List.take ((ag (v0.length:Int) 40)).toNat v0) v1 1) (cI (List.take ((ag (v0.length:Int) 40)).toNat v0) v1 2)).bind fun y11=>
 (bif(!(decide (y11.2.2.2.2=0)))then(bif(decide (v2<(v0.length:Int)))then some (0,0,0,0,v2,140)
 else some (v3,v4,v5,v6,v2,0))
 else bif((decide ((-9223372036854775808)<=(v1+1)))&&(decide ((v1+1)<=9223372036854775807)))then go0 ((v1+1),(v1+1),y11.1,y11.2.1,y11.2.2.1,y11.2.2.2.1,y11.1,y11.2.1,y11.2.2.1,y11.2.2.2.1)else none)else none
 else(bif(decide (v2<(v0.length:Int)))then some (0,0,0,0,v2,140)
 else some (v3,v4,v5,v6,v2,0)))
def BJ(n:Nat) (v0:Lv):Option m5:=
 bif(decide (0<=(ag (v0.length:Int) 40)))then bif(decide ((ag (v0.length:Int) 40)<=(v0.length:Int)))then(ab (fun go0 s=>CC n go0 v0 s.1 s.2.1 s.2.2.1 s.2.2.2.1 s.2.2.2.2.1 s.2.2.2.2.2.1 s.2.2.2.2.2.2.1 s.2.2.2.2.2.2.2.1 s.2.2.2.2.2.2.2.2.1 s.2.2.2.2.2.2.2.2.2) n ((0,0,0,(-1),0,0,0,(-1),0,0):zG))else none else none
def kF(n:Nat) (v0:Lv):Option m5:=BJ n v0
def life_Run_t:FnT:=⟨[(false,[(.sl (.cons .int (.cons .int (.cons .int .nil))))])],(.tup (.cons (.agg (.cons .i (.cons .i (.cons .i (.cons .i .nil))))) (.cons .i (.cons .i .nil)))),fun n (s:Lv)=>kF n s⟩
theorem Ix:life_Run_t.ok Tryz.prog 158:=FnT.ok_of (cfg:=⟨[((209,3,13),.inv [(.tmp 15 .int),(.cell 1 0 .int),(.cell 2 0 .int),(.cell 2 1 .int),(.cell 2 2 .int),(.cell 2 3 .int),(.cell 7 0 .int),(.cell 7 1 .int),(.cell 7 2 .int),(.cell 7 3 .int)])],dr,[],dt⟩) (tab:=life_Step_T) (mt:=mtE) az rZ bB (fun s fn hf=>by rw[Tryz.func158]at hf;cases hf;kernel_rfl) (fun n s=>by kernel_rfl)
def life_Run_T:Tab:=(158,life_Run_t)::life_Step_T
theorem uT:life_Run_T.ok Tryz.prog:=Tab.ok_cons Ix rZ
abbrev oY:=Int×Int×Int×Int×Bool
abbrev Cf:=Int×Int
def DT(n:Nat) (go0:Cf->Option oY) (v0:Lv) (v1 v8 v9:Int):Option oY:=
 (bif(decide (v8<v9))then bif((decide ((-9223372036854775808)<=(v8+v9)))&&(decide ((v8+v9)<=9223372036854775807)))then bif(decide (0<=1))then bif(decide (0<=(IntKind.wrap .i64 (gK .shr .u64 (IntKind.wrap .u64 (v8+v9)) 1))))then bif(decide ((IntKind.wrap .i64 (gK .shr .u64 (IntKind.wrap .u64 (v8+v9)) 1))<(v0.length:Int)))then(bif(!(decide (v1<(cI v0 (IntKind.wrap .i64 (gK .shr .u64 (IntKind.wrap .u64 (v8+v9)) 1)) 1))))then bif((decide ((-9223372036854775808)<=((IntKind.wrap .i64 (gK .shr .u64 (IntKind.wrap .u64 (v8+v9)) 1))+1)))&&(decide (((IntKind.wrap .i64 (gK .shr .u64 (IntKind.wrap .u64 (v8+v9)) 1))+1)<=9223372036854775807)))then go0 (((IntKind.wrap .i64 (gK .shr .u64 (IntKind.wrap .u64 (v8+v9)) 1))+1),v9)else none
 else go0 (v8,(IntKind.wrap .i64 (gK .shr .u64 (IntKind.wrap .u64 (v8+v9)) 1))))else none else none else none else none
 else bif(decide (0<=v8))then bif(decide (v8<=(v0.length:Int)))then(kF n (List.take (v8).toNat v0)).bind fun y10=>
 some (y10.1,y10.2.1,y10.2.2.1,y10.2.2.2.1,true)else none else none)
def D0(n:Nat) (v0:Lv) (v1:Int):Option oY:=
 (kF n v0).bind fun y2=>
 (bif(!(decide (y2.2.2.2.2.2=0)))then some (0,0,0,0,false)
 else(bif(decide (0<=v1))then(bif(!(decide (v1<=10000000)))then some (0,0,0,0,false)
 else(ab (fun go0 s=>DT n go0 v0 v1 s.1 s.2) n ((0,(v0.length:Int)):Cf)))
 else some (0,0,0,0,false)))
def yE(n:Nat) (v0:Lv) (v1:Int):Option oY:=D0 n v0 v1
def life_at_t:FnT:=⟨[(false,[(.sl (.cons .int (.cons .int (.cons .int .nil))))]),(false,[.int])],(.tup (.cons (.agg (.cons .i (.cons .i (.cons .i (.cons .i .nil))))) (.cons .b .nil))),fun n (s:Lv×Int)=>yE n s.1 s.2⟩
theorem JT:life_at_t.ok Tryz.prog 196:=FnT.ok_of (cfg:=⟨[((214,2,5),.inv [(.tmp 5 .int),(.tmp 6 .int)])],dr,[],dt⟩) (tab:=life_Run_T) (mt:=mtE) az uT bB (fun s fn hf=>by rw[Tryz.func196]at hf;cases hf;kernel_rfl) (fun n s=>by kernel_rfl)
def life_at_T:Tab:=(196,life_at_t)::life_Run_T
theorem vH:life_at_T.ok Tryz.prog:=Tab.ok_cons JT uT
abbrev Ej:=Int×Int×Int×Int×Int
def DU(n:Nat) (v0:Lv) (v1:Int):Option Ej:=
 (yE n v0 v1).bind fun y2=>
 (bif(!y2.2.2.2.2)then some (0,0,0,0,140)
 else some (y2.1,y2.2.1,y2.2.2.1,y2.2.2.2.1,0))
def nn(n:Nat) (v0:Lv) (v1:Int):Option Ej:=DU n v0 v1
def life_At_t:FnT:=⟨[(false,[(.sl (.cons .int (.cons .int (.cons .int .nil))))]),(false,[.int])],(.tup (.cons (.agg (.cons .i (.cons .i (.cons .i (.cons .i .nil))))) (.cons .i .nil))),fun n (s:Lv×Int)=>nn n s.1 s.2⟩
theorem J5:life_At_t.ok Tryz.prog 163:=FnT.ok_of (cfg:=⟨[],dr,[],dt⟩) (tab:=life_at_T) (mt:=mtE) az vH bB (fun s fn hf=>by rw[Tryz.func163]at hf;cases hf;kernel_rfl) (fun n s=>by kernel_rfl)
def life_At_T:Tab:=(163,life_At_t)::life_at_T
theorem xk:life_At_T.ok Tryz.prog:=Tab.ok_cons J5 vH
end
end Go.Proofs.YtgckmifmjiklmaaGreat
namespace Go.Dial.Lif
structure Ev where
 k:Int
 a:Int
 h:Int
deriving DecidableEq
structure Ln where
 s:Int
 h:Int
 e:Int
 t:Int
deriving DecidableEq
structure St where
 h:Int
 e:Int
 f:Int
 t:Int
deriving DecidableEq
def first:Ln:=⟨0,-1,0,0⟩
def zero:Ln:=⟨0,0,0,0⟩
def Vld(l:Ln):Prop:=0<=l.s/\l.s<=3/\0<=l.e/\l.e<=1000/\0<=l.t/\l.t<=10000000/\(l.s=0->l.h= -1)/\(l.s≠0->0<=l.h/\l.h<=63/\1<=l.e)
instance (l:Ln):Decidable (Vld l):=by unfold Vld;infer_instance
def bx(l:Ln):Bool:=decide (Vld l)
def jN(k:Int):Prop:=k=1\/k=2
instance (k:Int):Decidable (jN k):=by unfold jN;infer_instance
def Frm(e:Ev):Prop:=1<=e.k/\e.k<=7/\0<=e.a/\e.a<=10000000/\(jN e.k->0<=e.h/\e.h<=63)/\(¬jN e.k->e.h= -1)
instance (e:Ev):Decidable (Frm e):=by unfold Frm;infer_instance
def qx(e:Ev):Bool:=decide (Frm e)
def Pos(l:Ln) (e:Ev):Prop:=l.t<=e.a/\((e.k=1/\l.s=0/\l.e<1000)\/(e.k=2/\l.s=1/\l.h≠e.h/\l.e<1000)\/(e.k=3/\l.s=1)\/(e.k=4/\l.s=2)\/(e.k=5/\(l.s=1\/l.s=2))\/(e.k=6/\l.s=3)\/(e.k=7/\l.s=3/\l.t+2592000<=e.a))
instance (l:Ln) (e:Ev):Decidable (Pos l e):=by unfold Pos;infer_instance
def nxt(l:Ln) (e:Ev):Ln:=
 if e.k=1\/e.k=2 then⟨1,e.h,l.e+1,e.a⟩else if e.k=3 then⟨2,l.h,l.e,e.a⟩else if e.k=4\/e.k=6 then⟨1,l.h,l.e,e.a⟩else if e.k=5 then⟨3,l.h,l.e,e.a⟩else⟨0,-1,l.e,e.a⟩
def Ok(l:Ln) (e:Ev):Prop:=Vld l/\Frm e/\Pos l e
instance (l:Ln) (e:Ev):Decidable (Ok l e):=by unfold Ok;infer_instance
def oU(l:Ln) (e:Ev):Ln×Int:=if Ok l e then(nxt l e,0)else(zero,140)
theorem n0{l:Ln} {e:Ev} (h:Ok l e):oU l e=(nxt l e,0):=if_pos h
theorem gG{l:Ln} {e:Ev} (h:¬Ok l e):oU l e=(zero,140):=if_neg h
theorem DO:Vld first:=by decide
theorem NL{l:Ln} {e:Ev} (h:Ok l e):Vld (nxt l e):=by
 obtain⟨⟨h1,h2,h3,h4,h5,h6,h7,h8⟩,⟨f1,f2,f3,f4,f5,f6⟩,p1,p2⟩:=h
 unfold jN at f5 f6
 unfold nxt
 by_cases c1:e.k=1\/e.k=2
 ·rw[if_pos c1];have:=f5 c1;refine⟨?_,?_,?_,?_,?_,?_,?_,?_⟩<;>simp only<;>omega
 rw[if_neg c1]
 by_cases c3:e.k=3
 ·rw[if_pos c3];have:=h8 (by omega);refine⟨?_,?_,?_,?_,?_,?_,?_,?_⟩<;>simp only<;>omega
 rw[if_neg c3]
 by_cases c4:e.k=4\/e.k=6
 ·rw[if_pos c4];have:=h8 (by omega);refine⟨?_,?_,?_,?_,?_,?_,?_,?_⟩<;>simp only<;>omega
 rw[if_neg c4]
 by_cases c5:e.k=5
 ·rw[if_pos c5];have:=h8 (by omega);refine⟨?_,?_,?_,?_,?_,?_,?_,?_⟩<;>simp only<;>omega
 rw[if_neg c5]
 refine⟨?_,?_,?_,?_,?_,?_,?_,?_⟩<;>simp<;>omega
theorem M5(l:Ln) (e:Ev):(nxt l e).t=e.a:=by unfold nxt;split;rfl;split;rfl;split;rfl;split<;>rfl
def bO:Ln->List Ev->Ln×Nat
 |l,[]=>(l,0)
 |l,e::es=>if Ok l e then((bO (nxt l e) es).1,(bO (nxt l e) es).2+1)else(l,0)
theorem NF(l:Ln) (es:List Ev):(bO l es).2<=es.length:=by
 induction es generalizing l with
 |nil=>simp[bO]
 |cons e es ih=>unfold bO;split<;>simp;exact ih _
def All:Ln->List Ev->Prop
 |_,[]=>True
 |l,e::es=>Ok l e/\All (nxt l e) es
def fin(l:Ln) (es:List Ev):Ln:=es.foldl nxt l
theorem runF_all{l:Ln} {es:List Ev}:(bO l es).2=es.length↔All l es:=by
 induction es generalizing l with
 |nil=>simp[bO,All]
 |cons e es ih=>
  unfold bO All
  by_cases h:Ok l e
  ·rw[if_pos h];simp only[List.length_cons,Nat.add_right_cancel_iff,ih,h,true_and]
  ·rw[if_neg h];simp[h]
theorem HI{l:Ln} {es:List Ev} (h:All l es):bO l es=(fin l es,es.length):=by
 induction es generalizing l with
 |nil=>rfl
 |cons e es ih=>
  obtain⟨h1,h2⟩:=h
  rw[bO,if_pos h1,ih h2];rfl
theorem LO{l:Ln} (hl:Vld l) (es:List Ev):Vld (bO l es).1:=by
 induction es generalizing l with
 |nil=>exact hl
 |cons e es ih=>
  unfold bO
  by_cases h:Ok l e
  ·rw[if_pos h];exact ih (NL h)
  ·rw[if_neg h];exact hl
theorem Ml{l:Ln} {a b:List Ev} (h:All l a):bO l (a++b)=((bO (fin l a) b).1,a.length+(bO (fin l a) b).2):=by
 induction a generalizing l with
 |nil=>simp[fin]
 |cons e a ih=>
  obtain⟨h1,h2⟩:=h
  rw[List.cons_append,bO,if_pos h1,ih h2]
  simp[fin];omega
theorem qU{l:Ln} {a b:List Ev}:All l (a++b)↔All l a/\All (fin l a) b:=by
 induction a generalizing l with
 |nil=>simp[All,fin]
 |cons e a ih=>simp only[List.cons_append,All,ih,fin,List.foldl_cons,and_assoc]
theorem yV(l:Ln) (a b:List Ev):fin l (a++b)=fin (fin l a) b:=by simp[fin]
theorem I6{l:Ln} {es:List Ev} (hl:Vld l) (h:All l es):Vld (fin l es):=by
 have:=LO hl es
 rwa [HI h]at this
theorem Au{l:Ln} {es:List Ev} (h:All l es) (k:Nat):All l (es.take k):=by
 rw[<-List.take_append_drop k es,qU]at h;exact h.1
def lZ(es:List Ev):(Ln×Nat)×Int:=if(bO first (es.take 40)).2=es.length then(((bO first (es.take 40)).1,es.length),0)else((zero,(bO first (es.take 40)).2),140)
def Life(es:List Ev):Prop:=All first es/\es.length<=40
theorem life_iff{es:List Ev}:(bO first (es.take 40)).2=es.length↔Life es:=by
 constructor
 ·intro h
  have h1:=NF first (es.take 40)
  have h2:es.length<=40:=by simp at h1;omega
  rw[List.take_of_length_le h2]at h
  exact⟨runF_all.1 h,h2⟩
 ·rintro ⟨h1,h2⟩
  rw[List.take_of_length_le h2];exact runF_all.2 h1
instance (es:List Ev):Decidable (Life es):=decidable_of_iff _ life_iff
theorem jf{es:List Ev} (h:Life es):lZ es=((fin first es,es.length),0):=by
 rw[lZ,if_pos (life_iff.2 h),List.take_of_length_le h.2,HI h.1]
theorem yy{es:List Ev} (h:¬Life es):lZ es=((zero,(bO first (es.take 40)).2),140):=by
 rw[lZ,if_neg (fun e=>h (life_iff.1 e))]
theorem KD{es:List Ev} (h:Life es) (k:Nat):Life (es.take k):=⟨Au h.1 k,by have:=h.2;simp;omega⟩
theorem Kp{l:Ln} {es:List Ev} (h:All l es):∀e∈es,l.t<=e.a:=by
 induction es generalizing l with
 |nil=>simp
 |cons x es ih=>
  obtain⟨h1,h2⟩:=h
  intro e he
  have hx:=h1.2.2.1
  rcases List.mem_cons.1 he with rfl|he
  ·exact hx
  ·have:=ih h2 e he;rw[M5]at this;omega
theorem JL{l:Ln} {es:List Ev} (h:All l es) {i j:Nat} (hij:i<=j) (hj:j<es.length):(es[i]'(by omega)).a<=es[j].a:=by
 induction es generalizing l i j with
 |nil=>simp at hj
 | cons x es ih=>
  obtain⟨h1,h2⟩:=h
  cases i with
  | zero=>
   cases j with
   |zero=>exact Int.le_refl _
   |succ j=>
    have:=Kp h2 (es[j]'(by simpa using hj)) (List.getElem_mem _)
    rw[M5]at this
    simpa using this
  |succ i=>
   cases j with
   |zero=>omega
   |succ j=>simpa using ih h2 (i:=i) (j:=j) (by omega) (by simpa using hj)
def dC(es:List Ev) (t:Int):Nat:=(es.takeWhile fun e=>decide (e.a<=t)).length
theorem yK(es:List Ev) (t:Int):dC es t<=es.length:=by
 unfold dC;exact List.Sublist.length_le (List.takeWhile_sublist _)
theorem IJ{es:List Ev} {t:Int} {i:Nat} (h:i<dC es t):(es[i]'(Nat.lt_of_lt_of_le h (yK es t))).a<=t:=by
 have h1:i<(es.takeWhile fun e=>decide (e.a<=t)).length:=h
 have h2:=List.all_eq_true.1 List.all_takeWhile _ (List.getElem_mem h1)
 have h3:(es.takeWhile fun e=>decide (e.a<=t))[i]=es[i]'(Nat.lt_of_lt_of_le h (yK es t)):=by
  have:=(List.takeWhile_prefix (fun e:Ev=>decide (e.a<=t)) (l:=es))
  exact List.IsPrefix.getElem this h1
 rw[h3]at h2;simpa using h2
theorem IO{es:List Ev} {t:Int} (h:dC es t<es.length):t<(es[dC es t]).a:=by
 induction es with
 |nil=>simp at h
 | cons x es ih=>
  by_cases hx:x.a<=t
  ·have e:dC (x::es) t=dC es t+1:=by simp[dC,hx]
   simp only[e]at h⊢
   simpa using ih (by simpa using h)
  ·have e:dC (x::es) t=0:=by simp[dC,hx]
   simp only[e]
   simpa using hx
def atL(es:List Ev) (t:Int):Ln:=fin first (es.take (dC es t))
def l6(es:List Ev) (t:Int):Prop:=Life es/\0<=t/\t<=10000000
instance (es:List Ev) (t:Int):Decidable (l6 es t):=by unfold l6;infer_instance
def atR(es:List Ev) (t:Int):Ln×Int:=if l6 es t then(atL es t,0)else(zero,140)
def MI(l:Ln):Prop:=l.s=1\/l.s=2
instance (l:Ln):Decidable (MI l):=by unfold MI;infer_instance
theorem cn{l:Ln}:bx l=true↔Vld l:=decide_eq_true_iff
def Hj(es:List Ev) (t:Int):Prop:=l6 es t/\MI (atL es t)
instance (es:List Ev) (t:Int):Decidable (Hj es t):=by unfold Hj;infer_instance
def Kx(es:List Ev) (me ma t:Int):Prop:=Hj es ma/\(atL es ma).e=me/\ma<=t/\t<=10000000
instance (es:List Ev) (me ma t:Int):Decidable (Kx es me ma t):=by unfold Kx;infer_instance
theorem NG{es:List Ev} (h:Life es) (t:Int):Vld (atL es t):=I6 DO (Au h.1 _)
end Go.Dial.Lif
set_option maxRecDepth 100000
namespace Go.Proofs.YtgckmifmjiklmaaGreat
open Go Go.Sx Go.Dial.Lif
theorem EV(n:Nat) (l:Ln):kM n l.s l.h l.e l.t=some (Go.Dial.Lif.bx l):=by
 unfold kM uD Go.Dial.Lif.bx Vld
 grind
theorem Gm(n:Nat) (l:Ln):mI n l.s l.h l.e l.t=some (Go.Dial.Lif.bx l):=by
 unfold mI vP Go.Dial.Lif.bx Vld
 grind
theorem De(n:Nat) (e:Ev):jD n e.k e.a e.h=some (qx e):=by
 unfold jD sq qx Frm jN
 grind
theorem AH(n:Nat) (l:Ln) (e:Ev) (hl:Vld l) (he:Frm e):ia n l.s l.h l.e l.t e.k e.a e.h=some (decide (Pos l e)):=by
 unfold Vld at hl
 unfold Frm jN at he
 by_cases hp:Pos l e<;>simp only[hp,decide_true,decide_false]<;>unfold Pos at hp<;>unfold ia oL<;>grind
abbrev ip(l:Ln) (e:Ev):Int×Int×Int×Int×Int:=((oU l e).1.s,(oU l e).1.h,(oU l e).1.e,(oU l e).1.t,(oU l e).2)
theorem oo(n:Nat) (l:Ln) (e:Ev):fU n l.s l.h l.e l.t e.k e.a e.h=some (ip l e):=by
 unfold fU vT ip
 rw[EV,De]
 by_cases h1:Vld l
 ·by_cases h2:Frm e
  ·rw[AH n l e h1 h2]
   by_cases h3:Pos l e
   ·rw[n0 ⟨h1,h2,h3⟩]
    simp only[Go.Dial.Lif.bx,qx,h1,h2,h3,decide_true,Option.bind_some,Bool.not_true,cond_false]
    unfold nxt
    unfold Vld at h1
    unfold Frm jN at h2
    unfold Pos at h3
    grind
   ·rw[gG (fun h=>h3 h.2.2)]
    simp[Go.Dial.Lif.bx,qx,h1,h2,h3,zero]
  ·rw[gG (fun h=>h2 h.2.1)]
   simp[Go.Dial.Lif.bx,qx,h1,h2,zero]
 ·rw[gG (fun h=>h1 h.1)]
  simp[Go.Dial.Lif.bx,h1,zero]
theorem kinds{k:Int} (h1:1<=k) (h2:k<=7):k=1\/k=2\/k=3\/k=4\/k=5\/k=6\/k=7:=by omega
theorem N6{s:Int} (h1:0<=s) (h2:s<=3):s=0\/s=1\/s=2\/s=3:=by omega
theorem FK(n:Nat) (e:Ev):iG n e.k e.a e.h=some (qx e):=by
 obtain⟨k,a,h⟩:=e
 by_cases hk:1<=k/\k<=7
 ·unfold iG lT qx Frm jN
  rcases kinds hk.1 hk.2 with rfl|rfl|rfl|rfl|rfl|rfl|rfl<;>simp[Go.Sx.cB,cA]<;>grind
 ·unfold iG lT qx Frm jN
  grind
theorem OB:IOp.f .and (IOp.f .shr 1 0) 1=1:=by decide +kernel
theorem Od:IOp.f .and (IOp.f .shr 1 1) 1=0:=by decide +kernel
theorem Ot:IOp.f .and (IOp.f .shr 1 2) 1=0:=by decide +kernel
theorem OG:IOp.f .and (IOp.f .shr 1 3) 1=0:=by decide +kernel
theorem NX:IOp.f .and (IOp.f .shr 2 0) 1=0:=by decide +kernel
theorem NY:IOp.f .and (IOp.f .shr 2 1) 1=1:=by decide +kernel
theorem OL:IOp.f .and (IOp.f .shr 2 2) 1=0:=by decide +kernel
theorem Ow:IOp.f .and (IOp.f .shr 2 3) 1=0:=by decide +kernel
theorem O0:IOp.f .and (IOp.f .shr 4 0) 1=0:=by decide +kernel
theorem OZ:IOp.f .and (IOp.f .shr 4 1) 1=0:=by decide +kernel
theorem OY:IOp.f .and (IOp.f .shr 4 2) 1=1:=by decide +kernel
theorem Oo:IOp.f .and (IOp.f .shr 4 3) 1=0:=by decide +kernel
theorem NW:IOp.f .and (IOp.f .shr 6 0) 1=0:=by decide +kernel
theorem OP:IOp.f .and (IOp.f .shr 6 1) 1=1:=by decide +kernel
theorem N0:IOp.f .and (IOp.f .shr 6 2) 1=1:=by decide +kernel
theorem Or:IOp.f .and (IOp.f .shr 6 3) 1=0:=by decide +kernel
theorem NZ:IOp.f .and (IOp.f .shr 8 0) 1=0:=by decide +kernel
theorem OA:IOp.f .and (IOp.f .shr 8 1) 1=0:=by decide +kernel
theorem Oz:IOp.f .and (IOp.f .shr 8 2) 1=0:=by decide +kernel
theorem Ox:IOp.f .and (IOp.f .shr 8 3) 1=1:=by decide +kernel
theorem EI(n:Nat) (l:Ln) (e:Ev) (h1:Vld l) (h2:Frm e):qR n l.s l.h l.e l.t e.k e.a e.h=some (ip l e):=by
 obtain⟨k,a,h⟩:=e
 obtain⟨s,g,p,t⟩:=l
 unfold ip oU Go.Dial.Lif.Ok Pos
 simp only[h1,h2,true_and]
 unfold Vld at h1
 unfold Frm jN at h2
 unfold nxt zero qR zo zC
 simp only at h1 h2⊢
 rcases kinds h2.1 h2.2.1 with rfl|rfl|rfl|rfl|rfl|rfl|rfl<;>rcases N6 h1.1 h1.2.1 with rfl|rfl|rfl|rfl <;>
  simp[cI,Go.Sx.cB,cA,OB,Od,Ot,OG,NX,NY,OL,Ow,O0,OZ,OY,Oo,NW,OP,N0,Or,NZ,OA,Oz,Ox]<;>grind
theorem Ie(n:Nat) (l:Ln) (e:Ev):lj n l.s l.h l.e l.t e.k e.a e.h=some (ip l e):=by
 unfold lj Ac Aa zH
 rw[Gm,FK]
 by_cases h1:Vld l
 ·by_cases h2:Frm e
  ·simp only[Go.Dial.Lif.bx,qx,h1,h2,decide_true,Option.bind_some,Bool.not_true,cond_false]
   exact EI n l e h1 h2
  ·unfold ip
   rw[gG (fun h=>h2 h.2.1)]
   simp[Go.Dial.Lif.bx,qx,h1,h2,zero]
 ·unfold ip
  rw[gG (fun h=>h1 h.1)]
  simp[Go.Dial.Lif.bx,h1,zero]
set_option maxRecDepth 100000
abbrev lfR(e:Ev):List AV:=[.int e.k,.int e.a,.int e.h]
abbrev lfL(es:List Ev):Lv:=es.map lfR
abbrev l7(es:List Ev):Int×Int×Int×Int×Int×Int:=((lZ es).1.1.s,(lZ es).1.1.h,(lZ es).1.1.e,(lZ es).1.1.t,((lZ es).1.2:Int),(lZ es).2)
theorem kW{es:List Ev} {i:Nat} {e:Ev} (hA:All first (es.take i)) (h40:i<=40) (he:es[i]?=some e) (hs:i=40\/¬Go.Dial.Lif.Ok (fin first (es.take i)) e):lZ es=((zero,i),140):=by
 have hi:i<es.length:=(List.getElem?_eq_some_iff.1 he).1
 have e1:es.take 40=es.take i++(es.drop i).take (40-i):=by
  rw[<-List.take_append_drop i (es.take 40),List.take_take,List.drop_take]
  congr 2
  omega
 have e2:(bO first (es.take 40)).2=i:=by
  rw[e1,Ml hA]
  have hl:(es.take i).length=i:=by simp;omega
  have:(bO (fin first (es.take i)) ((es.drop i).take (40-i))).2=0:=by
   rcases hs with hs|hs
   ·subst hs;simp[bO]
   ·cases hk:40-i with
    |zero=>simp[bO]
    | succ k=>
     have:es.drop i=e::es.drop (i+1):=by
      rw[List.drop_eq_getElem_cons hi]
      congr 1
      exact(List.getElem?_eq_some_iff.1 he).2
     rw[this,List.take_succ_cons,bO,if_neg hs]
  simp[hl,this]
 rw[yy (fun h=>?_),e2]
 have:=life_iff.2 h
 omega
theorem DZ{es:List Ev} {i:Nat} (hA:All first (es.take i)) (h40:i<=40) (he:i=es.length):lZ es=((fin first (es.take i),i),0):=by
 subst he
 rw[List.take_length]at hA⊢
 exact jf ⟨hA,h40⟩
theorem Il(n:Nat) (es:List Ev) (hn:es.length<n):pa n (lfL es)=some (l7 es):=by
 unfold pa zq
 refine aA (fun s=>∃(i:Nat) (l:Ln),s=((i:Int),l.s,l.h,l.e,l.t)/\i<=es.length/\i<=40/\All first (es.take i)/\l=fin first (es.take i)) (fun s=>es.length-s.1.toNat) _ ?_ n _ ⟨0,first,rfl,by omega,by omega,trivial,rfl⟩ (by simp;omega)
 rintro _ go ⟨i,l,rfl,hi,h40,hA,hl⟩ ih
 simp only
 unfold zV
 have c2:(0:Int)<=(i:Int):=by omega
 have c4:(-9223372036854775808:Int)<=(i:Int)+1:=by omega
 have c5:(i:Int)+1<=(9223372036854775807:Int):=by omega
 by_cases hlt:i<es.length
 ·obtain⟨e,he⟩:=aI hlt
  have hc:∀k,cA (lfL es) (i:Int) k=(lfR e).getD k (.int 0):=fun k=>bH (by simpa using he)
  have hs:fU n l.s l.h l.e l.t (cI (lfL es) i 0) (cI (lfL es) i 1) (cI (lfL es) i 2)=some (ip l e):=by
   simp only[cI,hc]
   exact oo n l e
  have c1:(i:Int)<(es.length:Int):=by omega
  simp only[hs,List.length_map,Option.bind_some,c1,c2,c4,c5,decide_true,cond_true,Bool.and_self,ip]
  by_cases hok:Go.Dial.Lif.Ok l e
  ·simp only[n0 hok,decide_true,Bool.not_true,cond_false]
   by_cases h4:i=40
   ·have h4':(i:Int)=40:=by omega
    simp only[h4',decide_true,cond_true]
    unfold l7
    rw[kW hA h40 he (.inl h4),h4];rfl
   ·have h4':¬(i:Int)=40:=by omega
    simp only[h4',decide_false,cond_false]
    exact ih _ ⟨i+1,nxt l e,rfl,by omega,by omega,by rw[bW he,qU];exact⟨hA,by rw[<-hl];exact⟨hok,trivial⟩⟩,by rw[bW he,yV,<-hl];rfl⟩ (by simp only;omega)
  ·have e140:decide ((140:Int)=0)=false:=rfl
   simp only[gG hok,e140,Bool.not_false,cond_true]
   unfold l7
   rw[kW hA h40 he (.inr (by rw[<-hl];exact hok))];rfl
 ·have h0:i=es.length:=by omega
  have c1:¬(i:Int)<(es.length:Int):=by omega
  simp only[List.length_map,c1,decide_false,cond_false]
  unfold l7
  rw[DZ hA h40 h0,<-hl,h0]
theorem tA(n:Nat) (es:List Ev) (hn:es.length<n):kF n (lfL es)=some (l7 es):=by
 unfold kF BJ
 have c1:0<=ag ((lfL es).length:Int) 40:=by unfold ag;split<;>omega
 have c2:ag ((lfL es).length:Int) 40<=((lfL es).length:Int):=by unfold ag;split<;>omega
 have hT:List.take (ag ((lfL es).length:Int) 40).toNat (lfL es)=lfL (es.take 40):=by
  unfold lfL ag
  rw[<-List.map_take]
  congr 1
  split
  ·rfl
  ·rw[List.take_of_length_le (by simp),List.take_of_length_le (by simp at *;omega)]
 simp only[c1,c2,decide_true,cond_true]
 refine aA (fun s=>∃(i:Nat) (l:Ln),s=((i:Int),(i:Int),l.s,l.h,l.e,l.t,l.s,l.h,l.e,l.t)/\i<=es.length/\i<=40/\All first (es.take i)/\l=fin first (es.take i)) (fun s=>es.length-s.1.toNat) _ ?_ n _ ⟨0,first,rfl,by omega,by omega,trivial,rfl⟩ (by simp;omega)
 rintro _ go ⟨i,l,rfl,hi,h40,hA,hl⟩ ih
 simp only
 unfold CC
 rw[hT]
 have c2:(0:Int)<=(i:Int):=by omega
 have c4:(-9223372036854775808:Int)<=(i:Int)+1:=by omega
 have c5:(i:Int)+1<=(9223372036854775807:Int):=by omega
 by_cases hlt:i<es.length
 ·obtain⟨e,he⟩:=aI hlt
  have c3:(i:Int)<(es.length:Int):=by omega
  by_cases h4:i=40
  ·have c1:¬(i:Int)<((es.take 40).length:Int):=by rw[List.length_take];omega
   simp only[List.length_map,c1,decide_false,cond_false,c3,decide_true,cond_true]
   unfold l7
   rw[kW hA h40 he (.inl h4)];rfl
  ·have hc:∀k,cA (lfL (es.take 40)) (i:Int) k=(lfR e).getD k (.int 0):=fun k=>bH (by
    rw[show(i:Int).toNat=i by simp,List.getElem?_take,if_pos (by omega)];exact he)
   have hs:lj n l.s l.h l.e l.t (cI (lfL (es.take 40)) i 0) (cI (lfL (es.take 40)) i 1) (cI (lfL (es.take 40)) i 2)=some (ip l e):=by
    simp only[cI,hc]
    exact Ie n l e
   have c1:(i:Int)<((es.take 40).length:Int):=by rw[List.length_take];omega
   simp only[hs,List.length_map,c1,c2,c4,c5,decide_true,cond_true,Bool.and_self,Option.bind_some,ip]
   by_cases hok:Go.Dial.Lif.Ok l e
   ·simp only[n0 hok,decide_true,Bool.not_true,cond_false]
    exact ih _ ⟨i+1,nxt l e,rfl,by omega,by omega,by rw[bW he,qU];exact⟨hA,by rw[<-hl];exact⟨hok,trivial⟩⟩,by rw[bW he,yV,<-hl];rfl⟩ (by simp only;omega)
   ·have e140:decide ((140:Int)=0)=false:=rfl
    simp only[gG hok,e140,Bool.not_false,cond_true,List.length_map,c3,decide_true]
    unfold l7
    rw[kW hA h40 he (.inr (by rw[<-hl];exact hok))];rfl
 ·have h0:i=es.length:=by omega
  have c1:¬(i:Int)<((es.take 40).length:Int):=by rw[List.length_take];omega
  have c3:¬(i:Int)<(es.length:Int):=by omega
  simp only[List.length_map,c1,c3,decide_false,cond_false]
  unfold l7
  rw[DZ hA h40 h0,<-hl]
set_option maxRecDepth 100000
theorem fd(n:Nat) {c k:Int} (hc:aj c) (hk:0<k):bb n c k=some (pk c k):=by
 unfold bb xS pk
 unfold aj at hc
 grind
theorem Mk{es:List Ev} {t:Int} {i:Nat} {e:Ev} (he:es[i]?=some e) (hi:i<=dC es t):(i<dC es t↔e.a<=t):=by
 have hlt:=(List.getElem?_eq_some_iff.1 he)
 obtain⟨hl,rfl⟩:=hlt
 constructor
 ·intro h;exact IJ h
 ·intro h
  rcases Nat.lt_or_ge i (dC es t)with h1|h1
  ·exact h1
  ·have:i=dC es t:=by omega
   subst this
   have:=IO hl
   omega
theorem Jd(n:Nat) (es:List Ev) (t:Int) (hL:Life es) (hn:es.length<n):tg n (lfL es) t=some ((atL es t).s,(atL es t).h,(atL es t).e,(atL es t).t):=by
 unfold tg BC
 refine aA (fun s=>∃(i:Nat) (l:Ln),s=((i:Int),l.s,l.h,l.e,l.t)/\i<=dC es t/\l=fin first (es.take i)) (fun s=>es.length-s.1.toNat) _ ?_ n _ ⟨0,first,rfl,by omega,rfl⟩ (by simp;omega)
 rintro _ go ⟨i,l,rfl,hi,hl⟩ ih
 simp only
 unfold BQ
 have hle:=yK es t
 have h40:=hL.2
 have c2:(0:Int)<=(i:Int):=by omega
 have c4:(-9223372036854775808:Int)<=(i:Int)+1:=by omega
 have c5:(i:Int)+1<=(9223372036854775807:Int):=by omega
 by_cases hlt:i<es.length
 ·obtain⟨e,he⟩:=aI hlt
  have hc:∀k,cA (lfL es) (i:Int) k=(lfR e).getD k (.int 0):=fun k=>bH (by simpa using he)
  have h0:cI (lfL es) i 0=e.k:=by simp only[cI,hc];rfl
  have h1:cI (lfL es) i 1=e.a:=by simp only[cI,hc];rfl
  have h2:cI (lfL es) i 2=e.h:=by simp only[cI,hc];rfl
  have c1:(i:Int)<(es.length:Int):=by omega
  simp only[h0,h1,h2,oo n l e,List.length_map,Option.bind_some,c1,c2,c4,c5,decide_true,cond_true,Bool.and_self,ip]
  have hu:=Mk he hi
  by_cases ht:e.a<=t
  ·have hok:Go.Dial.Lif.Ok l e:=by
    have:=(Au hL.1 (i+1))
    rw[bW he,qU,<-hl]at this
    exact this.2.1
   simp only[ht,decide_true,cond_true,n0 hok]
   exact ih _ ⟨i+1,nxt l e,rfl,by have:=hu.2 ht;omega,by rw[bW he,yV,<-hl];rfl⟩ (by simp only;omega)
  ·simp only[ht,decide_false,cond_false]
   have:i=dC es t:=by
    have:¬i<dC es t:=fun h=>ht (hu.1 h)
    omega
   unfold atL
   rw[<-this,<-hl]
 ·have h0:i=es.length:=by omega
  have c1:¬(i:Int)<(es.length:Int):=by omega
  simp only[List.length_map,c1,decide_false,cond_false]
  have:i=dC es t:=by omega
  unfold atL
  rw[<-this,<-hl]
theorem JX(n:Nat) (es:List Ev) (hn:es.length<n):sW n (lfL es)=some (decide (Life es)):=by
 unfold sW Cq
 rw[Il n es hn]
 simp only[Option.bind_some,l7]
 by_cases h:Life es
 ·rw[jf h];simp[h]
 ·rw[yy h];simp[h]
abbrev atT(es:List Ev) (t:Int):Int×Int×Int×Int×Int:=((atR es t).1.s,(atR es t).1.h,(atR es t).1.e,(atR es t).1.t,(atR es t).2)
theorem J7(n:Nat) (es:List Ev) (t:Int) (hn:es.length<n):dF n (lfL es) t=some (atT es t):=by
 unfold dF B5 atT atR l6
 rw[JX n es hn]
 by_cases h:Life es
 ·rw[Jd n es t h hn]
  simp only[h,decide_true,Option.bind_some,Bool.not_true,cond_false,true_and]
  unfold zero
  grind
 ·simp[h,zero]
theorem PF{a b:Int} (ha:0<=a) (hb:0<=b) (h:a+b<=9223372036854775807):IntKind.wrap .i64 (gK .shr .u64 (IntKind.wrap .u64 (a+b)) 1)=(a+b) / 2:=by
 have h1:IntKind.wrap .u64 (a+b)=a+b:=by
  unfold IntKind.wrap
  simp only[IntKind.bits,IntKind.signed,Bool.false_and]
  simp
  omega
 rw[h1]
 have h2:gK .shr .u64 (a+b) 1=(a+b) / 2:=by
  unfold gK
  simp only[IntKind.bits]
  rw[Int.fdiv_eq_ediv_of_nonneg _ (by decide)]
  rfl
 rw[h2]
 unfold IntKind.wrap
 simp only[IntKind.bits,IntKind.signed,Bool.true_and]
 have h3:(a+b) / 2 % 2 ^ 64=(a+b) / 2:=Int.emod_eq_of_lt (by omega) (by omega)
 simp only[h3]
 rw[if_neg (by simp;omega)]
end Go.Proofs.YtgckmifmjiklmaaGreat
set_option maxRecDepth 100000
namespace Go.Proofs.YtgckmifmjiklmaaGreat
open Go Go.Sx Go.Dial.Clm
abbrev ceR(e:Ce):List AV:=[.int e.k,.int e.a,.int e.r]
abbrev ceL(es:List Ce):Lv:=es.map ceR
abbrev csR(x:Cs):List AV:=[.int x.s,.int x.f,.int x.n]
abbrev csL(l:List Cs):Lv:=l.map csR
theorem aJ(n:Nat) {c k:Int} (hc:aj c) (hk:0<k):ae n c k=some (pk c k):=by
 unfold ae wJ pk
 unfold aj at hc
 grind
theorem FT(n:Nat) (r:Rl):kX n r.a r.c r.s r.r=some (decide (RlV r)):=by
 by_cases h:RlV r<;>simp only[h,decide_true,decide_false]<;>unfold RlV at h<;>unfold kX uB<;>grind
theorem Fr(n:Nat) (c:Cl):lc n c.n c.f c.t c.h c.a c.b=some (decide (ClV c)):=by
 by_cases h:ClV c<;>simp only[h,decide_true,decide_false]<;>unfold ClV at h<;>unfold lc uK<;>grind
theorem dv{α:Type} {l:List α} {i:Nat} {x:α} (h:l[i]?=some x):l.drop i=x::l.drop (i+1):=by
 obtain⟨hl,rfl⟩:=List.getElem?_eq_some_iff.1 h
 exact List.drop_eq_getElem_cons hl
theorem E7(n:Nat) (r:Rl) (c:Cl) (es:List Ce) (hn:25<n):iM n r.a r.c r.s r.r c.n c.f c.t c.h c.a c.b (ceL es)=some (decide (dq r c es)):=by
 unfold iM tU dq
 rw[FT,Fr]
 by_cases h1:RlV r
 ·by_cases h2:ClV c
  ·by_cases h3:es.length<=20
   ·have c3:¬(20:Int)<(es.length:Int):=by omega
    simp only[h1,h2,h3,decide_true,Option.bind_some,Bool.not_true,cond_false,List.length_map,c3,decide_false,true_and]
    refine aA (fun s=>∃(i:Nat) (last:Int),s=(last,(i:Int))/\i<=es.length/\(EvV c.a es↔EvV last (es.drop i))) (fun s=>es.length-s.2.toNat) _ ?_ n _ ⟨0,c.a,rfl,by omega,by simp⟩ (by simp;omega)
    rintro _ go ⟨i,last,rfl,hi,hE⟩ ih
    simp only
    unfold vn
    by_cases hlt:i<es.length
    ·obtain⟨e,he⟩:=aI hlt
     have hc:∀k,cA (ceL es) (i:Int) k=(ceR e).getD k (.int 0):=fun k=>bH (by simpa using he)
     have g0:cI (ceL es) i 0=e.k:=by simp only[cI,hc];rfl
     have g1:cI (ceL es) i 1=e.a:=by simp only[cI,hc];rfl
     have g2:cI (ceL es) i 2=e.r:=by simp only[cI,hc];rfl
     have c1:(i:Int)<(es.length:Int):=by omega
     have c2:(0:Int)<=(i:Int):=by omega
     have c4:(-9223372036854775808:Int)<=(i:Int)+1:=by omega
     have c5:(i:Int)+1<=(9223372036854775807:Int):=by omega
     simp only[g0,g1,g2,List.length_map,c1,c2,c4,c5,decide_true,cond_true,Bool.and_self]
     rw[dv he]at hE
     have hgo:CeV last e->go (e.a,(i:Int)+1)=some (decide (EvV c.a es)):=fun hv=>ih _ ⟨i+1,e.a,by simp,by omega,by rw[hE];exact⟨fun h=>h.2,fun h=>⟨hv,h⟩⟩⟩ (by simp only;omega)
     by_cases hv:CeV last e
     ·rw[hgo hv]
      unfold CeV at hv
      grind
     ·have:¬EvV c.a es:=fun h=>hv (hE.1 h).1
      simp only[this,decide_false]
      unfold CeV at hv
      grind
    ·have h0:i=es.length:=by omega
     have c1:¬(i:Int)<(es.length:Int):=by omega
     simp only[List.length_map,c1,decide_false,cond_false]
     subst h0
     rw[List.drop_length]at hE
     have:EvV c.a es:=hE.2 trivial
     simp[this]
   ·have c3:(20:Int)<(es.length:Int):=by omega
    simp only[h1,h2,h3,decide_true,Option.bind_some,Bool.not_true,cond_false,List.length_map,c3,cond_true,true_and,false_and,decide_false]
  ·simp[h1,h2]
 ·simp[h1]
abbrev stT(x:Cs):Int×Int×Int:=(x.s,x.f,x.n)
theorem ir(n:Nat) (r:Rl) (hr:RlV r) (s f:Int) (h1:0<=f) (h2:f<=100000000):cd n r.a r.c r.s r.r s f=some (stT (st r s f)):=by
 unfold cd rq stT st dur
 unfold RlV at hr
 grind
theorem ue(n:Nat) (s:Int):iI n s=some (aft s):=by
 unfold iI uR aft
 grind
theorem Ba(n:Nat) (c:Cl) (s:Int) (e:Ce):dG n c.n c.f c.t c.h c.a c.b s e.k e.a e.r=some (bec c.b s e):=by
 unfold dG qt bec
 grind
set_option maxRecDepth 100000
theorem jk{out:List Cs} {now:Cs} (h:out.getLast?=some now) (k:Nat):cA (csL out) ((out.length:Int)-1) k=(csR now).getD k (.int 0):=by
 refine bH ?_
 rw[List.getLast?_eq_getElem?]at h
 rw[show((out.length:Int)-1).toNat=out.length-1 by omega]
 exact h
theorem HO{out:List Cs} {now:Cs} (h:out.getLast?=some now):1<=out.length:=by
 cases out with
 |nil=>cases h
 |cons x l=>simp
structure RunI (r:Rl) (c:Cl) (es:List Ce) (u:Int) (out:List Cs) (now:Cs) (i:Nat):Prop where
 le:i<=es.length
 last:out.getLast?=some now
 form:∃s f,now=st r s f/\0<=f/\f<=40000000
 rest:cP u (ar r c es)=out++cP u (tl r c.b now (es.drop i))
 evs:∃l,0<=l/\EvV l (es.drop i)
theorem RunI.len{r:Rl} {c:Cl} {es:List Ce} {u:Int} {out:List Cs} {now:Cs} {i:Nat} (h:RunI r c es u out now i) (hl:es.length<=20):out.length<=110:=by
 have h1:(cP u (ar r c es)).length<=(ar r c es).length:=by unfold cP;exact List.Sublist.length_le (List.takeWhile_sublist _)
 have h2:=GG (r:=r) (b:=c.b) _ (x0 r c) es (Nat.le_refl _)
 have h3:=eH (x0 r c).s
 have h4:=congrArg List.length h.rest
 unfold ar at h1 h4
 simp only[List.length_cons,List.length_append]at h1 h4
 omega
theorem F0{r:Rl} (hr:RlV r) {s f:Int} (h0:0<=f):0<=(st r s f).n↔act (st r s f):=by
 unfold act
 by_cases h:1<=s/\s<=4
 ·have:=(qw hr (f:=f) h).1
  exact⟨fun _=>h,fun _=>by omega⟩
 ·simp only[st]
  rw[if_neg h]
  exact⟨fun h'=>by omega,fun h'=>absurd h' h⟩
theorem KJ{u:Int} {l:List Cs} (h:∀x∈l,u<x.f):cP u l=[]:=by
 cases l with
 |nil=>rfl
 |cons x l=>
  have:=h x (List.mem_cons_self ..)
  unfold cP
  rw[List.takeWhile_cons]
  simp;omega
theorem rU{u:Int} {x:Cs} {l:List Cs} (h:x.f<=u):cP u (x::l)=x::cP u l:=by
 unfold cP
 rw[List.takeWhile_cons]
 simp[h]
theorem RunI.auto{r:Rl} {c:Cl} {es:List Ce} {u:Int} {out:List Cs} {now:Cs} {i:Nat} (hr:RlV r) (hu:u<=40000000) (h:RunI r c es u out now i) (ha:act now) (h1:∀e,es[i]?=some e->now.n<=e.a) (h2:now.n<=u):
  RunI r c es u (out++[st r (aft now.s) now.n]) (st r (aft now.s) now.n) i:=by
 obtain⟨s,f,hf,f0,f1⟩:=h.form
 have h0:0<=now.n:=by rw[hf];exact(F0 hr f0).2 (hf▸ha)
 refine⟨h.le,by simp,⟨_,_,rfl,h0,by omega⟩,?_,h.evs⟩
 rw[h.rest]
 have:tl r c.b now (es.drop i)=st r (aft now.s) now.n::tl r c.b (st r (aft now.s) now.n) (es.drop i):=by
  cases hd:es.drop i with
  |nil=>exact r7 ha
  | cons e rest=>
   have he:es[i]?=some e:=by
    have:=congrArg (fun l=>l[0]?) hd
    simpa using this
   exact nj ⟨ha,h1 e he⟩
 rw[this,rU (by exact h2)]
 simp
theorem RunI.done{r:Rl} {c:Cl} {es:List Ce} {u:Int} {out:List Cs} {now:Cs} {i:Nat} (hr:RlV r) (h:RunI r c es u out now i) (h1:act now->u<now.n) (h2:∀e,es[i]?=some e->u<e.a):cP u (ar r c es)=out:=by
 rw[h.rest]
 obtain⟨l,l0,hE⟩:=h.evs
 have:cP u (tl r c.b now (es.drop i))=[]:=by
  refine KJ fun x hx=>?_
  have:=M2 hr (b:=c.b) (now:=now) (es:=es.drop i) (m:=u+1) (fun ha=>by have:=h1 ha;omega) (fun e he=>?_) x hx
  ·omega
  ·cases hd:es.drop i with
   |nil=>rw[hd]at he;cases he
   | cons y rest=>
    have hy:es[i]?=some y:=by
     have:=congrArg (fun l=>l[0]?) hd
     simpa using this
    have h3:=h2 y hy
    rw[hd]at he hE
    rcases List.mem_cons.1 he with rfl|he
    ·omega
    ·have:=(BW hE.2 e he).1;omega
 rw[this];simp
theorem RunI.event{r:Rl} {c:Cl} {es:List Ce} {u:Int} {out:List Cs} {now:Cs} {i:Nat} {e:Ce} (h:RunI r c es u out now i) (he:es[i]?=some e) (h1:¬(act now/\now.n<=e.a)) (hb:¬bec c.b now.s e<0) (h2:e.a<=u):
  RunI r c es u (out++[st r (bec c.b now.s e) e.a]) (st r (bec c.b now.s e) e.a) (i+1):=by
 obtain⟨l,l0,hE⟩:=h.evs
 have hd:=dv he
 rw[hd]at hE
 have hlt:=(List.getElem?_eq_some_iff.1 he).1
 refine⟨hlt,by simp,⟨_,_,rfl,by have:=hE.1.2.2.1;omega,by have:=hE.1.2.2.2.1;omega⟩,?_,⟨e.a,by have:=hE.1.2.2.1;omega,hE.2⟩⟩
 rw[h.rest,hd,yT h1 hb,rU (by exact h2)]
 simp
theorem RunI.void{r:Rl} {c:Cl} {es:List Ce} {u:Int} {out:List Cs} {now:Cs} {i:Nat} {e:Ce} (h:RunI r c es u out now i) (he:es[i]?=some e) (h1:¬(act now/\now.n<=e.a)) (hb:bec c.b now.s e<0):RunI r c es u out now (i+1):=by
 obtain⟨l,l0,hE⟩:=h.evs
 have hd:=dv he
 rw[hd]at hE
 have hlt:=(List.getElem?_eq_some_iff.1 he).1
 refine⟨hlt,h.last,h.form,?_,⟨e.a,by have:=hE.1.2.2.1;omega,hE.2⟩⟩
 rw[h.rest,hd,ng h1 hb]
theorem NB{n:Nat} {r:Rl} {c:Cl} {es:List Ce} {u:Int} {out:List Cs} {now:Cs} {i:Nat} {go:fa->Option bU} (hr:RlV r) (hu2:u<=40000000) (hlen:es.length<=20) (hI:RunI r c es u out now i) (h0:i=es.length) (hn:rk now.s<n) (vd:Lv) (hv:True):
  ∃q:Lv×Lv,(bif decide ((i:Int)<(es.length:Int))then none else ab (fun go1 s=>qN n go go1 r.a r.c r.s r.r c.n c.f c.t c.h c.a c.b (ceL es) u vd (i:Int) s.1 s.2.1 s.2.2.2) n (csL out,now.s,now.f,now.n))=some q/\q.1=csL (cP u (ar r c es)):=by
 have c7:¬(i:Int)<(es.length:Int):=by omega
 have hnone:∀e,¬es[i]?=some e:=fun e he=>by have:=(List.getElem?_eq_some_iff.1 he).1;omega
 simp only[c7,decide_false,cond_false]
 refine gC (fun s=>∃(out:List Cs) (now:Cs),s=(csL out,now.s,now.f,now.n)/\RunI r c es u out now i) (fun s=>rk s.2.1) (fun q:Lv×Lv=>q.1=csL (cP u (ar r c es))) ?_ n _ ⟨out,now,rfl,hI⟩ hn
 rintro _ go1 ⟨out,now,rfl,hI⟩ ih1
 simp only
 unfold qN
 have hol:=hI.len hlen
 obtain⟨s,f,hf,f0,f1⟩:=hI.form
 have hact:=F0 hr (s:=s) f0
 rw[<-hf]at hact
 have c11:((out.length:Int)+1)*24<=140737488355328:=by omega
 have hne:(i:Int)=((ceL es).length:Int):=by simp;omega
 rw[show decide ((i:Int)=((ceL es).length:Int))=true from decide_eq_true hne]
 simp only[List.length_map,c11,decide_true]
 simp only[cond_true,ue,Option.bind_some]
 by_cases hn0:0<=now.n
 ·simp only[hn0,decide_true,cond_true]
  by_cases hnm:now.n<=u
  ·simp only[hnm,decide_true,cond_true,ir n r hr (aft now.s) now.n hn0 (by omega),Option.bind_some,stT]
   exact ih1 _ ⟨out++[st r (aft now.s) now.n],_,by simp,hI.auto hr hu2 (hact.1 hn0) (fun e' he'=>absurd he' (hnone e')) hnm⟩ (cK (hact.1 hn0))
  ·simp only[hnm,decide_false,cond_false]
   exact⟨_,rfl,by rw[hI.done hr (fun _=>by omega) (fun e' he'=>absurd he' (hnone e'))]⟩
 ·simp only[hn0,decide_false,cond_false]
  exact⟨_,rfl,by rw[hI.done hr (fun h=>absurd (hact.2 h) hn0) (fun e' he'=>absurd he' (hnone e'))]⟩
theorem Io(n:Nat) (r:Rl) (c:Cl) (es:List Ce) (u:Int) (h:dq r c es) (hn:200<n) (hu1:c.a<=u) (hu2:u<=40000000):
  ∃vd,jj n r.a r.c r.s r.r c.n c.f c.t c.h c.a c.b (ceL es) u=some (csL (cP u (ar r c es)),vd):=by
 obtain⟨hr,hcl,hlen,hE⟩:=h
 have ha0:0<=c.a/\c.a<=10000000:=by unfold ClV at hcl;omega
 have main:∃q:Lv×Lv,jj n r.a r.c r.s r.r c.n c.f c.t c.h c.a c.b (ceL es) u=some q/\q.1=csL (cP u (ar r c es)):=by
  unfold jj zY
  rw[ir n r hr 1 c.a (by omega) (by omega)]
  simp only[Option.bind_some]
  refine gC (fun s=>∃(out:List Cs) (vd:Lv) (i:Nat) (now:Cs),s=(csL out,vd,(i:Int))/\vd.length<=i/\RunI r c es u out now i) (fun s=>es.length+1-s.2.2.toNat) (fun q:Lv×Lv=>q.1=csL (cP u (ar r c es))) ?_ n _
   ⟨[x0 r c],[],0,x0 r c,rfl,by simp,by omega,rfl,⟨1,c.a,rfl,by omega,by omega⟩,by unfold ar;rw[rU (by exact hu1)];simp,⟨c.a,by omega,by simpa using hE⟩⟩ (by simp;omega)
  rintro _ go ⟨out,vd,i,now,rfl,hvd,hI⟩ ih
  simp only
  unfold zQ zN
  have hpos:=HO hI.last
  have hol:=hI.len hlen
  have hle:=hI.le
  have c1:(i:Int)<=(es.length:Int):=by omega
  have c2:(-9223372036854775808:Int)<=(out.length:Int)-1:=by omega
  have c3:(out.length:Int)-1<=(9223372036854775807:Int):=by omega
  have c4:(0:Int)<=(out.length:Int)-1:=by omega
  have c5:(out.length:Int)-1<(out.length:Int):=by omega
  have l0:cI (csL out) ((out.length:Int)-1) 0=now.s:=by simp only[cI,jk hI.last];rfl
  have l1:cI (csL out) ((out.length:Int)-1) 1=now.f:=by simp only[cI,jk hI.last];rfl
  have l2:cI (csL out) ((out.length:Int)-1) 2=now.n:=by simp only[cI,jk hI.last];rfl
  have c6:(0:Int)<=(i:Int):=by omega
  have c8:(-9223372036854775808:Int)<=(i:Int)+1:=by omega
  have c9:(i:Int)+1<=(9223372036854775807:Int):=by omega
  have c10:((vd.length:Int)+1)*8<=140737488355328:=by omega
  simp only[List.length_map,c1,c2,c3,c4,c5,c6,l0,l1,l2,decide_true,cond_true,Bool.and_self]
  have stat:∀(out:List Cs) (now:Cs),RunI r c es u out now i->∃s f,now=st r s f/\0<=f/\f<=40000000:=fun _ _ h=>h.form
  by_cases hlt:i<es.length
  ·as_aux_lemma=>
   have c7:(i:Int)<(es.length:Int):=by omega
   obtain⟨e,he⟩:=aI hlt
   have hc:∀k,cA (ceL es) (i:Int) k=(ceR e).getD k (.int 0):=fun k=>bH (by simpa using he)
   have g0:cI (ceL es) i 0=e.k:=by simp only[cI,hc];rfl
   have g1:cI (ceL es) i 1=e.a:=by simp only[cI,hc];rfl
   have g2:cI (ceL es) i 2=e.r:=by simp only[cI,hc];rfl
   simp only[c7,decide_true,cond_true]
   refine gC (fun s=>∃(out:List Cs) (now:Cs),s=(csL out,now.s,now.f,now.n)/\RunI r c es u out now i) (fun s=>rk s.2.1) (fun q:Lv×Lv=>q.1=csL (cP u (ar r c es))) ?_ n _ ⟨out,now,rfl,hI⟩ (by have:=eH now.s;simp only;omega)
   rintro _ go1 ⟨out,now,rfl,hI⟩ ih1
   simp only
   unfold zx
   have hol:=hI.len hlen
   obtain⟨s,f,hf,f0,f1⟩:=hI.form
   have hact:=F0 hr (s:=s) f0
   rw[<-hf]at hact
   have e0:0<=e.a/\e.a<=20000000:=by
    obtain⟨l,l0,hE'⟩:=hI.evs
    rw[dv he]at hE'
    have:=hE'.1.2.2
    omega
   have c11:((out.length:Int)+1)*24<=140737488355328:=by omega
   have hne:¬(i:Int)=(es.length:Int):=by omega
   simp only[g0,g1,g2,List.length_map,c8,c9,c10,c11,hne,decide_true,decide_false,cond_true,cond_false,Bool.and_self,ue,Ba,Option.bind_some]
   have tail:¬(act now/\now.n<=ag e.a u)->∃q:Lv×Lv,(bif decide (u<e.a)then some (csL out,vd)else bif decide (bec c.b now.s e<0)then go (csL out,vd++[[AV.int (i:Int)]],(i:Int)+1)else
     (cd n r.a r.c r.s r.r (bec c.b now.s e) e.a).bind fun y23=>go (csL out++[[AV.int y23.1,AV.int y23.2.1,AV.int y23.2.2]],vd,(i:Int)+1))=some q/\q.1=csL (cP u (ar r c es)):=fun hna=>by
    by_cases hue:u<e.a
    ·simp only[hue,decide_true,cond_true]
     refine⟨_,rfl,?_⟩
     have hm:ag e.a u=u:=by unfold ag;rw[if_pos hue]
     rw[hm]at hna
     rw[hI.done hr (fun ha=>by have:¬now.n<=u:=fun h=>hna ⟨ha,h⟩;omega) (fun e' he'=>by rw[he]at he';cases he';exact hue)]
    ·have hm:ag e.a u=e.a:=by unfold ag;rw[if_neg hue]
     rw[hm]at hna
     simp only[hue,decide_false,cond_false]
     by_cases hb:bec c.b now.s e<0
     ·simp only[hb,decide_true,cond_true]
      exact ih _ ⟨out,vd++[[AV.int (i:Int)]],i+1,now,by simp,by simp;omega,hI.void he hna hb⟩ (by simp only;omega)
     ·simp only[hb,decide_false,cond_false,ir n r hr (bec c.b now.s e) e.a e0.1 (by omega),Option.bind_some,stT]
      exact ih _ ⟨out++[st r (bec c.b now.s e) e.a],vd,i+1,_,by simp,by omega,hI.event he hna hb (by omega)⟩ (by simp only;omega)
   by_cases hn0:0<=now.n
   ·simp only[hn0,decide_true,cond_true]
    by_cases hnm:now.n<=ag e.a u
    ·have hle:now.n<=e.a/\now.n<=u:=by unfold ag at hnm;split at hnm<;>omega
     simp only[hnm,decide_true,cond_true,ir n r hr (aft now.s) now.n hn0 (by omega),Option.bind_some,stT]
     exact ih1 _ ⟨out++[st r (aft now.s) now.n],_,by simp,hI.auto hr hu2 (hact.1 hn0) (fun e' he'=>by rw[he]at he';cases he';exact hle.1) hle.2⟩ (cK (hact.1 hn0))
    ·simp only[hnm,decide_false,cond_false]
     exact tail fun h=>hnm h.2
   ·simp only[hn0,decide_false,cond_false]
    exact tail fun h=>hn0 (hact.2 h.1)
  ·have c7:¬(i:Int)<(es.length:Int):=by omega
   have:=NB (n:=n) (go:=go) hr hu2 hlen hI (by omega) (by have:=eH now.s;omega) vd trivial
   simp only[c7,decide_false,cond_false]at this⊢
   exact this
 obtain⟨⟨q1,q2⟩,h1,h2⟩:=main
 exact⟨q2,by rw[h1];simp only at h2;rw[h2]⟩
set_option maxRecDepth 100000
theorem Ck(n:Nat) (r:Rl) (c:Cl) (es:List Ce) (t:Int) (hn:200<n):i6 n r.a r.c r.s r.r c.n c.f c.t c.h c.a c.b (ceL es) t=some ((CW r c es t).1.s,(CW r c es t).1.f,(CW r c es t).1.n,(CW r c es t).2):=by
 unfold i6 pN CW BA
 rw[E7 n r c es (by omega)]
 by_cases hv:dq r c es
 ·simp only[hv,decide_true,Option.bind_some,Bool.not_true,cond_false,true_and]
  by_cases h0:0<=t
  ·by_cases h1:t<=20000000
   ·by_cases h2:t<c.a
    ·simp only[h0,h1,h2,decide_true,Bool.not_true,cond_false,cond_true,and_self,if_true]
     have:cP t (ar r c es)=[]:=by
      unfold ar cP
      rw[List.takeWhile_cons]
      simp[x0,st];omega
     unfold xw
     rw[this];rfl
    ·obtain⟨vd,hrun⟩:=Io n r c es t hv hn (by omega) (by omega)
     simp only[h0,h1,h2,hrun,decide_true,decide_false,Bool.not_true,cond_false,cond_true,and_self,if_true,Option.bind_some]
     unfold xw
     obtain⟨out,hout⟩:∃out,out=cP t (ar r c es):=⟨_,rfl⟩
     rw[<-hout]
     have hne:out≠[]:=by
      rw[hout];unfold ar
      rw[rU (by simp[x0,st];omega)]
      simp
     obtain⟨now,hl⟩:∃now,out.getLast?=some now:=⟨_,List.getLast?_eq_some_getLast hne⟩
     have hpos:=HO hl
     have hlen:out.length<=110:=by
      have k1:(cP t (ar r c es)).length<=(ar r c es).length:=by unfold cP;exact List.Sublist.length_le (List.takeWhile_sublist _)
      have k2:=GG (r:=r) (b:=c.b) _ (x0 r c) es (Nat.le_refl _)
      have k3:=eH (x0 r c).s
      have k4:=hv.2.2.1
      rw[<-hout]at k1
      unfold ar at k1
      simp only[List.length_cons]at k1
      omega
     have c2:(-9223372036854775808:Int)<=(out.length:Int)-1:=by omega
     have c3:(out.length:Int)-1<=(9223372036854775807:Int):=by omega
     have c4:(0:Int)<=(out.length:Int)-1:=by omega
     have c5:(out.length:Int)-1<(out.length:Int):=by omega
     have l0:cI (csL out) ((out.length:Int)-1) 0=now.s:=by simp only[cI,jk hl];rfl
     have l1:cI (csL out) ((out.length:Int)-1) 1=now.f:=by simp only[cI,jk hl];rfl
     have l2:cI (csL out) ((out.length:Int)-1) 2=now.n:=by simp only[cI,jk hl];rfl
     simp only[List.length_map,c2,c3,c4,c5,l0,l1,l2,decide_true,Bool.and_self]
     simp only[cond_true,hl,Option.getD_some]
   ·have:¬(0<=t/\t<=20000000):=fun h=>h1 h.2
    simp[h0,h1]
  ·simp[h0]
 ·simp[hv]
def mr(v:Int):Int:=if pk (Int.tdiv v 16) 4=3 then 1+pk v 86400 else 1+pk v 12
theorem py(v:Int):1<=mr v/\mr v<=86400:=by
 have h1:=aX v (k:=86400) (by decide)
 have h2:=aX v (k:=12) (by decide)
 unfold mr
 split<;>omega
theorem wM{v:Int} (h:aj v):aj (Int.tdiv v 16):=by
 unfold aj at h⊢
 rcases Int.le_total 0 v with h0|h0
 ·rw[Int.tdiv_eq_ediv_of_nonneg h0];omega
 ·obtain⟨w,rfl⟩:∃w,v= -w:=⟨-v,by omega⟩
  rw[Int.neg_tdiv,Int.tdiv_eq_ediv_of_nonneg (by omega)];omega
theorem mo(n:Nat) (a b c d:Int) (ha:aj a) (hb:aj b) (hc:aj c) (hd:aj d):dB n a b c d=some (mr a,mr b,mr c,mr d):=by
 have key:∀v,(0<=pk v 12/\pk v 12<12)/\0<=pk v 86400/\pk v 86400<86400:=fun v=>⟨aX v (by decide),aX v (by decide)⟩
 have ta:=wM ha
 have tb:=wM hb
 have tc:=wM hc
 have td:=wM hd
 unfold dB mD mC mr
 have p4:(0:Int)<4:=by decide
 have p12:(0:Int)<12:=by decide
 have pd:(0:Int)<86400:=by decide
 simp only[aJ n ha p12,aJ n hb p12,aJ n hc p12,aJ n hd p12,aJ n ha pd,aJ n hb pd,aJ n hc pd,aJ n hd pd,
  aJ n ta p4,aJ n tb p4,aJ n tc p4,aJ n td p4,Option.bind_some]
 have ka:=key a
 have kb:=key b
 have kc:=key c
 have kd:=key d
 unfold aj at ta tb tc td
 generalize pk (Int.tdiv a 16) 4=x1
 generalize pk (Int.tdiv b 16) 4=x2
 generalize pk (Int.tdiv c 16) 4=x3
 generalize pk (Int.tdiv d 16) 4=x4
 generalize Int.tdiv a 16=y1 at *
 generalize Int.tdiv b 16=y2 at *
 generalize Int.tdiv c 16=y3 at *
 generalize Int.tdiv d 16=y4 at *
 generalize pk a 12=a1 at *
 generalize pk b 12=b1 at *
 generalize pk c 12=c1 at *
 generalize pk d 12=d1 at *
 generalize pk a 86400=a2 at *
 generalize pk b 86400=b2 at *
 generalize pk c 86400=c2 at *
 generalize pk d 86400=d2 at *
 have r1:∀z:Int,0<=z->z<86400->(decide ((-9223372036854775808:Int)<=1+z)&&decide (1+z<=9223372036854775807))=true:=fun z h1 h2=>by simp;omega
 simp only[r1 a1 ka.1.1 (by omega),r1 b1 kb.1.1 (by omega),r1 c1 kc.1.1 (by omega),r1 d1 kd.1.1 (by omega),r1 a2 ka.2.1 (by omega),r1 b2 kb.2.1 (by omega),r1 c2 kc.2.1 (by omega),r1 d2 kd.2.1 (by omega),ta,tb,tc,td,decide_true,Bool.and_self]
 simp only[cond_true]
 by_cases h1:x1=3<;>by_cases h2:x2=3<;>by_cases h3:x3=3<;>by_cases h4:x4=3<;>simp only[h1,h2,h3,h4,decide_true,decide_false,if_true,if_false]<;>rfl
end Go.Proofs.YtgckmifmjiklmaaGreat
set_option maxRecDepth 100000
namespace Go.Proofs.YtgckmifmjiklmaaGreat
open Go Go.Sx Go.Dial.Lif
theorem IH{es:List Ev} (h:All first es) {t:Int} {i:Nat} {e:Ev} (he:es[i]?=some e):i<dC es t↔e.a<=t:=by
 obtain⟨hl,rfl⟩:=List.getElem?_eq_some_iff.1 he
 constructor
 ·intro h;exact IJ h
 ·intro ht
  rcases Nat.lt_or_ge i (dC es t)with h1|h1
  ·exact h1
  ·have h2:=IO (es:=es) (t:=t) (by omega)
   have h3:=JL h h1 hl
   omega
theorem K0(n:Nat) (es:List Ev) (t:Int) (hn:es.length<n):yE n (lfL es) t=some (if l6 es t then((atL es t).s,(atL es t).h,(atL es t).e,(atL es t).t,true)else(0,0,0,0,false)):=by
 unfold yE D0
 rw[tA n es hn]
 simp only[Option.bind_some,l7]
 by_cases hL:Life es
 ·by_cases ht:0<=t/\t<=10000000
  ·have hA:l6 es t:=⟨hL,ht⟩
   simp only[jf hL,hA,ht.1,ht.2,decide_true,Bool.not_true,cond_false,cond_true,if_true]
   have hle:=yK es t
   have h40:=hL.2
   refine aA (fun s=>∃i j:Nat,s=((i:Int),(j:Int))/\i<=dC es t/\dC es t<=j/\j<=es.length) (fun s=>(s.2-s.1).toNat) _ ?_ n _ ⟨0,es.length,by simp,by omega,by omega,by omega⟩ (by simp;omega)
   rintro _ go ⟨i,j,rfl,h1,h2,h3⟩ ih
   simp only
   unfold DT
   by_cases hij:i<j
   ·have c1:(i:Int)<(j:Int):=by omega
    have c2:(-9223372036854775808:Int)<=(i:Int)+j:=by omega
    have c3:(i:Int)+j<=(9223372036854775807:Int):=by omega
    obtain⟨k,hk⟩:∃k,k=(i+j) / 2:=⟨_,rfl⟩
    have hh:IntKind.wrap .i64 (gK .shr .u64 (IntKind.wrap .u64 ((i:Int)+j)) 1)=(k:Int):=by
     rw[PF (by omega) (by omega) (by omega)];omega
    have c4:(0:Int)<=(k:Int):=by omega
    have c5:(k:Int)<(es.length:Int):=by omega
    have c6:(-9223372036854775808:Int)<=(k:Int)+1:=by omega
    have c7:(k:Int)+1<=(9223372036854775807:Int):=by omega
    have c8:(0:Int)<=1:=by omega
    obtain⟨e,he⟩:=aI (show k<es.length by omega)
    have hc:cI (lfL es) k 1=e.a:=by simp only[cI];rw[bH (by simpa using he)];rfl
    have hu:=IH hL.1 (t:=t) he
    simp only[c1,c2,c3,hh,c4,c5,c6,c7,c8,hc,List.length_map,decide_true,cond_true,Bool.and_self]
    by_cases hlt:t<e.a
    ·simp only[hlt,decide_true,Bool.not_true,cond_false]
     refine ih _ ⟨i,k,rfl,h1,?_,by omega⟩ (by simp only;omega)
     have:¬k<dC es t:=fun h=>by have:=hu.1 h;omega
     omega
    ·simp only[hlt,decide_false,Bool.not_false,cond_true]
     refine ih _ ⟨k+1,j,rfl,?_,h2,h3⟩ (by simp only;omega)
     have:=hu.2 (by omega)
     omega
   ·have c1:¬(i:Int)<(j:Int):=by omega
    have c2:(0:Int)<=(i:Int):=by omega
    have c3:(i:Int)<=(es.length:Int):=by omega
    have hi:i=dC es t:=by omega
    have hT:List.take (i:Int).toNat (lfL es)=lfL (es.take i):=by
     rw[<-List.map_take];rfl
    simp only[c1,c2,c3,List.length_map,decide_true,decide_false,cond_true,cond_false,hT]
    rw[tA n (es.take i) (by simp;omega)]
    simp only[Option.bind_some,l7,jf (KD hL i)]
    unfold atL
    rw[<-hi]
  ·have hA:¬l6 es t:=fun h=>ht h.2
   simp only[jf hL,hA,decide_true,Bool.not_true,cond_false,if_false]
   grind
 ·have hA:¬l6 es t:=fun h=>hL h.1
  simp[yy hL,hA]
theorem KM(n:Nat) (es:List Ev) (t:Int) (hn:es.length<n):nn n (lfL es) t=some (atT es t):=by
 unfold nn DU
 rw[K0 n es t hn]
 unfold atT atR
 by_cases h:l6 es t<;>simp[h,zero]
theorem Fg(n:Nat) (l:Ln) (x:Int×Int×Int) (hl:Vld l) (h1:aj x.1) (h2:aj x.2.1) (h3:aj x.2.2):∃e:Ev,iK n l.s l.h l.e l.t x.1 x.2.1 x.2.2=some (e.k,e.a,e.h):=by
 obtain⟨s,g,p,t⟩:=l
 obtain⟨x,y,z⟩:=x
 unfold Vld at hl
 simp only at hl h1 h2 h3⊢
 have q5:=aX x (k:=5) (by decide)
 have q3:=aX x (k:=3) (by decide)
 have q2:=aX x (k:=2) (by decide)
 have q1:=aX x (k:=1) (by decide)
 have r6:=aX y (k:=6) (by decide)
 have w5:=aX z (k:=5) (by decide)
 have key:∃w:Int×Int×Int,iK n s g p t x y z=some w:=by
  unfold iK uZ uV
  simp only[fd n h1 (show(0:Int)<5 by decide),fd n h1 (show(0:Int)<3 by decide),fd n h1 (show(0:Int)<2 by decide),fd n h1 (show(0:Int)<1 by decide),
   fd n h2 (show(0:Int)<6 by decide),fd n h3 (show(0:Int)<5 by decide),Option.bind_some]
  generalize pk x 5=a5 at *
  generalize pk x 3=a3 at *
  generalize pk x 2=a2 at *
  generalize pk x 1=a1 at *
  generalize pk y 6=b at *
  generalize pk z 5=c at *
  have n1:(-9223372036854775808:Int)<=b+2592000:=by omega
  have n2:b+2592000<=(9223372036854775807:Int):=by omega
  have n3:(-9223372036854775808:Int)<=t+(b+2592000):=by omega
  have n4:t+(b+2592000)<=(9223372036854775807:Int):=by omega
  have n5:(-9223372036854775808:Int)<=t+b:=by omega
  have n6:t+b<=(9223372036854775807:Int):=by omega
  have n7:(-9223372036854775808:Int)<=c+1:=by omega
  have n8:c+1<=(9223372036854775807:Int):=by omega
  simp only[q5,q3,q2,q1,n1,n2,n3,n4,n5,n6,n7,n8,decide_true,Bool.and_self,cond_true]
  cases decide (s=1)<;>cases decide (s=2)<;>cases decide (s=3)<;>simp only[cond_true,cond_false]<;>(repeat' (split<;>try exact⟨_,rfl⟩))<;>first|exact⟨_,rfl⟩|(simp only[Bool.cond_eq_ite];repeat' (split<;>try exact⟨_,rfl⟩))
 obtain⟨w,hw⟩:=key
 exact⟨⟨w.1,w.2.1,w.2.2⟩,hw⟩
theorem Gn(n:Nat) (xs:List (Int×Int×Int)) (hx:∀x∈xs,aj x.1/\aj x.2.1/\aj x.2.2) (hn:16<n):∃es,j9 n (xs.map bu)=some (lfL es)/\All first es/\es.length<=16:=by
 have main:∃r,j9 n (xs.map bu)=some r/\∃es,r=lfL es/\All first es/\es.length<=16:=by
  unfold j9 wl
  refine gC (fun s=>∃(i:Nat) (es:List Ev) (l:Ln),s=(lfL es,(i:Int),l.s,l.h,l.e,l.t)/\All first es/\es.length<=i/\i<=16/\l=fin first es) (fun s=>16-s.2.1.toNat) (fun r=>∃es,r=lfL es/\All first es/\es.length<=16) ?_ n _ ⟨0,[],first,rfl,trivial,by simp,by omega,rfl⟩ (by simp;omega)
  rintro _ go ⟨i,es,l,rfl,hA,hle,hi,hl⟩ ih
  simp only
  unfold wg
  have done:∃r,some (lfL es)=some r/\∃es,r=lfL es/\All first es/\es.length<=16:=⟨_,rfl,es,rfl,hA,by omega⟩
  by_cases h1:i<xs.length
  ·by_cases h2:i<16
   ·obtain⟨x,hxe⟩:=aI h1
    have hc:∀k,cA (xs.map bu) (i:Int) k=(bu x).getD k (.int 0):=fun k=>bH (by simpa using hxe)
    have g0:cI (xs.map bu) i 0=x.1:=by simp only[cI,hc];rfl
    have g1:cI (xs.map bu) i 1=x.2.1:=by simp only[cI,hc];rfl
    have g2:cI (xs.map bu) i 2=x.2.2:=by simp only[cI,hc];rfl
    obtain⟨b1,b2,b3⟩:=hx x (List.mem_of_getElem? hxe)
    have hv:Vld l:=by rw[hl];exact I6 DO hA
    obtain⟨e,he⟩:=Fg n l x hv b1 b2 b3
    have c1:(i:Int)<(xs.length:Int):=by omega
    have c2:(i:Int)<16:=by omega
    have c3:(0:Int)<=(i:Int):=by omega
    have c4:(-9223372036854775808:Int)<=(i:Int)+1:=by omega
    have c5:(i:Int)+1<=(9223372036854775807:Int):=by omega
    have c6:((es.length:Int)+1)*24<=140737488355328:=by omega
    simp only[g0,g1,g2,he,oo n l e,List.length_map,c1,c2,c3,c4,c5,c6,decide_true,cond_true,Bool.and_self,Option.bind_some,ip]
    by_cases hok:Go.Dial.Lif.Ok l e
    ·simp only[n0 hok,decide_true,cond_true]
     exact ih _ ⟨i+1,es++[e],nxt l e,by simp,by rw[qU];exact⟨hA,by rw[<-hl];exact⟨hok,trivial⟩⟩,by simp;omega,by omega,by rw[yV,<-hl];rfl⟩ (by simp only;omega)
    ·have e140:decide ((140:Int)=0)=false:=rfl
     simp only[gG hok,e140,cond_false]
     exact ih _ ⟨i+1,es,l,by simp,hA,by omega,by omega,hl⟩ (by simp only;omega)
   ·have c1:(i:Int)<(xs.length:Int):=by omega
    have c2:¬(i:Int)<16:=by omega
    simp only[List.length_map,c1,c2,decide_true,decide_false,cond_true,cond_false]
    exact done
  ·have c1:¬(i:Int)<(xs.length:Int):=by omega
   simp only[List.length_map,c1,decide_false,cond_false]
   exact done
 obtain⟨r,h1,es,rfl,h2,h3⟩:=main
 exact⟨es,h1,h2,h3⟩
end Go.Proofs.YtgckmifmjiklmaaGreat
set_option maxRecDepth 100000
namespace Go.Proofs.YtgckmifmjiklmaaGreat
open Go Go.Sx Go.Dial.Clm
theorem O8{v:Int} (h:aj v):aj (Int.tdiv v 4):=by
 unfold aj at h⊢
 rcases Int.le_total 0 v with h0|h0
 ·rw[Int.tdiv_eq_ediv_of_nonneg h0];omega
 ·obtain⟨w,rfl⟩:∃w,v= -w:=⟨-v,by omega⟩
  rw[Int.neg_tdiv,Int.tdiv_eq_ediv_of_nonneg (by omega)];omega
theorem LL{l:Int} {es:List Ce} {e:Ce}:EvV l (es++[e])↔EvV l es/\CeV ((es.getLast?.map (·.a)).getD l) e:=by
 induction es generalizing l with
 |nil=>simp[EvV]
 | cons x es ih=>
  simp only[List.cons_append,EvV,ih,and_assoc]
  cases es with
  |nil=>simp
  | cons y es=>
   have:((y::es).getLast?.map (·.a)).getD x.a=((x::y::es).getLast?.map (·.a)).getD l:=by
    rw[List.getLast?_cons_cons]
    cases h:(y::es).getLast? with
    |none=>simp at h
    |some z=>rfl
   rw[this]
theorem O4{r:Rl} (hr:r.a<=86400/\r.c<=86400/\r.s<=86400/\r.r<=86400) {c:Cl} {es:List Ce} {t:Int} (h0:c.a<=t) (ht:0<=t):(xw r c es t).n<=t+86400:=by
 have hd:∀s,dur r s<=86400:=fun s=>by unfold dur;split;omega;split;omega;split<;>omega
 have hst:∀s f,f<=t->0<=t->(st r s f).n<=t+86400:=fun s f hf ht=>by
  simp only[st];split
  ·have:=hd s;omega
  ·omega
 have hall:∀x∈ar r c es,∃s f,x=st r s f:=by
  intro x hx
  unfold ar at hx
  rcases List.mem_cons.1 hx with rfl|hx
  ·exact⟨_,_,rfl⟩
  ·exact Bh (r:=r) (b:=c.b) (fun x=>∃s f,x=st r s f) (fun _ _=>True) (fun _ _ _ _ _ _=>⟨⟨_,_,rfl⟩,trivial⟩) (fun _ _ _ _ _ _=>trivial) (fun _ _ _ _ _ _=>⟨⟨_,_,rfl⟩,trivial⟩) (fun _ _ _=>⟨⟨_,_,rfl⟩,trivial⟩) _ _ _ (Nat.le_refl _) trivial x hx
 unfold xw
 cases hl:(cP t (ar r c es)).getLast? with
 |none=>simp only[Option.getD_none];omega
 | some x=>
  have hm:=List.mem_of_getLast? hl
  have h1:x.f<=t:=by
   unfold cP at hm
   have:=List.all_eq_true.1 List.all_takeWhile x hm
   simpa using this
  have h2:x∈ar r c es:=by unfold cP at hm;exact(List.takeWhile_sublist _).subset hm
  obtain⟨s,f,rfl⟩:=hall x h2
  simp only[Option.getD_some]
  have:f<=t:=h1
  simp only[st];split
  ·have:=hd s;omega
  ·omega
def mrR(a b c d:Int):Rl:=⟨mr a,mr b,mr c,mr d⟩
theorem Ee(a b c d:Int):(mrR a b c d).a<=86400/\(mrR a b c d).c<=86400/\(mrR a b c d).s<=86400/\(mrR a b c d).r<=86400:=by
 have:=py a;have:=py b;have:=py c;have:=py d
 unfold mrR;simp only;omega
theorem Ji(a b c d:Int):RlV (mrR a b c d):=by
 have:=py a;have:=py b;have:=py c;have:=py d
 unfold RlV mrR;simp only;omega
theorem Ht(n:Nat) (a b c d e0 e1 e2 e3 e4 e5:Int) (xs:List (Int×Int×Int)) (ha:aj a) (hb:aj b) (hc:aj c) (hd:aj d) (h0:aj e0) (h1:aj e1) (h2:aj e2) (h3:aj e3) (h4:aj e4) (h5:aj e5)
  (hx:∀x∈xs,aj x.1/\aj x.2.1/\aj x.2.2) (hn:200<n):
  ∃(C:Cl) (es:List Ce),jG n a b c d e0 e1 e2 e3 e4 e5 (xs.map bu)=some (mr a,mr b,mr c,mr d,C.n,C.f,C.t,C.h,C.a,C.b,ceL es)/\dq (mrR a b c d) C es/\C.a<1000/\es.length<=10/\∀e∈es,e.a<=900000:=by
 obtain⟨y4,hy4⟩:∃y,y=pk e0 100000000:=⟨_,rfl⟩
 obtain⟨y5,hy5⟩:∃y,y=pk e1 8:=⟨_,rfl⟩
 obtain⟨y7,hy7⟩:∃y,y=pk e3 64:=⟨_,rfl⟩
 obtain⟨y8,hy8⟩:∃y,y=pk e4 1000:=⟨_,rfl⟩
 obtain⟨y9,hy9⟩:∃y,y=pk e5 2:=⟨_,rfl⟩
 obtain⟨y6,hy6⟩:∃y,y=pk e2 7:=⟨_,rfl⟩
 have b4:=aX e0 (k:=100000000) (by decide)
 have b5:=aX e1 (k:=8) (by decide)
 have b7:=aX e3 (k:=64) (by decide)
 have b8:=aX e4 (k:=1000) (by decide)
 have b6:=aX e2 (k:=7) (by decide)
 rw[<-hy4]at b4;rw[<-hy5]at b5;rw[<-hy7]at b7;rw[<-hy8]at b8;rw[<-hy6]at b6
 obtain⟨C,hC⟩:∃C:Cl,C=⟨y4,y5,Int.tmod ((y5+1)+y6) 8,y7,y8,decide (y9=0)⟩:=⟨_,rfl⟩
 have hT:Int.tmod ((y5+1)+y6) 8=((y5+1)+y6) % 8:=Int.tmod_eq_emod_of_nonneg (by omega)
 have hCV:ClV C:=by rw[hC];unfold ClV;simp only[hT];omega
 have hCa:C.a=y8:=by rw[hC]
 have main:∃q:cx,jG n a b c d e0 e1 e2 e3 e4 e5 (xs.map bu)=some q/\∃es,q=(mr a,mr b,mr c,mr d,C.n,C.f,C.t,C.h,C.a,C.b,ceL es)/\EvV C.a es/\es.length<=10/\∀e∈es,e.a<=900000:=by
  unfold jG xO
  have n1:(-9223372036854775808:Int)<=y5+1:=by omega
  have n2:y5+1<=(9223372036854775807:Int):=by omega
  have n3:(-9223372036854775808:Int)<=y5+1+y6:=by omega
  have n4:y5+1+y6<=(9223372036854775807:Int):=by omega
  simp only[mo n a b c d ha hb hc hd,aJ n h0 (show(0:Int)<100000000 by decide),aJ n h1 (show(0:Int)<8 by decide),aJ n h3 (show(0:Int)<64 by decide),aJ n h4 (show(0:Int)<1000 by decide),aJ n h5 (show(0:Int)<2 by decide),aJ n h2 (show(0:Int)<7 by decide),Option.bind_some,<-hy4,<-hy5,<-hy6,<-hy7,<-hy8,<-hy9,n1,n2,n3,n4,decide_true,Bool.and_self]
  simp only[cond_true]
  refine gC (fun s=>∃(es:List Ce) (last:Int) (i:Nat),s=(ceL es,last,(i:Int))/\es.length=i/\i<=10/\EvV C.a es/\last=(es.getLast?.map (·.a)).getD C.a/\C.a<=last/\last<=1000+86402*i/\∀e∈es,e.a<=900000) (fun s=>10-s.2.2.toNat) (fun q=>∃es,q=(mr a,mr b,mr c,mr d,C.n,C.f,C.t,C.h,C.a,C.b,ceL es)/\EvV C.a es/\es.length<=10/\∀e∈es,e.a<=900000) ?_ n _
   ⟨[],y8,0,rfl,rfl,by omega,trivial,by rw[hCa];rfl,by omega,by omega,fun e he=>by cases he⟩ (by simp;omega)
  rintro _ go ⟨es,last,i,rfl,hl,hi,hE,hlast,hl0,hl1,hea⟩ ih
  simp only
  unfold xx xh
  have done:∃q:cx,some (mr a,mr b,mr c,mr d,y4,y5,Int.tmod ((y5+1)+y6) 8,y7,y8,decide (y9=0),ceL es)=some q/\∃es,q=(mr a,mr b,mr c,mr d,C.n,C.f,C.t,C.h,C.a,C.b,ceL es)/\EvV C.a es/\es.length<=10/\∀e∈es,e.a<=900000:=
   ⟨_,rfl,es,by rw[hC],hE,by omega,hea⟩
  by_cases g1:i<xs.length
  ·have c1:(i:Int)<(xs.length:Int):=by omega
   by_cases g2:i<10
   ·obtain⟨x,hxe⟩:=aI g1
    have hcell:∀k,cA (xs.map bu) (i:Int) k=(bu x).getD k (.int 0):=fun k=>bH (by simpa using hxe)
    have z0:cI (xs.map bu) i 0=x.1:=by simp only[cI,hcell];rfl
    have z1:cI (xs.map bu) i 1=x.2.1:=by simp only[cI,hcell];rfl
    have z2:cI (xs.map bu) i 2=x.2.2:=by simp only[cI,hcell];rfl
    obtain⟨q1,q2,q3⟩:=hx x (List.mem_of_getElem? hxe)
    have q4:=O8 q2
    obtain⟨w0,hw0⟩:∃y,y=pk x.1 6:=⟨_,rfl⟩
    obtain⟨w1,hw1⟩:∃y,y=pk x.2.1 4:=⟨_,rfl⟩
    obtain⟨w2,hw2⟩:∃y,y=pk x.2.1 3:=⟨_,rfl⟩
    obtain⟨w3,hw3⟩:∃y,y=pk x.2.2 4:=⟨_,rfl⟩
    obtain⟨w4,hw4⟩:∃y,y=pk (Int.tdiv x.2.1 4) 3:=⟨_,rfl⟩
    have v0:=aX x.1 (k:=6) (by decide)
    have v1:=aX x.2.1 (k:=4) (by decide)
    have v2:=aX x.2.1 (k:=3) (by decide)
    have v3:=aX x.2.2 (k:=4) (by decide)
    rw[<-hw0]at v0;rw[<-hw1]at v1;rw[<-hw2]at v2;rw[<-hw3]at v3
    have hout:=Ck n (mrR a b c d) C es last hn
    have hOk:BA (mrR a b c d) C es last:=⟨⟨Ji a b c d,hCV,by omega,hE⟩,by omega,by omega⟩
    have hN:=O4 (Ee a b c d) (c:=C) (es:=es) hl0 (by omega)
    unfold CW at hout
    rw[if_pos hOk]at hout
    obtain⟨O,hO⟩:∃O,O=xw (mrR a b c d) C es last:=⟨_,rfl⟩
    rw[<-hO]at hout hN
    rw[hC]at hout
    simp only[mrR]at hout
    have c2:(i:Int)<10:=by omega
    have c3:(0:Int)<=(i:Int):=by omega
    have c4:(-9223372036854775808:Int)<=1+w0:=by omega
    have c5:1+w0<=(9223372036854775807:Int):=by omega
    have c6:(-9223372036854775808:Int)<=last+w1:=by omega
    have c7:last+w1<=(9223372036854775807:Int):=by omega
    have c8:(-9223372036854775808:Int)<=(i:Int)+1:=by omega
    have c9:(i:Int)+1<=(9223372036854775807:Int):=by omega
    have c10:(-9223372036854775808:Int)<=1+w3:=by omega
    have c11:1+w3<=(9223372036854775807:Int):=by omega
    have c12:((es.length:Int)+1)*24<=140737488355328:=by omega
    have hgo:∀A rr:Int,last<=A->A<=last+86402->(1+w0=2\/1+w0=6->1<=rr/\rr<=9)->(¬(1+w0=2\/1+w0=6)->rr=0)->∃q,go (ceL es++[[AV.int (1+w0),AV.int A,AV.int rr]],A,(i:Int)+1)=some q/\∃es,q=(mr a,mr b,mr c,mr d,C.n,C.f,C.t,C.h,C.a,C.b,ceL es)/\EvV C.a es/\es.length<=10/\∀e∈es,e.a<=900000:=fun A rr k1 k2 k3 k4=>
     ih _ ⟨es++[⟨1+w0,A,rr⟩],A,i+1,by simp,by simp;omega,by omega,by rw[LL,<-hlast];exact⟨hE,⟨by simp only;omega,by simp only;omega,k1,by simp only;omega,k3,k4⟩⟩,by simp,by omega,by omega,fun e he=>by
      rcases List.mem_append.1 he with he|he
      ·exact hea e he
      ·rw[List.mem_singleton.1 he];simp only;omega⟩ (by simp only;omega)
    unfold vC
    simp only[z0,z1,z2,List.length_map,c1,c2,c3,aJ n q1 (show(0:Int)<6 by decide),aJ n q2 (show(0:Int)<4 by decide),aJ n q2 (show(0:Int)<3 by decide),aJ n q3 (show(0:Int)<4 by decide),aJ n q4 (show(0:Int)<3 by decide),<-hw0,<-hw1,<-hw2,<-hw3,<-hw4,Option.bind_some,c4,c5,c6,c7,c8,c9,c10,c11,c12,hout,decide_true,Bool.and_self]
    simp only[cond_true]
    unfold aj at q4
    by_cases k0:0<O.n
    ·have c13:(-9223372036854775808:Int)<=O.n-1:=by omega
     have c14:O.n-1<=(9223372036854775807:Int):=by omega
     have c15:(-9223372036854775808:Int)<=O.n-1+w2:=by omega
     have c16:O.n-1+w2<=(9223372036854775807:Int):=by omega
     have m1:last<=ap last (O.n-1+w2):=by unfold ap;split<;>omega
     have m2:ap last (O.n-1+w2)<=last+86402:=by unfold ap;split<;>omega
     simp only[k0,q4.1,q4.2,c13,c14,c15,c16,decide_true,Bool.and_self]
     simp only[cond_true]
     by_cases k1:0<w4<;>by_cases k2:1+w0=2<;>by_cases k3:1+w0=6<;>simp only[k1,k2,k3,decide_true,decide_false]<;>simp only[cond_true,cond_false] <;>
      (try rw[k2]at hgo)<;>(try rw[k3]at hgo)<;>first|exact hgo _ _ m1 m2 (fun _=>by omega) (fun h=>by omega)|exact hgo _ _ (by omega) (by omega) (fun _=>by omega) (fun h=>by omega)
    ·by_cases k2:1+w0=2<;>by_cases k3:1+w0=6<;>simp only[k0,k2,k3,decide_true,decide_false]<;>simp only[cond_true,cond_false] <;>
      (try rw[k2]at hgo)<;>(try rw[k3]at hgo)<;>exact hgo _ _ (by omega) (by omega) (fun _=>by omega) (fun h=>by omega)
   ·have c2:¬(i:Int)<10:=by omega
    simp only[List.length_map,c1,c2,decide_true,decide_false]
    simp only[cond_true,cond_false]
    exact done
  ·have c1:¬(i:Int)<(xs.length:Int):=by omega
   simp only[List.length_map,c1,decide_false]
   simp only[cond_false]
   exact done
 obtain⟨q,g1,es,rfl,g2,g3,g4⟩:=main
 exact⟨C,es,g1,⟨Ji a b c d,hCV,by omega,g2⟩,by omega,g3,g4⟩
set_option maxRecDepth 100000
theorem pA(n:Nat) (c:Cl):fX n c.n c.f c.t c.h c.a c.b=some (decide (ClV c)):=by
 by_cases h:ClV c<;>simp only[h,decide_true,decide_false]<;>unfold ClV at h<;>unfold fX qo<;>grind
def ff(r:Rl) (i:Nat):Int:=if i=0 then r.a else if i=1 then r.s else if i=2 then r.c else r.r
theorem DJ(r:Rl) {i:Nat} (h:i<4):cI ((((([]:Lv)++[[(AV.int r.a)]])++[[(AV.int r.s)]])++[[(AV.int r.c)]])++[[(AV.int r.r)]]) (i:Int) 0=ff r i:=by
 match i,h with
 |0,_=>rfl
 |1,_=>rfl
 |2,_=>rfl
 |3,_=>rfl
theorem rules_all{r:Rl}:RlV r↔∀i,i<4->1<=ff r i/\ff r i<=1000000:=by
 constructor
 ·intro h i hi
  unfold RlV at h
  unfold ff
  split;omega;split;omega;split<;>omega
 ·intro h
  have h0:=h 0 (by omega)
  have h1:=h 1 (by omega)
  have h2:=h 2 (by omega)
  have h3:=h 3 (by omega)
  simp[ff]at h0 h1 h2 h3
  unfold RlV
  omega
theorem N7(n:Nat) (r:Rl) (c:Cl) (hn:10<n):sQ n r.a r.c r.s r.r c.n c.f c.t c.h c.a c.b=some (if RlV r/\ClV c then(F7 r c,0)else(0,160)):=by
 unfold sQ wz
 refine aA (fun s=>∃i:Nat,s=(i:Int)/\i<=4/\∀j,j<i->1<=ff r j/\ff r j<=1000000) (fun s=>4-s.toNat) _ ?_ n _ ⟨0,rfl,by omega,fun j hj=>by omega⟩ (by simp;omega)
 rintro _ go ⟨i,rfl,hi,hj⟩ ih
 unfold wv
 have c2:(0:Int)<=(i:Int):=by omega
 have c8:(-9223372036854775808:Int)<=(i:Int)+1:=by omega
 have c9:(i:Int)+1<=(9223372036854775807:Int):=by omega
 by_cases h4:i<4
 ·have c1:(i:Int)<4:=by omega
  simp only[c1,c2,c8,c9,DJ r h4,decide_true,Bool.and_self]
  simp only[cond_true]
  by_cases k1:1<=ff r i
  ·by_cases k2:ff r i<=1000000
   ·simp only[k1,k2,decide_true,Bool.not_true]
    simp only[cond_true,cond_false]
    exact ih _ ⟨i+1,by simp,by omega,fun j hj'=>by
     rcases Nat.lt_or_ge j i with h|h
     ·exact hj j h
     ·have:j=i:=by omega
      subst this;exact⟨k1,k2⟩⟩ (by simp;omega)
   ·have:¬(RlV r/\ClV c):=fun h=>k2 (rules_all.1 h.1 i h4).2
    simp[k1,k2,this]
  ·have:¬(RlV r/\ClV c):=fun h=>k1 (rules_all.1 h.1 i h4).1
   simp[k1,this]
 ·have hr:RlV r:=rules_all.2 fun j hj'=>hj j (by omega)
  have c1:¬(i:Int)<4:=by omega
  rw[pA]
  by_cases hc:ClV c
  ·simp only[c1,hr,hc,decide_true,decide_false,Option.bind_some,Bool.not_true,and_self,if_true]
   simp only[cond_false]
   unfold F7
   unfold RlV at hr
   unfold ClV at hc
   have n1:(-9223372036854775808:Int)<=c.a+r.a/\c.a+r.a<=9223372036854775807:=by omega
   have n2:(-9223372036854775808:Int)<=c.a+r.a-1/\c.a+r.a-1<=9223372036854775807:=by omega
   have n3:(-9223372036854775808:Int)<=c.a+r.a-1+r.s/\c.a+r.a-1+r.s<=9223372036854775807:=by omega
   have n4:(-9223372036854775808:Int)<=c.a+r.a-1+r.s+r.c/\c.a+r.a-1+r.s+r.c<=9223372036854775807:=by omega
   have n5:(-9223372036854775808:Int)<=c.a+r.a-1+r.s+r.c+r.r/\c.a+r.a-1+r.s+r.c+r.r<=9223372036854775807:=by omega
   simp only[n1,n2,n3,n4,n5,decide_true,Bool.and_self]
   simp only[cond_true]
  ·simp[c1,hc]
theorem tM(n:Nat) (r:Rl) (c:Cl) (es:List Ce) (hn:25<n):gr n r.a r.c r.s r.r c.n c.f c.t c.h c.a c.b (ceL es)=some (decide (dq r c es)):=by
 unfold gr tP
 refine aA (fun s=>∃i:Nat,s=(i:Int)/\i<=4/\∀j,j<i->1<=ff r j/\ff r j<=1000000) (fun s=>4-s.toNat) _ ?_ n _ ⟨0,rfl,by omega,fun j hj=>by omega⟩ (by simp;omega)
 rintro _ go ⟨i,rfl,hi,hj⟩ ih
 unfold uu
 have c2:(0:Int)<=(i:Int):=by omega
 have c8:(-9223372036854775808:Int)<=(i:Int)+1:=by omega
 have c9:(i:Int)+1<=(9223372036854775807:Int):=by omega
 by_cases h4:i<4
 ·have c1:(i:Int)<4:=by omega
  simp only[c1,c2,c8,c9,DJ r h4,decide_true,Bool.and_self]
  simp only[cond_true]
  by_cases k1:1<=ff r i
  ·by_cases k2:ff r i<=1000000
   ·simp only[k1,k2,decide_true,Bool.not_true]
    simp only[cond_true,cond_false]
    exact ih _ ⟨i+1,by simp,by omega,fun j hj'=>by
     rcases Nat.lt_or_ge j i with h|h
     ·exact hj j h
     ·have:j=i:=by omega
      subst this;exact⟨k1,k2⟩⟩ (by simp;omega)
   ·have:¬dq r c es:=fun h=>k2 (rules_all.1 h.1 i h4).2
    simp[k1,k2,this]
  ·have:¬dq r c es:=fun h=>k1 (rules_all.1 h.1 i h4).1
   simp[k1,this]
 ·have hr:RlV r:=rules_all.2 fun j hj'=>hj j (by omega)
  have c1:¬(i:Int)<4:=by omega
  clear ih
  rw[pA]
  unfold dq
  by_cases h2:ClV c
  ·by_cases h3:es.length<=20
   ·have c3:¬(20:Int)<(es.length:Int):=by omega
    simp only[c1,hr,h2,h3,decide_true,decide_false,Option.bind_some,Bool.not_true,List.length_map,c3,true_and]
    simp only[cond_false]
    refine aA (fun s=>∃(i:Nat) (last:Int),s=((i:Int),last)/\i<=es.length/\(EvV c.a es↔EvV last (es.drop i))) (fun s=>es.length-s.1.toNat) _ ?_ n _ ⟨0,c.a,rfl,by omega,by simp⟩ (by simp;omega)
    rintro _ go ⟨i,last,rfl,hi,hE⟩ ih
    simp only
    unfold u4
    by_cases hlt:i<es.length
    ·obtain⟨e,he⟩:=aI hlt
     have hc:∀k,cA (ceL es) (i:Int) k=(ceR e).getD k (.int 0):=fun k=>bH (by simpa using he)
     have g0:cI (ceL es) i 0=e.k:=by simp only[cI,hc];rfl
     have g1:cI (ceL es) i 1=e.a:=by simp only[cI,hc];rfl
     have g2:cI (ceL es) i 2=e.r:=by simp only[cI,hc];rfl
     have c1:(i:Int)<(es.length:Int):=by omega
     have c2:(0:Int)<=(i:Int):=by omega
     have c4:(-9223372036854775808:Int)<=(i:Int)+1:=by omega
     have c5:(i:Int)+1<=(9223372036854775807:Int):=by omega
     simp only[g0,g1,g2,List.length_map,c1,c2,c4,c5,decide_true,Bool.and_self,Bool.not_true]
     simp only[cond_true]
     rw[dv he]at hE
     have hgo:CeV last e->go ((i:Int)+1,e.a)=some (decide (EvV c.a es)):=fun hv=>ih _ ⟨i+1,e.a,by simp,by omega,by rw[hE];exact⟨fun h=>h.2,fun h=>⟨hv,h⟩⟩⟩ (by simp only;omega)
     by_cases hv:CeV last e
     ·rw[hgo hv]
      unfold CeV at hv
      grind
     ·have:¬EvV c.a es:=fun h=>hv (hE.1 h).1
      simp only[this,decide_false]
      unfold CeV at hv
      grind
    ·have h0:i=es.length:=by omega
     have c1:¬(i:Int)<(es.length:Int):=by omega
     simp only[List.length_map,c1,decide_false]
     simp only[cond_false]
     subst h0
     rw[List.drop_length]at hE
     have:EvV c.a es:=hE.2 trivial
     simp[this]
   ·have c3:(20:Int)<(es.length:Int):=by omega
    simp only[c1,h2,h3,decide_true,decide_false,Option.bind_some,Bool.not_true,List.length_map,c3,false_and,and_false]
    simp only[cond_true,cond_false]
  ·simp[c1,h2]
set_option maxRecDepth 100000
theorem zT{r:Rl} {c:Cl} {es:List Ce} (h:dq r c es):∀x∈ar r c es,x.f<=23000000:=by
 obtain⟨hr,hc,hl,hE⟩:=h
 unfold ClV at hc
 intro x hx
 unfold ar at hx
 have h0:(x0 r c).f=c.a:=rfl
 rcases List.mem_cons.1 hx with rfl|hx
 ·omega
 ·exact Pl hr (b:=c.b) (now:=x0 r c) (es:=es) (by rw[h0];have:=eH (x0 r c).s;omega) (fun _=>(qw hr (s:=1) (f:=c.a) (by omega)).2) (fun e he=>(BW hE e he).2) x hx
theorem zW{r:Rl} {c:Cl} {es:List Ce} (h:dq r c es):∀x∈ar r c es,c.a<=x.f:=by
 obtain⟨hr,hc,hl,hE⟩:=h
 intro x hx
 unfold ar at hx
 rcases List.mem_cons.1 hx with rfl|hx
 ·exact Int.le_refl _
 ·exact M2 hr (b:=c.b) (now:=x0 r c) (es:=es) (fun ha=>by have:=(qw hr (s:=1) (f:=c.a) (by omega)).1;unfold x0;omega) (fun e he=>(BW hE e he).1) x hx
theorem IA{r:Rl} {c:Cl} {es:List Ce}:∀x∈ar r c es,∃s f,x=st r s f:=by
 intro x hx
 unfold ar at hx
 rcases List.mem_cons.1 hx with rfl|hx
 ·exact⟨_,_,rfl⟩
 ·exact Bh (r:=r) (b:=c.b) (fun x=>∃s f,x=st r s f) (fun _ _=>True) (fun _ _ _ _ _ _=>⟨⟨_,_,rfl⟩,trivial⟩) (fun _ _ _ _ _ _=>trivial) (fun _ _ _ _ _ _=>⟨⟨_,_,rfl⟩,trivial⟩) (fun _ _ _=>⟨⟨_,_,rfl⟩,trivial⟩) _ _ _ (Nat.le_refl _) trivial x hx
theorem vD{r:Rl} {c:Cl} {es:List Ce} (hl:es.length<=20):(ar r c es).length<=110:=by
 have h2:=GG (r:=r) (b:=c.b) _ (x0 r c) es (Nat.le_refl _)
 have h3:=eH (x0 r c).s
 unfold ar
 simp only[List.length_cons]
 omega
structure RunJ (r:Rl) (c:Cl) (es:List Ce) (out:List Cs) (now:Cs) (i:Nat):Prop where
 le:i<=es.length
 last:out.getLast?=some now
 rest:ar r c es=out++tl r c.b now (es.drop i)
section
variable {r:Rl} {c:Cl} {es:List Ce} {out:List Cs} {now:Cs} {i:Nat}
theorem RunJ.mem(h:RunJ r c es out now i):now∈ar r c es:=by
 rw[h.rest];exact List.mem_append_left _ (List.mem_of_getLast? h.last)
theorem RunJ.len(h:RunJ r c es out now i) (hl:es.length<=20):out.length<=110:=by
 have h1:=vD (r:=r) (c:=c) hl
 rw[h.rest,List.length_append]at h1
 omega
theorem RunJ.auto(h:RunJ r c es out now i) (ha:act now) (h1:∀e,es[i]?=some e->now.n<=e.a):RunJ r c es (out++[st r (aft now.s) now.n]) (st r (aft now.s) now.n) i:=by
 refine⟨h.le,by simp,?_⟩
 rw[h.rest]
 have:tl r c.b now (es.drop i)=st r (aft now.s) now.n::tl r c.b (st r (aft now.s) now.n) (es.drop i):=by
  cases hd:es.drop i with
  |nil=>exact r7 ha
  | cons e rest=>
   have he:es[i]?=some e:=by
    have:=congrArg (fun l=>l[0]?) hd
    simpa using this
   exact nj ⟨ha,h1 e he⟩
 rw[this]
 simp
theorem RunJ.event{e:Ce} (h:RunJ r c es out now i) (he:es[i]?=some e) (h1:¬(act now/\now.n<=e.a)) (hb:¬bec c.b now.s e<0):RunJ r c es (out++[st r (bec c.b now.s e) e.a]) (st r (bec c.b now.s e) e.a) (i+1):=by
 refine⟨(List.getElem?_eq_some_iff.1 he).1,by simp,?_⟩
 rw[h.rest,dv he,yT h1 hb]
 simp
theorem RunJ.void{e:Ce} (h:RunJ r c es out now i) (he:es[i]?=some e) (h1:¬(act now/\now.n<=e.a)) (hb:bec c.b now.s e<0):RunJ r c es out now (i+1):=
 ⟨(List.getElem?_eq_some_iff.1 he).1,h.last,by rw[h.rest,dv he,ng h1 hb]⟩
theorem RunJ.done(h:RunJ r c es out now i) (h0:i=es.length) (h1:¬act now):ar r c es=out:=by
 rw[h.rest,h0,List.drop_length,j5 h1];simp
end
theorem MF(n:Nat) (go0:aW->Option ak) (go1:aQ->Option ak) (r:Rl) (hr:RlV r) (b:Bool) (es:List Ce) (i:Nat) (e:Ce) (he:es[i]?=some e) (vd:Lv) (out:List Cs) (s f m l:Int)
  (hce:CeV l e) (hl:0<=l) (h1:vd.length<=20) (h2:out.length<=110) (h3:i<=20):
  de n go0 go1 r.c r.s b (ceL es) (i:Int) vd (csL out) s f m=if bec b s e<0 then go0 ((i:Int)+1,vd++[[AV.int (i:Int)]],csL out,s,f,m)else go0 ((i:Int)+1,vd,csL out++[csR (st r (bec b s e) e.a)],(st r (bec b s e) e.a).s,(st r (bec b s e) e.a).f,(st r (bec b s e) e.a).n):=by
 have hc:∀k,cA (ceL es) (i:Int) k=(ceR e).getD k (.int 0):=fun k=>bH (by simpa using he)
 have g0:cI (ceL es) i 0=e.k:=by simp only[cI,hc];rfl
 have g1:cI (ceL es) i 1=e.a:=by simp only[cI,hc];rfl
 have g2:cI (ceL es) i 2=e.r:=by simp only[cI,hc];rfl
 have c4:(-9223372036854775808:Int)<=(i:Int)+1:=by omega
 have c5:(i:Int)+1<=(9223372036854775807:Int):=by omega
 have c10:((vd.length:Int)+1)*8<=140737488355328:=by omega
 have c11:((out.length:Int)+1)*24<=140737488355328:=by omega
 have hrr:=hr
 unfold RlV at hr
 unfold CeV at hce
 have c6:(-9223372036854775808:Int)<=e.a+r.c:=by omega
 have c7:e.a+r.c<=(9223372036854775807:Int):=by omega
 have c8:(-9223372036854775808:Int)<=e.a+r.s:=by omega
 have c9:e.a+r.s<=(9223372036854775807:Int):=by omega
 unfold de oj nT nH mp mi
 simp only[g0,g1,g2,List.length_map,c4,c5,c6,c7,c8,c9,c10,c11,decide_true,Bool.and_self]
 simp only[cond_true]
 clear g0 g1 g2 hc c4 c5 c6 c7 c8 c9 c10 c11
 unfold bec st dur
 have hk:e.k=1\/e.k=2\/e.k=3\/e.k=4\/e.k=5\/e.k=6:=by omega
 have hs:s=1\/s=2\/s=3\/s=4\/(s≠1/\s≠2/\s≠3/\s≠4):=by omega
 cases b<;>by_cases hq:e.r=1<;>rcases hk with hk|hk|hk|hk|hk|hk<;>rcases hs with hs|hs|hs|hs|⟨q1,q2,q3,q4⟩<;>simp_all
theorem PD: @mz= @de:=rfl
theorem LR(n:Nat) (go0:aW->Option ak) (go1:aQ->Option ak) (r:Rl) (hr:RlV r) (b:Bool) (L:Lv) (i:Int) (vd O:Lv) (s f m:Int) (ha:1<=s/\s<=4) (hm:m<=cI L i 1) (h1: -100000000<=m) (h2:m<=100000000) (h3:O.length<=110):
  fH n go0 go1 r.c r.s r.r b L i vd O s f m=go1 (O++[csR (st r (aft s) m)],(st r (aft s) m).s,(st r (aft s) m).f,(st r (aft s) m).n):=by
 have hs:s=1\/s=2\/s=3\/s=4:=by omega
 unfold RlV at hr
 unfold fH
 rcases hs with hs|hs|hs|hs<;>subst hs<;>simp only[csR,aft,st,dur]<;>grind
theorem Li(n:Nat) (go1:aQ->Option ak) (r:Rl) (hr:RlV r) (O:Lv) (s m:Int) (ha:1<=s/\s<=4) (h1:0<=m) (h2:m<=100000000) (h3:O.length<=110):
  eZ n go1 r.c r.r O s m=go1 (O++[csR (st r (aft s) m)],(st r (aft s) m).s,(st r (aft s) m).f,(st r (aft s) m).n):=by
 have hs:s=1\/s=2\/s=3\/s=4:=by omega
 unfold RlV at hr
 unfold eZ
 rcases hs with hs|hs|hs|hs<;>subst hs<;>simp only[csR,aft,st,dur]<;>grind
theorem Ar(n:Nat) (r:Rl) (c:Cl) (es:List Ce) (hn:200<n):iy n r.a r.c r.s r.r c.n c.f c.t c.h c.a c.b (ceL es)=some (if dq r c es then(csL (ar r c es),0)else([],160)):=by
 unfold iy oI ny
 rw[tM n r c es (by omega)]
 by_cases hv:dq r c es
 ·obtain⟨hr,hcl,hlen,hE⟩:=id hv
  have hrb:=hr
  unfold RlV at hrb
  have hca:0<=c.a/\c.a<=10000000:=by unfold ClV at hcl;omega
  have n1:(-9223372036854775808:Int)<=c.a+r.a:=by omega
  have n2:c.a+r.a<=(9223372036854775807:Int):=by omega
  simp only[hv,decide_true,Option.bind_some,Bool.not_true,n1,n2,Bool.and_self,if_true]
  simp only[cond_true,cond_false]
  have facts:∀out now i,RunJ r c es out now i->(0<=now.n↔act now)/\now.f<=23000000/\now.n<=24000000/\out.length<=110:=fun out now i h=>by
   have h1:=zT hv now h.mem
   have h2:=zW hv now h.mem
   obtain⟨s,f,hf⟩:=IA now h.mem
   have h3:(st r s f).f=f:=rfl
   refine⟨by rw[hf];exact F0 hr (by rw[hf,h3]at h2;omega),h1,?_,h.len hlen⟩
   rw[hf]at h1⊢
   have h1:f<=23000000:=h1
   by_cases ha:1<=s/\s<=4
   ·have:=(qw hr (f:=f) ha).2;omega
   ·simp only[st];rw[if_neg ha];omega
  refine aA (fun s=>∃(i:Nat) (vd:Lv) (out:List Cs) (now:Cs),s=((i:Int),vd,csL out,now.s,now.f,now.n)/\vd.length<=i/\RunJ r c es out now i) (fun s=>es.length+1-s.1.toNat) _ ?_ n _
   ⟨0,[],[x0 r c],x0 r c,rfl,by simp,⟨by omega,rfl,by unfold ar;simp⟩⟩ (by simp;omega)
  rintro _ go ⟨i,vd,out,now,rfl,hvd,hJ⟩ ih
  simp only
  unfold oa
  have hle:=hJ.le
  have c6:(0:Int)<=(i:Int):=by omega
  by_cases hlt:i<es.length
  ·have c7:(i:Int)<(es.length:Int):=by omega
   obtain⟨e,he⟩:=aI hlt
   have hce:∃l,0<=l/\CeV l e:=by
    have:=(BW hE)
    have key:∀(es:List Ce) (l:Int) (i:Nat) (e:Ce),0<=l->EvV l es->es[i]?=some e->∃l,0<=l/\CeV l e:=by
     intro es
     induction es with
     |nil=>intro l i e _ _ h;simp at h
     |cons x es ih=>
      intro l i e hl hE h
      cases i with
      |zero=>simp at h;subst h;exact⟨l,hl,hE.1⟩
      |succ i=>exact ih x.a i e (by have:=hE.1.2.2.1;omega) hE.2 (by simpa using h)
    exact key es c.a i e hca.1 hE he
   obtain⟨l,hl0,hce⟩:=hce
   simp only[List.length_map,c6,c7,decide_true]
   simp only[cond_true]
   refine aA (fun s=>∃(out:List Cs) (now:Cs),s=(csL out,now.s,now.f,now.n)/\RunJ r c es out now i) (fun s=>rk s.2.1) _ ?_ n _ ⟨out,now,rfl,hJ⟩ (by have:=eH now.s;simp only;omega)
   rintro _ go1 ⟨out,now,rfl,hJ⟩ ih1
   simp only
   obtain⟨f1,f2,f3,f4⟩:=facts out now i hJ
   have tail:¬(act now/\now.n<=e.a)->de n go go1 r.c r.s c.b (ceL es) (i:Int) vd (csL out) now.s now.f now.n=some (csL (ar r c es),0):=fun hna=>by
    rw[MF n go go1 r hr c.b es i e he vd out now.s now.f now.n l hce hl0 (by omega) f4 (by omega)]
    by_cases hb:bec c.b now.s e<0
    ·rw[if_pos hb]
     exact ih _ ⟨i+1,vd++[[AV.int (i:Int)]],out,now,by simp,by simp;omega,hJ.void he hna hb⟩ (by simp only;omega)
    ·rw[if_neg hb]
     exact ih _ ⟨i+1,vd,out++[st r (bec c.b now.s e) e.a],_,by simp,by omega,hJ.event he hna hb⟩ (by simp only;omega)
   unfold oz
   have g1:cI (ceL es) i 1=e.a:=by simp only[cI];rw[bH (by simpa using he)];rfl
   rw[PD]
   by_cases hn0:0<=now.n
   ·have ha:=f1.1 hn0
    rw[decide_eq_true hn0,cond_true]
    by_cases hnm:now.n<=e.a
    ·rw[LR n go go1 r hr c.b (ceL es) i vd (csL out) now.s now.f now.n ha (by rw[g1];exact hnm) (by omega) (by omega) (by rw[List.length_map];exact f4)]
     have:=ih1 _ ⟨out++[st r (aft now.s) now.n],_,rfl,hJ.auto ha (fun e' he'=>by rw[he]at he';cases he';exact hnm)⟩ (cK ha)
     rw[<-this];simp
    ·unfold fH
     rw[g1,decide_eq_false hnm,cond_false]
     exact tail fun h=>hnm h.2
   ·rw[decide_eq_false hn0,cond_false]
    exact tail fun h=>hn0 (f1.2 h.1)
  ·have h0:i=es.length:=by omega
   have c7:¬(i:Int)<(es.length:Int):=by omega
   have hnone:∀e,¬es[i]?=some e:=fun e he=>by have:=(List.getElem?_eq_some_iff.1 he).1;omega
   simp only[List.length_map,c7,decide_false]
   simp only[cond_false]
   refine aA (fun s=>∃(out:List Cs) (now:Cs),s=(csL out,now.s,now.f,now.n)/\RunJ r c es out now i) (fun s=>rk s.2.1) _ ?_ n _ ⟨out,now,rfl,hJ⟩ (by have:=eH now.s;simp only;omega)
   rintro _ go1 ⟨out,now,rfl,hJ⟩ ih1
   simp only
   obtain⟨f1,f2,f3,f4⟩:=facts out now i hJ
   by_cases hn0:0<=now.n
   ·have ha:=f1.1 hn0
    rw[Li n go1 r hr (csL out) now.s now.n ha hn0 (by omega) (by rw[List.length_map];exact f4)]
    have:=ih1 _ ⟨out++[st r (aft now.s) now.n],_,rfl,hJ.auto ha (fun e' he'=>absurd he' (hnone e'))⟩ (cK ha)
    rw[<-this];simp
   ·unfold eZ
    rw[decide_eq_false hn0,cond_false,hJ.done h0 (fun ha=>hn0 (f1.2 ha))]
 ·simp[hv]
end Go.Proofs.YtgckmifmjiklmaaGreat
set_option maxRecDepth 100000
namespace Go.Proofs.YtgckmifmjiklmaaGreat
open Go Go.Sx Go.Dial.Clm
theorem GK{t:Int}:∀ {out rest:List Cs},(∀x∈out,x.f<=t)->(∀x,rest.head?=some x->t<x.f)->cP t (out++rest)=out
 |[],[],_,_=>rfl
 |[],x::rest,_,h=>by
  have:=h x rfl
  unfold cP
  rw[List.nil_append,List.takeWhile_cons]
  simp;omega
 |y::out,rest,h1,h2=>by
  rw[List.cons_append,rU (h1 y (List.mem_cons_self ..)),GK (fun x hx=>h1 x (List.mem_cons_of_mem _ hx)) h2]
structure RunO (r:Rl) (c:Cl) (es:List Ce) (t:Int) (out:List Cs) (now:Cs) (i:Nat):Prop where
 j:RunJ r c es out now i
 up:∀x∈out,x.f<=t
section
variable {r:Rl} {c:Cl} {es:List Ce} {t:Int} {out:List Cs} {now x:Cs} {i:Nat} {rest:List Cs}
theorem RunO.stop(h:RunO r c es t out now i) (hr:tl r c.b now (es.drop i)=rest) (hx:∀x,rest.head?=some x->t<x.f):xw r c es t=now:=by
 unfold xw
 rw[h.j.rest,hr,GK h.up hx,h.j.last];rfl
end
end Go.Proofs.YtgckmifmjiklmaaGreat
set_option maxRecDepth 100000
namespace Go.Proofs.YtgckmifmjiklmaaGreat
open Go Go.Sx
noncomputable section
def K6:List Nat:=[11,12,13,14,15,16,17,18,19,20,21,22,23,24,25,26,27,28,29,30,32,33,34,35,36,37,38,39,40,41,42,43,44,45,46,47,48,49,50,51,52,54,55,56,57,58,59,61,62,63,64,66,67,69,80,83,87,90,91,92,95,96,99,100,101,105,107,108,109,110,111,112,115,116,121,122,127,128,136,138,139,149,150,151,153,154,156,158,161,163,164,165,166,172,173,174,175,176,183,185,186,187,188,189,190,196,197,198,201,204,205,207,210,216,222,223,226,229,1000012,1000056,1000083,1000197,1000216,1000229]
def Lu:List (Nat×SV×SV):=[(141,SV.of [.agg (SV.of [.vi (.int 1),.vi (.int 1)]),.agg (SV.of [.vi (.int 2),.vi (.int 1)]),.agg (SV.of [.vi (.int 3),.vi (.int 2)]),.agg (SV.of [.vi (.int 4),.vi (.int 2)]),.agg (SV.of [.vi (.int 5),.vi (.int 1)]),.agg (SV.of [.vi (.int 5),.vi (.int 2)]),.agg (SV.of [.vi (.int 5),.vi (.int 3)]),.agg (SV.of [.vi (.int 6),.vi (.int 4)])],SV.of [.vi (.int 3),.vi (.int 2),.vi (.int 3),.vi (.int 6),.vi (.int 7),.vi (.int 7),.vi (.int 7),.vi (.int 8)])]
abbrev iQ:=Bool
abbrev rD:=Int×Int
def ui(n:Nat) (go0:rD->Option iQ) (v0 v2 v3 v4 v5:Int) (v7:Lv) (v14 v15:Int):Option iQ:=
 (bif(decide (v15<(v7.length:Int)))then bif(decide (0<=v15))then(bif(!(decide ((cI v7 v15 0)=v0)))then some false
 else(gr n v2 v3 v4 v5 (cI v7 v15 0) (cI v7 v15 1) (cI v7 v15 2) (cI v7 v15 3) (cI v7 v15 4) (Go.Sx.cB v7 v15 5) (cL v7 v15 6)).bind fun y16=>
 (bif(!y16)then some false
 else(bif(decide ((cI v7 v15 4)<v14))then some false
 else bif((decide ((-9223372036854775808)<=(v15+1)))&&(decide ((v15+1)<=9223372036854775807)))then go0 ((cI v7 v15 4),(v15+1))else none)))else none
 else some true)
def vo(n:Nat) (v0 v1 v2 v3 v4 v5:Int) (v6 v7:Lv):Option iQ:=
 (kF n v6).bind fun y8=>
 (bif(!(decide (y8.2.2.2.2.2=0)))then some false
 else(bif(decide (0<=v0))then(bif(!(decide (v0<=99999999)))then some false
 else(bif(decide (0<=v1))then(bif(!(decide (v1<=7)))then some false
 else(bif(decide (8<(v7.length:Int)))then some false
 else(ab (fun go0 s=>ui n go0 v0 v2 v3 v4 v5 v7 s.1 s.2) n ((0,0):rD))))
 else some false))
 else some false))
def kU(n:Nat) (v0 v1 v2 v3 v4 v5:Int) (v6 v7:Lv):Option iQ:=vo n v0 v1 v2 v3 v4 v5 v6 v7
def chain_Valid_t:FnT:=⟨[(true,[.int,.int,.int,.int,.int,.int,(.sl (.cons .int (.cons .int (.cons .int .nil)))),(.sl (.cons .int (.cons .int (.cons .int (.cons .int (.cons .int (.cons .bool (.cons (.sl (.cons .int (.cons .int (.cons .int .nil)))) .nil))))))))])],.b,fun n (s:Int×Int×Int×Int×Int×Int×Lv×Lv)=>kU n s.1 s.2.1 s.2.2.1 s.2.2.2.1 s.2.2.2.2.1 s.2.2.2.2.2.1 s.2.2.2.2.2.2.1 s.2.2.2.2.2.2.2⟩
theorem Dq:chain_Valid_t.ok Tryz.prog 112:=FnT.ok_of (cfg:=⟨[((112,6,3),.inv [(.tmp 6 .int),(.tmp 39 .int)])],K6,[],Lu⟩) (tab:=life_At_T) (mt:=mtE) az xk bB (fun s fn hf=>by rw[Tryz.func112]at hf;cases hf;kernel_rfl) (fun n s=>by kernel_rfl)
def chain_Valid_T:Tab:=(112,chain_Valid_t)::life_At_T
theorem nG:chain_Valid_T.ok Tryz.prog:=Tab.ok_cons Dq xk
abbrev au:=Lv
abbrev ct:=Lv×Int
abbrev aL:=Int×Lv
abbrev kg:=Unit
def lJ(n:Nat) (go0:ct->Option au) (go1:ct->Option au) (v9:Int) (v10 v12:Lv) (v13:Int):Option au:=
 (bif(decide (v13<(v10.length:Int)))then bif(decide (0<=v13))then(bif(decide ((cI v10 v13 0)=4))then bif(decide ((((v12.length:Int)+1)*24)<=140737488355328))then bif((decide ((-9223372036854775808)<=(v13+1)))&&(decide ((v13+1)<=9223372036854775807)))then go1 ((v12++[[(AV.int (cI v10 v13 1)),(AV.int v9),(AV.bool (decide ((cI v10 v13 0)=8)))]]),(v13+1))else none else none
 else(bif(decide ((cI v10 v13 0)=8))then bif(decide ((((v12.length:Int)+1)*24)<=140737488355328))then bif((decide ((-9223372036854775808)<=(v13+1)))&&(decide ((v13+1)<=9223372036854775807)))then go1 ((v12++[[(AV.int (cI v10 v13 1)),(AV.int v9),(AV.bool (decide ((cI v10 v13 0)=8)))]]),(v13+1))else none else none
 else bif((decide ((-9223372036854775808)<=(v13+1)))&&(decide ((v13+1)<=9223372036854775807)))then go1 (v12,(v13+1))else none))else none
 else bif((decide ((-9223372036854775808)<=(v9+1)))&&(decide ((v9+1)<=9223372036854775807)))then go0 (v12,(v9+1))else none)
def eJ(n:Nat) (go0:aL->Option au) (go1:aL->Option au) (v10 v12:Int) (v13:Lv):Option au:=
 (bif(decide (0<v12))then bif(decide (0<=v12))then bif(decide (v12<(v13.length:Int)))then bif((decide ((-9223372036854775808)<=(v12-1)))&&(decide ((v12-1)<=9223372036854775807)))then bif(decide (0<=(v12-1)))then bif(decide ((v12-1)<(v13.length:Int)))then(bif(decide ((cI v13 v12 0)<(cI v13 (v12-1) 0)))then(bif(decide ((cI v13 v12 1)<(cI v13 (v12-1) 1)))then go1 ((v12-1),(List.modify (List.modify (List.modify (List.modify (List.modify (List.modify v13 (v12).toNat (fun r=>r.set 0 (AV.int (cI v13 (v12-1) 0)))) (v12).toNat (fun r=>r.set 1 (AV.int (cI v13 (v12-1) 1)))) (v12).toNat (fun r=>r.set 2 (AV.bool (Go.Sx.cB v13 (v12-1) 2)))) ((v12-1)).toNat (fun r=>r.set 0 (AV.int (cI v13 v12 0)))) ((v12-1)).toNat (fun r=>r.set 1 (AV.int (cI v13 v12 1)))) ((v12-1)).toNat (fun r=>r.set 2 (AV.bool (Go.Sx.cB v13 v12 2)))))
 else(bif(decide ((cI v13 (v12-1) 1)<(cI v13 v12 1)))then go1 ((v12-1),(List.modify (List.modify (List.modify (List.modify (List.modify (List.modify v13 (v12).toNat (fun r=>r.set 0 (AV.int (cI v13 (v12-1) 0)))) (v12).toNat (fun r=>r.set 1 (AV.int (cI v13 (v12-1) 1)))) (v12).toNat (fun r=>r.set 2 (AV.bool (Go.Sx.cB v13 (v12-1) 2)))) ((v12-1)).toNat (fun r=>r.set 0 (AV.int (cI v13 v12 0)))) ((v12-1)).toNat (fun r=>r.set 1 (AV.int (cI v13 v12 1)))) ((v12-1)).toNat (fun r=>r.set 2 (AV.bool (Go.Sx.cB v13 v12 2)))))
 else go1 ((v12-1),(List.modify (List.modify (List.modify (List.modify (List.modify (List.modify v13 (v12).toNat (fun r=>r.set 0 (AV.int (cI v13 (v12-1) 0)))) (v12).toNat (fun r=>r.set 1 (AV.int (cI v13 (v12-1) 1)))) (v12).toNat (fun r=>r.set 2 (AV.bool (Go.Sx.cB v13 (v12-1) 2)))) ((v12-1)).toNat (fun r=>r.set 0 (AV.int (cI v13 v12 0)))) ((v12-1)).toNat (fun r=>r.set 1 (AV.int (cI v13 v12 1)))) ((v12-1)).toNat (fun r=>r.set 2 (AV.bool (Go.Sx.cB v13 v12 2)))))))
 else(bif(decide ((cI v13 (v12-1) 0)<(cI v13 v12 0)))then(bif(decide ((cI v13 v12 1)<(cI v13 (v12-1) 1)))then bif((decide ((-9223372036854775808)<=(v10+1)))&&(decide ((v10+1)<=9223372036854775807)))then go0 ((v10+1),v13)else none
 else(bif(decide ((cI v13 (v12-1) 1)<(cI v13 v12 1)))then bif((decide ((-9223372036854775808)<=(v10+1)))&&(decide ((v10+1)<=9223372036854775807)))then go0 ((v10+1),v13)else none
 else bif((decide ((-9223372036854775808)<=(v10+1)))&&(decide ((v10+1)<=9223372036854775807)))then go0 ((v10+1),v13)else none))
 else(bif(decide ((cI v13 v12 1)<(cI v13 (v12-1) 1)))then go1 ((v12-1),(List.modify (List.modify (List.modify (List.modify (List.modify (List.modify v13 (v12).toNat (fun r=>r.set 0 (AV.int (cI v13 (v12-1) 0)))) (v12).toNat (fun r=>r.set 1 (AV.int (cI v13 (v12-1) 1)))) (v12).toNat (fun r=>r.set 2 (AV.bool (Go.Sx.cB v13 (v12-1) 2)))) ((v12-1)).toNat (fun r=>r.set 0 (AV.int (cI v13 v12 0)))) ((v12-1)).toNat (fun r=>r.set 1 (AV.int (cI v13 v12 1)))) ((v12-1)).toNat (fun r=>r.set 2 (AV.bool (Go.Sx.cB v13 v12 2)))))
 else(bif(decide ((cI v13 (v12-1) 1)<(cI v13 v12 1)))then bif((decide ((-9223372036854775808)<=(v10+1)))&&(decide ((v10+1)<=9223372036854775807)))then go0 ((v10+1),v13)else none
 else bif((decide ((-9223372036854775808)<=(v10+1)))&&(decide ((v10+1)<=9223372036854775807)))then go0 ((v10+1),v13)else none))))else none else none else none else none else none
 else bif((decide ((-9223372036854775808)<=(v10+1)))&&(decide ((v10+1)<=9223372036854775807)))then go0 ((v10+1),v13)else none)
def xl(n:Nat) (go0:aL->Option au) (v10:Int) (v11:Lv):Option au:=
 (bif(decide (v10<20))then(ab (fun go1 s=>eJ n go0 go1 v10 s.1 s.2) n ((v10,v11):aL))
 else none)
abbrev bI:= @eJ
def vO(n:Nat) (go0:kg->Option au):Option au:=
 none
def gV(n:Nat) (go0:aL->Option au) (v8:Lv) (v10:Int) (v11:Lv):Option au:=
 (bif(decide (v10<(v8.length:Int)))then(ab (fun go1 s=>bI n go0 go1 v10 s.1 s.2) n ((v10,v11):aL))
 else(bif(decide (20<(v8.length:Int)))then(ab (fun go0 s=>vO n go0 ) n (():kg))
 else some v11))
def lA(n:Nat) (go0:ct->Option au) (v8:Lv):Option au:=
 (bif(decide (20<=(v8.length:Int)))then(ab (fun go0 s=>xl n go0 s.1 s.2) n ((1,v8):aL))
 else(ab (fun go0 s=>gV n go0 v8 s.1 s.2) n ((1,v8):aL)))
def ly(n:Nat) (go0:ct->Option au) (v2 v3 v4 v5:Int) (v7 v8:Lv) (v9:Int):Option au:=
 (bif(decide (v9<(v7.length:Int)))then bif(decide (0<=v9))then(iy n v2 v3 v4 v5 (cI v7 v9 0) (cI v7 v9 1) (cI v7 v9 2) (cI v7 v9 3) (cI v7 v9 4) (Go.Sx.cB v7 v9 5) (cL v7 v9 6)).bind fun y10=>
 (ab (fun go1 s=>lJ n go0 go1 v9 y10.1 s.1 s.2) n ((v8,0):ct))else none
 else lA n go0 v8)
def lr(n:Nat) (v2 v3 v4 v5:Int) (v7:Lv):Option au:=
 (ab (fun go0 s=>ly n go0 v2 v3 v4 v5 v7 s.1 s.2) n ((([]:Lv),0):ct))
def fA(n:Nat) (v0 v1 v2 v3 v4 v5:Int) (v6 v7:Lv):Option au:=lr n v2 v3 v4 v5 v7
def chain_happenings_t:FnT:=⟨[(true,[.int,.int,.int,.int,.int,.int,(.sl (.cons .int (.cons .int (.cons .int .nil)))),(.sl (.cons .int (.cons .int (.cons .int (.cons .int (.cons .int (.cons .bool (.cons (.sl (.cons .int (.cons .int (.cons .int .nil)))) .nil))))))))])],(.row 239 (.cons .int (.cons .int (.cons .bool .nil)))),fun n (s:Int×Int×Int×Int×Int×Int×Lv×Lv)=>fA n s.1 s.2.1 s.2.2.1 s.2.2.2.1 s.2.2.2.2.1 s.2.2.2.2.2.1 s.2.2.2.2.2.2.1 s.2.2.2.2.2.2.2⟩
theorem vp:chain_happenings_t.ok Tryz.prog 161:=FnT.ok_of (cfg:=⟨[((211,2,0),.unroll 1),((211,7,0),.unroll 1),((194,3,0),.unroll 3),((161,3,1),.inv [(.tmprow 3 239 (.cons .int (.cons .int (.cons .bool .nil)))),(.tmp 13 .int)]),((161,7,6),.inv [(.tmprow 3 239 (.cons .int (.cons .int (.cons .bool .nil)))),(.tmp 30 .int)]),((225,1,3),.inv [(.tmp 8 .int),(.inrow 1 239 (.cons .int (.cons .int (.cons .bool .nil))))]),((225,4,5),.inv [(.tmp 9 .int),(.inrow 1 239 (.cons .int (.cons .int (.cons .bool .nil))))]),((211,9,5),.inv [])],K6,[],Lu⟩) (tab:=chain_Valid_T) (mt:=mtE) az nG bB (fun s fn hf=>by rw[Tryz.func161]at hf;cases hf;kernel_rfl) (fun n s=>by kernel_rfl)
def chain_happenings_T:Tab:=(161,chain_happenings_t)::chain_Valid_T
theorem jp:chain_happenings_T.ok Tryz.prog:=Tab.ok_cons vp nG
end
end Go.Proofs.YtgckmifmjiklmaaGreat
namespace Go.Dial.Chn
open Go.Dial.Clm Go.Dial.Lif
structure Pt where
 c:Cl
 es:List Ce
structure Ch where
 n:Int
 f:Int
 r:Rl
 life:List Ev
 ps:List Pt
def PtsV(n:Int) (r:Rl):Int->List Pt->Prop
 |_,[]=>True
 |last,p::ps=>(p.c.n=n/\dq r p.c p.es/\last<=p.c.a)/\PtsV n r p.c.a ps
instance PtsV.dec (n:Int) (r:Rl):(last:Int)->(ps:List Pt)->Decidable (PtsV n r last ps)
 |_,[]=>.isTrue trivial
 |last,p::ps=>by
  have:=PtsV.dec n r p.c.a ps
  unfold PtsV
  infer_instance
def ChV(c:Ch):Prop:=Life c.life/\0<=c.n/\c.n<=99999999/\0<=c.f/\c.f<=7/\c.ps.length<=8/\PtsV c.n c.r 0 c.ps
instance (c:Ch):Decidable (ChV c):=by unfold ChV;infer_instance
structure Hp where
 a:Int
 p:Int
 b:Bool
deriving DecidableEq
def bG(i:Nat) (x:Cs):Option Hp:=if x.s=4\/x.s=8 then some ⟨x.f,i,decide (x.s=8)⟩else none
def dk(r:Rl):Nat->List Pt->List Hp
 |_,[]=>[]
 |i,p::ps=>(ar r p.c p.es).filterMap (bG i)++dk r (i+1) ps
def ltH(x y:Hp):Prop:=x.a<y.a\/(x.a=y.a/\x.p<y.p)
instance (x y:Hp):Decidable (ltH x y):=by unfold ltH;infer_instance
def ins(x:Hp):List Hp->List Hp
 |[]=>[x]
 |y::l=>if ltH x y then x::y::l else y::ins x l
def gy(l:List Hp):List Hp:=l.foldl (fun acc x=>ins x acc) []
def d9:List Hp->Prop
 |[]=>True
 |x::l=>(∀y∈l,¬ltH y x)/\d9 l
theorem DW{x y z:Hp} (h1:¬ltH y x) (h2:¬ltH z y):¬ltH z x:=by unfold ltH at *;omega
theorem D2{x y:Hp} (h:ltH x y):¬ltH y x:=by unfold ltH at *;omega
theorem mem_ins{x y:Hp} {l:List Hp}:y∈ins x l↔y=x\/y∈l:=by
 induction l with
 |nil=>simp[ins]
 | cons z l ih=>
  unfold ins
  split
  ·simp
  ·simp only[List.mem_cons,ih]
   constructor
   ·rintro (h|h|h)
    ·exact .inr (.inl h)
    ·exact .inl h
    ·exact .inr (.inr h)
   ·rintro (h|h|h)
    ·exact .inr (.inl h)
    ·exact .inl h
    ·exact .inr (.inr h)
theorem JS{x:Hp} {l:List Hp} (h:d9 l):d9 (ins x l):=by
 induction l with
 |nil=>exact⟨fun y hy=>(by cases hy),trivial⟩
 | cons z l ih=>
  unfold ins
  split
  ·rename_i hx
   refine⟨fun y hy=>?_,h⟩
   rcases List.mem_cons.1 hy with rfl|hy
   ·exact D2 hx
   ·exact DW (D2 hx) (h.1 y hy)
  ·rename_i hx
   refine⟨fun y hy=>?_,ih h.2⟩
   rcases mem_ins.1 hy with rfl|hy
   ·exact hx
   ·exact h.1 y hy
theorem xn(l:List Hp):d9 (gy l):=by
 have:∀(l acc:List Hp),d9 acc->d9 (l.foldl (fun acc x=>ins x acc) acc):=by
  intro l
  induction l with
  |nil=>intro acc h;exact h
  |cons x l ih=>intro acc h;exact ih _ (JS h)
 exact this l [] trivial
theorem Jz(l:List Hp) (x:Hp):gy (l++[x])=ins x (gy l):=by simp[gy]
theorem Nc(x:Hp) (l:List Hp):(ins x l).length=l.length+1:=by
 induction l with
 |nil=>rfl
 |cons y l ih=>unfold ins;split<;>simp[ih]
theorem DI(l:List Hp):(gy l).length=l.length:=by
 have:∀(l acc:List Hp),(l.foldl (fun acc x=>ins x acc) acc).length=acc.length+l.length:=by
  intro l
  induction l with
  |nil=>intro acc;simp
  |cons x l ih=>intro acc;rw[List.foldl_cons,ih,Nc,List.length_cons];omega
 have:=this l []
 simpa[gy]using this
theorem Hw{x:Hp}:∀ {A B:List Hp},d9 (A++B)->(∀y∈B,ltH x y)->(∀y,A.getLast?=some y->¬ltH x y)->ins x (A++B)=A++x::B
 |[],[],_,_,_=>rfl
 |[],z::B,_,h,_=>by
  show ins x (z::B)=_
  rw[ins,if_pos (h z (List.mem_cons_self ..))];rfl
 | z::A,B,hS,hB,hA=>by
  have hz:¬ltH x z:=by
   cases A with
   |nil=>exact hA z rfl
   |cons w A=>
    obtain⟨y,hy⟩:∃y,(w::A).getLast?=some y:=⟨_,List.getLast?_eq_some_getLast (by simp)⟩
    have h1:=hA y (by rw[List.getLast?_cons_cons];exact hy)
    have h2:=hS.1 y (List.mem_append_left _ (List.mem_of_getLast? hy))
    exact DW h2 h1
  rw[List.cons_append,ins,if_neg hz,Hw hS.2 hB (fun y hy=>hA y (by
   cases A with
   |nil=>cases hy
   |cons w A=>rw[List.getLast?_cons_cons];exact hy))]
  rfl
def hb(s:Int):Nat:=if 1<=s/\s<=3 then 2 else if s=4 then 1 else 0
theorem DG{b:Bool} {s:Int} {e:Ce} (h:¬bec b s e<0):(1<=s/\s<=3/\(bec b s e=2\/bec b s e=3\/bec b s e=6\/bec b s e=7))\/(s=4/\bec b s e=8):=by
 unfold bec at *
 grind
theorem N5{r:Rl} {b:Bool} {i:Nat}:∀(m:Nat) (now:Cs) (es:List Ce),5*es.length+rk now.s<=m->((tl r b now es).filterMap (bG i)).length<=hb now.s:=by
 intro m
 have auto:∀(now:Cs) (k:Nat),act now->k<=hb (aft now.s)->(if aft now.s=4\/aft now.s=8 then 1 else 0)+k<=hb now.s:=by
  intro now k ha hk
  have:now.s=1\/now.s=2\/now.s=3\/now.s=4:=by unfold act at ha;omega
  rcases this with h|h|h|h<;>rw[h]at hk⊢<;>simp[aft,hb]at hk⊢<;>omega
 have cons:∀(x:Cs) (l:List Cs),((x::l).filterMap (bG i)).length=(if x.s=4\/x.s=8 then 1 else 0)+(l.filterMap (bG i)).length:=by
  intro x l
  rw[List.filterMap_cons]
  unfold bG
  split
  ·rename_i h;split at h
   ·cases h
   ·rename_i h2;rw[if_neg h2];omega
  ·rename_i h;split at h
   ·rename_i h2;rw[if_pos h2];simp;omega
   ·cases h
 induction m with
 | zero=>
  intro now es hm
  have he:es=[]:=by
   cases es with
   |nil=>rfl
   |cons e es=>simp at hm
  subst he
  by_cases ha:act now
  ·have:=cK ha;omega
  ·rw[j5 ha];simp
 | succ m ih=>
  intro now es hm
  cases es with
  | nil=>
   by_cases ha:act now
   ·rw[r7 ha,cons]
    exact auto now _ ha (ih (st r (aft now.s) now.n) [] (by have:=cK ha;simp only[st];omega))
   ·rw[j5 ha];simp
  | cons e es=>
   by_cases ha:act now/\now.n<=e.a
   ·rw[nj ha,cons]
    exact auto now _ ha.1 (ih (st r (aft now.s) now.n) (e::es) (by have:=cK ha.1;simp only[st];omega))
   ·by_cases hbb:bec b now.s e<0
    ·rw[ng ha hbb]
     exact ih now es (by simp only[List.length_cons]at hm;omega)
    ·rw[yT ha hbb,cons]
     have:=ih (st r (bec b now.s e) e.a) es (by simp only[List.length_cons]at hm;have:=eH (st r (bec b now.s e) e.a).s;omega)
     have hs:(st r (bec b now.s e) e.a).s=bec b now.s e:=rfl
     rw[hs]at this⊢
     rcases DG hbb with⟨h1,h2,h3⟩|⟨h1,h2⟩
     ·have h4:hb now.s=2:=by unfold hb;rw[if_pos ⟨h1,h2⟩]
      rw[h4]
      have q2:hb 2=2:=rfl
      have q3:hb 3=2:=rfl
      have q6:hb 6=0:=rfl
      have q7:hb 7=0:=rfl
      rcases h3 with h|h|h|h<;>rw[h]at this⊢<;>(try rw[q2]at this)<;>(try rw[q3]at this)<;>(try rw[q6]at this)<;>(try rw[q7]at this)<;>split<;>omega
     ·rw[h2]at this⊢
      rw[h1]
      have q8:hb 8=0:=rfl
      have q4:hb 4=1:=rfl
      rw[q8]at this
      rw[q4]
      split<;>omega
theorem HJ{r:Rl} {c:Cl} {es:List Ce} {i:Nat}:((ar r c es).filterMap (bG i)).length<=2:=by
 have:=N5 (r:=r) (b:=c.b) (i:=i) _ (x0 r c) es (Nat.le_refl _)
 unfold ar
 rw[List.filterMap_cons]
 have h0:bG i (x0 r c)=none:=by unfold bG x0 st;simp
 rw[h0]
 have h1:hb (x0 r c).s=2:=rfl
 rw[h1]at this
 exact this
theorem qz(r:Rl):∀(ps:List Pt) (i:Nat),(dk r i ps).length<=2*ps.length
 |[],i=>by simp[dk]
 |p::ps,i=>by
  have h1:=HJ (r:=r) (c:=p.c) (es:=p.es) (i:=i)
  have h2:=qz r ps (i+1)
  simp only[dk,List.length_append,List.length_cons]
  omega
def hps(c:Ch):List Hp:=gy (dk c.r 0 c.ps)
end Go.Dial.Chn
set_option maxRecDepth 100000
namespace Go.Proofs.YtgckmifmjiklmaaGreat
open Go Go.Sx Go.Dial.Clm Go.Dial.Lif Go.Dial.Chn
abbrev ptR(p:Pt):List AV:=[.int p.c.n,.int p.c.f,.int p.c.t,.int p.c.h,.int p.c.a,.bool p.c.b,.sl (.cons .int (.cons .int (.cons .int .nil))) (ceL p.es)]
abbrev ptL(ps:List Pt):Lv:=ps.map ptR
theorem FY (n:Nat) (c:Ch) (hl:c.life.length<n) (hn:200<n):kU n c.n c.f c.r.a c.r.c c.r.s c.r.r (lfL c.life) (ptL c.ps)=some (decide (ChV c)):=by
 unfold kU vo ChV
 rw[tA n c.life hl]
 simp only[Option.bind_some,l7]
 by_cases h0:Life c.life
 ·rw [jf h0]
  by_cases h1:0<=c.n/\c.n<=99999999/\0<=c.f/\c.f<=7
  ·by_cases h2:c.ps.length<=8
   ·have c3:¬(8:Int)<((ptL c.ps).length:Int):=by rw[List.length_map];omega
    simp only[h0,h1,h2,decide_true,Bool.not_true,true_and]
    simp only[cond_true,cond_false]
    rw[decide_eq_false c3,cond_false]
    refine aA (fun s=>∃(i:Nat) (last:Int),s=(last,(i:Int))/\i<=c.ps.length/\(PtsV c.n c.r 0 c.ps↔PtsV c.n c.r last (c.ps.drop i))) (fun s=>c.ps.length-s.2.toNat) _ ?_ n _ ⟨0,0,rfl,by omega,by simp⟩ (by simp;omega)
    rintro _ go ⟨i,last,rfl,hi,hE⟩ ih
    simp only
    unfold ui
    by_cases hlt:i<c.ps.length
    ·obtain⟨p,hp⟩:=aI hlt
     have hc:∀k,cA (ptL c.ps) (i:Int) k=(ptR p).getD k (.int 0):=fun k=>bH (by simpa using hp)
     have g0:cI (ptL c.ps) i 0=p.c.n:=by simp only[cI,hc];rfl
     have g1:cI (ptL c.ps) i 1=p.c.f:=by simp only[cI,hc];rfl
     have g2:cI (ptL c.ps) i 2=p.c.t:=by simp only[cI,hc];rfl
     have g3:cI (ptL c.ps) i 3=p.c.h:=by simp only[cI,hc];rfl
     have g4:cI (ptL c.ps) i 4=p.c.a:=by simp only[cI,hc];rfl
     have g5:Go.Sx.cB (ptL c.ps) i 5=p.c.b:=by simp only[Go.Sx.cB,hc];rfl
     have g6:cL (ptL c.ps) i 6=ceL p.es:=by simp only[cL,hc];rfl
     have c1:(i:Int)<((ptL c.ps).length:Int):=by rw[List.length_map];omega
     have c2:(0:Int)<=(i:Int):=by omega
     have c4:(-9223372036854775808:Int)<=(i:Int)+1:=by omega
     have c5:(i:Int)+1<=(9223372036854775807:Int):=by omega
     rw[dv hp]at hE
     simp only[g0,g1,g2,g3,g4,g5,g6,tM n c.r p.c p.es (by omega),c1,c2,c4,c5,decide_true,Bool.and_self,Option.bind_some]
     simp only[cond_true]
     by_cases k1:p.c.n=c.n
     ·by_cases k2:dq c.r p.c p.es
      ·by_cases k3:p.c.a<last
       ·have:¬PtsV c.n c.r 0 c.ps:=fun h=>by have:=(hE.1 h).1.2.2;omega
        simp[k1,k2,k3,this]
       ·have hgo:=ih _ ⟨i+1,p.c.a,rfl,by omega,by rw[hE];exact⟨fun h=>h.2,fun h=>⟨⟨k1,k2,by omega⟩,h⟩⟩⟩ (by simp only;omega)
        rw[<-hgo]
        simp[k1,k2,k3]
      ·have:¬PtsV c.n c.r 0 c.ps:=fun h=>k2 (hE.1 h).1.2.1
       simp[k1,k2,this]
     ·have:¬PtsV c.n c.r 0 c.ps:=fun h=>k1 (hE.1 h).1.1
      simp[k1,this]
    ·have h00:i=c.ps.length:=by omega
     have c1:¬(i:Int)<((ptL c.ps).length:Int):=by rw[List.length_map];omega
     rw[decide_eq_false c1,cond_false]
     subst h00
     rw[List.drop_length]at hE
     have:PtsV c.n c.r 0 c.ps:=hE.2 trivial
     simp[this]
   ·have c3:(8:Int)<((ptL c.ps).length:Int):=by rw[List.length_map];omega
    simp only[h0,h1,h2,c3,decide_true,Bool.not_true,false_and,and_false,decide_false]
    simp only[cond_true,cond_false]
  ·have:¬(Life c.life/\0<=c.n/\c.n<=99999999/\0<=c.f/\c.f<=7/\c.ps.length<=8/\PtsV c.n c.r 0 c.ps):=fun h=>h1 ⟨h.2.1,h.2.2.1,h.2.2.2.1,h.2.2.2.2.1⟩
   simp only[this,decide_false]
   grind
 ·rw[yy h0]
  simp[h0]
set_option maxRecDepth 100000
abbrev hpR(h:Hp):List AV:=[.int h.a,.int h.p,.bool h.b]
abbrev hpL(l:List Hp):Lv:=l.map hpR
theorem im{α:Type} {l:List α} {i:Nat} {f:α->α} {x:α} (h:l[i]?=some x):l.modify i f=l.set i (f x):=by
 apply List.ext_getElem?
 intro j
 rw[List.getElem?_modify,List.getElem?_set]
 by_cases e:i=j
 ·subst e
  obtain⟨h1,h2⟩:=List.getElem?_eq_some_iff.1 h
  simp[h1,h2]
 ·simp[e]
theorem Kv{A B:List Hp} {x y:Hp} {j:Nat} (hj:j=A.length+1):
  (List.modify (List.modify (List.modify (List.modify (List.modify (List.modify (hpL (A++y::x::B)) j (fun r=>r.set 0 (AV.int y.a))) j (fun r=>r.set 1 (AV.int y.p))) j (fun r=>r.set 2 (AV.bool y.b))) (j-1) (fun r=>r.set 0 (AV.int x.a))) (j-1) (fun r=>r.set 1 (AV.int x.p))) (j-1) (fun r=>r.set 2 (AV.bool x.b)))=hpL (A++x::y::B):=by
 subst hj
 have e1:∀(a b:List AV),((A.map hpR)++a::b::B.map hpR)[A.length+1]?=some b:=fun a b=>by
  rw[List.getElem?_append_right (by simp)];simp
 have e2:∀(a b:List AV),((A.map hpR)++a::b::B.map hpR)[A.length]?=some a:=fun a b=>by
  rw[List.getElem?_append_right (by simp)];simp
 have s1:∀(a b c:List AV),((A.map hpR)++a::b::B.map hpR).set (A.length+1) c=(A.map hpR)++a::c::B.map hpR:=fun a b c=>by
  rw[List.set_append_right _ _ (by simp)];simp
 have s2:∀(a b c:List AV),((A.map hpR)++a::b::B.map hpR).set A.length c=(A.map hpR)++c::b::B.map hpR:=fun a b c=>by
  rw[List.set_append_right _ _ (by simp)];simp
 simp only[hpL,List.map_append,List.map_cons,Nat.add_sub_cancel]
 rw[im (e1 _ _),s1,im (e1 _ _),s1,im (e1 _ _),s1,im (e2 _ _),s2,im (e2 _ _),s2,im (e2 _ _),s2]
 rfl
theorem Ly(n:Nat) (go0:aL->Option au) (go1:aL->Option au) (i:Nat) (hi:i<=100) (L:Lv):bI n go0 go1 (i:Int) 0 L=go0 ((i:Int)+1,L):=by
 unfold bI
 try unfold eJ
 have c8:(-9223372036854775808:Int)<=(i:Int)+1:=by omega
 have c9:(i:Int)+1<=(9223372036854775807:Int):=by omega
 simp[c8,c9]
theorem KK(n:Nat) (go0:aL->Option au) (go1:aL->Option au) (i:Nat) (hi:i<=100) (A B:List Hp) (x y:Hp) (hA:A.length<=100):
  bI n go0 go1 (i:Int) ((A.length+1:Nat):Int) (hpL (A++y::x::B))=if ltH x y then go1 ((A.length:Int),hpL (A++x::y::B))else go0 ((i:Int)+1,hpL (A++y::x::B)):=by
 have hx:∀k,cA (hpL (A++y::x::B)) ((A.length+1:Nat):Int) k=(hpR x).getD k (.int 0):=fun k=>bH (by
  rw[show(((A.length+1:Nat):Int)).toNat=A.length+1 by omega,List.getElem?_append_right (by omega)];simp)
 have hy:∀k,cA (hpL (A++y::x::B)) (((A.length+1:Nat):Int)-1) k=(hpR y).getD k (.int 0):=fun k=>bH (by
  rw[show(((A.length+1:Nat):Int)-1).toNat=A.length by omega,List.getElem?_append_right (by omega)];simp)
 have x0:cI (hpL (A++y::x::B)) ((A.length+1:Nat):Int) 0=x.a:=by simp only[cI,hx];rfl
 have x1:cI (hpL (A++y::x::B)) ((A.length+1:Nat):Int) 1=x.p:=by simp only[cI,hx];rfl
 have x2:Go.Sx.cB (hpL (A++y::x::B)) ((A.length+1:Nat):Int) 2=x.b:=by simp only[Go.Sx.cB,hx];rfl
 have y0:cI (hpL (A++y::x::B)) (((A.length+1:Nat):Int)-1) 0=y.a:=by simp only[cI,hy];rfl
 have y1:cI (hpL (A++y::x::B)) (((A.length+1:Nat):Int)-1) 1=y.p:=by simp only[cI,hy];rfl
 have y2:Go.Sx.cB (hpL (A++y::x::B)) (((A.length+1:Nat):Int)-1) 2=y.b:=by simp only[Go.Sx.cB,hy];rfl
 have hsw:=Kv (A:=A) (B:=B) (x:=x) (y:=y) (j:=A.length+1) rfl
 rw[Nat.add_sub_cancel]at hsw
 have t1:(((A.length+1:Nat):Int)).toNat=A.length+1:=by omega
 have t2:(((A.length+1:Nat):Int)-1).toNat=A.length:=by omega
 have t3:((A.length+1:Nat):Int)-1=(A.length:Int):=by omega
 have c8:(-9223372036854775808:Int)<=(i:Int)+1:=by omega
 have c9:(i:Int)+1<=(9223372036854775807:Int):=by omega
 have d1:(0:Int)<((A.length+1:Nat):Int):=by omega
 have d2:(0:Int)<=((A.length+1:Nat):Int):=by omega
 have d3:((A.length+1:Nat):Int)<((hpL (A++y::x::B)).length:Int):=by simp;omega
 have d4:(-9223372036854775808:Int)<=((A.length+1:Nat):Int)-1:=by omega
 have d5:((A.length+1:Nat):Int)-1<=(9223372036854775807:Int):=by omega
 have d6:(0:Int)<=((A.length+1:Nat):Int)-1:=by omega
 have d7:((A.length+1:Nat):Int)-1<((hpL (A++y::x::B)).length:Int):=by simp;omega
 unfold bI
 try unfold eJ
 generalize hL:hpL (A++y::x::B)=L at *
 generalize ((A.length+1:Nat):Int)=j at *
 simp only[x0,x1,x2,y0,y1,y2,c8,c9,d1,d2,d3,d4,d5,d6,d7,t1,t2,hsw,decide_true,Bool.and_self]
 simp only[cond_true]
 rw[t3]
 by_cases hlt:ltH x y
 ·rw[if_pos hlt]
  unfold ltH at hlt
  by_cases k1:x.a<y.a
  ·simp[k1]
  ·have k4:x.a=y.a:=by omega
   have k5:x.p<y.p:=by omega
   simp[k4,k5]
 ·rw[if_neg hlt]
  unfold ltH at hlt
  have k1:¬x.a<y.a:=by omega
  by_cases k2:y.a<x.a
  ·simp[k1,k2]
  ·have k4:x.a=y.a:=by omega
   have k5:¬x.p<y.p:=by omega
   simp[k4,k5]
theorem M7(n:Nat) (go0:aL->Option au) (i:Nat) (hi:i<=100) (x:Hp) (S R:List Hp) (hS:d9 S) (hl:S.length<=100):∀(m:Nat) (A B:List Hp),S=A++B->(∀y∈B,ltH x y)->A.length<m →
  ab (fun go1 s=>bI n go0 go1 (i:Int) s.1 s.2) m ((A.length:Int),hpL (A++x::(B++R)))=go0 ((i:Int)+1,hpL (ins x S++R)):=by
 intro m
 induction m with
 |zero=>intro A B _ _ h;omega
 | succ m ih=>
  intro A B hAB hB hm
  rw[JD]
  rcases List.eq_nil_or_concat A with rfl|⟨A',y,rfl⟩
  ·show bI n go0 _ (i:Int) 0 _=_
   rw[Ly n go0 _ i hi]
   have hS':d9 ([]++B):=hAB▸hS
   rw[hAB,Hw hS' hB (fun y hy=>by cases hy)]
   simp
  ·rw[List.concat_eq_append]at hAB hm⊢
   have e1:(A'++[y])++x::(B++R)=A'++y::x::(B++R):=by simp
   have e2:((A'++[y]).length:Int)=((A'.length+1:Nat):Int):=by simp
   rw[e1,e2]
   show bI n go0 _ (i:Int) ((A'.length+1:Nat):Int) (hpL (A'++y::x::(B++R)))=_
   have hA':A'.length<=100:=by rw[hAB]at hl;simp at hl;omega
   rw[KK n go0 _ i hi A' (B++R) x y hA']
   by_cases hxy:ltH x y
   ·rw[if_pos hxy]
    have:=ih A' (y::B) (by rw[hAB];simp) (fun z hz=>by
     rcases List.mem_cons.1 hz with rfl|hz
     ·exact hxy
     ·exact hB z hz) (by simp at hm;omega)
    rw[List.cons_append]at this
    exact this
   ·rw[if_neg hxy]
    have hS':d9 ((A'++[y])++B):=hAB▸hS
    rw[hAB,Hw hS' hB (fun z hz=>by simp at hz;subst hz;exact hxy)]
    simp
theorem LN(n:Nat) (l:List Hp) (hl:l.length<=19) (hn:200<n):ab (fun go0 s=>gV n go0 (hpL l) s.1 s.2) n ((1:Int),hpL l)=some (hpL (gy l)):=by
 refine aA (fun s=>∃i:Nat,s=((i:Int),hpL (gy (l.take i)++l.drop i))/\1<=i/\i<=l.length+1) (fun s=>l.length+1-s.1.toNat) _ ?_ n _ ⟨1,?_,by omega,by omega⟩ (by simp;omega)
 ·rintro _ go ⟨i,rfl,h1,h2⟩ ih
  simp only
  unfold gV
  by_cases hlt:i<l.length
  ·have c1:(i:Int)<((hpL l).length:Int):=by rw[List.length_map];omega
   obtain⟨x,hx⟩:=aI hlt
   rw[decide_eq_true c1,cond_true,dv hx]
   have hli:(gy (l.take i)).length=i:=by rw[DI,List.length_take];omega
   have:=M7 n go i (by omega) x (gy (l.take i)) (l.drop (i+1)) (xn _) (by omega) n (gy (l.take i)) [] (by simp) (fun y hy=>by cases hy) (by omega)
   rw[hli,List.nil_append]at this
   rw[this]
   exact ih _ ⟨i+1,by rw[bW hx,Jz];simp,by omega,by omega⟩ (by simp only;omega)
  ·have c1:¬(i:Int)<((hpL l).length:Int):=by rw[List.length_map];omega
   have c2:¬(20:Int)<((hpL l).length:Int):=by rw[List.length_map];omega
   rw[decide_eq_false c1,cond_false,decide_eq_false c2,cond_false,List.take_of_length_le (by omega),List.drop_of_length_le (by omega),List.append_nil]
 ·cases l with
  |nil=>rfl
  |cons x l=>rfl
set_option maxRecDepth 100000
theorem Ay{n:Int} {r:Rl}:∀ {ps:List Pt} {last:Int},PtsV n r last ps->∀p∈ps,p.c.n=n/\dq r p.c p.es
 |[],_,_,p,hp=>by cases hp
 |q::ps,_,h,p,hp=>by
  rcases List.mem_cons.1 hp with rfl|hp
  ·exact⟨h.1.1,h.1.2.1⟩
  ·exact Ay h.2 p hp
theorem GS{r:Rl} {ps:List Pt} {i:Nat} {p:Pt} (h:ps[i]?=some p):dk r i (ps.drop i)=(ar r p.c p.es).filterMap (bG i)++dk r (i+1) (ps.drop (i+1)):=by
 rw[dv h];rfl
theorem wL(n:Nat) (c:Ch) (h:ChV c) (hn:200<n):fA n c.n c.f c.r.a c.r.c c.r.s c.r.r (lfL c.life) (ptL c.ps)=some (hpL (hps c)):=by
 obtain⟨_,_,_,_,_,h8,hP⟩:=h
 have htot:=qz c.r c.ps 0
 unfold fA lr
 refine aA (fun s=>∃(i:Nat) (A:List Hp),s=(hpL A,(i:Int))/\i<=c.ps.length/\A++dk c.r i (c.ps.drop i)=dk c.r 0 c.ps) (fun s=>c.ps.length-s.2.toNat) _ ?_ n _ ⟨0,[],rfl,by omega,by simp⟩ (by simp;omega)
 rintro _ go ⟨i,A,rfl,hi,hA⟩ ih
 simp only
 unfold ly
 by_cases hlt:i<c.ps.length
 ·obtain⟨p,hp⟩:=aI hlt
  have hc:∀k,cA (ptL c.ps) (i:Int) k=(ptR p).getD k (.int 0):=fun k=>bH (by simpa using hp)
  have g0:cI (ptL c.ps) i 0=p.c.n:=by simp only[cI,hc];rfl
  have g1:cI (ptL c.ps) i 1=p.c.f:=by simp only[cI,hc];rfl
  have g2:cI (ptL c.ps) i 2=p.c.t:=by simp only[cI,hc];rfl
  have g3:cI (ptL c.ps) i 3=p.c.h:=by simp only[cI,hc];rfl
  have g4:cI (ptL c.ps) i 4=p.c.a:=by simp only[cI,hc];rfl
  have g5:Go.Sx.cB (ptL c.ps) i 5=p.c.b:=by simp only[Go.Sx.cB,hc];rfl
  have g6:cL (ptL c.ps) i 6=ceL p.es:=by simp only[cL,hc];rfl
  have c1:(i:Int)<((ptL c.ps).length:Int):=by rw[List.length_map];omega
  have c2:(0:Int)<=(i:Int):=by omega
  have hv:=(Ay hP p (List.mem_of_getElem? hp)).2
  rw[decide_eq_true c1,cond_true,decide_eq_true c2,cond_true,g0,g1,g2,g3,g4,g5,g6,Ar n c.r p.c p.es hn,if_pos hv,Option.bind_some]
  rw[GS hp]at hA
  obtain⟨T,hT⟩:∃T,T=ar c.r p.c p.es:=⟨_,rfl⟩
  have hTl:T.length<=110:=by rw[hT];exact vD hv.2.2.1
  rw[<-hT]at hA⊢
  refine aA (fun s=>∃(k:Nat) (B:List Hp),s=(hpL B,(k:Int))/\k<=T.length/\B++(T.drop k).filterMap (bG i)=A++T.filterMap (bG i)) (fun s=>T.length-s.2.toNat) _ ?_ n _ ⟨0,A,rfl,by omega,by simp⟩ (by simp;omega)
  rintro _ go1 ⟨k,B,rfl,hk,hB⟩ ih1
  simp only
  unfold lJ
  have hBl:B.length<=16:=by
   have e1:=congrArg List.length hB
   have e2:=congrArg List.length hA
   simp only[List.length_append]at e1 e2
   omega
  have c4:(-9223372036854775808:Int)<=(k:Int)+1:=by omega
  have c5:(k:Int)+1<=(9223372036854775807:Int):=by omega
  have c6:(-9223372036854775808:Int)<=(i:Int)+1:=by omega
  have c7:(i:Int)+1<=(9223372036854775807:Int):=by omega
  have c8:(((hpL B).length:Int)+1)*24<=140737488355328:=by rw[List.length_map];omega
  have c9:(0:Int)<=(k:Int):=by omega
  by_cases hkt:k<T.length
  ·obtain⟨x,hx⟩:=aI hkt
   have hcx:∀j,cA (csL T) (k:Int) j=(csR x).getD j (.int 0):=fun j=>bH (by simpa using hx)
   have x0:cI (csL T) k 0=x.s:=by simp only[cI,hcx];rfl
   have x1:cI (csL T) k 1=x.f:=by simp only[cI,hcx];rfl
   have c10:(k:Int)<((csL T).length:Int):=by rw[List.length_map];omega
   rw[dv hx,List.filterMap_cons]at hB
   rw[x0,x1,decide_eq_true c10,cond_true,decide_eq_true c9,cond_true]
   by_cases h4:x.s=4\/x.s=8
   ·have hh:bG i x=some ⟨x.f,i,decide (x.s=8)⟩:=by unfold bG;rw[if_pos h4]
    rw[hh]at hB
    have hgo:=ih1 _ ⟨k+1,B++[⟨x.f,i,decide (x.s=8)⟩],rfl,by omega,by rw[<-hB];simp⟩ (by simp only;omega)
    have e:hpL (B++[⟨x.f,i,decide (x.s=8)⟩])=hpL B++[[AV.int x.f,AV.int (i:Int),AV.bool (decide (x.s=8))]]:=by simp
    rw[e]at hgo
    rcases h4 with h4|h4
    ·rw[decide_eq_true h4,cond_true,decide_eq_true c8,cond_true,decide_eq_true c4,decide_eq_true c5,Bool.and_self,cond_true];exact hgo
    ·have h5:¬x.s=4:=by omega
     rw[decide_eq_false h5,cond_false,decide_eq_true h4,cond_true,decide_eq_true c8,cond_true,decide_eq_true c4,decide_eq_true c5,Bool.and_self,cond_true]
     rw[decide_eq_true h4]at hgo
     exact hgo
   ·have hh:bG i x=none:=by unfold bG;rw[if_neg h4]
    rw[hh]at hB
    have h5:¬x.s=4:=fun h=>h4 (.inl h)
    have h6:¬x.s=8:=fun h=>h4 (.inr h)
    rw[decide_eq_false h5,cond_false,decide_eq_false h6,cond_false,decide_eq_true c4,decide_eq_true c5,Bool.and_self,cond_true]
    exact ih1 _ ⟨k+1,B,rfl,by omega,hB⟩ (by simp only;omega)
  ·have hkk:k=T.length:=by omega
   have c10:¬(k:Int)<((csL T).length:Int):=by rw[List.length_map];omega
   rw[hkk,List.drop_length]at hB
   simp only[List.filterMap_nil,List.append_nil]at hB
   rw[decide_eq_false c10,cond_false,decide_eq_true c6,decide_eq_true c7,Bool.and_self,cond_true]
   exact ih _ ⟨i+1,B,rfl,by omega,by rw[hB,List.append_assoc];exact hA⟩ (by simp only;omega)
 ·have h00:i=c.ps.length:=by omega
  have c1:¬(i:Int)<((ptL c.ps).length:Int):=by rw[List.length_map];omega
  rw[h00,List.drop_length]at hA
  have hA:A=dk c.r 0 c.ps:=by simpa[dk]using hA
  have hl:A.length<=19:=by rw[hA];omega
  have c2:¬(20:Int)<=((hpL A).length:Int):=by rw[List.length_map];omega
  rw[decide_eq_false c1,cond_false]
  unfold lA
  rw[decide_eq_false c2,cond_false,LN n A hl hn,hA]
  rfl
set_option maxRecDepth 100000
section
variable (c:Ch)
theorem Cz{ps:List Pt} {i:Nat} {p:Pt} (hp:ps[i]?=some p):cI (ptL ps) i 0=p.c.n/\cI (ptL ps) i 1=p.c.f/\cI (ptL ps) i 2=p.c.t/\cI (ptL ps) i 3=p.c.h/\cI (ptL ps) i 4=p.c.a/\Go.Sx.cB (ptL ps) i 5=p.c.b/\cL (ptL ps) i 6=ceL p.es:=by
 have hc:∀k,cA (ptL ps) (i:Int) k=(ptR p).getD k (.int 0):=fun k=>bH (by simpa using hp)
 refine⟨?_,?_,?_,?_,?_,?_,?_⟩<;>simp only[cI,Go.Sx.cB,cL,hc]<;>rfl
end
end Go.Proofs.YtgckmifmjiklmaaGreat
namespace Go.Dial.Chn
open Go.Dial.Clm Go.Dial.Lif
def noPt:Pt:=⟨⟨0,0,0,0,0,false⟩,[]⟩
def portAt(c:Ch) (i:Int):Pt:=(c.ps[i.toNat]?).getD noPt
def aO(c:Ch):List Int->Int
 |[]=>c.f
 |x::_=>(portAt c x).c.t
structure Mo where
 a:Int
 p:Int
 k:Int
 G:List Int
def sA(c:Ch) (G:List Int) (h:Hp):Prop:=aO c G=(portAt c h.p).c.f/\(atL c.life (min h.a 10000000)).s=1/\(atL c.life (min h.a 10000000)).h=(portAt c h.p).c.h
instance (c:Ch) (G:List Int) (h:Hp):Decidable (sA c G h):=by unfold sA;infer_instance
def eU(p:Int):List Int->List Int
 |[]=>[]
 |x::G=>if p∈x::G then eU p G else x::G
def gF(c:Ch) (G:List Int) (h:Hp):List Int:=if h.b=true then eU h.p G else if sA c G h then h.p::G else G
def er(c:Ch) (G:List Int) (l:List Hp):List Int:=l.foldl (gF c) G
def jo(c:Ch) (t:Int):List Int:=er c [] ((hps c).takeWhile fun h=>decide (h.a<=t))
structure Hd where
 c:Int
 f:Int
 t:Int
deriving DecidableEq
theorem I1{p:Int} {G:List Int} (h:p∉G):eU p G=G:=by
 cases G with
 |nil=>rfl
 |cons x G=>unfold eU;rw[if_neg h]
theorem MM(p:Int) (G:List Int):(eU p G).length<=G.length:=by
 induction G with
 |nil=>simp[eU]
 |cons x G ih=>unfold eU;split<;>simp;omega
theorem MH{p x:Int} {G:List Int} (h:x∈eU p G):x∈G:=by
 induction G with
 |nil=>exact h
 |cons y G ih=>
  unfold eU at h
  split at h
  ·exact List.mem_cons_of_mem _ (ih h)
  ·exact h
theorem DH{c:Ch} {x:Int}:∀ {l:List Hp} {G:List Int},x∈er c G l->x∈G\/∃h∈l,h.p=x
 |[],_,h=>.inl h
 | y :: l,G,h=>by
  have h:x∈er c (gF c G y) l:=h
  rcases DH h with h|⟨z,h1,h2⟩
  ·unfold gF at h
   split at h
   ·exact .inl (MH h)
   ·split at h
    ·rcases List.mem_cons.1 h with rfl|h
     ·exact .inr ⟨y,List.mem_cons_self ..,rfl⟩
     ·exact .inl h
    ·exact .inl h
  ·exact .inr ⟨z,List.mem_cons_of_mem _ h1,h2⟩
theorem zr{r:Rl} {h:Hp}:∀ {ps:List Pt} {i:Nat},h∈dk r i ps->∃k p,ps[k]?=some p/\h.p=((i+k:Nat):Int)/\∃x∈ar r p.c p.es,bG (i+k) x=some h
 |[],_,hh=>by cases hh
 | p::ps,i,hh=>by
  rcases List.mem_append.1 hh with hh|hh
  ·obtain⟨x,h1,h2⟩:=List.mem_filterMap.1 hh
   refine⟨0,p,rfl,?_,x,h1,h2⟩
   unfold bG at h2
   split at h2
   ·cases h2;rfl
   ·cases h2
  ·obtain⟨k,q,h1,h2,h3⟩:=zr hh
   exact⟨k+1,q,h1,by rw[h2];congr 1;omega,by rw[show i+(k+1)=i+1+k by omega];exact h3⟩
theorem DQ{x:Hp}:∀ {l acc:List Hp},x∈l.foldl (fun acc x=>ins x acc) acc↔x∈acc\/x∈l
 |[],acc=>by simp
 | y::l,acc=>by
  rw[List.foldl_cons,DQ,mem_ins,List.mem_cons]
  constructor
  ·rintro ((h|h)|h)
   ·exact .inr (.inl h)
   ·exact .inl h
   ·exact .inr (.inr h)
  ·rintro (h|h|h)
   ·exact .inl (.inr h)
   ·exact .inl (.inl h)
   ·exact .inr h
theorem mem_hps{c:Ch} {h:Hp}:h∈hps c↔h∈dk c.r 0 c.ps:=by
 unfold hps gy
 rw[DQ]
 simp
theorem tv{c:Ch} {h:Hp} (hh:h∈hps c):∃(k:Nat) (p:Pt),c.ps[k]?=some p/\h.p=(k:Int)/\∃x∈ar c.r p.c p.es,bG k x=some h:=by
 obtain⟨k,p,h1,h2,h3⟩:=zr (mem_hps.1 hh)
 rw[Nat.zero_add]at h2 h3
 exact⟨k,p,h1,h2,h3⟩
theorem No(c:Ch):(hps c).length<=2*c.ps.length:=by
 unfold hps
 rw[DI]
 exact qz c.r c.ps 0
theorem JN(c:Ch):d9 (hps c):=xn _
end Go.Dial.Chn
set_option maxRecDepth 100000
namespace Go.Proofs.YtgckmifmjiklmaaGreat
open Go Go.Sx Go.Dial.Clm Go.Dial.Lif Go.Dial.Chn
abbrev inL(l:List Int):Lv:=l.map fun i=>[AV.int i]
def foL(G:List Int):Lv:=inL G.reverse
theorem dh(G:List Int):(foL G).length=G.length:=by simp[foL]
theorem AC(G:List Int) (x:Int):foL G++[[AV.int x]]=foL (x::G):=by simp[foL]
theorem LD(G:List Int) (x:Int):List.take ((((foL (x::G)).length:Nat):Int)-1).toNat (foL (x::G))=foL G:=by
 rw[dh]
 have:((((x::G).length:Nat):Int)-1).toNat=(foL G).length:=by rw[dh];simp
 rw[this,<-AC]
 simp
theorem Gf(L:Lv) (y:Int):cI (L++[[AV.int y]]) (((L.length:Int)+1)-1) 0=y:=by
 have:(((L.length:Int)+1)-1).toNat=L.length:=by omega
 simp[cI,cA,this,List.getD,AV.i]
theorem IV(G:List Int) (x:Int):cI (foL (x::G)) ((((foL (x::G)).length:Nat):Int)-1) 0=x:=by
 have h:=Gf (foL G) x
 rw[AC]at h
 rw[dh]at h⊢
 exact h
theorem Ma{G:List Int} {k:Nat} {x:Int} (h:G.reverse[k]?=some x):cI (foL G) (k:Int) 0=x:=by
 have:cA (foL G) (k:Int) 0=([AV.int x]:List AV).getD 0 (.int 0):=bH (by simpa using h)
 simp only[cI,this];rfl
def PIn(c:Ch) (x:Int):Prop:=0<=x/\x<(c.ps.length:Int)
def w9(c:Ch) (G:List Int):Prop:=∀x∈G,PIn c x
theorem yM{c:Ch} {x:Int} (h:PIn c x):cI (ptL c.ps) x 1=(portAt c x).c.f/\cI (ptL c.ps) x 2=(portAt c x).c.t/\cI (ptL c.ps) x 3=(portAt c x).c.h:=by
 obtain⟨h1,h2⟩:=h
 obtain⟨k,rfl⟩:∃k:Nat,x=(k:Int):=⟨x.toNat,by omega⟩
 obtain⟨p,hp⟩:=aI (l:=c.ps) (i:=k) (by omega)
 obtain⟨_,g1,g2,g3,_⟩:=Cz hp
 have:portAt c (k:Int)=p:=by simp[portAt,hp]
 rw[this]
 exact⟨g1,g2,g3⟩
def wT2(c:Ch) (L:Lv) {α:Type} (K:Int->Option α):Option α:=
 (bif(decide (0<(L.length:Int)))then bif((decide ((-9223372036854775808)<=((L.length:Int)-1)))&&(decide (((L.length:Int)-1)<=9223372036854775807)))then bif(decide (0<=((L.length:Int)-1)))then bif(decide (((L.length:Int)-1)<(L.length:Int)))then bif(decide (0<=(cI L ((L.length:Int)-1) 0)))then bif(decide ((cI L ((L.length:Int)-1) 0)<((ptL c.ps).length:Int)))then K (cI (ptL c.ps) (cI L ((L.length:Int)-1) 0) 2)else none else none else none else none else none else K c.f)
def wC(c:Ch) (L:Lv) {α:Type} (K:Int->Option α):Option α:=
 (bif(decide (0<=(L.length:Int)))then bif(decide (((L.length:Int)*8)<=140737488355328))then(bif(decide (0<(L.length:Int)))then bif((decide ((-9223372036854775808)<=((L.length:Int)-1)))&&(decide (((L.length:Int)-1)<=9223372036854775807)))then bif(decide (0<=((L.length:Int)-1)))then bif(decide (((L.length:Int)-1)<(L.length:Int)))then bif(decide (0<=(cI L ((L.length:Int)-1) 0)))then bif(decide ((cI L ((L.length:Int)-1) 0)<((ptL c.ps).length:Int)))then K (cI (ptL c.ps) (cI L ((L.length:Int)-1) 0) 2)else none else none else none else none else none else K c.f)else none else none)
def wP(c:Ch) (L:Lv) (p:Int) {α:Type} (K:Int->Option α):Option α:=
 (bif(decide (((L.length:Int)+1)*8<=140737488355328))then bif(decide (0<=((L.length:Int)+1)))then(bif(decide (0<((L.length:Int)+1)))then bif((decide ((-9223372036854775808)<=(((L.length:Int)+1)-1)))&&(decide ((((L.length:Int)+1)-1)<=9223372036854775807)))then bif(decide (0<=(((L.length:Int)+1)-1)))then bif(decide ((((L.length:Int)+1)-1)<((L.length:Int)+1)))then bif(decide (0<=(cI (L++[[AV.int p]]) (((L.length:Int)+1)-1) 0)))then bif(decide ((cI (L++[[AV.int p]]) (((L.length:Int)+1)-1) 0)<((ptL c.ps).length:Int)))then K (cI (ptL c.ps) (cI (L++[[AV.int p]]) (((L.length:Int)+1)-1) 0) 2)else none else none else none else none else none else K c.f)else none else none)
theorem wth{c:Ch} {G:List Int} (hG:w9 c G) (hl:G.length<=100) {α:Type} (K:Int->Option α):wT2 c (foL G) K=K (aO c G):=by
 unfold wT2
 cases G with
 |nil=>rfl
 |cons x G=>
  have hx:=hG x (List.mem_cons_self ..)
  obtain⟨_,x2,_⟩:=yM hx
  obtain⟨q1,q2⟩:=hx
  have e1:(0:Int)<((foL (x::G)).length:Int):=by rw[dh,List.length_cons];omega
  have e5:(-9223372036854775808:Int)<=((foL (x::G)).length:Int)-1:=by omega
  have e6:((foL (x::G)).length:Int)-1<=(9223372036854775807:Int):=by rw[dh,List.length_cons];simp only[List.length_cons]at hl;omega
  have e7:(0:Int)<=((foL (x::G)).length:Int)-1:=by omega
  have e8:((foL (x::G)).length:Int)-1<((foL (x::G)).length:Int):=by omega
  have e9:x<((ptL c.ps).length:Int):=by rw[List.length_map];exact q2
  rw[decide_eq_true e1,cond_true,decide_eq_true e5,decide_eq_true e6,Bool.and_self,cond_true,decide_eq_true e7,cond_true,decide_eq_true e8,cond_true,IV,decide_eq_true q1,cond_true,decide_eq_true e9,cond_true,x2]
  rfl
theorem NV{c:Ch} {G:List Int} (hG:w9 c G) (hl:G.length<=100) {α:Type} (K:Int->Option α):wC c (foL G) K=K (aO c G):=by
 unfold wC
 have e12:(0:Int)<=((foL G).length:Int):=by omega
 have e13:((foL G).length:Int)*8<=140737488355328:=by rw[dh];omega
 rw[decide_eq_true e12,cond_true,decide_eq_true e13,cond_true]
 exact wth hG hl K
theorem PE{c:Ch} {G:List Int} {p:Int} (hG:w9 c G) (hl:G.length<=100) (hP:PIn c p) {α:Type} (K:Int->Option α):wP c (foL G) p K=K (aO c (p::G)):=by
 unfold wP
 obtain⟨g1,g2,g3⟩:=yM hP
 obtain⟨p1,p2⟩:=hP
 have e0:(0:Int)<((foL G).length:Int)+1:=by omega
 have e2:(0:Int)<=((foL G).length:Int)+1:=by omega
 have e3:(((foL G).length:Int)+1)*8<=140737488355328:=by rw[dh];omega
 have e5:(-9223372036854775808:Int)<=(((foL G).length:Int)+1)-1:=by omega
 have e6:(((foL G).length:Int)+1)-1<=(9223372036854775807:Int):=by rw[dh];omega
 have e7:(0:Int)<=(((foL G).length:Int)+1)-1:=by omega
 have e8:(((foL G).length:Int)+1)-1<((foL G).length:Int)+1:=by omega
 have e9:p<((ptL c.ps).length:Int):=by rw[List.length_map];exact p2
 rw[decide_eq_true e3,cond_true,decide_eq_true e2,cond_true,decide_eq_true e0,cond_true,decide_eq_true e5,decide_eq_true e6,Bool.and_self,cond_true,decide_eq_true e7,cond_true,decide_eq_true e8,cond_true,Gf,decide_eq_true p1,cond_true,decide_eq_true e9,cond_true,g2]
 rfl
theorem OJ{B G':List Int} {p:Int} {k:Nat} (hk:(B++G').reverse[k]?=some p) (hn:∀j,j<k->(B++G').reverse[j]?≠some p):p∈G'↔k<G'.length:=by
 rw[List.reverse_append]at hk hn
 constructor
 ·intro h
  rcases Nat.lt_or_ge k G'.length with h1|h1
  ·exact h1
  ·obtain⟨j,hj,he⟩:=List.getElem_of_mem (List.mem_reverse.2 h)
   have hj':j<G'.length:=by simpa using hj
   refine absurd ?_ (hn j (by omega))
   rw[List.getElem?_append_left hj,List.getElem?_eq_getElem hj,he]
 ·intro h
  rw[List.getElem?_append_left (by simpa using h)]at hk
  exact List.mem_reverse.1 (List.mem_of_getElem? hk)
set_option maxRecDepth 100000
theorem Ky(a b:Int):ag a b=min a b:=by unfold ag;omega
theorem NS{c:Ch} (hL:Life c.life) {a:Int} (h0:0<=a) (n:Nat) (hn:c.life.length<n):nn n (lfL c.life) (ag a 10000000)=some ((atL c.life (min a 10000000)).s,(atL c.life (min a 10000000)).h,(atL c.life (min a 10000000)).e,(atL c.life (min a 10000000)).t,0):=by
 have hok:l6 c.life (min a 10000000):=⟨hL,by omega,by omega⟩
 rw[KM n c.life _ hn,Ky]
 simp only[atT,atR,if_pos hok]
theorem ML{c:Ch} {l:List Hp} (hl:∀h∈l,h∈hps c):w9 c (er c [] l):=fun x hx=>by
 rcases DH hx with h|⟨h,h1,h2⟩
 ·cases h
 ·obtain⟨k,p,g1,g2,_⟩:=tv (hl h h1)
  have:=(List.getElem?_eq_some_iff.1 g1).1
  rw[<-h2,g2]
  exact⟨by omega,by omega⟩
theorem Mi(c:Ch) (G:List Int) (h:Hp):(gF c G h).length<=G.length+1:=by
 unfold gF
 have:=MM h.p G
 split
 ·omega
 ·split<;>simp
theorem Ec(c:Ch):∀(l:List Hp) (G:List Int),(er c G l).length<=G.length+l.length
 |[],G=>by simp[er]
 |h::l,G=>by
  have h1:=Ec c l (gF c G h)
  have h2:=Mi c G h
  show(er c (gF c G h) l).length<=_
  simp only[List.length_cons];omega
theorem Oc{c:Ch} (h:ChV c) {x:Hp} (hx:x∈hps c):0<=x.a/\x.a<=23000000:=by
 obtain⟨k,p,h1,h2,y,h3,h4⟩:=tv hx
 have hv:=(Ay h.2.2.2.2.2.2 p (List.mem_of_getElem? h1)).2
 have g1:=zW hv y h3
 have g2:=zT hv y h3
 have g3:=hv.2.1
 unfold ClV at g3
 unfold bG at h4
 split at h4
 ·cases h4;simp only;omega
 ·cases h4
theorem Mt{H:List Hp} {i:Nat} {h:Hp} (hx:H[i]?=some h):cI (hpL H) (i:Int) 0=h.a/\cI (hpL H) (i:Int) 1=h.p/\Go.Sx.cB (hpL H) (i:Int) 2=h.b:=by
 have hc:∀k,cA (hpL H) (i:Int) k=(hpR h).getD k (.int 0):=fun k=>bH (by simpa using hx)
 refine⟨?_,?_,?_⟩<;>simp only[cI,Go.Sx.cB,hc]<;>rfl
end Go.Proofs.YtgckmifmjiklmaaGreat
set_option maxRecDepth 100000
namespace Go.Proofs.YtgckmifmjiklmaaGreat
open Go Go.Sx
noncomputable section
def Ou:List Nat:=[11,12,13,14,15,16,17,18,19,20,21,22,23,24,25,26,27,28,29,30,32,33,34,35,36,37,38,39,40,41,42,43,44,45,46,47,48,49,50,51,52,54,55,56,57,58,59,61,62,63,64,66,67,69,80,83,87,90,91,92,95,96,99,100,101,105,107,108,109,110,111,112,115,116,121,122,127,128,136,138,139,149,150,151,153,154,156,158,161,163,164,165,166,172,173,174,175,176,183,185,186,187,188,189,190,196,197,198,201,204,205,207,210,216,222,223,226,229,1000012,1000056,1000083,1000197,1000216,1000229]
def OW:List (Nat×SV×SV):=[(141,SV.of [.agg (SV.of [.vi (.int 1),.vi (.int 1)]),.agg (SV.of [.vi (.int 2),.vi (.int 1)]),.agg (SV.of [.vi (.int 3),.vi (.int 2)]),.agg (SV.of [.vi (.int 4),.vi (.int 2)]),.agg (SV.of [.vi (.int 5),.vi (.int 1)]),.agg (SV.of [.vi (.int 5),.vi (.int 2)]),.agg (SV.of [.vi (.int 5),.vi (.int 3)]),.agg (SV.of [.vi (.int 6),.vi (.int 4)])],SV.of [.vi (.int 3),.vi (.int 2),.vi (.int 3),.vi (.int 6),.vi (.int 7),.vi (.int 7),.vi (.int 7),.vi (.int 8)])]
abbrev av:=Int×Lv×Int
abbrev bD:=Int×Int×Int×Int×Int×Lv×Int×Lv
abbrev cM:=Int
abbrev iJ:=Bool×Int×Int×Int×Lv×Int×Lv
def qL(n:Nat) (go0:bD->Option av) (go1:cM->Option av) (v1:Int) (v7:Lv) (v8:Int) (v10:Lv) (v12:Int) (v16:Lv) (v17:Int) (v18:Lv) (v20 v21:Int):Option av:=
 (bif(decide (v20=1))then(bif(decide (v21=(cI v7 (cI v10 v12 1) 3)))then bif(decide ((((v18.length:Int)+1)*8)<=140737488355328))then bif(decide (0<=((v18.length:Int)+1)))then(bif(decide (0<((v18.length:Int)+1)))then bif((decide ((-9223372036854775808)<=(((v18.length:Int)+1)-1)))&&(decide ((((v18.length:Int)+1)-1)<=9223372036854775807)))then bif(decide (0<=(((v18.length:Int)+1)-1)))then bif(decide ((((v18.length:Int)+1)-1)<((v18.length:Int)+1)))then bif(decide (0<=(cI (v18++[[(AV.int (cI v10 v12 1))]]) (((v18.length:Int)+1)-1) 0)))then bif(decide ((cI (v18++[[(AV.int (cI v10 v12 1))]]) (((v18.length:Int)+1)-1) 0)<(v7.length:Int)))then(bif(decide (v8<(cI v10 v12 0)))then some (v17,v16,0)
 else bif((decide ((-9223372036854775808)<=(v12+1)))&&(decide ((v12+1)<=9223372036854775807)))then go0 ((cI v7 (cI (v18++[[(AV.int (cI v10 v12 1))]]) (((v18.length:Int)+1)-1) 0) 2),(v12+1),(cI v10 v12 0),(cI v10 v12 1),1,(List.take (List.replicate (((v18.length:Int)+1)).toNat [(AV.int 0)]).length (v18++[[(AV.int (cI v10 v12 1))]])++List.drop (v18++[[(AV.int (cI v10 v12 1))]]).length (List.replicate (((v18.length:Int)+1)).toNat [(AV.int 0)])),(cI v7 (cI (v18++[[(AV.int (cI v10 v12 1))]]) (((v18.length:Int)+1)-1) 0) 2),(v18++[[(AV.int (cI v10 v12 1))]]))else none)else none else none else none else none else none
 else(bif(decide (v8<(cI v10 v12 0)))then some (v17,v16,0)
 else bif((decide ((-9223372036854775808)<=(v12+1)))&&(decide ((v12+1)<=9223372036854775807)))then go0 (v1,(v12+1),(cI v10 v12 0),(cI v10 v12 1),1,(List.take (List.replicate (((v18.length:Int)+1)).toNat [(AV.int 0)]).length (v18++[[(AV.int (cI v10 v12 1))]])++List.drop (v18++[[(AV.int (cI v10 v12 1))]]).length (List.replicate (((v18.length:Int)+1)).toNat [(AV.int 0)])),v1,(v18++[[(AV.int (cI v10 v12 1))]]))else none))else none else none
 else bif(decide (0<=(v18.length:Int)))then bif(decide (((v18.length:Int)*8)<=140737488355328))then(bif(decide (0<(v18.length:Int)))then bif((decide ((-9223372036854775808)<=((v18.length:Int)-1)))&&(decide (((v18.length:Int)-1)<=9223372036854775807)))then bif(decide (0<=((v18.length:Int)-1)))then bif(decide (((v18.length:Int)-1)<(v18.length:Int)))then bif(decide (0<=(cI v18 ((v18.length:Int)-1) 0)))then bif(decide ((cI v18 ((v18.length:Int)-1) 0)<(v7.length:Int)))then(bif(decide (v8<(cI v10 v12 0)))then some (v17,v16,0)
 else bif((decide ((-9223372036854775808)<=(v12+1)))&&(decide ((v12+1)<=9223372036854775807)))then go0 ((cI v7 (cI v18 ((v18.length:Int)-1) 0) 2),(v12+1),(cI v10 v12 0),(cI v10 v12 1),2,(List.take (List.replicate ((v18.length:Int)).toNat [(AV.int 0)]).length v18++List.drop v18.length (List.replicate ((v18.length:Int)).toNat [(AV.int 0)])),(cI v7 (cI v18 ((v18.length:Int)-1) 0) 2),v18)else none)else none else none else none else none else none
 else(bif(decide (v8<(cI v10 v12 0)))then some (v17,v16,0)
 else bif((decide ((-9223372036854775808)<=(v12+1)))&&(decide ((v12+1)<=9223372036854775807)))then go0 (v1,(v12+1),(cI v10 v12 0),(cI v10 v12 1),2,(List.take (List.replicate ((v18.length:Int)).toNat [(AV.int 0)]).length v18++List.drop v18.length (List.replicate ((v18.length:Int)).toNat [(AV.int 0)])),v1,v18)else none))else none else none)
 else bif(decide (0<=(v18.length:Int)))then bif(decide (((v18.length:Int)*8)<=140737488355328))then(bif(decide (0<(v18.length:Int)))then bif((decide ((-9223372036854775808)<=((v18.length:Int)-1)))&&(decide (((v18.length:Int)-1)<=9223372036854775807)))then bif(decide (0<=((v18.length:Int)-1)))then bif(decide (((v18.length:Int)-1)<(v18.length:Int)))then bif(decide (0<=(cI v18 ((v18.length:Int)-1) 0)))then bif(decide ((cI v18 ((v18.length:Int)-1) 0)<(v7.length:Int)))then(bif(decide (v8<(cI v10 v12 0)))then some (v17,v16,0)
 else bif((decide ((-9223372036854775808)<=(v12+1)))&&(decide ((v12+1)<=9223372036854775807)))then go0 ((cI v7 (cI v18 ((v18.length:Int)-1) 0) 2),(v12+1),(cI v10 v12 0),(cI v10 v12 1),2,(List.take (List.replicate ((v18.length:Int)).toNat [(AV.int 0)]).length v18++List.drop v18.length (List.replicate ((v18.length:Int)).toNat [(AV.int 0)])),(cI v7 (cI v18 ((v18.length:Int)-1) 0) 2),v18)else none)else none else none else none else none else none
 else(bif(decide (v8<(cI v10 v12 0)))then some (v17,v16,0)
 else bif((decide ((-9223372036854775808)<=(v12+1)))&&(decide ((v12+1)<=9223372036854775807)))then go0 (v1,(v12+1),(cI v10 v12 0),(cI v10 v12 1),2,(List.take (List.replicate ((v18.length:Int)).toNat [(AV.int 0)]).length v18++List.drop v18.length (List.replicate ((v18.length:Int)).toNat [(AV.int 0)])),v1,v18)else none))else none else none)
def il(n:Nat) (go0:bD->Option av) (go1:cM->Option av) (v1:Int) (v7:Lv) (v8:Int) (v10:Lv) (v11 v12:Int) (v16:Lv) (v17:Int) (v18:Lv) (v20 v21:Int):Option av:=
 (bif(decide (v11=(cI v7 (cI v10 v12 1) 1)))then qL n go0 go1 v1 v7 v8 v10 v12 v16 v17 v18 v20 v21
 else bif(decide (0<=(v18.length:Int)))then bif(decide (((v18.length:Int)*8)<=140737488355328))then(bif(decide (0<(v18.length:Int)))then bif((decide ((-9223372036854775808)<=((v18.length:Int)-1)))&&(decide (((v18.length:Int)-1)<=9223372036854775807)))then bif(decide (0<=((v18.length:Int)-1)))then bif(decide (((v18.length:Int)-1)<(v18.length:Int)))then bif(decide (0<=(cI v18 ((v18.length:Int)-1) 0)))then bif(decide ((cI v18 ((v18.length:Int)-1) 0)<(v7.length:Int)))then(bif(decide (v8<(cI v10 v12 0)))then some (v17,v16,0)
 else bif((decide ((-9223372036854775808)<=(v12+1)))&&(decide ((v12+1)<=9223372036854775807)))then go0 ((cI v7 (cI v18 ((v18.length:Int)-1) 0) 2),(v12+1),(cI v10 v12 0),(cI v10 v12 1),2,(List.take (List.replicate ((v18.length:Int)).toNat [(AV.int 0)]).length v18++List.drop v18.length (List.replicate ((v18.length:Int)).toNat [(AV.int 0)])),(cI v7 (cI v18 ((v18.length:Int)-1) 0) 2),v18)else none)else none else none else none else none else none
 else(bif(decide (v8<(cI v10 v12 0)))then some (v17,v16,0)
 else bif((decide ((-9223372036854775808)<=(v12+1)))&&(decide ((v12+1)<=9223372036854775807)))then go0 (v1,(v12+1),(cI v10 v12 0),(cI v10 v12 1),2,(List.take (List.replicate ((v18.length:Int)).toNat [(AV.int 0)]).length v18++List.drop v18.length (List.replicate ((v18.length:Int)).toNat [(AV.int 0)])),v1,v18)else none))else none else none)
def qM(n:Nat) (go0:bD->Option av) (go1:iJ->Option av) (v1:Int) (v7:Lv) (v8:Int) (v10:Lv) (v12 v19 v21 v22 v23:Int) (v24:Lv) (v25:Int) (v26:Lv):Option av:=
 (bif(decide (v19<(v26.length:Int)))then bif((decide ((-9223372036854775808)<=((v26.length:Int)-1)))&&(decide (((v26.length:Int)-1)<=9223372036854775807)))then bif(decide (0<=((v26.length:Int)-1)))then bif(decide (((v26.length:Int)-1)<(v26.length:Int)))then(bif(decide ((cI v26 ((v26.length:Int)-1) 0)=(cI v10 v12 1)))then bif(decide (((v26.length:Int)-1)<=(v26.length:Int)))then bif(decide (0<=((List.take (((v26.length:Int)-1)).toNat v26).length:Int)))then bif(decide ((((List.take (((v26.length:Int)-1)).toNat v26).length:Int)*8)<=140737488355328))then(bif(decide (0<((List.take (((v26.length:Int)-1)).toNat v26).length:Int)))then bif((decide ((-9223372036854775808)<=(((List.take (((v26.length:Int)-1)).toNat v26).length:Int)-1)))&&(decide ((((List.take (((v26.length:Int)-1)).toNat v26).length:Int)-1)<=9223372036854775807)))then bif(decide (0<=(((List.take (((v26.length:Int)-1)).toNat v26).length:Int)-1)))then bif(decide ((((List.take (((v26.length:Int)-1)).toNat v26).length:Int)-1)<((List.take (((v26.length:Int)-1)).toNat v26).length:Int)))then bif(decide (0<=(cI (List.take (((v26.length:Int)-1)).toNat v26) (((List.take (((v26.length:Int)-1)).toNat v26).length:Int)-1) 0)))then bif(decide ((cI (List.take (((v26.length:Int)-1)).toNat v26) (((List.take (((v26.length:Int)-1)).toNat v26).length:Int)-1) 0)<(v7.length:Int)))then(bif(decide (v8<(cI v10 v12 0)))then some (v25,v24,0)
 else go1 (true,(cI v10 v12 0),(cI v26 ((v26.length:Int)-1) 0),3,(List.take (List.replicate (((List.take (((v26.length:Int)-1)).toNat v26).length:Int)).toNat [(AV.int 0)]).length (List.take (((v26.length:Int)-1)).toNat v26)++List.drop (List.take (((v26.length:Int)-1)).toNat v26).length (List.replicate (((List.take (((v26.length:Int)-1)).toNat v26).length:Int)).toNat [(AV.int 0)])),(cI v7 (cI (List.take (((v26.length:Int)-1)).toNat v26) (((List.take (((v26.length:Int)-1)).toNat v26).length:Int)-1) 0) 2),(List.take (((v26.length:Int)-1)).toNat v26)))else none else none else none else none else none
 else(bif(decide (v8<(cI v10 v12 0)))then some (v25,v24,0)
 else go1 (true,(cI v10 v12 0),(cI v26 ((v26.length:Int)-1) 0),3,(List.take (List.replicate (((List.take (((v26.length:Int)-1)).toNat v26).length:Int)).toNat [(AV.int 0)]).length (List.take (((v26.length:Int)-1)).toNat v26)++List.drop (List.take (((v26.length:Int)-1)).toNat v26).length (List.replicate (((List.take (((v26.length:Int)-1)).toNat v26).length:Int)).toNat [(AV.int 0)])),v1,(List.take (((v26.length:Int)-1)).toNat v26))))else none else none else none
 else bif(decide (((v26.length:Int)-1)<=(v26.length:Int)))then bif(decide (0<=((List.take (((v26.length:Int)-1)).toNat v26).length:Int)))then bif(decide ((((List.take (((v26.length:Int)-1)).toNat v26).length:Int)*8)<=140737488355328))then(bif(decide (0<((List.take (((v26.length:Int)-1)).toNat v26).length:Int)))then bif((decide ((-9223372036854775808)<=(((List.take (((v26.length:Int)-1)).toNat v26).length:Int)-1)))&&(decide ((((List.take (((v26.length:Int)-1)).toNat v26).length:Int)-1)<=9223372036854775807)))then bif(decide (0<=(((List.take (((v26.length:Int)-1)).toNat v26).length:Int)-1)))then bif(decide ((((List.take (((v26.length:Int)-1)).toNat v26).length:Int)-1)<((List.take (((v26.length:Int)-1)).toNat v26).length:Int)))then bif(decide (0<=(cI (List.take (((v26.length:Int)-1)).toNat v26) (((List.take (((v26.length:Int)-1)).toNat v26).length:Int)-1) 0)))then bif(decide ((cI (List.take (((v26.length:Int)-1)).toNat v26) (((List.take (((v26.length:Int)-1)).toNat v26).length:Int)-1) 0)<(v7.length:Int)))then(bif(decide (v8<(cI v10 v12 0)))then some (v25,v24,0)
 else go1 (true,(cI v10 v12 0),(cI v26 ((v26.length:Int)-1) 0),4,(List.take (List.replicate (((List.take (((v26.length:Int)-1)).toNat v26).length:Int)).toNat [(AV.int 0)]).length (List.take (((v26.length:Int)-1)).toNat v26)++List.drop (List.take (((v26.length:Int)-1)).toNat v26).length (List.replicate (((List.take (((v26.length:Int)-1)).toNat v26).length:Int)).toNat [(AV.int 0)])),(cI v7 (cI (List.take (((v26.length:Int)-1)).toNat v26) (((List.take (((v26.length:Int)-1)).toNat v26).length:Int)-1) 0) 2),(List.take (((v26.length:Int)-1)).toNat v26)))else none else none else none else none else none
 else(bif(decide (v8<(cI v10 v12 0)))then some (v25,v24,0)
 else go1 (true,(cI v10 v12 0),(cI v26 ((v26.length:Int)-1) 0),4,(List.take (List.replicate (((List.take (((v26.length:Int)-1)).toNat v26).length:Int)).toNat [(AV.int 0)]).length (List.take (((v26.length:Int)-1)).toNat v26)++List.drop (List.take (((v26.length:Int)-1)).toNat v26).length (List.replicate (((List.take (((v26.length:Int)-1)).toNat v26).length:Int)).toNat [(AV.int 0)])),v1,(List.take (((v26.length:Int)-1)).toNat v26))))else none else none else none)else none else none else none
 else(bif(decide (0<(v26.length:Int)))then bif((decide ((-9223372036854775808)<=((v26.length:Int)-1)))&&(decide (((v26.length:Int)-1)<=9223372036854775807)))then bif(decide (0<=((v26.length:Int)-1)))then bif(decide (((v26.length:Int)-1)<(v26.length:Int)))then bif(decide (0<=(cI v26 ((v26.length:Int)-1) 0)))then bif(decide ((cI v26 ((v26.length:Int)-1) 0)<(v7.length:Int)))then bif((decide ((-9223372036854775808)<=(v12+1)))&&(decide ((v12+1)<=9223372036854775807)))then go0 ((cI v7 (cI v26 ((v26.length:Int)-1) 0) 2),(v12+1),v21,v22,v23,v24,v25,v26)else none else none else none else none else none else none
 else bif((decide ((-9223372036854775808)<=(v12+1)))&&(decide ((v12+1)<=9223372036854775807)))then go0 (v1,(v12+1),v21,v22,v23,v24,v25,v26)else none))
def gj(n:Nat) (go0:bD->Option av) (go1:iJ->Option av) (v1:Int) (v7:Lv) (v8:Int) (v10:Lv) (v12 v19:Int) (v20:Bool) (v21 v22 v23:Int) (v24:Lv) (v25:Int) (v26:Lv):Option av:=
 (bif v20 then qM n go0 go1 v1 v7 v8 v10 v12 v19 v21 v22 v23 v24 v25 v26
 else some (v25,v24,0))
def zt(n:Nat) (go0:bD->Option av) (go1:cM->Option av) (v1:Int) (v7:Lv) (v8:Int) (v10:Lv) (v12 v13 v14 v15:Int) (v16:Lv) (v17:Int) (v18:Lv) (v19:Int):Option av:=
 (bif(decide (v19<0))then bif(decide (0<=(v18.length:Int)))then bif(decide (((v18.length:Int)*8)<=140737488355328))then(bif(decide (0<(v18.length:Int)))then bif((decide ((-9223372036854775808)<=((v18.length:Int)-1)))&&(decide (((v18.length:Int)-1)<=9223372036854775807)))then bif(decide (0<=((v18.length:Int)-1)))then bif(decide (((v18.length:Int)-1)<(v18.length:Int)))then bif(decide (0<=(cI v18 ((v18.length:Int)-1) 0)))then bif(decide ((cI v18 ((v18.length:Int)-1) 0)<(v7.length:Int)))then(bif(decide (v8<(cI v10 v12 0)))then some (v17,v16,0)
 else bif((decide ((-9223372036854775808)<=(v12+1)))&&(decide ((v12+1)<=9223372036854775807)))then go0 ((cI v7 (cI v18 ((v18.length:Int)-1) 0) 2),(v12+1),(cI v10 v12 0),(cI v10 v12 1),5,(List.take (List.replicate ((v18.length:Int)).toNat [(AV.int 0)]).length v18++List.drop v18.length (List.replicate ((v18.length:Int)).toNat [(AV.int 0)])),(cI v7 (cI v18 ((v18.length:Int)-1) 0) 2),v18)else none)else none else none else none else none else none
 else(bif(decide (v8<(cI v10 v12 0)))then some (v17,v16,0)
 else bif((decide ((-9223372036854775808)<=(v12+1)))&&(decide ((v12+1)<=9223372036854775807)))then go0 (v1,(v12+1),(cI v10 v12 0),(cI v10 v12 1),5,(List.take (List.replicate ((v18.length:Int)).toNat [(AV.int 0)]).length v18++List.drop v18.length (List.replicate ((v18.length:Int)).toNat [(AV.int 0)])),v1,v18)else none))else none else none
 else(ab (fun go1 s=>gj n go0 go1 v1 v7 v8 v10 v12 v19 s.1 s.2.1 s.2.2.1 s.2.2.2.1 s.2.2.2.2.1 s.2.2.2.2.2.1 s.2.2.2.2.2.2) n ((true,v13,v14,v15,v16,v17,v18):iJ)))
def Bj(n:Nat) (go0:bD->Option av) (go1:cM->Option av) (v1:Int) (v6 v7:Lv) (v8:Int) (v10:Lv) (v11 v12 v13 v14 v15:Int) (v16:Lv) (v17:Int) (v18:Lv) (v19:Int):Option av:=
 (bif(!(Go.Sx.cB v10 v12 2))then(nn n v6 (ag (cI v10 v12 0) 10000000)).bind fun y20=>
 il n go0 go1 v1 v7 v8 v10 v11 v12 v16 v17 v18 y20.1 y20.2.1
 else zt n go0 go1 v1 v7 v8 v10 v12 v13 v14 v15 v16 v17 v18 v19)
def BE(n:Nat) (go0:bD->Option av) (go1:cM->Option av) (v1:Int) (v6 v7:Lv) (v8:Int) (v10:Lv) (v11 v12 v13 v14 v15:Int) (v16:Lv) (v17:Int) (v18:Lv) (v19:Int):Option av:=
 (bif(decide ((cI v10 v12 1)=(cI v18 v19 0)))then bif(decide (0<=(cI v10 v12 1)))then bif(decide ((cI v10 v12 1)<(v7.length:Int)))then Bj n go0 go1 v1 v6 v7 v8 v10 v11 v12 v13 v14 v15 v16 v17 v18 v19 else none else none
 else bif((decide ((-9223372036854775808)<=(v19+1)))&&(decide ((v19+1)<=9223372036854775807)))then go1 (v19+1)else none)
abbrev zR:= @il
def zE(n:Nat) (go0:bD->Option av) (go1:cM->Option av) (v1:Int) (v6 v7:Lv) (v8:Int) (v10:Lv) (v11 v12:Int) (v16:Lv) (v17:Int) (v18:Lv):Option av:=
 (bif(!(Go.Sx.cB v10 v12 2))then(nn n v6 (ag (cI v10 v12 0) 10000000)).bind fun y20=>
 zR n go0 go1 v1 v7 v8 v10 v11 v12 v16 v17 v18 y20.1 y20.2.1
 else bif(decide (0<=(v18.length:Int)))then bif(decide (((v18.length:Int)*8)<=140737488355328))then(bif(decide (0<(v18.length:Int)))then bif((decide ((-9223372036854775808)<=((v18.length:Int)-1)))&&(decide (((v18.length:Int)-1)<=9223372036854775807)))then bif(decide (0<=((v18.length:Int)-1)))then bif(decide (((v18.length:Int)-1)<(v18.length:Int)))then bif(decide (0<=(cI v18 ((v18.length:Int)-1) 0)))then bif(decide ((cI v18 ((v18.length:Int)-1) 0)<(v7.length:Int)))then(bif(decide (v8<(cI v10 v12 0)))then some (v17,v16,0)
 else bif((decide ((-9223372036854775808)<=(v12+1)))&&(decide ((v12+1)<=9223372036854775807)))then go0 ((cI v7 (cI v18 ((v18.length:Int)-1) 0) 2),(v12+1),(cI v10 v12 0),(cI v10 v12 1),5,(List.take (List.replicate ((v18.length:Int)).toNat [(AV.int 0)]).length v18++List.drop v18.length (List.replicate ((v18.length:Int)).toNat [(AV.int 0)])),(cI v7 (cI v18 ((v18.length:Int)-1) 0) 2),v18)else none)else none else none else none else none else none
 else(bif(decide (v8<(cI v10 v12 0)))then some (v17,v16,0)
 else bif((decide ((-9223372036854775808)<=(v12+1)))&&(decide ((v12+1)<=9223372036854775807)))then go0 (v1,(v12+1),(cI v10 v12 0),(cI v10 v12 1),5,(List.take (List.replicate ((v18.length:Int)).toNat [(AV.int 0)]).length v18++List.drop v18.length (List.replicate ((v18.length:Int)).toNat [(AV.int 0)])),v1,v18)else none))else none else none)
def tj(n:Nat) (go0:bD->Option av) (go1:cM->Option av) (v1:Int) (v6 v7:Lv) (v8:Int) (v10:Lv) (v11 v12 v13 v14 v15:Int) (v16:Lv) (v17:Int) (v18:Lv) (v19:Int):Option av:=
 (bif(decide (v19<(v18.length:Int)))then bif(decide (0<=v19))then BE n go0 go1 v1 v6 v7 v8 v10 v11 v12 v13 v14 v15 v16 v17 v18 v19 else none
 else bif(decide (0<=(cI v10 v12 1)))then bif(decide ((cI v10 v12 1)<(v7.length:Int)))then zE n go0 go1 v1 v6 v7 v8 v10 v11 v12 v16 v17 v18 else none else none)
def CD(n:Nat) (go0:bD->Option av) (v1:Int) (v6 v7:Lv) (v8:Int) (v10:Lv) (v11 v12 v13 v14 v15:Int) (v16:Lv) (v17:Int) (v18:Lv):Option av:=
 (bif(decide (v12<(v10.length:Int)))then bif(decide (0<=v12))then(ab (fun go1 s=>tj n go0 go1 v1 v6 v7 v8 v10 v11 v12 v13 v14 v15 v16 v17 v18 s) n (0:cM))else none
 else some (v17,v16,0))
def Bz(n:Nat) (v0 v1 v2 v3 v4 v5:Int) (v6 v7:Lv) (v8:Int):Option av:=
 (bif(!(decide (v8<=20000000)))then some (0,([]:Lv),170)
 else(fA n v0 v1 v2 v3 v4 v5 v6 v7).bind fun y10=>
 (ab (fun go0 s=>CD n go0 v1 v6 v7 v8 y10 s.1 s.2.1 s.2.2.1 s.2.2.2.1 s.2.2.2.2.1 s.2.2.2.2.2.1 s.2.2.2.2.2.2.1 s.2.2.2.2.2.2.2) n ((v1,0,0,0,0,([]:Lv),v1,([]:Lv)):bD)))
def Bf(n:Nat) (v0 v1 v2 v3 v4 v5:Int) (v6 v7:Lv) (v8:Int):Option av:=
 (bif(decide (0<=v8))then Bz n v0 v1 v2 v3 v4 v5 v6 v7 v8
 else some (0,([]:Lv),170))
def Cm(n:Nat) (v0 v1 v2 v3 v4 v5:Int) (v6 v7:Lv) (v8:Int) (v9:Bool):Option av:=
 (bif(!v9)then some (0,([]:Lv),170)
 else Bf n v0 v1 v2 v3 v4 v5 v6 v7 v8)
def Cv(n:Nat) (v0 v1 v2 v3 v4 v5:Int) (v6 v7:Lv) (v8:Int):Option av:=
 (kU n v0 v1 v2 v3 v4 v5 v6 v7).bind fun y9=>
 Cm n v0 v1 v2 v3 v4 v5 v6 v7 v8 y9
def nu(n:Nat) (v0 v1 v2 v3 v4 v5:Int) (v6 v7:Lv) (v8:Int):Option av:=Cv n v0 v1 v2 v3 v4 v5 v6 v7 v8
def chain_At_t:FnT:=⟨[(true,[.int,.int,.int,.int,.int,.int,(.sl (.cons .int (.cons .int (.cons .int .nil)))),(.sl (.cons .int (.cons .int (.cons .int (.cons .int (.cons .int (.cons .bool (.cons (.sl (.cons .int (.cons .int (.cons .int .nil)))) .nil))))))))]),(false,[.int])],(.tup (.cons .i (.cons (.row 3 (.cons .int .nil)) (.cons .i .nil)))),fun n (s:Int×Int×Int×Int×Int×Int×Lv×Lv×Int)=>nu n s.1 s.2.1 s.2.2.1 s.2.2.2.1 s.2.2.2.2.1 s.2.2.2.2.2.1 s.2.2.2.2.2.2.1 s.2.2.2.2.2.2.2.1 s.2.2.2.2.2.2.2.2⟩
theorem Ir:chain_At_t.ok Tryz.prog 50:=FnT.ok_of (cfg:=⟨[((159,5,9),.inv [(.tmp 5 .int),(.tmp 22 .int),(.cell 2 0 .int),(.cell 2 1 .int),(.cell 2 2 .int),(.cellrow 2 3 3 (.cons .int .nil)),(.cell 2 4 .int),(.cellrow 7 0 3 (.cons .int .nil))]),((162,2,19),.inv [(.tmp 8 .int)]),((159,10,22),.inv [(.tmp 10 .bool),(.cell 2 0 .int),(.cell 2 1 .int),(.cell 2 2 .int),(.cellrow 2 3 3 (.cons .int .nil)),(.cell 2 4 .int),(.cellrow 7 0 3 (.cons .int .nil))])],Ou,[(159,15)],OW⟩) (tab:=chain_happenings_T) (mt:=mtE) az jp bB (fun s fn hf=>by rw[Tryz.func50]at hf;cases hf;kernel_rfl) (fun n s=>by kernel_rfl)
def chain_At_T:Tab:=(50,chain_At_t)::chain_happenings_T
theorem uk:chain_At_T.ok Tryz.prog:=Tab.ok_cons Ir jp
end
end Go.Proofs.YtgckmifmjiklmaaGreat
set_option maxRecDepth 100000
namespace Go.Proofs.YtgckmifmjiklmaaGreat
open Go Go.Sx Go.Dial.Clm Go.Dial.Lif Go.Dial.Chn
theorem vR(L:Lv) (k:Int) (hk:k=(L.length:Int)):List.take (List.replicate k.toNat [AV.int 0]).length L++List.drop L.length (List.replicate k.toNat [AV.int 0])=L:=by
 subst hk
 simp
theorem PI: @zR= @il:=rfl
section
variable (n:Nat) (go0:bD->Option av) (go1:cM->Option av) (c:Ch) (t:Int) (v9:Lv) (i:Int) (G:List Int) (r:av)
 (hi:0<=i/\i<=100) (hG:w9 c G) (hl:G.length<=90) (hP:PIn c (cI v9 i 1)) (hst:t<cI v9 i 0->r=(aO c G,foL G,0))
include hi hst
theorem MP(w a p kd u:Int) (L X:Lv) (hX:X=L) (hu:u=w) (hgo:cI v9 i 0<=t->go0 (w,i+1,a,p,kd,L,w,L)=some r):(bif(decide (t<(cI v9 i 0)))then some (aO c G,foL G,0)else bif((decide ((-9223372036854775808)<=(i+1)))&&(decide ((i+1)<=9223372036854775807)))then go0 (u,(i+1),a,p,kd,X,w,L)else none)=some r:=by
 have e10:(-9223372036854775808:Int)<=i+1:=by omega
 have e11:i+1<=(9223372036854775807:Int):=by omega
 by_cases h:t<cI v9 i 0
 ·rw[decide_eq_true h,cond_true,hst h]
 ·rw[decide_eq_false h,cond_false,decide_eq_true e10,decide_eq_true e11,Bool.and_self,cond_true,hX,hu]
  exact hgo (by omega)
include hG hl
theorem zg(a p kd:Int) (hgo:cI v9 i 0<=t->go0 (aO c G,i+1,a,p,kd,foL G,aO c G,foL G)=some r):wC c (foL G) (fun w=>(bif(decide (t<(cI v9 i 0)))then some (aO c G,foL G,0)else bif((decide ((-9223372036854775808)<=(i+1)))&&(decide ((i+1)<=9223372036854775807)))then go0 (w,(i+1),a,p,kd,(List.take (List.replicate (((foL G).length:Int)).toNat [(AV.int 0)]).length (foL G)++List.drop (foL G).length (List.replicate (((foL G).length:Int)).toNat [(AV.int 0)])),w,foL G)else none))=some r:=
 (NV hG (by omega) _).trans
  (MP go0 c t v9 i G r hi hst (aO c G) a p kd _ _ _ (vR _ _ rfl) rfl hgo)
include hP
theorem Pw(s h:Int) (hgo:cI v9 i 0<=t->∀a p kd,(if s=1/\h=(portAt c (cI v9 i 1)).c.h then go0 (aO c (cI v9 i 1::G),i+1,a,p,kd,foL (cI v9 i 1::G),aO c (cI v9 i 1::G),foL (cI v9 i 1::G))else go0 (aO c G,i+1,a,p,kd,foL G,aO c G,foL G))=some r):
  qL n go0 go1 c.f (ptL c.ps) t v9 i (foL G) (aO c G) (foL G) s h=some r:=by
 obtain⟨g1,g2,g3⟩:=yM hP
 unfold qL
 rw[g3]
 by_cases k1:s=1
 ·by_cases k2:h=(portAt c (cI v9 i 1)).c.h
  ·simp only[k1,k2,and_self,if_true]at hgo
   rw[decide_eq_true k1,cond_true,decide_eq_true k2,cond_true]
   refine(PE hG (by omega) hP (fun w=>(bif(decide (t<(cI v9 i 0)))then some (aO c G,foL G,0)else bif((decide ((-9223372036854775808)<=(i+1)))&&(decide ((i+1)<=9223372036854775807)))then go0 (w,(i+1),(cI v9 i 0),(cI v9 i 1),1,(List.take (List.replicate ((((foL G).length:Int)+1)).toNat [(AV.int 0)]).length (foL G++[[(AV.int (cI v9 i 1))]])++List.drop (foL G++[[(AV.int (cI v9 i 1))]]).length (List.replicate ((((foL G).length:Int)+1)).toNat [(AV.int 0)])),w,foL G++[[(AV.int (cI v9 i 1))]])else none))).trans ?_
   refine MP go0 c t v9 i G r hi hst _ _ _ _ _ _ _ (vR _ _ (by simp)) rfl ?_
   rw[AC]
   exact fun h=>hgo h _ _ _
  ·simp only[k2,and_false,if_false]at hgo
   rw[decide_eq_true k1,cond_true,decide_eq_false k2,cond_false]
   exact zg go0 c t v9 i G r hi hG hl hst _ _ 2 fun h=>hgo h _ _ _
 ·simp only[k1,false_and,if_false]at hgo
  rw[decide_eq_false k1,cond_false]
  exact zg go0 c t v9 i G r hi hG hl hst _ _ 2 fun h=>hgo h _ _ _
theorem at9(s h:Int) (hgo:cI v9 i 0<=t->∀a p kd,(if aO c G=(portAt c (cI v9 i 1)).c.f/\s=1/\h=(portAt c (cI v9 i 1)).c.h then go0 (aO c (cI v9 i 1::G),i+1,a,p,kd,foL (cI v9 i 1::G),aO c (cI v9 i 1::G),foL (cI v9 i 1::G))else go0 (aO c G,i+1,a,p,kd,foL G,aO c G,foL G))=some r):
  il n go0 go1 c.f (ptL c.ps) t v9 (aO c G) i (foL G) (aO c G) (foL G) s h=some r:=by
 obtain⟨g1,g2,g3⟩:=yM hP
 unfold il
 rw[g1]
 by_cases k:aO c G=(portAt c (cI v9 i 1)).c.f
 ·rw[decide_eq_true k,cond_true]
  simp only[k,true_and]at hgo
  rw[k]at hst
  refine Pw n go0 go1 c t v9 i G r hi hG hl hP (by rw[k];exact hst) s h ?_
  rw[k]
  exact hgo
 ·rw[decide_eq_false k,cond_false]
  simp only[k,false_and,if_false]at hgo
  exact zg go0 c t v9 i G r hi hG hl hst _ _ 2 fun h=>hgo h _ _ _
end
section
variable (n:Nat) (go0:bD->Option av) (go1:iJ->Option av) (c:Ch) (t:Int) (v9:Lv) (i:Int) (G:List Int) (k:Nat) (r:av)
 (hi:0<=i/\i<=100) (hG:w9 c G) (hl:G.length<=90)
theorem Om(w a p kd u b d:Int) (L X B:Lv) (hX:X=L) (hu:u=w) (hst:t<a->r=(b,B,0)) (hgo:a<=t->go1 (true,a,p,kd,L,w,L)=some r):(bif(decide (t<a))then some (b,B,0)else go1 (true,a,p,kd,X,u,L))=some r:=by
 by_cases h:t<a
 ·rw[decide_eq_true h,cond_true,hst h]
 ·rw[decide_eq_false h,cond_false,hX,hu]
  exact hgo (by omega)
include hG hl
theorem Ho(a p kd b:Int) (B:Lv) (hst:t<a->r=(b,B,0)) (hgo:a<=t->go1 (true,a,p,kd,foL G,aO c G,foL G)=some r):wC c (foL G) (fun w=>(bif(decide (t<a))then some (b,B,0)else go1 (true,a,p,kd,(List.take (List.replicate (((foL G).length:Int)).toNat [(AV.int 0)]).length (foL G)++List.drop (foL G).length (List.replicate (((foL G).length:Int)).toNat [(AV.int 0)])),w,foL G)))=some r:=
 (NV hG (by omega) _).trans
  (Om go1 t r (aO c G) a p kd _ b 0 _ _ B (vR _ _ rfl) rfl hst hgo)
theorem MA(x a p kd b:Int) (B:Lv) (hk:k<(x::G).length) (hst:t<cI v9 i 0->r=(b,B,0)) (hgo:cI v9 i 0<=t->∀a p kd,go1 (true,a,p,kd,foL G,aO c G,foL G)=some r):gj n go0 go1 c.f (ptL c.ps) t v9 i (k:Int) true a p kd B b (foL (x::G))=some r:=by
 have e0:(k:Int)<((foL (x::G)).length:Int):=by rw[dh];omega
 have e5:(-9223372036854775808:Int)<=((foL (x::G)).length:Int)-1:=by omega
 have e6:((foL (x::G)).length:Int)-1<=(9223372036854775807:Int):=by rw[dh];simp;omega
 have e7:(0:Int)<=((foL (x::G)).length:Int)-1:=by omega
 have e8:((foL (x::G)).length:Int)-1<((foL (x::G)).length:Int):=by omega
 have e9:((foL (x::G)).length:Int)-1<=((foL (x::G)).length:Int):=by omega
 unfold gj
 rw[cond_true]
 unfold qM
 rw[decide_eq_true e0,cond_true,decide_eq_true e5,decide_eq_true e6,Bool.and_self,cond_true,decide_eq_true e7,cond_true,decide_eq_true e8,cond_true,IV,LD,decide_eq_true e9,cond_true]
 by_cases h:x=cI v9 i 1
 ·rw[decide_eq_true h,cond_true]
  exact Ho go1 c t G r hG hl _ _ 3 b B hst fun h=>hgo h _ _ _
 ·rw[decide_eq_false h,cond_false,cond_true]
  exact Ho go1 c t G r hG hl _ _ 4 b B hst fun h=>hgo h _ _ _
include hi
theorem Mj(a p kd:Int) (b:Int) (B:Lv) (hk:¬k<G.length) (hgo:go0 (aO c G,i+1,a,p,kd,B,b,foL G)=some r):gj n go0 go1 c.f (ptL c.ps) t v9 i (k:Int) true a p kd B b (foL G)=some r:=by
 have e0:¬(k:Int)<((foL G).length:Int):=by rw[dh];omega
 have e10:(-9223372036854775808:Int)<=i+1:=by omega
 have e11:i+1<=(9223372036854775807:Int):=by omega
 unfold gj
 rw[cond_true]
 unfold qM
 rw[decide_eq_false e0,cond_false]
 refine(wth hG (by omega) (fun w=>bif((decide ((-9223372036854775808)<=(i+1)))&&(decide ((i+1)<=9223372036854775807)))then go0 (w,i+1,a,p,kd,B,b,foL G)else none)).trans ?_
 simp only[decide_eq_true e10,decide_eq_true e11,Bool.and_self,cond_true]
 exact hgo
end
section
variable (n:Nat) (go0:bD->Option av) (c:Ch) (t:Int) (v9:Lv) (i:Int) (G:List Int) (r:av) (h:Hp)
 (hi:0<=i/\i<=100) (hG:w9 c G) (hl:G.length<=90) (hP:PIn c h.p) (hh0:cI v9 i 0=h.a) (hh1:cI v9 i 1=h.p) (hh2:Go.Sx.cB v9 i 2=h.b) (hst:t<h.a->r=(aO c G,foL G,0))
include hi hG hl hh0 hh1 hst
theorem NE(a p kd:Int) (k:Nat) (hk:G.reverse[k]?=some h.p) (hm:∀j,j<k->G.reverse[j]?≠some h.p) (hn:200<n)
  (hgo:h.a<=t->∀a p kd,go0 (aO c (eU h.p G),i+1,a,p,kd,foL (eU h.p G),aO c (eU h.p G),foL (eU h.p G))=some r):
  ab (fun go1 s=>gj n go0 go1 c.f (ptL c.ps) t v9 i (k:Int) s.1 s.2.1 s.2.2.1 s.2.2.2.1 s.2.2.2.2.1 s.2.2.2.2.2.1 s.2.2.2.2.2.2) n ((true,a,p,kd,foL G,aO c G,foL G):iJ)=some r:=by
 refine aA (fun s=>∃(B G':List Int) (a p kd:Int),s=(true,a,p,kd,foL G',aO c G',foL G')/\G=B++G'/\eU h.p G'=eU h.p G/\(t<h.a->G'=G)) (fun s=>s.2.2.2.2.1.length) r ?_ n _ ⟨[],G,a,p,kd,rfl,rfl,rfl,fun _=>rfl⟩ (by rw[dh];omega)
 rintro _ go ⟨B,G',a,p,kd,rfl,hB,hp,hsame⟩ ih
 simp only
 have hin:h.p∈G'↔k<G'.length:=by
  subst hB
  exact OJ hk hm
 have hG':w9 c G':=fun x hx=>hG x (by rw[hB];exact List.mem_append_right _ hx)
 have hlen:G'.length<=90:=by rw[hB,List.length_append]at hl;omega
 by_cases hkk:k<G'.length
 ·cases G' with
  |nil=>simp at hkk
  | cons x G'=>
   have h1:h.p∈x::G':=hin.2 hkk
   have e1:eU h.p (x::G')=eU h.p G':=by rw[eU,if_pos h1]
   refine MA n go0 go c t v9 i G' k r (fun y hy=>hG' y (List.mem_cons_of_mem _ hy)) (by simp only[List.length_cons]at hlen;omega) x a p kd _ _ hkk (fun ht=>?_) (fun ht a p kd=>?_)
   ·rw[hh0]at ht
    rw[hsame ht]
    exact hst ht
   ·rw[hh0]at ht
    refine ih _ ⟨B++[x],G',a,p,kd,rfl,by rw[hB];simp,by rw[<-hp,e1],fun h=>by omega⟩ ?_
    simp only[dh,List.length_cons];omega
 ·have h1:h.p∉G':=fun h=>hkk (hin.1 h)
  have e1:eU h.p G'=G':=I1 h1
  have ht:h.a<=t:=by
   rcases Int.lt_or_le t h.a with h2|h2
   ·exact absurd (by rw[hsame h2];exact List.mem_reverse.1 (List.mem_of_getElem? hk)) h1
   ·exact h2
  refine Mj n go0 go c t v9 i G' k r hi hG' hlen a p kd _ _ hkk ?_
  rw[<-e1,hp]
  exact hgo ht _ _ _
include hP hh2
theorem LI(a p kd:Int) (hL:Life c.life) (h0:0<=h.a) (hn:200<n) (hnl:c.life.length<n)
  (hgo:h.a<=t->∀a p kd,go0 (aO c (gF c G h),i+1,a,p,kd,foL (gF c G h),aO c (gF c G h),foL (gF c G h))=some r):
  ab (fun go1 s=>tj n go0 go1 c.f (lfL c.life) (ptL c.ps) t v9 (aO c G) i a p kd (foL G) (aO c G) (foL G) s) n (0:cM)=some r:=by
 refine aA (fun s=>∃j:Nat,s=(j:Int)/\j<=G.length/\∀j',j'<j->G.reverse[j']?≠some h.p) (fun s=>G.length-s.toNat) r ?_ n _ ⟨0,rfl,by omega,fun j hj=>by omega⟩ (by omega)
 rintro _ go ⟨j,rfl,hj,hm⟩ ih
 have hP':PIn c (cI v9 i 1):=by rw[hh1];exact hP
 have p1:(0:Int)<=cI v9 i 1:=hP'.1
 have p2:cI v9 i 1<((ptL c.ps).length:Int):=by rw[List.length_map];exact hP'.2
 have hst':t<cI v9 i 0->r=(aO c G,foL G,0):=by rw[hh0];exact hst
 have hE:h.b=false->∀go1,il n go0 go1 c.f (ptL c.ps) t v9 (aO c G) i (foL G) (aO c G) (foL G) (atL c.life (min h.a 10000000)).s (atL c.life (min h.a 10000000)).h=some r:=by
  intro hb go1
  refine at9 n go0 go1 c t v9 i G r hi hG hl hP' hst' _ _ fun ht a p kd=>?_
  rw[hh0]at ht
  have hgo:=hgo ht a p kd
  rw[hh1]
  have hnb:¬h.b=true:=by rw[hb];decide
  unfold gF at hgo
  rw[if_neg hnb]at hgo
  by_cases ht:sA c G h
  ·rw[if_pos ht]at hgo
   exact(if_pos ht).trans hgo
  ·rw[if_neg ht]at hgo
   exact(if_neg ht).trans hgo
 unfold tj
 by_cases hlt:j<G.length
 ·have c1:(j:Int)<((foL G).length:Int):=by rw[dh];omega
  have c2:(0:Int)<=(j:Int):=by omega
  obtain⟨x,hx⟩:=aI (l:=G.reverse) (i:=j) (by simpa using hlt)
  rw[decide_eq_true c1,cond_true,decide_eq_true c2,cond_true]
  unfold BE
  rw[Ma hx]
  by_cases he:cI v9 i 1=x
  ·rw[decide_eq_true he,cond_true,decide_eq_true p1,cond_true,decide_eq_true p2,cond_true]
   unfold Bj
   rw[hh2]
   cases hb:h.b with
   |false=>
    rw[Bool.not_false,cond_true,hh0,NS hL h0 n hnl,Option.bind_some]
    exact hE hb _
   |true=>
    rw[Bool.not_true,cond_false]
    unfold zt
    have c3:¬(j:Int)<0:=by omega
    rw[decide_eq_false c3,cond_false]
    have hx':G.reverse[j]?=some h.p:=by rw[hx,<-he,hh1]
    unfold gF at hgo
    rw[if_pos hb]at hgo
    exact NE n go0 c t v9 i G r h hi hG hl hh0 hh1 hst a p kd j hx' hm hn hgo
  ·have c4:(-9223372036854775808:Int)<=(j:Int)+1:=by omega
   have c5:(j:Int)+1<=(9223372036854775807:Int):=by omega
   rw[decide_eq_false he,cond_false,decide_eq_true c4,decide_eq_true c5,Bool.and_self,cond_true]
   refine ih _ ⟨j+1,by omega,by omega,fun j' hj'=>?_⟩ (by omega)
   rcases Nat.lt_or_ge j' j with h1|h1
   ·exact hm j' h1
   ·have:j'=j:=by omega
    subst this
    rw[hx,<-hh1]
    exact fun e=>he (Option.some.inj e).symm
 ·have c1:¬(j:Int)<((foL G).length:Int):=by rw[dh];omega
  have hnin:h.p∉G:=fun hin=>by
   obtain⟨q,hq,he⟩:=List.getElem_of_mem (List.mem_reverse.2 hin)
   have hq':q<G.length:=by simpa using hq
   exact hm q (by omega) (by rw[List.getElem?_eq_getElem hq,he])
  rw[decide_eq_false c1,cond_false,decide_eq_true p1,cond_true,decide_eq_true p2,cond_true]
  unfold zE
  rw[hh2]
  cases hb:h.b with
  |false=>
   rw[Bool.not_false,cond_true,hh0,NS hL h0 n hnl,Option.bind_some,PI]
   exact hE hb _
  |true=>
   rw[Bool.not_true,cond_false]
   refine zg go0 c t v9 i G r hi hG hl hst' _ _ 5 fun ht=>?_
   rw[hh0]at ht⊢
   have hgo:=hgo ht h.a (cI v9 i 1) 5
   unfold gF at hgo
   rw[if_pos hb,I1 hnin]at hgo
   exact hgo
end
theorem so{l:List Hp} (hS:d9 l) {t:Int} {i:Nat} (h1:∀x∈l.take i,x.a<=t) (h2:∀x,l[i]?=some x->t<x.a):l.takeWhile (fun h=>decide (h.a<=t))=l.take i:=by
 induction l generalizing i with
 |nil=>simp
 | cons y l ih=>
  cases i with
  |zero=>
   have:=h2 y rfl
   rw[List.takeWhile_cons_of_neg (by simp;omega)];rfl
  |succ i=>
   have:=h1 y (by simp)
   rw[List.takeWhile_cons_of_pos (by simpa using this),List.take_succ_cons,ih hS.2 (fun x hx=>h1 x (by simp[hx])) (fun x hx=>h2 x hx)]
theorem BI(n:Nat) (c:Ch) (t:Int) (hl:c.life.length<n) (hn:200<n):nu n c.n c.f c.r.a c.r.c c.r.s c.r.r (lfL c.life) (ptL c.ps) t=some (if ChV c/\0<=t/\t<=20000000 then(aO c (jo c t),foL (jo c t),0)else(0,[],170)):=by
 unfold nu Cv
 rw[FY n c hl hn,Option.bind_some]
 unfold Cm
 by_cases h:ChV c
 ·rw [decide_eq_true h,Bool.not_true,cond_false]
  unfold Bf
  by_cases h0:0<=t
  ·rw [decide_eq_true h0,cond_true]
   unfold Bz
   by_cases h1:t<=20000000
   ·rw[if_pos ⟨h,h0,h1⟩,decide_eq_true h1,Bool.not_true,cond_false,wL n c h hn,Option.bind_some]
    obtain⟨H,hH⟩:∃H,H=hps c:=⟨_,rfl⟩
    have hHl:H.length<=16:=by
     have:=No c
     have:=h.2.2.2.2.2.1
     rw[hH];omega
    have hS:d9 H:=by rw[hH];exact JN c
    have hF:jo c t=er c [] (H.takeWhile fun h=>decide (h.a<=t)):=by rw[hH];rfl
    rw[<-hH]
    refine aA (fun s=>∃(i:Nat) (a p kd:Int),s=(aO c (er c [] (H.take i)),(i:Int),a,p,kd,foL (er c [] (H.take i)),aO c (er c [] (H.take i)),foL (er c [] (H.take i)))/\i<=H.length/\∀x∈H.take i,x.a<=t) (fun s=>H.length-s.2.1.toNat) _ ?_ n _ ⟨0,0,0,0,rfl,by omega,fun x hx=>by simp at hx⟩ (by simp;omega)
    rintro _ go ⟨i,a,p,kd,rfl,hi,hle⟩ ih
    simp only
    unfold CD
    by_cases hlt:i<H.length
    ·obtain⟨x,hx⟩:=aI hlt
     obtain⟨x0,x1,x2⟩:=Mt hx
     have hxm:x∈hps c:=by rw[<-hH];exact List.mem_of_getElem? hx
     have c1:(i:Int)<((hpL H).length:Int):=by rw[List.length_map];omega
     have c2:(0:Int)<=(i:Int):=by omega
     have hti:(H.take i).length<=i:=by rw[List.length_take];omega
     have hfl:=Ec c (H.take i) []
     simp only[List.length_nil]at hfl
     have hPx:PIn c x.p:=by
      obtain⟨k,p,g1,g2,_⟩:=tv hxm
      have:=(List.getElem?_eq_some_iff.1 g1).1
      rw[g2]
      exact⟨by omega,by omega⟩
     rw[decide_eq_true c1,cond_true,decide_eq_true c2,cond_true]
     refine LI n go c t (hpL H) i (er c [] (H.take i)) _ x (by omega) (ML fun y hy=>by rw[<-hH];exact List.mem_of_mem_take hy) (by omega) hPx x0 x1 x2 (fun ht=>?_) a p kd h.1 (Oc h hxm).1 hn hl (fun ht a p kd=>?_)
     ·rw[hF,so hS hle (fun y hy=>by rw[hx]at hy;cases hy;exact ht)]
     ·have e1:H.take (i+1)=H.take i++[x]:=bW hx
      have e2:er c [] (H.take (i+1))=gF c (er c [] (H.take i)) x:=by rw[e1];simp[er]
      rw[<-e2]
      refine ih _ ⟨i+1,a,p,kd,rfl,by omega,fun y hy=>?_⟩ (by simp only;omega)
      rw[e1]at hy
      rcases List.mem_append.1 hy with hy|hy
      ·exact hle y hy
      ·rw[List.mem_singleton]at hy;rw[hy];exact ht
    ·have h00:i=H.length:=by omega
     have c1:¬(i:Int)<((hpL H).length:Int):=by rw[List.length_map];omega
     rw[decide_eq_false c1,cond_false,hF,so hS hle (fun y hy=>by rw[h00]at hy;simp at hy)]
   ·rw[if_neg (fun h=>h1 h.2.2),decide_eq_false h1,Bool.not_false,cond_true]
  ·rw[if_neg (fun h=>h0 h.2.1),decide_eq_false h0,cond_false]
 ·rw[if_neg (fun hh=>h hh.1),decide_eq_false h,Bool.not_false,cond_true]
end Go.Proofs.YtgckmifmjiklmaaGreat
