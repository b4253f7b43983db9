/-
  Texts of this claim, joined (part 6).
-/
import Derived.Test.YtgckmifmjiklmaaGreatJC5
import Derived.Lib.Hide
set_option linter.unusedVariables false
set_option linter.unusedSimpArgs false
set_option linter.unusedSectionVars false
set_option linter.constructorNameAsVariable false
set_option maxRecDepth 100000
namespace Go.Proofs.YtgckmifmjiklmaaGreat
open Go Go.Sx
noncomputable section
def consC3:List Nat:=[11,12,13,14,15,16,17,18,19,20,21,22,23,24,25,26,27,28,29,30,32,33,34,35,36,37,38,39,40,41,42,43,44,45,46,47,48,49,50,51,52,54,55,56,57,58,59,61,62,63,64,66,67,69,80,83,87,90,91,92,95,96,99,100,101,105,107,108,109,110,111,112,115,116,121,122,127,128,136,138,139,149,150,151,153,154,156,158,161,163,164,165,166,172,173,174,175,176,183,185,186,187,188,189,190,196,197,198,201,204,205,207,210,216,222,223,226,229,1000012,1000056,1000083,1000197,1000216,1000229]
def mapsC3:List (Nat×SV×SV):=[(141,SV.of [.agg (SV.of [.vi (.int 1),.vi (.int 1)]),.agg (SV.of [.vi (.int 2),.vi (.int 1)]),.agg (SV.of [.vi (.int 3),.vi (.int 2)]),.agg (SV.of [.vi (.int 4),.vi (.int 2)]),.agg (SV.of [.vi (.int 5),.vi (.int 1)]),.agg (SV.of [.vi (.int 5),.vi (.int 2)]),.agg (SV.of [.vi (.int 5),.vi (.int 3)]),.agg (SV.of [.vi (.int 6),.vi (.int 4)])],SV.of [.vi (.int 3),.vi (.int 2),.vi (.int 3),.vi (.int 6),.vi (.int 7),.vi (.int 7),.vi (.int 7),.vi (.int 8)])]
abbrev claim_Outcome_a:=Int×Int×Int×Int
abbrev claim_Outcome_s0:=Int×Lv×Int×Int×Int×Int×Int×Int
abbrev claim_Outcome_s1:=Int×Int×Int×Int×Int×Int
def claim_Outcome_14(n:Nat) (go0:claim_Outcome_s0->Option claim_Outcome_a) (go1:claim_Outcome_s1->Option claim_Outcome_a) (v9:Bool) (v10:Lv) (v11 v13:Int) (v14:Lv) (v21 v22 v23 v24 v25 v26:Int):Option claim_Outcome_a:=
 (bif((decide ((cI v10 v13 0)=5))&&(decide (v24=2)))then(bif(decide ((cI v10 v13 2)=1))then(bif(v9==true)then bif(decide ((((v14.length:Int)+1)*8)<=140737488355328))then bif((decide ((-9223372036854775808)<=(v13+1)))&&(decide ((v13+1)<=9223372036854775807)))then go0 ((v13+1),(v14++[[(AV.int v13)]]),v21,v22,v23,v24,v25,v26)else none else none
 else(bif(decide (v11<(cI v10 v13 1)))then some (v21,v22,v23,0)
 else bif((decide ((-9223372036854775808)<=(v13+1)))&&(decide ((v13+1)<=9223372036854775807)))then go0 ((v13+1),v14,7,(cI v10 v13 1),(-1),7,(cI v10 v13 1),(-1))else none))
 else(bif(decide (v11<(cI v10 v13 1)))then some (v21,v22,v23,0)
 else bif((decide ((-9223372036854775808)<=(v13+1)))&&(decide ((v13+1)<=9223372036854775807)))then go0 ((v13+1),v14,7,(cI v10 v13 1),(-1),7,(cI v10 v13 1),(-1))else none))
 else(bif((decide ((cI v10 v13 0)=5))&&(decide (v24=3)))then(bif(decide ((cI v10 v13 2)=1))then(bif(v9==true)then bif(decide ((((v14.length:Int)+1)*8)<=140737488355328))then bif((decide ((-9223372036854775808)<=(v13+1)))&&(decide ((v13+1)<=9223372036854775807)))then go0 ((v13+1),(v14++[[(AV.int v13)]]),v21,v22,v23,v24,v25,v26)else none else none
 else(bif(decide (v11<(cI v10 v13 1)))then some (v21,v22,v23,0)
 else bif((decide ((-9223372036854775808)<=(v13+1)))&&(decide ((v13+1)<=9223372036854775807)))then go0 ((v13+1),v14,7,(cI v10 v13 1),(-1),7,(cI v10 v13 1),(-1))else none))
 else(bif(decide (v11<(cI v10 v13 1)))then some (v21,v22,v23,0)
 else bif((decide ((-9223372036854775808)<=(v13+1)))&&(decide ((v13+1)<=9223372036854775807)))then go0 ((v13+1),v14,7,(cI v10 v13 1),(-1),7,(cI v10 v13 1),(-1))else none))
 else(bif((decide ((cI v10 v13 0)=6))&&(decide (v24=4)))then(bif(decide ((cI v10 v13 2)=1))then(bif(v9==true)then bif(decide ((((v14.length:Int)+1)*8)<=140737488355328))then bif((decide ((-9223372036854775808)<=(v13+1)))&&(decide ((v13+1)<=9223372036854775807)))then go0 ((v13+1),(v14++[[(AV.int v13)]]),v21,v22,v23,v24,v25,v26)else none else none
 else(bif(decide (v11<(cI v10 v13 1)))then some (v21,v22,v23,0)
 else bif((decide ((-9223372036854775808)<=(v13+1)))&&(decide ((v13+1)<=9223372036854775807)))then go0 ((v13+1),v14,8,(cI v10 v13 1),(-1),8,(cI v10 v13 1),(-1))else none))
 else(bif(decide (v11<(cI v10 v13 1)))then some (v21,v22,v23,0)
 else bif((decide ((-9223372036854775808)<=(v13+1)))&&(decide ((v13+1)<=9223372036854775807)))then go0 ((v13+1),v14,8,(cI v10 v13 1),(-1),8,(cI v10 v13 1),(-1))else none))
 else(bif(decide ((cI v10 v13 2)=1))then(bif(decide ((cI v10 v13 0)=2))then bif(decide ((((v14.length:Int)+1)*8)<=140737488355328))then bif((decide ((-9223372036854775808)<=(v13+1)))&&(decide ((v13+1)<=9223372036854775807)))then go0 ((v13+1),(v14++[[(AV.int v13)]]),v21,v22,v23,v24,v25,v26)else none else none
 else bif(decide ((((v14.length:Int)+1)*8)<=140737488355328))then bif((decide ((-9223372036854775808)<=(v13+1)))&&(decide ((v13+1)<=9223372036854775807)))then go0 ((v13+1),(v14++[[(AV.int v13)]]),v21,v22,v23,v24,v25,v26)else none else none)
 else bif(decide ((((v14.length:Int)+1)*8)<=140737488355328))then bif((decide ((-9223372036854775808)<=(v13+1)))&&(decide ((v13+1)<=9223372036854775807)))then go0 ((v13+1),(v14++[[(AV.int v13)]]),v21,v22,v23,v24,v25,v26)else none else none))))
def claim_Outcome_13(n:Nat) (go0:claim_Outcome_s0->Option claim_Outcome_a) (go1:claim_Outcome_s1->Option claim_Outcome_a) (v9:Bool) (v10:Lv) (v11 v13:Int) (v14:Lv) (v21 v22 v23 v24 v25 v26:Int):Option claim_Outcome_a:=
 (bif((decide ((cI v10 v13 0)=5))&&(decide (v24=1)))then(bif(decide ((cI v10 v13 2)=1))then(bif(v9==true)then bif(decide ((((v14.length:Int)+1)*8)<=140737488355328))then bif((decide ((-9223372036854775808)<=(v13+1)))&&(decide ((v13+1)<=9223372036854775807)))then go0 ((v13+1),(v14++[[(AV.int v13)]]),v21,v22,v23,v24,v25,v26)else none else none
 else(bif(decide (v11<(cI v10 v13 1)))then some (v21,v22,v23,0)
 else bif((decide ((-9223372036854775808)<=(v13+1)))&&(decide ((v13+1)<=9223372036854775807)))then go0 ((v13+1),v14,7,(cI v10 v13 1),(-1),7,(cI v10 v13 1),(-1))else none))
 else(bif(decide (v11<(cI v10 v13 1)))then some (v21,v22,v23,0)
 else bif((decide ((-9223372036854775808)<=(v13+1)))&&(decide ((v13+1)<=9223372036854775807)))then go0 ((v13+1),v14,7,(cI v10 v13 1),(-1),7,(cI v10 v13 1),(-1))else none))
 else claim_Outcome_14 n go0 go1 v9 v10 v11 v13 v14 v21 v22 v23 v24 v25 v26)
def claim_Outcome_12(n:Nat) (go0:claim_Outcome_s0->Option claim_Outcome_a) (go1:claim_Outcome_s1->Option claim_Outcome_a) (v9:Bool) (v10:Lv) (v11 v13:Int) (v14:Lv) (v21 v22 v23 v24 v25 v26:Int):Option claim_Outcome_a:=
 (bif((decide ((cI v10 v13 0)=4))&&(decide (v24=2)))then(bif(decide ((cI v10 v13 2)=1))then(bif(v9==true)then bif(decide ((((v14.length:Int)+1)*8)<=140737488355328))then bif((decide ((-9223372036854775808)<=(v13+1)))&&(decide ((v13+1)<=9223372036854775807)))then go0 ((v13+1),(v14++[[(AV.int v13)]]),v21,v22,v23,v24,v25,v26)else none else none
 else(bif(decide (v11<(cI v10 v13 1)))then some (v21,v22,v23,0)
 else bif((decide ((-9223372036854775808)<=(v13+1)))&&(decide ((v13+1)<=9223372036854775807)))then go0 ((v13+1),v14,6,(cI v10 v13 1),(-1),6,(cI v10 v13 1),(-1))else none))
 else(bif(decide (v11<(cI v10 v13 1)))then some (v21,v22,v23,0)
 else bif((decide ((-9223372036854775808)<=(v13+1)))&&(decide ((v13+1)<=9223372036854775807)))then go0 ((v13+1),v14,6,(cI v10 v13 1),(-1),6,(cI v10 v13 1),(-1))else none))
 else claim_Outcome_13 n go0 go1 v9 v10 v11 v13 v14 v21 v22 v23 v24 v25 v26)
def claim_Outcome_11(n:Nat) (go0:claim_Outcome_s0->Option claim_Outcome_a) (go1:claim_Outcome_s1->Option claim_Outcome_a) (v1:Int) (v9:Bool) (v10:Lv) (v11 v13:Int) (v14:Lv) (v21 v22 v23 v24 v25 v26:Int):Option claim_Outcome_a:=
 (bif((decide ((cI v10 v13 0)=3))&&(decide (v24=2)))then(bif(decide ((cI v10 v13 2)=1))then(bif(v9==true)then bif(decide ((((v14.length:Int)+1)*8)<=140737488355328))then bif((decide ((-9223372036854775808)<=(v13+1)))&&(decide ((v13+1)<=9223372036854775807)))then go0 ((v13+1),(v14++[[(AV.int v13)]]),v21,v22,v23,v24,v25,v26)else none else none
 else bif((decide ((-9223372036854775808)<=((cI v10 v13 1)+v1)))&&(decide (((cI v10 v13 1)+v1)<=9223372036854775807)))then(bif(decide (v11<(cI v10 v13 1)))then some (v21,v22,v23,0)
 else bif((decide ((-9223372036854775808)<=(v13+1)))&&(decide ((v13+1)<=9223372036854775807)))then go0 ((v13+1),v14,3,(cI v10 v13 1),((cI v10 v13 1)+v1),3,(cI v10 v13 1),((cI v10 v13 1)+v1))else none)else none)
 else bif((decide ((-9223372036854775808)<=((cI v10 v13 1)+v1)))&&(decide (((cI v10 v13 1)+v1)<=9223372036854775807)))then(bif(decide (v11<(cI v10 v13 1)))then some (v21,v22,v23,0)
 else bif((decide ((-9223372036854775808)<=(v13+1)))&&(decide ((v13+1)<=9223372036854775807)))then go0 ((v13+1),v14,3,(cI v10 v13 1),((cI v10 v13 1)+v1),3,(cI v10 v13 1),((cI v10 v13 1)+v1))else none)else none)
 else claim_Outcome_12 n go0 go1 v9 v10 v11 v13 v14 v21 v22 v23 v24 v25 v26)
def claim_Outcome_10(n:Nat) (go0:claim_Outcome_s0->Option claim_Outcome_a) (go1:claim_Outcome_s1->Option claim_Outcome_a) (v1 v2:Int) (v9:Bool) (v10:Lv) (v11 v13:Int) (v14:Lv) (v21 v22 v23 v24 v25 v26:Int):Option claim_Outcome_a:=
 (bif((decide ((cI v10 v13 0)=2))&&(decide (v24=1)))then(bif(decide ((cI v10 v13 2)=1))then(bif(v9==true)then bif(decide ((((v14.length:Int)+1)*8)<=140737488355328))then bif((decide ((-9223372036854775808)<=(v13+1)))&&(decide ((v13+1)<=9223372036854775807)))then go0 ((v13+1),(v14++[[(AV.int v13)]]),v21,v22,v23,v24,v25,v26)else none else none
 else(bif(decide (v11<(cI v10 v13 1)))then some (v21,v22,v23,0)
 else bif((decide ((-9223372036854775808)<=(v13+1)))&&(decide ((v13+1)<=9223372036854775807)))then go0 ((v13+1),v14,6,(cI v10 v13 1),(-1),6,(cI v10 v13 1),(-1))else none))
 else bif((decide ((-9223372036854775808)<=((cI v10 v13 1)+v2)))&&(decide (((cI v10 v13 1)+v2)<=9223372036854775807)))then(bif(decide (v11<(cI v10 v13 1)))then some (v21,v22,v23,0)
 else bif((decide ((-9223372036854775808)<=(v13+1)))&&(decide ((v13+1)<=9223372036854775807)))then go0 ((v13+1),v14,2,(cI v10 v13 1),((cI v10 v13 1)+v2),2,(cI v10 v13 1),((cI v10 v13 1)+v2))else none)else none)
 else claim_Outcome_11 n go0 go1 v1 v9 v10 v11 v13 v14 v21 v22 v23 v24 v25 v26)
def claim_Outcome_9(n:Nat) (go0:claim_Outcome_s0->Option claim_Outcome_a) (go1:claim_Outcome_s1->Option claim_Outcome_a) (v1 v2:Int) (v9:Bool) (v10:Lv) (v11 v13:Int) (v14:Lv) (v21 v22 v23 v24 v25 v26:Int):Option claim_Outcome_a:=
 (bif((decide ((cI v10 v13 0)=1))&&(decide (v24=1)))then(bif(decide ((cI v10 v13 2)=1))then(bif(v9==true)then bif(decide ((((v14.length:Int)+1)*8)<=140737488355328))then bif((decide ((-9223372036854775808)<=(v13+1)))&&(decide ((v13+1)<=9223372036854775807)))then go0 ((v13+1),(v14++[[(AV.int v13)]]),v21,v22,v23,v24,v25,v26)else none else none
 else bif((decide ((-9223372036854775808)<=((cI v10 v13 1)+v1)))&&(decide (((cI v10 v13 1)+v1)<=9223372036854775807)))then(bif(decide (v11<(cI v10 v13 1)))then some (v21,v22,v23,0)
 else bif((decide ((-9223372036854775808)<=(v13+1)))&&(decide ((v13+1)<=9223372036854775807)))then go0 ((v13+1),v14,3,(cI v10 v13 1),((cI v10 v13 1)+v1),3,(cI v10 v13 1),((cI v10 v13 1)+v1))else none)else none)
 else bif((decide ((-9223372036854775808)<=((cI v10 v13 1)+v1)))&&(decide (((cI v10 v13 1)+v1)<=9223372036854775807)))then(bif(decide (v11<(cI v10 v13 1)))then some (v21,v22,v23,0)
 else bif((decide ((-9223372036854775808)<=(v13+1)))&&(decide ((v13+1)<=9223372036854775807)))then go0 ((v13+1),v14,3,(cI v10 v13 1),((cI v10 v13 1)+v1),3,(cI v10 v13 1),((cI v10 v13 1)+v1))else none)else none)
 else claim_Outcome_10 n go0 go1 v1 v2 v9 v10 v11 v13 v14 v21 v22 v23 v24 v25 v26)
def claim_Outcome_8(n:Nat) (go0:claim_Outcome_s0->Option claim_Outcome_a) (go1:claim_Outcome_s1->Option claim_Outcome_a) (v1 v2 v3:Int) (v9:Bool) (v10:Lv) (v11 v13:Int) (v14:Lv) (v21 v22 v23 v24 v25 v26:Int):Option claim_Outcome_a:=
 (bif(decide (v26<=(cI v10 v13 1)))then(bif(decide (v24=1))then bif((decide ((-9223372036854775808)<=(v26+v1)))&&(decide ((v26+v1)<=9223372036854775807)))then(bif(decide (v11<v26))then some (v21,v22,v23,0)
 else go1 (3,v26,(v26+v1),3,v26,(v26+v1)))else none
 else(bif(decide (v24=2))then bif((decide ((-9223372036854775808)<=(v26+v1)))&&(decide ((v26+v1)<=9223372036854775807)))then(bif(decide (v11<v26))then some (v21,v22,v23,0)
 else go1 (3,v26,(v26+v1),3,v26,(v26+v1)))else none
 else(bif(decide (v24=3))then bif((decide ((-9223372036854775808)<=(v26+v3)))&&(decide ((v26+v3)<=9223372036854775807)))then(bif(decide (v11<v26))then some (v21,v22,v23,0)
 else go1 (4,v26,(v26+v3),4,v26,(v26+v3)))else none
 else(bif(decide (v24=4))then(bif(decide (v11<v26))then some (v21,v22,v23,0)
 else go1 (5,v26,(-1),5,v26,(-1)))
 else(bif(decide (v11<v26))then some (v21,v22,v23,0)
 else go1 (0,v26,(-1),0,v26,(-1)))))))
 else claim_Outcome_9 n go0 go1 v1 v2 v9 v10 v11 v13 v14 v21 v22 v23 v24 v25 v26)
abbrev claim_Outcome_15:= @claim_Outcome_9
def claim_Outcome_7(n:Nat) (go0:claim_Outcome_s0->Option claim_Outcome_a) (go1:claim_Outcome_s1->Option claim_Outcome_a) (v1 v2 v3:Int) (v9:Bool) (v10:Lv) (v11 v13:Int) (v14:Lv) (v21 v22 v23 v24 v25 v26:Int):Option claim_Outcome_a:=
 (bif(decide (0<=v26))then claim_Outcome_8 n go0 go1 v1 v2 v3 v9 v10 v11 v13 v14 v21 v22 v23 v24 v25 v26
 else claim_Outcome_15 n go0 go1 v1 v2 v9 v10 v11 v13 v14 v21 v22 v23 v24 v25 v26)
def claim_Outcome_21(n:Nat) (go0:claim_Outcome_s1->Option claim_Outcome_a) (v1 v3 v11 v21 v22 v23 v24 v26:Int):Option claim_Outcome_a:=
 (bif(decide (0<=v26))then(bif(decide (v26<=4611686018427387904))then(bif(decide (v24=1))then bif((decide ((-9223372036854775808)<=(v26+v1)))&&(decide ((v26+v1)<=9223372036854775807)))then(bif(decide (v11<v26))then some (v21,v22,v23,0)
 else go0 (3,v26,(v26+v1),3,v26,(v26+v1)))else none
 else(bif(decide (v24=2))then bif((decide ((-9223372036854775808)<=(v26+v1)))&&(decide ((v26+v1)<=9223372036854775807)))then(bif(decide (v11<v26))then some (v21,v22,v23,0)
 else go0 (3,v26,(v26+v1),3,v26,(v26+v1)))else none
 else(bif(decide (v24=3))then bif((decide ((-9223372036854775808)<=(v26+v3)))&&(decide ((v26+v3)<=9223372036854775807)))then(bif(decide (v11<v26))then some (v21,v22,v23,0)
 else go0 (4,v26,(v26+v3),4,v26,(v26+v3)))else none
 else(bif(decide (v24=4))then(bif(decide (v11<v26))then some (v21,v22,v23,0)
 else go0 (5,v26,(-1),5,v26,(-1)))
 else(bif(decide (v11<v26))then some (v21,v22,v23,0)
 else go0 (0,v26,(-1),0,v26,(-1)))))))
 else some (v21,v22,v23,0))
 else some (v21,v22,v23,0))
def claim_Outcome_6(n:Nat) (go0:claim_Outcome_s0->Option claim_Outcome_a) (v1 v2 v3:Int) (v9:Bool) (v10:Lv) (v11 v13:Int) (v14:Lv) (v15 v16 v17 v18 v19 v20:Int):Option claim_Outcome_a:=
 (bif(decide (v13<(v10.length:Int)))then bif(decide (0<=v13))then(iterF (fun go1 s=>claim_Outcome_7 n go0 go1 v1 v2 v3 v9 v10 v11 v13 v14 s.1 s.2.1 s.2.2.1 s.2.2.2.1 s.2.2.2.2.1 s.2.2.2.2.2) n ((v15,v16,v17,v18,v19,v20):claim_Outcome_s1))else none
 else(iterF (fun go0 s=>claim_Outcome_21 n go0 v1 v3 v11 s.1 s.2.1 s.2.2.1 s.2.2.2.1 s.2.2.2.2.2) n ((v15,v16,v17,v18,v19,v20):claim_Outcome_s1)))
def claim_Outcome_5(n:Nat) (v0 v1 v2 v3 v8:Int) (v9:Bool) (v10:Lv) (v11:Int):Option claim_Outcome_a:=
 (bif(decide (v11<v8))then some (0,0,v8,0)
 else(iterF (fun go0 s=>claim_Outcome_6 n go0 v1 v2 v3 v9 v10 v11 s.1 s.2.1 s.2.2.1 s.2.2.2.1 s.2.2.2.2.1 s.2.2.2.2.2.1 s.2.2.2.2.2.2.1 s.2.2.2.2.2.2.2) n ((0,([]:Lv),1,v8,(v8+v0),1,v8,(v8+v0)):claim_Outcome_s0)))
def claim_Outcome_4(n:Nat) (v0 v1 v2 v3 v8:Int) (v9:Bool) (v10:Lv) (v11:Int):Option claim_Outcome_a:=
 (bif(!(decide (v11<=20000000)))then some (0,0,0,160)
 else bif((decide ((-9223372036854775808)<=(v8+v0)))&&(decide ((v8+v0)<=9223372036854775807)))then claim_Outcome_5 n v0 v1 v2 v3 v8 v9 v10 v11 else none)
def claim_Outcome_3(n:Nat) (v0 v1 v2 v3 v8:Int) (v9:Bool) (v10:Lv) (v11:Int):Option claim_Outcome_a:=
 (bif(decide (0<=v11))then claim_Outcome_4 n v0 v1 v2 v3 v8 v9 v10 v11
 else some (0,0,0,160))
def claim_Outcome_2(n:Nat) (v0 v1 v2 v3 v8:Int) (v9:Bool) (v10:Lv) (v11:Int) (v12:Bool):Option claim_Outcome_a:=
 (bif(!v12)then some (0,0,0,160)
 else claim_Outcome_3 n v0 v1 v2 v3 v8 v9 v10 v11)
def claim_Outcome_1(n:Nat) (v0 v1 v2 v3 v4 v5 v6 v7 v8:Int) (v9:Bool) (v10:Lv) (v11:Int):Option claim_Outcome_a:=
 (claim_Valid n v0 v1 v2 v3 v4 v5 v6 v7 v8 v9 v10).bind fun y12=>
 claim_Outcome_2 n v0 v1 v2 v3 v8 v9 v10 v11 y12
def claim_Outcome(n:Nat) (v0 v1 v2 v3 v4 v5 v6 v7 v8:Int) (v9:Bool) (v10:Lv) (v11:Int):Option claim_Outcome_a:=claim_Outcome_1 n v0 v1 v2 v3 v4 v5 v6 v7 v8 v9 v10 v11
def claim_Outcome_t:FnT:=⟨[(true,[.int,.int,.int,.int]),(true,[.int,.int,.int,.int,.int,.bool]),(false,[(.sl (.cons .int (.cons .int (.cons .int .nil))))]),(false,[.int])],(.tup (.cons (.agg (.cons .i (.cons .i (.cons .i .nil)))) (.cons .i .nil))),fun n (s:Int×Int×Int×Int×Int×Int×Int×Int×Int×Bool×Lv×Int)=>claim_Outcome n s.1 s.2.1 s.2.2.1 s.2.2.2.1 s.2.2.2.2.1 s.2.2.2.2.2.1 s.2.2.2.2.2.2.1 s.2.2.2.2.2.2.2.1 s.2.2.2.2.2.2.2.2.1 s.2.2.2.2.2.2.2.2.2.1 s.2.2.2.2.2.2.2.2.2.2.1 s.2.2.2.2.2.2.2.2.2.2.2⟩
theorem claim_Outcome_ok:claim_Outcome_t.ok Tryz.prog 105:=FnT.ok_of (cfg:=⟨[((143,5,32),.inv [(.tmp 24 .int),(.cellrow 12 12 3 (.cons .int .nil)),(.cell 13 0 .int),(.cell 13 1 .int),(.cell 13 2 .int),(.cell 27 0 .int),(.cell 27 1 .int),(.cell 27 2 .int)]),((145,1,42),.inv [(.cell 13 0 .int),(.cell 13 1 .int),(.cell 13 2 .int),(.cell 27 0 .int),(.cell 27 1 .int),(.cell 27 2 .int)]),((145,1,40),.inv [(.cell 13 0 .int),(.cell 13 1 .int),(.cell 13 2 .int),(.cell 27 0 .int),(.cell 27 1 .int),(.cell 27 2 .int)])],consC3,[],mapsC3⟩) (tab:=claim_Ends_T) (mt:=mtE) pfit claim_Ends_T_ok mtE_ok (fun s fn hf=>by rw[Tryz.func105]at hf;cases hf;kernel_rfl) (fun n s=>by kernel_rfl)
def claim_Outcome_T:Tab:=(105,claim_Outcome_t)::claim_Ends_T
theorem claim_Outcome_T_ok:claim_Outcome_T.ok Tryz.prog:=Tab.ok_cons claim_Outcome_ok claim_Ends_T_ok
abbrev claim_With_a:=Int×Int
def claim_With_1(n:Nat) (v0 v1 v2 v3 v4 v5 v6 v7 v8:Int) (v9:Bool) (v10:Lv) (v11:Int):Option claim_With_a:=
 (claim_Outcome n v0 v1 v2 v3 v4 v5 v6 v7 v8 v9 v10 v11).bind fun y12=>
 (bif(!(decide (y12.2.2.2=0)))then some (0,y12.2.2.2)
 else(bif(decide (y12.1=4))then some (v6,0)
 else(bif(decide (y12.1=5))then some (v6,0)
 else some (v5,0))))
def claim_With(n:Nat) (v0 v1 v2 v3 v4 v5 v6 v7 v8:Int) (v9:Bool) (v10:Lv) (v11:Int):Option claim_With_a:=claim_With_1 n v0 v1 v2 v3 v4 v5 v6 v7 v8 v9 v10 v11
def claim_With_t:FnT:=⟨[(true,[.int,.int,.int,.int]),(true,[.int,.int,.int,.int,.int,.bool]),(false,[(.sl (.cons .int (.cons .int (.cons .int .nil))))]),(false,[.int])],(.tup (.cons .i (.cons .i .nil))),fun n (s:Int×Int×Int×Int×Int×Int×Int×Int×Int×Bool×Lv×Int)=>claim_With n s.1 s.2.1 s.2.2.1 s.2.2.2.1 s.2.2.2.2.1 s.2.2.2.2.2.1 s.2.2.2.2.2.2.1 s.2.2.2.2.2.2.2.1 s.2.2.2.2.2.2.2.2.1 s.2.2.2.2.2.2.2.2.2.1 s.2.2.2.2.2.2.2.2.2.2.1 s.2.2.2.2.2.2.2.2.2.2.2⟩
theorem claim_With_ok:claim_With_t.ok Tryz.prog 42:=FnT.ok_of (cfg:=⟨[],consC3,[],mapsC3⟩) (tab:=claim_Outcome_T) (mt:=mtE) pfit claim_Outcome_T_ok mtE_ok (fun s fn hf=>by rw[Tryz.func42]at hf;cases hf;kernel_rfl) (fun n s=>by kernel_rfl)
def claim_With_T:Tab:=(42,claim_With_t)::claim_Outcome_T
theorem claim_With_T_ok:claim_With_T.ok Tryz.prog:=Tab.ok_cons claim_With_ok claim_Outcome_T_ok
abbrev claim_Timeline_a:=Lv×Int
abbrev claim_Timeline_s0:=Int×Lv×Lv×Int×Int×Int
abbrev claim_Timeline_s1:=Lv×Int×Int×Int
def claim_Timeline_11(n:Nat) (go0:claim_Timeline_s0->Option claim_Timeline_a) (go1:claim_Timeline_s1->Option claim_Timeline_a) (v9:Bool) (v10:Lv) (v12:Int) (v13 v18:Lv) (v19 v20 v21:Int):Option claim_Timeline_a:=
 (bif((decide ((cI v10 v12 0)=5))&&(decide (v19=2)))then(bif(decide ((cI v10 v12 2)=1))then(bif(v9==true)then bif(decide ((((v13.length:Int)+1)*8)<=140737488355328))then bif((decide ((-9223372036854775808)<=(v12+1)))&&(decide ((v12+1)<=9223372036854775807)))then go0 ((v12+1),(v13++[[(AV.int v12)]]),v18,v19,v20,v21)else none else none
 else bif(decide ((((v18.length:Int)+1)*24)<=140737488355328))then bif((decide ((-9223372036854775808)<=(v12+1)))&&(decide ((v12+1)<=9223372036854775807)))then go0 ((v12+1),v13,(v18++[[(AV.int 7),(AV.int (cI v10 v12 1)),(AV.int (-1))]]),7,(cI v10 v12 1),(-1))else none else none)
 else bif(decide ((((v18.length:Int)+1)*24)<=140737488355328))then bif((decide ((-9223372036854775808)<=(v12+1)))&&(decide ((v12+1)<=9223372036854775807)))then go0 ((v12+1),v13,(v18++[[(AV.int 7),(AV.int (cI v10 v12 1)),(AV.int (-1))]]),7,(cI v10 v12 1),(-1))else none else none)
 else(bif((decide ((cI v10 v12 0)=5))&&(decide (v19=3)))then(bif(decide ((cI v10 v12 2)=1))then(bif(v9==true)then bif(decide ((((v13.length:Int)+1)*8)<=140737488355328))then bif((decide ((-9223372036854775808)<=(v12+1)))&&(decide ((v12+1)<=9223372036854775807)))then go0 ((v12+1),(v13++[[(AV.int v12)]]),v18,v19,v20,v21)else none else none
 else bif(decide ((((v18.length:Int)+1)*24)<=140737488355328))then bif((decide ((-9223372036854775808)<=(v12+1)))&&(decide ((v12+1)<=9223372036854775807)))then go0 ((v12+1),v13,(v18++[[(AV.int 7),(AV.int (cI v10 v12 1)),(AV.int (-1))]]),7,(cI v10 v12 1),(-1))else none else none)
 else bif(decide ((((v18.length:Int)+1)*24)<=140737488355328))then bif((decide ((-9223372036854775808)<=(v12+1)))&&(decide ((v12+1)<=9223372036854775807)))then go0 ((v12+1),v13,(v18++[[(AV.int 7),(AV.int (cI v10 v12 1)),(AV.int (-1))]]),7,(cI v10 v12 1),(-1))else none else none)
 else(bif((decide ((cI v10 v12 0)=6))&&(decide (v19=4)))then(bif(decide ((cI v10 v12 2)=1))then(bif(v9==true)then bif(decide ((((v13.length:Int)+1)*8)<=140737488355328))then bif((decide ((-9223372036854775808)<=(v12+1)))&&(decide ((v12+1)<=9223372036854775807)))then go0 ((v12+1),(v13++[[(AV.int v12)]]),v18,v19,v20,v21)else none else none
 else bif(decide ((((v18.length:Int)+1)*24)<=140737488355328))then bif((decide ((-9223372036854775808)<=(v12+1)))&&(decide ((v12+1)<=9223372036854775807)))then go0 ((v12+1),v13,(v18++[[(AV.int 8),(AV.int (cI v10 v12 1)),(AV.int (-1))]]),8,(cI v10 v12 1),(-1))else none else none)
 else bif(decide ((((v18.length:Int)+1)*24)<=140737488355328))then bif((decide ((-9223372036854775808)<=(v12+1)))&&(decide ((v12+1)<=9223372036854775807)))then go0 ((v12+1),v13,(v18++[[(AV.int 8),(AV.int (cI v10 v12 1)),(AV.int (-1))]]),8,(cI v10 v12 1),(-1))else none else none)
 else(bif(decide ((cI v10 v12 2)=1))then(bif(decide ((cI v10 v12 0)=2))then bif(decide ((((v13.length:Int)+1)*8)<=140737488355328))then bif((decide ((-9223372036854775808)<=(v12+1)))&&(decide ((v12+1)<=9223372036854775807)))then go0 ((v12+1),(v13++[[(AV.int v12)]]),v18,v19,v20,v21)else none else none
 else bif(decide ((((v13.length:Int)+1)*8)<=140737488355328))then bif((decide ((-9223372036854775808)<=(v12+1)))&&(decide ((v12+1)<=9223372036854775807)))then go0 ((v12+1),(v13++[[(AV.int v12)]]),v18,v19,v20,v21)else none else none)
 else bif(decide ((((v13.length:Int)+1)*8)<=140737488355328))then bif((decide ((-9223372036854775808)<=(v12+1)))&&(decide ((v12+1)<=9223372036854775807)))then go0 ((v12+1),(v13++[[(AV.int v12)]]),v18,v19,v20,v21)else none else none))))
def claim_Timeline_10(n:Nat) (go0:claim_Timeline_s0->Option claim_Timeline_a) (go1:claim_Timeline_s1->Option claim_Timeline_a) (v9:Bool) (v10:Lv) (v12:Int) (v13 v18:Lv) (v19 v20 v21:Int):Option claim_Timeline_a:=
 (bif((decide ((cI v10 v12 0)=5))&&(decide (v19=1)))then(bif(decide ((cI v10 v12 2)=1))then(bif(v9==true)then bif(decide ((((v13.length:Int)+1)*8)<=140737488355328))then bif((decide ((-9223372036854775808)<=(v12+1)))&&(decide ((v12+1)<=9223372036854775807)))then go0 ((v12+1),(v13++[[(AV.int v12)]]),v18,v19,v20,v21)else none else none
 else bif(decide ((((v18.length:Int)+1)*24)<=140737488355328))then bif((decide ((-9223372036854775808)<=(v12+1)))&&(decide ((v12+1)<=9223372036854775807)))then go0 ((v12+1),v13,(v18++[[(AV.int 7),(AV.int (cI v10 v12 1)),(AV.int (-1))]]),7,(cI v10 v12 1),(-1))else none else none)
 else bif(decide ((((v18.length:Int)+1)*24)<=140737488355328))then bif((decide ((-9223372036854775808)<=(v12+1)))&&(decide ((v12+1)<=9223372036854775807)))then go0 ((v12+1),v13,(v18++[[(AV.int 7),(AV.int (cI v10 v12 1)),(AV.int (-1))]]),7,(cI v10 v12 1),(-1))else none else none)
 else claim_Timeline_11 n go0 go1 v9 v10 v12 v13 v18 v19 v20 v21)
def claim_Timeline_9(n:Nat) (go0:claim_Timeline_s0->Option claim_Timeline_a) (go1:claim_Timeline_s1->Option claim_Timeline_a) (v9:Bool) (v10:Lv) (v12:Int) (v13 v18:Lv) (v19 v20 v21:Int):Option claim_Timeline_a:=
 (bif((decide ((cI v10 v12 0)=4))&&(decide (v19=2)))then(bif(decide ((cI v10 v12 2)=1))then(bif(v9==true)then bif(decide ((((v13.length:Int)+1)*8)<=140737488355328))then bif((decide ((-9223372036854775808)<=(v12+1)))&&(decide ((v12+1)<=9223372036854775807)))then go0 ((v12+1),(v13++[[(AV.int v12)]]),v18,v19,v20,v21)else none else none
 else bif(decide ((((v18.length:Int)+1)*24)<=140737488355328))then bif((decide ((-9223372036854775808)<=(v12+1)))&&(decide ((v12+1)<=9223372036854775807)))then go0 ((v12+1),v13,(v18++[[(AV.int 6),(AV.int (cI v10 v12 1)),(AV.int (-1))]]),6,(cI v10 v12 1),(-1))else none else none)
 else bif(decide ((((v18.length:Int)+1)*24)<=140737488355328))then bif((decide ((-9223372036854775808)<=(v12+1)))&&(decide ((v12+1)<=9223372036854775807)))then go0 ((v12+1),v13,(v18++[[(AV.int 6),(AV.int (cI v10 v12 1)),(AV.int (-1))]]),6,(cI v10 v12 1),(-1))else none else none)
 else claim_Timeline_10 n go0 go1 v9 v10 v12 v13 v18 v19 v20 v21)
def claim_Timeline_8(n:Nat) (go0:claim_Timeline_s0->Option claim_Timeline_a) (go1:claim_Timeline_s1->Option claim_Timeline_a) (v1:Int) (v9:Bool) (v10:Lv) (v12:Int) (v13 v18:Lv) (v19 v20 v21:Int):Option claim_Timeline_a:=
 (bif((decide ((cI v10 v12 0)=3))&&(decide (v19=2)))then(bif(decide ((cI v10 v12 2)=1))then(bif(v9==true)then bif(decide ((((v13.length:Int)+1)*8)<=140737488355328))then bif((decide ((-9223372036854775808)<=(v12+1)))&&(decide ((v12+1)<=9223372036854775807)))then go0 ((v12+1),(v13++[[(AV.int v12)]]),v18,v19,v20,v21)else none else none
 else bif((decide ((-9223372036854775808)<=((cI v10 v12 1)+v1)))&&(decide (((cI v10 v12 1)+v1)<=9223372036854775807)))then bif(decide ((((v18.length:Int)+1)*24)<=140737488355328))then bif((decide ((-9223372036854775808)<=(v12+1)))&&(decide ((v12+1)<=9223372036854775807)))then go0 ((v12+1),v13,(v18++[[(AV.int 3),(AV.int (cI v10 v12 1)),(AV.int ((cI v10 v12 1)+v1))]]),3,(cI v10 v12 1),((cI v10 v12 1)+v1))else none else none else none)
 else bif((decide ((-9223372036854775808)<=((cI v10 v12 1)+v1)))&&(decide (((cI v10 v12 1)+v1)<=9223372036854775807)))then bif(decide ((((v18.length:Int)+1)*24)<=140737488355328))then bif((decide ((-9223372036854775808)<=(v12+1)))&&(decide ((v12+1)<=9223372036854775807)))then go0 ((v12+1),v13,(v18++[[(AV.int 3),(AV.int (cI v10 v12 1)),(AV.int ((cI v10 v12 1)+v1))]]),3,(cI v10 v12 1),((cI v10 v12 1)+v1))else none else none else none)
 else claim_Timeline_9 n go0 go1 v9 v10 v12 v13 v18 v19 v20 v21)
def claim_Timeline_7(n:Nat) (go0:claim_Timeline_s0->Option claim_Timeline_a) (go1:claim_Timeline_s1->Option claim_Timeline_a) (v1 v2:Int) (v9:Bool) (v10:Lv) (v12:Int) (v13 v18:Lv) (v19 v20 v21:Int):Option claim_Timeline_a:=
 (bif((decide ((cI v10 v12 0)=2))&&(decide (v19=1)))then(bif(decide ((cI v10 v12 2)=1))then(bif(v9==true)then bif(decide ((((v13.length:Int)+1)*8)<=140737488355328))then bif((decide ((-9223372036854775808)<=(v12+1)))&&(decide ((v12+1)<=9223372036854775807)))then go0 ((v12+1),(v13++[[(AV.int v12)]]),v18,v19,v20,v21)else none else none
 else bif(decide ((((v18.length:Int)+1)*24)<=140737488355328))then bif((decide ((-9223372036854775808)<=(v12+1)))&&(decide ((v12+1)<=9223372036854775807)))then go0 ((v12+1),v13,(v18++[[(AV.int 6),(AV.int (cI v10 v12 1)),(AV.int (-1))]]),6,(cI v10 v12 1),(-1))else none else none)
 else bif((decide ((-9223372036854775808)<=((cI v10 v12 1)+v2)))&&(decide (((cI v10 v12 1)+v2)<=9223372036854775807)))then bif(decide ((((v18.length:Int)+1)*24)<=140737488355328))then bif((decide ((-9223372036854775808)<=(v12+1)))&&(decide ((v12+1)<=9223372036854775807)))then go0 ((v12+1),v13,(v18++[[(AV.int 2),(AV.int (cI v10 v12 1)),(AV.int ((cI v10 v12 1)+v2))]]),2,(cI v10 v12 1),((cI v10 v12 1)+v2))else none else none else none)
 else claim_Timeline_8 n go0 go1 v1 v9 v10 v12 v13 v18 v19 v20 v21)
def claim_Timeline_6(n:Nat) (go0:claim_Timeline_s0->Option claim_Timeline_a) (go1:claim_Timeline_s1->Option claim_Timeline_a) (v1 v2:Int) (v9:Bool) (v10:Lv) (v12:Int) (v13 v18:Lv) (v19 v20 v21:Int):Option claim_Timeline_a:=
 (bif((decide ((cI v10 v12 0)=1))&&(decide (v19=1)))then(bif(decide ((cI v10 v12 2)=1))then(bif(v9==true)then bif(decide ((((v13.length:Int)+1)*8)<=140737488355328))then bif((decide ((-9223372036854775808)<=(v12+1)))&&(decide ((v12+1)<=9223372036854775807)))then go0 ((v12+1),(v13++[[(AV.int v12)]]),v18,v19,v20,v21)else none else none
 else bif((decide ((-9223372036854775808)<=((cI v10 v12 1)+v1)))&&(decide (((cI v10 v12 1)+v1)<=9223372036854775807)))then bif(decide ((((v18.length:Int)+1)*24)<=140737488355328))then bif((decide ((-9223372036854775808)<=(v12+1)))&&(decide ((v12+1)<=9223372036854775807)))then go0 ((v12+1),v13,(v18++[[(AV.int 3),(AV.int (cI v10 v12 1)),(AV.int ((cI v10 v12 1)+v1))]]),3,(cI v10 v12 1),((cI v10 v12 1)+v1))else none else none else none)
 else bif((decide ((-9223372036854775808)<=((cI v10 v12 1)+v1)))&&(decide (((cI v10 v12 1)+v1)<=9223372036854775807)))then bif(decide ((((v18.length:Int)+1)*24)<=140737488355328))then bif((decide ((-9223372036854775808)<=(v12+1)))&&(decide ((v12+1)<=9223372036854775807)))then go0 ((v12+1),v13,(v18++[[(AV.int 3),(AV.int (cI v10 v12 1)),(AV.int ((cI v10 v12 1)+v1))]]),3,(cI v10 v12 1),((cI v10 v12 1)+v1))else none else none else none)
 else claim_Timeline_7 n go0 go1 v1 v2 v9 v10 v12 v13 v18 v19 v20 v21)
def claim_Timeline_5(n:Nat) (go0:claim_Timeline_s0->Option claim_Timeline_a) (go1:claim_Timeline_s1->Option claim_Timeline_a) (v1 v2 v3:Int) (v9:Bool) (v10:Lv) (v12:Int) (v13 v18:Lv) (v19 v20 v21:Int):Option claim_Timeline_a:=
 (bif(decide (v21<=(cI v10 v12 1)))then(bif(decide (v19=1))then bif((decide ((-9223372036854775808)<=(v21+v1)))&&(decide ((v21+v1)<=9223372036854775807)))then bif(decide ((((v18.length:Int)+1)*24)<=140737488355328))then go1 ((v18++[[(AV.int 3),(AV.int v21),(AV.int (v21+v1))]]),3,v21,(v21+v1))else none else none
 else(bif(decide (v19=2))then bif((decide ((-9223372036854775808)<=(v21+v1)))&&(decide ((v21+v1)<=9223372036854775807)))then bif(decide ((((v18.length:Int)+1)*24)<=140737488355328))then go1 ((v18++[[(AV.int 3),(AV.int v21),(AV.int (v21+v1))]]),3,v21,(v21+v1))else none else none
 else(bif(decide (v19=3))then bif((decide ((-9223372036854775808)<=(v21+v3)))&&(decide ((v21+v3)<=9223372036854775807)))then bif(decide ((((v18.length:Int)+1)*24)<=140737488355328))then go1 ((v18++[[(AV.int 4),(AV.int v21),(AV.int (v21+v3))]]),4,v21,(v21+v3))else none else none
 else(bif(decide (v19=4))then bif(decide ((((v18.length:Int)+1)*24)<=140737488355328))then go1 ((v18++[[(AV.int 5),(AV.int v21),(AV.int (-1))]]),5,v21,(-1))else none
 else bif(decide ((((v18.length:Int)+1)*24)<=140737488355328))then go1 ((v18++[[(AV.int 0),(AV.int v21),(AV.int (-1))]]),0,v21,(-1))else none))))
 else claim_Timeline_6 n go0 go1 v1 v2 v9 v10 v12 v13 v18 v19 v20 v21)
abbrev claim_Timeline_12:= @claim_Timeline_6
def claim_Timeline_4(n:Nat) (go0:claim_Timeline_s0->Option claim_Timeline_a) (go1:claim_Timeline_s1->Option claim_Timeline_a) (v1 v2 v3:Int) (v9:Bool) (v10:Lv) (v12:Int) (v13 v18:Lv) (v19 v20 v21:Int):Option claim_Timeline_a:=
 (bif(decide (0<=v21))then claim_Timeline_5 n go0 go1 v1 v2 v3 v9 v10 v12 v13 v18 v19 v20 v21
 else claim_Timeline_12 n go0 go1 v1 v2 v9 v10 v12 v13 v18 v19 v20 v21)
def claim_Timeline_18(n:Nat) (go0:claim_Timeline_s1->Option claim_Timeline_a) (v1 v3:Int) (v18:Lv) (v19 v21:Int):Option claim_Timeline_a:=
 (bif(decide (0<=v21))then(bif(decide (v21<=4611686018427387904))then(bif(decide (v19=1))then bif((decide ((-9223372036854775808)<=(v21+v1)))&&(decide ((v21+v1)<=9223372036854775807)))then bif(decide ((((v18.length:Int)+1)*24)<=140737488355328))then go0 ((v18++[[(AV.int 3),(AV.int v21),(AV.int (v21+v1))]]),3,v21,(v21+v1))else none else none
 else(bif(decide (v19=2))then bif((decide ((-9223372036854775808)<=(v21+v1)))&&(decide ((v21+v1)<=9223372036854775807)))then bif(decide ((((v18.length:Int)+1)*24)<=140737488355328))then go0 ((v18++[[(AV.int 3),(AV.int v21),(AV.int (v21+v1))]]),3,v21,(v21+v1))else none else none
 else(bif(decide (v19=3))then bif((decide ((-9223372036854775808)<=(v21+v3)))&&(decide ((v21+v3)<=9223372036854775807)))then bif(decide ((((v18.length:Int)+1)*24)<=140737488355328))then go0 ((v18++[[(AV.int 4),(AV.int v21),(AV.int (v21+v3))]]),4,v21,(v21+v3))else none else none
 else(bif(decide (v19=4))then bif(decide ((((v18.length:Int)+1)*24)<=140737488355328))then go0 ((v18++[[(AV.int 5),(AV.int v21),(AV.int (-1))]]),5,v21,(-1))else none
 else bif(decide ((((v18.length:Int)+1)*24)<=140737488355328))then go0 ((v18++[[(AV.int 0),(AV.int v21),(AV.int (-1))]]),0,v21,(-1))else none))))
 else some (v18,0))
 else some (v18,0))
def claim_Timeline_3(n:Nat) (go0:claim_Timeline_s0->Option claim_Timeline_a) (v1 v2 v3:Int) (v9:Bool) (v10:Lv) (v12:Int) (v13 v14:Lv) (v15 v16 v17:Int):Option claim_Timeline_a:=
 (bif(decide (v12<(v10.length:Int)))then bif(decide (0<=v12))then(iterF (fun go1 s=>claim_Timeline_4 n go0 go1 v1 v2 v3 v9 v10 v12 v13 s.1 s.2.1 s.2.2.1 s.2.2.2) n ((v14,v15,v16,v17):claim_Timeline_s1))else none
 else(iterF (fun go0 s=>claim_Timeline_18 n go0 v1 v3 s.1 s.2.1 s.2.2.2) n ((v14,v15,v16,v17):claim_Timeline_s1)))
def claim_Timeline_2(n:Nat) (v0 v1 v2 v3 v8:Int) (v9:Bool) (v10:Lv) (v11:Bool):Option claim_Timeline_a:=
 (bif(!v11)then some (([]:Lv),160)
 else bif((decide ((-9223372036854775808)<=(v8+v0)))&&(decide ((v8+v0)<=9223372036854775807)))then(iterF (fun go0 s=>claim_Timeline_3 n go0 v1 v2 v3 v9 v10 s.1 s.2.1 s.2.2.1 s.2.2.2.1 s.2.2.2.2.1 s.2.2.2.2.2) n ((0,([]:Lv),(([]:Lv)++[[(AV.int 1),(AV.int v8),(AV.int (v8+v0))]]),1,v8,(v8+v0)):claim_Timeline_s0))else none)
def claim_Timeline_1(n:Nat) (v0 v1 v2 v3 v4 v5 v6 v7 v8:Int) (v9:Bool) (v10:Lv):Option claim_Timeline_a:=
 (claim_Valid n v0 v1 v2 v3 v4 v5 v6 v7 v8 v9 v10).bind fun y11=>
 claim_Timeline_2 n v0 v1 v2 v3 v8 v9 v10 y11
def claim_Timeline(n:Nat) (v0 v1 v2 v3 v4 v5 v6 v7 v8:Int) (v9:Bool) (v10:Lv):Option claim_Timeline_a:=claim_Timeline_1 n v0 v1 v2 v3 v4 v5 v6 v7 v8 v9 v10
def claim_Timeline_t:FnT:=⟨[(true,[.int,.int,.int,.int]),(true,[.int,.int,.int,.int,.int,.bool]),(false,[(.sl (.cons .int (.cons .int (.cons .int .nil))))])],(.tup (.cons (.row 156 (.cons .int (.cons .int (.cons .int .nil)))) (.cons .i .nil))),fun n (s:Int×Int×Int×Int×Int×Int×Int×Int×Int×Bool×Lv)=>claim_Timeline n s.1 s.2.1 s.2.2.1 s.2.2.2.1 s.2.2.2.2.1 s.2.2.2.2.2.1 s.2.2.2.2.2.2.1 s.2.2.2.2.2.2.2.1 s.2.2.2.2.2.2.2.2.1 s.2.2.2.2.2.2.2.2.2.1 s.2.2.2.2.2.2.2.2.2.2⟩
theorem claim_Timeline_ok:claim_Timeline_t.ok Tryz.prog 41:=FnT.ok_of (cfg:=⟨[((143,5,31),.inv [(.tmp 24 .int),(.cellrow 10 12 3 (.cons .int .nil)),(.cellrow 13 0 156 (.cons .int (.cons .int (.cons .int .nil)))),(.cell 24 0 .int),(.cell 24 1 .int),(.cell 24 2 .int)]),((145,1,39),.inv [(.cellrow 13 0 156 (.cons .int (.cons .int (.cons .int .nil)))),(.cell 24 0 .int),(.cell 24 1 .int),(.cell 24 2 .int)]),((145,1,37),.inv [(.cellrow 13 0 156 (.cons .int (.cons .int (.cons .int .nil)))),(.cell 24 0 .int),(.cell 24 1 .int),(.cell 24 2 .int)])],consC3,[],mapsC3⟩) (tab:=claim_With_T) (mt:=mtE) pfit claim_With_T_ok mtE_ok (fun s fn hf=>by rw[Tryz.func41]at hf;cases hf;kernel_rfl) (fun n s=>by kernel_rfl)
def claim_Timeline_T:Tab:=(41,claim_Timeline_t)::claim_With_T
theorem claim_Timeline_T_ok:claim_Timeline_T.ok Tryz.prog:=Tab.ok_cons claim_Timeline_ok claim_With_T_ok
end
end Go.Proofs.YtgckmifmjiklmaaGreat
set_option maxRecDepth 100000
namespace Go.Proofs.YtgckmifmjiklmaaGreat
open Go Go.Sx
noncomputable section
end
end Go.Proofs.YtgckmifmjiklmaaGreat
namespace Go.Dial.Lif
structure Ev where
 k:Int
 a:Int
 h:Int
deriving DecidableEq
structure Ln where
 s:Int
 h:Int
 e:Int
 t:Int
deriving DecidableEq
structure St where
 h:Int
 e:Int
 f:Int
 t:Int
deriving DecidableEq
def first:Ln:=⟨0,-1,0,0⟩
def zero:Ln:=⟨0,0,0,0⟩
def Vld(l:Ln):Prop:=0<=l.s/\l.s<=3/\0<=l.e/\l.e<=1000/\0<=l.t/\l.t<=10000000/\(l.s=0->l.h= -1)/\(l.s≠0->0<=l.h/\l.h<=63/\1<=l.e)
instance (l:Ln):Decidable (Vld l):=by unfold Vld;infer_instance
def vldB(l:Ln):Bool:=decide (Vld l)
def Named(k:Int):Prop:=k=1\/k=2
instance (k:Int):Decidable (Named k):=by unfold Named;infer_instance
def Frm(e:Ev):Prop:=1<=e.k/\e.k<=7/\0<=e.a/\e.a<=10000000/\(Named e.k->0<=e.h/\e.h<=63)/\(¬Named e.k->e.h= -1)
instance (e:Ev):Decidable (Frm e):=by unfold Frm;infer_instance
def Pos(l:Ln) (e:Ev):Prop:=l.t<=e.a/\((e.k=1/\l.s=0/\l.e<1000)\/(e.k=2/\l.s=1/\l.h≠e.h/\l.e<1000)\/(e.k=3/\l.s=1)\/(e.k=4/\l.s=2)\/(e.k=5/\(l.s=1\/l.s=2))\/(e.k=6/\l.s=3)\/(e.k=7/\l.s=3/\l.t+2592000<=e.a))
instance (l:Ln) (e:Ev):Decidable (Pos l e):=by unfold Pos;infer_instance
def nxt(l:Ln) (e:Ev):Ln:=
 if e.k=1\/e.k=2 then⟨1,e.h,l.e+1,e.a⟩else if e.k=3 then⟨2,l.h,l.e,e.a⟩else if e.k=4\/e.k=6 then⟨1,l.h,l.e,e.a⟩else if e.k=5 then⟨3,l.h,l.e,e.a⟩else⟨0,-1,l.e,e.a⟩
def Ok(l:Ln) (e:Ev):Prop:=Vld l/\Frm e/\Pos l e
instance (l:Ln) (e:Ev):Decidable (Ok l e):=by unfold Ok;infer_instance
def runF:Ln->List Ev->Ln×Nat
 |l,[]=>(l,0)
 |l,e::es=>if Ok l e then((runF (nxt l e) es).1,(runF (nxt l e) es).2+1)else(l,0)
theorem runF_le(l:Ln) (es:List Ev):(runF l es).2<=es.length:=by
 induction es generalizing l with
 |nil=>simp[runF]
 |cons e es ih=>unfold runF;split<;>simp;exact ih _
def All:Ln->List Ev->Prop
 |_,[]=>True
 |l,e::es=>Ok l e/\All (nxt l e) es
def fin(l:Ln) (es:List Ev):Ln:=es.foldl nxt l
theorem runF_all{l:Ln} {es:List Ev}:(runF l es).2=es.length↔All l es:=by
 induction es generalizing l with
 |nil=>simp[runF,All]
 |cons e es ih=>
  unfold runF All
  by_cases h:Ok l e
  ·rw[if_pos h];simp only[List.length_cons,Nat.add_right_cancel_iff,ih,h,true_and]
  ·rw[if_neg h];simp[h]
def Life(es:List Ev):Prop:=All first es/\es.length<=40
theorem life_iff{es:List Ev}:(runF first (es.take 40)).2=es.length↔Life es:=by
 constructor
 ·intro h
  have h1:=runF_le first (es.take 40)
  have h2:es.length<=40:=by simp at h1;omega
  rw[List.take_of_length_le h2]at h
  exact⟨runF_all.1 h,h2⟩
 ·rintro ⟨h1,h2⟩
  rw[List.take_of_length_le h2];exact runF_all.2 h1
instance (es:List Ev):Decidable (Life es):=decidable_of_iff _ life_iff
def upto(es:List Ev) (t:Int):Nat:=(es.takeWhile fun e=>decide (e.a<=t)).length
def atL(es:List Ev) (t:Int):Ln:=fin first (es.take (upto es t))
def OkAt(es:List Ev) (t:Int):Prop:=Life es/\0<=t/\t<=10000000
instance (es:List Ev) (t:Int):Decidable (OkAt es t):=by unfold OkAt;infer_instance
def Used(l:Ln):Prop:=l.s=1\/l.s=2
instance (l:Ln):Decidable (Used l):=by unfold Used;infer_instance
theorem vldB_iff{l:Ln}:vldB l=true↔Vld l:=decide_eq_true_iff
def OkKeep(es:List Ev) (t:Int):Prop:=OkAt es t/\Used (atL es t)
instance (es:List Ev) (t:Int):Decidable (OkKeep es t):=by unfold OkKeep;infer_instance
def OkFate(es:List Ev) (me ma t:Int):Prop:=OkKeep es ma/\(atL es ma).e=me/\ma<=t/\t<=10000000
instance (es:List Ev) (me ma t:Int):Decidable (OkFate es me ma t):=by unfold OkFate;infer_instance
end Go.Dial.Lif
set_option maxRecDepth 100000
namespace Go.Proofs.YtgckmifmjiklmaaGreat
open Go Go.Sx Go.Dial.Lif
theorem kinds{k:Int} (h1:1<=k) (h2:k<=7):k=1\/k=2\/k=3\/k=4\/k=5\/k=6\/k=7:=by omega
set_option maxRecDepth 100000
set_option maxRecDepth 100000
end Go.Proofs.YtgckmifmjiklmaaGreat
set_option maxRecDepth 100000
namespace Go.Proofs.YtgckmifmjiklmaaGreat
open Go Go.Sx Go.Dial.Clm
abbrev ceR(e:Ce):List AV:=[.int e.k,.int e.a,.int e.r]
abbrev ceL(es:List Ce):Lv:=es.map ceR
abbrev csR(x:Cs):List AV:=[.int x.s,.int x.f,.int x.n]
abbrev csL(l:List Cs):Lv:=l.map csR
theorem ref16_pick_v(n:Nat) {c k:Int} (hc:In64 c) (hk:0<k):ref16_pick n c k=some (pk c k):=by
 unfold ref16_pick ref16_pick_1 pk
 unfold In64 at hc
 grind
theorem ref16_Rules_v(n:Nat) (r:Rl):ref16_Rules n r.a r.c r.s r.r=some (decide (RlV r)):=by
 by_cases h:RlV r<;>simp only[h,decide_true,decide_false]<;>unfold RlV at h<;>unfold ref16_Rules ref16_Rules_1<;>grind
theorem ref16_Claim_v(n:Nat) (c:Cl):ref16_Claim n c.n c.f c.t c.h c.a c.b=some (decide (ClV c)):=by
 by_cases h:ClV c<;>simp only[h,decide_true,decide_false]<;>unfold ClV at h<;>unfold ref16_Claim ref16_Claim_1<;>grind
theorem drop_cons{α:Type} {l:List α} {i:Nat} {x:α} (h:l[i]?=some x):l.drop i=x::l.drop (i+1):=by
 obtain⟨hl,rfl⟩:=List.getElem?_eq_some_iff.1 h
 exact List.drop_eq_getElem_cons hl
theorem ref16_Valid_v(n:Nat) (r:Rl) (c:Cl) (es:List Ce) (hn:25<n):ref16_Valid n r.a r.c r.s r.r c.n c.f c.t c.h c.a c.b (ceL es)=some (decide (ClmV r c es)):=by
 unfold ref16_Valid ref16_Valid_1 ClmV
 rw[ref16_Rules_v,ref16_Claim_v]
 by_cases h1:RlV r
 ·by_cases h2:ClV c
  ·by_cases h3:es.length<=20
   ·have c3:¬(20:Int)<(es.length:Int):=by omega
    simp only[h1,h2,h3,decide_true,Option.bind_some,Bool.not_true,cond_false,List.length_map,c3,decide_false,true_and]
    refine iterF_ind (fun s=>∃(i:Nat) (last:Int),s=(last,(i:Int))/\i<=es.length/\(EvV c.a es↔EvV last (es.drop i))) (fun s=>es.length-s.2.toNat) _ ?_ n _ ⟨0,c.a,rfl,by omega,by simp⟩ (by simp;omega)
    rintro _ go ⟨i,last,rfl,hi,hE⟩ ih
    simp only
    unfold ref16_Valid_2
    by_cases hlt:i<es.length
    ·obtain⟨e,he⟩:=get_lt hlt
     have hc:∀k,cA (ceL es) (i:Int) k=(ceR e).getD k (.int 0):=fun k=>cA_map (by simpa using he)
     have g0:cI (ceL es) i 0=e.k:=by simp only[cI,hc];rfl
     have g1:cI (ceL es) i 1=e.a:=by simp only[cI,hc];rfl
     have g2:cI (ceL es) i 2=e.r:=by simp only[cI,hc];rfl
     have c1:(i:Int)<(es.length:Int):=by omega
     have c2:(0:Int)<=(i:Int):=by omega
     have c4:(-9223372036854775808:Int)<=(i:Int)+1:=by omega
     have c5:(i:Int)+1<=(9223372036854775807:Int):=by omega
     simp only[g0,g1,g2,List.length_map,c1,c2,c4,c5,decide_true,cond_true,Bool.and_self]
     rw[drop_cons he]at hE
     have hgo:CeV last e->go (e.a,(i:Int)+1)=some (decide (EvV c.a es)):=fun hv=>ih _ ⟨i+1,e.a,by simp,by omega,by rw[hE];exact⟨fun h=>h.2,fun h=>⟨hv,h⟩⟩⟩ (by simp only;omega)
     by_cases hv:CeV last e
     ·rw[hgo hv]
      unfold CeV at hv
      grind
     ·have:¬EvV c.a es:=fun h=>hv (hE.1 h).1
      simp only[this,decide_false]
      unfold CeV at hv
      grind
    ·have h0:i=es.length:=by omega
     have c1:¬(i:Int)<(es.length:Int):=by omega
     simp only[List.length_map,c1,decide_false,cond_false]
     subst h0
     rw[List.drop_length]at hE
     have:EvV c.a es:=hE.2 trivial
     simp[this]
   ·have c3:(20:Int)<(es.length:Int):=by omega
    simp only[h1,h2,h3,decide_true,Option.bind_some,Bool.not_true,cond_false,List.length_map,c3,cond_true,true_and,false_and,decide_false]
  ·simp[h1,h2]
 ·simp[h1]
abbrev stT(x:Cs):Int×Int×Int:=(x.s,x.f,x.n)
theorem ref16_status_v(n:Nat) (r:Rl) (hr:RlV r) (s f:Int) (h1:0<=f) (h2:f<=100000000):ref16_status n r.a r.c r.s r.r s f=some (stT (st r s f)):=by
 unfold ref16_status ref16_status_1 stT st dur
 unfold RlV at hr
 grind
theorem ref16_after_v(n:Nat) (s:Int):ref16_after n s=some (aft s):=by
 unfold ref16_after ref16_after_1 aft
 grind
theorem ref16_becomes_v(n:Nat) (c:Cl) (s:Int) (e:Ce):ref16_becomes n c.n c.f c.t c.h c.a c.b s e.k e.a e.r=some (bec c.b s e):=by
 unfold ref16_becomes ref16_becomes_1 bec
 grind
set_option maxRecDepth 100000
theorem last_cell{out:List Cs} {now:Cs} (h:out.getLast?=some now) (k:Nat):cA (csL out) ((out.length:Int)-1) k=(csR now).getD k (.int 0):=by
 refine cA_map ?_
 rw[List.getLast?_eq_getElem?]at h
 rw[show((out.length:Int)-1).toNat=out.length-1 by omega]
 exact h
theorem last_pos{out:List Cs} {now:Cs} (h:out.getLast?=some now):1<=out.length:=by
 cases out with
 |nil=>cases h
 |cons x l=>simp
structure RunI (r:Rl) (c:Cl) (es:List Ce) (u:Int) (out:List Cs) (now:Cs) (i:Nat):Prop where
 le:i<=es.length
 last:out.getLast?=some now
 form:∃s f,now=st r s f/\0<=f/\f<=40000000
 rest:upTo u (timeline r c es)=out++upTo u (tl r c.b now (es.drop i))
 evs:∃l,0<=l/\EvV l (es.drop i)
theorem RunI.len{r:Rl} {c:Cl} {es:List Ce} {u:Int} {out:List Cs} {now:Cs} {i:Nat} (h:RunI r c es u out now i) (hl:es.length<=20):out.length<=110:=by
 have h1:(upTo u (timeline r c es)).length<=(timeline r c es).length:=by unfold upTo;exact List.Sublist.length_le (List.takeWhile_sublist _)
 have h2:=tl_len (r:=r) (b:=c.b) _ (x0 r c) es (Nat.le_refl _)
 have h3:=rk_le (x0 r c).s
 have h4:=congrArg List.length h.rest
 unfold timeline at h1 h4
 simp only[List.length_cons,List.length_append]at h1 h4
 omega
theorem act_n{r:Rl} (hr:RlV r) {s f:Int} (h0:0<=f):0<=(st r s f).n↔act (st r s f):=by
 unfold act
 by_cases h:1<=s/\s<=4
 ·have:=(st_n hr (f:=f) h).1
  exact⟨fun _=>h,fun _=>by omega⟩
 ·simp only[st]
  rw[if_neg h]
  exact⟨fun h'=>by omega,fun h'=>absurd h' h⟩
theorem upTo_stop{u:Int} {l:List Cs} (h:∀x∈l,u<x.f):upTo u l=[]:=by
 cases l with
 |nil=>rfl
 |cons x l=>
  have:=h x (List.mem_cons_self ..)
  unfold upTo
  rw[List.takeWhile_cons]
  simp;omega
theorem upTo_go{u:Int} {x:Cs} {l:List Cs} (h:x.f<=u):upTo u (x::l)=x::upTo u l:=by
 unfold upTo
 rw[List.takeWhile_cons]
 simp[h]
theorem RunI.auto{r:Rl} {c:Cl} {es:List Ce} {u:Int} {out:List Cs} {now:Cs} {i:Nat} (hr:RlV r) (hu:u<=40000000) (h:RunI r c es u out now i) (ha:act now) (h1:∀e,es[i]?=some e->now.n<=e.a) (h2:now.n<=u):
  RunI r c es u (out++[st r (aft now.s) now.n]) (st r (aft now.s) now.n) i:=by
 obtain⟨s,f,hf,f0,f1⟩:=h.form
 have h0:0<=now.n:=by rw[hf];exact(act_n hr f0).2 (hf▸ha)
 refine⟨h.le,by simp,⟨_,_,rfl,h0,by omega⟩,?_,h.evs⟩
 rw[h.rest]
 have:tl r c.b now (es.drop i)=st r (aft now.s) now.n::tl r c.b (st r (aft now.s) now.n) (es.drop i):=by
  cases hd:es.drop i with
  |nil=>exact tl_end ha
  | cons e rest=>
   have he:es[i]?=some e:=by
    have:=congrArg (fun l=>l[0]?) hd
    simpa using this
   exact tl_auto ⟨ha,h1 e he⟩
 rw[this,upTo_go (by exact h2)]
 simp
theorem RunI.done{r:Rl} {c:Cl} {es:List Ce} {u:Int} {out:List Cs} {now:Cs} {i:Nat} (hr:RlV r) (h:RunI r c es u out now i) (h1:act now->u<now.n) (h2:∀e,es[i]?=some e->u<e.a):upTo u (timeline r c es)=out:=by
 rw[h.rest]
 obtain⟨l,l0,hE⟩:=h.evs
 have:upTo u (tl r c.b now (es.drop i))=[]:=by
  refine upTo_stop fun x hx=>?_
  have:=tl_ge hr (b:=c.b) (now:=now) (es:=es.drop i) (m:=u+1) (fun ha=>by have:=h1 ha;omega) (fun e he=>?_) x hx
  ·omega
  ·cases hd:es.drop i with
   |nil=>rw[hd]at he;cases he
   | cons y rest=>
    have hy:es[i]?=some y:=by
     have:=congrArg (fun l=>l[0]?) hd
     simpa using this
    have h3:=h2 y hy
    rw[hd]at he hE
    rcases List.mem_cons.1 he with rfl|he
    ·omega
    ·have:=(evV_ge hE.2 e he).1;omega
 rw[this];simp
theorem RunI.event{r:Rl} {c:Cl} {es:List Ce} {u:Int} {out:List Cs} {now:Cs} {i:Nat} {e:Ce} (h:RunI r c es u out now i) (he:es[i]?=some e) (h1:¬(act now/\now.n<=e.a)) (hb:¬bec c.b now.s e<0) (h2:e.a<=u):
  RunI r c es u (out++[st r (bec c.b now.s e) e.a]) (st r (bec c.b now.s e) e.a) (i+1):=by
 obtain⟨l,l0,hE⟩:=h.evs
 have hd:=drop_cons he
 rw[hd]at hE
 have hlt:=(List.getElem?_eq_some_iff.1 he).1
 refine⟨hlt,by simp,⟨_,_,rfl,by have:=hE.1.2.2.1;omega,by have:=hE.1.2.2.2.1;omega⟩,?_,⟨e.a,by have:=hE.1.2.2.1;omega,hE.2⟩⟩
 rw[h.rest,hd,tl_ev h1 hb,upTo_go (by exact h2)]
 simp
theorem RunI.void{r:Rl} {c:Cl} {es:List Ce} {u:Int} {out:List Cs} {now:Cs} {i:Nat} {e:Ce} (h:RunI r c es u out now i) (he:es[i]?=some e) (h1:¬(act now/\now.n<=e.a)) (hb:bec c.b now.s e<0):RunI r c es u out now (i+1):=by
 obtain⟨l,l0,hE⟩:=h.evs
 have hd:=drop_cons he
 rw[hd]at hE
 have hlt:=(List.getElem?_eq_some_iff.1 he).1
 refine⟨hlt,h.last,h.form,?_,⟨e.a,by have:=hE.1.2.2.1;omega,hE.2⟩⟩
 rw[h.rest,hd,tl_void h1 hb]
theorem run_end{n:Nat} {r:Rl} {c:Cl} {es:List Ce} {u:Int} {out:List Cs} {now:Cs} {i:Nat} {go:ref16_run_s0->Option ref16_run_a} (hr:RlV r) (hu2:u<=40000000) (hlen:es.length<=20) (hI:RunI r c es u out now i) (h0:i=es.length) (hn:rk now.s<n) (vd:Lv) (hv:True):
  ∃q:Lv×Lv,(bif decide ((i:Int)<(es.length:Int))then none else iterF (fun go1 s=>ref16_run_5 n go go1 r.a r.c r.s r.r c.n c.f c.t c.h c.a c.b (ceL es) u vd (i:Int) s.1 s.2.1 s.2.2.2) n (csL out,now.s,now.f,now.n))=some q/\q.1=csL (upTo u (timeline r c es)):=by
 have c7:¬(i:Int)<(es.length:Int):=by omega
 have hnone:∀e,¬es[i]?=some e:=fun e he=>by have:=(List.getElem?_eq_some_iff.1 he).1;omega
 simp only[c7,decide_false,cond_false]
 refine iterF_ex (fun s=>∃(out:List Cs) (now:Cs),s=(csL out,now.s,now.f,now.n)/\RunI r c es u out now i) (fun s=>rk s.2.1) (fun q:Lv×Lv=>q.1=csL (upTo u (timeline r c es))) ?_ n _ ⟨out,now,rfl,hI⟩ hn
 rintro _ go1 ⟨out,now,rfl,hI⟩ ih1
 simp only
 unfold ref16_run_5
 have hol:=hI.len hlen
 obtain⟨s,f,hf,f0,f1⟩:=hI.form
 have hact:=act_n hr (s:=s) f0
 rw[<-hf]at hact
 have c11:((out.length:Int)+1)*24<=140737488355328:=by omega
 have hne:(i:Int)=((ceL es).length:Int):=by simp;omega
 rw[show decide ((i:Int)=((ceL es).length:Int))=true from decide_eq_true hne]
 simp only[List.length_map,c11,decide_true]
 simp only[cond_true,ref16_after_v,Option.bind_some]
 by_cases hn0:0<=now.n
 ·simp only[hn0,decide_true,cond_true]
  by_cases hnm:now.n<=u
  ·simp only[hnm,decide_true,cond_true,ref16_status_v n r hr (aft now.s) now.n hn0 (by omega),Option.bind_some,stT]
   exact ih1 _ ⟨out++[st r (aft now.s) now.n],_,by simp,hI.auto hr hu2 (hact.1 hn0) (fun e' he'=>absurd he' (hnone e')) hnm⟩ (rk_aft (hact.1 hn0))
  ·simp only[hnm,decide_false,cond_false]
   exact⟨_,rfl,by rw[hI.done hr (fun _=>by omega) (fun e' he'=>absurd he' (hnone e'))]⟩
 ·simp only[hn0,decide_false,cond_false]
  exact⟨_,rfl,by rw[hI.done hr (fun h=>absurd (hact.2 h) hn0) (fun e' he'=>absurd he' (hnone e'))]⟩
theorem ref16_run_v(n:Nat) (r:Rl) (c:Cl) (es:List Ce) (u:Int) (h:ClmV r c es) (hn:200<n) (hu1:c.a<=u) (hu2:u<=40000000):
  ∃vd,ref16_run n r.a r.c r.s r.r c.n c.f c.t c.h c.a c.b (ceL es) u=some (csL (upTo u (timeline r c es)),vd):=by
 obtain⟨hr,hcl,hlen,hE⟩:=h
 have ha0:0<=c.a/\c.a<=10000000:=by unfold ClV at hcl;omega
 have main:∃q:Lv×Lv,ref16_run n r.a r.c r.s r.r c.n c.f c.t c.h c.a c.b (ceL es) u=some q/\q.1=csL (upTo u (timeline r c es)):=by
  unfold ref16_run ref16_run_1
  rw[ref16_status_v n r hr 1 c.a (by omega) (by omega)]
  simp only[Option.bind_some]
  refine iterF_ex (fun s=>∃(out:List Cs) (vd:Lv) (i:Nat) (now:Cs),s=(csL out,vd,(i:Int))/\vd.length<=i/\RunI r c es u out now i) (fun s=>es.length+1-s.2.2.toNat) (fun q:Lv×Lv=>q.1=csL (upTo u (timeline r c es))) ?_ n _
   ⟨[x0 r c],[],0,x0 r c,rfl,by simp,by omega,rfl,⟨1,c.a,rfl,by omega,by omega⟩,by unfold timeline;rw[upTo_go (by exact hu1)];simp,⟨c.a,by omega,by simpa using hE⟩⟩ (by simp;omega)
  rintro _ go ⟨out,vd,i,now,rfl,hvd,hI⟩ ih
  simp only
  unfold ref16_run_2 ref16_run_3
  have hpos:=last_pos hI.last
  have hol:=hI.len hlen
  have hle:=hI.le
  have c1:(i:Int)<=(es.length:Int):=by omega
  have c2:(-9223372036854775808:Int)<=(out.length:Int)-1:=by omega
  have c3:(out.length:Int)-1<=(9223372036854775807:Int):=by omega
  have c4:(0:Int)<=(out.length:Int)-1:=by omega
  have c5:(out.length:Int)-1<(out.length:Int):=by omega
  have l0:cI (csL out) ((out.length:Int)-1) 0=now.s:=by simp only[cI,last_cell hI.last];rfl
  have l1:cI (csL out) ((out.length:Int)-1) 1=now.f:=by simp only[cI,last_cell hI.last];rfl
  have l2:cI (csL out) ((out.length:Int)-1) 2=now.n:=by simp only[cI,last_cell hI.last];rfl
  have c6:(0:Int)<=(i:Int):=by omega
  have c8:(-9223372036854775808:Int)<=(i:Int)+1:=by omega
  have c9:(i:Int)+1<=(9223372036854775807:Int):=by omega
  have c10:((vd.length:Int)+1)*8<=140737488355328:=by omega
  simp only[List.length_map,c1,c2,c3,c4,c5,c6,l0,l1,l2,decide_true,cond_true,Bool.and_self]
  have stat:∀(out:List Cs) (now:Cs),RunI r c es u out now i->∃s f,now=st r s f/\0<=f/\f<=40000000:=fun _ _ h=>h.form
  by_cases hlt:i<es.length
  ·as_aux_lemma=>
   have c7:(i:Int)<(es.length:Int):=by omega
   obtain⟨e,he⟩:=get_lt hlt
   have hc:∀k,cA (ceL es) (i:Int) k=(ceR e).getD k (.int 0):=fun k=>cA_map (by simpa using he)
   have g0:cI (ceL es) i 0=e.k:=by simp only[cI,hc];rfl
   have g1:cI (ceL es) i 1=e.a:=by simp only[cI,hc];rfl
   have g2:cI (ceL es) i 2=e.r:=by simp only[cI,hc];rfl
   simp only[c7,decide_true,cond_true]
   refine iterF_ex (fun s=>∃(out:List Cs) (now:Cs),s=(csL out,now.s,now.f,now.n)/\RunI r c es u out now i) (fun s=>rk s.2.1) (fun q:Lv×Lv=>q.1=csL (upTo u (timeline r c es))) ?_ n _ ⟨out,now,rfl,hI⟩ (by have:=rk_le now.s;simp only;omega)
   rintro _ go1 ⟨out,now,rfl,hI⟩ ih1
   simp only
   unfold ref16_run_4
   have hol:=hI.len hlen
   obtain⟨s,f,hf,f0,f1⟩:=hI.form
   have hact:=act_n hr (s:=s) f0
   rw[<-hf]at hact
   have e0:0<=e.a/\e.a<=20000000:=by
    obtain⟨l,l0,hE'⟩:=hI.evs
    rw[drop_cons he]at hE'
    have:=hE'.1.2.2
    omega
   have c11:((out.length:Int)+1)*24<=140737488355328:=by omega
   have hne:¬(i:Int)=(es.length:Int):=by omega
   simp only[g0,g1,g2,List.length_map,c8,c9,c10,c11,hne,decide_true,decide_false,cond_true,cond_false,Bool.and_self,ref16_after_v,ref16_becomes_v,Option.bind_some]
   have tail:¬(act now/\now.n<=imin e.a u)->∃q:Lv×Lv,(bif decide (u<e.a)then some (csL out,vd)else bif decide (bec c.b now.s e<0)then go (csL out,vd++[[AV.int (i:Int)]],(i:Int)+1)else
     (ref16_status n r.a r.c r.s r.r (bec c.b now.s e) e.a).bind fun y23=>go (csL out++[[AV.int y23.1,AV.int y23.2.1,AV.int y23.2.2]],vd,(i:Int)+1))=some q/\q.1=csL (upTo u (timeline r c es)):=fun hna=>by
    by_cases hue:u<e.a
    ·simp only[hue,decide_true,cond_true]
     refine⟨_,rfl,?_⟩
     have hm:imin e.a u=u:=by unfold imin;rw[if_pos hue]
     rw[hm]at hna
     rw[hI.done hr (fun ha=>by have:¬now.n<=u:=fun h=>hna ⟨ha,h⟩;omega) (fun e' he'=>by rw[he]at he';cases he';exact hue)]
    ·have hm:imin e.a u=e.a:=by unfold imin;rw[if_neg hue]
     rw[hm]at hna
     simp only[hue,decide_false,cond_false]
     by_cases hb:bec c.b now.s e<0
     ·simp only[hb,decide_true,cond_true]
      exact ih _ ⟨out,vd++[[AV.int (i:Int)]],i+1,now,by simp,by simp;omega,hI.void he hna hb⟩ (by simp only;omega)
     ·simp only[hb,decide_false,cond_false,ref16_status_v n r hr (bec c.b now.s e) e.a e0.1 (by omega),Option.bind_some,stT]
      exact ih _ ⟨out++[st r (bec c.b now.s e) e.a],vd,i+1,_,by simp,by omega,hI.event he hna hb (by omega)⟩ (by simp only;omega)
   by_cases hn0:0<=now.n
   ·simp only[hn0,decide_true,cond_true]
    by_cases hnm:now.n<=imin e.a u
    ·have hle:now.n<=e.a/\now.n<=u:=by unfold imin at hnm;split at hnm<;>omega
     simp only[hnm,decide_true,cond_true,ref16_status_v n r hr (aft now.s) now.n hn0 (by omega),Option.bind_some,stT]
     exact ih1 _ ⟨out++[st r (aft now.s) now.n],_,by simp,hI.auto hr hu2 (hact.1 hn0) (fun e' he'=>by rw[he]at he';cases he';exact hle.1) hle.2⟩ (rk_aft (hact.1 hn0))
    ·simp only[hnm,decide_false,cond_false]
     exact tail fun h=>hnm h.2
   ·simp only[hn0,decide_false,cond_false]
    exact tail fun h=>hn0 (hact.2 h.1)
  ·have c7:¬(i:Int)<(es.length:Int):=by omega
   have:=run_end (n:=n) (go:=go) hr hu2 hlen hI (by omega) (by have:=rk_le now.s;omega) vd trivial
   simp only[c7,decide_false,cond_false]at this⊢
   exact this
 obtain⟨⟨q1,q2⟩,h1,h2⟩:=main
 exact⟨q2,by rw[h1];simp only at h2;rw[h2]⟩
set_option maxRecDepth 100000
theorem ref16_Outcome_v(n:Nat) (r:Rl) (c:Cl) (es:List Ce) (t:Int) (hn:200<n):ref16_Outcome n r.a r.c r.s r.r c.n c.f c.t c.h c.a c.b (ceL es) t=some ((outR r c es t).1.s,(outR r c es t).1.f,(outR r c es t).1.n,(outR r c es t).2):=by
 unfold ref16_Outcome ref16_Outcome_1 outR OkOut
 rw[ref16_Valid_v n r c es (by omega)]
 by_cases hv:ClmV r c es
 ·simp only[hv,decide_true,Option.bind_some,Bool.not_true,cond_false,true_and]
  by_cases h0:0<=t
  ·by_cases h1:t<=20000000
   ·by_cases h2:t<c.a
    ·simp only[h0,h1,h2,decide_true,Bool.not_true,cond_false,cond_true,and_self,if_true]
     have:upTo t (timeline r c es)=[]:=by
      unfold timeline upTo
      rw[List.takeWhile_cons]
      simp[x0,st];omega
     unfold outV
     rw[this];rfl
    ·obtain⟨vd,hrun⟩:=ref16_run_v n r c es t hv hn (by omega) (by omega)
     simp only[h0,h1,h2,hrun,decide_true,decide_false,Bool.not_true,cond_false,cond_true,and_self,if_true,Option.bind_some]
     unfold outV
     obtain⟨out,hout⟩:∃out,out=upTo t (timeline r c es):=⟨_,rfl⟩
     rw[<-hout]
     have hne:out≠[]:=by
      rw[hout];unfold timeline
      rw[upTo_go (by simp[x0,st];omega)]
      simp
     obtain⟨now,hl⟩:∃now,out.getLast?=some now:=⟨_,List.getLast?_eq_some_getLast hne⟩
     have hpos:=last_pos hl
     have hlen:out.length<=110:=by
      have k1:(upTo t (timeline r c es)).length<=(timeline r c es).length:=by unfold upTo;exact List.Sublist.length_le (List.takeWhile_sublist _)
      have k2:=tl_len (r:=r) (b:=c.b) _ (x0 r c) es (Nat.le_refl _)
      have k3:=rk_le (x0 r c).s
      have k4:=hv.2.2.1
      rw[<-hout]at k1
      unfold timeline at k1
      simp only[List.length_cons]at k1
      omega
     have c2:(-9223372036854775808:Int)<=(out.length:Int)-1:=by omega
     have c3:(out.length:Int)-1<=(9223372036854775807:Int):=by omega
     have c4:(0:Int)<=(out.length:Int)-1:=by omega
     have c5:(out.length:Int)-1<(out.length:Int):=by omega
     have l0:cI (csL out) ((out.length:Int)-1) 0=now.s:=by simp only[cI,last_cell hl];rfl
     have l1:cI (csL out) ((out.length:Int)-1) 1=now.f:=by simp only[cI,last_cell hl];rfl
     have l2:cI (csL out) ((out.length:Int)-1) 2=now.n:=by simp only[cI,last_cell hl];rfl
     simp only[List.length_map,c2,c3,c4,c5,l0,l1,l2,decide_true,Bool.and_self]
     simp only[cond_true,hl,Option.getD_some]
   ·have:¬(0<=t/\t<=20000000):=fun h=>h1 h.2
    simp[h0,h1]
  ·simp[h0]
 ·simp[hv]
def mr(v:Int):Int:=if pk (Int.tdiv v 16) 4=3 then 1+pk v 86400 else 1+pk v 12
theorem mr_bd(v:Int):1<=mr v/\mr v<=86400:=by
 have h1:=pk_bd v (k:=86400) (by decide)
 have h2:=pk_bd v (k:=12) (by decide)
 unfold mr
 split<;>omega
theorem tdiv16{v:Int} (h:In64 v):In64 (Int.tdiv v 16):=by
 unfold In64 at h⊢
 rcases Int.le_total 0 v with h0|h0
 ·rw[Int.tdiv_eq_ediv_of_nonneg h0];omega
 ·obtain⟨w,rfl⟩:∃w,v= -w:=⟨-v,by omega⟩
  rw[Int.neg_tdiv,Int.tdiv_eq_ediv_of_nonneg (by omega)];omega
theorem ref16_MadeRules_v(n:Nat) (a b c d:Int) (ha:In64 a) (hb:In64 b) (hc:In64 c) (hd:In64 d):ref16_MadeRules n a b c d=some (mr a,mr b,mr c,mr d):=by
 have key:∀v,(0<=pk v 12/\pk v 12<12)/\0<=pk v 86400/\pk v 86400<86400:=fun v=>⟨pk_bd v (by decide),pk_bd v (by decide)⟩
 have ta:=tdiv16 ha
 have tb:=tdiv16 hb
 have tc:=tdiv16 hc
 have td:=tdiv16 hd
 unfold ref16_MadeRules ref16_MadeRules_1 ref16_MadeRules_2 mr
 have p4:(0:Int)<4:=by decide
 have p12:(0:Int)<12:=by decide
 have pd:(0:Int)<86400:=by decide
 simp only[ref16_pick_v n ha p12,ref16_pick_v n hb p12,ref16_pick_v n hc p12,ref16_pick_v n hd p12,ref16_pick_v n ha pd,ref16_pick_v n hb pd,ref16_pick_v n hc pd,ref16_pick_v n hd pd,
  ref16_pick_v n ta p4,ref16_pick_v n tb p4,ref16_pick_v n tc p4,ref16_pick_v n td p4,Option.bind_some]
 have ka:=key a
 have kb:=key b
 have kc:=key c
 have kd:=key d
 unfold In64 at ta tb tc td
 generalize pk (Int.tdiv a 16) 4=x1
 generalize pk (Int.tdiv b 16) 4=x2
 generalize pk (Int.tdiv c 16) 4=x3
 generalize pk (Int.tdiv d 16) 4=x4
 generalize Int.tdiv a 16=y1 at *
 generalize Int.tdiv b 16=y2 at *
 generalize Int.tdiv c 16=y3 at *
 generalize Int.tdiv d 16=y4 at *
 generalize pk a 12=a1 at *
 generalize pk b 12=b1 at *
 generalize pk c 12=c1 at *
 generalize pk d 12=d1 at *
 generalize pk a 86400=a2 at *
 generalize pk b 86400=b2 at *
 generalize pk c 86400=c2 at *
 generalize pk d 86400=d2 at *
 have r1:∀z:Int,0<=z->z<86400->(decide ((-9223372036854775808:Int)<=1+z)&&decide (1+z<=9223372036854775807))=true:=fun z h1 h2=>by simp;omega
 simp only[r1 a1 ka.1.1 (by omega),r1 b1 kb.1.1 (by omega),r1 c1 kc.1.1 (by omega),r1 d1 kd.1.1 (by omega),r1 a2 ka.2.1 (by omega),r1 b2 kb.2.1 (by omega),r1 c2 kc.2.1 (by omega),r1 d2 kd.2.1 (by omega),ta,tb,tc,td,decide_true,Bool.and_self]
 simp only[cond_true]
 by_cases h1:x1=3<;>by_cases h2:x2=3<;>by_cases h3:x3=3<;>by_cases h4:x4=3<;>simp only[h1,h2,h3,h4,decide_true,decide_false,if_true,if_false]<;>rfl
end Go.Proofs.YtgckmifmjiklmaaGreat
set_option maxRecDepth 100000
namespace Go.Proofs.YtgckmifmjiklmaaGreat
open Go Go.Sx Go.Dial.Lif
end Go.Proofs.YtgckmifmjiklmaaGreat
set_option maxRecDepth 100000
namespace Go.Proofs.YtgckmifmjiklmaaGreat
open Go Go.Sx Go.Dial.Clm
theorem tdiv4{v:Int} (h:In64 v):In64 (Int.tdiv v 4):=by
 unfold In64 at h⊢
 rcases Int.le_total 0 v with h0|h0
 ·rw[Int.tdiv_eq_ediv_of_nonneg h0];omega
 ·obtain⟨w,rfl⟩:∃w,v= -w:=⟨-v,by omega⟩
  rw[Int.neg_tdiv,Int.tdiv_eq_ediv_of_nonneg (by omega)];omega
theorem evV_snoc{l:Int} {es:List Ce} {e:Ce}:EvV l (es++[e])↔EvV l es/\CeV ((es.getLast?.map (·.a)).getD l) e:=by
 induction es generalizing l with
 |nil=>simp[EvV]
 | cons x es ih=>
  simp only[List.cons_append,EvV,ih,and_assoc]
  cases es with
  |nil=>simp
  | cons y es=>
   have:((y::es).getLast?.map (·.a)).getD x.a=((x::y::es).getLast?.map (·.a)).getD l:=by
    rw[List.getLast?_cons_cons]
    cases h:(y::es).getLast? with
    |none=>simp at h
    |some z=>rfl
   rw[this]
theorem out_n{r:Rl} (hr:r.a<=86400/\r.c<=86400/\r.s<=86400/\r.r<=86400) {c:Cl} {es:List Ce} {t:Int} (h0:c.a<=t) (ht:0<=t):(outV r c es t).n<=t+86400:=by
 have hd:∀s,dur r s<=86400:=fun s=>by unfold dur;split;omega;split;omega;split<;>omega
 have hst:∀s f,f<=t->0<=t->(st r s f).n<=t+86400:=fun s f hf ht=>by
  simp only[st];split
  ·have:=hd s;omega
  ·omega
 have hall:∀x∈timeline r c es,∃s f,x=st r s f:=by
  intro x hx
  unfold timeline at hx
  rcases List.mem_cons.1 hx with rfl|hx
  ·exact⟨_,_,rfl⟩
  ·exact tl_all (r:=r) (b:=c.b) (fun x=>∃s f,x=st r s f) (fun _ _=>True) (fun _ _ _ _ _ _=>⟨⟨_,_,rfl⟩,trivial⟩) (fun _ _ _ _ _ _=>trivial) (fun _ _ _ _ _ _=>⟨⟨_,_,rfl⟩,trivial⟩) (fun _ _ _=>⟨⟨_,_,rfl⟩,trivial⟩) _ _ _ (Nat.le_refl _) trivial x hx
 unfold outV
 cases hl:(upTo t (timeline r c es)).getLast? with
 |none=>simp only[Option.getD_none];omega
 | some x=>
  have hm:=List.mem_of_getLast? hl
  have h1:x.f<=t:=by
   unfold upTo at hm
   have:=List.all_eq_true.1 List.all_takeWhile x hm
   simpa using this
  have h2:x∈timeline r c es:=by unfold upTo at hm;exact(List.takeWhile_sublist _).subset hm
  obtain⟨s,f,rfl⟩:=hall x h2
  simp only[Option.getD_some]
  have:f<=t:=h1
  simp only[st];split
  ·have:=hd s;omega
  ·omega
def mrR(a b c d:Int):Rl:=⟨mr a,mr b,mr c,mr d⟩
theorem mrR_small(a b c d:Int):(mrR a b c d).a<=86400/\(mrR a b c d).c<=86400/\(mrR a b c d).s<=86400/\(mrR a b c d).r<=86400:=by
 have:=mr_bd a;have:=mr_bd b;have:=mr_bd c;have:=mr_bd d
 unfold mrR;simp only;omega
theorem mrR_v(a b c d:Int):RlV (mrR a b c d):=by
 have:=mr_bd a;have:=mr_bd b;have:=mr_bd c;have:=mr_bd d
 unfold RlV mrR;simp only;omega
theorem ref16_Made_v(n:Nat) (a b c d e0 e1 e2 e3 e4 e5:Int) (xs:List (Int×Int×Int)) (ha:In64 a) (hb:In64 b) (hc:In64 c) (hd:In64 d) (h0:In64 e0) (h1:In64 e1) (h2:In64 e2) (h3:In64 e3) (h4:In64 e4) (h5:In64 e5)
  (hx:∀x∈xs,In64 x.1/\In64 x.2.1/\In64 x.2.2) (hn:200<n):
  ∃(C:Cl) (es:List Ce),ref16_Made n a b c d e0 e1 e2 e3 e4 e5 (xs.map triR)=some (mr a,mr b,mr c,mr d,C.n,C.f,C.t,C.h,C.a,C.b,ceL es)/\ClmV (mrR a b c d) C es/\C.a<1000/\es.length<=10/\∀e∈es,e.a<=900000:=by
 obtain⟨y4,hy4⟩:∃y,y=pk e0 100000000:=⟨_,rfl⟩
 obtain⟨y5,hy5⟩:∃y,y=pk e1 8:=⟨_,rfl⟩
 obtain⟨y7,hy7⟩:∃y,y=pk e3 64:=⟨_,rfl⟩
 obtain⟨y8,hy8⟩:∃y,y=pk e4 1000:=⟨_,rfl⟩
 obtain⟨y9,hy9⟩:∃y,y=pk e5 2:=⟨_,rfl⟩
 obtain⟨y6,hy6⟩:∃y,y=pk e2 7:=⟨_,rfl⟩
 have b4:=pk_bd e0 (k:=100000000) (by decide)
 have b5:=pk_bd e1 (k:=8) (by decide)
 have b7:=pk_bd e3 (k:=64) (by decide)
 have b8:=pk_bd e4 (k:=1000) (by decide)
 have b6:=pk_bd e2 (k:=7) (by decide)
 rw[<-hy4]at b4;rw[<-hy5]at b5;rw[<-hy7]at b7;rw[<-hy8]at b8;rw[<-hy6]at b6
 obtain⟨C,hC⟩:∃C:Cl,C=⟨y4,y5,Int.tmod ((y5+1)+y6) 8,y7,y8,decide (y9=0)⟩:=⟨_,rfl⟩
 have hT:Int.tmod ((y5+1)+y6) 8=((y5+1)+y6) % 8:=Int.tmod_eq_emod_of_nonneg (by omega)
 have hCV:ClV C:=by rw[hC];unfold ClV;simp only[hT];omega
 have hCa:C.a=y8:=by rw[hC]
 have main:∃q:ref16_Made_a,ref16_Made n a b c d e0 e1 e2 e3 e4 e5 (xs.map triR)=some q/\∃es,q=(mr a,mr b,mr c,mr d,C.n,C.f,C.t,C.h,C.a,C.b,ceL es)/\EvV C.a es/\es.length<=10/\∀e∈es,e.a<=900000:=by
  unfold ref16_Made ref16_Made_1
  have n1:(-9223372036854775808:Int)<=y5+1:=by omega
  have n2:y5+1<=(9223372036854775807:Int):=by omega
  have n3:(-9223372036854775808:Int)<=y5+1+y6:=by omega
  have n4:y5+1+y6<=(9223372036854775807:Int):=by omega
  simp only[ref16_MadeRules_v n a b c d ha hb hc hd,ref16_pick_v n h0 (show(0:Int)<100000000 by decide),ref16_pick_v n h1 (show(0:Int)<8 by decide),ref16_pick_v n h3 (show(0:Int)<64 by decide),ref16_pick_v n h4 (show(0:Int)<1000 by decide),ref16_pick_v n h5 (show(0:Int)<2 by decide),ref16_pick_v n h2 (show(0:Int)<7 by decide),Option.bind_some,<-hy4,<-hy5,<-hy6,<-hy7,<-hy8,<-hy9,n1,n2,n3,n4,decide_true,Bool.and_self]
  simp only[cond_true]
  refine iterF_ex (fun s=>∃(es:List Ce) (last:Int) (i:Nat),s=(ceL es,last,(i:Int))/\es.length=i/\i<=10/\EvV C.a es/\last=(es.getLast?.map (·.a)).getD C.a/\C.a<=last/\last<=1000+86402*i/\∀e∈es,e.a<=900000) (fun s=>10-s.2.2.toNat) (fun q=>∃es,q=(mr a,mr b,mr c,mr d,C.n,C.f,C.t,C.h,C.a,C.b,ceL es)/\EvV C.a es/\es.length<=10/\∀e∈es,e.a<=900000) ?_ n _
   ⟨[],y8,0,rfl,rfl,by omega,trivial,by rw[hCa];rfl,by omega,by omega,fun e he=>by cases he⟩ (by simp;omega)
  rintro _ go ⟨es,last,i,rfl,hl,hi,hE,hlast,hl0,hl1,hea⟩ ih
  simp only
  unfold ref16_Made_2 ref16_Made_3
  have done:∃q:ref16_Made_a,some (mr a,mr b,mr c,mr d,y4,y5,Int.tmod ((y5+1)+y6) 8,y7,y8,decide (y9=0),ceL es)=some q/\∃es,q=(mr a,mr b,mr c,mr d,C.n,C.f,C.t,C.h,C.a,C.b,ceL es)/\EvV C.a es/\es.length<=10/\∀e∈es,e.a<=900000:=
   ⟨_,rfl,es,by rw[hC],hE,by omega,hea⟩
  by_cases g1:i<xs.length
  ·have c1:(i:Int)<(xs.length:Int):=by omega
   by_cases g2:i<10
   ·obtain⟨x,hxe⟩:=get_lt g1
    have hcell:∀k,cA (xs.map triR) (i:Int) k=(triR x).getD k (.int 0):=fun k=>cA_map (by simpa using hxe)
    have z0:cI (xs.map triR) i 0=x.1:=by simp only[cI,hcell];rfl
    have z1:cI (xs.map triR) i 1=x.2.1:=by simp only[cI,hcell];rfl
    have z2:cI (xs.map triR) i 2=x.2.2:=by simp only[cI,hcell];rfl
    obtain⟨q1,q2,q3⟩:=hx x (List.mem_of_getElem? hxe)
    have q4:=tdiv4 q2
    obtain⟨w0,hw0⟩:∃y,y=pk x.1 6:=⟨_,rfl⟩
    obtain⟨w1,hw1⟩:∃y,y=pk x.2.1 4:=⟨_,rfl⟩
    obtain⟨w2,hw2⟩:∃y,y=pk x.2.1 3:=⟨_,rfl⟩
    obtain⟨w3,hw3⟩:∃y,y=pk x.2.2 4:=⟨_,rfl⟩
    obtain⟨w4,hw4⟩:∃y,y=pk (Int.tdiv x.2.1 4) 3:=⟨_,rfl⟩
    have v0:=pk_bd x.1 (k:=6) (by decide)
    have v1:=pk_bd x.2.1 (k:=4) (by decide)
    have v2:=pk_bd x.2.1 (k:=3) (by decide)
    have v3:=pk_bd x.2.2 (k:=4) (by decide)
    rw[<-hw0]at v0;rw[<-hw1]at v1;rw[<-hw2]at v2;rw[<-hw3]at v3
    have hout:=ref16_Outcome_v n (mrR a b c d) C es last hn
    have hOk:OkOut (mrR a b c d) C es last:=⟨⟨mrR_v a b c d,hCV,by omega,hE⟩,by omega,by omega⟩
    have hN:=out_n (mrR_small a b c d) (c:=C) (es:=es) hl0 (by omega)
    unfold outR at hout
    rw[if_pos hOk]at hout
    obtain⟨O,hO⟩:∃O,O=outV (mrR a b c d) C es last:=⟨_,rfl⟩
    rw[<-hO]at hout hN
    rw[hC]at hout
    simp only[mrR]at hout
    have c2:(i:Int)<10:=by omega
    have c3:(0:Int)<=(i:Int):=by omega
    have c4:(-9223372036854775808:Int)<=1+w0:=by omega
    have c5:1+w0<=(9223372036854775807:Int):=by omega
    have c6:(-9223372036854775808:Int)<=last+w1:=by omega
    have c7:last+w1<=(9223372036854775807:Int):=by omega
    have c8:(-9223372036854775808:Int)<=(i:Int)+1:=by omega
    have c9:(i:Int)+1<=(9223372036854775807:Int):=by omega
    have c10:(-9223372036854775808:Int)<=1+w3:=by omega
    have c11:1+w3<=(9223372036854775807:Int):=by omega
    have c12:((es.length:Int)+1)*24<=140737488355328:=by omega
    have hgo:∀A rr:Int,last<=A->A<=last+86402->(1+w0=2\/1+w0=6->1<=rr/\rr<=9)->(¬(1+w0=2\/1+w0=6)->rr=0)->∃q,go (ceL es++[[AV.int (1+w0),AV.int A,AV.int rr]],A,(i:Int)+1)=some q/\∃es,q=(mr a,mr b,mr c,mr d,C.n,C.f,C.t,C.h,C.a,C.b,ceL es)/\EvV C.a es/\es.length<=10/\∀e∈es,e.a<=900000:=fun A rr k1 k2 k3 k4=>
     ih _ ⟨es++[⟨1+w0,A,rr⟩],A,i+1,by simp,by simp;omega,by omega,by rw[evV_snoc,<-hlast];exact⟨hE,⟨by simp only;omega,by simp only;omega,k1,by simp only;omega,k3,k4⟩⟩,by simp,by omega,by omega,fun e he=>by
      rcases List.mem_append.1 he with he|he
      ·exact hea e he
      ·rw[List.mem_singleton.1 he];simp only;omega⟩ (by simp only;omega)
    unfold ref16_Made_4
    simp only[z0,z1,z2,List.length_map,c1,c2,c3,ref16_pick_v n q1 (show(0:Int)<6 by decide),ref16_pick_v n q2 (show(0:Int)<4 by decide),ref16_pick_v n q2 (show(0:Int)<3 by decide),ref16_pick_v n q3 (show(0:Int)<4 by decide),ref16_pick_v n q4 (show(0:Int)<3 by decide),<-hw0,<-hw1,<-hw2,<-hw3,<-hw4,Option.bind_some,c4,c5,c6,c7,c8,c9,c10,c11,c12,hout,decide_true,Bool.and_self]
    simp only[cond_true]
    unfold In64 at q4
    by_cases k0:0<O.n
    ·have c13:(-9223372036854775808:Int)<=O.n-1:=by omega
     have c14:O.n-1<=(9223372036854775807:Int):=by omega
     have c15:(-9223372036854775808:Int)<=O.n-1+w2:=by omega
     have c16:O.n-1+w2<=(9223372036854775807:Int):=by omega
     have m1:last<=imax last (O.n-1+w2):=by unfold imax;split<;>omega
     have m2:imax last (O.n-1+w2)<=last+86402:=by unfold imax;split<;>omega
     simp only[k0,q4.1,q4.2,c13,c14,c15,c16,decide_true,Bool.and_self]
     simp only[cond_true]
     by_cases k1:0<w4<;>by_cases k2:1+w0=2<;>by_cases k3:1+w0=6<;>simp only[k1,k2,k3,decide_true,decide_false]<;>simp only[cond_true,cond_false] <;>
      (try rw[k2]at hgo)<;>(try rw[k3]at hgo)<;>first|exact hgo _ _ m1 m2 (fun _=>by omega) (fun h=>by omega)|exact hgo _ _ (by omega) (by omega) (fun _=>by omega) (fun h=>by omega)
    ·by_cases k2:1+w0=2<;>by_cases k3:1+w0=6<;>simp only[k0,k2,k3,decide_true,decide_false]<;>simp only[cond_true,cond_false] <;>
      (try rw[k2]at hgo)<;>(try rw[k3]at hgo)<;>exact hgo _ _ (by omega) (by omega) (fun _=>by omega) (fun h=>by omega)
   ·have c2:¬(i:Int)<10:=by omega
    simp only[List.length_map,c1,c2,decide_true,decide_false]
    simp only[cond_true,cond_false]
    exact done
  ·have c1:¬(i:Int)<(xs.length:Int):=by omega
   simp only[List.length_map,c1,decide_false]
   simp only[cond_false]
   exact done
 obtain⟨q,g1,es,rfl,g2,g3,g4⟩:=main
 exact⟨C,es,g1,⟨mrR_v a b c d,hCV,by omega,g2⟩,by omega,g3,g4⟩
set_option maxRecDepth 100000
theorem claim_isClaim_v(n:Nat) (c:Cl):claim_isClaim n c.n c.f c.t c.h c.a c.b=some (decide (ClV c)):=by
 by_cases h:ClV c<;>simp only[h,decide_true,decide_false]<;>unfold ClV at h<;>unfold claim_isClaim claim_isClaim_1<;>grind
def ruleAt(r:Rl) (i:Nat):Int:=if i=0 then r.a else if i=1 then r.s else if i=2 then r.c else r.r
theorem rule_cell(r:Rl) {i:Nat} (h:i<4):cI ((((([]:Lv)++[[(AV.int r.a)]])++[[(AV.int r.s)]])++[[(AV.int r.c)]])++[[(AV.int r.r)]]) (i:Int) 0=ruleAt r i:=by
 match i,h with
 |0,_=>rfl
 |1,_=>rfl
 |2,_=>rfl
 |3,_=>rfl
theorem rules_all{r:Rl}:RlV r↔∀i,i<4->1<=ruleAt r i/\ruleAt r i<=1000000:=by
 constructor
 ·intro h i hi
  unfold RlV at h
  unfold ruleAt
  split;omega;split;omega;split<;>omega
 ·intro h
  have h0:=h 0 (by omega)
  have h1:=h 1 (by omega)
  have h2:=h 2 (by omega)
  have h3:=h 3 (by omega)
  simp[ruleAt]at h0 h1 h2 h3
  unfold RlV
  omega
theorem claim_Ends_v(n:Nat) (r:Rl) (c:Cl) (hn:10<n):claim_Ends n r.a r.c r.s r.r c.n c.f c.t c.h c.a c.b=some (if RlV r/\ClV c then(endsV r c,0)else(0,160)):=by
 unfold claim_Ends claim_Ends_1
 refine iterF_ind (fun s=>∃i:Nat,s=(i:Int)/\i<=4/\∀j,j<i->1<=ruleAt r j/\ruleAt r j<=1000000) (fun s=>4-s.toNat) _ ?_ n _ ⟨0,rfl,by omega,fun j hj=>by omega⟩ (by simp;omega)
 rintro _ go ⟨i,rfl,hi,hj⟩ ih
 unfold claim_Ends_2
 have c2:(0:Int)<=(i:Int):=by omega
 have c8:(-9223372036854775808:Int)<=(i:Int)+1:=by omega
 have c9:(i:Int)+1<=(9223372036854775807:Int):=by omega
 by_cases h4:i<4
 ·have c1:(i:Int)<4:=by omega
  simp only[c1,c2,c8,c9,rule_cell r h4,decide_true,Bool.and_self]
  simp only[cond_true]
  by_cases k1:1<=ruleAt r i
  ·by_cases k2:ruleAt r i<=1000000
   ·simp only[k1,k2,decide_true,Bool.not_true]
    simp only[cond_true,cond_false]
    exact ih _ ⟨i+1,by simp,by omega,fun j hj'=>by
     rcases Nat.lt_or_ge j i with h|h
     ·exact hj j h
     ·have:j=i:=by omega
      subst this;exact⟨k1,k2⟩⟩ (by simp;omega)
   ·have:¬(RlV r/\ClV c):=fun h=>k2 (rules_all.1 h.1 i h4).2
    simp[k1,k2,this]
  ·have:¬(RlV r/\ClV c):=fun h=>k1 (rules_all.1 h.1 i h4).1
   simp[k1,this]
 ·have hr:RlV r:=rules_all.2 fun j hj'=>hj j (by omega)
  have c1:¬(i:Int)<4:=by omega
  rw[claim_isClaim_v]
  by_cases hc:ClV c
  ·simp only[c1,hr,hc,decide_true,decide_false,Option.bind_some,Bool.not_true,and_self,if_true]
   simp only[cond_false]
   unfold endsV
   unfold RlV at hr
   unfold ClV at hc
   have n1:(-9223372036854775808:Int)<=c.a+r.a/\c.a+r.a<=9223372036854775807:=by omega
   have n2:(-9223372036854775808:Int)<=c.a+r.a-1/\c.a+r.a-1<=9223372036854775807:=by omega
   have n3:(-9223372036854775808:Int)<=c.a+r.a-1+r.s/\c.a+r.a-1+r.s<=9223372036854775807:=by omega
   have n4:(-9223372036854775808:Int)<=c.a+r.a-1+r.s+r.c/\c.a+r.a-1+r.s+r.c<=9223372036854775807:=by omega
   have n5:(-9223372036854775808:Int)<=c.a+r.a-1+r.s+r.c+r.r/\c.a+r.a-1+r.s+r.c+r.r<=9223372036854775807:=by omega
   simp only[n1,n2,n3,n4,n5,decide_true,Bool.and_self]
   simp only[cond_true]
  ·simp[c1,hc]
theorem claim_Valid_v(n:Nat) (r:Rl) (c:Cl) (es:List Ce) (hn:25<n):claim_Valid n r.a r.c r.s r.r c.n c.f c.t c.h c.a c.b (ceL es)=some (decide (ClmV r c es)):=by
 unfold claim_Valid claim_Valid_1
 refine iterF_ind (fun s=>∃i:Nat,s=(i:Int)/\i<=4/\∀j,j<i->1<=ruleAt r j/\ruleAt r j<=1000000) (fun s=>4-s.toNat) _ ?_ n _ ⟨0,rfl,by omega,fun j hj=>by omega⟩ (by simp;omega)
 rintro _ go ⟨i,rfl,hi,hj⟩ ih
 unfold claim_Valid_2
 have c2:(0:Int)<=(i:Int):=by omega
 have c8:(-9223372036854775808:Int)<=(i:Int)+1:=by omega
 have c9:(i:Int)+1<=(9223372036854775807:Int):=by omega
 by_cases h4:i<4
 ·have c1:(i:Int)<4:=by omega
  simp only[c1,c2,c8,c9,rule_cell r h4,decide_true,Bool.and_self]
  simp only[cond_true]
  by_cases k1:1<=ruleAt r i
  ·by_cases k2:ruleAt r i<=1000000
   ·simp only[k1,k2,decide_true,Bool.not_true]
    simp only[cond_true,cond_false]
    exact ih _ ⟨i+1,by simp,by omega,fun j hj'=>by
     rcases Nat.lt_or_ge j i with h|h
     ·exact hj j h
     ·have:j=i:=by omega
      subst this;exact⟨k1,k2⟩⟩ (by simp;omega)
   ·have:¬ClmV r c es:=fun h=>k2 (rules_all.1 h.1 i h4).2
    simp[k1,k2,this]
  ·have:¬ClmV r c es:=fun h=>k1 (rules_all.1 h.1 i h4).1
   simp[k1,this]
 ·have hr:RlV r:=rules_all.2 fun j hj'=>hj j (by omega)
  have c1:¬(i:Int)<4:=by omega
  clear ih
  rw[claim_isClaim_v]
  unfold ClmV
  by_cases h2:ClV c
  ·by_cases h3:es.length<=20
   ·have c3:¬(20:Int)<(es.length:Int):=by omega
    simp only[c1,hr,h2,h3,decide_true,decide_false,Option.bind_some,Bool.not_true,List.length_map,c3,true_and]
    simp only[cond_false]
    refine iterF_ind (fun s=>∃(i:Nat) (last:Int),s=((i:Int),last)/\i<=es.length/\(EvV c.a es↔EvV last (es.drop i))) (fun s=>es.length-s.1.toNat) _ ?_ n _ ⟨0,c.a,rfl,by omega,by simp⟩ (by simp;omega)
    rintro _ go ⟨i,last,rfl,hi,hE⟩ ih
    simp only
    unfold claim_Valid_3
    by_cases hlt:i<es.length
    ·obtain⟨e,he⟩:=get_lt hlt
     have hc:∀k,cA (ceL es) (i:Int) k=(ceR e).getD k (.int 0):=fun k=>cA_map (by simpa using he)
     have g0:cI (ceL es) i 0=e.k:=by simp only[cI,hc];rfl
     have g1:cI (ceL es) i 1=e.a:=by simp only[cI,hc];rfl
     have g2:cI (ceL es) i 2=e.r:=by simp only[cI,hc];rfl
     have c1:(i:Int)<(es.length:Int):=by omega
     have c2:(0:Int)<=(i:Int):=by omega
     have c4:(-9223372036854775808:Int)<=(i:Int)+1:=by omega
     have c5:(i:Int)+1<=(9223372036854775807:Int):=by omega
     simp only[g0,g1,g2,List.length_map,c1,c2,c4,c5,decide_true,Bool.and_self,Bool.not_true]
     simp only[cond_true]
     rw[drop_cons he]at hE
     have hgo:CeV last e->go ((i:Int)+1,e.a)=some (decide (EvV c.a es)):=fun hv=>ih _ ⟨i+1,e.a,by simp,by omega,by rw[hE];exact⟨fun h=>h.2,fun h=>⟨hv,h⟩⟩⟩ (by simp only;omega)
     by_cases hv:CeV last e
     ·rw[hgo hv]
      unfold CeV at hv
      grind
     ·have:¬EvV c.a es:=fun h=>hv (hE.1 h).1
      simp only[this,decide_false]
      unfold CeV at hv
      grind
    ·have h0:i=es.length:=by omega
     have c1:¬(i:Int)<(es.length:Int):=by omega
     simp only[List.length_map,c1,decide_false]
     simp only[cond_false]
     subst h0
     rw[List.drop_length]at hE
     have:EvV c.a es:=hE.2 trivial
     simp[this]
   ·have c3:(20:Int)<(es.length:Int):=by omega
    simp only[c1,h2,h3,decide_true,decide_false,Option.bind_some,Bool.not_true,List.length_map,c3,false_and,and_false]
    simp only[cond_true,cond_false]
  ·simp[c1,h2]
set_option maxRecDepth 100000
theorem timeline_le{r:Rl} {c:Cl} {es:List Ce} (h:ClmV r c es):∀x∈timeline r c es,x.f<=23000000:=by
 obtain⟨hr,hc,hl,hE⟩:=h
 unfold ClV at hc
 intro x hx
 unfold timeline at hx
 have h0:(x0 r c).f=c.a:=rfl
 rcases List.mem_cons.1 hx with rfl|hx
 ·omega
 ·exact tl_le hr (b:=c.b) (now:=x0 r c) (es:=es) (by rw[h0];have:=rk_le (x0 r c).s;omega) (fun _=>(st_n hr (s:=1) (f:=c.a) (by omega)).2) (fun e he=>(evV_ge hE e he).2) x hx
theorem timeline_ge{r:Rl} {c:Cl} {es:List Ce} (h:ClmV r c es):∀x∈timeline r c es,c.a<=x.f:=by
 obtain⟨hr,hc,hl,hE⟩:=h
 intro x hx
 unfold timeline at hx
 rcases List.mem_cons.1 hx with rfl|hx
 ·exact Int.le_refl _
 ·exact tl_ge hr (b:=c.b) (now:=x0 r c) (es:=es) (fun ha=>by have:=(st_n hr (s:=1) (f:=c.a) (by omega)).1;unfold x0;omega) (fun e he=>(evV_ge hE e he).1) x hx
theorem timeline_st{r:Rl} {c:Cl} {es:List Ce}:∀x∈timeline r c es,∃s f,x=st r s f:=by
 intro x hx
 unfold timeline at hx
 rcases List.mem_cons.1 hx with rfl|hx
 ·exact⟨_,_,rfl⟩
 ·exact tl_all (r:=r) (b:=c.b) (fun x=>∃s f,x=st r s f) (fun _ _=>True) (fun _ _ _ _ _ _=>⟨⟨_,_,rfl⟩,trivial⟩) (fun _ _ _ _ _ _=>trivial) (fun _ _ _ _ _ _=>⟨⟨_,_,rfl⟩,trivial⟩) (fun _ _ _=>⟨⟨_,_,rfl⟩,trivial⟩) _ _ _ (Nat.le_refl _) trivial x hx
theorem timeline_len{r:Rl} {c:Cl} {es:List Ce} (hl:es.length<=20):(timeline r c es).length<=110:=by
 have h2:=tl_len (r:=r) (b:=c.b) _ (x0 r c) es (Nat.le_refl _)
 have h3:=rk_le (x0 r c).s
 unfold timeline
 simp only[List.length_cons]
 omega
structure RunJ (r:Rl) (c:Cl) (es:List Ce) (out:List Cs) (now:Cs) (i:Nat):Prop where
 le:i<=es.length
 last:out.getLast?=some now
 rest:timeline r c es=out++tl r c.b now (es.drop i)
section
variable {r:Rl} {c:Cl} {es:List Ce} {out:List Cs} {now:Cs} {i:Nat}
theorem RunJ.mem(h:RunJ r c es out now i):now∈timeline r c es:=by
 rw[h.rest];exact List.mem_append_left _ (List.mem_of_getLast? h.last)
theorem RunJ.len(h:RunJ r c es out now i) (hl:es.length<=20):out.length<=110:=by
 have h1:=timeline_len (r:=r) (c:=c) hl
 rw[h.rest,List.length_append]at h1
 omega
theorem RunJ.auto(h:RunJ r c es out now i) (ha:act now) (h1:∀e,es[i]?=some e->now.n<=e.a):RunJ r c es (out++[st r (aft now.s) now.n]) (st r (aft now.s) now.n) i:=by
 refine⟨h.le,by simp,?_⟩
 rw[h.rest]
 have:tl r c.b now (es.drop i)=st r (aft now.s) now.n::tl r c.b (st r (aft now.s) now.n) (es.drop i):=by
  cases hd:es.drop i with
  |nil=>exact tl_end ha
  | cons e rest=>
   have he:es[i]?=some e:=by
    have:=congrArg (fun l=>l[0]?) hd
    simpa using this
   exact tl_auto ⟨ha,h1 e he⟩
 rw[this]
 simp
theorem RunJ.event{e:Ce} (h:RunJ r c es out now i) (he:es[i]?=some e) (h1:¬(act now/\now.n<=e.a)) (hb:¬bec c.b now.s e<0):RunJ r c es (out++[st r (bec c.b now.s e) e.a]) (st r (bec c.b now.s e) e.a) (i+1):=by
 refine⟨(List.getElem?_eq_some_iff.1 he).1,by simp,?_⟩
 rw[h.rest,drop_cons he,tl_ev h1 hb]
 simp
theorem RunJ.void{e:Ce} (h:RunJ r c es out now i) (he:es[i]?=some e) (h1:¬(act now/\now.n<=e.a)) (hb:bec c.b now.s e<0):RunJ r c es out now (i+1):=
 ⟨(List.getElem?_eq_some_iff.1 he).1,h.last,by rw[h.rest,drop_cons he,tl_void h1 hb]⟩
theorem RunJ.done(h:RunJ r c es out now i) (h0:i=es.length) (h1:¬act now):timeline r c es=out:=by
 rw[h.rest,h0,List.drop_length,tl_nil h1];simp
end
theorem tl_event(n:Nat) (go0:claim_Timeline_s0->Option claim_Timeline_a) (go1:claim_Timeline_s1->Option claim_Timeline_a) (r:Rl) (hr:RlV r) (b:Bool) (es:List Ce) (i:Nat) (e:Ce) (he:es[i]?=some e) (vd:Lv) (out:List Cs) (s f m l:Int)
  (hce:CeV l e) (hl:0<=l) (h1:vd.length<=20) (h2:out.length<=110) (h3:i<=20):
  claim_Timeline_6 n go0 go1 r.c r.s b (ceL es) (i:Int) vd (csL out) s f m=if bec b s e<0 then go0 ((i:Int)+1,vd++[[AV.int (i:Int)]],csL out,s,f,m)else go0 ((i:Int)+1,vd,csL out++[csR (st r (bec b s e) e.a)],(st r (bec b s e) e.a).s,(st r (bec b s e) e.a).f,(st r (bec b s e) e.a).n):=by
 have hc:∀k,cA (ceL es) (i:Int) k=(ceR e).getD k (.int 0):=fun k=>cA_map (by simpa using he)
 have g0:cI (ceL es) i 0=e.k:=by simp only[cI,hc];rfl
 have g1:cI (ceL es) i 1=e.a:=by simp only[cI,hc];rfl
 have g2:cI (ceL es) i 2=e.r:=by simp only[cI,hc];rfl
 have c4:(-9223372036854775808:Int)<=(i:Int)+1:=by omega
 have c5:(i:Int)+1<=(9223372036854775807:Int):=by omega
 have c10:((vd.length:Int)+1)*8<=140737488355328:=by omega
 have c11:((out.length:Int)+1)*24<=140737488355328:=by omega
 have hrr:=hr
 unfold RlV at hr
 unfold CeV at hce
 have c6:(-9223372036854775808:Int)<=e.a+r.c:=by omega
 have c7:e.a+r.c<=(9223372036854775807:Int):=by omega
 have c8:(-9223372036854775808:Int)<=e.a+r.s:=by omega
 have c9:e.a+r.s<=(9223372036854775807:Int):=by omega
 unfold claim_Timeline_6 claim_Timeline_7 claim_Timeline_8 claim_Timeline_9 claim_Timeline_10 claim_Timeline_11
 simp only[g0,g1,g2,List.length_map,c4,c5,c6,c7,c8,c9,c10,c11,decide_true,Bool.and_self]
 simp only[cond_true]
 clear g0 g1 g2 hc c4 c5 c6 c7 c8 c9 c10 c11
 unfold bec st dur
 have hk:e.k=1\/e.k=2\/e.k=3\/e.k=4\/e.k=5\/e.k=6:=by omega
 have hs:s=1\/s=2\/s=3\/s=4\/(s≠1/\s≠2/\s≠3/\s≠4):=by omega
 cases b<;>by_cases hq:e.r=1<;>rcases hk with hk|hk|hk|hk|hk|hk<;>rcases hs with hs|hs|hs|hs|⟨q1,q2,q3,q4⟩<;>simp_all
theorem tl12: @claim_Timeline_12= @claim_Timeline_6:=rfl
theorem tl_auto5(n:Nat) (go0:claim_Timeline_s0->Option claim_Timeline_a) (go1:claim_Timeline_s1->Option claim_Timeline_a) (r:Rl) (hr:RlV r) (b:Bool) (L:Lv) (i:Int) (vd O:Lv) (s f m:Int) (ha:1<=s/\s<=4) (hm:m<=cI L i 1) (h1: -100000000<=m) (h2:m<=100000000) (h3:O.length<=110):
  claim_Timeline_5 n go0 go1 r.c r.s r.r b L i vd O s f m=go1 (O++[csR (st r (aft s) m)],(st r (aft s) m).s,(st r (aft s) m).f,(st r (aft s) m).n):=by
 have hs:s=1\/s=2\/s=3\/s=4:=by omega
 unfold RlV at hr
 unfold claim_Timeline_5
 rcases hs with hs|hs|hs|hs<;>subst hs<;>simp only[csR,aft,st,dur]<;>grind
theorem tl_auto18(n:Nat) (go1:claim_Timeline_s1->Option claim_Timeline_a) (r:Rl) (hr:RlV r) (O:Lv) (s m:Int) (ha:1<=s/\s<=4) (h1:0<=m) (h2:m<=100000000) (h3:O.length<=110):
  claim_Timeline_18 n go1 r.c r.r O s m=go1 (O++[csR (st r (aft s) m)],(st r (aft s) m).s,(st r (aft s) m).f,(st r (aft s) m).n):=by
 have hs:s=1\/s=2\/s=3\/s=4:=by omega
 unfold RlV at hr
 unfold claim_Timeline_18
 rcases hs with hs|hs|hs|hs<;>subst hs<;>simp only[csR,aft,st,dur]<;>grind
theorem claim_Timeline_v(n:Nat) (r:Rl) (c:Cl) (es:List Ce) (hn:200<n):claim_Timeline n r.a r.c r.s r.r c.n c.f c.t c.h c.a c.b (ceL es)=some (if ClmV r c es then(csL (timeline r c es),0)else([],160)):=by
 unfold claim_Timeline claim_Timeline_1 claim_Timeline_2
 rw[claim_Valid_v n r c es (by omega)]
 by_cases hv:ClmV r c es
 ·obtain⟨hr,hcl,hlen,hE⟩:=id hv
  have hrb:=hr
  unfold RlV at hrb
  have hca:0<=c.a/\c.a<=10000000:=by unfold ClV at hcl;omega
  have n1:(-9223372036854775808:Int)<=c.a+r.a:=by omega
  have n2:c.a+r.a<=(9223372036854775807:Int):=by omega
  simp only[hv,decide_true,Option.bind_some,Bool.not_true,n1,n2,Bool.and_self,if_true]
  simp only[cond_true,cond_false]
  have facts:∀out now i,RunJ r c es out now i->(0<=now.n↔act now)/\now.f<=23000000/\now.n<=24000000/\out.length<=110:=fun out now i h=>by
   have h1:=timeline_le hv now h.mem
   have h2:=timeline_ge hv now h.mem
   obtain⟨s,f,hf⟩:=timeline_st now h.mem
   have h3:(st r s f).f=f:=rfl
   refine⟨by rw[hf];exact act_n hr (by rw[hf,h3]at h2;omega),h1,?_,h.len hlen⟩
   rw[hf]at h1⊢
   have h1:f<=23000000:=h1
   by_cases ha:1<=s/\s<=4
   ·have:=(st_n hr (f:=f) ha).2;omega
   ·simp only[st];rw[if_neg ha];omega
  refine iterF_ind (fun s=>∃(i:Nat) (vd:Lv) (out:List Cs) (now:Cs),s=((i:Int),vd,csL out,now.s,now.f,now.n)/\vd.length<=i/\RunJ r c es out now i) (fun s=>es.length+1-s.1.toNat) _ ?_ n _
   ⟨0,[],[x0 r c],x0 r c,rfl,by simp,⟨by omega,rfl,by unfold timeline;simp⟩⟩ (by simp;omega)
  rintro _ go ⟨i,vd,out,now,rfl,hvd,hJ⟩ ih
  simp only
  unfold claim_Timeline_3
  have hle:=hJ.le
  have c6:(0:Int)<=(i:Int):=by omega
  by_cases hlt:i<es.length
  ·have c7:(i:Int)<(es.length:Int):=by omega
   obtain⟨e,he⟩:=get_lt hlt
   have hce:∃l,0<=l/\CeV l e:=by
    have:=(evV_ge hE)
    have key:∀(es:List Ce) (l:Int) (i:Nat) (e:Ce),0<=l->EvV l es->es[i]?=some e->∃l,0<=l/\CeV l e:=by
     intro es
     induction es with
     |nil=>intro l i e _ _ h;simp at h
     |cons x es ih=>
      intro l i e hl hE h
      cases i with
      |zero=>simp at h;subst h;exact⟨l,hl,hE.1⟩
      |succ i=>exact ih x.a i e (by have:=hE.1.2.2.1;omega) hE.2 (by simpa using h)
    exact key es c.a i e hca.1 hE he
   obtain⟨l,hl0,hce⟩:=hce
   simp only[List.length_map,c6,c7,decide_true]
   simp only[cond_true]
   refine iterF_ind (fun s=>∃(out:List Cs) (now:Cs),s=(csL out,now.s,now.f,now.n)/\RunJ r c es out now i) (fun s=>rk s.2.1) _ ?_ n _ ⟨out,now,rfl,hJ⟩ (by have:=rk_le now.s;simp only;omega)
   rintro _ go1 ⟨out,now,rfl,hJ⟩ ih1
   simp only
   obtain⟨f1,f2,f3,f4⟩:=facts out now i hJ
   have tail:¬(act now/\now.n<=e.a)->claim_Timeline_6 n go go1 r.c r.s c.b (ceL es) (i:Int) vd (csL out) now.s now.f now.n=some (csL (timeline r c es),0):=fun hna=>by
    rw[tl_event n go go1 r hr c.b es i e he vd out now.s now.f now.n l hce hl0 (by omega) f4 (by omega)]
    by_cases hb:bec c.b now.s e<0
    ·rw[if_pos hb]
     exact ih _ ⟨i+1,vd++[[AV.int (i:Int)]],out,now,by simp,by simp;omega,hJ.void he hna hb⟩ (by simp only;omega)
    ·rw[if_neg hb]
     exact ih _ ⟨i+1,vd,out++[st r (bec c.b now.s e) e.a],_,by simp,by omega,hJ.event he hna hb⟩ (by simp only;omega)
   unfold claim_Timeline_4
   have g1:cI (ceL es) i 1=e.a:=by simp only[cI];rw[cA_map (by simpa using he)];rfl
   rw[tl12]
   by_cases hn0:0<=now.n
   ·have ha:=f1.1 hn0
    rw[decide_eq_true hn0,cond_true]
    by_cases hnm:now.n<=e.a
    ·rw[tl_auto5 n go go1 r hr c.b (ceL es) i vd (csL out) now.s now.f now.n ha (by rw[g1];exact hnm) (by omega) (by omega) (by rw[List.length_map];exact f4)]
     have:=ih1 _ ⟨out++[st r (aft now.s) now.n],_,rfl,hJ.auto ha (fun e' he'=>by rw[he]at he';cases he';exact hnm)⟩ (rk_aft ha)
     rw[<-this];simp
    ·unfold claim_Timeline_5
     rw[g1,decide_eq_false hnm,cond_false]
     exact tail fun h=>hnm h.2
   ·rw[decide_eq_false hn0,cond_false]
    exact tail fun h=>hn0 (f1.2 h.1)
  ·have h0:i=es.length:=by omega
   have c7:¬(i:Int)<(es.length:Int):=by omega
   have hnone:∀e,¬es[i]?=some e:=fun e he=>by have:=(List.getElem?_eq_some_iff.1 he).1;omega
   simp only[List.length_map,c7,decide_false]
   simp only[cond_false]
   refine iterF_ind (fun s=>∃(out:List Cs) (now:Cs),s=(csL out,now.s,now.f,now.n)/\RunJ r c es out now i) (fun s=>rk s.2.1) _ ?_ n _ ⟨out,now,rfl,hJ⟩ (by have:=rk_le now.s;simp only;omega)
   rintro _ go1 ⟨out,now,rfl,hJ⟩ ih1
   simp only
   obtain⟨f1,f2,f3,f4⟩:=facts out now i hJ
   by_cases hn0:0<=now.n
   ·have ha:=f1.1 hn0
    rw[tl_auto18 n go1 r hr (csL out) now.s now.n ha hn0 (by omega) (by rw[List.length_map];exact f4)]
    have:=ih1 _ ⟨out++[st r (aft now.s) now.n],_,rfl,hJ.auto ha (fun e' he'=>absurd he' (hnone e'))⟩ (rk_aft ha)
    rw[<-this];simp
   ·unfold claim_Timeline_18
    rw[decide_eq_false hn0,cond_false,hJ.done h0 (fun ha=>hn0 (f1.2 ha))]
 ·simp[hv]
end Go.Proofs.YtgckmifmjiklmaaGreat
set_option maxRecDepth 100000
namespace Go.Proofs.YtgckmifmjiklmaaGreat
open Go Go.Sx Go.Dial.Clm
theorem ot15: @claim_Outcome_15= @claim_Outcome_9:=rfl
theorem ot_event(n:Nat) (go0:claim_Outcome_s0->Option claim_Outcome_a) (go1:claim_Outcome_s1->Option claim_Outcome_a) (r:Rl) (hr:RlV r) (b:Bool) (es:List Ce) (t:Int) (i:Nat) (e:Ce) (he:es[i]?=some e) (vd:Lv) (s f m s' f' m' l:Int)
  (hce:CeV l e) (hl:0<=l) (h1:vd.length<=20) (h3:i<=20):
  claim_Outcome_9 n go0 go1 r.c r.s b (ceL es) t (i:Int) vd s' f' m' s f m=if bec b s e<0 then go0 ((i:Int)+1,vd++[[AV.int (i:Int)]],s',f',m',s,f,m)else if t<e.a then some (s',f',m',0)else
   go0 ((i:Int)+1,vd,(st r (bec b s e) e.a).s,(st r (bec b s e) e.a).f,(st r (bec b s e) e.a).n,(st r (bec b s e) e.a).s,(st r (bec b s e) e.a).f,(st r (bec b s e) e.a).n):=by
 have hc:∀k,cA (ceL es) (i:Int) k=(ceR e).getD k (.int 0):=fun k=>cA_map (by simpa using he)
 have g0:cI (ceL es) i 0=e.k:=by simp only[cI,hc];rfl
 have g1:cI (ceL es) i 1=e.a:=by simp only[cI,hc];rfl
 have g2:cI (ceL es) i 2=e.r:=by simp only[cI,hc];rfl
 have c4:(-9223372036854775808:Int)<=(i:Int)+1:=by omega
 have c5:(i:Int)+1<=(9223372036854775807:Int):=by omega
 have c10:((vd.length:Int)+1)*8<=140737488355328:=by omega
 have hrr:=hr
 unfold RlV at hr
 unfold CeV at hce
 have c6:(-9223372036854775808:Int)<=e.a+r.c:=by omega
 have c7:e.a+r.c<=(9223372036854775807:Int):=by omega
 have c8:(-9223372036854775808:Int)<=e.a+r.s:=by omega
 have c9:e.a+r.s<=(9223372036854775807:Int):=by omega
 unfold claim_Outcome_9 claim_Outcome_10 claim_Outcome_11 claim_Outcome_12 claim_Outcome_13 claim_Outcome_14
 simp only[g0,g1,g2,c4,c5,c6,c7,c8,c9,c10,decide_true,Bool.and_self]
 simp only[cond_true]
 clear g0 g1 g2 hc c4 c5 c6 c7 c8 c9 c10
 unfold bec st dur
 have hk:e.k=1\/e.k=2\/e.k=3\/e.k=4\/e.k=5\/e.k=6:=by omega
 have hs:s=1\/s=2\/s=3\/s=4\/(s≠1/\s≠2/\s≠3/\s≠4):=by omega
 by_cases ht:t<e.a<;>cases b<;>by_cases hq:e.r=1<;>rcases hk with hk|hk|hk|hk|hk|hk<;>rcases hs with hs|hs|hs|hs|⟨q1,q2,q3,q4⟩<;>simp_all
theorem ot_auto8(n:Nat) (go0:claim_Outcome_s0->Option claim_Outcome_a) (go1:claim_Outcome_s1->Option claim_Outcome_a) (r:Rl) (hr:RlV r) (b:Bool) (L:Lv) (t i:Int) (vd:Lv) (s f m s' f' m':Int) (ha:1<=s/\s<=4) (hm:m<=cI L i 1) (h1: -100000000<=m) (h2:m<=100000000):
  claim_Outcome_8 n go0 go1 r.c r.s r.r b L t i vd s' f' m' s f m=if t<m then some (s',f',m',0)else go1 ((st r (aft s) m).s,(st r (aft s) m).f,(st r (aft s) m).n,(st r (aft s) m).s,(st r (aft s) m).f,(st r (aft s) m).n):=by
 have hs:s=1\/s=2\/s=3\/s=4:=by omega
 unfold RlV at hr
 unfold claim_Outcome_8
 rcases hs with hs|hs|hs|hs<;>subst hs<;>simp only[aft,st,dur]<;>grind
theorem ot_auto21(n:Nat) (go1:claim_Outcome_s1->Option claim_Outcome_a) (r:Rl) (hr:RlV r) (t s m s' f' m':Int) (ha:1<=s/\s<=4) (h1:0<=m) (h2:m<=100000000):
  claim_Outcome_21 n go1 r.c r.r t s' f' m' s m=if t<m then some (s',f',m',0)else go1 ((st r (aft s) m).s,(st r (aft s) m).f,(st r (aft s) m).n,(st r (aft s) m).s,(st r (aft s) m).f,(st r (aft s) m).n):=by
 have hs:s=1\/s=2\/s=3\/s=4:=by omega
 unfold RlV at hr
 unfold claim_Outcome_21
 rcases hs with hs|hs|hs|hs<;>subst hs<;>simp only[aft,st,dur]<;>grind
theorem upTo_out{t:Int}:∀ {out rest:List Cs},(∀x∈out,x.f<=t)->(∀x,rest.head?=some x->t<x.f)->upTo t (out++rest)=out
 |[],[],_,_=>rfl
 |[],x::rest,_,h=>by
  have:=h x rfl
  unfold upTo
  rw[List.nil_append,List.takeWhile_cons]
  simp;omega
 |y::out,rest,h1,h2=>by
  rw[List.cons_append,upTo_go (h1 y (List.mem_cons_self ..)),upTo_out (fun x hx=>h1 x (List.mem_cons_of_mem _ hx)) h2]
structure RunO (r:Rl) (c:Cl) (es:List Ce) (t:Int) (out:List Cs) (now:Cs) (i:Nat):Prop where
 j:RunJ r c es out now i
 up:∀x∈out,x.f<=t
section
variable {r:Rl} {c:Cl} {es:List Ce} {t:Int} {out:List Cs} {now x:Cs} {i:Nat} {rest:List Cs}
theorem RunO.stop(h:RunO r c es t out now i) (hr:tl r c.b now (es.drop i)=rest) (hx:∀x,rest.head?=some x->t<x.f):outV r c es t=now:=by
 unfold outV
 rw[h.j.rest,hr,upTo_out h.up hx,h.j.last];rfl
theorem RunO.go(h:RunO r c es t out now i) {k:Nat} (hj:RunJ r c es (out++[x]) x k) (hx:x.f<=t):RunO r c es t (out++[x]) x k:=
 ⟨hj,fun y hy=>by
  rcases List.mem_append.1 hy with hy|hy
  ·exact h.up y hy
  ·rw[List.mem_singleton.1 hy];exact hx⟩
end
theorem claim_Outcome_v (n:Nat) (r:Rl) (c:Cl) (es:List Ce) (t:Int) (hn:200<n):claim_Outcome n r.a r.c r.s r.r c.n c.f c.t c.h c.a c.b (ceL es) t=some ((outR r c es t).1.s,(outR r c es t).1.f,(outR r c es t).1.n,(outR r c es t).2):=by
 unfold claim_Outcome claim_Outcome_1
 rw[claim_Valid_v n r c es (by omega)]
 unfold outR OkOut
 by_cases hv:ClmV r c es
 ·obtain ⟨hr,hcl,hlen,hE⟩:=id hv
  have hrb:=hr
  unfold RlV at hrb
  have hca:0<=c.a/\c.a<=10000000:=by unfold ClV at hcl;omega
  have n1:(-9223372036854775808:Int)<=c.a+r.a:=by omega
  have n2:c.a+r.a<=(9223372036854775807:Int):=by omega
  unfold claim_Outcome_2 claim_Outcome_3 claim_Outcome_4 claim_Outcome_5
  by_cases h0:0<=t
  ·by_cases h1:t<=20000000
   ·simp only[hv,h0,h1,decide_true,Option.bind_some,Bool.not_true,n1,n2,Bool.and_self,and_self,if_true]
    simp only[cond_true,cond_false]
    by_cases h2:t<c.a
    ·rw[decide_eq_true h2,cond_true]
     have:upTo t (timeline r c es)=[]:=by
      unfold timeline upTo
      rw[List.takeWhile_cons]
      simp[x0,st];omega
     unfold outV
     rw[this];rfl
    ·rw [decide_eq_false h2,cond_false]
     have facts:∀out now i,RunJ r c es out now i->(0<=now.n↔act now)/\now.f<=23000000/\now.n<=24000000/\out.length<=110:=fun out now i h=>by
      have h1:=timeline_le hv now h.mem
      have h2:=timeline_ge hv now h.mem
      obtain⟨s,f,hf⟩:=timeline_st now h.mem
      have h3:(st r s f).f=f:=rfl
      refine⟨by rw[hf];exact act_n hr (by rw[hf,h3]at h2;omega),h1,?_,h.len hlen⟩
      rw[hf]at h1⊢
      have h1:f<=23000000:=h1
      by_cases ha:1<=s/\s<=4
      ·have:=(st_n hr (f:=f) ha).2;omega
      ·simp only[st];rw[if_neg ha];omega
     refine iterF_ind (fun s=>∃(i:Nat) (vd:Lv) (out:List Cs) (now:Cs),s=((i:Int),vd,now.s,now.f,now.n,now.s,now.f,now.n)/\vd.length<=i/\RunO r c es t out now i) (fun s=>es.length+1-s.1.toNat) _ ?_ n _
      ⟨0,[],[x0 r c],x0 r c,rfl,by simp,⟨⟨by omega,rfl,by unfold timeline;simp⟩,fun x hx=>by rw[List.mem_singleton.1 hx];simp only[x0,st];omega⟩⟩ (by simp;omega)
     rintro _ go ⟨i,vd,out,now,rfl,hvd,hO⟩ ih
     simp only
     unfold claim_Outcome_6
     have hle:=hO.j.le
     have c6:(0:Int)<=(i:Int):=by omega
     by_cases hlt:i<es.length
     ·have c7:(i:Int)<((ceL es).length:Int):=by rw[List.length_map];omega
      obtain⟨e,he⟩:=get_lt hlt
      have hce:∃l,0<=l/\CeV l e:=by
       have key:∀(es:List Ce) (l:Int) (i:Nat) (e:Ce),0<=l->EvV l es->es[i]?=some e->∃l,0<=l/\CeV l e:=by
        intro es
        induction es with
        |nil=>intro l i e _ _ h;simp at h
        |cons x es ih=>
         intro l i e hl hE h
         cases i with
         |zero=>simp at h;subst h;exact⟨l,hl,hE.1⟩
         |succ i=>exact ih x.a i e (by have:=hE.1.2.2.1;omega) hE.2 (by simpa using h)
       exact key es c.a i e hca.1 hE he
      obtain⟨l,hl0,hce⟩:=hce
      rw[decide_eq_true c7,cond_true,decide_eq_true c6,cond_true]
      refine iterF_ind (fun s=>∃(out:List Cs) (now:Cs),s=(now.s,now.f,now.n,now.s,now.f,now.n)/\RunO r c es t out now i) (fun s=>rk s.1) _ ?_ n _ ⟨out,now,rfl,hO⟩ (by have:=rk_le now.s;simp only;omega)
      rintro _ go1 ⟨out,now,rfl,hO⟩ ih1
      simp only
      obtain⟨f1,f2,f3,f4⟩:=facts out now i hO.j
      have g1:cI (ceL es) i 1=e.a:=by simp only[cI];rw[cA_map (by simpa using he)];rfl
      have tail:¬(act now/\now.n<=e.a)->claim_Outcome_9 n go go1 r.c r.s c.b (ceL es) t (i:Int) vd now.s now.f now.n now.s now.f now.n=some ((outV r c es t).s,(outV r c es t).f,(outV r c es t).n,0):=fun hna=>by
       rw[ot_event n go go1 r hr c.b es t i e he vd now.s now.f now.n now.s now.f now.n l hce hl0 (by omega) (by omega)]
       by_cases hb:bec c.b now.s e<0
       ·rw[if_pos hb]
        exact ih _ ⟨i+1,vd++[[AV.int (i:Int)]],out,now,by simp,by simp;omega,⟨hO.j.void he hna hb,hO.up⟩⟩ (by simp only;omega)
       ·rw[if_neg hb]
        by_cases hte:t<e.a
        ·rw[if_pos hte,hO.stop (by rw[drop_cons he,tl_ev hna hb]) (fun x hx=>by simp at hx;subst hx;exact hte)]
        ·rw[if_neg hte]
         exact ih _ ⟨i+1,vd,out++[st r (bec c.b now.s e) e.a],_,by simp,by omega,hO.go (hO.j.event he hna hb) (by simp only[st];omega)⟩ (by simp only;omega)
      unfold claim_Outcome_7
      rw[ot15]
      by_cases hn0:0<=now.n
      ·have ha:=f1.1 hn0
       rw[decide_eq_true hn0,cond_true]
       by_cases hnm:now.n<=e.a
       ·rw[ot_auto8 n go go1 r hr c.b (ceL es) t i vd now.s now.f now.n now.s now.f now.n ha (by rw[g1];exact hnm) (by omega) (by omega)]
        by_cases htn:t<now.n
        ·rw[if_pos htn,hO.stop (by rw[drop_cons he,tl_auto ⟨ha,hnm⟩]) (fun x hx=>by simp at hx;subst hx;exact htn)]
        ·rw[if_neg htn]
         exact ih1 _ ⟨out++[st r (aft now.s) now.n],_,rfl,hO.go (hO.j.auto ha (fun e' he'=>by rw[he]at he';cases he';exact hnm)) (by simp only[st];omega)⟩ (rk_aft ha)
       ·unfold claim_Outcome_8
        rw[g1,decide_eq_false hnm,cond_false]
        exact tail fun h=>hnm h.2
      ·rw[decide_eq_false hn0,cond_false]
       exact tail fun h=>hn0 (f1.2 h.1)
     ·have h00:i=es.length:=by omega
      have c7:¬(i:Int)<((ceL es).length:Int):=by rw[List.length_map];omega
      have hnone:∀e,¬es[i]?=some e:=fun e he=>by have:=(List.getElem?_eq_some_iff.1 he).1;omega
      have hdr:es.drop i=[]:=by rw[h00,List.drop_length]
      rw[decide_eq_false c7,cond_false]
      refine iterF_ind (fun s=>∃(out:List Cs) (now:Cs),s=(now.s,now.f,now.n,now.s,now.f,now.n)/\RunO r c es t out now i) (fun s=>rk s.1) _ ?_ n _ ⟨out,now,rfl,hO⟩ (by have:=rk_le now.s;simp only;omega)
      rintro _ go1 ⟨out,now,rfl,hO⟩ ih1
      simp only
      obtain⟨f1,f2,f3,f4⟩:=facts out now i hO.j
      by_cases hn0:0<=now.n
      ·have ha:=f1.1 hn0
       rw[ot_auto21 n go1 r hr t now.s now.n now.s now.f now.n ha hn0 (by omega)]
       by_cases htn:t<now.n
       ·rw[if_pos htn,hO.stop (by rw[hdr,tl_end ha]) (fun x hx=>by simp at hx;subst hx;exact htn)]
       ·rw[if_neg htn]
        exact ih1 _ ⟨out++[st r (aft now.s) now.n],_,rfl,hO.go (hO.j.auto ha (fun e' he'=>absurd he' (hnone e'))) (by simp only[st];omega)⟩ (rk_aft ha)
      ·unfold claim_Outcome_21
       rw[decide_eq_false hn0,cond_false,hO.stop (by rw[hdr,tl_nil (fun ha=>hn0 (f1.2 ha))]) (fun x hx=>by cases hx)]
   ·have:¬(ClmV r c es/\0<=t/\t<=20000000):=fun h=>h1 h.2.2
    simp[hv,h0,h1]
  ·simp[hv,h0]
 ·unfold claim_Outcome_2
  simp[hv]
end Go.Proofs.YtgckmifmjiklmaaGreat
set_option maxRecDepth 100000
namespace Go.Proofs.YtgckmifmjiklmaaGreat
open Go Go.Sx
noncomputable section
def consE8:List Nat:=[11,12,13,14,15,16,17,18,19,20,21,22,23,24,25,26,27,28,29,30,32,33,34,35,36,37,38,39,40,41,42,43,44,45,46,47,48,49,50,51,52,54,55,56,57,58,59,61,62,63,64,66,67,69,80,83,87,90,91,92,95,96,99,100,101,105,107,108,109,110,111,112,115,116,121,122,127,128,136,138,139,149,150,151,153,154,156,158,161,163,164,165,166,172,173,174,175,176,183,185,186,187,188,189,190,196,197,198,201,204,205,207,210,216,222,223,226,229,1000012,1000056,1000083,1000197,1000216,1000229]
def mapsE8:List (Nat×SV×SV):=[(141,SV.of [.agg (SV.of [.vi (.int 1),.vi (.int 1)]),.agg (SV.of [.vi (.int 2),.vi (.int 1)]),.agg (SV.of [.vi (.int 3),.vi (.int 2)]),.agg (SV.of [.vi (.int 4),.vi (.int 2)]),.agg (SV.of [.vi (.int 5),.vi (.int 1)]),.agg (SV.of [.vi (.int 5),.vi (.int 2)]),.agg (SV.of [.vi (.int 5),.vi (.int 3)]),.agg (SV.of [.vi (.int 6),.vi (.int 4)])],SV.of [.vi (.int 3),.vi (.int 2),.vi (.int 3),.vi (.int 6),.vi (.int 7),.vi (.int 7),.vi (.int 7),.vi (.int 8)])]
abbrev law42_MergeClaims_a:=Bool
def law42_MergeClaims_2(n:Nat) (v0 v1 v2:Int) (v3 v4:Lv) (v5 v6 v7 v8 v9 v10 v11 v12 v13 v14:Int) (v15:Lv) (v16 v17 v18:Int) (v19:Bool):Option law42_MergeClaims_a:=
 (bif(!v19)then some false
 else(law42_made n v0 v1 v2 v3 ([]:Lv)).bind fun y20=>
 (ref42_Events n y20.1 y20.2.1 y20.2.2.1 y20.2.2.2.1 y20.2.2.2.2.1 v4).bind fun y26=>
 (ref16_Made n v5 v6 v7 v8 v9 v10 v11 v12 v13 v14 v15).bind fun y27=>
 (law42_pick n v16 61).bind fun y38=>
 (law42_pick n v17 40).bind fun y39=>
 (merge_Successor n y20.1 y20.2.1 y20.2.2.1 y20.2.2.2.1 y20.2.2.2.2.1 y26 y27.2.2.2.2.2.1 y38 y39).bind fun y40=>
 (merge_Successor n y20.1 y20.2.1 y20.2.2.1 y20.2.2.2.1 y20.2.2.2.2.1 y26 y27.2.2.2.2.2.2.1 y38 y39).bind fun y42=>
 (merge_Claim n y20.1 y20.2.1 y20.2.2.1 y20.2.2.2.1 y20.2.2.2.2.1 y26 y38 y27.2.2.2.2.2.1 y27.2.2.2.2.2.2.1 y27.2.2.2.2.2.2.2.1 y27.2.2.2.2.2.2.2.2.1 y27.2.2.2.2.2.2.2.2.2.1 y39).bind fun y44=>
 (bif(!(decide (y40.2=0)))then some false
 else(bif(!(decide (y42.2=0)))then some false
 else(bif(!(y44.2.2.2.2.2.2==(!(decide (y40.1=y42.1)))))then some false
 else(bif(!y44.2.2.2.2.2.2)then some ((decide (y44.1=0))&&((decide (y44.2.1=0))&&((decide (y44.2.2.1=0))&&((decide (y44.2.2.2.1=0))&&((decide (y44.2.2.2.2.1=0))&&(y44.2.2.2.2.2.1==false))))))
 else(bif(!(decide (y44.2.1=y40.1)))then some false
 else(bif(!(decide (y44.2.2.1=y42.1)))then some false
 else(bif(!(decide (y44.1=y38)))then some false
 else(bif(!(decide (y44.2.2.2.2.1=y27.2.2.2.2.2.2.2.2.1)))then some false
 else(bif(!(decide (y44.2.2.2.1=y27.2.2.2.2.2.2.2.1)))then some false
 else(bif(!(y44.2.2.2.2.2.1==y27.2.2.2.2.2.2.2.2.2.1))then some false
 else(claim_Timeline n y27.1 y27.2.1 y27.2.2.1 y27.2.2.2.1 y38 y27.2.2.2.2.2.1 y27.2.2.2.2.2.2.1 y27.2.2.2.2.2.2.2.1 y27.2.2.2.2.2.2.2.2.1 y27.2.2.2.2.2.2.2.2.2.1 y27.2.2.2.2.2.2.2.2.2.2).bind fun y51=>
 (claim_Timeline n y27.1 y27.2.1 y27.2.2.1 y27.2.2.2.1 y44.1 y44.2.1 y44.2.2.1 y44.2.2.2.1 y44.2.2.2.2.1 y44.2.2.2.2.2.1 y27.2.2.2.2.2.2.2.2.2.2).bind fun y53=>
 (law42_pick n v18 80).bind fun y55=>
 bif((decide ((-9223372036854775808)<=(y27.2.2.2.2.2.2.2.2.1+y55)))&&(decide ((y27.2.2.2.2.2.2.2.2.1+y55)<=9223372036854775807)))then(claim_With n y27.1 y27.2.1 y27.2.2.1 y27.2.2.2.1 y38 y27.2.2.2.2.2.1 y27.2.2.2.2.2.2.1 y27.2.2.2.2.2.2.2.1 y27.2.2.2.2.2.2.2.2.1 y27.2.2.2.2.2.2.2.2.2.1 y27.2.2.2.2.2.2.2.2.2.2 (y27.2.2.2.2.2.2.2.2.1+y55)).bind fun y56=>
 (claim_With n y27.1 y27.2.1 y27.2.2.1 y27.2.2.2.1 y44.1 y44.2.1 y44.2.2.1 y44.2.2.2.1 y44.2.2.2.2.1 y44.2.2.2.2.2.1 y27.2.2.2.2.2.2.2.2.2.2 (y27.2.2.2.2.2.2.2.2.1+y55)).bind fun y58=>
 (merge_Successor n y20.1 y20.2.1 y20.2.2.1 y20.2.2.2.1 y20.2.2.2.2.1 y26 y56.1 y38 y39).bind fun y60=>
 (claim_Ends n y27.1 y27.2.1 y27.2.2.1 y27.2.2.2.1 y38 y27.2.2.2.2.2.1 y27.2.2.2.2.2.2.1 y27.2.2.2.2.2.2.2.1 y27.2.2.2.2.2.2.2.2.1 y27.2.2.2.2.2.2.2.2.2.1).bind fun y62=>
 (claim_Ends n y27.1 y27.2.1 y27.2.2.1 y27.2.2.2.1 y44.1 y44.2.1 y44.2.2.1 y44.2.2.2.1 y44.2.2.2.2.1 y44.2.2.2.2.2.1).bind fun y64=>
 (bif(decide (y51.2=0))then(bif(decide (y53.2=0))then(bif(decide (y56.2=0))then(bif(decide (y58.2=0))then(bif(decide (y60.2=0))then(bif(decide (y62.2=0))then(bif(decide (y64.2=0))then(bif(decide (y62.1=y64.1))then(ref16_SameTimeline n y51.1 y53.1).bind fun y66=>
 (bif y66 then some (decide (y60.1=y58.1))
 else some false)
 else some false)
 else some false)
 else some false)
 else some false)
 else some false)
 else some false)
 else some false)
 else some false)else none)))))))))))
def law42_MergeClaims_1(n:Nat) (v0 v1 v2:Int) (v3 v4:Lv) (v5 v6 v7 v8 v9 v10 v11 v12 v13 v14:Int) (v15:Lv) (v16 v17 v18:Int):Option law42_MergeClaims_a:=
 (law42_sane n ).bind fun y19=>
 law42_MergeClaims_2 n v0 v1 v2 v3 v4 v5 v6 v7 v8 v9 v10 v11 v12 v13 v14 v15 v16 v17 v18 y19
def law42_MergeClaims(n:Nat) (v0 v1 v2:Int) (v3 v4:Lv) (v5 v6 v7 v8 v9 v10 v11 v12 v13 v14:Int) (v15:Lv) (v16 v17 v18:Int):Option law42_MergeClaims_a:=law42_MergeClaims_1 n v0 v1 v2 v3 v4 v5 v6 v7 v8 v9 v10 v11 v12 v13 v14 v15 v16 v17 v18
def law42_MergeClaims_t:FnT:=⟨[(true,[.int,.int,.int]),(false,[(.sl (.cons .int (.cons .int (.cons .int .nil))))]),(false,[(.sl (.cons .int (.cons .int (.cons .int (.cons .int (.cons .int (.cons .int (.cons .int .nil))))))))]),(true,[.int,.int,.int,.int,.int,.int,.int,.int,.int,.int,(.sl (.cons .int (.cons .int (.cons .int .nil))))]),(false,[.int]),(false,[.int]),(false,[.int])],.b,fun n (s:Int×Int×Int×Lv×Lv×Int×Int×Int×Int×Int×Int×Int×Int×Int×Int×Lv×Int×Int×Int)=>law42_MergeClaims n s.1 s.2.1 s.2.2.1 s.2.2.2.1 s.2.2.2.2.1 s.2.2.2.2.2.1 s.2.2.2.2.2.2.1 s.2.2.2.2.2.2.2.1 s.2.2.2.2.2.2.2.2.1 s.2.2.2.2.2.2.2.2.2.1 s.2.2.2.2.2.2.2.2.2.2.1 s.2.2.2.2.2.2.2.2.2.2.2.1 s.2.2.2.2.2.2.2.2.2.2.2.2.1 s.2.2.2.2.2.2.2.2.2.2.2.2.2.1 s.2.2.2.2.2.2.2.2.2.2.2.2.2.2.1 s.2.2.2.2.2.2.2.2.2.2.2.2.2.2.2.1 s.2.2.2.2.2.2.2.2.2.2.2.2.2.2.2.2.1 s.2.2.2.2.2.2.2.2.2.2.2.2.2.2.2.2.2.1 s.2.2.2.2.2.2.2.2.2.2.2.2.2.2.2.2.2.2⟩
theorem law42_MergeClaims_ok:law42_MergeClaims_t.ok Tryz.prog 8:=FnT.ok_of (cfg:=⟨[],consE8,[],mapsE8⟩) (tab:=claim_Timeline_T) (mt:=mtE) pfit claim_Timeline_T_ok mtE_ok (fun s fn hf=>by rw[Tryz.func8]at hf;cases hf;kernel_rfl) (fun n s=>by kernel_rfl)
end
end Go.Proofs.YtgckmifmjiklmaaGreat
set_option maxRecDepth 100000
namespace Go.Proofs.YtgckmifmjiklmaaGreat
open Go Go.Sx Go.Dial.Blk Go.Dial.Mrg
open Go.Dial.Clm (Rl Cl Ce Cs ClmV ClV RlV OkOut outV timeline endsV)
theorem WV.a64{w:Wd} (h:WV w):In64 w.al:=by
 have h0:=h.a0
 have h1:=h.a1
 unfold In64;omega
theorem claim_With_v(n:Nat) (r:Rl) (c:Cl) (es:List Ce) (t:Int) (hn:200<n):claim_With n r.a r.c r.s r.r c.n c.f c.t c.h c.a c.b (ceL es) t=some (if OkOut r c es t then(if(outV r c es t).s=4\/(outV r c es t).s=5 then c.t else c.f,0)else(0,160)):=by
 unfold claim_With claim_With_1
 rw[claim_Outcome_v n r c es t hn]
 unfold Go.Dial.Clm.outR
 by_cases h:OkOut r c es t
 ·simp only[h,if_true,Option.bind_some]
  grind
 ·simp[h]
theorem timeline_refl(n:Nat) (l:List Cs) (hl:l.length<=1000000) (hn:l.length<n):ref16_SameTimeline n (csL l) (csL l)=some true:=by
 unfold ref16_SameTimeline ref16_SameTimeline_1
 refine cN (fun _=>?_) (fun h=>absurd rfl h)
 refine iterF_ind (fun s=>∃i:Nat,s=(i:Int)/\i<=l.length) (fun s=>l.length-s.toNat) _ ?_ n _ ⟨0,rfl,by omega⟩ (by simp;omega)
 rintro _ go ⟨i,rfl,hi⟩ ih
 unfold ref16_SameTimeline_2
 refine cF (fun h=>gN (by omega) (gN h ?_)) (fun _=>rfl)
 rw[List.length_map]at h
 have hz:∀a:Int,decide (a=a)=true:=fun a=>decide_eq_true rfl
 rw[hz,hz,hz,Bool.and_true,Bool.and_true,Bool.not_true,cond_false]
 exact gO (by omega) (by omega) (ih _ ⟨i+1,rfl,by omega⟩ (by first|omega|(simp only;omega)))
theorem clW_eq{w:Wd} {l:List Ev} {k a b t x y:Int} (h1:sucW w l a k t=some x) (h2:sucW w l b k t=some y):clW w l k a b t=if x=y then none else some (x,y):=by
 unfold clW;rw[h1,h2]
theorem outS_some(x:Int):outS (some x)=(x,0):=rfl
theorem clO_none(k:Int) (r):clO k r none=(0,0,0,0,0,false,false):=rfl
theorem clO_some(k a b:Int) (r):clO k r (some (a,b))=(k,a,b,r.1,r.2.1,r.2.2,true):=rfl
theorem law42_MergeClaims_v(n:Nat) {v0 v1 v2:Int} (h0:In64 v0) (h1:In64 v1) (h2:In64 v2) (xs:List (Int×Int×Int)) (hx:∀x∈xs,In64 x.1/\In64 x.2.1/\In64 x.2.2) (zs:List Sev) (hz:∀x∈zs,Sev64 x)
  {v5 v6 v7 v8 v9 v10 v11 v12 v13 v14:Int} (h5:In64 v5) (h6:In64 v6) (h7:In64 v7) (h8:In64 v8) (h9:In64 v9) (h10:In64 v10) (h11:In64 v11) (h12:In64 v12) (h13:In64 v13) (h14:In64 v14) (ys:List (Int×Int×Int)) (hy:∀x∈ys,In64 x.1/\In64 x.2.1/\In64 x.2.2)
  {v16 v17 v18:Int} (h16:In64 v16) (h17:In64 v17) (h18:In64 v18) (hn:100000001<n):
  law42_MergeClaims n v0 v1 v2 (xs.map triR) (zs.map sevR) v5 v6 v7 v8 v9 v10 v11 v12 v13 v14 (ys.map triR) v16 v17 v18=some true:=by
 unfold law42_MergeClaims law42_MergeClaims_1
 rw[law42_sane_v n (by omega),Option.bind_some]
 unfold law42_MergeClaims_2
 rw[Bool.not_true,cond_false]
 obtain⟨_,e1,w,ds,rfl,hw,-⟩:=law42_made_v n h0 h1 h2 xs [] hx (fun x h=>by simp at h) (by omega)
 have e1':law42_made n v0 v1 v2 (xs.map triR) ([]:Lv)=_:=e1
 rw[e1',Option.bind_some]
 dsimp only
 have hv:=hw.v
 obtain⟨_,e2,l,rfl,hE⟩:=ref42_Events_v n w hv zs hz (by omega)
 have b16:=pk_bd v16 (k:=61) (by decide)
 have b17:=pk_bd v17 (k:=40) (by decide)
 have b18:=pk_bd v18 (k:=80) (by decide)
 have hl8:=hE.few
 obtain⟨C,es,e3,hC,hCa,hel,_⟩:=ref16_Made_v n v5 v6 v7 v8 v9 v10 v11 v12 v13 v14 ys h5 h6 h7 h8 h9 h10 h11 h12 h13 h14 hy (by omega)
 obtain⟨R,hR⟩:∃R,R=mrR v5 v6 v7 v8:=⟨_,rfl⟩
 rw[<-hR]at hC
 have r1:mr v5=R.a:=by rw[hR];rfl
 have r2:mr v6=R.c:=by rw[hR];rfl
 have r3:mr v7=R.s:=by rw[hR];rfl
 have r4:mr v8=R.r:=by rw[hR];rfl
 rw[e2,Option.bind_some,e3,Option.bind_some,law42_pick_v n h16 (by decide),Option.bind_some,law42_pick_v n h17 (by decide),Option.bind_some]
 dsimp only
 rw[r1,r2,r3,r4]
 clear r1 r2 r3 r4 hR e3 e2 e1 e1'
 obtain⟨k,hk⟩:∃k,k=pk v16 61:=⟨_,rfl⟩
 obtain⟨t,ht⟩:∃t,t=pk v17 40:=⟨_,rfl⟩
 rw[<-hk,<-ht]
 rw[<-hk]at b16
 rw[<-ht]at b17
 obtain⟨hRl,hCl,hes20,hev⟩:=hC
 obtain⟨n0,n1,f0,f1,t0,t1,hft,p0,p1,a0,a1⟩:=hCl
 have hgu:=hE.g.untl t
 have s1:sucW w l C.f k t=some (sucL (untl l t) k C.f):=if_pos ⟨hE.g,b17.1,by omega,f0,f1,b16.1,by omega⟩
 have s2:sucW w l C.t k t=some (sucL (untl l t) k C.t):=if_pos ⟨hE.g,b17.1,by omega,t0,t1,b16.1,by omega⟩
 have hcw:=clW_eq (k:=k) s1 s2
 have bf:=hgu.p.bd k C.f (by omega) f1
 have gf:=hgu.p.ge k C.f f0
 have bt:=hgu.p.bd k C.t (by omega) t1
 have gt:=hgu.p.ge k C.t t0
 rw[merge_Successor_v n w (WV.a64 hv) l (by omega) _ _ _ hn,Option.bind_some,merge_Successor_v n w (WV.a64 hv) l (by omega) _ _ _ hn,Option.bind_some,merge_Claim_v n w (WV.a64 hv) l (by omega) k C.f C.t C.h C.a C.b t hn,Option.bind_some,s1,s2,hcw]
 obtain⟨F,hF⟩:∃F,F=sucL (untl l t) k C.f:=⟨_,rfl⟩
 obtain⟨T,hT⟩:∃T,T=sucL (untl l t) k C.t:=⟨_,rfl⟩
 rw[<-hF]at bf gf s1⊢
 rw[<-hT]at bt gt s2⊢
 rw[outS_some,outS_some]
 dsimp only
 refine cN (fun _=>cN (fun _=>?_) (fun h=>absurd rfl h)) (fun h=>absurd rfl h)
 by_cases hFT:F=T
 ·rw[if_pos hFT,decide_eq_true hFT,clO_none]
  rfl
 rw[if_neg hFT,decide_eq_false hFT,clO_some]
 dsimp only
 refine cBN (fun _=>cBN (fun _=>cN (fun _=>cN (fun _=>cN (fun _=>cN (fun _=>cN (fun _=>cBN (fun _=>?_) (fun h=>by rw[beq_self_eq_true]at h;cases h)) (fun h=>absurd rfl h)) (fun h=>absurd rfl h)) (fun h=>absurd rfl h)) (fun h=>absurd rfl h)) (fun h=>absurd rfl h)) (fun h=>by cases h)) (fun h=>absurd h (by decide))
 have hc1:ClmV R ⟨k,C.f,C.t,C.h,C.a,C.b⟩ es:=⟨hRl,⟨b16.1,(show k<=99999999 by omega),f0,f1,t0,t1,hft,p0,p1,a0,a1⟩,hes20,hev⟩
 have hc2:ClmV R ⟨k,F,T,C.h,C.a,C.b⟩ es:=⟨hRl,⟨b16.1,(show k<=99999999 by omega),gf,bf.2,gt,bt.2,hFT,p0,p1,a0,a1⟩,hes20,hev⟩
 have q1:=claim_Timeline_v n R ⟨k,C.f,C.t,C.h,C.a,C.b⟩ es (by omega)
 have q2:=claim_Timeline_v n R ⟨k,F,T,C.h,C.a,C.b⟩ es (by omega)
 rw[if_pos hc1]at q1
 rw[if_pos hc2]at q2
 have hte:timeline R ⟨k,F,T,C.h,C.a,C.b⟩ es=timeline R ⟨k,C.f,C.t,C.h,C.a,C.b⟩ es:=rfl
 rw[hte]at q2
 dsimp only at q1 q2
 have hat1:OkOut R ⟨k,C.f,C.t,C.h,C.a,C.b⟩ es (C.a+pk v18 80):=⟨hc1,by omega,by omega⟩
 have hat2:OkOut R ⟨k,F,T,C.h,C.a,C.b⟩ es (C.a+pk v18 80):=⟨hc2,by omega,by omega⟩
 have w1:=claim_With_v n R ⟨k,C.f,C.t,C.h,C.a,C.b⟩ es (C.a+pk v18 80) (by omega)
 have w2:=claim_With_v n R ⟨k,F,T,C.h,C.a,C.b⟩ es (C.a+pk v18 80) (by omega)
 rw[if_pos hat1]at w1
 rw[if_pos hat2]at w2
 have hoe:outV R ⟨k,F,T,C.h,C.a,C.b⟩ es (C.a+pk v18 80)=outV R ⟨k,C.f,C.t,C.h,C.a,C.b⟩ es (C.a+pk v18 80):=rfl
 rw[hoe]at w2
 dsimp only at w1 w2
 have z1:=claim_Ends_v n R ⟨k,C.f,C.t,C.h,C.a,C.b⟩ (by omega)
 have z2:=claim_Ends_v n R ⟨k,F,T,C.h,C.a,C.b⟩ (by omega)
 rw[if_pos ⟨hRl,hc1.2.1⟩]at z1
 rw[if_pos ⟨hRl,hc2.2.1⟩]at z2
 have hee:endsV R ⟨k,F,T,C.h,C.a,C.b⟩=endsV R ⟨k,C.f,C.t,C.h,C.a,C.b⟩:=rfl
 rw[hee]at z2
 dsimp only at z1 z2
 have htl:=timeline_len (r:=R) (c:=⟨k,C.f,C.t,C.h,C.a,C.b⟩) (es:=es) (by omega)
 rw[q1,Option.bind_some,q2,Option.bind_some,law42_pick_v n h18 (by decide),Option.bind_some]
 refine gO (by omega) (by omega) ?_
 rw[w1,Option.bind_some,w2,Option.bind_some,z1,z2]
 dsimp only
 have hfin:∀X Y:Int,sucW w l X k t=some Y->(merge_Successor n w.al w.ev (bL w.bl) (iL w.ba) (iL w.le) (evL l) X k t)=some (Y,0):=fun X Y h=>by
  rw[merge_Successor_v n w (WV.a64 hv) l (by omega) _ _ _ hn,h];rfl
 by_cases hs:(outV R ⟨k,C.f,C.t,C.h,C.a,C.b⟩ es (C.a+pk v18 80)).s=4\/(outV R ⟨k,C.f,C.t,C.h,C.a,C.b⟩ es (C.a+pk v18 80)).s=5
 ·rw[if_pos hs,if_pos hs,hfin _ _ s2,Option.bind_some,Option.bind_some,Option.bind_some,timeline_refl n _ (by omega) (by omega),Option.bind_some]
  exact cF (fun _=>cF (fun _=>cF (fun _=>cF (fun _=>cF (fun _=>cF (fun _=>cF (fun _=>cF (fun _=>cB (fun _=>by rw[decide_eq_true rfl]) (fun h=>by cases h)) (fun h=>absurd rfl h)) (fun h=>absurd rfl h)) (fun h=>absurd rfl h)) (fun h=>absurd rfl h)) (fun h=>absurd rfl h)) (fun h=>absurd rfl h)) (fun h=>absurd rfl h)) (fun h=>absurd rfl h)
 ·rw[if_neg hs,if_neg hs,hfin _ _ s1,Option.bind_some,Option.bind_some,Option.bind_some,timeline_refl n _ (by omega) (by omega),Option.bind_some]
  exact cF (fun _=>cF (fun _=>cF (fun _=>cF (fun _=>cF (fun _=>cF (fun _=>cF (fun _=>cF (fun _=>cB (fun _=>by rw[decide_eq_true rfl]) (fun h=>by cases h)) (fun h=>absurd rfl h)) (fun h=>absurd rfl h)) (fun h=>absurd rfl h)) (fun h=>absurd rfl h)) (fun h=>absurd rfl h)) (fun h=>absurd rfl h)) (fun h=>absurd rfl h)) (fun h=>absurd rfl h)
theorem law42_MergeClaims_law:∀s:tupT (Ps.tys law42_MergeClaims_t.ps),TupOk (Ps.tys law42_MergeClaims_t.ps) s->∃n z,law42_MergeClaims_t.fn n s=some z/\rdec law42_MergeClaims_t.sh z=.b true:=by
 rintro ⟨v0,v1,v2,v3,v4,v5,v6,v7,v8,v9,v10,v11,v12,v13,v14,v15,v16,v17,v18⟩ hs
 have h:∀x∈[AV.int v0,.int v1,.int v2,.sl (.cons .int (.cons .int (.cons .int .nil))) v3,.sl (.cons .int (.cons .int (.cons .int (.cons .int (.cons .int (.cons .int (.cons .int .nil))))))) v4,.int v5,.int v6,.int v7,.int v8,.int v9,.int v10,.int v11,.int v12,.int v13,.int v14,.sl (.cons .int (.cons .int (.cons .int .nil))) v15,.int v16,.int v17,.int v18],AVok x:=hs
 obtain⟨xs,rfl,hx⟩:=tris_of (t:=.cons .int (.cons .int (.cons .int .nil))) rfl (h (.sl (.cons .int (.cons .int (.cons .int .nil))) v3) (by simp))
 obtain⟨ys,rfl,hy⟩:=tris_of (t:=.cons .int (.cons .int (.cons .int .nil))) rfl (h (.sl (.cons .int (.cons .int (.cons .int .nil))) v15) (by simp))
 obtain⟨zs,rfl,hz⟩:=sevs_of (t:=.cons .int (.cons .int (.cons .int (.cons .int (.cons .int (.cons .int (.cons .int .nil))))))) rfl (h (.sl (.cons .int (.cons .int (.cons .int (.cons .int (.cons .int (.cons .int (.cons .int .nil))))))) v4) (by simp))
 exact⟨100000002,true,law42_MergeClaims_v 100000002 (int_of (h (.int v0) (by simp))) (int_of (h (.int v1) (by simp))) (int_of (h (.int v2) (by simp))) xs hx zs hz (int_of (h (.int v5) (by simp))) (int_of (h (.int v6) (by simp))) (int_of (h (.int v7) (by simp))) (int_of (h (.int v8) (by simp))) (int_of (h (.int v9) (by simp))) (int_of (h (.int v10) (by simp))) (int_of (h (.int v11) (by simp))) (int_of (h (.int v12) (by simp))) (int_of (h (.int v13) (by simp))) (int_of (h (.int v14) (by simp))) ys hy (int_of (h (.int v16) (by simp))) (int_of (h (.int v17) (by simp))) (int_of (h (.int v18) (by simp))) (by decide),rfl⟩
end Go.Proofs.YtgckmifmjiklmaaGreat
