/-
  Texts of this claim, joined (part 7).
-/
import Derived.Test.YtgckmifmjiklmaaGreatJT6
set_option linter.unusedVariables false
set_option linter.unusedSimpArgs false
set_option linter.unusedSectionVars false
set_option linter.constructorNameAsVariable false
set_option maxRecDepth 100000
namespace Go.Proofs.YtgckmifmjiklmaaGreat
open Go Go.Sx
noncomputable section
def Lb:List Nat:=[11,12,13,14,15,16,17,18,19,20,21,22,23,24,25,26,27,28,29,30,32,33,34,35,36,37,38,39,40,41,42,43,44,45,46,47,48,49,50,51,52,54,55,56,57,58,59,61,62,63,64,66,67,69,80,83,87,90,91,92,95,96,99,100,101,105,107,108,109,110,111,112,115,116,121,122,127,128,136,138,139,149,150,151,153,154,156,158,161,163,164,165,166,172,173,174,175,176,183,185,186,187,188,189,190,196,197,198,201,204,205,207,210,216,222,223,226,229,1000012,1000056,1000083,1000197,1000216,1000229]
def KA:List (Nat×SV×SV):=[(141,SV.of [.agg (SV.of [.vi (.int 1),.vi (.int 1)]),.agg (SV.of [.vi (.int 2),.vi (.int 1)]),.agg (SV.of [.vi (.int 3),.vi (.int 2)]),.agg (SV.of [.vi (.int 4),.vi (.int 2)]),.agg (SV.of [.vi (.int 5),.vi (.int 1)]),.agg (SV.of [.vi (.int 5),.vi (.int 2)]),.agg (SV.of [.vi (.int 5),.vi (.int 3)]),.agg (SV.of [.vi (.int 6),.vi (.int 4)])],SV.of [.vi (.int 3),.vi (.int 2),.vi (.int 3),.vi (.int 6),.vi (.int 7),.vi (.int 7),.vi (.int 7),.vi (.int 8)])]
abbrev xC:=Int
def xm(n:Nat) (v0 v1:Int):Option xC:=
 (bif(decide (v0<0))then bif((decide ((-9223372036854775808)<=(v0+1)))&&(decide ((v0+1)<=9223372036854775807)))then bif((decide ((-9223372036854775808)<=(0-(v0+1))))&&(decide ((0-(v0+1))<=9223372036854775807)))then bif(!(decide (v1=0)))then some (Int.tmod (0-(v0+1)) v1)else none else none else none
 else bif(!(decide (v1=0)))then some (Int.tmod v0 v1)else none)
def bX(n:Nat) (v0 v1:Int):Option xC:=xm n v0 v1
def ref17_pick_t:FnT:=⟨[(false,[.int]),(false,[.int])],.i,fun n (s:Int×Int)=>bX n s.1 s.2⟩
theorem Fs:ref17_pick_t.ok Tryz.prog 108:=FnT.ok_of (cfg:=⟨[],Lb,[],KA⟩) (tab:=chain_At_T) (mt:=mtE) az uk bB (fun s fn hf=>by rw[Tryz.func108]at hf;cases hf;kernel_rfl) (fun n s=>by kernel_rfl)
def ref17_pick_T:Tab:=(108,ref17_pick_t)::chain_At_T
theorem o8:ref17_pick_T.ok Tryz.prog:=Tab.ok_cons Fs uk
abbrev ai:=Int×Int×Int×Int×Int×Int×Lv×Lv
abbrev am:=Int×Lv
def aN(n:Nat) (go0:am->Option ai) (go1:am->Option ai) (v15 v36:Int) (v37:Lv):Option ai:=
 (bif(decide (0<v36))then bif(decide (0<=v36))then bif(decide (v36<(v37.length:Int)))then bif((decide ((-9223372036854775808)<=(v36-1)))&&(decide ((v36-1)<=9223372036854775807)))then bif(decide (0<=(v36-1)))then bif(decide ((v36-1)<(v37.length:Int)))then(bif(decide ((cI v37 v36 4)<(cI v37 (v36-1) 4)))then go1 ((v36-1),(List.modify (List.modify (List.modify (List.modify (List.modify (List.modify (List.modify (List.modify (List.modify (List.modify (List.modify (List.modify (List.modify (List.modify v37 (v36).toNat (fun r=>r.set 0 (AV.int (cI v37 (v36-1) 0)))) (v36).toNat (fun r=>r.set 1 (AV.int (cI v37 (v36-1) 1)))) (v36).toNat (fun r=>r.set 2 (AV.int (cI v37 (v36-1) 2)))) (v36).toNat (fun r=>r.set 3 (AV.int (cI v37 (v36-1) 3)))) (v36).toNat (fun r=>r.set 4 (AV.int (cI v37 (v36-1) 4)))) (v36).toNat (fun r=>r.set 5 (AV.bool (Go.Sx.cB v37 (v36-1) 5)))) (v36).toNat (fun r=>r.set 6 (AV.sl (.cons .int (.cons .int (.cons .int .nil))) (cL v37 (v36-1) 6)))) ((v36-1)).toNat (fun r=>r.set 0 (AV.int (cI v37 v36 0)))) ((v36-1)).toNat (fun r=>r.set 1 (AV.int (cI v37 v36 1)))) ((v36-1)).toNat (fun r=>r.set 2 (AV.int (cI v37 v36 2)))) ((v36-1)).toNat (fun r=>r.set 3 (AV.int (cI v37 v36 3)))) ((v36-1)).toNat (fun r=>r.set 4 (AV.int (cI v37 v36 4)))) ((v36-1)).toNat (fun r=>r.set 5 (AV.bool (Go.Sx.cB v37 v36 5)))) ((v36-1)).toNat (fun r=>r.set 6 (AV.sl (.cons .int (.cons .int (.cons .int .nil))) (cL v37 v36 6)))))
 else bif((decide ((-9223372036854775808)<=(v15+1)))&&(decide ((v15+1)<=9223372036854775807)))then go0 ((v15+1),v37)else none)else none else none else none else none else none
 else bif((decide ((-9223372036854775808)<=(v15+1)))&&(decide ((v15+1)<=9223372036854775807)))then go0 ((v15+1),v37)else none)
abbrev Eo:= @aN
def HN(n:Nat) (go0:am->Option ai) (v8 v15:Int) (v16:Lv) (v23 v24 v25:Int) (v26:Bool) (v27:Lv) (v28 v31 v35:Int):Option ai:=
 (bif(decide (v35<7))then bif(decide ((((v16.length:Int)+1)*72)<=140737488355328))then bif((decide ((-9223372036854775808)<=(((v16.length:Int)+1)-1)))&&(decide ((((v16.length:Int)+1)-1)<=9223372036854775807)))then(ab (fun go1 s=>aN n go0 go1 v15 s.1 s.2) n (((((v16.length:Int)+1)-1),(v16++[[(AV.int v8),(AV.int (cI v16 (((v16.length:Int)-v28)-1) 2)),(AV.int (Int.tmod (v23+1) 8)),(AV.int v31),(AV.int v25),(AV.bool v26),(AV.sl (.cons .int (.cons .int (.cons .int .nil))) v27)]])):am))else none else none
 else bif(decide ((((v16.length:Int)+1)*72)<=140737488355328))then bif((decide ((-9223372036854775808)<=(((v16.length:Int)+1)-1)))&&(decide ((((v16.length:Int)+1)-1)<=9223372036854775807)))then(ab (fun go1 s=>Eo n go0 go1 v15 s.1 s.2) n (((((v16.length:Int)+1)-1),(v16++[[(AV.int v8),(AV.int (cI v16 (((v16.length:Int)-v28)-1) 2)),(AV.int (Int.tmod (v23+1) 8)),(AV.int v24),(AV.int v25),(AV.bool v26),(AV.sl (.cons .int (.cons .int (.cons .int .nil))) v27)]])):am))else none else none)
abbrev FA:= @aN
def Gi(n:Nat) (go0:am->Option ai) (v7:Lv) (v8 v15:Int) (v16:Lv) (v23 v24 v25:Int) (v26:Bool) (v27:Lv) (v28 v31:Int):Option ai:=
 (bif(decide (0<=v31))then bif((decide ((-9223372036854775808)<=(Int.tdiv (cI v7 v15 7) 16)))&&(decide ((Int.tdiv (cI v7 v15 7) 16)<=9223372036854775807)))then(bX n (Int.tdiv (cI v7 v15 7) 16) 8).bind fun y35=>
 HN n go0 v8 v15 v16 v23 v24 v25 v26 v27 v28 v31 y35 else none
 else bif(decide ((((v16.length:Int)+1)*72)<=140737488355328))then bif((decide ((-9223372036854775808)<=(((v16.length:Int)+1)-1)))&&(decide ((((v16.length:Int)+1)-1)<=9223372036854775807)))then(ab (fun go1 s=>FA n go0 go1 v15 s.1 s.2) n (((((v16.length:Int)+1)-1),(v16++[[(AV.int v8),(AV.int (cI v16 (((v16.length:Int)-v28)-1) 2)),(AV.int (Int.tmod (v23+1) 8)),(AV.int v24),(AV.int v25),(AV.bool v26),(AV.sl (.cons .int (.cons .int (.cons .int .nil))) v27)]])):am))else none else none)
abbrev FZ:= @aN
abbrev Fz:= @aN
def FX(n:Nat) (go0:am->Option ai) (v8 v15:Int) (v16:Lv) (v23 v24 v25:Int) (v26:Bool) (v27:Lv) (v28 v31 v35:Int):Option ai:=
 (bif(decide (v35<7))then bif(decide ((((v16.length:Int)+1)*72)<=140737488355328))then bif((decide ((-9223372036854775808)<=(((v16.length:Int)+1)-1)))&&(decide ((((v16.length:Int)+1)-1)<=9223372036854775807)))then(ab (fun go1 s=>FZ n go0 go1 v15 s.1 s.2) n (((((v16.length:Int)+1)-1),(v16++[[(AV.int v8),(AV.int (cI v16 (((v16.length:Int)-v28)-1) 2)),(AV.int v23),(AV.int v31),(AV.int v25),(AV.bool v26),(AV.sl (.cons .int (.cons .int (.cons .int .nil))) v27)]])):am))else none else none
 else bif(decide ((((v16.length:Int)+1)*72)<=140737488355328))then bif((decide ((-9223372036854775808)<=(((v16.length:Int)+1)-1)))&&(decide ((((v16.length:Int)+1)-1)<=9223372036854775807)))then(ab (fun go1 s=>Fz n go0 go1 v15 s.1 s.2) n (((((v16.length:Int)+1)-1),(v16++[[(AV.int v8),(AV.int (cI v16 (((v16.length:Int)-v28)-1) 2)),(AV.int v23),(AV.int v24),(AV.int v25),(AV.bool v26),(AV.sl (.cons .int (.cons .int (.cons .int .nil))) v27)]])):am))else none else none)
abbrev FO:= @aN
def ER(n:Nat) (go0:am->Option ai) (v7:Lv) (v8 v15:Int) (v16:Lv) (v23 v24 v25:Int) (v26:Bool) (v27:Lv) (v28 v31:Int):Option ai:=
 (bif(decide (0<=v31))then bif((decide ((-9223372036854775808)<=(Int.tdiv (cI v7 v15 7) 16)))&&(decide ((Int.tdiv (cI v7 v15 7) 16)<=9223372036854775807)))then(bX n (Int.tdiv (cI v7 v15 7) 16) 8).bind fun y35=>
 FX n go0 v8 v15 v16 v23 v24 v25 v26 v27 v28 v31 y35 else none
 else bif(decide ((((v16.length:Int)+1)*72)<=140737488355328))then bif((decide ((-9223372036854775808)<=(((v16.length:Int)+1)-1)))&&(decide ((((v16.length:Int)+1)-1)<=9223372036854775807)))then(ab (fun go1 s=>FO n go0 go1 v15 s.1 s.2) n (((((v16.length:Int)+1)-1),(v16++[[(AV.int v8),(AV.int (cI v16 (((v16.length:Int)-v28)-1) 2)),(AV.int v23),(AV.int v24),(AV.int v25),(AV.bool v26),(AV.sl (.cons .int (.cons .int (.cons .int .nil))) v27)]])):am))else none else none)
def Gu(n:Nat) (go0:am->Option ai) (v7:Lv) (v8:Int) (v14:Lv) (v15:Int) (v16:Lv) (v23 v24 v25:Int) (v26:Bool) (v27:Lv) (v28:Int):Option ai:=
 (bif(decide ((cI v16 (((v16.length:Int)-v28)-1) 2)=v23))then bif((decide ((-9223372036854775808)<=(v23+1)))&&(decide ((v23+1)<=9223372036854775807)))then(dF n v14 v25).bind fun y30=>
 Gi n go0 v7 v8 v15 v16 v23 v24 v25 v26 v27 v28 y30.2.1 else none
 else(dF n v14 v25).bind fun y30=>
 ER n go0 v7 v8 v15 v16 v23 v24 v25 v26 v27 v28 y30.2.1)
abbrev EQ:= @aN
abbrev EZ:= @aN
def Fk(n:Nat) (go0:am->Option ai) (v8 v9 v15:Int) (v16:Lv) (v23 v24 v25:Int) (v26:Bool) (v27:Lv) (v31 v35:Int):Option ai:=
 (bif(decide (v35<7))then bif(decide ((((v16.length:Int)+1)*72)<=140737488355328))then bif((decide ((-9223372036854775808)<=(((v16.length:Int)+1)-1)))&&(decide ((((v16.length:Int)+1)-1)<=9223372036854775807)))then(ab (fun go1 s=>EQ n go0 go1 v15 s.1 s.2) n (((((v16.length:Int)+1)-1),(v16++[[(AV.int v8),(AV.int v9),(AV.int (Int.tmod (v23+1) 8)),(AV.int v31),(AV.int v25),(AV.bool v26),(AV.sl (.cons .int (.cons .int (.cons .int .nil))) v27)]])):am))else none else none
 else bif(decide ((((v16.length:Int)+1)*72)<=140737488355328))then bif((decide ((-9223372036854775808)<=(((v16.length:Int)+1)-1)))&&(decide ((((v16.length:Int)+1)-1)<=9223372036854775807)))then(ab (fun go1 s=>EZ n go0 go1 v15 s.1 s.2) n (((((v16.length:Int)+1)-1),(v16++[[(AV.int v8),(AV.int v9),(AV.int (Int.tmod (v23+1) 8)),(AV.int v24),(AV.int v25),(AV.bool v26),(AV.sl (.cons .int (.cons .int (.cons .int .nil))) v27)]])):am))else none else none)
abbrev Ep:= @aN
def E0(n:Nat) (go0:am->Option ai) (v7:Lv) (v8 v9 v15:Int) (v16:Lv) (v23 v24 v25:Int) (v26:Bool) (v27:Lv) (v31:Int):Option ai:=
 (bif(decide (0<=v31))then bif((decide ((-9223372036854775808)<=(Int.tdiv (cI v7 v15 7) 16)))&&(decide ((Int.tdiv (cI v7 v15 7) 16)<=9223372036854775807)))then(bX n (Int.tdiv (cI v7 v15 7) 16) 8).bind fun y35=>
 Fk n go0 v8 v9 v15 v16 v23 v24 v25 v26 v27 v31 y35 else none
 else bif(decide ((((v16.length:Int)+1)*72)<=140737488355328))then bif((decide ((-9223372036854775808)<=(((v16.length:Int)+1)-1)))&&(decide ((((v16.length:Int)+1)-1)<=9223372036854775807)))then(ab (fun go1 s=>Ep n go0 go1 v15 s.1 s.2) n (((((v16.length:Int)+1)-1),(v16++[[(AV.int v8),(AV.int v9),(AV.int (Int.tmod (v23+1) 8)),(AV.int v24),(AV.int v25),(AV.bool v26),(AV.sl (.cons .int (.cons .int (.cons .int .nil))) v27)]])):am))else none else none)
abbrev FQ:= @aN
abbrev Fo:= @aN
def EJ(n:Nat) (go0:am->Option ai) (v8 v9 v15:Int) (v16:Lv) (v23 v24 v25:Int) (v26:Bool) (v27:Lv) (v31 v35:Int):Option ai:=
 (bif(decide (v35<7))then bif(decide ((((v16.length:Int)+1)*72)<=140737488355328))then bif((decide ((-9223372036854775808)<=(((v16.length:Int)+1)-1)))&&(decide ((((v16.length:Int)+1)-1)<=9223372036854775807)))then(ab (fun go1 s=>FQ n go0 go1 v15 s.1 s.2) n (((((v16.length:Int)+1)-1),(v16++[[(AV.int v8),(AV.int v9),(AV.int v23),(AV.int v31),(AV.int v25),(AV.bool v26),(AV.sl (.cons .int (.cons .int (.cons .int .nil))) v27)]])):am))else none else none
 else bif(decide ((((v16.length:Int)+1)*72)<=140737488355328))then bif((decide ((-9223372036854775808)<=(((v16.length:Int)+1)-1)))&&(decide ((((v16.length:Int)+1)-1)<=9223372036854775807)))then(ab (fun go1 s=>Fo n go0 go1 v15 s.1 s.2) n (((((v16.length:Int)+1)-1),(v16++[[(AV.int v8),(AV.int v9),(AV.int v23),(AV.int v24),(AV.int v25),(AV.bool v26),(AV.sl (.cons .int (.cons .int (.cons .int .nil))) v27)]])):am))else none else none)
abbrev Ey:= @aN
def ED(n:Nat) (go0:am->Option ai) (v7:Lv) (v8 v9 v15:Int) (v16:Lv) (v23 v24 v25:Int) (v26:Bool) (v27:Lv) (v31:Int):Option ai:=
 (bif(decide (0<=v31))then bif((decide ((-9223372036854775808)<=(Int.tdiv (cI v7 v15 7) 16)))&&(decide ((Int.tdiv (cI v7 v15 7) 16)<=9223372036854775807)))then(bX n (Int.tdiv (cI v7 v15 7) 16) 8).bind fun y35=>
 EJ n go0 v8 v9 v15 v16 v23 v24 v25 v26 v27 v31 y35 else none
 else bif(decide ((((v16.length:Int)+1)*72)<=140737488355328))then bif((decide ((-9223372036854775808)<=(((v16.length:Int)+1)-1)))&&(decide ((((v16.length:Int)+1)-1)<=9223372036854775807)))then(ab (fun go1 s=>Ey n go0 go1 v15 s.1 s.2) n (((((v16.length:Int)+1)-1),(v16++[[(AV.int v8),(AV.int v9),(AV.int v23),(AV.int v24),(AV.int v25),(AV.bool v26),(AV.sl (.cons .int (.cons .int (.cons .int .nil))) v27)]])):am))else none else none)
def Fh(n:Nat) (go0:am->Option ai) (v7:Lv) (v8 v9:Int) (v14:Lv) (v15:Int) (v16:Lv) (v23 v24 v25:Int) (v26:Bool) (v27:Lv):Option ai:=
 (bif(decide (v9=v23))then bif((decide ((-9223372036854775808)<=(v23+1)))&&(decide ((v23+1)<=9223372036854775807)))then(dF n v14 v25).bind fun y30=>
 E0 n go0 v7 v8 v9 v15 v16 v23 v24 v25 v26 v27 y30.2.1 else none
 else(dF n v14 v25).bind fun y30=>
 ED n go0 v7 v8 v9 v15 v16 v23 v24 v25 v26 v27 y30.2.1)
def wm(n:Nat) (go0:am->Option ai) (v7:Lv) (v8 v9:Int) (v14:Lv) (v15:Int) (v16:Lv) (v23 v24 v25:Int) (v26:Bool) (v27:Lv) (v28:Int):Option ai:=
 (bif(decide (0<((v16.length:Int)-v28)))then bif((decide ((-9223372036854775808)<=(((v16.length:Int)-v28)-1)))&&(decide ((((v16.length:Int)-v28)-1)<=9223372036854775807)))then bif(decide (0<=(((v16.length:Int)-v28)-1)))then bif(decide ((((v16.length:Int)-v28)-1)<(v16.length:Int)))then Gu n go0 v7 v8 v14 v15 v16 v23 v24 v25 v26 v27 v28 else none else none else none
 else Fh n go0 v7 v8 v9 v14 v15 v16 v23 v24 v25 v26 v27)
abbrev FL:= @aN
abbrev FD:= @aN
def Fj(n:Nat) (go0:am->Option ai) (v8 v15:Int) (v16:Lv) (v22 v23 v24 v25:Int) (v26:Bool) (v27:Lv) (v31 v35:Int):Option ai:=
 (bif(decide (v35<7))then bif(decide ((((v16.length:Int)+1)*72)<=140737488355328))then bif((decide ((-9223372036854775808)<=(((v16.length:Int)+1)-1)))&&(decide ((((v16.length:Int)+1)-1)<=9223372036854775807)))then(ab (fun go1 s=>FL n go0 go1 v15 s.1 s.2) n (((((v16.length:Int)+1)-1),(v16++[[(AV.int v8),(AV.int v22),(AV.int (Int.tmod (v23+1) 8)),(AV.int v31),(AV.int v25),(AV.bool v26),(AV.sl (.cons .int (.cons .int (.cons .int .nil))) v27)]])):am))else none else none
 else bif(decide ((((v16.length:Int)+1)*72)<=140737488355328))then bif((decide ((-9223372036854775808)<=(((v16.length:Int)+1)-1)))&&(decide ((((v16.length:Int)+1)-1)<=9223372036854775807)))then(ab (fun go1 s=>FD n go0 go1 v15 s.1 s.2) n (((((v16.length:Int)+1)-1),(v16++[[(AV.int v8),(AV.int v22),(AV.int (Int.tmod (v23+1) 8)),(AV.int v24),(AV.int v25),(AV.bool v26),(AV.sl (.cons .int (.cons .int (.cons .int .nil))) v27)]])):am))else none else none)
abbrev E5:= @aN
def Fu(n:Nat) (go0:am->Option ai) (v7:Lv) (v8 v15:Int) (v16:Lv) (v22 v23 v24 v25:Int) (v26:Bool) (v27:Lv) (v31:Int):Option ai:=
 (bif(decide (0<=v31))then bif((decide ((-9223372036854775808)<=(Int.tdiv (cI v7 v15 7) 16)))&&(decide ((Int.tdiv (cI v7 v15 7) 16)<=9223372036854775807)))then(bX n (Int.tdiv (cI v7 v15 7) 16) 8).bind fun y35=>
 Fj n go0 v8 v15 v16 v22 v23 v24 v25 v26 v27 v31 y35 else none
 else bif(decide ((((v16.length:Int)+1)*72)<=140737488355328))then bif((decide ((-9223372036854775808)<=(((v16.length:Int)+1)-1)))&&(decide ((((v16.length:Int)+1)-1)<=9223372036854775807)))then(ab (fun go1 s=>E5 n go0 go1 v15 s.1 s.2) n (((((v16.length:Int)+1)-1),(v16++[[(AV.int v8),(AV.int v22),(AV.int (Int.tmod (v23+1) 8)),(AV.int v24),(AV.int v25),(AV.bool v26),(AV.sl (.cons .int (.cons .int (.cons .int .nil))) v27)]])):am))else none else none)
abbrev En:= @aN
abbrev EK:= @aN
def E9(n:Nat) (go0:am->Option ai) (v8 v15:Int) (v16:Lv) (v22 v23 v24 v25:Int) (v26:Bool) (v27:Lv) (v31 v35:Int):Option ai:=
 (bif(decide (v35<7))then bif(decide ((((v16.length:Int)+1)*72)<=140737488355328))then bif((decide ((-9223372036854775808)<=(((v16.length:Int)+1)-1)))&&(decide ((((v16.length:Int)+1)-1)<=9223372036854775807)))then(ab (fun go1 s=>En n go0 go1 v15 s.1 s.2) n (((((v16.length:Int)+1)-1),(v16++[[(AV.int v8),(AV.int v22),(AV.int v23),(AV.int v31),(AV.int v25),(AV.bool v26),(AV.sl (.cons .int (.cons .int (.cons .int .nil))) v27)]])):am))else none else none
 else bif(decide ((((v16.length:Int)+1)*72)<=140737488355328))then bif((decide ((-9223372036854775808)<=(((v16.length:Int)+1)-1)))&&(decide ((((v16.length:Int)+1)-1)<=9223372036854775807)))then(ab (fun go1 s=>EK n go0 go1 v15 s.1 s.2) n (((((v16.length:Int)+1)-1),(v16++[[(AV.int v8),(AV.int v22),(AV.int v23),(AV.int v24),(AV.int v25),(AV.bool v26),(AV.sl (.cons .int (.cons .int (.cons .int .nil))) v27)]])):am))else none else none)
abbrev Fy:= @aN
def Fd(n:Nat) (go0:am->Option ai) (v7:Lv) (v8 v15:Int) (v16:Lv) (v22 v23 v24 v25:Int) (v26:Bool) (v27:Lv) (v31:Int):Option ai:=
 (bif(decide (0<=v31))then bif((decide ((-9223372036854775808)<=(Int.tdiv (cI v7 v15 7) 16)))&&(decide ((Int.tdiv (cI v7 v15 7) 16)<=9223372036854775807)))then(bX n (Int.tdiv (cI v7 v15 7) 16) 8).bind fun y35=>
 E9 n go0 v8 v15 v16 v22 v23 v24 v25 v26 v27 v31 y35 else none
 else bif(decide ((((v16.length:Int)+1)*72)<=140737488355328))then bif((decide ((-9223372036854775808)<=(((v16.length:Int)+1)-1)))&&(decide ((((v16.length:Int)+1)-1)<=9223372036854775807)))then(ab (fun go1 s=>Fy n go0 go1 v15 s.1 s.2) n (((((v16.length:Int)+1)-1),(v16++[[(AV.int v8),(AV.int v22),(AV.int v23),(AV.int v24),(AV.int v25),(AV.bool v26),(AV.sl (.cons .int (.cons .int (.cons .int .nil))) v27)]])):am))else none else none)
def Fn(n:Nat) (go0:am->Option ai) (v7:Lv) (v8:Int) (v14:Lv) (v15:Int) (v16:Lv) (v22 v23 v24 v25:Int) (v26:Bool) (v27:Lv):Option ai:=
 (bif(decide (v22=v23))then bif((decide ((-9223372036854775808)<=(v23+1)))&&(decide ((v23+1)<=9223372036854775807)))then(dF n v14 v25).bind fun y30=>
 Fu n go0 v7 v8 v15 v16 v22 v23 v24 v25 v26 v27 y30.2.1 else none
 else(dF n v14 v25).bind fun y30=>
 Fd n go0 v7 v8 v15 v16 v22 v23 v24 v25 v26 v27 y30.2.1)
def xM(n:Nat) (go0:am->Option ai) (v7:Lv) (v8 v9:Int) (v14:Lv) (v15:Int) (v16:Lv) (v22 v23 v24 v25:Int) (v26:Bool) (v27:Lv) (v28 v29:Int):Option ai:=
 (bif(decide (v29<15))then wm n go0 v7 v8 v9 v14 v15 v16 v23 v24 v25 v26 v27 v28
 else Fn n go0 v7 v8 v14 v15 v16 v22 v23 v24 v25 v26 v27)
def xa(n:Nat) (go0:am->Option ai) (v2 v3 v4 v5:Int) (v7:Lv) (v8 v9 v10 v11 v12 v13:Int) (v14:Lv) (v15:Int) (v16:Lv):Option ai:=
 (bif(decide (v15<5))then bif(decide (0<=v15))then(jG n v2 v3 v4 v5 (cI v7 v15 0) (cI v7 v15 1) (cI v7 v15 2) (cI v7 v15 3) (cI v7 v15 4) (cI v7 v15 5) (cL v7 v15 6)).bind fun y17=>
 (bX n (cI v7 v15 7) 3).bind fun y28=>
 bif((decide ((-9223372036854775808)<=((v16.length:Int)-y28)))&&(decide (((v16.length:Int)-y28)<=9223372036854775807)))then(bX n (cI v7 v15 7) 16).bind fun y29=>
 xM n go0 v7 v8 v9 v14 v15 v16 y17.2.2.2.2.2.1 y17.2.2.2.2.2.2.1 y17.2.2.2.2.2.2.2.1 y17.2.2.2.2.2.2.2.2.1 y17.2.2.2.2.2.2.2.2.2.1 y17.2.2.2.2.2.2.2.2.2.2 y28 y29 else none else none
 else some (v8,v9,v10,v11,v12,v13,v14,v16))
def vE(n:Nat) (go0:am->Option ai) (v2 v3 v4 v5:Int) (v7:Lv) (v8 v9 v10 v11 v12 v13:Int) (v14:Lv) (v15:Int) (v16:Lv):Option ai:=
 (bif(decide (v15<(v7.length:Int)))then xa n go0 v2 v3 v4 v5 v7 v8 v9 v10 v11 v12 v13 v14 v15 v16
 else some (v8,v9,v10,v11,v12,v13,v14,v16))
def wU(n:Nat) (v0 v1 v2 v3 v4 v5:Int) (v6 v7:Lv):Option ai:=
 (bX n v0 100000000).bind fun y8=>
 (bX n v1 8).bind fun y9=>
 (dB n v2 v3 v4 v5).bind fun y10=>
 (j9 n v6).bind fun y14=>
 (ab (fun go0 s=>vE n go0 v2 v3 v4 v5 v7 y8 y9 y10.1 y10.2.1 y10.2.2.1 y10.2.2.2 y14 s.1 s.2) n ((0,([]:Lv)):am))
def jM(n:Nat) (v0 v1 v2 v3 v4 v5:Int) (v6 v7:Lv):Option ai:=wU n v0 v1 v2 v3 v4 v5 v6 v7
def ref17_Made_t:FnT:=⟨[(true,[.int,.int,.int,.int,.int,.int,(.sl (.cons .int (.cons .int (.cons .int .nil)))),(.sl (.cons .int (.cons .int (.cons .int (.cons .int (.cons .int (.cons .int (.cons (.sl (.cons .int (.cons .int (.cons .int .nil)))) (.cons .int .nil)))))))))])],(.agg (.cons .i (.cons .i (.cons .i (.cons .i (.cons .i (.cons .i (.cons (.row 224 (.cons .int (.cons .int (.cons .int .nil)))) (.cons (.row 172 (.cons .int (.cons .int (.cons .int (.cons .int (.cons .int (.cons .bool (.cons (.sl (.cons .int (.cons .int (.cons .int .nil)))) .nil)))))))) .nil))))))))),fun n (s:Int×Int×Int×Int×Int×Int×Lv×Lv)=>jM n s.1 s.2.1 s.2.2.1 s.2.2.2.1 s.2.2.2.2.1 s.2.2.2.2.2.1 s.2.2.2.2.2.2.1 s.2.2.2.2.2.2.2⟩
theorem E3:ref17_Made_t.ok Tryz.prog 45:=FnT.ok_of (cfg:=⟨[((45,3,5),.inv [(.tmp 4 .int),(.cellrow 3 7 172 (.cons .int (.cons .int (.cons .int (.cons .int (.cons .int (.cons .bool (.cons (.sl (.cons .int (.cons .int (.cons .int .nil)))) .nil))))))))]),((45,20,24),.inv [(.tmp 12 .int),(.cellrow 3 7 172 (.cons .int (.cons .int (.cons .int (.cons .int (.cons .int (.cons .bool (.cons (.sl (.cons .int (.cons .int (.cons .int .nil)))) .nil))))))))]),((45,20,23),.inv [(.tmp 12 .int),(.cellrow 3 7 172 (.cons .int (.cons .int (.cons .int (.cons .int (.cons .int (.cons .bool (.cons (.sl (.cons .int (.cons .int (.cons .int .nil)))) .nil))))))))]),((45,20,22),.inv [(.tmp 12 .int),(.cellrow 3 7 172 (.cons .int (.cons .int (.cons .int (.cons .int (.cons .int (.cons .bool (.cons (.sl (.cons .int (.cons .int (.cons .int .nil)))) .nil))))))))]),((45,20,21),.inv [(.tmp 12 .int),(.cellrow 3 7 172 (.cons .int (.cons .int (.cons .int (.cons .int (.cons .int (.cons .bool (.cons (.sl (.cons .int (.cons .int (.cons .int .nil)))) .nil))))))))]),((45,20,20),.inv [(.tmp 12 .int),(.cellrow 3 7 172 (.cons .int (.cons .int (.cons .int (.cons .int (.cons .int (.cons .bool (.cons (.sl (.cons .int (.cons .int (.cons .int .nil)))) .nil))))))))])],Lb,[],KA⟩) (tab:=ref17_pick_T) (mt:=mtE) az o8 bB (fun s fn hf=>by rw[Tryz.func45]at hf;cases hf;kernel_rfl) (fun n s=>by kernel_rfl)
def ref17_Made_T:Tab:=(45,ref17_Made_t)::ref17_pick_T
theorem qk:ref17_Made_T.ok Tryz.prog:=Tab.ok_cons E3 o8
end
end Go.Proofs.YtgckmifmjiklmaaGreat
set_option maxRecDepth 100000
namespace Go.Proofs.YtgckmifmjiklmaaGreat
open Go Go.Sx Go.Dial.Clm Go.Dial.Lif Go.Dial.Chn
def hK(o:Lv) (a w:Int) {α:Type} (k:Lv->Option α):Option α:=
 bif((decide ((-9223372036854775808)<=((o.length:Int)-1)))&&(decide (((o.length:Int)-1)<=9223372036854775807)))then bif(decide (0<=((o.length:Int)-1)))then bif(decide (((o.length:Int)-1)<(o.length:Int)))then(bif(decide ((cI o ((o.length:Int)-1) 1)=a))then bif(decide (((o.length:Int)-1)<=(o.length:Int)))then bif((decide ((-9223372036854775808)<=(((o.length:Int)-1)-1)))&&(decide ((((o.length:Int)-1)-1)<=9223372036854775807)))then(bif(decide ((((o.length:Int)-1)-1)<0))then bif(decide (((((List.take (((o.length:Int)-1)).toNat o).length:Int)+1)*24)<=140737488355328))then k ((List.take (((o.length:Int)-1)).toNat o)++[[(AV.int w),(AV.int a),(AV.int 0)]])else none
 else bif(decide (0<=(((o.length:Int)-1)-1)))then bif(decide ((((o.length:Int)-1)-1)<((List.take (((o.length:Int)-1)).toNat o).length:Int)))then(bif(!(decide ((cI (List.take (((o.length:Int)-1)).toNat o) (((o.length:Int)-1)-1) 0)=w)))then bif(decide (((((List.take (((o.length:Int)-1)).toNat o).length:Int)+1)*24)<=140737488355328))then k ((List.take (((o.length:Int)-1)).toNat o)++[[(AV.int w),(AV.int a),(AV.int 0)]])else none
 else k (List.take (((o.length:Int)-1)).toNat o))else none else none)else none else none
 else(bif(decide (((o.length:Int)-1)<0))then bif(decide ((((o.length:Int)+1)*24)<=140737488355328))then k ((List.modify o (((o.length:Int)-1)).toNat (fun r=>r.set 2 (AV.int a)))++[[(AV.int w),(AV.int a),(AV.int 0)]])else none
 else(bif(!(decide ((cI (List.modify o (((o.length:Int)-1)).toNat (fun r=>r.set 2 (AV.int a))) ((o.length:Int)-1) 0)=w)))then bif(decide ((((o.length:Int)+1)*24)<=140737488355328))then k ((List.modify o (((o.length:Int)-1)).toNat (fun r=>r.set 2 (AV.int a)))++[[(AV.int w),(AV.int a),(AV.int 0)]])else none
 else k (List.modify o (((o.length:Int)-1)).toNat (fun r=>r.set 2 (AV.int a))))))else none else none else none
end Go.Proofs.YtgckmifmjiklmaaGreat
namespace Go.Dial.Chn
open Go.Dial.Clm Go.Dial.Lif
def lst(now:Cs) (l:List Cs):Cs:=l.getLast?.getD now
theorem LQ(now x:Cs) (l:List Cs):lst now (x::l)=lst x l:=by
 cases l<;>simp[lst,List.getLast?_cons]
def yx(r:Rl) (i:Nat) (now:Cs) (L:List Hp) (z:Cs):Prop:=
 (now.s<=3->(L=[]/\6<=z.s)\/(∃f,now.f<=f/\L=[⟨f,i,false⟩]/\z=⟨5,f+r.r,-1⟩)\/(∃f g,now.f<=f/\f<=g/\g<f+r.r/\L=[⟨f,i,false⟩,⟨g,i,true⟩]/\z.s=8)) ∧
 (now.s=4->(L=[]/\z=⟨5,now.f+r.r,-1⟩)\/(∃g,now.f<=g/\g<now.f+r.r/\L=[⟨g,i,true⟩]/\z.s=8)) ∧
 (5<=now.s->L=[]/\z=now)
theorem tG{r:Rl} {i:Nat} {now:Cs} {s f:Int} {l:List Cs} (h:yx r i (st r s f) (l.filterMap (bG i)) (lst (st r s f) l)) (hf:now.f<=f)
  (hs:(now.s<=3/\(s=2\/s=3\/s=4\/s=6\/s=7))\/(now.s=4/\((s=5/\f=now.f+r.r)\/(s=8/\f<now.f+r.r)))):
  yx r i now ((st r s f::l).filterMap (bG i)) (lst now (st r s f::l)):=by
 rw[LQ,List.filterMap_cons]
 have e1:(st r s f).s=s:=rfl
 have e2:(st r s f).f=f:=rfl
 unfold yx at h⊢
 rw[e1,e2]at h
 obtain⟨h1,h2,h3⟩:=h
 rcases hs with⟨q,hs⟩|⟨q,hs⟩
 ·refine⟨fun _=>?_,fun h=>by omega,fun h=>by omega⟩
  rcases hs with rfl|rfl|rfl|rfl|rfl
  ·have:bG i (st r 2 f)=none:=rfl
   rw[this];simp only
   rcases h1 (by decide)with h|⟨a,b,c⟩|⟨a,b,c,d⟩
   ·exact .inl h
   ·exact .inr (.inl ⟨a,by omega,c⟩)
   ·exact .inr (.inr ⟨a,b,by omega,d⟩)
  ·have:bG i (st r 3 f)=none:=rfl
   rw[this];simp only
   rcases h1 (by decide)with h|⟨a,b,c⟩|⟨a,b,c,d⟩
   ·exact .inl h
   ·exact .inr (.inl ⟨a,by omega,c⟩)
   ·exact .inr (.inr ⟨a,b,by omega,d⟩)
  ·have:bG i (st r 4 f)=some ⟨f,i,false⟩:=rfl
   rw[this];simp only
   rcases h2 rfl with⟨h,g⟩|⟨g,a,b,c,d⟩
   ·exact .inr (.inl ⟨f,hf,by rw[h],g⟩)
   ·exact .inr (.inr ⟨f,g,hf,a,b,by rw[c],d⟩)
  ·have:bG i (st r 6 f)=none:=rfl
   rw[this];simp only
   obtain⟨h,g⟩:=h3 (by decide)
   exact .inl ⟨h,by rw[g,e1];decide⟩
  ·have:bG i (st r 7 f)=none:=rfl
   rw[this];simp only
   obtain⟨h,g⟩:=h3 (by decide)
   exact .inl ⟨h,by rw[g,e1];decide⟩
 ·refine⟨fun h=>by omega,fun _=>?_,fun h=>by omega⟩
  rcases hs with⟨rfl,hf'⟩|⟨rfl,hf'⟩
  ·have:bG i (st r 5 f)=none:=rfl
   rw[this];simp only
   obtain⟨h,g⟩:=h3 (by decide)
   exact .inl ⟨h,by rw[g,<-hf'];rfl⟩
  ·have:bG i (st r 8 f)=some ⟨f,i,true⟩:=rfl
   rw[this];simp only
   obtain⟨h,g⟩:=h3 (by decide)
   exact .inr ⟨f,hf,hf',by rw[h],by rw[g];rfl⟩
theorem Mx{r:Rl} (hr:RlV r) {b:Bool} {i:Nat}:∀(m:Nat) (now:Cs) (es:List Ce),5*es.length+rk now.s<=m->1<=now.s->(act now->now.n=now.f+dur r now.s)->EvV now.f es →
  yx r i now ((tl r b now es).filterMap (bG i)) (lst now (tl r b now es)):=by
 have nil:∀now:Cs,5<=now.s->yx r i now (([]:List Cs).filterMap (bG i)) (lst now []):=fun now h=>⟨fun h=>by omega,fun h=>by omega,fun _=>⟨rfl,rfl⟩⟩
 have ni:∀s f,act (st r s f)->(st r s f).n=(st r s f).f+dur r (st r s f).s:=fun s f ha=>by
  unfold act at ha
  simp only[st]at ha⊢
  rw[if_pos ha]
 have auto:∀now:Cs,act now->now.n=now.f+dur r now.s->(now.s<=3/\(aft now.s=2\/aft now.s=3\/aft now.s=4\/aft now.s=6\/aft now.s=7))\/(now.s=4/\((aft now.s=5/\now.n=now.f+r.r)\/(aft now.s=8/\now.n<now.f+r.r))):=by
  intro now ha hn
  unfold act at ha
  have:now.s=1\/now.s=2\/now.s=3\/now.s=4:=by omega
  rcases this with h|h|h|h<;>rw[h]at hn⊢<;>simp[aft,dur]at hn⊢
  exact hn
 have later:∀now:Cs,act now->now.n=now.f+dur r now.s->now.f<now.n:=fun now _ h=>by
  have:=Lc hr now.s
  omega
 have aft1:∀s,1<=s->1<=aft s:=fun s h=>by unfold aft;split;omega;split<;>omega
 intro m
 induction m with
 | zero=>
  intro now es hm h1 hn hE
  have he:es=[]:=by
   cases es with
   |nil=>rfl
   |cons e es=>simp at hm
  subst he
  by_cases ha:act now
  ·have:=cK ha;omega
  ·rw[j5 ha]
   exact nil now (by unfold act at ha;omega)
 | succ m ih=>
  intro now es hm h1 hn hE
  cases es with
  | nil=>
   by_cases ha:act now
   ·rw[r7 ha]
    exact tG (ih (st r (aft now.s) now.n) [] (by have:=cK ha;simp only[st];omega) (aft1 _ h1) (ni _ _) trivial) (Int.le_of_lt (later now ha (hn ha))) (auto now ha (hn ha))
   ·rw[j5 ha]
    exact nil now (by unfold act at ha;omega)
  | cons e es=>
   obtain⟨hc,hE'⟩:=hE
   by_cases ha:act now/\now.n<=e.a
   ·rw[nj ha]
    exact tG (ih (st r (aft now.s) now.n) (e::es) (by have:=cK ha.1;simp only[st];omega) (aft1 _ h1) (ni _ _) ⟨⟨hc.1,hc.2.1,ha.2,hc.2.2.2⟩,hE'⟩) (Int.le_of_lt (later now ha.1 (hn ha.1))) (auto now ha.1 (hn ha.1))
   ·by_cases hbb:bec b now.s e<0
    ·rw[ng ha hbb]
     exact ih now es (by simp only[List.length_cons]at hm;omega) h1 hn (LW hE' hc.2.2.1)
    ·rw[yT ha hbb]
     have h8:=DG hbb
     refine tG (ih (st r (bec b now.s e) e.a) es (by simp only[List.length_cons]at hm;have:=eH (st r (bec b now.s e) e.a).s;omega) (by simp only[st];omega) (ni _ _) hE') hc.2.2.1 ?_
     rcases h8 with⟨q1,q2,q3⟩|⟨q1,q2⟩
     ·exact .inl ⟨q2,by omega⟩
     ·have hact:act now:=⟨by omega,by omega⟩
      have:=hn hact
      have hd:dur r now.s=r.r:=by rw[q1];rfl
      refine .inr ⟨q1,.inr ⟨q2,?_⟩⟩
      have:¬now.n<=e.a:=fun h=>ha ⟨hact,h⟩
      omega
theorem Jt{r:Rl} {c:Cl} {es:List Ce} (h:dq r c es) (i:Nat):yx r i (x0 r c) ((ar r c es).filterMap (bG i)) (lst (x0 r c) (tl r c.b (x0 r c) es)):=by
 have:=Mx h.1 (b:=c.b) (i:=i) _ (x0 r c) es (Nat.le_refl _) (show(1:Int)<=1 by decide) (fun _=>by simp[x0,st,dur]) h.2.2.2
 unfold ar
 rw[List.filterMap_cons]
 have h0:bG i (x0 r c)=none:=by unfold bG x0 st;simp
 rw[h0]
 exact this
theorem BP{r:Rl} {c:Cl} {es:List Ce} (h:dq r c es) (i:Nat):((ar r c es).filterMap (bG i)=[]/\6<=(lst (x0 r c) (tl r c.b (x0 r c) es)).s) ∨
 (∃f,c.a<=f/\(ar r c es).filterMap (bG i)=[⟨f,i,false⟩]/\lst (x0 r c) (tl r c.b (x0 r c) es)=⟨5,f+r.r,-1⟩) ∨
 (∃f g,c.a<=f/\f<=g/\g<f+r.r/\(ar r c es).filterMap (bG i)=[⟨f,i,false⟩,⟨g,i,true⟩]/\(lst (x0 r c) (tl r c.b (x0 r c) es)).s=8):=(Jt h i).1 (show(1:Int)<=3 by decide)
theorem L3(x:Hp) (l:List Hp):(ins x l).Perm (x::l):=by
 induction l with
 |nil=>exact List.Perm.refl _
 |cons y l ih=>
  unfold ins
  split
  ·exact List.Perm.refl _
  ·exact(List.Perm.cons y ih).trans (List.Perm.swap x y l)
theorem Jg(l:List Hp):(gy l).Perm l:=by
 have:∀(l acc:List Hp),(l.foldl (fun acc x=>ins x acc) acc).Perm (l++acc):=by
  intro l
  induction l with
  |nil=>intro acc;exact List.Perm.refl _
  |cons x l ih=>
   intro acc
   rw[List.foldl_cons]
   refine(ih _).trans ?_
   refine((L3 x acc).append_left l).trans ?_
   exact List.perm_middle
 have:=this l []
 rw[List.append_nil]at this
 exact this
theorem Aq{n:Int} {r:Rl}:∀ {ps:List Pt} {last:Int},PtsV n r last ps->∀p∈ps,p.c.n=n/\dq r p.c p.es
 |[],_,_,p,h=>by cases h
 |q::ps,_,hv,p,h=>by
  rcases List.mem_cons.1 h with rfl|h
  ·exact⟨hv.1.1,hv.1.2.1⟩
  ·exact Aq hv.2 p h
def Good(c:Ch):Prop:=ChV c/\∀p∈c.ps,F7 c.r p.c<=400000
theorem ch_clm{c:Ch} (h:ChV c) {k:Nat} {p:Pt} (hp:c.ps[k]?=some p):dq c.r p.c p.es:=(Aq h.2.2.2.2.2.2 p (List.mem_of_getElem? hp)).2
theorem D8{c:Ch} {k:Nat} {p:Pt} (hp:c.ps[k]?=some p):portAt c (k:Int)=p:=by simp[portAt,hp]
def hpP(c:Ch) (k:Nat):List Hp:=(ar c.r (portAt c k).c (portAt c k).es).filterMap (bG k)
def wO(c:Ch) (x:Int):Int:=match hpP c x.toNat with
 |h::_=>h.a
 |[]=>0
theorem Np{c:Ch} {h:Hp} (hh:h∈hps c):∃(k:Nat) (p:Pt),c.ps[k]?=some p/\h.p=(k:Int)/\h∈hpP c k:=by
 obtain⟨k,p,h1,h2,x,h3,h4⟩:=tv hh
 refine⟨k,p,h1,h2,?_⟩
 unfold hpP
 rw[D8 h1]
 exact List.mem_filterMap.2 ⟨x,h3,h4⟩
theorem Kj{c:Ch} (hV:ChV c) {k:Nat} {p:Pt} (hp:c.ps[k]?=some p):hpP c k=[]\/(∃f,hpP c k=[⟨f,k,false⟩]/\wO c k=f)\/(∃f g,f<=g/\g<f+c.r.r/\hpP c k=[⟨f,k,false⟩,⟨g,k,true⟩]/\wO c k=f):=by
 unfold wO
 rw[Int.toNat_natCast]
 have hc:=BP (ch_clm hV hp) k
 have he:hpP c k=(ar c.r p.c p.es).filterMap (bG k):=by unfold hpP;rw[D8 hp]
 rw[he]
 rcases hc with⟨h,_⟩|⟨f,h1,h2,_⟩|⟨f,g,h1,h2,h3,h4,_⟩
 ·exact .inl h
 ·exact .inr (.inl ⟨f,h2,by rw[h2]⟩)
 ·exact .inr (.inr ⟨f,g,h2,h3,h4,by rw[h4]⟩)
theorem O1{c:Ch} (hV:ChV c) {h:Hp} (hh:h∈hps c) (hb:h.b=false):h=⟨wO c h.p,h.p,false⟩:=by
 obtain⟨k,p,h1,h2,h3⟩:=Np hh
 rcases Kj hV h1 with e|⟨f,e,q⟩|⟨f,g,_,_,e,q⟩
 ·rw[e]at h3;cases h3
 ·rw[e]at h3
  rw[List.mem_singleton]at h3
  rw[h2,q];exact h3
 ·rw[e]at h3
  rcases List.mem_cons.1 h3 with h3|h3
  ·rw[h2,q];exact h3
  ·rw[List.mem_singleton]at h3
   rw[h3]at hb;cases hb
theorem KT{c:Ch} (hV:ChV c):(hps c).Nodup:=by
 refine(Jg _).nodup_iff.2 ?_
 have:∀(ps:List Pt) (i:Nat),(∀p∈ps,dq c.r p.c p.es)->(dk c.r i ps).Nodup/\∀h∈dk c.r i ps,(i:Int)<=h.p:=by
  intro ps
  induction ps with
  |nil=>intro i _;exact⟨List.nodup_nil,fun h hh=>by cases hh⟩
  | cons p ps ih=>
   intro i hp
   obtain⟨h1,h2⟩:=ih (i+1) (fun q hq=>hp q (List.mem_cons_of_mem _ hq))
   have hc:=BP (hp p (List.mem_cons_self ..)) i
   have hi:((ar c.r p.c p.es).filterMap (bG i)).Nodup/\∀h∈(ar c.r p.c p.es).filterMap (bG i),h.p=(i:Int):=by
    rcases hc with⟨h,_⟩|⟨f,_,h,_⟩|⟨f,g,_,_,_,h,_⟩<;>rw[h]
    ·exact⟨List.nodup_nil,fun h hh=>by cases hh⟩
    ·exact⟨by simp,fun h hh=>by rw[List.mem_singleton]at hh;rw[hh]⟩
    ·refine⟨by simp,fun h hh=>?_⟩
     rcases List.mem_cons.1 hh with hh|hh
     ·rw[hh]
     ·rw[List.mem_singleton]at hh;rw[hh]
   refine⟨List.nodup_append.2 ⟨hi.1,h1,fun x hx y hy e=>?_⟩,fun h hh=>?_⟩
   ·have:=hi.2 x hx
    have:=h2 y hy
    rw[e]at *
    omega
   ·rcases List.mem_append.1 hh with hh|hh
    ·rw[hi.2 h hh];omega
    ·have:=h2 h hh;omega
 exact(this c.ps 0 fun p hp=>(Aq hV.2.2.2.2.2.2 p hp).2).1
theorem NM{c:Ch} (hV:ChV c) {i j:Nat} {h:Hp} (hi:(hps c)[i]?=some h) (hj:(hps c)[j]?=some h):i=j:=
 (List.getElem?_inj (List.getElem?_eq_some_iff.1 hi).1 (KT hV)).1 (hi.trans hj.symm)
def Gk(c:Ch) (i:Nat):List Int:=er c [] ((hps c).take i)
theorem NA(c:Ch):Gk c 0=[]:=rfl
theorem Na{c:Ch} {i:Nat} {h:Hp} (hi:(hps c)[i]?=some h):Gk c (i+1)=gF c (Gk c i) h:=by
 unfold Gk
 rw[List.take_add_one,hi]
 simp[er]
theorem N9{c:Ch} {i:Nat} (hi:(hps c)[i]?=none):Gk c (i+1)=Gk c i:=by
 unfold Gk
 rw[List.take_add_one,hi]
 simp
theorem GV(p:Int):∀(G:List Int),∃Z,G=Z++eU p G
 |[]=>⟨[],rfl⟩
 |x::G=>by
  obtain⟨Z,hZ⟩:=GV p G
  unfold eU
  split
  ·exact⟨x::Z,by rw[List.cons_append,<-hZ]⟩
  ·exact⟨[],rfl⟩
theorem inv{c:Ch} (hV:ChV c):∀(i:Nat) (X:List Int) (p:Int) (Y:List Int),Gk c i=X++p::Y->∃j,j<i/\(hps c)[j]?=some ⟨wO c p,p,false⟩/\Gk c j=Y/\sA c Y ⟨wO c p,p,false⟩:=by
 intro i
 induction i with
 |zero=>intro X p Y h;rw[NA]at h;simp at h
 | succ i ih=>
  intro X p Y h
  have up:∀X',Gk c i=X'++p::Y->∃j,j<i+1/\(hps c)[j]?=some ⟨wO c p,p,false⟩/\Gk c j=Y/\sA c Y ⟨wO c p,p,false⟩:=fun X' h'=>by
   obtain⟨j,h1,h2⟩:=ih X' p Y h'
   exact⟨j,by omega,h2⟩
  cases hi:(hps c)[i]? with
  |none=>rw[N9 hi]at h;exact up X h
  | some x=>
   rw[Na hi]at h
   unfold gF at h
   by_cases hb:x.b=true
   ·rw[if_pos hb]at h
    obtain⟨Z,hZ⟩:=GV x.p (Gk c i)
    rw[h]at hZ
    exact up (Z++X) (by rw[hZ,List.append_assoc])
   ·rw[if_neg hb]at h
    by_cases ht:sA c (Gk c i) x
    ·rw[if_pos ht]at h
     cases X with
     |nil=>
      cases h
      have hx:=O1 hV (List.mem_of_getElem? hi) (by simpa using hb)
      exact⟨i,by omega,by rw[<-hx];exact hi,rfl,by rw[<-hx];exact ht⟩
     |cons y X=>
      rw[List.cons_append]at h
      exact up X (List.cons.inj h).2
    ·rw[if_neg ht]at h
     exact up X h
theorem base{c:Ch} (hV:ChV c) {i i':Nat} {X X' Y Y':List Int} {p:Int} (h:Gk c i=X++p::Y) (h':Gk c i'=X'++p::Y'):Y=Y':=by
 obtain⟨j,_,h1,h2,_⟩:=inv hV i X p Y h
 obtain⟨j',_,h1',h2',_⟩:=inv hV i' X' p Y' h'
 have:=NM hV h1 h1'
 rw[<-h2,<-h2',this]
def Pp(l:List Mo) (G:List Int):List Int:=(l.getLast?.map (·.G)).getD G
def LU(c:Ch) (l:List Mo) (t:Int):Int:=aO c (Pp (l.takeWhile fun m=>decide (m.a<=t)) [])
structure HInv (c:Ch) (l:List Mo) (o:List Hd):Prop where
 ne:o≠[]
 adj:∀i (x y:Hd),o[i]?=some x->o[i+1]?=some y->y.t=x.f/\y.f<y.t/\y.c≠x.c
 bot:∀x:Hd,o.getLast?=some x->x.f=0
 sem:∀i (z:Hd),o[i+1]?=some z->∀t,z.f<=t->t<z.t->LU c l t=z.c
 top:∀x:Hd,o.head?=some x->(∀t,x.f<=t->LU c l t=x.c)/\0<=x.f/\∀b,(∀m∈l,m.a<=b)->0<=b->x.f<=b
structure HInv' (c:Ch) (a:Int) (l:List Mo) (o:List Hd):Prop where
 adj:∀i (x y:Hd),o[i]?=some x->o[i+1]?=some y->y.t=x.f/\y.f<y.t/\y.c≠x.c
 bot:∀x:Hd,o.getLast?=some x->x.f=0
 sem:∀(i:Nat) (z:Hd),o[i]?=some z->∀t,z.f<=t->t<z.t->LU c l t=z.c
 top:∀x:Hd,o.head?=some x->x.t=a/\x.f<a/\0<=x.f
 nil:o=[]->a=0
end Go.Dial.Chn
set_option maxRecDepth 100000
namespace Go.Proofs.YtgckmifmjiklmaaGreat
open Go Go.Sx Go.Dial.Clm Go.Dial.Lif Go.Dial.Chn
theorem gQ(n:Nat) {c k:Int} (hc:aj c) (hk:0<k):bX n c k=some (pk c k):=by
 unfold bX xm pk
 unfold aj at hc
 grind
def eL(N:Int) (r:Rl) (p:Pt):Prop:=p.c.n=N/\dq r p.c p.es/\p.c.a<1000/\p.es.length<=10/\∀e∈p.es,e.a<=900000
abbrev Asc(ps:List Pt):Prop:=ps.Pairwise fun p q=>p.c.a<=q.c.a
theorem Pv{α:Type} (P Q:List α) (a b:α) (f:α->α):List.modify (P++a::b::Q) P.length f=P++f a::b::Q:=by
 induction P with
 |nil=>rfl
 |cons p P ih=>simp[ih]
theorem PB{α:Type} (P Q:List α) (a b:α) (f:α->α):List.modify (P++a::b::Q) (P.length+1) f=P++a::f b::Q:=by
 induction P with
 |nil=>rfl
 |cons p P ih=>simp[ih]
theorem MV(P Q:Lv) (a b:List AV) (k:Nat):cA (P++a::b::Q) (P.length:Int) k=a.getD k (.int 0):=by simp[cA,List.getD]
theorem MW(P Q:Lv) (a b:List AV) (k:Nat):cA (P++a::b::Q) ((P.length:Int)+1) k=b.getD k (.int 0):=by
 have:((P.length:Int)+1).toNat=P.length+1:=by omega
 simp[cA,List.getD,this]
theorem Ny(P Q:Lv) (y x:Pt) (k:Int) (hk:k=(P.length:Int)+1) (L:Lv) (hL:L=P++ptR y::ptR x::Q):
  (List.modify (List.modify (List.modify (List.modify (List.modify (List.modify (List.modify (List.modify (List.modify (List.modify (List.modify (List.modify (List.modify (List.modify L (k).toNat (fun r=>r.set 0 (AV.int (cI L (k-1) 0)))) (k).toNat (fun r=>r.set 1 (AV.int (cI L (k-1) 1)))) (k).toNat (fun r=>r.set 2 (AV.int (cI L (k-1) 2)))) (k).toNat (fun r=>r.set 3 (AV.int (cI L (k-1) 3)))) (k).toNat (fun r=>r.set 4 (AV.int (cI L (k-1) 4)))) (k).toNat (fun r=>r.set 5 (AV.bool (Go.Sx.cB L (k-1) 5)))) (k).toNat (fun r=>r.set 6 (AV.sl (.cons .int (.cons .int (.cons .int .nil))) (cL L (k-1) 6)))) ((k-1)).toNat (fun r=>r.set 0 (AV.int (cI L k 0)))) ((k-1)).toNat (fun r=>r.set 1 (AV.int (cI L k 1)))) ((k-1)).toNat (fun r=>r.set 2 (AV.int (cI L k 2)))) ((k-1)).toNat (fun r=>r.set 3 (AV.int (cI L k 3)))) ((k-1)).toNat (fun r=>r.set 4 (AV.int (cI L k 4)))) ((k-1)).toNat (fun r=>r.set 5 (AV.bool (Go.Sx.cB L k 5)))) ((k-1)).toNat (fun r=>r.set 6 (AV.sl (.cons .int (.cons .int (.cons .int .nil))) (cL L k 6))))=P++ptR x::ptR y::Q:=by
 have h1:k.toNat=P.length+1:=by omega
 have h2:k-1=(P.length:Int):=by omega
 have h3:(P.length:Int).toNat=P.length:=by omega
 have a0:∀j,cA L (k-1) j=(ptR y).getD j (.int 0):=fun j=>by rw[hL,h2];exact MV P Q _ _ j
 have b0:∀j,cA L k j=(ptR x).getD j (.int 0):=fun j=>by rw[hL,hk];exact MW P Q _ _ j
 simp only[cI,Go.Sx.cB,cL,a0,b0]
 rw[h1,h2,h3,hL]
 simp only[Pv,PB]
 rfl
section
variable {Post:ai->Prop} (n:Nat) (go0:am->Option ai) (i:Int) (N:Int) (r:Rl)
theorem M8(hi:0<=i/\i<=100) (m:Nat) (hm:m<=10) (hn:200<n) (hgo:∀ps,(∀p∈ps,eL N r p)->Asc ps->ps.length=m->∃q,go0 (i+1,ptL ps)=some q/\Post q) (A B:List Pt) (x:Pt) (hl:(A++x::B).length=m)
  (hg:∀p∈A++x::B,eL N r p) (hs:Asc (A++B)) (hx:∀p∈B,x.c.a<=p.c.a):
  ∃q,ab (fun go1 s=>aN n go0 go1 i s.1 s.2) n (((A.length:Int),ptL (A++x::B)):am)=some q/\Post q:=by
 refine gC (fun s=>∃(A B:List Pt) (x:Pt),s=((A.length:Int),ptL (A++x::B))/\(A++x::B).length=m/\(∀p∈A++x::B,eL N r p)/\Asc (A++B)/\∀p∈B,x.c.a<=p.c.a) (fun s=>s.1.toNat) Post ?_ n _ ⟨A,B,x,rfl,hl,hg,hs,hx⟩ (by simp only[List.length_append,List.length_cons]at hl;simp only;omega)
 rintro _ go ⟨A,B,x,rfl,hl,hg,hs,hx⟩ ih
 simp only
 unfold aN
 have e4:(-9223372036854775808:Int)<=i+1:=by omega
 have e5:i+1<=(9223372036854775807:Int):=by omega
 have hlen:((ptL (A++x::B)).length:Int)=(m:Int):=by rw[List.length_map,hl]
 have hAm:A.length<m:=by simp only[List.length_append,List.length_cons]at hl;omega
 rcases List.eq_nil_or_concat A with rfl|⟨A',y,rfl⟩
 ·have c0:¬(0:Int)<((([]:List Pt).length:Nat):Int):=by simp
  rw[decide_eq_false c0,cond_false,decide_eq_true e4,decide_eq_true e5,Bool.and_self,cond_true]
  exact hgo _ hg (List.pairwise_cons.2 ⟨fun p hp=>hx p hp,by simpa using hs⟩) hl
 ·rw [List.concat_eq_append]at hl hg hs hlen hAm ih⊢
  have hAl:(A'++[y]).length=A'.length+1:=by simp
  rw[hAl]at hAm ih⊢
  have c0:(0:Int)<((A'.length+1:Nat):Int):=by omega
  have c1:(0:Int)<=((A'.length+1:Nat):Int):=by omega
  have c2:((A'.length+1:Nat):Int)<((ptL (A'++[y]++x::B)).length:Int):=by rw[hlen];omega
  have c3:(-9223372036854775808:Int)<=((A'.length+1:Nat):Int)-1:=by omega
  have c4:((A'.length+1:Nat):Int)-1<=(9223372036854775807:Int):=by omega
  have c5:(0:Int)<=((A'.length+1:Nat):Int)-1:=by omega
  have c6:((A'.length+1:Nat):Int)-1<((ptL (A'++[y]++x::B)).length:Int):=by rw[hlen];omega
  have hL:ptL (A'++[y]++x::B)=ptL A'++ptR y::ptR x::ptL B:=by simp
  have hk:((A'.length+1:Nat):Int)=((ptL A').length:Int)+1:=by rw[List.length_map];omega
  have g1:cI (ptL (A'++[y]++x::B)) ((A'.length+1:Nat):Int) 4=x.c.a:=by rw[hL,hk];simp only[cI,MW];rfl
  have g2:cI (ptL (A'++[y]++x::B)) (((A'.length+1:Nat):Int)-1) 4=y.c.a:=by rw[hL,hk,Int.add_sub_cancel];simp only[cI,MV];rfl
  rw[decide_eq_true c0,cond_true,decide_eq_true c1,cond_true,decide_eq_true c2,cond_true,decide_eq_true c3,decide_eq_true c4,Bool.and_self,cond_true,decide_eq_true c5,cond_true,decide_eq_true c6,cond_true,g1,g2]
  by_cases hlt:x.c.a<y.c.a
  ·rw[decide_eq_true hlt,cond_true]
   have hsw:=Ny (ptL A') (ptL B) y x _ hk _ hL
   have hgo2:=ih (((A'.length+1:Nat):Int)-1,ptL A'++ptR x::ptR y::ptL B) ?_ ?_
   ·rw[<-hsw,g1,g2]at hgo2
    exact hgo2
   refine⟨A',y::B,x,?_,by simp only[List.length_append,List.length_cons,List.length_nil]at hl⊢;omega,fun p hp=>hg p ?_,by simpa using hs,fun p hp=>?_⟩
   ·rw[show((A'.length+1:Nat):Int)-1=(A'.length:Int) by omega]
    simp
   ·simp only[List.mem_append,List.mem_cons,List.not_mem_nil,or_false]at hp⊢
    rcases hp with h|h|h|h
    ·exact .inl (.inl h)
    ·exact .inr (.inl h)
    ·exact .inl (.inr h)
    ·exact .inr (.inr h)
   ·rcases List.mem_cons.1 hp with rfl|hp
    ·omega
    ·exact hx p hp
   ·simp only;omega
  ·rw[decide_eq_false hlt,cond_false,decide_eq_true e4,decide_eq_true e5,Bool.and_self,cond_true]
   refine hgo _ hg ?_ hl
   obtain⟨s1,s2,s3⟩:=List.pairwise_append.1 hs
   refine List.pairwise_append.2 ⟨s1,List.pairwise_cons.2 ⟨hx,s2⟩,fun p hp q hq=>?_⟩
   rcases List.mem_cons.1 hq with rfl|hq
   ·rcases List.mem_append.1 hp with hp|hp
    ·have:=(List.pairwise_append.1 s1).2.2 p hp y (List.mem_singleton.2 rfl)
     omega
    ·rw[List.mem_singleton]at hp;rw[hp];omega
   ·exact s3 p hp q hq
def zd(L:Lv) (row:List AV):Option ai:=bif(decide ((((L.length:Int)+1)*72)<=140737488355328))then bif((decide ((-9223372036854775808)<=(((L.length:Int)+1)-1)))&&(decide ((((L.length:Int)+1)-1)<=9223372036854775807)))then(ab (fun go1 s=>aN n go0 go1 i s.1 s.2) n (((((L.length:Int)+1)-1),(L++[row])):am))else none else none
theorem Mm(hi:0<=i/\i<=100) (ps:List Pt) (p:Pt) (hm:ps.length<=9) (hn:200<n) (hgo:∀qs,(∀p∈qs,eL N r p)->Asc qs->qs.length=ps.length+1->∃q,go0 (i+1,ptL qs)=some q/\Post q) (hg:∀p∈ps,eL N r p) (hs:Asc ps) (hp:eL N r p):
  ∃q,zd n go0 i (ptL ps) (ptR p)=some q/\Post q:=by
 unfold zd
 have hl:((ptL ps).length:Int)=(ps.length:Int):=by rw[List.length_map]
 have e1:(((ptL ps).length:Int)+1)*72<=140737488355328:=by omega
 have e2:(-9223372036854775808:Int)<=(((ptL ps).length:Int)+1)-1:=by omega
 have e3:(((ptL ps).length:Int)+1)-1<=(9223372036854775807:Int):=by omega
 rw[decide_eq_true e1,cond_true,decide_eq_true e2,decide_eq_true e3,Bool.and_self,cond_true]
 have:=M8 (Post:=Post) n go0 i N r hi (ps.length+1) (by omega) hn hgo ps [] p (by simp) (fun q hq=>by
  simp only[List.mem_append,List.mem_cons,List.not_mem_nil,or_false]at hq
  rcases hq with h|rfl
  ·exact hg q h
  ·exact hp) (by simpa using hs) (fun q hq=>by cases hq)
 rw[show(((ptL ps).length:Int)+1)-1=(ps.length:Int) by omega]
 simpa using this
def hT(v7 L:Lv) (N F T H A:Int) (B:Bool) (E:Lv) (h:Int):Option ai:=
 (bif(decide (0<=h))then bif((decide ((-9223372036854775808)<=(Int.tdiv (cI v7 i 7) 16)))&&(decide ((Int.tdiv (cI v7 i 7) 16)<=9223372036854775807)))then(bX n (Int.tdiv (cI v7 i 7) 16) 8).bind fun y35=>
  (bif(decide (y35<7))then zd n go0 i L [(AV.int N),(AV.int F),(AV.int T),(AV.int h),(AV.int A),(AV.bool B),(AV.sl (.cons .int (.cons .int (.cons .int .nil))) E)]
  else zd n go0 i L [(AV.int N),(AV.int F),(AV.int T),(AV.int H),(AV.int A),(AV.bool B),(AV.sl (.cons .int (.cons .int (.cons .int .nil))) E)])else none
 else zd n go0 i L [(AV.int N),(AV.int F),(AV.int T),(AV.int H),(AV.int A),(AV.bool B),(AV.sl (.cons .int (.cons .int (.cons .int .nil))) E)])
def tT(v7 life L:Lv) (N F T H A:Int) (B:Bool) (E:Lv):Option ai:=
 (bif(decide (F=T))then bif((decide ((-9223372036854775808)<=(T+1)))&&(decide ((T+1)<=9223372036854775807)))then(dF n life A).bind fun y30=>
  hT n go0 i v7 L N F (Int.tmod (T+1) 8) H A B E y30.2.1 else none
 else(dF n life A).bind fun y30=>hT n go0 i v7 L N F T H A B E y30.2.1)
theorem O2(hi:0<=i/\i<=100) (v7:Lv) (h7:aj (cI v7 i 7)) (life:List Ev) (hL:Life life) (ps:List Pt) (C:Cl) (es:List Ce) (F:Int) (hm:ps.length<=9) (hn:200<n) (hln:life.length<n)
  (hgo:∀qs,(∀p∈qs,eL N r p)->Asc qs->qs.length=ps.length+1->∃q,go0 (i+1,ptL qs)=some q/\Post q) (hg:∀p∈ps,eL N r p) (hs:Asc ps)
  (hF:0<=F/\F<=7) (hN:0<=N/\N<=99999999) (hC:dq r C es) (hCa:C.a<1000) (hes:es.length<=10) (hea:∀e∈es,e.a<=900000):
  ∃q,tT n go0 i v7 (lfL life) (ptL ps) N F C.t C.h C.a C.b (ceL es)=some q/\Post q:=by
 have hCl:=hC.2.1
 unfold ClV at hCl
 have hv:Vld (atL life C.a):=NG hL _
 have hAt:dF n (lfL life) C.a=some ((atL life C.a).s,(atL life C.a).h,(atL life C.a).e,(atL life C.a).t,0):=by
  have hok:l6 life C.a:=⟨hL,by omega,by omega⟩
  rw[J7 n life _ hln]
  simp only[atT,atR,if_pos hok]
 have p7:=wM h7
 have main:∀T h:Int,0<=T/\T<=7->F≠T->h<=63->∃q,hT n go0 i v7 (ptL ps) N F T C.h C.a C.b (ceL es) h=some q/\Post q:=by
  intro T h hT0 hFT hh
  have mk:∀H:Int,0<=H/\H<=63->∃q,zd n go0 i (ptL ps) [(AV.int N),(AV.int F),(AV.int T),(AV.int H),(AV.int C.a),(AV.bool C.b),(AV.sl (.cons .int (.cons .int (.cons .int .nil))) (ceL es))]=some q/\Post q:=fun H hH=>
   Mm n go0 i N r hi ps ⟨⟨N,F,T,H,C.a,C.b⟩,es⟩ hm hn hgo hg hs ⟨rfl,⟨hC.1,⟨by simp only;omega,by simp only;omega,by simp only;omega,by simp only;omega,by simp only;omega,by simp only;omega,hFT,by simp only;omega,by simp only;omega,by simp only;omega,by simp only;omega⟩,hC.2.2.1,hC.2.2.2⟩,hCa,hes,hea⟩
  unfold hT
  by_cases h0:0<=h
  ·rw[decide_eq_true h0,cond_true,decide_eq_true p7.1,decide_eq_true p7.2,Bool.and_self,cond_true,gQ n p7 (show(0:Int)<8 by decide),Option.bind_some]
   by_cases h1:pk (Int.tdiv (cI v7 i 7) 16) 8<7
   ·rw[decide_eq_true h1,cond_true];exact mk h ⟨h0,hh⟩
   ·rw[decide_eq_false h1,cond_false];exact mk C.h (by omega)
  ·rw[decide_eq_false h0,cond_false];exact mk C.h (by omega)
 have hh:(atL life C.a).h<=63:=by unfold Vld at hv;omega
 unfold tT
 by_cases h0:F=C.t
 ·have e1:(-9223372036854775808:Int)<=C.t+1:=by omega
  have e2:C.t+1<=(9223372036854775807:Int):=by omega
  rw[decide_eq_true h0,cond_true,decide_eq_true e1,decide_eq_true e2,Bool.and_self,cond_true,hAt,Option.bind_some]
  have ht:Int.tmod (C.t+1) 8=(C.t+1) % 8:=Int.tmod_eq_emod_of_nonneg (by omega)
  exact main _ _ (by rw[ht];omega) (by rw[ht];omega) hh
 ·rw[decide_eq_false h0,cond_false,hAt,Option.bind_some]
  exact main _ _ (by omega) h0 hh
end
abbrev PtN:=(Int×Int×Int×Int×Int×Int)×List (Int×Int×Int)×Int
abbrev pnR(y:PtN):List AV:=[.int y.1.1,.int y.1.2.1,.int y.1.2.2.1,.int y.1.2.2.2.1,.int y.1.2.2.2.2.1,.int y.1.2.2.2.2.2,.sl (.cons .int (.cons .int (.cons .int .nil))) (y.2.1.map bu),.int y.2.2]
def JQ(y:PtN):Prop:=(aj y.1.1/\aj y.1.2.1/\aj y.1.2.2.1/\aj y.1.2.2.2.1/\aj y.1.2.2.2.2.1/\aj y.1.2.2.2.2.2)/\(∀x∈y.2.1,aj x.1/\aj x.2.1/\aj x.2.2)/\aj y.2.2
theorem IY{N:Int} {r:Rl}:∀ {ps:List Pt} {last:Int},(∀p∈ps,eL N r p)->Asc ps->(∀p∈ps,last<=p.c.a)->PtsV N r last ps
 |[],_,_,_,_=>trivial
 |p::ps,last,hg,hs,hl=>by
  have h1:=hg p (List.mem_cons_self ..)
  refine⟨⟨h1.1,h1.2.1,hl p (List.mem_cons_self ..)⟩,IY (fun q hq=>hg q (List.mem_cons_of_mem _ hq)) (List.pairwise_cons.1 hs).2 fun q hq=>(List.pairwise_cons.1 hs).1 q hq⟩
theorem HA(n:Nat) (v0 v1 v2 v3 v4 v5:Int) (xs:List (Int×Int×Int)) (ys:List PtN) (h0:aj v0) (h1:aj v1) (h2:aj v2) (h3:aj v3) (h4:aj v4) (h5:aj v5) (hx:∀x∈xs,aj x.1/\aj x.2.1/\aj x.2.2) (hy:∀y∈ys,JQ y) (hn:200<n):
  ∃c:Ch,jM n v0 v1 v2 v3 v4 v5 (xs.map bu) (ys.map pnR)=some (c.n,c.f,c.r.a,c.r.c,c.r.s,c.r.r,lfL c.life,ptL c.ps)/\Go.Dial.Chn.Good c/\c.life.length<=16/\c.ps.length<=5/\∀p∈c.ps,eL c.n c.r p:=by
 obtain⟨life,hlife,hA,hl16⟩:=Gn n xs hx (by omega)
 have hL:Life life:=⟨hA,by omega⟩
 obtain⟨N,hN⟩:∃y,y=pk v0 100000000:=⟨_,rfl⟩
 obtain⟨F,hF⟩:∃y,y=pk v1 8:=⟨_,rfl⟩
 have bN:=aX v0 (k:=100000000) (by decide)
 have bF:=aX v1 (k:=8) (by decide)
 rw[<-hN]at bN;rw[<-hF]at bF
 obtain⟨r,hr⟩:∃r,r=mrR v2 v3 v4 v5:=⟨_,rfl⟩
 have hrV:RlV r:=by rw[hr];exact Ji ..
 have hrS:=Ee v2 v3 v4 v5
 rw[<-hr]at hrS
 have hR:dB n v2 v3 v4 v5=some (r.a,r.c,r.s,r.r):=by rw[mo n v2 v3 v4 v5 h2 h3 h4 h5,hr];rfl
 have main:∃q:ai,jM n v0 v1 v2 v3 v4 v5 (xs.map bu) (ys.map pnR)=some q/\∃ps,q=(N,F,r.a,r.c,r.s,r.r,lfL life,ptL ps)/\(∀p∈ps,eL N r p)/\Asc ps/\ps.length<=5:=by
  unfold jM wU
  rw[gQ n h0 (show(0:Int)<100000000 by decide),Option.bind_some,gQ n h1 (show(0:Int)<8 by decide),Option.bind_some,hR,Option.bind_some,hlife,Option.bind_some,<-hN,<-hF]
  refine gC (fun s=>∃(i:Nat) (ps:List Pt),s=((i:Int),ptL ps)/\i<=5/\ps.length=i/\(∀p∈ps,eL N r p)/\Asc ps) (fun s=>5-s.1.toNat) (fun q=>∃ps,q=(N,F,r.a,r.c,r.s,r.r,lfL life,ptL ps)/\(∀p∈ps,eL N r p)/\Asc ps/\ps.length<=5) ?_ n _ ⟨0,[],rfl,by omega,rfl,(fun p hp=>by cases hp),List.Pairwise.nil⟩ (by simp;omega)
  rintro _ go ⟨i,ps,rfl,hi,hl,hg,hs⟩ ih
  simp only
  unfold vE
  have done:∃q:ai,some (N,F,r.a,r.c,r.s,r.r,lfL life,ptL ps)=some q/\∃ps,q=(N,F,r.a,r.c,r.s,r.r,lfL life,ptL ps)/\(∀p∈ps,eL N r p)/\Asc ps/\ps.length<=5:=⟨_,rfl,ps,rfl,hg,hs,by omega⟩
  by_cases g1:i<ys.length
  ·have c1:(i:Int)<((ys.map pnR).length:Int):=by rw[List.length_map];omega
   rw[decide_eq_true c1,cond_true]
   unfold xa
   by_cases g2:i<5
   ·obtain⟨y,hye⟩:=aI g1
    obtain⟨⟨q0,q1,q2,q3,q4,q5⟩,q6,q7⟩:=hy y (List.mem_of_getElem? hye)
    have hcell:∀k,cA (ys.map pnR) (i:Int) k=(pnR y).getD k (.int 0):=fun k=>bH (by simpa using hye)
    have z0:cI (ys.map pnR) i 0=y.1.1:=by simp only[cI,hcell];rfl
    have z1:cI (ys.map pnR) i 1=y.1.2.1:=by simp only[cI,hcell];rfl
    have z2:cI (ys.map pnR) i 2=y.1.2.2.1:=by simp only[cI,hcell];rfl
    have z3:cI (ys.map pnR) i 3=y.1.2.2.2.1:=by simp only[cI,hcell];rfl
    have z4:cI (ys.map pnR) i 4=y.1.2.2.2.2.1:=by simp only[cI,hcell];rfl
    have z5:cI (ys.map pnR) i 5=y.1.2.2.2.2.2:=by simp only[cI,hcell];rfl
    have z6:cL (ys.map pnR) i 6=y.2.1.map bu:=by simp only[cL,hcell];rfl
    have z7:cI (ys.map pnR) i 7=y.2.2:=by simp only[cI,hcell];rfl
    obtain⟨C,es,hM,hC,hCa,hes,hea⟩:=Ht n v2 v3 v4 v5 _ _ _ _ _ _ y.2.1 h2 h3 h4 h5 q0 q1 q2 q3 q4 q5 q6 hn
    rw[<-hr]at hC
    obtain⟨w0,hw0⟩:∃w,w=pk y.2.2 3:=⟨_,rfl⟩
    have bw:=aX y.2.2 (k:=3) (by decide)
    rw[<-hw0]at bw
    have c2:(i:Int)<5:=by omega
    have c3:(0:Int)<=(i:Int):=by omega
    have hpl:((ptL ps).length:Int)=(i:Int):=by rw[List.length_map];omega
    have c4:(-9223372036854775808:Int)<=((ptL ps).length:Int)-w0:=by omega
    have c5:((ptL ps).length:Int)-w0<=(9223372036854775807:Int):=by omega
    have hgo:∀qs,(∀p∈qs,eL N r p)->Asc qs->qs.length=ps.length+1->∃q,go ((i:Int)+1,ptL qs)=some q/\∃ps,q=(N,F,r.a,r.c,r.s,r.r,lfL life,ptL ps)/\(∀p∈ps,eL N r p)/\Asc ps/\ps.length<=5:=fun qs a1 a2 a3=>
     ih _ ⟨i+1,qs,rfl,by omega,by omega,a1,a2⟩ (by simp only;omega)
    have T:∀F',0<=F'/\F'<=7->∃q,tT n go i (ys.map pnR) (lfL life) (ptL ps) N F' C.t C.h C.a C.b (ceL es)=some q/\∃ps,q=(N,F,r.a,r.c,r.s,r.r,lfL life,ptL ps)/\(∀p∈ps,eL N r p)/\Asc ps/\ps.length<=5:=fun F' hF'=>
     O2 n go i N r (by omega) (ys.map pnR) (by rw[z7];exact q7) life hL ps C es F' (by omega) hn (by omega) hgo hg hs hF' (by omega) hC hCa hes hea
    rw[decide_eq_true c2,cond_true,decide_eq_true c3,cond_true,z0,z1,z2,z3,z4,z5,z6,z7,hM,Option.bind_some,gQ n q7 (show(0:Int)<3 by decide),Option.bind_some,<-hw0,decide_eq_true c4,decide_eq_true c5,Bool.and_self,cond_true,gQ n q7 (show(0:Int)<16 by decide),Option.bind_some]
    simp only
    unfold xM
    by_cases k1:pk y.2.2 16<15
    ·rw[decide_eq_true k1,cond_true]
     unfold wm
     by_cases k2:(0:Int)<((ptL ps).length:Int)-w0
     ·have e1:(-9223372036854775808:Int)<=((ptL ps).length:Int)-w0-1:=by omega
      have e2:((ptL ps).length:Int)-w0-1<=(9223372036854775807:Int):=by omega
      have e3:(0:Int)<=((ptL ps).length:Int)-w0-1:=by omega
      have e4:((ptL ps).length:Int)-w0-1<((ptL ps).length:Int):=by omega
      rw[decide_eq_true k2,cond_true,decide_eq_true e1,decide_eq_true e2,Bool.and_self,cond_true,decide_eq_true e3,cond_true,decide_eq_true e4,cond_true]
      obtain⟨k,hk⟩:∃k:Nat,((ptL ps).length:Int)-w0-1=(k:Int):=⟨(((ptL ps).length:Int)-w0-1).toNat,by omega⟩
      obtain⟨p,hp⟩:=aI (l:=ps) (i:=k) (by omega)
      obtain⟨_,_,g3,_⟩:=Cz hp
      have hpg:=(hg p (List.mem_of_getElem? hp)).2.1.2.1
      unfold ClV at hpg
      have:=T (cI (ptL ps) (((ptL ps).length:Int)-w0-1) 2) (by rw[hk,g3];omega)
      exact this
     ·rw[decide_eq_false k2,cond_false]
      exact T F (by omega)
    ·rw[decide_eq_false k1,cond_false]
     have hCl:=hC.2.1
     unfold ClV at hCl
     exact T C.f (by omega)
   ·have c2:¬(i:Int)<5:=by omega
    rw[decide_eq_false c2,cond_false]
    exact done
  ·have c1:¬(i:Int)<((ys.map pnR).length:Int):=by rw[List.length_map];omega
   rw[decide_eq_false c1,cond_false]
   exact done
 obtain⟨q,e,ps,rfl,hg,hs,hl⟩:=main
 refine⟨⟨N,F,r,life,ps⟩,e,⟨⟨hL,by simp only;omega,by simp only;omega,by simp only;omega,by simp only;omega,by simp only;omega,IY hg hs fun p hp=>?_⟩,fun p hp=>?_⟩,hl16,hl,hg⟩
 ·have:=(hg p hp).2.1.2.1
  unfold ClV at this
  omega
 ·have:=(hg p hp).2.2.1
  unfold F7
  simp only
  omega
end Go.Proofs.YtgckmifmjiklmaaGreat
set_option maxRecDepth 100000
namespace Go.Proofs.YtgckmifmjiklmaaGreat
open Go Go.Sx
noncomputable section
def OQ:List Nat:=[11,12,13,14,15,16,17,18,19,20,21,22,23,24,25,26,27,28,29,30,32,33,34,35,36,37,38,39,40,41,42,43,44,45,46,47,48,49,50,51,52,54,55,56,57,58,59,61,62,63,64,66,67,69,80,83,87,90,91,92,95,96,99,100,101,105,107,108,109,110,111,112,115,116,121,122,127,128,136,138,139,149,150,151,153,154,156,158,161,163,164,165,166,172,173,174,175,176,183,185,186,187,188,189,190,196,197,198,201,204,205,207,210,216,222,223,226,229,1000012,1000056,1000083,1000197,1000216,1000229]
def On:List (Nat×SV×SV):=[(141,SV.of [.agg (SV.of [.vi (.int 1),.vi (.int 1)]),.agg (SV.of [.vi (.int 2),.vi (.int 1)]),.agg (SV.of [.vi (.int 3),.vi (.int 2)]),.agg (SV.of [.vi (.int 4),.vi (.int 2)]),.agg (SV.of [.vi (.int 5),.vi (.int 1)]),.agg (SV.of [.vi (.int 5),.vi (.int 2)]),.agg (SV.of [.vi (.int 5),.vi (.int 3)]),.agg (SV.of [.vi (.int 6),.vi (.int 4)])],SV.of [.vi (.int 3),.vi (.int 2),.vi (.int 3),.vi (.int 6),.vi (.int 7),.vi (.int 7),.vi (.int 7),.vi (.int 8)])]
abbrev x9:=Int×Int
def vJ(n:Nat) (v0 v1:Int) (v2 v3 v4 v5:Lv) (v6 v7 v8 v9 v10 v11:Int) (v12 v13:Lv) (v14:Int):Option x9:=
 (nu n v6 v7 v8 v9 v10 v11 v12 v13 v14).bind fun y15=>
 (bif(!(decide (y15.2.2=0)))then some (0,420)
 else(eT n v0 v1 v2 v3 v4 v5 y15.1 v6 v14).bind fun y18=>
 some (y18.1,y18.2))
def eQ(n:Nat) (v0 v1:Int) (v2 v3 v4 v5:Lv) (v6 v7 v8 v9 v10 v11:Int) (v12 v13:Lv) (v14:Int):Option x9:=vJ n v0 v1 v2 v3 v4 v5 v6 v7 v8 v9 v10 v11 v12 v13 v14
def merge_With_t:FnT:=⟨[(true,[.int,.int,(.sl (.cons .int (.cons .int (.cons .int .nil)))),(.sl (.cons .int .nil)),(.sl (.cons .int .nil))]),(false,[(.sl (.cons .int (.cons .int (.cons .int (.cons .int (.cons .int (.cons .int (.cons .int (.cons .int .nil)))))))))]),(true,[.int,.int,.int,.int,.int,.int,(.sl (.cons .int (.cons .int (.cons .int .nil)))),(.sl (.cons .int (.cons .int (.cons .int (.cons .int (.cons .int (.cons .bool (.cons (.sl (.cons .int (.cons .int (.cons .int .nil)))) .nil))))))))]),(false,[.int])],(.tup (.cons .i (.cons .i .nil))),fun n (s:Int×Int×Lv×Lv×Lv×Lv×Int×Int×Int×Int×Int×Int×Lv×Lv×Int)=>eQ n s.1 s.2.1 s.2.2.1 s.2.2.2.1 s.2.2.2.2.1 s.2.2.2.2.2.1 s.2.2.2.2.2.2.1 s.2.2.2.2.2.2.2.1 s.2.2.2.2.2.2.2.2.1 s.2.2.2.2.2.2.2.2.2.1 s.2.2.2.2.2.2.2.2.2.2.1 s.2.2.2.2.2.2.2.2.2.2.2.1 s.2.2.2.2.2.2.2.2.2.2.2.2.1 s.2.2.2.2.2.2.2.2.2.2.2.2.2.1 s.2.2.2.2.2.2.2.2.2.2.2.2.2.2⟩
theorem Fv:merge_With_t.ok Tryz.prog 48:=FnT.ok_of (cfg:=⟨[],OQ,[],On⟩) (tab:=ref17_Made_T) (mt:=mtE) az qk bB (fun s fn hf=>by rw[Tryz.func48]at hf;cases hf;kernel_rfl) (fun n s=>by kernel_rfl)
def merge_With_T:Tab:=(48,merge_With_t)::ref17_Made_T
theorem Ca:merge_With_T.ok Tryz.prog:=Tab.ok_cons Fv qk
end
end Go.Proofs.YtgckmifmjiklmaaGreat
set_option maxRecDepth 100000
namespace Go.Proofs.YtgckmifmjiklmaaGreat
open Go Go.Sx
noncomputable section
def ND:List Nat:=[11,12,13,14,15,16,17,18,19,20,21,22,23,24,25,26,27,28,29,30,32,33,34,35,36,37,38,39,40,41,42,43,44,45,46,47,48,49,50,51,52,54,55,56,57,58,59,61,62,63,64,66,67,69,80,83,87,90,91,92,95,96,99,100,101,105,107,108,109,110,111,112,115,116,121,122,127,128,136,138,139,149,150,151,153,154,156,158,161,163,164,165,166,172,173,174,175,176,183,185,186,187,188,189,190,196,197,198,201,204,205,207,210,216,222,223,226,229,1000012,1000056,1000083,1000197,1000216,1000229]
def Nx:List (Nat×SV×SV):=[(141,SV.of [.agg (SV.of [.vi (.int 1),.vi (.int 1)]),.agg (SV.of [.vi (.int 2),.vi (.int 1)]),.agg (SV.of [.vi (.int 3),.vi (.int 2)]),.agg (SV.of [.vi (.int 4),.vi (.int 2)]),.agg (SV.of [.vi (.int 5),.vi (.int 1)]),.agg (SV.of [.vi (.int 5),.vi (.int 2)]),.agg (SV.of [.vi (.int 5),.vi (.int 3)]),.agg (SV.of [.vi (.int 6),.vi (.int 4)])],SV.of [.vi (.int 3),.vi (.int 2),.vi (.int 3),.vi (.int 6),.vi (.int 7),.vi (.int 7),.vi (.int 7),.vi (.int 8)])]
abbrev gu:=Bool
def km(n:Nat) (v0 v1 v2:Int) (v3 v4:Lv) (v5 v6 v7 v8 v9 v10:Int) (v11 v12:Lv) (v13 v14:Int) (v15:Bool):Option gu:=
 (bif(!v15)then some false
 else(j7 n v0 v1 v2 v3 ([]:Lv)).bind fun y16=>
 (jP n y16.1 y16.2.1 y16.2.2.1 y16.2.2.2.1 y16.2.2.2.2.1 v4).bind fun y22=>
 (eI n v14 40).bind fun y23=>
 (te n y16.1 y16.2.1 y16.2.2.1 y16.2.2.2.1 y16.2.2.2.2.1 y22 y23).bind fun y24=>
 (bif(!(decide (y24.2.2.2.2.2=0)))then some false
 else(jM n v5 v6 v7 v8 v9 v10 v11 v12).bind fun y30=>
 (nu n y30.1 y30.2.1 y30.2.2.1 y30.2.2.2.1 y30.2.2.2.2.1 y30.2.2.2.2.2.1 y30.2.2.2.2.2.2.1 y30.2.2.2.2.2.2.2 y23).bind fun y38=>
 (eQ n y16.1 y16.2.1 y16.2.2.1 y16.2.2.2.1 y16.2.2.2.2.1 y22 y30.1 y30.2.1 y30.2.2.1 y30.2.2.2.1 y30.2.2.2.2.1 y30.2.2.2.2.2.1 y30.2.2.2.2.2.2.1 y30.2.2.2.2.2.2.2 y23).bind fun y41=>
 (bif(!(decide (y38.2.2=0)))then(bif(decide (y38.2.2=170))then some (decide (y41.2=420))
 else some false)
 else(bif(!(decide (y41.2=0)))then some false
 else bif(decide (0<=y38.1))then(bif(decide ((Int.tmod (IOp.f .shr y24.2.1 y38.1) 2)=1))then bif(decide (0<=y41.1))then(bif(!(decide ((Int.tmod (IOp.f .shr y24.1 y41.1) 2)=1)))then(bif(decide ((Int.tmod (IOp.f .shr y16.2.1 y38.1) 2)=1))then(bif(!(decide ((Int.tmod (IOp.f .shr y16.1 y38.1) 2)=1)))then some (decide (y41.1=y38.1))
 else some false)
 else some false)
 else(eI n v13 61).bind fun y43=>
 (dS n y16.2.2.1 y43).bind fun y44=>
 (bif(!y44.2)then some v15
 else(eQ n y16.1 y16.2.1 y16.2.2.1 y16.2.2.2.1 y16.2.2.2.2.1 y22 y43 y44.1 y30.2.2.1 y30.2.2.2.1 y30.2.2.2.2.1 y30.2.2.2.2.2.1 ([]:Lv) ([]:Lv) y23).bind fun y46=>
 (dS n y24.2.2.1 y43).bind fun y48=>
 (bif(decide (y46.2=0))then(bif y48.2 then(bif(decide (y46.1=y48.1))then bif(decide (0<=y46.1))then some (decide ((Int.tmod (IOp.f .shr y24.1 y46.1) 2)=1))else none
 else some false)
 else some false)
 else some false)))else none
 else(eI n v13 61).bind fun y43=>
 (dS n y16.2.2.1 y43).bind fun y44=>
 (bif(!y44.2)then some v15
 else(eQ n y16.1 y16.2.1 y16.2.2.1 y16.2.2.2.1 y16.2.2.2.2.1 y22 y43 y44.1 y30.2.2.1 y30.2.2.2.1 y30.2.2.2.2.1 y30.2.2.2.2.2.1 ([]:Lv) ([]:Lv) y23).bind fun y46=>
 (dS n y24.2.2.1 y43).bind fun y48=>
 (bif(decide (y46.2=0))then(bif y48.2 then(bif(decide (y46.1=y48.1))then bif(decide (0<=y46.1))then some (decide ((Int.tmod (IOp.f .shr y24.1 y46.1) 2)=1))else none
 else some false)
 else some false)
 else some false)))else none))))
def kj(n:Nat) (v0 v1 v2:Int) (v3 v4:Lv) (v5 v6 v7 v8 v9 v10:Int) (v11 v12:Lv) (v13 v14:Int):Option gu:=
 (m7 n ).bind fun y15=>
 km n v0 v1 v2 v3 v4 v5 v6 v7 v8 v9 v10 v11 v12 v13 v14 y15
def iF(n:Nat) (v0 v1 v2:Int) (v3 v4:Lv) (v5 v6 v7 v8 v9 v10:Int) (v11 v12:Lv) (v13 v14:Int):Option gu:=kj n v0 v1 v2 v3 v4 v5 v6 v7 v8 v9 v10 v11 v12 v13 v14
def law42_MergeChains_t:FnT:=⟨[(true,[.int,.int,.int]),(false,[(.sl (.cons .int (.cons .int (.cons .int .nil))))]),(false,[(.sl (.cons .int (.cons .int (.cons .int (.cons .int (.cons .int (.cons .int (.cons .int .nil))))))))]),(true,[.int,.int,.int,.int,.int,.int,(.sl (.cons .int (.cons .int (.cons .int .nil)))),(.sl (.cons .int (.cons .int (.cons .int (.cons .int (.cons .int (.cons .int (.cons (.sl (.cons .int (.cons .int (.cons .int .nil)))) (.cons .int .nil)))))))))]),(false,[.int]),(false,[.int])],.b,fun n (s:Int×Int×Int×Lv×Lv×Int×Int×Int×Int×Int×Int×Lv×Lv×Int×Int)=>iF n s.1 s.2.1 s.2.2.1 s.2.2.2.1 s.2.2.2.2.1 s.2.2.2.2.2.1 s.2.2.2.2.2.2.1 s.2.2.2.2.2.2.2.1 s.2.2.2.2.2.2.2.2.1 s.2.2.2.2.2.2.2.2.2.1 s.2.2.2.2.2.2.2.2.2.2.1 s.2.2.2.2.2.2.2.2.2.2.2.1 s.2.2.2.2.2.2.2.2.2.2.2.2.1 s.2.2.2.2.2.2.2.2.2.2.2.2.2.1 s.2.2.2.2.2.2.2.2.2.2.2.2.2.2⟩
theorem sI:law42_MergeChains_t.ok Tryz.prog 10:=FnT.ok_of (cfg:=⟨[],ND,[],Nx⟩) (tab:=merge_With_T) (mt:=mtE) az Ca bB (fun s fn hf=>by rw[Tryz.func10]at hf;cases hf;kernel_rfl) (fun n s=>by kernel_rfl)
end
end Go.Proofs.YtgckmifmjiklmaaGreat
set_option maxRecDepth 100000
namespace Go.Proofs.YtgckmifmjiklmaaGreat
open Go Go.Sx Go.Dial.Blk Go.Dial.Mrg
open Go.Dial.Chn (Ch ChV aO jo)
theorem WV.a64{w:Wd} (h:WV w):aj w.al:=by
 have h0:=h.a0
 have h1:=h.a1
 unfold aj;omega
theorem Oq{c:Ch} (hV:ChV c) (G:List Int):0<=aO c G/\aO c G<=7:=by
 cases G with
 |nil=>exact⟨hV.2.2.2.1,hV.2.2.2.2.1⟩
 | cons x G=>
  show 0<=(Go.Dial.Chn.portAt c x).c.t/\(Go.Dial.Chn.portAt c x).c.t<=7
  unfold Go.Dial.Chn.portAt
  cases hp:c.ps[x.toNat]? with
  |none=>simp[Go.Dial.Chn.noPt]
  |some p=>
   have:=(Go.Dial.Chn.ch_clm hV hp).2.1
   unfold Go.Dial.Clm.ClV at this
   simp only[Option.getD_some];omega
theorem Pn{r:List AV} (h:r.map AV.ty=[.int,.int,.int,.int,.int,.int,.sl (.cons .int (.cons .int (.cons .int .nil))),.int]) (hok:∀x∈r,AVok x):∃y:PtN,r=pnR y/\JQ y:=by
 obtain⟨a,b,c,d,e,f,g,i,rfl⟩:=Pi (l:=r) (by have:=congrArg List.length h;simpa using this)
 simp only[List.map_cons,List.map_nil,List.cons.injEq,and_true]at h
 obtain⟨k0,k1,k2,k3,k4,k5,k6,k7⟩:=h
 obtain⟨a,rfl,h1⟩:=(hok a (by simp)).i k0
 obtain⟨b,rfl,h2⟩:=(hok b (by simp)).i k1
 obtain⟨c,rfl,h3⟩:=(hok c (by simp)).i k2
 obtain⟨d,rfl,h4⟩:=(hok d (by simp)).i k3
 obtain⟨e,rfl,h5⟩:=(hok e (by simp)).i k4
 obtain⟨f,rfl,h6⟩:=(hok f (by simp)).i k5
 obtain⟨i,rfl,h8⟩:=(hok i (by simp)).i k7
 have hg:=hok g (by simp)
 obtain⟨l,rfl,_⟩:=hg.l' k6
 obtain⟨xs,rfl,h7⟩:=C6 rfl hg
 exact⟨((a,b,c,d,e,f),xs,i),rfl,⟨h1,h2,h3,h4,h5,h6⟩,h7,h8⟩
theorem OC{l:Lv} {t:Ty} (ht:t.list=[.int,.int,.int,.int,.int,.int,.sl (.cons .int (.cons .int (.cons .int .nil))),.int]) (h:AVok (.sl t l)):∃ys:List PtN,l=ys.map pnR/\∀y∈ys,JQ y:=by
 cases h with
 |sl _ _ _ hty hr=>exact yB fun r hm=>Pn (by rw[hty r hm,ht]) (hr r hm)
theorem D6(x:Int):J2 (some x)=(x,0):=rfl
theorem wA(n:Nat) (w:Wd) (ha:aj w.al) (l:List Ev) (hl:l.length<=1000000) (c:Ch) (hc:c.life.length<n) (t:Int) (hV:ChV c) (t0:0<=t) (t1:t<=20000000) (hn:100000001<n):
  eQ n w.al w.ev (bL w.bl) (iL w.ba) (iL w.le) (evL l) c.n c.f c.r.a c.r.c c.r.s c.r.r (lfL c.life) (ptL c.ps) t=some (J2 (qD w l (aO c (jo c t)) c.n t)):=by
 unfold eQ vJ
 rw[BI n c t hc (by omega),if_pos ⟨hV,t0,t1⟩,Option.bind_some]
 refine cN (fun _=>?_) (fun h=>absurd rfl h)
 rw[zh n w ha l hl _ _ t hn,Option.bind_some]
theorem vt(n:Nat) {v0 v1 v2:Int} (h0:aj v0) (h1:aj v1) (h2:aj v2) (xs:List (Int×Int×Int)) (hx:∀x∈xs,aj x.1/\aj x.2.1/\aj x.2.2) (zs:List Sev) (hz:∀x∈zs,Ga x)
  {v5 v6 v7 v8 v9 v10:Int} (h5:aj v5) (h6:aj v6) (h7:aj v7) (h8:aj v8) (h9:aj v9) (h10:aj v10) (ls:List (Int×Int×Int)) (hls:∀x∈ls,aj x.1/\aj x.2.1/\aj x.2.2) (ps:List PtN) (hps:∀y∈ps,JQ y)
  {v13 v14:Int} (h13:aj v13) (h14:aj v14) (hn:100000001<n):
  iF n v0 v1 v2 (xs.map bu) (zs.map kL) v5 v6 v7 v8 v9 v10 (ls.map bu) (ps.map pnR) v13 v14=some true:=by
 unfold iF kj
 rw[GQ n (by omega),Option.bind_some]
 unfold km
 rw[Bool.not_true,cond_false]
 obtain⟨_,e1,w,ds,rfl,hw,-⟩:=H8 n h0 h1 h2 xs [] hx (fun x h=>by simp at h) (by omega)
 have e1':j7 n v0 v1 v2 (xs.map bu) ([]:Lv)=_:=e1
 rw[e1',Option.bind_some]
 dsimp only
 have hv:=hw.v
 obtain⟨_,e2,l,rfl,hE⟩:=Dg n w hv zs hz (by omega)
 have b13:=aX v13 (k:=61) (by decide)
 have b14:=aX v14 (k:=40) (by decide)
 have hl8:=hE.few
 obtain⟨c,e3,hcG,hl16,_⟩:=HA n v5 v6 v7 v8 v9 v10 ls ps h5 h6 h7 h8 h9 h10 hls hps (by omega)
 have hcV:ChV c:=hcG.1
 obtain⟨_,k0,k1,_⟩:=hcV
 have hcV:ChV c:=hcG.1
 rw[e2,Option.bind_some,nC n h14 (by decide),Option.bind_some,JR n w (WV.a64 hv) l (by omega) _ hn,Option.bind_some]
 obtain⟨t,ht⟩:∃t,t=pk v14 40:=⟨_,rfl⟩
 rw[<-ht]at b14⊢
 have ha:atW w l t=some (cq w (untl l t)):=if_pos ⟨hE.g,b14.1,by omega⟩
 have hgu:=hE.g.untl t
 have hu:=hgu.p.v2
 have hbK:=Oq hcV (jo c t)
 obtain⟨K,hK⟩:∃K,K=aO c (jo c t):=⟨_,rfl⟩
 rw[<-hK]at hbK
 have hWc:=wA n w (WV.a64 hv) l (by omega) c (by omega) t hcV b14.1 (by omega) hn
 have hs:qD w l K c.n t=some (fc (untl l t) c.n K):=if_pos ⟨hE.g,b14.1,by omega,hbK.1,hbK.2,k0,by omega⟩
 rw[<-hK,hs]at hWc
 have hev:=hgu.p.ever c.n (x:=K) hbK.1 hbK.2
 have hsb:=hgu.p.bd c.n K (by omega) hbK.2
 have hsg:=hgu.p.ge c.n K hbK.1
 rw[ha,KZ]
 dsimp only
 refine cN (fun _=>?_) (fun h=>absurd rfl h)
 rw[e3,Option.bind_some]
 dsimp only
 rw[BI n c t (by omega) (by omega),if_pos ⟨hcV,b14.1,by omega⟩,Option.bind_some,hWc,Option.bind_some,<-hK,D6]
 dsimp only
 obtain⟨q,hq⟩:∃q,q=pk v13 61:=⟨_,rfl⟩
 rw[<-hq]at b13
 have hhold:=hgu.p.hold q
 have hr:=bY hv.can q
 have rest:(eI n v13 61).bind (fun y43=>
   (dS n (bL w.bl) y43).bind fun y44=>
   (bif(!y44.2)then some true
   else(eQ n w.al w.ev (bL w.bl) (iL w.ba) (iL w.le) (evL l) y43 y44.1 c.r.a c.r.c c.r.s c.r.r ([]:Lv) ([]:Lv) t).bind fun y46=>
   (dS n (bL (cq w (untl l t)).bl) y43).bind fun y48=>
   (bif(decide (y46.2=0))then(bif y48.2 then(bif(decide (y46.1=y48.1))then bif(decide (0<=y46.1))then some (decide ((Int.tmod (IOp.f .shr (cq w (untl l t)).al y46.1) 2)=1))else none
   else some false)
   else some false)
   else some false)))=some true:=by
  rw[nC n h13 (by decide),Option.bind_some,<-hq,xJ n w.bl q hv.can hv.few (by omega),Option.bind_some]
  by_cases hq1:hold w.bl q= -1
  ·have f1:kQ w.bl q=(0,false):=by unfold kQ;rw[if_pos hq1]
   rw[f1]
   exact cBN (fun h=>by cases h) (fun _=>rfl)
  ·have f1:kQ w.bl q=(hold w.bl q,true):=by unfold kQ;rw[if_neg hq1]
   have hge:=hgu.p.ge q (hold w.bl q) (by omega)
   have hbd:=hgu.p.bd q (hold w.bl q) hr.1 hr.2
   have hal:=hgu.p.alive q (x:=hold w.bl q) (by omega) hr.2 (LT hv hq1).1
   have f2:kQ (cq w (untl l t)).bl q=(fc (untl l t) q (hold w.bl q),true):=by unfold kQ;rw[hhold,if_neg (by omega)]
   have hbV:ChV ⟨q,hold w.bl q,c.r,[],[]⟩:=⟨(show Go.Dial.Lif.Life [] by decide),b13.1,(show q<=99999999 by omega),(show 0<=hold w.bl q by omega),hr.2,by simp,trivial⟩
   have hWb:=wA n w (WV.a64 hv) l (by omega) ⟨q,hold w.bl q,c.r,[],[]⟩ (by show 0<n;omega) t hbV b14.1 (by omega) hn
   have hwb:aO ⟨q,hold w.bl q,c.r,[],[]⟩ (jo ⟨q,hold w.bl q,c.r,[],[]⟩ t)=hold w.bl q:=rfl
   have hsb2:qD w l (hold w.bl q) q t=some (fc (untl l t) q (hold w.bl q)):=if_pos ⟨hE.g,b14.1,by omega,by omega,hr.2,b13.1,by omega⟩
   rw[hwb]at hWb
   dsimp only at hWb
   rw[hsb2,D6]at hWb
   have hWb':eQ n w.al w.ev (bL w.bl) (iL w.ba) (iL w.le) (evL l) q (hold w.bl q) c.r.a c.r.c c.r.s c.r.r ([]:Lv) ([]:Lv) t=some (fc (untl l t) q (hold w.bl q),0):=hWb
   rw[f1]
   refine cBN (fun _=>?_) (fun h=>by cases h)
   dsimp only
   rw[hWb',Option.bind_some,xJ n _ q hu.can hu.few (by omega),Option.bind_some,f2]
   dsimp only
   rw[bC hu.a0 hu.a1 hge hbd.2,hal]
   exact cF (fun _=>cB (fun _=>cF (fun _=>gN hge rfl) (fun h=>absurd rfl h)) (fun h=>by cases h)) (fun h=>absurd rfl h)
 refine cN (fun _=>?_) (fun h=>absurd rfl h)
 refine cN (fun _=>gN hbK.1 ?_) (fun h=>absurd rfl h)
 rw[bC hu.e0 hu.e1 hbK.1 hbK.2,bC hu.a0 hu.a1 hsg hsb.2,bC hv.e0 hv.e1 hbK.1 hbK.2,bC hv.a0 hv.a1 hbK.1 hbK.2]
 refine cB (fun he=>gN hsg (cBN (fun _=>rest) (fun hd=>?_))) (fun _=>rest)
 rcases hev he with h3|⟨h3,h4,h5⟩
 ·rw[hd]at h3;cases h3
 ·rw[h3,h4,h5]
  exact cB (fun _=>cBN (fun h=>by cases h) (fun _=>by rw[decide_eq_true rfl])) (fun h=>by cases h)
theorem qZ:∀s:a9 (Ps.tys law42_MergeChains_t.ps),MQ (Ps.tys law42_MergeChains_t.ps) s->∃n z,law42_MergeChains_t.fn n s=some z/\nt law42_MergeChains_t.sh z=.b true:=by
 rintro ⟨v0,v1,v2,v3,v4,v5,v6,v7,v8,v9,v10,v11,v12,v13,v14⟩ hs
 have h:∀x∈[AV.int v0,.int v1,.int v2,.sl (.cons .int (.cons .int (.cons .int .nil))) v3,.sl (.cons .int (.cons .int (.cons .int (.cons .int (.cons .int (.cons .int (.cons .int .nil))))))) v4,.int v5,.int v6,.int v7,.int v8,.int v9,.int v10,.sl (.cons .int (.cons .int (.cons .int .nil))) v11,.sl (.cons .int (.cons .int (.cons .int (.cons .int (.cons .int (.cons .int (.cons (.sl (.cons .int (.cons .int (.cons .int .nil)))) (.cons .int .nil)))))))) v12,.int v13,.int v14],AVok x:=hs
 obtain⟨xs,rfl,hx⟩:=C6 (t:=.cons .int (.cons .int (.cons .int .nil))) rfl (h (.sl (.cons .int (.cons .int (.cons .int .nil))) v3) (by simp))
 obtain⟨ls,rfl,hls⟩:=C6 (t:=.cons .int (.cons .int (.cons .int .nil))) rfl (h (.sl (.cons .int (.cons .int (.cons .int .nil))) v11) (by simp))
 obtain⟨zs,rfl,hz⟩:=Nt (t:=.cons .int (.cons .int (.cons .int (.cons .int (.cons .int (.cons .int (.cons .int .nil))))))) rfl (h (.sl (.cons .int (.cons .int (.cons .int (.cons .int (.cons .int (.cons .int (.cons .int .nil))))))) v4) (by simp))
 obtain⟨ps,rfl,hps⟩:=OC rfl (h (.sl (.cons .int (.cons .int (.cons .int (.cons .int (.cons .int (.cons .int (.cons (.sl (.cons .int (.cons .int (.cons .int .nil)))) (.cons .int .nil)))))))) v12) (by simp))
 exact⟨100000002,true,vt 100000002 (gA (h (.int v0) (by simp))) (gA (h (.int v1) (by simp))) (gA (h (.int v2) (by simp))) xs hx zs hz (gA (h (.int v5) (by simp))) (gA (h (.int v6) (by simp))) (gA (h (.int v7) (by simp))) (gA (h (.int v8) (by simp))) (gA (h (.int v9) (by simp))) (gA (h (.int v10) (by simp))) ls hls ps hps (gA (h (.int v13) (by simp))) (gA (h (.int v14) (by simp))) (by decide),rfl⟩
end Go.Proofs.YtgckmifmjiklmaaGreat
