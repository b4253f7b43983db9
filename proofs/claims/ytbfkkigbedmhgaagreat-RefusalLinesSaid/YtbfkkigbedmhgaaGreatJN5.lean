/-
  Texts of this claim, joined (part JN5).
-/
import Derived.Test.YtbfkkigbedmhgaaGreatJN4
import Derived.Lib.Hide
set_option linter.unusedVariables false
set_option linter.unusedSimpArgs false
set_option linter.unusedSectionVars false
set_option linter.constructorNameAsVariable false
set_option maxRecDepth 100000
namespace Go.Proofs.YtbfkkigbedmhgaaGreat
open Go Go.Sx
noncomputable section
def aH:List Nat:=[12,13,14,15,16,17,18,19,20,21,22,23,24,25,26,27,28,29,30,31,32,33,34,37,38,39,40,43,44,45,46,47,48,49,50,51,52,53,54,55,56,57,58,59,62,66,68,69,70,71,72,73,74,75,76,77,78,84,85,86,87,89,95,105,106,107,108,109,110,111,112,114,115,116,117,120,122,149,150,152,153,159,176,178,179,180,182,183,184,186,187,193,202,203,204,210,211,1000015,1000016,1000017,1000018,1000019,1000022,1000049,1000050,1000051,1000052,1000053,1000062,2000151,2000152,2000217,2000247,2000248,2000249]
abbrev uv:=Bool
def ur(n:Nat)(v0 v1 v2 v3 v4:Int):Option uv:=
 (bif 0<=v0 then(bif v0<=99999999 then(bif 0<=v2 then(bif v2<=99999999 then(bif !(v0=v2)then(bif 1<=v1 then(bif v1<=4 then(bif 0<=v3 then(bif v3<v4 then some (decide (v4<=10000001))else some false)else some false)else some false)else some false)else some false)else some false)else some false)else some false)else some false)
def lP(n:Nat)(v0 v1 v2 v3 v4:Int):Option uv:=ur n v0 v1 v2 v3 v4
def ref22_formed_t:FnT:=⟨[(true,[.int,.int,.int,.int,.int])],.b,fun n (s:Int×Int×Int×Int×Int)=>lP n s.1 s.2.1 s.2.2.1 s.2.2.2.1 s.2.2.2.2⟩
theorem Bo:ref22_formed_t.ok Tryz.prog 182:=FnT.ok_of (cfg:=⟨[],aH,[],aj⟩) aw qV av (fun s fn hf=>by rw[Tryz.func182]at hf;cases hf;kernel_rfl) (fun n s=>by kernel_rfl)
def ref22_formed_T:Tab:=(182,ref22_formed_t)::claim_With_T
theorem oE:ref22_formed_T.ok Tryz.prog:=Tab.ok_cons Bo qV
abbrev da:=Bool
abbrev ep:=Int
def eU(n:Nat)(go0:ep->Option da)(go1:ep->Option da)(v0:Lv)(v1 v3:Int):Option da:=
 (bif v3<v1 then bif 0<=v3 then bif v3<(v0.length:Int) then(bif (cI v0 v1 0)=(cI v0 v3 0) then(bif (cI v0 v1 1)=(cI v0 v3 1) then(bif (aL (cI v0 v1 3) (cI v0 v3 3))<(aB (cI v0 v1 4) (cI v0 v3 4)) then some false else bif(-9223372036854775808<=(v3+1))&&((v3+1)<=9223372036854775807)then go1 (v3+1)else none)else bif(-9223372036854775808<=(v3+1))&&((v3+1)<=9223372036854775807)then go1 (v3+1)else none)else bif(-9223372036854775808<=(v3+1))&&((v3+1)<=9223372036854775807)then go1 (v3+1)else none)else none else none else bif(-9223372036854775808<=(v1+1))&&((v1+1)<=9223372036854775807)then go0 (v1+1)else none)
def kC(n:Nat)(go0:ep->Option da)(v0:Lv)(v1:Int):Option da:=
 (bif v1<(v0.length:Int) then bif 0<=v1 then(lP n (cI v0 v1 0) (cI v0 v1 1) (cI v0 v1 2) (cI v0 v1 3) (cI v0 v1 4)).bind fun y2=>
 (bif(!y2)then some false else(ab (fun go1 s=>eU n go0 go1 v0 v1 s) n (0:ep)))else none else some true)
def qD(n:Nat)(v0:Lv):Option da:=
 (bif 40<(v0.length:Int) then some false else(ab (fun go0 s=>kC n go0 v0 s) n (0:ep)))
def gx(n:Nat)(v0:Lv):Option da:=qD n v0
def ref22_Settings_t:FnT:=⟨[(false,[(.sl (.cons .int (.cons .int (.cons .int (.cons .int (.cons .int .nil))))))])],.b,fun n (s:Lv)=>gx n s⟩
theorem zA:ref22_Settings_t.ok Tryz.prog 108:=FnT.ok_of (cfg:=⟨[((108,4,0),.inv [(.tmp 3 .int)]),((108,9,1),.inv [(.tmp 4 .int)])],aH,[],aj⟩) aw oE av (fun s fn hf=>by rw[Tryz.func108]at hf;cases hf;kernel_rfl) (fun n s=>by kernel_rfl)
def ref22_Settings_T:Tab:=(108,ref22_Settings_t)::ref22_formed_T
theorem ml:ref22_Settings_T.ok Tryz.prog:=Tab.ok_cons zA oE
abbrev kr:=Bool
abbrev tU:=Int
def Ft(n:Nat)(go0:tU->Option kr)(v1:Lv)(v3:Int):Option kr:=
 (bif v3<(v1.length:Int) then bif 0<=v3 then(bif 0<=(cI v1 v3 0) then(bif !((cI v1 v3 0)<=99999999)then some false else(bif (cI v1 v3 1)<2 then some false else(bif 4<(cI v1 v3 1) then some false else(bif 0<v3 then bif(-9223372036854775808<=(v3-1))&&((v3-1)<=9223372036854775807)then bif 0<=(v3-1) then bif (v3-1)<(v1.length:Int) then(bif (cI v1 v3 0)<=(cI v1 (v3-1) 0) then some false else bif(-9223372036854775808<=(v3+1))&&((v3+1)<=9223372036854775807)then go0 (v3+1)else none)else none else none else none else bif(-9223372036854775808<=(v3+1))&&((v3+1)<=9223372036854775807)then go0 (v3+1)else none))))else some false)else none else some true)
def Fi(n:Nat)(v0 v1:Lv):Option kr:=
 (gx n v0).bind fun y2=>
 (bif(!y2)then some false else(bif 40<(v1.length:Int) then some false else(ab (fun go0 s=>Ft n go0 v1 s) n (0:tU))))
def sK(n:Nat)(v0 v1:Lv):Option kr:=Fi n v0 v1
def ref22_Valid_t:FnT:=⟨[(false,[(.sl (.cons .int (.cons .int (.cons .int (.cons .int (.cons .int .nil))))))]),(false,[(.sl (.cons .int (.cons .int .nil)))])],.b,fun n (s:Lv×Lv)=>sK n s.1 s.2⟩
theorem DO:ref22_Valid_t.ok Tryz.prog 75:=FnT.ok_of (cfg:=⟨[((75,4,0),.inv [(.tmp 5 .int)])],aH,[],aj⟩) aw ml av (fun s fn hf=>by rw[Tryz.func75]at hf;cases hf;kernel_rfl) (fun n s=>by kernel_rfl)
def ref22_Valid_T:Tab:=(75,ref22_Valid_t)::ref22_Settings_T
theorem qe:ref22_Valid_T.ok Tryz.prog:=Tab.ok_cons DO ml
abbrev gd:=Int
abbrev nh:=Int
def zE(n:Nat)(go0:nh->Option gd)(v0:Lv)(v1 v2:Int):Option gd:=
 (bif v2<(v0.length:Int) then bif 0<=v2 then(bif (cI v0 v2 0)=v1 then some (cI v0 v2 1)else bif(-9223372036854775808<=(v2+1))&&((v2+1)<=9223372036854775807)then go0 (v2+1)else none)else none else some 0)
def zC(n:Nat)(v0:Lv)(v1:Int):Option gd:=
 (ab (fun go0 s=>zE n go0 v0 v1 s) n (0:nh))
def fJ(n:Nat)(v0:Lv)(v1:Int):Option gd:=zC n v0 v1
def ref22_condition_t:FnT:=⟨[(false,[(.sl (.cons .int (.cons .int .nil)))]),(false,[.int])],.i,fun n (s:Lv×Int)=>fJ n s.1 s.2⟩
theorem wT:ref22_condition_t.ok Tryz.prog 115:=FnT.ok_of (cfg:=⟨[((115,2,0),.inv [(.tmp 5 .int)])],aH,[],aj⟩) aw qe av (fun s fn hf=>by rw[Tryz.func115]at hf;cases hf;kernel_rfl) (fun n s=>by kernel_rfl)
def ref22_condition_T:Tab:=(115,ref22_condition_t)::ref22_Valid_T
theorem lI:ref22_condition_T.ok Tryz.prog:=Tab.ok_cons wT qe
abbrev k7:=Int
abbrev wk:=Int
def Iz(n:Nat)(go0:wk->Option k7)(v0:Lv)(v1 v2 v3 v4:Int):Option k7:=
 (bif v4<(v0.length:Int) then bif 0<=v4 then(bif (cI v0 v4 0)=v1 then(bif (cI v0 v4 1)=v2 then(bif (cI v0 v4 3)<=v3 then(bif v3<(cI v0 v4 4) then some v4 else bif(-9223372036854775808<=(v4+1))&&((v4+1)<=9223372036854775807)then go0 (v4+1)else none)else bif(-9223372036854775808<=(v4+1))&&((v4+1)<=9223372036854775807)then go0 (v4+1)else none)else bif(-9223372036854775808<=(v4+1))&&((v4+1)<=9223372036854775807)then go0 (v4+1)else none)else bif(-9223372036854775808<=(v4+1))&&((v4+1)<=9223372036854775807)then go0 (v4+1)else none)else none else some (-1))
def G5(n:Nat)(v0:Lv)(v1 v2 v3:Int):Option k7:=
 (ab (fun go0 s=>Iz n go0 v0 v1 v2 v3 s) n (0:wk))
def u0(n:Nat)(v0:Lv)(v1 v2 v3:Int):Option k7:=G5 n v0 v1 v2 v3
def ref22_find_t:FnT:=⟨[(false,[(.sl (.cons .int (.cons .int (.cons .int (.cons .int (.cons .int .nil))))))]),(false,[.int]),(false,[.int]),(false,[.int])],.i,fun n (s:Lv×Int×Int×Int)=>u0 n s.1 s.2.1 s.2.2.1 s.2.2.2⟩
theorem EX:ref22_find_t.ok Tryz.prog 184:=FnT.ok_of (cfg:=⟨[((184,2,0),.inv [(.tmp 9 .int)])],aH,[],aj⟩) aw lI av (fun s fn hf=>by rw[Tryz.func184]at hf;cases hf;kernel_rfl) (fun n s=>by kernel_rfl)
def ref22_find_T:Tab:=(184,ref22_find_t)::ref22_condition_T
theorem qR:ref22_find_T.ok Tryz.prog:=Tab.ok_cons EX lI
abbrev tT:=Int
def Dl(n:Nat)(v0 v1:Lv)(v2 v3:Int):Option tT:=
 (u0 n v0 v2 1 v3).bind fun y4=>
 (bif y4<0 then(fJ n v1 v2).bind fun y5=>
 (bif 0<y5 then(fJ n v1 v2).bind fun y6=>
 (u0 n v0 v2 y6 v3).bind fun y7=>
 some y7 else some y4)else some y4)
def wW(n:Nat)(v0 v1:Lv)(v2 v3:Int):Option tT:=Dl n v0 v1 v2 v3
def ref22_counts_t:FnT:=⟨[(false,[(.sl (.cons .int (.cons .int (.cons .int (.cons .int (.cons .int .nil))))))]),(false,[(.sl (.cons .int (.cons .int .nil)))]),(false,[.int]),(false,[.int])],.i,fun n (s:Lv×Lv×Int×Int)=>wW n s.1 s.2.1 s.2.2.1 s.2.2.2⟩
theorem Cb:ref22_counts_t.ok Tryz.prog 114:=FnT.ok_of (cfg:=⟨[],aH,[],aj⟩) aw qR av (fun s fn hf=>by rw[Tryz.func114]at hf;cases hf;kernel_rfl) (fun n s=>by kernel_rfl)
def ref22_counts_T:Tab:=(114,ref22_counts_t)::ref22_find_T
theorem oy:ref22_counts_T.ok Tryz.prog:=Tab.ok_cons Cb qR
abbrev m0:=Bool
abbrev xZ:=Int
def I0(n:Nat)(go0:xZ->Option m0)(v0:Lv)(v1 v2:Int):Option m0:=
 (bif v2<(v0.length:Int) then bif 0<=v2 then(bif (cI v0 v2 0)=v1 then some true else bif(-9223372036854775808<=(v2+1))&&((v2+1)<=9223372036854775807)then go0 (v2+1)else none)else none else some false)
def Jx(n:Nat)(v0:Lv)(v1:Int):Option m0:=
 (ab (fun go0 s=>I0 n go0 v0 v1 s) n (0:xZ))
def DZ(n:Nat)(v0:Lv)(v1:Int):Option m0:=Jx n v0 v1
def ref22_has_t:FnT:=⟨[(false,[tSa]),(false,[.int])],.b,fun n (s:Lv×Int)=>DZ n s.1 s.2⟩
theorem Gx:ref22_has_t.ok Tryz.prog 116:=FnT.ok_of (cfg:=⟨[((116,2,0),.inv [(.tmp 5 .int)])],aH,[],aj⟩) aw oy av (fun s fn hf=>by rw[Tryz.func116]at hf;cases hf;kernel_rfl) (fun n s=>by kernel_rfl)
def ref22_has_T:Tab:=(116,ref22_has_t)::ref22_counts_T
theorem uC:ref22_has_T.ok Tryz.prog:=Tab.ok_cons Gx oy
abbrev fu:=Int×Lv×Lv×Int
abbrev pt:=Int×Lv×Lv
def Bm(n:Nat)(go0:pt->Option fu)(v0 v1:Lv)(v3 v5:Int)(v6 v7:Lv):Option fu:=
 (wW n v0 v1 v5 v3).bind fun y8=>
 (bif y8<0 then(fJ n v1 v5).bind fun y9=>
 (bif 0<y9 then(fJ n v1 v5).bind fun y10=>
 some (y10,v6,v7,0)else some (1,v6,v7,0))else(bif (v7.length:Int)=5 then some (6,v6,v7,0)else bif 0<=y8 then bif y8<(v0.length:Int) then(DZ n v6 (cI v0 y8 2)).bind fun y9=>
 bif (((v7.length:Int)+1)*8)<=140737488355328 then bif (((v6.length:Int)+1)*8)<=140737488355328 then(bif y9 then some (5,(v6++[[(AV.int (cI v0 y8 2))]]),(v7++[[(AV.int y8)]]),0)else go0 ((cI v0 y8 2),(v6++[[(AV.int (cI v0 y8 2))]]),(v7++[[(AV.int y8)]])))else none else none else none else none))
def BS(n:Nat)(v0 v1:Lv)(v2 v3:Int):Option fu:=
 (sK n v0 v1).bind fun y4=>
 (bif(!y4)then some (0,([]:Lv),([]:Lv),220)else(bif 0<=v2 then(bif !(v2<=99999999)then some (0,([]:Lv),([]:Lv),220)else(bif v3<0 then some (0,([]:Lv),([]:Lv),220)else(bif 10000000<v3 then some (0,([]:Lv),([]:Lv),220)else(ab (fun go0 s=>Bm n go0 v0 v1 v3 s.1 s.2.1 s.2.2) n ((v2,(([]:Lv)++[[(AV.int v2)]]),([]:Lv)):pt)))))else some (0,([]:Lv),([]:Lv),220)))
def j9(n:Nat)(v0 v1:Lv)(v2 v3:Int):Option fu:=BS n v0 v1 v2 v3
def ref22_Resolve_t:FnT:=⟨[(false,[(.sl (.cons .int (.cons .int (.cons .int (.cons .int (.cons .int .nil))))))]),(false,[(.sl (.cons .int (.cons .int .nil)))]),(false,[.int]),(false,[.int])],(.tup (.cons (.agg (.cons .i (.cons (.row 3 (.cons .int .nil)) (.cons (.row 3 (.cons .int .nil)) .nil)))) (.cons .i .nil))),fun n (s:Lv×Lv×Int×Int)=>j9 n s.1 s.2.1 s.2.2.1 s.2.2.2⟩
theorem At:ref22_Resolve_t.ok Tryz.prog 55:=FnT.ok_of (cfg:=⟨[((55,4,4),.inv [(.tmp 2 .int),(.cellrow 2 1 3 (.cons .int .nil)),(.cellrow 2 2 3 (.cons .int .nil))])],aH,[],aj⟩) aw uC av (fun s fn hf=>by rw[Tryz.func55]at hf;cases hf;kernel_rfl) (fun n s=>by kernel_rfl)
def ref22_Resolve_T:Tab:=(55,ref22_Resolve_t)::ref22_has_T
theorem nD:ref22_Resolve_T.ok Tryz.prog:=Tab.ok_cons At uC
abbrev lw:=Bool
abbrev wM:=Int
def GA(n:Nat)(go0:wM->Option lw)(v0 v1:Lv)(v2:Int):Option lw:=
 (bif v2<(v0.length:Int) then bif 0<=v2 then bif v2<(v1.length:Int) then(bif !((cI v0 v2 0)=(cI v1 v2 0))then some false else bif(-9223372036854775808<=(v2+1))&&((v2+1)<=9223372036854775807)then go0 (v2+1)else none)else none else none else some true)
def H4(n:Nat)(v0 v1:Lv):Option lw:=
 (bif !((v0.length:Int)=(v1.length:Int))then some false else(ab (fun go0 s=>GA n go0 v0 v1 s) n (0:wM)))
def uO(n:Nat)(v0 v1:Lv):Option lw:=H4 n v0 v1
def ref22_Ints_t:FnT:=⟨[(false,[tSa]),(false,[tSa])],.b,fun n (s:Lv×Lv)=>uO n s.1 s.2⟩
theorem Fw:ref22_Ints_t.ok Tryz.prog 87:=FnT.ok_of (cfg:=⟨[((87,4,0),.inv [(.tmp 5 .int)])],aH,[],aj⟩) aw nD av (fun s fn hf=>by rw[Tryz.func87]at hf;cases hf;kernel_rfl) (fun n s=>by kernel_rfl)
def ref22_Ints_T:Tab:=(87,ref22_Ints_t)::ref22_Resolve_T
theorem rO:ref22_Ints_T.ok Tryz.prog:=Tab.ok_cons Fw nD
abbrev w9:=Bool
def G7(n:Nat)(v0:Int)(v1 v2:Lv)(v3:Int)(v4 v5:Lv):Option w9:=
 (bif v0=v3 then(uO n v1 v4).bind fun y6=>
 (bif y6 then(uO n v2 v5).bind fun y7=>
 some y7 else some false)else some false)
def uZ(n:Nat)(v0:Int)(v1 v2:Lv)(v3:Int)(v4 v5:Lv):Option w9:=G7 n v0 v1 v2 v3 v4 v5
def ref22_Same_t:FnT:=⟨[(true,[.int,tSa,tSa]),(true,[.int,tSa,tSa])],.b,fun n (s:Int×Lv×Lv×Int×Lv×Lv)=>uZ n s.1 s.2.1 s.2.2.1 s.2.2.2.1 s.2.2.2.2.1 s.2.2.2.2.2⟩
theorem EH:ref22_Same_t.ok Tryz.prog 30:=FnT.ok_of (cfg:=⟨[],aH,[],aj⟩) aw rO av (fun s fn hf=>by rw[Tryz.func30]at hf;cases hf;kernel_rfl) (fun n s=>by kernel_rfl)
def ref22_Same_T:Tab:=(30,ref22_Same_t)::ref22_Ints_T
theorem rY:ref22_Same_T.ok Tryz.prog:=Tab.ok_cons EH rO
abbrev wY:=Int
def yf(n:Nat)(v0 v1:Int):Option wY:=
 (bif v0<0 then bif(-9223372036854775808<=(v0+1))&&((v0+1)<=9223372036854775807)then bif(-9223372036854775808<=(0-(v0+1)))&&((0-(v0+1))<=9223372036854775807)then bif !(v1=0)then some (Int.tmod (0-(v0+1)) v1)else none else none else none else bif !(v1=0)then some (Int.tmod v0 v1)else none)
def bG(n:Nat)(v0 v1:Int):Option wY:=yf n v0 v1
def ref22_pick_t:FnT:=⟨[(false,[.int]),(false,[.int])],.i,fun n (s:Int×Int)=>bG n s.1 s.2⟩
theorem FF:ref22_pick_t.ok Tryz.prog 109:=FnT.ok_of (cfg:=⟨[],aH,[],aj⟩) aw rY av (fun s fn hf=>by rw[Tryz.func109]at hf;cases hf;kernel_rfl) (fun n s=>by kernel_rfl)
def ref22_pick_T:Tab:=(109,ref22_pick_t)::ref22_Same_T
theorem sB:ref22_pick_T.ok Tryz.prog:=Tab.ok_cons FF rY
abbrev Aa:=Int×Int×Int×Int×Int
def Ad(n:Nat)(v0 v1 v2 v3 v4:Int):Option Aa:=
 (bG n v0 8).bind fun y5=>
 bif(-9223372036854775808<=(10+y5))&&((10+y5)<=9223372036854775807)then bif(-9223372036854775808<=(y5+1))&&((y5+1)<=9223372036854775807)then(bG n v2 7).bind fun y6=>
 bif(-9223372036854775808<=((y5+1)+y6))&&(((y5+1)+y6)<=9223372036854775807)then bif(-9223372036854775808<=(10+(Int.tmod ((y5+1)+y6) 8)))&&((10+(Int.tmod ((y5+1)+y6) 8))<=9223372036854775807)then(bG n v3 50).bind fun y7=>
 bif(-9223372036854775808<=(y7+1))&&((y7+1)<=9223372036854775807)then(bG n v4 60).bind fun y8=>
 bif(-9223372036854775808<=((y7+1)+y8))&&(((y7+1)+y8)<=9223372036854775807)then(bG n v1 8).bind fun y9=>
 (bif 4<y9 then(bG n v1 8).bind fun y10=>
 bif(-9223372036854775808<=(y10-3))&&((y10-3)<=9223372036854775807)then some ((10+y5),(y10-3),(10+(Int.tmod ((y5+1)+y6) 8)),y7,((y7+1)+y8))else none else some ((10+y5),1,(10+(Int.tmod ((y5+1)+y6) 8)),y7,((y7+1)+y8)))else none else none else none else none else none else none
def sD(n:Nat)(v0 v1 v2 v3 v4:Int):Option Aa:=Ad n v0 v1 v2 v3 v4
def ref22_One_t:FnT:=⟨[(true,[.int,.int,.int,.int,.int])],(.agg (.cons .i (.cons .i (.cons .i (.cons .i (.cons .i .nil)))))),fun n (s:Int×Int×Int×Int×Int)=>sD n s.1 s.2.1 s.2.2.1 s.2.2.2.1 s.2.2.2.2⟩
theorem IB:ref22_One_t.ok Tryz.prog 107:=FnT.ok_of (cfg:=⟨[],aH,[],aj⟩) aw sB av (fun s fn hf=>by rw[Tryz.func107]at hf;cases hf;kernel_rfl) (fun n s=>by kernel_rfl)
def ref22_One_T:Tab:=(107,ref22_One_t)::ref22_pick_T
theorem tY:ref22_One_T.ok Tryz.prog:=Tab.ok_cons IB sB
abbrev lN:=Lv
abbrev wa:=Lv×Int
def py(n:Nat)(go0:wa->Option lN)(v0 v1:Lv)(v2:Int):Option lN:=
 (bif v2<(v0.length:Int) then(bif v2<16 then bif ((v1.length:Int)*40)<=140737488355328 then bif 0<=v2 then(sD n (cI v0 v2 0) (cI v0 v2 1) (cI v0 v2 2) (cI v0 v2 3) (cI v0 v2 4)).bind fun y3=>
 bif (((v1.length:Int)+1)*40)<=140737488355328 then(gx n (v1++[[(AV.int y3.1),(AV.int y3.2.1),(AV.int y3.2.2.1),(AV.int y3.2.2.2.1),(AV.int y3.2.2.2.2)]])).bind fun y8=>
 (bif y8 then bif(-9223372036854775808<=(v2+1))&&((v2+1)<=9223372036854775807)then go0 ((v1++[[(AV.int y3.1),(AV.int y3.2.1),(AV.int y3.2.2.1),(AV.int y3.2.2.2.1),(AV.int y3.2.2.2.2)]]),(v2+1))else none else bif(-9223372036854775808<=(v2+1))&&((v2+1)<=9223372036854775807)then go0 (v1,(v2+1))else none)else none else none else none else some v1)else some v1)
def xU(n:Nat)(v0:Lv):Option lN:=
 (ab (fun go0 s=>py n go0 v0 s.1 s.2) n ((([]:Lv),0):wa))
def lH(n:Nat)(v0:Lv):Option lN:=xU n v0
def ref22_Made_t:FnT:=⟨[(false,[(.sl (.cons .int (.cons .int (.cons .int (.cons .int (.cons .int .nil))))))])],(.row 162 (.cons .int (.cons .int (.cons .int (.cons .int (.cons .int .nil)))))),fun n (s:Lv)=>lH n s⟩
theorem Fp:ref22_Made_t.ok Tryz.prog 45:=FnT.ok_of (cfg:=⟨[((45,3,0),.inv [(.tmprow 3 162 (.cons .int (.cons .int (.cons .int (.cons .int (.cons .int .nil)))))),(.tmp 4 .int)])],aH,[],aj⟩) aw tY av (fun s fn hf=>by rw[Tryz.func45]at hf;cases hf;kernel_rfl) (fun n s=>by kernel_rfl)
def ref22_Made_T:Tab:=(45,ref22_Made_t)::ref22_One_T
theorem qU:ref22_Made_T.ok Tryz.prog:=Tab.ok_cons Fp tY
abbrev fD:=Lv
abbrev mg:=Lv×Int
def iV(n:Nat)(go0:mg->Option fD)(v1:Int)(v2:Lv)(v3:Int):Option fD:=
 (bif v3<8 then bif(-9223372036854775808<=(2*v3))&&((2*v3)<=9223372036854775807)then bif 0<=(2*v3) then(bif 0<(Int.tmod (IOp.f .shr v1 (2*v3)) 4) then bif(-9223372036854775808<=(10+v3))&&((10+v3)<=9223372036854775807)then bif(-9223372036854775808<=(1+(Int.tmod (IOp.f .shr v1 (2*v3)) 4)))&&((1+(Int.tmod (IOp.f .shr v1 (2*v3)) 4))<=9223372036854775807)then bif (((v2.length:Int)+1)*16)<=140737488355328 then bif(-9223372036854775808<=(v3+1))&&((v3+1)<=9223372036854775807)then go0 ((v2++[[(AV.int (10+v3)),(AV.int (1+(Int.tmod (IOp.f .shr v1 (2*v3)) 4)))]]),(v3+1))else none else none else none else none else bif(-9223372036854775808<=(v3+1))&&((v3+1)<=9223372036854775807)then go0 (v2,(v3+1))else none)else none else none else some v2)
def np(n:Nat)(v0:Int):Option fD:=
 (bG n v0 65536).bind fun y1=>
 (ab (fun go0 s=>iV n go0 y1 s.1 s.2) n ((([]:Lv),0):mg))
def eM(n:Nat)(v0:Int):Option fD:=np n v0
def ref22_Conditions_t:FnT:=⟨[(false,[.int])],(.row 198 (.cons .int (.cons .int .nil))),fun n (s:Int)=>eM n s⟩
theorem wS:ref22_Conditions_t.ok Tryz.prog 46:=FnT.ok_of (cfg:=⟨[((46,4,0),.inv [(.tmprow 3 198 (.cons .int (.cons .int .nil))),(.tmp 5 .int)])],aH,[],aj⟩) aw qU av (fun s fn hf=>by rw[Tryz.func46]at hf;cases hf;kernel_rfl) (fun n s=>by kernel_rfl)
def ref22_Conditions_T:Tab:=(46,ref22_Conditions_t)::ref22_Made_T
theorem kR:ref22_Conditions_T.ok Tryz.prog:=Tab.ok_cons wS qU
abbrev iU:=Lv×Lv
abbrev iy:=Lv
def lG(n:Nat)(go0:iy->Option iU)(v1:Lv)(v3:Int)(v6:Lv):Option iU:=
 (bG n v3 3).bind fun y7=>
 bif(-9223372036854775808<=(39+y7))&&((39+y7)<=9223372036854775807)then(bif (v6.length:Int)<(39+y7) then bif(-9223372036854775808<=(100+(v6.length:Int)))&&((100+(v6.length:Int))<=9223372036854775807)then bif (((v6.length:Int)+1)*40)<=140737488355328 then go0 (v6++[[(AV.int (100+(v6.length:Int))),(AV.int 1),(AV.int 10),(AV.int 0),(AV.int 5)]])else none else none else some (v6,v1))else none
abbrev HW:= @lG
abbrev Hj:= @lG
abbrev Gp:= @lG
def G2(n:Nat)(v0 v1:Lv)(v3 v4 v5:Int):Option iU:=
 (bif v5<6 then(bif 0<(v0.length:Int) then(bG n v4 (v0.length:Int)).bind fun y6=>
 bif 0<=y6 then bif y6<(v0.length:Int) then(bif v5=0 then some ((List.modify v0 (y6).toNat (fun r=>r.set 0 (AV.int v3))),v1)else(bif v5=1 then some ((List.modify v0 (y6).toNat (fun r=>r.set 1 (AV.int v3))),v1)else(bif v5=2 then some ((List.modify v0 (y6).toNat (fun r=>r.set 2 (AV.int v3))),v1)else(bif v5=3 then some ((List.modify v0 (y6).toNat (fun r=>r.set 3 (AV.int v3))),v1)else(bif v5=4 then some ((List.modify v0 (y6).toNat (fun r=>r.set 4 (AV.int v3))),v1)else bif (((v0.length:Int)+1)*40)<=140737488355328 then some ((v0++[[(AV.int (cI v0 y6 0)),(AV.int (cI v0 y6 1)),(AV.int (cI v0 y6 2)),(AV.int (cI v0 y6 3)),(AV.int (cI v0 y6 4))]]),v1)else none)))))else none else none else(bif v5<9 then(bif 0<(v1.length:Int) then(bG n v4 (v1.length:Int)).bind fun y6=>
 (bif v5=6 then bif 0<=y6 then bif y6<(v1.length:Int) then some (v0,(List.modify v1 (y6).toNat (fun r=>r.set 0 (AV.int v3))))else none else none else(bif v5=7 then bif 0<=y6 then bif y6<(v1.length:Int) then some (v0,(List.modify v1 (y6).toNat (fun r=>r.set 1 (AV.int v3))))else none else none else bif 0<=y6 then bif y6<(v1.length:Int) then some (v0,(List.modify (List.modify (List.modify (List.modify v1 ((0:Int)).toNat (fun r=>r.set 0 (AV.int (cI v1 y6 0)))) ((0:Int)).toNat (fun r=>r.set 1 (AV.int (cI v1 y6 1)))) (y6).toNat (fun r=>r.set 0 (AV.int (cI v1 0 0)))) (y6).toNat (fun r=>r.set 1 (AV.int (cI v1 0 1)))))else none else none))else(ab (fun go0 s=>lG n go0 v1 v3 s) n (v0:iy)))else(ab (fun go0 s=>HW n go0 v1 v3 s) n (v0:iy))))else(bif v5<9 then(bif 0<(v1.length:Int) then(bG n v4 (v1.length:Int)).bind fun y6=>
 (bif v5=6 then bif 0<=y6 then bif y6<(v1.length:Int) then some (v0,(List.modify v1 (y6).toNat (fun r=>r.set 0 (AV.int v3))))else none else none else(bif v5=7 then bif 0<=y6 then bif y6<(v1.length:Int) then some (v0,(List.modify v1 (y6).toNat (fun r=>r.set 1 (AV.int v3))))else none else none else bif 0<=y6 then bif y6<(v1.length:Int) then some (v0,(List.modify (List.modify (List.modify (List.modify v1 ((0:Int)).toNat (fun r=>r.set 0 (AV.int (cI v1 y6 0)))) ((0:Int)).toNat (fun r=>r.set 1 (AV.int (cI v1 y6 1)))) (y6).toNat (fun r=>r.set 0 (AV.int (cI v1 0 0)))) (y6).toNat (fun r=>r.set 1 (AV.int (cI v1 0 1)))))else none else none))else(ab (fun go0 s=>Hj n go0 v1 v3 s) n (v0:iy)))else(ab (fun go0 s=>Gp n go0 v1 v3 s) n (v0:iy))))
def Iu(n:Nat)(v0 v1:Lv)(v2 v3 v4:Int):Option iU:=
 bif ((v0.length:Int)*40)<=140737488355328 then bif ((v1.length:Int)*16)<=140737488355328 then(bG n v2 10).bind fun y5=>
 G2 n v0 v1 v3 v4 y5 else none else none
def Cu(n:Nat)(v0 v1:Lv)(v2 v3 v4:Int):Option iU:=Iu n v0 v1 v2 v3 v4
def ref22_Bent_t:FnT:=⟨[(false,[(.sl (.cons .int (.cons .int (.cons .int (.cons .int (.cons .int .nil))))))]),(false,[(.sl (.cons .int (.cons .int .nil)))]),(false,[.int]),(false,[.int]),(false,[.int])],(.tup (.cons (.row 1000162 (.cons .int (.cons .int (.cons .int (.cons .int (.cons .int .nil)))))) (.cons (.row 1000198 (.cons .int (.cons .int .nil))) .nil))),fun n (s:Lv×Lv×Int×Int×Int)=>Cu n s.1 s.2.1 s.2.2.1 s.2.2.2.1 s.2.2.2.2⟩
theorem Fg:ref22_Bent_t.ok Tryz.prog 49:=FnT.ok_of (cfg:=⟨[((49,28,4),.inv [(.tmprow 12 162 (.cons .int (.cons .int (.cons .int (.cons .int (.cons .int .nil))))))])],aH,[],aj⟩) aw kR av (fun s fn hf=>by rw[Tryz.func49]at hf;cases hf;kernel_rfl) (fun n s=>by kernel_rfl)
def ref22_Bent_T:Tab:=(49,ref22_Bent_t)::ref22_Conditions_T
theorem sq:ref22_Bent_T.ok Tryz.prog:=Tab.ok_cons Fg kR
abbrev oq:=Int×Lv×Lv
def zB(n:Nat)(v0:Int)(v1 v2:Lv)(v3 v4:Int):Option oq:=
 bif ((v1.length:Int)*8)<=140737488355328 then bif ((v2.length:Int)*8)<=140737488355328 then(bG n v3 5).bind fun y5=>
 (bif y5=0 then some (v4,v1,v2)else(bif y5=1 then bif (((v1.length:Int)+1)*8)<=140737488355328 then some (v0,(v1++[[(AV.int v4)]]),v2)else none else(bif y5=2 then bif (((v2.length:Int)+1)*8)<=140737488355328 then some (v0,v1,(v2++[[(AV.int v4)]]))else none else(bif y5=3 then(bif 0<(v1.length:Int) then bif(-9223372036854775808<=((v1.length:Int)-1))&&(((v1.length:Int)-1)<=9223372036854775807)then bif 0<=((v1.length:Int)-1) then bif ((v1.length:Int)-1)<=(v1.length:Int) then some (v0,(List.take (((v1.length:Int)-1)).toNat v1),v2)else none else none else none else some (v0,v1,v2))else(bif 0<(v2.length:Int) then bif(-9223372036854775808<=(Int.tdiv v3 5))&&((Int.tdiv v3 5)<=9223372036854775807)then(bG n (Int.tdiv v3 5) (v2.length:Int)).bind fun y6=>
 bif 0<=y6 then bif y6<(v2.length:Int) then some (v0,v1,(List.modify v2 (y6).toNat (fun r=>r.set 0 (AV.int v4))))else none else none else none else some (v0,v1,v2))))))else none else none
def rJ(n:Nat)(v0:Int)(v1 v2:Lv)(v3 v4:Int):Option oq:=zB n v0 v1 v2 v3 v4
def ref22_BentRoute_t:FnT:=⟨[(true,[.int,tSa,tSa]),(false,[.int]),(false,[.int])],(.agg (.cons .i (.cons (.row 1000003 (.cons .int .nil)) (.cons (.row 1000003 (.cons .int .nil)) .nil)))),fun n (s:Int×Lv×Lv×Int×Int)=>rJ n s.1 s.2.1 s.2.2.1 s.2.2.2.1 s.2.2.2.2⟩
theorem xR:ref22_BentRoute_t.ok Tryz.prog 62:=FnT.ok_of (cfg:=⟨[],aH,[],aj⟩) aw sq av (fun s fn hf=>by rw[Tryz.func62]at hf;cases hf;kernel_rfl) (fun n s=>by kernel_rfl)
def ref22_BentRoute_T:Tab:=(62,ref22_BentRoute_t)::ref22_Bent_T
theorem lL:ref22_BentRoute_T.ok Tryz.prog:=Tab.ok_cons xR sq
abbrev iS:=Bool
abbrev qr:=Int
def Cj(n:Nat)(go0:qr->Option iS)(v0:Lv)(v1:Int):Option iS:=
 (bif v1<(v0.length:Int) then bif 0<=v1 then(bif (-1)<=(cI v0 v1 0) then(bif !((cI v0 v1 0)<=7)then some false else bif(-9223372036854775808<=(v1+1))&&((v1+1)<=9223372036854775807)then go0 (v1+1)else none)else some false)else none else some true)
def Cq(n:Nat)(v0:Lv):Option iS:=
 (bif 1<=(v0.length:Int) then(bif !((v0.length:Int)<=30)then some false else(ab (fun go0 s=>Cj n go0 v0 s) n (0:qr)))else some false)
def wL(n:Nat)(v0:Lv):Option iS:=Cq n v0
def ref24_holders_t:FnT:=⟨[(false,[tSa])],.b,fun n (s:Lv)=>wL n s⟩
theorem AL:ref24_holders_t.ok Tryz.prog 150:=FnT.ok_of (cfg:=⟨[((150,4,0),.inv [(.tmp 3 .int)])],aH,[],aj⟩) aw lL av (fun s fn hf=>by rw[Tryz.func150]at hf;cases hf;kernel_rfl) (fun n s=>by kernel_rfl)
def ref24_holders_T:Tab:=(150,ref24_holders_t)::ref22_BentRoute_T
theorem nS:ref24_holders_T.ok Tryz.prog:=Tab.ok_cons AL lL
abbrev cu:=Bool
abbrev dm:=Int
def EI(n:Nat)(go0:dm->Option cu)(go1:dm->Option cu)(v0 v1:Lv)(v4 v5:Int):Option cu:=
 (bif v5<=((v0.length:Int)-1) then bif 0<=v5 then bif v5<(v0.length:Int) then bif(-9223372036854775808<=(v5-1))&&((v5-1)<=9223372036854775807)then bif 0<=(v5-1) then bif (v5-1)<(v0.length:Int) then(bif !((cI v0 v5 0)=(cI v0 (v5-1) 0))then(bif (cI v0 v5 0)=v4 then(bif (cI v1 v4 0)<v5 then some false else bif(-9223372036854775808<=(v5+1))&&((v5+1)<=9223372036854775807)then go1 (v5+1)else none)else(bif (cI v0 (v5-1) 0)=v4 then(bif (cI v1 v4 0)<v5 then some false else bif(-9223372036854775808<=(v5+1))&&((v5+1)<=9223372036854775807)then go1 (v5+1)else none)else bif(-9223372036854775808<=(v5+1))&&((v5+1)<=9223372036854775807)then go1 (v5+1)else none))else bif(-9223372036854775808<=(v5+1))&&((v5+1)<=9223372036854775807)then go1 (v5+1)else none)else none else none else none else none else none else bif(-9223372036854775808<=(v4+1))&&((v4+1)<=9223372036854775807)then go0 (v4+1)else none)
def Fb(n:Nat)(go0:dm->Option cu)(go1:dm->Option cu)(v0:Lv)(v4 v5:Int):Option cu:=
 (bif v5<=((v0.length:Int)-1) then bif 0<=v5 then bif v5<(v0.length:Int) then bif(-9223372036854775808<=(v5-1))&&((v5-1)<=9223372036854775807)then bif 0<=(v5-1) then bif (v5-1)<(v0.length:Int) then(bif !((cI v0 v5 0)=(cI v0 (v5-1) 0))then(bif (cI v0 v5 0)=v4 then bif(-9223372036854775808<=(v5+1))&&((v5+1)<=9223372036854775807)then go1 (v5+1)else none else(bif (cI v0 (v5-1) 0)=v4 then bif(-9223372036854775808<=(v5+1))&&((v5+1)<=9223372036854775807)then go1 (v5+1)else none else bif(-9223372036854775808<=(v5+1))&&((v5+1)<=9223372036854775807)then go1 (v5+1)else none))else bif(-9223372036854775808<=(v5+1))&&((v5+1)<=9223372036854775807)then go1 (v5+1)else none)else none else none else none else none else none else bif(-9223372036854775808<=(v4+1))&&((v4+1)<=9223372036854775807)then go0 (v4+1)else none)
def EL(n:Nat)(go0:dm->Option cu)(v0 v1:Lv)(v2 v4:Int):Option cu:=
 (bif v4<(v1.length:Int) then bif 0<=v4 then(bif (-1)<=(cI v1 v4 0) then(bif !((cI v1 v4 0)<=((v0.length:Int)-1))then some false else(bif 0<=(cI v1 v4 0) then bif(-9223372036854775808<=(((v0.length:Int)-1)-v2))&&((((v0.length:Int)-1)-v2)<=9223372036854775807)then(bif (cI v1 v4 0)<(((v0.length:Int)-1)-v2) then some false else(ab (fun go1 s=>EI n go0 go1 v0 v1 v4 s) n (1:dm)))else none else(ab (fun go1 s=>Fb n go0 go1 v0 v4 s) n (1:dm))))else some false)else none else some true)
def F5(n:Nat)(v0 v1:Lv)(v2:Int):Option cu:=
 (wL n v0).bind fun y3=>
 (bif(!y3)then some false else(bif !((v1.length:Int)=8)then some false else(bif 0<=v2 then(bif !(v2<=10)then some false else bif(-9223372036854775808<=((v0.length:Int)-1))&&(((v0.length:Int)-1)<=9223372036854775807)then(ab (fun go0 s=>EL n go0 v0 v1 v2 s) n (0:dm))else none)else some false)))
def sX(n:Nat)(v0 v1:Lv)(v2:Int):Option cu:=F5 n v0 v1 v2
def ref24_Valid_t:FnT:=⟨[(false,[tSa]),(false,[tSa]),(false,[.int])],.b,fun n (s:Lv×Lv×Int)=>sX n s.1 s.2.1 s.2.2⟩
theorem DD:ref24_Valid_t.ok Tryz.prog 76:=FnT.ok_of (cfg:=⟨[((76,5,0),.inv [(.tmp 8 .int)]),((76,10,1),.inv [(.tmp 9 .int)])],aH,[],aj⟩) aw nS av (fun s fn hf=>by rw[Tryz.func76]at hf;cases hf;kernel_rfl) (fun n s=>by kernel_rfl)
def ref24_Valid_T:Tab:=(76,ref24_Valid_t)::ref24_holders_T
theorem qb:ref24_Valid_T.ok Tryz.prog:=Tab.ok_cons DD nS
abbrev lT:=Lv×Int×Int
abbrev vR:=Lv×Int×Int
def Gs(n:Nat)(go0:vR->Option lT)(v0 v1 v5:Lv)(v6 v7:Int):Option lT:=
 bif 0<=v6 then bif v6<(v1.length:Int) then bif 0<=(aL (cI v1 v6 0) v7) then bif (aL (cI v1 v6 0) v7)<(v0.length:Int) then(bif (cI v0 (aL (cI v1 v6 0) v7) 0)=v6 then bif (((v5.length:Int)+1)*16)<=140737488355328 then some ((v5++[[(AV.int v6),(AV.int (aL (cI v1 v6 0) v7))]]),1,0)else none else(bif (cI v0 (aL (cI v1 v6 0) v7) 0)=(-1) then bif (((v5.length:Int)+1)*16)<=140737488355328 then some ((v5++[[(AV.int v6),(AV.int (aL (cI v1 v6 0) v7))]]),2,0)else none else bif 0<=(cI v0 (aL (cI v1 v6 0) v7) 0) then bif (cI v0 (aL (cI v1 v6 0) v7) 0)<(v1.length:Int) then(bif (cI v1 (cI v0 (aL (cI v1 v6 0) v7) 0) 0)<0 then bif (((v5.length:Int)+1)*16)<=140737488355328 then some ((v5++[[(AV.int v6),(AV.int (aL (cI v1 v6 0) v7))]]),3,0)else none else bif (((v5.length:Int)+1)*16)<=140737488355328 then go0 ((v5++[[(AV.int v6),(AV.int (aL (cI v1 v6 0) v7))]]),(cI v0 (aL (cI v1 v6 0) v7) 0),(aL (cI v1 v6 0) v7))else none)else none else none))else none else none else none else none
def GG(n:Nat)(v0 v1:Lv)(v2 v3:Int):Option lT:=
 (sX n v0 v1 v2).bind fun y4=>
 (bif(!y4)then some (([]:Lv),0,240)else(bif 0<=v3 then(bif !(v3<=7)then some (([]:Lv),0,240)else bif v3<(v1.length:Int) then(bif !(0<=(cI v1 v3 0))then some (([]:Lv),0,240)else(ab (fun go0 s=>Gs n go0 v0 v1 s.1 s.2.1 s.2.2) n ((([]:Lv),v3,(-1)):vR)))else none)else some (([]:Lv),0,240)))
def oQ(n:Nat)(v0 v1:Lv)(v2 v3:Int):Option lT:=GG n v0 v1 v2 v3
def ref24_Path_t:FnT:=⟨[(false,[tSa]),(false,[tSa]),(false,[.int]),(false,[.int])],(.tup (.cons (.row 94 (.cons .int (.cons .int .nil))) (.cons .i (.cons .i .nil)))),fun n (s:Lv×Lv×Int×Int)=>oQ n s.1 s.2.1 s.2.2.1 s.2.2.2⟩
theorem Fr:ref24_Path_t.ok Tryz.prog 57:=FnT.ok_of (cfg:=⟨[((57,7,0),.inv [(.tmprow 11 94 (.cons .int (.cons .int .nil))),(.tmp 3 .int),(.tmp 12 .int)])],aH,[],aj⟩) aw qb av (fun s fn hf=>by rw[Tryz.func57]at hf;cases hf;kernel_rfl) (fun n s=>by kernel_rfl)
def ref24_Path_T:Tab:=(57,ref24_Path_t)::ref24_Valid_T
theorem sm:ref24_Path_T.ok Tryz.prog:=Tab.ok_cons Fr qb
abbrev lV:=Bool
abbrev vT:=Int
def Hl(n:Nat)(go0:vT->Option lV)(v0 v1:Lv)(v2:Int):Option lV:=
 (bif v2<(v0.length:Int) then bif 0<=v2 then bif v2<(v1.length:Int) then(bif(!((decide ((cI v0 v2 0)=(cI v1 v2 0)))&&(decide ((cI v0 v2 1)=(cI v1 v2 1)))))then some false else bif(-9223372036854775808<=(v2+1))&&((v2+1)<=9223372036854775807)then go0 (v2+1)else none)else none else none else some true)
def HR(n:Nat)(v0 v1:Lv):Option lV:=
 (bif !((v0.length:Int)=(v1.length:Int))then some false else(ab (fun go0 s=>Hl n go0 v0 v1 s) n (0:vT)))
def vB(n:Nat)(v0 v1:Lv):Option lV:=HR n v0 v1
def ref24_Same_t:FnT:=⟨[(false,[(.sl (.cons .int (.cons .int .nil)))]),(false,[(.sl (.cons .int (.cons .int .nil)))])],.b,fun n (s:Lv×Lv)=>vB n s.1 s.2⟩
theorem FG:ref24_Same_t.ok Tryz.prog 27:=FnT.ok_of (cfg:=⟨[((27,4,0),.inv [(.tmp 5 .int)])],aH,[],aj⟩) aw sm av (fun s fn hf=>by rw[Tryz.func27]at hf;cases hf;kernel_rfl) (fun n s=>by kernel_rfl)
def ref24_Same_T:Tab:=(27,ref24_Same_t)::ref24_Path_T
theorem qS:ref24_Same_T.ok Tryz.prog:=Tab.ok_cons FG sm
abbrev yc:=Int
def xG(n:Nat)(v0 v1:Int):Option yc:=
 (bif v0<0 then bif(-9223372036854775808<=(v0+1))&&((v0+1)<=9223372036854775807)then bif(-9223372036854775808<=(0-(v0+1)))&&((0-(v0+1))<=9223372036854775807)then bif !(v1=0)then some (Int.tmod (0-(v0+1)) v1)else none else none else none else bif !(v1=0)then some (Int.tmod v0 v1)else none)
def cV(n:Nat)(v0 v1:Int):Option yc:=xG n v0 v1
def ref24_pick_t:FnT:=⟨[(false,[.int]),(false,[.int])],.i,fun n (s:Int×Int)=>cV n s.1 s.2⟩
theorem Fn:ref24_pick_t.ok Tryz.prog 110:=FnT.ok_of (cfg:=⟨[],aH,[],aj⟩) aw qS av (fun s fn hf=>by rw[Tryz.func110]at hf;cases hf;kernel_rfl) (fun n s=>by kernel_rfl)
def ref24_pick_T:Tab:=(110,ref24_pick_t)::ref24_Same_T
theorem rZ:ref24_pick_T.ok Tryz.prog:=Tab.ok_cons Fn qS
abbrev ig:=Int
abbrev jF:=Int×Int
def d7(n:Nat)(go0:jF->Option ig)(v0:Lv)(v2 v3 v4:Int):Option ig:=
 (bif v4<=((v0.length:Int)-1) then bif 0<=v4 then bif v4<(v0.length:Int) then bif(-9223372036854775808<=(v4-1))&&((v4-1)<=9223372036854775807)then bif 0<=(v4-1) then bif (v4-1)<(v0.length:Int) then(bif !((cI v0 v4 0)=(cI v0 (v4-1) 0))then(bif (cI v0 v4 0)=v2 then bif(-9223372036854775808<=(v4+1))&&((v4+1)<=9223372036854775807)then go0 ((aL v3 v4),(v4+1))else none else(bif (cI v0 (v4-1) 0)=v2 then bif(-9223372036854775808<=(v4+1))&&((v4+1)<=9223372036854775807)then go0 ((aL v3 v4),(v4+1))else none else bif(-9223372036854775808<=(v4+1))&&((v4+1)<=9223372036854775807)then go0 (v3,(v4+1))else none))else bif(-9223372036854775808<=(v4+1))&&((v4+1)<=9223372036854775807)then go0 (v3,(v4+1))else none)else none else none else none else none else none else some v3)
def wg(n:Nat)(v0:Lv)(v1 v2:Int):Option ig:=
 bif(-9223372036854775808<=((v0.length:Int)-1))&&(((v0.length:Int)-1)<=9223372036854775807)then bif(-9223372036854775808<=(((v0.length:Int)-1)-v1))&&((((v0.length:Int)-1)-v1)<=9223372036854775807)then(ab (fun go0 s=>d7 n go0 v0 v2 s.1 s.2) n (((aL 0 (((v0.length:Int)-1)-v1)),1):jF))else none else none
def mU(n:Nat)(v0:Lv)(v1 v2:Int):Option ig:=wg n v0 v1 v2
def ref24_Least_t:FnT:=⟨[(false,[tSa]),(false,[.int]),(false,[.int])],.i,fun n (s:Lv×Int×Int)=>mU n s.1 s.2.1 s.2.2⟩
theorem CT:ref24_Least_t.ok Tryz.prog 183:=FnT.ok_of (cfg:=⟨[((183,4,0),.inv [(.tmp 8 .int),(.tmp 9 .int)])],aH,[],aj⟩) aw rZ av (fun s fn hf=>by rw[Tryz.func183]at hf;cases hf;kernel_rfl) (fun n s=>by kernel_rfl)
def ref24_Least_T:Tab:=(183,ref24_Least_t)::ref24_pick_T
theorem pF:ref24_Least_T.ok Tryz.prog:=Tab.ok_cons CT rZ
abbrev kA:=Lv
abbrev tE:=Lv×Int
def oc(n:Nat)(go0:tE->Option kA)(v0:Lv)(v1:Int)(v2 v3:Lv)(v4:Int):Option kA:=
 (bif v4<=7 then(mU n v0 v1 v4).bind fun y5=>
 (bif v4<(v2.length:Int) then bif 0<=v4 then bif(-9223372036854775808<=(Int.tdiv (cI v2 v4 0) 16))&&((Int.tdiv (cI v2 v4 0) 16)<=9223372036854775807)then bif(-9223372036854775808<=((v0.length:Int)-y5))&&(((v0.length:Int)-y5)<=9223372036854775807)then(cV n (Int.tdiv (cI v2 v4 0) 16) ((v0.length:Int)-y5)).bind fun y6=>
 bif(-9223372036854775808<=(y5+y6))&&((y5+y6)<=9223372036854775807)then(cV n (cI v2 v4 0) 16).bind fun y7=>
 (bif y7=15 then bif (((v3.length:Int)+1)*8)<=140737488355328 then bif(-9223372036854775808<=(v4+1))&&((v4+1)<=9223372036854775807)then go0 ((v3++[[(AV.int (-1))]]),(v4+1))else none else none else bif (((v3.length:Int)+1)*8)<=140737488355328 then bif(-9223372036854775808<=(v4+1))&&((v4+1)<=9223372036854775807)then go0 ((v3++[[(AV.int (y5+y6))]]),(v4+1))else none else none)else none else none else none else none else bif(-9223372036854775808<=((v0.length:Int)-y5))&&(((v0.length:Int)-y5)<=9223372036854775807)then(cV n 0 ((v0.length:Int)-y5)).bind fun y6=>
 bif(-9223372036854775808<=(y5+y6))&&((y5+y6)<=9223372036854775807)then(cV n 0 16).bind fun y7=>
 (bif y7=15 then bif (((v3.length:Int)+1)*8)<=140737488355328 then bif(-9223372036854775808<=(v4+1))&&((v4+1)<=9223372036854775807)then go0 ((v3++[[(AV.int (-1))]]),(v4+1))else none else none else bif (((v3.length:Int)+1)*8)<=140737488355328 then bif(-9223372036854775808<=(v4+1))&&((v4+1)<=9223372036854775807)then go0 ((v3++[[(AV.int (y5+y6))]]),(v4+1))else none else none)else none else none)else some v3)
def wB(n:Nat)(v0:Lv)(v1:Int)(v2:Lv):Option kA:=
 (ab (fun go0 s=>oc n go0 v0 v1 v2 s.1 s.2) n ((([]:Lv),0):tE))
def fX(n:Nat)(v0:Lv)(v1:Int)(v2:Lv):Option kA:=wB n v0 v1 v2
def ref24_Known_t:FnT:=⟨[(false,[tSa]),(false,[.int]),(false,[tSa])],(.row 3 (.cons .int .nil)),fun n (s:Lv×Int×Lv)=>fX n s.1 s.2.1 s.2.2⟩
theorem DE:ref24_Known_t.ok Tryz.prog 111:=FnT.ok_of (cfg:=⟨[((111,3,0),.inv [(.tmprow 7 3 (.cons .int .nil)),(.tmp 8 .int)])],aH,[],aj⟩) aw pF av (fun s fn hf=>by rw[Tryz.func111]at hf;cases hf;kernel_rfl) (fun n s=>by kernel_rfl)
def ref24_Known_T:Tab:=(111,ref24_Known_t)::ref24_Least_T
theorem pZ:ref24_Known_T.ok Tryz.prog:=Tab.ok_cons DE pF
abbrev k9:=Lv×Lv×Int
abbrev ir:=Lv×Int
def gu(n:Nat)(go0:ir->Option k9)(v0 v1:Lv)(v2:Int)(v4:Lv)(v5:Int):Option k9:=
 (bif v5<(v0.length:Int) then(bif v5<12 then bif 0<=v5 then(cV n (cI v0 v5 0) 9).bind fun y6=>
 bif(-9223372036854775808<=(y6-1))&&((y6-1)<=9223372036854775807)then bif (((v4.length:Int)+1)*8)<=140737488355328 then bif(-9223372036854775808<=(v5+1))&&((v5+1)<=9223372036854775807)then go0 ((v4++[[(AV.int (y6-1))]]),(v5+1))else none else none else none else none else(cV n v2 11).bind fun y6=>
 (fX n v4 y6 v1).bind fun y7=>
 some (v4,y7,y6))else(cV n v2 11).bind fun y6=>
 (fX n v4 y6 v1).bind fun y7=>
 some (v4,y7,y6))
abbrev Il:= @gu
def yC(n:Nat)(v0 v1:Lv)(v2:Int):Option k9:=
 (bif 0<(v0.length:Int) then(cV n (cI v0 0 0) 9).bind fun y3=>
 bif(-9223372036854775808<=(y3-1))&&((y3-1)<=9223372036854775807)then(ab (fun go0 s=>gu n go0 v0 v1 v2 s.1 s.2) n (((List.modify (([]:Lv)++[[(AV.int 0)]]) ((0:Int)).toNat (fun r=>r.set 0 (AV.int (y3-1)))),1):ir))else none else(ab (fun go0 s=>Il n go0 v0 v1 v2 s.1 s.2) n (((([]:Lv)++[[(AV.int 0)]]),1):ir)))
def o8(n:Nat)(v0 v1:Lv)(v2:Int):Option k9:=yC n v0 v1 v2
def ref24_Made_t:FnT:=⟨[(false,[tSa]),(false,[tSa]),(false,[.int])],(.tup (.cons (.row 3 (.cons .int .nil)) (.cons (.row 3 (.cons .int .nil)) (.cons .i .nil)))),fun n (s:Lv×Lv×Int)=>o8 n s.1 s.2.1 s.2.2⟩
theorem E4:ref24_Made_t.ok Tryz.prog 47:=FnT.ok_of (cfg:=⟨[((47,5,2),.inv [(.tmprow 9 3 (.cons .int .nil)),(.tmp 10 .int)]),((47,5,1),.inv [(.tmprow 9 3 (.cons .int .nil)),(.tmp 10 .int)])],aH,[],aj⟩) aw pZ av (fun s fn hf=>by rw[Tryz.func47]at hf;cases hf;kernel_rfl) (fun n s=>by kernel_rfl)
def ref24_Made_T:Tab:=(47,ref24_Made_t)::ref24_Known_T
theorem sg:ref24_Made_T.ok Tryz.prog:=Tab.ok_cons E4 pZ
abbrev kh:=Bool
abbrev uF:=Int
def EQ(n:Nat)(go0:uF->Option kh)(v0:Int)(v1:Lv)(v2:Int):Option kh:=
 (bif v2<(v1.length:Int) then bif 0<=v2 then bif(-9223372036854775808<=(v0-1))&&((v0-1)<=9223372036854775807)then(bif 0<=(cI v1 v2 0) then(bif !((cI v1 v2 0)<=(v0-1))then some false else(bif 0<=(cI v1 v2 1) then(bif !((cI v1 v2 1)<=(v0-1))then some false else(bif (cI v1 v2 0)=(cI v1 v2 1) then some false else(bif 0<=(cI v1 v2 2) then(bif !((cI v1 v2 2)<=10000)then some false else bif(-9223372036854775808<=(v2+1))&&((v2+1)<=9223372036854775807)then go0 (v2+1)else none)else some false)))else some false))else some false)else none else none else some true)
def Fd(n:Nat)(v0:Int)(v1:Lv):Option kh:=
 (bif 0<=v0 then(bif !(v0<=12)then some false else(bif 40<(v1.length:Int) then some false else(ab (fun go0 s=>EQ n go0 v0 v1 s) n (0:uF))))else some false)
def sN(n:Nat)(v0:Int)(v1:Lv):Option kh:=Fd n v0 v1
def ref27_Valid_t:FnT:=⟨[(true,[.int,tSc])],.b,fun n (s:Int×Lv)=>sN n s.1 s.2⟩
theorem Dj:ref27_Valid_t.ok Tryz.prog 78:=FnT.ok_of (cfg:=⟨[((78,4,1),.inv [(.tmp 3 .int)])],aH,[],aj⟩) aw sg av (fun s fn hf=>by rw[Tryz.func78]at hf;cases hf;kernel_rfl) (fun n s=>by kernel_rfl)
def ref27_Valid_T:Tab:=(78,ref27_Valid_t)::ref24_Made_T
theorem pJ:ref27_Valid_T.ok Tryz.prog:=Tab.ok_cons Dj sg
abbrev jA:=Int
abbrev qT:=Int×Int
def C7(n:Nat)(go0:qT->Option jA)(v1:Lv)(v2 v3 v4:Int):Option jA:=
 (bif v4<(v1.length:Int) then bif 0<=v4 then bif 0<=(cI v1 v4 0) then(bif (Int.tmod (IOp.f .shr v2 (cI v1 v4 0)) 2)=1 then bif 0<=(cI v1 v4 1) then(bif !((Int.tmod (IOp.f .shr v2 (cI v1 v4 1)) 2)=1)then bif(-9223372036854775808<=(v3+(cI v1 v4 2)))&&((v3+(cI v1 v4 2))<=9223372036854775807)then bif(-9223372036854775808<=(v4+1))&&((v4+1)<=9223372036854775807)then go0 ((v3+(cI v1 v4 2)),(v4+1))else none else none else bif(-9223372036854775808<=(v4+1))&&((v4+1)<=9223372036854775807)then go0 (v3,(v4+1))else none)else none else bif(-9223372036854775808<=(v4+1))&&((v4+1)<=9223372036854775807)then go0 (v3,(v4+1))else none)else none else none else some v3)
def Dz(n:Nat)(v1:Lv)(v2:Int):Option jA:=
 (ab (fun go0 s=>C7 n go0 v1 v2 s.1 s.2) n ((0,0):qT))
def pI(n:Nat)(v0:Int)(v1:Lv)(v2:Int):Option jA:=Dz n v1 v2
def ref27_Leaves_t:FnT:=⟨[(true,[.int,tSc]),(false,[.int])],.i,fun n (s:Int×Lv×Int)=>pI n s.1 s.2.1 s.2.2⟩
theorem B3:ref27_Leaves_t.ok Tryz.prog 122:=FnT.ok_of (cfg:=⟨[((122,3,1),.inv [(.tmp 5 .int),(.tmp 6 .int)])],aH,[],aj⟩) aw pJ av (fun s fn hf=>by rw[Tryz.func122]at hf;cases hf;kernel_rfl) (fun n s=>by kernel_rfl)
def ref27_Leaves_T:Tab:=(122,ref27_Leaves_t)::ref27_Valid_T
theorem ow:ref27_Leaves_T.ok Tryz.prog:=Tab.ok_cons B3 pJ
abbrev kz:=Int×Int
abbrev ui:=Int×Int×Int
def Fj(n:Nat)(go0:ui->Option kz)(v0:Int)(v1:Lv)(v2 v3 v4 v5 v6:Int):Option kz:=
 bif 0<=v0 then(bif v6<(IOp.f .shl 1 v0) then bif 0<=v2 then(bif !((Int.tmod (IOp.f .shr v6 v2) 2)=1)then bif(-9223372036854775808<=(v6+1))&&((v6+1)<=9223372036854775807)then go0 (v4,v5,(v6+1))else none else bif 0<=v3 then(bif (Int.tmod (IOp.f .shr v6 v3) 2)=1 then bif(-9223372036854775808<=(v6+1))&&((v6+1)<=9223372036854775807)then go0 (v4,v5,(v6+1))else none else(pI n v0 v1 v6).bind fun y7=>
 (bif v4<0 then bif(-9223372036854775808<=(v6+1))&&((v6+1)<=9223372036854775807)then go0 (y7,v6,(v6+1))else none else(bif y7<v4 then bif(-9223372036854775808<=(v6+1))&&((v6+1)<=9223372036854775807)then go0 (y7,v6,(v6+1))else none else(bif y7=v4 then bif(-9223372036854775808<=(v6+1))&&((v6+1)<=9223372036854775807)then go0 (v4,(IOp.f .and v5 v6),(v6+1))else none else bif(-9223372036854775808<=(v6+1))&&((v6+1)<=9223372036854775807)then go0 (v4,v5,(v6+1))else none))))else none)else none else some (v4,v5))else none
def E8(n:Nat)(v0:Int)(v1:Lv)(v2 v3:Int):Option kz:=
 (ab (fun go0 s=>Fj n go0 v0 v1 v2 v3 s.1 s.2.1 s.2.2) n (((-1),0,0):ui))
def zU(n:Nat)(v0:Int)(v1:Lv)(v2 v3:Int):Option kz:=E8 n v0 v1 v2 v3
def ref27_Least_t:FnT:=⟨[(true,[.int,tSc]),(false,[.int]),(false,[.int])],(.tup (.cons .i (.cons .i .nil))),fun n (s:Int×Lv×Int×Int)=>zU n s.1 s.2.1 s.2.2.1 s.2.2.2⟩
theorem DT:ref27_Least_t.ok Tryz.prog 59:=FnT.ok_of (cfg:=⟨[((59,4,1),.inv [(.tmp 8 .int),(.tmp 9 .int),(.tmp 10 .int)])],aH,[],aj⟩) aw ow av (fun s fn hf=>by rw[Tryz.func59]at hf;cases hf;kernel_rfl) (fun n s=>by kernel_rfl)
def ref27_Least_T:Tab:=(59,ref27_Least_t)::ref27_Leaves_T
theorem pH:ref27_Least_T.ok Tryz.prog:=Tab.ok_cons DT ow
abbrev pv:=Int×Bool
def Aq(n:Nat)(v0:Int)(v1:Lv)(v2 v3 v4:Int):Option pv:=
 (sN n v0 v1).bind fun y5=>
 (bif y5 then bif(-9223372036854775808<=(v0-1))&&((v0-1)<=9223372036854775807)then(bif 0<=v2 then(bif v2<=(v0-1) then(bif 0<=v3 then(bif v3<=(v0-1) then(bif((decide (v2=v3))==true)then some (0,false)else bif 0<=v0 then bif(-9223372036854775808<=((IOp.f .shl 1 v0)-1))&&(((IOp.f .shl 1 v0)-1)<=9223372036854775807)then(bif 0<=v4 then(bif !(v4<=((IOp.f .shl 1 v0)-1))then some (0,false)else(bif !((Int.tmod (IOp.f .shr v4 v2) 2)=1)then some (0,false)else(bif (Int.tmod (IOp.f .shr v4 v3) 2)=1 then some (0,false)else(pI n v0 v1 v4).bind fun y6=>
 some (y6,true))))else some (0,false))else none else none)else some (0,false))else some (0,false))else some (0,false))else some (0,false))else none else some (0,false))
def ub(n:Nat)(v0:Int)(v1:Lv)(v2 v3 v4:Int):Option pv:=Aq n v0 v1 v2 v3 v4
def ref27_CheckCut_t:FnT:=⟨[(true,[.int,tSc]),(false,[.int]),(false,[.int]),(false,[.int])],(.tup (.cons .i (.cons .b .nil))),fun n (s:Int×Lv×Int×Int×Int)=>ub n s.1 s.2.1 s.2.2.1 s.2.2.2.1 s.2.2.2.2⟩
theorem zG:ref27_CheckCut_t.ok Tryz.prog 68:=FnT.ok_of (cfg:=⟨[],aH,[],aj⟩) aw pH av (fun s fn hf=>by rw[Tryz.func68]at hf;cases hf;kernel_rfl) (fun n s=>by kernel_rfl)
def ref27_CheckCut_T:Tab:=(68,ref27_CheckCut_t)::ref27_Least_T
theorem mi:ref27_CheckCut_T.ok Tryz.prog:=Tab.ok_cons zG pH
abbrev yv:=Int
def Hk(n:Nat)(v0 v1:Int):Option yv:=
 (bif v0<0 then bif(-9223372036854775808<=(v0+1))&&((v0+1)<=9223372036854775807)then bif(-9223372036854775808<=(0-(v0+1)))&&((0-(v0+1))<=9223372036854775807)then bif !(v1=0)then some (Int.tmod (0-(v0+1)) v1)else none else none else none else bif !(v1=0)then some (Int.tmod v0 v1)else none)
def oT(n:Nat)(v0 v1:Int):Option yv:=Hk n v0 v1
def ref27_pick_t:FnT:=⟨[(false,[.int]),(false,[.int])],.i,fun n (s:Int×Int)=>oT n s.1 s.2⟩
theorem FD:ref27_pick_t.ok Tryz.prog 112:=FnT.ok_of (cfg:=⟨[],aH,[],aj⟩) aw mi av (fun s fn hf=>by rw[Tryz.func112]at hf;cases hf;kernel_rfl) (fun n s=>by kernel_rfl)
def ref27_pick_T:Tab:=(112,ref27_pick_t)::ref27_CheckCut_T
theorem rC:ref27_pick_T.ok Tryz.prog:=Tab.ok_cons FD mi
abbrev lz:=Int×Lv
abbrev wn:=Lv
def Gm(n:Nat)(go0:wn->Option lz)(v0 v3 v5:Int)(v7:Lv):Option lz:=
 (oT n v3 3).bind fun y8=>
 bif(-9223372036854775808<=(39+y8))&&((39+y8)<=9223372036854775807)then(bif (v7.length:Int)<(39+y8) then bif 0<=v5 then bif v5<(v7.length:Int) then bif (((v7.length:Int)+1)*24)<=140737488355328 then go0 (v7++[[(AV.int (cI v7 v5 0)),(AV.int (cI v7 v5 1)),(AV.int (cI v7 v5 2))]])else none else none else none else some (v0,v7))else none
def IE(n:Nat)(v0:Int)(v1:Lv)(v2 v3 v4:Int):Option lz:=
 bif ((v1.length:Int)*24)<=140737488355328 then(bif (v1.length:Int)=0 then some (v3,v1)else(oT n v4 (v1.length:Int)).bind fun y5=>
 (oT n v2 5).bind fun y6=>
 (bif y6=0 then some (v3,v1)else(bif y6=1 then bif 0<=y5 then bif y5<(v1.length:Int) then some (v0,(List.modify v1 (y5).toNat (fun r=>r.set 0 (AV.int v3))))else none else none else(bif y6=2 then bif 0<=y5 then bif y5<(v1.length:Int) then some (v0,(List.modify v1 (y5).toNat (fun r=>r.set 1 (AV.int v3))))else none else none else(bif y6=3 then bif 0<=y5 then bif y5<(v1.length:Int) then some (v0,(List.modify v1 (y5).toNat (fun r=>r.set 2 (AV.int v3))))else none else none else(ab (fun go0 s=>Gm n go0 v0 v3 y5 s) n (v1:wn)))))))else none
def Bv(n:Nat)(v0:Int)(v1:Lv)(v2 v3 v4:Int):Option lz:=IE n v0 v1 v2 v3 v4
def ref27_Bent_t:FnT:=⟨[(true,[.int,tSc]),(false,[.int]),(false,[.int]),(false,[.int])],(.agg (.cons .i (.cons (.row 1000073 (.cons .int (.cons .int (.cons .int .nil)))) .nil))),fun n (s:Int×Lv×Int×Int×Int)=>Bv n s.1 s.2.1 s.2.2.1 s.2.2.2.1 s.2.2.2.2⟩
theorem FK:ref27_Bent_t.ok Tryz.prog 51:=FnT.ok_of (cfg:=⟨[((51,7,6),.inv [(.cellrow 4 1 73 (.cons .int (.cons .int (.cons .int .nil))))])],aH,[],aj⟩) aw rC av (fun s fn hf=>by rw[Tryz.func51]at hf;cases hf;kernel_rfl) (fun n s=>by kernel_rfl)
def ref27_Bent_T:Tab:=(51,ref27_Bent_t)::ref27_pick_T
theorem rL:ref27_Bent_T.ok Tryz.prog:=Tab.ok_cons FK rC
abbrev bQ:=Bool
abbrev dD:=Int
abbrev pQ:=Int×Int
def cK(n:Nat)(go0:dD->Option bQ)(go1:dD->Option bQ)(v0:Lv)(v2 v3:Int):Option bQ:=
 (bif v3<((List.take (v2).toNat v0).length:Int) then bif 0<=v3 then(bif (cI (List.take (v2).toNat v0) v3 0)=(cI v0 v2 0) then(bif (cI (List.take (v2).toNat v0) v3 1)=(cI v0 v2 1) then(bif (cI (List.take (v2).toNat v0) v3 3)<=(cI v0 v2 3) then(bif (cI v0 v2 3)<(cI (List.take (v2).toNat v0) v3 4) then some false else(bif (cI v0 v2 3)<=(cI (List.take (v2).toNat v0) v3 3) then(bif (cI (List.take (v2).toNat v0) v3 3)<(cI v0 v2 4) then some false else bif(-9223372036854775808<=(v3+1))&&((v3+1)<=9223372036854775807)then go1 (v3+1)else none)else bif(-9223372036854775808<=(v3+1))&&((v3+1)<=9223372036854775807)then go1 (v3+1)else none))else(bif (cI v0 v2 3)<=(cI (List.take (v2).toNat v0) v3 3) then(bif (cI (List.take (v2).toNat v0) v3 3)<(cI v0 v2 4) then some false else bif(-9223372036854775808<=(v3+1))&&((v3+1)<=9223372036854775807)then go1 (v3+1)else none)else bif(-9223372036854775808<=(v3+1))&&((v3+1)<=9223372036854775807)then go1 (v3+1)else none))else bif(-9223372036854775808<=(v3+1))&&((v3+1)<=9223372036854775807)then go1 (v3+1)else none)else bif(-9223372036854775808<=(v3+1))&&((v3+1)<=9223372036854775807)then go1 (v3+1)else none)else none else bif(-9223372036854775808<=(v2+1))&&((v2+1)<=9223372036854775807)then go0 (v2+1)else none)
def dp(n:Nat)(go0:pQ->Option bQ)(v1:Lv)(v3 v4:Int):Option bQ:=
 (bif v3<(v1.length:Int) then bif 0<=v3 then(bif (cI v1 v3 0)<=v4 then some (!(decide (0<=v3)))else(bif 0<=(cI v1 v3 0) then(bif !((cI v1 v3 0)<=99999999)then some (!(decide (0<=v3)))else(bif 2<=(cI v1 v3 1) then(bif !((cI v1 v3 1)<=4)then some (!(decide (0<=v3)))else bif(-9223372036854775808<=(v3+1))&&((v3+1)<=9223372036854775807)then go0 ((v3+1),(cI v1 v3 0))else none)else some (!(decide (0<=v3)))))else some (!(decide (0<=v3)))))else none else some true)
def fw(n:Nat)(go0:dD->Option bQ)(v0 v1:Lv)(v2:Int):Option bQ:=
 (bif v2<(v0.length:Int) then bif 0<=v2 then(bif 0<=(cI v0 v2 0) then(bif (cI v0 v2 0)<=99999999 then(bif 0<=(cI v0 v2 2) then(bif (cI v0 v2 2)<=99999999 then(bif !((cI v0 v2 0)=(cI v0 v2 2))then(bif 1<=(cI v0 v2 1) then(bif (cI v0 v2 1)<=4 then(bif 0<=(cI v0 v2 3) then(bif (cI v0 v2 3)<(cI v0 v2 4) then(bif !((cI v0 v2 4)<=10000001)then some false else bif v2<=(v0.length:Int) then(ab (fun go1 s=>cK n go0 go1 v0 v2 s) n (0:dD))else none)else some false)else some false)else some false)else some false)else some false)else some false)else some false)else some false)else some false)else none else(bif (v1.length:Int)<=40 then(ab (fun go0 s=>dp n go0 v1 s.1 s.2) n ((0,(-1)):pQ))else some false))
def se(n:Nat)(v0 v1:Lv):Option bQ:=
 (bif 40<(v0.length:Int) then some false else(ab (fun go0 s=>fw n go0 v0 v1 s) n (0:dD)))
def il(n:Nat)(v0 v1:Lv):Option bQ:=se n v0 v1
def forward_Valid_t:FnT:=⟨[(false,[(.sl (.cons .int (.cons .int (.cons .int (.cons .int (.cons .int .nil))))))]),(false,[(.sl (.cons .int (.cons .int .nil)))])],.b,fun n (s:Lv×Lv)=>il n s.1 s.2⟩
theorem AG:forward_Valid_t.ok Tryz.prog 70:=FnT.ok_of (cfg:=⟨[((141,4,2),.inv [(.tmp 11 .int)]),((213,2,6),.inv [(.tmp 8 .int)]),((197,2,3),.inv [(.tmp 8 .int),(.cell 0 0 .int)])],aH,[],aj⟩) aw rL av (fun s fn hf=>by rw[Tryz.func70]at hf;cases hf;kernel_rfl) (fun n s=>by kernel_rfl)
def forward_Valid_T:Tab:=(70,forward_Valid_t)::ref27_Bent_T
theorem nQ:forward_Valid_T.ok Tryz.prog:=Tab.ok_cons AG rL
abbrev az:=Int×Lv×Lv×Int
abbrev di:=Int×Bool×Lv×Lv×Int
abbrev nx:=Int
abbrev dV:=Int×Lv
abbrev fA:=Int×Lv
def jb(n:Nat)(go0:di->Option az)(go1:nx->Option az)(v0 v6 v8:Lv)(v9:Int)(v11 v12:Lv)(v14:Int):Option az:=
 (bif v14<(v11.length:Int) then bif 0<=v14 then(bif (cI v0 v9 2)=(cI v11 v14 0) then bif (((v11.length:Int)+1)*8)<=140737488355328 then bif (((v12.length:Int)+1)*8)<=140737488355328 then some (5,(v11++[[(AV.int (cI v0 v9 2))]]),(v12++[[(AV.int v9)]]),0)else none else none else bif(-9223372036854775808<=(v14+1))&&((v14+1)<=9223372036854775807)then go1 (v14+1)else none)else none else bif (((v11.length:Int)+1)*8)<=140737488355328 then bif (((v12.length:Int)+1)*8)<=140737488355328 then(bif(du [(AV.int (cI v0 v9 2)),(AV.int 1)] v6)then go0 ((bP [(AV.int (cI v0 v9 2)),(AV.int 1)] v6),true,(v11++[[(AV.int (cI v0 v9 2))]]),(v12++[[(AV.int v9)]]),(cI v0 v9 2))else go0 ((bP [(AV.int (cI v0 v9 2)),(AV.int (bP [(AV.int (cI v0 v9 2))] v8))] v6),(du [(AV.int (cI v0 v9 2)),(AV.int (bP [(AV.int (cI v0 v9 2))] v8))] v6),(v11++[[(AV.int (cI v0 v9 2))]]),(v12++[[(AV.int v9)]]),(cI v0 v9 2)))else none else none)
def dj(n:Nat)(go0:di->Option az)(v0 v6 v8:Lv)(v9:Int)(v10:Bool)(v11 v12:Lv):Option az:=
 (bif v10 then(bif (v12.length:Int)=5 then some (6,v11,v12,0)else bif 0<=v9 then bif v9<(v0.length:Int) then(ab (fun go1 s=>jb n go0 go1 v0 v6 v8 v9 v11 v12 s) n (0:nx))else none else none)else bif(-9223372036854775808<=((v11.length:Int)-1))&&(((v11.length:Int)-1)<=9223372036854775807)then bif 0<=((v11.length:Int)-1) then bif ((v11.length:Int)-1)<(v11.length:Int) then some ((aL (bP [(AV.int (cI v11 ((v11.length:Int)-1) 0))] v8) 1),v11,v12,0)else none else none else none)
abbrev xn:= @dj
def om(n:Nat)(go0:dV->Option az)(v0:Lv)(v2:Int)(v6 v8:Lv):Option az:=
 (bif(du [(AV.int v2),(AV.int 1)] v6)then(ab (fun go0 s=>dj n go0 v0 v6 v8 s.1 s.2.1 s.2.2.1 s.2.2.2.1) n (((bP [(AV.int v2),(AV.int 1)] v6),true,(([]:Lv)++[[(AV.int v2)]]),([]:Lv),v2):di))else(ab (fun go0 s=>xn n go0 v0 v6 v8 s.1 s.2.1 s.2.2.1 s.2.2.2.1) n (((bP [(AV.int v2),(AV.int (bP [(AV.int v2)] v8))] v6),(du [(AV.int v2),(AV.int (bP [(AV.int v2)] v8))] v6),(([]:Lv)++[[(AV.int v2)]]),([]:Lv),v2):di)))
def cF(n:Nat)(go0:dV->Option az)(v0 v1:Lv)(v2:Int)(v6:Lv)(v7:Int)(v8:Lv):Option az:=
 (bif v7<(v1.length:Int) then bif 0<=v7 then bif(-9223372036854775808<=(v7+1))&&((v7+1)<=9223372036854775807)then go0 ((v7+1),(ew [(AV.int (cI v1 v7 0))] (AV.int (cI v1 v7 1)) v8))else none else none else om n go0 v0 v2 v6 v8)
def cH(n:Nat)(go0:fA->Option az)(v0 v1:Lv)(v2 v3 v5:Int)(v6:Lv):Option az:=
 (bif v5<(v0.length:Int) then bif 0<=v5 then(bif (cI v0 v5 3)<=v3 then(bif v3<(cI v0 v5 4) then bif(-9223372036854775808<=(v5+1))&&((v5+1)<=9223372036854775807)then go0 ((v5+1),(ew [(AV.int (cI v0 v5 0)),(AV.int (cI v0 v5 1))] (AV.int v5) v6))else none else bif(-9223372036854775808<=(v5+1))&&((v5+1)<=9223372036854775807)then go0 ((v5+1),v6)else none)else bif(-9223372036854775808<=(v5+1))&&((v5+1)<=9223372036854775807)then go0 ((v5+1),v6)else none)else none else(ab (fun go0 s=>cF n go0 v0 v1 v2 v6 s.1 s.2) n ((0,([]:Lv)):dV)))
def oJ(n:Nat)(v0 v1:Lv)(v2 v3:Int):Option az:=
 (bif !(v3<=10000000)then some (0,([]:Lv),([]:Lv),220)else(ab (fun go0 s=>cH n go0 v0 v1 v2 v3 s.1 s.2) n ((0,([]:Lv)):fA)))
def oG(n:Nat)(v0 v1:Lv)(v2 v3:Int):Option az:=
 (bif 0<=v3 then oJ n v0 v1 v2 v3 else some (0,([]:Lv),([]:Lv),220))
def oF(n:Nat)(v0 v1:Lv)(v2 v3:Int):Option az:=
 (bif !(v2<=99999999)then some (0,([]:Lv),([]:Lv),220)else oG n v0 v1 v2 v3)
def oC(n:Nat)(v0 v1:Lv)(v2 v3:Int):Option az:=
 (bif 0<=v2 then oF n v0 v1 v2 v3 else some (0,([]:Lv),([]:Lv),220))
def ox(n:Nat)(v0 v1:Lv)(v2 v3:Int)(v4:Bool):Option az:=
 (bif(!v4)then some (0,([]:Lv),([]:Lv),220)else oC n v0 v1 v2 v3)
def oz(n:Nat)(v0 v1:Lv)(v2 v3:Int):Option az:=
 (il n v0 v1).bind fun y4=>
 ox n v0 v1 v2 v3 y4
def fF(n:Nat)(v0 v1:Lv)(v2 v3:Int):Option az:=oz n v0 v1 v2 v3
def forward_Resolve_t:FnT:=⟨[(false,[(.sl (.cons .int (.cons .int (.cons .int (.cons .int (.cons .int .nil))))))]),(false,[(.sl (.cons .int (.cons .int .nil)))]),(false,[.int]),(false,[.int])],(.tup (.cons (.agg (.cons .i (.cons (.row 3 (.cons .int .nil)) (.cons (.row 3 (.cons .int .nil)) .nil)))) (.cons .i .nil))),fun n (s:Lv×Lv×Int×Int)=>fF n s.1 s.2.1 s.2.2.1 s.2.2.2⟩
theorem yy:forward_Resolve_t.ok Tryz.prog 28:=FnT.ok_of (cfg:=⟨[((156,1,0),.inv [.tmp 4 .int,.tmp 5 .bool,.cellrow 16 1 3 (.cons .int .nil),.cellrow 16 2 3 (.cons .int .nil),.cell 19 0 .int]),((81,3,8),.inv [(.tmp 18 .int),(.inrow 4 4000000 (.cons .int (.cons .int (.cons .int .nil))))]),((81,9,10),.inv [(.tmp 38 .int),(.inrow 5 4000000 (.cons .int (.cons .int .nil)))]),((158,2,27),.inv [(.tmp 8 .int)])],aH,[],aj⟩) aw nQ av (fun s fn hf=>by rw[Tryz.func28]at hf;cases hf;kernel_rfl) (fun n s=>by kernel_rfl)
def forward_Resolve_T:Tab:=(28,forward_Resolve_t)::forward_Valid_T
theorem ln:forward_Resolve_T.ok Tryz.prog:=Tab.ok_cons yy nQ
abbrev dY:=Bool
abbrev gX:=Int
def fm(n:Nat)(go0:gX->Option dY)(v6 v9:Lv)(v12:Int):Option dY:=
 (bif v12<(v6.length:Int) then bif 0<=v12 then bif v12<(v9.length:Int) then(bif !((cI v6 v12 0)=(cI v9 v12 0))then some false else bif(-9223372036854775808<=(v12+1))&&((v12+1)<=9223372036854775807)then go0 (v12+1)else none)else none else none else some true)
def fG(n:Nat)(go0:gX->Option dY)(v5 v6 v8 v9:Lv)(v11:Int):Option dY:=
 (bif v11<(v5.length:Int) then bif 0<=v11 then bif v11<(v8.length:Int) then(bif !((cI v5 v11 0)=(cI v8 v11 0))then some false else bif(-9223372036854775808<=(v11+1))&&((v11+1)<=9223372036854775807)then go0 (v11+1)else none)else none else none else(bif !((v6.length:Int)=(v9.length:Int))then some false else(ab (fun go0 s=>fm n go0 v6 v9 s) n (0:gX))))
def qX(n:Nat)(v0 v1:Lv)(v2 v3 v4:Int)(v5 v6:Lv):Option dY:=
 (fF n v0 v1 v2 v3).bind fun y7=>
 (bif y7.2.2.2=0 then(bif v4=y7.1 then(bif !((v5.length:Int)=(y7.2.1.length:Int))then some false else(ab (fun go0 s=>fG n go0 v5 v6 y7.2.1 y7.2.2.1 s) n (0:gX)))else some false)else some false)
def j7(n:Nat)(v0 v1:Lv)(v2 v3 v4:Int)(v5 v6:Lv):Option dY:=qX n v0 v1 v2 v3 v4 v5 v6
def forward_Check_t:FnT:=⟨[(false,[(.sl (.cons .int (.cons .int (.cons .int (.cons .int (.cons .int .nil))))))]),(false,[(.sl (.cons .int (.cons .int .nil)))]),(false,[.int]),(false,[.int]),(true,[.int,tSa,tSa])],.b,fun n (s:Lv×Lv×Int×Int×Int×Lv×Lv)=>j7 n s.1 s.2.1 s.2.2.1 s.2.2.2.1 s.2.2.2.2.1 s.2.2.2.2.2.1 s.2.2.2.2.2.2⟩
theorem As:forward_Check_t.ok Tryz.prog 37:=FnT.ok_of (cfg:=⟨[((97,4,5),.inv [(.tmp 13 .int)]),((97,4,6),.inv [(.tmp 13 .int)])],aH,[],aj⟩) aw ln av (fun s fn hf=>by rw[Tryz.func37]at hf;cases hf;kernel_rfl) (fun n s=>by kernel_rfl)
def forward_Check_T:Tab:=(37,forward_Check_t)::forward_Resolve_T
theorem na:forward_Check_T.ok Tryz.prog:=Tab.ok_cons As ln
abbrev aC:=Bool
abbrev aP:=Int×Lv
abbrev dh:=Int
def dA(n:Nat)(go0:aP->Option aC)(go1:aP->Option aC)(v0:Lv)(v6 v8:Int)(v9:Lv):Option aC:=
 (bif v8<((List.drop ((v6-1)).toNat (List.take ((v6+1)).toNat v0)).length:Int) then bif 0<=v8 then(bif 0<=(cI (List.drop ((v6-1)).toNat (List.take ((v6+1)).toNat v0)) v8 0) then bif 0<=v6 then bif v6<(v0.length:Int) then bif (v6-1)<(v0.length:Int) then(bif !((cI v0 v6 0)=(cI v0 (v6-1) 0))then bif (cI (List.drop ((v6-1)).toNat (List.take ((v6+1)).toNat v0)) v8 0)<8 then bif (cI (List.drop ((v6-1)).toNat (List.take ((v6+1)).toNat v0)) v8 0)<(v9.length:Int) then bif(-9223372036854775808<=(v8+1))&&((v8+1)<=9223372036854775807)then go1 ((v8+1),(List.modify v9 ((cI (List.drop ((v6-1)).toNat (List.take ((v6+1)).toNat v0)) v8 0)).toNat (fun r=>r.set 0 (AV.int (aL (cI v9 (cI (List.drop ((v6-1)).toNat (List.take ((v6+1)).toNat v0)) v8 0) 0) v6)))))else none else none else none else bif(-9223372036854775808<=(v8+1))&&((v8+1)<=9223372036854775807)then go1 ((v8+1),v9)else none)else none else none else none else bif(-9223372036854775808<=(v8+1))&&((v8+1)<=9223372036854775807)then go1 ((v8+1),v9)else none)else none else go0 ((v6+1),v9))
def kB(n:Nat)(go0:dh->Option aC)(v0 v1 v7:Lv)(v8:Int):Option aC:=
 (bif v8<(v1.length:Int) then bif 0<=v8 then(bif !((cI v1 v8 0)=(-1))then bif v8<8 then bif v8<(v7.length:Int) then(bif (cI v7 v8 0)<=(cI v1 v8 0) then(bif !((cI v1 v8 0)<=((v0.length:Int)-1))then some false else bif(-9223372036854775808<=(v8+1))&&((v8+1)<=9223372036854775807)then go0 (v8+1)else none)else some false)else none else none else bif(-9223372036854775808<=(v8+1))&&((v8+1)<=9223372036854775807)then go0 (v8+1)else none)else none else some true)
def ee(n:Nat)(go0:aP->Option aC)(v0 v1:Lv)(v6:Int)(v7:Lv):Option aC:=
 (bif v6<=((v0.length:Int)-1) then bif(-9223372036854775808<=(v6-1))&&((v6-1)<=9223372036854775807)then bif(-9223372036854775808<=(v6+1))&&((v6+1)<=9223372036854775807)then bif 0<=(v6-1) then bif (v6-1)<=(v6+1) then bif (v6+1)<=(v0.length:Int) then(ab (fun go1 s=>dA n go0 go1 v0 v6 s.1 s.2) n ((0,v7):aP))else none else none else none else none else none else(ab (fun go0 s=>kB n go0 v0 v1 v7 s) n (0:dh)))
def cw(n:Nat)(go0:aP->Option aC)(v0 v1:Lv)(v2 v4:Int)(v5:Lv):Option aC:=
 (bif v4<8 then bif(-9223372036854775808<=(((v0.length:Int)-1)-v2))&&((((v0.length:Int)-1)-v2)<=9223372036854775807)then bif 0<=v4 then bif v4<(v5.length:Int) then bif(-9223372036854775808<=(v4+1))&&((v4+1)<=9223372036854775807)then go0 ((v4+1),(List.modify v5 (v4).toNat (fun r=>r.set 0 (AV.int (aL 0 (((v0.length:Int)-1)-v2))))))else none else none else none else none else(ab (fun go0 s=>ee n go0 v0 v1 s.1 s.2) n ((1,v5):aP)))
abbrev EU:= @cw
def oh(n:Nat)(go0:dh->Option aC)(v0 v1:Lv)(v2 v3:Int):Option aC:=
 (bif (-1)<=(cI v0 v3 0) then(bif !((cI v0 v3 0)<=7)then(bif((decide (0<=v3))==true)then some false else(bif !((v1.length:Int)=8)then some false else(bif 0<=v2 then(bif !(v2<=10)then some false else bif(-9223372036854775808<=((v0.length:Int)-1))&&(((v0.length:Int)-1)<=9223372036854775807)then(ab (fun go0 s=>cw n go0 v0 v1 v2 s.1 s.2) n ((0,(List.replicate ((8:Int)).toNat [(AV.int 0)])):aP))else none)else some false)))else bif(-9223372036854775808<=(v3+1))&&((v3+1)<=9223372036854775807)then go0 (v3+1)else none)else(bif((decide (0<=v3))==true)then some false else(bif !((v1.length:Int)=8)then some false else(bif 0<=v2 then(bif !(v2<=10)then some false else bif(-9223372036854775808<=((v0.length:Int)-1))&&(((v0.length:Int)-1)<=9223372036854775807)then(ab (fun go0 s=>EU n go0 v0 v1 v2 s.1 s.2) n ((0,(List.replicate ((8:Int)).toNat [(AV.int 0)])):aP))else none)else some false))))
abbrev Dt:= @cw
def cr(n:Nat)(go0:dh->Option aC)(v0 v1:Lv)(v2 v3:Int):Option aC:=
 (bif v3<(v0.length:Int) then bif 0<=v3 then oh n go0 v0 v1 v2 v3 else none else(bif !((v1.length:Int)=8)then some false else(bif 0<=v2 then(bif !(v2<=10)then some false else bif(-9223372036854775808<=((v0.length:Int)-1))&&(((v0.length:Int)-1)<=9223372036854775807)then(ab (fun go0 s=>Dt n go0 v0 v1 v2 s.1 s.2) n ((0,(List.replicate ((8:Int)).toNat [(AV.int 0)])):aP))else none)else some false)))
def wt(n:Nat)(v0 v1:Lv)(v2:Int):Option aC:=
 (bif (v0.length:Int)<=30 then(ab (fun go0 s=>cr n go0 v0 v1 v2 s) n (0:dh))else some false)
def wz(n:Nat)(v0 v1:Lv)(v2:Int):Option aC:=
 (bif 1<=(v0.length:Int) then wt n v0 v1 v2 else some false)
def jQ(n:Nat)(v0 v1:Lv)(v2:Int):Option aC:=wz n v0 v1 v2
def route_Valid_t:FnT:=⟨[(false,[tSa]),(false,[tSa]),(false,[.int])],.b,fun n (s:Lv×Lv×Int)=>jQ n s.1 s.2.1 s.2.2⟩
theorem Dr:route_Valid_t.ok Tryz.prog 71:=FnT.ok_of (cfg:=⟨[((124,2,0),.inv [(.tmp 8 .int)]),((71,6,2),.inv [(.tmp 31 .int),(.inrow 1 217 (.cons .int .nil))]),((71,11,4),.inv [(.tmp 10 .int),(.inrow 1 217 (.cons .int .nil))]),((71,14,6),.inv [(.tmp 53 .int),(.inrow 1 217 (.cons .int .nil))]),((71,20,6),.inv [(.tmp 81 .int)])],aH,[],aj⟩) aw na av (fun s fn hf=>by rw[Tryz.func71]at hf;cases hf;kernel_rfl) (fun n s=>by kernel_rfl)
def route_Valid_T:Tab:=(71,route_Valid_t)::forward_Check_T
theorem qh:route_Valid_T.ok Tryz.prog:=Tab.ok_cons Dr na
abbrev ji:=Lv×Int×Int
abbrev ki:=Int×Lv×Int×Int
def i8(n:Nat)(go0:ki->Option ji)(v0 v1:Lv)(v5:Int)(v6:Lv)(v8:Int):Option ji:=
 bif 0<=v8 then bif v8<(v1.length:Int) then bif 0<=(aL (cI v1 v8 0) v5) then bif (aL (cI v1 v8 0) v5)<(v0.length:Int) then(bif (cI v0 (aL (cI v1 v8 0) v5) 0)=v8 then bif (((v6.length:Int)+1)*16)<=140737488355328 then some ((v6++[[(AV.int v8),(AV.int (aL (cI v1 v8 0) v5))]]),1,0)else none else(bif (cI v0 (aL (cI v1 v8 0) v5) 0)<0 then bif (((v6.length:Int)+1)*16)<=140737488355328 then some ((v6++[[(AV.int v8),(AV.int (aL (cI v1 v8 0) v5))]]),2,0)else none else bif 0<=(cI v0 (aL (cI v1 v8 0) v5) 0) then bif (cI v0 (aL (cI v1 v8 0) v5) 0)<(v1.length:Int) then(bif (cI v1 (cI v0 (aL (cI v1 v8 0) v5) 0) 0)<0 then bif (((v6.length:Int)+1)*16)<=140737488355328 then some ((v6++[[(AV.int v8),(AV.int (aL (cI v1 v8 0) v5))]]),3,0)else none else bif (((v6.length:Int)+1)*16)<=140737488355328 then go0 ((aL (cI v1 v8 0) v5),(v6++[[(AV.int v8),(AV.int (aL (cI v1 v8 0) v5))]]),0,(cI v0 (aL (cI v1 v8 0) v5) 0))else none)else none else none))else none else none else none else none
def yk(n:Nat)(v0 v1:Lv)(v2 v3:Int):Option ji:=
 (jQ n v0 v1 v2).bind fun y4=>
 (bif y4 then(bif 0<=v3 then(bif v3<=7 then bif v3<(v1.length:Int) then(bif !(0<=(cI v1 v3 0))then some (([]:Lv),0,240)else(ab (fun go0 s=>i8 n go0 v0 v1 s.1 s.2.1 s.2.2.2) n (((-1),([]:Lv),0,v3):ki)))else none else some (([]:Lv),0,240))else some (([]:Lv),0,240))else some (([]:Lv),0,240))
def oX(n:Nat)(v0 v1:Lv)(v2 v3:Int):Option ji:=yk n v0 v1 v2 v3
def route_Path_t:FnT:=⟨[(false,[tSa]),(false,[tSa]),(false,[.int]),(false,[.int])],(.tup (.cons (.row 94 (.cons .int (.cons .int .nil))) (.cons .i (.cons .i .nil)))),fun n (s:Lv×Lv×Int×Int)=>oX n s.1 s.2.1 s.2.2.1 s.2.2.2⟩
theorem EO:route_Path_t.ok Tryz.prog 33:=FnT.ok_of (cfg:=⟨[((166,1,7),.inv [(.tmp 5 .int),(.cellrow 0 0 94 (.cons .int (.cons .int .nil))),(.cell 1 0 .int),(.cell 5 0 .int)])],aH,[],aj⟩) aw qh av (fun s fn hf=>by rw[Tryz.func33]at hf;cases hf;kernel_rfl) (fun n s=>by kernel_rfl)
def route_Path_T:Tab:=(33,route_Path_t)::route_Valid_T
theorem qY:route_Path_T.ok Tryz.prog:=Tab.ok_cons EO qh
abbrev cX:=Bool
abbrev dl:=Int
def dx(n:Nat)(go0:dl->Option cX)(v0 v1:Lv)(v3:Int):Option cX:=
 (bif v3<(v1.length:Int) then bif 0<=v3 then(bif 0<=(cI v1 v3 0) then(bif !((cI v1 v3 0)<=7)then some (decide (v3=(-1)))else bif(-9223372036854775808<=((v0.length:Int)-1))&&(((v0.length:Int)-1)<=9223372036854775807)then(bif 0<=(cI v1 v3 1) then(bif !((cI v1 v3 1)<=((v0.length:Int)-1))then some (decide (v3=(-1)))else(bif 0<v3 then bif(-9223372036854775808<=(v3-1))&&((v3-1)<=9223372036854775807)then bif 0<=(v3-1) then bif (v3-1)<(v1.length:Int) then bif 0<=(cI v1 (v3-1) 1) then bif (cI v1 (v3-1) 1)<(v0.length:Int) then(bif !((cI v1 v3 0)=(cI v0 (cI v1 (v3-1) 1) 0))then some (decide (v3=(-1)))else(bif (cI v1 v3 1)<(cI v1 (v3-1) 1) then some (decide (v3=(-1)))else bif(-9223372036854775808<=((v1.length:Int)-1))&&(((v1.length:Int)-1)<=9223372036854775807)then(bif v3<((v1.length:Int)-1) then bif (cI v1 v3 1)<(v0.length:Int) then(bif (cI v0 (cI v1 v3 1) 0)=(cI v1 v3 0) then some (decide (v3=(-1)))else(bif (cI v0 (cI v1 v3 1) 0)=(-1) then some (decide (v3=(-1)))else bif(-9223372036854775808<=(v3+1))&&((v3+1)<=9223372036854775807)then go0 (v3+1)else none))else none else bif(-9223372036854775808<=(v3+1))&&((v3+1)<=9223372036854775807)then go0 (v3+1)else none)else none))else none else none else none else none else none else bif(-9223372036854775808<=((v1.length:Int)-1))&&(((v1.length:Int)-1)<=9223372036854775807)then(bif v3<((v1.length:Int)-1) then bif (cI v1 v3 1)<(v0.length:Int) then(bif (cI v0 (cI v1 v3 1) 0)=(cI v1 v3 0) then some (decide (v3=(-1)))else(bif (cI v0 (cI v1 v3 1) 0)=(-1) then some (decide (v3=(-1)))else bif(-9223372036854775808<=(v3+1))&&((v3+1)<=9223372036854775807)then go0 (v3+1)else none))else none else bif(-9223372036854775808<=(v3+1))&&((v3+1)<=9223372036854775807)then go0 (v3+1)else none)else none))else some (decide (v3=(-1))))else none)else some (decide (v3=(-1))))else none else some true)
abbrev EF:= @dx
def we(n:Nat)(go0:dl->Option cX)(v0 v1:Lv)(v2:Int):Option cX:=
 (bif (-1)<=(cI v0 v2 0) then(bif !((cI v0 v2 0)<=7)then(bif((decide (0<=v2))==true)then some false else(bif (v1.length:Int)=0 then some false else(ab (fun go0 s=>dx n go0 v0 v1 s) n (0:dl))))else bif(-9223372036854775808<=(v2+1))&&((v2+1)<=9223372036854775807)then go0 (v2+1)else none)else(bif((decide (0<=v2))==true)then some false else(bif (v1.length:Int)=0 then some false else(ab (fun go0 s=>EF n go0 v0 v1 s) n (0:dl)))))
abbrev FA:= @dx
def ib(n:Nat)(go0:dl->Option cX)(v0 v1:Lv)(v2:Int):Option cX:=
 (bif v2<(v0.length:Int) then bif 0<=v2 then we n go0 v0 v1 v2 else none else(bif (v1.length:Int)=0 then some false else(ab (fun go0 s=>FA n go0 v0 v1 s) n (0:dl))))
def vW(n:Nat)(v0 v1:Lv):Option cX:=
 (bif (v0.length:Int)<=30 then(ab (fun go0 s=>ib n go0 v0 v1 s) n (0:dl))else some false)
def wG(n:Nat)(v0 v1:Lv):Option cX:=
 (bif 1<=(v0.length:Int) then vW n v0 v1 else some false)
def mM(n:Nat)(v0 v1:Lv):Option cX:=wG n v0 v1
def route_Right_t:FnT:=⟨[(false,[tSa]),(false,[(.sl (.cons .int (.cons .int .nil)))])],.b,fun n (s:Lv×Lv)=>mM n s.1 s.2⟩
theorem CW:route_Right_t.ok Tryz.prog 38:=FnT.ok_of (cfg:=⟨[((124,2,2),.inv [(.tmp 8 .int)]),((171,2,3),.inv [(.tmp 9 .int)])],aH,[],aj⟩) aw qY av (fun s fn hf=>by rw[Tryz.func38]at hf;cases hf;kernel_rfl) (fun n s=>by kernel_rfl)
def route_Right_T:Tab:=(38,route_Right_t)::route_Path_T
theorem qG:route_Right_T.ok Tryz.prog:=Tab.ok_cons CW qY
abbrev lh:=Bool
abbrev wc:=Int
def lr(n:Nat)(go0:wc->Option lh)(v0:Int)(v1:Lv)(v2:Int):Option lh:=
 (bif v2<(v1.length:Int) then bif 0<=v2 then bif(-9223372036854775808<=(v0-1))&&((v0-1)<=9223372036854775807)then(bif 0<=(cI v1 v2 0) then(bif !((cI v1 v2 0)<=(v0-1))then some (!(decide (0<=v2)))else(bif 0<=(cI v1 v2 1) then(bif !((cI v1 v2 1)<=(v0-1))then some (!(decide (0<=v2)))else(bif (cI v1 v2 0)=(cI v1 v2 1) then some (!(decide (0<=v2)))else(bif 0<=(cI v1 v2 2) then(bif !((cI v1 v2 2)<=10000)then some (!(decide (0<=v2)))else bif(-9223372036854775808<=(v2+1))&&((v2+1)<=9223372036854775807)then go0 (v2+1)else none)else some (!(decide (0<=v2))))))else some (!(decide (0<=v2)))))else some (!(decide (0<=v2))))else none else none else some true)
def yz(n:Nat)(v0:Int)(v1:Lv):Option lh:=
 (bif 0<=v0 then(bif !(v0<=12)then some false else(bif 40<(v1.length:Int) then some false else(ab (fun go0 s=>lr n go0 v0 v1 s) n (0:wc))))else some false)
def gR(n:Nat)(v0:Int)(v1:Lv):Option lh:=yz n v0 v1
def flow_Valid_t:FnT:=⟨[(true,[.int,tSc])],.b,fun n (s:Int×Lv)=>gR n s.1 s.2⟩
theorem EN:flow_Valid_t.ok Tryz.prog 73:=FnT.ok_of (cfg:=⟨[((201,2,1),.inv [(.tmp 8 .int)])],aH,[],aj⟩) aw qG av (fun s fn hf=>by rw[Tryz.func73]at hf;cases hf;kernel_rfl) (fun n s=>by kernel_rfl)
def flow_Valid_T:Tab:=(73,flow_Valid_t)::route_Right_T
theorem rD:flow_Valid_T.ok Tryz.prog:=Tab.ok_cons EN qG
abbrev iQ:=Int×Bool
abbrev p8:=Int×Int
def dW(n:Nat)(go0:p8->Option iQ)(v1:Lv)(v4 v6 v7:Int):Option iQ:=
 (bif v6<(v1.length:Int) then bif 0<=v6 then bif 0<=(cI v1 v6 0) then(bif (IOp.f .and (IOp.f .shr v4 (cI v1 v6 0)) 1)=1 then bif 0<=(cI v1 v6 1) then(bif (IOp.f .and (IOp.f .shr v4 (cI v1 v6 1)) 1)=0 then bif(-9223372036854775808<=(v7+(cI v1 v6 2)))&&((v7+(cI v1 v6 2))<=9223372036854775807)then bif(-9223372036854775808<=(v6+1))&&((v6+1)<=9223372036854775807)then go0 ((v6+1),(v7+(cI v1 v6 2)))else none else none else bif(-9223372036854775808<=(v6+1))&&((v6+1)<=9223372036854775807)then go0 ((v6+1),v7)else none)else none else bif(-9223372036854775808<=(v6+1))&&((v6+1)<=9223372036854775807)then go0 ((v6+1),v7)else none)else none else none else some (v7,true))
def sr(n:Nat)(v0:Int)(v1:Lv)(v2 v3 v4:Int):Option iQ:=
 (gR n v0 v1).bind fun y5=>
 (bif y5 then bif(-9223372036854775808<=(v0-1))&&((v0-1)<=9223372036854775807)then(bif 0<=v2 then(bif v2<=(v0-1) then(bif 0<=v3 then(bif v3<=(v0-1) then(bif((decide (v2=v3))==true)then some (0,false)else bif 0<=v0 then bif(-9223372036854775808<=((IOp.f .shl 1 v0)-1))&&(((IOp.f .shl 1 v0)-1)<=9223372036854775807)then(bif 0<=v4 then(bif !(v4<=((IOp.f .shl 1 v0)-1))then some (0,false)else(bif (IOp.f .and (IOp.f .shr v4 v2) 1)=0 then some (0,false)else(bif (IOp.f .and (IOp.f .shr v4 v3) 1)=1 then some (0,false)else(ab (fun go0 s=>dW n go0 v1 v4 s.1 s.2) n ((0,0):p8)))))else some (0,false))else none else none)else some (0,false))else some (0,false))else some (0,false))else some (0,false))else none else some (0,false))
def a8(n:Nat)(v0:Int)(v1:Lv)(v2 v3 v4:Int):Option iQ:=sr n v0 v1 v2 v3 v4
def flow_CheckCut_t:FnT:=⟨[(true,[.int,tSc]),(false,[.int]),(false,[.int]),(false,[.int])],(.tup (.cons .i (.cons .b .nil))),fun n (s:Int×Lv×Int×Int×Int)=>a8 n s.1 s.2.1 s.2.2.1 s.2.2.2.1 s.2.2.2.2⟩
theorem AY:flow_CheckCut_t.ok Tryz.prog 66:=FnT.ok_of (cfg:=⟨[((209,1,8),.inv [(.tmp 9 .int),(.cell 3 0 .int)])],aH,[],aj⟩) aw rD av (fun s fn hf=>by rw[Tryz.func66]at hf;cases hf;kernel_rfl) (fun n s=>by kernel_rfl)
def flow_CheckCut_T:Tab:=(66,flow_CheckCut_t)::flow_Valid_T
theorem nG:flow_CheckCut_T.ok Tryz.prog:=Tab.ok_cons AY rD
abbrev de:=Int×Bool
abbrev oo:=Int
abbrev gb:=Int×Lv
def eL(n:Nat)(go0:oo->Option de)(v2 v3:Int)(v7:Lv)(v8:Int):Option de:=
 (bif v8<(v7.length:Int) then bif 0<=v8 then(bif !((cI v7 v8 0)=0)then(bif !(v8=v2)then(bif !(v8=v3)then some (0,false)else bif(-9223372036854775808<=(v8+1))&&((v8+1)<=9223372036854775807)then go0 (v8+1)else none)else bif(-9223372036854775808<=(v8+1))&&((v8+1)<=9223372036854775807)then go0 (v8+1)else none)else bif(-9223372036854775808<=(v8+1))&&((v8+1)<=9223372036854775807)then go0 (v8+1)else none)else none else some ((cI v7 v2 0),true))
def cq(n:Nat)(go0:gb->Option de)(v1:Lv)(v2 v3:Int)(v4:Lv)(v6:Int)(v7:Lv):Option de:=
 (bif v6<(v1.length:Int) then bif 0<=v6 then bif v6<(v4.length:Int) then(bif 0<=(cI v4 v6 0) then(bif !((cI v4 v6 0)<=(cI v1 v6 2))then some (0,false)else bif 0<=(cI v1 v6 0) then bif (cI v1 v6 0)<(v7.length:Int) then bif(-9223372036854775808<=((cI v7 (cI v1 v6 0) 0)+(cI v4 v6 0)))&&(((cI v7 (cI v1 v6 0) 0)+(cI v4 v6 0))<=9223372036854775807)then bif 0<=(cI v1 v6 1) then bif (cI v1 v6 1)<(v7.length:Int) then bif(-9223372036854775808<=((cI (List.modify v7 ((cI v1 v6 0)).toNat (fun r=>r.set 0 (AV.int ((cI v7 (cI v1 v6 0) 0)+(cI v4 v6 0))))) (cI v1 v6 1) 0)-(cI v4 v6 0)))&&(((cI (List.modify v7 ((cI v1 v6 0)).toNat (fun r=>r.set 0 (AV.int ((cI v7 (cI v1 v6 0) 0)+(cI v4 v6 0))))) (cI v1 v6 1) 0)-(cI v4 v6 0))<=9223372036854775807)then bif(-9223372036854775808<=(v6+1))&&((v6+1)<=9223372036854775807)then go0 ((v6+1),(List.modify (List.modify v7 ((cI v1 v6 0)).toNat (fun r=>r.set 0 (AV.int ((cI v7 (cI v1 v6 0) 0)+(cI v4 v6 0))))) ((cI v1 v6 1)).toNat (fun r=>r.set 0 (AV.int ((cI (List.modify v7 ((cI v1 v6 0)).toNat (fun r=>r.set 0 (AV.int ((cI v7 (cI v1 v6 0) 0)+(cI v4 v6 0))))) (cI v1 v6 1) 0)-(cI v4 v6 0))))))else none else none else none else none else none else none else none)else some (0,false))else none else none else bif v2<(v7.length:Int) then(bif (cI v7 v2 0)<0 then some (0,false)else(ab (fun go0 s=>eL n go0 v2 v3 v7 s) n (0:oo)))else none)
def pN(n:Nat)(v0:Int)(v1:Lv)(v2 v3:Int)(v4:Lv):Option de:=
 (gR n v0 v1).bind fun y5=>
 (bif y5 then bif(-9223372036854775808<=(v0-1))&&((v0-1)<=9223372036854775807)then(bif 0<=v2 then(bif v2<=(v0-1) then(bif 0<=v3 then(bif v3<=(v0-1) then(bif((decide (v2=v3))==true)then some (0,false)else(bif !((v4.length:Int)=(v1.length:Int))then some (0,false)else bif 0<=v0 then bif (v0*8)<=140737488355328 then(ab (fun go0 s=>cq n go0 v1 v2 v3 v4 s.1 s.2) n ((0,(List.replicate (v0).toNat [(AV.int 0)])):gb))else none else none))else some (0,false))else some (0,false))else some (0,false))else some (0,false))else none else some (0,false))
def gf(n:Nat)(v0:Int)(v1:Lv)(v2 v3:Int)(v4:Lv):Option de:=pN n v0 v1 v2 v3 v4
def flow_CheckFlow_t:FnT:=⟨[(true,[.int,tSc]),(false,[.int]),(false,[.int]),(false,[tSa])],(.tup (.cons .i (.cons .b .nil))),fun n (s:Int×Lv×Int×Int×Lv)=>gf n s.1 s.2.1 s.2.2.1 s.2.2.2.1 s.2.2.2.2⟩
theorem zJ:flow_CheckFlow_t.ok Tryz.prog 40:=FnT.ok_of (cfg:=⟨[((103,5,4),.inv [(.tmp 21 .int),(.inrow 3 3 (.cons .int .nil))]),((40,7,6),.inv [(.tmp 36 .int)])],aH,[],aj⟩) aw nG av (fun s fn hf=>by rw[Tryz.func40]at hf;cases hf;kernel_rfl) (fun n s=>by kernel_rfl)
def flow_CheckFlow_T:Tab:=(40,flow_CheckFlow_t)::flow_CheckCut_T
theorem mf:flow_CheckFlow_T.ok Tryz.prog:=Tab.ok_cons zJ nG
def Oe:List Nat:=[12,13,14,15,16,17,18,19,20,21,22,23,24,25,26,27,28,29,30,31,32,33,34,37,38,39,40,43,44,45,46,47,48,49,50,51,52,53,54,55,56,57,58,59,62,66,68,69,70,71,72,73,74,75,76,77,78,84,85,86,87,89,95,105,106,107,108,109,110,111,112,114,115,116,117,120,122,149,150,152,153,159,176,178,179,180,182,183,184,186,187,193,202,203,204,210,211,1000015,1000016,1000017,1000018,1000019,1000022,1000049,1000050,1000051,1000052,1000053,1000062,2000151,2000152,2000217,2000247,2000248,2000249,6000000]
abbrev aa:=Lv×Int×Int
abbrev aK:=Lv×Int×Lv
abbrev ay:=Int×Lv
abbrev aW:=Int×Int
abbrev aG:=Int×Int×Lv
abbrev bO:=Lv×Lv
def Ju(n:Nat)(go2:aK->Option aa)(go0:ay->Option aa)(go1:ay->Option aa)(v9:Lv)(v19 v21:Int)(v22:Lv):Option aa:=
 (bif v21<14 then bif 0<=v19 then bif (v19*14)<(v22.length:Int) then bif 0<=v21 then bif ((v19*14)+v21)<(v22.length:Int) then bif (v19*14)<(v9.length:Int) then bif ((v19*14)+v21)<(v9.length:Int) then bif(-9223372036854775808<=((cI v22 ((v19*14)+v21) 0)-(cI v9 ((v19*14)+v21) 0)))&&(((cI v22 ((v19*14)+v21) 0)-(cI v9 ((v19*14)+v21) 0))<=9223372036854775807)then bif(-9223372036854775808<=(v21+1))&&((v21+1)<=9223372036854775807)then go1 ((v21+1),(List.modify v22 (((v19*14)+v21)).toNat (fun r=>r.set 0 (AV.int (aL ((cI v22 ((v19*14)+v21) 0)-(cI v9 ((v19*14)+v21) 0)) 0)))))else none else none else none else none else none else none else none else none else bif(-9223372036854775808<=(v19+1))&&((v19+1)<=9223372036854775807)then go0 ((v19+1),v22)else none)
def Jp(n:Nat)(go2:aK->Option aa)(go1:aW->Option aa)(go0:aK->Option aa)(v1:Lv)(v15:Int)(v21:Lv)(v22:Int)(v23:Lv):Option aa:=
 (bif v22<(v1.length:Int) then bif 0<=v22 then bif 0<=(cI v1 v22 0) then bif (cI v1 v22 0)<14 then bif ((cI v1 v22 0)*14)<(v23.length:Int) then bif 0<=(cI v1 v22 1) then bif (cI v1 v22 1)<14 then bif (((cI v1 v22 0)*14)+(cI v1 v22 1))<(v23.length:Int) then bif(-9223372036854775808<=((cI v23 (((cI v1 v22 0)*14)+(cI v1 v22 1)) 0)-(aB (cI v1 v22 2) (cI v23 (((cI v1 v22 0)*14)+(cI v1 v22 1)) 0))))&&(((cI v23 (((cI v1 v22 0)*14)+(cI v1 v22 1)) 0)-(aB (cI v1 v22 2) (cI v23 (((cI v1 v22 0)*14)+(cI v1 v22 1)) 0)))<=9223372036854775807)then bif (((v21.length:Int)+1)*8)<=140737488355328 then bif(-9223372036854775808<=(v22+1))&&((v22+1)<=9223372036854775807)then go0 ((v21++[[(AV.int (aB (cI v1 v22 2) (cI v23 (((cI v1 v22 0)*14)+(cI v1 v22 1)) 0)))]]),(v22+1),(List.modify v23 ((((cI v1 v22 0)*14)+(cI v1 v22 1))).toNat (fun r=>r.set 0 (AV.int ((cI v23 (((cI v1 v22 0)*14)+(cI v1 v22 1)) 0)-(aB (cI v1 v22 2) (cI v23 (((cI v1 v22 0)*14)+(cI v1 v22 1)) 0)))))))else none else none else none else none else none else none else none else none else none else none else some (v21,v15,0))
def I4(n:Nat)(go2:aK->Option aa)(go1:aW->Option aa)(go0:ay->Option aa)(v1 v9:Lv)(v15 v19:Int)(v20:Lv):Option aa:=
 (bif v19<14 then(ab (fun go1 s=>Ju n go2 go0 go1 v9 v19 s.1 s.2) n ((0,v20):ay))else(ab (fun go0 s=>Jp n go2 go1 go0 v1 v15 s.1 s.2.1 s.2.2) n ((([]:Lv),0,v20):aK)))
def Jr(n:Nat)(go2:aK->Option aa)(go1:aW->Option aa)(go0:ay->Option aa)(v1 v9:Lv)(v15 v17:Int)(v18:Lv):Option aa:=
 (bif v17<(v1.length:Int) then bif 0<=v17 then bif 0<=(cI v1 v17 0) then bif (cI v1 v17 0)<14 then bif ((cI v1 v17 0)*14)<(v18.length:Int) then bif 0<=(cI v1 v17 1) then bif (cI v1 v17 1)<14 then bif (((cI v1 v17 0)*14)+(cI v1 v17 1))<(v18.length:Int) then bif(-9223372036854775808<=((cI v18 (((cI v1 v17 0)*14)+(cI v1 v17 1)) 0)+(cI v1 v17 2)))&&(((cI v18 (((cI v1 v17 0)*14)+(cI v1 v17 1)) 0)+(cI v1 v17 2))<=9223372036854775807)then bif(-9223372036854775808<=(v17+1))&&((v17+1)<=9223372036854775807)then go0 ((v17+1),(List.modify v18 ((((cI v1 v17 0)*14)+(cI v1 v17 1))).toNat (fun r=>r.set 0 (AV.int ((cI v18 (((cI v1 v17 0)*14)+(cI v1 v17 1)) 0)+(cI v1 v17 2))))))else none else none else none else none else none else none else none else none else none else(ab (fun go0 s=>I4 n go2 go1 go0 v1 v9 v15 s.1 s.2) n ((0,v18):ay)))
def Jb(n:Nat)(go0:aG->Option aa)(go2:aK->Option aa)(go1:aW->Option aa)(v1 v9 v10:Lv)(v13:Int)(v14:Lv)(v15 v16:Int):Option aa:=
 (bif v16<14 then bif 0<=v16 then(bif 0<(cI (List.modify v14 (v13).toNat (fun r=>r.set 0 (AV.int ((cI v10 0 0)+1)))) v16 0) then bif(-9223372036854775808<=(v16+1))&&((v16+1)<=9223372036854775807)then go1 ((IOp.f .or v15 (IOp.f .shl 1 v16)),(v16+1))else none else bif(-9223372036854775808<=(v16+1))&&((v16+1)<=9223372036854775807)then go1 (v15,(v16+1))else none)else none else(ab (fun go0 s=>Jr n go2 go1 go0 v1 v9 v15 s.1 s.2) n ((0,(List.replicate ((196:Int)).toNat [(AV.int 0)])):ay)))
def ez(n:Nat)(go0:aG->Option aa)(go2:aK->Option aa)(go1:ay->Option aa)(v2 v7 v8:Int)(v10:Lv)(v13:Int)(v14:Lv)(v16 v17:Int)(v18:Lv):Option aa:=
 (bif !(v17=v2)then bif 0<=v17 then bif v17<14 then bif v17<(v14.length:Int) then bif(-9223372036854775808<=((cI (List.modify v14 (v13).toNat (fun r=>r.set 0 (AV.int ((cI v10 0 0)+1)))) v17 0)-1))&&(((cI (List.modify v14 (v13).toNat (fun r=>r.set 0 (AV.int ((cI v10 0 0)+1)))) v17 0)-1)<=9223372036854775807)then bif 0<=((cI (List.modify v14 (v13).toNat (fun r=>r.set 0 (AV.int ((cI v10 0 0)+1)))) v17 0)-1) then bif ((cI (List.modify v14 (v13).toNat (fun r=>r.set 0 (AV.int ((cI v10 0 0)+1)))) v17 0)-1)<14 then bif (((cI (List.modify v14 (v13).toNat (fun r=>r.set 0 (AV.int ((cI v10 0 0)+1)))) v17 0)-1)*14)<(v18.length:Int) then bif ((((cI (List.modify v14 (v13).toNat (fun r=>r.set 0 (AV.int ((cI v10 0 0)+1)))) v17 0)-1)*14)+v17)<(v18.length:Int) then bif(-9223372036854775808<=((cI v18 ((((cI (List.modify v14 (v13).toNat (fun r=>r.set 0 (AV.int ((cI v10 0 0)+1)))) v17 0)-1)*14)+v17) 0)-v16))&&(((cI v18 ((((cI (List.modify v14 (v13).toNat (fun r=>r.set 0 (AV.int ((cI v10 0 0)+1)))) v17 0)-1)*14)+v17) 0)-v16)<=9223372036854775807)then bif (v17*14)<(v18.length:Int) then bif ((v17*14)+((cI (List.modify v14 (v13).toNat (fun r=>r.set 0 (AV.int ((cI v10 0 0)+1)))) v17 0)-1))<(v18.length:Int) then bif(-9223372036854775808<=((cI (List.modify v18 (((((cI (List.modify v14 (v13).toNat (fun r=>r.set 0 (AV.int ((cI v10 0 0)+1)))) v17 0)-1)*14)+v17)).toNat (fun r=>r.set 0 (AV.int ((cI v18 ((((cI (List.modify v14 (v13).toNat (fun r=>r.set 0 (AV.int ((cI v10 0 0)+1)))) v17 0)-1)*14)+v17) 0)-v16)))) ((v17*14)+((cI (List.modify v14 (v13).toNat (fun r=>r.set 0 (AV.int ((cI v10 0 0)+1)))) v17 0)-1)) 0)+v16))&&(((cI (List.modify v18 (((((cI (List.modify v14 (v13).toNat (fun r=>r.set 0 (AV.int ((cI v10 0 0)+1)))) v17 0)-1)*14)+v17)).toNat (fun r=>r.set 0 (AV.int ((cI v18 ((((cI (List.modify v14 (v13).toNat (fun r=>r.set 0 (AV.int ((cI v10 0 0)+1)))) v17 0)-1)*14)+v17) 0)-v16)))) ((v17*14)+((cI (List.modify v14 (v13).toNat (fun r=>r.set 0 (AV.int ((cI v10 0 0)+1)))) v17 0)-1)) 0)+v16)<=9223372036854775807)then go1 (((cI (List.modify v14 (v13).toNat (fun r=>r.set 0 (AV.int ((cI v10 0 0)+1)))) v17 0)-1),(List.modify (List.modify v18 (((((cI (List.modify v14 (v13).toNat (fun r=>r.set 0 (AV.int ((cI v10 0 0)+1)))) v17 0)-1)*14)+v17)).toNat (fun r=>r.set 0 (AV.int ((cI v18 ((((cI (List.modify v14 (v13).toNat (fun r=>r.set 0 (AV.int ((cI v10 0 0)+1)))) v17 0)-1)*14)+v17) 0)-v16)))) (((v17*14)+((cI (List.modify v14 (v13).toNat (fun r=>r.set 0 (AV.int ((cI v10 0 0)+1)))) v17 0)-1))).toNat (fun r=>r.set 0 (AV.int ((cI (List.modify v18 (((((cI (List.modify v14 (v13).toNat (fun r=>r.set 0 (AV.int ((cI v10 0 0)+1)))) v17 0)-1)*14)+v17)).toNat (fun r=>r.set 0 (AV.int ((cI v18 ((((cI (List.modify v14 (v13).toNat (fun r=>r.set 0 (AV.int ((cI v10 0 0)+1)))) v17 0)-1)*14)+v17) 0)-v16)))) ((v17*14)+((cI (List.modify v14 (v13).toNat (fun r=>r.set 0 (AV.int ((cI v10 0 0)+1)))) v17 0)-1)) 0)+v16)))))else none else none else none else none else none else none else none else none else none else none else none else none else bif(-9223372036854775808<=(v7+v16))&&((v7+v16)<=9223372036854775807)then go0 ((v7+v16),v8,v18)else none)
def fT(n:Nat)(go0:aG->Option aa)(go2:aK->Option aa)(go1:aW->Option aa)(v2 v3 v7 v8:Int)(v9 v10:Lv)(v13:Int)(v14:Lv)(v15 v16:Int):Option aa:=
 (bif !(v15=v2)then bif 0<=v15 then bif v15<14 then bif v15<(v14.length:Int) then bif(-9223372036854775808<=((cI (List.modify v14 (v13).toNat (fun r=>r.set 0 (AV.int ((cI v10 0 0)+1)))) v15 0)-1))&&(((cI (List.modify v14 (v13).toNat (fun r=>r.set 0 (AV.int ((cI v10 0 0)+1)))) v15 0)-1)<=9223372036854775807)then bif 0<=((cI (List.modify v14 (v13).toNat (fun r=>r.set 0 (AV.int ((cI v10 0 0)+1)))) v15 0)-1) then bif ((cI (List.modify v14 (v13).toNat (fun r=>r.set 0 (AV.int ((cI v10 0 0)+1)))) v15 0)-1)<14 then bif (((cI (List.modify v14 (v13).toNat (fun r=>r.set 0 (AV.int ((cI v10 0 0)+1)))) v15 0)-1)*14)<(v9.length:Int) then bif ((((cI (List.modify v14 (v13).toNat (fun r=>r.set 0 (AV.int ((cI v10 0 0)+1)))) v15 0)-1)*14)+v15)<(v9.length:Int) then go1 (((cI (List.modify v14 (v13).toNat (fun r=>r.set 0 (AV.int ((cI v10 0 0)+1)))) v15 0)-1),(aB v16 (cI v9 ((((cI (List.modify v14 (v13).toNat (fun r=>r.set 0 (AV.int ((cI v10 0 0)+1)))) v15 0)-1)*14)+v15) 0)))else none else none else none else none else none else none else none else none else(ab (fun go1 s=>ez n go0 go2 go1 v2 v7 v8 v10 v13 v14 v16 s.1 s.2) n ((v3,v9):ay)))
def sO(n:Nat)(go0:aG->Option aa)(go1:bO->Option aa)(go2:aK->Option aa)(v1:Lv)(v2 v3 v7 v8:Int)(v9 v10:Lv)(v13:Int)(v14:Lv):Option aa:=
 (bif (cI (List.modify v14 (v13).toNat (fun r=>r.set 0 (AV.int ((cI v10 0 0)+1)))) v3 0)=0 then bif 14<=(v14.length:Int) then(ab (fun go1 s=>Jb n go0 go2 go1 v1 v9 v10 v13 v14 s.1 s.2) n ((v8,0):aW))else none else(ab (fun go1 s=>fT n go0 go2 go1 v2 v3 v7 v8 v9 v10 v13 v14 s.1 s.2) n ((v3,4611686018427387903):aW)))
def Al(n:Nat)(go0:aG->Option aa)(go1:bO->Option aa)(go2:aK->Option aa)(v1:Lv)(v2 v3 v7 v8:Int)(v9 v10 v12:Lv)(v13:Int)(v14:Lv):Option aa:=
 (bif v13=v3 then bif v3<14 then bif v3<(v14.length:Int) then sO n go0 go1 go2 v1 v2 v3 v7 v8 v9 v10 v13 v14 else none else none else bif (((v12.length:Int)+1)*8)<=140737488355328 then bif(-9223372036854775808<=(v13+1))&&((v13+1)<=9223372036854775807)then go2 ((v12++[[(AV.int v13)]]),(v13+1),(List.modify v14 (v13).toNat (fun r=>r.set 0 (AV.int ((cI v10 0 0)+1)))))else none else none)
def zL(n:Nat)(go0:aG->Option aa)(go1:bO->Option aa)(go2:aK->Option aa)(v1:Lv)(v2 v3 v7 v8:Int)(v9 v10 v12:Lv)(v13:Int)(v14:Lv):Option aa:=
 (bif (cI v9 (((cI v10 0 0)*14)+v13) 0)=0 then bif(-9223372036854775808<=(v13+1))&&((v13+1)<=9223372036854775807)then go2 (v12,(v13+1),v14)else none else bif(-9223372036854775808<=((cI v10 0 0)+1))&&(((cI v10 0 0)+1)<=9223372036854775807)then Al n go0 go1 go2 v1 v2 v3 v7 v8 v9 v10 v12 v13 v14 else none)
def Ac(n:Nat)(go0:aG->Option aa)(go1:bO->Option aa)(go2:aK->Option aa)(v1:Lv)(v2 v3 v7 v8:Int)(v9 v10 v12:Lv)(v13:Int)(v14:Lv):Option aa:=
 (bif 0<(cI v14 v13 0) then bif(-9223372036854775808<=(v13+1))&&((v13+1)<=9223372036854775807)then go2 (v12,(v13+1),v14)else none else bif 0<=(cI v10 0 0) then bif (cI v10 0 0)<14 then bif ((cI v10 0 0)*14)<(v9.length:Int) then bif (((cI v10 0 0)*14)+v13)<(v9.length:Int) then zL n go0 go1 go2 v1 v2 v3 v7 v8 v9 v10 v12 v13 v14 else none else none else none else none)
def dM(n:Nat)(go0:aG->Option aa)(go1:bO->Option aa)(go2:aK->Option aa)(v1:Lv)(v2 v3 v7 v8:Int)(v9 v10 v12:Lv)(v13:Int)(v14:Lv):Option aa:=
 (bif v13<14 then bif 0<=v13 then bif v13<(v14.length:Int) then Ac n go0 go1 go2 v1 v2 v3 v7 v8 v9 v10 v12 v13 v14 else none else none else go1 (v12,v14))
def fP(n:Nat)(go0:ay->Option aa)(go1:ay->Option aa)(v9:Lv)(v16 v18:Int)(v19:Lv):Option aa:=
 (bif v18<14 then bif 0<=v16 then bif (v16*14)<(v19.length:Int) then bif 0<=v18 then bif ((v16*14)+v18)<(v19.length:Int) then bif (v16*14)<(v9.length:Int) then bif ((v16*14)+v18)<(v9.length:Int) then bif(-9223372036854775808<=((cI v19 ((v16*14)+v18) 0)-(cI v9 ((v16*14)+v18) 0)))&&(((cI v19 ((v16*14)+v18) 0)-(cI v9 ((v16*14)+v18) 0))<=9223372036854775807)then bif(-9223372036854775808<=(v18+1))&&((v18+1)<=9223372036854775807)then go1 ((v18+1),(List.modify v19 (((v16*14)+v18)).toNat (fun r=>r.set 0 (AV.int (aL ((cI v19 ((v16*14)+v18) 0)-(cI v9 ((v16*14)+v18) 0)) 0)))))else none else none else none else none else none else none else none else none else bif(-9223372036854775808<=(v16+1))&&((v16+1)<=9223372036854775807)then go0 ((v16+1),v19)else none)
def f7(n:Nat)(go1:aW->Option aa)(go0:aK->Option aa)(v1:Lv)(v12:Int)(v18:Lv)(v19:Int)(v20:Lv):Option aa:=
 (bif v19<(v1.length:Int) then bif 0<=v19 then bif 0<=(cI v1 v19 0) then bif (cI v1 v19 0)<14 then bif ((cI v1 v19 0)*14)<(v20.length:Int) then bif 0<=(cI v1 v19 1) then bif (cI v1 v19 1)<14 then bif (((cI v1 v19 0)*14)+(cI v1 v19 1))<(v20.length:Int) then bif(-9223372036854775808<=((cI v20 (((cI v1 v19 0)*14)+(cI v1 v19 1)) 0)-(aB (cI v1 v19 2) (cI v20 (((cI v1 v19 0)*14)+(cI v1 v19 1)) 0))))&&(((cI v20 (((cI v1 v19 0)*14)+(cI v1 v19 1)) 0)-(aB (cI v1 v19 2) (cI v20 (((cI v1 v19 0)*14)+(cI v1 v19 1)) 0)))<=9223372036854775807)then bif (((v18.length:Int)+1)*8)<=140737488355328 then bif(-9223372036854775808<=(v19+1))&&((v19+1)<=9223372036854775807)then go0 ((v18++[[(AV.int (aB (cI v1 v19 2) (cI v20 (((cI v1 v19 0)*14)+(cI v1 v19 1)) 0)))]]),(v19+1),(List.modify v20 ((((cI v1 v19 0)*14)+(cI v1 v19 1))).toNat (fun r=>r.set 0 (AV.int ((cI v20 (((cI v1 v19 0)*14)+(cI v1 v19 1)) 0)-(aB (cI v1 v19 2) (cI v20 (((cI v1 v19 0)*14)+(cI v1 v19 1)) 0)))))))else none else none else none else none else none else none else none else none else none else none else some (v18,v12,0))
def fZ(n:Nat)(go1:aW->Option aa)(go0:ay->Option aa)(v1 v9:Lv)(v12 v16:Int)(v17:Lv):Option aa:=
 (bif v16<14 then(ab (fun go1 s=>fP n go0 go1 v9 v16 s.1 s.2) n ((0,v17):ay))else(ab (fun go0 s=>f7 n go1 go0 v1 v12 s.1 s.2.1 s.2.2) n ((([]:Lv),0,v17):aK)))
def fW(n:Nat)(go1:aW->Option aa)(go0:ay->Option aa)(v1 v9:Lv)(v12 v14:Int)(v15:Lv):Option aa:=
 (bif v14<(v1.length:Int) then bif 0<=v14 then bif 0<=(cI v1 v14 0) then bif (cI v1 v14 0)<14 then bif ((cI v1 v14 0)*14)<(v15.length:Int) then bif 0<=(cI v1 v14 1) then bif (cI v1 v14 1)<14 then bif (((cI v1 v14 0)*14)+(cI v1 v14 1))<(v15.length:Int) then bif(-9223372036854775808<=((cI v15 (((cI v1 v14 0)*14)+(cI v1 v14 1)) 0)+(cI v1 v14 2)))&&(((cI v15 (((cI v1 v14 0)*14)+(cI v1 v14 1)) 0)+(cI v1 v14 2))<=9223372036854775807)then bif(-9223372036854775808<=(v14+1))&&((v14+1)<=9223372036854775807)then go0 ((v14+1),(List.modify v15 ((((cI v1 v14 0)*14)+(cI v1 v14 1))).toNat (fun r=>r.set 0 (AV.int ((cI v15 (((cI v1 v14 0)*14)+(cI v1 v14 1)) 0)+(cI v1 v14 2))))))else none else none else none else none else none else none else none else none else none else(ab (fun go0 s=>fZ n go1 go0 v1 v9 v12 s.1 s.2) n ((0,v15):ay)))
def ey(n:Nat)(go0:aG->Option aa)(go1:aW->Option aa)(v1 v9 v11:Lv)(v12 v13:Int):Option aa:=
 (bif v13<14 then bif 0<=v13 then(bif 0<(cI v11 v13 0) then bif(-9223372036854775808<=(v13+1))&&((v13+1)<=9223372036854775807)then go1 ((IOp.f .or v12 (IOp.f .shl 1 v13)),(v13+1))else none else bif(-9223372036854775808<=(v13+1))&&((v13+1)<=9223372036854775807)then go1 (v12,(v13+1))else none)else none else(ab (fun go0 s=>fW n go1 go0 v1 v9 v12 s.1 s.2) n ((0,(List.replicate ((196:Int)).toNat [(AV.int 0)])):ay)))
def Jj(n:Nat)(go0:aG->Option aa)(go1:ay->Option aa)(v2 v7 v8:Int)(v11:Lv)(v13 v14:Int)(v15:Lv):Option aa:=
 (bif !(v14=v2)then bif 0<=v14 then bif v14<14 then bif v14<(v11.length:Int) then bif(-9223372036854775808<=((cI v11 v14 0)-1))&&(((cI v11 v14 0)-1)<=9223372036854775807)then bif 0<=((cI v11 v14 0)-1) then bif ((cI v11 v14 0)-1)<14 then bif (((cI v11 v14 0)-1)*14)<(v15.length:Int) then bif ((((cI v11 v14 0)-1)*14)+v14)<(v15.length:Int) then bif(-9223372036854775808<=((cI v15 ((((cI v11 v14 0)-1)*14)+v14) 0)-v13))&&(((cI v15 ((((cI v11 v14 0)-1)*14)+v14) 0)-v13)<=9223372036854775807)then bif (v14*14)<(v15.length:Int) then bif ((v14*14)+((cI v11 v14 0)-1))<(v15.length:Int) then bif(-9223372036854775808<=((cI (List.modify v15 (((((cI v11 v14 0)-1)*14)+v14)).toNat (fun r=>r.set 0 (AV.int ((cI v15 ((((cI v11 v14 0)-1)*14)+v14) 0)-v13)))) ((v14*14)+((cI v11 v14 0)-1)) 0)+v13))&&(((cI (List.modify v15 (((((cI v11 v14 0)-1)*14)+v14)).toNat (fun r=>r.set 0 (AV.int ((cI v15 ((((cI v11 v14 0)-1)*14)+v14) 0)-v13)))) ((v14*14)+((cI v11 v14 0)-1)) 0)+v13)<=9223372036854775807)then go1 (((cI v11 v14 0)-1),(List.modify (List.modify v15 (((((cI v11 v14 0)-1)*14)+v14)).toNat (fun r=>r.set 0 (AV.int ((cI v15 ((((cI v11 v14 0)-1)*14)+v14) 0)-v13)))) (((v14*14)+((cI v11 v14 0)-1))).toNat (fun r=>r.set 0 (AV.int ((cI (List.modify v15 (((((cI v11 v14 0)-1)*14)+v14)).toNat (fun r=>r.set 0 (AV.int ((cI v15 ((((cI v11 v14 0)-1)*14)+v14) 0)-v13)))) ((v14*14)+((cI v11 v14 0)-1)) 0)+v13)))))else none else none else none else none else none else none else none else none else none else none else none else none else bif(-9223372036854775808<=(v7+v13))&&((v7+v13)<=9223372036854775807)then go0 ((v7+v13),v8,v15)else none)
def IU(n:Nat)(go0:aG->Option aa)(go1:aW->Option aa)(v2 v3 v7 v8:Int)(v9 v11:Lv)(v12 v13:Int):Option aa:=
 (bif !(v12=v2)then bif 0<=v12 then bif v12<14 then bif v12<(v11.length:Int) then bif(-9223372036854775808<=((cI v11 v12 0)-1))&&(((cI v11 v12 0)-1)<=9223372036854775807)then bif 0<=((cI v11 v12 0)-1) then bif ((cI v11 v12 0)-1)<14 then bif (((cI v11 v12 0)-1)*14)<(v9.length:Int) then bif ((((cI v11 v12 0)-1)*14)+v12)<(v9.length:Int) then go1 (((cI v11 v12 0)-1),(aB v13 (cI v9 ((((cI v11 v12 0)-1)*14)+v12) 0)))else none else none else none else none else none else none else none else none else(ab (fun go1 s=>Jj n go0 go1 v2 v7 v8 v11 v13 s.1 s.2) n ((v3,v9):ay)))
def tu(n:Nat)(go0:aG->Option aa)(go1:bO->Option aa)(v1:Lv)(v2 v3 v7 v8:Int)(v9 v11:Lv):Option aa:=
 (bif (cI v11 v3 0)=0 then bif 14<=(v11.length:Int) then(ab (fun go1 s=>ey n go0 go1 v1 v9 v11 s.1 s.2) n ((v8,0):aW))else none else(ab (fun go1 s=>IU n go0 go1 v2 v3 v7 v8 v9 v11 s.1 s.2) n ((v3,4611686018427387903):aW)))
def dP(n:Nat)(go0:aG->Option aa)(go1:bO->Option aa)(v1:Lv)(v2 v3 v7 v8:Int)(v9 v10 v11:Lv):Option aa:=
 (bif 0<(v10.length:Int) then bif 1<=(v10.length:Int) then(ab (fun go2 s=>dM n go0 go1 go2 v1 v2 v3 v7 v8 v9 v10 s.1 s.2.1 s.2.2) n (((List.drop ((1:Int)).toNat v10),0,v11):aK))else none else bif v3<14 then bif v3<(v11.length:Int) then tu n go0 go1 v1 v2 v3 v7 v8 v9 v11 else none else none)
def jG(n:Nat)(go0:aG->Option aa)(v1:Lv)(v2 v3 v7 v8:Int)(v9:Lv):Option aa:=
 bif(-9223372036854775808<=(v2+1))&&((v2+1)<=9223372036854775807)then bif v2<14 then bif v2<14 then(ab (fun go1 s=>dP n go0 go1 v1 v2 v3 v7 v8 v9 s.1 s.2) n (((([]:Lv)++[[(AV.int v2)]]),(List.modify (List.replicate ((14:Int)).toNat [(AV.int 0)]) (v2).toNat (fun r=>r.set 0 (AV.int (v2+1))))):bO))else none else none else none
def fx(n:Nat)(go0:ay->Option aa)(v1:Lv)(v2 v3 v5:Int)(v6:Lv):Option aa:=
 (bif v5<(v1.length:Int) then bif 0<=v5 then bif 0<=(cI v1 v5 0) then bif (cI v1 v5 0)<14 then bif ((cI v1 v5 0)*14)<(v6.length:Int) then bif 0<=(cI v1 v5 1) then bif (cI v1 v5 1)<14 then bif (((cI v1 v5 0)*14)+(cI v1 v5 1))<(v6.length:Int) then bif(-9223372036854775808<=((cI v6 (((cI v1 v5 0)*14)+(cI v1 v5 1)) 0)+(cI v1 v5 2)))&&(((cI v6 (((cI v1 v5 0)*14)+(cI v1 v5 1)) 0)+(cI v1 v5 2))<=9223372036854775807)then bif(-9223372036854775808<=(v5+1))&&((v5+1)<=9223372036854775807)then go0 ((v5+1),(List.modify v6 ((((cI v1 v5 0)*14)+(cI v1 v5 1))).toNat (fun r=>r.set 0 (AV.int ((cI v6 (((cI v1 v5 0)*14)+(cI v1 v5 1)) 0)+(cI v1 v5 2))))))else none else none else none else none else none else none else none else none else none else(ab (fun go0 s=>jG n go0 v1 v2 v3 s.1 s.2.1 s.2.2) n ((0,0,v6):aG)))
def CC(n:Nat)(v1:Lv)(v2 v3:Int):Option aa:=
 (bif((decide (v2=v3))==true)then some (([]:Lv),0,270)else(ab (fun go0 s=>fx n go0 v1 v2 v3 s.1 s.2) n ((0,(List.replicate ((196:Int)).toNat [(AV.int 0)])):ay)))
def Cn(n:Nat)(v0:Int)(v1:Lv)(v2 v3:Int):Option aa:=
 (bif v3<=(v0-1) then CC n v1 v2 v3 else some (([]:Lv),0,270))
def BX(n:Nat)(v0:Int)(v1:Lv)(v2 v3:Int):Option aa:=
 (bif 0<=v3 then Cn n v0 v1 v2 v3 else some (([]:Lv),0,270))
def BE(n:Nat)(v0:Int)(v1:Lv)(v2 v3:Int):Option aa:=
 (bif v2<=(v0-1) then BX n v0 v1 v2 v3 else some (([]:Lv),0,270))
def Bs(n:Nat)(v0:Int)(v1:Lv)(v2 v3:Int):Option aa:=
 (bif 0<=v2 then BE n v0 v1 v2 v3 else some (([]:Lv),0,270))
def BM(n:Nat)(v0:Int)(v1:Lv)(v2 v3:Int)(v4:Bool):Option aa:=
 (bif v4 then bif(-9223372036854775808<=(v0-1))&&((v0-1)<=9223372036854775807)then Bs n v0 v1 v2 v3 else none else some (([]:Lv),0,270))
def Bl(n:Nat)(v0:Int)(v1:Lv)(v2 v3:Int):Option aa:=
 (gR n v0 v1).bind fun y4=>
 BM n v0 v1 v2 v3 y4
def fY(n:Nat)(v0:Int)(v1:Lv)(v2 v3:Int):Option aa:=Bl n v0 v1 v2 v3
def flow_Max_t:FnT:=⟨[(true,[.int,tSc]),(false,[.int]),(false,[.int])],(.tup (.cons (.row 3 (.cons .int .nil)) (.cons .i (.cons .i .nil)))),fun n (s:Int×Lv×Int×Int)=>fY n s.1 s.2.1 s.2.2.1 s.2.2.2⟩
theorem IQ:flow_Max_t.ok Tryz.prog 39:=FnT.ok_of (cfg:=⟨[((101,1,0),.inv [.tmp 6 .int,.tmp 7 .int,.inrow 3 249 (.cons .int .nil)]),((101,4,0),.inv [.tmprow 9 5000003 (.cons .int .nil),.inrow 12 247 (.cons .int .nil)]),((100,3,4),.inv [(.tmp 9 .int),(.inrow 3 249 (.cons .int .nil))]),((101,8,18),.inv [(.tmprow 9 5000003 (.cons .int .nil)),(.tmp 30 .int),(.inrow 12 247 (.cons .int .nil))]),((101,17,22),.inv [(.tmp 7 .int),(.tmp 64 .int)]),((100,3,27),.inv [(.tmp 9 .int),(.inrow 26 249 (.cons .int .nil))]),((102,3,29),.inv [(.tmp 14 .int),(.inrow 26 249 (.cons .int .nil))]),((102,6,31),.inv [(.tmp 17 .int),(.inrow 26 249 (.cons .int .nil))]),((102,13,31),.inv [(.tmprow 8 3 (.cons .int .nil)),(.tmp 47 .int),(.inrow 26 249 (.cons .int .nil))]),((173,1,24),.inv [(.tmp 5 .int),(.cell 22 0 .int)]),((173,1,26),.inv [(.tmp 5 .int),(.inrow 3 249 (.cons .int .nil))]),((101,17,17),.inv [(.tmp 7 .int),(.tmp 64 .int)]),((100,3,22),.inv [(.tmp 9 .int),(.inrow 21 249 (.cons .int .nil))]),((102,3,24),.inv [(.tmp 14 .int),(.inrow 21 249 (.cons .int .nil))]),((102,6,26),.inv [(.tmp 17 .int),(.inrow 21 249 (.cons .int .nil))]),((102,13,26),.inv [(.tmprow 8 3 (.cons .int .nil)),(.tmp 47 .int),(.inrow 21 249 (.cons .int .nil))]),((173,1,19),.inv [(.tmp 5 .int),(.cell 17 0 .int)]),((173,1,21),.inv [(.tmp 5 .int),(.inrow 3 249 (.cons .int .nil))])],Oe,[],aj⟩) aw mf av (fun s fn hf=>by rw[Tryz.func39]at hf;cases hf;kernel_rfl) (fun n s=>by kernel_rfl)
def flow_Max_T:Tab:=(39,flow_Max_t)::flow_CheckFlow_T
theorem wq:flow_Max_T.ok Tryz.prog:=Tab.ok_cons IQ mf
def pT:List Nat:=[12,13,14,15,16,17,18,19,20,21,22,23,24,25,26,27,28,29,30,31,32,33,34,37,38,39,40,43,44,45,46,47,48,49,50,51,52,53,54,55,56,57,58,59,62,66,68,69,70,71,72,73,74,75,76,77,78,84,85,86,87,89,95,105,106,107,108,109,110,111,112,114,115,116,117,120,122,130,132,149,150,152,153,159,176,178,179,180,182,183,184,186,187,193,202,203,204,210,211,1000015,1000016,1000017,1000018,1000019,1000022,1000049,1000050,1000051,1000052,1000053,1000062,2000151,2000152,2000217,2000247,2000248,2000249]
abbrev dX:=Bool
abbrev dF:=Int×Int
def cN(n:Nat)(go0:dF->Option dX)(v0 v1 v2 v3 v4:Lv)(v5 v6 v7 v8 v9 v10 v11 v12 v13 v14:Int)(v15:Bool)(v16:Lv)(v17:Int)(v18:Lv)(v19 v20:Int):Option dX:=
 (bif v20<(v0.length:Int) then bif 0<=v20 then(mv n (cL v0 v20 1)).bind fun y21=>
 (bif !(y21.2.2.2.2.2=0)then some false else bif(-9223372036854775808<=(v19+1))&&((v19+1)<=9223372036854775807)then(bif (v19+1)<=(cI v0 v20 0) then(bif !((cI v0 v20 0)<=99999999)then some false else bif(-9223372036854775808<=(v20+1))&&((v20+1)<=9223372036854775807)then go0 ((cI v0 v20 0),(v20+1))else none)else some false)else none)else none else(bif 10<(v0.length:Int) then some false else(il n v1 v2).bind fun y21=>
 (bif(!y21)then some false else(jQ n v3 v4 v5).bind fun y22=>
 (bif(!y22)then some false else(j4 n v6 v7 v8 v9 v10 v11 v12 v13 v14 v15 v16).bind fun y23=>
 (bif y23 then(gR n v17 v18).bind fun y24=>
 (bif y24 then some (decide (v17=8))else some false)else some false)))))
def rq(n:Nat)(v0 v1 v2 v3 v4:Lv)(v5 v6 v7 v8 v9 v10 v11 v12 v13 v14:Int)(v15:Bool)(v16:Lv)(v17:Int)(v18:Lv):Option dX:=
 (ab (fun go0 s=>cN n go0 v0 v1 v2 v3 v4 v5 v6 v7 v8 v9 v10 v11 v12 v13 v14 v15 v16 v17 v18 s.1 s.2) n (((-1),0):dF))
def fh(n:Nat)(v0 v1 v2 v3 v4:Lv)(v5 v6 v7 v8 v9 v10 v11 v12 v13 v14:Int)(v15:Bool)(v16:Lv)(v17:Int)(v18:Lv):Option dX:=rq n v0 v1 v2 v3 v4 v5 v6 v7 v8 v9 v10 v11 v12 v13 v14 v15 v16 v17 v18
def refusal_Valid_t:FnT:=⟨[(true,[(.sl (.cons .int (.cons tSc .nil))),(.sl (.cons .int (.cons .int (.cons .int (.cons .int (.cons .int .nil)))))),(.sl (.cons .int (.cons .int .nil))),tSa,tSa,.int,.int,.int,.int,.int,.int,.int,.int,.int,.int,.bool,tSc,.int,tSc])],.b,fun n (s:Lv×Lv×Lv×Lv×Lv×Int×Int×Int×Int×Int×Int×Int×Int×Int×Int×Bool×Lv×Int×Lv)=>fh n s.1 s.2.1 s.2.2.1 s.2.2.2.1 s.2.2.2.2.1 s.2.2.2.2.2.1 s.2.2.2.2.2.2.1 s.2.2.2.2.2.2.2.1 s.2.2.2.2.2.2.2.2.1 s.2.2.2.2.2.2.2.2.2.1 s.2.2.2.2.2.2.2.2.2.2.1 s.2.2.2.2.2.2.2.2.2.2.2.1 s.2.2.2.2.2.2.2.2.2.2.2.2.1 s.2.2.2.2.2.2.2.2.2.2.2.2.2.1 s.2.2.2.2.2.2.2.2.2.2.2.2.2.2.1 s.2.2.2.2.2.2.2.2.2.2.2.2.2.2.2.1 s.2.2.2.2.2.2.2.2.2.2.2.2.2.2.2.2.1 s.2.2.2.2.2.2.2.2.2.2.2.2.2.2.2.2.2.1 s.2.2.2.2.2.2.2.2.2.2.2.2.2.2.2.2.2.2⟩
theorem AA:refusal_Valid_t.ok Tryz.prog 25:=FnT.ok_of (cfg:=⟨[((25,3,1),.inv [(.tmp 3 .int),(.tmp 12 .int)])],pT,[],aj⟩) aw wq av (fun s fn hf=>by rw[Tryz.func25]at hf;cases hf;kernel_rfl) (fun n s=>by kernel_rfl)
def refusal_Valid_T:Tab:=(25,refusal_Valid_t)::flow_Max_T
theorem ng:refusal_Valid_T.ok Tryz.prog:=Tab.ok_cons AA wq
abbrev cQ:=Bool
abbrev dC:=Int
def bJ(n:Nat)(go0:dC->Option cQ)(v0:Lv)(v19 v26 v27:Int):Option cQ:=
 (bif v27<(v0.length:Int) then bif 0<=v27 then(bif (cI v0 v27 0)=v26 then(bif v27<0 then some false else(ph n (cL v0 v27 1) v19).bind fun y28=>
 some (decide (y28.1=1)))else bif(-9223372036854775808<=(v27+1))&&((v27+1)<=9223372036854775807)then go0 (v27+1)else none)else none else some false)
def jP(n:Nat)(v0:Lv)(v19 v26:Int):Option cQ:=
 (ab (fun go0 s=>bJ n go0 v0 v19 v26 s) n (0:dC))
def cx(n:Nat)(v0 v1 v2 v3 v4:Lv)(v5 v6 v7 v8 v9 v10 v11 v12 v13 v14:Int)(v15:Bool)(v16:Lv)(v17:Int)(v18:Lv)(v19 v20 v21:Int)(v22 v23 v24:Lv)(v25 v26:Int):Option cQ:=jP n v0 v19 v26
def refusal_call__isHeld_t:FnT:=⟨[(true,[(.sl (.cons .int (.cons tSc .nil))),(.sl (.cons .int (.cons .int (.cons .int (.cons .int (.cons .int .nil)))))),(.sl (.cons .int (.cons .int .nil))),tSa,tSa,.int,.int,.int,.int,.int,.int,.int,.int,.int,.int,.bool,tSc,.int,tSc,.int,.int,.int,tSa,tSa,(.sl (.cons .int (.cons .int .nil))),.int]),(false,[.int])],.b,fun n (s:Lv×Lv×Lv×Lv×Lv×Int×Int×Int×Int×Int×Int×Int×Int×Int×Int×Bool×Lv×Int×Lv×Int×Int×Int×Lv×Lv×Lv×Int×Int)=>cx n s.1 s.2.1 s.2.2.1 s.2.2.2.1 s.2.2.2.2.1 s.2.2.2.2.2.1 s.2.2.2.2.2.2.1 s.2.2.2.2.2.2.2.1 s.2.2.2.2.2.2.2.2.1 s.2.2.2.2.2.2.2.2.2.1 s.2.2.2.2.2.2.2.2.2.2.1 s.2.2.2.2.2.2.2.2.2.2.2.1 s.2.2.2.2.2.2.2.2.2.2.2.2.1 s.2.2.2.2.2.2.2.2.2.2.2.2.2.1 s.2.2.2.2.2.2.2.2.2.2.2.2.2.2.1 s.2.2.2.2.2.2.2.2.2.2.2.2.2.2.2.1 s.2.2.2.2.2.2.2.2.2.2.2.2.2.2.2.2.1 s.2.2.2.2.2.2.2.2.2.2.2.2.2.2.2.2.2.1 s.2.2.2.2.2.2.2.2.2.2.2.2.2.2.2.2.2.2.1 s.2.2.2.2.2.2.2.2.2.2.2.2.2.2.2.2.2.2.2.1 s.2.2.2.2.2.2.2.2.2.2.2.2.2.2.2.2.2.2.2.2.1 s.2.2.2.2.2.2.2.2.2.2.2.2.2.2.2.2.2.2.2.2.2.1 s.2.2.2.2.2.2.2.2.2.2.2.2.2.2.2.2.2.2.2.2.2.2.1 s.2.2.2.2.2.2.2.2.2.2.2.2.2.2.2.2.2.2.2.2.2.2.2.1 s.2.2.2.2.2.2.2.2.2.2.2.2.2.2.2.2.2.2.2.2.2.2.2.2.1 s.2.2.2.2.2.2.2.2.2.2.2.2.2.2.2.2.2.2.2.2.2.2.2.2.2.1 s.2.2.2.2.2.2.2.2.2.2.2.2.2.2.2.2.2.2.2.2.2.2.2.2.2.2⟩
theorem qL:refusal_call__isHeld_t.ok Tryz.prog 132:=FnT.ok_of (cfg:=⟨[((188,2,0),.inv [.tmp 8 .int])],pT,[],aj⟩) aw ng av (fun s fn hf=>by rw[Tryz.func132]at hf;cases hf;kernel_rfl) (fun n s=>by kernel_rfl)
def refusal_call__isHeld_T:Tab:=(132,refusal_call__isHeld_t)::refusal_Valid_T
theorem iK:refusal_call__isHeld_T.ok Tryz.prog:=Tab.ok_cons qL ng
abbrev iw:=Bool
def iz(n:Nat)(v6 v7 v8 v9 v10 v11 v12 v13 v14:Int)(v15:Bool)(v16:Lv)(v19:Int)(v22 v24:Lv):Option iw:=
 (l8 n v6 v7 v8 v9 v10 v11 v12 v13 v14 v15 v16 v19).bind fun y26=>
 bif(-9223372036854775808<=((v24.length:Int)-1))&&(((v24.length:Int)-1)<=9223372036854775807)then bif 0<=((v24.length:Int)-1) then bif ((v24.length:Int)-1)<(v24.length:Int) then(bif (cI v24 ((v24.length:Int)-1) 0)=v11 then bif(-9223372036854775808<=((v22.length:Int)-1))&&(((v22.length:Int)-1)<=9223372036854775807)then bif 0<=((v22.length:Int)-1) then bif ((v22.length:Int)-1)<(v22.length:Int) then(bif v10=(cI v22 ((v22.length:Int)-1) 0) then some (!(decide ((cI v24 ((v24.length:Int)-1) 0)=y26.1)))else some false)else none else none else none else bif(-9223372036854775808<=((v22.length:Int)-1))&&(((v22.length:Int)-1)<=9223372036854775807)then bif 0<=((v22.length:Int)-1) then bif ((v22.length:Int)-1)<(v22.length:Int) then(bif v10=(cI v22 ((v22.length:Int)-1) 0) then(bif (cI v24 ((v24.length:Int)-1) 0)=v12 then some (!(decide ((cI v24 ((v24.length:Int)-1) 0)=y26.1)))else some false)else some false)else none else none else none)else none else none else none
def bb(n:Nat)(v0 v1 v2 v3 v4:Lv)(v5 v6 v7 v8 v9 v10 v11 v12 v13 v14:Int)(v15:Bool)(v16:Lv)(v17:Int)(v18:Lv)(v19 v20 v21:Int)(v22 v23 v24:Lv)(v25:Int):Option iw:=iz n v6 v7 v8 v9 v10 v11 v12 v13 v14 v15 v16 v19 v22 v24
def refusal_call__isUnproved_t:FnT:=⟨[(true,[(.sl (.cons .int (.cons tSc .nil))),(.sl (.cons .int (.cons .int (.cons .int (.cons .int (.cons .int .nil)))))),(.sl (.cons .int (.cons .int .nil))),tSa,tSa,.int,.int,.int,.int,.int,.int,.int,.int,.int,.int,.bool,tSc,.int,tSc,.int,.int,.int,tSa,tSa,(.sl (.cons .int (.cons .int .nil))),.int])],.b,fun n (s:Lv×Lv×Lv×Lv×Lv×Int×Int×Int×Int×Int×Int×Int×Int×Int×Int×Bool×Lv×Int×Lv×Int×Int×Int×Lv×Lv×Lv×Int)=>bb n s.1 s.2.1 s.2.2.1 s.2.2.2.1 s.2.2.2.2.1 s.2.2.2.2.2.1 s.2.2.2.2.2.2.1 s.2.2.2.2.2.2.2.1 s.2.2.2.2.2.2.2.2.1 s.2.2.2.2.2.2.2.2.2.1 s.2.2.2.2.2.2.2.2.2.2.1 s.2.2.2.2.2.2.2.2.2.2.2.1 s.2.2.2.2.2.2.2.2.2.2.2.2.1 s.2.2.2.2.2.2.2.2.2.2.2.2.2.1 s.2.2.2.2.2.2.2.2.2.2.2.2.2.2.1 s.2.2.2.2.2.2.2.2.2.2.2.2.2.2.2.1 s.2.2.2.2.2.2.2.2.2.2.2.2.2.2.2.2.1 s.2.2.2.2.2.2.2.2.2.2.2.2.2.2.2.2.2.1 s.2.2.2.2.2.2.2.2.2.2.2.2.2.2.2.2.2.2.1 s.2.2.2.2.2.2.2.2.2.2.2.2.2.2.2.2.2.2.2.1 s.2.2.2.2.2.2.2.2.2.2.2.2.2.2.2.2.2.2.2.2.1 s.2.2.2.2.2.2.2.2.2.2.2.2.2.2.2.2.2.2.2.2.2.1 s.2.2.2.2.2.2.2.2.2.2.2.2.2.2.2.2.2.2.2.2.2.2.1 s.2.2.2.2.2.2.2.2.2.2.2.2.2.2.2.2.2.2.2.2.2.2.2.1 s.2.2.2.2.2.2.2.2.2.2.2.2.2.2.2.2.2.2.2.2.2.2.2.2.1 s.2.2.2.2.2.2.2.2.2.2.2.2.2.2.2.2.2.2.2.2.2.2.2.2.2⟩
theorem nM:refusal_call__isUnproved_t.ok Tryz.prog 130:=FnT.ok_of (cfg:=⟨[],pT,[],aj⟩) aw iK av (fun s fn hf=>by rw[Tryz.func130]at hf;cases hf;kernel_rfl) (fun n s=>by kernel_rfl)
def refusal_call__isUnproved_T:Tab:=(130,refusal_call__isUnproved_t)::refusal_call__isHeld_T
theorem ga:refusal_call__isUnproved_T.ok Tryz.prog:=Tab.ok_cons nM iK
abbrev bW:=Lv×Lv×Lv×Lv×Lv×Int×Int×Int×Int×Int×Int×Int×Int×Int×Int×Bool×Lv×Int×Lv×Int×Int×Int×Lv×Lv×Lv×Int×Bool
def qx(n:Nat)(v0 v1 v2 v3 v4:Lv)(v5 v6 v7 v8 v9 v10 v11 v12 v13 v14:Int)(v15:Bool)(v16:Lv)(v17:Int)(v18:Lv)(v19 v20 v21:Int):Option bW:=
 (bif !(v20<=10000000)then some (([]:Lv),([]:Lv),([]:Lv),([]:Lv),([]:Lv),0,0,0,0,0,0,0,0,0,0,false,([]:Lv),0,([]:Lv),0,0,0,([]:Lv),([]:Lv),([]:Lv),0,false)else(bif 0<=v21 then(bif !(v21<=7)then some (([]:Lv),([]:Lv),([]:Lv),([]:Lv),([]:Lv),0,0,0,0,0,0,0,0,0,0,false,([]:Lv),0,([]:Lv),0,0,0,([]:Lv),([]:Lv),([]:Lv),0,false)else bif v21<(v4.length:Int) then(bif (cI v4 v21 0)<0 then some (([]:Lv),([]:Lv),([]:Lv),([]:Lv),([]:Lv),0,0,0,0,0,0,0,0,0,0,false,([]:Lv),0,([]:Lv),0,0,0,([]:Lv),([]:Lv),([]:Lv),0,false)else(fF n v1 v2 v19 v20).bind fun y23=>
 (oX n v3 v4 v5 v21).bind fun y27=>
 some (v0,v1,v2,v3,v4,v5,v6,v7,v8,v9,v10,v11,v12,v13,v14,v15,v16,v17,v18,v20,v21,y23.1,y23.2.1,y23.2.2.1,y27.1,y27.2.1,true))else none)else some (([]:Lv),([]:Lv),([]:Lv),([]:Lv),([]:Lv),0,0,0,0,0,0,0,0,0,0,false,([]:Lv),0,([]:Lv),0,0,0,([]:Lv),([]:Lv),([]:Lv),0,false)))
def pR(n:Nat)(v0 v1 v2 v3 v4:Lv)(v5 v6 v7 v8 v9 v10 v11 v12 v13 v14:Int)(v15:Bool)(v16:Lv)(v17:Int)(v18:Lv)(v19 v20 v21:Int):Option bW:=
 (bif 0<=v20 then qx n v0 v1 v2 v3 v4 v5 v6 v7 v8 v9 v10 v11 v12 v13 v14 v15 v16 v17 v18 v19 v20 v21 else some (([]:Lv),([]:Lv),([]:Lv),([]:Lv),([]:Lv),0,0,0,0,0,0,0,0,0,0,false,([]:Lv),0,([]:Lv),0,0,0,([]:Lv),([]:Lv),([]:Lv),0,false))
def qw(n:Nat)(v0 v1 v2 v3 v4:Lv)(v5 v6 v7 v8 v9 v10 v11 v12 v13 v14:Int)(v15:Bool)(v16:Lv)(v17:Int)(v18:Lv)(v19 v20 v21:Int):Option bW:=
 (bif !(v19<=99999999)then some (([]:Lv),([]:Lv),([]:Lv),([]:Lv),([]:Lv),0,0,0,0,0,0,0,0,0,0,false,([]:Lv),0,([]:Lv),0,0,0,([]:Lv),([]:Lv),([]:Lv),0,false)else pR n v0 v1 v2 v3 v4 v5 v6 v7 v8 v9 v10 v11 v12 v13 v14 v15 v16 v17 v18 v19 v20 v21)
def pA(n:Nat)(v0 v1 v2 v3 v4:Lv)(v5 v6 v7 v8 v9 v10 v11 v12 v13 v14:Int)(v15:Bool)(v16:Lv)(v17:Int)(v18:Lv)(v19 v20 v21:Int):Option bW:=
 (bif 0<=v19 then qw n v0 v1 v2 v3 v4 v5 v6 v7 v8 v9 v10 v11 v12 v13 v14 v15 v16 v17 v18 v19 v20 v21 else some (([]:Lv),([]:Lv),([]:Lv),([]:Lv),([]:Lv),0,0,0,0,0,0,0,0,0,0,false,([]:Lv),0,([]:Lv),0,0,0,([]:Lv),([]:Lv),([]:Lv),0,false))
def qk(n:Nat)(v0 v1 v2 v3 v4:Lv)(v5 v6 v7 v8 v9 v10 v11 v12 v13 v14:Int)(v15:Bool)(v16:Lv)(v17:Int)(v18:Lv)(v19 v20 v21:Int)(v22:Bool):Option bW:=
 (bif(!v22)then some (([]:Lv),([]:Lv),([]:Lv),([]:Lv),([]:Lv),0,0,0,0,0,0,0,0,0,0,false,([]:Lv),0,([]:Lv),0,0,0,([]:Lv),([]:Lv),([]:Lv),0,false)else pA n v0 v1 v2 v3 v4 v5 v6 v7 v8 v9 v10 v11 v12 v13 v14 v15 v16 v17 v18 v19 v20 v21)
def qf(n:Nat)(v0 v1 v2 v3 v4:Lv)(v5 v6 v7 v8 v9 v10 v11 v12 v13 v14:Int)(v15:Bool)(v16:Lv)(v17:Int)(v18:Lv)(v19 v20 v21:Int):Option bW:=
 (fh n v0 v1 v2 v3 v4 v5 v6 v7 v8 v9 v10 v11 v12 v13 v14 v15 v16 v17 v18).bind fun y22=>
 qk n v0 v1 v2 v3 v4 v5 v6 v7 v8 v9 v10 v11 v12 v13 v14 v15 v16 v17 v18 v19 v20 v21 y22
def eH(n:Nat)(v0 v1 v2 v3 v4:Lv)(v5 v6 v7 v8 v9 v10 v11 v12 v13 v14:Int)(v15:Bool)(v16:Lv)(v17:Int)(v18:Lv)(v19 v20 v21:Int):Option bW:=qf n v0 v1 v2 v3 v4 v5 v6 v7 v8 v9 v10 v11 v12 v13 v14 v15 v16 v17 v18 v19 v20 v21
def refusal_callOf_t:FnT:=⟨[(true,[(.sl (.cons .int (.cons tSc .nil))),(.sl (.cons .int (.cons .int (.cons .int (.cons .int (.cons .int .nil)))))),(.sl (.cons .int (.cons .int .nil))),tSa,tSa,.int,.int,.int,.int,.int,.int,.int,.int,.int,.int,.bool,tSc,.int,tSc]),(false,[.int]),(false,[.int]),(false,[.int])],(.tup (.cons (.agg (.cons (.row 1000080 (.cons .int (.cons tSc .nil))) (.cons (.row 1000162 (.cons .int (.cons .int (.cons .int (.cons .int (.cons .int .nil)))))) (.cons (.row 1000198 (.cons .int (.cons .int .nil))) (.cons (.row 1000003 (.cons .int .nil)) (.cons (.row 1000003 (.cons .int .nil)) (.cons .i (.cons .i (.cons .i (.cons .i (.cons .i (.cons .i (.cons .i (.cons .i (.cons .i (.cons .i (.cons .b (.cons (.row 1000166 (.cons .int (.cons .int (.cons .int .nil)))) (.cons .i (.cons (.row 1000073 (.cons .int (.cons .int (.cons .int .nil)))) (.cons .i (.cons .i (.cons .i (.cons (.row 1000003 (.cons .int .nil)) (.cons (.row 1000003 (.cons .int .nil)) (.cons (.row 1000094 (.cons .int (.cons .int .nil))) (.cons .i .nil))))))))))))))))))))))))))) (.cons .b .nil))),fun n (s:Lv×Lv×Lv×Lv×Lv×Int×Int×Int×Int×Int×Int×Int×Int×Int×Int×Bool×Lv×Int×Lv×Int×Int×Int)=>eH n s.1 s.2.1 s.2.2.1 s.2.2.2.1 s.2.2.2.2.1 s.2.2.2.2.2.1 s.2.2.2.2.2.2.1 s.2.2.2.2.2.2.2.1 s.2.2.2.2.2.2.2.2.1 s.2.2.2.2.2.2.2.2.2.1 s.2.2.2.2.2.2.2.2.2.2.1 s.2.2.2.2.2.2.2.2.2.2.2.1 s.2.2.2.2.2.2.2.2.2.2.2.2.1 s.2.2.2.2.2.2.2.2.2.2.2.2.2.1 s.2.2.2.2.2.2.2.2.2.2.2.2.2.2.1 s.2.2.2.2.2.2.2.2.2.2.2.2.2.2.2.1 s.2.2.2.2.2.2.2.2.2.2.2.2.2.2.2.2.1 s.2.2.2.2.2.2.2.2.2.2.2.2.2.2.2.2.2.1 s.2.2.2.2.2.2.2.2.2.2.2.2.2.2.2.2.2.2.1 s.2.2.2.2.2.2.2.2.2.2.2.2.2.2.2.2.2.2.2.1 s.2.2.2.2.2.2.2.2.2.2.2.2.2.2.2.2.2.2.2.2.1 s.2.2.2.2.2.2.2.2.2.2.2.2.2.2.2.2.2.2.2.2.2⟩
theorem zF:refusal_callOf_t.ok Tryz.prog 52:=FnT.ok_of (cfg:=⟨[],pT,[],aj⟩) aw ga av (fun s fn hf=>by rw[Tryz.func52]at hf;cases hf;kernel_rfl) (fun n s=>by kernel_rfl)
def refusal_callOf_T:Tab:=(52,refusal_callOf_t)::refusal_call__isUnproved_T
theorem mc:refusal_callOf_T.ok Tryz.prog:=Tab.ok_cons zF ga
abbrev ae:=Int×Int×Int×Lv×Lv×Lv×Int×Bool
abbrev ak:=Int
def tw(n:Nat)(go0:ak->Option ae)(go1:ak->Option ae)(v0 v1 v2 v3 v4:Lv)(v5 v6 v7 v8 v9 v10 v11 v12 v13 v14:Int)(v15:Bool)(v16:Lv)(v17:Int)(v18:Lv)(v19 v20 v21:Int)(v22 v23 v24:Lv)(v25:Int):Option ae:=
 (bif 2<=v21 then(bif v21<=4 then some (3,0,v21,v22,v23,([]:Lv),0,true)else(bif v25=2 then some (4,0,0,([]:Lv),([]:Lv),v24,0,true)else(bif v25=3 then some (5,0,0,([]:Lv),([]:Lv),v24,0,true)else(bif v25=1 then(bb n v0 v1 v2 v3 v4 v5 v6 v7 v8 v9 v10 v11 v12 v13 v14 v15 v16 v17 v18 v19 v20 v21 v22 v23 v24 v25).bind fun y29=>
 (bif y29 then some (6,0,0,([]:Lv),([]:Lv),v24,0,true)else bif(-9223372036854775808<=((v24.length:Int)-1))&&(((v24.length:Int)-1)<=9223372036854775807)then bif 0<=((v24.length:Int)-1) then bif ((v24.length:Int)-1)<(v24.length:Int) then(bif (cI v24 ((v24.length:Int)-1) 0)=v20 then some (0,0,0,([]:Lv),([]:Lv),([]:Lv),0,false)else(fY n v17 v18 v20 (cI v24 ((v24.length:Int)-1) 0)).bind fun y30=>
 (a8 n v17 v18 v20 (cI v24 ((v24.length:Int)-1) 0) y30.2.1).bind fun y33=>
 (bif y33.1=0 then some (7,0,0,([]:Lv),([]:Lv),v24,y30.2.1,true)else some (0,0,0,([]:Lv),([]:Lv),([]:Lv),0,false)))else none else none else none)else some (0,0,0,([]:Lv),([]:Lv),([]:Lv),0,false)))))else(bif v25=2 then some (4,0,0,([]:Lv),([]:Lv),v24,0,true)else(bif v25=3 then some (5,0,0,([]:Lv),([]:Lv),v24,0,true)else(bif v25=1 then(bb n v0 v1 v2 v3 v4 v5 v6 v7 v8 v9 v10 v11 v12 v13 v14 v15 v16 v17 v18 v19 v20 v21 v22 v23 v24 v25).bind fun y29=>
 (bif y29 then some (6,0,0,([]:Lv),([]:Lv),v24,0,true)else bif(-9223372036854775808<=((v24.length:Int)-1))&&(((v24.length:Int)-1)<=9223372036854775807)then bif 0<=((v24.length:Int)-1) then bif ((v24.length:Int)-1)<(v24.length:Int) then(bif (cI v24 ((v24.length:Int)-1) 0)=v20 then some (0,0,0,([]:Lv),([]:Lv),([]:Lv),0,false)else(fY n v17 v18 v20 (cI v24 ((v24.length:Int)-1) 0)).bind fun y30=>
 (a8 n v17 v18 v20 (cI v24 ((v24.length:Int)-1) 0) y30.2.1).bind fun y33=>
 (bif y33.1=0 then some (7,0,0,([]:Lv),([]:Lv),v24,y30.2.1,true)else some (0,0,0,([]:Lv),([]:Lv),([]:Lv),0,false)))else none else none else none)else some (0,0,0,([]:Lv),([]:Lv),([]:Lv),0,false)))))
def tp(n:Nat)(go0:ak->Option ae)(go1:ak->Option ae)(v0 v1 v2 v3 v4:Lv)(v5 v6 v7 v8 v9 v10 v11 v12 v13 v14:Int)(v15:Bool)(v16:Lv)(v17:Int)(v18:Lv)(v19 v20 v21:Int)(v22 v23 v24:Lv)(v25:Int):Option ae:=
 (bif v21=6 then some (2,0,v21,v22,v23,([]:Lv),0,true)else tw n go0 go1 v0 v1 v2 v3 v4 v5 v6 v7 v8 v9 v10 v11 v12 v13 v14 v15 v16 v17 v18 v19 v20 v21 v22 v23 v24 v25)
def sJ(n:Nat)(go0:ak->Option ae)(go1:ak->Option ae)(v0 v1 v2 v3 v4:Lv)(v5 v6 v7 v8 v9 v10 v11 v12 v13 v14:Int)(v15:Bool)(v16:Lv)(v17:Int)(v18:Lv)(v19 v20 v21:Int)(v22 v23 v24:Lv)(v25:Int):Option ae:=
 (bif v21=5 then some (2,0,v21,v22,v23,([]:Lv),0,true)else tp n go0 go1 v0 v1 v2 v3 v4 v5 v6 v7 v8 v9 v10 v11 v12 v13 v14 v15 v16 v17 v18 v19 v20 v21 v22 v23 v24 v25)
def j6(n:Nat)(go0:ak->Option ae)(go1:ak->Option ae)(v0 v1 v2 v3 v4:Lv)(v5 v6 v7 v8 v9 v10 v11 v12 v13 v14:Int)(v15:Bool)(v16:Lv)(v17:Int)(v18:Lv)(v19 v20 v21:Int)(v22 v23 v24:Lv)(v25 v26:Int):Option ae:=
 (bif v26<0 then sJ n go0 go1 v0 v1 v2 v3 v4 v5 v6 v7 v8 v9 v10 v11 v12 v13 v14 v15 v16 v17 v18 v19 v20 v21 v22 v23 v24 v25 else some (1,(cI v22 v26 0),0,([]:Lv),([]:Lv),([]:Lv),0,true))
def jS(n:Nat)(go0:ak->Option ae)(go1:ak->Option ae)(v0 v1 v2 v3 v4:Lv)(v5 v6 v7 v8 v9 v10 v11 v12 v13 v14:Int)(v15:Bool)(v16:Lv)(v17:Int)(v18:Lv)(v19 v20 v21:Int)(v22 v23 v24:Lv)(v25 v26:Int)(v28:Bool):Option ae:=
 (bif(!v28)then j6 n go0 go1 v0 v1 v2 v3 v4 v5 v6 v7 v8 v9 v10 v11 v12 v13 v14 v15 v16 v17 v18 v19 v20 v21 v22 v23 v24 v25 v26 else bif(-9223372036854775808<=(v26+1))&&((v26+1)<=9223372036854775807)then go0 (v26+1)else none)
def fQ(n:Nat)(go0:ak->Option ae)(go1:ak->Option ae)(v0 v1 v2 v3 v4:Lv)(v5 v6 v7 v8 v9 v10 v11 v12 v13 v14:Int)(v15:Bool)(v16:Lv)(v17:Int)(v18:Lv)(v19 v20 v21:Int)(v22 v23 v24:Lv)(v25 v26 v27:Int):Option ae:=
 (bif (cI v22 v26 0)=(cI v22 v27 0) then(cx n v0 v1 v2 v3 v4 v5 v6 v7 v8 v9 v10 v11 v12 v13 v14 v15 v16 v17 v18 v19 v20 v21 v22 v23 v24 v25 (cI v22 v26 0)).bind fun y28=>
 jS n go0 go1 v0 v1 v2 v3 v4 v5 v6 v7 v8 v9 v10 v11 v12 v13 v14 v15 v16 v17 v18 v19 v20 v21 v22 v23 v24 v25 v26 y28 else bif(-9223372036854775808<=(v27+1))&&((v27+1)<=9223372036854775807)then go1 (v27+1)else none)
def bI(n:Nat)(go0:ak->Option ae)(go1:ak->Option ae)(v0 v1 v2 v3 v4:Lv)(v5 v6 v7 v8 v9 v10 v11 v12 v13 v14:Int)(v15:Bool)(v16:Lv)(v17:Int)(v18:Lv)(v19 v20 v21:Int)(v22 v23 v24:Lv)(v25 v26 v27:Int):Option ae:=
 (bif v27<(v22.length:Int) then bif 0<=v27 then fQ n go0 go1 v0 v1 v2 v3 v4 v5 v6 v7 v8 v9 v10 v11 v12 v13 v14 v15 v16 v17 v18 v19 v20 v21 v22 v23 v24 v25 v26 v27 else none else bif(-9223372036854775808<=(v26+1))&&((v26+1)<=9223372036854775807)then go0 (v26+1)else none)
def jH(n:Nat)(go0:ak->Option ae)(v0 v1 v2 v3 v4:Lv)(v5 v6 v7 v8 v9 v10 v11 v12 v13 v14:Int)(v15:Bool)(v16:Lv)(v17:Int)(v18:Lv)(v19 v20 v21:Int)(v22 v23 v24:Lv)(v25:Int):Option ae:=
 (bif 2<=v21 then(bif v21<=4 then some (3,0,v21,v22,v23,([]:Lv),0,true)else(bif v25=2 then some (4,0,0,([]:Lv),([]:Lv),v24,0,true)else(bif v25=3 then some (5,0,0,([]:Lv),([]:Lv),v24,0,true)else(bif v25=1 then(bb n v0 v1 v2 v3 v4 v5 v6 v7 v8 v9 v10 v11 v12 v13 v14 v15 v16 v17 v18 v19 v20 v21 v22 v23 v24 v25).bind fun y27=>
 (bif y27 then some (6,0,0,([]:Lv),([]:Lv),v24,0,true)else bif(-9223372036854775808<=((v24.length:Int)-1))&&(((v24.length:Int)-1)<=9223372036854775807)then bif 0<=((v24.length:Int)-1) then bif ((v24.length:Int)-1)<(v24.length:Int) then(bif (cI v24 ((v24.length:Int)-1) 0)=v20 then some (0,0,0,([]:Lv),([]:Lv),([]:Lv),0,false)else(fY n v17 v18 v20 (cI v24 ((v24.length:Int)-1) 0)).bind fun y28=>
 (a8 n v17 v18 v20 (cI v24 ((v24.length:Int)-1) 0) y28.2.1).bind fun y31=>
 (bif y31.1=0 then some (7,0,0,([]:Lv),([]:Lv),v24,y28.2.1,true)else some (0,0,0,([]:Lv),([]:Lv),([]:Lv),0,false)))else none else none else none)else some (0,0,0,([]:Lv),([]:Lv),([]:Lv),0,false)))))else(bif v25=2 then some (4,0,0,([]:Lv),([]:Lv),v24,0,true)else(bif v25=3 then some (5,0,0,([]:Lv),([]:Lv),v24,0,true)else(bif v25=1 then(bb n v0 v1 v2 v3 v4 v5 v6 v7 v8 v9 v10 v11 v12 v13 v14 v15 v16 v17 v18 v19 v20 v21 v22 v23 v24 v25).bind fun y27=>
 (bif y27 then some (6,0,0,([]:Lv),([]:Lv),v24,0,true)else bif(-9223372036854775808<=((v24.length:Int)-1))&&(((v24.length:Int)-1)<=9223372036854775807)then bif 0<=((v24.length:Int)-1) then bif ((v24.length:Int)-1)<(v24.length:Int) then(bif (cI v24 ((v24.length:Int)-1) 0)=v20 then some (0,0,0,([]:Lv),([]:Lv),([]:Lv),0,false)else(fY n v17 v18 v20 (cI v24 ((v24.length:Int)-1) 0)).bind fun y28=>
 (a8 n v17 v18 v20 (cI v24 ((v24.length:Int)-1) 0) y28.2.1).bind fun y31=>
 (bif y31.1=0 then some (7,0,0,([]:Lv),([]:Lv),v24,y28.2.1,true)else some (0,0,0,([]:Lv),([]:Lv),([]:Lv),0,false)))else none else none else none)else some (0,0,0,([]:Lv),([]:Lv),([]:Lv),0,false)))))
def jI(n:Nat)(go0:ak->Option ae)(v0 v1 v2 v3 v4:Lv)(v5 v6 v7 v8 v9 v10 v11 v12 v13 v14:Int)(v15:Bool)(v16:Lv)(v17:Int)(v18:Lv)(v19 v20 v21:Int)(v22 v23 v24:Lv)(v25:Int):Option ae:=
 (bif v21=6 then some (2,0,v21,v22,v23,([]:Lv),0,true)else jH n go0 v0 v1 v2 v3 v4 v5 v6 v7 v8 v9 v10 v11 v12 v13 v14 v15 v16 v17 v18 v19 v20 v21 v22 v23 v24 v25)
def e9(n:Nat)(go0:ak->Option ae)(v0 v1 v2 v3 v4:Lv)(v5 v6 v7 v8 v9 v10 v11 v12 v13 v14:Int)(v15:Bool)(v16:Lv)(v17:Int)(v18:Lv)(v19 v20 v21:Int)(v22 v23 v24:Lv)(v25:Int):Option ae:=
 (bif v21=5 then some (2,0,v21,v22,v23,([]:Lv),0,true)else jI n go0 v0 v1 v2 v3 v4 v5 v6 v7 v8 v9 v10 v11 v12 v13 v14 v15 v16 v17 v18 v19 v20 v21 v22 v23 v24 v25)
def bH(n:Nat)(go0:ak->Option ae)(v0 v1 v2 v3 v4:Lv)(v5 v6 v7 v8 v9 v10 v11 v12 v13 v14:Int)(v15:Bool)(v16:Lv)(v17:Int)(v18:Lv)(v19 v20 v21:Int)(v22 v23 v24:Lv)(v25 v26:Int):Option ae:=
 (bif v26<(v22.length:Int) then bif 0<=v26 then(ab (fun go1 s=>bI n go0 go1 v0 v1 v2 v3 v4 v5 v6 v7 v8 v9 v10 v11 v12 v13 v14 v15 v16 v17 v18 v19 v20 v21 v22 v23 v24 v25 v26 s) n (0:ak))else none else e9 n go0 v0 v1 v2 v3 v4 v5 v6 v7 v8 v9 v10 v11 v12 v13 v14 v15 v16 v17 v18 v19 v20 v21 v22 v23 v24 v25)
def jR(n:Nat)(v0 v1 v2 v3 v4:Lv)(v5 v6 v7 v8 v9 v10 v11 v12 v13 v14:Int)(v15:Bool)(v16:Lv)(v17:Int)(v18:Lv)(v19 v20 v21:Int)(v22 v23 v24:Lv)(v25:Int):Option ae:=
 (ab (fun go0 s=>bH n go0 v0 v1 v2 v3 v4 v5 v6 v7 v8 v9 v10 v11 v12 v13 v14 v15 v16 v17 v18 v19 v20 v21 v22 v23 v24 v25 s) n (0:ak))
def dt(n:Nat)(v0 v1 v2 v3 v4:Lv)(v5 v6 v7 v8 v9 v10 v11 v12 v13 v14:Int)(v15:Bool)(v16:Lv)(v17:Int)(v18:Lv)(v19 v20 v21:Int)(v22 v23 v24:Lv)(v25:Int):Option ae:=jR n v0 v1 v2 v3 v4 v5 v6 v7 v8 v9 v10 v11 v12 v13 v14 v15 v16 v17 v18 v19 v20 v21 v22 v23 v24 v25
def refusal_call__refuse_t:FnT:=⟨[(true,[(.sl (.cons .int (.cons tSc .nil))),(.sl (.cons .int (.cons .int (.cons .int (.cons .int (.cons .int .nil)))))),(.sl (.cons .int (.cons .int .nil))),tSa,tSa,.int,.int,.int,.int,.int,.int,.int,.int,.int,.int,.bool,tSc,.int,tSc,.int,.int,.int,tSa,tSa,(.sl (.cons .int (.cons .int .nil))),.int])],(.tup (.cons (.agg (.cons .i (.cons .i (.cons .i (.cons (.row 1000003 (.cons .int .nil)) (.cons (.row 1000003 (.cons .int .nil)) (.cons (.row 1000094 (.cons .int (.cons .int .nil))) (.cons .i .nil)))))))) (.cons .b .nil))),fun n (s:Lv×Lv×Lv×Lv×Lv×Int×Int×Int×Int×Int×Int×Int×Int×Int×Int×Bool×Lv×Int×Lv×Int×Int×Int×Lv×Lv×Lv×Int)=>dt n s.1 s.2.1 s.2.2.1 s.2.2.2.1 s.2.2.2.2.1 s.2.2.2.2.2.1 s.2.2.2.2.2.2.1 s.2.2.2.2.2.2.2.1 s.2.2.2.2.2.2.2.2.1 s.2.2.2.2.2.2.2.2.2.1 s.2.2.2.2.2.2.2.2.2.2.1 s.2.2.2.2.2.2.2.2.2.2.2.1 s.2.2.2.2.2.2.2.2.2.2.2.2.1 s.2.2.2.2.2.2.2.2.2.2.2.2.2.1 s.2.2.2.2.2.2.2.2.2.2.2.2.2.2.1 s.2.2.2.2.2.2.2.2.2.2.2.2.2.2.2.1 s.2.2.2.2.2.2.2.2.2.2.2.2.2.2.2.2.1 s.2.2.2.2.2.2.2.2.2.2.2.2.2.2.2.2.2.1 s.2.2.2.2.2.2.2.2.2.2.2.2.2.2.2.2.2.2.1 s.2.2.2.2.2.2.2.2.2.2.2.2.2.2.2.2.2.2.2.1 s.2.2.2.2.2.2.2.2.2.2.2.2.2.2.2.2.2.2.2.2.1 s.2.2.2.2.2.2.2.2.2.2.2.2.2.2.2.2.2.2.2.2.2.1 s.2.2.2.2.2.2.2.2.2.2.2.2.2.2.2.2.2.2.2.2.2.2.1 s.2.2.2.2.2.2.2.2.2.2.2.2.2.2.2.2.2.2.2.2.2.2.2.1 s.2.2.2.2.2.2.2.2.2.2.2.2.2.2.2.2.2.2.2.2.2.2.2.2.1 s.2.2.2.2.2.2.2.2.2.2.2.2.2.2.2.2.2.2.2.2.2.2.2.2.2⟩
theorem qK:refusal_call__refuse_t.ok Tryz.prog 53:=FnT.ok_of (cfg:=⟨[((53,2,0),.unroll 8),((124,2,0),.inv [.tmp 8 .int]),((188,2,0),.inv [.tmp 8 .int]),((158,2,0),.inv [.tmp 8 .int])],pT,[],aj⟩) aw mc av (fun s fn hf=>by rw[Tryz.func53]at hf;cases hf;kernel_rfl) (fun n s=>by kernel_rfl)
def refusal_call__refuse_T:Tab:=(53,refusal_call__refuse_t)::refusal_callOf_T
theorem iM:refusal_call__refuse_T.ok Tryz.prog:=Tab.ok_cons qK mc
abbrev kD:=Int×Int×Int×Lv×Lv×Lv×Int×Bool×Int
def qn(n:Nat)(v0 v1 v2 v3 v4:Lv)(v5 v6 v7 v8 v9 v10 v11 v12 v13 v14:Int)(v15:Bool)(v16:Lv)(v17:Int)(v18:Lv)(v19 v20 v21:Int):Option kD:=
 (eH n v0 v1 v2 v3 v4 v5 v6 v7 v8 v9 v10 v11 v12 v13 v14 v15 v16 v17 v18 v19 v20 v21).bind fun y22=>
 (bif(!y22.2.2.2.2.2.2.2.2.2.2.2.2.2.2.2.2.2.2.2.2.2.2.2.2.2.2)then some (0,0,0,([]:Lv),([]:Lv),([]:Lv),0,false,280)else(dt n y22.1 y22.2.1 y22.2.2.1 y22.2.2.2.1 y22.2.2.2.2.1 y22.2.2.2.2.2.1 y22.2.2.2.2.2.2.1 y22.2.2.2.2.2.2.2.1 y22.2.2.2.2.2.2.2.2.1 y22.2.2.2.2.2.2.2.2.2.1 y22.2.2.2.2.2.2.2.2.2.2.1 y22.2.2.2.2.2.2.2.2.2.2.2.1 y22.2.2.2.2.2.2.2.2.2.2.2.2.1 y22.2.2.2.2.2.2.2.2.2.2.2.2.2.1 y22.2.2.2.2.2.2.2.2.2.2.2.2.2.2.1 y22.2.2.2.2.2.2.2.2.2.2.2.2.2.2.2.1 y22.2.2.2.2.2.2.2.2.2.2.2.2.2.2.2.2.1 y22.2.2.2.2.2.2.2.2.2.2.2.2.2.2.2.2.2.1 y22.2.2.2.2.2.2.2.2.2.2.2.2.2.2.2.2.2.2.1 y22.2.2.2.2.2.2.2.2.2.2.2.2.2.2.2.2.2.2.2.1 y22.2.2.2.2.2.2.2.2.2.2.2.2.2.2.2.2.2.2.2.2.1 y22.2.2.2.2.2.2.2.2.2.2.2.2.2.2.2.2.2.2.2.2.2.1 y22.2.2.2.2.2.2.2.2.2.2.2.2.2.2.2.2.2.2.2.2.2.2.1 y22.2.2.2.2.2.2.2.2.2.2.2.2.2.2.2.2.2.2.2.2.2.2.2.1 y22.2.2.2.2.2.2.2.2.2.2.2.2.2.2.2.2.2.2.2.2.2.2.2.2.1 y22.2.2.2.2.2.2.2.2.2.2.2.2.2.2.2.2.2.2.2.2.2.2.2.2.2.1).bind fun y49=>
 some (y49.1,y49.2.1,y49.2.2.1,y49.2.2.2.1,y49.2.2.2.2.1,y49.2.2.2.2.2.1,y49.2.2.2.2.2.2.1,y49.2.2.2.2.2.2.2,0))
def eK(n:Nat)(v0 v1 v2 v3 v4:Lv)(v5 v6 v7 v8 v9 v10 v11 v12 v13 v14:Int)(v15:Bool)(v16:Lv)(v17:Int)(v18:Lv)(v19 v20 v21:Int):Option kD:=qn n v0 v1 v2 v3 v4 v5 v6 v7 v8 v9 v10 v11 v12 v13 v14 v15 v16 v17 v18 v19 v20 v21
def refusal_Refuse_t:FnT:=⟨[(true,[(.sl (.cons .int (.cons tSc .nil))),(.sl (.cons .int (.cons .int (.cons .int (.cons .int (.cons .int .nil)))))),(.sl (.cons .int (.cons .int .nil))),tSa,tSa,.int,.int,.int,.int,.int,.int,.int,.int,.int,.int,.bool,tSc,.int,tSc]),(false,[.int]),(false,[.int]),(false,[.int])],(.tup (.cons (.agg (.cons .i (.cons .i (.cons .i (.cons (.row 1000003 (.cons .int .nil)) (.cons (.row 1000003 (.cons .int .nil)) (.cons (.row 1000094 (.cons .int (.cons .int .nil))) (.cons .i .nil)))))))) (.cons .b (.cons .i .nil)))),fun n (s:Lv×Lv×Lv×Lv×Lv×Int×Int×Int×Int×Int×Int×Int×Int×Int×Int×Bool×Lv×Int×Lv×Int×Int×Int)=>eK n s.1 s.2.1 s.2.2.1 s.2.2.2.1 s.2.2.2.2.1 s.2.2.2.2.2.1 s.2.2.2.2.2.2.1 s.2.2.2.2.2.2.2.1 s.2.2.2.2.2.2.2.2.1 s.2.2.2.2.2.2.2.2.2.1 s.2.2.2.2.2.2.2.2.2.2.1 s.2.2.2.2.2.2.2.2.2.2.2.1 s.2.2.2.2.2.2.2.2.2.2.2.2.1 s.2.2.2.2.2.2.2.2.2.2.2.2.2.1 s.2.2.2.2.2.2.2.2.2.2.2.2.2.2.1 s.2.2.2.2.2.2.2.2.2.2.2.2.2.2.2.1 s.2.2.2.2.2.2.2.2.2.2.2.2.2.2.2.2.1 s.2.2.2.2.2.2.2.2.2.2.2.2.2.2.2.2.2.1 s.2.2.2.2.2.2.2.2.2.2.2.2.2.2.2.2.2.2.1 s.2.2.2.2.2.2.2.2.2.2.2.2.2.2.2.2.2.2.2.1 s.2.2.2.2.2.2.2.2.2.2.2.2.2.2.2.2.2.2.2.2.1 s.2.2.2.2.2.2.2.2.2.2.2.2.2.2.2.2.2.2.2.2.2⟩
theorem zI:refusal_Refuse_t.ok Tryz.prog 16:=FnT.ok_of (cfg:=⟨[],aH,[],aj⟩) aw iM av (fun s fn hf=>by rw[Tryz.func16]at hf;cases hf;kernel_rfl) (fun n s=>by kernel_rfl)
def refusal_Refuse_T:Tab:=(16,refusal_Refuse_t)::refusal_call__refuse_T
theorem mm:refusal_Refuse_T.ok Tryz.prog:=Tab.ok_cons zI iM
abbrev jq:=Int×Int×Int×Lv×Lv×Lv×Bool×Int
def uD(n:Nat)(v0 v1 v2 v3 v4:Lv)(v5 v6 v7 v8 v9 v10 v11 v12 v13 v14:Int)(v15:Bool)(v16:Lv)(v17:Int)(v18:Lv)(v19 v20 v21:Int):Option jq:=
 (eH n v0 v1 v2 v3 v4 v5 v6 v7 v8 v9 v10 v11 v12 v13 v14 v15 v16 v17 v18 v19 v20 v21).bind fun y22=>
 (bif(!y22.2.2.2.2.2.2.2.2.2.2.2.2.2.2.2.2.2.2.2.2.2.2.2.2.2.2)then some (0,0,0,([]:Lv),([]:Lv),([]:Lv),false,280)else(dt n y22.1 y22.2.1 y22.2.2.1 y22.2.2.2.1 y22.2.2.2.2.1 y22.2.2.2.2.2.1 y22.2.2.2.2.2.2.1 y22.2.2.2.2.2.2.2.1 y22.2.2.2.2.2.2.2.2.1 y22.2.2.2.2.2.2.2.2.2.1 y22.2.2.2.2.2.2.2.2.2.2.1 y22.2.2.2.2.2.2.2.2.2.2.2.1 y22.2.2.2.2.2.2.2.2.2.2.2.2.1 y22.2.2.2.2.2.2.2.2.2.2.2.2.2.1 y22.2.2.2.2.2.2.2.2.2.2.2.2.2.2.1 y22.2.2.2.2.2.2.2.2.2.2.2.2.2.2.2.1 y22.2.2.2.2.2.2.2.2.2.2.2.2.2.2.2.2.1 y22.2.2.2.2.2.2.2.2.2.2.2.2.2.2.2.2.2.1 y22.2.2.2.2.2.2.2.2.2.2.2.2.2.2.2.2.2.2.1 y22.2.2.2.2.2.2.2.2.2.2.2.2.2.2.2.2.2.2.2.1 y22.2.2.2.2.2.2.2.2.2.2.2.2.2.2.2.2.2.2.2.2.1 y22.2.2.2.2.2.2.2.2.2.2.2.2.2.2.2.2.2.2.2.2.2.1 y22.2.2.2.2.2.2.2.2.2.2.2.2.2.2.2.2.2.2.2.2.2.2.1 y22.2.2.2.2.2.2.2.2.2.2.2.2.2.2.2.2.2.2.2.2.2.2.2.1 y22.2.2.2.2.2.2.2.2.2.2.2.2.2.2.2.2.2.2.2.2.2.2.2.2.1 y22.2.2.2.2.2.2.2.2.2.2.2.2.2.2.2.2.2.2.2.2.2.2.2.2.2.1).bind fun y49=>
 (bif y49.2.2.2.2.2.2.2 then some (0,0,0,([]:Lv),([]:Lv),([]:Lv),false,0)else bif(-9223372036854775808<=((y22.2.2.2.2.2.2.2.2.2.2.2.2.2.2.2.2.2.2.2.2.2.2.1.length:Int)-1))&&(((y22.2.2.2.2.2.2.2.2.2.2.2.2.2.2.2.2.2.2.2.2.2.2.1.length:Int)-1)<=9223372036854775807)then bif 0<=((y22.2.2.2.2.2.2.2.2.2.2.2.2.2.2.2.2.2.2.2.2.2.2.1.length:Int)-1) then bif ((y22.2.2.2.2.2.2.2.2.2.2.2.2.2.2.2.2.2.2.2.2.2.2.1.length:Int)-1)<(y22.2.2.2.2.2.2.2.2.2.2.2.2.2.2.2.2.2.2.2.2.2.2.1.length:Int) then bif(-9223372036854775808<=((y22.2.2.2.2.2.2.2.2.2.2.2.2.2.2.2.2.2.2.2.2.2.2.2.2.1.length:Int)-1))&&(((y22.2.2.2.2.2.2.2.2.2.2.2.2.2.2.2.2.2.2.2.2.2.2.2.2.1.length:Int)-1)<=9223372036854775807)then bif 0<=((y22.2.2.2.2.2.2.2.2.2.2.2.2.2.2.2.2.2.2.2.2.2.2.2.2.1.length:Int)-1) then bif ((y22.2.2.2.2.2.2.2.2.2.2.2.2.2.2.2.2.2.2.2.2.2.2.2.2.1.length:Int)-1)<(y22.2.2.2.2.2.2.2.2.2.2.2.2.2.2.2.2.2.2.2.2.2.2.2.2.1.length:Int) then some ((cI y22.2.2.2.2.2.2.2.2.2.2.2.2.2.2.2.2.2.2.2.2.2.2.1 ((y22.2.2.2.2.2.2.2.2.2.2.2.2.2.2.2.2.2.2.2.2.2.2.1.length:Int)-1) 0),(cI y22.2.2.2.2.2.2.2.2.2.2.2.2.2.2.2.2.2.2.2.2.2.2.2.2.1 ((y22.2.2.2.2.2.2.2.2.2.2.2.2.2.2.2.2.2.2.2.2.2.2.2.2.1.length:Int)-1) 0),y22.2.2.2.2.2.2.2.2.2.2.2.2.2.2.2.2.2.2.2.2.2.1,y22.2.2.2.2.2.2.2.2.2.2.2.2.2.2.2.2.2.2.2.2.2.2.1,y22.2.2.2.2.2.2.2.2.2.2.2.2.2.2.2.2.2.2.2.2.2.2.2.1,y22.2.2.2.2.2.2.2.2.2.2.2.2.2.2.2.2.2.2.2.2.2.2.2.2.1,true,0)else none else none else none else none else none else none))
def eY(n:Nat)(v0 v1 v2 v3 v4:Lv)(v5 v6 v7 v8 v9 v10 v11 v12 v13 v14:Int)(v15:Bool)(v16:Lv)(v17:Int)(v18:Lv)(v19 v20 v21:Int):Option jq:=uD n v0 v1 v2 v3 v4 v5 v6 v7 v8 v9 v10 v11 v12 v13 v14 v15 v16 v17 v18 v19 v20 v21
def refusal_Lead_t:FnT:=⟨[(true,[(.sl (.cons .int (.cons tSc .nil))),(.sl (.cons .int (.cons .int (.cons .int (.cons .int (.cons .int .nil)))))),(.sl (.cons .int (.cons .int .nil))),tSa,tSa,.int,.int,.int,.int,.int,.int,.int,.int,.int,.int,.bool,tSc,.int,tSc]),(false,[.int]),(false,[.int]),(false,[.int])],(.tup (.cons (.agg (.cons .i (.cons .i (.cons .i (.cons (.row 1000003 (.cons .int .nil)) (.cons (.row 1000003 (.cons .int .nil)) (.cons (.row 1000094 (.cons .int (.cons .int .nil))) .nil))))))) (.cons .b (.cons .i .nil)))),fun n (s:Lv×Lv×Lv×Lv×Lv×Int×Int×Int×Int×Int×Int×Int×Int×Int×Int×Bool×Lv×Int×Lv×Int×Int×Int)=>eY n s.1 s.2.1 s.2.2.1 s.2.2.2.1 s.2.2.2.2.1 s.2.2.2.2.2.1 s.2.2.2.2.2.2.1 s.2.2.2.2.2.2.2.1 s.2.2.2.2.2.2.2.2.1 s.2.2.2.2.2.2.2.2.2.1 s.2.2.2.2.2.2.2.2.2.2.1 s.2.2.2.2.2.2.2.2.2.2.2.1 s.2.2.2.2.2.2.2.2.2.2.2.2.1 s.2.2.2.2.2.2.2.2.2.2.2.2.2.1 s.2.2.2.2.2.2.2.2.2.2.2.2.2.2.1 s.2.2.2.2.2.2.2.2.2.2.2.2.2.2.2.1 s.2.2.2.2.2.2.2.2.2.2.2.2.2.2.2.2.1 s.2.2.2.2.2.2.2.2.2.2.2.2.2.2.2.2.2.1 s.2.2.2.2.2.2.2.2.2.2.2.2.2.2.2.2.2.2.1 s.2.2.2.2.2.2.2.2.2.2.2.2.2.2.2.2.2.2.2.1 s.2.2.2.2.2.2.2.2.2.2.2.2.2.2.2.2.2.2.2.2.1 s.2.2.2.2.2.2.2.2.2.2.2.2.2.2.2.2.2.2.2.2.2⟩
theorem B9:refusal_Lead_t.ok Tryz.prog 18:=FnT.ok_of (cfg:=⟨[],aH,[],aj⟩) aw mm av (fun s fn hf=>by rw[Tryz.func18]at hf;cases hf;kernel_rfl) (fun n s=>by kernel_rfl)
def refusal_Lead_T:Tab:=(18,refusal_Lead_t)::refusal_Refuse_T
theorem oA:refusal_Lead_T.ok Tryz.prog:=Tab.ok_cons B9 mm
end
end Go.Proofs.YtbfkkigbedmhgaaGreat
namespace Go.Dial.Flo
open Go.Sx
def has(s c:Int):Bool:=s.toNat.testBit c.toNat
def my(s c:Int):Int:=((s.toNat ||| 2 ^ c.toNat:Nat):Int)
theorem PZ(P:Int->Prop)(h:∀k:Fin 256,P (k.val:Int))(s:Int)(h0:0<=s)(h1:s<=255):P s:=by
 have:=h ⟨s.toNat,by omega⟩
 simpa[Int.toNat_of_nonneg h0]using this
theorem PR(P:Int->Prop)(h:∀k:Fin 8,P (k.val:Int))(s:Int)(h0:0<=s)(h1:s<=7):P s:=by
 have:=h ⟨s.toNat,by omega⟩
 simpa[Int.toNat_of_nonneg h0]using this
theorem OL{s c:Int}(h0:0<=s)(h1:s<=255)(c0:0<=c)(c1:c<=7):0<=my s c/\my s c<=255:=by
 refine⟨by unfold my;omega,?_⟩
 revert s
 refine PR (fun c=>∀ {s:Int},0<=s->s<=255->my s c<=255) (fun k=>?_) c c0 c1
 intro s h0 h1;have hk:(2:Nat) ^ k.val<2 ^ 8:=Nat.pow_lt_pow_right (by decide) k.isLt
 have:(s.toNat ||| 2 ^ k.val)<2 ^ 8:=Nat.or_lt_two_pow (by omega) hk
 unfold my;simp only[Int.toNat_natCast];omega
theorem OV{s c d:Int}(c0:0<=c)(d0:0<=d):has (my s c) d=(has s d||decide (d=c)):=by
 unfold has my;rw[Int.toNat_natCast,Nat.testBit_or,Nat.testBit_two_pow];congr 1
 rw[decide_eq_decide];omega
theorem OH{s t:Int}(s0:0<=s)(s1:s<=255)(t0:0<=t)(t1:t<=255)(h:∀c:Int,0<=c->c<=7->has s c=has t c):s=t:=by
 have:s.toNat=t.toNat:=by
  refine Nat.eq_of_testBit_eq fun i=>?_
  by_cases hi:i<8
  ·have:=h (i:Int) (by omega) (by omega)
   simpa[has]using this
  ·have e1:s.toNat<2 ^ i:=Nat.lt_of_lt_of_le (show s.toNat<2 ^ 8 by omega) (Nat.pow_le_pow_right (by decide) (by omega))
   have e2:t.toNat<2 ^ i:=Nat.lt_of_lt_of_le (show t.toNat<2 ^ 8 by omega) (Nat.pow_le_pow_right (by decide) (by omega))
   rw[Nat.testBit_lt_two_pow e1,Nat.testBit_lt_two_pow e2]
 omega
theorem L0:∀(j:Fin 8) (k:Fin 256),decide (IOp.f .and (IOp.f .shr (k.val:Int) (j.val:Int)) 1=1)=has (k.val:Int) (j.val:Int)/\decide (IOp.f .and (IOp.f .shr (k.val:Int) (j.val:Int)) 1=0)= !has (k.val:Int) (j.val:Int)/\decide (Int.tmod (IOp.f .shr (k.val:Int) (j.val:Int)) 2=1)=has (k.val:Int) (j.val:Int)
  ∧ IOp.f .or (k.val:Int) (IOp.f .shl 1 (j.val:Int))=my (k.val:Int) (j.val:Int):=by
 decide +kernel
theorem yN{s c:Int}(h0:0<=s)(h1:s<=255)(c0:0<=c)(c1:c<=7):decide (IOp.f .and (IOp.f .shr s c) 1=1)=has s c/\decide (IOp.f .and (IOp.f .shr s c) 1=0)= !has s c/\decide (Int.tmod (IOp.f .shr s c) 2=1)=has s c
  ∧ IOp.f .or s (IOp.f .shl 1 c)=my s c:=by
 refine PR (fun c=>decide (IOp.f .and (IOp.f .shr s c) 1=1)=has s c/\decide (IOp.f .and (IOp.f .shr s c) 1=0)= !has s c/\decide (Int.tmod (IOp.f .shr s c) 2=1)=has s c
  ∧ IOp.f .or s (IOp.f .shl 1 c)=my s c) (fun j=>?_) c c0 c1
 exact PZ (fun s=>decide (IOp.f .and (IOp.f .shr s (j.val:Int)) 1=1)=has s (j.val:Int)/\decide (IOp.f .and (IOp.f .shr s (j.val:Int)) 1=0)= !has s (j.val:Int)/\decide (Int.tmod (IOp.f .shr s (j.val:Int)) 2=1)=has s (j.val:Int)
  ∧ IOp.f .or s (IOp.f .shl 1 (j.val:Int))=my s (j.val:Int)) (fun k=>L0 j k) s h0 h1
structure Ed where
 f:Int
 t:Int
 c:Int
 deriving DecidableEq
def EdV(n:Int)(e:Ed):Prop:=0<=e.f/\e.f<=n-1/\0<=e.t/\e.t<=n-1/\e.f≠e.t/\0<=e.c/\e.c<=10000
instance (n:Int) (e:Ed):Decidable (EdV n e):=by unfold EdV;infer_instance
def NetV(n:Int)(es:List Ed):Prop:=0<=n/\n<=12/\es.length<=40/\∀e∈es,EdV n e
instance (n:Int) (es:List Ed):Decidable (NetV n es):=by unfold NetV;infer_instance
def out(s:Int)(e:Ed):Bool:=has s e.f&& !has s e.t
def lvs(s:Int):List Ed->Int
 |[]=>0
 |e::es=>(if out s e=true then e.c else 0)+lvs s es
theorem PV{n:Int}(s:Int){es:List Ed}(h:∀e∈es,EdV n e):0<=lvs s es/\lvs s es<=10000*es.length:=by
 induction es with
 |nil=>simp[lvs]
 |cons e es ih=>
  have h1:=ih (fun x hx=>h x (List.mem_cons_of_mem _ hx))
  obtain⟨_,_,_,_,_,h2,h3⟩:=h e (List.mem_cons_self ..);simp only[lvs,List.length_cons];split<;>omega
theorem HP{n:Int}{s:Int}{es:List Ed}(h:∀e∈es,EdV n e):lvs s es=0↔∀e∈es,out s e=true->e.c=0:=by
 induction es with
 |nil=>simp[lvs]
 | cons e es ih=>
  have h1:=PV s (fun x hx=>h x (List.mem_cons_of_mem _ hx))
  have h2:=ih (fun x hx=>h x (List.mem_cons_of_mem _ hx))
  obtain⟨_,_,_,_,_,h3,h4⟩:=h e (List.mem_cons_self ..);simp only[lvs];constructor
  ·intro h0 x hx ho
   rcases List.mem_cons.1 hx with rfl|hx
   ·rw[if_pos ho]at h0;omega
   ·refine h2.1 ?_ x hx ho
    split at h0<;>omega
  ·intro h0
   rw[h2.2 (fun x hx=>h0 x (List.mem_cons_of_mem _ hx))]
   split
   ·rename_i ho;rw[h0 e (List.mem_cons_self ..) ho];rfl
   ·rfl
inductive Reach (es:List Ed) (a:Int):Int->Prop
 |here:Reach es a a
 |step (u:Int) (e:Ed) (h:Reach es a u) (he:e∈es) (hf:e.f=u) (hc:0<e.c):Reach es a e.t
theorem Hu{n:Int}{s a v:Int}{es:List Ed}(hv:∀e∈es,EdV n e)(h0:lvs s es=0)(ha:has s a=true)(h:Reach es a v):has s v=true:=by
 induction h with
 |here=>exact ha
 | step u e h he hf hc ih=>
  have:=(HP hv).1 h0 e he
  cases hb:has s e.t with
  |true=>rfl
  |false=>
   have ho:out s e=true:=by unfold out;rw[hf,ih,hb];rfl
   have:=this ho
   omega
def C4(a b s:Int):Prop:=0<=s/\s<=255/\has s a=true/\has s b=false
instance (a b s:Int):Decidable (C4 a b s):=by unfold C4;infer_instance
def IsR(es:List Ed)(a s:Int):Prop:=0<=s/\s<=255/\∀v:Int,0<=v->v<=7->(has s v=true↔Reach es a v)
theorem Or{es:List Ed}{a s t:Int}(h:IsR es a s)(k:IsR es a t):s=t:=by
 refine OH h.1 h.2.1 k.1 k.2.1 (fun c h0 h1=>?_)
 rw[Bool.eq_iff_iff,h.2.2 c h0 h1,k.2.2 c h0 h1]
theorem Iw{es:List Ed}{a s:Int}(hv:∀e∈es,EdV 8 e)(h:IsR es a s):lvs s es=0:=by
 rw[HP hv];intro e he ho;obtain⟨f0,f1,t0,t1,_,c0,_⟩:=hv e he;unfold out at ho;rw[Bool.and_eq_true]at ho;obtain⟨h1,h2⟩:=ho;have h3:=(h.2.2 e.f f0 (by omega)).1 h1
 by_cases hc:0<e.c
 ·have:=(h.2.2 e.t t0 (by omega)).2 (.step e.f e h3 he rfl hc)
  rw[this]at h2;cases h2
 ·omega
end Go.Dial.Flo
namespace Go.Sx
open Go
theorem am{σ α:Type}(step:(σ->Option α)->σ->Option α)(n:Nat)(s:σ):ab step (n+1) s=step (ab step n) s:=rfl
theorem eE{σ α:Type}{step:(σ->Option α)->σ->Option α}(Inv:σ->Prop)(mu:σ->Nat)(r:α)
  (h:∀s go,Inv s->(∀s',Inv s'->mu s'<mu s->go s'=some r)->step go s=some r):∀(n:Nat) (s:σ),Inv s->mu s<n->ab step n s=some r:=by
 intro n;induction n with
 |zero=>intro s _ hm;omega
 |succ n ih=>
  intro s hi hm;exact h s _ hi fun s' hi' hm'=>ih s' hi' (by omega)
theorem eW{σ α:Type}{step:(σ->Option α)->σ->Option α}(Inv:σ->Prop)(mu:σ->Nat)(Post:α->Prop)
  (h:∀s go,Inv s->(∀s',Inv s'->mu s'<mu s->∃r,go s'=some r/\Post r)->∃r,step go s=some r/\Post r):∀(n:Nat) (s:σ),Inv s->mu s<n->∃r,ab step n s=some r/\Post r:=by
 intro n;induction n with
 |zero=>intro s _ hm;omega
 |succ n ih=>
  intro s hi hm;exact h s _ hi fun s' hi' hm'=>ih s' hi' (by omega)
theorem cD{α:Type}{f:α->List AV}{l:List α}{i:Int}{k:Nat}{x:α}(h:l[i.toNat]?=some x):cA (l.map f) i k=(f x).getD k (.int 0):=by
 simp[cA,List.getD,h]
theorem rX{α:Type}{l:List α}{i:Nat}{x:α}(h:l[i]?=some x):l.take (i+1)=l.take i++[x]:=by
 rw[List.take_add_one,h];rfl
theorem aV{α:Type}{l:List α}{i:Nat}(h:i<l.length):∃x,l[i]?=some x:=⟨_,List.getElem?_eq_getElem h⟩
end Go.Sx
namespace Go.Dial.Flo
open Go.Sx
def gM(M:List Int)(a b:Nat):Int:=M.getD (a*14+b) 0
def lY(M:List Int)(a b:Nat)(y:Int):List Int:=M.set (a*14+b) y
theorem gI(M:List Int)(a b:Nat)(y:Int):(lY M a b y).length=M.length:=List.length_set
theorem dg(M:List Int)(i j:Nat)(y:Int)(hi:i<M.length):(M.set i y).getD j 0=if j=i then y else M.getD j 0:=by
 rw[List.getD_eq_getElem?_getD,List.getD_eq_getElem?_getD,List.getElem?_set];by_cases h:i=j
 ·subst h;simp[hi]
 ·rw[if_neg h,if_neg (fun e=>h e.symm)]
theorem qC{M:List Int}{a b c d:Nat}{y:Int}(hl:M.length=196)(ha:a<14)(hb:b<14)(hd:d<14):gM (lY M a b y) c d=if c=a/\d=b then y else gM M c d:=by
 unfold gM lY;rw[dg _ _ _ _ (by omega)]
 by_cases h:c=a/\d=b
 ·rw[if_pos h,if_pos (by rw[h.1,h.2])]
 ·rw[if_neg h,if_neg (fun e=>h ⟨by omega,by omega⟩)]
def dq:Nat->(Nat->Int)->Int
 |0,_=>0
 |k+1,f=>dq k f+f k
theorem jl{f g:Nat->Int}:∀(k:Nat),(∀i,i<k->f i=g i)->dq k f=dq k g
 |0,_=>rfl
 |k+1,h=>by simp only[dq,jl k (fun i hi=>h i (by omega)),h k (by omega)]
theorem vN{f g:Nat->Int}{j:Nat}{d:Int}:∀(k:Nat),j<k->(∀i,i<k->i≠j->f i=g i)->f j=g j+d->dq k f=dq k g+d
 |0,h,_,_=>by omega
 | k+1,h,h1,h2=>by
  simp only[dq];by_cases e:j=k
  ·subst e
   rw[jl (f:=f) (g:=g) j (fun i hi=>h1 i (by omega) (by omega)),h2];omega
  ·rw[vN k (by omega) (fun i hi hne=>h1 i (by omega) hne) h2,h1 k (by omega) (fun e'=>e e'.symm)];omega
theorem Hw{f:Nat->Int}:∀(k:Nat),(∀i,i<k->0<=f i)->0<=dq k f
 |0,_=>Int.le_refl _
 |k+1,h=>by
  have:=Hw k (fun i hi=>h i (by omega))
  have:=h k (by omega)
  simp only[dq];omega
def rs(M:List Int)(v:Nat):Int:=dq 14 (fun b=>gM M v b)
def kv(room:Int)(M:List Int)(p x:Nat):List Int:=lY (lY M p x (gM M p x-room)) x p (gM M x p+room)
theorem ff{room:Int}{M:List Int}{p x c d:Nat}(hl:M.length=196)(hp:p<14)(hx:x<14)(hd:d<14)(hne:x≠p):
  gM (kv room M p x) c d=if c=x/\d=p then gM M x p+room else if c=p/\d=x then gM M p x-room else gM M c d:=by
 unfold kv;rw[qC (by rw[gI];exact hl) hx hp hd,qC hl hp hx hd]
theorem OA{room:Int}{M:List Int}{p x v:Nat}(hl:M.length=196)(hp:p<14)(hx:x<14)(hne:x≠p):
  rs (kv room M p x) v=rs M v+(if v=x then room else 0)-(if v=p then room else 0):=by
 unfold rs;by_cases h1:v=x
 ·subst h1
  rw[if_pos rfl,if_neg hne];rw[vN (g:=fun b=>gM M v b) (j:=p) (d:=room) 14 hp]
  ·omega
  ·intro i hi hne'
   simp only[ff hl hp hx hi hne];rw[if_neg (fun h=>hne' h.2),if_neg (fun h=>hne h.1)]
  ·simp only[ff hl hp hx hp hne]
   simp
 ·by_cases h2:v=p
  ·subst h2
   rw[if_neg h1,if_pos rfl];rw[vN (g:=fun b=>gM M v b) (j:=x) (d:= -room) 14 hx]
   ·omega
   ·intro i hi hne'
    simp only[ff hl hp hx hi hne];rw[if_neg (fun h=>h1 h.1),if_neg (fun h=>hne' h.2)]
   ·simp only[ff hl hp hx hx hne]
    rw[if_neg (fun h=>h1 h.1)]
    simp
    omega
  ·rw[if_neg h1,if_neg h2]
   rw[jl (g:=fun b=>gM M v b) 14]
   ·omega
   ·intro i hi
    simp only[ff hl hp hx hi hne];rw[if_neg (fun h=>h1 h.1),if_neg (fun h=>h2 h.1)]
inductive Way (M L:List Int) (a:Nat):Nat->List Nat->Prop
 |here:Way M L a a []
 |step (x p:Nat) (ps:List Nat) (h:Way M L a p ps) (hL:L.getD x 0=(p:Int)+1) (hM:0<gM M p x) (hx:x<14) (hn:x∉p::ps) (ha:x≠a):Way M L a x (p::ps)
theorem nR{M L:List Int}{a x:Nat}{ps:List Nat}(ha:a<14)(h:Way M L a x ps):∀y∈x::ps,y<14:=by
 induction h with
 |here=>intro y hy;rw[List.mem_singleton]at hy;subst hy;exact ha
 |step x p ps h hL hM hx hn ha ih=>
  intro y hy;rcases List.mem_cons.1 hy with rfl|hy
  ·exact hx
  ·exact ih y hy
theorem Mp{M L:List Int}{a x:Nat}{ps:List Nat}(h:Way M L a x ps):(x::ps).Nodup:=by
 induction h with
 |here=>simp
 |step x p ps h hL hM hx hn ha ih=>exact List.nodup_cons.2 ⟨hn,ih⟩
theorem xL:∀(k:Nat) (l:List Nat),l.Nodup->(∀y∈l,y<k)->l.length<=k
 |0,l,_,h=>by
  cases l with
  |nil=>exact Nat.le_refl _
  |cons y l=>exact absurd (h y (List.mem_cons_self ..)) (by omega)
 | k+1,l,hn,h=>by
  by_cases hk:k∈l
  ·have:=xL k (l.erase k) (hn.erase k) (fun y hy=>by
    have h1:=h y (List.mem_of_mem_erase hy);have h2:y≠k:=fun e=>by subst e;exact(List.Nodup.not_mem_erase hn) hy
    omega)
   rw[List.length_erase_of_mem hk]at this;omega
  ·have:=xL k l hn (fun y hy=>by
    have h1:=h y hy;have h2:y≠k:=fun e=>by subst e;exact hk hy
    omega)
   omega
theorem N4{M L:List Int}{a x:Nat}{ps:List Nat}(ha:a<14)(h:Way M L a x ps):ps.length<=13:=by
 have:=xL 14 (x::ps) (Mp h) (nR ha h)
 simp only[List.length_cons]at this;omega
def fo(M:List Int):Nat->List Nat->Int->Int
 |_,[],r=>r
 |x,p::ps,r=>fo M p ps (aB r (gM M p x))
def pc(room:Int):Nat->List Nat->List Int->List Int
 |_,[],M=>M
 |x,p::ps,M=>pc room p ps (kv room M p x)
theorem CQ(a b:Int):aB a b<=a/\aB a b<=b/\(0<a->0<b->0<aB a b):=by
 unfold aB;split<;>omega
theorem zb{M L:List Int}{a x:Nat}{ps:List Nat}(h:Way M L a x ps):∀r,0<r->0<fo M x ps r/\fo M x ps r<=r:=by
 induction h with
 |here=>intro r hr;exact⟨hr,Int.le_refl _⟩
 |step x p ps h hL hM hx hn ha ih=>
  intro r hr;obtain⟨h1,h2,h3⟩:=CQ r (gM M p x);obtain⟨h4,h5⟩:=ih _ (h3 hr hM);simp only[fo];exact⟨h4,by omega⟩
structure Kept (M M':List Int):Prop where
 len:M'.length=196
 pos:∀c d,c<14->d<14->0<=gM M' c d
 two:∀c d,c<14->d<14->gM M' c d+gM M' d c=gM M c d+gM M d c
theorem N9{N L:List Int}{a x:Nat}{ps:List Nat}(h:Way N L a x ps)(ha:a<14):∀(room r:Int) (M:List Int),0<r->room<=fo N x ps r->0<=room->M.length=196->(∀c d,c<14->d<14->0<=gM M c d) →
  (∀c∈x::ps,∀d∈x::ps,gM M c d=gM N c d)->Kept M (pc room x ps M)/\∀v,v<14->rs (pc room x ps M) v=rs M v+(if v=x then room else 0)-(if v=a then room else 0):=by
 induction h with
 |here=>
  intro room r M hr hle h0 hl hp hag;refine⟨⟨hl,hp,fun c d _ _=>rfl⟩,fun v _=>?_⟩
  simp only[pc];omega
 | step x p ps h hL hM hx hn hax ih=>
  intro room r M hr hle h0 hl hp hag;simp only[pc];simp only[fo]at hle;have hpl:p<14:=nR ha h p (List.mem_cons_self ..)
  have hne:x≠p:=fun e=>hn (by rw[e];exact List.mem_cons_self ..)
  obtain⟨i1,i2,i3⟩:=CQ r (gM N p x);have hri:=i3 hr hM;obtain⟨g1,g2⟩:=zb h _ hri;have hroom:room<=gM M p x:=by
   rw[hag p (by simp) x (by simp)];omega
  have hlen:(kv room M p x).length=196:=by unfold kv;rw[gI,gI];exact hl
  have hpos:∀c d,c<14->d<14->0<=gM (kv room M p x) c d:=by
   intro c d hc hd;rw[ff hl hpl hx hd hne];have e1:=hp x p hx hpl;have e2:=hp c d hc hd;split
   ·omega
   ·split<;>omega
  obtain⟨⟨k1,k2,k3⟩,k4⟩:=ih room _ (kv room M p x) hri hle h0 hlen hpos (fun c hc d hd=>by
   have hcl:=nR ha h c hc;have hdl:=nR ha h d hd;rw[ff hl hpl hx hdl hne,if_neg (fun e=>hn (by rw[<-e.1];exact hc)),if_neg (fun e=>hn (by rw[<-e.2];exact hd))]
   exact hag c (List.mem_cons_of_mem _ hc) d (List.mem_cons_of_mem _ hd))
  refine⟨⟨k1,k2,fun c d hc hd=>?_⟩,fun v hv=>?_⟩
  ·rw[k3 c d hc hd,ff hl hpl hx hd hne,ff hl hpl hx hc hne]
   by_cases e1:c=x/\d=p
   ·obtain⟨rfl,rfl⟩:=e1
    simp[hne,hne.symm]
    omega
   ·by_cases e2:c=p/\d=x
    ·obtain⟨rfl,rfl⟩:=e2
     simp[hne,hne.symm]
     omega
    ·rw[if_neg e1,if_neg e2,if_neg (fun e=>e2 ⟨e.2,e.1⟩),if_neg (fun e=>e1 ⟨e.2,e.1⟩)]
  ·rw[k4 v hv,OA hl hpl hx hne]
   omega
theorem JV{M L:List Int}{a x y:Nat}{v:Int}{ps:List Nat}(hl:y<L.length)(h:Way M L a x ps):y∉x::ps->Way M (L.set y v) a x ps:=by
 induction h with
 |here=>intro _;exact .here
 |step x p ps h hL hM hx hn ha ih=>
  intro hy;refine .step x p ps (ih (fun e=>hy (List.mem_cons_of_mem _ e))) ?_ hM hx hn ha
  rw[dg _ _ _ _ hl,if_neg (fun e=>hy (by rw[e];exact List.mem_cons_self ..))]
  exact hL
structure BIn (M L:List Int) (a b:Nat) (q:List Nat) (u k:Nat):Prop where
 len:L.length=14
 nn:∀x,x<14->0<=L.getD x 0/\L.getD x 0<=14
 la:L.getD a 0=(a:Int)+1
 lb:L.getD b 0=0
 way:∀x,x<14->0<L.getD x 0->∃ps,Way M L a x ps/\∀y∈ps,0<L.getD y 0
 que:∀x∈q,x<14/\0<L.getD x 0
 clo:∀x,x<14->0<L.getD x 0->x∉q->∀y,y<14->(x=u->y<k)->gM M x y≠0->0<L.getD y 0
theorem Io{M L:List Int}{a b u k:Nat}{q:List Nat}(h:BIn M L a b q u k)(hk:0<L.getD k 0\/gM M u k=0):BIn M L a b q u (k+1):=
 ⟨h.len,h.nn,h.la,h.lb,h.way,h.que,fun x hx hp hq y hy hu hm=>by
  by_cases e:x=u/\y=k
  ·obtain⟨rfl,rfl⟩:=e
   rcases hk with hk|hk
   ·exact hk
   ·exact absurd hk hm
  ·exact h.clo x hx hp hq y hy (fun e'=>by have:=hu e';have:y≠k:=fun e2=>e ⟨e',e2⟩;omega) hm⟩
theorem DY{M L:List Int}{a b u k x:Nat}{q:List Nat}(h:BIn M L a b q u k)(ha:a<14)(hu:u<14)(hup:0<L.getD u 0)(hx:x<14)(hx0:L.getD x 0=0)(hm:0<gM M u x):
  ∃ps,Way M (L.set x ((u:Int)+1)) a x (u::ps)/\∀y∈u::ps,0<L.getD y 0:=by
 obtain⟨ps,hw,hp⟩:=h.way u hu hup;have hall:∀y∈u::ps,0<L.getD y 0:=fun y hy=>by
  rcases List.mem_cons.1 hy with rfl|hy
  ·exact hup
  ·exact hp y hy
 have hn:x∉u::ps:=fun e=>by have:=hall x e;omega
 refine⟨ps,.step x u ps (JV (by rw[h.len];exact hx) hw hn) ?_ hm hx hn ?_,hall⟩
 ·rw[dg _ _ _ _ (by rw[h.len];exact hx),if_pos rfl]
 ·intro e
  subst e;have:=h.la
  omega
theorem OF{M L:List Int}{a b u k:Nat}{q:List Nat}(h:BIn M L a b q u k)(ha:a<14)(hu:u<14)(hup:0<L.getD u 0)(hk:k<14)(hk0:L.getD k 0=0)(hm:0<gM M u k)(hkb:k≠b):
  BIn M (L.set k ((u:Int)+1)) a b (q++[k]) u (k+1):=by
 have hg:∀x,(L.set k ((u:Int)+1)).getD x 0=if x=k then(u:Int)+1 else L.getD x 0:=fun x=>dg _ _ _ _ (by rw[h.len];exact hk)
 have hge:∀x,0<L.getD x 0->0<(L.set k ((u:Int)+1)).getD x 0:=fun x hx=>by
  rw[hg];split<;>omega
 obtain⟨psk,hwk,hpk⟩:=DY h ha hu hup hk hk0 hm;refine⟨by rw[List.length_set];exact h.len,fun x hx=>?_,?_,?_,fun x hx hp=>?_,fun x hx=>?_,fun x hx hp hq y hy hyu hm'=>?_⟩
 ·rw[hg];have:=h.nn x hx;split<;>omega
 ·rw[hg,if_neg (fun e=>by have:=h.la;rw[e]at this;omega)];exact h.la
 ·rw[hg,if_neg (fun e=>hkb e.symm)];exact h.lb
 ·by_cases e:x=k
  ·subst e
   exact⟨u::psk,hwk,fun y hy=>hge y (hpk y hy)⟩
  ·rw[hg,if_neg e]at hp
   obtain⟨ps,hw,hpp⟩:=h.way x hx hp;refine⟨ps,JV (by rw[h.len];exact hk) hw (fun hmem=>?_),fun y hy=>hge y (hpp y hy)⟩
   rcases List.mem_cons.1 hmem with e2|e2
   ·exact e e2.symm
   ·have:=hpp k e2;omega
 ·rcases List.mem_append.1 hx with hx|hx
  ·exact⟨(h.que x hx).1,hge x (h.que x hx).2⟩
  ·rw[List.mem_singleton]at hx
   subst hx;refine⟨hk,?_⟩
   rw[hg,if_pos rfl];omega
 ·have hxk:x≠k:=fun e=>hq (List.mem_append.2 (.inr (by rw[e];exact List.mem_singleton.2 rfl)))
  rw[hg,if_neg hxk]at hp;by_cases e:y=k
  ·rw[hg,if_pos e];omega
  ·exact hge y (h.clo x hx hp (fun e'=>hq (List.mem_append.2 (.inl e'))) y hy (fun e'=>by have:=hyu e';omega) hm')
def js(L:List Int):Nat:=L.countP (fun x=>decide (x=0))
theorem xM:∀(L:List Int) (k:Nat) (v:Int),k<L.length->L.getD k 0=0->v≠0->js (L.set k v)+1=js L
 |[],k,v,h,_,_=>by simp at h
 |x::L,0,v,_,h0,hv=>by
  have hx:x=0:=by simpa using h0
  subst hx;show js (v::L)+1=js (0::L)
  unfold js;rw[List.countP_cons,List.countP_cons];simp[hv]
 |x::L,k+1,v,h,h0,hv=>by
  have:=xM L k v (by simpa using h) (by simpa using h0) hv
  show js (x::L.set k v)+1=js (x::L)
  unfold js at this⊢
  rw[List.countP_cons,List.countP_cons];omega
def xq(M:List Int)(e:Ed):List Int:=lY M e.f.toNat e.t.toNat (gM M e.f.toNat e.t.toNat+e.c)
def bw(es:List Ed):List Int:=es.foldl xq (List.replicate 196 0)
def ia(c d:Nat):List Ed->Int
 |[]=>0
 |e::es=>(if e.f=(c:Int)/\e.t=(d:Int)then e.c else 0)+ia c d es
theorem H9(es:List Ed)(e:Ed):bw (es++[e])=xq (bw es) e:=by unfold bw;rw[List.foldl_append];rfl
theorem DI(es:List Ed):(bw es).length=196:=by
 unfold bw;suffices ∀(es:List Ed) (M:List Int),M.length=196->(es.foldl xq M).length=196 from this es _ (by rw[List.length_replicate])
 intro es;induction es with
 |nil=>intro M h;exact h
 |cons e es ih=>intro M h;exact ih _ (by unfold xq;rw[gI];exact h)
theorem JS{N:Int}(hN:N<=14)(c d:Nat)(hd:d<14):∀(es:List Ed) (M:List Int),(∀e∈es,EdV N e)->M.length=196->gM (es.foldl xq M) c d=gM M c d+ia c d es
 |[],M,_,_=>by simp[ia]
 |e::es,M,h,hl=>by
  obtain⟨f0,f1,t0,t1,_,c0,c1⟩:=h e (List.mem_cons_self ..);rw[List.foldl_cons,JS hN c d hd es (xq M e) (fun x hx=>h x (List.mem_cons_of_mem _ hx)) (by unfold xq;rw[gI];exact hl)]
  unfold xq;rw[qC hl (by omega) (by omega) hd]
  simp only[ia];by_cases hh:c=e.f.toNat/\d=e.t.toNat
  ·rw[if_pos hh,if_pos (by omega),hh.1,hh.2];omega
  ·rw[if_neg hh,if_neg (fun hx=>hh (by omega))];omega
theorem jo{N:Int}{es:List Ed}(hN:N<=14)(h:∀e∈es,EdV N e)(c d:Nat)(hd:d<14):gM (bw es) c d=ia c d es:=by
 unfold bw;rw[JS hN c d hd es _ h (by rw[List.length_replicate])]
 have:gM (List.replicate 196 0) c d=0:=by
  unfold gM;rw[List.getD_eq_getElem?_getD,List.getElem?_replicate];split<;>rfl
 omega
theorem nk{N:Int}{es:List Ed}(h:∀e∈es,EdV N e)(c d:Nat):0<=ia c d es/\ia c d es<=10000*es.length:=by
 induction es with
 |nil=>simp[ia]
 |cons e es ih=>
  have h1:=ih (fun x hx=>h x (List.mem_cons_of_mem _ hx))
  obtain⟨_,_,_,_,_,h2,h3⟩:=h e (List.mem_cons_self ..);simp only[ia,List.length_cons];split<;>omega
theorem CY{N:Int}{es:List Ed}(h:∀e∈es,EdV N e)(c d:Nat):0<ia c d es↔∃e∈es,e.f=(c:Int)/\e.t=(d:Int)/\0<e.c:=by
 induction es with
 |nil=>simp[ia]
 | cons e es ih=>
  have hv:∀x∈es,EdV N x:=fun x hx=>h x (List.mem_cons_of_mem _ hx)
  have h1:=nk hv c d;have h4:=ih hv;obtain⟨_,_,_,_,_,h2,h3⟩:=h e (List.mem_cons_self ..);simp only[ia];constructor
  ·intro hp
   by_cases he:e.f=(c:Int)/\e.t=(d:Int)/\0<e.c
   ·exact⟨e,List.mem_cons_self ..,he⟩
   ·obtain⟨x,hx,h5⟩:=h4.1 (by
     split at hp
     ·rename_i hh
      have:¬0<e.c:=fun hc=>he ⟨hh.1,hh.2,hc⟩
      omega
     ·omega)
    exact⟨x,List.mem_cons_of_mem _ hx,h5⟩
  ·rintro ⟨x,hx,hf,ht,hc⟩
   rcases List.mem_cons.1 hx with rfl|hx
   ·rw[if_pos ⟨hf,ht⟩];omega
   ·have:=h4.2 ⟨x,hx,hf,ht,hc⟩
    split<;>omega
theorem JI{N:Int}{es:List Ed}(h:∀e∈es,EdV N e)(c d:Nat)(hcd:N<=(c:Int)\/N<=(d:Int)):ia c d es=0:=by
 have h1:=nk h c d;by_cases hp:0<ia c d es
 ·exfalso
  obtain⟨e,he,hf,ht,hc⟩:=(CY h c d).1 hp;obtain⟨a1,a2,a3,a4,a5,a6,a7⟩:=h e he;rw[hf]at a2;rw[ht]at a4;omega
 ·omega
theorem D4{L:List Int}{es:List Ed}{N:Int}{a x:Nat}{ps:List Nat}(hN:N<=14)(hv:∀e∈es,EdV N e)(h:Way (bw es) L a x ps):Reach es (a:Int) (x:Int):=by
 induction h with
 |here=>exact .here
 |step x p ps h hL hM hx hn ha ih=>
  rw[jo hN hv p x hx]at hM;obtain⟨e,he,hf,ht,hc⟩:=(CY hv p x).1 hM;rw[<-ht];exact .step _ e ih he hf hc
structure PInv (es:List Ed) (a b:Nat) (M:List Int) (value:Int):Prop where
 kept:Kept (bw es) M
 sums:∀v,v<14->rs M v=rs (bw es) v+(if v=b then value else 0)-(if v=a then value else 0)
 val:(value=0/\M=bw es)\/(0<value/\Reach es (a:Int) (b:Int))
theorem vL{es:List Ed}{N:Int}(hN:N<=14)(hv:∀e∈es,EdV N e)(a b:Nat):PInv es a b (bw es) 0:=
 ⟨⟨DI es,fun c d _ hd=>by rw[jo hN hv c d hd];exact(nk hv c d).1,fun _ _ _ _=>rfl⟩,fun v _=>by split<;>split<;>omega,.inl ⟨rfl,rfl⟩⟩
theorem DM{es:List Ed}{N:Int}(hN:N<=14)(hv:∀e∈es,EdV N e)(hl:es.length<=40){a b:Nat}{M:List Int}{value:Int}(h:PInv es a b M value)(c d:Nat)(hc:c<14)(hd:d<14):0<=gM M c d/\gM M c d+gM M d c<=800000:=by
 refine⟨h.kept.pos c d hc hd,?_⟩
 rw[h.kept.two c d hc hd,jo hN hv c d hd,jo hN hv d c hc];have h1:=nk hv c d;have h2:=nk hv d c;omega
theorem Dd{f:Nat->Int}{B:Int}:∀(k:Nat),(∀i,i<k->f i<=B)->dq k f<=k*B
 |0,_=>by simp[dq]
 |k+1,h=>by
  have h1:=Dd k (fun i hi=>h i (by omega))
  have h2:=h k (by omega)
  simp only[dq];rw[show((k+1:Nat):Int)*B=(k:Int)*B+B by rw[Int.natCast_add,Int.add_mul];simp]
  omega
theorem tR{es:List Ed}{N:Int}(hN:N<=14)(hv:∀e∈es,EdV N e)(hl:es.length<=40){a b:Nat}(ha:a<14)(hab:a≠b){M:List Int}{value:Int}(h:PInv es a b M value):0<=rs M a/\rs M a<=11200000/\0<=value/\value<=11200000/\value=rs (bw es) a-rs M a:=by
 have h1:0<=rs M a:=Hw 14 (fun i hi=>h.kept.pos a i ha hi)
 have h2:rs M a<=14*800000:=Dd 14 (fun i hi=>by
  have:=DM hN hv hl h a i ha hi
  have:=h.kept.pos i a hi ha
  omega)
 have h3:rs (bw es) a<=14*800000:=Dd 14 (fun i hi=>by
  have:=DM hN hv hl (vL hN hv a b) a i ha hi
  have:=(vL hN hv a b).kept.pos i a hi ha
  omega)
 have h4:=h.sums a ha;rw[if_neg hab,if_pos rfl]at h4;rcases h.val with⟨h5,_⟩|⟨h5,_⟩<;>omega
theorem DV{es:List Ed}{N:Int}(hN:N<=14)(hv:∀e∈es,EdV N e){a b:Nat}(ha:a<14)(hab:a≠b){M L:List Int}{value r:Int}{ps:List Nat}(h:PInv es a b M value)(hw:Way M L a b ps)(hr:0<r):
  PInv es a b (pc (fo M b ps r) b ps M) (value+fo M b ps r)/\rs (pc (fo M b ps r) b ps M) a<rs M a:=by
 obtain⟨g1,g2⟩:=zb hw r hr;obtain⟨k,s⟩:=N9 hw ha (fo M b ps r) r M hr (Int.le_refl _) (by omega) h.kept.len h.kept.pos (fun _ _ _ _=>rfl)
 refine⟨⟨⟨k.len,k.pos,fun c d hc hd=>by rw[k.two c d hc hd,h.kept.two c d hc hd]⟩,fun v hv'=>?_,.inr ⟨?_,?_⟩⟩,?_⟩
 ·rw[s v hv',h.sums v hv']
  by_cases e1:v=b
  ·by_cases e2:v=a
   ·exact absurd (e2.symm.trans e1) hab
   ·rw[if_pos e1,if_pos e1,if_pos e1,if_neg e2,if_neg e2,if_neg e2];omega
  ·by_cases e2:v=a
   ·rw[if_neg e1,if_neg e1,if_neg e1,if_pos e2,if_pos e2,if_pos e2];omega
   ·rw[if_neg e1,if_neg e1,if_neg e1,if_neg e2,if_neg e2,if_neg e2];omega
 ·rcases h.val with⟨h5,_⟩|⟨h5,_⟩<;>omega
 ·rcases h.val with⟨_,h5⟩|⟨_,h5⟩
  ·rw[h5]at hw
   exact D4 hN hv hw
  ·exact h5
 ·rw[s a ha,if_neg hab,if_pos rfl];omega
end Go.Dial.Flo
namespace Go.Dial.Rou
abbrev at_(h:List Int)(i:Int):Int:=h.getD i.toNat 0
def HoV(h:List Int):Prop:=1<=h.length/\h.length<=30/\∀x∈h,-1<=x/\x<=7
instance (h:List Int):Decidable (HoV h):=by unfold HoV;infer_instance
def Con(h:List Int)(c:Int)(j:Nat):Prop:=h.getD j 0≠h.getD (j-1) 0/\(h.getD j 0=c\/h.getD (j-1) 0=c)
instance (h:List Int) (c:Int) (j:Nat):Decidable (Con h c j):=by unfold Con;infer_instance
def KnV(h:List Int)(lag:Int)(c:Int)(v:Int):Prop:= -1<=v/\v<=h.length-1/\(0<=v->(h.length:Int)-1-lag<=v/\∀j∈List.range h.length,1<=j->Con h c j->(j:Int)<=v)
instance (h:List Int) (lag c v:Int):Decidable (KnV h lag c v):=by unfold KnV;infer_instance
def RoV(h k:List Int)(lag:Int):Prop:=HoV h/\k.length=8/\0<=lag/\lag<=10/\∀c∈List.range 8,KnV h lag (c:Int) (k.getD c 0)
instance (h k:List Int) (lag:Int):Decidable (RoV h k lag):=by unfold RoV;infer_instance
def dec(h k:List Int)(c u:Int):Int×Int×Int:=
 let w:=max (at_ k c) u
 if at_ h w=c then(w,-1,1)else if at_ h w<0 then(w,-1,2)else if at_ k (at_ h w)<0 then(w,-1,3)else(w,at_ h w,0)
def kg(h k:List Int):Nat->Int->Int->List (Int×Int)×Int
 |0,_,_=>([],0)
 |m+1,c,u=>
  let d:=dec h k c u
  if d.2.2≠0 then([(c,d.1)],d.2.2)else((c,d.1)::(kg h k m d.2.1 d.1).1,(kg h k m d.2.1 d.1).2)
def ya(h k:List Int)(lag c:Int):Prop:=RoV h k lag/\0<=c/\c<=7/\0<=at_ k c
instance (h k:List Int) (lag c:Int):Decidable (ya h k lag c):=by unfold ya;infer_instance
def yW(h k:List Int)(c:Int):List (Int×Int)×Int:=kg h k 40 c (-1)
def CM(h k:List Int)(lag c:Int):(List (Int×Int)×Int)×Int:=if ya h k lag c then(yW h k c,0)else(([],0),240)
theorem EA{h k:List Int}{lag c u:Int}(hv:RoV h k lag)(hc:0<=c/\c<=7)(hk:0<=at_ k c)(hu:u<=h.length-1):
  0<=(dec h k c u).1/\(dec h k c u).1<=h.length-1/\u<=(dec h k c u).1/\at_ k c<=(dec h k c u).1/\(dec h k c u).1=max (at_ k c) u:=by
 obtain⟨_,hl,_,_,hkn⟩:=hv;have h1:=hkn c.toNat (List.mem_range.2 (by omega))
 have h2:k.getD c.toNat 0=at_ k c:=rfl
 rw[h2]at h1;have hd:(dec h k c u).1=max (at_ k c) u:=by
  unfold dec;dsimp only;split
  ·rfl
  ·split
   ·rfl
   ·split<;>rfl
 have hm:=h1.2.1;rw[hd];omega
theorem D8(h k:List Int)(c u:Int):let w:=max (at_ k c) u
  (at_ h w=c/\dec h k c u=(w,-1,1))\/(at_ h w≠c/\at_ h w<0/\dec h k c u=(w,-1,2))\/(at_ h w≠c/\0<=at_ h w/\at_ k (at_ h w)<0/\dec h k c u=(w,-1,3))\/(at_ h w≠c/\0<=at_ h w/\0<=at_ k (at_ h w)/\dec h k c u=(w,at_ h w,0)):=by
 intro w;unfold dec;by_cases h1:at_ h (max (at_ k c) u)=c
 ·left;exact⟨h1,by simp only[if_pos h1];rfl⟩
 ·right
  by_cases h2:at_ h (max (at_ k c) u)<0
  ·left;exact⟨h1,h2,by simp only[if_neg h1,if_pos h2];rfl⟩
  ·right
   by_cases h3:at_ k (at_ h (max (at_ k c) u))<0
   ·left;exact⟨h1,Int.not_lt.1 h2,h3,by simp only[if_neg h1,if_neg h2,if_pos h3];rfl⟩
   ·right;exact⟨h1,Int.not_lt.1 h2,Int.not_lt.1 h3,by simp only[if_neg h1,if_neg h2,if_neg h3];rfl⟩
theorem Lf{h:List Int}{i:Int}(h0:0<=i)(h1:i<h.length):at_ h i∈h:=by
 unfold at_;rw[List.getD_eq_getElem?_getD,List.getElem?_eq_getElem (by omega)]
 exact List.getElem_mem _
open Go.Sx
theorem pr(a b:Int):aL a b=max a b:=by unfold aL;omega
def cz(h:List Int)(lag c:Int):Nat->Int
 |0=>max 0 ((h.length:Int)-1-lag)
 |j+1=>if 1<=j/\Con h c j then max (cz h lag c j) (j:Int)else cz h lag c j
theorem CN{h:List Int}{lag c v:Int}:∀m:Nat,cz h lag c m<=v↔(0<=v/\(h.length:Int)-1-lag<=v/\∀j:Nat,j<m->1<=j->Con h c j->(j:Int)<=v)
 |0=>by
  simp only[cz];constructor
  ·intro hh;exact⟨by omega,by omega,fun j hj=>by omega⟩
  ·rintro ⟨h1,h2,_⟩;omega
 | m+1=>by
  have ih:=CN (h:=h) (lag:=lag) (c:=c) (v:=v) m;simp only[cz];split
  ·rename_i hc
   rw[show max (cz h lag c m) (m:Int)<=v↔(cz h lag c m<=v/\(m:Int)<=v) by omega,ih]
   constructor
   ·rintro ⟨⟨h1,h2,h3⟩,h4⟩
    refine⟨h1,h2,fun j hj h5 h6=>?_⟩
    by_cases e:j=m
    ·subst e;exact h4
    ·exact h3 j (by omega) h5 h6
   ·rintro ⟨h1,h2,h3⟩
    exact⟨⟨h1,h2,fun j hj=>h3 j (by omega)⟩,h3 m (by omega) hc.1 hc.2⟩
  ·rename_i hc
   rw[ih];constructor
   ·rintro ⟨h1,h2,h3⟩
    refine⟨h1,h2,fun j hj h5 h6=>?_⟩
    by_cases e:j=m
    ·subst e;exact absurd ⟨h5,h6⟩ hc
    ·exact h3 j (by omega) h5 h6
   ·rintro ⟨h1,h2,h3⟩
    exact⟨h1,h2,fun j hj=>h3 j (by omega)⟩
theorem Pr{h:List Int}{lag c:Int}(m:Nat):0<=cz h lag c m:=((CN (v:=cz h lag c m) m).1 (Int.le_refl _)).1
theorem JN{h:List Int}{lag c v:Int}(hl:1<=h.length):KnV h lag c v↔(v= -1\/(cz h lag c h.length<=v/\v<=(h.length:Int)-1)):=by
 unfold KnV;rw[CN];constructor
 ·rintro ⟨h1,h2,h3⟩
  by_cases h0:0<=v
  ·obtain⟨h4,h5⟩:=h3 h0
   exact .inr ⟨⟨h0,h4,fun j hj=>h5 j (List.mem_range.2 hj)⟩,h2⟩
  ·exact .inl (by omega)
 ·rintro (h1|⟨⟨h0,h4,h5⟩,h2⟩)
  ·exact⟨by omega,by omega,fun h0=>by omega⟩
  ·exact⟨by omega,h2,fun _=>⟨h4,fun j hj=>h5 j (List.mem_range.1 hj)⟩⟩
def st1(A:List Int)(c p q v:Int):List Int:=if 0<=c/\q≠p then A.set c.toNat (max (A.getD c.toNat 0) v)else A
theorem zl(A:List Int)(c p q v:Int):(st1 A c p q v).length=A.length:=by unfold st1;split<;>simp
theorem LM(M:List Int)(i j:Nat)(y:Int)(hi:i<M.length):(M.set i y).getD j 0=if j=i then y else M.getD j 0:=by
 rw[List.getD_eq_getElem?_getD,List.getD_eq_getElem?_getD,List.getElem?_set];by_cases h:i=j
 ·subst h;simp[hi]
 ·rw[if_neg h,if_neg (fun e=>h e.symm)]
theorem JF{A:List Int}{c p q v:Int}{d:Nat}(hl:A.length=8)(hc:c<=7)(hd:d<8):(st1 A c p q v).getD d 0=if(d:Int)=c/\q≠p then max (A.getD d 0) v else A.getD d 0:=by
 unfold st1;by_cases h1:0<=c/\q≠p
 ·rw[if_pos h1,LM _ _ _ _ (by omega)]
  by_cases h2:d=c.toNat
  ·rw[if_pos h2,if_pos ⟨by omega,h1.2⟩,h2]
  ·rw[if_neg h2,if_neg (fun h=>h2 (by omega))]
 ·rw[if_neg h1,if_neg (fun h=>h1 ⟨by omega,h.2⟩)]
def lk(h:List Int)(lag:Int)(m:Nat):List Int:=(List.range 8).map (fun c:Nat=>cz h lag (c:Int) m)
theorem jd(h:List Int)(lag:Int)(m:Nat):(lk h lag m).length=8:=by unfold lk;rw[List.length_map,List.length_range]
theorem vF(h:List Int)(lag:Int)(m:Nat){c:Nat}(hc:c<8):(lk h lag m).getD c 0=cz h lag (c:Int) m:=by
 unfold lk;rw[List.getD_eq_getElem?_getD,List.getElem?_map,List.getElem?_range hc];rfl
theorem Nv{A B:List Int}(ha:A.length=8)(hb:B.length=8)(h:∀d,d<8->A.getD d 0=B.getD d 0):A=B:=by
 refine List.ext_getElem (by omega) (fun d h1 h2=>?_)
 have:=h d (by omega)
 rw[List.getD_eq_getElem?_getD,List.getD_eq_getElem?_getD,List.getElem?_eq_getElem h1,List.getElem?_eq_getElem h2]at this;exact this
theorem Ms{h:List Int}{lag:Int}{v:Nat}(hh:HoV h)(h1:1<=v)(hv:v<h.length):
  st1 (st1 (lk h lag v) (h.getD (v-1) 0) (h.getD (v-1) 0) (h.getD v 0) v) (h.getD v 0) (h.getD (v-1) 0) (h.getD v 0) v=lk h lag (v+1):=by
 have m1:h.getD v 0∈h:=by rw[List.getD_eq_getElem?_getD,List.getElem?_eq_getElem hv];exact List.getElem_mem _
 have m2:h.getD (v-1) 0∈h:=by rw[List.getD_eq_getElem?_getD,List.getElem?_eq_getElem (show v-1<h.length by omega)];exact List.getElem_mem _
 have b1:=hh.2.2 _ m1;have b2:=hh.2.2 _ m2;refine Nv (by rw[zl,zl,jd]) (jd ..) (fun d hd=>?_)
 rw[JF (by rw[zl,jd]) b1.2 hd,JF (jd ..) b2.2 hd,vF _ _ _ hd,vF _ _ _ hd]
 simp only[cz];unfold Con;by_cases e1:h.getD v 0=h.getD (v-1) 0
 ·rw[if_neg (fun e=>e.2 e1),if_neg (fun e=>e.2 e1),if_neg (fun e=>e.2.1 e1)]
 ·by_cases e2:(d:Int)=h.getD v 0
  ·rw[if_pos ⟨e2,e1⟩,if_neg (fun e=>e1 (e2.symm.trans e.1)),if_pos ⟨h1,e1,.inl e2.symm⟩]
  ·rw[if_neg (fun e=>e2 e.1)]
   by_cases e3:(d:Int)=h.getD (v-1) 0
   ·rw[if_pos ⟨e3,e1⟩,if_pos ⟨h1,e1,.inr e3.symm⟩]
   ·rw[if_neg (fun e=>e3 e.1),if_neg (fun e=>(e.2.2).elim (fun e=>e2 e.symm) (fun e=>e3 e.symm))]
theorem Pe(h:List Int)(lag:Int):lk h lag 1=List.replicate 8 (max 0 ((h.length:Int)-1-lag)):=by
 refine Nv (jd ..) (by rw[List.length_replicate]) (fun d hd=>?_)
 rw[vF _ _ _ hd,List.getD_eq_getElem?_getD,List.getElem?_replicate,if_pos hd];simp only[cz];rw[if_neg (fun e=>by omega)]
 rfl
theorem LN{h k:List Int}{lag:Int}(hh:HoV h)(hk:k.length=8)(h0:0<=lag)(h1:lag<=10)(hx:∀c:Nat,c<8->(k.getD c 0= -1\/(cz h lag (c:Int) h.length<=k.getD c 0/\k.getD c 0<=(h.length:Int)-1))):RoV h k lag:=
 ⟨hh,hk,h0,h1,fun c hc=>(JN hh.1).2 (hx c (List.mem_range.1 hc))⟩
structure PthV (h k:List Int) (c0:Int) (l:List (Int×Int)) (e:Int):Prop where
 ne:l≠[]
 first:∀x,l.head?=some x->x.1=c0
 bd:∀x∈l,0<=x.1/\x.1<=7/\0<=x.2/\x.2<=(h.length:Int)-1/\at_ k x.1<=x.2/\0<=at_ k x.1
 two:∀(i:Nat) x y,l[i]?=some x->l[i+1]?=some y->y.1=at_ h x.2/\x.2<=y.2/\at_ h x.2≠x.1/\at_ h x.2≠ -1
 last:∀x,l.getLast?=some x->(e=1↔at_ h x.2=x.1)/\(e=2↔at_ h x.2<0)
 ends:1<=e/\e<=3
theorem MX{h k:List Int}{lag:Int}(hv:RoV h k lag):∀(m:Nat) (c u:Int),0<=c->c<=7->0<=at_ k c-> -1<=u->u<=h.length-1->(0<=u->at_ h u=c)->(h.length:Int)-u<m →
  PthV h k c (kg h k m c u).1 (kg h k m c u).2/\((kg h k m c u).1.length:Int)<=(h.length:Int)-u/\(∀x,(kg h k m c u).1.head?=some x->u<=x.2):=by
 intro m;induction m with
 |zero=>intro c u _ _ _ _ _ _ hm;omega
 | succ m ih=>
  intro c u hc0 hc7 hk hu0 hu1 hhu hm;obtain⟨r1,r2,r3,r4,r5⟩:=EA hv ⟨hc0,hc7⟩ hk hu1;have single:∀w e:Int,1<=e->e<=3->w=max (at_ k c) u->((e=1↔at_ h w=c)/\(e=2↔at_ h w<0))->PthV h k c [(c,w)] e/\(([(c,w)]:List (Int×Int)).length:Int)<=(h.length:Int)-u/\(∀x,([(c,w)]:List (Int×Int)).head?=some x->u<=x.2):=by
   intro w e he1 he3 hw hl;rw[r5]at r1 r2;refine⟨⟨by simp,fun x hx=>?_,fun x hx=>?_,fun i x y h1 h2=>?_,fun x hx=>?_,he1,he3⟩,?_,fun x hx=>?_⟩
   ·cases hx;rfl
   ·rw[List.mem_singleton]at hx;subst hx
    exact⟨hc0,hc7,by dsimp only;omega,by dsimp only;omega,by dsimp only;omega,hk⟩
   ·simp at h2
   ·cases hx;exact hl
   ·simp only[List.length_singleton];omega
   ·cases hx;dsimp only;omega
  simp only[kg];rcases D8 h k c u with⟨h1,hd⟩|⟨h1,h2,hd⟩|⟨h1,h2,h3,hd⟩|⟨h1,h2,h3,hd⟩
  ·rw[hd]
   dsimp only;rw[if_pos (show(1:Int)≠0 by decide)]
   exact single _ 1 (by decide) (by decide) rfl ⟨⟨fun _=>h1,fun _=>rfl⟩,⟨fun h=>by omega,fun h=>by omega⟩⟩
  ·rw[hd]
   dsimp only;rw[if_pos (show(2:Int)≠0 by decide)]
   exact single _ 2 (by decide) (by decide) rfl ⟨⟨fun h=>by omega,fun h=>absurd h h1⟩,⟨fun _=>h2,fun _=>rfl⟩⟩
  ·rw[hd]
   dsimp only;rw[if_pos (show(3:Int)≠0 by decide)]
   exact single _ 3 (by decide) (by decide) rfl ⟨⟨fun h=>by omega,fun h=>absurd h h1⟩,⟨fun h=>by omega,fun h=>by omega⟩⟩
  ·rw [hd]
   dsimp only;rw[if_neg (show ¬(0:Int)≠0 by decide)]
   rw[hd]at r1 r2 r3;dsimp only at r1 r2 r3
   have hlt:u<max (at_ k c) u:=by
    by_cases e:0<=u
    ·have:=hhu e
     by_cases e2:max (at_ k c) u=u
     ·rw[e2]at h1;exact absurd this h1
     ·omega
    ·omega
   have hmem:=hv.1.2.2 _ (Lf r1 (by omega))
   obtain⟨i1,i2,i3⟩:=ih _ _ h2 hmem.2 h3 (by omega) r2 (fun _=>rfl) (by omega)
   generalize hP:(kg h k m (at_ h (max (at_ k c) u)) (max (at_ k c) u))=P at i1 i2 i3
   generalize hw:max (at_ k c) u=w at *
   obtain⟨l,e⟩:=P;dsimp only at i1 i2 i3⊢
   cases l with
   |nil=>exact absurd rfl i1.ne
   | cons z l=>
    have hz:=i1.first z rfl;have hz2:=i3 z rfl;refine⟨⟨by simp,fun x hx=>?_,fun x hx=>?_,fun i x y hx hy=>?_,fun x hx=>?_,i1.ends⟩,?_,fun x hx=>?_⟩
    ·cases hx;rfl
    ·rcases List.mem_cons.1 hx with rfl|hx
     ·exact⟨hc0,hc7,r1,r2,by dsimp only;omega,hk⟩
     ·exact i1.bd x hx
    ·cases i with
     |zero=>
      cases hx
      cases hy
      exact⟨hz,hz2,h1,by dsimp only;omega⟩
     |succ i=>exact i1.two i x y hx hy
    ·rw[List.getLast?_cons_cons]at hx
     exact i1.last x hx
    ·simp only[List.length_cons]at i2⊢;omega
    ·cases hx;dsimp only;omega
theorem NH{h k:List Int}{lag c:Int}(hv:ya h k lag c):PthV h k c (yW h k c).1 (yW h k c).2/\(yW h k c).1.length<=31:=by
 have hl:=hv.1.1.2.1;have h1:=hv.1.1.1;obtain⟨i1,i2,_⟩:=MX hv.1 40 c (-1) hv.2.1 hv.2.2.1 hv.2.2.2 (by omega) (by omega) (fun h=>by omega) (by omega)
 exact⟨i1,by unfold yW;omega⟩
end Go.Dial.Rou
namespace Go.Sx
open Go
abbrev r2(p:(Int×Int)×Int):List AV:=[.int p.1.1,.int p.1.2,.int p.2]
abbrev r1(p:Int×Int):List AV:=[.int p.1,.int p.2]
def jO{α:Type}[DecidableEq α](k:α)(x:Int):List (α×Int)->List (α×Int)
 |[]=>[(k,x)]
 |p::l=>if p.1=k then(k,x)::l else p::jO k x l
def dv{α:Type}[DecidableEq α](k:α):List (α×Int)->Option Int
 |[]=>none
 |p::l=>if p.1=k then some p.2 else dv k l
theorem Hq{α:Type}[DecidableEq α](k k':α)(x:Int)(l:List (α×Int)):dv k' (jO k x l)=if k'=k then some x else dv k' l:=by
 induction l with
 |nil=>
  by_cases h:k'=k
  ·subst h;simp[jO,dv]
  ·simp[jO,dv,h,Ne.symm h]
 | cons p l ih=>
  by_cases hp:p.1=k
  ·simp only[jO,if_pos hp,dv]
   by_cases h:k'=k
   ·subst h;simp
   ·rw[if_neg (Ne.symm h),if_neg h,if_neg (by rw[hp];exact Ne.symm h)]
  ·simp only[jO,if_neg hp,dv]
   by_cases h2:p.1=k'
   ·rw[if_pos h2,if_pos h2,if_neg (fun h=>hp (h2.trans h))]
   ·rw[if_neg h2,if_neg h2,ih]
theorem po(a b c d y:Int):cm [.int a,.int b] (r2 ((c,d),y))=decide ((c,d)=(a,b)):=by
 show(decide (a=c)&&(decide (b=d)&&true))=_
 by_cases h1:a=c
 ·by_cases h2:b=d
  ·subst h1 h2;simp
  ·have:¬(c,d)=(a,b):=fun h=>h2 (by cases h;rfl)
   simp[h2,this]
 ·have:¬(c,d)=(a,b):=fun h=>h1 (by cases h;rfl)
  simp[h1,this]
theorem zq(a c y:Int):cm [.int a] (r1 (c,y))=decide (c=a):=by
 show(decide (a=c)&&true)=_
 by_cases h1:a=c
 ·subst h1;simp
 ·have:¬c=a:=fun h=>h1 h.symm
  simp[h1,this]
theorem P4(a b x:Int)(l:List ((Int×Int)×Int)):ew [.int a,.int b] (.int x) (l.map r2)=(jO (a,b) x l).map r2:=by
 induction l with
 |nil=>rfl
 | cons p l ih=>
  obtain⟨⟨c,d⟩,y⟩:=p;by_cases h:(c,d)=(a,b)
  ·have hk:cm [.int a,.int b] (r2 ((c,d),y))=true:=by rw[po];exact decide_eq_true h
   simp only[List.map_cons,ew,hk,cond_true,jO,if_pos h];rfl
  ·have hk:cm [.int a,.int b] (r2 ((c,d),y))=false:=by rw[po];exact decide_eq_false h
   simp only[List.map_cons,ew,hk,cond_false,jO,if_neg h,ih]
theorem KQ(a b:Int)(l:List ((Int×Int)×Int)):du [.int a,.int b] (l.map r2)=(dv (a,b) l).isSome:=by
 induction l with
 |nil=>rfl
 | cons p l ih=>
  obtain⟨⟨c,d⟩,y⟩:=p;by_cases h:(c,d)=(a,b)
  ·have hk:cm [.int a,.int b] (r2 ((c,d),y))=true:=by rw[po];exact decide_eq_true h
   simp only[List.map_cons,du,hk,dv,if_pos h];rfl
  ·have hk:cm [.int a,.int b] (r2 ((c,d),y))=false:=by rw[po];exact decide_eq_false h
   simp only[List.map_cons,du,hk,Bool.false_or,dv,if_neg h,ih]
theorem NR(a b:Int)(l:List ((Int×Int)×Int)):bP [.int a,.int b] (l.map r2)=(dv (a,b) l).getD 0:=by
 induction l with
 |nil=>rfl
 | cons p l ih=>
  obtain⟨⟨c,d⟩,y⟩:=p;by_cases h:(c,d)=(a,b)
  ·have hk:cm [.int a,.int b] (r2 ((c,d),y))=true:=by rw[po];exact decide_eq_true h
   simp only[List.map_cons,bP,hk,cond_true,dv,if_pos h];rfl
  ·have hk:cm [.int a,.int b] (r2 ((c,d),y))=false:=by rw[po];exact decide_eq_false h
   simp only[List.map_cons,bP,hk,cond_false,dv,if_neg h,ih]
theorem Qj(a x:Int)(l:List (Int×Int)):ew [.int a] (.int x) (l.map r1)=(jO a x l).map r1:=by
 induction l with
 |nil=>rfl
 | cons p l ih=>
  obtain⟨c,y⟩:=p;by_cases h:c=a
  ·have hk:cm [.int a] (r1 (c,y))=true:=by rw[zq];exact decide_eq_true h
   simp only[List.map_cons,ew,hk,cond_true,jO,if_pos h];rfl
  ·have hk:cm [.int a] (r1 (c,y))=false:=by rw[zq];exact decide_eq_false h
   simp only[List.map_cons,ew,hk,cond_false,jO,if_neg h,ih]
theorem NT(a:Int)(l:List (Int×Int)):bP [.int a] (l.map r1)=(dv a l).getD 0:=by
 induction l with
 |nil=>rfl
 | cons p l ih=>
  obtain⟨c,y⟩:=p;by_cases h:c=a
  ·have hk:cm [.int a] (r1 (c,y))=true:=by rw[zq];exact decide_eq_true h
   simp only[List.map_cons,bP,hk,cond_true,dv,if_pos h];rfl
  ·have hk:cm [.int a] (r1 (c,y))=false:=by rw[zq];exact decide_eq_false h
   simp only[List.map_cons,bP,hk,cond_false,dv,if_neg h,ih]
end Go.Sx
namespace Go.Dial.Fwd
open Go.Sx
structure Se where
 n:Int
 k:Int
 t:Int
 f:Int
 u:Int
 deriving DecidableEq
structure Co where
 n:Int
 k:Int
 deriving DecidableEq
def SeF(s:Se):Prop:=0<=s.n/\s.n<=99999999/\0<=s.t/\s.t<=99999999/\s.n≠s.t/\1<=s.k/\s.k<=4/\0<=s.f/\s.f<s.u/\s.u<=10000001
instance (s:Se):Decidable (SeF s):=by unfold SeF;infer_instance
def fC(a b:Se):Prop:=a.n=b.n/\a.k=b.k/\a.f<b.u/\b.f<a.u
instance (a b:Se):Decidable (fC a b):=by unfold fC;infer_instance
def gU:List Se->List Se->Prop
 |_,[]=>True
 |done,s::l=>SeF s/\(∀r∈done,¬fC r s)/\gU (done++[s]) l
def Me:∀(done l:List Se),Decidable (gU done l)
 |_,[]=>.isTrue trivial
 |done,s::l=>
  have:=Me (done++[s]) l
  inferInstanceAs (Decidable (SeF s/\(∀r∈done,¬fC r s)/\gU (done++[s]) l))
instance (done l:List Se):Decidable (gU done l):=Me done l
def pB(l:List Se):Prop:=l.length<=40/\gU [] l
instance (l:List Se):Decidable (pB l):=by unfold pB;infer_instance
def gP:Int->List Co->Prop
 |_,[]=>True
 |last,c::l=>last<c.n/\c.n<=99999999/\2<=c.k/\c.k<=4/\gP c.n l
def LK:∀(last:Int) (l:List Co),Decidable (gP last l)
 |_,[]=>.isTrue trivial
 |last,c::l=>
  have:=LK c.n l
  inferInstanceAs (Decidable (last<c.n/\c.n<=99999999/\2<=c.k/\c.k<=4/\gP c.n l))
instance (last:Int) (l:List Co):Decidable (gP last l):=LK last l
def FwV(l:List Se)(c:List Co):Prop:=pB l/\c.length<=40/\gP (-1) c
instance (l:List Se) (c:List Co):Decidable (FwV l c):=by unfold FwV;infer_instance
def e8(c:List Co)(n:Int):Int:=
 match c with
 |[]=>0
 |x::c=>if x.n=n then x.k else e8 c n
def xj(n k t:Int)(s:Se):Prop:=s.n=n/\s.k=k/\s.f<=t/\t<s.u
instance (n k t:Int) (s:Se):Decidable (xj n k t s):=by unfold xj;infer_instance
def mO(n k t:Int)(l:List Se):Option Nat:=l.findIdx? fun s=>decide (xj n k t s)
def cnt(l:List Se)(c:List Co)(n t:Int):Option Nat:=
 match mO n 1 t l with
 |some i=>some i
 |none=>if 0<e8 c n then mO n (e8 c n) t l else none
def sL(l:List Se)(i:Nat):Se:=l.getD i ⟨0,0,0,0,0⟩
def jN(l:List Se)(c:List Co)(t:Int):Nat->Int->List Int->List Int->Int×List Int×List Int
 |0,_,p,u=>(6,p,u)
 | m+1,n,p,u=>
  match cnt l c n t with
  |none=>(if 0<e8 c n then e8 c n else 1,p,u)
  |some i=>
   if u.length=5 then(6,p,u)else if(sL l i).t∈p then(5,p++[(sL l i).t],u++[(i:Int)])else jN l c t m (sL l i).t (p++[(sL l i).t]) (u++[(i:Int)])
def zr(l:List Se)(c:List Co)(n t:Int):Prop:=FwV l c/\0<=n/\n<=99999999/\0<=t/\t<=10000000
instance (l:List Se) (c:List Co) (n t:Int):Decidable (zr l c n t):=by unfold zr;infer_instance
def oe(l:List Se)(c:List Co)(n t:Int):Int×List Int×List Int:=jN l c t 7 n [n] []
def yr(l:List Se)(c:List Co)(n t:Int):(Int×List Int×List Int)×Int:=if zr l c n t then(oe l c n t,0)else((0,[],[]),220)
theorem kM{done l:List Se}(h:gU done l):∀(i:Nat) s,l[i]?=some s->SeF s/\(∀r∈done,¬fC r s)/\∀(j:Nat) r,j<i->l[j]?=some r->¬fC r s:=by
 induction l generalizing done with
 |nil=>intro i s hs;simp at hs
 | cons x l ih=>
  intro i s hs;obtain⟨h1,h2,h3⟩:=h;cases i with
  |zero=>
   simp at hs;subst hs
   exact⟨h1,h2,fun j r hj=>by omega⟩
  | succ i=>
   obtain⟨g1,g2,g3⟩:=ih h3 i s (by simpa using hs)
   refine⟨g1,fun r hr=>g2 r (List.mem_append_left _ hr),fun j r hj hr=>?_⟩
   cases j with
   |zero=>
    simp at hr;subst hr
    exact g2 x (List.mem_append_right _ (List.mem_singleton.2 rfl))
   |succ j=>exact g3 j r (by omega) (by simpa using hr)
theorem MV{l:List Se}(h:gU [] l){n k t:Int}{i j:Nat}{s r:Se}(hi:l[i]?=some s)(hj:l[j]?=some r)(hs:xj n k t s)(hr:xj n k t r):i=j:=by
 obtain⟨a1,a2,a3,a4⟩:=hs;obtain⟨b1,b2,b3,b4⟩:=hr;rcases Nat.lt_trichotomy i j with hij|hij|hij
 ·exact absurd ⟨a1.trans b1.symm,a2.trans b2.symm,by omega,by omega⟩ ((kM h j r hj).2.2 i s hij hi)
 ·exact hij
 ·exact absurd ⟨b1.trans a1.symm,b2.trans a2.symm,by omega,by omega⟩ ((kM h i s hi).2.2 j r hij hj)
def tZ(t:Int)(m:List ((Int×Int)×Int))(x:Se×Nat):List ((Int×Int)×Int):=if x.1.f<=t/\t<x.1.u then jO (x.1.n,x.1.k) (x.2:Int) m else m
def lF(t:Int)(l:List Se):List ((Int×Int)×Int):=l.zipIdx.foldl (tZ t) []
theorem Ei(t:Int)(l:List Se)(s:Se):lF t (l++[s])=tZ t (lF t l) (s,l.length):=by
 unfold lF;rw[List.zipIdx_append,List.foldl_append];simp
theorem Mz{l:List Se}(h:gU [] l)(t:Int):∀(i:Nat),i<=l.length->∀(n k x:Int),dv (n,k) (lF t (l.take i))=some x↔∃(j:Nat) (s:Se),j<i/\l[j]?=some s/\xj n k t s/\x=(j:Int):=by
 intro i;induction i with
 |zero=>
  intro _ n k x;constructor
  ·intro h;simp[lF,dv]at h
  ·rintro ⟨j,s,hj,_⟩;omega
 | succ i ih=>
  intro hi n k x;obtain⟨s,hs⟩:∃s,l[i]?=some s:=⟨_,List.getElem?_eq_getElem (by omega)⟩
  have ht:l.take (i+1)=l.take i++[s]:=by rw[List.take_add_one,hs];rfl
  have hl:(l.take i).length=i:=by rw[List.length_take];omega
  rw[ht,Ei,hl];unfold tZ;split
  ·rename_i hh
   rw[Hq];split
   ·rename_i hk
    cases hk
    constructor
    ·intro hx
     cases hx
     exact⟨i,s,by omega,hs,⟨rfl,rfl,hh.1,hh.2⟩,rfl⟩
    ·rintro ⟨j,r,hj,hr,hf,rfl⟩
     rw[MV h hr hs hf ⟨rfl,rfl,hh.1,hh.2⟩]
   ·rename_i hk
    rw[ih (by omega)]
    constructor
    ·rintro ⟨j,r,hj,hr,hf,rfl⟩;exact⟨j,r,by omega,hr,hf,rfl⟩
    ·rintro ⟨j,r,hj,hr,hf,rfl⟩
     by_cases e:j=i
     ·subst e
      rw[hs]at hr;cases hr
      exact absurd (by rw[hf.1,hf.2.1]) hk
     ·exact⟨j,r,by omega,hr,hf,rfl⟩
  ·rename_i hh
   rw[ih (by omega)]
   constructor
   ·rintro ⟨j,r,hj,hr,hf,rfl⟩;exact⟨j,r,by omega,hr,hf,rfl⟩
   ·rintro ⟨j,r,hj,hr,hf,rfl⟩
    by_cases e:j=i
    ·subst e
     rw[hs]at hr;cases hr
     exact absurd hf.2.2 hh
    ·exact⟨j,r,by omega,hr,hf,rfl⟩
theorem o7{l:List Se}{n k t:Int}{i:Nat}(h:mO n k t l=some i):∃s,l[i]?=some s/\xj n k t s:=by
 unfold mO at h;rw[List.findIdx?_eq_some_iff_getElem]at h;obtain⟨hi,h1,_⟩:=h;exact⟨_,List.getElem?_eq_getElem hi,of_decide_eq_true h1⟩
theorem KG{l:List Se}{n k t:Int}(h:mO n k t l=none):∀s∈l,¬xj n k t s:=by
 unfold mO at h;rw[List.findIdx?_eq_none_iff]at h;intro s hs hf;have:=h s hs
 simp[hf]at this
theorem DW{l:List Se}(h:gU [] l)(t n k:Int):dv (n,k) (lF t l)=(mO n k t l).map Int.ofNat:=by
 have key:=Mz h t l.length (Nat.le_refl _) n k;rw[List.take_length]at key;cases hf:mO n k t l with
 |some i=>
  obtain⟨s,hs,hfit⟩:=o7 hf;exact(key _).2 ⟨i,s,(List.getElem?_eq_some_iff.1 hs).1,hs,hfit,rfl⟩
 | none=>
  show _=none
  cases ha:dv (n,k) (lF t l)with
  |none=>rfl
  |some x=>
   obtain⟨j,s,_,hs,hfit,_⟩:=(key x).1 ha;exact absurd hfit (KG hf s (List.mem_of_getElem? hs))
def mS(c:List Co):List (Int×Int):=c.foldl (fun m x=>jO x.n x.k m) []
theorem BT(c:List Co)(x:Co):mS (c++[x])=jO x.n x.k (mS c):=by
 unfold mS;rw[List.foldl_append];rfl
theorem CV{last:Int}{c:List Co}(h:gP last c):∀(i:Nat) x,c[i]?=some x->last<x.n/\2<=x.k/\x.k<=4/\x.n<=99999999/\∀(j:Nat) y,j<i->c[j]?=some y->y.n<x.n:=by
 induction c generalizing last with
 |nil=>intro i x hx;simp at hx
 | cons z c ih=>
  intro i x hx;obtain⟨h1,h2,h3,h4,h5⟩:=h;cases i with
  |zero=>simp at hx;subst hx;exact⟨h1,h3,h4,h2,fun j y hj=>by omega⟩
  |succ i=>
   obtain⟨g1,g2,g3,g4,g5⟩:=ih h5 i x (by simpa using hx)
   refine⟨by omega,g2,g3,g4,fun j y hj hy=>?_⟩
   cases j with
   |zero=>simp at hy;subst hy;exact g1
   |succ j=>exact g5 j y (by omega) (by simpa using hy)
theorem vw(c:List Co)(n:Int):(∃x∈c,x.n=n/\e8 c n=x.k)\/((∀x∈c,x.n≠n)/\e8 c n=0):=by
 induction c with
 |nil=>exact .inr ⟨fun x hx=>(by cases hx),rfl⟩
 | cons z c ih=>
  by_cases h:z.n=n
  ·exact .inl ⟨z,List.mem_cons_self ..,h,by simp[e8,h]⟩
  ·rcases ih with⟨x,hx,h1,h2⟩|⟨h1,h2⟩
   ·exact .inl ⟨x,List.mem_cons_of_mem _ hx,h1,by simp[e8,h,h2]⟩
   ·refine .inr ⟨fun x hx=>?_,by simp[e8,h,h2]⟩
    rcases List.mem_cons.1 hx with rfl|hx
    ·exact h
    ·exact h1 x hx
theorem Lu(c:List Co)(h:gP (-1) c):∀(i:Nat),i<=c.length->∀(n x:Int),dv n (mS (c.take i))=some x↔∃(j:Nat) (y:Co),j<i/\c[j]?=some y/\y.n=n/\x=y.k:=by
 intro i;induction i with
 |zero=>
  intro _ n x;constructor
  ·intro h;simp[mS,dv]at h
  ·rintro ⟨j,s,hj,_⟩;omega
 | succ i ih=>
  intro hi n x;obtain⟨y,hy⟩:∃y,c[i]?=some y:=⟨_,List.getElem?_eq_getElem (by omega)⟩
  have ht:c.take (i+1)=c.take i++[y]:=by rw[List.take_add_one,hy];rfl
  rw[ht,BT,Hq];split
  ·rename_i hk
   subst hk;constructor
   ·intro hx;cases hx;exact⟨i,y,by omega,hy,rfl,rfl⟩
   ·rintro ⟨j,z,hj,hz,hn,rfl⟩
    by_cases e:j=i
    ·subst e;rw[hy]at hz;cases hz;rfl
    ·have:=(CV h i y hy).2.2.2.2 j z (by omega) hz;omega
  ·rename_i hk
   rw[ih (by omega)]
   constructor
   ·rintro ⟨j,z,hj,hz,hn,rfl⟩;exact⟨j,z,by omega,hz,hn,rfl⟩
   ·rintro ⟨j,z,hj,hz,hn,rfl⟩
    by_cases e:j=i
    ·subst e;rw[hy]at hz;cases hz;exact absurd hn.symm hk
    ·exact⟨j,z,by omega,hz,hn,rfl⟩
theorem Bc{c:List Co}(h:gP (-1) c)(n:Int):(dv n (mS c)).getD 0=e8 c n:=by
 have key:=Lu c h c.length (Nat.le_refl _) n;rw[List.take_length]at key;rcases vw c n with⟨x,hx,h1,h2⟩|⟨h1,h2⟩
 ·obtain⟨j,hj⟩:=List.getElem?_of_mem hx
  rw[(key x.k).2 ⟨j,x,(List.getElem?_eq_some_iff.1 hj).1,hj,h1,rfl⟩,h2];rfl
 ·rw[h2]
  cases ha:dv n (mS c)with
  |none=>rfl
  |some x=>
   obtain⟨j,y,_,hy,hn,_⟩:=(key x).1 ha;exact absurd hn (h1 y (List.mem_of_getElem? hy))
theorem Ic{l:List Se}{c:List Co}(h:FwV l c)(n t:Int):
  (cnt l c n t).map Int.ofNat=match dv (n,1) (lF t l)with
   |some x=>some x
   |none=>dv (n,(dv n (mS c)).getD 0) (lF t l):=by
 obtain⟨⟨_,hs⟩,_,hc⟩:=h;rw[DW hs,Bc hc,DW hs];unfold cnt;cases mO n 1 t l with
 |some i=>rfl
 | none=>
  simp only[Option.map_none];by_cases h0:0<e8 c n
  ·rw[if_pos h0]
  ·rw[if_neg h0]
   have hk:e8 c n=0:=by
    rcases vw c n with⟨x,hx,_,h2⟩|⟨_,h2⟩
    ·obtain⟨j,hj⟩:=List.getElem?_of_mem hx
     have:=(CV hc j x hj).2.1;omega
    ·exact h2
   rw[hk];show none=_
   cases hf:mO n 0 t l with
   |none=>rfl
   |some i=>
    obtain⟨s,hs',hfit⟩:=o7 hf;have:=(kM hs i s hs').1
    obtain⟨_,_,_,_,_,h6,_⟩:=this;rw[hfit.2.1]at h6;omega
end Go.Dial.Fwd
namespace Go.Dial.Lif
structure Ev where
 k:Int
 a:Int
 h:Int
deriving DecidableEq
structure Ln where
 s:Int
 h:Int
 e:Int
 t:Int
deriving DecidableEq
structure St where
 h:Int
 e:Int
 f:Int
 t:Int
deriving DecidableEq
def first:Ln:=⟨0,-1,0,0⟩
def zero:Ln:=⟨0,0,0,0⟩
def Vld(l:Ln):Prop:=0<=l.s/\l.s<=3/\0<=l.e/\l.e<=1000/\0<=l.t/\l.t<=10000000/\(l.s=0->l.h= -1)/\(l.s≠0->0<=l.h/\l.h<=63/\1<=l.e)
instance (l:Ln):Decidable (Vld l):=by unfold Vld;infer_instance
def pY(l:Ln):Bool:=decide (Vld l)
def l3(k:Int):Prop:=k=1\/k=2
instance (k:Int):Decidable (l3 k):=by unfold l3;infer_instance
def Frm(e:Ev):Prop:=1<=e.k/\e.k<=7/\0<=e.a/\e.a<=10000000/\(l3 e.k->0<=e.h/\e.h<=63)/\(¬l3 e.k->e.h= -1)
instance (e:Ev):Decidable (Frm e):=by unfold Frm;infer_instance
def sU(e:Ev):Bool:=decide (Frm e)
def Pos(l:Ln)(e:Ev):Prop:=l.t<=e.a/\((e.k=1/\l.s=0/\l.e<1000)\/(e.k=2/\l.s=1/\l.h≠e.h/\l.e<1000)\/(e.k=3/\l.s=1)\/(e.k=4/\l.s=2)\/(e.k=5/\(l.s=1\/l.s=2))\/(e.k=6/\l.s=3)\/(e.k=7/\l.s=3/\l.t+2592000<=e.a))
instance (l:Ln) (e:Ev):Decidable (Pos l e):=by unfold Pos;infer_instance
def nxt(l:Ln)(e:Ev):Ln:=
 if e.k=1\/e.k=2 then⟨1,e.h,l.e+1,e.a⟩else if e.k=3 then⟨2,l.h,l.e,e.a⟩else if e.k=4\/e.k=6 then⟨1,l.h,l.e,e.a⟩else if e.k=5 then⟨3,l.h,l.e,e.a⟩else⟨0,-1,l.e,e.a⟩
def Ok(l:Ln)(e:Ev):Prop:=Vld l/\Frm e/\Pos l e
instance (l:Ln) (e:Ev):Decidable (Ok l e):=by unfold Ok;infer_instance
def qZ(l:Ln)(e:Ev):Ln×Int:=if Ok l e then(nxt l e,0)else(zero,140)
theorem uK{l:Ln}{e:Ev}(h:Ok l e):qZ l e=(nxt l e,0):=if_pos h
theorem jg{l:Ln}{e:Ev}(h:¬Ok l e):qZ l e=(zero,140):=if_neg h
theorem Lm:Vld first:=by decide
theorem Oo{l:Ln}{e:Ev}(h:Ok l e):Vld (nxt l e):=by
 obtain⟨⟨h1,h2,h3,h4,h5,h6,h7,h8⟩,⟨f1,f2,f3,f4,f5,f6⟩,p1,p2⟩:=h;unfold l3 at f5 f6;unfold nxt;by_cases c1:e.k=1\/e.k=2
 ·rw[if_pos c1];have:=f5 c1;refine⟨?_,?_,?_,?_,?_,?_,?_,?_⟩<;>simp only<;>omega
 rw[if_neg c1];by_cases c3:e.k=3
 ·rw[if_pos c3];have:=h8 (by omega);refine⟨?_,?_,?_,?_,?_,?_,?_,?_⟩<;>simp only<;>omega
 rw[if_neg c3];by_cases c4:e.k=4\/e.k=6
 ·rw[if_pos c4];have:=h8 (by omega);refine⟨?_,?_,?_,?_,?_,?_,?_,?_⟩<;>simp only<;>omega
 rw[if_neg c4];by_cases c5:e.k=5
 ·rw[if_pos c5];have:=h8 (by omega);refine⟨?_,?_,?_,?_,?_,?_,?_,?_⟩<;>simp only<;>omega
 rw[if_neg c5];refine⟨?_,?_,?_,?_,?_,?_,?_,?_⟩<;>simp<;>omega
theorem NN(l:Ln)(e:Ev):(nxt l e).t=e.a:=by unfold nxt;split;rfl;split;rfl;split;rfl;split<;>rfl
def dS:Ln->List Ev->Ln×Nat
 |l,[]=>(l,0)
 |l,e::es=>if Ok l e then((dS (nxt l e) es).1,(dS (nxt l e) es).2+1)else(l,0)
theorem OQ(l:Ln)(es:List Ev):(dS l es).2<=es.length:=by
 induction es generalizing l with
 |nil=>simp[dS]
 |cons e es ih=>unfold dS;split<;>simp;exact ih _
def All:Ln->List Ev->Prop
 |_,[]=>True
 |l,e::es=>Ok l e/\All (nxt l e) es
def fin(l:Ln)(es:List Ev):Ln:=es.foldl nxt l
theorem runF_all{l:Ln}{es:List Ev}:(dS l es).2=es.length↔All l es:=by
 induction es generalizing l with
 |nil=>simp[dS,All]
 |cons e es ih=>
  unfold dS All;by_cases h:Ok l e
  ·rw[if_pos h];simp only[List.length_cons,Nat.add_right_cancel_iff,ih,h,true_and]
  ·rw[if_neg h];simp[h]
theorem HJ{l:Ln}{es:List Ev}(h:All l es):dS l es=(fin l es,es.length):=by
 induction es generalizing l with
 |nil=>rfl
 |cons e es ih=>
  obtain⟨h1,h2⟩:=h;rw[dS,if_pos h1,ih h2];rfl
theorem Np{l:Ln}(hl:Vld l)(es:List Ev):Vld (dS l es).1:=by
 induction es generalizing l with
 |nil=>exact hl
 |cons e es ih=>
  unfold dS;by_cases h:Ok l e
  ·rw[if_pos h];exact ih (Oo h)
  ·rw[if_neg h];exact hl
theorem Ng{l:Ln}{a b:List Ev}(h:All l a):dS l (a++b)=((dS (fin l a) b).1,a.length+(dS (fin l a) b).2):=by
 induction a generalizing l with
 |nil=>simp[fin]
 |cons e a ih=>
  obtain⟨h1,h2⟩:=h;rw[List.cons_append,dS,if_pos h1,ih h2];simp[fin];omega
theorem uh{l:Ln}{a b:List Ev}:All l (a++b)↔All l a/\All (fin l a) b:=by
 induction a generalizing l with
 |nil=>simp[All,fin]
 |cons e a ih=>simp only[List.cons_append,All,ih,fin,List.foldl_cons,and_assoc]
theorem yO(l:Ln)(a b:List Ev):fin l (a++b)=fin (fin l a) b:=by simp[fin]
theorem OJ{l:Ln}{es:List Ev}(hl:Vld l)(h:All l es):Vld (fin l es):=by
 have:=Np hl es
 rwa [HJ h]at this
theorem GI{l:Ln}{es:List Ev}(h:All l es)(k:Nat):All l (es.take k):=by
 rw[<-List.take_append_drop k es,uh]at h;exact h.1
def lX(es:List Ev):(Ln×Nat)×Int:=if(dS first (es.take 40)).2=es.length then(((dS first (es.take 40)).1,es.length),0)else((zero,(dS first (es.take 40)).2),140)
def gk(es:List Ev):Prop:=All first es/\es.length<=40
theorem life_iff{es:List Ev}:(dS first (es.take 40)).2=es.length↔gk es:=by
 constructor
 ·intro h
  have h1:=OQ first (es.take 40);have h2:es.length<=40:=by simp at h1;omega
  rw[List.take_of_length_le h2]at h;exact⟨runF_all.1 h,h2⟩
 ·rintro ⟨h1,h2⟩
  rw[List.take_of_length_le h2];exact runF_all.2 h1
instance (es:List Ev):Decidable (gk es):=decidable_of_iff _ life_iff
theorem m5{es:List Ev}(h:gk es):lX es=((fin first es,es.length),0):=by
 rw[lX,if_pos (life_iff.2 h),List.take_of_length_le h.2,HJ h.1]
theorem DJ{es:List Ev}(h:¬gk es):lX es=((zero,(dS first (es.take 40)).2),140):=by
 rw[lX,if_neg (fun e=>h (life_iff.1 e))]
theorem L2{es:List Ev}(h:gk es)(k:Nat):gk (es.take k):=⟨GI h.1 k,by have:=h.2;simp;omega⟩
theorem LH{l:Ln}{es:List Ev}(h:All l es):∀e∈es,l.t<=e.a:=by
 induction es generalizing l with
 |nil=>simp
 |cons x es ih=>
  obtain⟨h1,h2⟩:=h;intro e he;have hx:=h1.2.2.1;rcases List.mem_cons.1 he with rfl|he
  ·exact hx
  ·have:=ih h2 e he;rw[NN]at this;omega
theorem KS{l:Ln}{es:List Ev}(h:All l es){i j:Nat}(hij:i<=j)(hj:j<es.length):(es[i]'(by omega)).a<=es[j].a:=by
 induction es generalizing l i j with
 |nil=>simp at hj
 | cons x es ih=>
  obtain⟨h1,h2⟩:=h;cases i with
  | zero=>
   cases j with
   |zero=>exact Int.le_refl _
   |succ j=>
    have:=LH h2 (es[j]'(by simpa using hj)) (List.getElem_mem _)
    rw[NN]at this;simpa using this
  |succ i=>
   cases j with
   |zero=>omega
   |succ j=>simpa using ih h2 (i:=i) (j:=j) (by omega) (by simpa using hj)
def cc(es:List Ev)(t:Int):Nat:=(es.takeWhile fun e=>decide (e.a<=t)).length
theorem Db(es:List Ev)(t:Int):cc es t<=es.length:=by
 unfold cc;exact List.Sublist.length_le (List.takeWhile_sublist _)
theorem OS{es:List Ev}{t:Int}{i:Nat}(h:i<cc es t):(es[i]'(Nat.lt_of_lt_of_le h (Db es t))).a<=t:=by
 have h1:i<(es.takeWhile fun e=>decide (e.a<=t)).length:=h
 have h2:=List.all_eq_true.1 List.all_takeWhile _ (List.getElem_mem h1);have h3:(es.takeWhile fun e=>decide (e.a<=t))[i]=es[i]'(Nat.lt_of_lt_of_le h (Db es t)):=by
  have:=(List.takeWhile_prefix (fun e:Ev=>decide (e.a<=t)) (l:=es))
  exact List.IsPrefix.getElem this h1
 rw[h3]at h2;simpa using h2
theorem Oh{es:List Ev}{t:Int}(h:cc es t<es.length):t<(es[cc es t]).a:=by
 induction es with
 |nil=>simp at h
 | cons x es ih=>
  by_cases hx:x.a<=t
  ·have e:cc (x::es) t=cc es t+1:=by simp[cc,hx]
   simp only[e]at h⊢;simpa using ih (by simpa using h)
  ·have e:cc (x::es) t=0:=by simp[cc,hx]
   simp only[e];simpa using hx
def atL(es:List Ev)(t:Int):Ln:=fin first (es.take (cc es t))
def kI(es:List Ev)(t:Int):Prop:=gk es/\0<=t/\t<=10000000
instance (es:List Ev) (t:Int):Decidable (kI es t):=by unfold kI;infer_instance
def atR(es:List Ev)(t:Int):Ln×Int:=if kI es t then(atL es t,0)else(zero,140)
def NG(l:Ln):Prop:=l.s=1\/l.s=2
instance (l:Ln):Decidable (NG l):=by unfold NG;infer_instance
def Ii(es:List Ev)(t:Int):Prop:=kI es t/\NG (atL es t)
instance (es:List Ev) (t:Int):Decidable (Ii es t):=by unfold Ii;infer_instance
def LV(es:List Ev)(me ma t:Int):Prop:=Ii es ma/\(atL es ma).e=me/\ma<=t/\t<=10000000
instance (es:List Ev) (me ma t:Int):Decidable (LV es me ma t):=by unfold LV;infer_instance
end Go.Dial.Lif
namespace Go.Dial.Clm
structure Rl where
 a:Int
 c:Int
 s:Int
 r:Int
deriving DecidableEq
structure Cl where
 n:Int
 f:Int
 t:Int
 h:Int
 a:Int
 b:Bool
deriving DecidableEq
structure Ce where
 k:Int
 a:Int
 r:Int
deriving DecidableEq
structure Cs where
 s:Int
 f:Int
 n:Int
deriving DecidableEq
def RlV(r:Rl):Prop:=1<=r.a/\r.a<=1000000/\1<=r.c/\r.c<=1000000/\1<=r.s/\r.s<=1000000/\1<=r.r/\r.r<=1000000
instance (r:Rl):Decidable (RlV r):=by unfold RlV;infer_instance
def ClV(c:Cl):Prop:=0<=c.n/\c.n<=99999999/\0<=c.f/\c.f<=7/\0<=c.t/\c.t<=7/\c.f≠c.t/\0<=c.h/\c.h<=63/\0<=c.a/\c.a<=10000000
instance (c:Cl):Decidable (ClV c):=by unfold ClV;infer_instance
def CeV(last:Int)(e:Ce):Prop:=1<=e.k/\e.k<=6/\last<=e.a/\e.a<=20000000/\(e.k=2\/e.k=6->1<=e.r/\e.r<=9)/\(¬(e.k=2\/e.k=6)->e.r=0)
instance (last:Int) (e:Ce):Decidable (CeV last e):=by unfold CeV;infer_instance
def EvV:Int->List Ce->Prop
 |_,[]=>True
 |last,e::es=>CeV last e/\EvV e.a es
instance EvV.dec:(last:Int)->(es:List Ce)->Decidable (EvV last es)
 |_,[]=>.isTrue trivial
 |last,e::es=>by
  have:=EvV.dec e.a es
  unfold EvV;infer_instance
def f9(r:Rl)(c:Cl)(es:List Ce):Prop:=RlV r/\ClV c/\es.length<=20/\EvV c.a es
instance (r:Rl) (c:Cl) (es:List Ce):Decidable (f9 r c es):=by unfold f9;infer_instance
def dur(r:Rl)(s:Int):Int:=if s=1 then r.a else if s=2 then r.s else if s=3 then r.c else r.r
def st(r:Rl)(s f:Int):Cs:=⟨s,f,if 1<=s/\s<=4 then f+dur r s else -1⟩
def aft(s:Int):Int:=if s=3 then 4 else if s=4 then 5 else 3
def bec(b:Bool)(s:Int)(e:Ce):Int:=
 if e.k=1 then(if s=1 then 3 else -1)else if e.k=2 then(if s=1 then(if e.r=1 then(if b then -1 else 6)else 2)else -1)else if e.k=3 then(if s=2 then 3 else -1)else if e.k=4 then(if s=2 then 6 else -1)else if e.k=5 then(if s=1\/s=2\/s=3 then 7 else -1)else if e.k=6 then(if s=4 then(if e.r=1/\b then -1 else 8)else -1)else -1
def act(x:Cs):Prop:=1<=x.s/\x.s<=4
instance (x:Cs):Decidable (act x):=by unfold act;infer_instance
def rk(s:Int):Nat:=if s=1\/s=2 then 3 else if s=3 then 2 else if s=4 then 1 else 0
theorem gW(s:Int):rk s<=3:=by unfold rk;split;omega;split;omega;split<;>omega
theorem fq{s:Int}(h:1<=s/\s<=4):rk (aft s)<rk s:=by
 have:s=1\/s=2\/s=3\/s=4:=by omega
 rcases this with rfl|rfl|rfl|rfl<;>decide
def tl(r:Rl)(b:Bool):Cs->List Ce->List Cs
 |now,e::es=>if h:act now/\now.n<=e.a then st r (aft now.s) now.n::tl r b (st r (aft now.s) now.n) (e::es)else if bec b now.s e<0 then tl r b now es else st r (bec b now.s e) e.a::tl r b (st r (bec b now.s e) e.a) es
 |now,[]=>if h:act now then st r (aft now.s) now.n::tl r b (st r (aft now.s) now.n) []else[]
termination_by now es=>5*es.length+rk now.s
decreasing_by
 ·have:=fq h.1
  simp only[st];omega
 ·have:=gW now.s
  simp only[List.length_cons];omega
 ·have:=gW (st r (bec b now.s e) e.a).s
  simp only[List.length_cons];omega
 ·have:=fq h
  simp only[st];omega
theorem uq{r:Rl}{b:Bool}{now:Cs}{e:Ce}{es:List Ce}(h:act now/\now.n<=e.a):tl r b now (e::es)=st r (aft now.s) now.n::tl r b (st r (aft now.s) now.n) (e::es):=by
 rw[tl,dif_pos h]
theorem zk{r:Rl}{b:Bool}{now:Cs}{e:Ce}{es:List Ce}(h:¬(act now/\now.n<=e.a))(hb:bec b now.s e<0):tl r b now (e::es)=tl r b now es:=by
 rw[tl,dif_neg h,if_pos hb]
theorem BI{r:Rl}{b:Bool}{now:Cs}{e:Ce}{es:List Ce}(h:¬(act now/\now.n<=e.a))(hb:¬bec b now.s e<0):tl r b now (e::es)=st r (bec b now.s e) e.a::tl r b (st r (bec b now.s e) e.a) es:=by
 rw[tl,dif_neg h,if_neg hb]
theorem xA{r:Rl}{b:Bool}{now:Cs}(h:act now):tl r b now []=st r (aft now.s) now.n::tl r b (st r (aft now.s) now.n) []:=by
 rw[tl,dif_pos h]
theorem tC{r:Rl}{b:Bool}{now:Cs}(h:¬act now):tl r b now []=[]:=by
 rw[tl,dif_neg h]
theorem Br{r:Rl}{b:Bool}(P:Cs->Prop)(A:Cs->List Ce->Prop)
  (h1:∀now e es,A now (e::es)->act now->now.n<=e.a->P (st r (aft now.s) now.n)/\A (st r (aft now.s) now.n) (e::es))
  (h2:∀now e es,A now (e::es)->¬(act now/\now.n<=e.a)->bec b now.s e<0->A now es)
  (h3:∀now e es,A now (e::es)->¬(act now/\now.n<=e.a)->¬bec b now.s e<0->P (st r (bec b now.s e) e.a)/\A (st r (bec b now.s e) e.a) es)
  (h4:∀now,A now []->act now->P (st r (aft now.s) now.n)/\A (st r (aft now.s) now.n) []):∀(m:Nat) now es,5*es.length+rk now.s<=m->A now es->∀x∈tl r b now es,P x:=by
 intro m;induction m with
 | zero=>
  intro now es hm hA x hx;have he:es=[]:=by
   cases es with
   |nil=>rfl
   |cons e es=>simp at hm
  subst he;by_cases ha:act now
  ·have:=fq ha;omega
  ·rw[tC ha]at hx;cases hx
 | succ m ih=>
  intro now es hm hA x hx;cases es with
  | nil=>
   by_cases ha:act now
   ·rw[xA ha]at hx
    obtain⟨p,q⟩:=h4 now hA ha;rcases List.mem_cons.1 hx with rfl|hx
    ·exact p
    ·exact ih _ _ (by have:=fq ha;simp only[st];omega) q x hx
   ·rw[tC ha]at hx;cases hx
  | cons e es=>
   by_cases ha:act now/\now.n<=e.a
   ·rw[uq ha]at hx
    obtain⟨p,q⟩:=h1 now e es hA ha.1 ha.2;rcases List.mem_cons.1 hx with rfl|hx
    ·exact p
    ·exact ih _ _ (by have:=fq ha.1;simp only[st];omega) q x hx
   ·by_cases hb:bec b now.s e<0
    ·rw[zk ha hb]at hx
     exact ih _ _ (by simp only[List.length_cons]at hm;have:=gW now.s;omega) (h2 now e es hA ha hb) x hx
    ·rw[BI ha hb]at hx
     obtain⟨p,q⟩:=h3 now e es hA ha hb;rcases List.mem_cons.1 hx with rfl|hx
     ·exact p
     ·exact ih _ _ (by simp only[List.length_cons]at hm;have:=gW (st r (bec b now.s e) e.a).s;omega) q x hx
theorem IL{r:Rl}{b:Bool}:∀(m:Nat) now es,5*es.length+rk now.s<=m->(tl r b now es).length<=5*es.length+rk now.s:=by
 intro m;induction m with
 | zero=>
  intro now es hm;have he:es=[]:=by
   cases es with
   |nil=>rfl
   |cons e es=>simp at hm
  subst he;by_cases ha:act now
  ·have:=fq ha;omega
  ·rw[tC ha];simp
 | succ m ih=>
  intro now es hm;cases es with
  | nil=>
   by_cases ha:act now
   ·rw[xA ha]
    have h1:=fq ha;have:=ih (st r (aft now.s) now.n) [] (by simp only[st];omega)
    simp only[st,List.length_cons,List.length_nil]at this⊢;omega
   ·rw[tC ha];simp
  | cons e es=>
   by_cases ha:act now/\now.n<=e.a
   ·rw[uq ha]
    have h1:=fq ha.1;have:=ih (st r (aft now.s) now.n) (e::es) (by simp only[st];omega)
    simp only[st,List.length_cons]at this⊢;omega
   ·by_cases hb:bec b now.s e<0
    ·rw[zk ha hb]
     simp only[List.length_cons]at hm⊢;have h1:=gW now.s;have:=ih now es (by omega)
     omega
    ·rw[BI ha hb]
     simp only[List.length_cons]at hm⊢;have h1:=gW (st r (bec b now.s e) e.a).s;have:=ih (st r (bec b now.s e) e.a) es (by omega)
     omega
theorem G4{l:Int}{es:List Ce}(h:EvV l es):∀e∈es,l<=e.a/\e.a<=20000000:=by
 induction es generalizing l with
 |nil=>intro e he;cases he
 | cons x es ih=>
  intro e he;rcases List.mem_cons.1 he with rfl|he
  ·exact⟨h.1.2.2.1,h.1.2.2.2.1⟩
  ·have:=ih h.2 e he
   have:=h.1.2.2.1
   omega
theorem PA{r:Rl}(h:RlV r)(s:Int):1<=dur r s/\dur r s<=1000000:=by
 unfold RlV at h;unfold dur;split;omega;split;omega;split<;>omega
theorem sQ{r:Rl}(h:RlV r){s f:Int}(ha:1<=s/\s<=4):f<(st r s f).n/\(st r s f).n<=f+1000000:=by
 have:=PA h s
 simp only[st];rw[if_pos ha];omega
theorem NO{r:Rl}(hr:RlV r){b:Bool}{now:Cs}{es:List Ce}{m:Int}(h1:act now->m<=now.n)(h2:∀e∈es,m<=e.a):∀x∈tl r b now es,m<=x.f:=by
 refine Br (r:=r) (b:=b) (fun x=>m<=x.f) (fun now es=>(act now->m<=now.n)/\∀e∈es,m<=e.a) ?_ ?_ ?_ ?_ _ now es (Nat.le_refl _) ⟨h1,h2⟩
 ·intro now e es ⟨g1,g2⟩ ha hle
  exact⟨g1 ha,fun hx=>by have:=sQ hr (s:=aft now.s) (f:=now.n) hx;have:=g1 ha;omega,g2⟩
 ·intro now e es ⟨g1,g2⟩ _ _
  exact⟨g1,fun x hx=>g2 x (List.mem_cons_of_mem _ hx)⟩
 ·intro now e es ⟨g1,g2⟩ _ _
  have:=g2 e (List.mem_cons_self ..)
  exact⟨this,fun hx=>by have:=sQ hr (s:=bec b now.s e) (f:=e.a) hx;omega,fun x hx=>g2 x (List.mem_cons_of_mem _ hx)⟩
 ·intro now ⟨g1,g2⟩ ha
  exact⟨g1 ha,fun hx=>by have:=sQ hr (s:=aft now.s) (f:=now.n) hx;have:=g1 ha;omega,g2⟩
theorem P3{r:Rl}(hr:RlV r){b:Bool}{now:Cs}{es:List Ce}(h1:now.f+1000000*rk now.s<=23000000)(h0:act now->now.n<=now.f+1000000)(h2:∀e∈es,e.a<=20000000):∀x∈tl r b now es,x.f<=23000000:=by
 refine Br (r:=r) (b:=b) (fun x=>x.f<=23000000) (fun now es=>now.f+1000000*rk now.s<=23000000/\(act now->now.n<=now.f+1000000)/\∀e∈es,e.a<=20000000) ?_ ?_ ?_ ?_ _ now es (Nat.le_refl _) ⟨h1,h0,h2⟩
 ·intro now e es ⟨g1,g0,g2⟩ ha hle
  have k1:=fq ha;have k2:=g0 ha;refine⟨?_,?_,fun hx=>(sQ hr hx).2,g2⟩
  ·simp only[st];omega
  ·simp only[st];omega
 ·intro now e es ⟨g1,g0,g2⟩ _ _
  exact⟨g1,g0,fun x hx=>g2 x (List.mem_cons_of_mem _ hx)⟩
 ·intro now e es ⟨g1,g0,g2⟩ _ _
  have k1:=g2 e (List.mem_cons_self ..);have k2:=gW (st r (bec b now.s e) e.a).s;refine⟨?_,?_,fun hx=>(sQ hr hx).2,fun x hx=>g2 x (List.mem_cons_of_mem _ hx)⟩
  ·simp only[st];omega
  ·simp only[st]at k2⊢;omega
 ·intro now ⟨g1,g0,g2⟩ ha
  have k1:=fq ha;have k2:=g0 ha;refine⟨?_,?_,fun hx=>(sQ hr hx).2,g2⟩
  ·simp only[st];omega
  ·simp only[st];omega
def x0(r:Rl)(c:Cl):Cs:=st r 1 c.a
def aF(r:Rl)(c:Cl)(es:List Ce):List Cs:=x0 r c::tl r c.b (x0 r c) es
def db(u:Int)(l:List Cs):List Cs:=l.takeWhile fun x=>decide (x.f<=u)
def jL(r:Rl)(c:Cl)(es:List Ce)(t:Int):Cs:=((db t (aF r c es)).getLast?).getD ⟨0,0,c.a⟩
def rB(r:Rl)(c:Cl)(es:List Ce)(t:Int):Prop:=f9 r c es/\0<=t/\t<=20000000
instance (r:Rl) (c:Cl) (es:List Ce) (t:Int):Decidable (rB r c es t):=by unfold rB;infer_instance
def outR(r:Rl)(c:Cl)(es:List Ce)(t:Int):Cs×Int:=if rB r c es t then(jL r c es t,0)else(⟨0,0,0⟩,160)
def NP(r:Rl)(c:Cl):Int:=c.a+r.a-1+r.s+r.c+r.r
end Go.Dial.Clm
namespace Go.Dial.Ref
open Go.Sx Go.Dial.Flo Go.Dial.Rou Go.Dial.Fwd Go.Dial.Lif Go.Dial.Clm
structure Gr where
 ls:List (Int×List Ev)
 ss:List Se
 cs:List Co
 h:List Int
 k:List Int
 lag:Int
 r:Rl
 c:Cl
 ce:List Ce
 nn:Int
 es:List Ed
def LsV:Int->List (Int×List Ev)->Prop
 |_,[]=>True
 |last,x::l=>gk x.2/\last<x.1/\x.1<=99999999/\LsV x.1 l
def NU:∀(last:Int) (l:List (Int×List Ev)),Decidable (LsV last l)
 |_,[]=>.isTrue trivial
 |last,x::l=>
  have:=NU x.1 l
  inferInstanceAs (Decidable (gk x.2/\last<x.1/\x.1<=99999999/\LsV x.1 l))
instance (last:Int) (l:List (Int×List Ev)):Decidable (LsV last l):=NU last l
def GrV(g:Gr):Prop:=g.ls.length<=10/\LsV (-1) g.ls/\FwV g.ss g.cs/\RoV g.h g.k g.lag/\f9 g.r g.c g.ce/\NetV g.nn g.es/\g.nn=8
instance (g:Gr):Decidable (GrV g):=by unfold GrV;infer_instance
structure Small (g:Gr):Prop where
 ls:g.ls.length<=1000
 ev:∀x∈g.ls,x.2.length<=1000
 ss:g.ss.length<=1000
 cs:g.cs.length<=1000
 ce:g.ce.length<=1000
 es:g.es.length<=1000
def dn:List (Int×List Ev)->Int->Int->Bool
 |[],_,_=>false
 |x::l,num,t=>if x.1=num then decide ((atR x.2 t).1.s=1)else dn l num t
def sI(p:List Int):Int:=(p.getLast?).getD 0
def bF(p:List (Int×Int)):Int:=((p.getLast?).getD (0,0)).1
def NY(g:Gr)(t:Int):Int:=if(jL g.r g.c g.ce t).s=4\/(jL g.r g.c g.ce t).s=5 then g.c.t else g.c.f
def Unp(g:Gr)(t:Int)(p:List Int)(q:List (Int×Int)):Prop:=g.c.n=sI p/\(bF q=g.c.f\/bF q=g.c.t)/\bF q≠NY g t
instance (g:Gr) (t:Int) (p:List Int) (q:List (Int×Int)):Decidable (Unp g t p q):=by unfold Unp;infer_instance
structure Rf where
 k:Int
 n:Int
 rk:Int
 rp:List Int
 ru:List Int
 hs:List (Int×Int)
 s:Int
 deriving DecidableEq
def vf:Rf:=⟨0,0,0,[],[],[],0⟩
open Classical in
noncomputable def rS (es:List Ed) (a:Int):Int:=if h:∃s,IsR es a s then Classical.choose h else 0
theorem P5{es:List Ed}{a s:Int}(h:IsR es a s):rS es a=s:=by
 have hx:∃s,IsR es a s:=⟨s,h⟩
 unfold rS;rw[dif_pos hx];exact Or (Classical.choose_spec hx) h
open Classical in
noncomputable def sP (g:Gr) (t c:Int) (w:Int×List Int×List Int) (p:List (Int×Int)×Int):Rf×Bool:=
 match w.2.1.find? (fun x=> !dn g.ls x t)with
 |some x=>(⟨1,x,0,[],[],[],0⟩,true)
 | none=>
  if w.1=5\/w.1=6 then(⟨2,0,w.1,w.2.1,w.2.2,[],0⟩,true)else if 2<=w.1/\w.1<=4 then(⟨3,0,w.1,w.2.1,w.2.2,[],0⟩,true)else if p.2=2 then(⟨4,0,0,[],[],p.1,0⟩,true)else if p.2=3 then(⟨5,0,0,[],[],p.1,0⟩,true)else if p.2=1 then
   (if Unp g t w.2.1 p.1 then(⟨6,0,0,[],[],p.1,0⟩,true)else if bF p.1=c then(vf,false)else if Flo.Reach g.es c (bF p.1)then(vf,false)else(⟨7,0,0,[],[],p.1,rS g.es c⟩,true))else(vf,false)
abbrev wy(g:Gr)(num t:Int):Int×List Int×List Int:=oe g.ss g.cs num t
abbrev hp(g:Gr)(c:Int):List (Int×Int)×Int:=yW g.h g.k c
noncomputable def yt (g:Gr) (num t c:Int):Rf×Bool:=sP g t c (wy g num t) (hp g c)
def i9(g:Gr)(num t c:Int):Prop:=GrV g/\0<=num/\num<=99999999/\0<=t/\t<=10000000/\0<=c/\c<=7/\0<=at_ g.k c
instance (g:Gr) (num t c:Int):Decidable (i9 g num t c):=by unfold i9;infer_instance
def MK(g:Gr)(t c:Int)(w:Int×List Int×List Int)(p:List (Int×Int)×Int)(r:Rf):Prop:=
 (r.k=1/\r.n∈w.2.1/\dn g.ls r.n t=false/\r=⟨1,r.n,0,[],[],[],0⟩) ∨
 (r.k=2/\(w.1=5\/w.1=6)/\r=⟨2,0,w.1,w.2.1,w.2.2,[],0⟩) ∨
 (r.k=3/\(2<=w.1/\w.1<=4)/\r=⟨3,0,w.1,w.2.1,w.2.2,[],0⟩) ∨
 (r.k=4/\p.2=2/\r=⟨4,0,0,[],[],p.1,0⟩) ∨
 (r.k=5/\p.2=3/\r=⟨5,0,0,[],[],p.1,0⟩) ∨
 (r.k=6/\p.2=1/\Unp g t w.2.1 p.1/\r=⟨6,0,0,[],[],p.1,0⟩) ∨
 (r.k=7/\p.2=1/\bF p.1≠c/\C4 c (bF p.1) r.s/\lvs r.s g.es=0/\r=⟨7,0,0,[],[],p.1,r.s⟩)
instance (g:Gr) (t c:Int) (w:Int×List Int×List Int) (p:List (Int×Int)×Int) (r:Rf):Decidable (MK g t c w p r):=by unfold MK;infer_instance
def Chk(g:Gr)(num t c:Int)(r:Rf):Prop:=i9 g num t c/\MK g t c (wy g num t) (hp g c) r
instance (g:Gr) (num t c:Int) (r:Rf):Decidable (Chk g num t c r):=by unfold Chk;infer_instance
structure Led (g:Gr) (t c:Int) (w:Int×List Int×List Int) (p:List (Int×Int)×Int):Prop where
 held:∀x∈w.2.1,dn g.ls x t=true
 kind:¬(2<=w.1/\w.1<=6)
 ends:p.2≠2/\p.2≠3
 unp:p.2=1->¬Unp g t w.2.1 p.1
 cut:p.2=1->bF p.1=c\/Flo.Reach g.es c (bF p.1)
theorem Nc{g:Gr}{t c:Int}{w:Int×List Int×List Int}{p:List (Int×Int)×Int}(h:(sP g t c w p).2=false):Led g t c w p/\(sP g t c w p).1=vf:=by
 unfold sP at h⊢
 cases hf:w.2.1.find? (fun x=> !dn g.ls x t)with
 |some x=>rw[hf]at h;cases h
 | none =>
  have hheld:∀x∈w.2.1,dn g.ls x t=true:=fun x hx=>by
   have:=List.find?_eq_none.1 hf x hx
   simpa using this
  rw[hf]at h;dsimp only at h⊢
  by_cases h1:w.1=5\/w.1=6
  ·rw[if_pos h1]at h;cases h
  ·rw [if_neg h1]at h⊢
   by_cases h2:2<=w.1/\w.1<=4
   ·rw[if_pos h2]at h;cases h
   ·rw [if_neg h2]at h⊢
    by_cases h3:p.2=2
    ·rw[if_pos h3]at h;cases h
    ·rw [if_neg h3]at h⊢
     by_cases h4:p.2=3
     ·rw[if_pos h4]at h;cases h
     ·rw [if_neg h4]at h⊢
      by_cases h5:p.2=1
      ·rw [if_pos h5]at h⊢
       by_cases h6:Unp g t w.2.1 p.1
       ·rw[if_pos h6]at h;cases h
       ·rw[if_neg h6]at h⊢
        by_cases h7:bF p.1=c
        ·rw[if_pos h7]
         exact⟨⟨hheld,by omega,⟨h3,h4⟩,fun _=>h6,fun _=>.inl h7⟩,rfl⟩
        ·rw[if_neg h7]at h⊢
         by_cases h8:Flo.Reach g.es c (bF p.1)
         ·rw[if_pos h8]
          exact⟨⟨hheld,by omega,⟨h3,h4⟩,fun _=>h6,fun _=>.inr h8⟩,rfl⟩
         ·rw[if_neg h8]at h;cases h
      ·rw[if_neg h5]
       exact⟨⟨hheld,by omega,⟨h3,h4⟩,fun e=>absurd e h5,fun e=>absurd e h5⟩,rfl⟩
theorem G9{h k:List Int}{c:Int}{l:List (Int×Int)}{e:Int}(hp:PthV h k c l e):∃x,l.getLast?=some x/\x∈l/\bF l=x.1/\0<=bF l/\bF l<=7:=by
 cases hx:l.getLast? with
 |none=>exact absurd (List.getLast?_eq_none_iff.1 hx) hp.ne
 |some x=>
  have hm:=List.mem_of_getLast? hx;have hl:bF l=x.1:=by unfold bF;rw[hx];rfl
  have:=hp.bd x hm
  exact⟨x,rfl,hm,hl,by omega,by omega⟩
end Go.Dial.Ref
