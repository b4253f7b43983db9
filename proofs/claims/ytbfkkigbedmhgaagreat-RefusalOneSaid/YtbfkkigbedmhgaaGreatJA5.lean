/-
  Texts of this claim, joined (part 5).
-/
import Derived.Test.YtbfkkigbedmhgaaGreatJA4
import Derived.Lib.Hide
set_option linter.unusedVariables false
set_option linter.unusedSimpArgs false
set_option linter.unusedSectionVars false
set_option linter.constructorNameAsVariable false
set_option maxRecDepth 100000
namespace Go.Proofs.YtbfkkigbedmhgaaGreat
open Go Go.Sx
noncomputable section
def aH:List Nat:=[12,13,14,15,16,17,18,19,20,21,22,23,24,25,26,27,28,29,30,31,32,33,34,37,38,39,40,43,44,45,46,47,48,49,50,51,52,53,54,55,56,57,58,59,62,66,68,69,70,71,72,73,74,75,76,77,78,84,85,86,87,89,95,105,106,107,108,109,110,111,112,114,115,116,117,120,122,149,150,152,153,159,176,178,179,180,182,183,184,186,187,193,202,203,204,210,211,1000015,1000016,1000017,1000018,1000019,1000022,1000049,1000050,1000051,1000052,1000053,1000062,2000151,2000152,2000217,2000247,2000248,2000249]
abbrev tQ:=Bool
def tR(n:Nat)(v0 v1 v2 v3 v4:Int):Option tQ:=
 (bif 0<=v0 then(bif v0<=99999999 then(bif 0<=v2 then(bif v2<=99999999 then(bif !(v0=v2)then(bif 1<=v1 then(bif v1<=4 then(bif 0<=v3 then(bif v3<v4 then some (decide (v4<=10000001))else some false)else some false)else some false)else some false)else some false)else some false)else some false)else some false)else some false)
def lp(n:Nat)(v0 v1 v2 v3 v4:Int):Option tQ:=tR n v0 v1 v2 v3 v4
def ref22_formed_t:FnT:=⟨[(true,[.int,.int,.int,.int,.int])],.b,fun n (s:Int×Int×Int×Int×Int)=>lp n s.1 s.2.1 s.2.2.1 s.2.2.2.1 s.2.2.2.2⟩
theorem Bh:ref22_formed_t.ok Tryz.prog 182:=FnT.ok_of (cfg:=⟨[],aH,[],ak⟩) aw sa av (fun s fn hf=>by rw[Tryz.func182]at hf;cases hf;kernel_rfl) (fun n s=>by kernel_rfl)
def ref22_formed_T:Tab:=(182,ref22_formed_t)::claim_With_T
theorem nX:ref22_formed_T.ok Tryz.prog:=Tab.ok_cons Bh sa
abbrev cV:=Bool
abbrev d6:=Int
def eC(n:Nat)(go0:d6->Option cV)(go1:d6->Option cV)(v0:Lv)(v1 v3:Int):Option cV:=
 (bif v3<v1 then bif 0<=v3 then bif v3<(v0.length:Int) then(bif (cI v0 v1 0)=(cI v0 v3 0) then(bif (cI v0 v1 1)=(cI v0 v3 1) then(bif (aU (cI v0 v1 3) (cI v0 v3 3))<(aM (cI v0 v1 4) (cI v0 v3 4)) then some false else bif(-9223372036854775808<=(v3+1))&&((v3+1)<=9223372036854775807)then go1 (v3+1)else none)else bif(-9223372036854775808<=(v3+1))&&((v3+1)<=9223372036854775807)then go1 (v3+1)else none)else bif(-9223372036854775808<=(v3+1))&&((v3+1)<=9223372036854775807)then go1 (v3+1)else none)else none else none else bif(-9223372036854775808<=(v1+1))&&((v1+1)<=9223372036854775807)then go0 (v1+1)else none)
def kg(n:Nat)(go0:d6->Option cV)(v0:Lv)(v1:Int):Option cV:=
 (bif v1<(v0.length:Int) then bif 0<=v1 then(lp n (cI v0 v1 0) (cI v0 v1 1) (cI v0 v1 2) (cI v0 v1 3) (cI v0 v1 4)).bind fun y2=>
 (bif(!y2)then some false else(ab (fun go1 s=>eC n go0 go1 v0 v1 s) n (0:d6)))else none else some true)
def pT(n:Nat)(v0:Lv):Option cV:=
 (bif 40<(v0.length:Int) then some false else(ab (fun go0 s=>kg n go0 v0 s) n (0:d6)))
def ga(n:Nat)(v0:Lv):Option cV:=pT n v0
def ref22_Settings_t:FnT:=⟨[(false,[(.sl (.cons .int (.cons .int (.cons .int (.cons .int (.cons .int .nil))))))])],.b,fun n (s:Lv)=>ga n s⟩
theorem yU:ref22_Settings_t.ok Tryz.prog 108:=FnT.ok_of (cfg:=⟨[((108,4,0),.inv [(.tmp 3 .int)]),((108,9,1),.inv [(.tmp 4 .int)])],aH,[],ak⟩) aw nX av (fun s fn hf=>by rw[Tryz.func108]at hf;cases hf;kernel_rfl) (fun n s=>by kernel_rfl)
def ref22_Settings_T:Tab:=(108,ref22_Settings_t)::ref22_formed_T
theorem lM:ref22_Settings_T.ok Tryz.prog:=Tab.ok_cons yU nX
abbrev jR:=Bool
abbrev tt:=Int
def D8(n:Nat)(go0:tt->Option jR)(v1:Lv)(v3:Int):Option jR:=
 (bif v3<(v1.length:Int) then bif 0<=v3 then(bif 0<=(cI v1 v3 0) then(bif !((cI v1 v3 0)<=99999999)then some false else(bif (cI v1 v3 1)<2 then some false else(bif 4<(cI v1 v3 1) then some false else(bif 0<v3 then bif(-9223372036854775808<=(v3-1))&&((v3-1)<=9223372036854775807)then bif 0<=(v3-1) then bif (v3-1)<(v1.length:Int) then(bif (cI v1 v3 0)<=(cI v1 (v3-1) 0) then some false else bif(-9223372036854775808<=(v3+1))&&((v3+1)<=9223372036854775807)then go0 (v3+1)else none)else none else none else none else bif(-9223372036854775808<=(v3+1))&&((v3+1)<=9223372036854775807)then go0 (v3+1)else none))))else some false)else none else some true)
def DX(n:Nat)(v0 v1:Lv):Option jR:=
 (ga n v0).bind fun y2=>
 (bif(!y2)then some false else(bif 40<(v1.length:Int) then some false else(ab (fun go0 s=>D8 n go0 v1 s) n (0:tt))))
def sq(n:Nat)(v0 v1:Lv):Option jR:=DX n v0 v1
def ref22_Valid_t:FnT:=⟨[(false,[(.sl (.cons .int (.cons .int (.cons .int (.cons .int (.cons .int .nil))))))]),(false,[(.sl (.cons .int (.cons .int .nil)))])],.b,fun n (s:Lv×Lv)=>sq n s.1 s.2⟩
theorem Cf:ref22_Valid_t.ok Tryz.prog 75:=FnT.ok_of (cfg:=⟨[((75,4,0),.inv [(.tmp 5 .int)])],aH,[],ak⟩) aw lM av (fun s fn hf=>by rw[Tryz.func75]at hf;cases hf;kernel_rfl) (fun n s=>by kernel_rfl)
def ref22_Valid_T:Tab:=(75,ref22_Valid_t)::ref22_Settings_T
theorem ph:ref22_Valid_T.ok Tryz.prog:=Tab.ok_cons Cf lM
abbrev fM:=Int
abbrev mW:=Int
def zb(n:Nat)(go0:mW->Option fM)(v0:Lv)(v1 v2:Int):Option fM:=
 (bif v2<(v0.length:Int) then bif 0<=v2 then(bif (cI v0 v2 0)=v1 then some (cI v0 v2 1)else bif(-9223372036854775808<=(v2+1))&&((v2+1)<=9223372036854775807)then go0 (v2+1)else none)else none else some 0)
def yT(n:Nat)(v0:Lv)(v1:Int):Option fM:=
 (ab (fun go0 s=>zb n go0 v0 v1 s) n (0:mW))
def fk(n:Nat)(v0:Lv)(v1:Int):Option fM:=yT n v0 v1
def ref22_condition_t:FnT:=⟨[(false,[(.sl (.cons .int (.cons .int .nil)))]),(false,[.int])],.i,fun n (s:Lv×Int)=>fk n s.1 s.2⟩
theorem xA:ref22_condition_t.ok Tryz.prog 115:=FnT.ok_of (cfg:=⟨[((115,2,0),.inv [(.tmp 5 .int)])],aH,[],ak⟩) aw ph av (fun s fn hf=>by rw[Tryz.func115]at hf;cases hf;kernel_rfl) (fun n s=>by kernel_rfl)
def ref22_condition_T:Tab:=(115,ref22_condition_t)::ref22_Valid_T
theorem ly:ref22_condition_T.ok Tryz.prog:=Tab.ok_cons xA ph
abbrev lf:=Int
abbrev vV:=Int
def Hc(n:Nat)(go0:vV->Option lf)(v0:Lv)(v1 v2 v3 v4:Int):Option lf:=
 (bif v4<(v0.length:Int) then bif 0<=v4 then(bif (cI v0 v4 0)=v1 then(bif (cI v0 v4 1)=v2 then(bif (cI v0 v4 3)<=v3 then(bif v3<(cI v0 v4 4) then some v4 else bif(-9223372036854775808<=(v4+1))&&((v4+1)<=9223372036854775807)then go0 (v4+1)else none)else bif(-9223372036854775808<=(v4+1))&&((v4+1)<=9223372036854775807)then go0 (v4+1)else none)else bif(-9223372036854775808<=(v4+1))&&((v4+1)<=9223372036854775807)then go0 (v4+1)else none)else bif(-9223372036854775808<=(v4+1))&&((v4+1)<=9223372036854775807)then go0 (v4+1)else none)else none else some (-1))
def FY(n:Nat)(v0:Lv)(v1 v2 v3:Int):Option lf:=
 (ab (fun go0 s=>Hc n go0 v0 v1 v2 v3 s) n (0:vV))
def uE(n:Nat)(v0:Lv)(v1 v2 v3:Int):Option lf:=FY n v0 v1 v2 v3
def ref22_find_t:FnT:=⟨[(false,[(.sl (.cons .int (.cons .int (.cons .int (.cons .int (.cons .int .nil))))))]),(false,[.int]),(false,[.int]),(false,[.int])],.i,fun n (s:Lv×Int×Int×Int)=>uE n s.1 s.2.1 s.2.2.1 s.2.2.2⟩
theorem Ew:ref22_find_t.ok Tryz.prog 184:=FnT.ok_of (cfg:=⟨[((184,2,0),.inv [(.tmp 9 .int)])],aH,[],ak⟩) aw ly av (fun s fn hf=>by rw[Tryz.func184]at hf;cases hf;kernel_rfl) (fun n s=>by kernel_rfl)
def ref22_find_T:Tab:=(184,ref22_find_t)::ref22_condition_T
theorem qL:ref22_find_T.ok Tryz.prog:=Tab.ok_cons Ew ly
abbrev sU:=Int
def Cg(n:Nat)(v0 v1:Lv)(v2 v3:Int):Option sU:=
 (uE n v0 v2 1 v3).bind fun y4=>
 (bif y4<0 then(fk n v1 v2).bind fun y5=>
 (bif 0<y5 then(fk n v1 v2).bind fun y6=>
 (uE n v0 v2 y6 v3).bind fun y7=>
 some y7 else some y4)else some y4)
def wD(n:Nat)(v0 v1:Lv)(v2 v3:Int):Option sU:=Cg n v0 v1 v2 v3
def ref22_counts_t:FnT:=⟨[(false,[(.sl (.cons .int (.cons .int (.cons .int (.cons .int (.cons .int .nil))))))]),(false,[(.sl (.cons .int (.cons .int .nil)))]),(false,[.int]),(false,[.int])],.i,fun n (s:Lv×Lv×Int×Int)=>wD n s.1 s.2.1 s.2.2.1 s.2.2.2⟩
theorem Bj:ref22_counts_t.ok Tryz.prog 114:=FnT.ok_of (cfg:=⟨[],aH,[],ak⟩) aw qL av (fun s fn hf=>by rw[Tryz.func114]at hf;cases hf;kernel_rfl) (fun n s=>by kernel_rfl)
def ref22_counts_T:Tab:=(114,ref22_counts_t)::ref22_find_T
theorem od:ref22_counts_T.ok Tryz.prog:=Tab.ok_cons Bj qL
abbrev my:=Bool
abbrev xE:=Int
def Ik(n:Nat)(go0:xE->Option my)(v0:Lv)(v1 v2:Int):Option my:=
 (bif v2<(v0.length:Int) then bif 0<=v2 then(bif (cI v0 v2 0)=v1 then some true else bif(-9223372036854775808<=(v2+1))&&((v2+1)<=9223372036854775807)then go0 (v2+1)else none)else none else some false)
def Ib(n:Nat)(v0:Lv)(v1:Int):Option my:=
 (ab (fun go0 s=>Ik n go0 v0 v1 s) n (0:xE))
def Dt(n:Nat)(v0:Lv)(v1:Int):Option my:=Ib n v0 v1
def ref22_has_t:FnT:=⟨[(false,[tSa]),(false,[.int])],.b,fun n (s:Lv×Int)=>Dt n s.1 s.2⟩
theorem Gk:ref22_has_t.ok Tryz.prog 116:=FnT.ok_of (cfg:=⟨[((116,2,0),.inv [(.tmp 5 .int)])],aH,[],ak⟩) aw od av (fun s fn hf=>by rw[Tryz.func116]at hf;cases hf;kernel_rfl) (fun n s=>by kernel_rfl)
def ref22_has_T:Tab:=(116,ref22_has_t)::ref22_counts_T
theorem tq:ref22_has_T.ok Tryz.prog:=Tab.ok_cons Gk od
abbrev fd:=Int×Lv×Lv×Int
abbrev pN:=Int×Lv×Lv
def AJ(n:Nat)(go0:pN->Option fd)(v0 v1:Lv)(v3 v5:Int)(v6 v7:Lv):Option fd:=
 (wD n v0 v1 v5 v3).bind fun y8=>
 (bif y8<0 then(fk n v1 v5).bind fun y9=>
 (bif 0<y9 then(fk n v1 v5).bind fun y10=>
 some (y10,v6,v7,0)else some (1,v6,v7,0))else(bif (v7.length:Int)=5 then some (6,v6,v7,0)else bif 0<=y8 then bif y8<(v0.length:Int) then(Dt n v6 (cI v0 y8 2)).bind fun y9=>
 bif (((v7.length:Int)+1)*8)<=140737488355328 then bif (((v6.length:Int)+1)*8)<=140737488355328 then(bif y9 then some (5,(v6++[[(AV.int (cI v0 y8 2))]]),(v7++[[(AV.int y8)]]),0)else go0 ((cI v0 y8 2),(v6++[[(AV.int (cI v0 y8 2))]]),(v7++[[(AV.int y8)]])))else none else none else none else none))
def AX(n:Nat)(v0 v1:Lv)(v2 v3:Int):Option fd:=
 (sq n v0 v1).bind fun y4=>
 (bif(!y4)then some (0,([]:Lv),([]:Lv),220)else(bif 0<=v2 then(bif !(v2<=99999999)then some (0,([]:Lv),([]:Lv),220)else(bif v3<0 then some (0,([]:Lv),([]:Lv),220)else(bif 10000000<v3 then some (0,([]:Lv),([]:Lv),220)else(ab (fun go0 s=>AJ n go0 v0 v1 v3 s.1 s.2.1 s.2.2) n ((v2,(([]:Lv)++[[(AV.int v2)]]),([]:Lv)):pN)))))else some (0,([]:Lv),([]:Lv),220)))
def jI(n:Nat)(v0 v1:Lv)(v2 v3:Int):Option fd:=AX n v0 v1 v2 v3
def ref22_Resolve_t:FnT:=⟨[(false,[(.sl (.cons .int (.cons .int (.cons .int (.cons .int (.cons .int .nil))))))]),(false,[(.sl (.cons .int (.cons .int .nil)))]),(false,[.int]),(false,[.int])],(.tup (.cons (.agg (.cons .i (.cons (.row 3 (.cons .int .nil)) (.cons (.row 3 (.cons .int .nil)) .nil)))) (.cons .i .nil))),fun n (s:Lv×Lv×Int×Int)=>jI n s.1 s.2.1 s.2.2.1 s.2.2.2⟩
theorem z8:ref22_Resolve_t.ok Tryz.prog 55:=FnT.ok_of (cfg:=⟨[((55,4,4),.inv [(.tmp 2 .int),(.cellrow 2 1 3 (.cons .int .nil)),(.cellrow 2 2 3 (.cons .int .nil))])],aH,[],ak⟩) aw tq av (fun s fn hf=>by rw[Tryz.func55]at hf;cases hf;kernel_rfl) (fun n s=>by kernel_rfl)
def ref22_Resolve_T:Tab:=(55,ref22_Resolve_t)::ref22_has_T
theorem ni:ref22_Resolve_T.ok Tryz.prog:=Tab.ok_cons z8 tq
abbrev k7:=Bool
abbrev vT:=Int
def GS(n:Nat)(go0:vT->Option k7)(v0 v1:Lv)(v2:Int):Option k7:=
 (bif v2<(v0.length:Int) then bif 0<=v2 then bif v2<(v1.length:Int) then(bif !((cI v0 v2 0)=(cI v1 v2 0))then some false else bif(-9223372036854775808<=(v2+1))&&((v2+1)<=9223372036854775807)then go0 (v2+1)else none)else none else none else some true)
def FS(n:Nat)(v0 v1:Lv):Option k7:=
 (bif !((v0.length:Int)=(v1.length:Int))then some false else(ab (fun go0 s=>GS n go0 v0 v1 s) n (0:vT)))
def uI(n:Nat)(v0 v1:Lv):Option k7:=FS n v0 v1
def ref22_Ints_t:FnT:=⟨[(false,[tSa]),(false,[tSa])],.b,fun n (s:Lv×Lv)=>uI n s.1 s.2⟩
theorem EQ:ref22_Ints_t.ok Tryz.prog 87:=FnT.ok_of (cfg:=⟨[((87,4,0),.inv [(.tmp 5 .int)])],aH,[],ak⟩) aw ni av (fun s fn hf=>by rw[Tryz.func87]at hf;cases hf;kernel_rfl) (fun n s=>by kernel_rfl)
def ref22_Ints_T:Tab:=(87,ref22_Ints_t)::ref22_Resolve_T
theorem qw:ref22_Ints_T.ok Tryz.prog:=Tab.ok_cons EQ ni
abbrev xq:=Bool
def FU(n:Nat)(v0:Int)(v1 v2:Lv)(v3:Int)(v4 v5:Lv):Option xq:=
 (bif v0=v3 then(uI n v1 v4).bind fun y6=>
 (bif y6 then(uI n v2 v5).bind fun y7=>
 some y7 else some false)else some false)
def uH(n:Nat)(v0:Int)(v1 v2:Lv)(v3:Int)(v4 v5:Lv):Option xq:=FU n v0 v1 v2 v3 v4 v5
def ref22_Same_t:FnT:=⟨[(true,[.int,tSa,tSa]),(true,[.int,tSa,tSa])],.b,fun n (s:Int×Lv×Lv×Int×Lv×Lv)=>uH n s.1 s.2.1 s.2.2.1 s.2.2.2.1 s.2.2.2.2.1 s.2.2.2.2.2⟩
theorem Eq:ref22_Same_t.ok Tryz.prog 30:=FnT.ok_of (cfg:=⟨[],aH,[],ak⟩) aw qw av (fun s fn hf=>by rw[Tryz.func30]at hf;cases hf;kernel_rfl) (fun n s=>by kernel_rfl)
def ref22_Same_T:Tab:=(30,ref22_Same_t)::ref22_Ints_T
theorem sj:ref22_Same_T.ok Tryz.prog:=Tab.ok_cons Eq qw
abbrev wo:=Int
def xC(n:Nat)(v0 v1:Int):Option wo:=
 (bif v0<0 then bif(-9223372036854775808<=(v0+1))&&((v0+1)<=9223372036854775807)then bif(-9223372036854775808<=(0-(v0+1)))&&((0-(v0+1))<=9223372036854775807)then bif !(v1=0)then some (Int.tmod (0-(v0+1)) v1)else none else none else none else bif !(v1=0)then some (Int.tmod v0 v1)else none)
def bD(n:Nat)(v0 v1:Int):Option wo:=xC n v0 v1
def ref22_pick_t:FnT:=⟨[(false,[.int]),(false,[.int])],.i,fun n (s:Int×Int)=>bD n s.1 s.2⟩
theorem D0:ref22_pick_t.ok Tryz.prog 109:=FnT.ok_of (cfg:=⟨[],aH,[],ak⟩) aw sj av (fun s fn hf=>by rw[Tryz.func109]at hf;cases hf;kernel_rfl) (fun n s=>by kernel_rfl)
def ref22_pick_T:Tab:=(109,ref22_pick_t)::ref22_Same_T
theorem se:ref22_pick_T.ok Tryz.prog:=Tab.ok_cons D0 sj
abbrev zj:=Int×Int×Int×Int×Int
def zH(n:Nat)(v0 v1 v2 v3 v4:Int):Option zj:=
 (bD n v0 8).bind fun y5=>
 bif(-9223372036854775808<=(10+y5))&&((10+y5)<=9223372036854775807)then bif(-9223372036854775808<=(y5+1))&&((y5+1)<=9223372036854775807)then(bD n v2 7).bind fun y6=>
 bif(-9223372036854775808<=((y5+1)+y6))&&(((y5+1)+y6)<=9223372036854775807)then bif(-9223372036854775808<=(10+(Int.tmod ((y5+1)+y6) 8)))&&((10+(Int.tmod ((y5+1)+y6) 8))<=9223372036854775807)then(bD n v3 50).bind fun y7=>
 bif(-9223372036854775808<=(y7+1))&&((y7+1)<=9223372036854775807)then(bD n v4 60).bind fun y8=>
 bif(-9223372036854775808<=((y7+1)+y8))&&(((y7+1)+y8)<=9223372036854775807)then(bD n v1 8).bind fun y9=>
 (bif 4<y9 then(bD n v1 8).bind fun y10=>
 bif(-9223372036854775808<=(y10-3))&&((y10-3)<=9223372036854775807)then some ((10+y5),(y10-3),(10+(Int.tmod ((y5+1)+y6) 8)),y7,((y7+1)+y8))else none else some ((10+y5),1,(10+(Int.tmod ((y5+1)+y6) 8)),y7,((y7+1)+y8)))else none else none else none else none else none else none
def qZ(n:Nat)(v0 v1 v2 v3 v4:Int):Option zj:=zH n v0 v1 v2 v3 v4
def ref22_One_t:FnT:=⟨[(true,[.int,.int,.int,.int,.int])],(.agg (.cons .i (.cons .i (.cons .i (.cons .i (.cons .i .nil)))))),fun n (s:Int×Int×Int×Int×Int)=>qZ n s.1 s.2.1 s.2.2.1 s.2.2.2.1 s.2.2.2.2⟩
theorem GY:ref22_One_t.ok Tryz.prog 107:=FnT.ok_of (cfg:=⟨[],aH,[],ak⟩) aw se av (fun s fn hf=>by rw[Tryz.func107]at hf;cases hf;kernel_rfl) (fun n s=>by kernel_rfl)
def ref22_One_T:Tab:=(107,ref22_One_t)::ref22_pick_T
theorem tu:ref22_One_T.ok Tryz.prog:=Tab.ok_cons GY se
abbrev kC:=Lv
abbrev wa:=Lv×Int
def pA(n:Nat)(go0:wa->Option kC)(v0 v1:Lv)(v2:Int):Option kC:=
 (bif v2<(v0.length:Int) then(bif v2<16 then bif ((v1.length:Int)*40)<=140737488355328 then bif 0<=v2 then(qZ n (cI v0 v2 0) (cI v0 v2 1) (cI v0 v2 2) (cI v0 v2 3) (cI v0 v2 4)).bind fun y3=>
 bif (((v1.length:Int)+1)*40)<=140737488355328 then(ga n (v1++[[(AV.int y3.1),(AV.int y3.2.1),(AV.int y3.2.2.1),(AV.int y3.2.2.2.1),(AV.int y3.2.2.2.2)]])).bind fun y8=>
 (bif y8 then bif(-9223372036854775808<=(v2+1))&&((v2+1)<=9223372036854775807)then go0 ((v1++[[(AV.int y3.1),(AV.int y3.2.1),(AV.int y3.2.2.1),(AV.int y3.2.2.2.1),(AV.int y3.2.2.2.2)]]),(v2+1))else none else bif(-9223372036854775808<=(v2+1))&&((v2+1)<=9223372036854775807)then go0 (v1,(v2+1))else none)else none else none else none else some v1)else some v1)
def x8(n:Nat)(v0:Lv):Option kC:=
 (ab (fun go0 s=>pA n go0 v0 s.1 s.2) n ((([]:Lv),0):wa))
def lh(n:Nat)(v0:Lv):Option kC:=x8 n v0
def ref22_Made_t:FnT:=⟨[(false,[(.sl (.cons .int (.cons .int (.cons .int (.cons .int (.cons .int .nil))))))])],(.row 162 (.cons .int (.cons .int (.cons .int (.cons .int (.cons .int .nil)))))),fun n (s:Lv)=>lh n s⟩
theorem D3:ref22_Made_t.ok Tryz.prog 45:=FnT.ok_of (cfg:=⟨[((45,3,0),.inv [(.tmprow 3 162 (.cons .int (.cons .int (.cons .int (.cons .int (.cons .int .nil)))))),(.tmp 4 .int)])],aH,[],ak⟩) aw tu av (fun s fn hf=>by rw[Tryz.func45]at hf;cases hf;kernel_rfl) (fun n s=>by kernel_rfl)
def ref22_Made_T:Tab:=(45,ref22_Made_t)::ref22_One_T
theorem rX:ref22_Made_T.ok Tryz.prog:=Tab.ok_cons D3 tu
abbrev fq:=Lv
abbrev lO:=Lv×Int
def iC(n:Nat)(go0:lO->Option fq)(v1:Int)(v2:Lv)(v3:Int):Option fq:=
 (bif v3<8 then bif(-9223372036854775808<=(2*v3))&&((2*v3)<=9223372036854775807)then bif 0<=(2*v3) then(bif 0<(Int.tmod (IOp.f .shr v1 (2*v3)) 4) then bif(-9223372036854775808<=(10+v3))&&((10+v3)<=9223372036854775807)then bif(-9223372036854775808<=(1+(Int.tmod (IOp.f .shr v1 (2*v3)) 4)))&&((1+(Int.tmod (IOp.f .shr v1 (2*v3)) 4))<=9223372036854775807)then bif (((v2.length:Int)+1)*16)<=140737488355328 then bif(-9223372036854775808<=(v3+1))&&((v3+1)<=9223372036854775807)then go0 ((v2++[[(AV.int (10+v3)),(AV.int (1+(Int.tmod (IOp.f .shr v1 (2*v3)) 4)))]]),(v3+1))else none else none else none else none else bif(-9223372036854775808<=(v3+1))&&((v3+1)<=9223372036854775807)then go0 (v2,(v3+1))else none)else none else none else some v2)
def mO(n:Nat)(v0:Int):Option fq:=
 (bD n v0 65536).bind fun y1=>
 (ab (fun go0 s=>iC n go0 y1 s.1 s.2) n ((([]:Lv),0):lO))
def eA(n:Nat)(v0:Int):Option fq:=mO n v0
def ref22_Conditions_t:FnT:=⟨[(false,[.int])],(.row 198 (.cons .int (.cons .int .nil))),fun n (s:Int)=>eA n s⟩
theorem wk:ref22_Conditions_t.ok Tryz.prog 46:=FnT.ok_of (cfg:=⟨[((46,4,0),.inv [(.tmprow 3 198 (.cons .int (.cons .int .nil))),(.tmp 5 .int)])],aH,[],ak⟩) aw rX av (fun s fn hf=>by rw[Tryz.func46]at hf;cases hf;kernel_rfl) (fun n s=>by kernel_rfl)
def ref22_Conditions_T:Tab:=(46,ref22_Conditions_t)::ref22_Made_T
theorem kq:ref22_Conditions_T.ok Tryz.prog:=Tab.ok_cons wk rX
abbrev iK:=Lv×Lv
abbrev gJ:=Lv
def ky(n:Nat)(go0:gJ->Option iK)(v1:Lv)(v3:Int)(v6:Lv):Option iK:=
 (bD n v3 3).bind fun y7=>
 bif(-9223372036854775808<=(39+y7))&&((39+y7)<=9223372036854775807)then(bif (v6.length:Int)<(39+y7) then bif(-9223372036854775808<=(100+(v6.length:Int)))&&((100+(v6.length:Int))<=9223372036854775807)then bif (((v6.length:Int)+1)*40)<=140737488355328 then go0 (v6++[[(AV.int (100+(v6.length:Int))),(AV.int 1),(AV.int 10),(AV.int 0),(AV.int 5)]])else none else none else some (v6,v1))else none
abbrev G9:= @ky
abbrev GV:= @ky
abbrev Gj:= @ky
def FF(n:Nat)(v0 v1:Lv)(v3 v4 v5:Int):Option iK:=
 (bif v5<6 then(bif 0<(v0.length:Int) then(bD n v4 (v0.length:Int)).bind fun y6=>
 bif 0<=y6 then bif y6<(v0.length:Int) then(bif v5=0 then some ((List.modify v0 (y6).toNat (fun r=>r.set 0 (AV.int v3))),v1)else(bif v5=1 then some ((List.modify v0 (y6).toNat (fun r=>r.set 1 (AV.int v3))),v1)else(bif v5=2 then some ((List.modify v0 (y6).toNat (fun r=>r.set 2 (AV.int v3))),v1)else(bif v5=3 then some ((List.modify v0 (y6).toNat (fun r=>r.set 3 (AV.int v3))),v1)else(bif v5=4 then some ((List.modify v0 (y6).toNat (fun r=>r.set 4 (AV.int v3))),v1)else bif (((v0.length:Int)+1)*40)<=140737488355328 then some ((v0++[[(AV.int (cI v0 y6 0)),(AV.int (cI v0 y6 1)),(AV.int (cI v0 y6 2)),(AV.int (cI v0 y6 3)),(AV.int (cI v0 y6 4))]]),v1)else none)))))else none else none else(bif v5<9 then(bif 0<(v1.length:Int) then(bD n v4 (v1.length:Int)).bind fun y6=>
 (bif v5=6 then bif 0<=y6 then bif y6<(v1.length:Int) then some (v0,(List.modify v1 (y6).toNat (fun r=>r.set 0 (AV.int v3))))else none else none else(bif v5=7 then bif 0<=y6 then bif y6<(v1.length:Int) then some (v0,(List.modify v1 (y6).toNat (fun r=>r.set 1 (AV.int v3))))else none else none else bif 0<=y6 then bif y6<(v1.length:Int) then some (v0,(List.modify (List.modify (List.modify (List.modify v1 ((0:Int)).toNat (fun r=>r.set 0 (AV.int (cI v1 y6 0)))) ((0:Int)).toNat (fun r=>r.set 1 (AV.int (cI v1 y6 1)))) (y6).toNat (fun r=>r.set 0 (AV.int (cI v1 0 0)))) (y6).toNat (fun r=>r.set 1 (AV.int (cI v1 0 1)))))else none else none))else(ab (fun go0 s=>ky n go0 v1 v3 s) n (v0:gJ)))else(ab (fun go0 s=>G9 n go0 v1 v3 s) n (v0:gJ))))else(bif v5<9 then(bif 0<(v1.length:Int) then(bD n v4 (v1.length:Int)).bind fun y6=>
 (bif v5=6 then bif 0<=y6 then bif y6<(v1.length:Int) then some (v0,(List.modify v1 (y6).toNat (fun r=>r.set 0 (AV.int v3))))else none else none else(bif v5=7 then bif 0<=y6 then bif y6<(v1.length:Int) then some (v0,(List.modify v1 (y6).toNat (fun r=>r.set 1 (AV.int v3))))else none else none else bif 0<=y6 then bif y6<(v1.length:Int) then some (v0,(List.modify (List.modify (List.modify (List.modify v1 ((0:Int)).toNat (fun r=>r.set 0 (AV.int (cI v1 y6 0)))) ((0:Int)).toNat (fun r=>r.set 1 (AV.int (cI v1 y6 1)))) (y6).toNat (fun r=>r.set 0 (AV.int (cI v1 0 0)))) (y6).toNat (fun r=>r.set 1 (AV.int (cI v1 0 1)))))else none else none))else(ab (fun go0 s=>GV n go0 v1 v3 s) n (v0:gJ)))else(ab (fun go0 s=>Gj n go0 v1 v3 s) n (v0:gJ))))
def GN(n:Nat)(v0 v1:Lv)(v2 v3 v4:Int):Option iK:=
 bif ((v0.length:Int)*40)<=140737488355328 then bif ((v1.length:Int)*16)<=140737488355328 then(bD n v2 10).bind fun y5=>
 FF n v0 v1 v3 v4 y5 else none else none
def BX(n:Nat)(v0 v1:Lv)(v2 v3 v4:Int):Option iK:=GN n v0 v1 v2 v3 v4
def ref22_Bent_t:FnT:=⟨[(false,[(.sl (.cons .int (.cons .int (.cons .int (.cons .int (.cons .int .nil))))))]),(false,[(.sl (.cons .int (.cons .int .nil)))]),(false,[.int]),(false,[.int]),(false,[.int])],(.tup (.cons (.row 1000162 (.cons .int (.cons .int (.cons .int (.cons .int (.cons .int .nil)))))) (.cons (.row 1000198 (.cons .int (.cons .int .nil))) .nil))),fun n (s:Lv×Lv×Int×Int×Int)=>BX n s.1 s.2.1 s.2.2.1 s.2.2.2.1 s.2.2.2.2⟩
theorem EE:ref22_Bent_t.ok Tryz.prog 49:=FnT.ok_of (cfg:=⟨[((49,28,4),.inv [(.tmprow 12 162 (.cons .int (.cons .int (.cons .int (.cons .int (.cons .int .nil))))))])],aH,[],ak⟩) aw kq av (fun s fn hf=>by rw[Tryz.func49]at hf;cases hf;kernel_rfl) (fun n s=>by kernel_rfl)
def ref22_Bent_T:Tab:=(49,ref22_Bent_t)::ref22_Conditions_T
theorem rR:ref22_Bent_T.ok Tryz.prog:=Tab.ok_cons EE kq
abbrev nQ:=Int×Lv×Lv
def yY(n:Nat)(v0:Int)(v1 v2:Lv)(v3 v4:Int):Option nQ:=
 bif ((v1.length:Int)*8)<=140737488355328 then bif ((v2.length:Int)*8)<=140737488355328 then(bD n v3 5).bind fun y5=>
 (bif y5=0 then some (v4,v1,v2)else(bif y5=1 then bif (((v1.length:Int)+1)*8)<=140737488355328 then some (v0,(v1++[[(AV.int v4)]]),v2)else none else(bif y5=2 then bif (((v2.length:Int)+1)*8)<=140737488355328 then some (v0,v1,(v2++[[(AV.int v4)]]))else none else(bif y5=3 then(bif 0<(v1.length:Int) then bif(-9223372036854775808<=((v1.length:Int)-1))&&(((v1.length:Int)-1)<=9223372036854775807)then bif 0<=((v1.length:Int)-1) then bif ((v1.length:Int)-1)<=(v1.length:Int) then some (v0,(List.take (((v1.length:Int)-1)).toNat v1),v2)else none else none else none else some (v0,v1,v2))else(bif 0<(v2.length:Int) then bif(-9223372036854775808<=(Int.tdiv v3 5))&&((Int.tdiv v3 5)<=9223372036854775807)then(bD n (Int.tdiv v3 5) (v2.length:Int)).bind fun y6=>
 bif 0<=y6 then bif y6<(v2.length:Int) then some (v0,v1,(List.modify v2 (y6).toNat (fun r=>r.set 0 (AV.int v4))))else none else none else none else some (v0,v1,v2))))))else none else none
def rn(n:Nat)(v0:Int)(v1 v2:Lv)(v3 v4:Int):Option nQ:=yY n v0 v1 v2 v3 v4
def ref22_BentRoute_t:FnT:=⟨[(true,[.int,tSa,tSa]),(false,[.int]),(false,[.int])],(.agg (.cons .i (.cons (.row 1000003 (.cons .int .nil)) (.cons (.row 1000003 (.cons .int .nil)) .nil)))),fun n (s:Int×Lv×Lv×Int×Int)=>rn n s.1 s.2.1 s.2.2.1 s.2.2.2.1 s.2.2.2.2⟩
theorem xG:ref22_BentRoute_t.ok Tryz.prog 62:=FnT.ok_of (cfg:=⟨[],aH,[],ak⟩) aw rR av (fun s fn hf=>by rw[Tryz.func62]at hf;cases hf;kernel_rfl) (fun n s=>by kernel_rfl)
def ref22_BentRoute_T:Tab:=(62,ref22_BentRoute_t)::ref22_Bent_T
theorem kR:ref22_BentRoute_T.ok Tryz.prog:=Tab.ok_cons xG rR
abbrev il:=Bool
abbrev pm:=Int
def AZ(n:Nat)(go0:pm->Option il)(v0:Lv)(v1:Int):Option il:=
 (bif v1<(v0.length:Int) then bif 0<=v1 then(bif (-1)<=(cI v0 v1 0) then(bif !((cI v0 v1 0)<=7)then some false else bif(-9223372036854775808<=(v1+1))&&((v1+1)<=9223372036854775807)then go0 (v1+1)else none)else some false)else none else some true)
def AE(n:Nat)(v0:Lv):Option il:=
 (bif 1<=(v0.length:Int) then(bif !((v0.length:Int)<=30)then some false else(ab (fun go0 s=>AZ n go0 v0 s) n (0:pm)))else some false)
def vI(n:Nat)(v0:Lv):Option il:=AE n v0
def ref24_holders_t:FnT:=⟨[(false,[tSa])],.b,fun n (s:Lv)=>vI n s⟩
theorem At:ref24_holders_t.ok Tryz.prog 150:=FnT.ok_of (cfg:=⟨[((150,4,0),.inv [(.tmp 3 .int)])],aH,[],ak⟩) aw kR av (fun s fn hf=>by rw[Tryz.func150]at hf;cases hf;kernel_rfl) (fun n s=>by kernel_rfl)
def ref24_holders_T:Tab:=(150,ref24_holders_t)::ref22_BentRoute_T
theorem mD:ref24_holders_T.ok Tryz.prog:=Tab.ok_cons At kR
abbrev cg:=Bool
abbrev db:=Int
def ER(n:Nat)(go0:db->Option cg)(go1:db->Option cg)(v0 v1:Lv)(v4 v5:Int):Option cg:=
 (bif v5<=((v0.length:Int)-1) then bif 0<=v5 then bif v5<(v0.length:Int) then bif(-9223372036854775808<=(v5-1))&&((v5-1)<=9223372036854775807)then bif 0<=(v5-1) then bif (v5-1)<(v0.length:Int) then(bif !((cI v0 v5 0)=(cI v0 (v5-1) 0))then(bif (cI v0 v5 0)=v4 then(bif (cI v1 v4 0)<v5 then some false else bif(-9223372036854775808<=(v5+1))&&((v5+1)<=9223372036854775807)then go1 (v5+1)else none)else(bif (cI v0 (v5-1) 0)=v4 then(bif (cI v1 v4 0)<v5 then some false else bif(-9223372036854775808<=(v5+1))&&((v5+1)<=9223372036854775807)then go1 (v5+1)else none)else bif(-9223372036854775808<=(v5+1))&&((v5+1)<=9223372036854775807)then go1 (v5+1)else none))else bif(-9223372036854775808<=(v5+1))&&((v5+1)<=9223372036854775807)then go1 (v5+1)else none)else none else none else none else none else none else bif(-9223372036854775808<=(v4+1))&&((v4+1)<=9223372036854775807)then go0 (v4+1)else none)
def EM(n:Nat)(go0:db->Option cg)(go1:db->Option cg)(v0:Lv)(v4 v5:Int):Option cg:=
 (bif v5<=((v0.length:Int)-1) then bif 0<=v5 then bif v5<(v0.length:Int) then bif(-9223372036854775808<=(v5-1))&&((v5-1)<=9223372036854775807)then bif 0<=(v5-1) then bif (v5-1)<(v0.length:Int) then(bif !((cI v0 v5 0)=(cI v0 (v5-1) 0))then(bif (cI v0 v5 0)=v4 then bif(-9223372036854775808<=(v5+1))&&((v5+1)<=9223372036854775807)then go1 (v5+1)else none else(bif (cI v0 (v5-1) 0)=v4 then bif(-9223372036854775808<=(v5+1))&&((v5+1)<=9223372036854775807)then go1 (v5+1)else none else bif(-9223372036854775808<=(v5+1))&&((v5+1)<=9223372036854775807)then go1 (v5+1)else none))else bif(-9223372036854775808<=(v5+1))&&((v5+1)<=9223372036854775807)then go1 (v5+1)else none)else none else none else none else none else none else bif(-9223372036854775808<=(v4+1))&&((v4+1)<=9223372036854775807)then go0 (v4+1)else none)
def D4(n:Nat)(go0:db->Option cg)(v0 v1:Lv)(v2 v4:Int):Option cg:=
 (bif v4<(v1.length:Int) then bif 0<=v4 then(bif (-1)<=(cI v1 v4 0) then(bif !((cI v1 v4 0)<=((v0.length:Int)-1))then some false else(bif 0<=(cI v1 v4 0) then bif(-9223372036854775808<=(((v0.length:Int)-1)-v2))&&((((v0.length:Int)-1)-v2)<=9223372036854775807)then(bif (cI v1 v4 0)<(((v0.length:Int)-1)-v2) then some false else(ab (fun go1 s=>ER n go0 go1 v0 v1 v4 s) n (1:db)))else none else(ab (fun go1 s=>EM n go0 go1 v0 v4 s) n (1:db))))else some false)else none else some true)
def El(n:Nat)(v0 v1:Lv)(v2:Int):Option cg:=
 (vI n v0).bind fun y3=>
 (bif(!y3)then some false else(bif !((v1.length:Int)=8)then some false else(bif 0<=v2 then(bif !(v2<=10)then some false else bif(-9223372036854775808<=((v0.length:Int)-1))&&(((v0.length:Int)-1)<=9223372036854775807)then(ab (fun go0 s=>D4 n go0 v0 v1 v2 s) n (0:db))else none)else some false)))
def sC(n:Nat)(v0 v1:Lv)(v2:Int):Option cg:=El n v0 v1 v2
def ref24_Valid_t:FnT:=⟨[(false,[tSa]),(false,[tSa]),(false,[.int])],.b,fun n (s:Lv×Lv×Int)=>sC n s.1 s.2.1 s.2.2⟩
theorem Ct:ref24_Valid_t.ok Tryz.prog 76:=FnT.ok_of (cfg:=⟨[((76,5,0),.inv [(.tmp 8 .int)]),((76,10,1),.inv [(.tmp 9 .int)])],aH,[],ak⟩) aw mD av (fun s fn hf=>by rw[Tryz.func76]at hf;cases hf;kernel_rfl) (fun n s=>by kernel_rfl)
def ref24_Valid_T:Tab:=(76,ref24_Valid_t)::ref24_holders_T
theorem pR:ref24_Valid_T.ok Tryz.prog:=Tab.ok_cons Ct mD
abbrev kZ:=Lv×Int×Int
abbrev vu:=Lv×Int×Int
def Gf(n:Nat)(go0:vu->Option kZ)(v0 v1 v5:Lv)(v6 v7:Int):Option kZ:=
 bif 0<=v6 then bif v6<(v1.length:Int) then bif 0<=(aU (cI v1 v6 0) v7) then bif (aU (cI v1 v6 0) v7)<(v0.length:Int) then(bif (cI v0 (aU (cI v1 v6 0) v7) 0)=v6 then bif (((v5.length:Int)+1)*16)<=140737488355328 then some ((v5++[[(AV.int v6),(AV.int (aU (cI v1 v6 0) v7))]]),1,0)else none else(bif (cI v0 (aU (cI v1 v6 0) v7) 0)=(-1) then bif (((v5.length:Int)+1)*16)<=140737488355328 then some ((v5++[[(AV.int v6),(AV.int (aU (cI v1 v6 0) v7))]]),2,0)else none else bif 0<=(cI v0 (aU (cI v1 v6 0) v7) 0) then bif (cI v0 (aU (cI v1 v6 0) v7) 0)<(v1.length:Int) then(bif (cI v1 (cI v0 (aU (cI v1 v6 0) v7) 0) 0)<0 then bif (((v5.length:Int)+1)*16)<=140737488355328 then some ((v5++[[(AV.int v6),(AV.int (aU (cI v1 v6 0) v7))]]),3,0)else none else bif (((v5.length:Int)+1)*16)<=140737488355328 then go0 ((v5++[[(AV.int v6),(AV.int (aU (cI v1 v6 0) v7))]]),(cI v0 (aU (cI v1 v6 0) v7) 0),(aU (cI v1 v6 0) v7))else none)else none else none))else none else none else none else none
def Gu(n:Nat)(v0 v1:Lv)(v2 v3:Int):Option kZ:=
 (sC n v0 v1 v2).bind fun y4=>
 (bif(!y4)then some (([]:Lv),0,240)else(bif 0<=v3 then(bif !(v3<=7)then some (([]:Lv),0,240)else bif v3<(v1.length:Int) then(bif !(0<=(cI v1 v3 0))then some (([]:Lv),0,240)else(ab (fun go0 s=>Gf n go0 v0 v1 s.1 s.2.1 s.2.2) n ((([]:Lv),v3,(-1)):vu)))else none)else some (([]:Lv),0,240)))
def oI(n:Nat)(v0 v1:Lv)(v2 v3:Int):Option kZ:=Gu n v0 v1 v2 v3
def ref24_Path_t:FnT:=⟨[(false,[tSa]),(false,[tSa]),(false,[.int]),(false,[.int])],(.tup (.cons (.row 94 (.cons .int (.cons .int .nil))) (.cons .i (.cons .i .nil)))),fun n (s:Lv×Lv×Int×Int)=>oI n s.1 s.2.1 s.2.2.1 s.2.2.2⟩
theorem D5:ref24_Path_t.ok Tryz.prog 57:=FnT.ok_of (cfg:=⟨[((57,7,0),.inv [(.tmprow 11 94 (.cons .int (.cons .int .nil))),(.tmp 3 .int),(.tmp 12 .int)])],aH,[],ak⟩) aw pR av (fun s fn hf=>by rw[Tryz.func57]at hf;cases hf;kernel_rfl) (fun n s=>by kernel_rfl)
def ref24_Path_T:Tab:=(57,ref24_Path_t)::ref24_Valid_T
theorem rK:ref24_Path_T.ok Tryz.prog:=Tab.ok_cons D5 pR
abbrev kL:=Bool
abbrev wg:=Int
def FQ(n:Nat)(go0:wg->Option kL)(v0 v1:Lv)(v2:Int):Option kL:=
 (bif v2<(v0.length:Int) then bif 0<=v2 then bif v2<(v1.length:Int) then(bif(!((decide ((cI v0 v2 0)=(cI v1 v2 0)))&&(decide ((cI v0 v2 1)=(cI v1 v2 1)))))then some false else bif(-9223372036854775808<=(v2+1))&&((v2+1)<=9223372036854775807)then go0 (v2+1)else none)else none else none else some true)
def GL(n:Nat)(v0 v1:Lv):Option kL:=
 (bif !((v0.length:Int)=(v1.length:Int))then some false else(ab (fun go0 s=>FQ n go0 v0 v1 s) n (0:wg)))
def uR(n:Nat)(v0 v1:Lv):Option kL:=GL n v0 v1
def ref24_Same_t:FnT:=⟨[(false,[(.sl (.cons .int (.cons .int .nil)))]),(false,[(.sl (.cons .int (.cons .int .nil)))])],.b,fun n (s:Lv×Lv)=>uR n s.1 s.2⟩
theorem Er:ref24_Same_t.ok Tryz.prog 27:=FnT.ok_of (cfg:=⟨[((27,4,0),.inv [(.tmp 5 .int)])],aH,[],ak⟩) aw rK av (fun s fn hf=>by rw[Tryz.func27]at hf;cases hf;kernel_rfl) (fun n s=>by kernel_rfl)
def ref24_Same_T:Tab:=(27,ref24_Same_t)::ref24_Path_T
theorem rj:ref24_Same_T.ok Tryz.prog:=Tab.ok_cons Er rK
abbrev xM:=Int
def xS(n:Nat)(v0 v1:Int):Option xM:=
 (bif v0<0 then bif(-9223372036854775808<=(v0+1))&&((v0+1)<=9223372036854775807)then bif(-9223372036854775808<=(0-(v0+1)))&&((0-(v0+1))<=9223372036854775807)then bif !(v1=0)then some (Int.tmod (0-(v0+1)) v1)else none else none else none else bif !(v1=0)then some (Int.tmod v0 v1)else none)
def cU(n:Nat)(v0 v1:Int):Option xM:=xS n v0 v1
def ref24_pick_t:FnT:=⟨[(false,[.int]),(false,[.int])],.i,fun n (s:Int×Int)=>cU n s.1 s.2⟩
theorem E5:ref24_pick_t.ok Tryz.prog 110:=FnT.ok_of (cfg:=⟨[],aH,[],ak⟩) aw rj av (fun s fn hf=>by rw[Tryz.func110]at hf;cases hf;kernel_rfl) (fun n s=>by kernel_rfl)
def ref24_pick_T:Tab:=(110,ref24_pick_t)::ref24_Same_T
theorem rA:ref24_pick_T.ok Tryz.prog:=Tab.ok_cons E5 rj
abbrev gR:=Int
abbrev jj:=Int×Int
def dW(n:Nat)(go0:jj->Option gR)(v0:Lv)(v2 v3 v4:Int):Option gR:=
 (bif v4<=((v0.length:Int)-1) then bif 0<=v4 then bif v4<(v0.length:Int) then bif(-9223372036854775808<=(v4-1))&&((v4-1)<=9223372036854775807)then bif 0<=(v4-1) then bif (v4-1)<(v0.length:Int) then(bif !((cI v0 v4 0)=(cI v0 (v4-1) 0))then(bif (cI v0 v4 0)=v2 then bif(-9223372036854775808<=(v4+1))&&((v4+1)<=9223372036854775807)then go0 ((aU v3 v4),(v4+1))else none else(bif (cI v0 (v4-1) 0)=v2 then bif(-9223372036854775808<=(v4+1))&&((v4+1)<=9223372036854775807)then go0 ((aU v3 v4),(v4+1))else none else bif(-9223372036854775808<=(v4+1))&&((v4+1)<=9223372036854775807)then go0 (v3,(v4+1))else none))else bif(-9223372036854775808<=(v4+1))&&((v4+1)<=9223372036854775807)then go0 (v3,(v4+1))else none)else none else none else none else none else none else some v3)
def vL(n:Nat)(v0:Lv)(v1 v2:Int):Option gR:=
 bif(-9223372036854775808<=((v0.length:Int)-1))&&(((v0.length:Int)-1)<=9223372036854775807)then bif(-9223372036854775808<=(((v0.length:Int)-1)-v1))&&((((v0.length:Int)-1)-v1)<=9223372036854775807)then(ab (fun go0 s=>dW n go0 v0 v2 s.1 s.2) n (((aU 0 (((v0.length:Int)-1)-v1)),1):jj))else none else none
def mv(n:Nat)(v0:Lv)(v1 v2:Int):Option gR:=vL n v0 v1 v2
def ref24_Least_t:FnT:=⟨[(false,[tSa]),(false,[.int]),(false,[.int])],.i,fun n (s:Lv×Int×Int)=>mv n s.1 s.2.1 s.2.2⟩
theorem C4:ref24_Least_t.ok Tryz.prog 183:=FnT.ok_of (cfg:=⟨[((183,4,0),.inv [(.tmp 8 .int),(.tmp 9 .int)])],aH,[],ak⟩) aw rA av (fun s fn hf=>by rw[Tryz.func183]at hf;cases hf;kernel_rfl) (fun n s=>by kernel_rfl)
def ref24_Least_T:Tab:=(183,ref24_Least_t)::ref24_pick_T
theorem pM:ref24_Least_T.ok Tryz.prog:=Tab.ok_cons C4 rA
abbrev jH:=Lv
abbrev tF:=Lv×Int
def nD(n:Nat)(go0:tF->Option jH)(v0:Lv)(v1:Int)(v2 v3:Lv)(v4:Int):Option jH:=
 (bif v4<=7 then(mv n v0 v1 v4).bind fun y5=>
 (bif v4<(v2.length:Int) then bif 0<=v4 then bif(-9223372036854775808<=(Int.tdiv (cI v2 v4 0) 16))&&((Int.tdiv (cI v2 v4 0) 16)<=9223372036854775807)then bif(-9223372036854775808<=((v0.length:Int)-y5))&&(((v0.length:Int)-y5)<=9223372036854775807)then(cU n (Int.tdiv (cI v2 v4 0) 16) ((v0.length:Int)-y5)).bind fun y6=>
 bif(-9223372036854775808<=(y5+y6))&&((y5+y6)<=9223372036854775807)then(cU n (cI v2 v4 0) 16).bind fun y7=>
 (bif y7=15 then bif (((v3.length:Int)+1)*8)<=140737488355328 then bif(-9223372036854775808<=(v4+1))&&((v4+1)<=9223372036854775807)then go0 ((v3++[[(AV.int (-1))]]),(v4+1))else none else none else bif (((v3.length:Int)+1)*8)<=140737488355328 then bif(-9223372036854775808<=(v4+1))&&((v4+1)<=9223372036854775807)then go0 ((v3++[[(AV.int (y5+y6))]]),(v4+1))else none else none)else none else none else none else none else bif(-9223372036854775808<=((v0.length:Int)-y5))&&(((v0.length:Int)-y5)<=9223372036854775807)then(cU n 0 ((v0.length:Int)-y5)).bind fun y6=>
 bif(-9223372036854775808<=(y5+y6))&&((y5+y6)<=9223372036854775807)then(cU n 0 16).bind fun y7=>
 (bif y7=15 then bif (((v3.length:Int)+1)*8)<=140737488355328 then bif(-9223372036854775808<=(v4+1))&&((v4+1)<=9223372036854775807)then go0 ((v3++[[(AV.int (-1))]]),(v4+1))else none else none else bif (((v3.length:Int)+1)*8)<=140737488355328 then bif(-9223372036854775808<=(v4+1))&&((v4+1)<=9223372036854775807)then go0 ((v3++[[(AV.int (y5+y6))]]),(v4+1))else none else none)else none else none)else some v3)
def vX(n:Nat)(v0:Lv)(v1:Int)(v2:Lv):Option jH:=
 (ab (fun go0 s=>nD n go0 v0 v1 v2 s.1 s.2) n ((([]:Lv),0):tF))
def fw(n:Nat)(v0:Lv)(v1:Int)(v2:Lv):Option jH:=vX n v0 v1 v2
def ref24_Known_t:FnT:=⟨[(false,[tSa]),(false,[.int]),(false,[tSa])],(.row 3 (.cons .int .nil)),fun n (s:Lv×Int×Lv)=>fw n s.1 s.2.1 s.2.2⟩
theorem CX:ref24_Known_t.ok Tryz.prog 111:=FnT.ok_of (cfg:=⟨[((111,3,0),.inv [(.tmprow 7 3 (.cons .int .nil)),(.tmp 8 .int)])],aH,[],ak⟩) aw pM av (fun s fn hf=>by rw[Tryz.func111]at hf;cases hf;kernel_rfl) (fun n s=>by kernel_rfl)
def ref24_Known_T:Tab:=(111,ref24_Known_t)::ref24_Least_T
theorem pI:ref24_Known_T.ok Tryz.prog:=Tab.ok_cons CX pM
abbrev lj:=Lv×Lv×Int
abbrev gH:=Lv×Int
def f8(n:Nat)(go0:gH->Option lj)(v0 v1:Lv)(v2:Int)(v4:Lv)(v5:Int):Option lj:=
 (bif v5<(v0.length:Int) then(bif v5<12 then bif 0<=v5 then(cU n (cI v0 v5 0) 9).bind fun y6=>
 bif(-9223372036854775808<=(y6-1))&&((y6-1)<=9223372036854775807)then bif (((v4.length:Int)+1)*8)<=140737488355328 then bif(-9223372036854775808<=(v5+1))&&((v5+1)<=9223372036854775807)then go0 ((v4++[[(AV.int (y6-1))]]),(v5+1))else none else none else none else none else(cU n v2 11).bind fun y6=>
 (fw n v4 y6 v1).bind fun y7=>
 some (v4,y7,y6))else(cU n v2 11).bind fun y6=>
 (fw n v4 y6 v1).bind fun y7=>
 some (v4,y7,y6))
abbrev Hi:= @f8
def xF(n:Nat)(v0 v1:Lv)(v2:Int):Option lj:=
 (bif 0<(v0.length:Int) then(cU n (cI v0 0 0) 9).bind fun y3=>
 bif(-9223372036854775808<=(y3-1))&&((y3-1)<=9223372036854775807)then(ab (fun go0 s=>f8 n go0 v0 v1 v2 s.1 s.2) n (((List.modify (([]:Lv)++[[(AV.int 0)]]) ((0:Int)).toNat (fun r=>r.set 0 (AV.int (y3-1)))),1):gH))else none else(ab (fun go0 s=>Hi n go0 v0 v1 v2 s.1 s.2) n (((([]:Lv)++[[(AV.int 0)]]),1):gH)))
def oF(n:Nat)(v0 v1:Lv)(v2:Int):Option lj:=xF n v0 v1 v2
def ref24_Made_t:FnT:=⟨[(false,[tSa]),(false,[tSa]),(false,[.int])],(.tup (.cons (.row 3 (.cons .int .nil)) (.cons (.row 3 (.cons .int .nil)) (.cons .i .nil)))),fun n (s:Lv×Lv×Int)=>oF n s.1 s.2.1 s.2.2⟩
theorem DY:ref24_Made_t.ok Tryz.prog 47:=FnT.ok_of (cfg:=⟨[((47,5,2),.inv [(.tmprow 9 3 (.cons .int .nil)),(.tmp 10 .int)]),((47,5,1),.inv [(.tmprow 9 3 (.cons .int .nil)),(.tmp 10 .int)])],aH,[],ak⟩) aw pI av (fun s fn hf=>by rw[Tryz.func47]at hf;cases hf;kernel_rfl) (fun n s=>by kernel_rfl)
def ref24_Made_T:Tab:=(47,ref24_Made_t)::ref24_Known_T
theorem qX:ref24_Made_T.ok Tryz.prog:=Tab.ok_cons DY pI
abbrev jN:=Bool
abbrev tj:=Int
def DS(n:Nat)(go0:tj->Option jN)(v0:Int)(v1:Lv)(v2:Int):Option jN:=
 (bif v2<(v1.length:Int) then bif 0<=v2 then bif(-9223372036854775808<=(v0-1))&&((v0-1)<=9223372036854775807)then(bif 0<=(cI v1 v2 0) then(bif !((cI v1 v2 0)<=(v0-1))then some false else(bif 0<=(cI v1 v2 1) then(bif !((cI v1 v2 1)<=(v0-1))then some false else(bif (cI v1 v2 0)=(cI v1 v2 1) then some false else(bif 0<=(cI v1 v2 2) then(bif !((cI v1 v2 2)<=10000)then some false else bif(-9223372036854775808<=(v2+1))&&((v2+1)<=9223372036854775807)then go0 (v2+1)else none)else some false)))else some false))else some false)else none else none else some true)
def E0(n:Nat)(v0:Int)(v1:Lv):Option jN:=
 (bif 0<=v0 then(bif !(v0<=12)then some false else(bif 40<(v1.length:Int) then some false else(ab (fun go0 s=>DS n go0 v0 v1 s) n (0:tj))))else some false)
def sn(n:Nat)(v0:Int)(v1:Lv):Option jN:=E0 n v0 v1
def ref27_Valid_t:FnT:=⟨[(true,[.int,tSc])],.b,fun n (s:Int×Lv)=>sn n s.1 s.2⟩
theorem C5:ref27_Valid_t.ok Tryz.prog 78:=FnT.ok_of (cfg:=⟨[((78,4,1),.inv [(.tmp 3 .int)])],aH,[],ak⟩) aw qX av (fun s fn hf=>by rw[Tryz.func78]at hf;cases hf;kernel_rfl) (fun n s=>by kernel_rfl)
def ref27_Valid_T:Tab:=(78,ref27_Valid_t)::ref24_Made_T
theorem pg:ref27_Valid_T.ok Tryz.prog:=Tab.ok_cons C5 qX
abbrev jh:=Int
abbrev r8:=Int×Int
def Ca(n:Nat)(go0:r8->Option jh)(v1:Lv)(v2 v3 v4:Int):Option jh:=
 (bif v4<(v1.length:Int) then bif 0<=v4 then bif 0<=(cI v1 v4 0) then(bif (Int.tmod (IOp.f .shr v2 (cI v1 v4 0)) 2)=1 then bif 0<=(cI v1 v4 1) then(bif !((Int.tmod (IOp.f .shr v2 (cI v1 v4 1)) 2)=1)then bif(-9223372036854775808<=(v3+(cI v1 v4 2)))&&((v3+(cI v1 v4 2))<=9223372036854775807)then bif(-9223372036854775808<=(v4+1))&&((v4+1)<=9223372036854775807)then go0 ((v3+(cI v1 v4 2)),(v4+1))else none else none else bif(-9223372036854775808<=(v4+1))&&((v4+1)<=9223372036854775807)then go0 (v3,(v4+1))else none)else none else bif(-9223372036854775808<=(v4+1))&&((v4+1)<=9223372036854775807)then go0 (v3,(v4+1))else none)else none else none else some v3)
def C3(n:Nat)(v1:Lv)(v2:Int):Option jh:=
 (ab (fun go0 s=>Ca n go0 v1 v2 s.1 s.2) n ((0,0):r8))
def qa(n:Nat)(v0:Int)(v1:Lv)(v2:Int):Option jh:=C3 n v1 v2
def ref27_Leaves_t:FnT:=⟨[(true,[.int,tSc]),(false,[.int])],.i,fun n (s:Int×Lv×Int)=>qa n s.1 s.2.1 s.2.2⟩
theorem B4:ref27_Leaves_t.ok Tryz.prog 122:=FnT.ok_of (cfg:=⟨[((122,3,1),.inv [(.tmp 5 .int),(.tmp 6 .int)])],aH,[],ak⟩) aw pg av (fun s fn hf=>by rw[Tryz.func122]at hf;cases hf;kernel_rfl) (fun n s=>by kernel_rfl)
def ref27_Leaves_T:Tab:=(122,ref27_Leaves_t)::ref27_Valid_T
theorem n9:ref27_Leaves_T.ok Tryz.prog:=Tab.ok_cons B4 pg
abbrev jQ:=Int×Int
abbrev tg:=Int×Int×Int
def Ff(n:Nat)(go0:tg->Option jQ)(v0:Int)(v1:Lv)(v2 v3 v4 v5 v6:Int):Option jQ:=
 bif 0<=v0 then(bif v6<(IOp.f .shl 1 v0) then bif 0<=v2 then(bif !((Int.tmod (IOp.f .shr v6 v2) 2)=1)then bif(-9223372036854775808<=(v6+1))&&((v6+1)<=9223372036854775807)then go0 (v4,v5,(v6+1))else none else bif 0<=v3 then(bif (Int.tmod (IOp.f .shr v6 v3) 2)=1 then bif(-9223372036854775808<=(v6+1))&&((v6+1)<=9223372036854775807)then go0 (v4,v5,(v6+1))else none else(qa n v0 v1 v6).bind fun y7=>
 (bif v4<0 then bif(-9223372036854775808<=(v6+1))&&((v6+1)<=9223372036854775807)then go0 (y7,v6,(v6+1))else none else(bif y7<v4 then bif(-9223372036854775808<=(v6+1))&&((v6+1)<=9223372036854775807)then go0 (y7,v6,(v6+1))else none else(bif y7=v4 then bif(-9223372036854775808<=(v6+1))&&((v6+1)<=9223372036854775807)then go0 (v4,(IOp.f .and v5 v6),(v6+1))else none else bif(-9223372036854775808<=(v6+1))&&((v6+1)<=9223372036854775807)then go0 (v4,v5,(v6+1))else none))))else none)else none else some (v4,v5))else none
def EC(n:Nat)(v0:Int)(v1:Lv)(v2 v3:Int):Option jQ:=
 (ab (fun go0 s=>Ff n go0 v0 v1 v2 v3 s.1 s.2.1 s.2.2) n (((-1),0,0):tg))
def zt(n:Nat)(v0:Int)(v1:Lv)(v2 v3:Int):Option jQ:=EC n v0 v1 v2 v3
def ref27_Least_t:FnT:=⟨[(true,[.int,tSc]),(false,[.int]),(false,[.int])],(.tup (.cons .i (.cons .i .nil))),fun n (s:Int×Lv×Int×Int)=>zt n s.1 s.2.1 s.2.2.1 s.2.2.2⟩
theorem CO:ref27_Least_t.ok Tryz.prog 59:=FnT.ok_of (cfg:=⟨[((59,4,1),.inv [(.tmp 8 .int),(.tmp 9 .int),(.tmp 10 .int)])],aH,[],ak⟩) aw n9 av (fun s fn hf=>by rw[Tryz.func59]at hf;cases hf;kernel_rfl) (fun n s=>by kernel_rfl)
def ref27_Least_T:Tab:=(59,ref27_Least_t)::ref27_Leaves_T
theorem o5:ref27_Least_T.ok Tryz.prog:=Tab.ok_cons CO n9
abbrev pq:=Int×Bool
def zR(n:Nat)(v0:Int)(v1:Lv)(v2 v3 v4:Int):Option pq:=
 (sn n v0 v1).bind fun y5=>
 (bif y5 then bif(-9223372036854775808<=(v0-1))&&((v0-1)<=9223372036854775807)then(bif 0<=v2 then(bif v2<=(v0-1) then(bif 0<=v3 then(bif v3<=(v0-1) then(bif((decide (v2=v3))==true)then some (0,false)else bif 0<=v0 then bif(-9223372036854775808<=((IOp.f .shl 1 v0)-1))&&(((IOp.f .shl 1 v0)-1)<=9223372036854775807)then(bif 0<=v4 then(bif !(v4<=((IOp.f .shl 1 v0)-1))then some (0,false)else(bif !((Int.tmod (IOp.f .shr v4 v2) 2)=1)then some (0,false)else(bif (Int.tmod (IOp.f .shr v4 v3) 2)=1 then some (0,false)else(qa n v0 v1 v4).bind fun y6=>
 some (y6,true))))else some (0,false))else none else none)else some (0,false))else some (0,false))else some (0,false))else some (0,false))else none else some (0,false))
def tn(n:Nat)(v0:Int)(v1:Lv)(v2 v3 v4:Int):Option pq:=zR n v0 v1 v2 v3 v4
def ref27_CheckCut_t:FnT:=⟨[(true,[.int,tSc]),(false,[.int]),(false,[.int]),(false,[.int])],(.tup (.cons .i (.cons .b .nil))),fun n (s:Int×Lv×Int×Int×Int)=>tn n s.1 s.2.1 s.2.2.1 s.2.2.2.1 s.2.2.2.2⟩
theorem yX:ref27_CheckCut_t.ok Tryz.prog 68:=FnT.ok_of (cfg:=⟨[],aH,[],ak⟩) aw o5 av (fun s fn hf=>by rw[Tryz.func68]at hf;cases hf;kernel_rfl) (fun n s=>by kernel_rfl)
def ref27_CheckCut_T:Tab:=(68,ref27_CheckCut_t)::ref27_Least_T
theorem lL:ref27_CheckCut_T.ok Tryz.prog:=Tab.ok_cons yX o5
abbrev wS:=Int
def Gw(n:Nat)(v0 v1:Int):Option wS:=
 (bif v0<0 then bif(-9223372036854775808<=(v0+1))&&((v0+1)<=9223372036854775807)then bif(-9223372036854775808<=(0-(v0+1)))&&((0-(v0+1))<=9223372036854775807)then bif !(v1=0)then some (Int.tmod (0-(v0+1)) v1)else none else none else none else bif !(v1=0)then some (Int.tmod v0 v1)else none)
def ox(n:Nat)(v0 v1:Int):Option wS:=Gw n v0 v1
def ref27_pick_t:FnT:=⟨[(false,[.int]),(false,[.int])],.i,fun n (s:Int×Int)=>ox n s.1 s.2⟩
theorem E7:ref27_pick_t.ok Tryz.prog 112:=FnT.ok_of (cfg:=⟨[],aH,[],ak⟩) aw lL av (fun s fn hf=>by rw[Tryz.func112]at hf;cases hf;kernel_rfl) (fun n s=>by kernel_rfl)
def ref27_pick_T:Tab:=(112,ref27_pick_t)::ref27_CheckCut_T
theorem qV:ref27_pick_T.ok Tryz.prog:=Tab.ok_cons E7 lL
abbrev k9:=Int×Lv
abbrev vE:=Lv
def F5(n:Nat)(go0:vE->Option k9)(v0 v3 v5:Int)(v7:Lv):Option k9:=
 (ox n v3 3).bind fun y8=>
 bif(-9223372036854775808<=(39+y8))&&((39+y8)<=9223372036854775807)then(bif (v7.length:Int)<(39+y8) then bif 0<=v5 then bif v5<(v7.length:Int) then bif (((v7.length:Int)+1)*24)<=140737488355328 then go0 (v7++[[(AV.int (cI v7 v5 0)),(AV.int (cI v7 v5 1)),(AV.int (cI v7 v5 2))]])else none else none else none else some (v0,v7))else none
def GQ(n:Nat)(v0:Int)(v1:Lv)(v2 v3 v4:Int):Option k9:=
 bif ((v1.length:Int)*24)<=140737488355328 then(bif (v1.length:Int)=0 then some (v3,v1)else(ox n v4 (v1.length:Int)).bind fun y5=>
 (ox n v2 5).bind fun y6=>
 (bif y6=0 then some (v3,v1)else(bif y6=1 then bif 0<=y5 then bif y5<(v1.length:Int) then some (v0,(List.modify v1 (y5).toNat (fun r=>r.set 0 (AV.int v3))))else none else none else(bif y6=2 then bif 0<=y5 then bif y5<(v1.length:Int) then some (v0,(List.modify v1 (y5).toNat (fun r=>r.set 1 (AV.int v3))))else none else none else(bif y6=3 then bif 0<=y5 then bif y5<(v1.length:Int) then some (v0,(List.modify v1 (y5).toNat (fun r=>r.set 2 (AV.int v3))))else none else none else(ab (fun go0 s=>F5 n go0 v0 v3 y5 s) n (v1:vE)))))))else none
def BC(n:Nat)(v0:Int)(v1:Lv)(v2 v3 v4:Int):Option k9:=GQ n v0 v1 v2 v3 v4
def ref27_Bent_t:FnT:=⟨[(true,[.int,tSc]),(false,[.int]),(false,[.int]),(false,[.int])],(.agg (.cons .i (.cons (.row 1000073 (.cons .int (.cons .int (.cons .int .nil)))) .nil))),fun n (s:Int×Lv×Int×Int×Int)=>BC n s.1 s.2.1 s.2.2.1 s.2.2.2.1 s.2.2.2.2⟩
theorem Fi:ref27_Bent_t.ok Tryz.prog 51:=FnT.ok_of (cfg:=⟨[((51,7,6),.inv [(.cellrow 4 1 73 (.cons .int (.cons .int (.cons .int .nil))))])],aH,[],ak⟩) aw qV av (fun s fn hf=>by rw[Tryz.func51]at hf;cases hf;kernel_rfl) (fun n s=>by kernel_rfl)
def ref27_Bent_T:Tab:=(51,ref27_Bent_t)::ref27_pick_T
theorem rH:ref27_Bent_T.ok Tryz.prog:=Tab.ok_cons Fi qV
abbrev bN:=Bool
abbrev dy:=Int
abbrev qc:=Int×Int
def cD(n:Nat)(go0:dy->Option bN)(go1:dy->Option bN)(v0:Lv)(v2 v3:Int):Option bN:=
 (bif v3<((List.take (v2).toNat v0).length:Int) then bif 0<=v3 then(bif (cI (List.take (v2).toNat v0) v3 0)=(cI v0 v2 0) then(bif (cI (List.take (v2).toNat v0) v3 1)=(cI v0 v2 1) then(bif (cI (List.take (v2).toNat v0) v3 3)<=(cI v0 v2 3) then(bif (cI v0 v2 3)<(cI (List.take (v2).toNat v0) v3 4) then some false else(bif (cI v0 v2 3)<=(cI (List.take (v2).toNat v0) v3 3) then(bif (cI (List.take (v2).toNat v0) v3 3)<(cI v0 v2 4) then some false else bif(-9223372036854775808<=(v3+1))&&((v3+1)<=9223372036854775807)then go1 (v3+1)else none)else bif(-9223372036854775808<=(v3+1))&&((v3+1)<=9223372036854775807)then go1 (v3+1)else none))else(bif (cI v0 v2 3)<=(cI (List.take (v2).toNat v0) v3 3) then(bif (cI (List.take (v2).toNat v0) v3 3)<(cI v0 v2 4) then some false else bif(-9223372036854775808<=(v3+1))&&((v3+1)<=9223372036854775807)then go1 (v3+1)else none)else bif(-9223372036854775808<=(v3+1))&&((v3+1)<=9223372036854775807)then go1 (v3+1)else none))else bif(-9223372036854775808<=(v3+1))&&((v3+1)<=9223372036854775807)then go1 (v3+1)else none)else bif(-9223372036854775808<=(v3+1))&&((v3+1)<=9223372036854775807)then go1 (v3+1)else none)else none else bif(-9223372036854775808<=(v2+1))&&((v2+1)<=9223372036854775807)then go0 (v2+1)else none)
def dj(n:Nat)(go0:qc->Option bN)(v1:Lv)(v3 v4:Int):Option bN:=
 (bif v3<(v1.length:Int) then bif 0<=v3 then(bif (cI v1 v3 0)<=v4 then some (!(decide (0<=v3)))else(bif 0<=(cI v1 v3 0) then(bif !((cI v1 v3 0)<=99999999)then some (!(decide (0<=v3)))else(bif 2<=(cI v1 v3 1) then(bif !((cI v1 v3 1)<=4)then some (!(decide (0<=v3)))else bif(-9223372036854775808<=(v3+1))&&((v3+1)<=9223372036854775807)then go0 ((v3+1),(cI v1 v3 0))else none)else some (!(decide (0<=v3)))))else some (!(decide (0<=v3)))))else none else some true)
def fg(n:Nat)(go0:dy->Option bN)(v0 v1:Lv)(v2:Int):Option bN:=
 (bif v2<(v0.length:Int) then bif 0<=v2 then(bif 0<=(cI v0 v2 0) then(bif (cI v0 v2 0)<=99999999 then(bif 0<=(cI v0 v2 2) then(bif (cI v0 v2 2)<=99999999 then(bif !((cI v0 v2 0)=(cI v0 v2 2))then(bif 1<=(cI v0 v2 1) then(bif (cI v0 v2 1)<=4 then(bif 0<=(cI v0 v2 3) then(bif (cI v0 v2 3)<(cI v0 v2 4) then(bif !((cI v0 v2 4)<=10000001)then some false else bif v2<=(v0.length:Int) then(ab (fun go1 s=>cD n go0 go1 v0 v2 s) n (0:dy))else none)else some false)else some false)else some false)else some false)else some false)else some false)else some false)else some false)else some false)else none else(bif (v1.length:Int)<=40 then(ab (fun go0 s=>dj n go0 v1 s.1 s.2) n ((0,(-1)):qc))else some false))
def qO(n:Nat)(v0 v1:Lv):Option bN:=
 (bif 40<(v0.length:Int) then some false else(ab (fun go0 s=>fg n go0 v0 v1 s) n (0:dy)))
def gL(n:Nat)(v0 v1:Lv):Option bN:=qO n v0 v1
def forward_Valid_t:FnT:=⟨[(false,[(.sl (.cons .int (.cons .int (.cons .int (.cons .int (.cons .int .nil))))))]),(false,[(.sl (.cons .int (.cons .int .nil)))])],.b,fun n (s:Lv×Lv)=>gL n s.1 s.2⟩
theorem zV:forward_Valid_t.ok Tryz.prog 70:=FnT.ok_of (cfg:=⟨[((141,4,2),.inv [(.tmp 11 .int)]),((213,2,6),.inv [(.tmp 8 .int)]),((197,2,3),.inv [(.tmp 8 .int),(.cell 0 0 .int)])],aH,[],ak⟩) aw rH av (fun s fn hf=>by rw[Tryz.func70]at hf;cases hf;kernel_rfl) (fun n s=>by kernel_rfl)
def forward_Valid_T:Tab:=(70,forward_Valid_t)::ref27_Bent_T
theorem m7:forward_Valid_T.ok Tryz.prog:=Tab.ok_cons zV rH
abbrev az:=Int×Lv×Lv×Int
abbrev cZ:=Int×Bool×Lv×Lv×Int
abbrev nh:=Int
abbrev dJ:=Int×Lv
abbrev fi:=Int×Lv
def iP(n:Nat)(go0:cZ->Option az)(go1:nh->Option az)(v0 v6 v8:Lv)(v9:Int)(v11 v12:Lv)(v14:Int):Option az:=
 (bif v14<(v11.length:Int) then bif 0<=v14 then(bif (cI v0 v9 2)=(cI v11 v14 0) then bif (((v11.length:Int)+1)*8)<=140737488355328 then bif (((v12.length:Int)+1)*8)<=140737488355328 then some (5,(v11++[[(AV.int (cI v0 v9 2))]]),(v12++[[(AV.int v9)]]),0)else none else none else bif(-9223372036854775808<=(v14+1))&&((v14+1)<=9223372036854775807)then go1 (v14+1)else none)else none else bif (((v11.length:Int)+1)*8)<=140737488355328 then bif (((v12.length:Int)+1)*8)<=140737488355328 then(bif(de [(AV.int (cI v0 v9 2)),(AV.int 1)] v6)then go0 ((bO [(AV.int (cI v0 v9 2)),(AV.int 1)] v6),true,(v11++[[(AV.int (cI v0 v9 2))]]),(v12++[[(AV.int v9)]]),(cI v0 v9 2))else go0 ((bO [(AV.int (cI v0 v9 2)),(AV.int (bO [(AV.int (cI v0 v9 2))] v8))] v6),(de [(AV.int (cI v0 v9 2)),(AV.int (bO [(AV.int (cI v0 v9 2))] v8))] v6),(v11++[[(AV.int (cI v0 v9 2))]]),(v12++[[(AV.int v9)]]),(cI v0 v9 2)))else none else none)
def da(n:Nat)(go0:cZ->Option az)(v0 v6 v8:Lv)(v9:Int)(v10:Bool)(v11 v12:Lv):Option az:=
 (bif v10 then(bif (v12.length:Int)=5 then some (6,v11,v12,0)else bif 0<=v9 then bif v9<(v0.length:Int) then(ab (fun go1 s=>iP n go0 go1 v0 v6 v8 v9 v11 v12 s) n (0:nh))else none else none)else bif(-9223372036854775808<=((v11.length:Int)-1))&&(((v11.length:Int)-1)<=9223372036854775807)then bif 0<=((v11.length:Int)-1) then bif ((v11.length:Int)-1)<(v11.length:Int) then some ((aU (bO [(AV.int (cI v11 ((v11.length:Int)-1) 0))] v8) 1),v11,v12,0)else none else none else none)
abbrev xn:= @da
def nN(n:Nat)(go0:dJ->Option az)(v0:Lv)(v2:Int)(v6 v8:Lv):Option az:=
 (bif(de [(AV.int v2),(AV.int 1)] v6)then(ab (fun go0 s=>da n go0 v0 v6 v8 s.1 s.2.1 s.2.2.1 s.2.2.2.1) n (((bO [(AV.int v2),(AV.int 1)] v6),true,(([]:Lv)++[[(AV.int v2)]]),([]:Lv),v2):cZ))else(ab (fun go0 s=>xn n go0 v0 v6 v8 s.1 s.2.1 s.2.2.1 s.2.2.2.1) n (((bO [(AV.int v2),(AV.int (bO [(AV.int v2)] v8))] v6),(de [(AV.int v2),(AV.int (bO [(AV.int v2)] v8))] v6),(([]:Lv)++[[(AV.int v2)]]),([]:Lv),v2):cZ)))
def cy(n:Nat)(go0:dJ->Option az)(v0 v1:Lv)(v2:Int)(v6:Lv)(v7:Int)(v8:Lv):Option az:=
 (bif v7<(v1.length:Int) then bif 0<=v7 then bif(-9223372036854775808<=(v7+1))&&((v7+1)<=9223372036854775807)then go0 ((v7+1),(d8 [(AV.int (cI v1 v7 0))] (AV.int (cI v1 v7 1)) v8))else none else none else nN n go0 v0 v2 v6 v8)
def cw(n:Nat)(go0:fi->Option az)(v0 v1:Lv)(v2 v3 v5:Int)(v6:Lv):Option az:=
 (bif v5<(v0.length:Int) then bif 0<=v5 then(bif (cI v0 v5 3)<=v3 then(bif v3<(cI v0 v5 4) then bif(-9223372036854775808<=(v5+1))&&((v5+1)<=9223372036854775807)then go0 ((v5+1),(d8 [(AV.int (cI v0 v5 0)),(AV.int (cI v0 v5 1))] (AV.int v5) v6))else none else bif(-9223372036854775808<=(v5+1))&&((v5+1)<=9223372036854775807)then go0 ((v5+1),v6)else none)else bif(-9223372036854775808<=(v5+1))&&((v5+1)<=9223372036854775807)then go0 ((v5+1),v6)else none)else none else(ab (fun go0 s=>cy n go0 v0 v1 v2 v6 s.1 s.2) n ((0,([]:Lv)):dJ)))
def nV(n:Nat)(v0 v1:Lv)(v2 v3:Int):Option az:=
 (bif !(v3<=10000000)then some (0,([]:Lv),([]:Lv),220)else(ab (fun go0 s=>cw n go0 v0 v1 v2 v3 s.1 s.2) n ((0,([]:Lv)):fi)))
def nU(n:Nat)(v0 v1:Lv)(v2 v3:Int):Option az:=
 (bif 0<=v3 then nV n v0 v1 v2 v3 else some (0,([]:Lv),([]:Lv),220))
def oa(n:Nat)(v0 v1:Lv)(v2 v3:Int):Option az:=
 (bif !(v2<=99999999)then some (0,([]:Lv),([]:Lv),220)else nU n v0 v1 v2 v3)
def nK(n:Nat)(v0 v1:Lv)(v2 v3:Int):Option az:=
 (bif 0<=v2 then oa n v0 v1 v2 v3 else some (0,([]:Lv),([]:Lv),220))
def nS(n:Nat)(v0 v1:Lv)(v2 v3:Int)(v4:Bool):Option az:=
 (bif(!v4)then some (0,([]:Lv),([]:Lv),220)else nK n v0 v1 v2 v3)
def nR(n:Nat)(v0 v1:Lv)(v2 v3:Int):Option az:=
 (gL n v0 v1).bind fun y4=>
 nS n v0 v1 v2 v3 y4
def fj(n:Nat)(v0 v1:Lv)(v2 v3:Int):Option az:=nR n v0 v1 v2 v3
def forward_Resolve_t:FnT:=⟨[(false,[(.sl (.cons .int (.cons .int (.cons .int (.cons .int (.cons .int .nil))))))]),(false,[(.sl (.cons .int (.cons .int .nil)))]),(false,[.int]),(false,[.int])],(.tup (.cons (.agg (.cons .i (.cons (.row 3 (.cons .int .nil)) (.cons (.row 3 (.cons .int .nil)) .nil)))) (.cons .i .nil))),fun n (s:Lv×Lv×Int×Int)=>fj n s.1 s.2.1 s.2.2.1 s.2.2.2⟩
theorem xx:forward_Resolve_t.ok Tryz.prog 28:=FnT.ok_of (cfg:=⟨[((156,1,0),.inv [.tmp 4 .int,.tmp 5 .bool,.cellrow 16 1 3 (.cons .int .nil),.cellrow 16 2 3 (.cons .int .nil),.cell 19 0 .int]),((81,3,8),.inv [(.tmp 18 .int),(.inrow 4 4000000 (.cons .int (.cons .int (.cons .int .nil))))]),((81,9,10),.inv [(.tmp 38 .int),(.inrow 5 4000000 (.cons .int (.cons .int .nil)))]),((158,2,27),.inv [(.tmp 8 .int)])],aH,[],ak⟩) aw m7 av (fun s fn hf=>by rw[Tryz.func28]at hf;cases hf;kernel_rfl) (fun n s=>by kernel_rfl)
def forward_Resolve_T:Tab:=(28,forward_Resolve_t)::forward_Valid_T
theorem kN:forward_Resolve_T.ok Tryz.prog:=Tab.ok_cons xx m7
abbrev dN:=Bool
abbrev gu:=Int
def Bg(n:Nat)(go0:gu->Option dN)(v6 v9:Lv)(v12:Int):Option dN:=
 (bif v12<(v6.length:Int) then bif 0<=v12 then bif v12<(v9.length:Int) then(bif !((cI v6 v12 0)=(cI v9 v12 0))then some false else bif(-9223372036854775808<=(v12+1))&&((v12+1)<=9223372036854775807)then go0 (v12+1)else none)else none else none else some true)
def BY(n:Nat)(go0:gu->Option dN)(v5 v6 v8 v9:Lv)(v11:Int):Option dN:=
 (bif v11<(v5.length:Int) then bif 0<=v11 then bif v11<(v8.length:Int) then(bif !((cI v5 v11 0)=(cI v8 v11 0))then some false else bif(-9223372036854775808<=(v11+1))&&((v11+1)<=9223372036854775807)then go0 (v11+1)else none)else none else none else(bif !((v6.length:Int)=(v9.length:Int))then some false else(ab (fun go0 s=>Bg n go0 v6 v9 s) n (0:gu))))
def Be(n:Nat)(v0 v1:Lv)(v2 v3 v4:Int)(v5 v6:Lv):Option dN:=
 (fj n v0 v1 v2 v3).bind fun y7=>
 (bif y7.2.2.2=0 then(bif v4=y7.1 then(bif !((v5.length:Int)=(y7.2.1.length:Int))then some false else(ab (fun go0 s=>BY n go0 v5 v6 y7.2.1 y7.2.2.1 s) n (0:gu)))else some false)else some false)
def DW(n:Nat)(v0 v1:Lv)(v2 v3 v4:Int)(v5 v6:Lv):Option dN:=Be n v0 v1 v2 v3 v4 v5 v6
def forward_Check_t:FnT:=⟨[(false,[(.sl (.cons .int (.cons .int (.cons .int (.cons .int (.cons .int .nil))))))]),(false,[(.sl (.cons .int (.cons .int .nil)))]),(false,[.int]),(false,[.int]),(true,[.int,tSa,tSa])],.b,fun n (s:Lv×Lv×Int×Int×Int×Lv×Lv)=>DW n s.1 s.2.1 s.2.2.1 s.2.2.2.1 s.2.2.2.2.1 s.2.2.2.2.2.1 s.2.2.2.2.2.2⟩
theorem Ak:forward_Check_t.ok Tryz.prog 37:=FnT.ok_of (cfg:=⟨[((97,4,5),.inv [(.tmp 13 .int)]),((97,4,6),.inv [(.tmp 13 .int)])],aH,[],ak⟩) aw kN av (fun s fn hf=>by rw[Tryz.func37]at hf;cases hf;kernel_rfl) (fun n s=>by kernel_rfl)
def forward_Check_T:Tab:=(37,forward_Check_t)::forward_Resolve_T
theorem mF:forward_Check_T.ok Tryz.prog:=Tab.ok_cons Ak kN
abbrev aC:=Bool
abbrev aO:=Int×Lv
abbrev cX:=Int
def dm(n:Nat)(go0:aO->Option aC)(go1:aO->Option aC)(v0:Lv)(v6 v8:Int)(v9:Lv):Option aC:=
 (bif v8<((List.drop ((v6-1)).toNat (List.take ((v6+1)).toNat v0)).length:Int) then bif 0<=v8 then(bif 0<=(cI (List.drop ((v6-1)).toNat (List.take ((v6+1)).toNat v0)) v8 0) then bif 0<=v6 then bif v6<(v0.length:Int) then bif (v6-1)<(v0.length:Int) then(bif !((cI v0 v6 0)=(cI v0 (v6-1) 0))then bif (cI (List.drop ((v6-1)).toNat (List.take ((v6+1)).toNat v0)) v8 0)<8 then bif (cI (List.drop ((v6-1)).toNat (List.take ((v6+1)).toNat v0)) v8 0)<(v9.length:Int) then bif(-9223372036854775808<=(v8+1))&&((v8+1)<=9223372036854775807)then go1 ((v8+1),(List.modify v9 ((cI (List.drop ((v6-1)).toNat (List.take ((v6+1)).toNat v0)) v8 0)).toNat (fun r=>r.set 0 (AV.int (aU (cI v9 (cI (List.drop ((v6-1)).toNat (List.take ((v6+1)).toNat v0)) v8 0) 0) v6)))))else none else none else none else bif(-9223372036854775808<=(v8+1))&&((v8+1)<=9223372036854775807)then go1 ((v8+1),v9)else none)else none else none else none else bif(-9223372036854775808<=(v8+1))&&((v8+1)<=9223372036854775807)then go1 ((v8+1),v9)else none)else none else go0 ((v6+1),v9))
def jK(n:Nat)(go0:cX->Option aC)(v0 v1 v7:Lv)(v8:Int):Option aC:=
 (bif v8<(v1.length:Int) then bif 0<=v8 then(bif !((cI v1 v8 0)=(-1))then bif v8<8 then bif v8<(v7.length:Int) then(bif (cI v7 v8 0)<=(cI v1 v8 0) then(bif !((cI v1 v8 0)<=((v0.length:Int)-1))then some false else bif(-9223372036854775808<=(v8+1))&&((v8+1)<=9223372036854775807)then go0 (v8+1)else none)else some false)else none else none else bif(-9223372036854775808<=(v8+1))&&((v8+1)<=9223372036854775807)then go0 (v8+1)else none)else none else some true)
def dQ(n:Nat)(go0:aO->Option aC)(v0 v1:Lv)(v6:Int)(v7:Lv):Option aC:=
 (bif v6<=((v0.length:Int)-1) then bif(-9223372036854775808<=(v6-1))&&((v6-1)<=9223372036854775807)then bif(-9223372036854775808<=(v6+1))&&((v6+1)<=9223372036854775807)then bif 0<=(v6-1) then bif (v6-1)<=(v6+1) then bif (v6+1)<=(v0.length:Int) then(ab (fun go1 s=>dm n go0 go1 v0 v6 s.1 s.2) n ((0,v7):aO))else none else none else none else none else none else(ab (fun go0 s=>jK n go0 v0 v1 v7 s) n (0:cX)))
def cc(n:Nat)(go0:aO->Option aC)(v0 v1:Lv)(v2 v4:Int)(v5:Lv):Option aC:=
 (bif v4<8 then bif(-9223372036854775808<=(((v0.length:Int)-1)-v2))&&((((v0.length:Int)-1)-v2)<=9223372036854775807)then bif 0<=v4 then bif v4<(v5.length:Int) then bif(-9223372036854775808<=(v4+1))&&((v4+1)<=9223372036854775807)then go0 ((v4+1),(List.modify v5 (v4).toNat (fun r=>r.set 0 (AV.int (aU 0 (((v0.length:Int)-1)-v2))))))else none else none else none else none else(ab (fun go0 s=>dQ n go0 v0 v1 s.1 s.2) n ((1,v5):aO)))
abbrev Ec:= @cc
def nr(n:Nat)(go0:cX->Option aC)(v0 v1:Lv)(v2 v3:Int):Option aC:=
 (bif (-1)<=(cI v0 v3 0) then(bif !((cI v0 v3 0)<=7)then(bif((decide (0<=v3))==true)then some false else(bif !((v1.length:Int)=8)then some false else(bif 0<=v2 then(bif !(v2<=10)then some false else bif(-9223372036854775808<=((v0.length:Int)-1))&&(((v0.length:Int)-1)<=9223372036854775807)then(ab (fun go0 s=>cc n go0 v0 v1 v2 s.1 s.2) n ((0,(List.replicate ((8:Int)).toNat [(AV.int 0)])):aO))else none)else some false)))else bif(-9223372036854775808<=(v3+1))&&((v3+1)<=9223372036854775807)then go0 (v3+1)else none)else(bif((decide (0<=v3))==true)then some false else(bif !((v1.length:Int)=8)then some false else(bif 0<=v2 then(bif !(v2<=10)then some false else bif(-9223372036854775808<=((v0.length:Int)-1))&&(((v0.length:Int)-1)<=9223372036854775807)then(ab (fun go0 s=>Ec n go0 v0 v1 v2 s.1 s.2) n ((0,(List.replicate ((8:Int)).toNat [(AV.int 0)])):aO))else none)else some false))))
abbrev CK:= @cc
def cd(n:Nat)(go0:cX->Option aC)(v0 v1:Lv)(v2 v3:Int):Option aC:=
 (bif v3<(v0.length:Int) then bif 0<=v3 then nr n go0 v0 v1 v2 v3 else none else(bif !((v1.length:Int)=8)then some false else(bif 0<=v2 then(bif !(v2<=10)then some false else bif(-9223372036854775808<=((v0.length:Int)-1))&&(((v0.length:Int)-1)<=9223372036854775807)then(ab (fun go0 s=>CK n go0 v0 v1 v2 s.1 s.2) n ((0,(List.replicate ((8:Int)).toNat [(AV.int 0)])):aO))else none)else some false)))
def vC(n:Nat)(v0 v1:Lv)(v2:Int):Option aC:=
 (bif (v0.length:Int)<=30 then(ab (fun go0 s=>cd n go0 v0 v1 v2 s) n (0:cX))else some false)
def vY(n:Nat)(v0 v1:Lv)(v2:Int):Option aC:=
 (bif 1<=(v0.length:Int) then vC n v0 v1 v2 else some false)
def jB(n:Nat)(v0 v1:Lv)(v2:Int):Option aC:=vY n v0 v1 v2
def route_Valid_t:FnT:=⟨[(false,[tSa]),(false,[tSa]),(false,[.int])],.b,fun n (s:Lv×Lv×Int)=>jB n s.1 s.2.1 s.2.2⟩
theorem C1:route_Valid_t.ok Tryz.prog 71:=FnT.ok_of (cfg:=⟨[((124,2,0),.inv [(.tmp 8 .int)]),((71,6,2),.inv [(.tmp 31 .int),(.inrow 1 217 (.cons .int .nil))]),((71,11,4),.inv [(.tmp 10 .int),(.inrow 1 217 (.cons .int .nil))]),((71,14,6),.inv [(.tmp 53 .int),(.inrow 1 217 (.cons .int .nil))]),((71,20,6),.inv [(.tmp 81 .int)])],aH,[],ak⟩) aw mF av (fun s fn hf=>by rw[Tryz.func71]at hf;cases hf;kernel_rfl) (fun n s=>by kernel_rfl)
def route_Valid_T:Tab:=(71,route_Valid_t)::forward_Check_T
theorem oV:route_Valid_T.ok Tryz.prog:=Tab.ok_cons C1 mF
abbrev iQ:=Lv×Int×Int
abbrev jX:=Int×Lv×Int×Int
def iu(n:Nat)(go0:jX->Option iQ)(v0 v1:Lv)(v5:Int)(v6:Lv)(v8:Int):Option iQ:=
 bif 0<=v8 then bif v8<(v1.length:Int) then bif 0<=(aU (cI v1 v8 0) v5) then bif (aU (cI v1 v8 0) v5)<(v0.length:Int) then(bif (cI v0 (aU (cI v1 v8 0) v5) 0)=v8 then bif (((v6.length:Int)+1)*16)<=140737488355328 then some ((v6++[[(AV.int v8),(AV.int (aU (cI v1 v8 0) v5))]]),1,0)else none else(bif (cI v0 (aU (cI v1 v8 0) v5) 0)<0 then bif (((v6.length:Int)+1)*16)<=140737488355328 then some ((v6++[[(AV.int v8),(AV.int (aU (cI v1 v8 0) v5))]]),2,0)else none else bif 0<=(cI v0 (aU (cI v1 v8 0) v5) 0) then bif (cI v0 (aU (cI v1 v8 0) v5) 0)<(v1.length:Int) then(bif (cI v1 (cI v0 (aU (cI v1 v8 0) v5) 0) 0)<0 then bif (((v6.length:Int)+1)*16)<=140737488355328 then some ((v6++[[(AV.int v8),(AV.int (aU (cI v1 v8 0) v5))]]),3,0)else none else bif (((v6.length:Int)+1)*16)<=140737488355328 then go0 ((aU (cI v1 v8 0) v5),(v6++[[(AV.int v8),(AV.int (aU (cI v1 v8 0) v5))]]),0,(cI v0 (aU (cI v1 v8 0) v5) 0))else none)else none else none))else none else none else none else none
def xz(n:Nat)(v0 v1:Lv)(v2 v3:Int):Option iQ:=
 (jB n v0 v1 v2).bind fun y4=>
 (bif y4 then(bif 0<=v3 then(bif v3<=7 then bif v3<(v1.length:Int) then(bif !(0<=(cI v1 v3 0))then some (([]:Lv),0,240)else(ab (fun go0 s=>iu n go0 v0 v1 s.1 s.2.1 s.2.2.2) n (((-1),([]:Lv),0,v3):jX)))else none else some (([]:Lv),0,240))else some (([]:Lv),0,240))else some (([]:Lv),0,240))
def ow(n:Nat)(v0 v1:Lv)(v2 v3:Int):Option iQ:=xz n v0 v1 v2 v3
def route_Path_t:FnT:=⟨[(false,[tSa]),(false,[tSa]),(false,[.int]),(false,[.int])],(.tup (.cons (.row 94 (.cons .int (.cons .int .nil))) (.cons .i (.cons .i .nil)))),fun n (s:Lv×Lv×Int×Int)=>ow n s.1 s.2.1 s.2.2.1 s.2.2.2⟩
theorem EL:route_Path_t.ok Tryz.prog 33:=FnT.ok_of (cfg:=⟨[((166,1,7),.inv [(.tmp 5 .int),(.cellrow 0 0 94 (.cons .int (.cons .int .nil))),(.cell 1 0 .int),(.cell 5 0 .int)])],aH,[],ak⟩) aw oV av (fun s fn hf=>by rw[Tryz.func33]at hf;cases hf;kernel_rfl) (fun n s=>by kernel_rfl)
def route_Path_T:Tab:=(33,route_Path_t)::route_Valid_T
theorem rC:route_Path_T.ok Tryz.prog:=Tab.ok_cons EL oV
abbrev cQ:=Bool
abbrev dw:=Int
def nE(n:Nat)(go0:dw->Option cQ)(v0 v1:Lv)(v3:Int):Option cQ:=
 (bif v3<(v1.length:Int) then bif 0<=v3 then(bif 0<=(cI v1 v3 0) then(bif !((cI v1 v3 0)<=7)then some (decide (v3=(-1)))else bif(-9223372036854775808<=((v0.length:Int)-1))&&(((v0.length:Int)-1)<=9223372036854775807)then(bif 0<=(cI v1 v3 1) then(bif !((cI v1 v3 1)<=((v0.length:Int)-1))then some (decide (v3=(-1)))else(bif 0<v3 then bif(-9223372036854775808<=(v3-1))&&((v3-1)<=9223372036854775807)then bif 0<=(v3-1) then bif (v3-1)<(v1.length:Int) then bif 0<=(cI v1 (v3-1) 1) then bif (cI v1 (v3-1) 1)<(v0.length:Int) then(bif !((cI v1 v3 0)=(cI v0 (cI v1 (v3-1) 1) 0))then some (decide (v3=(-1)))else(bif (cI v1 v3 1)<(cI v1 (v3-1) 1) then some (decide (v3=(-1)))else bif(-9223372036854775808<=((v1.length:Int)-1))&&(((v1.length:Int)-1)<=9223372036854775807)then(bif v3<((v1.length:Int)-1) then bif (cI v1 v3 1)<(v0.length:Int) then(bif (cI v0 (cI v1 v3 1) 0)=(cI v1 v3 0) then some (decide (v3=(-1)))else(bif (cI v0 (cI v1 v3 1) 0)=(-1) then some (decide (v3=(-1)))else bif(-9223372036854775808<=(v3+1))&&((v3+1)<=9223372036854775807)then go0 (v3+1)else none))else none else bif(-9223372036854775808<=(v3+1))&&((v3+1)<=9223372036854775807)then go0 (v3+1)else none)else none))else none else none else none else none else none else bif(-9223372036854775808<=((v1.length:Int)-1))&&(((v1.length:Int)-1)<=9223372036854775807)then(bif v3<((v1.length:Int)-1) then bif (cI v1 v3 1)<(v0.length:Int) then(bif (cI v0 (cI v1 v3 1) 0)=(cI v1 v3 0) then some (decide (v3=(-1)))else(bif (cI v0 (cI v1 v3 1) 0)=(-1) then some (decide (v3=(-1)))else bif(-9223372036854775808<=(v3+1))&&((v3+1)<=9223372036854775807)then go0 (v3+1)else none))else none else bif(-9223372036854775808<=(v3+1))&&((v3+1)<=9223372036854775807)then go0 (v3+1)else none)else none))else some (decide (v3=(-1))))else none)else some (decide (v3=(-1))))else none else some true)
abbrev EP:= @nE
def En(n:Nat)(go0:dw->Option cQ)(v0 v1:Lv)(v2:Int):Option cQ:=
 (bif (-1)<=(cI v0 v2 0) then(bif !((cI v0 v2 0)<=7)then(bif((decide (0<=v2))==true)then some false else(bif (v1.length:Int)=0 then some false else(ab (fun go0 s=>nE n go0 v0 v1 s) n (0:dw))))else bif(-9223372036854775808<=(v2+1))&&((v2+1)<=9223372036854775807)then go0 (v2+1)else none)else(bif((decide (0<=v2))==true)then some false else(bif (v1.length:Int)=0 then some false else(ab (fun go0 s=>EP n go0 v0 v1 s) n (0:dw)))))
abbrev Ef:= @nE
def EG(n:Nat)(go0:dw->Option cQ)(v0 v1:Lv)(v2:Int):Option cQ:=
 (bif v2<(v0.length:Int) then bif 0<=v2 then En n go0 v0 v1 v2 else none else(bif (v1.length:Int)=0 then some false else(ab (fun go0 s=>Ef n go0 v0 v1 s) n (0:dw))))
def Eu(n:Nat)(v0 v1:Lv):Option cQ:=
 (bif (v0.length:Int)<=30 then(ab (fun go0 s=>EG n go0 v0 v1 s) n (0:dw))else some false)
def EB(n:Nat)(v0 v1:Lv):Option cQ:=
 (bif 1<=(v0.length:Int) then Eu n v0 v1 else some false)
def Ia(n:Nat)(v0 v1:Lv):Option cQ:=EB n v0 v1
def route_Right_t:FnT:=⟨[(false,[tSa]),(false,[(.sl (.cons .int (.cons .int .nil)))])],.b,fun n (s:Lv×Lv)=>Ia n s.1 s.2⟩
theorem Cr:route_Right_t.ok Tryz.prog 38:=FnT.ok_of (cfg:=⟨[((124,2,2),.inv [(.tmp 8 .int)]),((171,2,3),.inv [(.tmp 9 .int)])],aH,[],ak⟩) aw rC av (fun s fn hf=>by rw[Tryz.func38]at hf;cases hf;kernel_rfl) (fun n s=>by kernel_rfl)
def route_Right_T:Tab:=(38,route_Right_t)::route_Path_T
theorem qj:route_Right_T.ok Tryz.prog:=Tab.ok_cons Cr rC
abbrev kI:=Bool
abbrev vm:=Int
def lB(n:Nat)(go0:vm->Option kI)(v0:Int)(v1:Lv)(v2:Int):Option kI:=
 (bif v2<(v1.length:Int) then bif 0<=v2 then bif(-9223372036854775808<=(v0-1))&&((v0-1)<=9223372036854775807)then(bif 0<=(cI v1 v2 0) then(bif !((cI v1 v2 0)<=(v0-1))then some (!(decide (0<=v2)))else(bif 0<=(cI v1 v2 1) then(bif !((cI v1 v2 1)<=(v0-1))then some (!(decide (0<=v2)))else(bif (cI v1 v2 0)=(cI v1 v2 1) then some (!(decide (0<=v2)))else(bif 0<=(cI v1 v2 2) then(bif !((cI v1 v2 2)<=10000)then some (!(decide (0<=v2)))else bif(-9223372036854775808<=(v2+1))&&((v2+1)<=9223372036854775807)then go0 (v2+1)else none)else some (!(decide (0<=v2))))))else some (!(decide (0<=v2)))))else some (!(decide (0<=v2))))else none else none else some true)
def x6(n:Nat)(v0:Int)(v1:Lv):Option kI:=
 (bif 0<=v0 then(bif !(v0<=12)then some false else(bif 40<(v1.length:Int) then some false else(ab (fun go0 s=>lB n go0 v0 v1 s) n (0:vm))))else some false)
def gq(n:Nat)(v0:Int)(v1:Lv):Option kI:=x6 n v0 v1
def flow_Valid_t:FnT:=⟨[(true,[.int,tSc])],.b,fun n (s:Int×Lv)=>gq n s.1 s.2⟩
theorem Fd:flow_Valid_t.ok Tryz.prog 73:=FnT.ok_of (cfg:=⟨[((201,2,1),.inv [(.tmp 8 .int)])],aH,[],ak⟩) aw qj av (fun s fn hf=>by rw[Tryz.func73]at hf;cases hf;kernel_rfl) (fun n s=>by kernel_rfl)
def flow_Valid_T:Tab:=(73,flow_Valid_t)::route_Right_T
theorem rl:flow_Valid_T.ok Tryz.prog:=Tab.ok_cons Fd qj
abbrev ib:=Int×Bool
abbrev pv:=Int×Int
def dL(n:Nat)(go0:pv->Option ib)(v1:Lv)(v4 v6 v7:Int):Option ib:=
 (bif v6<(v1.length:Int) then bif 0<=v6 then bif 0<=(cI v1 v6 0) then(bif (IOp.f .and (IOp.f .shr v4 (cI v1 v6 0)) 1)=1 then bif 0<=(cI v1 v6 1) then(bif (IOp.f .and (IOp.f .shr v4 (cI v1 v6 1)) 1)=0 then bif(-9223372036854775808<=(v7+(cI v1 v6 2)))&&((v7+(cI v1 v6 2))<=9223372036854775807)then bif(-9223372036854775808<=(v6+1))&&((v6+1)<=9223372036854775807)then go0 ((v6+1),(v7+(cI v1 v6 2)))else none else none else bif(-9223372036854775808<=(v6+1))&&((v6+1)<=9223372036854775807)then go0 ((v6+1),v7)else none)else none else bif(-9223372036854775808<=(v6+1))&&((v6+1)<=9223372036854775807)then go0 ((v6+1),v7)else none)else none else none else some (v7,true))
def rJ(n:Nat)(v0:Int)(v1:Lv)(v2 v3 v4:Int):Option ib:=
 (gq n v0 v1).bind fun y5=>
 (bif y5 then bif(-9223372036854775808<=(v0-1))&&((v0-1)<=9223372036854775807)then(bif 0<=v2 then(bif v2<=(v0-1) then(bif 0<=v3 then(bif v3<=(v0-1) then(bif((decide (v2=v3))==true)then some (0,false)else bif 0<=v0 then bif(-9223372036854775808<=((IOp.f .shl 1 v0)-1))&&(((IOp.f .shl 1 v0)-1)<=9223372036854775807)then(bif 0<=v4 then(bif !(v4<=((IOp.f .shl 1 v0)-1))then some (0,false)else(bif (IOp.f .and (IOp.f .shr v4 v2) 1)=0 then some (0,false)else(bif (IOp.f .and (IOp.f .shr v4 v3) 1)=1 then some (0,false)else(ab (fun go0 s=>dL n go0 v1 v4 s.1 s.2) n ((0,0):pv)))))else some (0,false))else none else none)else some (0,false))else some (0,false))else some (0,false))else some (0,false))else none else some (0,false))
def ba(n:Nat)(v0:Int)(v1:Lv)(v2 v3 v4:Int):Option ib:=rJ n v0 v1 v2 v3 v4
def flow_CheckCut_t:FnT:=⟨[(true,[.int,tSc]),(false,[.int]),(false,[.int]),(false,[.int])],(.tup (.cons .i (.cons .b .nil))),fun n (s:Int×Lv×Int×Int×Int)=>ba n s.1 s.2.1 s.2.2.1 s.2.2.2.1 s.2.2.2.2⟩
theorem Ao:flow_CheckCut_t.ok Tryz.prog 66:=FnT.ok_of (cfg:=⟨[((209,1,8),.inv [(.tmp 9 .int),(.cell 3 0 .int)])],aH,[],ak⟩) aw rl av (fun s fn hf=>by rw[Tryz.func66]at hf;cases hf;kernel_rfl) (fun n s=>by kernel_rfl)
def flow_CheckCut_T:Tab:=(66,flow_CheckCut_t)::flow_Valid_T
theorem nf:flow_CheckCut_T.ok Tryz.prog:=Tab.ok_cons Ao rl
abbrev du:=Int×Bool
abbrev oc:=Int
abbrev nZ:=Int×Lv
def zL(n:Nat)(go0:oc->Option du)(v2 v3:Int)(v7:Lv)(v8:Int):Option du:=
 (bif v8<(v7.length:Int) then bif 0<=v8 then(bif !((cI v7 v8 0)=0)then(bif !(v8=v2)then(bif !(v8=v3)then some (0,false)else bif(-9223372036854775808<=(v8+1))&&((v8+1)<=9223372036854775807)then go0 (v8+1)else none)else bif(-9223372036854775808<=(v8+1))&&((v8+1)<=9223372036854775807)then go0 (v8+1)else none)else bif(-9223372036854775808<=(v8+1))&&((v8+1)<=9223372036854775807)then go0 (v8+1)else none)else none else some ((cI v7 v2 0),true))
def AA(n:Nat)(go0:nZ->Option du)(v1:Lv)(v2 v3:Int)(v4:Lv)(v6:Int)(v7:Lv):Option du:=
 (bif v6<(v1.length:Int) then bif 0<=v6 then bif v6<(v4.length:Int) then(bif 0<=(cI v4 v6 0) then(bif !((cI v4 v6 0)<=(cI v1 v6 2))then some (0,false)else bif 0<=(cI v1 v6 0) then bif (cI v1 v6 0)<(v7.length:Int) then bif(-9223372036854775808<=((cI v7 (cI v1 v6 0) 0)+(cI v4 v6 0)))&&(((cI v7 (cI v1 v6 0) 0)+(cI v4 v6 0))<=9223372036854775807)then bif 0<=(cI v1 v6 1) then bif (cI v1 v6 1)<(v7.length:Int) then bif(-9223372036854775808<=((cI (List.modify v7 ((cI v1 v6 0)).toNat (fun r=>r.set 0 (AV.int ((cI v7 (cI v1 v6 0) 0)+(cI v4 v6 0))))) (cI v1 v6 1) 0)-(cI v4 v6 0)))&&(((cI (List.modify v7 ((cI v1 v6 0)).toNat (fun r=>r.set 0 (AV.int ((cI v7 (cI v1 v6 0) 0)+(cI v4 v6 0))))) (cI v1 v6 1) 0)-(cI v4 v6 0))<=9223372036854775807)then bif(-9223372036854775808<=(v6+1))&&((v6+1)<=9223372036854775807)then go0 ((v6+1),(List.modify (List.modify v7 ((cI v1 v6 0)).toNat (fun r=>r.set 0 (AV.int ((cI v7 (cI v1 v6 0) 0)+(cI v4 v6 0))))) ((cI v1 v6 1)).toNat (fun r=>r.set 0 (AV.int ((cI (List.modify v7 ((cI v1 v6 0)).toNat (fun r=>r.set 0 (AV.int ((cI v7 (cI v1 v6 0) 0)+(cI v4 v6 0))))) (cI v1 v6 1) 0)-(cI v4 v6 0))))))else none else none else none else none else none else none else none)else some (0,false))else none else none else bif v2<(v7.length:Int) then(bif (cI v7 v2 0)<0 then some (0,false)else(ab (fun go0 s=>zL n go0 v2 v3 v7 s) n (0:oc)))else none)
def Aj(n:Nat)(v0:Int)(v1:Lv)(v2 v3:Int)(v4:Lv):Option du:=
 (gq n v0 v1).bind fun y5=>
 (bif y5 then bif(-9223372036854775808<=(v0-1))&&((v0-1)<=9223372036854775807)then(bif 0<=v2 then(bif v2<=(v0-1) then(bif 0<=v3 then(bif v3<=(v0-1) then(bif((decide (v2=v3))==true)then some (0,false)else(bif !((v4.length:Int)=(v1.length:Int))then some (0,false)else bif 0<=v0 then bif (v0*8)<=140737488355328 then(ab (fun go0 s=>AA n go0 v1 v2 v3 v4 s.1 s.2) n ((0,(List.replicate (v0).toNat [(AV.int 0)])):nZ))else none else none))else some (0,false))else some (0,false))else some (0,false))else some (0,false))else none else some (0,false))
def B5(n:Nat)(v0:Int)(v1:Lv)(v2 v3:Int)(v4:Lv):Option du:=Aj n v0 v1 v2 v3 v4
def flow_CheckFlow_t:FnT:=⟨[(true,[.int,tSc]),(false,[.int]),(false,[.int]),(false,[tSa])],(.tup (.cons .i (.cons .b .nil))),fun n (s:Int×Lv×Int×Int×Lv)=>B5 n s.1 s.2.1 s.2.2.1 s.2.2.2.1 s.2.2.2.2⟩
theorem zd:flow_CheckFlow_t.ok Tryz.prog 40:=FnT.ok_of (cfg:=⟨[((103,5,4),.inv [(.tmp 21 .int),(.inrow 3 3 (.cons .int .nil))]),((40,7,6),.inv [(.tmp 36 .int)])],aH,[],ak⟩) aw nf av (fun s fn hf=>by rw[Tryz.func40]at hf;cases hf;kernel_rfl) (fun n s=>by kernel_rfl)
def flow_CheckFlow_T:Tab:=(40,flow_CheckFlow_t)::flow_CheckCut_T
theorem lK:flow_CheckFlow_T.ok Tryz.prog:=Tab.ok_cons zd nf
def Nv:List Nat:=[12,13,14,15,16,17,18,19,20,21,22,23,24,25,26,27,28,29,30,31,32,33,34,37,38,39,40,43,44,45,46,47,48,49,50,51,52,53,54,55,56,57,58,59,62,66,68,69,70,71,72,73,74,75,76,77,78,84,85,86,87,89,95,105,106,107,108,109,110,111,112,114,115,116,117,120,122,149,150,152,153,159,176,178,179,180,182,183,184,186,187,193,202,203,204,210,211,1000015,1000016,1000017,1000018,1000019,1000022,1000049,1000050,1000051,1000052,1000053,1000062,2000151,2000152,2000217,2000247,2000248,2000249,6000000]
abbrev aa:=Lv×Int×Int
abbrev aJ:=Lv×Int×Lv
abbrev ay:=Int×Lv
abbrev aW:=Int×Int
abbrev aG:=Int×Int×Lv
abbrev bM:=Lv×Lv
def Io(n:Nat)(go2:aJ->Option aa)(go0:ay->Option aa)(go1:ay->Option aa)(v9:Lv)(v19 v21:Int)(v22:Lv):Option aa:=
 (bif v21<14 then bif 0<=v19 then bif (v19*14)<(v22.length:Int) then bif 0<=v21 then bif ((v19*14)+v21)<(v22.length:Int) then bif (v19*14)<(v9.length:Int) then bif ((v19*14)+v21)<(v9.length:Int) then bif(-9223372036854775808<=((cI v22 ((v19*14)+v21) 0)-(cI v9 ((v19*14)+v21) 0)))&&(((cI v22 ((v19*14)+v21) 0)-(cI v9 ((v19*14)+v21) 0))<=9223372036854775807)then bif(-9223372036854775808<=(v21+1))&&((v21+1)<=9223372036854775807)then go1 ((v21+1),(List.modify v22 (((v19*14)+v21)).toNat (fun r=>r.set 0 (AV.int (aU ((cI v22 ((v19*14)+v21) 0)-(cI v9 ((v19*14)+v21) 0)) 0)))))else none else none else none else none else none else none else none else none else bif(-9223372036854775808<=(v19+1))&&((v19+1)<=9223372036854775807)then go0 ((v19+1),v22)else none)
def Ip(n:Nat)(go2:aJ->Option aa)(go1:aW->Option aa)(go0:aJ->Option aa)(v1:Lv)(v15:Int)(v21:Lv)(v22:Int)(v23:Lv):Option aa:=
 (bif v22<(v1.length:Int) then bif 0<=v22 then bif 0<=(cI v1 v22 0) then bif (cI v1 v22 0)<14 then bif ((cI v1 v22 0)*14)<(v23.length:Int) then bif 0<=(cI v1 v22 1) then bif (cI v1 v22 1)<14 then bif (((cI v1 v22 0)*14)+(cI v1 v22 1))<(v23.length:Int) then bif(-9223372036854775808<=((cI v23 (((cI v1 v22 0)*14)+(cI v1 v22 1)) 0)-(aM (cI v1 v22 2) (cI v23 (((cI v1 v22 0)*14)+(cI v1 v22 1)) 0))))&&(((cI v23 (((cI v1 v22 0)*14)+(cI v1 v22 1)) 0)-(aM (cI v1 v22 2) (cI v23 (((cI v1 v22 0)*14)+(cI v1 v22 1)) 0)))<=9223372036854775807)then bif (((v21.length:Int)+1)*8)<=140737488355328 then bif(-9223372036854775808<=(v22+1))&&((v22+1)<=9223372036854775807)then go0 ((v21++[[(AV.int (aM (cI v1 v22 2) (cI v23 (((cI v1 v22 0)*14)+(cI v1 v22 1)) 0)))]]),(v22+1),(List.modify v23 ((((cI v1 v22 0)*14)+(cI v1 v22 1))).toNat (fun r=>r.set 0 (AV.int ((cI v23 (((cI v1 v22 0)*14)+(cI v1 v22 1)) 0)-(aM (cI v1 v22 2) (cI v23 (((cI v1 v22 0)*14)+(cI v1 v22 1)) 0)))))))else none else none else none else none else none else none else none else none else none else none else some (v21,v15,0))
def Ih(n:Nat)(go2:aJ->Option aa)(go1:aW->Option aa)(go0:ay->Option aa)(v1 v9:Lv)(v15 v19:Int)(v20:Lv):Option aa:=
 (bif v19<14 then(ab (fun go1 s=>Io n go2 go0 go1 v9 v19 s.1 s.2) n ((0,v20):ay))else(ab (fun go0 s=>Ip n go2 go1 go0 v1 v15 s.1 s.2.1 s.2.2) n ((([]:Lv),0,v20):aJ)))
def H8(n:Nat)(go2:aJ->Option aa)(go1:aW->Option aa)(go0:ay->Option aa)(v1 v9:Lv)(v15 v17:Int)(v18:Lv):Option aa:=
 (bif v17<(v1.length:Int) then bif 0<=v17 then bif 0<=(cI v1 v17 0) then bif (cI v1 v17 0)<14 then bif ((cI v1 v17 0)*14)<(v18.length:Int) then bif 0<=(cI v1 v17 1) then bif (cI v1 v17 1)<14 then bif (((cI v1 v17 0)*14)+(cI v1 v17 1))<(v18.length:Int) then bif(-9223372036854775808<=((cI v18 (((cI v1 v17 0)*14)+(cI v1 v17 1)) 0)+(cI v1 v17 2)))&&(((cI v18 (((cI v1 v17 0)*14)+(cI v1 v17 1)) 0)+(cI v1 v17 2))<=9223372036854775807)then bif(-9223372036854775808<=(v17+1))&&((v17+1)<=9223372036854775807)then go0 ((v17+1),(List.modify v18 ((((cI v1 v17 0)*14)+(cI v1 v17 1))).toNat (fun r=>r.set 0 (AV.int ((cI v18 (((cI v1 v17 0)*14)+(cI v1 v17 1)) 0)+(cI v1 v17 2))))))else none else none else none else none else none else none else none else none else none else(ab (fun go0 s=>Ih n go2 go1 go0 v1 v9 v15 s.1 s.2) n ((0,v18):ay)))
def Iy(n:Nat)(go0:aG->Option aa)(go2:aJ->Option aa)(go1:aW->Option aa)(v1 v9 v10:Lv)(v13:Int)(v14:Lv)(v15 v16:Int):Option aa:=
 (bif v16<14 then bif 0<=v16 then(bif 0<(cI (List.modify v14 (v13).toNat (fun r=>r.set 0 (AV.int ((cI v10 0 0)+1)))) v16 0) then bif(-9223372036854775808<=(v16+1))&&((v16+1)<=9223372036854775807)then go1 ((IOp.f .or v15 (IOp.f .shl 1 v16)),(v16+1))else none else bif(-9223372036854775808<=(v16+1))&&((v16+1)<=9223372036854775807)then go1 (v15,(v16+1))else none)else none else(ab (fun go0 s=>H8 n go2 go1 go0 v1 v9 v15 s.1 s.2) n ((0,(List.replicate ((196:Int)).toNat [(AV.int 0)])):ay)))
def ee(n:Nat)(go0:aG->Option aa)(go2:aJ->Option aa)(go1:ay->Option aa)(v2 v7 v8:Int)(v10:Lv)(v13:Int)(v14:Lv)(v16 v17:Int)(v18:Lv):Option aa:=
 (bif !(v17=v2)then bif 0<=v17 then bif v17<14 then bif v17<(v14.length:Int) then bif(-9223372036854775808<=((cI (List.modify v14 (v13).toNat (fun r=>r.set 0 (AV.int ((cI v10 0 0)+1)))) v17 0)-1))&&(((cI (List.modify v14 (v13).toNat (fun r=>r.set 0 (AV.int ((cI v10 0 0)+1)))) v17 0)-1)<=9223372036854775807)then bif 0<=((cI (List.modify v14 (v13).toNat (fun r=>r.set 0 (AV.int ((cI v10 0 0)+1)))) v17 0)-1) then bif ((cI (List.modify v14 (v13).toNat (fun r=>r.set 0 (AV.int ((cI v10 0 0)+1)))) v17 0)-1)<14 then bif (((cI (List.modify v14 (v13).toNat (fun r=>r.set 0 (AV.int ((cI v10 0 0)+1)))) v17 0)-1)*14)<(v18.length:Int) then bif ((((cI (List.modify v14 (v13).toNat (fun r=>r.set 0 (AV.int ((cI v10 0 0)+1)))) v17 0)-1)*14)+v17)<(v18.length:Int) then bif(-9223372036854775808<=((cI v18 ((((cI (List.modify v14 (v13).toNat (fun r=>r.set 0 (AV.int ((cI v10 0 0)+1)))) v17 0)-1)*14)+v17) 0)-v16))&&(((cI v18 ((((cI (List.modify v14 (v13).toNat (fun r=>r.set 0 (AV.int ((cI v10 0 0)+1)))) v17 0)-1)*14)+v17) 0)-v16)<=9223372036854775807)then bif (v17*14)<(v18.length:Int) then bif ((v17*14)+((cI (List.modify v14 (v13).toNat (fun r=>r.set 0 (AV.int ((cI v10 0 0)+1)))) v17 0)-1))<(v18.length:Int) then bif(-9223372036854775808<=((cI (List.modify v18 (((((cI (List.modify v14 (v13).toNat (fun r=>r.set 0 (AV.int ((cI v10 0 0)+1)))) v17 0)-1)*14)+v17)).toNat (fun r=>r.set 0 (AV.int ((cI v18 ((((cI (List.modify v14 (v13).toNat (fun r=>r.set 0 (AV.int ((cI v10 0 0)+1)))) v17 0)-1)*14)+v17) 0)-v16)))) ((v17*14)+((cI (List.modify v14 (v13).toNat (fun r=>r.set 0 (AV.int ((cI v10 0 0)+1)))) v17 0)-1)) 0)+v16))&&(((cI (List.modify v18 (((((cI (List.modify v14 (v13).toNat (fun r=>r.set 0 (AV.int ((cI v10 0 0)+1)))) v17 0)-1)*14)+v17)).toNat (fun r=>r.set 0 (AV.int ((cI v18 ((((cI (List.modify v14 (v13).toNat (fun r=>r.set 0 (AV.int ((cI v10 0 0)+1)))) v17 0)-1)*14)+v17) 0)-v16)))) ((v17*14)+((cI (List.modify v14 (v13).toNat (fun r=>r.set 0 (AV.int ((cI v10 0 0)+1)))) v17 0)-1)) 0)+v16)<=9223372036854775807)then go1 (((cI (List.modify v14 (v13).toNat (fun r=>r.set 0 (AV.int ((cI v10 0 0)+1)))) v17 0)-1),(List.modify (List.modify v18 (((((cI (List.modify v14 (v13).toNat (fun r=>r.set 0 (AV.int ((cI v10 0 0)+1)))) v17 0)-1)*14)+v17)).toNat (fun r=>r.set 0 (AV.int ((cI v18 ((((cI (List.modify v14 (v13).toNat (fun r=>r.set 0 (AV.int ((cI v10 0 0)+1)))) v17 0)-1)*14)+v17) 0)-v16)))) (((v17*14)+((cI (List.modify v14 (v13).toNat (fun r=>r.set 0 (AV.int ((cI v10 0 0)+1)))) v17 0)-1))).toNat (fun r=>r.set 0 (AV.int ((cI (List.modify v18 (((((cI (List.modify v14 (v13).toNat (fun r=>r.set 0 (AV.int ((cI v10 0 0)+1)))) v17 0)-1)*14)+v17)).toNat (fun r=>r.set 0 (AV.int ((cI v18 ((((cI (List.modify v14 (v13).toNat (fun r=>r.set 0 (AV.int ((cI v10 0 0)+1)))) v17 0)-1)*14)+v17) 0)-v16)))) ((v17*14)+((cI (List.modify v14 (v13).toNat (fun r=>r.set 0 (AV.int ((cI v10 0 0)+1)))) v17 0)-1)) 0)+v16)))))else none else none else none else none else none else none else none else none else none else none else none else none else bif(-9223372036854775808<=(v7+v16))&&((v7+v16)<=9223372036854775807)then go0 ((v7+v16),v8,v18)else none)
def fD(n:Nat)(go0:aG->Option aa)(go2:aJ->Option aa)(go1:aW->Option aa)(v2 v3 v7 v8:Int)(v9 v10:Lv)(v13:Int)(v14:Lv)(v15 v16:Int):Option aa:=
 (bif !(v15=v2)then bif 0<=v15 then bif v15<14 then bif v15<(v14.length:Int) then bif(-9223372036854775808<=((cI (List.modify v14 (v13).toNat (fun r=>r.set 0 (AV.int ((cI v10 0 0)+1)))) v15 0)-1))&&(((cI (List.modify v14 (v13).toNat (fun r=>r.set 0 (AV.int ((cI v10 0 0)+1)))) v15 0)-1)<=9223372036854775807)then bif 0<=((cI (List.modify v14 (v13).toNat (fun r=>r.set 0 (AV.int ((cI v10 0 0)+1)))) v15 0)-1) then bif ((cI (List.modify v14 (v13).toNat (fun r=>r.set 0 (AV.int ((cI v10 0 0)+1)))) v15 0)-1)<14 then bif (((cI (List.modify v14 (v13).toNat (fun r=>r.set 0 (AV.int ((cI v10 0 0)+1)))) v15 0)-1)*14)<(v9.length:Int) then bif ((((cI (List.modify v14 (v13).toNat (fun r=>r.set 0 (AV.int ((cI v10 0 0)+1)))) v15 0)-1)*14)+v15)<(v9.length:Int) then go1 (((cI (List.modify v14 (v13).toNat (fun r=>r.set 0 (AV.int ((cI v10 0 0)+1)))) v15 0)-1),(aM v16 (cI v9 ((((cI (List.modify v14 (v13).toNat (fun r=>r.set 0 (AV.int ((cI v10 0 0)+1)))) v15 0)-1)*14)+v15) 0)))else none else none else none else none else none else none else none else none else(ab (fun go1 s=>ee n go0 go2 go1 v2 v7 v8 v10 v13 v14 v16 s.1 s.2) n ((v3,v9):ay)))
def su(n:Nat)(go0:aG->Option aa)(go1:bM->Option aa)(go2:aJ->Option aa)(v1:Lv)(v2 v3 v7 v8:Int)(v9 v10:Lv)(v13:Int)(v14:Lv):Option aa:=
 (bif (cI (List.modify v14 (v13).toNat (fun r=>r.set 0 (AV.int ((cI v10 0 0)+1)))) v3 0)=0 then bif 14<=(v14.length:Int) then(ab (fun go1 s=>Iy n go0 go2 go1 v1 v9 v10 v13 v14 s.1 s.2) n ((v8,0):aW))else none else(ab (fun go1 s=>fD n go0 go2 go1 v2 v3 v7 v8 v9 v10 v13 v14 s.1 s.2) n ((v3,4611686018427387903):aW)))
def zl(n:Nat)(go0:aG->Option aa)(go1:bM->Option aa)(go2:aJ->Option aa)(v1:Lv)(v2 v3 v7 v8:Int)(v9 v10 v12:Lv)(v13:Int)(v14:Lv):Option aa:=
 (bif v13=v3 then bif v3<14 then bif v3<(v14.length:Int) then su n go0 go1 go2 v1 v2 v3 v7 v8 v9 v10 v13 v14 else none else none else bif (((v12.length:Int)+1)*8)<=140737488355328 then bif(-9223372036854775808<=(v13+1))&&((v13+1)<=9223372036854775807)then go2 ((v12++[[(AV.int v13)]]),(v13+1),(List.modify v14 (v13).toNat (fun r=>r.set 0 (AV.int ((cI v10 0 0)+1)))))else none else none)
def zi(n:Nat)(go0:aG->Option aa)(go1:bM->Option aa)(go2:aJ->Option aa)(v1:Lv)(v2 v3 v7 v8:Int)(v9 v10 v12:Lv)(v13:Int)(v14:Lv):Option aa:=
 (bif (cI v9 (((cI v10 0 0)*14)+v13) 0)=0 then bif(-9223372036854775808<=(v13+1))&&((v13+1)<=9223372036854775807)then go2 (v12,(v13+1),v14)else none else bif(-9223372036854775808<=((cI v10 0 0)+1))&&(((cI v10 0 0)+1)<=9223372036854775807)then zl n go0 go1 go2 v1 v2 v3 v7 v8 v9 v10 v12 v13 v14 else none)
def zr(n:Nat)(go0:aG->Option aa)(go1:bM->Option aa)(go2:aJ->Option aa)(v1:Lv)(v2 v3 v7 v8:Int)(v9 v10 v12:Lv)(v13:Int)(v14:Lv):Option aa:=
 (bif 0<(cI v14 v13 0) then bif(-9223372036854775808<=(v13+1))&&((v13+1)<=9223372036854775807)then go2 (v12,(v13+1),v14)else none else bif 0<=(cI v10 0 0) then bif (cI v10 0 0)<14 then bif ((cI v10 0 0)*14)<(v9.length:Int) then bif (((cI v10 0 0)*14)+v13)<(v9.length:Int) then zi n go0 go1 go2 v1 v2 v3 v7 v8 v9 v10 v12 v13 v14 else none else none else none else none)
def dE(n:Nat)(go0:aG->Option aa)(go1:bM->Option aa)(go2:aJ->Option aa)(v1:Lv)(v2 v3 v7 v8:Int)(v9 v10 v12:Lv)(v13:Int)(v14:Lv):Option aa:=
 (bif v13<14 then bif 0<=v13 then bif v13<(v14.length:Int) then zr n go0 go1 go2 v1 v2 v3 v7 v8 v9 v10 v12 v13 v14 else none else none else go1 (v12,v14))
def fA(n:Nat)(go0:ay->Option aa)(go1:ay->Option aa)(v9:Lv)(v16 v18:Int)(v19:Lv):Option aa:=
 (bif v18<14 then bif 0<=v16 then bif (v16*14)<(v19.length:Int) then bif 0<=v18 then bif ((v16*14)+v18)<(v19.length:Int) then bif (v16*14)<(v9.length:Int) then bif ((v16*14)+v18)<(v9.length:Int) then bif(-9223372036854775808<=((cI v19 ((v16*14)+v18) 0)-(cI v9 ((v16*14)+v18) 0)))&&(((cI v19 ((v16*14)+v18) 0)-(cI v9 ((v16*14)+v18) 0))<=9223372036854775807)then bif(-9223372036854775808<=(v18+1))&&((v18+1)<=9223372036854775807)then go1 ((v18+1),(List.modify v19 (((v16*14)+v18)).toNat (fun r=>r.set 0 (AV.int (aU ((cI v19 ((v16*14)+v18) 0)-(cI v9 ((v16*14)+v18) 0)) 0)))))else none else none else none else none else none else none else none else none else bif(-9223372036854775808<=(v16+1))&&((v16+1)<=9223372036854775807)then go0 ((v16+1),v19)else none)
def fx(n:Nat)(go1:aW->Option aa)(go0:aJ->Option aa)(v1:Lv)(v12:Int)(v18:Lv)(v19:Int)(v20:Lv):Option aa:=
 (bif v19<(v1.length:Int) then bif 0<=v19 then bif 0<=(cI v1 v19 0) then bif (cI v1 v19 0)<14 then bif ((cI v1 v19 0)*14)<(v20.length:Int) then bif 0<=(cI v1 v19 1) then bif (cI v1 v19 1)<14 then bif (((cI v1 v19 0)*14)+(cI v1 v19 1))<(v20.length:Int) then bif(-9223372036854775808<=((cI v20 (((cI v1 v19 0)*14)+(cI v1 v19 1)) 0)-(aM (cI v1 v19 2) (cI v20 (((cI v1 v19 0)*14)+(cI v1 v19 1)) 0))))&&(((cI v20 (((cI v1 v19 0)*14)+(cI v1 v19 1)) 0)-(aM (cI v1 v19 2) (cI v20 (((cI v1 v19 0)*14)+(cI v1 v19 1)) 0)))<=9223372036854775807)then bif (((v18.length:Int)+1)*8)<=140737488355328 then bif(-9223372036854775808<=(v19+1))&&((v19+1)<=9223372036854775807)then go0 ((v18++[[(AV.int (aM (cI v1 v19 2) (cI v20 (((cI v1 v19 0)*14)+(cI v1 v19 1)) 0)))]]),(v19+1),(List.modify v20 ((((cI v1 v19 0)*14)+(cI v1 v19 1))).toNat (fun r=>r.set 0 (AV.int ((cI v20 (((cI v1 v19 0)*14)+(cI v1 v19 1)) 0)-(aM (cI v1 v19 2) (cI v20 (((cI v1 v19 0)*14)+(cI v1 v19 1)) 0)))))))else none else none else none else none else none else none else none else none else none else none else some (v18,v12,0))
def fC(n:Nat)(go1:aW->Option aa)(go0:ay->Option aa)(v1 v9:Lv)(v12 v16:Int)(v17:Lv):Option aa:=
 (bif v16<14 then(ab (fun go1 s=>fA n go0 go1 v9 v16 s.1 s.2) n ((0,v17):ay))else(ab (fun go0 s=>fx n go1 go0 v1 v12 s.1 s.2.1 s.2.2) n ((([]:Lv),0,v17):aJ)))
def fz(n:Nat)(go1:aW->Option aa)(go0:ay->Option aa)(v1 v9:Lv)(v12 v14:Int)(v15:Lv):Option aa:=
 (bif v14<(v1.length:Int) then bif 0<=v14 then bif 0<=(cI v1 v14 0) then bif (cI v1 v14 0)<14 then bif ((cI v1 v14 0)*14)<(v15.length:Int) then bif 0<=(cI v1 v14 1) then bif (cI v1 v14 1)<14 then bif (((cI v1 v14 0)*14)+(cI v1 v14 1))<(v15.length:Int) then bif(-9223372036854775808<=((cI v15 (((cI v1 v14 0)*14)+(cI v1 v14 1)) 0)+(cI v1 v14 2)))&&(((cI v15 (((cI v1 v14 0)*14)+(cI v1 v14 1)) 0)+(cI v1 v14 2))<=9223372036854775807)then bif(-9223372036854775808<=(v14+1))&&((v14+1)<=9223372036854775807)then go0 ((v14+1),(List.modify v15 ((((cI v1 v14 0)*14)+(cI v1 v14 1))).toNat (fun r=>r.set 0 (AV.int ((cI v15 (((cI v1 v14 0)*14)+(cI v1 v14 1)) 0)+(cI v1 v14 2))))))else none else none else none else none else none else none else none else none else none else(ab (fun go0 s=>fC n go1 go0 v1 v9 v12 s.1 s.2) n ((0,v15):ay)))
def eg(n:Nat)(go0:aG->Option aa)(go1:aW->Option aa)(v1 v9 v11:Lv)(v12 v13:Int):Option aa:=
 (bif v13<14 then bif 0<=v13 then(bif 0<(cI v11 v13 0) then bif(-9223372036854775808<=(v13+1))&&((v13+1)<=9223372036854775807)then go1 ((IOp.f .or v12 (IOp.f .shl 1 v13)),(v13+1))else none else bif(-9223372036854775808<=(v13+1))&&((v13+1)<=9223372036854775807)then go1 (v12,(v13+1))else none)else none else(ab (fun go0 s=>fz n go1 go0 v1 v9 v12 s.1 s.2) n ((0,(List.replicate ((196:Int)).toNat [(AV.int 0)])):ay)))
def H0(n:Nat)(go0:aG->Option aa)(go1:ay->Option aa)(v2 v7 v8:Int)(v11:Lv)(v13 v14:Int)(v15:Lv):Option aa:=
 (bif !(v14=v2)then bif 0<=v14 then bif v14<14 then bif v14<(v11.length:Int) then bif(-9223372036854775808<=((cI v11 v14 0)-1))&&(((cI v11 v14 0)-1)<=9223372036854775807)then bif 0<=((cI v11 v14 0)-1) then bif ((cI v11 v14 0)-1)<14 then bif (((cI v11 v14 0)-1)*14)<(v15.length:Int) then bif ((((cI v11 v14 0)-1)*14)+v14)<(v15.length:Int) then bif(-9223372036854775808<=((cI v15 ((((cI v11 v14 0)-1)*14)+v14) 0)-v13))&&(((cI v15 ((((cI v11 v14 0)-1)*14)+v14) 0)-v13)<=9223372036854775807)then bif (v14*14)<(v15.length:Int) then bif ((v14*14)+((cI v11 v14 0)-1))<(v15.length:Int) then bif(-9223372036854775808<=((cI (List.modify v15 (((((cI v11 v14 0)-1)*14)+v14)).toNat (fun r=>r.set 0 (AV.int ((cI v15 ((((cI v11 v14 0)-1)*14)+v14) 0)-v13)))) ((v14*14)+((cI v11 v14 0)-1)) 0)+v13))&&(((cI (List.modify v15 (((((cI v11 v14 0)-1)*14)+v14)).toNat (fun r=>r.set 0 (AV.int ((cI v15 ((((cI v11 v14 0)-1)*14)+v14) 0)-v13)))) ((v14*14)+((cI v11 v14 0)-1)) 0)+v13)<=9223372036854775807)then go1 (((cI v11 v14 0)-1),(List.modify (List.modify v15 (((((cI v11 v14 0)-1)*14)+v14)).toNat (fun r=>r.set 0 (AV.int ((cI v15 ((((cI v11 v14 0)-1)*14)+v14) 0)-v13)))) (((v14*14)+((cI v11 v14 0)-1))).toNat (fun r=>r.set 0 (AV.int ((cI (List.modify v15 (((((cI v11 v14 0)-1)*14)+v14)).toNat (fun r=>r.set 0 (AV.int ((cI v15 ((((cI v11 v14 0)-1)*14)+v14) 0)-v13)))) ((v14*14)+((cI v11 v14 0)-1)) 0)+v13)))))else none else none else none else none else none else none else none else none else none else none else none else none else bif(-9223372036854775808<=(v7+v13))&&((v7+v13)<=9223372036854775807)then go0 ((v7+v13),v8,v15)else none)
def Iv(n:Nat)(go0:aG->Option aa)(go1:aW->Option aa)(v2 v3 v7 v8:Int)(v9 v11:Lv)(v12 v13:Int):Option aa:=
 (bif !(v12=v2)then bif 0<=v12 then bif v12<14 then bif v12<(v11.length:Int) then bif(-9223372036854775808<=((cI v11 v12 0)-1))&&(((cI v11 v12 0)-1)<=9223372036854775807)then bif 0<=((cI v11 v12 0)-1) then bif ((cI v11 v12 0)-1)<14 then bif (((cI v11 v12 0)-1)*14)<(v9.length:Int) then bif ((((cI v11 v12 0)-1)*14)+v12)<(v9.length:Int) then go1 (((cI v11 v12 0)-1),(aM v13 (cI v9 ((((cI v11 v12 0)-1)*14)+v12) 0)))else none else none else none else none else none else none else none else none else(ab (fun go1 s=>H0 n go0 go1 v2 v7 v8 v11 v13 s.1 s.2) n ((v3,v9):ay)))
def sr(n:Nat)(go0:aG->Option aa)(go1:bM->Option aa)(v1:Lv)(v2 v3 v7 v8:Int)(v9 v11:Lv):Option aa:=
 (bif (cI v11 v3 0)=0 then bif 14<=(v11.length:Int) then(ab (fun go1 s=>eg n go0 go1 v1 v9 v11 s.1 s.2) n ((v8,0):aW))else none else(ab (fun go1 s=>Iv n go0 go1 v2 v3 v7 v8 v9 v11 s.1 s.2) n ((v3,4611686018427387903):aW)))
def dB(n:Nat)(go0:aG->Option aa)(go1:bM->Option aa)(v1:Lv)(v2 v3 v7 v8:Int)(v9 v10 v11:Lv):Option aa:=
 (bif 0<(v10.length:Int) then bif 1<=(v10.length:Int) then(ab (fun go2 s=>dE n go0 go1 go2 v1 v2 v3 v7 v8 v9 v10 s.1 s.2.1 s.2.2) n (((List.drop ((1:Int)).toNat v10),0,v11):aJ))else none else bif v3<14 then bif v3<(v11.length:Int) then sr n go0 go1 v1 v2 v3 v7 v8 v9 v11 else none else none)
def iX(n:Nat)(go0:aG->Option aa)(v1:Lv)(v2 v3 v7 v8:Int)(v9:Lv):Option aa:=
 bif(-9223372036854775808<=(v2+1))&&((v2+1)<=9223372036854775807)then bif v2<14 then bif v2<14 then(ab (fun go1 s=>dB n go0 go1 v1 v2 v3 v7 v8 v9 s.1 s.2) n (((([]:Lv)++[[(AV.int v2)]]),(List.modify (List.replicate ((14:Int)).toNat [(AV.int 0)]) (v2).toNat (fun r=>r.set 0 (AV.int (v2+1))))):bM))else none else none else none
def e9(n:Nat)(go0:ay->Option aa)(v1:Lv)(v2 v3 v5:Int)(v6:Lv):Option aa:=
 (bif v5<(v1.length:Int) then bif 0<=v5 then bif 0<=(cI v1 v5 0) then bif (cI v1 v5 0)<14 then bif ((cI v1 v5 0)*14)<(v6.length:Int) then bif 0<=(cI v1 v5 1) then bif (cI v1 v5 1)<14 then bif (((cI v1 v5 0)*14)+(cI v1 v5 1))<(v6.length:Int) then bif(-9223372036854775808<=((cI v6 (((cI v1 v5 0)*14)+(cI v1 v5 1)) 0)+(cI v1 v5 2)))&&(((cI v6 (((cI v1 v5 0)*14)+(cI v1 v5 1)) 0)+(cI v1 v5 2))<=9223372036854775807)then bif(-9223372036854775808<=(v5+1))&&((v5+1)<=9223372036854775807)then go0 ((v5+1),(List.modify v6 ((((cI v1 v5 0)*14)+(cI v1 v5 1))).toNat (fun r=>r.set 0 (AV.int ((cI v6 (((cI v1 v5 0)*14)+(cI v1 v5 1)) 0)+(cI v1 v5 2))))))else none else none else none else none else none else none else none else none else none else(ab (fun go0 s=>iX n go0 v1 v2 v3 s.1 s.2.1 s.2.2) n ((0,0,v6):aG)))
def AP(n:Nat)(v1:Lv)(v2 v3:Int):Option aa:=
 (bif((decide (v2=v3))==true)then some (([]:Lv),0,270)else(ab (fun go0 s=>e9 n go0 v1 v2 v3 s.1 s.2) n ((0,(List.replicate ((196:Int)).toNat [(AV.int 0)])):ay)))
def A8(n:Nat)(v0:Int)(v1:Lv)(v2 v3:Int):Option aa:=
 (bif v3<=(v0-1) then AP n v1 v2 v3 else some (([]:Lv),0,270))
def BH(n:Nat)(v0:Int)(v1:Lv)(v2 v3:Int):Option aa:=
 (bif 0<=v3 then A8 n v0 v1 v2 v3 else some (([]:Lv),0,270))
def BV(n:Nat)(v0:Int)(v1:Lv)(v2 v3:Int):Option aa:=
 (bif v2<=(v0-1) then BH n v0 v1 v2 v3 else some (([]:Lv),0,270))
def B2(n:Nat)(v0:Int)(v1:Lv)(v2 v3:Int):Option aa:=
 (bif 0<=v2 then BV n v0 v1 v2 v3 else some (([]:Lv),0,270))
def Bz(n:Nat)(v0:Int)(v1:Lv)(v2 v3:Int)(v4:Bool):Option aa:=
 (bif v4 then bif(-9223372036854775808<=(v0-1))&&((v0-1)<=9223372036854775807)then B2 n v0 v1 v2 v3 else none else some (([]:Lv),0,270))
def BE(n:Nat)(v0:Int)(v1:Lv)(v2 v3:Int):Option aa:=
 (gq n v0 v1).bind fun y4=>
 Bz n v0 v1 v2 v3 y4
def iM(n:Nat)(v0:Int)(v1:Lv)(v2 v3:Int):Option aa:=BE n v0 v1 v2 v3
def flow_Max_t:FnT:=⟨[(true,[.int,tSc]),(false,[.int]),(false,[.int])],(.tup (.cons (.row 3 (.cons .int .nil)) (.cons .i (.cons .i .nil)))),fun n (s:Int×Lv×Int×Int)=>iM n s.1 s.2.1 s.2.2.1 s.2.2.2⟩
theorem HZ:flow_Max_t.ok Tryz.prog 39:=FnT.ok_of (cfg:=⟨[((101,1,0),.inv [.tmp 6 .int,.tmp 7 .int,.inrow 3 249 (.cons .int .nil)]),((101,4,0),.inv [.tmprow 9 5000003 (.cons .int .nil),.inrow 12 247 (.cons .int .nil)]),((100,3,4),.inv [(.tmp 9 .int),(.inrow 3 249 (.cons .int .nil))]),((101,8,18),.inv [(.tmprow 9 5000003 (.cons .int .nil)),(.tmp 30 .int),(.inrow 12 247 (.cons .int .nil))]),((101,17,22),.inv [(.tmp 7 .int),(.tmp 64 .int)]),((100,3,27),.inv [(.tmp 9 .int),(.inrow 26 249 (.cons .int .nil))]),((102,3,29),.inv [(.tmp 14 .int),(.inrow 26 249 (.cons .int .nil))]),((102,6,31),.inv [(.tmp 17 .int),(.inrow 26 249 (.cons .int .nil))]),((102,13,31),.inv [(.tmprow 8 3 (.cons .int .nil)),(.tmp 47 .int),(.inrow 26 249 (.cons .int .nil))]),((173,1,24),.inv [(.tmp 5 .int),(.cell 22 0 .int)]),((173,1,26),.inv [(.tmp 5 .int),(.inrow 3 249 (.cons .int .nil))]),((101,17,17),.inv [(.tmp 7 .int),(.tmp 64 .int)]),((100,3,22),.inv [(.tmp 9 .int),(.inrow 21 249 (.cons .int .nil))]),((102,3,24),.inv [(.tmp 14 .int),(.inrow 21 249 (.cons .int .nil))]),((102,6,26),.inv [(.tmp 17 .int),(.inrow 21 249 (.cons .int .nil))]),((102,13,26),.inv [(.tmprow 8 3 (.cons .int .nil)),(.tmp 47 .int),(.inrow 21 249 (.cons .int .nil))]),((173,1,19),.inv [(.tmp 5 .int),(.cell 17 0 .int)]),((173,1,21),.inv [(.tmp 5 .int),(.inrow 3 249 (.cons .int .nil))])],Nv,[],ak⟩) aw lK av (fun s fn hf=>by rw[Tryz.func39]at hf;cases hf;kernel_rfl) (fun n s=>by kernel_rfl)
def flow_Max_T:Tab:=(39,flow_Max_t)::flow_CheckFlow_T
theorem vn:flow_Max_T.ok Tryz.prog:=Tab.ok_cons HZ lK
def pY:List Nat:=[12,13,14,15,16,17,18,19,20,21,22,23,24,25,26,27,28,29,30,31,32,33,34,37,38,39,40,43,44,45,46,47,48,49,50,51,52,53,54,55,56,57,58,59,62,66,68,69,70,71,72,73,74,75,76,77,78,84,85,86,87,89,95,105,106,107,108,109,110,111,112,114,115,116,117,120,122,130,132,149,150,152,153,159,176,178,179,180,182,183,184,186,187,193,202,203,204,210,211,1000015,1000016,1000017,1000018,1000019,1000022,1000049,1000050,1000051,1000052,1000053,1000062,2000151,2000152,2000217,2000247,2000248,2000249]
abbrev dM:=Bool
abbrev dv:=Int×Int
def cC(n:Nat)(go0:dv->Option dM)(v0 v1 v2 v3 v4:Lv)(v5 v6 v7 v8 v9 v10 v11 v12 v13 v14:Int)(v15:Bool)(v16:Lv)(v17:Int)(v18:Lv)(v19 v20:Int):Option dM:=
 (bif v20<(v0.length:Int) then bif 0<=v20 then(l7 n (cL v0 v20 1)).bind fun y21=>
 (bif !(y21.2.2.2.2.2=0)then some false else bif(-9223372036854775808<=(v19+1))&&((v19+1)<=9223372036854775807)then(bif (v19+1)<=(cI v0 v20 0) then(bif !((cI v0 v20 0)<=99999999)then some false else bif(-9223372036854775808<=(v20+1))&&((v20+1)<=9223372036854775807)then go0 ((cI v0 v20 0),(v20+1))else none)else some false)else none)else none else(bif 10<(v0.length:Int) then some false else(gL n v1 v2).bind fun y21=>
 (bif(!y21)then some false else(jB n v3 v4 v5).bind fun y22=>
 (bif(!y22)then some false else(jt n v6 v7 v8 v9 v10 v11 v12 v13 v14 v15 v16).bind fun y23=>
 (bif y23 then(gq n v17 v18).bind fun y24=>
 (bif y24 then some (decide (v17=8))else some false)else some false)))))
def qx(n:Nat)(v0 v1 v2 v3 v4:Lv)(v5 v6 v7 v8 v9 v10 v11 v12 v13 v14:Int)(v15:Bool)(v16:Lv)(v17:Int)(v18:Lv):Option dM:=
 (ab (fun go0 s=>cC n go0 v0 v1 v2 v3 v4 v5 v6 v7 v8 v9 v10 v11 v12 v13 v14 v15 v16 v17 v18 s.1 s.2) n (((-1),0):dv))
def dS(n:Nat)(v0 v1 v2 v3 v4:Lv)(v5 v6 v7 v8 v9 v10 v11 v12 v13 v14:Int)(v15:Bool)(v16:Lv)(v17:Int)(v18:Lv):Option dM:=qx n v0 v1 v2 v3 v4 v5 v6 v7 v8 v9 v10 v11 v12 v13 v14 v15 v16 v17 v18
def refusal_Valid_t:FnT:=⟨[(true,[(.sl (.cons .int (.cons tSc .nil))),(.sl (.cons .int (.cons .int (.cons .int (.cons .int (.cons .int .nil)))))),(.sl (.cons .int (.cons .int .nil))),tSa,tSa,.int,.int,.int,.int,.int,.int,.int,.int,.int,.int,.bool,tSc,.int,tSc])],.b,fun n (s:Lv×Lv×Lv×Lv×Lv×Int×Int×Int×Int×Int×Int×Int×Int×Int×Int×Bool×Lv×Int×Lv)=>dS n s.1 s.2.1 s.2.2.1 s.2.2.2.1 s.2.2.2.2.1 s.2.2.2.2.2.1 s.2.2.2.2.2.2.1 s.2.2.2.2.2.2.2.1 s.2.2.2.2.2.2.2.2.1 s.2.2.2.2.2.2.2.2.2.1 s.2.2.2.2.2.2.2.2.2.2.1 s.2.2.2.2.2.2.2.2.2.2.2.1 s.2.2.2.2.2.2.2.2.2.2.2.2.1 s.2.2.2.2.2.2.2.2.2.2.2.2.2.1 s.2.2.2.2.2.2.2.2.2.2.2.2.2.2.1 s.2.2.2.2.2.2.2.2.2.2.2.2.2.2.2.1 s.2.2.2.2.2.2.2.2.2.2.2.2.2.2.2.2.1 s.2.2.2.2.2.2.2.2.2.2.2.2.2.2.2.2.2.1 s.2.2.2.2.2.2.2.2.2.2.2.2.2.2.2.2.2.2⟩
theorem Al:refusal_Valid_t.ok Tryz.prog 25:=FnT.ok_of (cfg:=⟨[((25,3,1),.inv [(.tmp 3 .int),(.tmp 12 .int)])],pY,[],ak⟩) aw vn av (fun s fn hf=>by rw[Tryz.func25]at hf;cases hf;kernel_rfl) (fun n s=>by kernel_rfl)
def refusal_Valid_T:Tab:=(25,refusal_Valid_t)::flow_Max_T
theorem mG:refusal_Valid_T.ok Tryz.prog:=Tab.ok_cons Al vn
abbrev cG:=Bool
abbrev dp:=Int
def bH(n:Nat)(go0:dp->Option cG)(v0:Lv)(v19 v26 v27:Int):Option cG:=
 (bif v27<(v0.length:Int) then bif 0<=v27 then(bif (cI v0 v27 0)=v26 then(bif v27<0 then some false else(yz n (cL v0 v27 1) v19).bind fun y28=>
 some (decide (y28.1=1)))else bif(-9223372036854775808<=(v27+1))&&((v27+1)<=9223372036854775807)then go0 (v27+1)else none)else none else some false)
def jG(n:Nat)(v0:Lv)(v19 v26:Int):Option cG:=
 (ab (fun go0 s=>bH n go0 v0 v19 v26 s) n (0:dp))
def cq(n:Nat)(v0 v1 v2 v3 v4:Lv)(v5 v6 v7 v8 v9 v10 v11 v12 v13 v14:Int)(v15:Bool)(v16:Lv)(v17:Int)(v18:Lv)(v19 v20 v21:Int)(v22 v23 v24:Lv)(v25 v26:Int):Option cG:=jG n v0 v19 v26
def refusal_call__isHeld_t:FnT:=⟨[(true,[(.sl (.cons .int (.cons tSc .nil))),(.sl (.cons .int (.cons .int (.cons .int (.cons .int (.cons .int .nil)))))),(.sl (.cons .int (.cons .int .nil))),tSa,tSa,.int,.int,.int,.int,.int,.int,.int,.int,.int,.int,.bool,tSc,.int,tSc,.int,.int,.int,tSa,tSa,(.sl (.cons .int (.cons .int .nil))),.int]),(false,[.int])],.b,fun n (s:Lv×Lv×Lv×Lv×Lv×Int×Int×Int×Int×Int×Int×Int×Int×Int×Int×Bool×Lv×Int×Lv×Int×Int×Int×Lv×Lv×Lv×Int×Int)=>cq n s.1 s.2.1 s.2.2.1 s.2.2.2.1 s.2.2.2.2.1 s.2.2.2.2.2.1 s.2.2.2.2.2.2.1 s.2.2.2.2.2.2.2.1 s.2.2.2.2.2.2.2.2.1 s.2.2.2.2.2.2.2.2.2.1 s.2.2.2.2.2.2.2.2.2.2.1 s.2.2.2.2.2.2.2.2.2.2.2.1 s.2.2.2.2.2.2.2.2.2.2.2.2.1 s.2.2.2.2.2.2.2.2.2.2.2.2.2.1 s.2.2.2.2.2.2.2.2.2.2.2.2.2.2.1 s.2.2.2.2.2.2.2.2.2.2.2.2.2.2.2.1 s.2.2.2.2.2.2.2.2.2.2.2.2.2.2.2.2.1 s.2.2.2.2.2.2.2.2.2.2.2.2.2.2.2.2.2.1 s.2.2.2.2.2.2.2.2.2.2.2.2.2.2.2.2.2.2.1 s.2.2.2.2.2.2.2.2.2.2.2.2.2.2.2.2.2.2.2.1 s.2.2.2.2.2.2.2.2.2.2.2.2.2.2.2.2.2.2.2.2.1 s.2.2.2.2.2.2.2.2.2.2.2.2.2.2.2.2.2.2.2.2.2.1 s.2.2.2.2.2.2.2.2.2.2.2.2.2.2.2.2.2.2.2.2.2.2.1 s.2.2.2.2.2.2.2.2.2.2.2.2.2.2.2.2.2.2.2.2.2.2.2.1 s.2.2.2.2.2.2.2.2.2.2.2.2.2.2.2.2.2.2.2.2.2.2.2.2.1 s.2.2.2.2.2.2.2.2.2.2.2.2.2.2.2.2.2.2.2.2.2.2.2.2.2.1 s.2.2.2.2.2.2.2.2.2.2.2.2.2.2.2.2.2.2.2.2.2.2.2.2.2.2⟩
theorem qn:refusal_call__isHeld_t.ok Tryz.prog 132:=FnT.ok_of (cfg:=⟨[((188,2,0),.inv [.tmp 8 .int])],pY,[],ak⟩) aw mG av (fun s fn hf=>by rw[Tryz.func132]at hf;cases hf;kernel_rfl) (fun n s=>by kernel_rfl)
def refusal_call__isHeld_T:Tab:=(132,refusal_call__isHeld_t)::refusal_Valid_T
theorem ia:refusal_call__isHeld_T.ok Tryz.prog:=Tab.ok_cons qn mG
abbrev gO:=Bool
def gP(n:Nat)(v6 v7 v8 v9 v10 v11 v12 v13 v14:Int)(v15:Bool)(v16:Lv)(v19:Int)(v22 v24:Lv):Option gO:=
 (lw n v6 v7 v8 v9 v10 v11 v12 v13 v14 v15 v16 v19).bind fun y26=>
 bif(-9223372036854775808<=((v24.length:Int)-1))&&(((v24.length:Int)-1)<=9223372036854775807)then bif 0<=((v24.length:Int)-1) then bif ((v24.length:Int)-1)<(v24.length:Int) then(bif (cI v24 ((v24.length:Int)-1) 0)=v11 then bif(-9223372036854775808<=((v22.length:Int)-1))&&(((v22.length:Int)-1)<=9223372036854775807)then bif 0<=((v22.length:Int)-1) then bif ((v22.length:Int)-1)<(v22.length:Int) then(bif v10=(cI v22 ((v22.length:Int)-1) 0) then some (!(decide ((cI v24 ((v24.length:Int)-1) 0)=y26.1)))else some false)else none else none else none else bif(-9223372036854775808<=((v22.length:Int)-1))&&(((v22.length:Int)-1)<=9223372036854775807)then bif 0<=((v22.length:Int)-1) then bif ((v22.length:Int)-1)<(v22.length:Int) then(bif v10=(cI v22 ((v22.length:Int)-1) 0) then(bif (cI v24 ((v24.length:Int)-1) 0)=v12 then some (!(decide ((cI v24 ((v24.length:Int)-1) 0)=y26.1)))else some false)else some false)else none else none else none)else none else none else none
def bc(n:Nat)(v0 v1 v2 v3 v4:Lv)(v5 v6 v7 v8 v9 v10 v11 v12 v13 v14:Int)(v15:Bool)(v16:Lv)(v17:Int)(v18:Lv)(v19 v20 v21:Int)(v22 v23 v24:Lv)(v25:Int):Option gO:=gP n v6 v7 v8 v9 v10 v11 v12 v13 v14 v15 v16 v19 v22 v24
def refusal_call__isUnproved_t:FnT:=⟨[(true,[(.sl (.cons .int (.cons tSc .nil))),(.sl (.cons .int (.cons .int (.cons .int (.cons .int (.cons .int .nil)))))),(.sl (.cons .int (.cons .int .nil))),tSa,tSa,.int,.int,.int,.int,.int,.int,.int,.int,.int,.int,.bool,tSc,.int,tSc,.int,.int,.int,tSa,tSa,(.sl (.cons .int (.cons .int .nil))),.int])],.b,fun n (s:Lv×Lv×Lv×Lv×Lv×Int×Int×Int×Int×Int×Int×Int×Int×Int×Int×Bool×Lv×Int×Lv×Int×Int×Int×Lv×Lv×Lv×Int)=>bc n s.1 s.2.1 s.2.2.1 s.2.2.2.1 s.2.2.2.2.1 s.2.2.2.2.2.1 s.2.2.2.2.2.2.1 s.2.2.2.2.2.2.2.1 s.2.2.2.2.2.2.2.2.1 s.2.2.2.2.2.2.2.2.2.1 s.2.2.2.2.2.2.2.2.2.2.1 s.2.2.2.2.2.2.2.2.2.2.2.1 s.2.2.2.2.2.2.2.2.2.2.2.2.1 s.2.2.2.2.2.2.2.2.2.2.2.2.2.1 s.2.2.2.2.2.2.2.2.2.2.2.2.2.2.1 s.2.2.2.2.2.2.2.2.2.2.2.2.2.2.2.1 s.2.2.2.2.2.2.2.2.2.2.2.2.2.2.2.2.1 s.2.2.2.2.2.2.2.2.2.2.2.2.2.2.2.2.2.1 s.2.2.2.2.2.2.2.2.2.2.2.2.2.2.2.2.2.2.1 s.2.2.2.2.2.2.2.2.2.2.2.2.2.2.2.2.2.2.2.1 s.2.2.2.2.2.2.2.2.2.2.2.2.2.2.2.2.2.2.2.2.1 s.2.2.2.2.2.2.2.2.2.2.2.2.2.2.2.2.2.2.2.2.2.1 s.2.2.2.2.2.2.2.2.2.2.2.2.2.2.2.2.2.2.2.2.2.2.1 s.2.2.2.2.2.2.2.2.2.2.2.2.2.2.2.2.2.2.2.2.2.2.2.1 s.2.2.2.2.2.2.2.2.2.2.2.2.2.2.2.2.2.2.2.2.2.2.2.2.1 s.2.2.2.2.2.2.2.2.2.2.2.2.2.2.2.2.2.2.2.2.2.2.2.2.2⟩
theorem mY:refusal_call__isUnproved_t.ok Tryz.prog 130:=FnT.ok_of (cfg:=⟨[],pY,[],ak⟩) aw ia av (fun s fn hf=>by rw[Tryz.func130]at hf;cases hf;kernel_rfl) (fun n s=>by kernel_rfl)
def refusal_call__isUnproved_T:Tab:=(130,refusal_call__isUnproved_t)::refusal_call__isHeld_T
theorem fK:refusal_call__isUnproved_T.ok Tryz.prog:=Tab.ok_cons mY ia
abbrev bQ:=Lv×Lv×Lv×Lv×Lv×Int×Int×Int×Int×Int×Int×Int×Int×Int×Int×Bool×Lv×Int×Lv×Int×Int×Int×Lv×Lv×Lv×Int×Bool
def pf(n:Nat)(v0 v1 v2 v3 v4:Lv)(v5 v6 v7 v8 v9 v10 v11 v12 v13 v14:Int)(v15:Bool)(v16:Lv)(v17:Int)(v18:Lv)(v19 v20 v21:Int):Option bQ:=
 (bif !(v20<=10000000)then some (([]:Lv),([]:Lv),([]:Lv),([]:Lv),([]:Lv),0,0,0,0,0,0,0,0,0,0,false,([]:Lv),0,([]:Lv),0,0,0,([]:Lv),([]:Lv),([]:Lv),0,false)else(bif 0<=v21 then(bif !(v21<=7)then some (([]:Lv),([]:Lv),([]:Lv),([]:Lv),([]:Lv),0,0,0,0,0,0,0,0,0,0,false,([]:Lv),0,([]:Lv),0,0,0,([]:Lv),([]:Lv),([]:Lv),0,false)else bif v21<(v4.length:Int) then(bif (cI v4 v21 0)<0 then some (([]:Lv),([]:Lv),([]:Lv),([]:Lv),([]:Lv),0,0,0,0,0,0,0,0,0,0,false,([]:Lv),0,([]:Lv),0,0,0,([]:Lv),([]:Lv),([]:Lv),0,false)else(fj n v1 v2 v19 v20).bind fun y23=>
 (ow n v3 v4 v5 v21).bind fun y27=>
 some (v0,v1,v2,v3,v4,v5,v6,v7,v8,v9,v10,v11,v12,v13,v14,v15,v16,v17,v18,v20,v21,y23.1,y23.2.1,y23.2.2.1,y27.1,y27.2.1,true))else none)else some (([]:Lv),([]:Lv),([]:Lv),([]:Lv),([]:Lv),0,0,0,0,0,0,0,0,0,0,false,([]:Lv),0,([]:Lv),0,0,0,([]:Lv),([]:Lv),([]:Lv),0,false)))
def pz(n:Nat)(v0 v1 v2 v3 v4:Lv)(v5 v6 v7 v8 v9 v10 v11 v12 v13 v14:Int)(v15:Bool)(v16:Lv)(v17:Int)(v18:Lv)(v19 v20 v21:Int):Option bQ:=
 (bif 0<=v20 then pf n v0 v1 v2 v3 v4 v5 v6 v7 v8 v9 v10 v11 v12 v13 v14 v15 v16 v17 v18 v19 v20 v21 else some (([]:Lv),([]:Lv),([]:Lv),([]:Lv),([]:Lv),0,0,0,0,0,0,0,0,0,0,false,([]:Lv),0,([]:Lv),0,0,0,([]:Lv),([]:Lv),([]:Lv),0,false))
def po(n:Nat)(v0 v1 v2 v3 v4:Lv)(v5 v6 v7 v8 v9 v10 v11 v12 v13 v14:Int)(v15:Bool)(v16:Lv)(v17:Int)(v18:Lv)(v19 v20 v21:Int):Option bQ:=
 (bif !(v19<=99999999)then some (([]:Lv),([]:Lv),([]:Lv),([]:Lv),([]:Lv),0,0,0,0,0,0,0,0,0,0,false,([]:Lv),0,([]:Lv),0,0,0,([]:Lv),([]:Lv),([]:Lv),0,false)else pz n v0 v1 v2 v3 v4 v5 v6 v7 v8 v9 v10 v11 v12 v13 v14 v15 v16 v17 v18 v19 v20 v21)
def qi(n:Nat)(v0 v1 v2 v3 v4:Lv)(v5 v6 v7 v8 v9 v10 v11 v12 v13 v14:Int)(v15:Bool)(v16:Lv)(v17:Int)(v18:Lv)(v19 v20 v21:Int):Option bQ:=
 (bif 0<=v19 then po n v0 v1 v2 v3 v4 v5 v6 v7 v8 v9 v10 v11 v12 v13 v14 v15 v16 v17 v18 v19 v20 v21 else some (([]:Lv),([]:Lv),([]:Lv),([]:Lv),([]:Lv),0,0,0,0,0,0,0,0,0,0,false,([]:Lv),0,([]:Lv),0,0,0,([]:Lv),([]:Lv),([]:Lv),0,false))
def o7(n:Nat)(v0 v1 v2 v3 v4:Lv)(v5 v6 v7 v8 v9 v10 v11 v12 v13 v14:Int)(v15:Bool)(v16:Lv)(v17:Int)(v18:Lv)(v19 v20 v21:Int)(v22:Bool):Option bQ:=
 (bif(!v22)then some (([]:Lv),([]:Lv),([]:Lv),([]:Lv),([]:Lv),0,0,0,0,0,0,0,0,0,0,false,([]:Lv),0,([]:Lv),0,0,0,([]:Lv),([]:Lv),([]:Lv),0,false)else qi n v0 v1 v2 v3 v4 v5 v6 v7 v8 v9 v10 v11 v12 v13 v14 v15 v16 v17 v18 v19 v20 v21)
def pn(n:Nat)(v0 v1 v2 v3 v4:Lv)(v5 v6 v7 v8 v9 v10 v11 v12 v13 v14:Int)(v15:Bool)(v16:Lv)(v17:Int)(v18:Lv)(v19 v20 v21:Int):Option bQ:=
 (dS n v0 v1 v2 v3 v4 v5 v6 v7 v8 v9 v10 v11 v12 v13 v14 v15 v16 v17 v18).bind fun y22=>
 o7 n v0 v1 v2 v3 v4 v5 v6 v7 v8 v9 v10 v11 v12 v13 v14 v15 v16 v17 v18 v19 v20 v21 y22
def eu(n:Nat)(v0 v1 v2 v3 v4:Lv)(v5 v6 v7 v8 v9 v10 v11 v12 v13 v14:Int)(v15:Bool)(v16:Lv)(v17:Int)(v18:Lv)(v19 v20 v21:Int):Option bQ:=pn n v0 v1 v2 v3 v4 v5 v6 v7 v8 v9 v10 v11 v12 v13 v14 v15 v16 v17 v18 v19 v20 v21
def refusal_callOf_t:FnT:=⟨[(true,[(.sl (.cons .int (.cons tSc .nil))),(.sl (.cons .int (.cons .int (.cons .int (.cons .int (.cons .int .nil)))))),(.sl (.cons .int (.cons .int .nil))),tSa,tSa,.int,.int,.int,.int,.int,.int,.int,.int,.int,.int,.bool,tSc,.int,tSc]),(false,[.int]),(false,[.int]),(false,[.int])],(.tup (.cons (.agg (.cons (.row 1000080 (.cons .int (.cons tSc .nil))) (.cons (.row 1000162 (.cons .int (.cons .int (.cons .int (.cons .int (.cons .int .nil)))))) (.cons (.row 1000198 (.cons .int (.cons .int .nil))) (.cons (.row 1000003 (.cons .int .nil)) (.cons (.row 1000003 (.cons .int .nil)) (.cons .i (.cons .i (.cons .i (.cons .i (.cons .i (.cons .i (.cons .i (.cons .i (.cons .i (.cons .i (.cons .b (.cons (.row 1000166 (.cons .int (.cons .int (.cons .int .nil)))) (.cons .i (.cons (.row 1000073 (.cons .int (.cons .int (.cons .int .nil)))) (.cons .i (.cons .i (.cons .i (.cons (.row 1000003 (.cons .int .nil)) (.cons (.row 1000003 (.cons .int .nil)) (.cons (.row 1000094 (.cons .int (.cons .int .nil))) (.cons .i .nil))))))))))))))))))))))))))) (.cons .b .nil))),fun n (s:Lv×Lv×Lv×Lv×Lv×Int×Int×Int×Int×Int×Int×Int×Int×Int×Int×Bool×Lv×Int×Lv×Int×Int×Int)=>eu n s.1 s.2.1 s.2.2.1 s.2.2.2.1 s.2.2.2.2.1 s.2.2.2.2.2.1 s.2.2.2.2.2.2.1 s.2.2.2.2.2.2.2.1 s.2.2.2.2.2.2.2.2.1 s.2.2.2.2.2.2.2.2.2.1 s.2.2.2.2.2.2.2.2.2.2.1 s.2.2.2.2.2.2.2.2.2.2.2.1 s.2.2.2.2.2.2.2.2.2.2.2.2.1 s.2.2.2.2.2.2.2.2.2.2.2.2.2.1 s.2.2.2.2.2.2.2.2.2.2.2.2.2.2.1 s.2.2.2.2.2.2.2.2.2.2.2.2.2.2.2.1 s.2.2.2.2.2.2.2.2.2.2.2.2.2.2.2.2.1 s.2.2.2.2.2.2.2.2.2.2.2.2.2.2.2.2.2.1 s.2.2.2.2.2.2.2.2.2.2.2.2.2.2.2.2.2.2.1 s.2.2.2.2.2.2.2.2.2.2.2.2.2.2.2.2.2.2.2.1 s.2.2.2.2.2.2.2.2.2.2.2.2.2.2.2.2.2.2.2.2.1 s.2.2.2.2.2.2.2.2.2.2.2.2.2.2.2.2.2.2.2.2.2⟩
theorem yW:refusal_callOf_t.ok Tryz.prog 52:=FnT.ok_of (cfg:=⟨[],pY,[],ak⟩) aw fK av (fun s fn hf=>by rw[Tryz.func52]at hf;cases hf;kernel_rfl) (fun n s=>by kernel_rfl)
def refusal_callOf_T:Tab:=(52,refusal_callOf_t)::refusal_call__isUnproved_T
theorem lP:refusal_callOf_T.ok Tryz.prog:=Tab.ok_cons yW fK
abbrev ae:=Int×Int×Int×Lv×Lv×Lv×Int×Bool
abbrev aj:=Int
def sm(n:Nat)(go0:aj->Option ae)(go1:aj->Option ae)(v0 v1 v2 v3 v4:Lv)(v5 v6 v7 v8 v9 v10 v11 v12 v13 v14:Int)(v15:Bool)(v16:Lv)(v17:Int)(v18:Lv)(v19 v20 v21:Int)(v22 v23 v24:Lv)(v25:Int):Option ae:=
 (bif 2<=v21 then(bif v21<=4 then some (3,0,v21,v22,v23,([]:Lv),0,true)else(bif v25=2 then some (4,0,0,([]:Lv),([]:Lv),v24,0,true)else(bif v25=3 then some (5,0,0,([]:Lv),([]:Lv),v24,0,true)else(bif v25=1 then(bc n v0 v1 v2 v3 v4 v5 v6 v7 v8 v9 v10 v11 v12 v13 v14 v15 v16 v17 v18 v19 v20 v21 v22 v23 v24 v25).bind fun y29=>
 (bif y29 then some (6,0,0,([]:Lv),([]:Lv),v24,0,true)else bif(-9223372036854775808<=((v24.length:Int)-1))&&(((v24.length:Int)-1)<=9223372036854775807)then bif 0<=((v24.length:Int)-1) then bif ((v24.length:Int)-1)<(v24.length:Int) then(bif (cI v24 ((v24.length:Int)-1) 0)=v20 then some (0,0,0,([]:Lv),([]:Lv),([]:Lv),0,false)else(iM n v17 v18 v20 (cI v24 ((v24.length:Int)-1) 0)).bind fun y30=>
 (ba n v17 v18 v20 (cI v24 ((v24.length:Int)-1) 0) y30.2.1).bind fun y33=>
 (bif y33.1=0 then some (7,0,0,([]:Lv),([]:Lv),v24,y30.2.1,true)else some (0,0,0,([]:Lv),([]:Lv),([]:Lv),0,false)))else none else none else none)else some (0,0,0,([]:Lv),([]:Lv),([]:Lv),0,false)))))else(bif v25=2 then some (4,0,0,([]:Lv),([]:Lv),v24,0,true)else(bif v25=3 then some (5,0,0,([]:Lv),([]:Lv),v24,0,true)else(bif v25=1 then(bc n v0 v1 v2 v3 v4 v5 v6 v7 v8 v9 v10 v11 v12 v13 v14 v15 v16 v17 v18 v19 v20 v21 v22 v23 v24 v25).bind fun y29=>
 (bif y29 then some (6,0,0,([]:Lv),([]:Lv),v24,0,true)else bif(-9223372036854775808<=((v24.length:Int)-1))&&(((v24.length:Int)-1)<=9223372036854775807)then bif 0<=((v24.length:Int)-1) then bif ((v24.length:Int)-1)<(v24.length:Int) then(bif (cI v24 ((v24.length:Int)-1) 0)=v20 then some (0,0,0,([]:Lv),([]:Lv),([]:Lv),0,false)else(iM n v17 v18 v20 (cI v24 ((v24.length:Int)-1) 0)).bind fun y30=>
 (ba n v17 v18 v20 (cI v24 ((v24.length:Int)-1) 0) y30.2.1).bind fun y33=>
 (bif y33.1=0 then some (7,0,0,([]:Lv),([]:Lv),v24,y30.2.1,true)else some (0,0,0,([]:Lv),([]:Lv),([]:Lv),0,false)))else none else none else none)else some (0,0,0,([]:Lv),([]:Lv),([]:Lv),0,false)))))
def sF(n:Nat)(go0:aj->Option ae)(go1:aj->Option ae)(v0 v1 v2 v3 v4:Lv)(v5 v6 v7 v8 v9 v10 v11 v12 v13 v14:Int)(v15:Bool)(v16:Lv)(v17:Int)(v18:Lv)(v19 v20 v21:Int)(v22 v23 v24:Lv)(v25:Int):Option ae:=
 (bif v21=6 then some (2,0,v21,v22,v23,([]:Lv),0,true)else sm n go0 go1 v0 v1 v2 v3 v4 v5 v6 v7 v8 v9 v10 v11 v12 v13 v14 v15 v16 v17 v18 v19 v20 v21 v22 v23 v24 v25)
def sy(n:Nat)(go0:aj->Option ae)(go1:aj->Option ae)(v0 v1 v2 v3 v4:Lv)(v5 v6 v7 v8 v9 v10 v11 v12 v13 v14:Int)(v15:Bool)(v16:Lv)(v17:Int)(v18:Lv)(v19 v20 v21:Int)(v22 v23 v24:Lv)(v25:Int):Option ae:=
 (bif v21=5 then some (2,0,v21,v22,v23,([]:Lv),0,true)else sF n go0 go1 v0 v1 v2 v3 v4 v5 v6 v7 v8 v9 v10 v11 v12 v13 v14 v15 v16 v17 v18 v19 v20 v21 v22 v23 v24 v25)
def jz(n:Nat)(go0:aj->Option ae)(go1:aj->Option ae)(v0 v1 v2 v3 v4:Lv)(v5 v6 v7 v8 v9 v10 v11 v12 v13 v14:Int)(v15:Bool)(v16:Lv)(v17:Int)(v18:Lv)(v19 v20 v21:Int)(v22 v23 v24:Lv)(v25 v26:Int):Option ae:=
 (bif v26<0 then sy n go0 go1 v0 v1 v2 v3 v4 v5 v6 v7 v8 v9 v10 v11 v12 v13 v14 v15 v16 v17 v18 v19 v20 v21 v22 v23 v24 v25 else some (1,(cI v22 v26 0),0,([]:Lv),([]:Lv),([]:Lv),0,true))
def js(n:Nat)(go0:aj->Option ae)(go1:aj->Option ae)(v0 v1 v2 v3 v4:Lv)(v5 v6 v7 v8 v9 v10 v11 v12 v13 v14:Int)(v15:Bool)(v16:Lv)(v17:Int)(v18:Lv)(v19 v20 v21:Int)(v22 v23 v24:Lv)(v25 v26:Int)(v28:Bool):Option ae:=
 (bif(!v28)then jz n go0 go1 v0 v1 v2 v3 v4 v5 v6 v7 v8 v9 v10 v11 v12 v13 v14 v15 v16 v17 v18 v19 v20 v21 v22 v23 v24 v25 v26 else bif(-9223372036854775808<=(v26+1))&&((v26+1)<=9223372036854775807)then go0 (v26+1)else none)
def fG(n:Nat)(go0:aj->Option ae)(go1:aj->Option ae)(v0 v1 v2 v3 v4:Lv)(v5 v6 v7 v8 v9 v10 v11 v12 v13 v14:Int)(v15:Bool)(v16:Lv)(v17:Int)(v18:Lv)(v19 v20 v21:Int)(v22 v23 v24:Lv)(v25 v26 v27:Int):Option ae:=
 (bif (cI v22 v26 0)=(cI v22 v27 0) then(cq n v0 v1 v2 v3 v4 v5 v6 v7 v8 v9 v10 v11 v12 v13 v14 v15 v16 v17 v18 v19 v20 v21 v22 v23 v24 v25 (cI v22 v26 0)).bind fun y28=>
 js n go0 go1 v0 v1 v2 v3 v4 v5 v6 v7 v8 v9 v10 v11 v12 v13 v14 v15 v16 v17 v18 v19 v20 v21 v22 v23 v24 v25 v26 y28 else bif(-9223372036854775808<=(v27+1))&&((v27+1)<=9223372036854775807)then go1 (v27+1)else none)
def bE(n:Nat)(go0:aj->Option ae)(go1:aj->Option ae)(v0 v1 v2 v3 v4:Lv)(v5 v6 v7 v8 v9 v10 v11 v12 v13 v14:Int)(v15:Bool)(v16:Lv)(v17:Int)(v18:Lv)(v19 v20 v21:Int)(v22 v23 v24:Lv)(v25 v26 v27:Int):Option ae:=
 (bif v27<(v22.length:Int) then bif 0<=v27 then fG n go0 go1 v0 v1 v2 v3 v4 v5 v6 v7 v8 v9 v10 v11 v12 v13 v14 v15 v16 v17 v18 v19 v20 v21 v22 v23 v24 v25 v26 v27 else none else bif(-9223372036854775808<=(v26+1))&&((v26+1)<=9223372036854775807)then go0 (v26+1)else none)
def jk(n:Nat)(go0:aj->Option ae)(v0 v1 v2 v3 v4:Lv)(v5 v6 v7 v8 v9 v10 v11 v12 v13 v14:Int)(v15:Bool)(v16:Lv)(v17:Int)(v18:Lv)(v19 v20 v21:Int)(v22 v23 v24:Lv)(v25:Int):Option ae:=
 (bif 2<=v21 then(bif v21<=4 then some (3,0,v21,v22,v23,([]:Lv),0,true)else(bif v25=2 then some (4,0,0,([]:Lv),([]:Lv),v24,0,true)else(bif v25=3 then some (5,0,0,([]:Lv),([]:Lv),v24,0,true)else(bif v25=1 then(bc n v0 v1 v2 v3 v4 v5 v6 v7 v8 v9 v10 v11 v12 v13 v14 v15 v16 v17 v18 v19 v20 v21 v22 v23 v24 v25).bind fun y27=>
 (bif y27 then some (6,0,0,([]:Lv),([]:Lv),v24,0,true)else bif(-9223372036854775808<=((v24.length:Int)-1))&&(((v24.length:Int)-1)<=9223372036854775807)then bif 0<=((v24.length:Int)-1) then bif ((v24.length:Int)-1)<(v24.length:Int) then(bif (cI v24 ((v24.length:Int)-1) 0)=v20 then some (0,0,0,([]:Lv),([]:Lv),([]:Lv),0,false)else(iM n v17 v18 v20 (cI v24 ((v24.length:Int)-1) 0)).bind fun y28=>
 (ba n v17 v18 v20 (cI v24 ((v24.length:Int)-1) 0) y28.2.1).bind fun y31=>
 (bif y31.1=0 then some (7,0,0,([]:Lv),([]:Lv),v24,y28.2.1,true)else some (0,0,0,([]:Lv),([]:Lv),([]:Lv),0,false)))else none else none else none)else some (0,0,0,([]:Lv),([]:Lv),([]:Lv),0,false)))))else(bif v25=2 then some (4,0,0,([]:Lv),([]:Lv),v24,0,true)else(bif v25=3 then some (5,0,0,([]:Lv),([]:Lv),v24,0,true)else(bif v25=1 then(bc n v0 v1 v2 v3 v4 v5 v6 v7 v8 v9 v10 v11 v12 v13 v14 v15 v16 v17 v18 v19 v20 v21 v22 v23 v24 v25).bind fun y27=>
 (bif y27 then some (6,0,0,([]:Lv),([]:Lv),v24,0,true)else bif(-9223372036854775808<=((v24.length:Int)-1))&&(((v24.length:Int)-1)<=9223372036854775807)then bif 0<=((v24.length:Int)-1) then bif ((v24.length:Int)-1)<(v24.length:Int) then(bif (cI v24 ((v24.length:Int)-1) 0)=v20 then some (0,0,0,([]:Lv),([]:Lv),([]:Lv),0,false)else(iM n v17 v18 v20 (cI v24 ((v24.length:Int)-1) 0)).bind fun y28=>
 (ba n v17 v18 v20 (cI v24 ((v24.length:Int)-1) 0) y28.2.1).bind fun y31=>
 (bif y31.1=0 then some (7,0,0,([]:Lv),([]:Lv),v24,y28.2.1,true)else some (0,0,0,([]:Lv),([]:Lv),([]:Lv),0,false)))else none else none else none)else some (0,0,0,([]:Lv),([]:Lv),([]:Lv),0,false)))))
def jm(n:Nat)(go0:aj->Option ae)(v0 v1 v2 v3 v4:Lv)(v5 v6 v7 v8 v9 v10 v11 v12 v13 v14:Int)(v15:Bool)(v16:Lv)(v17:Int)(v18:Lv)(v19 v20 v21:Int)(v22 v23 v24:Lv)(v25:Int):Option ae:=
 (bif v21=6 then some (2,0,v21,v22,v23,([]:Lv),0,true)else jk n go0 v0 v1 v2 v3 v4 v5 v6 v7 v8 v9 v10 v11 v12 v13 v14 v15 v16 v17 v18 v19 v20 v21 v22 v23 v24 v25)
def eO(n:Nat)(go0:aj->Option ae)(v0 v1 v2 v3 v4:Lv)(v5 v6 v7 v8 v9 v10 v11 v12 v13 v14:Int)(v15:Bool)(v16:Lv)(v17:Int)(v18:Lv)(v19 v20 v21:Int)(v22 v23 v24:Lv)(v25:Int):Option ae:=
 (bif v21=5 then some (2,0,v21,v22,v23,([]:Lv),0,true)else jm n go0 v0 v1 v2 v3 v4 v5 v6 v7 v8 v9 v10 v11 v12 v13 v14 v15 v16 v17 v18 v19 v20 v21 v22 v23 v24 v25)
def bF(n:Nat)(go0:aj->Option ae)(v0 v1 v2 v3 v4:Lv)(v5 v6 v7 v8 v9 v10 v11 v12 v13 v14:Int)(v15:Bool)(v16:Lv)(v17:Int)(v18:Lv)(v19 v20 v21:Int)(v22 v23 v24:Lv)(v25 v26:Int):Option ae:=
 (bif v26<(v22.length:Int) then bif 0<=v26 then(ab (fun go1 s=>bE n go0 go1 v0 v1 v2 v3 v4 v5 v6 v7 v8 v9 v10 v11 v12 v13 v14 v15 v16 v17 v18 v19 v20 v21 v22 v23 v24 v25 v26 s) n (0:aj))else none else eO n go0 v0 v1 v2 v3 v4 v5 v6 v7 v8 v9 v10 v11 v12 v13 v14 v15 v16 v17 v18 v19 v20 v21 v22 v23 v24 v25)
def jx(n:Nat)(v0 v1 v2 v3 v4:Lv)(v5 v6 v7 v8 v9 v10 v11 v12 v13 v14:Int)(v15:Bool)(v16:Lv)(v17:Int)(v18:Lv)(v19 v20 v21:Int)(v22 v23 v24:Lv)(v25:Int):Option ae:=
 (ab (fun go0 s=>bF n go0 v0 v1 v2 v3 v4 v5 v6 v7 v8 v9 v10 v11 v12 v13 v14 v15 v16 v17 v18 v19 v20 v21 v22 v23 v24 v25 s) n (0:aj))
def dh(n:Nat)(v0 v1 v2 v3 v4:Lv)(v5 v6 v7 v8 v9 v10 v11 v12 v13 v14:Int)(v15:Bool)(v16:Lv)(v17:Int)(v18:Lv)(v19 v20 v21:Int)(v22 v23 v24:Lv)(v25:Int):Option ae:=jx n v0 v1 v2 v3 v4 v5 v6 v7 v8 v9 v10 v11 v12 v13 v14 v15 v16 v17 v18 v19 v20 v21 v22 v23 v24 v25
def refusal_call__refuse_t:FnT:=⟨[(true,[(.sl (.cons .int (.cons tSc .nil))),(.sl (.cons .int (.cons .int (.cons .int (.cons .int (.cons .int .nil)))))),(.sl (.cons .int (.cons .int .nil))),tSa,tSa,.int,.int,.int,.int,.int,.int,.int,.int,.int,.int,.bool,tSc,.int,tSc,.int,.int,.int,tSa,tSa,(.sl (.cons .int (.cons .int .nil))),.int])],(.tup (.cons (.agg (.cons .i (.cons .i (.cons .i (.cons (.row 1000003 (.cons .int .nil)) (.cons (.row 1000003 (.cons .int .nil)) (.cons (.row 1000094 (.cons .int (.cons .int .nil))) (.cons .i .nil)))))))) (.cons .b .nil))),fun n (s:Lv×Lv×Lv×Lv×Lv×Int×Int×Int×Int×Int×Int×Int×Int×Int×Int×Bool×Lv×Int×Lv×Int×Int×Int×Lv×Lv×Lv×Int)=>dh n s.1 s.2.1 s.2.2.1 s.2.2.2.1 s.2.2.2.2.1 s.2.2.2.2.2.1 s.2.2.2.2.2.2.1 s.2.2.2.2.2.2.2.1 s.2.2.2.2.2.2.2.2.1 s.2.2.2.2.2.2.2.2.2.1 s.2.2.2.2.2.2.2.2.2.2.1 s.2.2.2.2.2.2.2.2.2.2.2.1 s.2.2.2.2.2.2.2.2.2.2.2.2.1 s.2.2.2.2.2.2.2.2.2.2.2.2.2.1 s.2.2.2.2.2.2.2.2.2.2.2.2.2.2.1 s.2.2.2.2.2.2.2.2.2.2.2.2.2.2.2.1 s.2.2.2.2.2.2.2.2.2.2.2.2.2.2.2.2.1 s.2.2.2.2.2.2.2.2.2.2.2.2.2.2.2.2.2.1 s.2.2.2.2.2.2.2.2.2.2.2.2.2.2.2.2.2.2.1 s.2.2.2.2.2.2.2.2.2.2.2.2.2.2.2.2.2.2.2.1 s.2.2.2.2.2.2.2.2.2.2.2.2.2.2.2.2.2.2.2.2.1 s.2.2.2.2.2.2.2.2.2.2.2.2.2.2.2.2.2.2.2.2.2.1 s.2.2.2.2.2.2.2.2.2.2.2.2.2.2.2.2.2.2.2.2.2.2.1 s.2.2.2.2.2.2.2.2.2.2.2.2.2.2.2.2.2.2.2.2.2.2.2.1 s.2.2.2.2.2.2.2.2.2.2.2.2.2.2.2.2.2.2.2.2.2.2.2.2.1 s.2.2.2.2.2.2.2.2.2.2.2.2.2.2.2.2.2.2.2.2.2.2.2.2.2⟩
theorem qp:refusal_call__refuse_t.ok Tryz.prog 53:=FnT.ok_of (cfg:=⟨[((53,2,0),.unroll 8),((124,2,0),.inv [.tmp 8 .int]),((188,2,0),.inv [.tmp 8 .int]),((158,2,0),.inv [.tmp 8 .int])],pY,[],ak⟩) aw lP av (fun s fn hf=>by rw[Tryz.func53]at hf;cases hf;kernel_rfl) (fun n s=>by kernel_rfl)
def refusal_call__refuse_T:Tab:=(53,refusal_call__refuse_t)::refusal_callOf_T
theorem ip:refusal_call__refuse_T.ok Tryz.prog:=Tab.ok_cons qp lP
abbrev j6:=Int×Int×Int×Lv×Lv×Lv×Int×Bool×Int
def pG(n:Nat)(v0 v1 v2 v3 v4:Lv)(v5 v6 v7 v8 v9 v10 v11 v12 v13 v14:Int)(v15:Bool)(v16:Lv)(v17:Int)(v18:Lv)(v19 v20 v21:Int):Option j6:=
 (eu n v0 v1 v2 v3 v4 v5 v6 v7 v8 v9 v10 v11 v12 v13 v14 v15 v16 v17 v18 v19 v20 v21).bind fun y22=>
 (bif(!y22.2.2.2.2.2.2.2.2.2.2.2.2.2.2.2.2.2.2.2.2.2.2.2.2.2.2)then some (0,0,0,([]:Lv),([]:Lv),([]:Lv),0,false,280)else(dh n y22.1 y22.2.1 y22.2.2.1 y22.2.2.2.1 y22.2.2.2.2.1 y22.2.2.2.2.2.1 y22.2.2.2.2.2.2.1 y22.2.2.2.2.2.2.2.1 y22.2.2.2.2.2.2.2.2.1 y22.2.2.2.2.2.2.2.2.2.1 y22.2.2.2.2.2.2.2.2.2.2.1 y22.2.2.2.2.2.2.2.2.2.2.2.1 y22.2.2.2.2.2.2.2.2.2.2.2.2.1 y22.2.2.2.2.2.2.2.2.2.2.2.2.2.1 y22.2.2.2.2.2.2.2.2.2.2.2.2.2.2.1 y22.2.2.2.2.2.2.2.2.2.2.2.2.2.2.2.1 y22.2.2.2.2.2.2.2.2.2.2.2.2.2.2.2.2.1 y22.2.2.2.2.2.2.2.2.2.2.2.2.2.2.2.2.2.1 y22.2.2.2.2.2.2.2.2.2.2.2.2.2.2.2.2.2.2.1 y22.2.2.2.2.2.2.2.2.2.2.2.2.2.2.2.2.2.2.2.1 y22.2.2.2.2.2.2.2.2.2.2.2.2.2.2.2.2.2.2.2.2.1 y22.2.2.2.2.2.2.2.2.2.2.2.2.2.2.2.2.2.2.2.2.2.1 y22.2.2.2.2.2.2.2.2.2.2.2.2.2.2.2.2.2.2.2.2.2.2.1 y22.2.2.2.2.2.2.2.2.2.2.2.2.2.2.2.2.2.2.2.2.2.2.2.1 y22.2.2.2.2.2.2.2.2.2.2.2.2.2.2.2.2.2.2.2.2.2.2.2.2.1 y22.2.2.2.2.2.2.2.2.2.2.2.2.2.2.2.2.2.2.2.2.2.2.2.2.2.1).bind fun y49=>
 some (y49.1,y49.2.1,y49.2.2.1,y49.2.2.2.1,y49.2.2.2.2.1,y49.2.2.2.2.2.1,y49.2.2.2.2.2.2.1,y49.2.2.2.2.2.2.2,0))
def eo(n:Nat)(v0 v1 v2 v3 v4:Lv)(v5 v6 v7 v8 v9 v10 v11 v12 v13 v14:Int)(v15:Bool)(v16:Lv)(v17:Int)(v18:Lv)(v19 v20 v21:Int):Option j6:=pG n v0 v1 v2 v3 v4 v5 v6 v7 v8 v9 v10 v11 v12 v13 v14 v15 v16 v17 v18 v19 v20 v21
def refusal_Refuse_t:FnT:=⟨[(true,[(.sl (.cons .int (.cons tSc .nil))),(.sl (.cons .int (.cons .int (.cons .int (.cons .int (.cons .int .nil)))))),(.sl (.cons .int (.cons .int .nil))),tSa,tSa,.int,.int,.int,.int,.int,.int,.int,.int,.int,.int,.bool,tSc,.int,tSc]),(false,[.int]),(false,[.int]),(false,[.int])],(.tup (.cons (.agg (.cons .i (.cons .i (.cons .i (.cons (.row 1000003 (.cons .int .nil)) (.cons (.row 1000003 (.cons .int .nil)) (.cons (.row 1000094 (.cons .int (.cons .int .nil))) (.cons .i .nil)))))))) (.cons .b (.cons .i .nil)))),fun n (s:Lv×Lv×Lv×Lv×Lv×Int×Int×Int×Int×Int×Int×Int×Int×Int×Int×Bool×Lv×Int×Lv×Int×Int×Int)=>eo n s.1 s.2.1 s.2.2.1 s.2.2.2.1 s.2.2.2.2.1 s.2.2.2.2.2.1 s.2.2.2.2.2.2.1 s.2.2.2.2.2.2.2.1 s.2.2.2.2.2.2.2.2.1 s.2.2.2.2.2.2.2.2.2.1 s.2.2.2.2.2.2.2.2.2.2.1 s.2.2.2.2.2.2.2.2.2.2.2.1 s.2.2.2.2.2.2.2.2.2.2.2.2.1 s.2.2.2.2.2.2.2.2.2.2.2.2.2.1 s.2.2.2.2.2.2.2.2.2.2.2.2.2.2.1 s.2.2.2.2.2.2.2.2.2.2.2.2.2.2.2.1 s.2.2.2.2.2.2.2.2.2.2.2.2.2.2.2.2.1 s.2.2.2.2.2.2.2.2.2.2.2.2.2.2.2.2.2.1 s.2.2.2.2.2.2.2.2.2.2.2.2.2.2.2.2.2.2.1 s.2.2.2.2.2.2.2.2.2.2.2.2.2.2.2.2.2.2.2.1 s.2.2.2.2.2.2.2.2.2.2.2.2.2.2.2.2.2.2.2.2.1 s.2.2.2.2.2.2.2.2.2.2.2.2.2.2.2.2.2.2.2.2.2⟩
theorem zf:refusal_Refuse_t.ok Tryz.prog 16:=FnT.ok_of (cfg:=⟨[],aH,[],ak⟩) aw ip av (fun s fn hf=>by rw[Tryz.func16]at hf;cases hf;kernel_rfl) (fun n s=>by kernel_rfl)
def refusal_Refuse_T:Tab:=(16,refusal_Refuse_t)::refusal_call__refuse_T
theorem lN:refusal_Refuse_T.ok Tryz.prog:=Tab.ok_cons zf ip
abbrev jd:=Int×Int×Int×Lv×Lv×Lv×Bool×Int
def tN(n:Nat)(v0 v1 v2 v3 v4:Lv)(v5 v6 v7 v8 v9 v10 v11 v12 v13 v14:Int)(v15:Bool)(v16:Lv)(v17:Int)(v18:Lv)(v19 v20 v21:Int):Option jd:=
 (eu n v0 v1 v2 v3 v4 v5 v6 v7 v8 v9 v10 v11 v12 v13 v14 v15 v16 v17 v18 v19 v20 v21).bind fun y22=>
 (bif(!y22.2.2.2.2.2.2.2.2.2.2.2.2.2.2.2.2.2.2.2.2.2.2.2.2.2.2)then some (0,0,0,([]:Lv),([]:Lv),([]:Lv),false,280)else(dh n y22.1 y22.2.1 y22.2.2.1 y22.2.2.2.1 y22.2.2.2.2.1 y22.2.2.2.2.2.1 y22.2.2.2.2.2.2.1 y22.2.2.2.2.2.2.2.1 y22.2.2.2.2.2.2.2.2.1 y22.2.2.2.2.2.2.2.2.2.1 y22.2.2.2.2.2.2.2.2.2.2.1 y22.2.2.2.2.2.2.2.2.2.2.2.1 y22.2.2.2.2.2.2.2.2.2.2.2.2.1 y22.2.2.2.2.2.2.2.2.2.2.2.2.2.1 y22.2.2.2.2.2.2.2.2.2.2.2.2.2.2.1 y22.2.2.2.2.2.2.2.2.2.2.2.2.2.2.2.1 y22.2.2.2.2.2.2.2.2.2.2.2.2.2.2.2.2.1 y22.2.2.2.2.2.2.2.2.2.2.2.2.2.2.2.2.2.1 y22.2.2.2.2.2.2.2.2.2.2.2.2.2.2.2.2.2.2.1 y22.2.2.2.2.2.2.2.2.2.2.2.2.2.2.2.2.2.2.2.1 y22.2.2.2.2.2.2.2.2.2.2.2.2.2.2.2.2.2.2.2.2.1 y22.2.2.2.2.2.2.2.2.2.2.2.2.2.2.2.2.2.2.2.2.2.1 y22.2.2.2.2.2.2.2.2.2.2.2.2.2.2.2.2.2.2.2.2.2.2.1 y22.2.2.2.2.2.2.2.2.2.2.2.2.2.2.2.2.2.2.2.2.2.2.2.1 y22.2.2.2.2.2.2.2.2.2.2.2.2.2.2.2.2.2.2.2.2.2.2.2.2.1 y22.2.2.2.2.2.2.2.2.2.2.2.2.2.2.2.2.2.2.2.2.2.2.2.2.2.1).bind fun y49=>
 (bif y49.2.2.2.2.2.2.2 then some (0,0,0,([]:Lv),([]:Lv),([]:Lv),false,0)else bif(-9223372036854775808<=((y22.2.2.2.2.2.2.2.2.2.2.2.2.2.2.2.2.2.2.2.2.2.2.1.length:Int)-1))&&(((y22.2.2.2.2.2.2.2.2.2.2.2.2.2.2.2.2.2.2.2.2.2.2.1.length:Int)-1)<=9223372036854775807)then bif 0<=((y22.2.2.2.2.2.2.2.2.2.2.2.2.2.2.2.2.2.2.2.2.2.2.1.length:Int)-1) then bif ((y22.2.2.2.2.2.2.2.2.2.2.2.2.2.2.2.2.2.2.2.2.2.2.1.length:Int)-1)<(y22.2.2.2.2.2.2.2.2.2.2.2.2.2.2.2.2.2.2.2.2.2.2.1.length:Int) then bif(-9223372036854775808<=((y22.2.2.2.2.2.2.2.2.2.2.2.2.2.2.2.2.2.2.2.2.2.2.2.2.1.length:Int)-1))&&(((y22.2.2.2.2.2.2.2.2.2.2.2.2.2.2.2.2.2.2.2.2.2.2.2.2.1.length:Int)-1)<=9223372036854775807)then bif 0<=((y22.2.2.2.2.2.2.2.2.2.2.2.2.2.2.2.2.2.2.2.2.2.2.2.2.1.length:Int)-1) then bif ((y22.2.2.2.2.2.2.2.2.2.2.2.2.2.2.2.2.2.2.2.2.2.2.2.2.1.length:Int)-1)<(y22.2.2.2.2.2.2.2.2.2.2.2.2.2.2.2.2.2.2.2.2.2.2.2.2.1.length:Int) then some ((cI y22.2.2.2.2.2.2.2.2.2.2.2.2.2.2.2.2.2.2.2.2.2.2.1 ((y22.2.2.2.2.2.2.2.2.2.2.2.2.2.2.2.2.2.2.2.2.2.2.1.length:Int)-1) 0),(cI y22.2.2.2.2.2.2.2.2.2.2.2.2.2.2.2.2.2.2.2.2.2.2.2.2.1 ((y22.2.2.2.2.2.2.2.2.2.2.2.2.2.2.2.2.2.2.2.2.2.2.2.2.1.length:Int)-1) 0),y22.2.2.2.2.2.2.2.2.2.2.2.2.2.2.2.2.2.2.2.2.2.1,y22.2.2.2.2.2.2.2.2.2.2.2.2.2.2.2.2.2.2.2.2.2.2.1,y22.2.2.2.2.2.2.2.2.2.2.2.2.2.2.2.2.2.2.2.2.2.2.2.1,y22.2.2.2.2.2.2.2.2.2.2.2.2.2.2.2.2.2.2.2.2.2.2.2.2.1,true,0)else none else none else none else none else none else none))
def fP(n:Nat)(v0 v1 v2 v3 v4:Lv)(v5 v6 v7 v8 v9 v10 v11 v12 v13 v14:Int)(v15:Bool)(v16:Lv)(v17:Int)(v18:Lv)(v19 v20 v21:Int):Option jd:=tN n v0 v1 v2 v3 v4 v5 v6 v7 v8 v9 v10 v11 v12 v13 v14 v15 v16 v17 v18 v19 v20 v21
def refusal_Lead_t:FnT:=⟨[(true,[(.sl (.cons .int (.cons tSc .nil))),(.sl (.cons .int (.cons .int (.cons .int (.cons .int (.cons .int .nil)))))),(.sl (.cons .int (.cons .int .nil))),tSa,tSa,.int,.int,.int,.int,.int,.int,.int,.int,.int,.int,.bool,tSc,.int,tSc]),(false,[.int]),(false,[.int]),(false,[.int])],(.tup (.cons (.agg (.cons .i (.cons .i (.cons .i (.cons (.row 1000003 (.cons .int .nil)) (.cons (.row 1000003 (.cons .int .nil)) (.cons (.row 1000094 (.cons .int (.cons .int .nil))) .nil))))))) (.cons .b (.cons .i .nil)))),fun n (s:Lv×Lv×Lv×Lv×Lv×Int×Int×Int×Int×Int×Int×Int×Int×Int×Int×Bool×Lv×Int×Lv×Int×Int×Int)=>fP n s.1 s.2.1 s.2.2.1 s.2.2.2.1 s.2.2.2.2.1 s.2.2.2.2.2.1 s.2.2.2.2.2.2.1 s.2.2.2.2.2.2.2.1 s.2.2.2.2.2.2.2.2.1 s.2.2.2.2.2.2.2.2.2.1 s.2.2.2.2.2.2.2.2.2.2.1 s.2.2.2.2.2.2.2.2.2.2.2.1 s.2.2.2.2.2.2.2.2.2.2.2.2.1 s.2.2.2.2.2.2.2.2.2.2.2.2.2.1 s.2.2.2.2.2.2.2.2.2.2.2.2.2.2.1 s.2.2.2.2.2.2.2.2.2.2.2.2.2.2.2.1 s.2.2.2.2.2.2.2.2.2.2.2.2.2.2.2.2.1 s.2.2.2.2.2.2.2.2.2.2.2.2.2.2.2.2.2.1 s.2.2.2.2.2.2.2.2.2.2.2.2.2.2.2.2.2.2.1 s.2.2.2.2.2.2.2.2.2.2.2.2.2.2.2.2.2.2.2.1 s.2.2.2.2.2.2.2.2.2.2.2.2.2.2.2.2.2.2.2.2.1 s.2.2.2.2.2.2.2.2.2.2.2.2.2.2.2.2.2.2.2.2.2⟩
theorem AD:refusal_Lead_t.ok Tryz.prog 18:=FnT.ok_of (cfg:=⟨[],aH,[],ak⟩) aw lN av (fun s fn hf=>by rw[Tryz.func18]at hf;cases hf;kernel_rfl) (fun n s=>by kernel_rfl)
def refusal_Lead_T:Tab:=(18,refusal_Lead_t)::refusal_Refuse_T
theorem nM:refusal_Lead_T.ok Tryz.prog:=Tab.ok_cons AD lN
end
end Go.Proofs.YtbfkkigbedmhgaaGreat
namespace Go.Dial.Flo
open Go.Sx
def has(s c:Int):Bool:=s.toNat.testBit c.toNat
def l9(s c:Int):Int:=((s.toNat ||| 2 ^ c.toNat:Nat):Int)
theorem O6(P:Int->Prop)(h:∀k:Fin 256,P (k.val:Int))(s:Int)(h0:0<=s)(h1:s<=255):P s:=by
 have:=h ⟨s.toNat,by omega⟩
 simpa[Int.toNat_of_nonneg h0]using this
theorem O4(P:Int->Prop)(h:∀k:Fin 8,P (k.val:Int))(s:Int)(h0:0<=s)(h1:s<=7):P s:=by
 have:=h ⟨s.toNat,by omega⟩
 simpa[Int.toNat_of_nonneg h0]using this
theorem NV{s c:Int}(h0:0<=s)(h1:s<=255)(c0:0<=c)(c1:c<=7):0<=l9 s c/\l9 s c<=255:=by
 refine⟨by unfold l9;omega,?_⟩
 revert s
 refine O4 (fun c=>∀ {s:Int},0<=s->s<=255->l9 s c<=255) (fun k=>?_) c c0 c1
 intro s h0 h1;have hk:(2:Nat) ^ k.val<2 ^ 8:=Nat.pow_lt_pow_right (by decide) k.isLt
 have:(s.toNat ||| 2 ^ k.val)<2 ^ 8:=Nat.or_lt_two_pow (by omega) hk
 unfold l9;simp only[Int.toNat_natCast];omega
theorem NL{s c d:Int}(c0:0<=c)(d0:0<=d):has (l9 s c) d=(has s d||decide (d=c)):=by
 unfold has l9;rw[Int.toNat_natCast,Nat.testBit_or,Nat.testBit_two_pow];congr 1
 rw[decide_eq_decide];omega
theorem Na{s t:Int}(s0:0<=s)(s1:s<=255)(t0:0<=t)(t1:t<=255)(h:∀c:Int,0<=c->c<=7->has s c=has t c):s=t:=by
 have:s.toNat=t.toNat:=by
  refine Nat.eq_of_testBit_eq fun i=>?_
  by_cases hi:i<8
  ·have:=h (i:Int) (by omega) (by omega)
   simpa[has]using this
  ·have e1:s.toNat<2 ^ i:=Nat.lt_of_lt_of_le (show s.toNat<2 ^ 8 by omega) (Nat.pow_le_pow_right (by decide) (by omega))
   have e2:t.toNat<2 ^ i:=Nat.lt_of_lt_of_le (show t.toNat<2 ^ 8 by omega) (Nat.pow_le_pow_right (by decide) (by omega))
   rw[Nat.testBit_lt_two_pow e1,Nat.testBit_lt_two_pow e2]
 omega
theorem Lq:∀(j:Fin 8) (k:Fin 256),decide (IOp.f .and (IOp.f .shr (k.val:Int) (j.val:Int)) 1=1)=has (k.val:Int) (j.val:Int)/\decide (IOp.f .and (IOp.f .shr (k.val:Int) (j.val:Int)) 1=0)= !has (k.val:Int) (j.val:Int)/\decide (Int.tmod (IOp.f .shr (k.val:Int) (j.val:Int)) 2=1)=has (k.val:Int) (j.val:Int)
  ∧ IOp.f .or (k.val:Int) (IOp.f .shl 1 (j.val:Int))=l9 (k.val:Int) (j.val:Int):=by
 decide +kernel
theorem yq{s c:Int}(h0:0<=s)(h1:s<=255)(c0:0<=c)(c1:c<=7):decide (IOp.f .and (IOp.f .shr s c) 1=1)=has s c/\decide (IOp.f .and (IOp.f .shr s c) 1=0)= !has s c/\decide (Int.tmod (IOp.f .shr s c) 2=1)=has s c
  ∧ IOp.f .or s (IOp.f .shl 1 c)=l9 s c:=by
 refine O4 (fun c=>decide (IOp.f .and (IOp.f .shr s c) 1=1)=has s c/\decide (IOp.f .and (IOp.f .shr s c) 1=0)= !has s c/\decide (Int.tmod (IOp.f .shr s c) 2=1)=has s c
  ∧ IOp.f .or s (IOp.f .shl 1 c)=l9 s c) (fun j=>?_) c c0 c1
 exact O6 (fun s=>decide (IOp.f .and (IOp.f .shr s (j.val:Int)) 1=1)=has s (j.val:Int)/\decide (IOp.f .and (IOp.f .shr s (j.val:Int)) 1=0)= !has s (j.val:Int)/\decide (Int.tmod (IOp.f .shr s (j.val:Int)) 2=1)=has s (j.val:Int)
  ∧ IOp.f .or s (IOp.f .shl 1 (j.val:Int))=l9 s (j.val:Int)) (fun k=>Lq j k) s h0 h1
structure Ed where
 f:Int
 t:Int
 c:Int
 deriving DecidableEq
def EdV(n:Int)(e:Ed):Prop:=0<=e.f/\e.f<=n-1/\0<=e.t/\e.t<=n-1/\e.f≠e.t/\0<=e.c/\e.c<=10000
instance (n:Int) (e:Ed):Decidable (EdV n e):=by unfold EdV;infer_instance
def NetV(n:Int)(es:List Ed):Prop:=0<=n/\n<=12/\es.length<=40/\∀e∈es,EdV n e
instance (n:Int) (es:List Ed):Decidable (NetV n es):=by unfold NetV;infer_instance
def out(s:Int)(e:Ed):Bool:=has s e.f&& !has s e.t
def lvs(s:Int):List Ed->Int
 |[]=>0
 |e::es=>(if out s e=true then e.c else 0)+lvs s es
theorem N7{n:Int}(s:Int){es:List Ed}(h:∀e∈es,EdV n e):0<=lvs s es/\lvs s es<=10000*es.length:=by
 induction es with
 |nil=>simp[lvs]
 |cons e es ih=>
  have h1:=ih (fun x hx=>h x (List.mem_cons_of_mem _ hx))
  obtain⟨_,_,_,_,_,h2,h3⟩:=h e (List.mem_cons_self ..);simp only[lvs,List.length_cons];split<;>omega
theorem Gi{n:Int}{s:Int}{es:List Ed}(h:∀e∈es,EdV n e):lvs s es=0↔∀e∈es,out s e=true->e.c=0:=by
 induction es with
 |nil=>simp[lvs]
 | cons e es ih=>
  have h1:=N7 s (fun x hx=>h x (List.mem_cons_of_mem _ hx))
  have h2:=ih (fun x hx=>h x (List.mem_cons_of_mem _ hx))
  obtain⟨_,_,_,_,_,h3,h4⟩:=h e (List.mem_cons_self ..);simp only[lvs];constructor
  ·intro h0 x hx ho
   rcases List.mem_cons.1 hx with rfl|hx
   ·rw[if_pos ho]at h0;omega
   ·refine h2.1 ?_ x hx ho
    split at h0<;>omega
  ·intro h0
   rw[h2.2 (fun x hx=>h0 x (List.mem_cons_of_mem _ hx))]
   split
   ·rename_i ho;rw[h0 e (List.mem_cons_self ..) ho];rfl
   ·rfl
inductive Reach (es:List Ed) (a:Int):Int->Prop
 |here:Reach es a a
 |step (u:Int) (e:Ed) (h:Reach es a u) (he:e∈es) (hf:e.f=u) (hc:0<e.c):Reach es a e.t
theorem uD{n:Int}{s a v:Int}{es:List Ed}(hv:∀e∈es,EdV n e)(h0:lvs s es=0)(ha:has s a=true)(h:Reach es a v):has s v=true:=by
 induction h with
 |here=>exact ha
 | step u e h he hf hc ih=>
  have:=(Gi hv).1 h0 e he
  cases hb:has s e.t with
  |true=>rfl
  |false=>
   have ho:out s e=true:=by unfold out;rw[hf,ih,hb];rfl
   have:=this ho
   omega
def xd(a b s:Int):Prop:=0<=s/\s<=255/\has s a=true/\has s b=false
instance (a b s:Int):Decidable (xd a b s):=by unfold xd;infer_instance
def IsR(es:List Ed)(a s:Int):Prop:=0<=s/\s<=255/\∀v:Int,0<=v->v<=7->(has s v=true↔Reach es a v)
theorem Nt{es:List Ed}{a s t:Int}(h:IsR es a s)(k:IsR es a t):s=t:=by
 refine Na h.1 h.2.1 k.1 k.2.1 (fun c h0 h1=>?_)
 rw[Bool.eq_iff_iff,h.2.2 c h0 h1,k.2.2 c h0 h1]
theorem Ap{es:List Ed}{a s:Int}(hv:∀e∈es,EdV 8 e)(h:IsR es a s):lvs s es=0:=by
 rw[Gi hv];intro e he ho;obtain⟨f0,f1,t0,t1,_,c0,_⟩:=hv e he;unfold out at ho;rw[Bool.and_eq_true]at ho;obtain⟨h1,h2⟩:=ho;have h3:=(h.2.2 e.f f0 (by omega)).1 h1
 by_cases hc:0<e.c
 ·have:=(h.2.2 e.t t0 (by omega)).2 (.step e.f e h3 he rfl hc)
  rw[this]at h2;cases h2
 ·omega
end Go.Dial.Flo
namespace Go.Sx
open Go
theorem aq{σ α:Type}(step:(σ->Option α)->σ->Option α)(n:Nat)(s:σ):ab step (n+1) s=step (ab step n) s:=rfl
theorem eh{σ α:Type}{step:(σ->Option α)->σ->Option α}(Inv:σ->Prop)(mu:σ->Nat)(r:α)
  (h:∀s go,Inv s->(∀s',Inv s'->mu s'<mu s->go s'=some r)->step go s=some r):∀(n:Nat) (s:σ),Inv s->mu s<n->ab step n s=some r:=by
 intro n;induction n with
 |zero=>intro s _ hm;omega
 |succ n ih=>
  intro s hi hm;exact h s _ hi fun s' hi' hm'=>ih s' hi' (by omega)
theorem eE{σ α:Type}{step:(σ->Option α)->σ->Option α}(Inv:σ->Prop)(mu:σ->Nat)(Post:α->Prop)
  (h:∀s go,Inv s->(∀s',Inv s'->mu s'<mu s->∃r,go s'=some r/\Post r)->∃r,step go s=some r/\Post r):∀(n:Nat) (s:σ),Inv s->mu s<n->∃r,ab step n s=some r/\Post r:=by
 intro n;induction n with
 |zero=>intro s _ hm;omega
 |succ n ih=>
  intro s hi hm;exact h s _ hi fun s' hi' hm'=>ih s' hi' (by omega)
theorem ct{α:Type}{f:α->List AV}{l:List α}{i:Int}{k:Nat}{x:α}(h:l[i.toNat]?=some x):cA (l.map f) i k=(f x).getD k (.int 0):=by
 simp[cA,List.getD,h]
theorem qA{α:Type}{l:List α}{i:Nat}{x:α}(h:l[i]?=some x):l.take (i+1)=l.take i++[x]:=by
 rw[List.take_add_one,h];rfl
theorem aX{α:Type}{l:List α}{i:Nat}(h:i<l.length):∃x,l[i]?=some x:=⟨_,List.getElem?_eq_getElem h⟩
end Go.Sx
namespace Go.Dial.Flo
open Go.Sx
def gM(M:List Int)(a b:Nat):Int:=M.getD (a*14+b) 0
def nA(M:List Int)(a b:Nat)(y:Int):List Int:=M.set (a*14+b) y
theorem iS(M:List Int)(a b:Nat)(y:Int):(nA M a b y).length=M.length:=List.length_set
theorem dZ(M:List Int)(i j:Nat)(y:Int)(hi:i<M.length):(M.set i y).getD j 0=if j=i then y else M.getD j 0:=by
 rw[List.getD_eq_getElem?_getD,List.getD_eq_getElem?_getD,List.getElem?_set];by_cases h:i=j
 ·subst h;simp[hi]
 ·rw[if_neg h,if_neg (fun e=>h e.symm)]
theorem wW{M:List Int}{a b c d:Nat}{y:Int}(hl:M.length=196)(ha:a<14)(hb:b<14)(hd:d<14):gM (nA M a b y) c d=if c=a/\d=b then y else gM M c d:=by
 unfold gM nA;rw[dZ _ _ _ _ (by omega)]
 by_cases h:c=a/\d=b
 ·rw[if_pos h,if_pos (by rw[h.1,h.2])]
 ·rw[if_neg h,if_neg (fun e=>h ⟨by omega,by omega⟩)]
def lW:Nat->(Nat->Int)->Int
 |0,_=>0
 |k+1,f=>lW k f+f k
theorem wz{f g:Nat->Int}:∀(k:Nat),(∀i,i<k->f i=g i)->lW k f=lW k g
 |0,_=>rfl
 |k+1,h=>by simp only[lW,wz k (fun i hi=>h i (by omega)),h k (by omega)]
theorem Ai{f g:Nat->Int}{j:Nat}{d:Int}:∀(k:Nat),j<k->(∀i,i<k->i≠j->f i=g i)->f j=g j+d->lW k f=lW k g+d
 |0,h,_,_=>by omega
 | k+1,h,h1,h2=>by
  simp only[lW];by_cases e:j=k
  ·subst e
   rw[wz (f:=f) (g:=g) j (fun i hi=>h1 i (by omega) (by omega)),h2];omega
  ·rw[Ai k (by omega) (fun i hi hne=>h1 i (by omega) hne) h2,h1 k (by omega) (fun e'=>e e'.symm)];omega
theorem GX{f:Nat->Int}:∀(k:Nat),(∀i,i<k->0<=f i)->0<=lW k f
 |0,_=>Int.le_refl _
 |k+1,h=>by
  have:=GX k (fun i hi=>h i (by omega))
  have:=h k (by omega)
  simp only[lW];omega
def rs(M:List Int)(v:Nat):Int:=lW 14 (fun b=>gM M v b)
def jL(room:Int)(M:List Int)(p x:Nat):List Int:=nA (nA M p x (gM M p x-room)) x p (gM M x p+room)
theorem eV{room:Int}{M:List Int}{p x c d:Nat}(hl:M.length=196)(hp:p<14)(hx:x<14)(hd:d<14)(hne:x≠p):
  gM (jL room M p x) c d=if c=x/\d=p then gM M x p+room else if c=p/\d=x then gM M p x-room else gM M c d:=by
 unfold jL;rw[wW (by rw[iS];exact hl) hx hp hd,wW hl hp hx hd]
theorem M9{room:Int}{M:List Int}{p x v:Nat}(hl:M.length=196)(hp:p<14)(hx:x<14)(hne:x≠p):
  rs (jL room M p x) v=rs M v+(if v=x then room else 0)-(if v=p then room else 0):=by
 unfold rs;by_cases h1:v=x
 ·subst h1
  rw[if_pos rfl,if_neg hne];rw[Ai (g:=fun b=>gM M v b) (j:=p) (d:=room) 14 hp]
  ·omega
  ·intro i hi hne'
   simp only[eV hl hp hx hi hne];rw[if_neg (fun h=>hne' h.2),if_neg (fun h=>hne h.1)]
  ·simp only[eV hl hp hx hp hne]
   simp
 ·by_cases h2:v=p
  ·subst h2
   rw[if_neg h1,if_pos rfl];rw[Ai (g:=fun b=>gM M v b) (j:=x) (d:= -room) 14 hx]
   ·omega
   ·intro i hi hne'
    simp only[eV hl hp hx hi hne];rw[if_neg (fun h=>h1 h.1),if_neg (fun h=>hne' h.2)]
   ·simp only[eV hl hp hx hx hne]
    rw[if_neg (fun h=>h1 h.1)]
    simp
    omega
  ·rw[if_neg h1,if_neg h2]
   rw[wz (g:=fun b=>gM M v b) 14]
   ·omega
   ·intro i hi
    simp only[eV hl hp hx hi hne];rw[if_neg (fun h=>h1 h.1),if_neg (fun h=>h2 h.1)]
inductive Way (M L:List Int) (a:Nat):Nat->List Nat->Prop
 |here:Way M L a a []
 |step (x p:Nat) (ps:List Nat) (h:Way M L a p ps) (hL:L.getD x 0=(p:Int)+1) (hM:0<gM M p x) (hx:x<14) (hn:x∉p::ps) (ha:x≠a):Way M L a x (p::ps)
theorem np{M L:List Int}{a x:Nat}{ps:List Nat}(ha:a<14)(h:Way M L a x ps):∀y∈x::ps,y<14:=by
 induction h with
 |here=>intro y hy;rw[List.mem_singleton]at hy;subst hy;exact ha
 |step x p ps h hL hM hx hn ha ih=>
  intro y hy;rcases List.mem_cons.1 hy with rfl|hy
  ·exact hx
  ·exact ih y hy
theorem LB{M L:List Int}{a x:Nat}{ps:List Nat}(h:Way M L a x ps):(x::ps).Nodup:=by
 induction h with
 |here=>simp
 |step x p ps h hL hM hx hn ha ih=>exact List.nodup_cons.2 ⟨hn,ih⟩
theorem xY:∀(k:Nat) (l:List Nat),l.Nodup->(∀y∈l,y<k)->l.length<=k
 |0,l,_,h=>by
  cases l with
  |nil=>exact Nat.le_refl _
  |cons y l=>exact absurd (h y (List.mem_cons_self ..)) (by omega)
 | k+1,l,hn,h=>by
  by_cases hk:k∈l
  ·have:=xY k (l.erase k) (hn.erase k) (fun y hy=>by
    have h1:=h y (List.mem_of_mem_erase hy);have h2:y≠k:=fun e=>by subst e;exact(List.Nodup.not_mem_erase hn) hy
    omega)
   rw[List.length_erase_of_mem hk]at this;omega
  ·have:=xY k l hn (fun y hy=>by
    have h1:=h y hy;have h2:y≠k:=fun e=>by subst e;exact hk hy
    omega)
   omega
theorem NS{M L:List Int}{a x:Nat}{ps:List Nat}(ha:a<14)(h:Way M L a x ps):ps.length<=13:=by
 have:=xY 14 (x::ps) (LB h) (np ha h)
 simp only[List.length_cons]at this;omega
def fc(M:List Int):Nat->List Nat->Int->Int
 |_,[],r=>r
 |x,p::ps,r=>fc M p ps (aM r (gM M p x))
def oH(room:Int):Nat->List Nat->List Int->List Int
 |_,[],M=>M
 |x,p::ps,M=>oH room p ps (jL room M p x)
theorem CP(a b:Int):aM a b<=a/\aM a b<=b/\(0<a->0<b->0<aM a b):=by
 unfold aM;split<;>omega
theorem yR{M L:List Int}{a x:Nat}{ps:List Nat}(h:Way M L a x ps):∀r,0<r->0<fc M x ps r/\fc M x ps r<=r:=by
 induction h with
 |here=>intro r hr;exact⟨hr,Int.le_refl _⟩
 |step x p ps h hL hM hx hn ha ih=>
  intro r hr;obtain⟨h1,h2,h3⟩:=CP r (gM M p x);obtain⟨h4,h5⟩:=ih _ (h3 hr hM);simp only[fc];exact⟨h4,by omega⟩
structure Kept (M M':List Int):Prop where
 len:M'.length=196
 pos:∀c d,c<14->d<14->0<=gM M' c d
 two:∀c d,c<14->d<14->gM M' c d+gM M' d c=gM M c d+gM M d c
theorem Nw{N L:List Int}{a x:Nat}{ps:List Nat}(h:Way N L a x ps)(ha:a<14):∀(room r:Int) (M:List Int),0<r->room<=fc N x ps r->0<=room->M.length=196->(∀c d,c<14->d<14->0<=gM M c d) →
  (∀c∈x::ps,∀d∈x::ps,gM M c d=gM N c d)->Kept M (oH room x ps M)/\∀v,v<14->rs (oH room x ps M) v=rs M v+(if v=x then room else 0)-(if v=a then room else 0):=by
 induction h with
 |here=>
  intro room r M hr hle h0 hl hp hag;refine⟨⟨hl,hp,fun c d _ _=>rfl⟩,fun v _=>?_⟩
  simp only[oH];omega
 | step x p ps h hL hM hx hn hax ih=>
  intro room r M hr hle h0 hl hp hag;simp only[oH];simp only[fc]at hle;have hpl:p<14:=np ha h p (List.mem_cons_self ..)
  have hne:x≠p:=fun e=>hn (by rw[e];exact List.mem_cons_self ..)
  obtain⟨i1,i2,i3⟩:=CP r (gM N p x);have hri:=i3 hr hM;obtain⟨g1,g2⟩:=yR h _ hri;have hroom:room<=gM M p x:=by
   rw[hag p (by simp) x (by simp)];omega
  have hlen:(jL room M p x).length=196:=by unfold jL;rw[iS,iS];exact hl
  have hpos:∀c d,c<14->d<14->0<=gM (jL room M p x) c d:=by
   intro c d hc hd;rw[eV hl hpl hx hd hne];have e1:=hp x p hx hpl;have e2:=hp c d hc hd;split
   ·omega
   ·split<;>omega
  obtain⟨⟨k1,k2,k3⟩,k4⟩:=ih room _ (jL room M p x) hri hle h0 hlen hpos (fun c hc d hd=>by
   have hcl:=np ha h c hc;have hdl:=np ha h d hd;rw[eV hl hpl hx hdl hne,if_neg (fun e=>hn (by rw[<-e.1];exact hc)),if_neg (fun e=>hn (by rw[<-e.2];exact hd))]
   exact hag c (List.mem_cons_of_mem _ hc) d (List.mem_cons_of_mem _ hd))
  refine⟨⟨k1,k2,fun c d hc hd=>?_⟩,fun v hv=>?_⟩
  ·rw[k3 c d hc hd,eV hl hpl hx hd hne,eV hl hpl hx hc hne]
   by_cases e1:c=x/\d=p
   ·obtain⟨rfl,rfl⟩:=e1
    simp[hne,hne.symm]
    omega
   ·by_cases e2:c=p/\d=x
    ·obtain⟨rfl,rfl⟩:=e2
     simp[hne,hne.symm]
     omega
    ·rw[if_neg e1,if_neg e2,if_neg (fun e=>e2 ⟨e.2,e.1⟩),if_neg (fun e=>e1 ⟨e.2,e.1⟩)]
  ·rw[k4 v hv,M9 hl hpl hx hne]
   omega
theorem IL{M L:List Int}{a x y:Nat}{v:Int}{ps:List Nat}(hl:y<L.length)(h:Way M L a x ps):y∉x::ps->Way M (L.set y v) a x ps:=by
 induction h with
 |here=>intro _;exact .here
 |step x p ps h hL hM hx hn ha ih=>
  intro hy;refine .step x p ps (ih (fun e=>hy (List.mem_cons_of_mem _ e))) ?_ hM hx hn ha
  rw[dZ _ _ _ _ hl,if_neg (fun e=>hy (by rw[e];exact List.mem_cons_self ..))]
  exact hL
structure BIn (M L:List Int) (a b:Nat) (q:List Nat) (u k:Nat):Prop where
 len:L.length=14
 nn:∀x,x<14->0<=L.getD x 0/\L.getD x 0<=14
 la:L.getD a 0=(a:Int)+1
 lb:L.getD b 0=0
 way:∀x,x<14->0<L.getD x 0->∃ps,Way M L a x ps/\∀y∈ps,0<L.getD y 0
 que:∀x∈q,x<14/\0<L.getD x 0
 clo:∀x,x<14->0<L.getD x 0->x∉q->∀y,y<14->(x=u->y<k)->gM M x y≠0->0<L.getD y 0
theorem GW{M L:List Int}{a b u k:Nat}{q:List Nat}(h:BIn M L a b q u k)(hk:0<L.getD k 0\/gM M u k=0):BIn M L a b q u (k+1):=
 ⟨h.len,h.nn,h.la,h.lb,h.way,h.que,fun x hx hp hq y hy hu hm=>by
  by_cases e:x=u/\y=k
  ·obtain⟨rfl,rfl⟩:=e
   rcases hk with hk|hk
   ·exact hk
   ·exact absurd hk hm
  ·exact h.clo x hx hp hq y hy (fun e'=>by have:=hu e';have:y≠k:=fun e2=>e ⟨e',e2⟩;omega) hm⟩
theorem DA{M L:List Int}{a b u k x:Nat}{q:List Nat}(h:BIn M L a b q u k)(ha:a<14)(hu:u<14)(hup:0<L.getD u 0)(hx:x<14)(hx0:L.getD x 0=0)(hm:0<gM M u x):
  ∃ps,Way M (L.set x ((u:Int)+1)) a x (u::ps)/\∀y∈u::ps,0<L.getD y 0:=by
 obtain⟨ps,hw,hp⟩:=h.way u hu hup;have hall:∀y∈u::ps,0<L.getD y 0:=fun y hy=>by
  rcases List.mem_cons.1 hy with rfl|hy
  ·exact hup
  ·exact hp y hy
 have hn:x∉u::ps:=fun e=>by have:=hall x e;omega
 refine⟨ps,.step x u ps (IL (by rw[h.len];exact hx) hw hn) ?_ hm hx hn ?_,hall⟩
 ·rw[dZ _ _ _ _ (by rw[h.len];exact hx),if_pos rfl]
 ·intro e
  subst e;have:=h.la
  omega
theorem Ny{M L:List Int}{a b u k:Nat}{q:List Nat}(h:BIn M L a b q u k)(ha:a<14)(hu:u<14)(hup:0<L.getD u 0)(hk:k<14)(hk0:L.getD k 0=0)(hm:0<gM M u k)(hkb:k≠b):
  BIn M (L.set k ((u:Int)+1)) a b (q++[k]) u (k+1):=by
 have hg:∀x,(L.set k ((u:Int)+1)).getD x 0=if x=k then(u:Int)+1 else L.getD x 0:=fun x=>dZ _ _ _ _ (by rw[h.len];exact hk)
 have hge:∀x,0<L.getD x 0->0<(L.set k ((u:Int)+1)).getD x 0:=fun x hx=>by
  rw[hg];split<;>omega
 obtain⟨psk,hwk,hpk⟩:=DA h ha hu hup hk hk0 hm;refine⟨by rw[List.length_set];exact h.len,fun x hx=>?_,?_,?_,fun x hx hp=>?_,fun x hx=>?_,fun x hx hp hq y hy hyu hm'=>?_⟩
 ·rw[hg];have:=h.nn x hx;split<;>omega
 ·rw[hg,if_neg (fun e=>by have:=h.la;rw[e]at this;omega)];exact h.la
 ·rw[hg,if_neg (fun e=>hkb e.symm)];exact h.lb
 ·by_cases e:x=k
  ·subst e
   exact⟨u::psk,hwk,fun y hy=>hge y (hpk y hy)⟩
  ·rw[hg,if_neg e]at hp
   obtain⟨ps,hw,hpp⟩:=h.way x hx hp;refine⟨ps,IL (by rw[h.len];exact hk) hw (fun hmem=>?_),fun y hy=>hge y (hpp y hy)⟩
   rcases List.mem_cons.1 hmem with e2|e2
   ·exact e e2.symm
   ·have:=hpp k e2;omega
 ·rcases List.mem_append.1 hx with hx|hx
  ·exact⟨(h.que x hx).1,hge x (h.que x hx).2⟩
  ·rw[List.mem_singleton]at hx
   subst hx;refine⟨hk,?_⟩
   rw[hg,if_pos rfl];omega
 ·have hxk:x≠k:=fun e=>hq (List.mem_append.2 (.inr (by rw[e];exact List.mem_singleton.2 rfl)))
  rw[hg,if_neg hxk]at hp;by_cases e:y=k
  ·rw[hg,if_pos e];omega
  ·exact hge y (h.clo x hx hp (fun e'=>hq (List.mem_append.2 (.inl e'))) y hy (fun e'=>by have:=hyu e';omega) hm')
def iV(L:List Int):Nat:=L.countP (fun x=>decide (x=0))
theorem wn:∀(L:List Int) (k:Nat) (v:Int),k<L.length->L.getD k 0=0->v≠0->iV (L.set k v)+1=iV L
 |[],k,v,h,_,_=>by simp at h
 |x::L,0,v,_,h0,hv=>by
  have hx:x=0:=by simpa using h0
  subst hx;show iV (v::L)+1=iV (0::L)
  unfold iV;rw[List.countP_cons,List.countP_cons];simp[hv]
 |x::L,k+1,v,h,h0,hv=>by
  have:=wn L k v (by simpa using h) (by simpa using h0) hv
  show iV (x::L.set k v)+1=iV (x::L)
  unfold iV at this⊢
  rw[List.countP_cons,List.countP_cons];omega
def xy(M:List Int)(e:Ed):List Int:=nA M e.f.toNat e.t.toNat (gM M e.f.toNat e.t.toNat+e.c)
def cm(es:List Ed):List Int:=es.foldl xy (List.replicate 196 0)
def lA(c d:Nat):List Ed->Int
 |[]=>0
 |e::es=>(if e.f=(c:Int)/\e.t=(d:Int)then e.c else 0)+lA c d es
theorem Fu(es:List Ed)(e:Ed):cm (es++[e])=xy (cm es) e:=by unfold cm;rw[List.foldl_append];rfl
theorem I4(es:List Ed):(cm es).length=196:=by
 unfold cm;suffices ∀(es:List Ed) (M:List Int),M.length=196->(es.foldl xy M).length=196 from this es _ (by rw[List.length_replicate])
 intro es;induction es with
 |nil=>intro M h;exact h
 |cons e es ih=>intro M h;exact ih _ (by unfold xy;rw[iS];exact h)
theorem IM{N:Int}(hN:N<=14)(c d:Nat)(hd:d<14):∀(es:List Ed) (M:List Int),(∀e∈es,EdV N e)->M.length=196->gM (es.foldl xy M) c d=gM M c d+lA c d es
 |[],M,_,_=>by simp[lA]
 |e::es,M,h,hl=>by
  obtain⟨f0,f1,t0,t1,_,c0,c1⟩:=h e (List.mem_cons_self ..);rw[List.foldl_cons,IM hN c d hd es (xy M e) (fun x hx=>h x (List.mem_cons_of_mem _ hx)) (by unfold xy;rw[iS];exact hl)]
  unfold xy;rw[wW hl (by omega) (by omega) hd]
  simp only[lA];by_cases hh:c=e.f.toNat/\d=e.t.toNat
  ·rw[if_pos hh,if_pos (by omega),hh.1,hh.2];omega
  ·rw[if_neg hh,if_neg (fun hx=>hh (by omega))];omega
theorem kv{N:Int}{es:List Ed}(hN:N<=14)(h:∀e∈es,EdV N e)(c d:Nat)(hd:d<14):gM (cm es) c d=lA c d es:=by
 unfold cm;rw[IM hN c d hd es _ h (by rw[List.length_replicate])]
 have:gM (List.replicate 196 0) c d=0:=by
  unfold gM;rw[List.getD_eq_getElem?_getD,List.getElem?_replicate];split<;>rfl
 omega
theorem tP{N:Int}{es:List Ed}(h:∀e∈es,EdV N e)(c d:Nat):0<=lA c d es/\lA c d es<=10000*es.length:=by
 induction es with
 |nil=>simp[lA]
 |cons e es ih=>
  have h1:=ih (fun x hx=>h x (List.mem_cons_of_mem _ hx))
  obtain⟨_,_,_,_,_,h2,h3⟩:=h e (List.mem_cons_self ..);simp only[lA,List.length_cons];split<;>omega
theorem B9{N:Int}{es:List Ed}(h:∀e∈es,EdV N e)(c d:Nat):0<lA c d es↔∃e∈es,e.f=(c:Int)/\e.t=(d:Int)/\0<e.c:=by
 induction es with
 |nil=>simp[lA]
 | cons e es ih=>
  have hv:∀x∈es,EdV N x:=fun x hx=>h x (List.mem_cons_of_mem _ hx)
  have h1:=tP hv c d;have h4:=ih hv;obtain⟨_,_,_,_,_,h2,h3⟩:=h e (List.mem_cons_self ..);simp only[lA];constructor
  ·intro hp
   by_cases he:e.f=(c:Int)/\e.t=(d:Int)/\0<e.c
   ·exact⟨e,List.mem_cons_self ..,he⟩
   ·obtain⟨x,hx,h5⟩:=h4.1 (by
     split at hp
     ·rename_i hh
      have:¬0<e.c:=fun hc=>he ⟨hh.1,hh.2,hc⟩
      omega
     ·omega)
    exact⟨x,List.mem_cons_of_mem _ hx,h5⟩
  ·rintro ⟨x,hx,hf,ht,hc⟩
   rcases List.mem_cons.1 hx with rfl|hx
   ·rw[if_pos ⟨hf,ht⟩];omega
   ·have:=h4.2 ⟨x,hx,hf,ht,hc⟩
    split<;>omega
theorem I7{N:Int}{es:List Ed}(h:∀e∈es,EdV N e)(c d:Nat)(hcd:N<=(c:Int)\/N<=(d:Int)):lA c d es=0:=by
 have h1:=tP h c d;by_cases hp:0<lA c d es
 ·exfalso
  obtain⟨e,he,hf,ht,hc⟩:=(B9 h c d).1 hp;obtain⟨a1,a2,a3,a4,a5,a6,a7⟩:=h e he;rw[hf]at a2;rw[ht]at a4;omega
 ·omega
theorem Dv{L:List Int}{es:List Ed}{N:Int}{a x:Nat}{ps:List Nat}(hN:N<=14)(hv:∀e∈es,EdV N e)(h:Way (cm es) L a x ps):Reach es (a:Int) (x:Int):=by
 induction h with
 |here=>exact .here
 |step x p ps h hL hM hx hn ha ih=>
  rw[kv hN hv p x hx]at hM;obtain⟨e,he,hf,ht,hc⟩:=(B9 hv p x).1 hM;rw[<-ht];exact .step _ e ih he hf hc
structure PInv (es:List Ed) (a b:Nat) (M:List Int) (value:Int):Prop where
 kept:Kept (cm es) M
 sums:∀v,v<14->rs M v=rs (cm es) v+(if v=b then value else 0)-(if v=a then value else 0)
 val:(value=0/\M=cm es)\/(0<value/\Reach es (a:Int) (b:Int))
theorem uO{es:List Ed}{N:Int}(hN:N<=14)(hv:∀e∈es,EdV N e)(a b:Nat):PInv es a b (cm es) 0:=
 ⟨⟨I4 es,fun c d _ hd=>by rw[kv hN hv c d hd];exact(tP hv c d).1,fun _ _ _ _=>rfl⟩,fun v _=>by split<;>split<;>omega,.inl ⟨rfl,rfl⟩⟩
theorem CN{es:List Ed}{N:Int}(hN:N<=14)(hv:∀e∈es,EdV N e)(hl:es.length<=40){a b:Nat}{M:List Int}{value:Int}(h:PInv es a b M value)(c d:Nat)(hc:c<14)(hd:d<14):0<=gM M c d/\gM M c d+gM M d c<=800000:=by
 refine⟨h.kept.pos c d hc hd,?_⟩
 rw[h.kept.two c d hc hd,kv hN hv c d hd,kv hN hv d c hc];have h1:=tP hv c d;have h2:=tP hv d c;omega
theorem CE{f:Nat->Int}{B:Int}:∀(k:Nat),(∀i,i<k->f i<=B)->lW k f<=k*B
 |0,_=>by simp[lW]
 |k+1,h=>by
  have h1:=CE k (fun i hi=>h i (by omega))
  have h2:=h k (by omega)
  simp only[lW];rw[show((k+1:Nat):Int)*B=(k:Int)*B+B by rw[Int.natCast_add,Int.add_mul];simp]
  omega
theorem tT{es:List Ed}{N:Int}(hN:N<=14)(hv:∀e∈es,EdV N e)(hl:es.length<=40){a b:Nat}(ha:a<14)(hab:a≠b){M:List Int}{value:Int}(h:PInv es a b M value):0<=rs M a/\rs M a<=11200000/\0<=value/\value<=11200000/\value=rs (cm es) a-rs M a:=by
 have h1:0<=rs M a:=GX 14 (fun i hi=>h.kept.pos a i ha hi)
 have h2:rs M a<=14*800000:=CE 14 (fun i hi=>by
  have:=CN hN hv hl h a i ha hi
  have:=h.kept.pos i a hi ha
  omega)
 have h3:rs (cm es) a<=14*800000:=CE 14 (fun i hi=>by
  have:=CN hN hv hl (uO hN hv a b) a i ha hi
  have:=(uO hN hv a b).kept.pos i a hi ha
  omega)
 have h4:=h.sums a ha;rw[if_neg hab,if_pos rfl]at h4;rcases h.val with⟨h5,_⟩|⟨h5,_⟩<;>omega
theorem DB{es:List Ed}{N:Int}(hN:N<=14)(hv:∀e∈es,EdV N e){a b:Nat}(ha:a<14)(hab:a≠b){M L:List Int}{value r:Int}{ps:List Nat}(h:PInv es a b M value)(hw:Way M L a b ps)(hr:0<r):
  PInv es a b (oH (fc M b ps r) b ps M) (value+fc M b ps r)/\rs (oH (fc M b ps r) b ps M) a<rs M a:=by
 obtain⟨g1,g2⟩:=yR hw r hr;obtain⟨k,s⟩:=Nw hw ha (fc M b ps r) r M hr (Int.le_refl _) (by omega) h.kept.len h.kept.pos (fun _ _ _ _=>rfl)
 refine⟨⟨⟨k.len,k.pos,fun c d hc hd=>by rw[k.two c d hc hd,h.kept.two c d hc hd]⟩,fun v hv'=>?_,.inr ⟨?_,?_⟩⟩,?_⟩
 ·rw[s v hv',h.sums v hv']
  by_cases e1:v=b
  ·by_cases e2:v=a
   ·exact absurd (e2.symm.trans e1) hab
   ·rw[if_pos e1,if_pos e1,if_pos e1,if_neg e2,if_neg e2,if_neg e2];omega
  ·by_cases e2:v=a
   ·rw[if_neg e1,if_neg e1,if_neg e1,if_pos e2,if_pos e2,if_pos e2];omega
   ·rw[if_neg e1,if_neg e1,if_neg e1,if_neg e2,if_neg e2,if_neg e2];omega
 ·rcases h.val with⟨h5,_⟩|⟨h5,_⟩<;>omega
 ·rcases h.val with⟨_,h5⟩|⟨_,h5⟩
  ·rw[h5]at hw
   exact Dv hN hv hw
  ·exact h5
 ·rw[s a ha,if_neg hab,if_pos rfl];omega
end Go.Dial.Flo
namespace Go.Dial.Rou
abbrev at_(h:List Int)(i:Int):Int:=h.getD i.toNat 0
def HoV(h:List Int):Prop:=1<=h.length/\h.length<=30/\∀x∈h,-1<=x/\x<=7
instance (h:List Int):Decidable (HoV h):=by unfold HoV;infer_instance
def Con(h:List Int)(c:Int)(j:Nat):Prop:=h.getD j 0≠h.getD (j-1) 0/\(h.getD j 0=c\/h.getD (j-1) 0=c)
instance (h:List Int) (c:Int) (j:Nat):Decidable (Con h c j):=by unfold Con;infer_instance
def KnV(h:List Int)(lag:Int)(c:Int)(v:Int):Prop:= -1<=v/\v<=h.length-1/\(0<=v->(h.length:Int)-1-lag<=v/\∀j∈List.range h.length,1<=j->Con h c j->(j:Int)<=v)
instance (h:List Int) (lag c v:Int):Decidable (KnV h lag c v):=by unfold KnV;infer_instance
def RoV(h k:List Int)(lag:Int):Prop:=HoV h/\k.length=8/\0<=lag/\lag<=10/\∀c∈List.range 8,KnV h lag (c:Int) (k.getD c 0)
instance (h k:List Int) (lag:Int):Decidable (RoV h k lag):=by unfold RoV;infer_instance
def dec(h k:List Int)(c u:Int):Int×Int×Int:=
 let w:=max (at_ k c) u
 if at_ h w=c then(w,-1,1)else if at_ h w<0 then(w,-1,2)else if at_ k (at_ h w)<0 then(w,-1,3)else(w,at_ h w,0)
def jT(h k:List Int):Nat->Int->Int->List (Int×Int)×Int
 |0,_,_=>([],0)
 |m+1,c,u=>
  let d:=dec h k c u
  if d.2.2≠0 then([(c,d.1)],d.2.2)else((c,d.1)::(jT h k m d.2.1 d.1).1,(jT h k m d.2.1 d.1).2)
def xp(h k:List Int)(lag c:Int):Prop:=RoV h k lag/\0<=c/\c<=7/\0<=at_ k c
instance (h k:List Int) (lag c:Int):Decidable (xp h k lag c):=by unfold xp;infer_instance
def yl(h k:List Int)(c:Int):List (Int×Int)×Int:=jT h k 40 c (-1)
def BF(h k:List Int)(lag c:Int):(List (Int×Int)×Int)×Int:=if xp h k lag c then(yl h k c,0)else(([],0),240)
theorem DH{h k:List Int}{lag c u:Int}(hv:RoV h k lag)(hc:0<=c/\c<=7)(hk:0<=at_ k c)(hu:u<=h.length-1):
  0<=(dec h k c u).1/\(dec h k c u).1<=h.length-1/\u<=(dec h k c u).1/\at_ k c<=(dec h k c u).1/\(dec h k c u).1=max (at_ k c) u:=by
 obtain⟨_,hl,_,_,hkn⟩:=hv;have h1:=hkn c.toNat (List.mem_range.2 (by omega))
 have h2:k.getD c.toNat 0=at_ k c:=rfl
 rw[h2]at h1;have hd:(dec h k c u).1=max (at_ k c) u:=by
  unfold dec;dsimp only;split
  ·rfl
  ·split
   ·rfl
   ·split<;>rfl
 have hm:=h1.2.1;rw[hd];omega
theorem Dj(h k:List Int)(c u:Int):let w:=max (at_ k c) u
  (at_ h w=c/\dec h k c u=(w,-1,1))\/(at_ h w≠c/\at_ h w<0/\dec h k c u=(w,-1,2))\/(at_ h w≠c/\0<=at_ h w/\at_ k (at_ h w)<0/\dec h k c u=(w,-1,3))\/(at_ h w≠c/\0<=at_ h w/\0<=at_ k (at_ h w)/\dec h k c u=(w,at_ h w,0)):=by
 intro w;unfold dec;by_cases h1:at_ h (max (at_ k c) u)=c
 ·left;exact⟨h1,by simp only[if_pos h1];rfl⟩
 ·right
  by_cases h2:at_ h (max (at_ k c) u)<0
  ·left;exact⟨h1,h2,by simp only[if_neg h1,if_pos h2];rfl⟩
  ·right
   by_cases h3:at_ k (at_ h (max (at_ k c) u))<0
   ·left;exact⟨h1,Int.not_lt.1 h2,h3,by simp only[if_neg h1,if_neg h2,if_pos h3];rfl⟩
   ·right;exact⟨h1,Int.not_lt.1 h2,Int.not_lt.1 h3,by simp only[if_neg h1,if_neg h2,if_neg h3];rfl⟩
theorem Kz{h:List Int}{i:Int}(h0:0<=i)(h1:i<h.length):at_ h i∈h:=by
 unfold at_;rw[List.getD_eq_getElem?_getD,List.getElem?_eq_getElem (by omega)]
 exact List.getElem_mem _
open Go.Sx
theorem oQ(a b:Int):aU a b=max a b:=by unfold aU;omega
def ck(h:List Int)(lag c:Int):Nat->Int
 |0=>max 0 ((h.length:Int)-1-lag)
 |j+1=>if 1<=j/\Con h c j then max (ck h lag c j) (j:Int)else ck h lag c j
theorem A4{h:List Int}{lag c v:Int}:∀m:Nat,ck h lag c m<=v↔(0<=v/\(h.length:Int)-1-lag<=v/\∀j:Nat,j<m->1<=j->Con h c j->(j:Int)<=v)
 |0=>by
  simp only[ck];constructor
  ·intro hh;exact⟨by omega,by omega,fun j hj=>by omega⟩
  ·rintro ⟨h1,h2,_⟩;omega
 | m+1=>by
  have ih:=A4 (h:=h) (lag:=lag) (c:=c) (v:=v) m;simp only[ck];split
  ·rename_i hc
   rw[show max (ck h lag c m) (m:Int)<=v↔(ck h lag c m<=v/\(m:Int)<=v) by omega,ih]
   constructor
   ·rintro ⟨⟨h1,h2,h3⟩,h4⟩
    refine⟨h1,h2,fun j hj h5 h6=>?_⟩
    by_cases e:j=m
    ·subst e;exact h4
    ·exact h3 j (by omega) h5 h6
   ·rintro ⟨h1,h2,h3⟩
    exact⟨⟨h1,h2,fun j hj=>h3 j (by omega)⟩,h3 m (by omega) hc.1 hc.2⟩
  ·rename_i hc
   rw[ih];constructor
   ·rintro ⟨h1,h2,h3⟩
    refine⟨h1,h2,fun j hj h5 h6=>?_⟩
    by_cases e:j=m
    ·subst e;exact absurd ⟨h5,h6⟩ hc
    ·exact h3 j (by omega) h5 h6
   ·rintro ⟨h1,h2,h3⟩
    exact⟨h1,h2,fun j hj=>h3 j (by omega)⟩
theorem OJ{h:List Int}{lag c:Int}(m:Nat):0<=ck h lag c m:=((A4 (v:=ck h lag c m) m).1 (Int.le_refl _)).1
theorem IJ{h:List Int}{lag c v:Int}(hl:1<=h.length):KnV h lag c v↔(v= -1\/(ck h lag c h.length<=v/\v<=(h.length:Int)-1)):=by
 unfold KnV;rw[A4];constructor
 ·rintro ⟨h1,h2,h3⟩
  by_cases h0:0<=v
  ·obtain⟨h4,h5⟩:=h3 h0
   exact .inr ⟨⟨h0,h4,fun j hj=>h5 j (List.mem_range.2 hj)⟩,h2⟩
  ·exact .inl (by omega)
 ·rintro (h1|⟨⟨h0,h4,h5⟩,h2⟩)
  ·exact⟨by omega,by omega,fun h0=>by omega⟩
  ·exact⟨by omega,h2,fun _=>⟨h4,fun j hj=>h5 j (List.mem_range.1 hj)⟩⟩
def st1(A:List Int)(c p q v:Int):List Int:=if 0<=c/\q≠p then A.set c.toNat (max (A.getD c.toNat 0) v)else A
theorem yt(A:List Int)(c p q v:Int):(st1 A c p q v).length=A.length:=by unfold st1;split<;>simp
theorem Lh(M:List Int)(i j:Nat)(y:Int)(hi:i<M.length):(M.set i y).getD j 0=if j=i then y else M.getD j 0:=by
 rw[List.getD_eq_getElem?_getD,List.getD_eq_getElem?_getD,List.getElem?_set];by_cases h:i=j
 ·subst h;simp[hi]
 ·rw[if_neg h,if_neg (fun e=>h e.symm)]
theorem IT{A:List Int}{c p q v:Int}{d:Nat}(hl:A.length=8)(hc:c<=7)(hd:d<8):(st1 A c p q v).getD d 0=if(d:Int)=c/\q≠p then max (A.getD d 0) v else A.getD d 0:=by
 unfold st1;by_cases h1:0<=c/\q≠p
 ·rw[if_pos h1,Lh _ _ _ _ (by omega)]
  by_cases h2:d=c.toNat
  ·rw[if_pos h2,if_pos ⟨by omega,h1.2⟩,h2]
  ·rw[if_neg h2,if_neg (fun h=>h2 (by omega))]
 ·rw[if_neg h1,if_neg (fun h=>h1 ⟨by omega,h.2⟩)]
def ld(h:List Int)(lag:Int)(m:Nat):List Int:=(List.range 8).map (fun c:Nat=>ck h lag (c:Int) m)
theorem iz(h:List Int)(lag:Int)(m:Nat):(ld h lag m).length=8:=by unfold ld;rw[List.length_map,List.length_range]
theorem vf(h:List Int)(lag:Int)(m:Nat){c:Nat}(hc:c<8):(ld h lag m).getD c 0=ck h lag (c:Int) m:=by
 unfold ld;rw[List.getD_eq_getElem?_getD,List.getElem?_map,List.getElem?_range hc];rfl
theorem OM{A B:List Int}(ha:A.length=8)(hb:B.length=8)(h:∀d,d<8->A.getD d 0=B.getD d 0):A=B:=by
 refine List.ext_getElem (by omega) (fun d h1 h2=>?_)
 have:=h d (by omega)
 rw[List.getD_eq_getElem?_getD,List.getD_eq_getElem?_getD,List.getElem?_eq_getElem h1,List.getElem?_eq_getElem h2]at this;exact this
theorem Lf{h:List Int}{lag:Int}{v:Nat}(hh:HoV h)(h1:1<=v)(hv:v<h.length):
  st1 (st1 (ld h lag v) (h.getD (v-1) 0) (h.getD (v-1) 0) (h.getD v 0) v) (h.getD v 0) (h.getD (v-1) 0) (h.getD v 0) v=ld h lag (v+1):=by
 have m1:h.getD v 0∈h:=by rw[List.getD_eq_getElem?_getD,List.getElem?_eq_getElem hv];exact List.getElem_mem _
 have m2:h.getD (v-1) 0∈h:=by rw[List.getD_eq_getElem?_getD,List.getElem?_eq_getElem (show v-1<h.length by omega)];exact List.getElem_mem _
 have b1:=hh.2.2 _ m1;have b2:=hh.2.2 _ m2;refine OM (by rw[yt,yt,iz]) (iz ..) (fun d hd=>?_)
 rw[IT (by rw[yt,iz]) b1.2 hd,IT (iz ..) b2.2 hd,vf _ _ _ hd,vf _ _ _ hd]
 simp only[ck];unfold Con;by_cases e1:h.getD v 0=h.getD (v-1) 0
 ·rw[if_neg (fun e=>e.2 e1),if_neg (fun e=>e.2 e1),if_neg (fun e=>e.2.1 e1)]
 ·by_cases e2:(d:Int)=h.getD v 0
  ·rw[if_pos ⟨e2,e1⟩,if_neg (fun e=>e1 (e2.symm.trans e.1)),if_pos ⟨h1,e1,.inl e2.symm⟩]
  ·rw[if_neg (fun e=>e2 e.1)]
   by_cases e3:(d:Int)=h.getD (v-1) 0
   ·rw[if_pos ⟨e3,e1⟩,if_pos ⟨h1,e1,.inr e3.symm⟩]
   ·rw[if_neg (fun e=>e3 e.1),if_neg (fun e=>(e.2.2).elim (fun e=>e2 e.symm) (fun e=>e3 e.symm))]
theorem Og(h:List Int)(lag:Int):ld h lag 1=List.replicate 8 (max 0 ((h.length:Int)-1-lag)):=by
 refine OM (iz ..) (by rw[List.length_replicate]) (fun d hd=>?_)
 rw[vf _ _ _ hd,List.getD_eq_getElem?_getD,List.getElem?_replicate,if_pos hd];simp only[ck];rw[if_neg (fun e=>by omega)]
 rfl
theorem KY{h k:List Int}{lag:Int}(hh:HoV h)(hk:k.length=8)(h0:0<=lag)(h1:lag<=10)(hx:∀c:Nat,c<8->(k.getD c 0= -1\/(ck h lag (c:Int) h.length<=k.getD c 0/\k.getD c 0<=(h.length:Int)-1))):RoV h k lag:=
 ⟨hh,hk,h0,h1,fun c hc=>(IJ hh.1).2 (hx c (List.mem_range.1 hc))⟩
structure PthV (h k:List Int) (c0:Int) (l:List (Int×Int)) (e:Int):Prop where
 ne:l≠[]
 first:∀x,l.head?=some x->x.1=c0
 bd:∀x∈l,0<=x.1/\x.1<=7/\0<=x.2/\x.2<=(h.length:Int)-1/\at_ k x.1<=x.2/\0<=at_ k x.1
 two:∀(i:Nat) x y,l[i]?=some x->l[i+1]?=some y->y.1=at_ h x.2/\x.2<=y.2/\at_ h x.2≠x.1/\at_ h x.2≠ -1
 last:∀x,l.getLast?=some x->(e=1↔at_ h x.2=x.1)/\(e=2↔at_ h x.2<0)
 ends:1<=e/\e<=3
theorem L0{h k:List Int}{lag:Int}(hv:RoV h k lag):∀(m:Nat) (c u:Int),0<=c->c<=7->0<=at_ k c-> -1<=u->u<=h.length-1->(0<=u->at_ h u=c)->(h.length:Int)-u<m →
  PthV h k c (jT h k m c u).1 (jT h k m c u).2/\((jT h k m c u).1.length:Int)<=(h.length:Int)-u/\(∀x,(jT h k m c u).1.head?=some x->u<=x.2):=by
 intro m;induction m with
 |zero=>intro c u _ _ _ _ _ _ hm;omega
 | succ m ih=>
  intro c u hc0 hc7 hk hu0 hu1 hhu hm;obtain⟨r1,r2,r3,r4,r5⟩:=DH hv ⟨hc0,hc7⟩ hk hu1;have single:∀w e:Int,1<=e->e<=3->w=max (at_ k c) u->((e=1↔at_ h w=c)/\(e=2↔at_ h w<0))->PthV h k c [(c,w)] e/\(([(c,w)]:List (Int×Int)).length:Int)<=(h.length:Int)-u/\(∀x,([(c,w)]:List (Int×Int)).head?=some x->u<=x.2):=by
   intro w e he1 he3 hw hl;rw[r5]at r1 r2;refine⟨⟨by simp,fun x hx=>?_,fun x hx=>?_,fun i x y h1 h2=>?_,fun x hx=>?_,he1,he3⟩,?_,fun x hx=>?_⟩
   ·cases hx;rfl
   ·rw[List.mem_singleton]at hx;subst hx
    exact⟨hc0,hc7,by dsimp only;omega,by dsimp only;omega,by dsimp only;omega,hk⟩
   ·simp at h2
   ·cases hx;exact hl
   ·simp only[List.length_singleton];omega
   ·cases hx;dsimp only;omega
  simp only[jT];rcases Dj h k c u with⟨h1,hd⟩|⟨h1,h2,hd⟩|⟨h1,h2,h3,hd⟩|⟨h1,h2,h3,hd⟩
  ·rw[hd]
   dsimp only;rw[if_pos (show(1:Int)≠0 by decide)]
   exact single _ 1 (by decide) (by decide) rfl ⟨⟨fun _=>h1,fun _=>rfl⟩,⟨fun h=>by omega,fun h=>by omega⟩⟩
  ·rw[hd]
   dsimp only;rw[if_pos (show(2:Int)≠0 by decide)]
   exact single _ 2 (by decide) (by decide) rfl ⟨⟨fun h=>by omega,fun h=>absurd h h1⟩,⟨fun _=>h2,fun _=>rfl⟩⟩
  ·rw[hd]
   dsimp only;rw[if_pos (show(3:Int)≠0 by decide)]
   exact single _ 3 (by decide) (by decide) rfl ⟨⟨fun h=>by omega,fun h=>absurd h h1⟩,⟨fun h=>by omega,fun h=>by omega⟩⟩
  ·rw [hd]
   dsimp only;rw[if_neg (show ¬(0:Int)≠0 by decide)]
   rw[hd]at r1 r2 r3;dsimp only at r1 r2 r3
   have hlt:u<max (at_ k c) u:=by
    by_cases e:0<=u
    ·have:=hhu e
     by_cases e2:max (at_ k c) u=u
     ·rw[e2]at h1;exact absurd this h1
     ·omega
    ·omega
   have hmem:=hv.1.2.2 _ (Kz r1 (by omega))
   obtain⟨i1,i2,i3⟩:=ih _ _ h2 hmem.2 h3 (by omega) r2 (fun _=>rfl) (by omega)
   generalize hP:(jT h k m (at_ h (max (at_ k c) u)) (max (at_ k c) u))=P at i1 i2 i3
   generalize hw:max (at_ k c) u=w at *
   obtain⟨l,e⟩:=P;dsimp only at i1 i2 i3⊢
   cases l with
   |nil=>exact absurd rfl i1.ne
   | cons z l=>
    have hz:=i1.first z rfl;have hz2:=i3 z rfl;refine⟨⟨by simp,fun x hx=>?_,fun x hx=>?_,fun i x y hx hy=>?_,fun x hx=>?_,i1.ends⟩,?_,fun x hx=>?_⟩
    ·cases hx;rfl
    ·rcases List.mem_cons.1 hx with rfl|hx
     ·exact⟨hc0,hc7,r1,r2,by dsimp only;omega,hk⟩
     ·exact i1.bd x hx
    ·cases i with
     |zero=>
      cases hx
      cases hy
      exact⟨hz,hz2,h1,by dsimp only;omega⟩
     |succ i=>exact i1.two i x y hx hy
    ·rw[List.getLast?_cons_cons]at hx
     exact i1.last x hx
    ·simp only[List.length_cons]at i2⊢;omega
    ·cases hx;dsimp only;omega
theorem LX{h k:List Int}{lag c:Int}(hv:xp h k lag c):PthV h k c (yl h k c).1 (yl h k c).2/\(yl h k c).1.length<=31:=by
 have hl:=hv.1.1.2.1;have h1:=hv.1.1.1;obtain⟨i1,i2,_⟩:=L0 hv.1 40 c (-1) hv.2.1 hv.2.2.1 hv.2.2.2 (by omega) (by omega) (fun h=>by omega) (by omega)
 exact⟨i1,by unfold yl;omega⟩
end Go.Dial.Rou
namespace Go.Sx
open Go
abbrev r2(p:(Int×Int)×Int):List AV:=[.int p.1.1,.int p.1.2,.int p.2]
abbrev r1(p:Int×Int):List AV:=[.int p.1,.int p.2]
def jn{α:Type}[DecidableEq α](k:α)(x:Int):List (α×Int)->List (α×Int)
 |[]=>[(k,x)]
 |p::l=>if p.1=k then(k,x)::l else p::jn k x l
def dd{α:Type}[DecidableEq α](k:α):List (α×Int)->Option Int
 |[]=>none
 |p::l=>if p.1=k then some p.2 else dd k l
theorem FK{α:Type}[DecidableEq α](k k':α)(x:Int)(l:List (α×Int)):dd k' (jn k x l)=if k'=k then some x else dd k' l:=by
 induction l with
 |nil=>
  by_cases h:k'=k
  ·subst h;simp[jn,dd]
  ·simp[jn,dd,h,Ne.symm h]
 | cons p l ih=>
  by_cases hp:p.1=k
  ·simp only[jn,if_pos hp,dd]
   by_cases h:k'=k
   ·subst h;simp
   ·rw[if_neg (Ne.symm h),if_neg h,if_neg (by rw[hp];exact Ne.symm h)]
  ·simp only[jn,if_neg hp,dd]
   by_cases h2:p.1=k'
   ·rw[if_pos h2,if_pos h2,if_neg (fun h=>hp (h2.trans h))]
   ·rw[if_neg h2,if_neg h2,ih]
theorem oM(a b c d y:Int):bZ [.int a,.int b] (r2 ((c,d),y))=decide ((c,d)=(a,b)):=by
 show(decide (a=c)&&(decide (b=d)&&true))=_
 by_cases h1:a=c
 ·by_cases h2:b=d
  ·subst h1 h2;simp
  ·have:¬(c,d)=(a,b):=fun h=>h2 (by cases h;rfl)
   simp[h2,this]
 ·have:¬(c,d)=(a,b):=fun h=>h1 (by cases h;rfl)
  simp[h1,this]
theorem yE(a c y:Int):bZ [.int a] (r1 (c,y))=decide (c=a):=by
 show(decide (a=c)&&true)=_
 by_cases h1:a=c
 ·subst h1;simp
 ·have:¬c=a:=fun h=>h1 h.symm
  simp[h1,this]
theorem Pp(a b x:Int)(l:List ((Int×Int)×Int)):d8 [.int a,.int b] (.int x) (l.map r2)=(jn (a,b) x l).map r2:=by
 induction l with
 |nil=>rfl
 | cons p l ih=>
  obtain⟨⟨c,d⟩,y⟩:=p;by_cases h:(c,d)=(a,b)
  ·have hk:bZ [.int a,.int b] (r2 ((c,d),y))=true:=by rw[oM];exact decide_eq_true h
   simp only[List.map_cons,d8,hk,cond_true,jn,if_pos h];rfl
  ·have hk:bZ [.int a,.int b] (r2 ((c,d),y))=false:=by rw[oM];exact decide_eq_false h
   simp only[List.map_cons,d8,hk,cond_false,jn,if_neg h,ih]
theorem JP(a b:Int)(l:List ((Int×Int)×Int)):de [.int a,.int b] (l.map r2)=(dd (a,b) l).isSome:=by
 induction l with
 |nil=>rfl
 | cons p l ih=>
  obtain⟨⟨c,d⟩,y⟩:=p;by_cases h:(c,d)=(a,b)
  ·have hk:bZ [.int a,.int b] (r2 ((c,d),y))=true:=by rw[oM];exact decide_eq_true h
   simp only[List.map_cons,de,hk,dd,if_pos h];rfl
  ·have hk:bZ [.int a,.int b] (r2 ((c,d),y))=false:=by rw[oM];exact decide_eq_false h
   simp only[List.map_cons,de,hk,Bool.false_or,dd,if_neg h,ih]
theorem MX(a b:Int)(l:List ((Int×Int)×Int)):bO [.int a,.int b] (l.map r2)=(dd (a,b) l).getD 0:=by
 induction l with
 |nil=>rfl
 | cons p l ih=>
  obtain⟨⟨c,d⟩,y⟩:=p;by_cases h:(c,d)=(a,b)
  ·have hk:bZ [.int a,.int b] (r2 ((c,d),y))=true:=by rw[oM];exact decide_eq_true h
   simp only[List.map_cons,bO,hk,cond_true,dd,if_pos h];rfl
  ·have hk:bZ [.int a,.int b] (r2 ((c,d),y))=false:=by rw[oM];exact decide_eq_false h
   simp only[List.map_cons,bO,hk,cond_false,dd,if_neg h,ih]
theorem PA(a x:Int)(l:List (Int×Int)):d8 [.int a] (.int x) (l.map r1)=(jn a x l).map r1:=by
 induction l with
 |nil=>rfl
 | cons p l ih=>
  obtain⟨c,y⟩:=p;by_cases h:c=a
  ·have hk:bZ [.int a] (r1 (c,y))=true:=by rw[yE];exact decide_eq_true h
   simp only[List.map_cons,d8,hk,cond_true,jn,if_pos h];rfl
  ·have hk:bZ [.int a] (r1 (c,y))=false:=by rw[yE];exact decide_eq_false h
   simp only[List.map_cons,d8,hk,cond_false,jn,if_neg h,ih]
theorem MP(a:Int)(l:List (Int×Int)):bO [.int a] (l.map r1)=(dd a l).getD 0:=by
 induction l with
 |nil=>rfl
 | cons p l ih=>
  obtain⟨c,y⟩:=p;by_cases h:c=a
  ·have hk:bZ [.int a] (r1 (c,y))=true:=by rw[yE];exact decide_eq_true h
   simp only[List.map_cons,bO,hk,cond_true,dd,if_pos h];rfl
  ·have hk:bZ [.int a] (r1 (c,y))=false:=by rw[yE];exact decide_eq_false h
   simp only[List.map_cons,bO,hk,cond_false,dd,if_neg h,ih]
end Go.Sx
namespace Go.Dial.Fwd
open Go.Sx
structure Se where
 n:Int
 k:Int
 t:Int
 f:Int
 u:Int
 deriving DecidableEq
structure Co where
 n:Int
 k:Int
 deriving DecidableEq
def SeF(s:Se):Prop:=0<=s.n/\s.n<=99999999/\0<=s.t/\s.t<=99999999/\s.n≠s.t/\1<=s.k/\s.k<=4/\0<=s.f/\s.f<s.u/\s.u<=10000001
instance (s:Se):Decidable (SeF s):=by unfold SeF;infer_instance
def fh(a b:Se):Prop:=a.n=b.n/\a.k=b.k/\a.f<b.u/\b.f<a.u
instance (a b:Se):Decidable (fh a b):=by unfold fh;infer_instance
def gC:List Se->List Se->Prop
 |_,[]=>True
 |done,s::l=>SeF s/\(∀r∈done,¬fh r s)/\gC (done++[s]) l
def Lk:∀(done l:List Se),Decidable (gC done l)
 |_,[]=>.isTrue trivial
 |done,s::l=>
  have:=Lk (done++[s]) l
  inferInstanceAs (Decidable (SeF s/\(∀r∈done,¬fh r s)/\gC (done++[s]) l))
instance (done l:List Se):Decidable (gC done l):=Lk done l
def p8(l:List Se):Prop:=l.length<=40/\gC [] l
instance (l:List Se):Decidable (p8 l):=by unfold p8;infer_instance
def gr:Int->List Co->Prop
 |_,[]=>True
 |last,c::l=>last<c.n/\c.n<=99999999/\2<=c.k/\c.k<=4/\gr c.n l
def KT:∀(last:Int) (l:List Co),Decidable (gr last l)
 |_,[]=>.isTrue trivial
 |last,c::l=>
  have:=KT c.n l
  inferInstanceAs (Decidable (last<c.n/\c.n<=99999999/\2<=c.k/\c.k<=4/\gr c.n l))
instance (last:Int) (l:List Co):Decidable (gr last l):=KT last l
def FwV(l:List Se)(c:List Co):Prop:=p8 l/\c.length<=40/\gr (-1) c
instance (l:List Se) (c:List Co):Decidable (FwV l c):=by unfold FwV;infer_instance
def eK(c:List Co)(n:Int):Int:=
 match c with
 |[]=>0
 |x::c=>if x.n=n then x.k else eK c n
def xv(n k t:Int)(s:Se):Prop:=s.n=n/\s.k=k/\s.f<=t/\t<s.u
instance (n k t:Int) (s:Se):Decidable (xv n k t s):=by unfold xv;infer_instance
def mo(n k t:Int)(l:List Se):Option Nat:=l.findIdx? fun s=>decide (xv n k t s)
def cnt(l:List Se)(c:List Co)(n t:Int):Option Nat:=
 match mo n 1 t l with
 |some i=>some i
 |none=>if 0<eK c n then mo n (eK c n) t l else none
def sJ(l:List Se)(i:Nat):Se:=l.getD i ⟨0,0,0,0,0⟩
def jo(l:List Se)(c:List Co)(t:Int):Nat->Int->List Int->List Int->Int×List Int×List Int
 |0,_,p,u=>(6,p,u)
 | m+1,n,p,u=>
  match cnt l c n t with
  |none=>(if 0<eK c n then eK c n else 1,p,u)
  |some i=>
   if u.length=5 then(6,p,u)else if(sJ l i).t∈p then(5,p++[(sJ l i).t],u++[(i:Int)])else jo l c t m (sJ l i).t (p++[(sJ l i).t]) (u++[(i:Int)])
def BQ(l:List Se)(c:List Co)(n t:Int):Prop:=FwV l c/\0<=n/\n<=99999999/\0<=t/\t<=10000000
instance (l:List Se) (c:List Co) (n t:Int):Decidable (BQ l c n t):=by unfold BQ;infer_instance
def Ht(l:List Se)(c:List Co)(n t:Int):Int×List Int×List Int:=jo l c t 7 n [n] []
def Aq(l:List Se)(c:List Co)(n t:Int):(Int×List Int×List Int)×Int:=if BQ l c n t then(Ht l c n t,0)else((0,[],[]),220)
theorem jY{done l:List Se}(h:gC done l):∀(i:Nat) s,l[i]?=some s->SeF s/\(∀r∈done,¬fh r s)/\∀(j:Nat) r,j<i->l[j]?=some r->¬fh r s:=by
 induction l generalizing done with
 |nil=>intro i s hs;simp at hs
 | cons x l ih=>
  intro i s hs;obtain⟨h1,h2,h3⟩:=h;cases i with
  |zero=>
   simp at hs;subst hs
   exact⟨h1,h2,fun j r hj=>by omega⟩
  | succ i=>
   obtain⟨g1,g2,g3⟩:=ih h3 i s (by simpa using hs)
   refine⟨g1,fun r hr=>g2 r (List.mem_append_left _ hr),fun j r hj hr=>?_⟩
   cases j with
   |zero=>
    simp at hr;subst hr
    exact g2 x (List.mem_append_right _ (List.mem_singleton.2 rfl))
   |succ j=>exact g3 j r (by omega) (by simpa using hr)
theorem MC{l:List Se}(h:gC [] l){n k t:Int}{i j:Nat}{s r:Se}(hi:l[i]?=some s)(hj:l[j]?=some r)(hs:xv n k t s)(hr:xv n k t r):i=j:=by
 obtain⟨a1,a2,a3,a4⟩:=hs;obtain⟨b1,b2,b3,b4⟩:=hr;rcases Nat.lt_trichotomy i j with hij|hij|hij
 ·exact absurd ⟨a1.trans b1.symm,a2.trans b2.symm,by omega,by omega⟩ ((jY h j r hj).2.2 i s hij hi)
 ·exact hij
 ·exact absurd ⟨b1.trans a1.symm,b2.trans a2.symm,by omega,by omega⟩ ((jY h i s hi).2.2 j r hij hj)
def ua(t:Int)(m:List ((Int×Int)×Int))(x:Se×Nat):List ((Int×Int)×Int):=if x.1.f<=t/\t<x.1.u then jn (x.1.n,x.1.k) (x.2:Int) m else m
def kB(t:Int)(l:List Se):List ((Int×Int)×Int):=l.zipIdx.foldl (ua t) []
theorem Di(t:Int)(l:List Se)(s:Se):kB t (l++[s])=ua t (kB t l) (s,l.length):=by
 unfold kB;rw[List.zipIdx_append,List.foldl_append];simp
theorem LI{l:List Se}(h:gC [] l)(t:Int):∀(i:Nat),i<=l.length->∀(n k x:Int),dd (n,k) (kB t (l.take i))=some x↔∃(j:Nat) (s:Se),j<i/\l[j]?=some s/\xv n k t s/\x=(j:Int):=by
 intro i;induction i with
 |zero=>
  intro _ n k x;constructor
  ·intro h;simp[kB,dd]at h
  ·rintro ⟨j,s,hj,_⟩;omega
 | succ i ih=>
  intro hi n k x;obtain⟨s,hs⟩:∃s,l[i]?=some s:=⟨_,List.getElem?_eq_getElem (by omega)⟩
  have ht:l.take (i+1)=l.take i++[s]:=by rw[List.take_add_one,hs];rfl
  have hl:(l.take i).length=i:=by rw[List.length_take];omega
  rw[ht,Di,hl];unfold ua;split
  ·rename_i hh
   rw[FK];split
   ·rename_i hk
    cases hk
    constructor
    ·intro hx
     cases hx
     exact⟨i,s,by omega,hs,⟨rfl,rfl,hh.1,hh.2⟩,rfl⟩
    ·rintro ⟨j,r,hj,hr,hf,rfl⟩
     rw[MC h hr hs hf ⟨rfl,rfl,hh.1,hh.2⟩]
   ·rename_i hk
    rw[ih (by omega)]
    constructor
    ·rintro ⟨j,r,hj,hr,hf,rfl⟩;exact⟨j,r,by omega,hr,hf,rfl⟩
    ·rintro ⟨j,r,hj,hr,hf,rfl⟩
     by_cases e:j=i
     ·subst e
      rw[hs]at hr;cases hr
      exact absurd (by rw[hf.1,hf.2.1]) hk
     ·exact⟨j,r,by omega,hr,hf,rfl⟩
  ·rename_i hh
   rw[ih (by omega)]
   constructor
   ·rintro ⟨j,r,hj,hr,hf,rfl⟩;exact⟨j,r,by omega,hr,hf,rfl⟩
   ·rintro ⟨j,r,hj,hr,hf,rfl⟩
    by_cases e:j=i
    ·subst e
     rw[hs]at hr;cases hr
     exact absurd hf.2.2 hh
    ·exact⟨j,r,by omega,hr,hf,rfl⟩
theorem oo{l:List Se}{n k t:Int}{i:Nat}(h:mo n k t l=some i):∃s,l[i]?=some s/\xv n k t s:=by
 unfold mo at h;rw[List.findIdx?_eq_some_iff_getElem]at h;obtain⟨hi,h1,_⟩:=h;exact⟨_,List.getElem?_eq_getElem hi,of_decide_eq_true h1⟩
theorem JV{l:List Se}{n k t:Int}(h:mo n k t l=none):∀s∈l,¬xv n k t s:=by
 unfold mo at h;rw[List.findIdx?_eq_none_iff]at h;intro s hs hf;have:=h s hs
 simp[hf]at this
theorem Du{l:List Se}(h:gC [] l)(t n k:Int):dd (n,k) (kB t l)=(mo n k t l).map Int.ofNat:=by
 have key:=LI h t l.length (Nat.le_refl _) n k;rw[List.take_length]at key;cases hf:mo n k t l with
 |some i=>
  obtain⟨s,hs,hfit⟩:=oo hf;exact(key _).2 ⟨i,s,(List.getElem?_eq_some_iff.1 hs).1,hs,hfit,rfl⟩
 | none=>
  show _=none
  cases ha:dd (n,k) (kB t l)with
  |none=>rfl
  |some x=>
   obtain⟨j,s,_,hs,hfit,_⟩:=(key x).1 ha;exact absurd hfit (JV hf s (List.mem_of_getElem? hs))
def mm(c:List Co):List (Int×Int):=c.foldl (fun m x=>jn x.n x.k m) []
theorem BT(c:List Co)(x:Co):mm (c++[x])=jn x.n x.k (mm c):=by
 unfold mm;rw[List.foldl_append];rfl
theorem CS{last:Int}{c:List Co}(h:gr last c):∀(i:Nat) x,c[i]?=some x->last<x.n/\2<=x.k/\x.k<=4/\x.n<=99999999/\∀(j:Nat) y,j<i->c[j]?=some y->y.n<x.n:=by
 induction c generalizing last with
 |nil=>intro i x hx;simp at hx
 | cons z c ih=>
  intro i x hx;obtain⟨h1,h2,h3,h4,h5⟩:=h;cases i with
  |zero=>simp at hx;subst hx;exact⟨h1,h3,h4,h2,fun j y hj=>by omega⟩
  |succ i=>
   obtain⟨g1,g2,g3,g4,g5⟩:=ih h5 i x (by simpa using hx)
   refine⟨by omega,g2,g3,g4,fun j y hj hy=>?_⟩
   cases j with
   |zero=>simp at hy;subst hy;exact g1
   |succ j=>exact g5 j y (by omega) (by simpa using hy)
theorem uA(c:List Co)(n:Int):(∃x∈c,x.n=n/\eK c n=x.k)\/((∀x∈c,x.n≠n)/\eK c n=0):=by
 induction c with
 |nil=>exact .inr ⟨fun x hx=>(by cases hx),rfl⟩
 | cons z c ih=>
  by_cases h:z.n=n
  ·exact .inl ⟨z,List.mem_cons_self ..,h,by simp[eK,h]⟩
  ·rcases ih with⟨x,hx,h1,h2⟩|⟨h1,h2⟩
   ·exact .inl ⟨x,List.mem_cons_of_mem _ hx,h1,by simp[eK,h,h2]⟩
   ·refine .inr ⟨fun x hx=>?_,by simp[eK,h,h2]⟩
    rcases List.mem_cons.1 hx with rfl|hx
    ·exact h
    ·exact h1 x hx
theorem Lj(c:List Co)(h:gr (-1) c):∀(i:Nat),i<=c.length->∀(n x:Int),dd n (mm (c.take i))=some x↔∃(j:Nat) (y:Co),j<i/\c[j]?=some y/\y.n=n/\x=y.k:=by
 intro i;induction i with
 |zero=>
  intro _ n x;constructor
  ·intro h;simp[mm,dd]at h
  ·rintro ⟨j,s,hj,_⟩;omega
 | succ i ih=>
  intro hi n x;obtain⟨y,hy⟩:∃y,c[i]?=some y:=⟨_,List.getElem?_eq_getElem (by omega)⟩
  have ht:c.take (i+1)=c.take i++[y]:=by rw[List.take_add_one,hy];rfl
  rw[ht,BT,FK];split
  ·rename_i hk
   subst hk;constructor
   ·intro hx;cases hx;exact⟨i,y,by omega,hy,rfl,rfl⟩
   ·rintro ⟨j,z,hj,hz,hn,rfl⟩
    by_cases e:j=i
    ·subst e;rw[hy]at hz;cases hz;rfl
    ·have:=(CS h i y hy).2.2.2.2 j z (by omega) hz;omega
  ·rename_i hk
   rw[ih (by omega)]
   constructor
   ·rintro ⟨j,z,hj,hz,hn,rfl⟩;exact⟨j,z,by omega,hz,hn,rfl⟩
   ·rintro ⟨j,z,hj,hz,hn,rfl⟩
    by_cases e:j=i
    ·subst e;rw[hy]at hz;cases hz;exact absurd hn.symm hk
    ·exact⟨j,z,by omega,hz,hn,rfl⟩
theorem BL{c:List Co}(h:gr (-1) c)(n:Int):(dd n (mm c)).getD 0=eK c n:=by
 have key:=Lj c h c.length (Nat.le_refl _) n;rw[List.take_length]at key;rcases uA c n with⟨x,hx,h1,h2⟩|⟨h1,h2⟩
 ·obtain⟨j,hj⟩:=List.getElem?_of_mem hx
  rw[(key x.k).2 ⟨j,x,(List.getElem?_eq_some_iff.1 hj).1,hj,h1,rfl⟩,h2];rfl
 ·rw[h2]
  cases ha:dd n (mm c)with
  |none=>rfl
  |some x=>
   obtain⟨j,y,_,hy,hn,_⟩:=(key x).1 ha;exact absurd hn (h1 y (List.mem_of_getElem? hy))
theorem HS{l:List Se}{c:List Co}(h:FwV l c)(n t:Int):
  (cnt l c n t).map Int.ofNat=match dd (n,1) (kB t l)with
   |some x=>some x
   |none=>dd (n,(dd n (mm c)).getD 0) (kB t l):=by
 obtain⟨⟨_,hs⟩,_,hc⟩:=h;rw[Du hs,BL hc,Du hs];unfold cnt;cases mo n 1 t l with
 |some i=>rfl
 | none=>
  simp only[Option.map_none];by_cases h0:0<eK c n
  ·rw[if_pos h0]
  ·rw[if_neg h0]
   have hk:eK c n=0:=by
    rcases uA c n with⟨x,hx,_,h2⟩|⟨_,h2⟩
    ·obtain⟨j,hj⟩:=List.getElem?_of_mem hx
     have:=(CS hc j x hj).2.1;omega
    ·exact h2
   rw[hk];show none=_
   cases hf:mo n 0 t l with
   |none=>rfl
   |some i=>
    obtain⟨s,hs',hfit⟩:=oo hf;have:=(jY hs i s hs').1
    obtain⟨_,_,_,_,_,h6,_⟩:=this;rw[hfit.2.1]at h6;omega
end Go.Dial.Fwd
namespace Go.Dial.Lif
structure Ev where
 k:Int
 a:Int
 h:Int
deriving DecidableEq
structure Ln where
 s:Int
 h:Int
 e:Int
 t:Int
deriving DecidableEq
structure St where
 h:Int
 e:Int
 f:Int
 t:Int
deriving DecidableEq
def first:Ln:=⟨0,-1,0,0⟩
def zero:Ln:=⟨0,0,0,0⟩
def Vld(l:Ln):Prop:=0<=l.s/\l.s<=3/\0<=l.e/\l.e<=1000/\0<=l.t/\l.t<=10000000/\(l.s=0->l.h= -1)/\(l.s≠0->0<=l.h/\l.h<=63/\1<=l.e)
instance (l:Ln):Decidable (Vld l):=by unfold Vld;infer_instance
def pV(l:Ln):Bool:=decide (Vld l)
def kX(k:Int):Prop:=k=1\/k=2
instance (k:Int):Decidable (kX k):=by unfold kX;infer_instance
def Frm(e:Ev):Prop:=1<=e.k/\e.k<=7/\0<=e.a/\e.a<=10000000/\(kX e.k->0<=e.h/\e.h<=63)/\(¬kX e.k->e.h= -1)
instance (e:Ev):Decidable (Frm e):=by unfold Frm;infer_instance
def sK(e:Ev):Bool:=decide (Frm e)
def Pos(l:Ln)(e:Ev):Prop:=l.t<=e.a/\((e.k=1/\l.s=0/\l.e<1000)\/(e.k=2/\l.s=1/\l.h≠e.h/\l.e<1000)\/(e.k=3/\l.s=1)\/(e.k=4/\l.s=2)\/(e.k=5/\(l.s=1\/l.s=2))\/(e.k=6/\l.s=3)\/(e.k=7/\l.s=3/\l.t+2592000<=e.a))
instance (l:Ln) (e:Ev):Decidable (Pos l e):=by unfold Pos;infer_instance
def nxt(l:Ln)(e:Ev):Ln:=
 if e.k=1\/e.k=2 then⟨1,e.h,l.e+1,e.a⟩else if e.k=3 then⟨2,l.h,l.e,e.a⟩else if e.k=4\/e.k=6 then⟨1,l.h,l.e,e.a⟩else if e.k=5 then⟨3,l.h,l.e,e.a⟩else⟨0,-1,l.e,e.a⟩
def Ok(l:Ln)(e:Ev):Prop:=Vld l/\Frm e/\Pos l e
instance (l:Ln) (e:Ev):Decidable (Ok l e):=by unfold Ok;infer_instance
def rZ(l:Ln)(e:Ev):Ln×Int:=if Ok l e then(nxt l e,0)else(zero,140)
theorem vj{l:Ln}{e:Ev}(h:Ok l e):rZ l e=(nxt l e,0):=if_pos h
theorem iw{l:Ln}{e:Ev}(h:¬Ok l e):rZ l e=(zero,140):=if_neg h
theorem KJ:Vld first:=by decide
theorem NQ{l:Ln}{e:Ev}(h:Ok l e):Vld (nxt l e):=by
 obtain⟨⟨h1,h2,h3,h4,h5,h6,h7,h8⟩,⟨f1,f2,f3,f4,f5,f6⟩,p1,p2⟩:=h;unfold kX at f5 f6;unfold nxt;by_cases c1:e.k=1\/e.k=2
 ·rw[if_pos c1];have:=f5 c1;refine⟨?_,?_,?_,?_,?_,?_,?_,?_⟩<;>simp only<;>omega
 rw[if_neg c1];by_cases c3:e.k=3
 ·rw[if_pos c3];have:=h8 (by omega);refine⟨?_,?_,?_,?_,?_,?_,?_,?_⟩<;>simp only<;>omega
 rw[if_neg c3];by_cases c4:e.k=4\/e.k=6
 ·rw[if_pos c4];have:=h8 (by omega);refine⟨?_,?_,?_,?_,?_,?_,?_,?_⟩<;>simp only<;>omega
 rw[if_neg c4];by_cases c5:e.k=5
 ·rw[if_pos c5];have:=h8 (by omega);refine⟨?_,?_,?_,?_,?_,?_,?_,?_⟩<;>simp only<;>omega
 rw[if_neg c5];refine⟨?_,?_,?_,?_,?_,?_,?_,?_⟩<;>simp<;>omega
theorem MW(l:Ln)(e:Ev):(nxt l e).t=e.a:=by unfold nxt;split;rfl;split;rfl;split;rfl;split<;>rfl
def dH:Ln->List Ev->Ln×Nat
 |l,[]=>(l,0)
 |l,e::es=>if Ok l e then((dH (nxt l e) es).1,(dH (nxt l e) es).2+1)else(l,0)
theorem NF(l:Ln)(es:List Ev):(dH l es).2<=es.length:=by
 induction es generalizing l with
 |nil=>simp[dH]
 |cons e es ih=>unfold dH;split<;>simp;exact ih _
def All:Ln->List Ev->Prop
 |_,[]=>True
 |l,e::es=>Ok l e/\All (nxt l e) es
def fin(l:Ln)(es:List Ev):Ln:=es.foldl nxt l
theorem runF_all{l:Ln}{es:List Ev}:(dH l es).2=es.length↔All l es:=by
 induction es generalizing l with
 |nil=>simp[dH,All]
 |cons e es ih=>
  unfold dH All;by_cases h:Ok l e
  ·rw[if_pos h];simp only[List.length_cons,Nat.add_right_cancel_iff,ih,h,true_and]
  ·rw[if_neg h];simp[h]
theorem HC{l:Ln}{es:List Ev}(h:All l es):dH l es=(fin l es,es.length):=by
 induction es generalizing l with
 |nil=>rfl
 |cons e es ih=>
  obtain⟨h1,h2⟩:=h;rw[dH,if_pos h1,ih h2];rfl
theorem L6{l:Ln}(hl:Vld l)(es:List Ev):Vld (dH l es).1:=by
 induction es generalizing l with
 |nil=>exact hl
 |cons e es ih=>
  unfold dH;by_cases h:Ok l e
  ·rw[if_pos h];exact ih (NQ h)
  ·rw[if_neg h];exact hl
theorem Mj{l:Ln}{a b:List Ev}(h:All l a):dH l (a++b)=((dH (fin l a) b).1,a.length+(dH (fin l a) b).2):=by
 induction a generalizing l with
 |nil=>simp[fin]
 |cons e a ih=>
  obtain⟨h1,h2⟩:=h;rw[List.cons_append,dH,if_pos h1,ih h2];simp[fin];omega
theorem yG{l:Ln}{a b:List Ev}:All l (a++b)↔All l a/\All (fin l a) b:=by
 induction a generalizing l with
 |nil=>simp[All,fin]
 |cons e a ih=>simp only[List.cons_append,All,ih,fin,List.foldl_cons,and_assoc]
theorem Da(l:Ln)(a b:List Ev):fin l (a++b)=fin (fin l a) b:=by simp[fin]
theorem Nh{l:Ln}{es:List Ev}(hl:Vld l)(h:All l es):Vld (fin l es):=by
 have:=L6 hl es
 rwa [HC h]at this
theorem Mz{l:Ln}{es:List Ev}(h:All l es)(k:Nat):All l (es.take k):=by
 rw[<-List.take_append_drop k es,yG]at h;exact h.1
def kJ(es:List Ev):(Ln×Nat)×Int:=if(dH first (es.take 40)).2=es.length then(((dH first (es.take 40)).1,es.length),0)else((zero,(dH first (es.take 40)).2),140)
def lD(es:List Ev):Prop:=All first es/\es.length<=40
theorem life_iff{es:List Ev}:(dH first (es.take 40)).2=es.length↔lD es:=by
 constructor
 ·intro h
  have h1:=NF first (es.take 40);have h2:es.length<=40:=by simp at h1;omega
  rw[List.take_of_length_le h2]at h;exact⟨runF_all.1 h,h2⟩
 ·rintro ⟨h1,h2⟩
  rw[List.take_of_length_le h2];exact runF_all.2 h1
instance (es:List Ev):Decidable (lD es):=decidable_of_iff _ life_iff
theorem mS{es:List Ev}(h:lD es):kJ es=((fin first es,es.length),0):=by
 rw[kJ,if_pos (life_iff.2 h),List.take_of_length_le h.2,HC h.1]
theorem CC{es:List Ev}(h:¬lD es):kJ es=((zero,(dH first (es.take 40)).2),140):=by
 rw[kJ,if_neg (fun e=>h (life_iff.1 e))]
theorem KI{es:List Ev}(h:lD es)(k:Nat):lD (es.take k):=⟨Mz h.1 k,by have:=h.2;simp;omega⟩
theorem Lx{l:Ln}{es:List Ev}(h:All l es):∀e∈es,l.t<=e.a:=by
 induction es generalizing l with
 |nil=>simp
 |cons x es ih=>
  obtain⟨h1,h2⟩:=h;intro e he;have hx:=h1.2.2.1;rcases List.mem_cons.1 he with rfl|he
  ·exact hx
  ·have:=ih h2 e he;rw[MW]at this;omega
theorem Jh{l:Ln}{es:List Ev}(h:All l es){i j:Nat}(hij:i<=j)(hj:j<es.length):(es[i]'(by omega)).a<=es[j].a:=by
 induction es generalizing l i j with
 |nil=>simp at hj
 | cons x es ih=>
  obtain⟨h1,h2⟩:=h;cases i with
  | zero=>
   cases j with
   |zero=>exact Int.le_refl _
   |succ j=>
    have:=Lx h2 (es[j]'(by simpa using hj)) (List.getElem_mem _)
    rw[MW]at this;simpa using this
  |succ i=>
   cases j with
   |zero=>omega
   |succ j=>simpa using ih h2 (i:=i) (j:=j) (by omega) (by simpa using hj)
def iR(es:List Ev)(t:Int):Nat:=(es.takeWhile fun e=>decide (e.a<=t)).length
theorem CL(es:List Ev)(t:Int):iR es t<=es.length:=by
 unfold iR;exact List.Sublist.length_le (List.takeWhile_sublist _)
theorem NW{es:List Ev}{t:Int}{i:Nat}(h:i<iR es t):(es[i]'(Nat.lt_of_lt_of_le h (CL es t))).a<=t:=by
 have h1:i<(es.takeWhile fun e=>decide (e.a<=t)).length:=h
 have h2:=List.all_eq_true.1 List.all_takeWhile _ (List.getElem_mem h1);have h3:(es.takeWhile fun e=>decide (e.a<=t))[i]=es[i]'(Nat.lt_of_lt_of_le h (CL es t)):=by
  have:=(List.takeWhile_prefix (fun e:Ev=>decide (e.a<=t)) (l:=es))
  exact List.IsPrefix.getElem this h1
 rw[h3]at h2;simpa using h2
theorem ND{es:List Ev}{t:Int}(h:iR es t<es.length):t<(es[iR es t]).a:=by
 induction es with
 |nil=>simp at h
 | cons x es ih=>
  by_cases hx:x.a<=t
  ·have e:iR (x::es) t=iR es t+1:=by simp[iR,hx]
   simp only[e]at h⊢;simpa using ih (by simpa using h)
  ·have e:iR (x::es) t=0:=by simp[iR,hx]
   simp only[e];simpa using hx
def atL(es:List Ev)(t:Int):Ln:=fin first (es.take (iR es t))
def ux(es:List Ev)(t:Int):Prop:=lD es/\0<=t/\t<=10000000
instance (es:List Ev) (t:Int):Decidable (ux es t):=by unfold ux;infer_instance
def atR(es:List Ev)(t:Int):Ln×Int:=if ux es t then(atL es t,0)else(zero,140)
def Mo(l:Ln):Prop:=l.s=1\/l.s=2
instance (l:Ln):Decidable (Mo l):=by unfold Mo;infer_instance
def GH(es:List Ev)(t:Int):Prop:=ux es t/\Mo (atL es t)
instance (es:List Ev) (t:Int):Decidable (GH es t):=by unfold GH;infer_instance
def K9(es:List Ev)(me ma t:Int):Prop:=GH es ma/\(atL es ma).e=me/\ma<=t/\t<=10000000
instance (es:List Ev) (me ma t:Int):Decidable (K9 es me ma t):=by unfold K9;infer_instance
end Go.Dial.Lif
namespace Go.Dial.Clm
structure Rl where
 a:Int
 c:Int
 s:Int
 r:Int
deriving DecidableEq
structure Cl where
 n:Int
 f:Int
 t:Int
 h:Int
 a:Int
 b:Bool
deriving DecidableEq
structure Ce where
 k:Int
 a:Int
 r:Int
deriving DecidableEq
structure Cs where
 s:Int
 f:Int
 n:Int
deriving DecidableEq
def RlV(r:Rl):Prop:=1<=r.a/\r.a<=1000000/\1<=r.c/\r.c<=1000000/\1<=r.s/\r.s<=1000000/\1<=r.r/\r.r<=1000000
instance (r:Rl):Decidable (RlV r):=by unfold RlV;infer_instance
def ClV(c:Cl):Prop:=0<=c.n/\c.n<=99999999/\0<=c.f/\c.f<=7/\0<=c.t/\c.t<=7/\c.f≠c.t/\0<=c.h/\c.h<=63/\0<=c.a/\c.a<=10000000
instance (c:Cl):Decidable (ClV c):=by unfold ClV;infer_instance
def CeV(last:Int)(e:Ce):Prop:=1<=e.k/\e.k<=6/\last<=e.a/\e.a<=20000000/\(e.k=2\/e.k=6->1<=e.r/\e.r<=9)/\(¬(e.k=2\/e.k=6)->e.r=0)
instance (last:Int) (e:Ce):Decidable (CeV last e):=by unfold CeV;infer_instance
def EvV:Int->List Ce->Prop
 |_,[]=>True
 |last,e::es=>CeV last e/\EvV e.a es
instance EvV.dec:(last:Int)->(es:List Ce)->Decidable (EvV last es)
 |_,[]=>.isTrue trivial
 |last,e::es=>by
  have:=EvV.dec e.a es
  unfold EvV;infer_instance
def fJ(r:Rl)(c:Cl)(es:List Ce):Prop:=RlV r/\ClV c/\es.length<=20/\EvV c.a es
instance (r:Rl) (c:Cl) (es:List Ce):Decidable (fJ r c es):=by unfold fJ;infer_instance
def dur(r:Rl)(s:Int):Int:=if s=1 then r.a else if s=2 then r.s else if s=3 then r.c else r.r
def st(r:Rl)(s f:Int):Cs:=⟨s,f,if 1<=s/\s<=4 then f+dur r s else -1⟩
def aft(s:Int):Int:=if s=3 then 4 else if s=4 then 5 else 3
def bec(b:Bool)(s:Int)(e:Ce):Int:=
 if e.k=1 then(if s=1 then 3 else -1)else if e.k=2 then(if s=1 then(if e.r=1 then(if b then -1 else 6)else 2)else -1)else if e.k=3 then(if s=2 then 3 else -1)else if e.k=4 then(if s=2 then 6 else -1)else if e.k=5 then(if s=1\/s=2\/s=3 then 7 else -1)else if e.k=6 then(if s=4 then(if e.r=1/\b then -1 else 8)else -1)else -1
def act(x:Cs):Prop:=1<=x.s/\x.s<=4
instance (x:Cs):Decidable (act x):=by unfold act;infer_instance
def rk(s:Int):Nat:=if s=1\/s=2 then 3 else if s=3 then 2 else if s=4 then 1 else 0
theorem gw(s:Int):rk s<=3:=by unfold rk;split;omega;split;omega;split<;>omega
theorem fm{s:Int}(h:1<=s/\s<=4):rk (aft s)<rk s:=by
 have:s=1\/s=2\/s=3\/s=4:=by omega
 rcases this with rfl|rfl|rfl|rfl<;>decide
def tl(r:Rl)(b:Bool):Cs->List Ce->List Cs
 |now,e::es=>if h:act now/\now.n<=e.a then st r (aft now.s) now.n::tl r b (st r (aft now.s) now.n) (e::es)else if bec b now.s e<0 then tl r b now es else st r (bec b now.s e) e.a::tl r b (st r (bec b now.s e) e.a) es
 |now,[]=>if h:act now then st r (aft now.s) now.n::tl r b (st r (aft now.s) now.n) []else[]
termination_by now es=>5*es.length+rk now.s
decreasing_by
 ·have:=fm h.1
  simp only[st];omega
 ·have:=gw now.s
  simp only[List.length_cons];omega
 ·have:=gw (st r (bec b now.s e) e.a).s
  simp only[List.length_cons];omega
 ·have:=fm h
  simp only[st];omega
theorem sX{r:Rl}{b:Bool}{now:Cs}{e:Ce}{es:List Ce}(h:act now/\now.n<=e.a):tl r b now (e::es)=st r (aft now.s) now.n::tl r b (st r (aft now.s) now.n) (e::es):=by
 rw[tl,dif_pos h]
theorem yx{r:Rl}{b:Bool}{now:Cs}{e:Ce}{es:List Ce}(h:¬(act now/\now.n<=e.a))(hb:bec b now.s e<0):tl r b now (e::es)=tl r b now es:=by
 rw[tl,dif_neg h,if_pos hb]
theorem BR{r:Rl}{b:Bool}{now:Cs}{e:Ce}{es:List Ce}(h:¬(act now/\now.n<=e.a))(hb:¬bec b now.s e<0):tl r b now (e::es)=st r (bec b now.s e) e.a::tl r b (st r (bec b now.s e) e.a) es:=by
 rw[tl,dif_neg h,if_neg hb]
theorem xL{r:Rl}{b:Bool}{now:Cs}(h:act now):tl r b now []=st r (aft now.s) now.n::tl r b (st r (aft now.s) now.n) []:=by
 rw[tl,dif_pos h]
theorem tY{r:Rl}{b:Bool}{now:Cs}(h:¬act now):tl r b now []=[]:=by
 rw[tl,dif_neg h]
theorem AC{r:Rl}{b:Bool}(P:Cs->Prop)(A:Cs->List Ce->Prop)
  (h1:∀now e es,A now (e::es)->act now->now.n<=e.a->P (st r (aft now.s) now.n)/\A (st r (aft now.s) now.n) (e::es))
  (h2:∀now e es,A now (e::es)->¬(act now/\now.n<=e.a)->bec b now.s e<0->A now es)
  (h3:∀now e es,A now (e::es)->¬(act now/\now.n<=e.a)->¬bec b now.s e<0->P (st r (bec b now.s e) e.a)/\A (st r (bec b now.s e) e.a) es)
  (h4:∀now,A now []->act now->P (st r (aft now.s) now.n)/\A (st r (aft now.s) now.n) []):∀(m:Nat) now es,5*es.length+rk now.s<=m->A now es->∀x∈tl r b now es,P x:=by
 intro m;induction m with
 | zero=>
  intro now es hm hA x hx;have he:es=[]:=by
   cases es with
   |nil=>rfl
   |cons e es=>simp at hm
  subst he;by_cases ha:act now
  ·have:=fm ha;omega
  ·rw[tY ha]at hx;cases hx
 | succ m ih=>
  intro now es hm hA x hx;cases es with
  | nil=>
   by_cases ha:act now
   ·rw[xL ha]at hx
    obtain⟨p,q⟩:=h4 now hA ha;rcases List.mem_cons.1 hx with rfl|hx
    ·exact p
    ·exact ih _ _ (by have:=fm ha;simp only[st];omega) q x hx
   ·rw[tY ha]at hx;cases hx
  | cons e es=>
   by_cases ha:act now/\now.n<=e.a
   ·rw[sX ha]at hx
    obtain⟨p,q⟩:=h1 now e es hA ha.1 ha.2;rcases List.mem_cons.1 hx with rfl|hx
    ·exact p
    ·exact ih _ _ (by have:=fm ha.1;simp only[st];omega) q x hx
   ·by_cases hb:bec b now.s e<0
    ·rw[yx ha hb]at hx
     exact ih _ _ (by simp only[List.length_cons]at hm;have:=gw now.s;omega) (h2 now e es hA ha hb) x hx
    ·rw[BR ha hb]at hx
     obtain⟨p,q⟩:=h3 now e es hA ha hb;rcases List.mem_cons.1 hx with rfl|hx
     ·exact p
     ·exact ih _ _ (by simp only[List.length_cons]at hm;have:=gw (st r (bec b now.s e) e.a).s;omega) q x hx
theorem FM{r:Rl}{b:Bool}:∀(m:Nat) now es,5*es.length+rk now.s<=m->(tl r b now es).length<=5*es.length+rk now.s:=by
 intro m;induction m with
 | zero=>
  intro now es hm;have he:es=[]:=by
   cases es with
   |nil=>rfl
   |cons e es=>simp at hm
  subst he;by_cases ha:act now
  ·have:=fm ha;omega
  ·rw[tY ha];simp
 | succ m ih=>
  intro now es hm;cases es with
  | nil=>
   by_cases ha:act now
   ·rw[xL ha]
    have h1:=fm ha;have:=ih (st r (aft now.s) now.n) [] (by simp only[st];omega)
    simp only[st,List.length_cons,List.length_nil]at this⊢;omega
   ·rw[tY ha];simp
  | cons e es=>
   by_cases ha:act now/\now.n<=e.a
   ·rw[sX ha]
    have h1:=fm ha.1;have:=ih (st r (aft now.s) now.n) (e::es) (by simp only[st];omega)
    simp only[st,List.length_cons]at this⊢;omega
   ·by_cases hb:bec b now.s e<0
    ·rw[yx ha hb]
     simp only[List.length_cons]at hm⊢;have h1:=gw now.s;have:=ih now es (by omega)
     omega
    ·rw[BR ha hb]
     simp only[List.length_cons]at hm⊢;have h1:=gw (st r (bec b now.s e) e.a).s;have:=ih (st r (bec b now.s e) e.a) es (by omega)
     omega
theorem Gz{l:Int}{es:List Ce}(h:EvV l es):∀e∈es,l<=e.a/\e.a<=20000000:=by
 induction es generalizing l with
 |nil=>intro e he;cases he
 | cons x es ih=>
  intro e he;rcases List.mem_cons.1 he with rfl|he
  ·exact⟨h.1.2.2.1,h.1.2.2.2.1⟩
  ·have:=ih h.2 e he
   have:=h.1.2.2.1
   omega
theorem OE{r:Rl}(h:RlV r)(s:Int):1<=dur r s/\dur r s<=1000000:=by
 unfold RlV at h;unfold dur;split;omega;split;omega;split<;>omega
theorem sD{r:Rl}(h:RlV r){s f:Int}(ha:1<=s/\s<=4):f<(st r s f).n/\(st r s f).n<=f+1000000:=by
 have:=OE h s
 simp only[st];rw[if_pos ha];omega
theorem MM{r:Rl}(hr:RlV r){b:Bool}{now:Cs}{es:List Ce}{m:Int}(h1:act now->m<=now.n)(h2:∀e∈es,m<=e.a):∀x∈tl r b now es,m<=x.f:=by
 refine AC (r:=r) (b:=b) (fun x=>m<=x.f) (fun now es=>(act now->m<=now.n)/\∀e∈es,m<=e.a) ?_ ?_ ?_ ?_ _ now es (Nat.le_refl _) ⟨h1,h2⟩
 ·intro now e es ⟨g1,g2⟩ ha hle
  exact⟨g1 ha,fun hx=>by have:=sD hr (s:=aft now.s) (f:=now.n) hx;have:=g1 ha;omega,g2⟩
 ·intro now e es ⟨g1,g2⟩ _ _
  exact⟨g1,fun x hx=>g2 x (List.mem_cons_of_mem _ hx)⟩
 ·intro now e es ⟨g1,g2⟩ _ _
  have:=g2 e (List.mem_cons_self ..)
  exact⟨this,fun hx=>by have:=sD hr (s:=bec b now.s e) (f:=e.a) hx;omega,fun x hx=>g2 x (List.mem_cons_of_mem _ hx)⟩
 ·intro now ⟨g1,g2⟩ ha
  exact⟨g1 ha,fun hx=>by have:=sD hr (s:=aft now.s) (f:=now.n) hx;have:=g1 ha;omega,g2⟩
theorem Pq{r:Rl}(hr:RlV r){b:Bool}{now:Cs}{es:List Ce}(h1:now.f+1000000*rk now.s<=23000000)(h0:act now->now.n<=now.f+1000000)(h2:∀e∈es,e.a<=20000000):∀x∈tl r b now es,x.f<=23000000:=by
 refine AC (r:=r) (b:=b) (fun x=>x.f<=23000000) (fun now es=>now.f+1000000*rk now.s<=23000000/\(act now->now.n<=now.f+1000000)/\∀e∈es,e.a<=20000000) ?_ ?_ ?_ ?_ _ now es (Nat.le_refl _) ⟨h1,h0,h2⟩
 ·intro now e es ⟨g1,g0,g2⟩ ha hle
  have k1:=fm ha;have k2:=g0 ha;refine⟨?_,?_,fun hx=>(sD hr hx).2,g2⟩
  ·simp only[st];omega
  ·simp only[st];omega
 ·intro now e es ⟨g1,g0,g2⟩ _ _
  exact⟨g1,g0,fun x hx=>g2 x (List.mem_cons_of_mem _ hx)⟩
 ·intro now e es ⟨g1,g0,g2⟩ _ _
  have k1:=g2 e (List.mem_cons_self ..);have k2:=gw (st r (bec b now.s e) e.a).s;refine⟨?_,?_,fun hx=>(sD hr hx).2,fun x hx=>g2 x (List.mem_cons_of_mem _ hx)⟩
  ·simp only[st];omega
  ·simp only[st]at k2⊢;omega
 ·intro now ⟨g1,g0,g2⟩ ha
  have k1:=fm ha;have k2:=g0 ha;refine⟨?_,?_,fun hx=>(sD hr hx).2,g2⟩
  ·simp only[st];omega
  ·simp only[st];omega
def x0(r:Rl)(c:Cl):Cs:=st r 1 c.a
def aF(r:Rl)(c:Cl)(es:List Ce):List Cs:=x0 r c::tl r c.b (x0 r c) es
def cW(u:Int)(l:List Cs):List Cs:=l.takeWhile fun x=>decide (x.f<=u)
def jp(r:Rl)(c:Cl)(es:List Ce)(t:Int):Cs:=((cW t (aF r c es)).getLast?).getD ⟨0,0,c.a⟩
def qM(r:Rl)(c:Cl)(es:List Ce)(t:Int):Prop:=fJ r c es/\0<=t/\t<=20000000
instance (r:Rl) (c:Cl) (es:List Ce) (t:Int):Decidable (qM r c es t):=by unfold qM;infer_instance
def outR(r:Rl)(c:Cl)(es:List Ce)(t:Int):Cs×Int:=if qM r c es t then(jp r c es t,0)else(⟨0,0,0⟩,160)
def MG(r:Rl)(c:Cl):Int:=c.a+r.a-1+r.s+r.c+r.r
end Go.Dial.Clm
namespace Go.Dial.Ref
open Go.Sx Go.Dial.Flo Go.Dial.Rou Go.Dial.Fwd Go.Dial.Lif Go.Dial.Clm
structure Gr where
 ls:List (Int×List Ev)
 ss:List Se
 cs:List Co
 h:List Int
 k:List Int
 lag:Int
 r:Rl
 c:Cl
 ce:List Ce
 nn:Int
 es:List Ed
def LsV:Int->List (Int×List Ev)->Prop
 |_,[]=>True
 |last,x::l=>lD x.2/\last<x.1/\x.1<=99999999/\LsV x.1 l
def MZ:∀(last:Int) (l:List (Int×List Ev)),Decidable (LsV last l)
 |_,[]=>.isTrue trivial
 |last,x::l=>
  have:=MZ x.1 l
  inferInstanceAs (Decidable (lD x.2/\last<x.1/\x.1<=99999999/\LsV x.1 l))
instance (last:Int) (l:List (Int×List Ev)):Decidable (LsV last l):=MZ last l
def GrV(g:Gr):Prop:=g.ls.length<=10/\LsV (-1) g.ls/\FwV g.ss g.cs/\RoV g.h g.k g.lag/\fJ g.r g.c g.ce/\NetV g.nn g.es/\g.nn=8
instance (g:Gr):Decidable (GrV g):=by unfold GrV;infer_instance
structure Small (g:Gr):Prop where
 ls:g.ls.length<=1000
 ev:∀x∈g.ls,x.2.length<=1000
 ss:g.ss.length<=1000
 cs:g.cs.length<=1000
 ce:g.ce.length<=1000
 es:g.es.length<=1000
def bW:List (Int×List Ev)->Int->Int->Bool
 |[],_,_=>false
 |x::l,num,t=>if x.1=num then decide ((atR x.2 t).1.s=1)else bW l num t
def yK(p:List Int):Int:=(p.getLast?).getD 0
def aV(p:List (Int×Int)):Int:=((p.getLast?).getD (0,0)).1
def MY(g:Gr)(t:Int):Int:=if(jp g.r g.c g.ce t).s=4\/(jp g.r g.c g.ce t).s=5 then g.c.t else g.c.f
def Unp(g:Gr)(t:Int)(p:List Int)(q:List (Int×Int)):Prop:=g.c.n=yK p/\(aV q=g.c.f\/aV q=g.c.t)/\aV q≠MY g t
instance (g:Gr) (t:Int) (p:List Int) (q:List (Int×Int)):Decidable (Unp g t p q):=by unfold Unp;infer_instance
structure Rf where
 k:Int
 n:Int
 rk:Int
 rp:List Int
 ru:List Int
 hs:List (Int×Int)
 s:Int
 deriving DecidableEq
def uK:Rf:=⟨0,0,0,[],[],[],0⟩
open Classical in
noncomputable def rS (es:List Ed) (a:Int):Int:=if h:∃s,IsR es a s then Classical.choose h else 0
theorem MI{es:List Ed}{a s:Int}(h:IsR es a s):rS es a=s:=by
 have hx:∃s,IsR es a s:=⟨s,h⟩
 unfold rS;rw[dif_pos hx];exact Nt (Classical.choose_spec hx) h
open Classical in
noncomputable def gn (g:Gr) (t c:Int) (w:Int×List Int×List Int) (p:List (Int×Int)×Int):Rf×Bool:=
 match w.2.1.find? (fun x=> !bW g.ls x t)with
 |some x=>(⟨1,x,0,[],[],[],0⟩,true)
 | none=>
  if w.1=5\/w.1=6 then(⟨2,0,w.1,w.2.1,w.2.2,[],0⟩,true)else if 2<=w.1/\w.1<=4 then(⟨3,0,w.1,w.2.1,w.2.2,[],0⟩,true)else if p.2=2 then(⟨4,0,0,[],[],p.1,0⟩,true)else if p.2=3 then(⟨5,0,0,[],[],p.1,0⟩,true)else if p.2=1 then
   (if Unp g t w.2.1 p.1 then(⟨6,0,0,[],[],p.1,0⟩,true)else if aV p.1=c then(uK,false)else if Flo.Reach g.es c (aV p.1)then(uK,false)else(⟨7,0,0,[],[],p.1,rS g.es c⟩,true))else(uK,false)
abbrev wy(g:Gr)(num t:Int):Int×List Int×List Int:=Ht g.ss g.cs num t
abbrev hp(g:Gr)(c:Int):List (Int×Int)×Int:=yl g.h g.k c
noncomputable def kP (g:Gr) (num t c:Int):Rf×Bool:=gn g t c (wy g num t) (hp g c)
def eI(g:Gr)(num t c:Int):Prop:=GrV g/\0<=num/\num<=99999999/\0<=t/\t<=10000000/\0<=c/\c<=7/\0<=at_ g.k c
instance (g:Gr) (num t c:Int):Decidable (eI g num t c):=by unfold eI;infer_instance
def eN(g:Gr)(t c:Int)(w:Int×List Int×List Int)(p:List (Int×Int)×Int)(r:Rf):Prop:=
 (r.k=1/\r.n∈w.2.1/\bW g.ls r.n t=false/\r=⟨1,r.n,0,[],[],[],0⟩) ∨
 (r.k=2/\(w.1=5\/w.1=6)/\r=⟨2,0,w.1,w.2.1,w.2.2,[],0⟩) ∨
 (r.k=3/\(2<=w.1/\w.1<=4)/\r=⟨3,0,w.1,w.2.1,w.2.2,[],0⟩) ∨
 (r.k=4/\p.2=2/\r=⟨4,0,0,[],[],p.1,0⟩) ∨
 (r.k=5/\p.2=3/\r=⟨5,0,0,[],[],p.1,0⟩) ∨
 (r.k=6/\p.2=1/\Unp g t w.2.1 p.1/\r=⟨6,0,0,[],[],p.1,0⟩) ∨
 (r.k=7/\p.2=1/\aV p.1≠c/\xd c (aV p.1) r.s/\lvs r.s g.es=0/\r=⟨7,0,0,[],[],p.1,r.s⟩)
instance (g:Gr) (t c:Int) (w:Int×List Int×List Int) (p:List (Int×Int)×Int) (r:Rf):Decidable (eN g t c w p r):=by unfold eN;infer_instance
def Chk(g:Gr)(num t c:Int)(r:Rf):Prop:=eI g num t c/\eN g t c (wy g num t) (hp g c) r
instance (g:Gr) (num t c:Int) (r:Rf):Decidable (Chk g num t c r):=by unfold Chk;infer_instance
structure Led (g:Gr) (t c:Int) (w:Int×List Int×List Int) (p:List (Int×Int)×Int):Prop where
 held:∀x∈w.2.1,bW g.ls x t=true
 kind:¬(2<=w.1/\w.1<=6)
 ends:p.2≠2/\p.2≠3
 unp:p.2=1->¬Unp g t w.2.1 p.1
 cut:p.2=1->aV p.1=c\/Flo.Reach g.es c (aV p.1)
theorem LT{g:Gr}{t c:Int}{w:Int×List Int×List Int}{p:List (Int×Int)×Int}(h:(gn g t c w p).2=false):Led g t c w p/\(gn g t c w p).1=uK:=by
 unfold gn at h⊢
 cases hf:w.2.1.find? (fun x=> !bW g.ls x t)with
 |some x=>rw[hf]at h;cases h
 | none =>
  have hheld:∀x∈w.2.1,bW g.ls x t=true:=fun x hx=>by
   have:=List.find?_eq_none.1 hf x hx
   simpa using this
  rw[hf]at h;dsimp only at h⊢
  by_cases h1:w.1=5\/w.1=6
  ·rw[if_pos h1]at h;cases h
  ·rw [if_neg h1]at h⊢
   by_cases h2:2<=w.1/\w.1<=4
   ·rw[if_pos h2]at h;cases h
   ·rw [if_neg h2]at h⊢
    by_cases h3:p.2=2
    ·rw[if_pos h3]at h;cases h
    ·rw [if_neg h3]at h⊢
     by_cases h4:p.2=3
     ·rw[if_pos h4]at h;cases h
     ·rw [if_neg h4]at h⊢
      by_cases h5:p.2=1
      ·rw [if_pos h5]at h⊢
       by_cases h6:Unp g t w.2.1 p.1
       ·rw[if_pos h6]at h;cases h
       ·rw[if_neg h6]at h⊢
        by_cases h7:aV p.1=c
        ·rw[if_pos h7]
         exact⟨⟨hheld,by omega,⟨h3,h4⟩,fun _=>h6,fun _=>.inl h7⟩,rfl⟩
        ·rw[if_neg h7]at h⊢
         by_cases h8:Flo.Reach g.es c (aV p.1)
         ·rw[if_pos h8]
          exact⟨⟨hheld,by omega,⟨h3,h4⟩,fun _=>h6,fun _=>.inr h8⟩,rfl⟩
         ·rw[if_neg h8]at h;cases h
      ·rw[if_neg h5]
       exact⟨⟨hheld,by omega,⟨h3,h4⟩,fun e=>absurd e h5,fun e=>absurd e h5⟩,rfl⟩
theorem NK{g:Gr}{t c:Int}{w:Int×List Int×List Int}{p:List (Int×Int)×Int}(hn:NetV g.nn g.es)(h:Led g t c w p)(r:Rf):¬eN g t c w p r:=by
 rintro (⟨_,h1,h2,_⟩|⟨_,h1,_⟩|⟨_,h1,_⟩|⟨_,h1,_⟩|⟨_,h1,_⟩|⟨_,h1,h2,_⟩|⟨_,h1,h2,h3,h4,_⟩)
 ·have:=h.held _ h1
  rw[this]at h2;cases h2
 ·have:=h.kind;omega
 ·have:=h.kind;omega
 ·exact h.ends.1 h1
 ·exact h.ends.2 h1
 ·exact h.unp h1 h2
 ·rcases h.cut h1 with h5|h5
  ·exact h2 h5
  ·have:=uD hn.2.2.2 h4 h3.2.2.1 h5
   rw[h3.2.2.2]at this;cases this
theorem MF{g:Gr}{t c:Int}{w:Int×List Int×List Int}{p:List (Int×Int)×Int}(hv:∀e∈g.es,EdV 8 e)(hr:aV p.1≠c->¬Flo.Reach g.es c (aV p.1)->∃s,IsR g.es c s)(hl:0<=aV p.1/\aV p.1<=7)(hc:0<=c/\c<=7)(h:(gn g t c w p).2=true):
  eN g t c w p (gn g t c w p).1/\1<=(gn g t c w p).1.k/\(gn g t c w p).1.k<=7:=by
 unfold gn at h⊢
 cases hf:w.2.1.find? (fun x=> !bW g.ls x t)with
 |some x=>
  refine⟨.inl ⟨rfl,List.mem_of_find?_eq_some hf,?_,rfl⟩,by show(1:Int)<=1;decide,by show(1:Int)<=7;decide⟩
  have:=List.find?_some hf
  simpa using this
 | none =>
  rw[hf]at h;dsimp only at h⊢
  by_cases h1:w.1=5\/w.1=6
  ·rw[if_pos h1]
   exact⟨.inr (.inl ⟨rfl,h1,rfl⟩),by dsimp only;decide,by dsimp only;decide⟩
  ·rw [if_neg h1]at h⊢
   by_cases h2:2<=w.1/\w.1<=4
   ·rw[if_pos h2]
    exact⟨.inr (.inr (.inl ⟨rfl,h2,rfl⟩)),by dsimp only;decide,by dsimp only;decide⟩
   ·rw [if_neg h2]at h⊢
    by_cases h3:p.2=2
    ·rw[if_pos h3]
     exact⟨.inr (.inr (.inr (.inl ⟨rfl,h3,rfl⟩))),by dsimp only;decide,by dsimp only;decide⟩
    ·rw [if_neg h3]at h⊢
     by_cases h4:p.2=3
     ·rw[if_pos h4]
      exact⟨.inr (.inr (.inr (.inr (.inl ⟨rfl,h4,rfl⟩)))),by dsimp only;decide,by dsimp only;decide⟩
     ·rw [if_neg h4]at h⊢
      by_cases h5:p.2=1
      ·rw [if_pos h5]at h⊢
       by_cases h6:Unp g t w.2.1 p.1
       ·rw[if_pos h6]
        exact⟨.inr (.inr (.inr (.inr (.inr (.inl ⟨rfl,h5,h6,rfl⟩))))),by dsimp only;decide,by dsimp only;decide⟩
       ·rw [if_neg h6]at h⊢
        by_cases h7:aV p.1=c
        ·rw[if_pos h7]at h;cases h
        ·rw[if_neg h7]at h⊢
         by_cases h8:Flo.Reach g.es c (aV p.1)
         ·rw[if_pos h8]at h;cases h
         ·rw[if_neg h8]
          obtain⟨s,hs⟩:=hr h7 h8;rw[MI hs];refine⟨.inr (.inr (.inr (.inr (.inr (.inr ⟨rfl,h5,h7,⟨hs.1,hs.2.1,?_,?_⟩,Ap hv hs,rfl⟩))))),by dsimp only;decide,by dsimp only;decide⟩
          ·exact(hs.2.2 c hc.1 hc.2).2 .here
          ·cases hb:has s (aV p.1)with
           |false=>rfl
           |true=>exact absurd ((hs.2.2 _ hl.1 hl.2).1 hb) h8
      ·rw[if_neg h5]at h;cases h
theorem Js{g:Gr}{t c:Int}{w:Int×List Int×List Int}{p:List (Int×Int)×Int}(hw:w.2.1.length<=1000)(hu:w.2.2.length<=1000)(hp:p.1.length<=1000):(gn g t c w p).1.rp.length<=1000/\(gn g t c w p).1.ru.length<=1000/\(gn g t c w p).1.hs.length<=1000:=by
 unfold gn;split
 ·exact⟨Nat.zero_le _,Nat.zero_le _,Nat.zero_le _⟩
 ·repeat' split
  all_goals exact⟨by first|exact Nat.zero_le _|exact hw,by first|exact Nat.zero_le _|exact hu,by first|exact Nat.zero_le _|exact hp⟩
theorem Mt{h k:List Int}{c:Int}{l:List (Int×Int)}{e:Int}(hp:PthV h k c l e):∃x,l.getLast?=some x/\x∈l/\aV l=x.1/\0<=aV l/\aV l<=7:=by
 cases hx:l.getLast? with
 |none=>exact absurd (List.getLast?_eq_none_iff.1 hx) hp.ne
 |some x=>
  have hm:=List.mem_of_getLast? hx;have hl:aV l=x.1:=by unfold aV;rw[hx];rfl
  have:=hp.bd x hm
  exact⟨x,rfl,hm,hl,by omega,by omega⟩
end Go.Dial.Ref
