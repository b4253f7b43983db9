/-
  Texts of this claim, joined (part JM5).
-/
import Derived.Test.YtbfkkigbedmhgaaGreatJM4
import Derived.Lib.Hide
set_option linter.unusedVariables false
set_option linter.unusedSimpArgs false
set_option linter.unusedSectionVars false
set_option linter.constructorNameAsVariable false
set_option maxRecDepth 100000
namespace Go.Proofs.YtbfkkigbedmhgaaGreat
open Go Go.Sx
noncomputable section
def aL:List Nat:=[12,13,14,15,16,17,18,19,20,21,22,23,24,25,26,27,28,29,30,31,32,33,34,37,38,39,40,43,44,45,46,47,48,49,50,51,52,53,54,55,56,57,58,59,62,66,68,69,70,71,72,73,74,75,76,77,78,84,85,86,87,89,95,105,106,107,108,109,110,111,112,114,115,116,117,120,122,149,150,152,153,159,176,178,179,180,182,183,184,186,187,193,202,203,204,210,211,1000015,1000016,1000017,1000018,1000019,1000022,1000049,1000050,1000051,1000052,1000053,1000062,2000151,2000152,2000217,2000247,2000248,2000249]
abbrev vZ:=Bool
def vn(n:Nat)(v0 v1 v2 v3 v4:Int):Option vZ:=
 (bif 0<=v0 then(bif v0<=99999999 then(bif 0<=v2 then(bif v2<=99999999 then(bif !(v0=v2)then(bif 1<=v1 then(bif v1<=4 then(bif 0<=v3 then(bif v3<v4 then some (decide (v4<=10000001))else some false)else some false)else some false)else some false)else some false)else some false)else some false)else some false)else some false)
def l5(n:Nat)(v0 v1 v2 v3 v4:Int):Option vZ:=vn n v0 v1 v2 v3 v4
def ref22_formed_t:FnT:=⟨[(true,[.int,.int,.int,.int,.int])],.b,fun n (s:Int×Int×Int×Int×Int)=>l5 n s.1 s.2.1 s.2.2.1 s.2.2.2.1 s.2.2.2.2⟩
theorem CR:ref22_formed_t.ok Tryz.prog 182:=FnT.ok_of (cfg:=⟨[],aL,[],aj⟩) ay tK ax (fun s fn hf=>by rw[Tryz.func182]at hf;cases hf;kernel_rfl) (fun n s=>by kernel_rfl)
def ref22_formed_T:Tab:=(182,ref22_formed_t)::claim_With_T
theorem pB:ref22_formed_T.ok Tryz.prog:=Tab.ok_cons CR tK
abbrev dw:=Bool
abbrev eN:=Int
def fe(n:Nat)(go0:eN->Option dw)(go1:eN->Option dw)(v0:Lv)(v1 v3:Int):Option dw:=
 (bif v3<v1 then bif 0<=v3 then bif v3<(v0.length:Int) then(bif (cI v0 v1 0)=(cI v0 v3 0) then(bif (cI v0 v1 1)=(cI v0 v3 1) then(bif (ba (cI v0 v1 3) (cI v0 v3 3))<(aM (cI v0 v1 4) (cI v0 v3 4)) then some false else bif(-9223372036854775808<=(v3+1))&&((v3+1)<=9223372036854775807)then go1 (v3+1)else none)else bif(-9223372036854775808<=(v3+1))&&((v3+1)<=9223372036854775807)then go1 (v3+1)else none)else bif(-9223372036854775808<=(v3+1))&&((v3+1)<=9223372036854775807)then go1 (v3+1)else none)else none else none else bif(-9223372036854775808<=(v1+1))&&((v1+1)<=9223372036854775807)then go0 (v1+1)else none)
def lD(n:Nat)(go0:eN->Option dw)(v0:Lv)(v1:Int):Option dw:=
 (bif v1<(v0.length:Int) then bif 0<=v1 then(l5 n (cI v0 v1 0) (cI v0 v1 1) (cI v0 v1 2) (cI v0 v1 3) (cI v0 v1 4)).bind fun y2=>
 (bif(!y2)then some false else(ab (fun go1 s=>fe n go0 go1 v0 v1 s) n (0:eN)))else none else some true)
def rn(n:Nat)(v0:Lv):Option dw:=
 (bif 40<(v0.length:Int) then some false else(ab (fun go0 s=>lD n go0 v0 s) n (0:eN)))
def gY(n:Nat)(v0:Lv):Option dw:=rn n v0
def ref22_Settings_t:FnT:=⟨[(false,[(.sl (.cons .int (.cons .int (.cons .int (.cons .int (.cons .int .nil))))))])],.b,fun n (s:Lv)=>gY n s⟩
theorem Bs:ref22_Settings_t.ok Tryz.prog 108:=FnT.ok_of (cfg:=⟨[((108,4,0),.inv [(.tmp 3 .int)]),((108,9,1),.inv [(.tmp 4 .int)])],aL,[],aj⟩) ay pB ax (fun s fn hf=>by rw[Tryz.func108]at hf;cases hf;kernel_rfl) (fun n s=>by kernel_rfl)
def ref22_Settings_T:Tab:=(108,ref22_Settings_t)::ref22_formed_T
theorem nu:ref22_Settings_T.ok Tryz.prog:=Tab.ok_cons Bs pB
abbrev k9:=Bool
abbrev vS:=Int
def F7(n:Nat)(go0:vS->Option k9)(v1:Lv)(v3:Int):Option k9:=
 (bif v3<(v1.length:Int) then bif 0<=v3 then(bif 0<=(cI v1 v3 0) then(bif !((cI v1 v3 0)<=99999999)then some false else(bif (cI v1 v3 1)<2 then some false else(bif 4<(cI v1 v3 1) then some false else(bif 0<v3 then bif(-9223372036854775808<=(v3-1))&&((v3-1)<=9223372036854775807)then bif 0<=(v3-1) then bif (v3-1)<(v1.length:Int) then(bif (cI v1 v3 0)<=(cI v1 (v3-1) 0) then some false else bif(-9223372036854775808<=(v3+1))&&((v3+1)<=9223372036854775807)then go0 (v3+1)else none)else none else none else none else bif(-9223372036854775808<=(v3+1))&&((v3+1)<=9223372036854775807)then go0 (v3+1)else none))))else some false)else none else some true)
def Gb(n:Nat)(v0 v1:Lv):Option k9:=
 (gY n v0).bind fun y2=>
 (bif(!y2)then some false else(bif 40<(v1.length:Int) then some false else(ab (fun go0 s=>F7 n go0 v1 s) n (0:vS))))
def uS(n:Nat)(v0 v1:Lv):Option k9:=Gb n v0 v1
def ref22_Valid_t:FnT:=⟨[(false,[(.sl (.cons .int (.cons .int (.cons .int (.cons .int (.cons .int .nil))))))]),(false,[(.sl (.cons .int (.cons .int .nil)))])],.b,fun n (s:Lv×Lv)=>uS n s.1 s.2⟩
theorem EX:ref22_Valid_t.ok Tryz.prog 75:=FnT.ok_of (cfg:=⟨[((75,4,0),.inv [(.tmp 5 .int)])],aL,[],aj⟩) ay nu ax (fun s fn hf=>by rw[Tryz.func75]at hf;cases hf;kernel_rfl) (fun n s=>by kernel_rfl)
def ref22_Valid_T:Tab:=(75,ref22_Valid_t)::ref22_Settings_T
theorem qG:ref22_Valid_T.ok Tryz.prog:=Tab.ok_cons EX nu
abbrev gE:=Int
abbrev oO:=Int
def Bj(n:Nat)(go0:oO->Option gE)(v0:Lv)(v1 v2:Int):Option gE:=
 (bif v2<(v0.length:Int) then bif 0<=v2 then(bif (cI v0 v2 0)=v1 then some (cI v0 v2 1)else bif(-9223372036854775808<=(v2+1))&&((v2+1)<=9223372036854775807)then go0 (v2+1)else none)else none else some 0)
def Bp(n:Nat)(v0:Lv)(v1:Int):Option gE:=
 (ab (fun go0 s=>Bj n go0 v0 v1 s) n (0:oO))
def gk(n:Nat)(v0:Lv)(v1:Int):Option gE:=Bp n v0 v1
def ref22_condition_t:FnT:=⟨[(false,[(.sl (.cons .int (.cons .int .nil)))]),(false,[.int])],.i,fun n (s:Lv×Int)=>gk n s.1 s.2⟩
theorem zi:ref22_condition_t.ok Tryz.prog 115:=FnT.ok_of (cfg:=⟨[((115,2,0),.inv [(.tmp 5 .int)])],aL,[],aj⟩) ay qG ax (fun s fn hf=>by rw[Tryz.func115]at hf;cases hf;kernel_rfl) (fun n s=>by kernel_rfl)
def ref22_condition_T:Tab:=(115,ref22_condition_t)::ref22_Valid_T
theorem mE:ref22_condition_T.ok Tryz.prog:=Tab.ok_cons zi qG
abbrev my:=Int
abbrev x7:=Int
def IG(n:Nat)(go0:x7->Option my)(v0:Lv)(v1 v2 v3 v4:Int):Option my:=
 (bif v4<(v0.length:Int) then bif 0<=v4 then(bif (cI v0 v4 0)=v1 then(bif (cI v0 v4 1)=v2 then(bif (cI v0 v4 3)<=v3 then(bif v3<(cI v0 v4 4) then some v4 else bif(-9223372036854775808<=(v4+1))&&((v4+1)<=9223372036854775807)then go0 (v4+1)else none)else bif(-9223372036854775808<=(v4+1))&&((v4+1)<=9223372036854775807)then go0 (v4+1)else none)else bif(-9223372036854775808<=(v4+1))&&((v4+1)<=9223372036854775807)then go0 (v4+1)else none)else bif(-9223372036854775808<=(v4+1))&&((v4+1)<=9223372036854775807)then go0 (v4+1)else none)else none else some (-1))
def IU(n:Nat)(v0:Lv)(v1 v2 v3:Int):Option my:=
 (ab (fun go0 s=>IG n go0 v0 v1 v2 v3 s) n (0:x7))
def xd(n:Nat)(v0:Lv)(v1 v2 v3:Int):Option my:=IU n v0 v1 v2 v3
def ref22_find_t:FnT:=⟨[(false,[(.sl (.cons .int (.cons .int (.cons .int (.cons .int (.cons .int .nil))))))]),(false,[.int]),(false,[.int]),(false,[.int])],.i,fun n (s:Lv×Int×Int×Int)=>xd n s.1 s.2.1 s.2.2.1 s.2.2.2⟩
theorem Gc:ref22_find_t.ok Tryz.prog 184:=FnT.ok_of (cfg:=⟨[((184,2,0),.inv [(.tmp 9 .int)])],aL,[],aj⟩) ay mE ax (fun s fn hf=>by rw[Tryz.func184]at hf;cases hf;kernel_rfl) (fun n s=>by kernel_rfl)
def ref22_find_T:Tab:=(184,ref22_find_t)::ref22_condition_T
theorem tk:ref22_find_T.ok Tryz.prog:=Tab.ok_cons Gc mE
abbrev wa:=Int
def E6(n:Nat)(v0 v1:Lv)(v2 v3:Int):Option wa:=
 (xd n v0 v2 1 v3).bind fun y4=>
 (bif y4<0 then(gk n v1 v2).bind fun y5=>
 (bif 0<y5 then(gk n v1 v2).bind fun y6=>
 (xd n v0 v2 y6 v3).bind fun y7=>
 some y7 else some y4)else some y4)
def zr(n:Nat)(v0 v1:Lv)(v2 v3:Int):Option wa:=E6 n v0 v1 v2 v3
def ref22_counts_t:FnT:=⟨[(false,[(.sl (.cons .int (.cons .int (.cons .int (.cons .int (.cons .int .nil))))))]),(false,[(.sl (.cons .int (.cons .int .nil)))]),(false,[.int]),(false,[.int])],.i,fun n (s:Lv×Lv×Int×Int)=>zr n s.1 s.2.1 s.2.2.1 s.2.2.2⟩
theorem CT:ref22_counts_t.ok Tryz.prog 114:=FnT.ok_of (cfg:=⟨[],aL,[],aj⟩) ay tk ax (fun s fn hf=>by rw[Tryz.func114]at hf;cases hf;kernel_rfl) (fun n s=>by kernel_rfl)
def ref22_counts_T:Tab:=(114,ref22_counts_t)::ref22_find_T
theorem py:ref22_counts_T.ok Tryz.prog:=Tab.ok_cons CT tk
abbrev oo:=Bool
abbrev zJ:=Int
def Ka(n:Nat)(go0:zJ->Option oo)(v0:Lv)(v1 v2:Int):Option oo:=
 (bif v2<(v0.length:Int) then bif 0<=v2 then(bif (cI v0 v2 0)=v1 then some true else bif(-9223372036854775808<=(v2+1))&&((v2+1)<=9223372036854775807)then go0 (v2+1)else none)else none else some false)
def Ko(n:Nat)(v0:Lv)(v1:Int):Option oo:=
 (ab (fun go0 s=>Ka n go0 v0 v1 s) n (0:zJ))
def Fj(n:Nat)(v0:Lv)(v1:Int):Option oo:=Ko n v0 v1
def ref22_has_t:FnT:=⟨[(false,[tSa]),(false,[.int])],.b,fun n (s:Lv×Int)=>Fj n s.1 s.2⟩
theorem I8:ref22_has_t.ok Tryz.prog 116:=FnT.ok_of (cfg:=⟨[((116,2,0),.inv [(.tmp 5 .int)])],aL,[],aj⟩) ay py ax (fun s fn hf=>by rw[Tryz.func116]at hf;cases hf;kernel_rfl) (fun n s=>by kernel_rfl)
def ref22_has_T:Tab:=(116,ref22_has_t)::ref22_counts_T
theorem vh:ref22_has_T.ok Tryz.prog:=Tab.ok_cons I8 py
abbrev gj:=Int×Lv×Lv×Int
abbrev qT:=Int×Lv×Lv
def DV(n:Nat)(go0:qT->Option gj)(v0 v1:Lv)(v3 v5:Int)(v6 v7:Lv):Option gj:=
 (zr n v0 v1 v5 v3).bind fun y8=>
 (bif y8<0 then(gk n v1 v5).bind fun y9=>
 (bif 0<y9 then(gk n v1 v5).bind fun y10=>
 some (y10,v6,v7,0)else some (1,v6,v7,0))else(bif (v7.length:Int)=5 then some (6,v6,v7,0)else bif 0<=y8 then bif y8<(v0.length:Int) then(Fj n v6 (cI v0 y8 2)).bind fun y9=>
 bif (((v7.length:Int)+1)*8)<=140737488355328 then bif (((v6.length:Int)+1)*8)<=140737488355328 then(bif y9 then some (5,(v6++[[(AV.int (cI v0 y8 2))]]),(v7++[[(AV.int y8)]]),0)else go0 ((cI v0 y8 2),(v6++[[(AV.int (cI v0 y8 2))]]),(v7++[[(AV.int y8)]])))else none else none else none else none))
def Dx(n:Nat)(v0 v1:Lv)(v2 v3:Int):Option gj:=
 (uS n v0 v1).bind fun y4=>
 (bif(!y4)then some (0,([]:Lv),([]:Lv),220)else(bif 0<=v2 then(bif !(v2<=99999999)then some (0,([]:Lv),([]:Lv),220)else(bif v3<0 then some (0,([]:Lv),([]:Lv),220)else(bif 10000000<v3 then some (0,([]:Lv),([]:Lv),220)else(ab (fun go0 s=>DV n go0 v0 v1 v3 s.1 s.2.1 s.2.2) n ((v2,(([]:Lv)++[[(AV.int v2)]]),([]:Lv)):qT)))))else some (0,([]:Lv),([]:Lv),220)))
def kX(n:Nat)(v0 v1:Lv)(v2 v3:Int):Option gj:=Dx n v0 v1 v2 v3
def ref22_Resolve_t:FnT:=⟨[(false,[(.sl (.cons .int (.cons .int (.cons .int (.cons .int (.cons .int .nil))))))]),(false,[(.sl (.cons .int (.cons .int .nil)))]),(false,[.int]),(false,[.int])],(.tup (.cons (.agg (.cons .i (.cons (.row 3 (.cons .int .nil)) (.cons (.row 3 (.cons .int .nil)) .nil)))) (.cons .i .nil))),fun n (s:Lv×Lv×Int×Int)=>kX n s.1 s.2.1 s.2.2.1 s.2.2.2⟩
theorem CD:ref22_Resolve_t.ok Tryz.prog 55:=FnT.ok_of (cfg:=⟨[((55,4,4),.inv [(.tmp 2 .int),(.cellrow 2 1 3 (.cons .int .nil)),(.cellrow 2 2 3 (.cons .int .nil))])],aL,[],aj⟩) ay vh ax (fun s fn hf=>by rw[Tryz.func55]at hf;cases hf;kernel_rfl) (fun n s=>by kernel_rfl)
def ref22_Resolve_T:Tab:=(55,ref22_Resolve_t)::ref22_has_T
theorem oL:ref22_Resolve_T.ok Tryz.prog:=Tab.ok_cons CD vh
abbrev mH:=Bool
abbrev xV:=Int
def jF(n:Nat)(go0:xV->Option mH)(v0 v1:Lv)(v2:Int):Option mH:=
 (bif v2<(v0.length:Int) then bif 0<=v2 then bif v2<(v1.length:Int) then(bif !((cI v0 v2 0)=(cI v1 v2 0))then some false else bif(-9223372036854775808<=(v2+1))&&((v2+1)<=9223372036854775807)then go0 (v2+1)else none)else none else none else some true)
def Ay(n:Nat)(v0 v1:Lv):Option mH:=
 (bif !((v0.length:Int)=(v1.length:Int))then some false else(ab (fun go0 s=>jF n go0 v0 v1 s) n (0:xV)))
def mK(n:Nat)(v0 v1:Lv):Option mH:=Ay n v0 v1
def ref22_Ints_t:FnT:=⟨[(false,[tSa]),(false,[tSa])],.b,fun n (s:Lv×Lv)=>mK n s.1 s.2⟩
theorem G9:ref22_Ints_t.ok Tryz.prog 87:=FnT.ok_of (cfg:=⟨[((87,4,0),.inv [(.tmp 5 .int)])],aL,[],aj⟩) ay oL ax (fun s fn hf=>by rw[Tryz.func87]at hf;cases hf;kernel_rfl) (fun n s=>by kernel_rfl)
def ref22_Ints_T:Tab:=(87,ref22_Ints_t)::ref22_Resolve_T
theorem tS:ref22_Ints_T.ok Tryz.prog:=Tab.ok_cons G9 oL
abbrev Af:=Bool
def yw(n:Nat)(v0:Int)(v1 v2:Lv)(v3:Int)(v4 v5:Lv):Option Af:=
 (bif v0=v3 then(mK n v1 v4).bind fun y6=>
 (bif y6 then(mK n v2 v5).bind fun y7=>
 some y7 else some false)else some false)
def eS(n:Nat)(v0:Int)(v1 v2:Lv)(v3:Int)(v4 v5:Lv):Option Af:=yw n v0 v1 v2 v3 v4 v5
def ref22_Same_t:FnT:=⟨[(true,[.int,tSa,tSa]),(true,[.int,tSa,tSa])],.b,fun n (s:Int×Lv×Lv×Int×Lv×Lv)=>eS n s.1 s.2.1 s.2.2.1 s.2.2.2.1 s.2.2.2.2.1 s.2.2.2.2.2⟩
theorem F5:ref22_Same_t.ok Tryz.prog 30:=FnT.ok_of (cfg:=⟨[],aL,[],aj⟩) ay tS ax (fun s fn hf=>by rw[Tryz.func30]at hf;cases hf;kernel_rfl) (fun n s=>by kernel_rfl)
def ref22_Same_T:Tab:=(30,ref22_Same_t)::ref22_Ints_T
theorem th:ref22_Same_T.ok Tryz.prog:=Tab.ok_cons F5 tS
abbrev Az:=Int
def zx(n:Nat)(v0 v1:Int):Option Az:=
 (bif v0<0 then bif(-9223372036854775808<=(v0+1))&&((v0+1)<=9223372036854775807)then bif(-9223372036854775808<=(0-(v0+1)))&&((0-(v0+1))<=9223372036854775807)then bif !(v1=0)then some (Int.tmod (0-(v0+1)) v1)else none else none else none else bif !(v1=0)then some (Int.tmod v0 v1)else none)
def bN(n:Nat)(v0 v1:Int):Option Az:=zx n v0 v1
def ref22_pick_t:FnT:=⟨[(false,[.int]),(false,[.int])],.i,fun n (s:Int×Int)=>bN n s.1 s.2⟩
theorem GY:ref22_pick_t.ok Tryz.prog 109:=FnT.ok_of (cfg:=⟨[],aL,[],aj⟩) ay th ax (fun s fn hf=>by rw[Tryz.func109]at hf;cases hf;kernel_rfl) (fun n s=>by kernel_rfl)
def ref22_pick_T:Tab:=(109,ref22_pick_t)::ref22_Same_T
theorem uf:ref22_pick_T.ok Tryz.prog:=Tab.ok_cons GY th
abbrev BJ:=Int×Int×Int×Int×Int
def BH(n:Nat)(v0 v1 v2 v3 v4:Int):Option BJ:=
 (bN n v0 8).bind fun y5=>
 bif(-9223372036854775808<=(10+y5))&&((10+y5)<=9223372036854775807)then bif(-9223372036854775808<=(y5+1))&&((y5+1)<=9223372036854775807)then(bN n v2 7).bind fun y6=>
 bif(-9223372036854775808<=((y5+1)+y6))&&(((y5+1)+y6)<=9223372036854775807)then bif(-9223372036854775808<=(10+(Int.tmod ((y5+1)+y6) 8)))&&((10+(Int.tmod ((y5+1)+y6) 8))<=9223372036854775807)then(bN n v3 50).bind fun y7=>
 bif(-9223372036854775808<=(y7+1))&&((y7+1)<=9223372036854775807)then(bN n v4 60).bind fun y8=>
 bif(-9223372036854775808<=((y7+1)+y8))&&(((y7+1)+y8)<=9223372036854775807)then(bN n v1 8).bind fun y9=>
 (bif 4<y9 then(bN n v1 8).bind fun y10=>
 bif(-9223372036854775808<=(y10-3))&&((y10-3)<=9223372036854775807)then some ((10+y5),(y10-3),(10+(Int.tmod ((y5+1)+y6) 8)),y7,((y7+1)+y8))else none else some ((10+y5),1,(10+(Int.tmod ((y5+1)+y6) 8)),y7,((y7+1)+y8)))else none else none else none else none else none else none
def uz(n:Nat)(v0 v1 v2 v3 v4:Int):Option BJ:=BH n v0 v1 v2 v3 v4
def ref22_One_t:FnT:=⟨[(true,[.int,.int,.int,.int,.int])],(.agg (.cons .i (.cons .i (.cons .i (.cons .i (.cons .i .nil)))))),fun n (s:Int×Int×Int×Int×Int)=>uz n s.1 s.2.1 s.2.2.1 s.2.2.2.1 s.2.2.2.2⟩
theorem IS:ref22_One_t.ok Tryz.prog 107:=FnT.ok_of (cfg:=⟨[],aL,[],aj⟩) ay uf ax (fun s fn hf=>by rw[Tryz.func107]at hf;cases hf;kernel_rfl) (fun n s=>by kernel_rfl)
def ref22_One_T:Tab:=(107,ref22_One_t)::ref22_pick_T
theorem vO:ref22_One_T.ok Tryz.prog:=Tab.ok_cons IS uf
abbrev mA:=Lv
abbrev yi:=Lv×Int
def sC(n:Nat)(go0:yi->Option mA)(v0 v1:Lv)(v2:Int):Option mA:=
 (bif v2<(v0.length:Int) then(bif v2<16 then bif ((v1.length:Int)*40)<=140737488355328 then bif 0<=v2 then(uz n (cI v0 v2 0) (cI v0 v2 1) (cI v0 v2 2) (cI v0 v2 3) (cI v0 v2 4)).bind fun y3=>
 bif (((v1.length:Int)+1)*40)<=140737488355328 then(gY n (v1++[[(AV.int y3.1),(AV.int y3.2.1),(AV.int y3.2.2.1),(AV.int y3.2.2.2.1),(AV.int y3.2.2.2.2)]])).bind fun y8=>
 (bif y8 then bif(-9223372036854775808<=(v2+1))&&((v2+1)<=9223372036854775807)then go0 ((v1++[[(AV.int y3.1),(AV.int y3.2.1),(AV.int y3.2.2.1),(AV.int y3.2.2.2.1),(AV.int y3.2.2.2.2)]]),(v2+1))else none else bif(-9223372036854775808<=(v2+1))&&((v2+1)<=9223372036854775807)then go0 (v1,(v2+1))else none)else none else none else none else some v1)else some v1)
def zw(n:Nat)(v0:Lv):Option mA:=
 (ab (fun go0 s=>sC n go0 v0 s.1 s.2) n ((([]:Lv),0):yi))
def mp(n:Nat)(v0:Lv):Option mA:=zw n v0
def ref22_Made_t:FnT:=⟨[(false,[(.sl (.cons .int (.cons .int (.cons .int (.cons .int (.cons .int .nil))))))])],(.row 162 (.cons .int (.cons .int (.cons .int (.cons .int (.cons .int .nil)))))),fun n (s:Lv)=>mp n s⟩
theorem Hm:ref22_Made_t.ok Tryz.prog 45:=FnT.ok_of (cfg:=⟨[((45,3,0),.inv [(.tmprow 3 162 (.cons .int (.cons .int (.cons .int (.cons .int (.cons .int .nil)))))),(.tmp 4 .int)])],aL,[],aj⟩) ay vO ax (fun s fn hf=>by rw[Tryz.func45]at hf;cases hf;kernel_rfl) (fun n s=>by kernel_rfl)
def ref22_Made_T:Tab:=(45,ref22_Made_t)::ref22_One_T
theorem tN:ref22_Made_T.ok Tryz.prog:=Tab.ok_cons Hm vO
abbrev gg:=Lv
abbrev nx:=Lv×Int
def jt(n:Nat)(go0:nx->Option gg)(v1:Int)(v2:Lv)(v3:Int):Option gg:=
 (bif v3<8 then bif(-9223372036854775808<=(2*v3))&&((2*v3)<=9223372036854775807)then bif 0<=(2*v3) then(bif 0<(Int.tmod (IOp.f .shr v1 (2*v3)) 4) then bif(-9223372036854775808<=(10+v3))&&((10+v3)<=9223372036854775807)then bif(-9223372036854775808<=(1+(Int.tmod (IOp.f .shr v1 (2*v3)) 4)))&&((1+(Int.tmod (IOp.f .shr v1 (2*v3)) 4))<=9223372036854775807)then bif (((v2.length:Int)+1)*16)<=140737488355328 then bif(-9223372036854775808<=(v3+1))&&((v3+1)<=9223372036854775807)then go0 ((v2++[[(AV.int (10+v3)),(AV.int (1+(Int.tmod (IOp.f .shr v1 (2*v3)) 4)))]]),(v3+1))else none else none else none else none else bif(-9223372036854775808<=(v3+1))&&((v3+1)<=9223372036854775807)then go0 (v2,(v3+1))else none)else none else none else some v2)
def oR(n:Nat)(v0:Int):Option gg:=
 (bN n v0 65536).bind fun y1=>
 (ab (fun go0 s=>jt n go0 y1 s.1 s.2) n ((([]:Lv),0):nx))
def fo(n:Nat)(v0:Int):Option gg:=oR n v0
def ref22_Conditions_t:FnT:=⟨[(false,[.int])],(.row 198 (.cons .int (.cons .int .nil))),fun n (s:Int)=>fo n s⟩
theorem yr:ref22_Conditions_t.ok Tryz.prog 46:=FnT.ok_of (cfg:=⟨[((46,4,0),.inv [(.tmprow 3 198 (.cons .int (.cons .int .nil))),(.tmp 5 .int)])],aL,[],aj⟩) ay tN ax (fun s fn hf=>by rw[Tryz.func46]at hf;cases hf;kernel_rfl) (fun n s=>by kernel_rfl)
def ref22_Conditions_T:Tab:=(46,ref22_Conditions_t)::ref22_Made_T
theorem lI:ref22_Conditions_T.ok Tryz.prog:=Tab.ok_cons yr tN
abbrev jD:=Lv×Lv
abbrev iP:=Lv
def l7(n:Nat)(go0:iP->Option jD)(v1:Lv)(v3:Int)(v6:Lv):Option jD:=
 (bN n v3 3).bind fun y7=>
 bif(-9223372036854775808<=(39+y7))&&((39+y7)<=9223372036854775807)then(bif (v6.length:Int)<(39+y7) then bif(-9223372036854775808<=(100+(v6.length:Int)))&&((100+(v6.length:Int))<=9223372036854775807)then bif (((v6.length:Int)+1)*40)<=140737488355328 then go0 (v6++[[(AV.int (100+(v6.length:Int))),(AV.int 1),(AV.int 10),(AV.int 0),(AV.int 5)]])else none else none else some (v6,v1))else none
abbrev In:= @l7
abbrev Iv:= @l7
abbrev I0:= @l7
def JB(n:Nat)(v0 v1:Lv)(v3 v4 v5:Int):Option jD:=
 (bif v5<6 then(bif 0<(v0.length:Int) then(bN n v4 (v0.length:Int)).bind fun y6=>
 bif 0<=y6 then bif y6<(v0.length:Int) then(bif v5=0 then some ((List.modify v0 (y6).toNat (fun r=>r.set 0 (AV.int v3))),v1)else(bif v5=1 then some ((List.modify v0 (y6).toNat (fun r=>r.set 1 (AV.int v3))),v1)else(bif v5=2 then some ((List.modify v0 (y6).toNat (fun r=>r.set 2 (AV.int v3))),v1)else(bif v5=3 then some ((List.modify v0 (y6).toNat (fun r=>r.set 3 (AV.int v3))),v1)else(bif v5=4 then some ((List.modify v0 (y6).toNat (fun r=>r.set 4 (AV.int v3))),v1)else bif (((v0.length:Int)+1)*40)<=140737488355328 then some ((v0++[[(AV.int (cI v0 y6 0)),(AV.int (cI v0 y6 1)),(AV.int (cI v0 y6 2)),(AV.int (cI v0 y6 3)),(AV.int (cI v0 y6 4))]]),v1)else none)))))else none else none else(bif v5<9 then(bif 0<(v1.length:Int) then(bN n v4 (v1.length:Int)).bind fun y6=>
 (bif v5=6 then bif 0<=y6 then bif y6<(v1.length:Int) then some (v0,(List.modify v1 (y6).toNat (fun r=>r.set 0 (AV.int v3))))else none else none else(bif v5=7 then bif 0<=y6 then bif y6<(v1.length:Int) then some (v0,(List.modify v1 (y6).toNat (fun r=>r.set 1 (AV.int v3))))else none else none else bif 0<=y6 then bif y6<(v1.length:Int) then some (v0,(List.modify (List.modify (List.modify (List.modify v1 ((0:Int)).toNat (fun r=>r.set 0 (AV.int (cI v1 y6 0)))) ((0:Int)).toNat (fun r=>r.set 1 (AV.int (cI v1 y6 1)))) (y6).toNat (fun r=>r.set 0 (AV.int (cI v1 0 0)))) (y6).toNat (fun r=>r.set 1 (AV.int (cI v1 0 1)))))else none else none))else(ab (fun go0 s=>l7 n go0 v1 v3 s) n (v0:iP)))else(ab (fun go0 s=>In n go0 v1 v3 s) n (v0:iP))))else(bif v5<9 then(bif 0<(v1.length:Int) then(bN n v4 (v1.length:Int)).bind fun y6=>
 (bif v5=6 then bif 0<=y6 then bif y6<(v1.length:Int) then some (v0,(List.modify v1 (y6).toNat (fun r=>r.set 0 (AV.int v3))))else none else none else(bif v5=7 then bif 0<=y6 then bif y6<(v1.length:Int) then some (v0,(List.modify v1 (y6).toNat (fun r=>r.set 1 (AV.int v3))))else none else none else bif 0<=y6 then bif y6<(v1.length:Int) then some (v0,(List.modify (List.modify (List.modify (List.modify v1 ((0:Int)).toNat (fun r=>r.set 0 (AV.int (cI v1 y6 0)))) ((0:Int)).toNat (fun r=>r.set 1 (AV.int (cI v1 y6 1)))) (y6).toNat (fun r=>r.set 0 (AV.int (cI v1 0 0)))) (y6).toNat (fun r=>r.set 1 (AV.int (cI v1 0 1)))))else none else none))else(ab (fun go0 s=>Iv n go0 v1 v3 s) n (v0:iP)))else(ab (fun go0 s=>I0 n go0 v1 v3 s) n (v0:iP))))
def HX(n:Nat)(v0 v1:Lv)(v2 v3 v4:Int):Option jD:=
 bif ((v0.length:Int)*40)<=140737488355328 then bif ((v1.length:Int)*16)<=140737488355328 then(bN n v2 10).bind fun y5=>
 JB n v0 v1 v3 v4 y5 else none else none
def Dt(n:Nat)(v0 v1:Lv)(v2 v3 v4:Int):Option jD:=HX n v0 v1 v2 v3 v4
def ref22_Bent_t:FnT:=⟨[(false,[(.sl (.cons .int (.cons .int (.cons .int (.cons .int (.cons .int .nil))))))]),(false,[(.sl (.cons .int (.cons .int .nil)))]),(false,[.int]),(false,[.int]),(false,[.int])],(.tup (.cons (.row 1000162 (.cons .int (.cons .int (.cons .int (.cons .int (.cons .int .nil)))))) (.cons (.row 1000198 (.cons .int (.cons .int .nil))) .nil))),fun n (s:Lv×Lv×Int×Int×Int)=>Dt n s.1 s.2.1 s.2.2.1 s.2.2.2.1 s.2.2.2.2⟩
theorem Gm:ref22_Bent_t.ok Tryz.prog 49:=FnT.ok_of (cfg:=⟨[((49,28,4),.inv [(.tmprow 12 162 (.cons .int (.cons .int (.cons .int (.cons .int (.cons .int .nil))))))])],aL,[],aj⟩) ay lI ax (fun s fn hf=>by rw[Tryz.func49]at hf;cases hf;kernel_rfl) (fun n s=>by kernel_rfl)
def ref22_Bent_T:Tab:=(49,ref22_Bent_t)::ref22_Conditions_T
theorem tH:ref22_Bent_T.ok Tryz.prog:=Tab.ok_cons Gm lI
abbrev pN:=Int×Lv×Lv
def pz(n:Nat)(v0:Int)(v1 v2:Lv)(v3 v4:Int):Option pN:=
 bif ((v1.length:Int)*8)<=140737488355328 then bif ((v2.length:Int)*8)<=140737488355328 then(bN n v3 5).bind fun y5=>
 (bif y5=0 then some (v4,v1,v2)else(bif y5=1 then bif (((v1.length:Int)+1)*8)<=140737488355328 then some (v0,(v1++[[(AV.int v4)]]),v2)else none else(bif y5=2 then bif (((v2.length:Int)+1)*8)<=140737488355328 then some (v0,v1,(v2++[[(AV.int v4)]]))else none else(bif y5=3 then(bif 0<(v1.length:Int) then bif(-9223372036854775808<=((v1.length:Int)-1))&&(((v1.length:Int)-1)<=9223372036854775807)then bif 0<=((v1.length:Int)-1) then bif ((v1.length:Int)-1)<=(v1.length:Int) then some (v0,(List.take (((v1.length:Int)-1)).toNat v1),v2)else none else none else none else some (v0,v1,v2))else(bif 0<(v2.length:Int) then bif(-9223372036854775808<=(Int.tdiv v3 5))&&((Int.tdiv v3 5)<=9223372036854775807)then(bN n (Int.tdiv v3 5) (v2.length:Int)).bind fun y6=>
 bif 0<=y6 then bif y6<(v2.length:Int) then some (v0,v1,(List.modify v2 (y6).toNat (fun r=>r.set 0 (AV.int v4))))else none else none else none else some (v0,v1,v2))))))else none else none
def jr(n:Nat)(v0:Int)(v1 v2:Lv)(v3 v4:Int):Option pN:=pz n v0 v1 v2 v3 v4
def ref22_BentRoute_t:FnT:=⟨[(true,[.int,tSa,tSa]),(false,[.int]),(false,[.int])],(.agg (.cons .i (.cons (.row 1000003 (.cons .int .nil)) (.cons (.row 1000003 (.cons .int .nil)) .nil)))),fun n (s:Int×Lv×Lv×Int×Int)=>jr n s.1 s.2.1 s.2.2.1 s.2.2.2.1 s.2.2.2.2⟩
theorem AA:ref22_BentRoute_t.ok Tryz.prog 62:=FnT.ok_of (cfg:=⟨[],aL,[],aj⟩) ay tH ax (fun s fn hf=>by rw[Tryz.func62]at hf;cases hf;kernel_rfl) (fun n s=>by kernel_rfl)
def ref22_BentRoute_T:Tab:=(62,ref22_BentRoute_t)::ref22_Bent_T
theorem mB:ref22_BentRoute_T.ok Tryz.prog:=Tab.ok_cons AA tH
abbrev jp:=Bool
abbrev rB:=Int
def DD(n:Nat)(go0:rB->Option jp)(v0:Lv)(v1:Int):Option jp:=
 (bif v1<(v0.length:Int) then bif 0<=v1 then(bif (-1)<=(cI v0 v1 0) then(bif !((cI v0 v1 0)<=7)then some false else bif(-9223372036854775808<=(v1+1))&&((v1+1)<=9223372036854775807)then go0 (v1+1)else none)else some false)else none else some true)
def CN(n:Nat)(v0:Lv):Option jp:=
 (bif 1<=(v0.length:Int) then(bif !((v0.length:Int)<=30)then some false else(ab (fun go0 s=>DD n go0 v0 s) n (0:rB)))else some false)
def yk(n:Nat)(v0:Lv):Option jp:=CN n v0
def ref24_holders_t:FnT:=⟨[(false,[tSa])],.b,fun n (s:Lv)=>yk n s⟩
theorem CH:ref24_holders_t.ok Tryz.prog 150:=FnT.ok_of (cfg:=⟨[((150,4,0),.inv [(.tmp 3 .int)])],aL,[],aj⟩) ay mB ax (fun s fn hf=>by rw[Tryz.func150]at hf;cases hf;kernel_rfl) (fun n s=>by kernel_rfl)
def ref24_holders_T:Tab:=(150,ref24_holders_t)::ref22_BentRoute_T
theorem oF:ref24_holders_T.ok Tryz.prog:=Tab.ok_cons CH mB
abbrev cG:=Bool
abbrev dA:=Int
def Gg(n:Nat)(go0:dA->Option cG)(go1:dA->Option cG)(v0 v1:Lv)(v4 v5:Int):Option cG:=
 (bif v5<=((v0.length:Int)-1) then bif 0<=v5 then bif v5<(v0.length:Int) then bif(-9223372036854775808<=(v5-1))&&((v5-1)<=9223372036854775807)then bif 0<=(v5-1) then bif (v5-1)<(v0.length:Int) then(bif !((cI v0 v5 0)=(cI v0 (v5-1) 0))then(bif (cI v0 v5 0)=v4 then(bif (cI v1 v4 0)<v5 then some false else bif(-9223372036854775808<=(v5+1))&&((v5+1)<=9223372036854775807)then go1 (v5+1)else none)else(bif (cI v0 (v5-1) 0)=v4 then(bif (cI v1 v4 0)<v5 then some false else bif(-9223372036854775808<=(v5+1))&&((v5+1)<=9223372036854775807)then go1 (v5+1)else none)else bif(-9223372036854775808<=(v5+1))&&((v5+1)<=9223372036854775807)then go1 (v5+1)else none))else bif(-9223372036854775808<=(v5+1))&&((v5+1)<=9223372036854775807)then go1 (v5+1)else none)else none else none else none else none else none else bif(-9223372036854775808<=(v4+1))&&((v4+1)<=9223372036854775807)then go0 (v4+1)else none)
def Hc(n:Nat)(go0:dA->Option cG)(go1:dA->Option cG)(v0:Lv)(v4 v5:Int):Option cG:=
 (bif v5<=((v0.length:Int)-1) then bif 0<=v5 then bif v5<(v0.length:Int) then bif(-9223372036854775808<=(v5-1))&&((v5-1)<=9223372036854775807)then bif 0<=(v5-1) then bif (v5-1)<(v0.length:Int) then(bif !((cI v0 v5 0)=(cI v0 (v5-1) 0))then(bif (cI v0 v5 0)=v4 then bif(-9223372036854775808<=(v5+1))&&((v5+1)<=9223372036854775807)then go1 (v5+1)else none else(bif (cI v0 (v5-1) 0)=v4 then bif(-9223372036854775808<=(v5+1))&&((v5+1)<=9223372036854775807)then go1 (v5+1)else none else bif(-9223372036854775808<=(v5+1))&&((v5+1)<=9223372036854775807)then go1 (v5+1)else none))else bif(-9223372036854775808<=(v5+1))&&((v5+1)<=9223372036854775807)then go1 (v5+1)else none)else none else none else none else none else none else bif(-9223372036854775808<=(v4+1))&&((v4+1)<=9223372036854775807)then go0 (v4+1)else none)
def G3(n:Nat)(go0:dA->Option cG)(v0 v1:Lv)(v2 v4:Int):Option cG:=
 (bif v4<(v1.length:Int) then bif 0<=v4 then(bif (-1)<=(cI v1 v4 0) then(bif !((cI v1 v4 0)<=((v0.length:Int)-1))then some false else(bif 0<=(cI v1 v4 0) then bif(-9223372036854775808<=(((v0.length:Int)-1)-v2))&&((((v0.length:Int)-1)-v2)<=9223372036854775807)then(bif (cI v1 v4 0)<(((v0.length:Int)-1)-v2) then some false else(ab (fun go1 s=>Gg n go0 go1 v0 v1 v4 s) n (1:dA)))else none else(ab (fun go1 s=>Hc n go0 go1 v0 v4 s) n (1:dA))))else some false)else none else some true)
def Gn(n:Nat)(v0 v1:Lv)(v2:Int):Option cG:=
 (yk n v0).bind fun y3=>
 (bif(!y3)then some false else(bif !((v1.length:Int)=8)then some false else(bif 0<=v2 then(bif !(v2<=10)then some false else bif(-9223372036854775808<=((v0.length:Int)-1))&&(((v0.length:Int)-1)<=9223372036854775807)then(ab (fun go0 s=>G3 n go0 v0 v1 v2 s) n (0:dA))else none)else some false)))
def uA(n:Nat)(v0 v1:Lv)(v2:Int):Option cG:=Gn n v0 v1 v2
def ref24_Valid_t:FnT:=⟨[(false,[tSa]),(false,[tSa]),(false,[.int])],.b,fun n (s:Lv×Lv×Int)=>uA n s.1 s.2.1 s.2.2⟩
theorem Fe:ref24_Valid_t.ok Tryz.prog 76:=FnT.ok_of (cfg:=⟨[((76,5,0),.inv [(.tmp 8 .int)]),((76,10,1),.inv [(.tmp 9 .int)])],aL,[],aj⟩) ay oF ax (fun s fn hf=>by rw[Tryz.func76]at hf;cases hf;kernel_rfl) (fun n s=>by kernel_rfl)
def ref24_Valid_T:Tab:=(76,ref24_Valid_t)::ref24_holders_T
theorem qD:ref24_Valid_T.ok Tryz.prog:=Tab.ok_cons Fe oF
abbrev mG:=Lv×Int×Int
abbrev xL:=Lv×Int×Int
def Ie(n:Nat)(go0:xL->Option mG)(v0 v1 v5:Lv)(v6 v7:Int):Option mG:=
 bif 0<=v6 then bif v6<(v1.length:Int) then bif 0<=(ba (cI v1 v6 0) v7) then bif (ba (cI v1 v6 0) v7)<(v0.length:Int) then(bif (cI v0 (ba (cI v1 v6 0) v7) 0)=v6 then bif (((v5.length:Int)+1)*16)<=140737488355328 then some ((v5++[[(AV.int v6),(AV.int (ba (cI v1 v6 0) v7))]]),1,0)else none else(bif (cI v0 (ba (cI v1 v6 0) v7) 0)=(-1) then bif (((v5.length:Int)+1)*16)<=140737488355328 then some ((v5++[[(AV.int v6),(AV.int (ba (cI v1 v6 0) v7))]]),2,0)else none else bif 0<=(cI v0 (ba (cI v1 v6 0) v7) 0) then bif (cI v0 (ba (cI v1 v6 0) v7) 0)<(v1.length:Int) then(bif (cI v1 (cI v0 (ba (cI v1 v6 0) v7) 0) 0)<0 then bif (((v5.length:Int)+1)*16)<=140737488355328 then some ((v5++[[(AV.int v6),(AV.int (ba (cI v1 v6 0) v7))]]),3,0)else none else bif (((v5.length:Int)+1)*16)<=140737488355328 then go0 ((v5++[[(AV.int v6),(AV.int (ba (cI v1 v6 0) v7))]]),(cI v0 (ba (cI v1 v6 0) v7) 0),(ba (cI v1 v6 0) v7))else none)else none else none))else none else none else none else none
def Jp(n:Nat)(v0 v1:Lv)(v2 v3:Int):Option mG:=
 (uA n v0 v1 v2).bind fun y4=>
 (bif(!y4)then some (([]:Lv),0,240)else(bif 0<=v3 then(bif !(v3<=7)then some (([]:Lv),0,240)else bif v3<(v1.length:Int) then(bif !(0<=(cI v1 v3 0))then some (([]:Lv),0,240)else(ab (fun go0 s=>Ie n go0 v0 v1 s.1 s.2.1 s.2.2) n ((([]:Lv),v3,(-1)):xL)))else none)else some (([]:Lv),0,240)))
def qj(n:Nat)(v0 v1:Lv)(v2 v3:Int):Option mG:=Jp n v0 v1 v2 v3
def ref24_Path_t:FnT:=⟨[(false,[tSa]),(false,[tSa]),(false,[.int]),(false,[.int])],(.tup (.cons (.row 94 (.cons .int (.cons .int .nil))) (.cons .i (.cons .i .nil)))),fun n (s:Lv×Lv×Int×Int)=>qj n s.1 s.2.1 s.2.2.1 s.2.2.2⟩
theorem Gd:ref24_Path_t.ok Tryz.prog 57:=FnT.ok_of (cfg:=⟨[((57,7,0),.inv [(.tmprow 11 94 (.cons .int (.cons .int .nil))),(.tmp 3 .int),(.tmp 12 .int)])],aL,[],aj⟩) ay qD ax (fun s fn hf=>by rw[Tryz.func57]at hf;cases hf;kernel_rfl) (fun n s=>by kernel_rfl)
def ref24_Path_T:Tab:=(57,ref24_Path_t)::ref24_Valid_T
theorem tp:ref24_Path_T.ok Tryz.prog:=Tab.ok_cons Gd qD
abbrev mN:=Bool
abbrev xZ:=Int
def jP(n:Nat)(go0:xZ->Option mN)(v0 v1:Lv)(v2:Int):Option mN:=
 (bif v2<(v0.length:Int) then bif 0<=v2 then bif v2<(v1.length:Int) then(bif(!((decide ((cI v0 v2 0)=(cI v1 v2 0)))&&(decide ((cI v0 v2 1)=(cI v1 v2 1)))))then some false else bif(-9223372036854775808<=(v2+1))&&((v2+1)<=9223372036854775807)then go0 (v2+1)else none)else none else none else some true)
def Ak(n:Nat)(v0 v1:Lv):Option mN:=
 (bif !((v0.length:Int)=(v1.length:Int))then some false else(ab (fun go0 s=>jP n go0 v0 v1 s) n (0:xZ)))
def eR(n:Nat)(v0 v1:Lv):Option mN:=Ak n v0 v1
def ref24_Same_t:FnT:=⟨[(false,[(.sl (.cons .int (.cons .int .nil)))]),(false,[(.sl (.cons .int (.cons .int .nil)))])],.b,fun n (s:Lv×Lv)=>eR n s.1 s.2⟩
theorem Gt:ref24_Same_t.ok Tryz.prog 27:=FnT.ok_of (cfg:=⟨[((27,4,0),.inv [(.tmp 5 .int)])],aL,[],aj⟩) ay tp ax (fun s fn hf=>by rw[Tryz.func27]at hf;cases hf;kernel_rfl) (fun n s=>by kernel_rfl)
def ref24_Same_T:Tab:=(27,ref24_Same_t)::ref24_Path_T
theorem ux:ref24_Same_T.ok Tryz.prog:=Tab.ok_cons Gt tp
abbrev zR:=Int
def zP(n:Nat)(v0 v1:Int):Option zR:=
 (bif v0<0 then bif(-9223372036854775808<=(v0+1))&&((v0+1)<=9223372036854775807)then bif(-9223372036854775808<=(0-(v0+1)))&&((0-(v0+1))<=9223372036854775807)then bif !(v1=0)then some (Int.tmod (0-(v0+1)) v1)else none else none else none else bif !(v1=0)then some (Int.tmod v0 v1)else none)
def dv(n:Nat)(v0 v1:Int):Option zR:=zP n v0 v1
def ref24_pick_t:FnT:=⟨[(false,[.int]),(false,[.int])],.i,fun n (s:Int×Int)=>dv n s.1 s.2⟩
theorem GT:ref24_pick_t.ok Tryz.prog 110:=FnT.ok_of (cfg:=⟨[],aL,[],aj⟩) ay ux ax (fun s fn hf=>by rw[Tryz.func110]at hf;cases hf;kernel_rfl) (fun n s=>by kernel_rfl)
def ref24_pick_T:Tab:=(110,ref24_pick_t)::ref24_Same_T
theorem tZ:ref24_pick_T.ok Tryz.prog:=Tab.ok_cons GT ux
abbrev iS:=Int
abbrev jY:=Int×Int
def eH(n:Nat)(go0:jY->Option iS)(v0:Lv)(v2 v3 v4:Int):Option iS:=
 (bif v4<=((v0.length:Int)-1) then bif 0<=v4 then bif v4<(v0.length:Int) then bif(-9223372036854775808<=(v4-1))&&((v4-1)<=9223372036854775807)then bif 0<=(v4-1) then bif (v4-1)<(v0.length:Int) then(bif !((cI v0 v4 0)=(cI v0 (v4-1) 0))then(bif (cI v0 v4 0)=v2 then bif(-9223372036854775808<=(v4+1))&&((v4+1)<=9223372036854775807)then go0 ((ba v3 v4),(v4+1))else none else(bif (cI v0 (v4-1) 0)=v2 then bif(-9223372036854775808<=(v4+1))&&((v4+1)<=9223372036854775807)then go0 ((ba v3 v4),(v4+1))else none else bif(-9223372036854775808<=(v4+1))&&((v4+1)<=9223372036854775807)then go0 (v3,(v4+1))else none))else bif(-9223372036854775808<=(v4+1))&&((v4+1)<=9223372036854775807)then go0 (v3,(v4+1))else none)else none else none else none else none else none else some v3)
def xW(n:Nat)(v0:Lv)(v1 v2:Int):Option iS:=
 bif(-9223372036854775808<=((v0.length:Int)-1))&&(((v0.length:Int)-1)<=9223372036854775807)then bif(-9223372036854775808<=(((v0.length:Int)-1)-v1))&&((((v0.length:Int)-1)-v1)<=9223372036854775807)then(ab (fun go0 s=>eH n go0 v0 v2 s.1 s.2) n (((ba 0 (((v0.length:Int)-1)-v1)),1):jY))else none else none
def oh(n:Nat)(v0:Lv)(v1 v2:Int):Option iS:=xW n v0 v1 v2
def ref24_Least_t:FnT:=⟨[(false,[tSa]),(false,[.int]),(false,[.int])],.i,fun n (s:Lv×Int×Int)=>oh n s.1 s.2.1 s.2.2⟩
theorem Er:ref24_Least_t.ok Tryz.prog 183:=FnT.ok_of (cfg:=⟨[((183,4,0),.inv [(.tmp 8 .int),(.tmp 9 .int)])],aL,[],aj⟩) ay tZ ax (fun s fn hf=>by rw[Tryz.func183]at hf;cases hf;kernel_rfl) (fun n s=>by kernel_rfl)
def ref24_Least_T:Tab:=(183,ref24_Least_t)::ref24_pick_T
theorem qE:ref24_Least_T.ok Tryz.prog:=Tab.ok_cons Er tZ
abbrev lm:=Lv
abbrev wd:=Lv×Int
def pi(n:Nat)(go0:wd->Option lm)(v0:Lv)(v1:Int)(v2 v3:Lv)(v4:Int):Option lm:=
 (bif v4<=7 then(oh n v0 v1 v4).bind fun y5=>
 (bif v4<(v2.length:Int) then bif 0<=v4 then bif(-9223372036854775808<=(Int.tdiv (cI v2 v4 0) 16))&&((Int.tdiv (cI v2 v4 0) 16)<=9223372036854775807)then bif(-9223372036854775808<=((v0.length:Int)-y5))&&(((v0.length:Int)-y5)<=9223372036854775807)then(dv n (Int.tdiv (cI v2 v4 0) 16) ((v0.length:Int)-y5)).bind fun y6=>
 bif(-9223372036854775808<=(y5+y6))&&((y5+y6)<=9223372036854775807)then(dv n (cI v2 v4 0) 16).bind fun y7=>
 (bif y7=15 then bif (((v3.length:Int)+1)*8)<=140737488355328 then bif(-9223372036854775808<=(v4+1))&&((v4+1)<=9223372036854775807)then go0 ((v3++[[(AV.int (-1))]]),(v4+1))else none else none else bif (((v3.length:Int)+1)*8)<=140737488355328 then bif(-9223372036854775808<=(v4+1))&&((v4+1)<=9223372036854775807)then go0 ((v3++[[(AV.int (y5+y6))]]),(v4+1))else none else none)else none else none else none else none else bif(-9223372036854775808<=((v0.length:Int)-y5))&&(((v0.length:Int)-y5)<=9223372036854775807)then(dv n 0 ((v0.length:Int)-y5)).bind fun y6=>
 bif(-9223372036854775808<=(y5+y6))&&((y5+y6)<=9223372036854775807)then(dv n 0 16).bind fun y7=>
 (bif y7=15 then bif (((v3.length:Int)+1)*8)<=140737488355328 then bif(-9223372036854775808<=(v4+1))&&((v4+1)<=9223372036854775807)then go0 ((v3++[[(AV.int (-1))]]),(v4+1))else none else none else bif (((v3.length:Int)+1)*8)<=140737488355328 then bif(-9223372036854775808<=(v4+1))&&((v4+1)<=9223372036854775807)then go0 ((v3++[[(AV.int (y5+y6))]]),(v4+1))else none else none)else none else none)else some v3)
def ym(n:Nat)(v0:Lv)(v1:Int)(v2:Lv):Option lm:=
 (ab (fun go0 s=>pi n go0 v0 v1 v2 s.1 s.2) n ((([]:Lv),0):wd))
def gx(n:Nat)(v0:Lv)(v1:Int)(v2:Lv):Option lm:=ym n v0 v1 v2
def ref24_Known_t:FnT:=⟨[(false,[tSa]),(false,[.int]),(false,[tSa])],(.row 3 (.cons .int .nil)),fun n (s:Lv×Int×Lv)=>gx n s.1 s.2.1 s.2.2⟩
theorem E2:ref24_Known_t.ok Tryz.prog 111:=FnT.ok_of (cfg:=⟨[((111,3,0),.inv [(.tmprow 7 3 (.cons .int .nil)),(.tmp 8 .int)])],aL,[],aj⟩) ay qE ax (fun s fn hf=>by rw[Tryz.func111]at hf;cases hf;kernel_rfl) (fun n s=>by kernel_rfl)
def ref24_Known_T:Tab:=(111,ref24_Known_t)::ref24_Least_T
theorem rU:ref24_Known_T.ok Tryz.prog:=Tab.ok_cons E2 qE
abbrev mO:=Lv×Lv×Int
abbrev iO:=Lv×Int
def gW(n:Nat)(go0:iO->Option mO)(v0 v1:Lv)(v2:Int)(v4:Lv)(v5:Int):Option mO:=
 (bif v5<(v0.length:Int) then(bif v5<12 then bif 0<=v5 then(dv n (cI v0 v5 0) 9).bind fun y6=>
 bif(-9223372036854775808<=(y6-1))&&((y6-1)<=9223372036854775807)then bif (((v4.length:Int)+1)*8)<=140737488355328 then bif(-9223372036854775808<=(v5+1))&&((v5+1)<=9223372036854775807)then go0 ((v4++[[(AV.int (y6-1))]]),(v5+1))else none else none else none else none else(dv n v2 11).bind fun y6=>
 (gx n v4 y6 v1).bind fun y7=>
 some (v4,y7,y6))else(dv n v2 11).bind fun y6=>
 (gx n v4 y6 v1).bind fun y7=>
 some (v4,y7,y6))
abbrev Iu:= @gW
def zF(n:Nat)(v0 v1:Lv)(v2:Int):Option mO:=
 (bif 0<(v0.length:Int) then(dv n (cI v0 0 0) 9).bind fun y3=>
 bif(-9223372036854775808<=(y3-1))&&((y3-1)<=9223372036854775807)then(ab (fun go0 s=>gW n go0 v0 v1 v2 s.1 s.2) n (((List.modify (([]:Lv)++[[(AV.int 0)]]) ((0:Int)).toNat (fun r=>r.set 0 (AV.int (y3-1)))),1):iO))else none else(ab (fun go0 s=>Iu n go0 v0 v1 v2 s.1 s.2) n (((([]:Lv)++[[(AV.int 0)]]),1):iO)))
def qb(n:Nat)(v0 v1:Lv)(v2:Int):Option mO:=zF n v0 v1 v2
def ref24_Made_t:FnT:=⟨[(false,[tSa]),(false,[tSa]),(false,[.int])],(.tup (.cons (.row 3 (.cons .int .nil)) (.cons (.row 3 (.cons .int .nil)) (.cons .i .nil)))),fun n (s:Lv×Lv×Int)=>qb n s.1 s.2.1 s.2.2⟩
theorem GD:ref24_Made_t.ok Tryz.prog 47:=FnT.ok_of (cfg:=⟨[((47,5,2),.inv [(.tmprow 9 3 (.cons .int .nil)),(.tmp 10 .int)]),((47,5,1),.inv [(.tmprow 9 3 (.cons .int .nil)),(.tmp 10 .int)])],aL,[],aj⟩) ay rU ax (fun s fn hf=>by rw[Tryz.func47]at hf;cases hf;kernel_rfl) (fun n s=>by kernel_rfl)
def ref24_Made_T:Tab:=(47,ref24_Made_t)::ref24_Known_T
theorem tx:ref24_Made_T.ok Tryz.prog:=Tab.ok_cons GD rU
abbrev lp:=Bool
abbrev wh:=Int
def Hs(n:Nat)(go0:wh->Option lp)(v0:Int)(v1:Lv)(v2:Int):Option lp:=
 (bif v2<(v1.length:Int) then bif 0<=v2 then bif(-9223372036854775808<=(v0-1))&&((v0-1)<=9223372036854775807)then(bif 0<=(cI v1 v2 0) then(bif !((cI v1 v2 0)<=(v0-1))then some false else(bif 0<=(cI v1 v2 1) then(bif !((cI v1 v2 1)<=(v0-1))then some false else(bif (cI v1 v2 0)=(cI v1 v2 1) then some false else(bif 0<=(cI v1 v2 2) then(bif !((cI v1 v2 2)<=10000)then some false else bif(-9223372036854775808<=(v2+1))&&((v2+1)<=9223372036854775807)then go0 (v2+1)else none)else some false)))else some false))else some false)else none else none else some true)
def Ge(n:Nat)(v0:Int)(v1:Lv):Option lp:=
 (bif 0<=v0 then(bif !(v0<=12)then some false else(bif 40<(v1.length:Int) then some false else(ab (fun go0 s=>Hs n go0 v0 v1 s) n (0:wh))))else some false)
def uX(n:Nat)(v0:Int)(v1:Lv):Option lp:=Ge n v0 v1
def ref27_Valid_t:FnT:=⟨[(true,[.int,tSc])],.b,fun n (s:Int×Lv)=>uX n s.1 s.2⟩
theorem EY:ref27_Valid_t.ok Tryz.prog 78:=FnT.ok_of (cfg:=⟨[((78,4,1),.inv [(.tmp 3 .int)])],aL,[],aj⟩) ay tx ax (fun s fn hf=>by rw[Tryz.func78]at hf;cases hf;kernel_rfl) (fun n s=>by kernel_rfl)
def ref27_Valid_T:Tab:=(78,ref27_Valid_t)::ref24_Made_T
theorem qW:ref27_Valid_T.ok Tryz.prog:=Tab.ok_cons EY tx
abbrev j7:=Int
abbrev sQ:=Int×Int
def EQ(n:Nat)(go0:sQ->Option j7)(v1:Lv)(v2 v3 v4:Int):Option j7:=
 (bif v4<(v1.length:Int) then bif 0<=v4 then bif 0<=(cI v1 v4 0) then(bif (Int.tmod (IOp.f .shr v2 (cI v1 v4 0)) 2)=1 then bif 0<=(cI v1 v4 1) then(bif !((Int.tmod (IOp.f .shr v2 (cI v1 v4 1)) 2)=1)then bif(-9223372036854775808<=(v3+(cI v1 v4 2)))&&((v3+(cI v1 v4 2))<=9223372036854775807)then bif(-9223372036854775808<=(v4+1))&&((v4+1)<=9223372036854775807)then go0 ((v3+(cI v1 v4 2)),(v4+1))else none else none else bif(-9223372036854775808<=(v4+1))&&((v4+1)<=9223372036854775807)then go0 (v3,(v4+1))else none)else none else bif(-9223372036854775808<=(v4+1))&&((v4+1)<=9223372036854775807)then go0 (v3,(v4+1))else none)else none else none else some v3)
def EA(n:Nat)(v1:Lv)(v2:Int):Option j7:=
 (ab (fun go0 s=>EQ n go0 v1 v2 s.1 s.2) n ((0,0):sQ))
def sE(n:Nat)(v0:Int)(v1:Lv)(v2:Int):Option j7:=EA n v1 v2
def ref27_Leaves_t:FnT:=⟨[(true,[.int,tSc]),(false,[.int])],.i,fun n (s:Int×Lv×Int)=>sE n s.1 s.2.1 s.2.2⟩
theorem C9:ref27_Leaves_t.ok Tryz.prog 122:=FnT.ok_of (cfg:=⟨[((122,3,1),.inv [(.tmp 5 .int),(.tmp 6 .int)])],aL,[],aj⟩) ay qW ax (fun s fn hf=>by rw[Tryz.func122]at hf;cases hf;kernel_rfl) (fun n s=>by kernel_rfl)
def ref27_Leaves_T:Tab:=(122,ref27_Leaves_t)::ref27_Valid_T
theorem pw:ref27_Leaves_T.ok Tryz.prog:=Tab.ok_cons C9 qW
abbrev kW:=Int×Int
abbrev vR:=Int×Int×Int
def Gw(n:Nat)(go0:vR->Option kW)(v0:Int)(v1:Lv)(v2 v3 v4 v5 v6:Int):Option kW:=
 bif 0<=v0 then(bif v6<(IOp.f .shl 1 v0) then bif 0<=v2 then(bif !((Int.tmod (IOp.f .shr v6 v2) 2)=1)then bif(-9223372036854775808<=(v6+1))&&((v6+1)<=9223372036854775807)then go0 (v4,v5,(v6+1))else none else bif 0<=v3 then(bif (Int.tmod (IOp.f .shr v6 v3) 2)=1 then bif(-9223372036854775808<=(v6+1))&&((v6+1)<=9223372036854775807)then go0 (v4,v5,(v6+1))else none else(sE n v0 v1 v6).bind fun y7=>
 (bif v4<0 then bif(-9223372036854775808<=(v6+1))&&((v6+1)<=9223372036854775807)then go0 (y7,v6,(v6+1))else none else(bif y7<v4 then bif(-9223372036854775808<=(v6+1))&&((v6+1)<=9223372036854775807)then go0 (y7,v6,(v6+1))else none else(bif y7=v4 then bif(-9223372036854775808<=(v6+1))&&((v6+1)<=9223372036854775807)then go0 (v4,(IOp.f .and v5 v6),(v6+1))else none else bif(-9223372036854775808<=(v6+1))&&((v6+1)<=9223372036854775807)then go0 (v4,v5,(v6+1))else none))))else none)else none else some (v4,v5))else none
def GO(n:Nat)(v0:Int)(v1:Lv)(v2 v3:Int):Option kW:=
 (ab (fun go0 s=>Gw n go0 v0 v1 v2 v3 s.1 s.2.1 s.2.2) n (((-1),0,0):vR))
def BQ(n:Nat)(v0:Int)(v1:Lv)(v2 v3:Int):Option kW:=GO n v0 v1 v2 v3
def ref27_Least_t:FnT:=⟨[(true,[.int,tSc]),(false,[.int]),(false,[.int])],(.tup (.cons .i (.cons .i .nil))),fun n (s:Int×Lv×Int×Int)=>BQ n s.1 s.2.1 s.2.2.1 s.2.2.2⟩
theorem Eq:ref27_Least_t.ok Tryz.prog 59:=FnT.ok_of (cfg:=⟨[((59,4,1),.inv [(.tmp 8 .int),(.tmp 9 .int),(.tmp 10 .int)])],aL,[],aj⟩) ay pw ax (fun s fn hf=>by rw[Tryz.func59]at hf;cases hf;kernel_rfl) (fun n s=>by kernel_rfl)
def ref27_Least_T:Tab:=(59,ref27_Least_t)::ref27_Leaves_T
theorem rZ:ref27_Least_T.ok Tryz.prog:=Tab.ok_cons Eq pw
abbrev rR:=Int×Bool
def B1(n:Nat)(v0:Int)(v1:Lv)(v2 v3 v4:Int):Option rR:=
 (uX n v0 v1).bind fun y5=>
 (bif y5 then bif(-9223372036854775808<=(v0-1))&&((v0-1)<=9223372036854775807)then(bif 0<=v2 then(bif v2<=(v0-1) then(bif 0<=v3 then(bif v3<=(v0-1) then(bif((decide (v2=v3))==true)then some (0,false)else bif 0<=v0 then bif(-9223372036854775808<=((IOp.f .shl 1 v0)-1))&&(((IOp.f .shl 1 v0)-1)<=9223372036854775807)then(bif 0<=v4 then(bif !(v4<=((IOp.f .shl 1 v0)-1))then some (0,false)else(bif !((Int.tmod (IOp.f .shr v4 v2) 2)=1)then some (0,false)else(bif (Int.tmod (IOp.f .shr v4 v3) 2)=1 then some (0,false)else(sE n v0 v1 v4).bind fun y6=>
 some (y6,true))))else some (0,false))else none else none)else some (0,false))else some (0,false))else some (0,false))else some (0,false))else none else some (0,false))
def we(n:Nat)(v0:Int)(v1:Lv)(v2 v3 v4:Int):Option rR:=B1 n v0 v1 v2 v3 v4
def ref27_CheckCut_t:FnT:=⟨[(true,[.int,tSc]),(false,[.int]),(false,[.int]),(false,[.int])],(.tup (.cons .i (.cons .b .nil))),fun n (s:Int×Lv×Int×Int×Int)=>we n s.1 s.2.1 s.2.2.1 s.2.2.2.1 s.2.2.2.2⟩
theorem Br:ref27_CheckCut_t.ok Tryz.prog 68:=FnT.ok_of (cfg:=⟨[],aL,[],aj⟩) ay rZ ax (fun s fn hf=>by rw[Tryz.func68]at hf;cases hf;kernel_rfl) (fun n s=>by kernel_rfl)
def ref27_CheckCut_T:Tab:=(68,ref27_CheckCut_t)::ref27_Least_T
theorem nA:ref27_CheckCut_T.ok Tryz.prog:=Tab.ok_cons Br rZ
abbrev As:=Int
def If(n:Nat)(v0 v1:Int):Option As:=
 (bif v0<0 then bif(-9223372036854775808<=(v0+1))&&((v0+1)<=9223372036854775807)then bif(-9223372036854775808<=(0-(v0+1)))&&((0-(v0+1))<=9223372036854775807)then bif !(v1=0)then some (Int.tmod (0-(v0+1)) v1)else none else none else none else bif !(v1=0)then some (Int.tmod v0 v1)else none)
def qc(n:Nat)(v0 v1:Int):Option As:=If n v0 v1
def ref27_pick_t:FnT:=⟨[(false,[.int]),(false,[.int])],.i,fun n (s:Int×Int)=>qc n s.1 s.2⟩
theorem Gi:ref27_pick_t.ok Tryz.prog 112:=FnT.ok_of (cfg:=⟨[],aL,[],aj⟩) ay nA ax (fun s fn hf=>by rw[Tryz.func112]at hf;cases hf;kernel_rfl) (fun n s=>by kernel_rfl)
def ref27_pick_T:Tab:=(112,ref27_pick_t)::ref27_CheckCut_T
theorem sT:ref27_pick_T.ok Tryz.prog:=Tab.ok_cons Gi nA
abbrev mD:=Int×Lv
abbrev xJ:=Lv
def Jk(n:Nat)(go0:xJ->Option mD)(v0 v3 v5:Int)(v7:Lv):Option mD:=
 (qc n v3 3).bind fun y8=>
 bif(-9223372036854775808<=(39+y8))&&((39+y8)<=9223372036854775807)then(bif (v7.length:Int)<(39+y8) then bif 0<=v5 then bif v5<(v7.length:Int) then bif (((v7.length:Int)+1)*24)<=140737488355328 then go0 (v7++[[(AV.int (cI v7 v5 0)),(AV.int (cI v7 v5 1)),(AV.int (cI v7 v5 2))]])else none else none else none else some (v0,v7))else none
def HF(n:Nat)(v0:Int)(v1:Lv)(v2 v3 v4:Int):Option mD:=
 bif ((v1.length:Int)*24)<=140737488355328 then(bif (v1.length:Int)=0 then some (v3,v1)else(qc n v4 (v1.length:Int)).bind fun y5=>
 (qc n v2 5).bind fun y6=>
 (bif y6=0 then some (v3,v1)else(bif y6=1 then bif 0<=y5 then bif y5<(v1.length:Int) then some (v0,(List.modify v1 (y5).toNat (fun r=>r.set 0 (AV.int v3))))else none else none else(bif y6=2 then bif 0<=y5 then bif y5<(v1.length:Int) then some (v0,(List.modify v1 (y5).toNat (fun r=>r.set 1 (AV.int v3))))else none else none else(bif y6=3 then bif 0<=y5 then bif y5<(v1.length:Int) then some (v0,(List.modify v1 (y5).toNat (fun r=>r.set 2 (AV.int v3))))else none else none else(ab (fun go0 s=>Jk n go0 v0 v3 y5 s) n (v1:xJ)))))))else none
def D1(n:Nat)(v0:Int)(v1:Lv)(v2 v3 v4:Int):Option mD:=HF n v0 v1 v2 v3 v4
def ref27_Bent_t:FnT:=⟨[(true,[.int,tSc]),(false,[.int]),(false,[.int]),(false,[.int])],(.agg (.cons .i (.cons (.row 1000073 (.cons .int (.cons .int (.cons .int .nil)))) .nil))),fun n (s:Int×Lv×Int×Int×Int)=>D1 n s.1 s.2.1 s.2.2.1 s.2.2.2.1 s.2.2.2.2⟩
theorem Hr:ref27_Bent_t.ok Tryz.prog 51:=FnT.ok_of (cfg:=⟨[((51,7,6),.inv [(.cellrow 4 1 73 (.cons .int (.cons .int (.cons .int .nil))))])],aL,[],aj⟩) ay sT ax (fun s fn hf=>by rw[Tryz.func51]at hf;cases hf;kernel_rfl) (fun n s=>by kernel_rfl)
def ref27_Bent_T:Tab:=(51,ref27_Bent_t)::ref27_pick_T
theorem tz:ref27_Bent_T.ok Tryz.prog:=Tab.ok_cons Hr sT
abbrev bZ:=Bool
abbrev dU:=Int
abbrev se:=Int×Int
def dd(n:Nat)(go0:dU->Option bZ)(go1:dU->Option bZ)(v0:Lv)(v2 v3:Int):Option bZ:=
 (bif v3<((List.take (v2).toNat v0).length:Int) then bif 0<=v3 then(bif (cI (List.take (v2).toNat v0) v3 0)=(cI v0 v2 0) then(bif (cI (List.take (v2).toNat v0) v3 1)=(cI v0 v2 1) then(bif (cI (List.take (v2).toNat v0) v3 3)<=(cI v0 v2 3) then(bif (cI v0 v2 3)<(cI (List.take (v2).toNat v0) v3 4) then some false else(bif (cI v0 v2 3)<=(cI (List.take (v2).toNat v0) v3 3) then(bif (cI (List.take (v2).toNat v0) v3 3)<(cI v0 v2 4) then some false else bif(-9223372036854775808<=(v3+1))&&((v3+1)<=9223372036854775807)then go1 (v3+1)else none)else bif(-9223372036854775808<=(v3+1))&&((v3+1)<=9223372036854775807)then go1 (v3+1)else none))else(bif (cI v0 v2 3)<=(cI (List.take (v2).toNat v0) v3 3) then(bif (cI (List.take (v2).toNat v0) v3 3)<(cI v0 v2 4) then some false else bif(-9223372036854775808<=(v3+1))&&((v3+1)<=9223372036854775807)then go1 (v3+1)else none)else bif(-9223372036854775808<=(v3+1))&&((v3+1)<=9223372036854775807)then go1 (v3+1)else none))else bif(-9223372036854775808<=(v3+1))&&((v3+1)<=9223372036854775807)then go1 (v3+1)else none)else bif(-9223372036854775808<=(v3+1))&&((v3+1)<=9223372036854775807)then go1 (v3+1)else none)else none else bif(-9223372036854775808<=(v2+1))&&((v2+1)<=9223372036854775807)then go0 (v2+1)else none)
def dH(n:Nat)(go0:se->Option bZ)(v1:Lv)(v3 v4:Int):Option bZ:=
 (bif v3<(v1.length:Int) then bif 0<=v3 then(bif (cI v1 v3 0)<=v4 then some (!(decide (0<=v3)))else(bif 0<=(cI v1 v3 0) then(bif !((cI v1 v3 0)<=99999999)then some (!(decide (0<=v3)))else(bif 2<=(cI v1 v3 1) then(bif !((cI v1 v3 1)<=4)then some (!(decide (0<=v3)))else bif(-9223372036854775808<=(v3+1))&&((v3+1)<=9223372036854775807)then go0 ((v3+1),(cI v1 v3 0))else none)else some (!(decide (0<=v3)))))else some (!(decide (0<=v3)))))else none else some true)
def gn(n:Nat)(go0:dU->Option bZ)(v0 v1:Lv)(v2:Int):Option bZ:=
 (bif v2<(v0.length:Int) then bif 0<=v2 then(bif 0<=(cI v0 v2 0) then(bif (cI v0 v2 0)<=99999999 then(bif 0<=(cI v0 v2 2) then(bif (cI v0 v2 2)<=99999999 then(bif !((cI v0 v2 0)=(cI v0 v2 2))then(bif 1<=(cI v0 v2 1) then(bif (cI v0 v2 1)<=4 then(bif 0<=(cI v0 v2 3) then(bif (cI v0 v2 3)<(cI v0 v2 4) then(bif !((cI v0 v2 4)<=10000001)then some false else bif v2<=(v0.length:Int) then(ab (fun go1 s=>dd n go0 go1 v0 v2 s) n (0:dU))else none)else some false)else some false)else some false)else some false)else some false)else some false)else some false)else some false)else some false)else none else(bif (v1.length:Int)<=40 then(ab (fun go0 s=>dH n go0 v1 s.1 s.2) n ((0,(-1)):se))else some false))
def te(n:Nat)(v0 v1:Lv):Option bZ:=
 (bif 40<(v0.length:Int) then some false else(ab (fun go0 s=>gn n go0 v0 v1 s) n (0:dU)))
def iR(n:Nat)(v0 v1:Lv):Option bZ:=te n v0 v1
def forward_Valid_t:FnT:=⟨[(false,[(.sl (.cons .int (.cons .int (.cons .int (.cons .int (.cons .int .nil))))))]),(false,[(.sl (.cons .int (.cons .int .nil)))])],.b,fun n (s:Lv×Lv)=>iR n s.1 s.2⟩
theorem Cv:forward_Valid_t.ok Tryz.prog 70:=FnT.ok_of (cfg:=⟨[((141,4,2),.inv [(.tmp 11 .int)]),((213,2,6),.inv [(.tmp 8 .int)]),((197,2,3),.inv [(.tmp 8 .int),(.cell 0 0 .int)])],aL,[],aj⟩) ay tz ax (fun s fn hf=>by rw[Tryz.func70]at hf;cases hf;kernel_rfl) (fun n s=>by kernel_rfl)
def forward_Valid_T:Tab:=(70,forward_Valid_t)::ref27_Bent_T
theorem oG:forward_Valid_T.ok Tryz.prog:=Tab.ok_cons Cv tz
abbrev aC:=Int×Lv×Lv×Int
abbrev dy:=Int×Bool×Lv×Lv×Int
abbrev o5:=Int
abbrev em:=Int×Lv
abbrev fW:=Int×Lv
def jQ(n:Nat)(go0:dy->Option aC)(go1:o5->Option aC)(v0 v6 v8:Lv)(v9:Int)(v11 v12:Lv)(v14:Int):Option aC:=
 (bif v14<(v11.length:Int) then bif 0<=v14 then(bif (cI v0 v9 2)=(cI v11 v14 0) then bif (((v11.length:Int)+1)*8)<=140737488355328 then bif (((v12.length:Int)+1)*8)<=140737488355328 then some (5,(v11++[[(AV.int (cI v0 v9 2))]]),(v12++[[(AV.int v9)]]),0)else none else none else bif(-9223372036854775808<=(v14+1))&&((v14+1)<=9223372036854775807)then go1 (v14+1)else none)else none else bif (((v11.length:Int)+1)*8)<=140737488355328 then bif (((v12.length:Int)+1)*8)<=140737488355328 then(bif(dK [(AV.int (cI v0 v9 2)),(AV.int 1)] v6)then go0 ((cc [(AV.int (cI v0 v9 2)),(AV.int 1)] v6),true,(v11++[[(AV.int (cI v0 v9 2))]]),(v12++[[(AV.int v9)]]),(cI v0 v9 2))else go0 ((cc [(AV.int (cI v0 v9 2)),(AV.int (cc [(AV.int (cI v0 v9 2))] v8))] v6),(dK [(AV.int (cI v0 v9 2)),(AV.int (cc [(AV.int (cI v0 v9 2))] v8))] v6),(v11++[[(AV.int (cI v0 v9 2))]]),(v12++[[(AV.int v9)]]),(cI v0 v9 2)))else none else none)
def dB(n:Nat)(go0:dy->Option aC)(v0 v6 v8:Lv)(v9:Int)(v10:Bool)(v11 v12:Lv):Option aC:=
 (bif v10 then(bif (v12.length:Int)=5 then some (6,v11,v12,0)else bif 0<=v9 then bif v9<(v0.length:Int) then(ab (fun go1 s=>jQ n go0 go1 v0 v6 v8 v9 v11 v12 s) n (0:o5))else none else none)else bif(-9223372036854775808<=((v11.length:Int)-1))&&(((v11.length:Int)-1)<=9223372036854775807)then bif 0<=((v11.length:Int)-1) then bif ((v11.length:Int)-1)<(v11.length:Int) then some ((ba (cc [(AV.int (cI v11 ((v11.length:Int)-1) 0))] v8) 1),v11,v12,0)else none else none else none)
abbrev yy:= @dB
def pI(n:Nat)(go0:em->Option aC)(v0:Lv)(v2:Int)(v6 v8:Lv):Option aC:=
 (bif(dK [(AV.int v2),(AV.int 1)] v6)then(ab (fun go0 s=>dB n go0 v0 v6 v8 s.1 s.2.1 s.2.2.1 s.2.2.2.1) n (((cc [(AV.int v2),(AV.int 1)] v6),true,(([]:Lv)++[[(AV.int v2)]]),([]:Lv),v2):dy))else(ab (fun go0 s=>yy n go0 v0 v6 v8 s.1 s.2.1 s.2.2.1 s.2.2.2.1) n (((cc [(AV.int v2),(AV.int (cc [(AV.int v2)] v8))] v6),(dK [(AV.int v2),(AV.int (cc [(AV.int v2)] v8))] v6),(([]:Lv)++[[(AV.int v2)]]),([]:Lv),v2):dy)))
def da(n:Nat)(go0:em->Option aC)(v0 v1:Lv)(v2:Int)(v6:Lv)(v7:Int)(v8:Lv):Option aC:=
 (bif v7<(v1.length:Int) then bif 0<=v7 then bif(-9223372036854775808<=(v7+1))&&((v7+1)<=9223372036854775807)then go0 ((v7+1),(eQ [(AV.int (cI v1 v7 0))] (AV.int (cI v1 v7 1)) v8))else none else none else pI n go0 v0 v2 v6 v8)
def db(n:Nat)(go0:fW->Option aC)(v0 v1:Lv)(v2 v3 v5:Int)(v6:Lv):Option aC:=
 (bif v5<(v0.length:Int) then bif 0<=v5 then(bif (cI v0 v5 3)<=v3 then(bif v3<(cI v0 v5 4) then bif(-9223372036854775808<=(v5+1))&&((v5+1)<=9223372036854775807)then go0 ((v5+1),(eQ [(AV.int (cI v0 v5 0)),(AV.int (cI v0 v5 1))] (AV.int v5) v6))else none else bif(-9223372036854775808<=(v5+1))&&((v5+1)<=9223372036854775807)then go0 ((v5+1),v6)else none)else bif(-9223372036854775808<=(v5+1))&&((v5+1)<=9223372036854775807)then go0 ((v5+1),v6)else none)else none else(ab (fun go0 s=>da n go0 v0 v1 v2 v6 s.1 s.2) n ((0,([]:Lv)):em)))
def pH(n:Nat)(v0 v1:Lv)(v2 v3:Int):Option aC:=
 (bif !(v3<=10000000)then some (0,([]:Lv),([]:Lv),220)else(ab (fun go0 s=>db n go0 v0 v1 v2 v3 s.1 s.2) n ((0,([]:Lv)):fW)))
def pC(n:Nat)(v0 v1:Lv)(v2 v3:Int):Option aC:=
 (bif 0<=v3 then pH n v0 v1 v2 v3 else some (0,([]:Lv),([]:Lv),220))
def pO(n:Nat)(v0 v1:Lv)(v2 v3:Int):Option aC:=
 (bif !(v2<=99999999)then some (0,([]:Lv),([]:Lv),220)else pC n v0 v1 v2 v3)
def pG(n:Nat)(v0 v1:Lv)(v2 v3:Int):Option aC:=
 (bif 0<=v2 then pO n v0 v1 v2 v3 else some (0,([]:Lv),([]:Lv),220))
def pM(n:Nat)(v0 v1:Lv)(v2 v3:Int)(v4:Bool):Option aC:=
 (bif(!v4)then some (0,([]:Lv),([]:Lv),220)else pG n v0 v1 v2 v3)
def pE(n:Nat)(v0 v1:Lv)(v2 v3:Int):Option aC:=
 (iR n v0 v1).bind fun y4=>
 pM n v0 v1 v2 v3 y4
def dE(n:Nat)(v0 v1:Lv)(v2 v3:Int):Option aC:=pE n v0 v1 v2 v3
def forward_Resolve_t:FnT:=⟨[(false,[(.sl (.cons .int (.cons .int (.cons .int (.cons .int (.cons .int .nil))))))]),(false,[(.sl (.cons .int (.cons .int .nil)))]),(false,[.int]),(false,[.int])],(.tup (.cons (.agg (.cons .i (.cons (.row 3 (.cons .int .nil)) (.cons (.row 3 (.cons .int .nil)) .nil)))) (.cons .i .nil))),fun n (s:Lv×Lv×Int×Int)=>dE n s.1 s.2.1 s.2.2.1 s.2.2.2⟩
theorem zD:forward_Resolve_t.ok Tryz.prog 28:=FnT.ok_of (cfg:=⟨[((156,1,0),.inv [.tmp 4 .int,.tmp 5 .bool,.cellrow 16 1 3 (.cons .int .nil),.cellrow 16 2 3 (.cons .int .nil),.cell 19 0 .int]),((81,3,8),.inv [(.tmp 18 .int),(.inrow 4 4000000 (.cons .int (.cons .int (.cons .int .nil))))]),((81,9,10),.inv [(.tmp 38 .int),(.inrow 5 4000000 (.cons .int (.cons .int .nil)))]),((158,2,27),.inv [(.tmp 8 .int)])],aL,[],aj⟩) ay oG ax (fun s fn hf=>by rw[Tryz.func28]at hf;cases hf;kernel_rfl) (fun n s=>by kernel_rfl)
def forward_Resolve_T:Tab:=(28,forward_Resolve_t)::forward_Valid_T
theorem mC:forward_Resolve_T.ok Tryz.prog:=Tab.ok_cons zD oG
abbrev ez:=Bool
abbrev il:=Int
def CK(n:Nat)(go0:il->Option ez)(v6 v9:Lv)(v12:Int):Option ez:=
 (bif v12<(v6.length:Int) then bif 0<=v12 then bif v12<(v9.length:Int) then(bif !((cI v6 v12 0)=(cI v9 v12 0))then some false else bif(-9223372036854775808<=(v12+1))&&((v12+1)<=9223372036854775807)then go0 (v12+1)else none)else none else none else some true)
def D3(n:Nat)(go0:il->Option ez)(v5 v6 v8 v9:Lv)(v11:Int):Option ez:=
 (bif v11<(v5.length:Int) then bif 0<=v11 then bif v11<(v8.length:Int) then(bif !((cI v5 v11 0)=(cI v8 v11 0))then some false else bif(-9223372036854775808<=(v11+1))&&((v11+1)<=9223372036854775807)then go0 (v11+1)else none)else none else none else(bif !((v6.length:Int)=(v9.length:Int))then some false else(ab (fun go0 s=>CK n go0 v6 v9 s) n (0:il))))
def DK(n:Nat)(v0 v1:Lv)(v2 v3 v4:Int)(v5 v6:Lv):Option ez:=
 (dE n v0 v1 v2 v3).bind fun y7=>
 (bif y7.2.2.2=0 then(bif v4=y7.1 then(bif !((v5.length:Int)=(y7.2.1.length:Int))then some false else(ab (fun go0 s=>D3 n go0 v5 v6 y7.2.1 y7.2.2.1 s) n (0:il)))else some false)else some false)
def Ht(n:Nat)(v0 v1:Lv)(v2 v3 v4:Int)(v5 v6:Lv):Option ez:=DK n v0 v1 v2 v3 v4 v5 v6
def forward_Check_t:FnT:=⟨[(false,[(.sl (.cons .int (.cons .int (.cons .int (.cons .int (.cons .int .nil))))))]),(false,[(.sl (.cons .int (.cons .int .nil)))]),(false,[.int]),(false,[.int]),(true,[.int,tSa,tSa])],.b,fun n (s:Lv×Lv×Int×Int×Int×Lv×Lv)=>Ht n s.1 s.2.1 s.2.2.1 s.2.2.2.1 s.2.2.2.2.1 s.2.2.2.2.2.1 s.2.2.2.2.2.2⟩
theorem Cg:forward_Check_t.ok Tryz.prog 37:=FnT.ok_of (cfg:=⟨[((97,4,5),.inv [(.tmp 13 .int)]),((97,4,6),.inv [(.tmp 13 .int)])],aL,[],aj⟩) ay mC ax (fun s fn hf=>by rw[Tryz.func37]at hf;cases hf;kernel_rfl) (fun n s=>by kernel_rfl)
def forward_Check_T:Tab:=(37,forward_Check_t)::forward_Resolve_T
theorem oK:forward_Check_T.ok Tryz.prog:=Tab.ok_cons Cg mC
abbrev aH:=Bool
abbrev aW:=Int×Lv
abbrev dx:=Int
def dM(n:Nat)(go0:aW->Option aH)(go1:aW->Option aH)(v0:Lv)(v6 v8:Int)(v9:Lv):Option aH:=
 (bif v8<((List.drop ((v6-1)).toNat (List.take ((v6+1)).toNat v0)).length:Int) then bif 0<=v8 then(bif 0<=(cI (List.drop ((v6-1)).toNat (List.take ((v6+1)).toNat v0)) v8 0) then bif 0<=v6 then bif v6<(v0.length:Int) then bif (v6-1)<(v0.length:Int) then(bif !((cI v0 v6 0)=(cI v0 (v6-1) 0))then bif (cI (List.drop ((v6-1)).toNat (List.take ((v6+1)).toNat v0)) v8 0)<8 then bif (cI (List.drop ((v6-1)).toNat (List.take ((v6+1)).toNat v0)) v8 0)<(v9.length:Int) then bif(-9223372036854775808<=(v8+1))&&((v8+1)<=9223372036854775807)then go1 ((v8+1),(List.modify v9 ((cI (List.drop ((v6-1)).toNat (List.take ((v6+1)).toNat v0)) v8 0)).toNat (fun r=>r.set 0 (AV.int (ba (cI v9 (cI (List.drop ((v6-1)).toNat (List.take ((v6+1)).toNat v0)) v8 0) 0) v6)))))else none else none else none else bif(-9223372036854775808<=(v8+1))&&((v8+1)<=9223372036854775807)then go1 ((v8+1),v9)else none)else none else none else none else bif(-9223372036854775808<=(v8+1))&&((v8+1)<=9223372036854775807)then go1 ((v8+1),v9)else none)else none else go0 ((v6+1),v9))
def lk(n:Nat)(go0:dx->Option aH)(v0 v1 v7:Lv)(v8:Int):Option aH:=
 (bif v8<(v1.length:Int) then bif 0<=v8 then(bif !((cI v1 v8 0)=(-1))then bif v8<8 then bif v8<(v7.length:Int) then(bif (cI v7 v8 0)<=(cI v1 v8 0) then(bif !((cI v1 v8 0)<=((v0.length:Int)-1))then some false else bif(-9223372036854775808<=(v8+1))&&((v8+1)<=9223372036854775807)then go0 (v8+1)else none)else some false)else none else none else bif(-9223372036854775808<=(v8+1))&&((v8+1)<=9223372036854775807)then go0 (v8+1)else none)else none else some true)
def eL(n:Nat)(go0:aW->Option aH)(v0 v1:Lv)(v6:Int)(v7:Lv):Option aH:=
 (bif v6<=((v0.length:Int)-1) then bif(-9223372036854775808<=(v6-1))&&((v6-1)<=9223372036854775807)then bif(-9223372036854775808<=(v6+1))&&((v6+1)<=9223372036854775807)then bif 0<=(v6-1) then bif (v6-1)<=(v6+1) then bif (v6+1)<=(v0.length:Int) then(ab (fun go1 s=>dM n go0 go1 v0 v6 s.1 s.2) n ((0,v7):aW))else none else none else none else none else none else(ab (fun go0 s=>lk n go0 v0 v1 v7 s) n (0:dx)))
def cK(n:Nat)(go0:aW->Option aH)(v0 v1:Lv)(v2 v4:Int)(v5:Lv):Option aH:=
 (bif v4<8 then bif(-9223372036854775808<=(((v0.length:Int)-1)-v2))&&((((v0.length:Int)-1)-v2)<=9223372036854775807)then bif 0<=v4 then bif v4<(v5.length:Int) then bif(-9223372036854775808<=(v4+1))&&((v4+1)<=9223372036854775807)then go0 ((v4+1),(List.modify v5 (v4).toNat (fun r=>r.set 0 (AV.int (ba 0 (((v0.length:Int)-1)-v2))))))else none else none else none else none else(ab (fun go0 s=>eL n go0 v0 v1 s.1 s.2) n ((1,v5):aW)))
abbrev GF:= @cK
def pg(n:Nat)(go0:dx->Option aH)(v0 v1:Lv)(v2 v3:Int):Option aH:=
 (bif (-1)<=(cI v0 v3 0) then(bif !((cI v0 v3 0)<=7)then(bif((decide (0<=v3))==true)then some false else(bif !((v1.length:Int)=8)then some false else(bif 0<=v2 then(bif !(v2<=10)then some false else bif(-9223372036854775808<=((v0.length:Int)-1))&&(((v0.length:Int)-1)<=9223372036854775807)then(ab (fun go0 s=>cK n go0 v0 v1 v2 s.1 s.2) n ((0,(List.replicate ((8:Int)).toNat [(AV.int 0)])):aW))else none)else some false)))else bif(-9223372036854775808<=(v3+1))&&((v3+1)<=9223372036854775807)then go0 (v3+1)else none)else(bif((decide (0<=v3))==true)then some false else(bif !((v1.length:Int)=8)then some false else(bif 0<=v2 then(bif !(v2<=10)then some false else bif(-9223372036854775808<=((v0.length:Int)-1))&&(((v0.length:Int)-1)<=9223372036854775807)then(ab (fun go0 s=>GF n go0 v0 v1 v2 s.1 s.2) n ((0,(List.replicate ((8:Int)).toNat [(AV.int 0)])):aW))else none)else some false))))
abbrev Eb:= @cK
def cJ(n:Nat)(go0:dx->Option aH)(v0 v1:Lv)(v2 v3:Int):Option aH:=
 (bif v3<(v0.length:Int) then bif 0<=v3 then pg n go0 v0 v1 v2 v3 else none else(bif !((v1.length:Int)=8)then some false else(bif 0<=v2 then(bif !(v2<=10)then some false else bif(-9223372036854775808<=((v0.length:Int)-1))&&(((v0.length:Int)-1)<=9223372036854775807)then(ab (fun go0 s=>Eb n go0 v0 v1 v2 s.1 s.2) n ((0,(List.replicate ((8:Int)).toNat [(AV.int 0)])):aW))else none)else some false)))
def yb(n:Nat)(v0 v1:Lv)(v2:Int):Option aH:=
 (bif (v0.length:Int)<=30 then(ab (fun go0 s=>cJ n go0 v0 v1 v2 s) n (0:dx))else some false)
def yp(n:Nat)(v0 v1:Lv)(v2:Int):Option aH:=
 (bif 1<=(v0.length:Int) then yb n v0 v1 v2 else some false)
def kR(n:Nat)(v0 v1:Lv)(v2:Int):Option aH:=yp n v0 v1 v2
def route_Valid_t:FnT:=⟨[(false,[tSa]),(false,[tSa]),(false,[.int])],.b,fun n (s:Lv×Lv×Int)=>kR n s.1 s.2.1 s.2.2⟩
theorem Fg:route_Valid_t.ok Tryz.prog 71:=FnT.ok_of (cfg:=⟨[((124,2,0),.inv [(.tmp 8 .int)]),((71,6,2),.inv [(.tmp 31 .int),(.inrow 1 217 (.cons .int .nil))]),((71,11,4),.inv [(.tmp 10 .int),(.inrow 1 217 (.cons .int .nil))]),((71,14,6),.inv [(.tmp 53 .int),(.inrow 1 217 (.cons .int .nil))]),((71,20,6),.inv [(.tmp 81 .int)])],aL,[],aj⟩) ay oK ax (fun s fn hf=>by rw[Tryz.func71]at hf;cases hf;kernel_rfl) (fun n s=>by kernel_rfl)
def route_Valid_T:Tab:=(71,route_Valid_t)::forward_Check_T
theorem sj:route_Valid_T.ok Tryz.prog:=Tab.ok_cons Fg oK
abbrev jE:=Lv×Int×Int
abbrev ln:=Int×Lv×Int×Int
def jH(n:Nat)(go0:ln->Option jE)(v0 v1:Lv)(v5:Int)(v6:Lv)(v8:Int):Option jE:=
 bif 0<=v8 then bif v8<(v1.length:Int) then bif 0<=(ba (cI v1 v8 0) v5) then bif (ba (cI v1 v8 0) v5)<(v0.length:Int) then(bif (cI v0 (ba (cI v1 v8 0) v5) 0)=v8 then bif (((v6.length:Int)+1)*16)<=140737488355328 then some ((v6++[[(AV.int v8),(AV.int (ba (cI v1 v8 0) v5))]]),1,0)else none else(bif (cI v0 (ba (cI v1 v8 0) v5) 0)<0 then bif (((v6.length:Int)+1)*16)<=140737488355328 then some ((v6++[[(AV.int v8),(AV.int (ba (cI v1 v8 0) v5))]]),2,0)else none else bif 0<=(cI v0 (ba (cI v1 v8 0) v5) 0) then bif (cI v0 (ba (cI v1 v8 0) v5) 0)<(v1.length:Int) then(bif (cI v1 (cI v0 (ba (cI v1 v8 0) v5) 0) 0)<0 then bif (((v6.length:Int)+1)*16)<=140737488355328 then some ((v6++[[(AV.int v8),(AV.int (ba (cI v1 v8 0) v5))]]),3,0)else none else bif (((v6.length:Int)+1)*16)<=140737488355328 then go0 ((ba (cI v1 v8 0) v5),(v6++[[(AV.int v8),(AV.int (ba (cI v1 v8 0) v5))]]),0,(cI v0 (ba (cI v1 v8 0) v5) 0))else none)else none else none))else none else none else none else none
def yW(n:Nat)(v0 v1:Lv)(v2 v3:Int):Option jE:=
 (kR n v0 v1 v2).bind fun y4=>
 (bif y4 then(bif 0<=v3 then(bif v3<=7 then bif v3<(v1.length:Int) then(bif !(0<=(cI v1 v3 0))then some (([]:Lv),0,240)else(ab (fun go0 s=>jH n go0 v0 v1 s.1 s.2.1 s.2.2.2) n (((-1),([]:Lv),0,v3):ln)))else none else some (([]:Lv),0,240))else some (([]:Lv),0,240))else some (([]:Lv),0,240))
def nj(n:Nat)(v0 v1:Lv)(v2 v3:Int):Option jE:=yW n v0 v1 v2 v3
def route_Path_t:FnT:=⟨[(false,[tSa]),(false,[tSa]),(false,[.int]),(false,[.int])],(.tup (.cons (.row 94 (.cons .int (.cons .int .nil))) (.cons .i (.cons .i .nil)))),fun n (s:Lv×Lv×Int×Int)=>nj n s.1 s.2.1 s.2.2.1 s.2.2.2⟩
theorem Gq:route_Path_t.ok Tryz.prog 33:=FnT.ok_of (cfg:=⟨[((166,1,7),.inv [(.tmp 5 .int),(.cellrow 0 0 94 (.cons .int (.cons .int .nil))),(.cell 1 0 .int),(.cell 5 0 .int)])],aL,[],aj⟩) ay sj ax (fun s fn hf=>by rw[Tryz.func33]at hf;cases hf;kernel_rfl) (fun n s=>by kernel_rfl)
def route_Path_T:Tab:=(33,route_Path_t)::route_Valid_T
theorem tv:route_Path_T.ok Tryz.prog:=Tab.ok_cons Gq sj
abbrev dq:=Bool
abbrev dS:=Int
def pm(n:Nat)(go0:dS->Option dq)(v0 v1:Lv)(v3:Int):Option dq:=
 (bif v3<(v1.length:Int) then bif 0<=v3 then(bif 0<=(cI v1 v3 0) then(bif !((cI v1 v3 0)<=7)then some (decide (v3=(-1)))else bif(-9223372036854775808<=((v0.length:Int)-1))&&(((v0.length:Int)-1)<=9223372036854775807)then(bif 0<=(cI v1 v3 1) then(bif !((cI v1 v3 1)<=((v0.length:Int)-1))then some (decide (v3=(-1)))else(bif 0<v3 then bif(-9223372036854775808<=(v3-1))&&((v3-1)<=9223372036854775807)then bif 0<=(v3-1) then bif (v3-1)<(v1.length:Int) then bif 0<=(cI v1 (v3-1) 1) then bif (cI v1 (v3-1) 1)<(v0.length:Int) then(bif !((cI v1 v3 0)=(cI v0 (cI v1 (v3-1) 1) 0))then some (decide (v3=(-1)))else(bif (cI v1 v3 1)<(cI v1 (v3-1) 1) then some (decide (v3=(-1)))else bif(-9223372036854775808<=((v1.length:Int)-1))&&(((v1.length:Int)-1)<=9223372036854775807)then(bif v3<((v1.length:Int)-1) then bif (cI v1 v3 1)<(v0.length:Int) then(bif (cI v0 (cI v1 v3 1) 0)=(cI v1 v3 0) then some (decide (v3=(-1)))else(bif (cI v0 (cI v1 v3 1) 0)=(-1) then some (decide (v3=(-1)))else bif(-9223372036854775808<=(v3+1))&&((v3+1)<=9223372036854775807)then go0 (v3+1)else none))else none else bif(-9223372036854775808<=(v3+1))&&((v3+1)<=9223372036854775807)then go0 (v3+1)else none)else none))else none else none else none else none else none else bif(-9223372036854775808<=((v1.length:Int)-1))&&(((v1.length:Int)-1)<=9223372036854775807)then(bif v3<((v1.length:Int)-1) then bif (cI v1 v3 1)<(v0.length:Int) then(bif (cI v0 (cI v1 v3 1) 0)=(cI v1 v3 0) then some (decide (v3=(-1)))else(bif (cI v0 (cI v1 v3 1) 0)=(-1) then some (decide (v3=(-1)))else bif(-9223372036854775808<=(v3+1))&&((v3+1)<=9223372036854775807)then go0 (v3+1)else none))else none else bif(-9223372036854775808<=(v3+1))&&((v3+1)<=9223372036854775807)then go0 (v3+1)else none)else none))else some (decide (v3=(-1))))else none)else some (decide (v3=(-1))))else none else some true)
abbrev GC:= @pm
def GJ(n:Nat)(go0:dS->Option dq)(v0 v1:Lv)(v2:Int):Option dq:=
 (bif (-1)<=(cI v0 v2 0) then(bif !((cI v0 v2 0)<=7)then(bif((decide (0<=v2))==true)then some false else(bif (v1.length:Int)=0 then some false else(ab (fun go0 s=>pm n go0 v0 v1 s) n (0:dS))))else bif(-9223372036854775808<=(v2+1))&&((v2+1)<=9223372036854775807)then go0 (v2+1)else none)else(bif((decide (0<=v2))==true)then some false else(bif (v1.length:Int)=0 then some false else(ab (fun go0 s=>GC n go0 v0 v1 s) n (0:dS)))))
abbrev G5:= @pm
def Hh(n:Nat)(go0:dS->Option dq)(v0 v1:Lv)(v2:Int):Option dq:=
 (bif v2<(v0.length:Int) then bif 0<=v2 then GJ n go0 v0 v1 v2 else none else(bif (v1.length:Int)=0 then some false else(ab (fun go0 s=>G5 n go0 v0 v1 s) n (0:dS))))
def Hj(n:Nat)(v0 v1:Lv):Option dq:=
 (bif (v0.length:Int)<=30 then(ab (fun go0 s=>Hh n go0 v0 v1 s) n (0:dS))else some false)
def Hb(n:Nat)(v0 v1:Lv):Option dq:=
 (bif 1<=(v0.length:Int) then Hj n v0 v1 else some false)
def Kd(n:Nat)(v0 v1:Lv):Option dq:=Hb n v0 v1
def route_Right_t:FnT:=⟨[(false,[tSa]),(false,[(.sl (.cons .int (.cons .int .nil)))])],.b,fun n (s:Lv×Lv)=>Kd n s.1 s.2⟩
theorem Eh:route_Right_t.ok Tryz.prog 38:=FnT.ok_of (cfg:=⟨[((124,2,2),.inv [(.tmp 8 .int)]),((171,2,3),.inv [(.tmp 9 .int)])],aL,[],aj⟩) ay tv ax (fun s fn hf=>by rw[Tryz.func38]at hf;cases hf;kernel_rfl) (fun n s=>by kernel_rfl)
def route_Right_T:Tab:=(38,route_Right_t)::route_Path_T
theorem rP:route_Right_T.ok Tryz.prog:=Tab.ok_cons Eh tv
abbrev mh:=Bool
abbrev x9:=Int
def mX(n:Nat)(go0:x9->Option mh)(v0:Int)(v1:Lv)(v2:Int):Option mh:=
 (bif v2<(v1.length:Int) then bif 0<=v2 then bif(-9223372036854775808<=(v0-1))&&((v0-1)<=9223372036854775807)then(bif 0<=(cI v1 v2 0) then(bif !((cI v1 v2 0)<=(v0-1))then some (!(decide (0<=v2)))else(bif 0<=(cI v1 v2 1) then(bif !((cI v1 v2 1)<=(v0-1))then some (!(decide (0<=v2)))else(bif (cI v1 v2 0)=(cI v1 v2 1) then some (!(decide (0<=v2)))else(bif 0<=(cI v1 v2 2) then(bif !((cI v1 v2 2)<=10000)then some (!(decide (0<=v2)))else bif(-9223372036854775808<=(v2+1))&&((v2+1)<=9223372036854775807)then go0 (v2+1)else none)else some (!(decide (0<=v2))))))else some (!(decide (0<=v2)))))else some (!(decide (0<=v2))))else none else none else some true)
def Am(n:Nat)(v0:Int)(v1:Lv):Option mh:=
 (bif 0<=v0 then(bif !(v0<=12)then some false else(bif 40<(v1.length:Int) then some false else(ab (fun go0 s=>mX n go0 v0 v1 s) n (0:x9))))else some false)
def ir(n:Nat)(v0:Int)(v1:Lv):Option mh:=Am n v0 v1
def flow_Valid_t:FnT:=⟨[(true,[.int,tSc])],.b,fun n (s:Int×Lv)=>ir n s.1 s.2⟩
theorem Hl:flow_Valid_t.ok Tryz.prog 73:=FnT.ok_of (cfg:=⟨[((201,2,1),.inv [(.tmp 8 .int)])],aL,[],aj⟩) ay rP ax (fun s fn hf=>by rw[Tryz.func73]at hf;cases hf;kernel_rfl) (fun n s=>by kernel_rfl)
def flow_Valid_T:Tab:=(73,flow_Valid_t)::route_Right_T
theorem tY:flow_Valid_T.ok Tryz.prog:=Tab.ok_cons Hl rP
abbrev jl:=Int×Bool
abbrev qS:=Int×Int
def eB(n:Nat)(go0:qS->Option jl)(v1:Lv)(v4 v6 v7:Int):Option jl:=
 (bif v6<(v1.length:Int) then bif 0<=v6 then bif 0<=(cI v1 v6 0) then(bif (IOp.f .and (IOp.f .shr v4 (cI v1 v6 0)) 1)=1 then bif 0<=(cI v1 v6 1) then(bif (IOp.f .and (IOp.f .shr v4 (cI v1 v6 1)) 1)=0 then bif(-9223372036854775808<=(v7+(cI v1 v6 2)))&&((v7+(cI v1 v6 2))<=9223372036854775807)then bif(-9223372036854775808<=(v6+1))&&((v6+1)<=9223372036854775807)then go0 ((v6+1),(v7+(cI v1 v6 2)))else none else none else bif(-9223372036854775808<=(v6+1))&&((v6+1)<=9223372036854775807)then go0 ((v6+1),v7)else none)else none else bif(-9223372036854775808<=(v6+1))&&((v6+1)<=9223372036854775807)then go0 ((v6+1),v7)else none)else none else none else some (v7,true))
def tj(n:Nat)(v0:Int)(v1:Lv)(v2 v3 v4:Int):Option jl:=
 (ir n v0 v1).bind fun y5=>
 (bif y5 then bif(-9223372036854775808<=(v0-1))&&((v0-1)<=9223372036854775807)then(bif 0<=v2 then(bif v2<=(v0-1) then(bif 0<=v3 then(bif v3<=(v0-1) then(bif((decide (v2=v3))==true)then some (0,false)else bif 0<=v0 then bif(-9223372036854775808<=((IOp.f .shl 1 v0)-1))&&(((IOp.f .shl 1 v0)-1)<=9223372036854775807)then(bif 0<=v4 then(bif !(v4<=((IOp.f .shl 1 v0)-1))then some (0,false)else(bif (IOp.f .and (IOp.f .shr v4 v2) 1)=0 then some (0,false)else(bif (IOp.f .and (IOp.f .shr v4 v3) 1)=1 then some (0,false)else(ab (fun go0 s=>eB n go0 v1 v4 s.1 s.2) n ((0,0):qS)))))else some (0,false))else none else none)else some (0,false))else some (0,false))else some (0,false))else some (0,false))else none else some (0,false))
def bm(n:Nat)(v0:Int)(v1:Lv)(v2 v3 v4:Int):Option jl:=tj n v0 v1 v2 v3 v4
def flow_CheckCut_t:FnT:=⟨[(true,[.int,tSc]),(false,[.int]),(false,[.int]),(false,[.int])],(.tup (.cons .i (.cons .b .nil))),fun n (s:Int×Lv×Int×Int×Int)=>bm n s.1 s.2.1 s.2.2.1 s.2.2.2.1 s.2.2.2.2⟩
theorem B7:flow_CheckCut_t.ok Tryz.prog 66:=FnT.ok_of (cfg:=⟨[((209,1,8),.inv [(.tmp 9 .int),(.cell 3 0 .int)])],aL,[],aj⟩) ay tY ax (fun s fn hf=>by rw[Tryz.func66]at hf;cases hf;kernel_rfl) (fun n s=>by kernel_rfl)
def flow_CheckCut_T:Tab:=(66,flow_CheckCut_t)::flow_Valid_T
theorem o7:flow_CheckCut_T.ok Tryz.prog:=Tab.ok_cons B7 tY
abbrev dV:=Int×Bool
abbrev pK:=Int
abbrev pP:=Int×Lv
def Cf(n:Nat)(go0:pK->Option dV)(v2 v3:Int)(v7:Lv)(v8:Int):Option dV:=
 (bif v8<(v7.length:Int) then bif 0<=v8 then(bif !((cI v7 v8 0)=0)then(bif !(v8=v2)then(bif !(v8=v3)then some (0,false)else bif(-9223372036854775808<=(v8+1))&&((v8+1)<=9223372036854775807)then go0 (v8+1)else none)else bif(-9223372036854775808<=(v8+1))&&((v8+1)<=9223372036854775807)then go0 (v8+1)else none)else bif(-9223372036854775808<=(v8+1))&&((v8+1)<=9223372036854775807)then go0 (v8+1)else none)else none else some ((cI v7 v2 0),true))
def Cr(n:Nat)(go0:pP->Option dV)(v1:Lv)(v2 v3:Int)(v4:Lv)(v6:Int)(v7:Lv):Option dV:=
 (bif v6<(v1.length:Int) then bif 0<=v6 then bif v6<(v4.length:Int) then(bif 0<=(cI v4 v6 0) then(bif !((cI v4 v6 0)<=(cI v1 v6 2))then some (0,false)else bif 0<=(cI v1 v6 0) then bif (cI v1 v6 0)<(v7.length:Int) then bif(-9223372036854775808<=((cI v7 (cI v1 v6 0) 0)+(cI v4 v6 0)))&&(((cI v7 (cI v1 v6 0) 0)+(cI v4 v6 0))<=9223372036854775807)then bif 0<=(cI v1 v6 1) then bif (cI v1 v6 1)<(v7.length:Int) then bif(-9223372036854775808<=((cI (List.modify v7 ((cI v1 v6 0)).toNat (fun r=>r.set 0 (AV.int ((cI v7 (cI v1 v6 0) 0)+(cI v4 v6 0))))) (cI v1 v6 1) 0)-(cI v4 v6 0)))&&(((cI (List.modify v7 ((cI v1 v6 0)).toNat (fun r=>r.set 0 (AV.int ((cI v7 (cI v1 v6 0) 0)+(cI v4 v6 0))))) (cI v1 v6 1) 0)-(cI v4 v6 0))<=9223372036854775807)then bif(-9223372036854775808<=(v6+1))&&((v6+1)<=9223372036854775807)then go0 ((v6+1),(List.modify (List.modify v7 ((cI v1 v6 0)).toNat (fun r=>r.set 0 (AV.int ((cI v7 (cI v1 v6 0) 0)+(cI v4 v6 0))))) ((cI v1 v6 1)).toNat (fun r=>r.set 0 (AV.int ((cI (List.modify v7 ((cI v1 v6 0)).toNat (fun r=>r.set 0 (AV.int ((cI v7 (cI v1 v6 0) 0)+(cI v4 v6 0))))) (cI v1 v6 1) 0)-(cI v4 v6 0))))))else none else none else none else none else none else none else none)else some (0,false))else none else none else bif v2<(v7.length:Int) then(bif (cI v7 v2 0)<0 then some (0,false)else(ab (fun go0 s=>Cf n go0 v2 v3 v7 s) n (0:pK)))else none)
def Cw(n:Nat)(v0:Int)(v1:Lv)(v2 v3:Int)(v4:Lv):Option dV:=
 (ir n v0 v1).bind fun y5=>
 (bif y5 then bif(-9223372036854775808<=(v0-1))&&((v0-1)<=9223372036854775807)then(bif 0<=v2 then(bif v2<=(v0-1) then(bif 0<=v3 then(bif v3<=(v0-1) then(bif((decide (v2=v3))==true)then some (0,false)else(bif !((v4.length:Int)=(v1.length:Int))then some (0,false)else bif 0<=v0 then bif (v0*8)<=140737488355328 then(ab (fun go0 s=>Cr n go0 v1 v2 v3 v4 s.1 s.2) n ((0,(List.replicate (v0).toNat [(AV.int 0)])):pP))else none else none))else some (0,false))else some (0,false))else some (0,false))else some (0,false))else none else some (0,false))
def Ep(n:Nat)(v0:Int)(v1:Lv)(v2 v3:Int)(v4:Lv):Option dV:=Cw n v0 v1 v2 v3 v4
def flow_CheckFlow_t:FnT:=⟨[(true,[.int,tSc]),(false,[.int]),(false,[.int]),(false,[tSa])],(.tup (.cons .i (.cons .b .nil))),fun n (s:Int×Lv×Int×Int×Lv)=>Ep n s.1 s.2.1 s.2.2.1 s.2.2.2.1 s.2.2.2.2⟩
theorem Bo:flow_CheckFlow_t.ok Tryz.prog 40:=FnT.ok_of (cfg:=⟨[((103,5,4),.inv [(.tmp 21 .int),(.inrow 3 3 (.cons .int .nil))]),((40,7,6),.inv [(.tmp 36 .int)])],aL,[],aj⟩) ay o7 ax (fun s fn hf=>by rw[Tryz.func40]at hf;cases hf;kernel_rfl) (fun n s=>by kernel_rfl)
def flow_CheckFlow_T:Tab:=(40,flow_CheckFlow_t)::flow_CheckCut_T
theorem nk:flow_CheckFlow_T.ok Tryz.prog:=Tab.ok_cons Bo o7
def Qh:List Nat:=[12,13,14,15,16,17,18,19,20,21,22,23,24,25,26,27,28,29,30,31,32,33,34,37,38,39,40,43,44,45,46,47,48,49,50,51,52,53,54,55,56,57,58,59,62,66,68,69,70,71,72,73,74,75,76,77,78,84,85,86,87,89,95,105,106,107,108,109,110,111,112,114,115,116,117,120,122,149,150,152,153,159,176,178,179,180,182,183,184,186,187,193,202,203,204,210,211,1000015,1000016,1000017,1000018,1000019,1000022,1000049,1000050,1000051,1000052,1000053,1000062,2000151,2000152,2000217,2000247,2000248,2000249,6000000]
abbrev aa:=Lv×Int×Int
abbrev aR:=Lv×Int×Lv
abbrev aD:=Int×Lv
abbrev bc:=Int×Int
abbrev aK:=Int×Int×Lv
abbrev cb:=Lv×Lv
def KA(n:Nat)(go2:aR->Option aa)(go0:aD->Option aa)(go1:aD->Option aa)(v9:Lv)(v19 v21:Int)(v22:Lv):Option aa:=
 (bif v21<14 then bif 0<=v19 then bif (v19*14)<(v22.length:Int) then bif 0<=v21 then bif ((v19*14)+v21)<(v22.length:Int) then bif (v19*14)<(v9.length:Int) then bif ((v19*14)+v21)<(v9.length:Int) then bif(-9223372036854775808<=((cI v22 ((v19*14)+v21) 0)-(cI v9 ((v19*14)+v21) 0)))&&(((cI v22 ((v19*14)+v21) 0)-(cI v9 ((v19*14)+v21) 0))<=9223372036854775807)then bif(-9223372036854775808<=(v21+1))&&((v21+1)<=9223372036854775807)then go1 ((v21+1),(List.modify v22 (((v19*14)+v21)).toNat (fun r=>r.set 0 (AV.int (ba ((cI v22 ((v19*14)+v21) 0)-(cI v9 ((v19*14)+v21) 0)) 0)))))else none else none else none else none else none else none else none else none else bif(-9223372036854775808<=(v19+1))&&((v19+1)<=9223372036854775807)then go0 ((v19+1),v22)else none)
def Kb(n:Nat)(go2:aR->Option aa)(go1:bc->Option aa)(go0:aR->Option aa)(v1:Lv)(v15:Int)(v21:Lv)(v22:Int)(v23:Lv):Option aa:=
 (bif v22<(v1.length:Int) then bif 0<=v22 then bif 0<=(cI v1 v22 0) then bif (cI v1 v22 0)<14 then bif ((cI v1 v22 0)*14)<(v23.length:Int) then bif 0<=(cI v1 v22 1) then bif (cI v1 v22 1)<14 then bif (((cI v1 v22 0)*14)+(cI v1 v22 1))<(v23.length:Int) then bif(-9223372036854775808<=((cI v23 (((cI v1 v22 0)*14)+(cI v1 v22 1)) 0)-(aM (cI v1 v22 2) (cI v23 (((cI v1 v22 0)*14)+(cI v1 v22 1)) 0))))&&(((cI v23 (((cI v1 v22 0)*14)+(cI v1 v22 1)) 0)-(aM (cI v1 v22 2) (cI v23 (((cI v1 v22 0)*14)+(cI v1 v22 1)) 0)))<=9223372036854775807)then bif (((v21.length:Int)+1)*8)<=140737488355328 then bif(-9223372036854775808<=(v22+1))&&((v22+1)<=9223372036854775807)then go0 ((v21++[[(AV.int (aM (cI v1 v22 2) (cI v23 (((cI v1 v22 0)*14)+(cI v1 v22 1)) 0)))]]),(v22+1),(List.modify v23 ((((cI v1 v22 0)*14)+(cI v1 v22 1))).toNat (fun r=>r.set 0 (AV.int ((cI v23 (((cI v1 v22 0)*14)+(cI v1 v22 1)) 0)-(aM (cI v1 v22 2) (cI v23 (((cI v1 v22 0)*14)+(cI v1 v22 1)) 0)))))))else none else none else none else none else none else none else none else none else none else none else some (v21,v15,0))
def JW(n:Nat)(go2:aR->Option aa)(go1:bc->Option aa)(go0:aD->Option aa)(v1 v9:Lv)(v15 v19:Int)(v20:Lv):Option aa:=
 (bif v19<14 then(ab (fun go1 s=>KA n go2 go0 go1 v9 v19 s.1 s.2) n ((0,v20):aD))else(ab (fun go0 s=>Kb n go2 go1 go0 v1 v15 s.1 s.2.1 s.2.2) n ((([]:Lv),0,v20):aR)))
def KC(n:Nat)(go2:aR->Option aa)(go1:bc->Option aa)(go0:aD->Option aa)(v1 v9:Lv)(v15 v17:Int)(v18:Lv):Option aa:=
 (bif v17<(v1.length:Int) then bif 0<=v17 then bif 0<=(cI v1 v17 0) then bif (cI v1 v17 0)<14 then bif ((cI v1 v17 0)*14)<(v18.length:Int) then bif 0<=(cI v1 v17 1) then bif (cI v1 v17 1)<14 then bif (((cI v1 v17 0)*14)+(cI v1 v17 1))<(v18.length:Int) then bif(-9223372036854775808<=((cI v18 (((cI v1 v17 0)*14)+(cI v1 v17 1)) 0)+(cI v1 v17 2)))&&(((cI v18 (((cI v1 v17 0)*14)+(cI v1 v17 1)) 0)+(cI v1 v17 2))<=9223372036854775807)then bif(-9223372036854775808<=(v17+1))&&((v17+1)<=9223372036854775807)then go0 ((v17+1),(List.modify v18 ((((cI v1 v17 0)*14)+(cI v1 v17 1))).toNat (fun r=>r.set 0 (AV.int ((cI v18 (((cI v1 v17 0)*14)+(cI v1 v17 1)) 0)+(cI v1 v17 2))))))else none else none else none else none else none else none else none else none else none else(ab (fun go0 s=>JW n go2 go1 go0 v1 v9 v15 s.1 s.2) n ((0,v18):aD)))
def Ky(n:Nat)(go0:aK->Option aa)(go2:aR->Option aa)(go1:bc->Option aa)(v1 v9 v10:Lv)(v13:Int)(v14:Lv)(v15 v16:Int):Option aa:=
 (bif v16<14 then bif 0<=v16 then(bif 0<(cI (List.modify v14 (v13).toNat (fun r=>r.set 0 (AV.int ((cI v10 0 0)+1)))) v16 0) then bif(-9223372036854775808<=(v16+1))&&((v16+1)<=9223372036854775807)then go1 ((IOp.f .or v15 (IOp.f .shl 1 v16)),(v16+1))else none else bif(-9223372036854775808<=(v16+1))&&((v16+1)<=9223372036854775807)then go1 (v15,(v16+1))else none)else none else(ab (fun go0 s=>KC n go2 go1 go0 v1 v9 v15 s.1 s.2) n ((0,(List.replicate ((196:Int)).toNat [(AV.int 0)])):aD)))
def eU(n:Nat)(go0:aK->Option aa)(go2:aR->Option aa)(go1:aD->Option aa)(v2 v7 v8:Int)(v10:Lv)(v13:Int)(v14:Lv)(v16 v17:Int)(v18:Lv):Option aa:=
 (bif !(v17=v2)then bif 0<=v17 then bif v17<14 then bif v17<(v14.length:Int) then bif(-9223372036854775808<=((cI (List.modify v14 (v13).toNat (fun r=>r.set 0 (AV.int ((cI v10 0 0)+1)))) v17 0)-1))&&(((cI (List.modify v14 (v13).toNat (fun r=>r.set 0 (AV.int ((cI v10 0 0)+1)))) v17 0)-1)<=9223372036854775807)then bif 0<=((cI (List.modify v14 (v13).toNat (fun r=>r.set 0 (AV.int ((cI v10 0 0)+1)))) v17 0)-1) then bif ((cI (List.modify v14 (v13).toNat (fun r=>r.set 0 (AV.int ((cI v10 0 0)+1)))) v17 0)-1)<14 then bif (((cI (List.modify v14 (v13).toNat (fun r=>r.set 0 (AV.int ((cI v10 0 0)+1)))) v17 0)-1)*14)<(v18.length:Int) then bif ((((cI (List.modify v14 (v13).toNat (fun r=>r.set 0 (AV.int ((cI v10 0 0)+1)))) v17 0)-1)*14)+v17)<(v18.length:Int) then bif(-9223372036854775808<=((cI v18 ((((cI (List.modify v14 (v13).toNat (fun r=>r.set 0 (AV.int ((cI v10 0 0)+1)))) v17 0)-1)*14)+v17) 0)-v16))&&(((cI v18 ((((cI (List.modify v14 (v13).toNat (fun r=>r.set 0 (AV.int ((cI v10 0 0)+1)))) v17 0)-1)*14)+v17) 0)-v16)<=9223372036854775807)then bif (v17*14)<(v18.length:Int) then bif ((v17*14)+((cI (List.modify v14 (v13).toNat (fun r=>r.set 0 (AV.int ((cI v10 0 0)+1)))) v17 0)-1))<(v18.length:Int) then bif(-9223372036854775808<=((cI (List.modify v18 (((((cI (List.modify v14 (v13).toNat (fun r=>r.set 0 (AV.int ((cI v10 0 0)+1)))) v17 0)-1)*14)+v17)).toNat (fun r=>r.set 0 (AV.int ((cI v18 ((((cI (List.modify v14 (v13).toNat (fun r=>r.set 0 (AV.int ((cI v10 0 0)+1)))) v17 0)-1)*14)+v17) 0)-v16)))) ((v17*14)+((cI (List.modify v14 (v13).toNat (fun r=>r.set 0 (AV.int ((cI v10 0 0)+1)))) v17 0)-1)) 0)+v16))&&(((cI (List.modify v18 (((((cI (List.modify v14 (v13).toNat (fun r=>r.set 0 (AV.int ((cI v10 0 0)+1)))) v17 0)-1)*14)+v17)).toNat (fun r=>r.set 0 (AV.int ((cI v18 ((((cI (List.modify v14 (v13).toNat (fun r=>r.set 0 (AV.int ((cI v10 0 0)+1)))) v17 0)-1)*14)+v17) 0)-v16)))) ((v17*14)+((cI (List.modify v14 (v13).toNat (fun r=>r.set 0 (AV.int ((cI v10 0 0)+1)))) v17 0)-1)) 0)+v16)<=9223372036854775807)then go1 (((cI (List.modify v14 (v13).toNat (fun r=>r.set 0 (AV.int ((cI v10 0 0)+1)))) v17 0)-1),(List.modify (List.modify v18 (((((cI (List.modify v14 (v13).toNat (fun r=>r.set 0 (AV.int ((cI v10 0 0)+1)))) v17 0)-1)*14)+v17)).toNat (fun r=>r.set 0 (AV.int ((cI v18 ((((cI (List.modify v14 (v13).toNat (fun r=>r.set 0 (AV.int ((cI v10 0 0)+1)))) v17 0)-1)*14)+v17) 0)-v16)))) (((v17*14)+((cI (List.modify v14 (v13).toNat (fun r=>r.set 0 (AV.int ((cI v10 0 0)+1)))) v17 0)-1))).toNat (fun r=>r.set 0 (AV.int ((cI (List.modify v18 (((((cI (List.modify v14 (v13).toNat (fun r=>r.set 0 (AV.int ((cI v10 0 0)+1)))) v17 0)-1)*14)+v17)).toNat (fun r=>r.set 0 (AV.int ((cI v18 ((((cI (List.modify v14 (v13).toNat (fun r=>r.set 0 (AV.int ((cI v10 0 0)+1)))) v17 0)-1)*14)+v17) 0)-v16)))) ((v17*14)+((cI (List.modify v14 (v13).toNat (fun r=>r.set 0 (AV.int ((cI v10 0 0)+1)))) v17 0)-1)) 0)+v16)))))else none else none else none else none else none else none else none else none else none else none else none else none else bif(-9223372036854775808<=(v7+v16))&&((v7+v16)<=9223372036854775807)then go0 ((v7+v16),v8,v18)else none)
def gw(n:Nat)(go0:aK->Option aa)(go2:aR->Option aa)(go1:bc->Option aa)(v2 v3 v7 v8:Int)(v9 v10:Lv)(v13:Int)(v14:Lv)(v15 v16:Int):Option aa:=
 (bif !(v15=v2)then bif 0<=v15 then bif v15<14 then bif v15<(v14.length:Int) then bif(-9223372036854775808<=((cI (List.modify v14 (v13).toNat (fun r=>r.set 0 (AV.int ((cI v10 0 0)+1)))) v15 0)-1))&&(((cI (List.modify v14 (v13).toNat (fun r=>r.set 0 (AV.int ((cI v10 0 0)+1)))) v15 0)-1)<=9223372036854775807)then bif 0<=((cI (List.modify v14 (v13).toNat (fun r=>r.set 0 (AV.int ((cI v10 0 0)+1)))) v15 0)-1) then bif ((cI (List.modify v14 (v13).toNat (fun r=>r.set 0 (AV.int ((cI v10 0 0)+1)))) v15 0)-1)<14 then bif (((cI (List.modify v14 (v13).toNat (fun r=>r.set 0 (AV.int ((cI v10 0 0)+1)))) v15 0)-1)*14)<(v9.length:Int) then bif ((((cI (List.modify v14 (v13).toNat (fun r=>r.set 0 (AV.int ((cI v10 0 0)+1)))) v15 0)-1)*14)+v15)<(v9.length:Int) then go1 (((cI (List.modify v14 (v13).toNat (fun r=>r.set 0 (AV.int ((cI v10 0 0)+1)))) v15 0)-1),(aM v16 (cI v9 ((((cI (List.modify v14 (v13).toNat (fun r=>r.set 0 (AV.int ((cI v10 0 0)+1)))) v15 0)-1)*14)+v15) 0)))else none else none else none else none else none else none else none else none else(ab (fun go1 s=>eU n go0 go2 go1 v2 v7 v8 v10 v13 v14 v16 s.1 s.2) n ((v3,v9):aD)))
def uL(n:Nat)(go0:aK->Option aa)(go1:cb->Option aa)(go2:aR->Option aa)(v1:Lv)(v2 v3 v7 v8:Int)(v9 v10:Lv)(v13:Int)(v14:Lv):Option aa:=
 (bif (cI (List.modify v14 (v13).toNat (fun r=>r.set 0 (AV.int ((cI v10 0 0)+1)))) v3 0)=0 then bif 14<=(v14.length:Int) then(ab (fun go1 s=>Ky n go0 go2 go1 v1 v9 v10 v13 v14 s.1 s.2) n ((v8,0):bc))else none else(ab (fun go1 s=>gw n go0 go2 go1 v2 v3 v7 v8 v9 v10 v13 v14 s.1 s.2) n ((v3,4611686018427387903):bc)))
def BC(n:Nat)(go0:aK->Option aa)(go1:cb->Option aa)(go2:aR->Option aa)(v1:Lv)(v2 v3 v7 v8:Int)(v9 v10 v12:Lv)(v13:Int)(v14:Lv):Option aa:=
 (bif v13=v3 then bif v3<14 then bif v3<(v14.length:Int) then uL n go0 go1 go2 v1 v2 v3 v7 v8 v9 v10 v13 v14 else none else none else bif (((v12.length:Int)+1)*8)<=140737488355328 then bif(-9223372036854775808<=(v13+1))&&((v13+1)<=9223372036854775807)then go2 ((v12++[[(AV.int v13)]]),(v13+1),(List.modify v14 (v13).toNat (fun r=>r.set 0 (AV.int ((cI v10 0 0)+1)))))else none else none)
def BL(n:Nat)(go0:aK->Option aa)(go1:cb->Option aa)(go2:aR->Option aa)(v1:Lv)(v2 v3 v7 v8:Int)(v9 v10 v12:Lv)(v13:Int)(v14:Lv):Option aa:=
 (bif (cI v9 (((cI v10 0 0)*14)+v13) 0)=0 then bif(-9223372036854775808<=(v13+1))&&((v13+1)<=9223372036854775807)then go2 (v12,(v13+1),v14)else none else bif(-9223372036854775808<=((cI v10 0 0)+1))&&(((cI v10 0 0)+1)<=9223372036854775807)then BC n go0 go1 go2 v1 v2 v3 v7 v8 v9 v10 v12 v13 v14 else none)
def BD(n:Nat)(go0:aK->Option aa)(go1:cb->Option aa)(go2:aR->Option aa)(v1:Lv)(v2 v3 v7 v8:Int)(v9 v10 v12:Lv)(v13:Int)(v14:Lv):Option aa:=
 (bif 0<(cI v14 v13 0) then bif(-9223372036854775808<=(v13+1))&&((v13+1)<=9223372036854775807)then go2 (v12,(v13+1),v14)else none else bif 0<=(cI v10 0 0) then bif (cI v10 0 0)<14 then bif ((cI v10 0 0)*14)<(v9.length:Int) then bif (((cI v10 0 0)*14)+v13)<(v9.length:Int) then BL n go0 go1 go2 v1 v2 v3 v7 v8 v9 v10 v12 v13 v14 else none else none else none else none)
def eg(n:Nat)(go0:aK->Option aa)(go1:cb->Option aa)(go2:aR->Option aa)(v1:Lv)(v2 v3 v7 v8:Int)(v9 v10 v12:Lv)(v13:Int)(v14:Lv):Option aa:=
 (bif v13<14 then bif 0<=v13 then bif v13<(v14.length:Int) then BD n go0 go1 go2 v1 v2 v3 v7 v8 v9 v10 v12 v13 v14 else none else none else go1 (v12,v14))
def gv(n:Nat)(go0:aD->Option aa)(go1:aD->Option aa)(v9:Lv)(v16 v18:Int)(v19:Lv):Option aa:=
 (bif v18<14 then bif 0<=v16 then bif (v16*14)<(v19.length:Int) then bif 0<=v18 then bif ((v16*14)+v18)<(v19.length:Int) then bif (v16*14)<(v9.length:Int) then bif ((v16*14)+v18)<(v9.length:Int) then bif(-9223372036854775808<=((cI v19 ((v16*14)+v18) 0)-(cI v9 ((v16*14)+v18) 0)))&&(((cI v19 ((v16*14)+v18) 0)-(cI v9 ((v16*14)+v18) 0))<=9223372036854775807)then bif(-9223372036854775808<=(v18+1))&&((v18+1)<=9223372036854775807)then go1 ((v18+1),(List.modify v19 (((v16*14)+v18)).toNat (fun r=>r.set 0 (AV.int (ba ((cI v19 ((v16*14)+v18) 0)-(cI v9 ((v16*14)+v18) 0)) 0)))))else none else none else none else none else none else none else none else none else bif(-9223372036854775808<=(v16+1))&&((v16+1)<=9223372036854775807)then go0 ((v16+1),v19)else none)
def gB(n:Nat)(go1:bc->Option aa)(go0:aR->Option aa)(v1:Lv)(v12:Int)(v18:Lv)(v19:Int)(v20:Lv):Option aa:=
 (bif v19<(v1.length:Int) then bif 0<=v19 then bif 0<=(cI v1 v19 0) then bif (cI v1 v19 0)<14 then bif ((cI v1 v19 0)*14)<(v20.length:Int) then bif 0<=(cI v1 v19 1) then bif (cI v1 v19 1)<14 then bif (((cI v1 v19 0)*14)+(cI v1 v19 1))<(v20.length:Int) then bif(-9223372036854775808<=((cI v20 (((cI v1 v19 0)*14)+(cI v1 v19 1)) 0)-(aM (cI v1 v19 2) (cI v20 (((cI v1 v19 0)*14)+(cI v1 v19 1)) 0))))&&(((cI v20 (((cI v1 v19 0)*14)+(cI v1 v19 1)) 0)-(aM (cI v1 v19 2) (cI v20 (((cI v1 v19 0)*14)+(cI v1 v19 1)) 0)))<=9223372036854775807)then bif (((v18.length:Int)+1)*8)<=140737488355328 then bif(-9223372036854775808<=(v19+1))&&((v19+1)<=9223372036854775807)then go0 ((v18++[[(AV.int (aM (cI v1 v19 2) (cI v20 (((cI v1 v19 0)*14)+(cI v1 v19 1)) 0)))]]),(v19+1),(List.modify v20 ((((cI v1 v19 0)*14)+(cI v1 v19 1))).toNat (fun r=>r.set 0 (AV.int ((cI v20 (((cI v1 v19 0)*14)+(cI v1 v19 1)) 0)-(aM (cI v1 v19 2) (cI v20 (((cI v1 v19 0)*14)+(cI v1 v19 1)) 0)))))))else none else none else none else none else none else none else none else none else none else none else some (v18,v12,0))
def gy(n:Nat)(go1:bc->Option aa)(go0:aD->Option aa)(v1 v9:Lv)(v12 v16:Int)(v17:Lv):Option aa:=
 (bif v16<14 then(ab (fun go1 s=>gv n go0 go1 v9 v16 s.1 s.2) n ((0,v17):aD))else(ab (fun go0 s=>gB n go1 go0 v1 v12 s.1 s.2.1 s.2.2) n ((([]:Lv),0,v17):aR)))
def gr(n:Nat)(go1:bc->Option aa)(go0:aD->Option aa)(v1 v9:Lv)(v12 v14:Int)(v15:Lv):Option aa:=
 (bif v14<(v1.length:Int) then bif 0<=v14 then bif 0<=(cI v1 v14 0) then bif (cI v1 v14 0)<14 then bif ((cI v1 v14 0)*14)<(v15.length:Int) then bif 0<=(cI v1 v14 1) then bif (cI v1 v14 1)<14 then bif (((cI v1 v14 0)*14)+(cI v1 v14 1))<(v15.length:Int) then bif(-9223372036854775808<=((cI v15 (((cI v1 v14 0)*14)+(cI v1 v14 1)) 0)+(cI v1 v14 2)))&&(((cI v15 (((cI v1 v14 0)*14)+(cI v1 v14 1)) 0)+(cI v1 v14 2))<=9223372036854775807)then bif(-9223372036854775808<=(v14+1))&&((v14+1)<=9223372036854775807)then go0 ((v14+1),(List.modify v15 ((((cI v1 v14 0)*14)+(cI v1 v14 1))).toNat (fun r=>r.set 0 (AV.int ((cI v15 (((cI v1 v14 0)*14)+(cI v1 v14 1)) 0)+(cI v1 v14 2))))))else none else none else none else none else none else none else none else none else none else(ab (fun go0 s=>gy n go1 go0 v1 v9 v12 s.1 s.2) n ((0,v15):aD)))
def eT(n:Nat)(go0:aK->Option aa)(go1:bc->Option aa)(v1 v9 v11:Lv)(v12 v13:Int):Option aa:=
 (bif v13<14 then bif 0<=v13 then(bif 0<(cI v11 v13 0) then bif(-9223372036854775808<=(v13+1))&&((v13+1)<=9223372036854775807)then go1 ((IOp.f .or v12 (IOp.f .shl 1 v13)),(v13+1))else none else bif(-9223372036854775808<=(v13+1))&&((v13+1)<=9223372036854775807)then go1 (v12,(v13+1))else none)else none else(ab (fun go0 s=>gr n go1 go0 v1 v9 v12 s.1 s.2) n ((0,(List.replicate ((196:Int)).toNat [(AV.int 0)])):aD)))
def Kj(n:Nat)(go0:aK->Option aa)(go1:aD->Option aa)(v2 v7 v8:Int)(v11:Lv)(v13 v14:Int)(v15:Lv):Option aa:=
 (bif !(v14=v2)then bif 0<=v14 then bif v14<14 then bif v14<(v11.length:Int) then bif(-9223372036854775808<=((cI v11 v14 0)-1))&&(((cI v11 v14 0)-1)<=9223372036854775807)then bif 0<=((cI v11 v14 0)-1) then bif ((cI v11 v14 0)-1)<14 then bif (((cI v11 v14 0)-1)*14)<(v15.length:Int) then bif ((((cI v11 v14 0)-1)*14)+v14)<(v15.length:Int) then bif(-9223372036854775808<=((cI v15 ((((cI v11 v14 0)-1)*14)+v14) 0)-v13))&&(((cI v15 ((((cI v11 v14 0)-1)*14)+v14) 0)-v13)<=9223372036854775807)then bif (v14*14)<(v15.length:Int) then bif ((v14*14)+((cI v11 v14 0)-1))<(v15.length:Int) then bif(-9223372036854775808<=((cI (List.modify v15 (((((cI v11 v14 0)-1)*14)+v14)).toNat (fun r=>r.set 0 (AV.int ((cI v15 ((((cI v11 v14 0)-1)*14)+v14) 0)-v13)))) ((v14*14)+((cI v11 v14 0)-1)) 0)+v13))&&(((cI (List.modify v15 (((((cI v11 v14 0)-1)*14)+v14)).toNat (fun r=>r.set 0 (AV.int ((cI v15 ((((cI v11 v14 0)-1)*14)+v14) 0)-v13)))) ((v14*14)+((cI v11 v14 0)-1)) 0)+v13)<=9223372036854775807)then go1 (((cI v11 v14 0)-1),(List.modify (List.modify v15 (((((cI v11 v14 0)-1)*14)+v14)).toNat (fun r=>r.set 0 (AV.int ((cI v15 ((((cI v11 v14 0)-1)*14)+v14) 0)-v13)))) (((v14*14)+((cI v11 v14 0)-1))).toNat (fun r=>r.set 0 (AV.int ((cI (List.modify v15 (((((cI v11 v14 0)-1)*14)+v14)).toNat (fun r=>r.set 0 (AV.int ((cI v15 ((((cI v11 v14 0)-1)*14)+v14) 0)-v13)))) ((v14*14)+((cI v11 v14 0)-1)) 0)+v13)))))else none else none else none else none else none else none else none else none else none else none else none else none else bif(-9223372036854775808<=(v7+v13))&&((v7+v13)<=9223372036854775807)then go0 ((v7+v13),v8,v15)else none)
def Ks(n:Nat)(go0:aK->Option aa)(go1:bc->Option aa)(v2 v3 v7 v8:Int)(v9 v11:Lv)(v12 v13:Int):Option aa:=
 (bif !(v12=v2)then bif 0<=v12 then bif v12<14 then bif v12<(v11.length:Int) then bif(-9223372036854775808<=((cI v11 v12 0)-1))&&(((cI v11 v12 0)-1)<=9223372036854775807)then bif 0<=((cI v11 v12 0)-1) then bif ((cI v11 v12 0)-1)<14 then bif (((cI v11 v12 0)-1)*14)<(v9.length:Int) then bif ((((cI v11 v12 0)-1)*14)+v12)<(v9.length:Int) then go1 (((cI v11 v12 0)-1),(aM v13 (cI v9 ((((cI v11 v12 0)-1)*14)+v12) 0)))else none else none else none else none else none else none else none else none else(ab (fun go1 s=>Kj n go0 go1 v2 v7 v8 v11 v13 s.1 s.2) n ((v3,v9):aD)))
def uZ(n:Nat)(go0:aK->Option aa)(go1:cb->Option aa)(v1:Lv)(v2 v3 v7 v8:Int)(v9 v11:Lv):Option aa:=
 (bif (cI v11 v3 0)=0 then bif 14<=(v11.length:Int) then(ab (fun go1 s=>eT n go0 go1 v1 v9 v11 s.1 s.2) n ((v8,0):bc))else none else(ab (fun go1 s=>Ks n go0 go1 v2 v3 v7 v8 v9 v11 s.1 s.2) n ((v3,4611686018427387903):bc)))
def dZ(n:Nat)(go0:aK->Option aa)(go1:cb->Option aa)(v1:Lv)(v2 v3 v7 v8:Int)(v9 v10 v11:Lv):Option aa:=
 (bif 0<(v10.length:Int) then bif 1<=(v10.length:Int) then(ab (fun go2 s=>eg n go0 go1 go2 v1 v2 v3 v7 v8 v9 v10 s.1 s.2.1 s.2.2) n (((List.drop ((1:Int)).toNat v10),0,v11):aR))else none else bif v3<14 then bif v3<(v11.length:Int) then uZ n go0 go1 v1 v2 v3 v7 v8 v9 v11 else none else none)
def jX(n:Nat)(go0:aK->Option aa)(v1:Lv)(v2 v3 v7 v8:Int)(v9:Lv):Option aa:=
 bif(-9223372036854775808<=(v2+1))&&((v2+1)<=9223372036854775807)then bif v2<14 then bif v2<14 then(ab (fun go1 s=>dZ n go0 go1 v1 v2 v3 v7 v8 v9 s.1 s.2) n (((([]:Lv)++[[(AV.int v2)]]),(List.modify (List.replicate ((14:Int)).toNat [(AV.int 0)]) (v2).toNat (fun r=>r.set 0 (AV.int (v2+1))))):cb))else none else none else none
def fU(n:Nat)(go0:aD->Option aa)(v1:Lv)(v2 v3 v5:Int)(v6:Lv):Option aa:=
 (bif v5<(v1.length:Int) then bif 0<=v5 then bif 0<=(cI v1 v5 0) then bif (cI v1 v5 0)<14 then bif ((cI v1 v5 0)*14)<(v6.length:Int) then bif 0<=(cI v1 v5 1) then bif (cI v1 v5 1)<14 then bif (((cI v1 v5 0)*14)+(cI v1 v5 1))<(v6.length:Int) then bif(-9223372036854775808<=((cI v6 (((cI v1 v5 0)*14)+(cI v1 v5 1)) 0)+(cI v1 v5 2)))&&(((cI v6 (((cI v1 v5 0)*14)+(cI v1 v5 1)) 0)+(cI v1 v5 2))<=9223372036854775807)then bif(-9223372036854775808<=(v5+1))&&((v5+1)<=9223372036854775807)then go0 ((v5+1),(List.modify v6 ((((cI v1 v5 0)*14)+(cI v1 v5 1))).toNat (fun r=>r.set 0 (AV.int ((cI v6 (((cI v1 v5 0)*14)+(cI v1 v5 1)) 0)+(cI v1 v5 2))))))else none else none else none else none else none else none else none else none else none else(ab (fun go0 s=>jX n go0 v1 v2 v3 s.1 s.2.1 s.2.2) n ((0,0,v6):aK)))
def C7(n:Nat)(v1:Lv)(v2 v3:Int):Option aa:=
 (bif((decide (v2=v3))==true)then some (([]:Lv),0,270)else(ab (fun go0 s=>fU n go0 v1 v2 v3 s.1 s.2) n ((0,(List.replicate ((196:Int)).toNat [(AV.int 0)])):aD)))
def CY(n:Nat)(v0:Int)(v1:Lv)(v2 v3:Int):Option aa:=
 (bif v3<=(v0-1) then C7 n v1 v2 v3 else some (([]:Lv),0,270))
def DE(n:Nat)(v0:Int)(v1:Lv)(v2 v3:Int):Option aa:=
 (bif 0<=v3 then CY n v0 v1 v2 v3 else some (([]:Lv),0,270))
def DZ(n:Nat)(v0:Int)(v1:Lv)(v2 v3:Int):Option aa:=
 (bif v2<=(v0-1) then DE n v0 v1 v2 v3 else some (([]:Lv),0,270))
def DY(n:Nat)(v0:Int)(v1:Lv)(v2 v3:Int):Option aa:=
 (bif 0<=v2 then DZ n v0 v1 v2 v3 else some (([]:Lv),0,270))
def C1(n:Nat)(v0:Int)(v1:Lv)(v2 v3:Int)(v4:Bool):Option aa:=
 (bif v4 then bif(-9223372036854775808<=(v0-1))&&((v0-1)<=9223372036854775807)then DY n v0 v1 v2 v3 else none else some (([]:Lv),0,270))
def Dm(n:Nat)(v0:Int)(v1:Lv)(v2 v3:Int):Option aa:=
 (ir n v0 v1).bind fun y4=>
 C1 n v0 v1 v2 v3 y4
def jx(n:Nat)(v0:Int)(v1:Lv)(v2 v3:Int):Option aa:=Dm n v0 v1 v2 v3
def flow_Max_t:FnT:=⟨[(true,[.int,tSc]),(false,[.int]),(false,[.int])],(.tup (.cons (.row 3 (.cons .int .nil)) (.cons .i (.cons .i .nil)))),fun n (s:Int×Lv×Int×Int)=>jx n s.1 s.2.1 s.2.2.1 s.2.2.2⟩
theorem JU:flow_Max_t.ok Tryz.prog 39:=FnT.ok_of (cfg:=⟨[((101,1,0),.inv [.tmp 6 .int,.tmp 7 .int,.inrow 3 249 (.cons .int .nil)]),((101,4,0),.inv [.tmprow 9 5000003 (.cons .int .nil),.inrow 12 247 (.cons .int .nil)]),((100,3,4),.inv [(.tmp 9 .int),(.inrow 3 249 (.cons .int .nil))]),((101,8,18),.inv [(.tmprow 9 5000003 (.cons .int .nil)),(.tmp 30 .int),(.inrow 12 247 (.cons .int .nil))]),((101,17,22),.inv [(.tmp 7 .int),(.tmp 64 .int)]),((100,3,27),.inv [(.tmp 9 .int),(.inrow 26 249 (.cons .int .nil))]),((102,3,29),.inv [(.tmp 14 .int),(.inrow 26 249 (.cons .int .nil))]),((102,6,31),.inv [(.tmp 17 .int),(.inrow 26 249 (.cons .int .nil))]),((102,13,31),.inv [(.tmprow 8 3 (.cons .int .nil)),(.tmp 47 .int),(.inrow 26 249 (.cons .int .nil))]),((173,1,24),.inv [(.tmp 5 .int),(.cell 22 0 .int)]),((173,1,26),.inv [(.tmp 5 .int),(.inrow 3 249 (.cons .int .nil))]),((101,17,17),.inv [(.tmp 7 .int),(.tmp 64 .int)]),((100,3,22),.inv [(.tmp 9 .int),(.inrow 21 249 (.cons .int .nil))]),((102,3,24),.inv [(.tmp 14 .int),(.inrow 21 249 (.cons .int .nil))]),((102,6,26),.inv [(.tmp 17 .int),(.inrow 21 249 (.cons .int .nil))]),((102,13,26),.inv [(.tmprow 8 3 (.cons .int .nil)),(.tmp 47 .int),(.inrow 21 249 (.cons .int .nil))]),((173,1,19),.inv [(.tmp 5 .int),(.cell 17 0 .int)]),((173,1,21),.inv [(.tmp 5 .int),(.inrow 3 249 (.cons .int .nil))])],Qh,[],aj⟩) ay nk ax (fun s fn hf=>by rw[Tryz.func39]at hf;cases hf;kernel_rfl) (fun n s=>by kernel_rfl)
def flow_Max_T:Tab:=(39,flow_Max_t)::flow_CheckFlow_T
theorem xO:flow_Max_T.ok Tryz.prog:=Tab.ok_cons JU nk
def sw:List Nat:=[12,13,14,15,16,17,18,19,20,21,22,23,24,25,26,27,28,29,30,31,32,33,34,37,38,39,40,43,44,45,46,47,48,49,50,51,52,53,54,55,56,57,58,59,62,66,68,69,70,71,72,73,74,75,76,77,78,84,85,86,87,89,95,105,106,107,108,109,110,111,112,114,115,116,117,120,122,130,132,149,150,152,153,159,176,178,179,180,182,183,184,186,187,193,202,203,204,210,211,1000015,1000016,1000017,1000018,1000019,1000022,1000049,1000050,1000051,1000052,1000053,1000062,2000151,2000152,2000217,2000247,2000248,2000249]
abbrev ey:=Bool
abbrev dX:=Int×Int
def dh(n:Nat)(go0:dX->Option ey)(v0 v1 v2 v3 v4:Lv)(v5 v6 v7 v8 v9 v10 v11 v12 v13 v14:Int)(v15:Bool)(v16:Lv)(v17:Int)(v18:Lv)(v19 v20:Int):Option ey:=
 (bif v20<(v0.length:Int) then bif 0<=v20 then(nS n (cL v0 v20 1)).bind fun y21=>
 (bif !(y21.2.2.2.2.2=0)then some false else bif(-9223372036854775808<=(v19+1))&&((v19+1)<=9223372036854775807)then(bif (v19+1)<=(cI v0 v20 0) then(bif !((cI v0 v20 0)<=99999999)then some false else bif(-9223372036854775808<=(v20+1))&&((v20+1)<=9223372036854775807)then go0 ((cI v0 v20 0),(v20+1))else none)else some false)else none)else none else(bif 10<(v0.length:Int) then some false else(iR n v1 v2).bind fun y21=>
 (bif(!y21)then some false else(kR n v3 v4 v5).bind fun y22=>
 (bif(!y22)then some false else(kL n v6 v7 v8 v9 v10 v11 v12 v13 v14 v15 v16).bind fun y23=>
 (bif y23 then(ir n v17 v18).bind fun y24=>
 (bif y24 then some (decide (v17=8))else some false)else some false)))))
def sP(n:Nat)(v0 v1 v2 v3 v4:Lv)(v5 v6 v7 v8 v9 v10 v11 v12 v13 v14:Int)(v15:Bool)(v16:Lv)(v17:Int)(v18:Lv):Option ey:=
 (ab (fun go0 s=>dh n go0 v0 v1 v2 v3 v4 v5 v6 v7 v8 v9 v10 v11 v12 v13 v14 v15 v16 v17 v18 s.1 s.2) n (((-1),0):dX))
def fD(n:Nat)(v0 v1 v2 v3 v4:Lv)(v5 v6 v7 v8 v9 v10 v11 v12 v13 v14:Int)(v15:Bool)(v16:Lv)(v17:Int)(v18:Lv):Option ey:=sP n v0 v1 v2 v3 v4 v5 v6 v7 v8 v9 v10 v11 v12 v13 v14 v15 v16 v17 v18
def refusal_Valid_t:FnT:=⟨[(true,[(.sl (.cons .int (.cons tSc .nil))),(.sl (.cons .int (.cons .int (.cons .int (.cons .int (.cons .int .nil)))))),(.sl (.cons .int (.cons .int .nil))),tSa,tSa,.int,.int,.int,.int,.int,.int,.int,.int,.int,.int,.bool,tSc,.int,tSc])],.b,fun n (s:Lv×Lv×Lv×Lv×Lv×Int×Int×Int×Int×Int×Int×Int×Int×Int×Int×Bool×Lv×Int×Lv)=>fD n s.1 s.2.1 s.2.2.1 s.2.2.2.1 s.2.2.2.2.1 s.2.2.2.2.2.1 s.2.2.2.2.2.2.1 s.2.2.2.2.2.2.2.1 s.2.2.2.2.2.2.2.2.1 s.2.2.2.2.2.2.2.2.2.1 s.2.2.2.2.2.2.2.2.2.2.1 s.2.2.2.2.2.2.2.2.2.2.2.1 s.2.2.2.2.2.2.2.2.2.2.2.2.1 s.2.2.2.2.2.2.2.2.2.2.2.2.2.1 s.2.2.2.2.2.2.2.2.2.2.2.2.2.2.1 s.2.2.2.2.2.2.2.2.2.2.2.2.2.2.2.1 s.2.2.2.2.2.2.2.2.2.2.2.2.2.2.2.2.1 s.2.2.2.2.2.2.2.2.2.2.2.2.2.2.2.2.2.1 s.2.2.2.2.2.2.2.2.2.2.2.2.2.2.2.2.2.2⟩
theorem BU:refusal_Valid_t.ok Tryz.prog 25:=FnT.ok_of (cfg:=⟨[((25,3,1),.inv [(.tmp 3 .int),(.tmp 12 .int)])],sw,[],aj⟩) ay xO ax (fun s fn hf=>by rw[Tryz.func25]at hf;cases hf;kernel_rfl) (fun n s=>by kernel_rfl)
def refusal_Valid_T:Tab:=(25,refusal_Valid_t)::flow_Max_T
theorem o9:refusal_Valid_T.ok Tryz.prog:=Tab.ok_cons BU xO
abbrev dk:=Bool
abbrev dP:=Int
def bQ(n:Nat)(go0:dP->Option dk)(v0:Lv)(v19 v26 v27:Int):Option dk:=
 (bif v27<(v0.length:Int) then bif 0<=v27 then(bif (cI v0 v27 0)=v26 then(bif v27<0 then some false else(AY n (cL v0 v27 1) v19).bind fun y28=>
 some (decide (y28.1=1)))else bif(-9223372036854775808<=(v27+1))&&((v27+1)<=9223372036854775807)then go0 (v27+1)else none)else none else some false)
def kM(n:Nat)(v0:Lv)(v19 v26:Int):Option dk:=
 (ab (fun go0 s=>bQ n go0 v0 v19 v26 s) n (0:dP))
def cS(n:Nat)(v0 v1 v2 v3 v4:Lv)(v5 v6 v7 v8 v9 v10 v11 v12 v13 v14:Int)(v15:Bool)(v16:Lv)(v17:Int)(v18:Lv)(v19 v20 v21:Int)(v22 v23 v24:Lv)(v25 v26:Int):Option dk:=kM n v0 v19 v26
def refusal_call__isHeld_t:FnT:=⟨[(true,[(.sl (.cons .int (.cons tSc .nil))),(.sl (.cons .int (.cons .int (.cons .int (.cons .int (.cons .int .nil)))))),(.sl (.cons .int (.cons .int .nil))),tSa,tSa,.int,.int,.int,.int,.int,.int,.int,.int,.int,.int,.bool,tSc,.int,tSc,.int,.int,.int,tSa,tSa,(.sl (.cons .int (.cons .int .nil))),.int]),(false,[.int])],.b,fun n (s:Lv×Lv×Lv×Lv×Lv×Int×Int×Int×Int×Int×Int×Int×Int×Int×Int×Bool×Lv×Int×Lv×Int×Int×Int×Lv×Lv×Lv×Int×Int)=>cS n s.1 s.2.1 s.2.2.1 s.2.2.2.1 s.2.2.2.2.1 s.2.2.2.2.2.1 s.2.2.2.2.2.2.1 s.2.2.2.2.2.2.2.1 s.2.2.2.2.2.2.2.2.1 s.2.2.2.2.2.2.2.2.2.1 s.2.2.2.2.2.2.2.2.2.2.1 s.2.2.2.2.2.2.2.2.2.2.2.1 s.2.2.2.2.2.2.2.2.2.2.2.2.1 s.2.2.2.2.2.2.2.2.2.2.2.2.2.1 s.2.2.2.2.2.2.2.2.2.2.2.2.2.2.1 s.2.2.2.2.2.2.2.2.2.2.2.2.2.2.2.1 s.2.2.2.2.2.2.2.2.2.2.2.2.2.2.2.2.1 s.2.2.2.2.2.2.2.2.2.2.2.2.2.2.2.2.2.1 s.2.2.2.2.2.2.2.2.2.2.2.2.2.2.2.2.2.2.1 s.2.2.2.2.2.2.2.2.2.2.2.2.2.2.2.2.2.2.2.1 s.2.2.2.2.2.2.2.2.2.2.2.2.2.2.2.2.2.2.2.2.1 s.2.2.2.2.2.2.2.2.2.2.2.2.2.2.2.2.2.2.2.2.2.1 s.2.2.2.2.2.2.2.2.2.2.2.2.2.2.2.2.2.2.2.2.2.2.1 s.2.2.2.2.2.2.2.2.2.2.2.2.2.2.2.2.2.2.2.2.2.2.2.1 s.2.2.2.2.2.2.2.2.2.2.2.2.2.2.2.2.2.2.2.2.2.2.2.2.1 s.2.2.2.2.2.2.2.2.2.2.2.2.2.2.2.2.2.2.2.2.2.2.2.2.2.1 s.2.2.2.2.2.2.2.2.2.2.2.2.2.2.2.2.2.2.2.2.2.2.2.2.2.2⟩
theorem sI:refusal_call__isHeld_t.ok Tryz.prog 132:=FnT.ok_of (cfg:=⟨[((188,2,0),.inv [.tmp 8 .int])],sw,[],aj⟩) ay o9 ax (fun s fn hf=>by rw[Tryz.func132]at hf;cases hf;kernel_rfl) (fun n s=>by kernel_rfl)
def refusal_call__isHeld_T:Tab:=(132,refusal_call__isHeld_t)::refusal_Valid_T
theorem jj:refusal_call__isHeld_T.ok Tryz.prog:=Tab.ok_cons sI o9
abbrev iQ:=Bool
def iT(n:Nat)(v6 v7 v8 v9 v10 v11 v12 v13 v14:Int)(v15:Bool)(v16:Lv)(v19:Int)(v22 v24:Lv):Option iQ:=
 (mm n v6 v7 v8 v9 v10 v11 v12 v13 v14 v15 v16 v19).bind fun y26=>
 bif(-9223372036854775808<=((v24.length:Int)-1))&&(((v24.length:Int)-1)<=9223372036854775807)then bif 0<=((v24.length:Int)-1) then bif ((v24.length:Int)-1)<(v24.length:Int) then(bif (cI v24 ((v24.length:Int)-1) 0)=v11 then bif(-9223372036854775808<=((v22.length:Int)-1))&&(((v22.length:Int)-1)<=9223372036854775807)then bif 0<=((v22.length:Int)-1) then bif ((v22.length:Int)-1)<(v22.length:Int) then(bif v10=(cI v22 ((v22.length:Int)-1) 0) then some (!(decide ((cI v24 ((v24.length:Int)-1) 0)=y26.1)))else some false)else none else none else none else bif(-9223372036854775808<=((v22.length:Int)-1))&&(((v22.length:Int)-1)<=9223372036854775807)then bif 0<=((v22.length:Int)-1) then bif ((v22.length:Int)-1)<(v22.length:Int) then(bif v10=(cI v22 ((v22.length:Int)-1) 0) then(bif (cI v24 ((v24.length:Int)-1) 0)=v12 then some (!(decide ((cI v24 ((v24.length:Int)-1) 0)=y26.1)))else some false)else some false)else none else none else none)else none else none else none
def bp(n:Nat)(v0 v1 v2 v3 v4:Lv)(v5 v6 v7 v8 v9 v10 v11 v12 v13 v14:Int)(v15:Bool)(v16:Lv)(v17:Int)(v18:Lv)(v19 v20 v21:Int)(v22 v23 v24:Lv)(v25:Int):Option iQ:=iT n v6 v7 v8 v9 v10 v11 v12 v13 v14 v15 v16 v19 v22 v24
def refusal_call__isUnproved_t:FnT:=⟨[(true,[(.sl (.cons .int (.cons tSc .nil))),(.sl (.cons .int (.cons .int (.cons .int (.cons .int (.cons .int .nil)))))),(.sl (.cons .int (.cons .int .nil))),tSa,tSa,.int,.int,.int,.int,.int,.int,.int,.int,.int,.int,.bool,tSc,.int,tSc,.int,.int,.int,tSa,tSa,(.sl (.cons .int (.cons .int .nil))),.int])],.b,fun n (s:Lv×Lv×Lv×Lv×Lv×Int×Int×Int×Int×Int×Int×Int×Int×Int×Int×Bool×Lv×Int×Lv×Int×Int×Int×Lv×Lv×Lv×Int)=>bp n s.1 s.2.1 s.2.2.1 s.2.2.2.1 s.2.2.2.2.1 s.2.2.2.2.2.1 s.2.2.2.2.2.2.1 s.2.2.2.2.2.2.2.1 s.2.2.2.2.2.2.2.2.1 s.2.2.2.2.2.2.2.2.2.1 s.2.2.2.2.2.2.2.2.2.2.1 s.2.2.2.2.2.2.2.2.2.2.2.1 s.2.2.2.2.2.2.2.2.2.2.2.2.1 s.2.2.2.2.2.2.2.2.2.2.2.2.2.1 s.2.2.2.2.2.2.2.2.2.2.2.2.2.2.1 s.2.2.2.2.2.2.2.2.2.2.2.2.2.2.2.1 s.2.2.2.2.2.2.2.2.2.2.2.2.2.2.2.2.1 s.2.2.2.2.2.2.2.2.2.2.2.2.2.2.2.2.2.1 s.2.2.2.2.2.2.2.2.2.2.2.2.2.2.2.2.2.2.1 s.2.2.2.2.2.2.2.2.2.2.2.2.2.2.2.2.2.2.2.1 s.2.2.2.2.2.2.2.2.2.2.2.2.2.2.2.2.2.2.2.2.1 s.2.2.2.2.2.2.2.2.2.2.2.2.2.2.2.2.2.2.2.2.2.1 s.2.2.2.2.2.2.2.2.2.2.2.2.2.2.2.2.2.2.2.2.2.2.1 s.2.2.2.2.2.2.2.2.2.2.2.2.2.2.2.2.2.2.2.2.2.2.2.1 s.2.2.2.2.2.2.2.2.2.2.2.2.2.2.2.2.2.2.2.2.2.2.2.2.1 s.2.2.2.2.2.2.2.2.2.2.2.2.2.2.2.2.2.2.2.2.2.2.2.2.2⟩
theorem ou:refusal_call__isUnproved_t.ok Tryz.prog 130:=FnT.ok_of (cfg:=⟨[],sw,[],aj⟩) ay jj ax (fun s fn hf=>by rw[Tryz.func130]at hf;cases hf;kernel_rfl) (fun n s=>by kernel_rfl)
def refusal_call__isUnproved_T:Tab:=(130,refusal_call__isUnproved_t)::refusal_call__isHeld_T
theorem gD:refusal_call__isUnproved_T.ok Tryz.prog:=Tab.ok_cons ou jj
abbrev cj:=Lv×Lv×Lv×Lv×Lv×Int×Int×Int×Int×Int×Int×Int×Int×Int×Int×Bool×Lv×Int×Lv×Int×Int×Int×Lv×Lv×Lv×Int×Bool
def rL(n:Nat)(v0 v1 v2 v3 v4:Lv)(v5 v6 v7 v8 v9 v10 v11 v12 v13 v14:Int)(v15:Bool)(v16:Lv)(v17:Int)(v18:Lv)(v19 v20 v21:Int):Option cj:=
 (bif !(v20<=10000000)then some (([]:Lv),([]:Lv),([]:Lv),([]:Lv),([]:Lv),0,0,0,0,0,0,0,0,0,0,false,([]:Lv),0,([]:Lv),0,0,0,([]:Lv),([]:Lv),([]:Lv),0,false)else(bif 0<=v21 then(bif !(v21<=7)then some (([]:Lv),([]:Lv),([]:Lv),([]:Lv),([]:Lv),0,0,0,0,0,0,0,0,0,0,false,([]:Lv),0,([]:Lv),0,0,0,([]:Lv),([]:Lv),([]:Lv),0,false)else bif v21<(v4.length:Int) then(bif (cI v4 v21 0)<0 then some (([]:Lv),([]:Lv),([]:Lv),([]:Lv),([]:Lv),0,0,0,0,0,0,0,0,0,0,false,([]:Lv),0,([]:Lv),0,0,0,([]:Lv),([]:Lv),([]:Lv),0,false)else(dE n v1 v2 v19 v20).bind fun y23=>
 (nj n v3 v4 v5 v21).bind fun y27=>
 some (v0,v1,v2,v3,v4,v5,v6,v7,v8,v9,v10,v11,v12,v13,v14,v15,v16,v17,v18,v20,v21,y23.1,y23.2.1,y23.2.2.1,y27.1,y27.2.1,true))else none)else some (([]:Lv),([]:Lv),([]:Lv),([]:Lv),([]:Lv),0,0,0,0,0,0,0,0,0,0,false,([]:Lv),0,([]:Lv),0,0,0,([]:Lv),([]:Lv),([]:Lv),0,false)))
def sn(n:Nat)(v0 v1 v2 v3 v4:Lv)(v5 v6 v7 v8 v9 v10 v11 v12 v13 v14:Int)(v15:Bool)(v16:Lv)(v17:Int)(v18:Lv)(v19 v20 v21:Int):Option cj:=
 (bif 0<=v20 then rL n v0 v1 v2 v3 v4 v5 v6 v7 v8 v9 v10 v11 v12 v13 v14 v15 v16 v17 v18 v19 v20 v21 else some (([]:Lv),([]:Lv),([]:Lv),([]:Lv),([]:Lv),0,0,0,0,0,0,0,0,0,0,false,([]:Lv),0,([]:Lv),0,0,0,([]:Lv),([]:Lv),([]:Lv),0,false))
def rW(n:Nat)(v0 v1 v2 v3 v4:Lv)(v5 v6 v7 v8 v9 v10 v11 v12 v13 v14:Int)(v15:Bool)(v16:Lv)(v17:Int)(v18:Lv)(v19 v20 v21:Int):Option cj:=
 (bif !(v19<=99999999)then some (([]:Lv),([]:Lv),([]:Lv),([]:Lv),([]:Lv),0,0,0,0,0,0,0,0,0,0,false,([]:Lv),0,([]:Lv),0,0,0,([]:Lv),([]:Lv),([]:Lv),0,false)else sn n v0 v1 v2 v3 v4 v5 v6 v7 v8 v9 v10 v11 v12 v13 v14 v15 v16 v17 v18 v19 v20 v21)
def qU(n:Nat)(v0 v1 v2 v3 v4:Lv)(v5 v6 v7 v8 v9 v10 v11 v12 v13 v14:Int)(v15:Bool)(v16:Lv)(v17:Int)(v18:Lv)(v19 v20 v21:Int):Option cj:=
 (bif 0<=v19 then rW n v0 v1 v2 v3 v4 v5 v6 v7 v8 v9 v10 v11 v12 v13 v14 v15 v16 v17 v18 v19 v20 v21 else some (([]:Lv),([]:Lv),([]:Lv),([]:Lv),([]:Lv),0,0,0,0,0,0,0,0,0,0,false,([]:Lv),0,([]:Lv),0,0,0,([]:Lv),([]:Lv),([]:Lv),0,false))
def rG(n:Nat)(v0 v1 v2 v3 v4:Lv)(v5 v6 v7 v8 v9 v10 v11 v12 v13 v14:Int)(v15:Bool)(v16:Lv)(v17:Int)(v18:Lv)(v19 v20 v21:Int)(v22:Bool):Option cj:=
 (bif(!v22)then some (([]:Lv),([]:Lv),([]:Lv),([]:Lv),([]:Lv),0,0,0,0,0,0,0,0,0,0,false,([]:Lv),0,([]:Lv),0,0,0,([]:Lv),([]:Lv),([]:Lv),0,false)else qU n v0 v1 v2 v3 v4 v5 v6 v7 v8 v9 v10 v11 v12 v13 v14 v15 v16 v17 v18 v19 v20 v21)
def si(n:Nat)(v0 v1 v2 v3 v4:Lv)(v5 v6 v7 v8 v9 v10 v11 v12 v13 v14:Int)(v15:Bool)(v16:Lv)(v17:Int)(v18:Lv)(v19 v20 v21:Int):Option cj:=
 (fD n v0 v1 v2 v3 v4 v5 v6 v7 v8 v9 v10 v11 v12 v13 v14 v15 v16 v17 v18).bind fun y22=>
 rG n v0 v1 v2 v3 v4 v5 v6 v7 v8 v9 v10 v11 v12 v13 v14 v15 v16 v17 v18 v19 v20 v21 y22
def e9(n:Nat)(v0 v1 v2 v3 v4:Lv)(v5 v6 v7 v8 v9 v10 v11 v12 v13 v14:Int)(v15:Bool)(v16:Lv)(v17:Int)(v18:Lv)(v19 v20 v21:Int):Option cj:=si n v0 v1 v2 v3 v4 v5 v6 v7 v8 v9 v10 v11 v12 v13 v14 v15 v16 v17 v18 v19 v20 v21
def refusal_callOf_t:FnT:=⟨[(true,[(.sl (.cons .int (.cons tSc .nil))),(.sl (.cons .int (.cons .int (.cons .int (.cons .int (.cons .int .nil)))))),(.sl (.cons .int (.cons .int .nil))),tSa,tSa,.int,.int,.int,.int,.int,.int,.int,.int,.int,.int,.bool,tSc,.int,tSc]),(false,[.int]),(false,[.int]),(false,[.int])],(.tup (.cons (.agg (.cons (.row 1000080 (.cons .int (.cons tSc .nil))) (.cons (.row 1000162 (.cons .int (.cons .int (.cons .int (.cons .int (.cons .int .nil)))))) (.cons (.row 1000198 (.cons .int (.cons .int .nil))) (.cons (.row 1000003 (.cons .int .nil)) (.cons (.row 1000003 (.cons .int .nil)) (.cons .i (.cons .i (.cons .i (.cons .i (.cons .i (.cons .i (.cons .i (.cons .i (.cons .i (.cons .i (.cons .b (.cons (.row 1000166 (.cons .int (.cons .int (.cons .int .nil)))) (.cons .i (.cons (.row 1000073 (.cons .int (.cons .int (.cons .int .nil)))) (.cons .i (.cons .i (.cons .i (.cons (.row 1000003 (.cons .int .nil)) (.cons (.row 1000003 (.cons .int .nil)) (.cons (.row 1000094 (.cons .int (.cons .int .nil))) (.cons .i .nil))))))))))))))))))))))))))) (.cons .b .nil))),fun n (s:Lv×Lv×Lv×Lv×Lv×Int×Int×Int×Int×Int×Int×Int×Int×Int×Int×Bool×Lv×Int×Lv×Int×Int×Int)=>e9 n s.1 s.2.1 s.2.2.1 s.2.2.2.1 s.2.2.2.2.1 s.2.2.2.2.2.1 s.2.2.2.2.2.2.1 s.2.2.2.2.2.2.2.1 s.2.2.2.2.2.2.2.2.1 s.2.2.2.2.2.2.2.2.2.1 s.2.2.2.2.2.2.2.2.2.2.1 s.2.2.2.2.2.2.2.2.2.2.2.1 s.2.2.2.2.2.2.2.2.2.2.2.2.1 s.2.2.2.2.2.2.2.2.2.2.2.2.2.1 s.2.2.2.2.2.2.2.2.2.2.2.2.2.2.1 s.2.2.2.2.2.2.2.2.2.2.2.2.2.2.2.1 s.2.2.2.2.2.2.2.2.2.2.2.2.2.2.2.2.1 s.2.2.2.2.2.2.2.2.2.2.2.2.2.2.2.2.2.1 s.2.2.2.2.2.2.2.2.2.2.2.2.2.2.2.2.2.2.1 s.2.2.2.2.2.2.2.2.2.2.2.2.2.2.2.2.2.2.2.1 s.2.2.2.2.2.2.2.2.2.2.2.2.2.2.2.2.2.2.2.2.1 s.2.2.2.2.2.2.2.2.2.2.2.2.2.2.2.2.2.2.2.2.2⟩
theorem Bk:refusal_callOf_t.ok Tryz.prog 52:=FnT.ok_of (cfg:=⟨[],sw,[],aj⟩) ay gD ax (fun s fn hf=>by rw[Tryz.func52]at hf;cases hf;kernel_rfl) (fun n s=>by kernel_rfl)
def refusal_callOf_T:Tab:=(52,refusal_callOf_t)::refusal_call__isUnproved_T
theorem np:refusal_callOf_T.ok Tryz.prog:=Tab.ok_cons Bk gD
abbrev ae:=Int×Int×Int×Lv×Lv×Lv×Int×Bool
abbrev ak:=Int
def u9(n:Nat)(go0:ak->Option ae)(go1:ak->Option ae)(v0 v1 v2 v3 v4:Lv)(v5 v6 v7 v8 v9 v10 v11 v12 v13 v14:Int)(v15:Bool)(v16:Lv)(v17:Int)(v18:Lv)(v19 v20 v21:Int)(v22 v23 v24:Lv)(v25:Int):Option ae:=
 (bif 2<=v21 then(bif v21<=4 then some (3,0,v21,v22,v23,([]:Lv),0,true)else(bif v25=2 then some (4,0,0,([]:Lv),([]:Lv),v24,0,true)else(bif v25=3 then some (5,0,0,([]:Lv),([]:Lv),v24,0,true)else(bif v25=1 then(bp n v0 v1 v2 v3 v4 v5 v6 v7 v8 v9 v10 v11 v12 v13 v14 v15 v16 v17 v18 v19 v20 v21 v22 v23 v24 v25).bind fun y29=>
 (bif y29 then some (6,0,0,([]:Lv),([]:Lv),v24,0,true)else bif(-9223372036854775808<=((v24.length:Int)-1))&&(((v24.length:Int)-1)<=9223372036854775807)then bif 0<=((v24.length:Int)-1) then bif ((v24.length:Int)-1)<(v24.length:Int) then(bif (cI v24 ((v24.length:Int)-1) 0)=v20 then some (0,0,0,([]:Lv),([]:Lv),([]:Lv),0,false)else(jx n v17 v18 v20 (cI v24 ((v24.length:Int)-1) 0)).bind fun y30=>
 (bm n v17 v18 v20 (cI v24 ((v24.length:Int)-1) 0) y30.2.1).bind fun y33=>
 (bif y33.1=0 then some (7,0,0,([]:Lv),([]:Lv),v24,y30.2.1,true)else some (0,0,0,([]:Lv),([]:Lv),([]:Lv),0,false)))else none else none else none)else some (0,0,0,([]:Lv),([]:Lv),([]:Lv),0,false)))))else(bif v25=2 then some (4,0,0,([]:Lv),([]:Lv),v24,0,true)else(bif v25=3 then some (5,0,0,([]:Lv),([]:Lv),v24,0,true)else(bif v25=1 then(bp n v0 v1 v2 v3 v4 v5 v6 v7 v8 v9 v10 v11 v12 v13 v14 v15 v16 v17 v18 v19 v20 v21 v22 v23 v24 v25).bind fun y29=>
 (bif y29 then some (6,0,0,([]:Lv),([]:Lv),v24,0,true)else bif(-9223372036854775808<=((v24.length:Int)-1))&&(((v24.length:Int)-1)<=9223372036854775807)then bif 0<=((v24.length:Int)-1) then bif ((v24.length:Int)-1)<(v24.length:Int) then(bif (cI v24 ((v24.length:Int)-1) 0)=v20 then some (0,0,0,([]:Lv),([]:Lv),([]:Lv),0,false)else(jx n v17 v18 v20 (cI v24 ((v24.length:Int)-1) 0)).bind fun y30=>
 (bm n v17 v18 v20 (cI v24 ((v24.length:Int)-1) 0) y30.2.1).bind fun y33=>
 (bif y33.1=0 then some (7,0,0,([]:Lv),([]:Lv),v24,y30.2.1,true)else some (0,0,0,([]:Lv),([]:Lv),([]:Lv),0,false)))else none else none else none)else some (0,0,0,([]:Lv),([]:Lv),([]:Lv),0,false)))))
def uR(n:Nat)(go0:ak->Option ae)(go1:ak->Option ae)(v0 v1 v2 v3 v4:Lv)(v5 v6 v7 v8 v9 v10 v11 v12 v13 v14:Int)(v15:Bool)(v16:Lv)(v17:Int)(v18:Lv)(v19 v20 v21:Int)(v22 v23 v24:Lv)(v25:Int):Option ae:=
 (bif v21=6 then some (2,0,v21,v22,v23,([]:Lv),0,true)else u9 n go0 go1 v0 v1 v2 v3 v4 v5 v6 v7 v8 v9 v10 v11 v12 v13 v14 v15 v16 v17 v18 v19 v20 v21 v22 v23 v24 v25)
def uG(n:Nat)(go0:ak->Option ae)(go1:ak->Option ae)(v0 v1 v2 v3 v4:Lv)(v5 v6 v7 v8 v9 v10 v11 v12 v13 v14:Int)(v15:Bool)(v16:Lv)(v17:Int)(v18:Lv)(v19 v20 v21:Int)(v22 v23 v24:Lv)(v25:Int):Option ae:=
 (bif v21=5 then some (2,0,v21,v22,v23,([]:Lv),0,true)else uR n go0 go1 v0 v1 v2 v3 v4 v5 v6 v7 v8 v9 v10 v11 v12 v13 v14 v15 v16 v17 v18 v19 v20 v21 v22 v23 v24 v25)
def kN(n:Nat)(go0:ak->Option ae)(go1:ak->Option ae)(v0 v1 v2 v3 v4:Lv)(v5 v6 v7 v8 v9 v10 v11 v12 v13 v14:Int)(v15:Bool)(v16:Lv)(v17:Int)(v18:Lv)(v19 v20 v21:Int)(v22 v23 v24:Lv)(v25 v26:Int):Option ae:=
 (bif v26<0 then uG n go0 go1 v0 v1 v2 v3 v4 v5 v6 v7 v8 v9 v10 v11 v12 v13 v14 v15 v16 v17 v18 v19 v20 v21 v22 v23 v24 v25 else some (1,(cI v22 v26 0),0,([]:Lv),([]:Lv),([]:Lv),0,true))
def kJ(n:Nat)(go0:ak->Option ae)(go1:ak->Option ae)(v0 v1 v2 v3 v4:Lv)(v5 v6 v7 v8 v9 v10 v11 v12 v13 v14:Int)(v15:Bool)(v16:Lv)(v17:Int)(v18:Lv)(v19 v20 v21:Int)(v22 v23 v24:Lv)(v25 v26:Int)(v28:Bool):Option ae:=
 (bif(!v28)then kN n go0 go1 v0 v1 v2 v3 v4 v5 v6 v7 v8 v9 v10 v11 v12 v13 v14 v15 v16 v17 v18 v19 v20 v21 v22 v23 v24 v25 v26 else bif(-9223372036854775808<=(v26+1))&&((v26+1)<=9223372036854775807)then go0 (v26+1)else none)
def gz(n:Nat)(go0:ak->Option ae)(go1:ak->Option ae)(v0 v1 v2 v3 v4:Lv)(v5 v6 v7 v8 v9 v10 v11 v12 v13 v14:Int)(v15:Bool)(v16:Lv)(v17:Int)(v18:Lv)(v19 v20 v21:Int)(v22 v23 v24:Lv)(v25 v26 v27:Int):Option ae:=
 (bif (cI v22 v26 0)=(cI v22 v27 0) then(cS n v0 v1 v2 v3 v4 v5 v6 v7 v8 v9 v10 v11 v12 v13 v14 v15 v16 v17 v18 v19 v20 v21 v22 v23 v24 v25 (cI v22 v26 0)).bind fun y28=>
 kJ n go0 go1 v0 v1 v2 v3 v4 v5 v6 v7 v8 v9 v10 v11 v12 v13 v14 v15 v16 v17 v18 v19 v20 v21 v22 v23 v24 v25 v26 y28 else bif(-9223372036854775808<=(v27+1))&&((v27+1)<=9223372036854775807)then go1 (v27+1)else none)
def bR(n:Nat)(go0:ak->Option ae)(go1:ak->Option ae)(v0 v1 v2 v3 v4:Lv)(v5 v6 v7 v8 v9 v10 v11 v12 v13 v14:Int)(v15:Bool)(v16:Lv)(v17:Int)(v18:Lv)(v19 v20 v21:Int)(v22 v23 v24:Lv)(v25 v26 v27:Int):Option ae:=
 (bif v27<(v22.length:Int) then bif 0<=v27 then gz n go0 go1 v0 v1 v2 v3 v4 v5 v6 v7 v8 v9 v10 v11 v12 v13 v14 v15 v16 v17 v18 v19 v20 v21 v22 v23 v24 v25 v26 v27 else none else bif(-9223372036854775808<=(v26+1))&&((v26+1)<=9223372036854775807)then go0 (v26+1)else none)
def kv(n:Nat)(go0:ak->Option ae)(v0 v1 v2 v3 v4:Lv)(v5 v6 v7 v8 v9 v10 v11 v12 v13 v14:Int)(v15:Bool)(v16:Lv)(v17:Int)(v18:Lv)(v19 v20 v21:Int)(v22 v23 v24:Lv)(v25:Int):Option ae:=
 (bif 2<=v21 then(bif v21<=4 then some (3,0,v21,v22,v23,([]:Lv),0,true)else(bif v25=2 then some (4,0,0,([]:Lv),([]:Lv),v24,0,true)else(bif v25=3 then some (5,0,0,([]:Lv),([]:Lv),v24,0,true)else(bif v25=1 then(bp n v0 v1 v2 v3 v4 v5 v6 v7 v8 v9 v10 v11 v12 v13 v14 v15 v16 v17 v18 v19 v20 v21 v22 v23 v24 v25).bind fun y27=>
 (bif y27 then some (6,0,0,([]:Lv),([]:Lv),v24,0,true)else bif(-9223372036854775808<=((v24.length:Int)-1))&&(((v24.length:Int)-1)<=9223372036854775807)then bif 0<=((v24.length:Int)-1) then bif ((v24.length:Int)-1)<(v24.length:Int) then(bif (cI v24 ((v24.length:Int)-1) 0)=v20 then some (0,0,0,([]:Lv),([]:Lv),([]:Lv),0,false)else(jx n v17 v18 v20 (cI v24 ((v24.length:Int)-1) 0)).bind fun y28=>
 (bm n v17 v18 v20 (cI v24 ((v24.length:Int)-1) 0) y28.2.1).bind fun y31=>
 (bif y31.1=0 then some (7,0,0,([]:Lv),([]:Lv),v24,y28.2.1,true)else some (0,0,0,([]:Lv),([]:Lv),([]:Lv),0,false)))else none else none else none)else some (0,0,0,([]:Lv),([]:Lv),([]:Lv),0,false)))))else(bif v25=2 then some (4,0,0,([]:Lv),([]:Lv),v24,0,true)else(bif v25=3 then some (5,0,0,([]:Lv),([]:Lv),v24,0,true)else(bif v25=1 then(bp n v0 v1 v2 v3 v4 v5 v6 v7 v8 v9 v10 v11 v12 v13 v14 v15 v16 v17 v18 v19 v20 v21 v22 v23 v24 v25).bind fun y27=>
 (bif y27 then some (6,0,0,([]:Lv),([]:Lv),v24,0,true)else bif(-9223372036854775808<=((v24.length:Int)-1))&&(((v24.length:Int)-1)<=9223372036854775807)then bif 0<=((v24.length:Int)-1) then bif ((v24.length:Int)-1)<(v24.length:Int) then(bif (cI v24 ((v24.length:Int)-1) 0)=v20 then some (0,0,0,([]:Lv),([]:Lv),([]:Lv),0,false)else(jx n v17 v18 v20 (cI v24 ((v24.length:Int)-1) 0)).bind fun y28=>
 (bm n v17 v18 v20 (cI v24 ((v24.length:Int)-1) 0) y28.2.1).bind fun y31=>
 (bif y31.1=0 then some (7,0,0,([]:Lv),([]:Lv),v24,y28.2.1,true)else some (0,0,0,([]:Lv),([]:Lv),([]:Lv),0,false)))else none else none else none)else some (0,0,0,([]:Lv),([]:Lv),([]:Lv),0,false)))))
def kx(n:Nat)(go0:ak->Option ae)(v0 v1 v2 v3 v4:Lv)(v5 v6 v7 v8 v9 v10 v11 v12 v13 v14:Int)(v15:Bool)(v16:Lv)(v17:Int)(v18:Lv)(v19 v20 v21:Int)(v22 v23 v24:Lv)(v25:Int):Option ae:=
 (bif v21=6 then some (2,0,v21,v22,v23,([]:Lv),0,true)else kv n go0 v0 v1 v2 v3 v4 v5 v6 v7 v8 v9 v10 v11 v12 v13 v14 v15 v16 v17 v18 v19 v20 v21 v22 v23 v24 v25)
def fA(n:Nat)(go0:ak->Option ae)(v0 v1 v2 v3 v4:Lv)(v5 v6 v7 v8 v9 v10 v11 v12 v13 v14:Int)(v15:Bool)(v16:Lv)(v17:Int)(v18:Lv)(v19 v20 v21:Int)(v22 v23 v24:Lv)(v25:Int):Option ae:=
 (bif v21=5 then some (2,0,v21,v22,v23,([]:Lv),0,true)else kx n go0 v0 v1 v2 v3 v4 v5 v6 v7 v8 v9 v10 v11 v12 v13 v14 v15 v16 v17 v18 v19 v20 v21 v22 v23 v24 v25)
def bP(n:Nat)(go0:ak->Option ae)(v0 v1 v2 v3 v4:Lv)(v5 v6 v7 v8 v9 v10 v11 v12 v13 v14:Int)(v15:Bool)(v16:Lv)(v17:Int)(v18:Lv)(v19 v20 v21:Int)(v22 v23 v24:Lv)(v25 v26:Int):Option ae:=
 (bif v26<(v22.length:Int) then bif 0<=v26 then(ab (fun go1 s=>bR n go0 go1 v0 v1 v2 v3 v4 v5 v6 v7 v8 v9 v10 v11 v12 v13 v14 v15 v16 v17 v18 v19 v20 v21 v22 v23 v24 v25 v26 s) n (0:ak))else none else fA n go0 v0 v1 v2 v3 v4 v5 v6 v7 v8 v9 v10 v11 v12 v13 v14 v15 v16 v17 v18 v19 v20 v21 v22 v23 v24 v25)
def kE(n:Nat)(v0 v1 v2 v3 v4:Lv)(v5 v6 v7 v8 v9 v10 v11 v12 v13 v14:Int)(v15:Bool)(v16:Lv)(v17:Int)(v18:Lv)(v19 v20 v21:Int)(v22 v23 v24:Lv)(v25:Int):Option ae:=
 (ab (fun go0 s=>bP n go0 v0 v1 v2 v3 v4 v5 v6 v7 v8 v9 v10 v11 v12 v13 v14 v15 v16 v17 v18 v19 v20 v21 v22 v23 v24 v25 s) n (0:ak))
def dD(n:Nat)(v0 v1 v2 v3 v4:Lv)(v5 v6 v7 v8 v9 v10 v11 v12 v13 v14:Int)(v15:Bool)(v16:Lv)(v17:Int)(v18:Lv)(v19 v20 v21:Int)(v22 v23 v24:Lv)(v25:Int):Option ae:=kE n v0 v1 v2 v3 v4 v5 v6 v7 v8 v9 v10 v11 v12 v13 v14 v15 v16 v17 v18 v19 v20 v21 v22 v23 v24 v25
def refusal_call__refuse_t:FnT:=⟨[(true,[(.sl (.cons .int (.cons tSc .nil))),(.sl (.cons .int (.cons .int (.cons .int (.cons .int (.cons .int .nil)))))),(.sl (.cons .int (.cons .int .nil))),tSa,tSa,.int,.int,.int,.int,.int,.int,.int,.int,.int,.int,.bool,tSc,.int,tSc,.int,.int,.int,tSa,tSa,(.sl (.cons .int (.cons .int .nil))),.int])],(.tup (.cons (.agg (.cons .i (.cons .i (.cons .i (.cons (.row 1000003 (.cons .int .nil)) (.cons (.row 1000003 (.cons .int .nil)) (.cons (.row 1000094 (.cons .int (.cons .int .nil))) (.cons .i .nil)))))))) (.cons .b .nil))),fun n (s:Lv×Lv×Lv×Lv×Lv×Int×Int×Int×Int×Int×Int×Int×Int×Int×Int×Bool×Lv×Int×Lv×Int×Int×Int×Lv×Lv×Lv×Int)=>dD n s.1 s.2.1 s.2.2.1 s.2.2.2.1 s.2.2.2.2.1 s.2.2.2.2.2.1 s.2.2.2.2.2.2.1 s.2.2.2.2.2.2.2.1 s.2.2.2.2.2.2.2.2.1 s.2.2.2.2.2.2.2.2.2.1 s.2.2.2.2.2.2.2.2.2.2.1 s.2.2.2.2.2.2.2.2.2.2.2.1 s.2.2.2.2.2.2.2.2.2.2.2.2.1 s.2.2.2.2.2.2.2.2.2.2.2.2.2.1 s.2.2.2.2.2.2.2.2.2.2.2.2.2.2.1 s.2.2.2.2.2.2.2.2.2.2.2.2.2.2.2.1 s.2.2.2.2.2.2.2.2.2.2.2.2.2.2.2.2.1 s.2.2.2.2.2.2.2.2.2.2.2.2.2.2.2.2.2.1 s.2.2.2.2.2.2.2.2.2.2.2.2.2.2.2.2.2.2.1 s.2.2.2.2.2.2.2.2.2.2.2.2.2.2.2.2.2.2.2.1 s.2.2.2.2.2.2.2.2.2.2.2.2.2.2.2.2.2.2.2.2.1 s.2.2.2.2.2.2.2.2.2.2.2.2.2.2.2.2.2.2.2.2.2.1 s.2.2.2.2.2.2.2.2.2.2.2.2.2.2.2.2.2.2.2.2.2.2.1 s.2.2.2.2.2.2.2.2.2.2.2.2.2.2.2.2.2.2.2.2.2.2.2.1 s.2.2.2.2.2.2.2.2.2.2.2.2.2.2.2.2.2.2.2.2.2.2.2.2.1 s.2.2.2.2.2.2.2.2.2.2.2.2.2.2.2.2.2.2.2.2.2.2.2.2.2⟩
theorem sG:refusal_call__refuse_t.ok Tryz.prog 53:=FnT.ok_of (cfg:=⟨[((53,2,0),.unroll 8),((124,2,0),.inv [.tmp 8 .int]),((188,2,0),.inv [.tmp 8 .int]),((158,2,0),.inv [.tmp 8 .int])],sw,[],aj⟩) ay np ax (fun s fn hf=>by rw[Tryz.func53]at hf;cases hf;kernel_rfl) (fun n s=>by kernel_rfl)
def refusal_call__refuse_T:Tab:=(53,refusal_call__refuse_t)::refusal_callOf_T
theorem ji:refusal_call__refuse_T.ok Tryz.prog:=Tab.ok_cons sG np
abbrev cD:=Int×Int×Int×Lv×Lv×Lv×Int×Bool×Int
def r7(n:Nat)(v0 v1 v2 v3 v4:Lv)(v5 v6 v7 v8 v9 v10 v11 v12 v13 v14:Int)(v15:Bool)(v16:Lv)(v17:Int)(v18:Lv)(v19 v20 v21:Int):Option cD:=
 (e9 n v0 v1 v2 v3 v4 v5 v6 v7 v8 v9 v10 v11 v12 v13 v14 v15 v16 v17 v18 v19 v20 v21).bind fun y22=>
 (bif(!y22.2.2.2.2.2.2.2.2.2.2.2.2.2.2.2.2.2.2.2.2.2.2.2.2.2.2)then some (0,0,0,([]:Lv),([]:Lv),([]:Lv),0,false,280)else(dD n y22.1 y22.2.1 y22.2.2.1 y22.2.2.2.1 y22.2.2.2.2.1 y22.2.2.2.2.2.1 y22.2.2.2.2.2.2.1 y22.2.2.2.2.2.2.2.1 y22.2.2.2.2.2.2.2.2.1 y22.2.2.2.2.2.2.2.2.2.1 y22.2.2.2.2.2.2.2.2.2.2.1 y22.2.2.2.2.2.2.2.2.2.2.2.1 y22.2.2.2.2.2.2.2.2.2.2.2.2.1 y22.2.2.2.2.2.2.2.2.2.2.2.2.2.1 y22.2.2.2.2.2.2.2.2.2.2.2.2.2.2.1 y22.2.2.2.2.2.2.2.2.2.2.2.2.2.2.2.1 y22.2.2.2.2.2.2.2.2.2.2.2.2.2.2.2.2.1 y22.2.2.2.2.2.2.2.2.2.2.2.2.2.2.2.2.2.1 y22.2.2.2.2.2.2.2.2.2.2.2.2.2.2.2.2.2.2.1 y22.2.2.2.2.2.2.2.2.2.2.2.2.2.2.2.2.2.2.2.1 y22.2.2.2.2.2.2.2.2.2.2.2.2.2.2.2.2.2.2.2.2.1 y22.2.2.2.2.2.2.2.2.2.2.2.2.2.2.2.2.2.2.2.2.2.1 y22.2.2.2.2.2.2.2.2.2.2.2.2.2.2.2.2.2.2.2.2.2.2.1 y22.2.2.2.2.2.2.2.2.2.2.2.2.2.2.2.2.2.2.2.2.2.2.2.1 y22.2.2.2.2.2.2.2.2.2.2.2.2.2.2.2.2.2.2.2.2.2.2.2.2.1 y22.2.2.2.2.2.2.2.2.2.2.2.2.2.2.2.2.2.2.2.2.2.2.2.2.2.1).bind fun y49=>
 some (y49.1,y49.2.1,y49.2.2.1,y49.2.2.2.1,y49.2.2.2.2.1,y49.2.2.2.2.2.1,y49.2.2.2.2.2.2.1,y49.2.2.2.2.2.2.2,0))
def az(n:Nat)(v0 v1 v2 v3 v4:Lv)(v5 v6 v7 v8 v9 v10 v11 v12 v13 v14:Int)(v15:Bool)(v16:Lv)(v17:Int)(v18:Lv)(v19 v20 v21:Int):Option cD:=r7 n v0 v1 v2 v3 v4 v5 v6 v7 v8 v9 v10 v11 v12 v13 v14 v15 v16 v17 v18 v19 v20 v21
def refusal_Refuse_t:FnT:=⟨[(true,[(.sl (.cons .int (.cons tSc .nil))),(.sl (.cons .int (.cons .int (.cons .int (.cons .int (.cons .int .nil)))))),(.sl (.cons .int (.cons .int .nil))),tSa,tSa,.int,.int,.int,.int,.int,.int,.int,.int,.int,.int,.bool,tSc,.int,tSc]),(false,[.int]),(false,[.int]),(false,[.int])],(.tup (.cons (.agg (.cons .i (.cons .i (.cons .i (.cons (.row 1000003 (.cons .int .nil)) (.cons (.row 1000003 (.cons .int .nil)) (.cons (.row 1000094 (.cons .int (.cons .int .nil))) (.cons .i .nil)))))))) (.cons .b (.cons .i .nil)))),fun n (s:Lv×Lv×Lv×Lv×Lv×Int×Int×Int×Int×Int×Int×Int×Int×Int×Int×Bool×Lv×Int×Lv×Int×Int×Int)=>az n s.1 s.2.1 s.2.2.1 s.2.2.2.1 s.2.2.2.2.1 s.2.2.2.2.2.1 s.2.2.2.2.2.2.1 s.2.2.2.2.2.2.2.1 s.2.2.2.2.2.2.2.2.1 s.2.2.2.2.2.2.2.2.2.1 s.2.2.2.2.2.2.2.2.2.2.1 s.2.2.2.2.2.2.2.2.2.2.2.1 s.2.2.2.2.2.2.2.2.2.2.2.2.1 s.2.2.2.2.2.2.2.2.2.2.2.2.2.1 s.2.2.2.2.2.2.2.2.2.2.2.2.2.2.1 s.2.2.2.2.2.2.2.2.2.2.2.2.2.2.2.1 s.2.2.2.2.2.2.2.2.2.2.2.2.2.2.2.2.1 s.2.2.2.2.2.2.2.2.2.2.2.2.2.2.2.2.2.1 s.2.2.2.2.2.2.2.2.2.2.2.2.2.2.2.2.2.2.1 s.2.2.2.2.2.2.2.2.2.2.2.2.2.2.2.2.2.2.2.1 s.2.2.2.2.2.2.2.2.2.2.2.2.2.2.2.2.2.2.2.2.1 s.2.2.2.2.2.2.2.2.2.2.2.2.2.2.2.2.2.2.2.2.2⟩
theorem Bq:refusal_Refuse_t.ok Tryz.prog 16:=FnT.ok_of (cfg:=⟨[],aL,[],aj⟩) ay ji ax (fun s fn hf=>by rw[Tryz.func16]at hf;cases hf;kernel_rfl) (fun n s=>by kernel_rfl)
def refusal_Refuse_T:Tab:=(16,refusal_Refuse_t)::refusal_call__refuse_T
theorem nw:refusal_Refuse_T.ok Tryz.prog:=Tab.ok_cons Bq ji
abbrev cQ:=Int×Int×Int×Lv×Lv×Lv×Bool×Int
def vN(n:Nat)(v0 v1 v2 v3 v4:Lv)(v5 v6 v7 v8 v9 v10 v11 v12 v13 v14:Int)(v15:Bool)(v16:Lv)(v17:Int)(v18:Lv)(v19 v20 v21:Int):Option cQ:=
 (e9 n v0 v1 v2 v3 v4 v5 v6 v7 v8 v9 v10 v11 v12 v13 v14 v15 v16 v17 v18 v19 v20 v21).bind fun y22=>
 (bif(!y22.2.2.2.2.2.2.2.2.2.2.2.2.2.2.2.2.2.2.2.2.2.2.2.2.2.2)then some (0,0,0,([]:Lv),([]:Lv),([]:Lv),false,280)else(dD n y22.1 y22.2.1 y22.2.2.1 y22.2.2.2.1 y22.2.2.2.2.1 y22.2.2.2.2.2.1 y22.2.2.2.2.2.2.1 y22.2.2.2.2.2.2.2.1 y22.2.2.2.2.2.2.2.2.1 y22.2.2.2.2.2.2.2.2.2.1 y22.2.2.2.2.2.2.2.2.2.2.1 y22.2.2.2.2.2.2.2.2.2.2.2.1 y22.2.2.2.2.2.2.2.2.2.2.2.2.1 y22.2.2.2.2.2.2.2.2.2.2.2.2.2.1 y22.2.2.2.2.2.2.2.2.2.2.2.2.2.2.1 y22.2.2.2.2.2.2.2.2.2.2.2.2.2.2.2.1 y22.2.2.2.2.2.2.2.2.2.2.2.2.2.2.2.2.1 y22.2.2.2.2.2.2.2.2.2.2.2.2.2.2.2.2.2.1 y22.2.2.2.2.2.2.2.2.2.2.2.2.2.2.2.2.2.2.1 y22.2.2.2.2.2.2.2.2.2.2.2.2.2.2.2.2.2.2.2.1 y22.2.2.2.2.2.2.2.2.2.2.2.2.2.2.2.2.2.2.2.2.1 y22.2.2.2.2.2.2.2.2.2.2.2.2.2.2.2.2.2.2.2.2.2.1 y22.2.2.2.2.2.2.2.2.2.2.2.2.2.2.2.2.2.2.2.2.2.2.1 y22.2.2.2.2.2.2.2.2.2.2.2.2.2.2.2.2.2.2.2.2.2.2.2.1 y22.2.2.2.2.2.2.2.2.2.2.2.2.2.2.2.2.2.2.2.2.2.2.2.2.1 y22.2.2.2.2.2.2.2.2.2.2.2.2.2.2.2.2.2.2.2.2.2.2.2.2.2.1).bind fun y49=>
 (bif y49.2.2.2.2.2.2.2 then some (0,0,0,([]:Lv),([]:Lv),([]:Lv),false,0)else bif(-9223372036854775808<=((y22.2.2.2.2.2.2.2.2.2.2.2.2.2.2.2.2.2.2.2.2.2.2.1.length:Int)-1))&&(((y22.2.2.2.2.2.2.2.2.2.2.2.2.2.2.2.2.2.2.2.2.2.2.1.length:Int)-1)<=9223372036854775807)then bif 0<=((y22.2.2.2.2.2.2.2.2.2.2.2.2.2.2.2.2.2.2.2.2.2.2.1.length:Int)-1) then bif ((y22.2.2.2.2.2.2.2.2.2.2.2.2.2.2.2.2.2.2.2.2.2.2.1.length:Int)-1)<(y22.2.2.2.2.2.2.2.2.2.2.2.2.2.2.2.2.2.2.2.2.2.2.1.length:Int) then bif(-9223372036854775808<=((y22.2.2.2.2.2.2.2.2.2.2.2.2.2.2.2.2.2.2.2.2.2.2.2.2.1.length:Int)-1))&&(((y22.2.2.2.2.2.2.2.2.2.2.2.2.2.2.2.2.2.2.2.2.2.2.2.2.1.length:Int)-1)<=9223372036854775807)then bif 0<=((y22.2.2.2.2.2.2.2.2.2.2.2.2.2.2.2.2.2.2.2.2.2.2.2.2.1.length:Int)-1) then bif ((y22.2.2.2.2.2.2.2.2.2.2.2.2.2.2.2.2.2.2.2.2.2.2.2.2.1.length:Int)-1)<(y22.2.2.2.2.2.2.2.2.2.2.2.2.2.2.2.2.2.2.2.2.2.2.2.2.1.length:Int) then some ((cI y22.2.2.2.2.2.2.2.2.2.2.2.2.2.2.2.2.2.2.2.2.2.2.1 ((y22.2.2.2.2.2.2.2.2.2.2.2.2.2.2.2.2.2.2.2.2.2.2.1.length:Int)-1) 0),(cI y22.2.2.2.2.2.2.2.2.2.2.2.2.2.2.2.2.2.2.2.2.2.2.2.2.1 ((y22.2.2.2.2.2.2.2.2.2.2.2.2.2.2.2.2.2.2.2.2.2.2.2.2.1.length:Int)-1) 0),y22.2.2.2.2.2.2.2.2.2.2.2.2.2.2.2.2.2.2.2.2.2.1,y22.2.2.2.2.2.2.2.2.2.2.2.2.2.2.2.2.2.2.2.2.2.2.1,y22.2.2.2.2.2.2.2.2.2.2.2.2.2.2.2.2.2.2.2.2.2.2.2.1,y22.2.2.2.2.2.2.2.2.2.2.2.2.2.2.2.2.2.2.2.2.2.2.2.2.1,true,0)else none else none else none else none else none else none))
def aG(n:Nat)(v0 v1 v2 v3 v4:Lv)(v5 v6 v7 v8 v9 v10 v11 v12 v13 v14:Int)(v15:Bool)(v16:Lv)(v17:Int)(v18:Lv)(v19 v20 v21:Int):Option cQ:=vN n v0 v1 v2 v3 v4 v5 v6 v7 v8 v9 v10 v11 v12 v13 v14 v15 v16 v17 v18 v19 v20 v21
def refusal_Lead_t:FnT:=⟨[(true,[(.sl (.cons .int (.cons tSc .nil))),(.sl (.cons .int (.cons .int (.cons .int (.cons .int (.cons .int .nil)))))),(.sl (.cons .int (.cons .int .nil))),tSa,tSa,.int,.int,.int,.int,.int,.int,.int,.int,.int,.int,.bool,tSc,.int,tSc]),(false,[.int]),(false,[.int]),(false,[.int])],(.tup (.cons (.agg (.cons .i (.cons .i (.cons .i (.cons (.row 1000003 (.cons .int .nil)) (.cons (.row 1000003 (.cons .int .nil)) (.cons (.row 1000094 (.cons .int (.cons .int .nil))) .nil))))))) (.cons .b (.cons .i .nil)))),fun n (s:Lv×Lv×Lv×Lv×Lv×Int×Int×Int×Int×Int×Int×Int×Int×Int×Int×Bool×Lv×Int×Lv×Int×Int×Int)=>aG n s.1 s.2.1 s.2.2.1 s.2.2.2.1 s.2.2.2.2.1 s.2.2.2.2.2.1 s.2.2.2.2.2.2.1 s.2.2.2.2.2.2.2.1 s.2.2.2.2.2.2.2.2.1 s.2.2.2.2.2.2.2.2.2.1 s.2.2.2.2.2.2.2.2.2.2.1 s.2.2.2.2.2.2.2.2.2.2.2.1 s.2.2.2.2.2.2.2.2.2.2.2.2.1 s.2.2.2.2.2.2.2.2.2.2.2.2.2.1 s.2.2.2.2.2.2.2.2.2.2.2.2.2.2.1 s.2.2.2.2.2.2.2.2.2.2.2.2.2.2.2.1 s.2.2.2.2.2.2.2.2.2.2.2.2.2.2.2.2.1 s.2.2.2.2.2.2.2.2.2.2.2.2.2.2.2.2.2.1 s.2.2.2.2.2.2.2.2.2.2.2.2.2.2.2.2.2.2.1 s.2.2.2.2.2.2.2.2.2.2.2.2.2.2.2.2.2.2.2.1 s.2.2.2.2.2.2.2.2.2.2.2.2.2.2.2.2.2.2.2.2.1 s.2.2.2.2.2.2.2.2.2.2.2.2.2.2.2.2.2.2.2.2.2⟩
theorem DR:refusal_Lead_t.ok Tryz.prog 18:=FnT.ok_of (cfg:=⟨[],aL,[],aj⟩) ay nw ax (fun s fn hf=>by rw[Tryz.func18]at hf;cases hf;kernel_rfl) (fun n s=>by kernel_rfl)
def refusal_Lead_T:Tab:=(18,refusal_Lead_t)::refusal_Refuse_T
theorem pA:refusal_Lead_T.ok Tryz.prog:=Tab.ok_cons DR nw
end
end Go.Proofs.YtbfkkigbedmhgaaGreat
namespace Go.Dial.Flo
open Go.Sx
def has(s c:Int):Bool:=s.toNat.testBit c.toNat
def nZ(s c:Int):Int:=((s.toNat ||| 2 ^ c.toNat:Nat):Int)
theorem Q5(P:Int->Prop)(h:∀k:Fin 256,P (k.val:Int))(s:Int)(h0:0<=s)(h1:s<=255):P s:=by
 have:=h ⟨s.toNat,by omega⟩
 simpa[Int.toNat_of_nonneg h0]using this
theorem Q6(P:Int->Prop)(h:∀k:Fin 8,P (k.val:Int))(s:Int)(h0:0<=s)(h1:s<=7):P s:=by
 have:=h ⟨s.toNat,by omega⟩
 simpa[Int.toNat_of_nonneg h0]using this
theorem Qg{s c:Int}(h0:0<=s)(h1:s<=255)(c0:0<=c)(c1:c<=7):0<=nZ s c/\nZ s c<=255:=by
 refine⟨by unfold nZ;omega,?_⟩
 revert s
 refine Q6 (fun c=>∀ {s:Int},0<=s->s<=255->nZ s c<=255) (fun k=>?_) c c0 c1
 intro s h0 h1;have hk:(2:Nat) ^ k.val<2 ^ 8:=Nat.pow_lt_pow_right (by decide) k.isLt
 have:(s.toNat ||| 2 ^ k.val)<2 ^ 8:=Nat.or_lt_two_pow (by omega) hk
 unfold nZ;simp only[Int.toNat_natCast];omega
theorem Qb{s c d:Int}(c0:0<=c)(d0:0<=d):has (nZ s c) d=(has s d||decide (d=c)):=by
 unfold has nZ;rw[Int.toNat_natCast,Nat.testBit_or,Nat.testBit_two_pow];congr 1
 rw[decide_eq_decide];omega
theorem P8{s t:Int}(s0:0<=s)(s1:s<=255)(t0:0<=t)(t1:t<=255)(h:∀c:Int,0<=c->c<=7->has s c=has t c):s=t:=by
 have:s.toNat=t.toNat:=by
  refine Nat.eq_of_testBit_eq fun i=>?_
  by_cases hi:i<8
  ·have:=h (i:Int) (by omega) (by omega)
   simpa[has]using this
  ·have e1:s.toNat<2 ^ i:=Nat.lt_of_lt_of_le (show s.toNat<2 ^ 8 by omega) (Nat.pow_le_pow_right (by decide) (by omega))
   have e2:t.toNat<2 ^ i:=Nat.lt_of_lt_of_le (show t.toNat<2 ^ 8 by omega) (Nat.pow_le_pow_right (by decide) (by omega))
   rw[Nat.testBit_lt_two_pow e1,Nat.testBit_lt_two_pow e2]
 omega
theorem Nh:∀(j:Fin 8) (k:Fin 256),decide (IOp.f .and (IOp.f .shr (k.val:Int) (j.val:Int)) 1=1)=has (k.val:Int) (j.val:Int)/\decide (IOp.f .and (IOp.f .shr (k.val:Int) (j.val:Int)) 1=0)= !has (k.val:Int) (j.val:Int)/\decide (Int.tmod (IOp.f .shr (k.val:Int) (j.val:Int)) 2=1)=has (k.val:Int) (j.val:Int)
  ∧ IOp.f .or (k.val:Int) (IOp.f .shl 1 (j.val:Int))=nZ (k.val:Int) (j.val:Int):=by
 decide +kernel
theorem Bf{s c:Int}(h0:0<=s)(h1:s<=255)(c0:0<=c)(c1:c<=7):decide (IOp.f .and (IOp.f .shr s c) 1=1)=has s c/\decide (IOp.f .and (IOp.f .shr s c) 1=0)= !has s c/\decide (Int.tmod (IOp.f .shr s c) 2=1)=has s c
  ∧ IOp.f .or s (IOp.f .shl 1 c)=nZ s c:=by
 refine Q6 (fun c=>decide (IOp.f .and (IOp.f .shr s c) 1=1)=has s c/\decide (IOp.f .and (IOp.f .shr s c) 1=0)= !has s c/\decide (Int.tmod (IOp.f .shr s c) 2=1)=has s c
  ∧ IOp.f .or s (IOp.f .shl 1 c)=nZ s c) (fun j=>?_) c c0 c1
 exact Q5 (fun s=>decide (IOp.f .and (IOp.f .shr s (j.val:Int)) 1=1)=has s (j.val:Int)/\decide (IOp.f .and (IOp.f .shr s (j.val:Int)) 1=0)= !has s (j.val:Int)/\decide (Int.tmod (IOp.f .shr s (j.val:Int)) 2=1)=has s (j.val:Int)
  ∧ IOp.f .or s (IOp.f .shl 1 (j.val:Int))=nZ s (j.val:Int)) (fun k=>Nh j k) s h0 h1
structure Ed where
 f:Int
 t:Int
 c:Int
 deriving DecidableEq
def EdV(n:Int)(e:Ed):Prop:=0<=e.f/\e.f<=n-1/\0<=e.t/\e.t<=n-1/\e.f≠e.t/\0<=e.c/\e.c<=10000
instance (n:Int) (e:Ed):Decidable (EdV n e):=by unfold EdV;infer_instance
def NetV(n:Int)(es:List Ed):Prop:=0<=n/\n<=12/\es.length<=40/\∀e∈es,EdV n e
instance (n:Int) (es:List Ed):Decidable (NetV n es):=by unfold NetV;infer_instance
def out(s:Int)(e:Ed):Bool:=has s e.f&& !has s e.t
def lvs(s:Int):List Ed->Int
 |[]=>0
 |e::es=>(if out s e=true then e.c else 0)+lvs s es
theorem Rb{n:Int}(s:Int){es:List Ed}(h:∀e∈es,EdV n e):0<=lvs s es/\lvs s es<=10000*es.length:=by
 induction es with
 |nil=>simp[lvs]
 |cons e es ih=>
  have h1:=ih (fun x hx=>h x (List.mem_cons_of_mem _ hx))
  obtain⟨_,_,_,_,_,h2,h3⟩:=h e (List.mem_cons_self ..);simp only[lvs,List.length_cons];split<;>omega
theorem Jv{n:Int}{s:Int}{es:List Ed}(h:∀e∈es,EdV n e):lvs s es=0↔∀e∈es,out s e=true->e.c=0:=by
 induction es with
 |nil=>simp[lvs]
 | cons e es ih=>
  have h1:=Rb s (fun x hx=>h x (List.mem_cons_of_mem _ hx))
  have h2:=ih (fun x hx=>h x (List.mem_cons_of_mem _ hx))
  obtain⟨_,_,_,_,_,h3,h4⟩:=h e (List.mem_cons_self ..);simp only[lvs];constructor
  ·intro h0 x hx ho
   rcases List.mem_cons.1 hx with rfl|hx
   ·rw[if_pos ho]at h0;omega
   ·refine h2.1 ?_ x hx ho
    split at h0<;>omega
  ·intro h0
   rw[h2.2 (fun x hx=>h0 x (List.mem_cons_of_mem _ hx))]
   split
   ·rename_i ho;rw[h0 e (List.mem_cons_self ..) ho];rfl
   ·rfl
inductive Reach (es:List Ed) (a:Int):Int->Prop
 |here:Reach es a a
 |step (u:Int) (e:Ed) (h:Reach es a u) (he:e∈es) (hf:e.f=u) (hc:0<e.c):Reach es a e.t
theorem xa{n:Int}{s a v:Int}{es:List Ed}(hv:∀e∈es,EdV n e)(h0:lvs s es=0)(ha:has s a=true)(h:Reach es a v):has s v=true:=by
 induction h with
 |here=>exact ha
 | step u e h he hf hc ih=>
  have:=(Jv hv).1 h0 e he
  cases hb:has s e.t with
  |true=>rfl
  |false=>
   have ho:out s e=true:=by unfold out;rw[hf,ih,hb];rfl
   have:=this ho
   omega
def zp(a b s:Int):Prop:=0<=s/\s<=255/\has s a=true/\has s b=false
instance (a b s:Int):Decidable (zp a b s):=by unfold zp;infer_instance
def IsR(es:List Ed)(a s:Int):Prop:=0<=s/\s<=255/\∀v:Int,0<=v->v<=7->(has s v=true↔Reach es a v)
theorem P6{es:List Ed}{a s t:Int}(h:IsR es a s)(k:IsR es a t):s=t:=by
 refine P8 h.1 h.2.1 k.1 k.2.1 (fun c h0 h1=>?_)
 rw[Bool.eq_iff_iff,h.2.2 c h0 h1,k.2.2 c h0 h1]
theorem CF{es:List Ed}{a s:Int}(hv:∀e∈es,EdV 8 e)(h:IsR es a s):lvs s es=0:=by
 rw[Jv hv];intro e he ho;obtain⟨f0,f1,t0,t1,_,c0,_⟩:=hv e he;unfold out at ho;rw[Bool.and_eq_true]at ho;obtain⟨h1,h2⟩:=ho;have h3:=(h.2.2 e.f f0 (by omega)).1 h1
 by_cases hc:0<e.c
 ·have:=(h.2.2 e.t t0 (by omega)).2 (.step e.f e h3 he rfl hc)
  rw[this]at h2;cases h2
 ·omega
end Go.Dial.Flo
namespace Go.Sx
open Go
theorem ao{σ α:Type}(step:(σ->Option α)->σ->Option α)(n:Nat)(s:σ):ab step (n+1) s=step (ab step n) s:=rfl
theorem ew{σ α:Type}{step:(σ->Option α)->σ->Option α}(Inv:σ->Prop)(mu:σ->Nat)(r:α)
  (h:∀s go,Inv s->(∀s',Inv s'->mu s'<mu s->go s'=some r)->step go s=some r):∀(n:Nat) (s:σ),Inv s->mu s<n->ab step n s=some r:=by
 intro n;induction n with
 |zero=>intro s _ hm;omega
 |succ n ih=>
  intro s hi hm;exact h s _ hi fun s' hi' hm'=>ih s' hi' (by omega)
theorem fd{σ α:Type}{step:(σ->Option α)->σ->Option α}(Inv:σ->Prop)(mu:σ->Nat)(Post:α->Prop)
  (h:∀s go,Inv s->(∀s',Inv s'->mu s'<mu s->∃r,go s'=some r/\Post r)->∃r,step go s=some r/\Post r):∀(n:Nat) (s:σ),Inv s->mu s<n->∃r,ab step n s=some r/\Post r:=by
 intro n;induction n with
 |zero=>intro s _ hm;omega
 |succ n ih=>
  intro s hi hm;exact h s _ hi fun s' hi' hm'=>ih s' hi' (by omega)
theorem cz{α:Type}{f:α->List AV}{l:List α}{i:Int}{k:Nat}{x:α}(h:l[i.toNat]?=some x):cA (l.map f) i k=(f x).getD k (.int 0):=by
 simp[cA,List.getD,h]
theorem um{α:Type}{l:List α}{i:Nat}{x:α}(h:l[i]?=some x):l.take (i+1)=l.take i++[x]:=by
 rw[List.take_add_one,h];rfl
theorem aP{α:Type}{l:List α}{i:Nat}(h:i<l.length):∃x,l[i]?=some x:=⟨_,List.getElem?_eq_getElem h⟩
end Go.Sx
namespace Go.Dial.Flo
open Go.Sx
def gM(M:List Int)(a b:Nat):Int:=M.getD (a*14+b) 0
def pv(M:List Int)(a b:Nat)(y:Int):List Int:=M.set (a*14+b) y
theorem jA(M:List Int)(a b:Nat)(y:Int):(pv M a b y).length=M.length:=List.length_set
theorem eJ(M:List Int)(i j:Nat)(y:Int)(hi:i<M.length):(M.set i y).getD j 0=if j=i then y else M.getD j 0:=by
 rw[List.getD_eq_getElem?_getD,List.getD_eq_getElem?_getD,List.getElem?_set];by_cases h:i=j
 ·subst h;simp[hi]
 ·rw[if_neg h,if_neg (fun e=>h e.symm)]
theorem Aa{M:List Int}{a b c d:Nat}{y:Int}(hl:M.length=196)(ha:a<14)(hb:b<14)(hd:d<14):gM (pv M a b y) c d=if c=a/\d=b then y else gM M c d:=by
 unfold gM pv;rw[eJ _ _ _ _ (by omega)]
 by_cases h:c=a/\d=b
 ·rw[if_pos h,if_pos (by rw[h.1,h.2])]
 ·rw[if_neg h,if_neg (fun e=>h ⟨by omega,by omega⟩)]
def nR:Nat->(Nat->Int)->Int
 |0,_=>0
 |k+1,f=>nR k f+f k
theorem yK{f g:Nat->Int}:∀(k:Nat),(∀i,i<k->f i=g i)->nR k f=nR k g
 |0,_=>rfl
 |k+1,h=>by simp only[nR,yK k (fun i hi=>h i (by omega)),h k (by omega)]
theorem Cx{f g:Nat->Int}{j:Nat}{d:Int}:∀(k:Nat),j<k->(∀i,i<k->i≠j->f i=g i)->f j=g j+d->nR k f=nR k g+d
 |0,h,_,_=>by omega
 | k+1,h,h1,h2=>by
  simp only[nR];by_cases e:j=k
  ·subst e
   rw[yK (f:=f) (g:=g) j (fun i hi=>h1 i (by omega) (by omega)),h2];omega
  ·rw[Cx k (by omega) (fun i hi hne=>h1 i (by omega) hne) h2,h1 k (by omega) (fun e'=>e e'.symm)];omega
theorem IW{f:Nat->Int}:∀(k:Nat),(∀i,i<k->0<=f i)->0<=nR k f
 |0,_=>Int.le_refl _
 |k+1,h=>by
  have:=IW k (fun i hi=>h i (by omega))
  have:=h k (by omega)
  simp only[nR];omega
def rs(M:List Int)(v:Nat):Int:=nR 14 (fun b=>gM M v b)
def k7(room:Int)(M:List Int)(p x:Nat):List Int:=pv (pv M p x (gM M p x-room)) x p (gM M x p+room)
theorem fR{room:Int}{M:List Int}{p x c d:Nat}(hl:M.length=196)(hp:p<14)(hx:x<14)(hd:d<14)(hne:x≠p):
  gM (k7 room M p x) c d=if c=x/\d=p then gM M x p+room else if c=p/\d=x then gM M p x-room else gM M c d:=by
 unfold k7;rw[Aa (by rw[jA];exact hl) hx hp hd,Aa hl hp hx hd]
theorem Qk{room:Int}{M:List Int}{p x v:Nat}(hl:M.length=196)(hp:p<14)(hx:x<14)(hne:x≠p):
  rs (k7 room M p x) v=rs M v+(if v=x then room else 0)-(if v=p then room else 0):=by
 unfold rs;by_cases h1:v=x
 ·subst h1
  rw[if_pos rfl,if_neg hne];rw[Cx (g:=fun b=>gM M v b) (j:=p) (d:=room) 14 hp]
  ·omega
  ·intro i hi hne'
   simp only[fR hl hp hx hi hne];rw[if_neg (fun h=>hne' h.2),if_neg (fun h=>hne h.1)]
  ·simp only[fR hl hp hx hp hne]
   simp
 ·by_cases h2:v=p
  ·subst h2
   rw[if_neg h1,if_pos rfl];rw[Cx (g:=fun b=>gM M v b) (j:=x) (d:= -room) 14 hx]
   ·omega
   ·intro i hi hne'
    simp only[fR hl hp hx hi hne];rw[if_neg (fun h=>h1 h.1),if_neg (fun h=>hne' h.2)]
   ·simp only[fR hl hp hx hx hne]
    rw[if_neg (fun h=>h1 h.1)]
    simp
    omega
  ·rw[if_neg h1,if_neg h2]
   rw[yK (g:=fun b=>gM M v b) 14]
   ·omega
   ·intro i hi
    simp only[fR hl hp hx hi hne];rw[if_neg (fun h=>h1 h.1),if_neg (fun h=>h2 h.1)]
inductive Way (M L:List Int) (a:Nat):Nat->List Nat->Prop
 |here:Way M L a a []
 |step (x p:Nat) (ps:List Nat) (h:Way M L a p ps) (hL:L.getD x 0=(p:Int)+1) (hM:0<gM M p x) (hx:x<14) (hn:x∉p::ps) (ha:x≠a):Way M L a x (p::ps)
theorem o4{M L:List Int}{a x:Nat}{ps:List Nat}(ha:a<14)(h:Way M L a x ps):∀y∈x::ps,y<14:=by
 induction h with
 |here=>intro y hy;rw[List.mem_singleton]at hy;subst hy;exact ha
 |step x p ps h hL hM hx hn ha ih=>
  intro y hy;rcases List.mem_cons.1 hy with rfl|hy
  ·exact hx
  ·exact ih y hy
theorem Nq{M L:List Int}{a x:Nat}{ps:List Nat}(h:Way M L a x ps):(x::ps).Nodup:=by
 induction h with
 |here=>simp
 |step x p ps h hL hM hx hn ha ih=>exact List.nodup_cons.2 ⟨hn,ih⟩
theorem Au:∀(k:Nat) (l:List Nat),l.Nodup->(∀y∈l,y<k)->l.length<=k
 |0,l,_,h=>by
  cases l with
  |nil=>exact Nat.le_refl _
  |cons y l=>exact absurd (h y (List.mem_cons_self ..)) (by omega)
 | k+1,l,hn,h=>by
  by_cases hk:k∈l
  ·have:=Au k (l.erase k) (hn.erase k) (fun y hy=>by
    have h1:=h y (List.mem_of_mem_erase hy);have h2:y≠k:=fun e=>by subst e;exact(List.Nodup.not_mem_erase hn) hy
    omega)
   rw[List.length_erase_of_mem hk]at this;omega
  ·have:=Au k l hn (fun y hy=>by
    have h1:=h y hy;have h2:y≠k:=fun e=>by subst e;exact hk hy
    omega)
   omega
theorem P9{M L:List Int}{a x:Nat}{ps:List Nat}(ha:a<14)(h:Way M L a x ps):ps.length<=13:=by
 have:=Au 14 (x::ps) (Nq h) (o4 ha h)
 simp only[List.length_cons]at this;omega
def gb(M:List Int):Nat->List Nat->Int->Int
 |_,[],r=>r
 |x,p::ps,r=>gb M p ps (aM r (gM M p x))
def pR(room:Int):Nat->List Nat->List Int->List Int
 |_,[],M=>M
 |x,p::ps,M=>pR room p ps (k7 room M p x)
theorem Eg(a b:Int):aM a b<=a/\aM a b<=b/\(0<a->0<b->0<aM a b):=by
 unfold aM;split<;>omega
theorem Be{M L:List Int}{a x:Nat}{ps:List Nat}(h:Way M L a x ps):∀r,0<r->0<gb M x ps r/\gb M x ps r<=r:=by
 induction h with
 |here=>intro r hr;exact⟨hr,Int.le_refl _⟩
 |step x p ps h hL hM hx hn ha ih=>
  intro r hr;obtain⟨h1,h2,h3⟩:=Eg r (gM M p x);obtain⟨h4,h5⟩:=ih _ (h3 hr hM);simp only[gb];exact⟨h4,by omega⟩
structure Kept (M M':List Int):Prop where
 len:M'.length=196
 pos:∀c d,c<14->d<14->0<=gM M' c d
 two:∀c d,c<14->d<14->gM M' c d+gM M' d c=gM M c d+gM M d c
theorem QD{N L:List Int}{a x:Nat}{ps:List Nat}(h:Way N L a x ps)(ha:a<14):∀(room r:Int) (M:List Int),0<r->room<=gb N x ps r->0<=room->M.length=196->(∀c d,c<14->d<14->0<=gM M c d) →
  (∀c∈x::ps,∀d∈x::ps,gM M c d=gM N c d)->Kept M (pR room x ps M)/\∀v,v<14->rs (pR room x ps M) v=rs M v+(if v=x then room else 0)-(if v=a then room else 0):=by
 induction h with
 |here=>
  intro room r M hr hle h0 hl hp hag;refine⟨⟨hl,hp,fun c d _ _=>rfl⟩,fun v _=>?_⟩
  simp only[pR];omega
 | step x p ps h hL hM hx hn hax ih=>
  intro room r M hr hle h0 hl hp hag;simp only[pR];simp only[gb]at hle;have hpl:p<14:=o4 ha h p (List.mem_cons_self ..)
  have hne:x≠p:=fun e=>hn (by rw[e];exact List.mem_cons_self ..)
  obtain⟨i1,i2,i3⟩:=Eg r (gM N p x);have hri:=i3 hr hM;obtain⟨g1,g2⟩:=Be h _ hri;have hroom:room<=gM M p x:=by
   rw[hag p (by simp) x (by simp)];omega
  have hlen:(k7 room M p x).length=196:=by unfold k7;rw[jA,jA];exact hl
  have hpos:∀c d,c<14->d<14->0<=gM (k7 room M p x) c d:=by
   intro c d hc hd;rw[fR hl hpl hx hd hne];have e1:=hp x p hx hpl;have e2:=hp c d hc hd;split
   ·omega
   ·split<;>omega
  obtain⟨⟨k1,k2,k3⟩,k4⟩:=ih room _ (k7 room M p x) hri hle h0 hlen hpos (fun c hc d hd=>by
   have hcl:=o4 ha h c hc;have hdl:=o4 ha h d hd;rw[fR hl hpl hx hdl hne,if_neg (fun e=>hn (by rw[<-e.1];exact hc)),if_neg (fun e=>hn (by rw[<-e.2];exact hd))]
   exact hag c (List.mem_cons_of_mem _ hc) d (List.mem_cons_of_mem _ hd))
  refine⟨⟨k1,k2,fun c d hc hd=>?_⟩,fun v hv=>?_⟩
  ·rw[k3 c d hc hd,fR hl hpl hx hd hne,fR hl hpl hx hc hne]
   by_cases e1:c=x/\d=p
   ·obtain⟨rfl,rfl⟩:=e1
    simp[hne,hne.symm]
    omega
   ·by_cases e2:c=p/\d=x
    ·obtain⟨rfl,rfl⟩:=e2
     simp[hne,hne.symm]
     omega
    ·rw[if_neg e1,if_neg e2,if_neg (fun e=>e2 ⟨e.2,e.1⟩),if_neg (fun e=>e1 ⟨e.2,e.1⟩)]
  ·rw[k4 v hv,Qk hl hpl hx hne]
   omega
theorem KV{M L:List Int}{a x y:Nat}{v:Int}{ps:List Nat}(hl:y<L.length)(h:Way M L a x ps):y∉x::ps->Way M (L.set y v) a x ps:=by
 induction h with
 |here=>intro _;exact .here
 |step x p ps h hL hM hx hn ha ih=>
  intro hy;refine .step x p ps (ih (fun e=>hy (List.mem_cons_of_mem _ e))) ?_ hM hx hn ha
  rw[eJ _ _ _ _ hl,if_neg (fun e=>hy (by rw[e];exact List.mem_cons_self ..))]
  exact hL
structure BIn (M L:List Int) (a b:Nat) (q:List Nat) (u k:Nat):Prop where
 len:L.length=14
 nn:∀x,x<14->0<=L.getD x 0/\L.getD x 0<=14
 la:L.getD a 0=(a:Int)+1
 lb:L.getD b 0=0
 way:∀x,x<14->0<L.getD x 0->∃ps,Way M L a x ps/\∀y∈ps,0<L.getD y 0
 que:∀x∈q,x<14/\0<L.getD x 0
 clo:∀x,x<14->0<L.getD x 0->x∉q->∀y,y<14->(x=u->y<k)->gM M x y≠0->0<L.getD y 0
theorem Jc{M L:List Int}{a b u k:Nat}{q:List Nat}(h:BIn M L a b q u k)(hk:0<L.getD k 0\/gM M u k=0):BIn M L a b q u (k+1):=
 ⟨h.len,h.nn,h.la,h.lb,h.way,h.que,fun x hx hp hq y hy hu hm=>by
  by_cases e:x=u/\y=k
  ·obtain⟨rfl,rfl⟩:=e
   rcases hk with hk|hk
   ·exact hk
   ·exact absurd hk hm
  ·exact h.clo x hx hp hq y hy (fun e'=>by have:=hu e';have:y≠k:=fun e2=>e ⟨e',e2⟩;omega) hm⟩
theorem FI{M L:List Int}{a b u k x:Nat}{q:List Nat}(h:BIn M L a b q u k)(ha:a<14)(hu:u<14)(hup:0<L.getD u 0)(hx:x<14)(hx0:L.getD x 0=0)(hm:0<gM M u x):
  ∃ps,Way M (L.set x ((u:Int)+1)) a x (u::ps)/\∀y∈u::ps,0<L.getD y 0:=by
 obtain⟨ps,hw,hp⟩:=h.way u hu hup;have hall:∀y∈u::ps,0<L.getD y 0:=fun y hy=>by
  rcases List.mem_cons.1 hy with rfl|hy
  ·exact hup
  ·exact hp y hy
 have hn:x∉u::ps:=fun e=>by have:=hall x e;omega
 refine⟨ps,.step x u ps (KV (by rw[h.len];exact hx) hw hn) ?_ hm hx hn ?_,hall⟩
 ·rw[eJ _ _ _ _ (by rw[h.len];exact hx),if_pos rfl]
 ·intro e
  subst e;have:=h.la
  omega
theorem Qa{M L:List Int}{a b u k:Nat}{q:List Nat}(h:BIn M L a b q u k)(ha:a<14)(hu:u<14)(hup:0<L.getD u 0)(hk:k<14)(hk0:L.getD k 0=0)(hm:0<gM M u k)(hkb:k≠b):
  BIn M (L.set k ((u:Int)+1)) a b (q++[k]) u (k+1):=by
 have hg:∀x,(L.set k ((u:Int)+1)).getD x 0=if x=k then(u:Int)+1 else L.getD x 0:=fun x=>eJ _ _ _ _ (by rw[h.len];exact hk)
 have hge:∀x,0<L.getD x 0->0<(L.set k ((u:Int)+1)).getD x 0:=fun x hx=>by
  rw[hg];split<;>omega
 obtain⟨psk,hwk,hpk⟩:=FI h ha hu hup hk hk0 hm;refine⟨by rw[List.length_set];exact h.len,fun x hx=>?_,?_,?_,fun x hx hp=>?_,fun x hx=>?_,fun x hx hp hq y hy hyu hm'=>?_⟩
 ·rw[hg];have:=h.nn x hx;split<;>omega
 ·rw[hg,if_neg (fun e=>by have:=h.la;rw[e]at this;omega)];exact h.la
 ·rw[hg,if_neg (fun e=>hkb e.symm)];exact h.lb
 ·by_cases e:x=k
  ·subst e
   exact⟨u::psk,hwk,fun y hy=>hge y (hpk y hy)⟩
  ·rw[hg,if_neg e]at hp
   obtain⟨ps,hw,hpp⟩:=h.way x hx hp;refine⟨ps,KV (by rw[h.len];exact hk) hw (fun hmem=>?_),fun y hy=>hge y (hpp y hy)⟩
   rcases List.mem_cons.1 hmem with e2|e2
   ·exact e e2.symm
   ·have:=hpp k e2;omega
 ·rcases List.mem_append.1 hx with hx|hx
  ·exact⟨(h.que x hx).1,hge x (h.que x hx).2⟩
  ·rw[List.mem_singleton]at hx
   subst hx;refine⟨hk,?_⟩
   rw[hg,if_pos rfl];omega
 ·have hxk:x≠k:=fun e=>hq (List.mem_append.2 (.inr (by rw[e];exact List.mem_singleton.2 rfl)))
  rw[hg,if_neg hxk]at hp;by_cases e:y=k
  ·rw[hg,if_pos e];omega
  ·exact hge y (h.clo x hx hp (fun e'=>hq (List.mem_append.2 (.inl e'))) y hy (fun e'=>by have:=hyu e';omega) hm')
def kq(L:List Int):Nat:=L.countP (fun x=>decide (x=0))
theorem zO:∀(L:List Int) (k:Nat) (v:Int),k<L.length->L.getD k 0=0->v≠0->kq (L.set k v)+1=kq L
 |[],k,v,h,_,_=>by simp at h
 |x::L,0,v,_,h0,hv=>by
  have hx:x=0:=by simpa using h0
  subst hx;show kq (v::L)+1=kq (0::L)
  unfold kq;rw[List.countP_cons,List.countP_cons];simp[hv]
 |x::L,k+1,v,h,h0,hv=>by
  have:=zO L k v (by simpa using h) (by simpa using h0) hv
  show kq (x::L.set k v)+1=kq (x::L)
  unfold kq at this⊢
  rw[List.countP_cons,List.countP_cons];omega
def zj(M:List Int)(e:Ed):List Int:=pv M e.f.toNat e.t.toNat (gM M e.f.toNat e.t.toNat+e.c)
def cU(es:List Ed):List Int:=es.foldl zj (List.replicate 196 0)
def nc(c d:Nat):List Ed->Int
 |[]=>0
 |e::es=>(if e.f=(c:Int)/\e.t=(d:Int)then e.c else 0)+nc c d es
theorem HI(es:List Ed)(e:Ed):cU (es++[e])=zj (cU es) e:=by unfold cU;rw[List.foldl_append];rfl
theorem KH(es:List Ed):(cU es).length=196:=by
 unfold cU;suffices ∀(es:List Ed) (M:List Int),M.length=196->(es.foldl zj M).length=196 from this es _ (by rw[List.length_replicate])
 intro es;induction es with
 |nil=>intro M h;exact h
 |cons e es ih=>intro M h;exact ih _ (by unfold zj;rw[jA];exact h)
theorem Lb{N:Int}(hN:N<=14)(c d:Nat)(hd:d<14):∀(es:List Ed) (M:List Int),(∀e∈es,EdV N e)->M.length=196->gM (es.foldl zj M) c d=gM M c d+nc c d es
 |[],M,_,_=>by simp[nc]
 |e::es,M,h,hl=>by
  obtain⟨f0,f1,t0,t1,_,c0,c1⟩:=h e (List.mem_cons_self ..);rw[List.foldl_cons,Lb hN c d hd es (zj M e) (fun x hx=>h x (List.mem_cons_of_mem _ hx)) (by unfold zj;rw[jA];exact hl)]
  unfold zj;rw[Aa hl (by omega) (by omega) hd]
  simp only[nc];by_cases hh:c=e.f.toNat/\d=e.t.toNat
  ·rw[if_pos hh,if_pos (by omega),hh.1,hh.2];omega
  ·rw[if_neg hh,if_neg (fun hx=>hh (by omega))];omega
theorem lY{N:Int}{es:List Ed}(hN:N<=14)(h:∀e∈es,EdV N e)(c d:Nat)(hd:d<14):gM (cU es) c d=nc c d es:=by
 unfold cU;rw[Lb hN c d hd es _ h (by rw[List.length_replicate])]
 have:gM (List.replicate 196 0) c d=0:=by
  unfold gM;rw[List.getD_eq_getElem?_getD,List.getElem?_replicate];split<;>rfl
 omega
theorem vE{N:Int}{es:List Ed}(h:∀e∈es,EdV N e)(c d:Nat):0<=nc c d es/\nc c d es<=10000*es.length:=by
 induction es with
 |nil=>simp[nc]
 |cons e es ih=>
  have h1:=ih (fun x hx=>h x (List.mem_cons_of_mem _ hx))
  obtain⟨_,_,_,_,_,h2,h3⟩:=h e (List.mem_cons_self ..);simp only[nc,List.length_cons];split<;>omega
theorem EC{N:Int}{es:List Ed}(h:∀e∈es,EdV N e)(c d:Nat):0<nc c d es↔∃e∈es,e.f=(c:Int)/\e.t=(d:Int)/\0<e.c:=by
 induction es with
 |nil=>simp[nc]
 | cons e es ih=>
  have hv:∀x∈es,EdV N x:=fun x hx=>h x (List.mem_cons_of_mem _ hx)
  have h1:=vE hv c d;have h4:=ih hv;obtain⟨_,_,_,_,_,h2,h3⟩:=h e (List.mem_cons_self ..);simp only[nc];constructor
  ·intro hp
   by_cases he:e.f=(c:Int)/\e.t=(d:Int)/\0<e.c
   ·exact⟨e,List.mem_cons_self ..,he⟩
   ·obtain⟨x,hx,h5⟩:=h4.1 (by
     split at hp
     ·rename_i hh
      have:¬0<e.c:=fun hc=>he ⟨hh.1,hh.2,hc⟩
      omega
     ·omega)
    exact⟨x,List.mem_cons_of_mem _ hx,h5⟩
  ·rintro ⟨x,hx,hf,ht,hc⟩
   rcases List.mem_cons.1 hx with rfl|hx
   ·rw[if_pos ⟨hf,ht⟩];omega
   ·have:=h4.2 ⟨x,hx,hf,ht,hc⟩
    split<;>omega
theorem KP{N:Int}{es:List Ed}(h:∀e∈es,EdV N e)(c d:Nat)(hcd:N<=(c:Int)\/N<=(d:Int)):nc c d es=0:=by
 have h1:=vE h c d;by_cases hp:0<nc c d es
 ·exfalso
  obtain⟨e,he,hf,ht,hc⟩:=(EC h c d).1 hp;obtain⟨a1,a2,a3,a4,a5,a6,a7⟩:=h e he;rw[hf]at a2;rw[ht]at a4;omega
 ·omega
theorem FK{L:List Int}{es:List Ed}{N:Int}{a x:Nat}{ps:List Nat}(hN:N<=14)(hv:∀e∈es,EdV N e)(h:Way (cU es) L a x ps):Reach es (a:Int) (x:Int):=by
 induction h with
 |here=>exact .here
 |step x p ps h hL hM hx hn ha ih=>
  rw[lY hN hv p x hx]at hM;obtain⟨e,he,hf,ht,hc⟩:=(EC hv p x).1 hM;rw[<-ht];exact .step _ e ih he hf hc
structure PInv (es:List Ed) (a b:Nat) (M:List Int) (value:Int):Prop where
 kept:Kept (cU es) M
 sums:∀v,v<14->rs M v=rs (cU es) v+(if v=b then value else 0)-(if v=a then value else 0)
 val:(value=0/\M=cU es)\/(0<value/\Reach es (a:Int) (b:Int))
theorem xq{es:List Ed}{N:Int}(hN:N<=14)(hv:∀e∈es,EdV N e)(a b:Nat):PInv es a b (cU es) 0:=
 ⟨⟨KH es,fun c d _ hd=>by rw[lY hN hv c d hd];exact(vE hv c d).1,fun _ _ _ _=>rfl⟩,fun v _=>by split<;>split<;>omega,.inl ⟨rfl,rfl⟩⟩
theorem Ee{es:List Ed}{N:Int}(hN:N<=14)(hv:∀e∈es,EdV N e)(hl:es.length<=40){a b:Nat}{M:List Int}{value:Int}(h:PInv es a b M value)(c d:Nat)(hc:c<14)(hd:d<14):0<=gM M c d/\gM M c d+gM M d c<=800000:=by
 refine⟨h.kept.pos c d hc hd,?_⟩
 rw[h.kept.two c d hc hd,lY hN hv c d hd,lY hN hv d c hc];have h1:=vE hv c d;have h2:=vE hv d c;omega
theorem E8{f:Nat->Int}{B:Int}:∀(k:Nat),(∀i,i<k->f i<=B)->nR k f<=k*B
 |0,_=>by simp[nR]
 |k+1,h=>by
  have h1:=E8 k (fun i hi=>h i (by omega))
  have h2:=h k (by omega)
  simp only[nR];rw[show((k+1:Nat):Int)*B=(k:Int)*B+B by rw[Int.natCast_add,Int.add_mul];simp]
  omega
theorem va{es:List Ed}{N:Int}(hN:N<=14)(hv:∀e∈es,EdV N e)(hl:es.length<=40){a b:Nat}(ha:a<14)(hab:a≠b){M:List Int}{value:Int}(h:PInv es a b M value):0<=rs M a/\rs M a<=11200000/\0<=value/\value<=11200000/\value=rs (cU es) a-rs M a:=by
 have h1:0<=rs M a:=IW 14 (fun i hi=>h.kept.pos a i ha hi)
 have h2:rs M a<=14*800000:=E8 14 (fun i hi=>by
  have:=Ee hN hv hl h a i ha hi
  have:=h.kept.pos i a hi ha
  omega)
 have h3:rs (cU es) a<=14*800000:=E8 14 (fun i hi=>by
  have:=Ee hN hv hl (xq hN hv a b) a i ha hi
  have:=(xq hN hv a b).kept.pos i a hi ha
  omega)
 have h4:=h.sums a ha;rw[if_neg hab,if_pos rfl]at h4;rcases h.val with⟨h5,_⟩|⟨h5,_⟩<;>omega
theorem Fm{es:List Ed}{N:Int}(hN:N<=14)(hv:∀e∈es,EdV N e){a b:Nat}(ha:a<14)(hab:a≠b){M L:List Int}{value r:Int}{ps:List Nat}(h:PInv es a b M value)(hw:Way M L a b ps)(hr:0<r):
  PInv es a b (pR (gb M b ps r) b ps M) (value+gb M b ps r)/\rs (pR (gb M b ps r) b ps M) a<rs M a:=by
 obtain⟨g1,g2⟩:=Be hw r hr;obtain⟨k,s⟩:=QD hw ha (gb M b ps r) r M hr (Int.le_refl _) (by omega) h.kept.len h.kept.pos (fun _ _ _ _=>rfl)
 refine⟨⟨⟨k.len,k.pos,fun c d hc hd=>by rw[k.two c d hc hd,h.kept.two c d hc hd]⟩,fun v hv'=>?_,.inr ⟨?_,?_⟩⟩,?_⟩
 ·rw[s v hv',h.sums v hv']
  by_cases e1:v=b
  ·by_cases e2:v=a
   ·exact absurd (e2.symm.trans e1) hab
   ·rw[if_pos e1,if_pos e1,if_pos e1,if_neg e2,if_neg e2,if_neg e2];omega
  ·by_cases e2:v=a
   ·rw[if_neg e1,if_neg e1,if_neg e1,if_pos e2,if_pos e2,if_pos e2];omega
   ·rw[if_neg e1,if_neg e1,if_neg e1,if_neg e2,if_neg e2,if_neg e2];omega
 ·rcases h.val with⟨h5,_⟩|⟨h5,_⟩<;>omega
 ·rcases h.val with⟨_,h5⟩|⟨_,h5⟩
  ·rw[h5]at hw
   exact FK hN hv hw
  ·exact h5
 ·rw[s a ha,if_neg hab,if_pos rfl];omega
end Go.Dial.Flo
namespace Go.Dial.Rou
abbrev at_(h:List Int)(i:Int):Int:=h.getD i.toNat 0
def HoV(h:List Int):Prop:=1<=h.length/\h.length<=30/\∀x∈h,-1<=x/\x<=7
instance (h:List Int):Decidable (HoV h):=by unfold HoV;infer_instance
def Con(h:List Int)(c:Int)(j:Nat):Prop:=h.getD j 0≠h.getD (j-1) 0/\(h.getD j 0=c\/h.getD (j-1) 0=c)
instance (h:List Int) (c:Int) (j:Nat):Decidable (Con h c j):=by unfold Con;infer_instance
def KnV(h:List Int)(lag:Int)(c:Int)(v:Int):Prop:= -1<=v/\v<=h.length-1/\(0<=v->(h.length:Int)-1-lag<=v/\∀j∈List.range h.length,1<=j->Con h c j->(j:Int)<=v)
instance (h:List Int) (lag c v:Int):Decidable (KnV h lag c v):=by unfold KnV;infer_instance
def RoV(h k:List Int)(lag:Int):Prop:=HoV h/\k.length=8/\0<=lag/\lag<=10/\∀c∈List.range 8,KnV h lag (c:Int) (k.getD c 0)
instance (h k:List Int) (lag:Int):Decidable (RoV h k lag):=by unfold RoV;infer_instance
def dec(h k:List Int)(c u:Int):Int×Int×Int:=
 let w:=max (at_ k c) u
 if at_ h w=c then(w,-1,1)else if at_ h w<0 then(w,-1,2)else if at_ k (at_ h w)<0 then(w,-1,3)else(w,at_ h w,0)
def lc(h k:List Int):Nat->Int->Int->List (Int×Int)×Int
 |0,_,_=>([],0)
 |m+1,c,u=>
  let d:=dec h k c u
  if d.2.2≠0 then([(c,d.1)],d.2.2)else((c,d.1)::(lc h k m d.2.1 d.1).1,(lc h k m d.2.1 d.1).2)
def An(h k:List Int)(lag c:Int):Prop:=RoV h k lag/\0<=c/\c<=7/\0<=at_ k c
instance (h k:List Int) (lag c:Int):Decidable (An h k lag c):=by unfold An;infer_instance
def mi(h k:List Int)(c:Int):List (Int×Int)×Int:=lc h k 40 c (-1)
def Bg(h k:List Int)(lag c:Int):(List (Int×Int)×Int)×Int:=if An h k lag c then(mi h k c,0)else(([],0),240)
theorem FQ{h k:List Int}{lag c u:Int}(hv:RoV h k lag)(hc:0<=c/\c<=7)(hk:0<=at_ k c)(hu:u<=h.length-1):
  0<=(dec h k c u).1/\(dec h k c u).1<=h.length-1/\u<=(dec h k c u).1/\at_ k c<=(dec h k c u).1/\(dec h k c u).1=max (at_ k c) u:=by
 obtain⟨_,hl,_,_,hkn⟩:=hv;have h1:=hkn c.toNat (List.mem_range.2 (by omega))
 have h2:k.getD c.toNat 0=at_ k c:=rfl
 rw[h2]at h1;have hd:(dec h k c u).1=max (at_ k c) u:=by
  unfold dec;dsimp only;split
  ·rfl
  ·split
   ·rfl
   ·split<;>rfl
 have hm:=h1.2.1;rw[hd];omega
theorem Fu(h k:List Int)(c u:Int):let w:=max (at_ k c) u
  (at_ h w=c/\dec h k c u=(w,-1,1))\/(at_ h w≠c/\at_ h w<0/\dec h k c u=(w,-1,2))\/(at_ h w≠c/\0<=at_ h w/\at_ k (at_ h w)<0/\dec h k c u=(w,-1,3))\/(at_ h w≠c/\0<=at_ h w/\0<=at_ k (at_ h w)/\dec h k c u=(w,at_ h w,0)):=by
 intro w;unfold dec;by_cases h1:at_ h (max (at_ k c) u)=c
 ·left;exact⟨h1,by simp only[if_pos h1];rfl⟩
 ·right
  by_cases h2:at_ h (max (at_ k c) u)<0
  ·left;exact⟨h1,h2,by simp only[if_neg h1,if_pos h2];rfl⟩
  ·right
   by_cases h3:at_ k (at_ h (max (at_ k c) u))<0
   ·left;exact⟨h1,Int.not_lt.1 h2,h3,by simp only[if_neg h1,if_neg h2,if_pos h3];rfl⟩
   ·right;exact⟨h1,Int.not_lt.1 h2,Int.not_lt.1 h3,by simp only[if_neg h1,if_neg h2,if_neg h3];rfl⟩
theorem Nx{h:List Int}{i:Int}(h0:0<=i)(h1:i<h.length):at_ h i∈h:=by
 unfold at_;rw[List.getD_eq_getElem?_getD,List.getElem?_eq_getElem (by omega)]
 exact List.getElem_mem _
open Go.Sx
theorem qr(a b:Int):ba a b=max a b:=by unfold ba;omega
def cN(h:List Int)(lag c:Int):Nat->Int
 |0=>max 0 ((h.length:Int)-1-lag)
 |j+1=>if 1<=j/\Con h c j then max (cN h lag c j) (j:Int)else cN h lag c j
theorem Dz{h:List Int}{lag c v:Int}:∀m:Nat,cN h lag c m<=v↔(0<=v/\(h.length:Int)-1-lag<=v/\∀j:Nat,j<m->1<=j->Con h c j->(j:Int)<=v)
 |0=>by
  simp only[cN];constructor
  ·intro hh;exact⟨by omega,by omega,fun j hj=>by omega⟩
  ·rintro ⟨h1,h2,_⟩;omega
 | m+1=>by
  have ih:=Dz (h:=h) (lag:=lag) (c:=c) (v:=v) m;simp only[cN];split
  ·rename_i hc
   rw[show max (cN h lag c m) (m:Int)<=v↔(cN h lag c m<=v/\(m:Int)<=v) by omega,ih]
   constructor
   ·rintro ⟨⟨h1,h2,h3⟩,h4⟩
    refine⟨h1,h2,fun j hj h5 h6=>?_⟩
    by_cases e:j=m
    ·subst e;exact h4
    ·exact h3 j (by omega) h5 h6
   ·rintro ⟨h1,h2,h3⟩
    exact⟨⟨h1,h2,fun j hj=>h3 j (by omega)⟩,h3 m (by omega) hc.1 hc.2⟩
  ·rename_i hc
   rw[ih];constructor
   ·rintro ⟨h1,h2,h3⟩
    refine⟨h1,h2,fun j hj h5 h6=>?_⟩
    by_cases e:j=m
    ·subst e;exact absurd ⟨h5,h6⟩ hc
    ·exact h3 j (by omega) h5 h6
   ·rintro ⟨h1,h2,h3⟩
    exact⟨h1,h2,fun j hj=>h3 j (by omega)⟩
theorem QH{h:List Int}{lag c:Int}(m:Nat):0<=cN h lag c m:=((Dz (v:=cN h lag c m) m).1 (Int.le_refl _)).1
theorem KI{h:List Int}{lag c v:Int}(hl:1<=h.length):KnV h lag c v↔(v= -1\/(cN h lag c h.length<=v/\v<=(h.length:Int)-1)):=by
 unfold KnV;rw[Dz];constructor
 ·rintro ⟨h1,h2,h3⟩
  by_cases h0:0<=v
  ·obtain⟨h4,h5⟩:=h3 h0
   exact .inr ⟨⟨h0,h4,fun j hj=>h5 j (List.mem_range.2 hj)⟩,h2⟩
  ·exact .inl (by omega)
 ·rintro (h1|⟨⟨h0,h4,h5⟩,h2⟩)
  ·exact⟨by omega,by omega,fun h0=>by omega⟩
  ·exact⟨by omega,h2,fun _=>⟨h4,fun j hj=>h5 j (List.mem_range.1 hj)⟩⟩
def st1(A:List Int)(c p q v:Int):List Int:=if 0<=c/\q≠p then A.set c.toNat (max (A.getD c.toNat 0) v)else A
theorem Ba(A:List Int)(c p q v:Int):(st1 A c p q v).length=A.length:=by unfold st1;split<;>simp
theorem Mw(M:List Int)(i j:Nat)(y:Int)(hi:i<M.length):(M.set i y).getD j 0=if j=i then y else M.getD j 0:=by
 rw[List.getD_eq_getElem?_getD,List.getD_eq_getElem?_getD,List.getElem?_set];by_cases h:i=j
 ·subst h;simp[hi]
 ·rw[if_neg h,if_neg (fun e=>h e.symm)]
theorem KU{A:List Int}{c p q v:Int}{d:Nat}(hl:A.length=8)(hc:c<=7)(hd:d<8):(st1 A c p q v).getD d 0=if(d:Int)=c/\q≠p then max (A.getD d 0) v else A.getD d 0:=by
 unfold st1;by_cases h1:0<=c/\q≠p
 ·rw[if_pos h1,Mw _ _ _ _ (by omega)]
  by_cases h2:d=c.toNat
  ·rw[if_pos h2,if_pos ⟨by omega,h1.2⟩,h2]
  ·rw[if_neg h2,if_neg (fun h=>h2 (by omega))]
 ·rw[if_neg h1,if_neg (fun h=>h1 ⟨by omega,h.2⟩)]
def mS(h:List Int)(lag:Int)(m:Nat):List Int:=(List.range 8).map (fun c:Nat=>cN h lag (c:Int) m)
theorem jL(h:List Int)(lag:Int)(m:Nat):(mS h lag m).length=8:=by unfold mS;rw[List.length_map,List.length_range]
theorem xc(h:List Int)(lag:Int)(m:Nat){c:Nat}(hc:c<8):(mS h lag m).getD c 0=cN h lag (c:Int) m:=by
 unfold mS;rw[List.getD_eq_getElem?_getD,List.getElem?_map,List.getElem?_range hc];rfl
theorem RC{A B:List Int}(ha:A.length=8)(hb:B.length=8)(h:∀d,d<8->A.getD d 0=B.getD d 0):A=B:=by
 refine List.ext_getElem (by omega) (fun d h1 h2=>?_)
 have:=h d (by omega)
 rw[List.getD_eq_getElem?_getD,List.getD_eq_getElem?_getD,List.getElem?_eq_getElem h1,List.getElem?_eq_getElem h2]at this;exact this
theorem Ms{h:List Int}{lag:Int}{v:Nat}(hh:HoV h)(h1:1<=v)(hv:v<h.length):
  st1 (st1 (mS h lag v) (h.getD (v-1) 0) (h.getD (v-1) 0) (h.getD v 0) v) (h.getD v 0) (h.getD (v-1) 0) (h.getD v 0) v=mS h lag (v+1):=by
 have m1:h.getD v 0∈h:=by rw[List.getD_eq_getElem?_getD,List.getElem?_eq_getElem hv];exact List.getElem_mem _
 have m2:h.getD (v-1) 0∈h:=by rw[List.getD_eq_getElem?_getD,List.getElem?_eq_getElem (show v-1<h.length by omega)];exact List.getElem_mem _
 have b1:=hh.2.2 _ m1;have b2:=hh.2.2 _ m2;refine RC (by rw[Ba,Ba,jL]) (jL ..) (fun d hd=>?_)
 rw[KU (by rw[Ba,jL]) b1.2 hd,KU (jL ..) b2.2 hd,xc _ _ _ hd,xc _ _ _ hd]
 simp only[cN];unfold Con;by_cases e1:h.getD v 0=h.getD (v-1) 0
 ·rw[if_neg (fun e=>e.2 e1),if_neg (fun e=>e.2 e1),if_neg (fun e=>e.2.1 e1)]
 ·by_cases e2:(d:Int)=h.getD v 0
  ·rw[if_pos ⟨e2,e1⟩,if_neg (fun e=>e1 (e2.symm.trans e.1)),if_pos ⟨h1,e1,.inl e2.symm⟩]
  ·rw[if_neg (fun e=>e2 e.1)]
   by_cases e3:(d:Int)=h.getD (v-1) 0
   ·rw[if_pos ⟨e3,e1⟩,if_pos ⟨h1,e1,.inr e3.symm⟩]
   ·rw[if_neg (fun e=>e3 e.1),if_neg (fun e=>(e.2.2).elim (fun e=>e2 e.symm) (fun e=>e3 e.symm))]
theorem QP(h:List Int)(lag:Int):mS h lag 1=List.replicate 8 (max 0 ((h.length:Int)-1-lag)):=by
 refine RC (jL ..) (by rw[List.length_replicate]) (fun d hd=>?_)
 rw[xc _ _ _ hd,List.getD_eq_getElem?_getD,List.getElem?_replicate,if_pos hd];simp only[cN];rw[if_neg (fun e=>by omega)]
 rfl
theorem Nd{h k:List Int}{lag:Int}(hh:HoV h)(hk:k.length=8)(h0:0<=lag)(h1:lag<=10)(hx:∀c:Nat,c<8->(k.getD c 0= -1\/(cN h lag (c:Int) h.length<=k.getD c 0/\k.getD c 0<=(h.length:Int)-1))):RoV h k lag:=
 ⟨hh,hk,h0,h1,fun c hc=>(KI hh.1).2 (hx c (List.mem_range.1 hc))⟩
structure PthV (h k:List Int) (c0:Int) (l:List (Int×Int)) (e:Int):Prop where
 ne:l≠[]
 first:∀x,l.head?=some x->x.1=c0
 bd:∀x∈l,0<=x.1/\x.1<=7/\0<=x.2/\x.2<=(h.length:Int)-1/\at_ k x.1<=x.2/\0<=at_ k x.1
 two:∀(i:Nat) x y,l[i]?=some x->l[i+1]?=some y->y.1=at_ h x.2/\x.2<=y.2/\at_ h x.2≠x.1/\at_ h x.2≠ -1
 last:∀x,l.getLast?=some x->(e=1↔at_ h x.2=x.1)/\(e=2↔at_ h x.2<0)
 ends:1<=e/\e<=3
theorem Oa{h k:List Int}{lag:Int}(hv:RoV h k lag):∀(m:Nat) (c u:Int),0<=c->c<=7->0<=at_ k c-> -1<=u->u<=h.length-1->(0<=u->at_ h u=c)->(h.length:Int)-u<m →
  PthV h k c (lc h k m c u).1 (lc h k m c u).2/\((lc h k m c u).1.length:Int)<=(h.length:Int)-u/\(∀x,(lc h k m c u).1.head?=some x->u<=x.2):=by
 intro m;induction m with
 |zero=>intro c u _ _ _ _ _ _ hm;omega
 | succ m ih=>
  intro c u hc0 hc7 hk hu0 hu1 hhu hm;obtain⟨r1,r2,r3,r4,r5⟩:=FQ hv ⟨hc0,hc7⟩ hk hu1;have single:∀w e:Int,1<=e->e<=3->w=max (at_ k c) u->((e=1↔at_ h w=c)/\(e=2↔at_ h w<0))->PthV h k c [(c,w)] e/\(([(c,w)]:List (Int×Int)).length:Int)<=(h.length:Int)-u/\(∀x,([(c,w)]:List (Int×Int)).head?=some x->u<=x.2):=by
   intro w e he1 he3 hw hl;rw[r5]at r1 r2;refine⟨⟨by simp,fun x hx=>?_,fun x hx=>?_,fun i x y h1 h2=>?_,fun x hx=>?_,he1,he3⟩,?_,fun x hx=>?_⟩
   ·cases hx;rfl
   ·rw[List.mem_singleton]at hx;subst hx
    exact⟨hc0,hc7,by dsimp only;omega,by dsimp only;omega,by dsimp only;omega,hk⟩
   ·simp at h2
   ·cases hx;exact hl
   ·simp only[List.length_singleton];omega
   ·cases hx;dsimp only;omega
  simp only[lc];rcases Fu h k c u with⟨h1,hd⟩|⟨h1,h2,hd⟩|⟨h1,h2,h3,hd⟩|⟨h1,h2,h3,hd⟩
  ·rw[hd]
   dsimp only;rw[if_pos (show(1:Int)≠0 by decide)]
   exact single _ 1 (by decide) (by decide) rfl ⟨⟨fun _=>h1,fun _=>rfl⟩,⟨fun h=>by omega,fun h=>by omega⟩⟩
  ·rw[hd]
   dsimp only;rw[if_pos (show(2:Int)≠0 by decide)]
   exact single _ 2 (by decide) (by decide) rfl ⟨⟨fun h=>by omega,fun h=>absurd h h1⟩,⟨fun _=>h2,fun _=>rfl⟩⟩
  ·rw[hd]
   dsimp only;rw[if_pos (show(3:Int)≠0 by decide)]
   exact single _ 3 (by decide) (by decide) rfl ⟨⟨fun h=>by omega,fun h=>absurd h h1⟩,⟨fun h=>by omega,fun h=>by omega⟩⟩
  ·rw [hd]
   dsimp only;rw[if_neg (show ¬(0:Int)≠0 by decide)]
   rw[hd]at r1 r2 r3;dsimp only at r1 r2 r3
   have hlt:u<max (at_ k c) u:=by
    by_cases e:0<=u
    ·have:=hhu e
     by_cases e2:max (at_ k c) u=u
     ·rw[e2]at h1;exact absurd this h1
     ·omega
    ·omega
   have hmem:=hv.1.2.2 _ (Nx r1 (by omega))
   obtain⟨i1,i2,i3⟩:=ih _ _ h2 hmem.2 h3 (by omega) r2 (fun _=>rfl) (by omega)
   generalize hP:(lc h k m (at_ h (max (at_ k c) u)) (max (at_ k c) u))=P at i1 i2 i3
   generalize hw:max (at_ k c) u=w at *
   obtain⟨l,e⟩:=P;dsimp only at i1 i2 i3⊢
   cases l with
   |nil=>exact absurd rfl i1.ne
   | cons z l=>
    have hz:=i1.first z rfl;have hz2:=i3 z rfl;refine⟨⟨by simp,fun x hx=>?_,fun x hx=>?_,fun i x y hx hy=>?_,fun x hx=>?_,i1.ends⟩,?_,fun x hx=>?_⟩
    ·cases hx;rfl
    ·rcases List.mem_cons.1 hx with rfl|hx
     ·exact⟨hc0,hc7,r1,r2,by dsimp only;omega,hk⟩
     ·exact i1.bd x hx
    ·cases i with
     |zero=>
      cases hx
      cases hy
      exact⟨hz,hz2,h1,by dsimp only;omega⟩
     |succ i=>exact i1.two i x y hx hy
    ·rw[List.getLast?_cons_cons]at hx
     exact i1.last x hx
    ·simp only[List.length_cons]at i2⊢;omega
    ·cases hx;dsimp only;omega
theorem Ox{h k:List Int}{lag c:Int}(hv:An h k lag c):PthV h k c (mi h k c).1 (mi h k c).2/\(mi h k c).1.length<=31:=by
 have hl:=hv.1.1.2.1;have h1:=hv.1.1.1;obtain⟨i1,i2,_⟩:=Oa hv.1 40 c (-1) hv.2.1 hv.2.2.1 hv.2.2.2 (by omega) (by omega) (fun h=>by omega) (by omega)
 exact⟨i1,by unfold mi;omega⟩
end Go.Dial.Rou
namespace Go.Sx
open Go
abbrev r2(p:(Int×Int)×Int):List AV:=[.int p.1.1,.int p.1.2,.int p.2]
abbrev r1(p:Int×Int):List AV:=[.int p.1,.int p.2]
def kz{α:Type}[DecidableEq α](k:α)(x:Int):List (α×Int)->List (α×Int)
 |[]=>[(k,x)]
 |p::l=>if p.1=k then(k,x)::l else p::kz k x l
def dJ{α:Type}[DecidableEq α](k:α):List (α×Int)->Option Int
 |[]=>none
 |p::l=>if p.1=k then some p.2 else dJ k l
theorem IR{α:Type}[DecidableEq α](k k':α)(x:Int)(l:List (α×Int)):dJ k' (kz k x l)=if k'=k then some x else dJ k' l:=by
 induction l with
 |nil=>
  by_cases h:k'=k
  ·subst h;simp[kz,dJ]
  ·simp[kz,dJ,h,Ne.symm h]
 | cons p l ih=>
  by_cases hp:p.1=k
  ·simp only[kz,if_pos hp,dJ]
   by_cases h:k'=k
   ·subst h;simp
   ·rw[if_neg (Ne.symm h),if_neg h,if_neg (by rw[hp];exact Ne.symm h)]
  ·simp only[kz,if_neg hp,dJ]
   by_cases h2:p.1=k'
   ·rw[if_pos h2,if_pos h2,if_neg (fun h=>hp (h2.trans h))]
   ·rw[if_neg h2,if_neg h2,ih]
theorem qw(a b c d y:Int):cE [.int a,.int b] (r2 ((c,d),y))=decide ((c,d)=(a,b)):=by
 show(decide (a=c)&&(decide (b=d)&&true))=_
 by_cases h1:a=c
 ·by_cases h2:b=d
  ·subst h1 h2;simp
  ·have:¬(c,d)=(a,b):=fun h=>h2 (by cases h;rfl)
   simp[h2,this]
 ·have:¬(c,d)=(a,b):=fun h=>h1 (by cases h;rfl)
  simp[h1,this]
theorem AU(a c y:Int):cE [.int a] (r1 (c,y))=decide (c=a):=by
 show(decide (a=c)&&true)=_
 by_cases h1:a=c
 ·subst h1;simp
 ·have:¬c=a:=fun h=>h1 h.symm
  simp[h1,this]
theorem Sj(a b x:Int)(l:List ((Int×Int)×Int)):eQ [.int a,.int b] (.int x) (l.map r2)=(kz (a,b) x l).map r2:=by
 induction l with
 |nil=>rfl
 | cons p l ih=>
  obtain⟨⟨c,d⟩,y⟩:=p;by_cases h:(c,d)=(a,b)
  ·have hk:cE [.int a,.int b] (r2 ((c,d),y))=true:=by rw[qw];exact decide_eq_true h
   simp only[List.map_cons,eQ,hk,cond_true,kz,if_pos h];rfl
  ·have hk:cE [.int a,.int b] (r2 ((c,d),y))=false:=by rw[qw];exact decide_eq_false h
   simp only[List.map_cons,eQ,hk,cond_false,kz,if_neg h,ih]
theorem LW(a b:Int)(l:List ((Int×Int)×Int)):dK [.int a,.int b] (l.map r2)=(dJ (a,b) l).isSome:=by
 induction l with
 |nil=>rfl
 | cons p l ih=>
  obtain⟨⟨c,d⟩,y⟩:=p;by_cases h:(c,d)=(a,b)
  ·have hk:cE [.int a,.int b] (r2 ((c,d),y))=true:=by rw[qw];exact decide_eq_true h
   simp only[List.map_cons,dK,hk,dJ,if_pos h];rfl
  ·have hk:cE [.int a,.int b] (r2 ((c,d),y))=false:=by rw[qw];exact decide_eq_false h
   simp only[List.map_cons,dK,hk,Bool.false_or,dJ,if_neg h,ih]
theorem Ph(a b:Int)(l:List ((Int×Int)×Int)):cc [.int a,.int b] (l.map r2)=(dJ (a,b) l).getD 0:=by
 induction l with
 |nil=>rfl
 | cons p l ih=>
  obtain⟨⟨c,d⟩,y⟩:=p;by_cases h:(c,d)=(a,b)
  ·have hk:cE [.int a,.int b] (r2 ((c,d),y))=true:=by rw[qw];exact decide_eq_true h
   simp only[List.map_cons,cc,hk,cond_true,dJ,if_pos h];rfl
  ·have hk:cE [.int a,.int b] (r2 ((c,d),y))=false:=by rw[qw];exact decide_eq_false h
   simp only[List.map_cons,cc,hk,cond_false,dJ,if_neg h,ih]
theorem Sb(a x:Int)(l:List (Int×Int)):eQ [.int a] (.int x) (l.map r1)=(kz a x l).map r1:=by
 induction l with
 |nil=>rfl
 | cons p l ih=>
  obtain⟨c,y⟩:=p;by_cases h:c=a
  ·have hk:cE [.int a] (r1 (c,y))=true:=by rw[AU];exact decide_eq_true h
   simp only[List.map_cons,eQ,hk,cond_true,kz,if_pos h];rfl
  ·have hk:cE [.int a] (r1 (c,y))=false:=by rw[AU];exact decide_eq_false h
   simp only[List.map_cons,eQ,hk,cond_false,kz,if_neg h,ih]
theorem Pj(a:Int)(l:List (Int×Int)):cc [.int a] (l.map r1)=(dJ a l).getD 0:=by
 induction l with
 |nil=>rfl
 | cons p l ih=>
  obtain⟨c,y⟩:=p;by_cases h:c=a
  ·have hk:cE [.int a] (r1 (c,y))=true:=by rw[AU];exact decide_eq_true h
   simp only[List.map_cons,cc,hk,cond_true,dJ,if_pos h];rfl
  ·have hk:cE [.int a] (r1 (c,y))=false:=by rw[AU];exact decide_eq_false h
   simp only[List.map_cons,cc,hk,cond_false,dJ,if_neg h,ih]
end Go.Sx
namespace Go.Dial.Fwd
open Go.Sx
structure Se where
 n:Int
 k:Int
 t:Int
 f:Int
 u:Int
 deriving DecidableEq
structure Co where
 n:Int
 k:Int
 deriving DecidableEq
def SeF(s:Se):Prop:=0<=s.n/\s.n<=99999999/\0<=s.t/\s.t<=99999999/\s.n≠s.t/\1<=s.k/\s.k<=4/\0<=s.f/\s.f<s.u/\s.u<=10000001
instance (s:Se):Decidable (SeF s):=by unfold SeF;infer_instance
def gf(a b:Se):Prop:=a.n=b.n/\a.k=b.k/\a.f<b.u/\b.f<a.u
instance (a b:Se):Decidable (gf a b):=by unfold gf;infer_instance
def iD:List Se->List Se->Prop
 |_,[]=>True
 |done,s::l=>SeF s/\(∀r∈done,¬gf r s)/\iD (done++[s]) l
def Nr:∀(done l:List Se),Decidable (iD done l)
 |_,[]=>.isTrue trivial
 |done,s::l=>
  have:=Nr (done++[s]) l
  inferInstanceAs (Decidable (SeF s/\(∀r∈done,¬gf r s)/\iD (done++[s]) l))
instance (done l:List Se):Decidable (iD done l):=Nr done l
def qN(l:List Se):Prop:=l.length<=40/\iD [] l
instance (l:List Se):Decidable (qN l):=by unfold qN;infer_instance
def iF:Int->List Co->Prop
 |_,[]=>True
 |last,c::l=>last<c.n/\c.n<=99999999/\2<=c.k/\c.k<=4/\iF c.n l
def MN:∀(last:Int) (l:List Co),Decidable (iF last l)
 |_,[]=>.isTrue trivial
 |last,c::l=>
  have:=MN c.n l
  inferInstanceAs (Decidable (last<c.n/\c.n<=99999999/\2<=c.k/\c.k<=4/\iF c.n l))
instance (last:Int) (l:List Co):Decidable (iF last l):=MN last l
def FwV(l:List Se)(c:List Co):Prop:=qN l/\c.length<=40/\iF (-1) c
instance (l:List Se) (c:List Co):Decidable (FwV l c):=by unfold FwV;infer_instance
def fw(c:List Co)(n:Int):Int:=
 match c with
 |[]=>0
 |x::c=>if x.n=n then x.k else fw c n
def zZ(n k t:Int)(s:Se):Prop:=s.n=n/\s.k=k/\s.f<=t/\t<s.u
instance (n k t:Int) (s:Se):Decidable (zZ n k t s):=by unfold zZ;infer_instance
def ot(n k t:Int)(l:List Se):Option Nat:=l.findIdx? fun s=>decide (zZ n k t s)
def cnt(l:List Se)(c:List Co)(n t:Int):Option Nat:=
 match ot n 1 t l with
 |some i=>some i
 |none=>if 0<fw c n then ot n (fw c n) t l else none
def mz(l:List Se)(i:Nat):Se:=l.getD i ⟨0,0,0,0,0⟩
def iu(l:List Se)(c:List Co)(t:Int):Nat->Int->List Int->List Int->Int×List Int×List Int
 |0,_,p,u=>(6,p,u)
 | m+1,n,p,u=>
  match cnt l c n t with
  |none=>(if 0<fw c n then fw c n else 1,p,u)
  |some i=>
   if u.length=5 then(6,p,u)else if(mz l i).t∈p then(5,p++[(mz l i).t],u++[(i:Int)])else iu l c t m (mz l i).t (p++[(mz l i).t]) (u++[(i:Int)])
def xn(l:List Se)(c:List Co)(n t:Int):Prop:=FwV l c/\0<=n/\n<=99999999/\0<=t/\t<=10000000
instance (l:List Se) (c:List Co) (n t:Int):Decidable (xn l c n t):=by unfold xn;infer_instance
def rl(l:List Se)(c:List Co)(n t:Int):Int×List Int×List Int:=iu l c t 7 n [n] []
def wt(l:List Se)(c:List Co)(n t:Int):(Int×List Int×List Int)×Int:=if xn l c n t then(rl l c n t,0)else((0,[],[]),220)
theorem lA{done l:List Se}(h:iD done l):∀(i:Nat) s,l[i]?=some s->SeF s/\(∀r∈done,¬gf r s)/\∀(j:Nat) r,j<i->l[j]?=some r->¬gf r s:=by
 induction l generalizing done with
 |nil=>intro i s hs;simp at hs
 | cons x l ih=>
  intro i s hs;obtain⟨h1,h2,h3⟩:=h;cases i with
  |zero=>
   simp at hs;subst hs
   exact⟨h1,h2,fun j r hj=>by omega⟩
  | succ i=>
   obtain⟨g1,g2,g3⟩:=ih h3 i s (by simpa using hs)
   refine⟨g1,fun r hr=>g2 r (List.mem_append_left _ hr),fun j r hj hr=>?_⟩
   cases j with
   |zero=>
    simp at hr;subst hr
    exact g2 x (List.mem_append_right _ (List.mem_singleton.2 rfl))
   |succ j=>exact g3 j r (by omega) (by simpa using hr)
theorem OF{l:List Se}(h:iD [] l){n k t:Int}{i j:Nat}{s r:Se}(hi:l[i]?=some s)(hj:l[j]?=some r)(hs:zZ n k t s)(hr:zZ n k t r):i=j:=by
 obtain⟨a1,a2,a3,a4⟩:=hs;obtain⟨b1,b2,b3,b4⟩:=hr;rcases Nat.lt_trichotomy i j with hij|hij|hij
 ·exact absurd ⟨a1.trans b1.symm,a2.trans b2.symm,by omega,by omega⟩ ((lA h j r hj).2.2 i s hij hi)
 ·exact hij
 ·exact absurd ⟨b1.trans a1.symm,b2.trans a2.symm,by omega,by omega⟩ ((lA h i s hi).2.2 j r hij hj)
def vl(t:Int)(m:List ((Int×Int)×Int))(x:Se×Nat):List ((Int×Int)×Int):=if x.1.f<=t/\t<x.1.u then kz (x.1.n,x.1.k) (x.2:Int) m else m
def mP(t:Int)(l:List Se):List ((Int×Int)×Int):=l.zipIdx.foldl (vl t) []
theorem FZ(t:Int)(l:List Se)(s:Se):mP t (l++[s])=vl t (mP t l) (s,l.length):=by
 unfold mP;rw[List.zipIdx_append,List.foldl_append];simp
theorem O1{l:List Se}(h:iD [] l)(t:Int):∀(i:Nat),i<=l.length->∀(n k x:Int),dJ (n,k) (mP t (l.take i))=some x↔∃(j:Nat) (s:Se),j<i/\l[j]?=some s/\zZ n k t s/\x=(j:Int):=by
 intro i;induction i with
 |zero=>
  intro _ n k x;constructor
  ·intro h;simp[mP,dJ]at h
  ·rintro ⟨j,s,hj,_⟩;omega
 | succ i ih=>
  intro hi n k x;obtain⟨s,hs⟩:∃s,l[i]?=some s:=⟨_,List.getElem?_eq_getElem (by omega)⟩
  have ht:l.take (i+1)=l.take i++[s]:=by rw[List.take_add_one,hs];rfl
  have hl:(l.take i).length=i:=by rw[List.length_take];omega
  rw[ht,FZ,hl];unfold vl;split
  ·rename_i hh
   rw[IR];split
   ·rename_i hk
    cases hk
    constructor
    ·intro hx
     cases hx
     exact⟨i,s,by omega,hs,⟨rfl,rfl,hh.1,hh.2⟩,rfl⟩
    ·rintro ⟨j,r,hj,hr,hf,rfl⟩
     rw[OF h hr hs hf ⟨rfl,rfl,hh.1,hh.2⟩]
   ·rename_i hk
    rw[ih (by omega)]
    constructor
    ·rintro ⟨j,r,hj,hr,hf,rfl⟩;exact⟨j,r,by omega,hr,hf,rfl⟩
    ·rintro ⟨j,r,hj,hr,hf,rfl⟩
     by_cases e:j=i
     ·subst e
      rw[hs]at hr;cases hr
      exact absurd (by rw[hf.1,hf.2.1]) hk
     ·exact⟨j,r,by omega,hr,hf,rfl⟩
  ·rename_i hh
   rw[ih (by omega)]
   constructor
   ·rintro ⟨j,r,hj,hr,hf,rfl⟩;exact⟨j,r,by omega,hr,hf,rfl⟩
   ·rintro ⟨j,r,hj,hr,hf,rfl⟩
    by_cases e:j=i
    ·subst e
     rw[hs]at hr;cases hr
     exact absurd hf.2.2 hh
    ·exact⟨j,r,by omega,hr,hf,rfl⟩
theorem qk{l:List Se}{n k t:Int}{i:Nat}(h:ot n k t l=some i):∃s,l[i]?=some s/\zZ n k t s:=by
 unfold ot at h;rw[List.findIdx?_eq_some_iff_getElem]at h;obtain⟨hi,h1,_⟩:=h;exact⟨_,List.getElem?_eq_getElem hi,of_decide_eq_true h1⟩
theorem Mi{l:List Se}{n k t:Int}(h:ot n k t l=none):∀s∈l,¬zZ n k t s:=by
 unfold ot at h;rw[List.findIdx?_eq_none_iff]at h;intro s hs hf;have:=h s hs
 simp[hf]at this
theorem Fv{l:List Se}(h:iD [] l)(t n k:Int):dJ (n,k) (mP t l)=(ot n k t l).map Int.ofNat:=by
 have key:=O1 h t l.length (Nat.le_refl _) n k;rw[List.take_length]at key;cases hf:ot n k t l with
 |some i=>
  obtain⟨s,hs,hfit⟩:=qk hf;exact(key _).2 ⟨i,s,(List.getElem?_eq_some_iff.1 hs).1,hs,hfit,rfl⟩
 | none=>
  show _=none
  cases ha:dJ (n,k) (mP t l)with
  |none=>rfl
  |some x=>
   obtain⟨j,s,_,hs,hfit,_⟩:=(key x).1 ha;exact absurd hfit (Mi hf s (List.mem_of_getElem? hs))
def n9(c:List Co):List (Int×Int):=c.foldl (fun m x=>kz x.n x.k m) []
theorem Dy(c:List Co)(x:Co):n9 (c++[x])=kz x.n x.k (n9 c):=by
 unfold n9;rw[List.foldl_append];rfl
theorem E4{last:Int}{c:List Co}(h:iF last c):∀(i:Nat) x,c[i]?=some x->last<x.n/\2<=x.k/\x.k<=4/\x.n<=99999999/\∀(j:Nat) y,j<i->c[j]?=some y->y.n<x.n:=by
 induction c generalizing last with
 |nil=>intro i x hx;simp at hx
 | cons z c ih=>
  intro i x hx;obtain⟨h1,h2,h3,h4,h5⟩:=h;cases i with
  |zero=>simp at hx;subst hx;exact⟨h1,h3,h4,h2,fun j y hj=>by omega⟩
  |succ i=>
   obtain⟨g1,g2,g3,g4,g5⟩:=ih h5 i x (by simpa using hx)
   refine⟨by omega,g2,g3,g4,fun j y hj hy=>?_⟩
   cases j with
   |zero=>simp at hy;subst hy;exact g1
   |succ j=>exact g5 j y (by omega) (by simpa using hy)
theorem wW(c:List Co)(n:Int):(∃x∈c,x.n=n/\fw c n=x.k)\/((∀x∈c,x.n≠n)/\fw c n=0):=by
 induction c with
 |nil=>exact .inr ⟨fun x hx=>(by cases hx),rfl⟩
 | cons z c ih=>
  by_cases h:z.n=n
  ·exact .inl ⟨z,List.mem_cons_self ..,h,by simp[fw,h]⟩
  ·rcases ih with⟨x,hx,h1,h2⟩|⟨h1,h2⟩
   ·exact .inl ⟨x,List.mem_cons_of_mem _ hx,h1,by simp[fw,h,h2]⟩
   ·refine .inr ⟨fun x hx=>?_,by simp[fw,h,h2]⟩
    rcases List.mem_cons.1 hx with rfl|hx
    ·exact h
    ·exact h1 x hx
theorem Nk(c:List Co)(h:iF (-1) c):∀(i:Nat),i<=c.length->∀(n x:Int),dJ n (n9 (c.take i))=some x↔∃(j:Nat) (y:Co),j<i/\c[j]?=some y/\y.n=n/\x=y.k:=by
 intro i;induction i with
 |zero=>
  intro _ n x;constructor
  ·intro h;simp[n9,dJ]at h
  ·rintro ⟨j,s,hj,_⟩;omega
 | succ i ih=>
  intro hi n x;obtain⟨y,hy⟩:∃y,c[i]?=some y:=⟨_,List.getElem?_eq_getElem (by omega)⟩
  have ht:c.take (i+1)=c.take i++[y]:=by rw[List.take_add_one,hy];rfl
  rw[ht,Dy,IR];split
  ·rename_i hk
   subst hk;constructor
   ·intro hx;cases hx;exact⟨i,y,by omega,hy,rfl,rfl⟩
   ·rintro ⟨j,z,hj,hz,hn,rfl⟩
    by_cases e:j=i
    ·subst e;rw[hy]at hz;cases hz;rfl
    ·have:=(E4 h i y hy).2.2.2.2 j z (by omega) hz;omega
  ·rename_i hk
   rw[ih (by omega)]
   constructor
   ·rintro ⟨j,z,hj,hz,hn,rfl⟩;exact⟨j,z,by omega,hz,hn,rfl⟩
   ·rintro ⟨j,z,hj,hz,hn,rfl⟩
    by_cases e:j=i
    ·subst e;rw[hy]at hz;cases hz;exact absurd hn.symm hk
    ·exact⟨j,z,by omega,hz,hn,rfl⟩
theorem DN{c:List Co}(h:iF (-1) c)(n:Int):(dJ n (n9 c)).getD 0=fw c n:=by
 have key:=Nk c h c.length (Nat.le_refl _) n;rw[List.take_length]at key;rcases wW c n with⟨x,hx,h1,h2⟩|⟨h1,h2⟩
 ·obtain⟨j,hj⟩:=List.getElem?_of_mem hx
  rw[(key x.k).2 ⟨j,x,(List.getElem?_eq_some_iff.1 hj).1,hj,h1,rfl⟩,h2];rfl
 ·rw[h2]
  cases ha:dJ n (n9 c)with
  |none=>rfl
  |some x=>
   obtain⟨j,y,_,hy,hn,_⟩:=(key x).1 ha;exact absurd hn (h1 y (List.mem_of_getElem? hy))
theorem Jj{l:List Se}{c:List Co}(h:FwV l c)(n t:Int):
  (cnt l c n t).map Int.ofNat=match dJ (n,1) (mP t l)with
   |some x=>some x
   |none=>dJ (n,(dJ n (n9 c)).getD 0) (mP t l):=by
 obtain⟨⟨_,hs⟩,_,hc⟩:=h;rw[Fv hs,DN hc,Fv hs];unfold cnt;cases ot n 1 t l with
 |some i=>rfl
 | none=>
  simp only[Option.map_none];by_cases h0:0<fw c n
  ·rw[if_pos h0]
  ·rw[if_neg h0]
   have hk:fw c n=0:=by
    rcases wW c n with⟨x,hx,_,h2⟩|⟨_,h2⟩
    ·obtain⟨j,hj⟩:=List.getElem?_of_mem hx
     have:=(E4 hc j x hj).2.1;omega
    ·exact h2
   rw[hk];show none=_
   cases hf:ot n 0 t l with
   |none=>rfl
   |some i=>
    obtain⟨s,hs',hfit⟩:=qk hf;have:=(lA hs i s hs').1
    obtain⟨_,_,_,_,_,h6,_⟩:=this;rw[hfit.2.1]at h6;omega
end Go.Dial.Fwd
namespace Go.Dial.Lif
structure Ev where
 k:Int
 a:Int
 h:Int
deriving DecidableEq
structure Ln where
 s:Int
 h:Int
 e:Int
 t:Int
deriving DecidableEq
structure St where
 h:Int
 e:Int
 f:Int
 t:Int
deriving DecidableEq
def first:Ln:=⟨0,-1,0,0⟩
def zero:Ln:=⟨0,0,0,0⟩
def Vld(l:Ln):Prop:=0<=l.s/\l.s<=3/\0<=l.e/\l.e<=1000/\0<=l.t/\l.t<=10000000/\(l.s=0->l.h= -1)/\(l.s≠0->0<=l.h/\l.h<=63/\1<=l.e)
instance (l:Ln):Decidable (Vld l):=by unfold Vld;infer_instance
def sD(l:Ln):Bool:=decide (Vld l)
def m7(k:Int):Prop:=k=1\/k=2
instance (k:Int):Decidable (m7 k):=by unfold m7;infer_instance
def Frm(e:Ev):Prop:=1<=e.k/\e.k<=7/\0<=e.a/\e.a<=10000000/\(m7 e.k->0<=e.h/\e.h<=63)/\(¬m7 e.k->e.h= -1)
instance (e:Ev):Decidable (Frm e):=by unfold Frm;infer_instance
def uN(e:Ev):Bool:=decide (Frm e)
def Pos(l:Ln)(e:Ev):Prop:=l.t<=e.a/\((e.k=1/\l.s=0/\l.e<1000)\/(e.k=2/\l.s=1/\l.h≠e.h/\l.e<1000)\/(e.k=3/\l.s=1)\/(e.k=4/\l.s=2)\/(e.k=5/\(l.s=1\/l.s=2))\/(e.k=6/\l.s=3)\/(e.k=7/\l.s=3/\l.t+2592000<=e.a))
instance (l:Ln) (e:Ev):Decidable (Pos l e):=by unfold Pos;infer_instance
def nxt(l:Ln)(e:Ev):Ln:=
 if e.k=1\/e.k=2 then⟨1,e.h,l.e+1,e.a⟩else if e.k=3 then⟨2,l.h,l.e,e.a⟩else if e.k=4\/e.k=6 then⟨1,l.h,l.e,e.a⟩else if e.k=5 then⟨3,l.h,l.e,e.a⟩else⟨0,-1,l.e,e.a⟩
def Ok(l:Ln)(e:Ev):Prop:=Vld l/\Frm e/\Pos l e
instance (l:Ln) (e:Ev):Decidable (Ok l e):=by unfold Ok;infer_instance
def sU(l:Ln)(e:Ev):Ln×Int:=if Ok l e then(nxt l e,0)else(zero,140)
theorem wZ{l:Ln}{e:Ev}(h:Ok l e):sU l e=(nxt l e,0):=if_pos h
theorem jI{l:Ln}{e:Ev}(h:¬Ok l e):sU l e=(zero,140):=if_neg h
theorem Ny:Vld first:=by decide
theorem PE{l:Ln}{e:Ev}(h:Ok l e):Vld (nxt l e):=by
 obtain⟨⟨h1,h2,h3,h4,h5,h6,h7,h8⟩,⟨f1,f2,f3,f4,f5,f6⟩,p1,p2⟩:=h;unfold m7 at f5 f6;unfold nxt;by_cases c1:e.k=1\/e.k=2
 ·rw[if_pos c1];have:=f5 c1;refine⟨?_,?_,?_,?_,?_,?_,?_,?_⟩<;>simp only<;>omega
 rw[if_neg c1];by_cases c3:e.k=3
 ·rw[if_pos c3];have:=h8 (by omega);refine⟨?_,?_,?_,?_,?_,?_,?_,?_⟩<;>simp only<;>omega
 rw[if_neg c3];by_cases c4:e.k=4\/e.k=6
 ·rw[if_pos c4];have:=h8 (by omega);refine⟨?_,?_,?_,?_,?_,?_,?_,?_⟩<;>simp only<;>omega
 rw[if_neg c4];by_cases c5:e.k=5
 ·rw[if_pos c5];have:=h8 (by omega);refine⟨?_,?_,?_,?_,?_,?_,?_,?_⟩<;>simp only<;>omega
 rw[if_neg c5];refine⟨?_,?_,?_,?_,?_,?_,?_,?_⟩<;>simp<;>omega
theorem Py(l:Ln)(e:Ev):(nxt l e).t=e.a:=by unfold nxt;split;rfl;split;rfl;split;rfl;split<;>rfl
def ep:Ln->List Ev->Ln×Nat
 |l,[]=>(l,0)
 |l,e::es=>if Ok l e then((ep (nxt l e) es).1,(ep (nxt l e) es).2+1)else(l,0)
theorem PG(l:Ln)(es:List Ev):(ep l es).2<=es.length:=by
 induction es generalizing l with
 |nil=>simp[ep]
 |cons e es ih=>unfold ep;split<;>simp;exact ih _
def All:Ln->List Ev->Prop
 |_,[]=>True
 |l,e::es=>Ok l e/\All (nxt l e) es
def fin(l:Ln)(es:List Ev):Ln:=es.foldl nxt l
theorem runF_all{l:Ln}{es:List Ev}:(ep l es).2=es.length↔All l es:=by
 induction es generalizing l with
 |nil=>simp[ep,All]
 |cons e es ih=>
  unfold ep All;by_cases h:Ok l e
  ·rw[if_pos h];simp only[List.length_cons,Nat.add_right_cancel_iff,ih,h,true_and]
  ·rw[if_neg h];simp[h]
theorem Jg{l:Ln}{es:List Ev}(h:All l es):ep l es=(fin l es,es.length):=by
 induction es generalizing l with
 |nil=>rfl
 |cons e es ih=>
  obtain⟨h1,h2⟩:=h;rw[ep,if_pos h1,ih h2];rfl
theorem OD{l:Ln}(hl:Vld l)(es:List Ev):Vld (ep l es).1:=by
 induction es generalizing l with
 |nil=>exact hl
 |cons e es ih=>
  unfold ep;by_cases h:Ok l e
  ·rw[if_pos h];exact ih (PE h)
  ·rw[if_neg h];exact hl
theorem Oq{l:Ln}{a b:List Ev}(h:All l a):ep l (a++b)=((ep (fin l a) b).1,a.length+(ep (fin l a) b).2):=by
 induction a generalizing l with
 |nil=>simp[fin]
 |cons e a ih=>
  obtain⟨h1,h2⟩:=h;rw[List.cons_append,ep,if_pos h1,ih h2];simp[fin];omega
theorem Bc{l:Ln}{a b:List Ev}:All l (a++b)↔All l a/\All (fin l a) b:=by
 induction a generalizing l with
 |nil=>simp[All,fin]
 |cons e a ih=>simp only[List.cons_append,All,ih,fin,List.foldl_cons,and_assoc]
theorem E3(l:Ln)(a b:List Ev):fin l (a++b)=fin (fin l a) b:=by simp[fin]
theorem PO{l:Ln}{es:List Ev}(hl:Vld l)(h:All l es):Vld (fin l es):=by
 have:=OD hl es
 rwa [Jg h]at this
theorem Oo{l:Ln}{es:List Ev}(h:All l es)(k:Nat):All l (es.take k):=by
 rw[<-List.take_append_drop k es,Bc]at h;exact h.1
def mn(es:List Ev):(Ln×Nat)×Int:=if(ep first (es.take 40)).2=es.length then(((ep first (es.take 40)).1,es.length),0)else((zero,(ep first (es.take 40)).2),140)
def lB(es:List Ev):Prop:=All first es/\es.length<=40
theorem life_iff{es:List Ev}:(ep first (es.take 40)).2=es.length↔lB es:=by
 constructor
 ·intro h
  have h1:=PG first (es.take 40);have h2:es.length<=40:=by simp at h1;omega
  rw[List.take_of_length_le h2]at h;exact⟨runF_all.1 h,h2⟩
 ·rintro ⟨h1,h2⟩
  rw[List.take_of_length_le h2];exact runF_all.2 h1
instance (es:List Ev):Decidable (lB es):=decidable_of_iff _ life_iff
theorem oU{es:List Ev}(h:lB es):mn es=((fin first es,es.length),0):=by
 rw[mn,if_pos (life_iff.2 h),List.take_of_length_le h.2,Jg h.1]
theorem EJ{es:List Ev}(h:¬lB es):mn es=((zero,(ep first (es.take 40)).2),140):=by
 rw[mn,if_neg (fun e=>h (life_iff.1 e))]
theorem NG{es:List Ev}(h:lB es)(k:Nat):lB (es.take k):=⟨Oo h.1 k,by have:=h.2;simp;omega⟩
theorem Nv{l:Ln}{es:List Ev}(h:All l es):∀e∈es,l.t<=e.a:=by
 induction es generalizing l with
 |nil=>simp
 |cons x es ih=>
  obtain⟨h1,h2⟩:=h;intro e he;have hx:=h1.2.2.1;rcases List.mem_cons.1 he with rfl|he
  ·exact hx
  ·have:=ih h2 e he;rw[Py]at this;omega
theorem Ly{l:Ln}{es:List Ev}(h:All l es){i j:Nat}(hij:i<=j)(hj:j<es.length):(es[i]'(by omega)).a<=es[j].a:=by
 induction es generalizing l i j with
 |nil=>simp at hj
 | cons x es ih=>
  obtain⟨h1,h2⟩:=h;cases i with
  | zero=>
   cases j with
   |zero=>exact Int.le_refl _
   |succ j=>
    have:=Nv h2 (es[j]'(by simpa using hj)) (List.getElem_mem _)
    rw[Py]at this;simpa using this
  |succ i=>
   cases j with
   |zero=>omega
   |succ j=>simpa using ih h2 (i:=i) (j:=j) (by omega) (by simpa using hj)
def jN(es:List Ev)(t:Int):Nat:=(es.takeWhile fun e=>decide (e.a<=t)).length
theorem Ef(es:List Ev)(t:Int):jN es t<=es.length:=by
 unfold jN;exact List.Sublist.length_le (List.takeWhile_sublist _)
theorem Qr{es:List Ev}{t:Int}{i:Nat}(h:i<jN es t):(es[i]'(Nat.lt_of_lt_of_le h (Ef es t))).a<=t:=by
 have h1:i<(es.takeWhile fun e=>decide (e.a<=t)).length:=h
 have h2:=List.all_eq_true.1 List.all_takeWhile _ (List.getElem_mem h1);have h3:(es.takeWhile fun e=>decide (e.a<=t))[i]=es[i]'(Nat.lt_of_lt_of_le h (Ef es t)):=by
  have:=(List.takeWhile_prefix (fun e:Ev=>decide (e.a<=t)) (l:=es))
  exact List.IsPrefix.getElem this h1
 rw[h3]at h2;simpa using h2
theorem PY{es:List Ev}{t:Int}(h:jN es t<es.length):t<(es[jN es t]).a:=by
 induction es with
 |nil=>simp at h
 | cons x es ih=>
  by_cases hx:x.a<=t
  ·have e:jN (x::es) t=jN es t+1:=by simp[jN,hx]
   simp only[e]at h⊢;simpa using ih (by simpa using h)
  ·have e:jN (x::es) t=0:=by simp[jN,hx]
   simp only[e];simpa using hx
def atL(es:List Ev)(t:Int):Ln:=fin first (es.take (jN es t))
def wK(es:List Ev)(t:Int):Prop:=lB es/\0<=t/\t<=10000000
instance (es:List Ev) (t:Int):Decidable (wK es t):=by unfold wK;infer_instance
def atR(es:List Ev)(t:Int):Ln×Int:=if wK es t then(atL es t,0)else(zero,140)
def Ou(l:Ln):Prop:=l.s=1\/l.s=2
instance (l:Ln):Decidable (Ou l):=by unfold Ou;infer_instance
def Is(es:List Ev)(t:Int):Prop:=wK es t/\Ou (atL es t)
instance (es:List Ev) (t:Int):Decidable (Is es t):=by unfold Is;infer_instance
def M2(es:List Ev)(me ma t:Int):Prop:=Is es ma/\(atL es ma).e=me/\ma<=t/\t<=10000000
instance (es:List Ev) (me ma t:Int):Decidable (M2 es me ma t):=by unfold M2;infer_instance
end Go.Dial.Lif
namespace Go.Dial.Clm
structure Rl where
 a:Int
 c:Int
 s:Int
 r:Int
deriving DecidableEq
structure Cl where
 n:Int
 f:Int
 t:Int
 h:Int
 a:Int
 b:Bool
deriving DecidableEq
structure Ce where
 k:Int
 a:Int
 r:Int
deriving DecidableEq
structure Cs where
 s:Int
 f:Int
 n:Int
deriving DecidableEq
def RlV(r:Rl):Prop:=1<=r.a/\r.a<=1000000/\1<=r.c/\r.c<=1000000/\1<=r.s/\r.s<=1000000/\1<=r.r/\r.r<=1000000
instance (r:Rl):Decidable (RlV r):=by unfold RlV;infer_instance
def ClV(c:Cl):Prop:=0<=c.n/\c.n<=99999999/\0<=c.f/\c.f<=7/\0<=c.t/\c.t<=7/\c.f≠c.t/\0<=c.h/\c.h<=63/\0<=c.a/\c.a<=10000000
instance (c:Cl):Decidable (ClV c):=by unfold ClV;infer_instance
def CeV(last:Int)(e:Ce):Prop:=1<=e.k/\e.k<=6/\last<=e.a/\e.a<=20000000/\(e.k=2\/e.k=6->1<=e.r/\e.r<=9)/\(¬(e.k=2\/e.k=6)->e.r=0)
instance (last:Int) (e:Ce):Decidable (CeV last e):=by unfold CeV;infer_instance
def EvV:Int->List Ce->Prop
 |_,[]=>True
 |last,e::es=>CeV last e/\EvV e.a es
instance EvV.dec:(last:Int)->(es:List Ce)->Decidable (EvV last es)
 |_,[]=>.isTrue trivial
 |last,e::es=>by
  have:=EvV.dec e.a es
  unfold EvV;infer_instance
def dC(r:Rl)(c:Cl)(es:List Ce):Prop:=RlV r/\ClV c/\es.length<=20/\EvV c.a es
instance (r:Rl) (c:Cl) (es:List Ce):Decidable (dC r c es):=by unfold dC;infer_instance
def dur(r:Rl)(s:Int):Int:=if s=1 then r.a else if s=2 then r.s else if s=3 then r.c else r.r
def st(r:Rl)(s f:Int):Cs:=⟨s,f,if 1<=s/\s<=4 then f+dur r s else -1⟩
def aft(s:Int):Int:=if s=3 then 4 else if s=4 then 5 else 3
def bec(b:Bool)(s:Int)(e:Ce):Int:=
 if e.k=1 then(if s=1 then 3 else -1)else if e.k=2 then(if s=1 then(if e.r=1 then(if b then -1 else 6)else 2)else -1)else if e.k=3 then(if s=2 then 3 else -1)else if e.k=4 then(if s=2 then 6 else -1)else if e.k=5 then(if s=1\/s=2\/s=3 then 7 else -1)else if e.k=6 then(if s=4 then(if e.r=1/\b then -1 else 8)else -1)else -1
def act(x:Cs):Prop:=1<=x.s/\x.s<=4
instance (x:Cs):Decidable (act x):=by unfold act;infer_instance
def rk(s:Int):Nat:=if s=1\/s=2 then 3 else if s=3 then 2 else if s=4 then 1 else 0
theorem gF(s:Int):rk s<=3:=by unfold rk;split;omega;split;omega;split<;>omega
theorem eo{s:Int}(h:1<=s/\s<=4):rk (aft s)<rk s:=by
 have:s=1\/s=2\/s=3\/s=4:=by omega
 rcases this with rfl|rfl|rfl|rfl<;>decide
def tl(r:Rl)(b:Bool):Cs->List Ce->List Cs
 |now,e::es=>if h:act now/\now.n<=e.a then st r (aft now.s) now.n::tl r b (st r (aft now.s) now.n) (e::es)else if bec b now.s e<0 then tl r b now es else st r (bec b now.s e) e.a::tl r b (st r (bec b now.s e) e.a) es
 |now,[]=>if h:act now then st r (aft now.s) now.n::tl r b (st r (aft now.s) now.n) []else[]
termination_by now es=>5*es.length+rk now.s
decreasing_by
 ·have:=eo h.1
  simp only[st];omega
 ·have:=gF now.s
  simp only[List.length_cons];omega
 ·have:=gF (st r (bec b now.s e) e.a).s
  simp only[List.length_cons];omega
 ·have:=eo h
  simp only[st];omega
theorem qu{r:Rl}{b:Bool}{now:Cs}{e:Ce}{es:List Ce}(h:act now/\now.n<=e.a):tl r b now (e::es)=st r (aft now.s) now.n::tl r b (st r (aft now.s) now.n) (e::es):=by
 rw[tl,dif_pos h]
theorem vA{r:Rl}{b:Bool}{now:Cs}{e:Ce}{es:List Ce}(h:¬(act now/\now.n<=e.a))(hb:bec b now.s e<0):tl r b now (e::es)=tl r b now es:=by
 rw[tl,dif_neg h,if_pos hb]
theorem AS{r:Rl}{b:Bool}{now:Cs}{e:Ce}{es:List Ce}(h:¬(act now/\now.n<=e.a))(hb:¬bec b now.s e<0):tl r b now (e::es)=st r (bec b now.s e) e.a::tl r b (st r (bec b now.s e) e.a) es:=by
 rw[tl,dif_neg h,if_neg hb]
theorem vP{r:Rl}{b:Bool}{now:Cs}(h:act now):tl r b now []=st r (aft now.s) now.n::tl r b (st r (aft now.s) now.n) []:=by
 rw[tl,dif_pos h]
theorem oY{r:Rl}{b:Bool}{now:Cs}(h:¬act now):tl r b now []=[]:=by
 rw[tl,dif_neg h]
theorem yA{r:Rl}{b:Bool}(P:Cs->Prop)(A:Cs->List Ce->Prop)
  (h1:∀now e es,A now (e::es)->act now->now.n<=e.a->P (st r (aft now.s) now.n)/\A (st r (aft now.s) now.n) (e::es))
  (h2:∀now e es,A now (e::es)->¬(act now/\now.n<=e.a)->bec b now.s e<0->A now es)
  (h3:∀now e es,A now (e::es)->¬(act now/\now.n<=e.a)->¬bec b now.s e<0->P (st r (bec b now.s e) e.a)/\A (st r (bec b now.s e) e.a) es)
  (h4:∀now,A now []->act now->P (st r (aft now.s) now.n)/\A (st r (aft now.s) now.n) []):∀(m:Nat) now es,5*es.length+rk now.s<=m->A now es->∀x∈tl r b now es,P x:=by
 intro m;induction m with
 | zero=>
  intro now es hm hA x hx;have he:es=[]:=by
   cases es with
   |nil=>rfl
   |cons e es=>simp at hm
  subst he;by_cases ha:act now
  ·have:=eo ha;omega
  ·rw[oY ha]at hx;cases hx
 | succ m ih=>
  intro now es hm hA x hx;cases es with
  | nil=>
   by_cases ha:act now
   ·rw[vP ha]at hx
    obtain⟨p,q⟩:=h4 now hA ha;rcases List.mem_cons.1 hx with rfl|hx
    ·exact p
    ·exact ih _ _ (by have:=eo ha;simp only[st];omega) q x hx
   ·rw[oY ha]at hx;cases hx
  | cons e es=>
   by_cases ha:act now/\now.n<=e.a
   ·rw[qu ha]at hx
    obtain⟨p,q⟩:=h1 now e es hA ha.1 ha.2;rcases List.mem_cons.1 hx with rfl|hx
    ·exact p
    ·exact ih _ _ (by have:=eo ha.1;simp only[st];omega) q x hx
   ·by_cases hb:bec b now.s e<0
    ·rw[vA ha hb]at hx
     exact ih _ _ (by simp only[List.length_cons]at hm;have:=gF now.s;omega) (h2 now e es hA ha hb) x hx
    ·rw[AS ha hb]at hx
     obtain⟨p,q⟩:=h3 now e es hA ha hb;rcases List.mem_cons.1 hx with rfl|hx
     ·exact p
     ·exact ih _ _ (by simp only[List.length_cons]at hm;have:=gF (st r (bec b now.s e) e.a).s;omega) q x hx
theorem HH{r:Rl}{b:Bool}:∀(m:Nat) now es,5*es.length+rk now.s<=m->(tl r b now es).length<=5*es.length+rk now.s:=by
 intro m;induction m with
 | zero=>
  intro now es hm;have he:es=[]:=by
   cases es with
   |nil=>rfl
   |cons e es=>simp at hm
  subst he;by_cases ha:act now
  ·have:=eo ha;omega
  ·rw[oY ha];simp
 | succ m ih=>
  intro now es hm;cases es with
  | nil=>
   by_cases ha:act now
   ·rw[vP ha]
    have h1:=eo ha;have:=ih (st r (aft now.s) now.n) [] (by simp only[st];omega)
    simp only[st,List.length_cons,List.length_nil]at this⊢;omega
   ·rw[oY ha];simp
  | cons e es=>
   by_cases ha:act now/\now.n<=e.a
   ·rw[qu ha]
    have h1:=eo ha.1;have:=ih (st r (aft now.s) now.n) (e::es) (by simp only[st];omega)
    simp only[st,List.length_cons]at this⊢;omega
   ·by_cases hb:bec b now.s e<0
    ·rw[vA ha hb]
     simp only[List.length_cons]at hm⊢;have h1:=gF now.s;have:=ih now es (by omega)
     omega
    ·rw[AS ha hb]
     simp only[List.length_cons]at hm⊢;have h1:=gF (st r (bec b now.s e) e.a).s;have:=ih (st r (bec b now.s e) e.a) es (by omega)
     omega
theorem O5{l m:Int}{es:List Ce}(h:EvV l es)(hm:m<=l):EvV m es:=by
 cases es with
 |nil=>trivial
 |cons e es=>exact⟨⟨h.1.1,h.1.2.1,by have:=h.1.2.2.1;omega,h.1.2.2.2⟩,h.2⟩
theorem Jx{l:Int}{es:List Ce}(h:EvV l es):∀e∈es,l<=e.a/\e.a<=20000000:=by
 induction es generalizing l with
 |nil=>intro e he;cases he
 | cons x es ih=>
  intro e he;rcases List.mem_cons.1 he with rfl|he
  ·exact⟨h.1.2.2.1,h.1.2.2.2.1⟩
  ·have:=ih h.2 e he
   have:=h.1.2.2.1
   omega
theorem MJ{r:Rl}(h:RlV r)(s:Int):1<=dur r s/\dur r s<=1000000:=by
 unfold RlV at h;unfold dur;split;omega;split;omega;split<;>omega
theorem uB{r:Rl}(h:RlV r){s f:Int}(ha:1<=s/\s<=4):f<(st r s f).n/\(st r s f).n<=f+1000000:=by
 have:=MJ h s
 simp only[st];rw[if_pos ha];omega
theorem Po{r:Rl}(hr:RlV r){b:Bool}{now:Cs}{es:List Ce}{m:Int}(h1:act now->m<=now.n)(h2:∀e∈es,m<=e.a):∀x∈tl r b now es,m<=x.f:=by
 refine yA (r:=r) (b:=b) (fun x=>m<=x.f) (fun now es=>(act now->m<=now.n)/\∀e∈es,m<=e.a) ?_ ?_ ?_ ?_ _ now es (Nat.le_refl _) ⟨h1,h2⟩
 ·intro now e es ⟨g1,g2⟩ ha hle
  exact⟨g1 ha,fun hx=>by have:=uB hr (s:=aft now.s) (f:=now.n) hx;have:=g1 ha;omega,g2⟩
 ·intro now e es ⟨g1,g2⟩ _ _
  exact⟨g1,fun x hx=>g2 x (List.mem_cons_of_mem _ hx)⟩
 ·intro now e es ⟨g1,g2⟩ _ _
  have:=g2 e (List.mem_cons_self ..)
  exact⟨this,fun hx=>by have:=uB hr (s:=bec b now.s e) (f:=e.a) hx;omega,fun x hx=>g2 x (List.mem_cons_of_mem _ hx)⟩
 ·intro now ⟨g1,g2⟩ ha
  exact⟨g1 ha,fun hx=>by have:=uB hr (s:=aft now.s) (f:=now.n) hx;have:=g1 ha;omega,g2⟩
theorem Sm{r:Rl}(hr:RlV r){b:Bool}{now:Cs}{es:List Ce}(h1:now.f+1000000*rk now.s<=23000000)(h0:act now->now.n<=now.f+1000000)(h2:∀e∈es,e.a<=20000000):∀x∈tl r b now es,x.f<=23000000:=by
 refine yA (r:=r) (b:=b) (fun x=>x.f<=23000000) (fun now es=>now.f+1000000*rk now.s<=23000000/\(act now->now.n<=now.f+1000000)/\∀e∈es,e.a<=20000000) ?_ ?_ ?_ ?_ _ now es (Nat.le_refl _) ⟨h1,h0,h2⟩
 ·intro now e es ⟨g1,g0,g2⟩ ha hle
  have k1:=eo ha;have k2:=g0 ha;refine⟨?_,?_,fun hx=>(uB hr hx).2,g2⟩
  ·simp only[st];omega
  ·simp only[st];omega
 ·intro now e es ⟨g1,g0,g2⟩ _ _
  exact⟨g1,g0,fun x hx=>g2 x (List.mem_cons_of_mem _ hx)⟩
 ·intro now e es ⟨g1,g0,g2⟩ _ _
  have k1:=g2 e (List.mem_cons_self ..);have k2:=gF (st r (bec b now.s e) e.a).s;refine⟨?_,?_,fun hx=>(uB hr hx).2,fun x hx=>g2 x (List.mem_cons_of_mem _ hx)⟩
  ·simp only[st];omega
  ·simp only[st]at k2⊢;omega
 ·intro now ⟨g1,g0,g2⟩ ha
  have k1:=eo ha;have k2:=g0 ha;refine⟨?_,?_,fun hx=>(uB hr hx).2,g2⟩
  ·simp only[st];omega
  ·simp only[st];omega
def x0(r:Rl)(c:Cl):Cs:=st r 1 c.a
def aw(r:Rl)(c:Cl)(es:List Ce):List Cs:=x0 r c::tl r c.b (x0 r c) es
def cX(u:Int)(l:List Cs):List Cs:=l.takeWhile fun x=>decide (x.f<=u)
def fx(r:Rl)(c:Cl)(es:List Ce)(t:Int):Cs:=((cX t (aw r c es)).getLast?).getD ⟨0,0,c.a⟩
def qa(r:Rl)(c:Cl)(es:List Ce)(t:Int):Prop:=dC r c es/\0<=t/\t<=20000000
instance (r:Rl) (c:Cl) (es:List Ce) (t:Int):Decidable (qa r c es t):=by unfold qa;infer_instance
def outR(r:Rl)(c:Cl)(es:List Ce)(t:Int):Cs×Int:=if qa r c es t then(fx r c es t,0)else(⟨0,0,0⟩,160)
def fV(r:Rl)(c:Cl):Int:=c.a+r.a-1+r.s+r.c+r.r
end Go.Dial.Clm
namespace Go.Dial.Ref
open Go.Sx Go.Dial.Flo Go.Dial.Rou Go.Dial.Fwd Go.Dial.Lif Go.Dial.Clm
structure Gr where
 ls:List (Int×List Ev)
 ss:List Se
 cs:List Co
 h:List Int
 k:List Int
 lag:Int
 r:Rl
 c:Cl
 ce:List Ce
 nn:Int
 es:List Ed
def LsV:Int->List (Int×List Ev)->Prop
 |_,[]=>True
 |last,x::l=>lB x.2/\last<x.1/\x.1<=99999999/\LsV x.1 l
def Pf:∀(last:Int) (l:List (Int×List Ev)),Decidable (LsV last l)
 |_,[]=>.isTrue trivial
 |last,x::l=>
  have:=Pf x.1 l
  inferInstanceAs (Decidable (lB x.2/\last<x.1/\x.1<=99999999/\LsV x.1 l))
instance (last:Int) (l:List (Int×List Ev)):Decidable (LsV last l):=Pf last l
def GrV(g:Gr):Prop:=g.ls.length<=10/\LsV (-1) g.ls/\FwV g.ss g.cs/\RoV g.h g.k g.lag/\dC g.r g.c g.ce/\NetV g.nn g.es/\g.nn=8
instance (g:Gr):Decidable (GrV g):=by unfold GrV;infer_instance
structure Small (g:Gr):Prop where
 ls:g.ls.length<=1000
 ev:∀x∈g.ls,x.2.length<=1000
 ss:g.ss.length<=1000
 cs:g.cs.length<=1000
 ce:g.ce.length<=1000
 es:g.es.length<=1000
def bx:List (Int×List Ev)->Int->Int->Bool
 |[],_,_=>false
 |x::l,num,t=>if x.1=num then decide ((atR x.2 t).1.s=1)else bx l num t
def jn(p:List Int):Int:=(p.getLast?).getD 0
def aS(p:List (Int×Int)):Int:=((p.getLast?).getD (0,0)).1
def uo(g:Gr)(t:Int):Int:=if(fx g.r g.c g.ce t).s=4\/(fx g.r g.c g.ce t).s=5 then g.c.t else g.c.f
def Unp(g:Gr)(t:Int)(p:List Int)(q:List (Int×Int)):Prop:=g.c.n=jn p/\(aS q=g.c.f\/aS q=g.c.t)/\aS q≠uo g t
instance (g:Gr) (t:Int) (p:List Int) (q:List (Int×Int)):Decidable (Unp g t p q):=by unfold Unp;infer_instance
structure Rf where
 k:Int
 n:Int
 rk:Int
 rp:List Int
 ru:List Int
 hs:List (Int×Int)
 s:Int
 deriving DecidableEq
def nJ:Rf:=⟨0,0,0,[],[],[],0⟩
open Classical in
noncomputable def rS (es:List Ed) (a:Int):Int:=if h:∃s,IsR es a s then Classical.choose h else 0
theorem Pu{es:List Ed}{a s:Int}(h:IsR es a s):rS es a=s:=by
 have hx:∃s,IsR es a s:=⟨s,h⟩
 unfold rS;rw[dif_pos hx];exact P6 (Classical.choose_spec hx) h
open Classical in
noncomputable def dF (g:Gr) (t c:Int) (w:Int×List Int×List Int) (p:List (Int×Int)×Int):Rf×Bool:=
 match w.2.1.find? (fun x=> !bx g.ls x t)with
 |some x=>(⟨1,x,0,[],[],[],0⟩,true)
 | none=>
  if w.1=5\/w.1=6 then(⟨2,0,w.1,w.2.1,w.2.2,[],0⟩,true)else if 2<=w.1/\w.1<=4 then(⟨3,0,w.1,w.2.1,w.2.2,[],0⟩,true)else if p.2=2 then(⟨4,0,0,[],[],p.1,0⟩,true)else if p.2=3 then(⟨5,0,0,[],[],p.1,0⟩,true)else if p.2=1 then
   (if Unp g t w.2.1 p.1 then(⟨6,0,0,[],[],p.1,0⟩,true)else if aS p.1=c then(nJ,false)else if Flo.Reach g.es c (aS p.1)then(nJ,false)else(⟨7,0,0,[],[],p.1,rS g.es c⟩,true))else(nJ,false)
abbrev wy(g:Gr)(num t:Int):Int×List Int×List Int:=rl g.ss g.cs num t
abbrev hp(g:Gr)(c:Int):List (Int×Int)×Int:=mi g.h g.k c
noncomputable def cT (g:Gr) (num t c:Int):Rf×Bool:=dF g t c (wy g num t) (hp g c)
def bL(g:Gr)(num t c:Int):Prop:=GrV g/\0<=num/\num<=99999999/\0<=t/\t<=10000000/\0<=c/\c<=7/\0<=at_ g.k c
instance (g:Gr) (num t c:Int):Decidable (bL g num t c):=by unfold bL;infer_instance
def fz(g:Gr)(t c:Int)(w:Int×List Int×List Int)(p:List (Int×Int)×Int)(r:Rf):Prop:=
 (r.k=1/\r.n∈w.2.1/\bx g.ls r.n t=false/\r=⟨1,r.n,0,[],[],[],0⟩) ∨
 (r.k=2/\(w.1=5\/w.1=6)/\r=⟨2,0,w.1,w.2.1,w.2.2,[],0⟩) ∨
 (r.k=3/\(2<=w.1/\w.1<=4)/\r=⟨3,0,w.1,w.2.1,w.2.2,[],0⟩) ∨
 (r.k=4/\p.2=2/\r=⟨4,0,0,[],[],p.1,0⟩) ∨
 (r.k=5/\p.2=3/\r=⟨5,0,0,[],[],p.1,0⟩) ∨
 (r.k=6/\p.2=1/\Unp g t w.2.1 p.1/\r=⟨6,0,0,[],[],p.1,0⟩) ∨
 (r.k=7/\p.2=1/\aS p.1≠c/\zp c (aS p.1) r.s/\lvs r.s g.es=0/\r=⟨7,0,0,[],[],p.1,r.s⟩)
instance (g:Gr) (t c:Int) (w:Int×List Int×List Int) (p:List (Int×Int)×Int) (r:Rf):Decidable (fz g t c w p r):=by unfold fz;infer_instance
def Chk(g:Gr)(num t c:Int)(r:Rf):Prop:=bL g num t c/\fz g t c (wy g num t) (hp g c) r
instance (g:Gr) (num t c:Int) (r:Rf):Decidable (Chk g num t c r):=by unfold Chk;infer_instance
structure Led (g:Gr) (t c:Int) (w:Int×List Int×List Int) (p:List (Int×Int)×Int):Prop where
 held:∀x∈w.2.1,bx g.ls x t=true
 kind:¬(2<=w.1/\w.1<=6)
 ends:p.2≠2/\p.2≠3
 unp:p.2=1->¬Unp g t w.2.1 p.1
 cut:p.2=1->aS p.1=c\/Flo.Reach g.es c (aS p.1)
theorem NR{g:Gr}{t c:Int}{w:Int×List Int×List Int}{p:List (Int×Int)×Int}(h:(dF g t c w p).2=false):Led g t c w p/\(dF g t c w p).1=nJ:=by
 unfold dF at h⊢
 cases hf:w.2.1.find? (fun x=> !bx g.ls x t)with
 |some x=>rw[hf]at h;cases h
 | none =>
  have hheld:∀x∈w.2.1,bx g.ls x t=true:=fun x hx=>by
   have:=List.find?_eq_none.1 hf x hx
   simpa using this
  rw[hf]at h;dsimp only at h⊢
  by_cases h1:w.1=5\/w.1=6
  ·rw[if_pos h1]at h;cases h
  ·rw [if_neg h1]at h⊢
   by_cases h2:2<=w.1/\w.1<=4
   ·rw[if_pos h2]at h;cases h
   ·rw [if_neg h2]at h⊢
    by_cases h3:p.2=2
    ·rw[if_pos h3]at h;cases h
    ·rw [if_neg h3]at h⊢
     by_cases h4:p.2=3
     ·rw[if_pos h4]at h;cases h
     ·rw [if_neg h4]at h⊢
      by_cases h5:p.2=1
      ·rw [if_pos h5]at h⊢
       by_cases h6:Unp g t w.2.1 p.1
       ·rw[if_pos h6]at h;cases h
       ·rw[if_neg h6]at h⊢
        by_cases h7:aS p.1=c
        ·rw[if_pos h7]
         exact⟨⟨hheld,by omega,⟨h3,h4⟩,fun _=>h6,fun _=>.inl h7⟩,rfl⟩
        ·rw[if_neg h7]at h⊢
         by_cases h8:Flo.Reach g.es c (aS p.1)
         ·rw[if_pos h8]
          exact⟨⟨hheld,by omega,⟨h3,h4⟩,fun _=>h6,fun _=>.inr h8⟩,rfl⟩
         ·rw[if_neg h8]at h;cases h
      ·rw[if_neg h5]
       exact⟨⟨hheld,by omega,⟨h3,h4⟩,fun e=>absurd e h5,fun e=>absurd e h5⟩,rfl⟩
theorem Qw{g:Gr}{t c:Int}{w:Int×List Int×List Int}{p:List (Int×Int)×Int}(hn:NetV g.nn g.es)(h:Led g t c w p)(r:Rf):¬fz g t c w p r:=by
 rintro (⟨_,h1,h2,_⟩|⟨_,h1,_⟩|⟨_,h1,_⟩|⟨_,h1,_⟩|⟨_,h1,_⟩|⟨_,h1,h2,_⟩|⟨_,h1,h2,h3,h4,_⟩)
 ·have:=h.held _ h1
  rw[this]at h2;cases h2
 ·have:=h.kind;omega
 ·have:=h.kind;omega
 ·exact h.ends.1 h1
 ·exact h.ends.2 h1
 ·exact h.unp h1 h2
 ·rcases h.cut h1 with h5|h5
  ·exact h2 h5
  ·have:=xa hn.2.2.2 h4 h3.2.2.1 h5
   rw[h3.2.2.2]at this;cases this
theorem Pb{g:Gr}{t c:Int}{w:Int×List Int×List Int}{p:List (Int×Int)×Int}(hv:∀e∈g.es,EdV 8 e)(hr:aS p.1≠c->¬Flo.Reach g.es c (aS p.1)->∃s,IsR g.es c s)(hl:0<=aS p.1/\aS p.1<=7)(hc:0<=c/\c<=7)(h:(dF g t c w p).2=true):
  fz g t c w p (dF g t c w p).1/\1<=(dF g t c w p).1.k/\(dF g t c w p).1.k<=7:=by
 unfold dF at h⊢
 cases hf:w.2.1.find? (fun x=> !bx g.ls x t)with
 |some x=>
  refine⟨.inl ⟨rfl,List.mem_of_find?_eq_some hf,?_,rfl⟩,by show(1:Int)<=1;decide,by show(1:Int)<=7;decide⟩
  have:=List.find?_some hf
  simpa using this
 | none =>
  rw[hf]at h;dsimp only at h⊢
  by_cases h1:w.1=5\/w.1=6
  ·rw[if_pos h1]
   exact⟨.inr (.inl ⟨rfl,h1,rfl⟩),by dsimp only;decide,by dsimp only;decide⟩
  ·rw [if_neg h1]at h⊢
   by_cases h2:2<=w.1/\w.1<=4
   ·rw[if_pos h2]
    exact⟨.inr (.inr (.inl ⟨rfl,h2,rfl⟩)),by dsimp only;decide,by dsimp only;decide⟩
   ·rw [if_neg h2]at h⊢
    by_cases h3:p.2=2
    ·rw[if_pos h3]
     exact⟨.inr (.inr (.inr (.inl ⟨rfl,h3,rfl⟩))),by dsimp only;decide,by dsimp only;decide⟩
    ·rw [if_neg h3]at h⊢
     by_cases h4:p.2=3
     ·rw[if_pos h4]
      exact⟨.inr (.inr (.inr (.inr (.inl ⟨rfl,h4,rfl⟩)))),by dsimp only;decide,by dsimp only;decide⟩
     ·rw [if_neg h4]at h⊢
      by_cases h5:p.2=1
      ·rw [if_pos h5]at h⊢
       by_cases h6:Unp g t w.2.1 p.1
       ·rw[if_pos h6]
        exact⟨.inr (.inr (.inr (.inr (.inr (.inl ⟨rfl,h5,h6,rfl⟩))))),by dsimp only;decide,by dsimp only;decide⟩
       ·rw [if_neg h6]at h⊢
        by_cases h7:aS p.1=c
        ·rw[if_pos h7]at h;cases h
        ·rw[if_neg h7]at h⊢
         by_cases h8:Flo.Reach g.es c (aS p.1)
         ·rw[if_pos h8]at h;cases h
         ·rw[if_neg h8]
          obtain⟨s,hs⟩:=hr h7 h8;rw[Pu hs];refine⟨.inr (.inr (.inr (.inr (.inr (.inr ⟨rfl,h5,h7,⟨hs.1,hs.2.1,?_,?_⟩,CF hv hs,rfl⟩))))),by dsimp only;decide,by dsimp only;decide⟩
          ·exact(hs.2.2 c hc.1 hc.2).2 .here
          ·cases hb:has s (aS p.1)with
           |false=>rfl
           |true=>exact absurd ((hs.2.2 _ hl.1 hl.2).1 hb) h8
      ·rw[if_neg h5]at h;cases h
theorem Mm{g:Gr}{t c:Int}{w:Int×List Int×List Int}{p:List (Int×Int)×Int}(hw:w.2.1.length<=1000)(hu:w.2.2.length<=1000)(hp:p.1.length<=1000):(dF g t c w p).1.rp.length<=1000/\(dF g t c w p).1.ru.length<=1000/\(dF g t c w p).1.hs.length<=1000:=by
 unfold dF;split
 ·exact⟨Nat.zero_le _,Nat.zero_le _,Nat.zero_le _⟩
 ·repeat' split
  all_goals exact⟨by first|exact Nat.zero_le _|exact hw,by first|exact Nat.zero_le _|exact hu,by first|exact Nat.zero_le _|exact hp⟩
theorem OG{h k:List Int}{c:Int}{l:List (Int×Int)}{e:Int}(hp:PthV h k c l e):∃x,l.getLast?=some x/\x∈l/\aS l=x.1/\0<=aS l/\aS l<=7:=by
 cases hx:l.getLast? with
 |none=>exact absurd (List.getLast?_eq_none_iff.1 hx) hp.ne
 |some x=>
  have hm:=List.mem_of_getLast? hx;have hl:aS l=x.1:=by unfold aS;rw[hx];rfl
  have:=hp.bd x hm
  exact⟨x,rfl,hm,hl,by omega,by omega⟩
end Go.Dial.Ref
