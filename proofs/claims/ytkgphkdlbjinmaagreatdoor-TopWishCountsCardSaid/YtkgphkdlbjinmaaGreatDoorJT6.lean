/-
  Texts of this claim, joined (part 6).
-/
import Derived.Test.YtkgphkdlbjinmaaGreatDoorJT5
open List renaming take → M9, replicate → Nb, modify → Nc, drop → Nd, length_append → Nf, getElem?_map → Ng, mem_cons_self → Nh, getElem?_cons_zero → Nn, getElem?_cons_succ → No, mem_filter → Np, mem_singleton → Nq, range_succ → Nu, mem_range → Nv
open Int renaming tdiv → Na, tmod → Ns
open Bool renaming and_eq_true → Nk
open Array renaming all_eq_true_iff_forall_mem → Nl, getElem?_setIfInBounds → Nm
open Option renaming getD_some → Nr, map_some → Nt
set_option linter.unusedVariables false
set_option linter.unusedSimpArgs false
set_option linter.unusedSectionVars false
set_option linter.constructorNameAsVariable false
set_option maxRecDepth 100000
namespace Go.Proofs.YtkgphkdlbjinmaaGreatDoor
open Go Go.Sx
noncomputable section
def jB:List Nat:=[3,4,5,6,7,8,9,10,11,12,13,14,15,16,17,18,19,20,21,22,23,24,25,26,27,28,31,33,34,35,37,39,40,41,42,43,44,45,60,61,65,67,68,72,74,75,81,83,84,86,87,88,91,93,102,108,113,114,115,119,121,129,137,141,153,155,156,162,163,2000170,2000291]
abbrev rO:=Bool
def mK(n:Nat)(v0 v1 v2 v3 v4:Int):Option rO:=
 (bif 0<=v0 then(bif v0<=99999999 then(bif 0<=v1 then(bif v1<=7 then(bif 0<=v2 then(bif v2<=7 then(bif !(v1=v2)then(bif 0<=v3 then(bif v3<=63 then(bif 0<=v4 then some (decide (v4<=10000000))else some false)else some false)else some false)else some false)else some false)else some false)else some false)else some false)else some false)else some false)
def iH(n:Nat)(v0 v1 v2 v3 v4:Int)(v5:Bool):Option rO:=mK n v0 v1 v2 v3 v4
def claim_isClaim_t:FnT:=⟨[(true,[.int,.int,.int,.int,.int,.bool])],.b,fun n (s:Int×Int×Int×Int×Int×Bool)=>iH n s.1 s.2.1 s.2.2.1 s.2.2.2.1 s.2.2.2.2.1 s.2.2.2.2.2⟩
theorem zu:claim_isClaim_t.ok Tryz.prog 23:=FnT.ok_of (cfg:=⟨[],jB,[],az⟩) aT r9 bI (fun s fn hf=>by rw[Tryz.func23]at hf;cases hf;kernel_rfl) (fun n s=>by kernel_rfl)
def claim_isClaim_T:Tab:=(23,claim_isClaim_t)::wish_Valid_T
theorem nZ:claim_isClaim_T.ok Tryz.prog:=Tab.ok_cons zu r9
abbrev fY:=Bool
abbrev tg:=Int×Int
abbrev nC:=Int
def iF(n:Nat)(go0:tg->Option fY)(v10:Lv)(v13 v14:Int):Option fY:=
 (bif v13<(v10.length:Int) then bif 0<=v13 then(bif (cI v10 v13 0)=2 then(bif 1<=(cI v10 v13 0) then(bif !((cI v10 v13 0)<=6)then some (!(decide (0<=v13)))else(bif v14<=(cI v10 v13 1) then(bif !((cI v10 v13 1)<=20000000)then some (!(decide (0<=v13)))else(bif 1<=(cI v10 v13 2) then(bif !((cI v10 v13 2)<=9)then some (!(decide (0<=v13)))else bif(-9223372036854775808<=(v13+1))&&((v13+1)<=9223372036854775807)then go0 ((v13+1),(cI v10 v13 1))else none)else some (!(decide (0<=v13)))))else some (!(decide (0<=v13)))))else some (!(decide (0<=v13))))else(bif (cI v10 v13 0)=6 then(bif 1<=(cI v10 v13 0) then(bif !((cI v10 v13 0)<=6)then some (!(decide (0<=v13)))else(bif v14<=(cI v10 v13 1) then(bif !((cI v10 v13 1)<=20000000)then some (!(decide (0<=v13)))else(bif 1<=(cI v10 v13 2) then(bif !((cI v10 v13 2)<=9)then some (!(decide (0<=v13)))else bif(-9223372036854775808<=(v13+1))&&((v13+1)<=9223372036854775807)then go0 ((v13+1),(cI v10 v13 1))else none)else some (!(decide (0<=v13)))))else some (!(decide (0<=v13)))))else some (!(decide (0<=v13))))else(bif 1<=(cI v10 v13 0) then(bif !((cI v10 v13 0)<=6)then some (!(decide (0<=v13)))else(bif v14<=(cI v10 v13 1) then(bif !((cI v10 v13 1)<=20000000)then some (!(decide (0<=v13)))else(bif 0<=(cI v10 v13 2) then(bif !((cI v10 v13 2)<=0)then some (!(decide (0<=v13)))else bif(-9223372036854775808<=(v13+1))&&((v13+1)<=9223372036854775807)then go0 ((v13+1),(cI v10 v13 1))else none)else some (!(decide (0<=v13)))))else some (!(decide (0<=v13)))))else some (!(decide (0<=v13))))))else none else some true)
def fV(n:Nat)(go0:nC->Option fY)(v0 v1 v2 v3 v4 v5 v6 v7 v8:Int)(v9:Bool)(v10:Lv)(v11:Int):Option fY:=
 (bif v11<4 then bif 0<=v11 then(bif 1<=(cI ((((([]:Lv)++[[(AV.int v0)]])++[[(AV.int v2)]])++[[(AV.int v1)]])++[[(AV.int v3)]]) v11 0) then(bif !((cI ((((([]:Lv)++[[(AV.int v0)]])++[[(AV.int v2)]])++[[(AV.int v1)]])++[[(AV.int v3)]]) v11 0)<=1000000)then some false else bif(-9223372036854775808<=(v11+1))&&((v11+1)<=9223372036854775807)then go0 (v11+1)else none)else some false)else none else(iH n v4 v5 v6 v7 v8 v9).bind fun y12=>
 (bif(!y12)then some false else(bif 20<(v10.length:Int) then some false else(af (fun go0 s=>iF n go0 v10 s.1 s.2) n ((0,v8):tg)))))
def oB(n:Nat)(v0 v1 v2 v3 v4 v5 v6 v7 v8:Int)(v9:Bool)(v10:Lv):Option fY:=
 (af (fun go0 s=>fV n go0 v0 v1 v2 v3 v4 v5 v6 v7 v8 v9 v10 s) n (0:nC))
def kv(n:Nat)(v0 v1 v2 v3 v4 v5 v6 v7 v8:Int)(v9:Bool)(v10:Lv):Option fY:=oB n v0 v1 v2 v3 v4 v5 v6 v7 v8 v9 v10
def claim_Valid_t:FnT:=⟨[(true,[.int,.int,.int,.int]),(true,[.int,.int,.int,.int,.int,.bool]),(false,[tSc])],.b,fun n (s:Int×Int×Int×Int×Int×Int×Int×Int×Int×Bool×Lv)=>kv n s.1 s.2.1 s.2.2.1 s.2.2.2.1 s.2.2.2.2.1 s.2.2.2.2.2.1 s.2.2.2.2.2.2.1 s.2.2.2.2.2.2.2.1 s.2.2.2.2.2.2.2.2.1 s.2.2.2.2.2.2.2.2.2.1 s.2.2.2.2.2.2.2.2.2.2⟩
theorem Ci:claim_Valid_t.ok Tryz.prog 61:=FnT.ok_of (cfg:=⟨[((62,2,4),.inv [(.tmp 15 .int)]),((142,2,7),.inv [(.tmp 8 .int),(.cell 5 0 .int)])],jB,[],az⟩) aT nZ bI (fun s fn hf=>by rw[Tryz.func61]at hf;cases hf;kernel_rfl) (fun n s=>by kernel_rfl)
def claim_Valid_T:Tab:=(61,claim_Valid_t)::claim_isClaim_T
theorem qL:claim_Valid_T.ok Tryz.prog:=Tab.ok_cons Ci nZ
abbrev mn:=Int×Int
abbrev oI:=Int
def gx(n:Nat)(go0:oI->Option mn)(v0 v1 v2 v3 v4 v5 v6 v7 v8:Int)(v9:Bool)(v10:Int):Option mn:=
 (bif v10<4 then bif 0<=v10 then(bif 1<=(cI ((((([]:Lv)++[[(AV.int v0)]])++[[(AV.int v2)]])++[[(AV.int v1)]])++[[(AV.int v3)]]) v10 0) then(bif !((cI ((((([]:Lv)++[[(AV.int v0)]])++[[(AV.int v2)]])++[[(AV.int v1)]])++[[(AV.int v3)]]) v10 0)<=1000000)then some (0,160)else bif(-9223372036854775808<=(v10+1))&&((v10+1)<=9223372036854775807)then go0 (v10+1)else none)else some (0,160))else none else(iH n v4 v5 v6 v7 v8 v9).bind fun y11=>
 (bif(!y11)then some (0,160)else bif(-9223372036854775808<=(v8+v0))&&((v8+v0)<=9223372036854775807)then bif(-9223372036854775808<=((v8+v0)-1))&&(((v8+v0)-1)<=9223372036854775807)then bif(-9223372036854775808<=(((v8+v0)-1)+v2))&&((((v8+v0)-1)+v2)<=9223372036854775807)then bif(-9223372036854775808<=((((v8+v0)-1)+v2)+v1))&&(((((v8+v0)-1)+v2)+v1)<=9223372036854775807)then bif(-9223372036854775808<=(((((v8+v0)-1)+v2)+v1)+v3))&&((((((v8+v0)-1)+v2)+v1)+v3)<=9223372036854775807)then some ((((((v8+v0)-1)+v2)+v1)+v3),0)else none else none else none else none else none))
def qG(n:Nat)(v0 v1 v2 v3 v4 v5 v6 v7 v8:Int)(v9:Bool):Option mn:=
 (af (fun go0 s=>gx n go0 v0 v1 v2 v3 v4 v5 v6 v7 v8 v9 s) n (0:oI))
def pv(n:Nat)(v0 v1 v2 v3 v4 v5 v6 v7 v8:Int)(v9:Bool):Option mn:=qG n v0 v1 v2 v3 v4 v5 v6 v7 v8 v9
def claim_Ends_t:FnT:=⟨[(true,[.int,.int,.int,.int]),(true,[.int,.int,.int,.int,.int,.bool])],(.tup (.cons .i (.cons .i .nil))),fun n (s:Int×Int×Int×Int×Int×Int×Int×Int×Int×Bool)=>pv n s.1 s.2.1 s.2.2.1 s.2.2.2.1 s.2.2.2.2.1 s.2.2.2.2.2.1 s.2.2.2.2.2.2.1 s.2.2.2.2.2.2.2.1 s.2.2.2.2.2.2.2.2.1 s.2.2.2.2.2.2.2.2.2⟩
theorem CP:claim_Ends_t.ok Tryz.prog 28:=FnT.ok_of (cfg:=⟨[((62,2,4),.inv [(.tmp 15 .int)])],jB,[],az⟩) aT qL bI (fun s fn hf=>by rw[Tryz.func28]at hf;cases hf;kernel_rfl) (fun n s=>by kernel_rfl)
def claim_Ends_T:Tab:=(28,claim_Ends_t)::claim_Valid_T
theorem rT:claim_Ends_T.ok Tryz.prog:=Tab.ok_cons CP qL
abbrev vQ:=Int×Int×Int×Int×Int×Bool×Int
def rz(n:Nat)(v0:Lv)(v1 v2 v3 v4 v5 v6 v7 v8:Int)(v9:List UInt8)(v10:Lv)(v11 v12 v13 v14 v15:Int)(v16:Bool):Option vQ:=
 (iH n v11 v12 v13 v14 v15 v16).bind fun y17=>
 (bif(!y17)then some (0,0,0,0,0,false,160)else(bif v5=v13 then(bif v2=v14 then(mw n v0 v1 v2 v3 v4 v5 v6 v7 v8 v9 v10 v11 v15).bind fun y18=>
 some (v11,v12,v13,v14,v15,y18,0)else some (v11,v12,v13,v14,v15,false,0))else some (v11,v12,v13,v14,v15,false,0)))
def uv(n:Nat)(v0:Lv)(v1 v2 v3 v4 v5 v6 v7 v8:Int)(v9:List UInt8)(v10:Lv)(v11 v12 v13 v14 v15:Int)(v16:Bool):Option vQ:=rz n v0 v1 v2 v3 v4 v5 v6 v7 v8 v9 v10 v11 v12 v13 v14 v15 v16
def claim_Back_t:FnT:=⟨[(false,[(.sl (.cons .str .nil))]),(true,[.int,.int,.int,.int,.int,.int,.int,.int,.str]),(false,[(.sl (.cons .int (.cons .int (.cons .int (.cons .int (.cons .int (.cons .int (.cons .str .nil))))))))]),(true,[.int,.int,.int,.int,.int,.bool])],(.tup (.cons (.agg (.cons .i (.cons .i (.cons .i (.cons .i (.cons .i (.cons .b .nil))))))) (.cons .i .nil))),fun n (s:Lv×Int×Int×Int×Int×Int×Int×Int×Int×List UInt8×Lv×Int×Int×Int×Int×Int×Bool)=>uv n s.1 s.2.1 s.2.2.1 s.2.2.2.1 s.2.2.2.2.1 s.2.2.2.2.2.1 s.2.2.2.2.2.2.1 s.2.2.2.2.2.2.2.1 s.2.2.2.2.2.2.2.2.1 s.2.2.2.2.2.2.2.2.2.1 s.2.2.2.2.2.2.2.2.2.2.1 s.2.2.2.2.2.2.2.2.2.2.2.1 s.2.2.2.2.2.2.2.2.2.2.2.2.1 s.2.2.2.2.2.2.2.2.2.2.2.2.2.1 s.2.2.2.2.2.2.2.2.2.2.2.2.2.2.1 s.2.2.2.2.2.2.2.2.2.2.2.2.2.2.2.1 s.2.2.2.2.2.2.2.2.2.2.2.2.2.2.2.2⟩
theorem CU:claim_Back_t.ok Tryz.prog 7:=FnT.ok_of (cfg:=⟨[],jB,[],az⟩) aT rT bI (fun s fn hf=>by rw[Tryz.func7]at hf;cases hf;kernel_rfl) (fun n s=>by kernel_rfl)
def claim_Back_T:Tab:=(7,claim_Back_t)::claim_Ends_T
theorem r7:claim_Back_T.ok Tryz.prog:=Tab.ok_cons CU rT
abbrev vY:=Bool
def E2(n:Nat)(v0 v1 v2 v3:Int):Option vY:=
 (bif 0<=v0 then(bif !(v0<=3)then some false else(bif 0<=v2 then(bif !(v2<=1000)then some false else(bif 0<=v3 then(bif !(v3<=10000000)then some false else(bif v0=0 then some (decide (v1=(-1)))else(bif 0<=v1 then(bif v1<=63 then some (decide (1<=v2))else some false)else some false)))else some false))else some false))else some false)
def zU(n:Nat)(v0 v1 v2 v3:Int):Option vY:=E2 n v0 v1 v2 v3
def life_Valid_t:FnT:=⟨[(true,[.int,.int,.int,.int])],.b,fun n (s:Int×Int×Int×Int)=>zU n s.1 s.2.1 s.2.2.1 s.2.2.2⟩
theorem C2:life_Valid_t.ok Tryz.prog 162:=FnT.ok_of (cfg:=⟨[],jB,[],az⟩) aT r7 bI (fun s fn hf=>by rw[Tryz.func162]at hf;cases hf;kernel_rfl) (fun n s=>by kernel_rfl)
def life_Valid_T:Tab:=(162,life_Valid_t)::claim_Back_T
theorem sx:life_Valid_T.ok Tryz.prog:=Tab.ok_cons C2 r7
abbrev vB:=Bool
def oC(n:Nat)(v0 v1 v2:Int):Option vB:=
 (bif 1<=v0 then(bif !(v0<=7)then some false else(bif 0<=v1 then(bif !(v1<=10000000)then some false else bif 0<=v0 then bif v0<8 then(bif(cB ((((((((([]:Lv)++[[(AV.int 0),(AV.int 0),(AV.bool false)]])++[[(AV.int 1),(AV.int 1),(AV.bool true)]])++[[(AV.int 2),(AV.int 1),(AV.bool true)]])++[[(AV.int 2),(AV.int 2),(AV.bool false)]])++[[(AV.int 4),(AV.int 1),(AV.bool false)]])++[[(AV.int 6),(AV.int 3),(AV.bool false)]])++[[(AV.int 8),(AV.int 1),(AV.bool false)]])++[[(AV.int 8),(AV.int 0),(AV.bool false)]]) v0 2)then(bif 0<=v2 then some (decide (v2<=63))else some false)else some (decide (v2=(-1))))else none else none)else some false))else some false)
def nK(n:Nat)(v0 v1 v2:Int):Option vB:=oC n v0 v1 v2
def life_Formed_t:FnT:=⟨[(true,[.int,.int,.int])],.b,fun n (s:Int×Int×Int)=>nK n s.1 s.2.1 s.2.2⟩
theorem BX:life_Formed_t.ok Tryz.prog 163:=FnT.ok_of (cfg:=⟨[],jB,[],az⟩) aT sx bI (fun s fn hf=>by rw[Tryz.func163]at hf;cases hf;kernel_rfl) (fun n s=>by kernel_rfl)
def life_Formed_T:Tab:=(163,life_Formed_t)::life_Valid_T
theorem rk:life_Formed_T.ok Tryz.prog:=Tab.ok_cons BX sx
abbrev gm:=Int×Int×Int×Int×Int
def sN(n:Nat)(v1 v2 v3 v4 v5 v6:Int):Option gm:=
 (bif(cB ((((((((([]:Lv)++[[(AV.int 0),(AV.int 0),(AV.bool false)]])++[[(AV.int 1),(AV.int 1),(AV.bool true)]])++[[(AV.int 2),(AV.int 1),(AV.bool true)]])++[[(AV.int 2),(AV.int 2),(AV.bool false)]])++[[(AV.int 4),(AV.int 1),(AV.bool false)]])++[[(AV.int 6),(AV.int 3),(AV.bool false)]])++[[(AV.int 8),(AV.int 1),(AV.bool false)]])++[[(AV.int 8),(AV.int 0),(AV.bool false)]]) v4 2)then(bif v2=1000 then some (0,0,0,0,140)else(bif v1=v6 then some (0,0,0,0,140)else(bif v4=7 then bif(-9223372036854775808<=(v5-v3))&&((v5-v3)<=9223372036854775807)then(bif (v5-v3)<2592000 then some (0,0,0,0,140)else bif(-9223372036854775808<=(v2+1))&&((v2+1)<=9223372036854775807)then(bif (cI ((((((((([]:Lv)++[[(AV.int 0),(AV.int 0),(AV.bool false)]])++[[(AV.int 1),(AV.int 1),(AV.bool true)]])++[[(AV.int 2),(AV.int 1),(AV.bool true)]])++[[(AV.int 2),(AV.int 2),(AV.bool false)]])++[[(AV.int 4),(AV.int 1),(AV.bool false)]])++[[(AV.int 6),(AV.int 3),(AV.bool false)]])++[[(AV.int 8),(AV.int 1),(AV.bool false)]])++[[(AV.int 8),(AV.int 0),(AV.bool false)]]) v4 1)=0 then some ((cI ((((((((([]:Lv)++[[(AV.int 0),(AV.int 0),(AV.bool false)]])++[[(AV.int 1),(AV.int 1),(AV.bool true)]])++[[(AV.int 2),(AV.int 1),(AV.bool true)]])++[[(AV.int 2),(AV.int 2),(AV.bool false)]])++[[(AV.int 4),(AV.int 1),(AV.bool false)]])++[[(AV.int 6),(AV.int 3),(AV.bool false)]])++[[(AV.int 8),(AV.int 1),(AV.bool false)]])++[[(AV.int 8),(AV.int 0),(AV.bool false)]]) v4 1),(-1),(v2+1),v5,0)else some ((cI ((((((((([]:Lv)++[[(AV.int 0),(AV.int 0),(AV.bool false)]])++[[(AV.int 1),(AV.int 1),(AV.bool true)]])++[[(AV.int 2),(AV.int 1),(AV.bool true)]])++[[(AV.int 2),(AV.int 2),(AV.bool false)]])++[[(AV.int 4),(AV.int 1),(AV.bool false)]])++[[(AV.int 6),(AV.int 3),(AV.bool false)]])++[[(AV.int 8),(AV.int 1),(AV.bool false)]])++[[(AV.int 8),(AV.int 0),(AV.bool false)]]) v4 1),v6,(v2+1),v5,0))else none)else none else bif(-9223372036854775808<=(v2+1))&&((v2+1)<=9223372036854775807)then(bif (cI ((((((((([]:Lv)++[[(AV.int 0),(AV.int 0),(AV.bool false)]])++[[(AV.int 1),(AV.int 1),(AV.bool true)]])++[[(AV.int 2),(AV.int 1),(AV.bool true)]])++[[(AV.int 2),(AV.int 2),(AV.bool false)]])++[[(AV.int 4),(AV.int 1),(AV.bool false)]])++[[(AV.int 6),(AV.int 3),(AV.bool false)]])++[[(AV.int 8),(AV.int 1),(AV.bool false)]])++[[(AV.int 8),(AV.int 0),(AV.bool false)]]) v4 1)=0 then some ((cI ((((((((([]:Lv)++[[(AV.int 0),(AV.int 0),(AV.bool false)]])++[[(AV.int 1),(AV.int 1),(AV.bool true)]])++[[(AV.int 2),(AV.int 1),(AV.bool true)]])++[[(AV.int 2),(AV.int 2),(AV.bool false)]])++[[(AV.int 4),(AV.int 1),(AV.bool false)]])++[[(AV.int 6),(AV.int 3),(AV.bool false)]])++[[(AV.int 8),(AV.int 1),(AV.bool false)]])++[[(AV.int 8),(AV.int 0),(AV.bool false)]]) v4 1),(-1),(v2+1),v5,0)else some ((cI ((((((((([]:Lv)++[[(AV.int 0),(AV.int 0),(AV.bool false)]])++[[(AV.int 1),(AV.int 1),(AV.bool true)]])++[[(AV.int 2),(AV.int 1),(AV.bool true)]])++[[(AV.int 2),(AV.int 2),(AV.bool false)]])++[[(AV.int 4),(AV.int 1),(AV.bool false)]])++[[(AV.int 6),(AV.int 3),(AV.bool false)]])++[[(AV.int 8),(AV.int 1),(AV.bool false)]])++[[(AV.int 8),(AV.int 0),(AV.bool false)]]) v4 1),v6,(v2+1),v5,0))else none)))else(bif v4=7 then bif(-9223372036854775808<=(v5-v3))&&((v5-v3)<=9223372036854775807)then(bif (v5-v3)<2592000 then some (0,0,0,0,140)else(bif (cI ((((((((([]:Lv)++[[(AV.int 0),(AV.int 0),(AV.bool false)]])++[[(AV.int 1),(AV.int 1),(AV.bool true)]])++[[(AV.int 2),(AV.int 1),(AV.bool true)]])++[[(AV.int 2),(AV.int 2),(AV.bool false)]])++[[(AV.int 4),(AV.int 1),(AV.bool false)]])++[[(AV.int 6),(AV.int 3),(AV.bool false)]])++[[(AV.int 8),(AV.int 1),(AV.bool false)]])++[[(AV.int 8),(AV.int 0),(AV.bool false)]]) v4 1)=0 then some ((cI ((((((((([]:Lv)++[[(AV.int 0),(AV.int 0),(AV.bool false)]])++[[(AV.int 1),(AV.int 1),(AV.bool true)]])++[[(AV.int 2),(AV.int 1),(AV.bool true)]])++[[(AV.int 2),(AV.int 2),(AV.bool false)]])++[[(AV.int 4),(AV.int 1),(AV.bool false)]])++[[(AV.int 6),(AV.int 3),(AV.bool false)]])++[[(AV.int 8),(AV.int 1),(AV.bool false)]])++[[(AV.int 8),(AV.int 0),(AV.bool false)]]) v4 1),(-1),v2,v5,0)else some ((cI ((((((((([]:Lv)++[[(AV.int 0),(AV.int 0),(AV.bool false)]])++[[(AV.int 1),(AV.int 1),(AV.bool true)]])++[[(AV.int 2),(AV.int 1),(AV.bool true)]])++[[(AV.int 2),(AV.int 2),(AV.bool false)]])++[[(AV.int 4),(AV.int 1),(AV.bool false)]])++[[(AV.int 6),(AV.int 3),(AV.bool false)]])++[[(AV.int 8),(AV.int 1),(AV.bool false)]])++[[(AV.int 8),(AV.int 0),(AV.bool false)]]) v4 1),v1,v2,v5,0)))else none else(bif (cI ((((((((([]:Lv)++[[(AV.int 0),(AV.int 0),(AV.bool false)]])++[[(AV.int 1),(AV.int 1),(AV.bool true)]])++[[(AV.int 2),(AV.int 1),(AV.bool true)]])++[[(AV.int 2),(AV.int 2),(AV.bool false)]])++[[(AV.int 4),(AV.int 1),(AV.bool false)]])++[[(AV.int 6),(AV.int 3),(AV.bool false)]])++[[(AV.int 8),(AV.int 1),(AV.bool false)]])++[[(AV.int 8),(AV.int 0),(AV.bool false)]]) v4 1)=0 then some ((cI ((((((((([]:Lv)++[[(AV.int 0),(AV.int 0),(AV.bool false)]])++[[(AV.int 1),(AV.int 1),(AV.bool true)]])++[[(AV.int 2),(AV.int 1),(AV.bool true)]])++[[(AV.int 2),(AV.int 2),(AV.bool false)]])++[[(AV.int 4),(AV.int 1),(AV.bool false)]])++[[(AV.int 6),(AV.int 3),(AV.bool false)]])++[[(AV.int 8),(AV.int 1),(AV.bool false)]])++[[(AV.int 8),(AV.int 0),(AV.bool false)]]) v4 1),(-1),v2,v5,0)else some ((cI ((((((((([]:Lv)++[[(AV.int 0),(AV.int 0),(AV.bool false)]])++[[(AV.int 1),(AV.int 1),(AV.bool true)]])++[[(AV.int 2),(AV.int 1),(AV.bool true)]])++[[(AV.int 2),(AV.int 2),(AV.bool false)]])++[[(AV.int 4),(AV.int 1),(AV.bool false)]])++[[(AV.int 6),(AV.int 3),(AV.bool false)]])++[[(AV.int 8),(AV.int 1),(AV.bool false)]])++[[(AV.int 8),(AV.int 0),(AV.bool false)]]) v4 1),v1,v2,v5,0))))
def F0(n:Nat)(v0 v1 v2 v3 v4 v5 v6:Int):Option gm:=
 (bif (IOp.f .and (IOp.f .shr (cI ((((((((([]:Lv)++[[(AV.int 0),(AV.int 0),(AV.bool false)]])++[[(AV.int 1),(AV.int 1),(AV.bool true)]])++[[(AV.int 2),(AV.int 1),(AV.bool true)]])++[[(AV.int 2),(AV.int 2),(AV.bool false)]])++[[(AV.int 4),(AV.int 1),(AV.bool false)]])++[[(AV.int 6),(AV.int 3),(AV.bool false)]])++[[(AV.int 8),(AV.int 1),(AV.bool false)]])++[[(AV.int 8),(AV.int 0),(AV.bool false)]]) v4 0) v0) 1)=0 then some (0,0,0,0,140)else sN n v1 v2 v3 v4 v5 v6)
def Gb(n:Nat)(v0 v1 v2 v3 v4 v5 v6:Int):Option gm:=
 (bif v5<v3 then some (0,0,0,0,140)else bif 0<=v4 then bif v4<8 then bif 0<=v0 then F0 n v0 v1 v2 v3 v4 v5 v6 else none else none else none)
def x7(n:Nat)(v0 v1 v2 v3 v4 v5 v6:Int)(v8:Bool):Option gm:=
 (bif(!v8)then some (0,0,0,0,140)else Gb n v0 v1 v2 v3 v4 v5 v6)
def F6(n:Nat)(v0 v1 v2 v3 v4 v5 v6:Int)(v7:Bool):Option gm:=
 (bif(!v7)then some (0,0,0,0,140)else(nK n v4 v5 v6).bind fun y8=>
 x7 n v0 v1 v2 v3 v4 v5 v6 y8)
def FW(n:Nat)(v0 v1 v2 v3 v4 v5 v6:Int):Option gm:=
 (zU n v0 v1 v2 v3).bind fun y7=>
 F6 n v0 v1 v2 v3 v4 v5 v6 y7
def su(n:Nat)(v0 v1 v2 v3 v4 v5 v6:Int):Option gm:=FW n v0 v1 v2 v3 v4 v5 v6
def life_Step_t:FnT:=⟨[(true,[.int,.int,.int,.int]),(true,[.int,.int,.int])],(.tup (.cons (.agg (.cons .i (.cons .i (.cons .i (.cons .i .nil))))) (.cons .i .nil))),fun n (s:Int×Int×Int×Int×Int×Int×Int)=>su n s.1 s.2.1 s.2.2.1 s.2.2.2.1 s.2.2.2.2.1 s.2.2.2.2.2.1 s.2.2.2.2.2.2⟩
theorem Ed:life_Step_t.ok Tryz.prog 141:=FnT.ok_of (cfg:=⟨[],jB,[],az⟩) aT rk bI (fun s fn hf=>by rw[Tryz.func141]at hf;cases hf;kernel_rfl) (fun n s=>by kernel_rfl)
def life_Step_T:Tab:=(141,life_Step_t)::life_Formed_T
theorem tx:life_Step_T.ok Tryz.prog:=Tab.ok_cons Ed rk
abbrev pz:=Int×Int×Int×Int×Int×Int
abbrev nO:=Int×Int×Int×Int×Int×Int×Int×Int×Int×Int
def AP(n:Nat)(go0:nO->Option pz)(v0:Lv)(v1 v2 v3 v4 v5 v6 v7 v8 v9 v10:Int):Option pz:=
 (bif v1<((M9 ((b9 (v0.length:Int) 40)).toNat v0).length:Int) then bif 0<=v1 then(su n v7 v8 v9 v10 (cI (M9 ((b9 (v0.length:Int) 40)).toNat v0) v1 0) (cI (M9 ((b9 (v0.length:Int) 40)).toNat v0) v1 1) (cI (M9 ((b9 (v0.length:Int) 40)).toNat v0) v1 2)).bind fun y11=>
 (bif !(y11.2.2.2.2=0)then(bif v2<(v0.length:Int) then some (0,0,0,0,v2,140)else some (v3,v4,v5,v6,v2,0))else bif(-9223372036854775808<=(v1+1))&&((v1+1)<=9223372036854775807)then go0 ((v1+1),(v1+1),y11.1,y11.2.1,y11.2.2.1,y11.2.2.2.1,y11.1,y11.2.1,y11.2.2.1,y11.2.2.2.1)else none)else none else(bif v2<(v0.length:Int) then some (0,0,0,0,v2,140)else some (v3,v4,v5,v6,v2,0)))
def Hq(n:Nat)(v0:Lv):Option pz:=
 bif 0<=(b9 (v0.length:Int) 40) then bif (b9 (v0.length:Int) 40)<=(v0.length:Int) then(af (fun go0 s=>AP n go0 v0 s.1 s.2.1 s.2.2.1 s.2.2.2.1 s.2.2.2.2.1 s.2.2.2.2.2.1 s.2.2.2.2.2.2.1 s.2.2.2.2.2.2.2.1 s.2.2.2.2.2.2.2.2.1 s.2.2.2.2.2.2.2.2.2) n ((0,0,0,(-1),0,0,0,(-1),0,0):nO))else none else none
def nb(n:Nat)(v0:Lv):Option pz:=Hq n v0
def life_Run_t:FnT:=⟨[(false,[tSc])],(.tup (.cons (.agg (.cons .i (.cons .i (.cons .i (.cons .i .nil))))) (.cons .i (.cons .i .nil)))),fun n (s:Lv)=>nb n s⟩
theorem Gf:life_Run_t.ok Tryz.prog 60:=FnT.ok_of (cfg:=⟨[((140,3,13),.inv [(.tmp 15 .int),(.cell 1 0 .int),(.cell 2 0 .int),(.cell 2 1 .int),(.cell 2 2 .int),(.cell 2 3 .int),(.cell 7 0 .int),(.cell 7 1 .int),(.cell 7 2 .int),(.cell 7 3 .int)])],jB,[],az⟩) aT tx bI (fun s fn hf=>by rw[Tryz.func60]at hf;cases hf;kernel_rfl) (fun n s=>by kernel_rfl)
def life_Run_T:Tab:=(60,life_Run_t)::life_Step_T
theorem vA:life_Run_T.ok Tryz.prog:=Tab.ok_cons Gf tx
abbrev oo:=Int×Int×Int×Int×Bool
abbrev uB:=Int×Int
def Cl(n:Nat)(go0:uB->Option oo)(v0:Lv)(v1 v8 v9:Int):Option oo:=
 (bif v8<v9 then bif(-9223372036854775808<=(v8+v9))&&((v8+v9)<=9223372036854775807)then bif 0<=(IntKind.wrap .i64 (aa .shr .u64 (IntKind.wrap .u64 (v8+v9)) 1)) then bif (IntKind.wrap .i64 (aa .shr .u64 (IntKind.wrap .u64 (v8+v9)) 1))<(v0.length:Int) then(bif !(v1<(cI v0 (IntKind.wrap .i64 (aa .shr .u64 (IntKind.wrap .u64 (v8+v9)) 1)) 1))then bif(-9223372036854775808<=((IntKind.wrap .i64 (aa .shr .u64 (IntKind.wrap .u64 (v8+v9)) 1))+1))&&(((IntKind.wrap .i64 (aa .shr .u64 (IntKind.wrap .u64 (v8+v9)) 1))+1)<=9223372036854775807)then go0 (((IntKind.wrap .i64 (aa .shr .u64 (IntKind.wrap .u64 (v8+v9)) 1))+1),v9)else none else go0 (v8,(IntKind.wrap .i64 (aa .shr .u64 (IntKind.wrap .u64 (v8+v9)) 1))))else none else none else none else bif 0<=v8 then bif v8<=(v0.length:Int) then(nb n (M9 (v8).toNat v0)).bind fun y10=>
 some (y10.1,y10.2.1,y10.2.2.1,y10.2.2.2.1,true)else none else none)
def wB(n:Nat)(v0:Lv)(v1:Int):Option oo:=
 (nb n v0).bind fun y2=>
 (bif !(y2.2.2.2.2.2=0)then some (0,0,0,0,false)else(bif 0<=v1 then(bif !(v1<=10000000)then some (0,0,0,0,false)else(af (fun go0 s=>Cl n go0 v0 v1 s.1 s.2) n ((0,(v0.length:Int)):uB)))else some (0,0,0,0,false)))
def xE(n:Nat)(v0:Lv)(v1:Int):Option oo:=wB n v0 v1
def life_at_t:FnT:=⟨[(false,[tSc]),(false,[.int])],(.tup (.cons (.agg (.cons .i (.cons .i (.cons .i (.cons .i .nil))))) (.cons .b .nil))),fun n (s:Lv×Int)=>xE n s.1 s.2⟩
theorem Ha:life_at_t.ok Tryz.prog 113:=FnT.ok_of (cfg:=⟨[((149,2,5),.inv [(.tmp 5 .int),(.tmp 6 .int)])],jB,[],az⟩) aT vA bI (fun s fn hf=>by rw[Tryz.func113]at hf;cases hf;kernel_rfl) (fun n s=>by kernel_rfl)
def life_at_T:Tab:=(113,life_at_t)::life_Run_T
theorem wg:life_at_T.ok Tryz.prog:=Tab.ok_cons Ha vA
abbrev Ck:=Int×Int×Int×Int×Int
def I1(n:Nat)(v0:Lv)(v1:Int):Option Ck:=
 (xE n v0 v1).bind fun y2=>
 (bif(!y2.2.2.2.2)then some (0,0,0,0,140)else some (y2.1,y2.2.1,y2.2.2.1,y2.2.2.2.1,0))
def lQ(n:Nat)(v0:Lv)(v1:Int):Option Ck:=I1 n v0 v1
def life_At_t:FnT:=⟨[(false,[tSc]),(false,[.int])],(.tup (.cons (.agg (.cons .i (.cons .i (.cons .i (.cons .i .nil))))) (.cons .i .nil))),fun n (s:Lv×Int)=>lQ n s.1 s.2⟩
theorem G7:life_At_t.ok Tryz.prog 67:=FnT.ok_of (cfg:=⟨[],jB,[],az⟩) aT wg bI (fun s fn hf=>by rw[Tryz.func67]at hf;cases hf;kernel_rfl) (fun n s=>by kernel_rfl)
def life_At_T:Tab:=(67,life_At_t)::life_at_T
theorem wn:life_At_T.ok Tryz.prog:=Tab.ok_cons G7 wg
end
open Go.RowKit Go.Dial
def mtE:MTab:=[(166,SV.of [.agg (SV.of [.vi (.int 1),.vi (.int 1)]),.agg (SV.of [.vi (.int 2),.vi (.int 1)]),.agg (SV.of [.vi (.int 3),.vi (.int 2)]),.agg (SV.of [.vi (.int 4),.vi (.int 2)]),.agg (SV.of [.vi (.int 5),.vi (.int 1)]),.agg (SV.of [.vi (.int 5),.vi (.int 2)]),.agg (SV.of [.vi (.int 5),.vi (.int 3)]),.agg (SV.of [.vi (.int 6),.vi (.int 4)])],SV.of [.vi (.int 3),.vi (.int 2),.vi (.int 3),.vi (.int 6),.vi (.int 7),.vi (.int 7),.vi (.int 7),.vi (.int 8)])]
def effTbl:List (Int×Int×Int):=[(1,1,3),(2,1,2),(3,2,3),(4,2,6),(5,1,7),(5,2,7),(5,3,7),(6,4,8)]
def gr(k s:Int):Value:=.agg #[.int .i64 k,.int .i64 s]
theorem II{P:Program}{md:Region.Mode}{ops:Array Oper}{Q:Exit->Act->World->Prop}(J:Array Bool->Act->World->Prop)
  (hz:∀l a w,J l a w->l.size=ops.size)
  (hs:∀l a w i,J l a w->i∈Region.ready md ops l->wpOp P ops Q i (J (l.setIfInBounds i true)) a w)
  (he:∀l a w,J l a w->Region.ready md ops l=[]->Q .normal a w):
  ∀(fuel:Nat) (l:Array Bool) (a:Act) (w:World),J l a w->(l.toList.filter fun b=> !b).length<=fuel->wpAny P md ops Q fuel l a w:=by
 have none_left:∀l:Array Bool,(l.toList.filter fun b=> !b).length=0->Region.ready md ops l=[]:=fun l hl=>by
  unfold Region.ready;rw[List.filter_eq_nil_iff];intro i _ hi;rw[Nk]at hi;have h1:=hi.1;cases hc:l[i]? with
  |none=>simp[hc]at h1
  |some b=>
   have:b=false:=by simpa[hc]using h1
   subst this;have hm:false∈l.toList.filter fun b=> !b:=List.mem_filter.2 ⟨by simpa using Array.mem_of_getElem? hc,rfl⟩
   rw[List.length_eq_zero_iff.1 hl]at hm;cases hm
 have less:∀(l:List Bool) (i:Nat),l[i]?=some false->((l.set i true).filter fun b=> !b).length+1=(l.filter fun b=> !b).length:=by
  intro l;induction l with
  |nil=>intro i h;simp at h
  | cons b l ih=>
   intro i h;cases i with
   |zero=>cases h;simp
   |succ i=>
    have:=ih i h
    cases b<;>simp[List.filter_cons]at this⊢<;>omega
 intro fuel;induction fuel with
 |zero=>
  intro l a w hJ hl;exact⟨none_left l (by omega),he l a w hJ (none_left l (by omega))⟩
 | succ fuel ih=>
  intro l a w hJ hl;refine⟨fun h=>he l a w hJ h,fun i hi=>?_⟩
  have h1:l[i]?=some false:=by
   unfold Region.ready at hi;rw[Np,Nk]at hi;have h1:=hi.2.1;cases hc:l[i]? with
   |none=>simp[hc]at h1
   |some b=>cases b<;>simp[hc]at h1⊢
  have hf:((l.setIfInBounds i true).toList.filter fun b=> !b).length<=fuel:=by
   have:=less l.toList i (by simpa using h1)
   rw[Array.toList_setIfInBounds];omega
  exact wpOp_mono (fun a w h=>ih _ a w h hf) (hs l a w i hJ hi)
structure JE (w0:World) (l:Array Bool) (a:Act) (w:World):Prop where
 sz:l.size=19
 ts:a.tmps.size=11
 df:a.defers=[]
 below:Below w0.heap.size w0 w
 m:l[0]?=some true->∃r es c,a.tmps[1]?=some (.map (some r))/\w0.heap.size<=r/\w.heap[r]?=some (.map es c) ∧
  (∀(j:Nat) k s v,effTbl[j]?=some (k,s,v)->l[2*j+2]?=some true->∃e∈es.toList,e.key=gr k s/\e.val=.int .i64 v) ∧
  (∀e∈es.toList,∃(j:Nat) (k s v:Int),effTbl[j]?=some (k,s,v)/\l[2*j+2]?=some true/\e.key=gr k s/\e.val=.int .i64 v)
 b:∀(j:Nat) k s v,effTbl[j]?=some (k,s,v)->l[2*j+1]?=some true->a.tmps[j+2]?=some (gr k s)
 n:∀(j:Nat),j<8->l[2*j+2]?=some true->l[0]?=some true
 o17:l[17]?=some true->l[0]?=some true/\a.tmps[10]?=a.tmps[1]?
 o18:l[18]?=some true->l[17]?=some true/\a.tmps[0]?=a.tmps[10]?
noncomputable def opsE:Array Oper:=match Tryz.f166.body with
 |some (.seq _ (.seq (.region _ ops _) _))=>ops
 |_=>#[]
theorem MF:Tryz.f166.body=some (.seq (.region 0 #[{ dst:=some 0,op:=.assign (.const (.map none)),type:=262,pos := "claim.go:76",after:=#[],guard:=none }] false) (.seq (.region 1 opsE true) .ret)):=by kernel_rfl
theorem Bd:opsE.size=19:=by kernel_rfl
theorem tyE:Tryz.prog.underlying 262=some (.map 287 ((Tryz.prog.underlying 262).elim 0 fun|.map _ e=>e|_=>0)):=by kernel_rfl
theorem Ke(k s:Int):fM Tryz.prog 287 (gr k s):=by
 have h:nL Tryz.prog 287 (.agg (SV.of [.vi (.int k),.vi (.int s)]))=true:=by kernel_rfl
 exact ni (env:=[]) (κ:=fun _=>undef) (F:=fun _=>False) (w:=default) h ⟨#[.int .i64 k,.int .i64 s],rfl,rfl,⟨_,[.int .i64 s],rfl,⟨rfl,rfl⟩,⟨_,[],rfl,⟨rfl,rfl⟩,rfl⟩⟩⟩
theorem zS(l:Array Bool)(i:Nat)(h:i∈Region.ready .any opsE l):i<19/\l[i]?=some false/\∀o,opsE[i]?=some o->∀e∈o.after,Region.binds .any e=true->l[e.on]?=some true:=by
 unfold Region.ready at h;rw[Np,Nk,Nv,Bd]at h;obtain⟨h1,h2,h3⟩:=h;refine⟨h1,?_,fun o ho e he hb=>?_⟩
 ·cases hc:l[i]? with
  |none=>simp[hc]at h2
  |some b=>cases b<;>simp[hc]at h2⊢
 ·rw[ho]at h3
  simp only[Nt,Nr,Nl]at h3;have:=h3 e he
  rw[hb]at this;cases hc:l[e.on]? with
  |none=>simp[hc]at this
  |some b=>cases b<;>simp[hc]at this⊢
theorem Bc{i:Nat}{x:Op×Option Tmp×Option (Nat×Bool)×List Edge}{q:Nat}(h:(opsE[i]?).map (fun o=>(o.op,o.dst,o.guard,o.after.toList.take q))=some x):∃o,opsE[i]?=some o/\o.op=x.1/\o.dst=x.2.1/\o.guard=x.2.2.1/\∀e∈x.2.2.2,e∈o.after:=by
 obtain⟨o,h1,rfl⟩:=Option.map_eq_some_iff.1 h;exact⟨o,h1,rfl,rfl,rfl,fun e he=>by simpa using List.mem_of_mem_take he⟩
theorem op0:(opsE[0]?).map (fun o=>(o.op,o.dst,o.guard,o.after.toList.take 0))=some (.makeMap 262 none,some 1,none,[]):=by kernel_rfl
theorem opB(j:Nat)(k s v:Int)(h:effTbl[j]?=some (k,s,v)):(opsE[2*j+1]?).map (fun o=>(o.op,o.dst,o.guard,o.after.toList.take 0))=some (.build 287 #[(0,.const (.int .i64 k)),(1,.const (.int .i64 s))],some (j+2),none,[]):=by
 have hj:j<8:=(List.getElem?_eq_some_iff.1 h).1
 have:j=0\/j=1\/j=2\/j=3\/j=4\/j=5\/j=6\/j=7:=by omega
 rcases this with rfl|rfl|rfl|rfl|rfl|rfl|rfl|rfl<;>(simp only[effTbl,Nn,No,Option.some.injEq,Prod.mk.injEq]at h;obtain⟨rfl,rfl,rfl⟩:=h)
 all_goals (show _=_;kernel_rfl)
theorem opI(j:Nat)(k s v:Int)(h:effTbl[j]?=some (k,s,v)):(opsE[2*j+2]?).map (fun o=>(o.op,o.dst,o.guard,o.after.toList.take 2))=some (.insert 262 (.tmp 1) (.tmp (j+2)) (.const (.int .i64 v)),none,none,[{ on:=0,ground:=.data },{ on:=2*j+1,ground:=.data }]):=by
 have hj:j<8:=(List.getElem?_eq_some_iff.1 h).1
 have:j=0\/j=1\/j=2\/j=3\/j=4\/j=5\/j=6\/j=7:=by omega
 rcases this with rfl|rfl|rfl|rfl|rfl|rfl|rfl|rfl<;>(simp only[effTbl,Nn,No,Option.some.injEq,Prod.mk.injEq]at h;obtain⟨rfl,rfl,rfl⟩:=h)
 all_goals (show _=_;kernel_rfl)
theorem M7:(opsE[17]?).map (fun o=>(o.op,o.dst,o.guard,o.after.toList.take 1))=some (.move (.tmp 1),some 10,none,[{ on:=0,ground:=.data }]):=by kernel_rfl
theorem MZ:(opsE[18]?).map (fun o=>(o.op,o.dst,o.guard,o.after.toList.take 1))=some (.assign (.tmp 10),some 0,none,[{ on:=17,ground:=.data }]):=by kernel_rfl
theorem Mb(k s:Int):Tryz.prog.built 287 [(0,.int .i64 k),(1,.int .i64 s)]=some #[.int .i64 k,.int .i64 s]:=by kernel_rfl
theorem nA{P:Program}{ops:Array Oper}{Q:Exit->Act->World->Prop}{i:Nat}{o:Oper}{a:Act}{w w':World}{u:Value}{K:Act->World->Prop}(ho:ops[i]?=some o)(hg:o.guard=none)(hr:bL P o a w u w')(hk:K (a.put o.dst u) w'):wpOp P ops Q i K a w:=by
 unfold wpOp;rw[ho];simp only
 have hw:Region.wanted o (yielded ops a.tmps)=true:=by unfold Region.wanted;rw[hg]
 rw[if_pos hw];left
 unfold Oper.wp;rcases hr with h|⟨rfl,h⟩<;>rw[h]<;>exact hk
theorem A9{a:Act}{d:Nat}{v:Value}(hd:d<a.tmps.size):(a.put (some d) v).tmps[d]?=some v:=by
 simp[Act.put,hd]
theorem fp{a:Act}{d x:Nat}{v:Value}(h:d≠x):(a.put (some d) v).tmps[x]?=a.tmps[x]?:=by
 simp[Act.put,Nm,h]
theorem ww{a:Act}{d:Option Nat}{v:Value}:(a.put d v).tmps.size=a.tmps.size:=by
 cases d<;>simp[Act.put]
theorem wO{a:Act}{d:Option Nat}{v:Value}:(a.put d v).defers=a.defers:=by
 cases d<;>simp[Act.put]
theorem JX{l:Array Bool}{i:Nat}(h:i<l.size):(l.setIfInBounds i true)[i]?=some true:=by simp[h]
theorem bH{l:Array Bool}{i x:Nat}(h:i≠x):(l.setIfInBounds i true)[x]?=l[x]?:=by simp[Nm,h]
theorem uY{a:Act}{d:Nat}{v:Value}(h:a.tmps[d]?=some v):a.eval (.tmp d)=v:=by
 simp[Act.eval,h]
theorem lt8{j:Nat}{x:Int×Int×Int}(h:effTbl[j]?=some x):j<8:=(List.getElem?_eq_some_iff.1 h).1
section
variable {w0:World} {l:Array Bool} {a:Act} {w:World} {Q:Exit->Act->World->Prop}
theorem Ms(h:JE w0 l a w){j:Nat}{k s v:Int}(hj:effTbl[j]?=some (k,s,v))(hi:2*j+1∈Region.ready .any opsE l):wpOp Tryz.prog opsE Q (2*j+1) (JE w0 (l.setIfInBounds (2*j+1) true)) a w:=by
 obtain⟨o,ho,h1,h2,h3,_⟩:=Bc (opB j k s v hj);have hj8:j<8:=(List.getElem?_eq_some_iff.1 hj).1
 refine nA (u:=gr k s) (w':=w) ho h3 (.inl ?_) ?_
 ·have hrun:=run_build (P:=Tryz.prog) w 287 [(0,.int .i64 k),(1,.int .i64 s)].toArray _ (Mb k s)
  simp only[execOp,h1];rw[Sem.run_bind];have hmap:Array.map (fun x=>(x.fst,a.eval x.snd)) #[(0,Operand.const (Value.int .i64 k)),(1,Operand.const (Value.int .i64 s))]=#[(0,Value.int .i64 k),(1,Value.int .i64 s)]:=by simp[Act.eval]
  have hrun':Sem.run Tryz.prog (Instr.build 287 #[(0,Value.int .i64 k),(1,Value.int .i64 s)]) w=.ok (gr k s) w:=hrun
  rw[hmap,hrun',Result.andThen_ok,Sem.run_pure]
 ·rw[h2]
  have hs:=h.sz;have ht:=h.ts;refine⟨by simpa using hs,by rw[ww];exact ht,by rw[wO];exact h.df,h.below,fun h0=>?_,fun j' k' s' v' hj' hl=>?_,fun j' hj' hl=>?_,fun h17=>?_,fun h18=>?_⟩
  ·rw[bH (by omega)]at h0
   obtain⟨r,es,c,q1,q2,q3,q4,q5⟩:=h.m h0;refine⟨r,es,c,by rw[fp (by omega)];exact q1,q2,q3,fun j' k' s' v' hj' hl=>?_,fun e he=>?_⟩
   ·rw[bH (by omega)]at hl;exact q4 j' k' s' v' hj' hl
   ·obtain⟨j',k',s',v',e1,e2,e3⟩:=q5 e he
    exact⟨j',k',s',v',e1,by rw[bH (by omega)];exact e2,e3⟩
  ·by_cases e:j'=j
   ·subst e
    rw[hj]at hj';cases hj'
    exact A9 (by omega)
   ·rw[bH (by omega)]at hl
    rw[fp (by omega)]
    exact h.b j' k' s' v' hj' hl
  ·rw[bH (by omega)]at hl⊢;exact h.n j' hj' hl
  ·rw[bH (by omega)]at h17
   rw[bH (by omega),fp (by omega),fp (by omega)];exact h.o17 h17
  ·rw[bH (by omega)]at h18
   rw[bH (by omega),fp (by omega),fp (by omega)];exact h.o18 h18
theorem MI(h:JE w0 l a w)(hi:0∈Region.ready .any opsE l):wpOp Tryz.prog opsE Q 0 (JE w0 (l.setIfInBounds 0 true)) a w:=by
 obtain⟨o,ho,h1,h2,h3,_⟩:=Bc op0;obtain⟨_,hl0,_⟩:=zS l 0 hi;refine nA (u:=.map (some w.heap.size)) (w':=w.alloc (.map #[] 0)) ho h3 (.inl ?_) ?_
 ·simp[execOp,h1,Instr.makeMap]
 ·rw[h2]
  have hs:=h.sz;have ht:=h.ts;have no:∀j,j<8->l[2*j+2]?≠some true:=fun j hj hl=>by
   have:=h.n j hj hl
   rw[hl0]at this;cases this
  refine⟨by simpa using hs,by rw[ww];exact ht,by rw[wO];exact h.df,h.below.alloc h.below.size _,fun h0=>?_,fun j' k' s' v' hj' hl=>?_,fun j' hj' hl=>?_,fun h17=>?_,fun h18=>?_⟩
  ·refine⟨w.heap.size,#[],0,A9 (by omega),h.below.size,World.alloc_heap_new _ _,fun j' k' s' v' hj' hl=>?_,fun e he=>by simp at he⟩
   rw[bH (by omega)]at hl
   exact absurd hl (no j' (List.getElem?_eq_some_iff.1 hj').1)
  ·rw[bH (by omega)]at hl
   rw[fp (by omega)]
   exact h.b j' k' s' v' hj' hl
  ·rw[bH (by omega)]at hl
   exact absurd hl (no j' hj')
  ·rw[bH (by omega)]at h17
   have:=(h.o17 h17).1
   rw[hl0]at this;cases this
  ·rw[bH (by omega)]at h18
   have:=(h.o17 (h.o18 h18).1).1
   rw[hl0]at this;cases this
theorem LA(h:JE w0 l a w)(hi:17∈Region.ready .any opsE l):wpOp Tryz.prog opsE Q 17 (JE w0 (l.setIfInBounds 17 true)) a w:=by
 obtain⟨o,ho,h1,h2,h3,h4⟩:=Bc M7;obtain⟨_,hl0,hd⟩:=zS l 17 hi;have h0:l[0]?=some true:=hd o ho _ (h4 _ (Nh ..)) rfl
 obtain⟨r,es,c,q1,q2,q3,q4,q5⟩:=h.m h0;refine nA (u:=.map (some r)) (w':=w) ho h3 (.inl ?_) ?_
 ·simp[execOp,h1,uY q1]
 ·rw[h2]
  have hs:=h.sz;have ht:=h.ts;refine⟨by simpa using hs,by rw[ww];exact ht,by rw[wO];exact h.df,h.below,fun _=>?_,fun j' k' s' v' hj' hl=>?_,fun j' hj' hl=>?_,fun h17=>?_,fun h18=>?_⟩
  ·refine⟨r,es,c,by rw[fp (by omega)];exact q1,q2,q3,fun j' k' s' v' hj' hl=>?_,fun e he=>?_⟩
   ·have:=lt8 hj'
    rw[bH (by omega)]at hl;exact q4 j' k' s' v' hj' hl
   ·obtain⟨j',k',s',v',e1,e2,e3⟩:=q5 e he
    exact⟨j',k',s',v',e1,by rw[bH (by omega)];exact e2,e3⟩
  ·have hj8:j'<8:=(List.getElem?_eq_some_iff.1 hj').1
   rw[bH (by omega)]at hl
   rw[fp (by omega)]
   exact h.b j' k' s' v' hj' hl
  ·rw[bH (by omega)]at hl⊢;exact h.n j' hj' hl
  ·exact⟨by rw[bH (by omega)];exact h0,by rw[A9 (by omega),fp (by omega)];exact q1.symm⟩
  ·rw[bH (by omega)]at h18
   have:=(h.o18 h18).1
   rw[hl0]at this;cases this
theorem LR(h:JE w0 l a w)(hi:18∈Region.ready .any opsE l):wpOp Tryz.prog opsE Q 18 (JE w0 (l.setIfInBounds 18 true)) a w:=by
 obtain⟨o,ho,h1,h2,h3,h4⟩:=Bc MZ;obtain⟨_,hl0,hd⟩:=zS l 18 hi;have h17:l[17]?=some true:=hd o ho _ (h4 _ (Nh ..)) rfl
 obtain⟨h0,h10⟩:=h.o17 h17;obtain⟨r,es,c,q1,q2,q3,q4,q5⟩:=h.m h0;refine nA (u:=.map (some r)) (w':=w) ho h3 (.inl ?_) ?_
 ·simp[execOp,h1,uY (h10.trans q1)]
 ·rw[h2]
  have hs:=h.sz;have ht:=h.ts;refine⟨by simpa using hs,by rw[ww];exact ht,by rw[wO];exact h.df,h.below,fun _=>?_,fun j' k' s' v' hj' hl=>?_,fun j' hj' hl=>?_,fun h17=>?_,fun h18=>?_⟩
  ·refine⟨r,es,c,by rw[fp (by omega)];exact q1,q2,q3,fun j' k' s' v' hj' hl=>?_,fun e he=>?_⟩
   ·have:=lt8 hj'
    rw[bH (by omega)]at hl;exact q4 j' k' s' v' hj' hl
   ·obtain⟨j',k',s',v',e1,e2,e3⟩:=q5 e he
    have:=lt8 e1
    exact⟨j',k',s',v',e1,by rw[bH (by omega)];exact e2,e3⟩
  ·have hj8:j'<8:=(List.getElem?_eq_some_iff.1 hj').1
   rw[bH (by omega)]at hl
   rw[fp (by omega)]
   exact h.b j' k' s' v' hj' hl
  ·rw[bH (by omega)]at hl⊢;exact h.n j' hj' hl
  ·exact⟨by rw[bH (by omega)];exact h0,by rw[fp (by omega),fp (by omega)];exact h10⟩
  ·exact⟨by rw[bH (by omega)];exact h17,by rw[A9 (by omega),fp (by omega),h10];exact q1.symm⟩
theorem Gl{j j':Nat}{k s v v':Int}(h:effTbl[j]?=some (k,s,v))(h':effTbl[j']?=some (k,s,v')):j=j':=by
 have e:∀i:Nat,i<8->∀i':Nat,i'<8->(effTbl[i]?).map (fun x=>(x.1,x.2.1))=(effTbl[i']?).map (fun x=>(x.1,x.2.1))->i=i':=by decide
 exact e j (List.getElem?_eq_some_iff.1 h).1 j' (List.getElem?_eq_some_iff.1 h').1 (by rw[h,h'];rfl)
theorem DJ{k s k' s':Int}(h:gr k s=gr k' s'):k=k'/\s=s':=by
 unfold gr at h;simpa using h
theorem My(h:JE w0 l a w){j:Nat}{k s v:Int}(hj:effTbl[j]?=some (k,s,v))(hi:2*j+2∈Region.ready .any opsE l):wpOp Tryz.prog opsE Q (2*j+2) (JE w0 (l.setIfInBounds (2*j+2) true)) a w:=by
 obtain⟨o,ho,h1,h2,h3,h4⟩:=Bc (opI j k s v hj);have hj8:j<8:=(List.getElem?_eq_some_iff.1 hj).1
 obtain⟨_,hl0,hd⟩:=zS l _ hi;have h0:l[0]?=some true:=hd o ho _ (h4 _ (Nh ..)) rfl
 have hb:l[2*j+1]?=some true:=hd o ho _ (h4 _ (List.mem_cons_of_mem _ (Nh ..))) rfl
 obtain⟨r,es,c,q1,q2,q3,q4,q5⟩:=h.m h0;have hk:=h.b j k s v hj hb;have hkes:∀e∈es.toList,fM Tryz.prog 287 e.key:=fun e he=>by
  obtain⟨j',k',s',v',_,_,e3,_⟩:=q5 e he;rw[e3];exact Ke _ _
 obtain⟨fr,f1,f2⟩:=yN (w:=w) (Ke k s) es.toList hkes
 have hno:∀e∈es.toList,e.key≠gr k s:=fun e he hh=>by
  obtain⟨j',k',s',v',e1,e2,e3,_⟩:=q5 e he;rw[e3]at hh;obtain⟨rfl,rfl⟩:=DJ hh;have:=Gl hj e1
  subst this;rw[hl0]at e2;cases e2
 have hfr:fr=none:=by
  rcases f2 with⟨f2,_⟩|⟨i,e,he,f3,_⟩
  ·exact f2
  ·exact absurd f3 (hno e he)
 subst hfr;obtain⟨W,hW⟩:∃W,W={ w with heap:=w.heap.setIfInBounds r (.map (es.push { key:=gr k s,val:=.int .i64 v,born:=c }) (c+1)) }:=⟨_,rfl⟩
 have hlt:=dt q3;have hrun:(Instr.mapUpdate 262 (.map (some r)) (gr k s) (.int .i64 v)).run Tryz.prog w=.ok () W:=by
  rw[hW];simp only[Instr.mapUpdate,run_underlying tyE,Sem.run_bind,Result.andThen_ok,run_getObj_map w r es c q3,gS (Ke k s),f1,fj _ q3]
 have hR:bL Tryz.prog o a w undef W:=.inr ⟨rfl,by
  simp only[execOp,h1,uY q1,uY hk];show Sem.run Tryz.prog (Instr.mapUpdate 262 (.map (some r)) (gr k s) (.int .i64 v) >>= fun _=>pure Next.skip) w=_
  rw[Sem.run_bind,hrun,Result.andThen_ok,Sem.run_pure]⟩
 refine nA ho h3 hR ?_
 rw[h2];have hs:=h.sz;have ht:=h.ts;have hBW:Below w0.heap.size w0 W:=by
  have hB:=h.below;rw[hW];exact⟨hB.os,hB.tape,hB.output,by simpa using hB.size,fun k hk=>by
   have:r≠k:=by omega
   simp[this]
   exact hB.block k hk⟩
 refine⟨by simpa using hs,ht,h.df,hBW,fun _=>?_,fun j' k' s' v' hj' hl=>?_,fun j' hj' hl=>?_,fun h17=>?_,fun h18=>?_⟩
 ·refine⟨r,es.push { key:=gr k s,val:=.int .i64 v,born:=c },c+1,q1,q2,by rw[hW];simp[hlt],fun j' k' s' v' hj' hl=>?_,fun e he=>?_⟩
  ·by_cases e:j'=j
   ·subst e
    rw[hj]at hj';cases hj'
    exact⟨{ key:=gr k s,val:=.int .i64 v,born:=c },by simp,rfl,rfl⟩
   ·rw[bH (by omega)]at hl
    obtain⟨e,he,e1⟩:=q4 j' k' s' v' hj' hl;exact⟨e,by simp at he⊢;exact .inl he,e1⟩
  ·simp only[Array.toList_push,List.mem_append,Nq]at he
   rcases he with he|rfl
   ·obtain⟨j',k',s',v',e1,e2,e3⟩:=q5 e he
    by_cases e:j'=j
    ·subst e
     rw[hl0]at e2;cases e2
    ·exact⟨j',k',s',v',e1,by rw[bH (by omega)];exact e2,e3⟩
   ·exact⟨j,k,s,v,hj,JX (by omega),rfl,rfl⟩
 ·rw[bH (by omega)]at hl;exact h.b j' k' s' v' hj' hl
 ·rw[bH (by omega)];exact h0
 ·rw[bH (by omega)]at h17⊢;exact h.o17 h17
 ·by_cases e:2*j+2=18
  ·omega
  ·rw[bH (by omega)]at h18⊢;exact h.o18 h18
end
theorem Mv:(opsE.toList.zipIdx.all fun x=>x.1.after.toList.all fun e=>decide (e.on<x.2))=true:=by kernel_rfl
theorem M6{l:Array Bool}(hs:l.size=19)(h:Region.ready .any opsE l=[]):∀i,i<19->l[i]?=some true:=by
 intro i;induction i using Nat.strongRecOn with
 | _ i ih=>
  intro hi;cases hc:l[i]? with
  |none=>rw[Array.getElem?_eq_none_iff]at hc;omega
  | some b=>
   cases b with
   |true=>rfl
   | false=>
    exfalso
    have hsz:=Bd;have hm:i∈Region.ready .any opsE l:=by
     unfold Region.ready;rw[Np,Nk,Nv];refine⟨by omega,by simp[hc],?_⟩
     have ho:opsE[i]?=some opsE[i]:=Array.getElem?_eq_getElem (by omega)
     rw[ho];simp only[Nt,Nr,Nl];intro e he;have hb:=List.all_eq_true.1 Mv (opsE[i],i) (by
      rw[List.mem_iff_getElem?];exact⟨i,by rw[List.getElem?_zipIdx,Array.getElem?_toList,ho];simp⟩)
     have hlt:=List.all_eq_true.1 hb e (by simpa using he)
     have hlt:e.on<i:=by simpa using hlt
     have:=ih e.on hlt (by omega)
     rw[Bool.or_eq_true];right
     simp[this]
    rw[h]at hm;cases hm
theorem listE:((SV.of [.agg (SV.of [.vi (.int 1),.vi (.int 1)]),.agg (SV.of [.vi (.int 2),.vi (.int 1)]),.agg (SV.of [.vi (.int 3),.vi (.int 2)]),.agg (SV.of [.vi (.int 4),.vi (.int 2)]),.agg (SV.of [.vi (.int 5),.vi (.int 1)]),.agg (SV.of [.vi (.int 5),.vi (.int 2)]),.agg (SV.of [.vi (.int 5),.vi (.int 3)]),.agg (SV.of [.vi (.int 6),.vi (.int 4)])]).list=effTbl.map fun x=>.agg (SV.of [.vi (.int x.1),.vi (.int x.2.1)])) ∧
 (SV.of [.vi (.int 3),.vi (.int 2),.vi (.int 3),.vi (.int 6),.vi (.int 7),.vi (.int 7),.vi (.int 7),.vi (.int 8)]).list=effTbl.map fun x=>.vi (.int x.2.2):=⟨rfl,rfl⟩
theorem IN(w:World)(k s:Int):SVden [] (fun _=>undef) (fun _=>False) w (.agg (SV.of [.vi (.int k),.vi (.int s)])) (gr k s):=
 ⟨#[.int .i64 k,.int .i64 s],rfl,rfl,⟨_,[.int .i64 s],rfl,⟨rfl,rfl⟩,⟨_,[],rfl,⟨rfl,rfl⟩,rfl⟩⟩⟩
theorem be:mtE.ok Tryz.prog:=by
 intro x hx;unfold mtE at hx;rw[Nq]at hx;subst hx;intro w;refine calls_of_wp Tryz.func166 MF ?_
 refine wp_seq (wp_region ?_)
 show wpOps _ _ _ [0] _ _
 rw[wpOps_cons];refine nA (o:={ dst:=some 0,op:=.assign (.const (.map none)),type:=262,pos := "claim.go:76",after:=#[],guard:=none }) (u:=.map none) (w':=w) rfl rfl (.inl (by simp[execOp,Act.eval])) ?_
 show Code.wp _ _ _ _ _
 refine wp_seq (wp_region_any GB ?_)
 refine II (JE w) (fun l a w h=>by rw[h.sz,Bd]) (fun l a w' i h hi=>?_) (fun l a w' h hr=>?_) _ _ _ _ ?_ ?_
 ·have hlt:=(zS l i hi).1
  rcases Nat.lt_or_ge i 17 with h17|h17
  ·rcases Nat.eq_zero_or_pos i with rfl|hp
   ·exact MI h hi
   ·obtain⟨j,hj⟩:∃j,i=2*j+1\/i=2*j+2:=⟨(i-1) / 2,by omega⟩
    have hj8:j<effTbl.length:=by show j<8;omega
    obtain⟨⟨k,s,v⟩,hx⟩:∃x,effTbl[j]?=some x:=⟨_,List.getElem?_eq_getElem hj8⟩
    rcases hj with rfl|rfl
    ·exact Ms h hx hi
    ·exact My h hx hi
  ·have:i=17\/i=18:=by omega
   rcases this with rfl|rfl
   ·exact LA h hi
   ·exact LR h hi
 ·have hall:=M6 h.sz hr
  obtain⟨r,es,c,q1,q2,q3,q4,q5⟩:=h.m (hall 0 (by omega))
  have h10:=(h.o17 (hall 17 (by omega))).2
  have h0:=(h.o18 (hall 18 (by omega))).2
  have hv:a.tmps[0]?=some (.map (some r)):=by rw[h0,h10,q1]
  refine wp_ret ⟨h.df,.map (some r),?_,r,es,c,rfl,q2,q3,rfl,rfl,rfl,⟨fun i k v hk hv=>?_,fun e he=>?_,fun e he e' he' hee=>?_⟩,h.below⟩
  ·simp[results,Tryz.f166,hv]
  ·rw[listE.1,Ng]at hk
   rw[listE.2,Ng]at hv;obtain⟨⟨k1,s1,v1⟩,e1,rfl⟩:=Option.map_eq_some_iff.1 hk;rw[e1]at hv;cases hv
   obtain⟨e,he,e2,e3⟩:=q4 i k1 s1 v1 e1 (hall _ (by have:=lt8 e1;omega))
   exact⟨e,he,by rw[e2];exact IN _ _ _,by rw[e3];exact⟨rfl,rfl⟩⟩
  ·obtain⟨j,k,s,v,e1,_,e2,e3⟩:=q5 e he
   exact⟨j,_,_,by rw[listE.1,Ng,e1];rfl,by rw[listE.2,Ng,e1];rfl,by rw[e2];exact IN _ _ _,by rw[e3];exact⟨rfl,rfl⟩⟩
  ·obtain⟨j,k,s,v,e1,_,e2,e3⟩:=q5 e he
   obtain⟨j',k',s',v',e1',_,e2',e3'⟩:=q5 e' he';rw[e2,e2']at hee;obtain⟨rfl,rfl⟩:=DJ hee;have:=Gl e1 e1'
   subst this;rw[e1]at e1';cases e1'
   rw[e3,e3']
 ·refine⟨by rw[Array.size_replicate,Bd],by rw[ww];rfl,by rw[wO],⟨rfl,rfl,rfl,Nat.le_refl _,fun _ _=>rfl⟩,fun h=>?_,fun j k s v _ h=>?_,fun j _ h=>?_,fun h=>?_,fun h=>?_⟩<;>(rw[Array.getElem?_replicate]at h;split at h<;>cases h)
 ·rw[Bd];exact Nat.le_of_eq rfl
end Go.Proofs.YtkgphkdlbjinmaaGreatDoor
namespace Go.Proofs.YtkgphkdlbjinmaaGreatDoor
open Go Go.Sx
noncomputable section
abbrev aq:=Lv×Int
abbrev bj:=Int×Lv×Lv×Int×Int×Int
abbrev aH:=Lv×Int×Int×Int
def xY(n:Nat)(go0:bj->Option aq)(go1:aH->Option aq)(v9:Bool)(v10:Lv)(v12:Int)(v13 v18:Lv)(v19 v20 v21:Int):Option aq:=
 (bif((cI v10 v12 0)=5)&&(v19=2)then(bif (cI v10 v12 2)=1 then(bif(v9==true)then bif (((v13.length:Int)+1)*8)<=140737488355328 then bif(-9223372036854775808<=(v12+1))&&((v12+1)<=9223372036854775807)then go0 ((v12+1),(v13++[[(AV.int v12)]]),v18,v19,v20,v21)else none else none else bif (((v18.length:Int)+1)*24)<=140737488355328 then bif(-9223372036854775808<=(v12+1))&&((v12+1)<=9223372036854775807)then go0 ((v12+1),v13,(v18++[[(AV.int 7),(AV.int (cI v10 v12 1)),(AV.int (-1))]]),7,(cI v10 v12 1),(-1))else none else none)else bif (((v18.length:Int)+1)*24)<=140737488355328 then bif(-9223372036854775808<=(v12+1))&&((v12+1)<=9223372036854775807)then go0 ((v12+1),v13,(v18++[[(AV.int 7),(AV.int (cI v10 v12 1)),(AV.int (-1))]]),7,(cI v10 v12 1),(-1))else none else none)else(bif((cI v10 v12 0)=5)&&(v19=3)then(bif (cI v10 v12 2)=1 then(bif(v9==true)then bif (((v13.length:Int)+1)*8)<=140737488355328 then bif(-9223372036854775808<=(v12+1))&&((v12+1)<=9223372036854775807)then go0 ((v12+1),(v13++[[(AV.int v12)]]),v18,v19,v20,v21)else none else none else bif (((v18.length:Int)+1)*24)<=140737488355328 then bif(-9223372036854775808<=(v12+1))&&((v12+1)<=9223372036854775807)then go0 ((v12+1),v13,(v18++[[(AV.int 7),(AV.int (cI v10 v12 1)),(AV.int (-1))]]),7,(cI v10 v12 1),(-1))else none else none)else bif (((v18.length:Int)+1)*24)<=140737488355328 then bif(-9223372036854775808<=(v12+1))&&((v12+1)<=9223372036854775807)then go0 ((v12+1),v13,(v18++[[(AV.int 7),(AV.int (cI v10 v12 1)),(AV.int (-1))]]),7,(cI v10 v12 1),(-1))else none else none)else(bif((cI v10 v12 0)=6)&&(v19=4)then(bif (cI v10 v12 2)=1 then(bif(v9==true)then bif (((v13.length:Int)+1)*8)<=140737488355328 then bif(-9223372036854775808<=(v12+1))&&((v12+1)<=9223372036854775807)then go0 ((v12+1),(v13++[[(AV.int v12)]]),v18,v19,v20,v21)else none else none else bif (((v18.length:Int)+1)*24)<=140737488355328 then bif(-9223372036854775808<=(v12+1))&&((v12+1)<=9223372036854775807)then go0 ((v12+1),v13,(v18++[[(AV.int 8),(AV.int (cI v10 v12 1)),(AV.int (-1))]]),8,(cI v10 v12 1),(-1))else none else none)else bif (((v18.length:Int)+1)*24)<=140737488355328 then bif(-9223372036854775808<=(v12+1))&&((v12+1)<=9223372036854775807)then go0 ((v12+1),v13,(v18++[[(AV.int 8),(AV.int (cI v10 v12 1)),(AV.int (-1))]]),8,(cI v10 v12 1),(-1))else none else none)else(bif (cI v10 v12 2)=1 then(bif (cI v10 v12 0)=2 then bif (((v13.length:Int)+1)*8)<=140737488355328 then bif(-9223372036854775808<=(v12+1))&&((v12+1)<=9223372036854775807)then go0 ((v12+1),(v13++[[(AV.int v12)]]),v18,v19,v20,v21)else none else none else bif (((v13.length:Int)+1)*8)<=140737488355328 then bif(-9223372036854775808<=(v12+1))&&((v12+1)<=9223372036854775807)then go0 ((v12+1),(v13++[[(AV.int v12)]]),v18,v19,v20,v21)else none else none)else bif (((v13.length:Int)+1)*8)<=140737488355328 then bif(-9223372036854775808<=(v12+1))&&((v12+1)<=9223372036854775807)then go0 ((v12+1),(v13++[[(AV.int v12)]]),v18,v19,v20,v21)else none else none))))
def xT(n:Nat)(go0:bj->Option aq)(go1:aH->Option aq)(v9:Bool)(v10:Lv)(v12:Int)(v13 v18:Lv)(v19 v20 v21:Int):Option aq:=
 (bif((cI v10 v12 0)=5)&&(v19=1)then(bif (cI v10 v12 2)=1 then(bif(v9==true)then bif (((v13.length:Int)+1)*8)<=140737488355328 then bif(-9223372036854775808<=(v12+1))&&((v12+1)<=9223372036854775807)then go0 ((v12+1),(v13++[[(AV.int v12)]]),v18,v19,v20,v21)else none else none else bif (((v18.length:Int)+1)*24)<=140737488355328 then bif(-9223372036854775808<=(v12+1))&&((v12+1)<=9223372036854775807)then go0 ((v12+1),v13,(v18++[[(AV.int 7),(AV.int (cI v10 v12 1)),(AV.int (-1))]]),7,(cI v10 v12 1),(-1))else none else none)else bif (((v18.length:Int)+1)*24)<=140737488355328 then bif(-9223372036854775808<=(v12+1))&&((v12+1)<=9223372036854775807)then go0 ((v12+1),v13,(v18++[[(AV.int 7),(AV.int (cI v10 v12 1)),(AV.int (-1))]]),7,(cI v10 v12 1),(-1))else none else none)else xY n go0 go1 v9 v10 v12 v13 v18 v19 v20 v21)
def zC(n:Nat)(go0:bj->Option aq)(go1:aH->Option aq)(v9:Bool)(v10:Lv)(v12:Int)(v13 v18:Lv)(v19 v20 v21:Int):Option aq:=
 (bif((cI v10 v12 0)=4)&&(v19=2)then(bif (cI v10 v12 2)=1 then(bif(v9==true)then bif (((v13.length:Int)+1)*8)<=140737488355328 then bif(-9223372036854775808<=(v12+1))&&((v12+1)<=9223372036854775807)then go0 ((v12+1),(v13++[[(AV.int v12)]]),v18,v19,v20,v21)else none else none else bif (((v18.length:Int)+1)*24)<=140737488355328 then bif(-9223372036854775808<=(v12+1))&&((v12+1)<=9223372036854775807)then go0 ((v12+1),v13,(v18++[[(AV.int 6),(AV.int (cI v10 v12 1)),(AV.int (-1))]]),6,(cI v10 v12 1),(-1))else none else none)else bif (((v18.length:Int)+1)*24)<=140737488355328 then bif(-9223372036854775808<=(v12+1))&&((v12+1)<=9223372036854775807)then go0 ((v12+1),v13,(v18++[[(AV.int 6),(AV.int (cI v10 v12 1)),(AV.int (-1))]]),6,(cI v10 v12 1),(-1))else none else none)else xT n go0 go1 v9 v10 v12 v13 v18 v19 v20 v21)
def zy(n:Nat)(go0:bj->Option aq)(go1:aH->Option aq)(v1:Int)(v9:Bool)(v10:Lv)(v12:Int)(v13 v18:Lv)(v19 v20 v21:Int):Option aq:=
 (bif((cI v10 v12 0)=3)&&(v19=2)then(bif (cI v10 v12 2)=1 then(bif(v9==true)then bif (((v13.length:Int)+1)*8)<=140737488355328 then bif(-9223372036854775808<=(v12+1))&&((v12+1)<=9223372036854775807)then go0 ((v12+1),(v13++[[(AV.int v12)]]),v18,v19,v20,v21)else none else none else bif(-9223372036854775808<=((cI v10 v12 1)+v1))&&(((cI v10 v12 1)+v1)<=9223372036854775807)then bif (((v18.length:Int)+1)*24)<=140737488355328 then bif(-9223372036854775808<=(v12+1))&&((v12+1)<=9223372036854775807)then go0 ((v12+1),v13,(v18++[[(AV.int 3),(AV.int (cI v10 v12 1)),(AV.int ((cI v10 v12 1)+v1))]]),3,(cI v10 v12 1),((cI v10 v12 1)+v1))else none else none else none)else bif(-9223372036854775808<=((cI v10 v12 1)+v1))&&(((cI v10 v12 1)+v1)<=9223372036854775807)then bif (((v18.length:Int)+1)*24)<=140737488355328 then bif(-9223372036854775808<=(v12+1))&&((v12+1)<=9223372036854775807)then go0 ((v12+1),v13,(v18++[[(AV.int 3),(AV.int (cI v10 v12 1)),(AV.int ((cI v10 v12 1)+v1))]]),3,(cI v10 v12 1),((cI v10 v12 1)+v1))else none else none else none)else zC n go0 go1 v9 v10 v12 v13 v18 v19 v20 v21)
def yF(n:Nat)(go0:bj->Option aq)(go1:aH->Option aq)(v1 v2:Int)(v9:Bool)(v10:Lv)(v12:Int)(v13 v18:Lv)(v19 v20 v21:Int):Option aq:=
 (bif((cI v10 v12 0)=2)&&(v19=1)then(bif (cI v10 v12 2)=1 then(bif(v9==true)then bif (((v13.length:Int)+1)*8)<=140737488355328 then bif(-9223372036854775808<=(v12+1))&&((v12+1)<=9223372036854775807)then go0 ((v12+1),(v13++[[(AV.int v12)]]),v18,v19,v20,v21)else none else none else bif (((v18.length:Int)+1)*24)<=140737488355328 then bif(-9223372036854775808<=(v12+1))&&((v12+1)<=9223372036854775807)then go0 ((v12+1),v13,(v18++[[(AV.int 6),(AV.int (cI v10 v12 1)),(AV.int (-1))]]),6,(cI v10 v12 1),(-1))else none else none)else bif(-9223372036854775808<=((cI v10 v12 1)+v2))&&(((cI v10 v12 1)+v2)<=9223372036854775807)then bif (((v18.length:Int)+1)*24)<=140737488355328 then bif(-9223372036854775808<=(v12+1))&&((v12+1)<=9223372036854775807)then go0 ((v12+1),v13,(v18++[[(AV.int 2),(AV.int (cI v10 v12 1)),(AV.int ((cI v10 v12 1)+v2))]]),2,(cI v10 v12 1),((cI v10 v12 1)+v2))else none else none else none)else zy n go0 go1 v1 v9 v10 v12 v13 v18 v19 v20 v21)
def qV(n:Nat)(go0:bj->Option aq)(go1:aH->Option aq)(v1 v2:Int)(v9:Bool)(v10:Lv)(v12:Int)(v13 v18:Lv)(v19 v20 v21:Int):Option aq:=
 (bif((cI v10 v12 0)=1)&&(v19=1)then(bif (cI v10 v12 2)=1 then(bif(v9==true)then bif (((v13.length:Int)+1)*8)<=140737488355328 then bif(-9223372036854775808<=(v12+1))&&((v12+1)<=9223372036854775807)then go0 ((v12+1),(v13++[[(AV.int v12)]]),v18,v19,v20,v21)else none else none else bif(-9223372036854775808<=((cI v10 v12 1)+v1))&&(((cI v10 v12 1)+v1)<=9223372036854775807)then bif (((v18.length:Int)+1)*24)<=140737488355328 then bif(-9223372036854775808<=(v12+1))&&((v12+1)<=9223372036854775807)then go0 ((v12+1),v13,(v18++[[(AV.int 3),(AV.int (cI v10 v12 1)),(AV.int ((cI v10 v12 1)+v1))]]),3,(cI v10 v12 1),((cI v10 v12 1)+v1))else none else none else none)else bif(-9223372036854775808<=((cI v10 v12 1)+v1))&&(((cI v10 v12 1)+v1)<=9223372036854775807)then bif (((v18.length:Int)+1)*24)<=140737488355328 then bif(-9223372036854775808<=(v12+1))&&((v12+1)<=9223372036854775807)then go0 ((v12+1),v13,(v18++[[(AV.int 3),(AV.int (cI v10 v12 1)),(AV.int ((cI v10 v12 1)+v1))]]),3,(cI v10 v12 1),((cI v10 v12 1)+v1))else none else none else none)else yF n go0 go1 v1 v2 v9 v10 v12 v13 v18 v19 v20 v21)
def qk(n:Nat)(go0:bj->Option aq)(go1:aH->Option aq)(v1 v2 v3:Int)(v9:Bool)(v10:Lv)(v12:Int)(v13 v18:Lv)(v19 v20 v21:Int):Option aq:=
 (bif v21<=(cI v10 v12 1) then(bif v19=1 then bif(-9223372036854775808<=(v21+v1))&&((v21+v1)<=9223372036854775807)then bif (((v18.length:Int)+1)*24)<=140737488355328 then go1 ((v18++[[(AV.int 3),(AV.int v21),(AV.int (v21+v1))]]),3,v21,(v21+v1))else none else none else(bif v19=2 then bif(-9223372036854775808<=(v21+v1))&&((v21+v1)<=9223372036854775807)then bif (((v18.length:Int)+1)*24)<=140737488355328 then go1 ((v18++[[(AV.int 3),(AV.int v21),(AV.int (v21+v1))]]),3,v21,(v21+v1))else none else none else(bif v19=3 then bif(-9223372036854775808<=(v21+v3))&&((v21+v3)<=9223372036854775807)then bif (((v18.length:Int)+1)*24)<=140737488355328 then go1 ((v18++[[(AV.int 4),(AV.int v21),(AV.int (v21+v3))]]),4,v21,(v21+v3))else none else none else(bif v19=4 then bif (((v18.length:Int)+1)*24)<=140737488355328 then go1 ((v18++[[(AV.int 5),(AV.int v21),(AV.int (-1))]]),5,v21,(-1))else none else bif (((v18.length:Int)+1)*24)<=140737488355328 then go1 ((v18++[[(AV.int 0),(AV.int v21),(AV.int (-1))]]),0,v21,(-1))else none))))else qV n go0 go1 v1 v2 v9 v10 v12 v13 v18 v19 v20 v21)
abbrev xU:= @qV
def fF(n:Nat)(go0:bj->Option aq)(go1:aH->Option aq)(v1 v2 v3:Int)(v9:Bool)(v10:Lv)(v12:Int)(v13 v18:Lv)(v19 v20 v21:Int):Option aq:=
 (bif 0<=v21 then qk n go0 go1 v1 v2 v3 v9 v10 v12 v13 v18 v19 v20 v21 else xU n go0 go1 v1 v2 v9 v10 v12 v13 v18 v19 v20 v21)
def cg(n:Nat)(go0:aH->Option aq)(v1 v3:Int)(v18:Lv)(v19 v21:Int):Option aq:=
 (bif 0<=v21 then(bif v21<=4611686018427387904 then(bif v19=1 then bif(-9223372036854775808<=(v21+v1))&&((v21+v1)<=9223372036854775807)then bif (((v18.length:Int)+1)*24)<=140737488355328 then go0 ((v18++[[(AV.int 3),(AV.int v21),(AV.int (v21+v1))]]),3,v21,(v21+v1))else none else none else(bif v19=2 then bif(-9223372036854775808<=(v21+v1))&&((v21+v1)<=9223372036854775807)then bif (((v18.length:Int)+1)*24)<=140737488355328 then go0 ((v18++[[(AV.int 3),(AV.int v21),(AV.int (v21+v1))]]),3,v21,(v21+v1))else none else none else(bif v19=3 then bif(-9223372036854775808<=(v21+v3))&&((v21+v3)<=9223372036854775807)then bif (((v18.length:Int)+1)*24)<=140737488355328 then go0 ((v18++[[(AV.int 4),(AV.int v21),(AV.int (v21+v3))]]),4,v21,(v21+v3))else none else none else(bif v19=4 then bif (((v18.length:Int)+1)*24)<=140737488355328 then go0 ((v18++[[(AV.int 5),(AV.int v21),(AV.int (-1))]]),5,v21,(-1))else none else bif (((v18.length:Int)+1)*24)<=140737488355328 then go0 ((v18++[[(AV.int 0),(AV.int v21),(AV.int (-1))]]),0,v21,(-1))else none))))else some (v18,0))else some (v18,0))
def kW(n:Nat)(go0:bj->Option aq)(v1 v2 v3:Int)(v9:Bool)(v10:Lv)(v12:Int)(v13 v14:Lv)(v15 v16 v17:Int):Option aq:=
 (bif v12<(v10.length:Int) then bif 0<=v12 then(af (fun go1 s=>fF n go0 go1 v1 v2 v3 v9 v10 v12 v13 s.1 s.2.1 s.2.2.1 s.2.2.2) n ((v14,v15,v16,v17):aH))else none else(af (fun go0 s=>cg n go0 v1 v3 s.1 s.2.1 s.2.2.2) n ((v14,v15,v16,v17):aH)))
def qw(n:Nat)(v0 v1 v2 v3 v8:Int)(v9:Bool)(v10:Lv)(v11:Bool):Option aq:=
 (bif(!v11)then some (([]:Lv),160)else bif(-9223372036854775808<=(v8+v0))&&((v8+v0)<=9223372036854775807)then(af (fun go0 s=>kW n go0 v1 v2 v3 v9 v10 s.1 s.2.1 s.2.2.1 s.2.2.2.1 s.2.2.2.2.1 s.2.2.2.2.2) n ((0,([]:Lv),(([]:Lv)++[[(AV.int 1),(AV.int v8),(AV.int (v8+v0))]]),1,v8,(v8+v0)):bj))else none)
def lj(n:Nat)(v0 v1 v2 v3 v4 v5 v6 v7 v8:Int)(v9:Bool)(v10:Lv):Option aq:=
 (kv n v0 v1 v2 v3 v4 v5 v6 v7 v8 v9 v10).bind fun y11=>
 qw n v0 v1 v2 v3 v8 v9 v10 y11
def jR(n:Nat)(v0 v1 v2 v3 v4 v5 v6 v7 v8:Int)(v9:Bool)(v10:Lv):Option aq:=lj n v0 v1 v2 v3 v4 v5 v6 v7 v8 v9 v10
def claim_Timeline_t:FnT:=⟨[(true,[.int,.int,.int,.int]),(true,[.int,.int,.int,.int,.int,.bool]),(false,[tSc])],(.tup (.cons (.row 204 (.cons .int (.cons .int (.cons .int .nil)))) (.cons .i .nil))),fun n (s:Int×Int×Int×Int×Int×Int×Int×Int×Int×Bool×Lv)=>jR n s.1 s.2.1 s.2.2.1 s.2.2.2.1 s.2.2.2.2.1 s.2.2.2.2.2.1 s.2.2.2.2.2.2.1 s.2.2.2.2.2.2.2.1 s.2.2.2.2.2.2.2.2.1 s.2.2.2.2.2.2.2.2.2.1 s.2.2.2.2.2.2.2.2.2.2⟩
theorem xX:claim_Timeline_t.ok Tryz.prog 108:=FnT.ok_of (cfg:=⟨[((168,5,31),.inv [(.tmp 24 .int),(.cellrow 10 12 3 (.cons .int .nil)),(.cellrow 13 0 204 (.cons .int (.cons .int (.cons .int .nil)))),(.cell 24 0 .int),(.cell 24 1 .int),(.cell 24 2 .int)]),((170,1,39),.inv [(.cellrow 13 0 204 (.cons .int (.cons .int (.cons .int .nil)))),(.cell 24 0 .int),(.cell 24 1 .int),(.cell 24 2 .int)]),((170,1,37),.inv [(.cellrow 13 0 204 (.cons .int (.cons .int (.cons .int .nil)))),(.cell 24 0 .int),(.cell 24 1 .int),(.cell 24 2 .int)])],jB,[],az⟩) aT wn be (fun s fn hf=>by rw[Tryz.func108]at hf;cases hf;kernel_rfl) (fun n s=>by kernel_rfl)
def claim_Timeline_T:Tab:=(108,claim_Timeline_t)::life_At_T
theorem mW:claim_Timeline_T.ok Tryz.prog:=Tab.ok_cons xX wn
def Gn:List Nat:=[3,4,5,6,7,8,9,10,11,12,13,14,15,16,17,18,19,20,21,22,23,24,25,26,27,28,31,33,34,35,37,39,40,41,42,43,44,45,60,61,65,67,68,72,74,75,81,83,84,86,87,88,91,93,102,108,113,114,115,119,121,129,137,141,153,155,156,162,163,173,2000291,3000170]
abbrev iI:=Bool
abbrev dM:=Int×Int
def kF(n:Nat)(go0:dM->Option iI)(v0 v2 v3 v4 v5:Int)(v7:Lv)(v14 v15:Int):Option iI:=
 (bif v15<(v7.length:Int) then bif 0<=v15 then(bif !((cI v7 v15 0)=v0)then some false else(kv n v2 v3 v4 v5 (cI v7 v15 0) (cI v7 v15 1) (cI v7 v15 2) (cI v7 v15 3) (cI v7 v15 4) (cB v7 v15 5) (cL v7 v15 6)).bind fun y16=>
 (bif(!y16)then some false else(bif (cI v7 v15 4)<v14 then some false else bif(-9223372036854775808<=(v15+1))&&((v15+1)<=9223372036854775807)then go0 ((cI v7 v15 4),(v15+1))else none)))else none else some true)
def o5(n:Nat)(v0 v1 v2 v3 v4 v5:Int)(v6 v7:Lv):Option iI:=
 (nb n v6).bind fun y8=>
 (bif !(y8.2.2.2.2.2=0)then some false else(bif 0<=v0 then(bif !(v0<=99999999)then some false else(bif 0<=v1 then(bif !(v1<=7)then some false else(bif 8<(v7.length:Int) then some false else(af (fun go0 s=>kF n go0 v0 v2 v3 v4 v5 v7 s.1 s.2) n ((0,0):dM))))else some false))else some false))
def kh(n:Nat)(v0 v1 v2 v3 v4 v5:Int)(v6 v7:Lv):Option iI:=o5 n v0 v1 v2 v3 v4 v5 v6 v7
def chain_Valid_t:FnT:=⟨[(true,[.int,.int,.int,.int,.int,.int,tSc,(.sl (.cons .int (.cons .int (.cons .int (.cons .int (.cons .int (.cons .bool (.cons tSc .nil))))))))])],.b,fun n (s:Int×Int×Int×Int×Int×Int×Lv×Lv)=>kh n s.1 s.2.1 s.2.2.1 s.2.2.2.1 s.2.2.2.2.1 s.2.2.2.2.2.1 s.2.2.2.2.2.2.1 s.2.2.2.2.2.2.2⟩
theorem Bz:chain_Valid_t.ok Tryz.prog 27:=FnT.ok_of (cfg:=⟨[((27,6,3),.inv [(.tmp 6 .int),(.tmp 39 .int)])],Gn,[],az⟩) aT mW be (fun s fn hf=>by rw[Tryz.func27]at hf;cases hf;kernel_rfl) (fun n s=>by kernel_rfl)
def chain_Valid_T:Tab:=(27,chain_Valid_t)::claim_Timeline_T
theorem qo:chain_Valid_T.ok Tryz.prog:=Tab.ok_cons Bz mW
abbrev aC:=Lv
abbrev aO:=Lv×Int
abbrev bV:=Int×Lv
abbrev mR:=Unit
def js(n:Nat)(go0:aO->Option aC)(go1:aO->Option aC)(v9:Int)(v10 v12:Lv)(v13:Int):Option aC:=
 (bif v13<(v10.length:Int) then bif 0<=v13 then(bif (cI v10 v13 0)=4 then bif (((v12.length:Int)+1)*24)<=140737488355328 then bif(-9223372036854775808<=(v13+1))&&((v13+1)<=9223372036854775807)then go1 ((v12++[[(AV.int (cI v10 v13 1)),(AV.int v9),(AV.bool (decide ((cI v10 v13 0)=8)))]]),(v13+1))else none else none else(bif (cI v10 v13 0)=8 then bif (((v12.length:Int)+1)*24)<=140737488355328 then bif(-9223372036854775808<=(v13+1))&&((v13+1)<=9223372036854775807)then go1 ((v12++[[(AV.int (cI v10 v13 1)),(AV.int v9),(AV.bool (decide ((cI v10 v13 0)=8)))]]),(v13+1))else none else none else bif(-9223372036854775808<=(v13+1))&&((v13+1)<=9223372036854775807)then go1 (v12,(v13+1))else none))else none else bif(-9223372036854775808<=(v9+1))&&((v9+1)<=9223372036854775807)then go0 (v12,(v9+1))else none)
def oy(n:Nat)(go0:bV->Option aC)(go1:bV->Option aC)(v10 v12:Int)(v13:Lv):Option aC:=
 (bif 0<v12 then bif 0<=v12 then bif v12<(v13.length:Int) then bif(-9223372036854775808<=(v12-1))&&((v12-1)<=9223372036854775807)then bif 0<=(v12-1) then bif (v12-1)<(v13.length:Int) then(bif (cI v13 v12 0)<(cI v13 (v12-1) 0) then(bif (cI v13 v12 1)<(cI v13 (v12-1) 1) then go1 ((v12-1),(Nc (Nc (Nc (Nc (Nc (Nc v13 (v12).toNat (fun r=>r.set 0 (AV.int (cI v13 (v12-1) 0)))) (v12).toNat (fun r=>r.set 1 (AV.int (cI v13 (v12-1) 1)))) (v12).toNat (fun r=>r.set 2 (AV.bool (cB v13 (v12-1) 2)))) ((v12-1)).toNat (fun r=>r.set 0 (AV.int (cI v13 v12 0)))) ((v12-1)).toNat (fun r=>r.set 1 (AV.int (cI v13 v12 1)))) ((v12-1)).toNat (fun r=>r.set 2 (AV.bool (cB v13 v12 2)))))else(bif (cI v13 (v12-1) 1)<(cI v13 v12 1) then go1 ((v12-1),(Nc (Nc (Nc (Nc (Nc (Nc v13 (v12).toNat (fun r=>r.set 0 (AV.int (cI v13 (v12-1) 0)))) (v12).toNat (fun r=>r.set 1 (AV.int (cI v13 (v12-1) 1)))) (v12).toNat (fun r=>r.set 2 (AV.bool (cB v13 (v12-1) 2)))) ((v12-1)).toNat (fun r=>r.set 0 (AV.int (cI v13 v12 0)))) ((v12-1)).toNat (fun r=>r.set 1 (AV.int (cI v13 v12 1)))) ((v12-1)).toNat (fun r=>r.set 2 (AV.bool (cB v13 v12 2)))))else go1 ((v12-1),(Nc (Nc (Nc (Nc (Nc (Nc v13 (v12).toNat (fun r=>r.set 0 (AV.int (cI v13 (v12-1) 0)))) (v12).toNat (fun r=>r.set 1 (AV.int (cI v13 (v12-1) 1)))) (v12).toNat (fun r=>r.set 2 (AV.bool (cB v13 (v12-1) 2)))) ((v12-1)).toNat (fun r=>r.set 0 (AV.int (cI v13 v12 0)))) ((v12-1)).toNat (fun r=>r.set 1 (AV.int (cI v13 v12 1)))) ((v12-1)).toNat (fun r=>r.set 2 (AV.bool (cB v13 v12 2)))))))else(bif (cI v13 (v12-1) 0)<(cI v13 v12 0) then(bif (cI v13 v12 1)<(cI v13 (v12-1) 1) then bif(-9223372036854775808<=(v10+1))&&((v10+1)<=9223372036854775807)then go0 ((v10+1),v13)else none else(bif (cI v13 (v12-1) 1)<(cI v13 v12 1) then bif(-9223372036854775808<=(v10+1))&&((v10+1)<=9223372036854775807)then go0 ((v10+1),v13)else none else bif(-9223372036854775808<=(v10+1))&&((v10+1)<=9223372036854775807)then go0 ((v10+1),v13)else none))else(bif (cI v13 v12 1)<(cI v13 (v12-1) 1) then go1 ((v12-1),(Nc (Nc (Nc (Nc (Nc (Nc v13 (v12).toNat (fun r=>r.set 0 (AV.int (cI v13 (v12-1) 0)))) (v12).toNat (fun r=>r.set 1 (AV.int (cI v13 (v12-1) 1)))) (v12).toNat (fun r=>r.set 2 (AV.bool (cB v13 (v12-1) 2)))) ((v12-1)).toNat (fun r=>r.set 0 (AV.int (cI v13 v12 0)))) ((v12-1)).toNat (fun r=>r.set 1 (AV.int (cI v13 v12 1)))) ((v12-1)).toNat (fun r=>r.set 2 (AV.bool (cB v13 v12 2)))))else(bif (cI v13 (v12-1) 1)<(cI v13 v12 1) then bif(-9223372036854775808<=(v10+1))&&((v10+1)<=9223372036854775807)then go0 ((v10+1),v13)else none else bif(-9223372036854775808<=(v10+1))&&((v10+1)<=9223372036854775807)then go0 ((v10+1),v13)else none))))else none else none else none else none else none else bif(-9223372036854775808<=(v10+1))&&((v10+1)<=9223372036854775807)then go0 ((v10+1),v13)else none)
def wL(n:Nat)(go0:bV->Option aC)(v10:Int)(v11:Lv):Option aC:=
 (bif v10<20 then(af (fun go1 s=>oy n go0 go1 v10 s.1 s.2) n ((v10,v11):bV))else none)
abbrev xg:= @oy
def xa(n:Nat)(go0:mR->Option aC):Option aC:=
 none
def wH(n:Nat)(go0:bV->Option aC)(v8:Lv)(v10:Int)(v11:Lv):Option aC:=
 (bif v10<(v8.length:Int) then(af (fun go1 s=>xg n go0 go1 v10 s.1 s.2) n ((v10,v11):bV))else(bif 20<(v8.length:Int) then(af (fun go0 s=>xa n go0 ) n (():mR))else some v11))
def vT(n:Nat)(go0:aO->Option aC)(v8:Lv):Option aC:=
 (bif 20<=(v8.length:Int) then(af (fun go0 s=>wL n go0 s.1 s.2) n ((1,v8):bV))else(af (fun go0 s=>wH n go0 v8 s.1 s.2) n ((1,v8):bV)))
def gj(n:Nat)(go0:aO->Option aC)(v2 v3 v4 v5:Int)(v7 v8:Lv)(v9:Int):Option aC:=
 (bif v9<(v7.length:Int) then bif 0<=v9 then(jR n v2 v3 v4 v5 (cI v7 v9 0) (cI v7 v9 1) (cI v7 v9 2) (cI v7 v9 3) (cI v7 v9 4) (cB v7 v9 5) (cL v7 v9 6)).bind fun y10=>
 (af (fun go1 s=>js n go0 go1 v9 y10.1 s.1 s.2) n ((v8,0):aO))else none else vT n go0 v8)
def xh(n:Nat)(v2 v3 v4 v5:Int)(v7:Lv):Option aC:=
 (af (fun go0 s=>gj n go0 v2 v3 v4 v5 v7 s.1 s.2) n ((([]:Lv),0):aO))
def hX(n:Nat)(v0 v1 v2 v3 v4 v5:Int)(v6 v7:Lv):Option aC:=xh n v2 v3 v4 v5 v7
def chain_happenings_t:FnT:=⟨[(true,[.int,.int,.int,.int,.int,.int,tSc,(.sl (.cons .int (.cons .int (.cons .int (.cons .int (.cons .int (.cons .bool (.cons tSc .nil))))))))])],(.row 158 (.cons .int (.cons .int (.cons .bool .nil)))),fun n (s:Int×Int×Int×Int×Int×Int×Lv×Lv)=>hX n s.1 s.2.1 s.2.2.1 s.2.2.2.1 s.2.2.2.2.1 s.2.2.2.2.2.1 s.2.2.2.2.2.2.1 s.2.2.2.2.2.2.2⟩
theorem vE:chain_happenings_t.ok Tryz.prog 65:=FnT.ok_of (cfg:=⟨[((146,2,0),.unroll 1),((146,7,0),.unroll 1),((111,3,0),.unroll 3),((65,3,1),.inv [(.tmprow 3 158 (.cons .int (.cons .int (.cons .bool .nil)))),(.tmp 13 .int)]),((65,7,6),.inv [(.tmprow 3 158 (.cons .int (.cons .int (.cons .bool .nil)))),(.tmp 30 .int)]),((172,1,3),.inv [(.tmp 8 .int),(.inrow 1 158 (.cons .int (.cons .int (.cons .bool .nil))))]),((172,4,5),.inv [(.tmp 9 .int),(.inrow 1 158 (.cons .int (.cons .int (.cons .bool .nil))))]),((146,9,5),.inv [])],Gn,[],az⟩) aT qo be (fun s fn hf=>by rw[Tryz.func65]at hf;cases hf;kernel_rfl) (fun n s=>by kernel_rfl)
def chain_happenings_T:Tab:=(65,chain_happenings_t)::chain_Valid_T
theorem ln:chain_happenings_T.ok Tryz.prog:=Tab.ok_cons vE qo
end
open Go.Dial.Wire
noncomputable section
theorem cnt{α:Type}{step:(Int->Option α)->Int->Option α}(N:Nat)(h1:∀go (i:Nat),i<N->step go (i:Int)=go ((i+1:Nat):Int)):
  ∀(f i m:Nat),i+f=N->f<m->∃m',af step m (i:Int)=step (af step m') (N:Int):=by
 intro f;induction f with
 |zero=>
  intro i m hi hm;obtain⟨m,rfl⟩:∃k,m=k+1:=⟨m-1,by omega⟩
  obtain rfl:i=N:=by omega
  exact⟨m,rfl⟩
 |succ f ih=>
  intro i m hi hm;obtain⟨m,rfl⟩:∃k,m=k+1:=⟨m-1,by omega⟩
  obtain⟨m',e⟩:=ih (i+1) m (by omega) (by omega)
  exact⟨m',by rw[ae,h1 _ _ (by omega),e]⟩
structure Clm (nu fr to ho ask:Int):Prop where
 h1:0<=nu/\nu<=99999999
 h2:0<=fr/\fr<=7
 h3:0<=to/\to<=7
 h4:fr≠to
 h5:0<=ho/\ho<=63
 h6:0<=ask/\ask<=10000000
theorem me(n:Nat)(nu fr to ho ask:Int)(b:Bool)(h:Clm nu fr to ho ask):iH n nu fr to ho ask b=some true:=by
 obtain⟨h1,h2,h3,h4,h5,h6⟩:=h;show mK n nu fr to ho ask=_
 unfold mK;rw[dT (by omega),dT (by omega),dT (by omega),dT (by omega),dT (by omega),dT (by omega),nF (by omega),dT (by omega),dT (by omega),dT (by omega),decide_eq_true (by omega)]
structure Rul (an co se re:Int):Prop where
 h1:1<=an/\an<=86400
 h2:1<=co/\co<=86400
 h3:1<=se/\se<=86400
 h4:1<=re/\re<=86400
theorem Rul.at{an co se re:Int}(h:Rul an co se re)(i:Nat)(hi:i<4):1<=[an,se,co,re].getD i 0/\[an,se,co,re].getD i 0<=1000000:=by
 obtain⟨h1,h2,h3,h4⟩:=h;rcases i with _|_|_|_|i
 ·exact⟨h1.1,show an<=_ by omega⟩
 ·exact⟨h3.1,show se<=_ by omega⟩
 ·exact⟨h2.1,show co<=_ by omega⟩
 ·exact⟨h4.1,show re<=_ by omega⟩
 ·omega
abbrev eI(ask:Int):Lv:=([]:Lv)++[[(AV.int 2),(AV.int ask),(AV.int 1)]]
theorem va(n:Nat)(an co se re nu fr to ho ask:Int)(b:Bool)(E:Lv)(hn:20<=n)(hr:Rul an co se re)(hc:Clm nu fr to ho ask)(hE:E=[]\/E=eI ask):kv n an co se re nu fr to ho ask b E=some true:=by
 show oB n an co se re nu fr to ho ask b E=_
 unfold oB;obtain⟨m',e⟩:=cnt (step:=fun go0 (s:nC)=>fV n go0 an co se re nu fr to ho ask b E s) 4 (fun go i hi=>by
  show fV n go an co se re nu fr to ho ask b E (i:Int)=_
  unfold fV;have e:cI ((((([]:Lv)++[[(AV.int an)]])++[[(AV.int se)]])++[[(AV.int co)]])++[[(AV.int re)]]) (i:Int) 0=[an,se,co,re].getD i 0:=nV [an,se,co,re] i
  obtain⟨r1,r2⟩:=hr.at i hi;rw[dT (by omega),dT (by omega),e,dT r1,nT r2,inn (by omega) (by omega)]
  rfl) 4 0 n rfl (by omega)
 refine Eq.trans e ?_
 show fV n _ an co se re nu fr to ho ask b E (4:Int)=_
 unfold fV;rw[dF (by omega),me n nu fr to ho ask b hc]
 rw[bS];obtain⟨k,rfl⟩:∃k,n=k+2:=⟨n-2,by omega⟩
 obtain⟨h1,h2,h3,h4,h5,h6⟩:=hc;rcases hE with rfl|rfl
 ·rfl
 ·rw[bnt,show((eI ask).length:Int)=1 from rfl,dF (by omega),ae]
  show iF (k+2) _ (eI ask) 0 ask=_
  unfold iF;rw[show cI (eI ask) 0 0=2 from rfl,show cI (eI ask) 0 1=ask from rfl,show cI (eI ask) 0 2=1 from rfl,show((eI ask).length:Int)=1 from rfl]
  rw[dT (by omega),dT (by omega),dT (by omega),dT (by omega),nT (by omega),dT (by omega),nT (by omega),dT (by omega),nT (by omega),inn (by omega) (by omega),ae]
  show iF (k+2) _ (eI ask) 1 ask=_
  unfold iF;rw[show((eI ask).length:Int)=1 from rfl,dF (by omega)]
theorem ER(n:Nat)(an co se re nu fr to ho ask:Int)(b:Bool)(hn:20<=n)(hr:Rul an co se re)(hc:Clm nu fr to ho ask):pv n an co se re nu fr to ho ask b=some ((ask+an-1+se+co+re),0):=by
 show qG n an co se re nu fr to ho ask b=_
 unfold qG;obtain⟨m',e⟩:=cnt (step:=fun go0 (s:oI)=>gx n go0 an co se re nu fr to ho ask b s) 4 (fun go i hi=>by
  show gx n go an co se re nu fr to ho ask b (i:Int)=_
  unfold gx;have e:cI ((((([]:Lv)++[[(AV.int an)]])++[[(AV.int se)]])++[[(AV.int co)]])++[[(AV.int re)]]) (i:Int) 0=[an,se,co,re].getD i 0:=nV [an,se,co,re] i
  obtain⟨r1,r2⟩:=hr.at i hi;rw[dT (by omega),dT (by omega),e,dT r1,nT r2,inn (by omega) (by omega)]
  rfl) 4 0 n rfl (by omega)
 refine Eq.trans e ?_
 show gx n _ an co se re nu fr to ho ask b (4:Int)=_
 unfold gx;rw[dF (by omega),me n nu fr to ho ask b hc]
 rw[bS];obtain⟨h1,h2,h3,h4,h5,h6⟩:=hc;obtain⟨r1,r2,r3,r4⟩:=hr;rw[bnt,inn (by omega) (by omega),inn (by omega) (by omega),inn (by omega) (by omega),inn (by omega) (by omega),inn (by omega) (by omega)]
abbrev bU(ho:Int):Lv:=([]:Lv)++[[(AV.int 1),(AV.int 0),(AV.int ho)]]
theorem Fx(n:Nat)(ho:Int)(h:0<=ho/\ho<=63):su n 0 (-1) 0 0 1 0 ho=some (1,ho,1,0,0):=by
 have hf:nK n 1 0 ho=some true:=by
  show oC n 1 0 ho=_
  unfold oC;rw[dT (by omega),nT (by omega),dT (by omega),nT (by omega),dT (by omega),dT (by omega)]
  refine(bT' rfl).trans ?_
  rw[dT (by omega),decide_eq_true (by omega)]
 show(nK n 1 0 ho).bind (fun y8=>x7 n 0 (-1) 0 0 1 0 ho y8)=_
 rw[hf];rw[bS];show sN n (-1) 0 0 1 0 ho=_
 unfold sN;refine(bT' rfl).trans ?_
 rw[dF (by omega),dF (by omega)]
 rfl
theorem uC(n:Nat)(ho:Int)(hn:20<=n)(h:0<=ho/\ho<=63):nb n (bU ho)=some (1,ho,1,0,1,0):=by
 obtain⟨k,rfl⟩:∃k,n=k+2:=⟨n-2,by omega⟩
 show af (fun go0 (s:nO)=>AP (k+2) go0 (bU ho) s.1 s.2.1 s.2.2.1 s.2.2.2.1 s.2.2.2.2.1 s.2.2.2.2.2.1 s.2.2.2.2.2.2.1 s.2.2.2.2.2.2.2.1 s.2.2.2.2.2.2.2.2.1 s.2.2.2.2.2.2.2.2.2) (k+2) ((0,0,0,(-1),0,0,0,(-1),0,0):nO)=_
 rw[ae];show(su (k+2) 0 (-1) 0 0 1 0 ho).bind _=_
 rw[Fx _ ho h];rw[bS];rfl
theorem Hb(n:Nat)(ho t:Int)(go:uB->Option oo):Cl n go (bU ho) t 0 1=bif !(decide (t<0))then go (1,1)else go (0,0):=by kernel_rfl
theorem Cn(n:Nat)(ho t:Int)(hn:20<=n)(h:0<=ho/\ho<=63)(ht:0<=t/\t<=10000000):lQ n (bU ho) t=some (1,ho,1,0,0):=by
 have e:xE n (bU ho) t=some (1,ho,1,0,true):=by
  show wB n (bU ho) t=_
  unfold wB;rw[uC n ho hn h];rw[bS];refine(bF' rfl).trans ?_
  rw[dT (by omega),nT (by omega)]
  obtain⟨k,rfl⟩:∃k,n=k+2:=⟨n-2,by omega⟩
  rw[ae];refine(Hb (k+2) ho t _).trans ?_
  rw[nF (by omega)]
  rw[ae];show(nb (k+2) (bU ho)).bind _=_
  rw[uC _ ho hn h];rw[bS]
 show(xE n (bU ho) t).bind _=_
 rw[e];rfl
def tlG(ask an co re:Int):Lv:=[[.int 1,.int ask,.int (ask+an)],[.int 3,.int (ask+an),.int (ask+an+co)],[.int 4,.int (ask+an+co),.int (ask+an+co+re)],[.int 5,.int (ask+an+co+re),.int (-1)]]
def tlR(ask an:Int):Lv:=[[.int 1,.int ask,.int (ask+an)],[.int 6,.int ask,.int (-1)]]
theorem L3(n:Nat)(an co re ask:Int)(hn:20<=n)(r1:1<=an/\an<=86400)(r2:1<=co/\co<=86400)(r4:1<=re/\re<=86400)(h6:0<=ask/\ask<=10000000):
  af (fun go0 (s:aH)=>cg n go0 co re s.1 s.2.1 s.2.2.2) n (([[AV.int 1,AV.int ask,AV.int (ask+an)]],1,ask,ask+an):aH)=some (tlG ask an co re,0):=by
 obtain⟨k,hk⟩:∃k,n=k+4:=⟨n-4,by omega⟩
 have key:∀(go:aH->Option aq) (l:Lv) (st nx:Int),l.length<=3->0<=nx->nx<=20000000->(st=1\/st=3\/st=4) →
   cg n go co re l st nx=go (if st=1 then(l++[[AV.int 3,AV.int nx,AV.int (nx+co)]],3,nx,nx+co)else if st=3 then(l++[[AV.int 4,AV.int nx,AV.int (nx+re)]],4,nx,nx+re)else(l++[[AV.int 5,AV.int nx,AV.int (-1)]],5,nx,-1)):=by
  intro go l st nx hl h0 h1 hs;unfold cg;rw[dT (by omega),dT (by omega)]
  rcases hs with rfl|rfl|rfl
  ·rw[dT rfl,inn (by omega) (by omega),dT (by omega)];rfl
  ·rw[dF (by omega),dF (by omega),dT rfl,inn (by omega) (by omega),dT (by omega)];rfl
  ·rw[dF (by omega),dF (by omega),dF (by omega),dT rfl,dT (by omega)];rfl
 generalize hS:(fun go0 (s:aH)=>cg n go0 co re s.1 s.2.1 s.2.2.2)=step
 have key':∀(go:aH->Option aq) (l:Lv) (st si nx:Int),l.length<=3->0<=nx->nx<=20000000->(st=1\/st=3\/st=4) →
   step go (l,st,si,nx)=go (if st=1 then(l++[[AV.int 3,AV.int nx,AV.int (nx+co)]],3,nx,nx+co)else if st=3 then(l++[[AV.int 4,AV.int nx,AV.int (nx+re)]],4,nx,nx+re)else(l++[[AV.int 5,AV.int nx,AV.int (-1)]],5,nx,-1)):=by
  intro go l st si nx;rw[<-hS];exact key go l st nx
 have kend:∀(go:aH->Option aq) (l:Lv) (st si:Int),step go (l,st,si,-1)=some (l,0):=by
  intro go l st si;rw[<-hS];show cg n go co re l st (-1)=_
  unfold cg;rw[dF (by omega)]
 subst hk;rw[ae,key' _ _ _ _ _ (by simp) (by omega) (by omega) (.inl rfl),if_pos rfl,ae,key' _ _ _ _ _ (by simp) (by omega) (by omega) (.inr (.inl rfl)),if_neg (by omega),if_pos rfl,ae,key' _ _ _ _ _ (by simp) (by omega) (by omega) (.inr (.inr rfl)),if_neg (by omega),if_neg (by omega),ae,kend]
 rfl
theorem yE(n:Nat)(an co se re nu fr to ho ask:Int)(b:Bool)(E:Lv)(hn:20<=n)(hr:Rul an co se re)(hc:Clm nu fr to ho ask)(hE:E=[]\/E=eI ask):
  jR n an co se re nu fr to ho ask b E=some (if E=[]\/b=true then tlG ask an co re else tlR ask an,0):=by
 have hte:=L3 n an co re ask hn hr.h1 hr.h2 hr.h4 hc.h6;have h6:=hc.h6;have r1:=hr.h1;show lj n an co se re nu fr to ho ask b E=_
 unfold lj;rw[va n an co se re nu fr to ho ask b E hn hr hc hE];rw[bS];unfold qw;rw[bnt,inn (by omega) (by omega)]
 obtain⟨k,hk⟩:∃k,n=k+2:=⟨n-2,by omega⟩
 rcases hE with rfl|rfl
 ·rw[if_pos (.inl rfl)]
  rw[<-hte];conv=>lhs;arg 2;rw[hk]
  rw[ae];rfl
 ·have h0:∀(go0:bj->Option aq) (go1:aH->Option aq),fF n go0 go1 co se re b (eI ask) 0 ([]:Lv) [[AV.int 1,AV.int ask,AV.int (ask+an)]] 1 ask (ask+an) =
    (bif b==true then go0 (1,[[AV.int 0]],[[AV.int 1,AV.int ask,AV.int (ask+an)]],1,ask,ask+an)else go0 (1,[],tlR ask an,6,ask,-1)):=by
   intro go0 go1;unfold fF;rw[dT (by omega)]
   unfold qk;rw[show cI (eI ask) 0 1=ask from rfl,dF (by omega)]
   kernel_rfl
  conv=>lhs;arg 2;rw[hk]
  rw[ae];show af (fun go1 (s:aH)=>fF n _ go1 co se re b (eI ask) 0 ([]:Lv) s.1 s.2.1 s.2.2.1 s.2.2.2) n (([[AV.int 1,AV.int ask,AV.int (ask+an)]],1,ask,ask+an):aH)=_
  conv=>lhs;arg 2;rw[hk]
  rw[ae];show fF n _ _ co se re b (eI ask) 0 ([]:Lv) [[AV.int 1,AV.int ask,AV.int (ask+an)]] 1 ask (ask+an)=_
  rw[h0];cases b with
  |true=>
   rw[if_pos (.inr rfl),<-hte];show af (fun go0 (s:bj)=>kW n go0 co se re true (eI ask) s.1 s.2.1 s.2.2.1 s.2.2.2.1 s.2.2.2.2.1 s.2.2.2.2.2) (k+1) (1,[[AV.int 0]],[[AV.int 1,AV.int ask,AV.int (ask+an)]],1,ask,ask+an)=_
   rw[ae];rfl
  |false=>
   rw[if_neg (by rintro (h|h)<;>cases h)]
   show af (fun go0 (s:bj)=>kW n go0 co se re false (eI ask) s.1 s.2.1 s.2.2.1 s.2.2.2.1 s.2.2.2.2.1 s.2.2.2.2.2) (k+1) (1,[],tlR ask an,6,ask,-1)=_
   rw[ae];show af (fun go0 (s:aH)=>cg n go0 co re s.1 s.2.1 s.2.2.2) n (tlR ask an,6,ask,-1)=_
   conv=>lhs;arg 2;rw[hk]
   rw[ae];rfl
end
end Go.Proofs.YtkgphkdlbjinmaaGreatDoor
namespace Go.Proofs.YtkgphkdlbjinmaaGreatDoor
open Go Go.Sx
noncomputable section
def Gz:List Nat:=[3,4,5,6,7,8,9,10,11,12,13,14,15,16,17,18,19,20,21,22,23,24,25,26,27,28,31,33,34,35,37,39,40,41,42,43,44,45,60,61,65,67,68,72,74,75,78,80,81,83,84,86,87,88,91,93,102,108,113,114,115,119,121,129,137,141,153,155,156,162,163,173,2000291,3000170]
abbrev jd:=Int×Int
abbrev dK:=Int×Int
def mG(n:Nat)(go0:dK->Option jd)(v2 v3 v4 v5:Int)(v7:Lv)(v9 v10:Int):Option jd:=
 (bif v10<(v7.length:Int) then bif 0<=v10 then(pv n v2 v3 v4 v5 (cI v7 v10 0) (cI v7 v10 1) (cI v7 v10 2) (cI v7 v10 3) (cI v7 v10 4) (cB v7 v10 5)).bind fun y11=>
 bif(-9223372036854775808<=(v10+1))&&((v10+1)<=9223372036854775807)then go0 ((yK v9 y11.1),(v10+1))else none else none else some (v9,0))
def mE(n:Nat)(v0 v1 v2 v3 v4 v5:Int)(v6 v7:Lv):Option jd:=
 (kh n v0 v1 v2 v3 v4 v5 v6 v7).bind fun y8=>
 (bif(!y8)then some (0,170)else(af (fun go0 s=>mG n go0 v2 v3 v4 v5 v7 s.1 s.2) n ((0,0):dK)))
def oR(n:Nat)(v0 v1 v2 v3 v4 v5:Int)(v6 v7:Lv):Option jd:=mE n v0 v1 v2 v3 v4 v5 v6 v7
def chain_Settled_t:FnT:=⟨[(true,[.int,.int,.int,.int,.int,.int,tSc,(.sl (.cons .int (.cons .int (.cons .int (.cons .int (.cons .int (.cons .bool (.cons tSc .nil))))))))])],(.tup (.cons .i (.cons .i .nil))),fun n (s:Int×Int×Int×Int×Int×Int×Lv×Lv)=>oR n s.1 s.2.1 s.2.2.1 s.2.2.2.1 s.2.2.2.2.1 s.2.2.2.2.2.1 s.2.2.2.2.2.2.1 s.2.2.2.2.2.2.2⟩
theorem zm:chain_Settled_t.ok Tryz.prog 12:=FnT.ok_of (cfg:=⟨[((12,5,1),.inv [(.tmp 4 .int),(.tmp 15 .int)])],Gz,[],az⟩) aT ln be (fun s fn hf=>by rw[Tryz.func12]at hf;cases hf;kernel_rfl) (fun n s=>by kernel_rfl)
def chain_Settled_T:Tab:=(12,chain_Settled_t)::chain_happenings_T
theorem od:chain_Settled_T.ok Tryz.prog:=Tab.ok_cons zm ln
abbrev aD:=Int×Lv×Int
abbrev bT:=Int×Int×Int×Int×Int×Lv×Int×Lv
abbrev bZ:=Int
abbrev sM:=Bool×Int×Int×Int×Lv×Int×Lv
def xZ(n:Nat)(go0:bT->Option aD)(go1:bZ->Option aD)(v1:Int)(v7:Lv)(v8:Int)(v10:Lv)(v12:Int)(v16:Lv)(v17:Int)(v18:Lv)(v20 v21:Int):Option aD:=
 (bif v20=1 then(bif v21=(cI v7 (cI v10 v12 1) 3) then bif (((v18.length:Int)+1)*8)<=140737488355328 then bif 0<=((v18.length:Int)+1) then(bif 0<((v18.length:Int)+1) then bif(-9223372036854775808<=(((v18.length:Int)+1)-1))&&((((v18.length:Int)+1)-1)<=9223372036854775807)then bif 0<=(((v18.length:Int)+1)-1) then bif (((v18.length:Int)+1)-1)<((v18.length:Int)+1) then bif 0<=(cI (v18++[[(AV.int (cI v10 v12 1))]]) (((v18.length:Int)+1)-1) 0) then bif (cI (v18++[[(AV.int (cI v10 v12 1))]]) (((v18.length:Int)+1)-1) 0)<(v7.length:Int) then(bif v8<(cI v10 v12 0) then some (v17,v16,0)else bif(-9223372036854775808<=(v12+1))&&((v12+1)<=9223372036854775807)then go0 ((cI v7 (cI (v18++[[(AV.int (cI v10 v12 1))]]) (((v18.length:Int)+1)-1) 0) 2),(v12+1),(cI v10 v12 0),(cI v10 v12 1),1,(M9 (Nb (((v18.length:Int)+1)).toNat [(AV.int 0)]).length (v18++[[(AV.int (cI v10 v12 1))]])++Nd (v18++[[(AV.int (cI v10 v12 1))]]).length (Nb (((v18.length:Int)+1)).toNat [(AV.int 0)])),(cI v7 (cI (v18++[[(AV.int (cI v10 v12 1))]]) (((v18.length:Int)+1)-1) 0) 2),(v18++[[(AV.int (cI v10 v12 1))]]))else none)else none else none else none else none else none else(bif v8<(cI v10 v12 0) then some (v17,v16,0)else bif(-9223372036854775808<=(v12+1))&&((v12+1)<=9223372036854775807)then go0 (v1,(v12+1),(cI v10 v12 0),(cI v10 v12 1),1,(M9 (Nb (((v18.length:Int)+1)).toNat [(AV.int 0)]).length (v18++[[(AV.int (cI v10 v12 1))]])++Nd (v18++[[(AV.int (cI v10 v12 1))]]).length (Nb (((v18.length:Int)+1)).toNat [(AV.int 0)])),v1,(v18++[[(AV.int (cI v10 v12 1))]]))else none))else none else none else bif 0<=(v18.length:Int) then bif ((v18.length:Int)*8)<=140737488355328 then(bif 0<(v18.length:Int) then bif(-9223372036854775808<=((v18.length:Int)-1))&&(((v18.length:Int)-1)<=9223372036854775807)then bif 0<=((v18.length:Int)-1) then bif ((v18.length:Int)-1)<(v18.length:Int) then bif 0<=(cI v18 ((v18.length:Int)-1) 0) then bif (cI v18 ((v18.length:Int)-1) 0)<(v7.length:Int) then(bif v8<(cI v10 v12 0) then some (v17,v16,0)else bif(-9223372036854775808<=(v12+1))&&((v12+1)<=9223372036854775807)then go0 ((cI v7 (cI v18 ((v18.length:Int)-1) 0) 2),(v12+1),(cI v10 v12 0),(cI v10 v12 1),2,(M9 (Nb ((v18.length:Int)).toNat [(AV.int 0)]).length v18++Nd v18.length (Nb ((v18.length:Int)).toNat [(AV.int 0)])),(cI v7 (cI v18 ((v18.length:Int)-1) 0) 2),v18)else none)else none else none else none else none else none else(bif v8<(cI v10 v12 0) then some (v17,v16,0)else bif(-9223372036854775808<=(v12+1))&&((v12+1)<=9223372036854775807)then go0 (v1,(v12+1),(cI v10 v12 0),(cI v10 v12 1),2,(M9 (Nb ((v18.length:Int)).toNat [(AV.int 0)]).length v18++Nd v18.length (Nb ((v18.length:Int)).toNat [(AV.int 0)])),v1,v18)else none))else none else none)else bif 0<=(v18.length:Int) then bif ((v18.length:Int)*8)<=140737488355328 then(bif 0<(v18.length:Int) then bif(-9223372036854775808<=((v18.length:Int)-1))&&(((v18.length:Int)-1)<=9223372036854775807)then bif 0<=((v18.length:Int)-1) then bif ((v18.length:Int)-1)<(v18.length:Int) then bif 0<=(cI v18 ((v18.length:Int)-1) 0) then bif (cI v18 ((v18.length:Int)-1) 0)<(v7.length:Int) then(bif v8<(cI v10 v12 0) then some (v17,v16,0)else bif(-9223372036854775808<=(v12+1))&&((v12+1)<=9223372036854775807)then go0 ((cI v7 (cI v18 ((v18.length:Int)-1) 0) 2),(v12+1),(cI v10 v12 0),(cI v10 v12 1),2,(M9 (Nb ((v18.length:Int)).toNat [(AV.int 0)]).length v18++Nd v18.length (Nb ((v18.length:Int)).toNat [(AV.int 0)])),(cI v7 (cI v18 ((v18.length:Int)-1) 0) 2),v18)else none)else none else none else none else none else none else(bif v8<(cI v10 v12 0) then some (v17,v16,0)else bif(-9223372036854775808<=(v12+1))&&((v12+1)<=9223372036854775807)then go0 (v1,(v12+1),(cI v10 v12 0),(cI v10 v12 1),2,(M9 (Nb ((v18.length:Int)).toNat [(AV.int 0)]).length v18++Nd v18.length (Nb ((v18.length:Int)).toNat [(AV.int 0)])),v1,v18)else none))else none else none)
def mb(n:Nat)(go0:bT->Option aD)(go1:bZ->Option aD)(v1:Int)(v7:Lv)(v8:Int)(v10:Lv)(v11 v12:Int)(v16:Lv)(v17:Int)(v18:Lv)(v20 v21:Int):Option aD:=
 (bif v11=(cI v7 (cI v10 v12 1) 1) then xZ n go0 go1 v1 v7 v8 v10 v12 v16 v17 v18 v20 v21 else bif 0<=(v18.length:Int) then bif ((v18.length:Int)*8)<=140737488355328 then(bif 0<(v18.length:Int) then bif(-9223372036854775808<=((v18.length:Int)-1))&&(((v18.length:Int)-1)<=9223372036854775807)then bif 0<=((v18.length:Int)-1) then bif ((v18.length:Int)-1)<(v18.length:Int) then bif 0<=(cI v18 ((v18.length:Int)-1) 0) then bif (cI v18 ((v18.length:Int)-1) 0)<(v7.length:Int) then(bif v8<(cI v10 v12 0) then some (v17,v16,0)else bif(-9223372036854775808<=(v12+1))&&((v12+1)<=9223372036854775807)then go0 ((cI v7 (cI v18 ((v18.length:Int)-1) 0) 2),(v12+1),(cI v10 v12 0),(cI v10 v12 1),2,(M9 (Nb ((v18.length:Int)).toNat [(AV.int 0)]).length v18++Nd v18.length (Nb ((v18.length:Int)).toNat [(AV.int 0)])),(cI v7 (cI v18 ((v18.length:Int)-1) 0) 2),v18)else none)else none else none else none else none else none else(bif v8<(cI v10 v12 0) then some (v17,v16,0)else bif(-9223372036854775808<=(v12+1))&&((v12+1)<=9223372036854775807)then go0 (v1,(v12+1),(cI v10 v12 0),(cI v10 v12 1),2,(M9 (Nb ((v18.length:Int)).toNat [(AV.int 0)]).length v18++Nd v18.length (Nb ((v18.length:Int)).toNat [(AV.int 0)])),v1,v18)else none))else none else none)
def Ft(n:Nat)(go0:bT->Option aD)(go1:sM->Option aD)(v1:Int)(v7:Lv)(v8:Int)(v10:Lv)(v12 v19 v21 v22 v23:Int)(v24:Lv)(v25:Int)(v26:Lv):Option aD:=
 (bif v19<(v26.length:Int) then bif(-9223372036854775808<=((v26.length:Int)-1))&&(((v26.length:Int)-1)<=9223372036854775807)then bif 0<=((v26.length:Int)-1) then bif ((v26.length:Int)-1)<(v26.length:Int) then(bif (cI v26 ((v26.length:Int)-1) 0)=(cI v10 v12 1) then bif ((v26.length:Int)-1)<=(v26.length:Int) then bif 0<=((M9 (((v26.length:Int)-1)).toNat v26).length:Int) then bif (((M9 (((v26.length:Int)-1)).toNat v26).length:Int)*8)<=140737488355328 then(bif 0<((M9 (((v26.length:Int)-1)).toNat v26).length:Int) then bif(-9223372036854775808<=(((M9 (((v26.length:Int)-1)).toNat v26).length:Int)-1))&&((((M9 (((v26.length:Int)-1)).toNat v26).length:Int)-1)<=9223372036854775807)then bif 0<=(((M9 (((v26.length:Int)-1)).toNat v26).length:Int)-1) then bif (((M9 (((v26.length:Int)-1)).toNat v26).length:Int)-1)<((M9 (((v26.length:Int)-1)).toNat v26).length:Int) then bif 0<=(cI (M9 (((v26.length:Int)-1)).toNat v26) (((M9 (((v26.length:Int)-1)).toNat v26).length:Int)-1) 0) then bif (cI (M9 (((v26.length:Int)-1)).toNat v26) (((M9 (((v26.length:Int)-1)).toNat v26).length:Int)-1) 0)<(v7.length:Int) then(bif v8<(cI v10 v12 0) then some (v25,v24,0)else go1 (true,(cI v10 v12 0),(cI v26 ((v26.length:Int)-1) 0),3,(M9 (Nb (((M9 (((v26.length:Int)-1)).toNat v26).length:Int)).toNat [(AV.int 0)]).length (M9 (((v26.length:Int)-1)).toNat v26)++Nd (M9 (((v26.length:Int)-1)).toNat v26).length (Nb (((M9 (((v26.length:Int)-1)).toNat v26).length:Int)).toNat [(AV.int 0)])),(cI v7 (cI (M9 (((v26.length:Int)-1)).toNat v26) (((M9 (((v26.length:Int)-1)).toNat v26).length:Int)-1) 0) 2),(M9 (((v26.length:Int)-1)).toNat v26)))else none else none else none else none else none else(bif v8<(cI v10 v12 0) then some (v25,v24,0)else go1 (true,(cI v10 v12 0),(cI v26 ((v26.length:Int)-1) 0),3,(M9 (Nb (((M9 (((v26.length:Int)-1)).toNat v26).length:Int)).toNat [(AV.int 0)]).length (M9 (((v26.length:Int)-1)).toNat v26)++Nd (M9 (((v26.length:Int)-1)).toNat v26).length (Nb (((M9 (((v26.length:Int)-1)).toNat v26).length:Int)).toNat [(AV.int 0)])),v1,(M9 (((v26.length:Int)-1)).toNat v26))))else none else none else none else bif ((v26.length:Int)-1)<=(v26.length:Int) then bif 0<=((M9 (((v26.length:Int)-1)).toNat v26).length:Int) then bif (((M9 (((v26.length:Int)-1)).toNat v26).length:Int)*8)<=140737488355328 then(bif 0<((M9 (((v26.length:Int)-1)).toNat v26).length:Int) then bif(-9223372036854775808<=(((M9 (((v26.length:Int)-1)).toNat v26).length:Int)-1))&&((((M9 (((v26.length:Int)-1)).toNat v26).length:Int)-1)<=9223372036854775807)then bif 0<=(((M9 (((v26.length:Int)-1)).toNat v26).length:Int)-1) then bif (((M9 (((v26.length:Int)-1)).toNat v26).length:Int)-1)<((M9 (((v26.length:Int)-1)).toNat v26).length:Int) then bif 0<=(cI (M9 (((v26.length:Int)-1)).toNat v26) (((M9 (((v26.length:Int)-1)).toNat v26).length:Int)-1) 0) then bif (cI (M9 (((v26.length:Int)-1)).toNat v26) (((M9 (((v26.length:Int)-1)).toNat v26).length:Int)-1) 0)<(v7.length:Int) then(bif v8<(cI v10 v12 0) then some (v25,v24,0)else go1 (true,(cI v10 v12 0),(cI v26 ((v26.length:Int)-1) 0),4,(M9 (Nb (((M9 (((v26.length:Int)-1)).toNat v26).length:Int)).toNat [(AV.int 0)]).length (M9 (((v26.length:Int)-1)).toNat v26)++Nd (M9 (((v26.length:Int)-1)).toNat v26).length (Nb (((M9 (((v26.length:Int)-1)).toNat v26).length:Int)).toNat [(AV.int 0)])),(cI v7 (cI (M9 (((v26.length:Int)-1)).toNat v26) (((M9 (((v26.length:Int)-1)).toNat v26).length:Int)-1) 0) 2),(M9 (((v26.length:Int)-1)).toNat v26)))else none else none else none else none else none else(bif v8<(cI v10 v12 0) then some (v25,v24,0)else go1 (true,(cI v10 v12 0),(cI v26 ((v26.length:Int)-1) 0),4,(M9 (Nb (((M9 (((v26.length:Int)-1)).toNat v26).length:Int)).toNat [(AV.int 0)]).length (M9 (((v26.length:Int)-1)).toNat v26)++Nd (M9 (((v26.length:Int)-1)).toNat v26).length (Nb (((M9 (((v26.length:Int)-1)).toNat v26).length:Int)).toNat [(AV.int 0)])),v1,(M9 (((v26.length:Int)-1)).toNat v26))))else none else none else none)else none else none else none else(bif 0<(v26.length:Int) then bif(-9223372036854775808<=((v26.length:Int)-1))&&(((v26.length:Int)-1)<=9223372036854775807)then bif 0<=((v26.length:Int)-1) then bif ((v26.length:Int)-1)<(v26.length:Int) then bif 0<=(cI v26 ((v26.length:Int)-1) 0) then bif (cI v26 ((v26.length:Int)-1) 0)<(v7.length:Int) then bif(-9223372036854775808<=(v12+1))&&((v12+1)<=9223372036854775807)then go0 ((cI v7 (cI v26 ((v26.length:Int)-1) 0) 2),(v12+1),v21,v22,v23,v24,v25,v26)else none else none else none else none else none else none else bif(-9223372036854775808<=(v12+1))&&((v12+1)<=9223372036854775807)then go0 (v1,(v12+1),v21,v22,v23,v24,v25,v26)else none))
def Fl(n:Nat)(go0:bT->Option aD)(go1:sM->Option aD)(v1:Int)(v7:Lv)(v8:Int)(v10:Lv)(v12 v19:Int)(v20:Bool)(v21 v22 v23:Int)(v24:Lv)(v25:Int)(v26:Lv):Option aD:=
 (bif v20 then Ft n go0 go1 v1 v7 v8 v10 v12 v19 v21 v22 v23 v24 v25 v26 else some (v25,v24,0))
def F9(n:Nat)(go0:bT->Option aD)(go1:bZ->Option aD)(v1:Int)(v7:Lv)(v8:Int)(v10:Lv)(v12 v13 v14 v15:Int)(v16:Lv)(v17:Int)(v18:Lv)(v19:Int):Option aD:=
 (bif v19<0 then bif 0<=(v18.length:Int) then bif ((v18.length:Int)*8)<=140737488355328 then(bif 0<(v18.length:Int) then bif(-9223372036854775808<=((v18.length:Int)-1))&&(((v18.length:Int)-1)<=9223372036854775807)then bif 0<=((v18.length:Int)-1) then bif ((v18.length:Int)-1)<(v18.length:Int) then bif 0<=(cI v18 ((v18.length:Int)-1) 0) then bif (cI v18 ((v18.length:Int)-1) 0)<(v7.length:Int) then(bif v8<(cI v10 v12 0) then some (v17,v16,0)else bif(-9223372036854775808<=(v12+1))&&((v12+1)<=9223372036854775807)then go0 ((cI v7 (cI v18 ((v18.length:Int)-1) 0) 2),(v12+1),(cI v10 v12 0),(cI v10 v12 1),5,(M9 (Nb ((v18.length:Int)).toNat [(AV.int 0)]).length v18++Nd v18.length (Nb ((v18.length:Int)).toNat [(AV.int 0)])),(cI v7 (cI v18 ((v18.length:Int)-1) 0) 2),v18)else none)else none else none else none else none else none else(bif v8<(cI v10 v12 0) then some (v17,v16,0)else bif(-9223372036854775808<=(v12+1))&&((v12+1)<=9223372036854775807)then go0 (v1,(v12+1),(cI v10 v12 0),(cI v10 v12 1),5,(M9 (Nb ((v18.length:Int)).toNat [(AV.int 0)]).length v18++Nd v18.length (Nb ((v18.length:Int)).toNat [(AV.int 0)])),v1,v18)else none))else none else none else(af (fun go1 s=>Fl n go0 go1 v1 v7 v8 v10 v12 v19 s.1 s.2.1 s.2.2.1 s.2.2.2.1 s.2.2.2.2.1 s.2.2.2.2.2.1 s.2.2.2.2.2.2) n ((true,v13,v14,v15,v16,v17,v18):sM)))
def GX(n:Nat)(go0:bT->Option aD)(go1:bZ->Option aD)(v1:Int)(v6 v7:Lv)(v8:Int)(v10:Lv)(v11 v12 v13 v14 v15:Int)(v16:Lv)(v17:Int)(v18:Lv)(v19:Int):Option aD:=
 (bif(!(cB v10 v12 2))then(lQ n v6 (b9 (cI v10 v12 0) 10000000)).bind fun y20=>
 mb n go0 go1 v1 v7 v8 v10 v11 v12 v16 v17 v18 y20.1 y20.2.1 else F9 n go0 go1 v1 v7 v8 v10 v12 v13 v14 v15 v16 v17 v18 v19)
def HM(n:Nat)(go0:bT->Option aD)(go1:bZ->Option aD)(v1:Int)(v6 v7:Lv)(v8:Int)(v10:Lv)(v11 v12 v13 v14 v15:Int)(v16:Lv)(v17:Int)(v18:Lv)(v19:Int):Option aD:=
 (bif (cI v10 v12 1)=(cI v18 v19 0) then bif 0<=(cI v10 v12 1) then bif (cI v10 v12 1)<(v7.length:Int) then GX n go0 go1 v1 v6 v7 v8 v10 v11 v12 v13 v14 v15 v16 v17 v18 v19 else none else none else bif(-9223372036854775808<=(v19+1))&&((v19+1)<=9223372036854775807)then go1 (v19+1)else none)
abbrev FF:= @mb
def Gi(n:Nat)(go0:bT->Option aD)(go1:bZ->Option aD)(v1:Int)(v6 v7:Lv)(v8:Int)(v10:Lv)(v11 v12:Int)(v16:Lv)(v17:Int)(v18:Lv):Option aD:=
 (bif(!(cB v10 v12 2))then(lQ n v6 (b9 (cI v10 v12 0) 10000000)).bind fun y20=>
 FF n go0 go1 v1 v7 v8 v10 v11 v12 v16 v17 v18 y20.1 y20.2.1 else bif 0<=(v18.length:Int) then bif ((v18.length:Int)*8)<=140737488355328 then(bif 0<(v18.length:Int) then bif(-9223372036854775808<=((v18.length:Int)-1))&&(((v18.length:Int)-1)<=9223372036854775807)then bif 0<=((v18.length:Int)-1) then bif ((v18.length:Int)-1)<(v18.length:Int) then bif 0<=(cI v18 ((v18.length:Int)-1) 0) then bif (cI v18 ((v18.length:Int)-1) 0)<(v7.length:Int) then(bif v8<(cI v10 v12 0) then some (v17,v16,0)else bif(-9223372036854775808<=(v12+1))&&((v12+1)<=9223372036854775807)then go0 ((cI v7 (cI v18 ((v18.length:Int)-1) 0) 2),(v12+1),(cI v10 v12 0),(cI v10 v12 1),5,(M9 (Nb ((v18.length:Int)).toNat [(AV.int 0)]).length v18++Nd v18.length (Nb ((v18.length:Int)).toNat [(AV.int 0)])),(cI v7 (cI v18 ((v18.length:Int)-1) 0) 2),v18)else none)else none else none else none else none else none else(bif v8<(cI v10 v12 0) then some (v17,v16,0)else bif(-9223372036854775808<=(v12+1))&&((v12+1)<=9223372036854775807)then go0 (v1,(v12+1),(cI v10 v12 0),(cI v10 v12 1),5,(M9 (Nb ((v18.length:Int)).toNat [(AV.int 0)]).length v18++Nd v18.length (Nb ((v18.length:Int)).toNat [(AV.int 0)])),v1,v18)else none))else none else none)
def pN(n:Nat)(go0:bT->Option aD)(go1:bZ->Option aD)(v1:Int)(v6 v7:Lv)(v8:Int)(v10:Lv)(v11 v12 v13 v14 v15:Int)(v16:Lv)(v17:Int)(v18:Lv)(v19:Int):Option aD:=
 (bif v19<(v18.length:Int) then bif 0<=v19 then HM n go0 go1 v1 v6 v7 v8 v10 v11 v12 v13 v14 v15 v16 v17 v18 v19 else none else bif 0<=(cI v10 v12 1) then bif (cI v10 v12 1)<(v7.length:Int) then Gi n go0 go1 v1 v6 v7 v8 v10 v11 v12 v16 v17 v18 else none else none)
def Al(n:Nat)(go0:bT->Option aD)(v1:Int)(v6 v7:Lv)(v8:Int)(v10:Lv)(v11 v12 v13 v14 v15:Int)(v16:Lv)(v17:Int)(v18:Lv):Option aD:=
 (bif v12<(v10.length:Int) then bif 0<=v12 then(af (fun go1 s=>pN n go0 go1 v1 v6 v7 v8 v10 v11 v12 v13 v14 v15 v16 v17 v18 s) n (0:bZ))else none else some (v17,v16,0))
def zX(n:Nat)(v0 v1 v2 v3 v4 v5:Int)(v6 v7:Lv)(v8:Int):Option aD:=
 (bif !(v8<=20000000)then some (0,([]:Lv),170)else(hX n v0 v1 v2 v3 v4 v5 v6 v7).bind fun y10=>
 (af (fun go0 s=>Al n go0 v1 v6 v7 v8 y10 s.1 s.2.1 s.2.2.1 s.2.2.2.1 s.2.2.2.2.1 s.2.2.2.2.2.1 s.2.2.2.2.2.2.1 s.2.2.2.2.2.2.2) n ((v1,0,0,0,0,([]:Lv),v1,([]:Lv)):bT)))
def ur(n:Nat)(v0 v1 v2 v3 v4 v5:Int)(v6 v7:Lv)(v8:Int):Option aD:=
 (bif 0<=v8 then zX n v0 v1 v2 v3 v4 v5 v6 v7 v8 else some (0,([]:Lv),170))
def HB(n:Nat)(v0 v1 v2 v3 v4 v5:Int)(v6 v7:Lv)(v8:Int)(v9:Bool):Option aD:=
 (bif(!v9)then some (0,([]:Lv),170)else ur n v0 v1 v2 v3 v4 v5 v6 v7 v8)
def tW(n:Nat)(v0 v1 v2 v3 v4 v5:Int)(v6 v7:Lv)(v8:Int):Option aD:=
 (kh n v0 v1 v2 v3 v4 v5 v6 v7).bind fun y9=>
 HB n v0 v1 v2 v3 v4 v5 v6 v7 v8 y9
def qH(n:Nat)(v0 v1 v2 v3 v4 v5:Int)(v6 v7:Lv)(v8:Int):Option aD:=tW n v0 v1 v2 v3 v4 v5 v6 v7 v8
def chain_At_t:FnT:=⟨[(true,[.int,.int,.int,.int,.int,.int,tSc,(.sl (.cons .int (.cons .int (.cons .int (.cons .int (.cons .int (.cons .bool (.cons tSc .nil))))))))]),(false,[.int])],(.tup (.cons .i (.cons (.row 3 (.cons .int .nil)) (.cons .i .nil)))),fun n (s:Int×Int×Int×Int×Int×Int×Lv×Lv×Int)=>qH n s.1 s.2.1 s.2.2.1 s.2.2.2.1 s.2.2.2.2.1 s.2.2.2.2.2.1 s.2.2.2.2.2.2.1 s.2.2.2.2.2.2.2.1 s.2.2.2.2.2.2.2.2⟩
theorem F8:chain_At_t.ok Tryz.prog 13:=FnT.ok_of (cfg:=⟨[((63,5,9),.inv [(.tmp 5 .int),(.tmp 22 .int),(.cell 2 0 .int),(.cell 2 1 .int),(.cell 2 2 .int),(.cellrow 2 3 3 (.cons .int .nil)),(.cell 2 4 .int),(.cellrow 7 0 3 (.cons .int .nil))]),((66,2,19),.inv [(.tmp 8 .int)]),((63,10,22),.inv [(.tmp 10 .bool),(.cell 2 0 .int),(.cell 2 1 .int),(.cell 2 2 .int),(.cellrow 2 3 3 (.cons .int .nil)),(.cell 2 4 .int),(.cellrow 7 0 3 (.cons .int .nil))])],Gz,[(63,15),(31,8)],az⟩) aT od be (fun s fn hf=>by rw[Tryz.func13]at hf;cases hf;kernel_rfl) (fun n s=>by kernel_rfl)
def chain_At_T:Tab:=(13,chain_At_t)::chain_Settled_T
theorem vm:chain_At_T.ok Tryz.prog:=Tab.ok_cons F8 od
def JW:List Nat:=[27,65,67,2000291,3000170]
abbrev ab:=Lv×Int
abbrev av:=Int×Int×Lv×Lv
abbrev bi:=Int×Lv
abbrev aJ:=Int
abbrev cF:=Bool×Lv×Lv
def iz(n:Nat)(go0:av->Option ab)(go1:bi->Option ab)(v9:Lv)(v11:Int)(v12:Lv):Option ab:=
 bif 0<=((v12.length:Int)-1) then bif ((v12.length:Int)-1)<(v12.length:Int) then(bif (cI v12 ((v12.length:Int)-1) 1)=(cI v9 v11 0) then bif ((v12.length:Int)-1)<=(v12.length:Int) then bif(-9223372036854775808<=(((v12.length:Int)-1)-1))&&((((v12.length:Int)-1)-1)<=9223372036854775807)then go1 ((((v12.length:Int)-1)-1),(M9 (((v12.length:Int)-1)).toNat v12))else none else none else go1 (((v12.length:Int)-1),(Nc v12 (((v12.length:Int)-1)).toNat (fun r=>r.set 2 (AV.int (cI v9 v11 0))))))else none else none
def ik(n:Nat)(go0:av->Option ab)(go1:aJ->Option ab)(v7 v9:Lv)(v11:Int)(v13:Lv)(v20:Int)(v21:Lv):Option ab:=
 (bif v20<0 then bif (((v21.length:Int)+1)*24)<=140737488355328 then bif(-9223372036854775808<=(v11+1))&&((v11+1)<=9223372036854775807)then go0 ((cI v7 (cI (v13++[[(AV.int (cI v9 v11 1))]]) (((v13.length:Int)+1)-1) 0) 2),(v11+1),(v21++[[(AV.int (cI v7 (cI (v13++[[(AV.int (cI v9 v11 1))]]) (((v13.length:Int)+1)-1) 0) 2)),(AV.int (cI v9 v11 0)),(AV.int 0)]]),(v13++[[(AV.int (cI v9 v11 1))]]))else none else none else bif 0<=v20 then bif v20<(v21.length:Int) then(bif !((cI v21 v20 0)=(cI v7 (cI (v13++[[(AV.int (cI v9 v11 1))]]) (((v13.length:Int)+1)-1) 0) 2))then bif (((v21.length:Int)+1)*24)<=140737488355328 then bif(-9223372036854775808<=(v11+1))&&((v11+1)<=9223372036854775807)then go0 ((cI v7 (cI (v13++[[(AV.int (cI v9 v11 1))]]) (((v13.length:Int)+1)-1) 0) 2),(v11+1),(v21++[[(AV.int (cI v7 (cI (v13++[[(AV.int (cI v9 v11 1))]]) (((v13.length:Int)+1)-1) 0) 2)),(AV.int (cI v9 v11 0)),(AV.int 0)]]),(v13++[[(AV.int (cI v9 v11 1))]]))else none else none else bif(-9223372036854775808<=(v11+1))&&((v11+1)<=9223372036854775807)then go0 ((cI v7 (cI (v13++[[(AV.int (cI v9 v11 1))]]) (((v13.length:Int)+1)-1) 0) 2),(v11+1),v21,(v13++[[(AV.int (cI v9 v11 1))]]))else none)else none else none)
abbrev ze:= @iz
def zl(n:Nat)(go0:av->Option ab)(go1:aJ->Option ab)(v1:Int)(v9:Lv)(v11:Int)(v13:Lv)(v20:Int)(v21:Lv):Option ab:=
 (bif v20<0 then bif (((v21.length:Int)+1)*24)<=140737488355328 then bif(-9223372036854775808<=(v11+1))&&((v11+1)<=9223372036854775807)then go0 (v1,(v11+1),(v21++[[(AV.int v1),(AV.int (cI v9 v11 0)),(AV.int 0)]]),(v13++[[(AV.int (cI v9 v11 1))]]))else none else none else bif 0<=v20 then bif v20<(v21.length:Int) then(bif !((cI v21 v20 0)=v1)then bif (((v21.length:Int)+1)*24)<=140737488355328 then bif(-9223372036854775808<=(v11+1))&&((v11+1)<=9223372036854775807)then go0 (v1,(v11+1),(v21++[[(AV.int v1),(AV.int (cI v9 v11 0)),(AV.int 0)]]),(v13++[[(AV.int (cI v9 v11 1))]]))else none else none else bif(-9223372036854775808<=(v11+1))&&((v11+1)<=9223372036854775807)then go0 (v1,(v11+1),v21,(v13++[[(AV.int (cI v9 v11 1))]]))else none)else none else none)
def kZ(n:Nat)(go0:av->Option ab)(go1:aJ->Option ab)(v1:Int)(v7 v9:Lv)(v11:Int)(v12 v13:Lv):Option ab:=
 (bif 0<((v13.length:Int)+1) then bif(-9223372036854775808<=(((v13.length:Int)+1)-1))&&((((v13.length:Int)+1)-1)<=9223372036854775807)then bif 0<=(((v13.length:Int)+1)-1) then bif (((v13.length:Int)+1)-1)<((v13.length:Int)+1) then bif 0<=(cI (v13++[[(AV.int (cI v9 v11 1))]]) (((v13.length:Int)+1)-1) 0) then bif (cI (v13++[[(AV.int (cI v9 v11 1))]]) (((v13.length:Int)+1)-1) 0)<(v7.length:Int) then bif(-9223372036854775808<=((v12.length:Int)-1))&&(((v12.length:Int)-1)<=9223372036854775807)then(kO (fun(go1:bi->Option ab)=>iz n go0 go1 v9 v11 v12)
 (fun(s:bi)=>ik n go0 go1 v7 v9 v11 v13 s.1 s.2))else none else none else none else none else none else none else bif(-9223372036854775808<=((v12.length:Int)-1))&&(((v12.length:Int)-1)<=9223372036854775807)then(kO (fun(go1:bi->Option ab)=>ze n go0 go1 v9 v11 v12)
 (fun(s:bi)=>zl n go0 go1 v1 v9 v11 v13 s.1 s.2))else none)
abbrev zJ:= @iz
def zL(n:Nat)(go0:av->Option ab)(go1:aJ->Option ab)(v7 v9:Lv)(v11:Int)(v13:Lv)(v20:Int)(v21:Lv):Option ab:=
 (bif v20<0 then bif (((v21.length:Int)+1)*24)<=140737488355328 then bif(-9223372036854775808<=(v11+1))&&((v11+1)<=9223372036854775807)then go0 ((cI v7 (cI v13 ((v13.length:Int)-1) 0) 2),(v11+1),(v21++[[(AV.int (cI v7 (cI v13 ((v13.length:Int)-1) 0) 2)),(AV.int (cI v9 v11 0)),(AV.int 0)]]),v13)else none else none else bif 0<=v20 then bif v20<(v21.length:Int) then(bif !((cI v21 v20 0)=(cI v7 (cI v13 ((v13.length:Int)-1) 0) 2))then bif (((v21.length:Int)+1)*24)<=140737488355328 then bif(-9223372036854775808<=(v11+1))&&((v11+1)<=9223372036854775807)then go0 ((cI v7 (cI v13 ((v13.length:Int)-1) 0) 2),(v11+1),(v21++[[(AV.int (cI v7 (cI v13 ((v13.length:Int)-1) 0) 2)),(AV.int (cI v9 v11 0)),(AV.int 0)]]),v13)else none else none else bif(-9223372036854775808<=(v11+1))&&((v11+1)<=9223372036854775807)then go0 ((cI v7 (cI v13 ((v13.length:Int)-1) 0) 2),(v11+1),v21,v13)else none)else none else none)
abbrev yS:= @iz
def yQ(n:Nat)(go0:av->Option ab)(go1:aJ->Option ab)(v1:Int)(v9:Lv)(v11:Int)(v13:Lv)(v20:Int)(v21:Lv):Option ab:=
 (bif v20<0 then bif (((v21.length:Int)+1)*24)<=140737488355328 then bif(-9223372036854775808<=(v11+1))&&((v11+1)<=9223372036854775807)then go0 (v1,(v11+1),(v21++[[(AV.int v1),(AV.int (cI v9 v11 0)),(AV.int 0)]]),v13)else none else none else bif 0<=v20 then bif v20<(v21.length:Int) then(bif !((cI v21 v20 0)=v1)then bif (((v21.length:Int)+1)*24)<=140737488355328 then bif(-9223372036854775808<=(v11+1))&&((v11+1)<=9223372036854775807)then go0 (v1,(v11+1),(v21++[[(AV.int v1),(AV.int (cI v9 v11 0)),(AV.int 0)]]),v13)else none else none else bif(-9223372036854775808<=(v11+1))&&((v11+1)<=9223372036854775807)then go0 (v1,(v11+1),v21,v13)else none)else none else none)
def fx(n:Nat)(go0:av->Option ab)(go1:aJ->Option ab)(v1:Int)(v7 v9:Lv)(v11:Int)(v12 v13:Lv):Option ab:=
 (bif 0<(v13.length:Int) then bif(-9223372036854775808<=((v13.length:Int)-1))&&(((v13.length:Int)-1)<=9223372036854775807)then bif 0<=((v13.length:Int)-1) then bif ((v13.length:Int)-1)<(v13.length:Int) then bif 0<=(cI v13 ((v13.length:Int)-1) 0) then bif (cI v13 ((v13.length:Int)-1) 0)<(v7.length:Int) then bif(-9223372036854775808<=((v12.length:Int)-1))&&(((v12.length:Int)-1)<=9223372036854775807)then(kO (fun(go1:bi->Option ab)=>zJ n go0 go1 v9 v11 v12)
 (fun(s:bi)=>zL n go0 go1 v7 v9 v11 v13 s.1 s.2))else none else none else none else none else none else none else bif(-9223372036854775808<=((v12.length:Int)-1))&&(((v12.length:Int)-1)<=9223372036854775807)then(kO (fun(go1:bi->Option ab)=>yS n go0 go1 v9 v11 v12)
 (fun(s:bi)=>yQ n go0 go1 v1 v9 v11 v13 s.1 s.2))else none)
def sB(n:Nat)(go0:av->Option ab)(go1:aJ->Option ab)(v1:Int)(v7 v9:Lv)(v11:Int)(v12 v13:Lv)(v16:Int):Option ab:=
 (bif v16=(cI v7 (cI v9 v11 1) 3) then bif (((v13.length:Int)+1)*8)<=140737488355328 then bif 0<=((v13.length:Int)+1) then kZ n go0 go1 v1 v7 v9 v11 v12 v13 else none else none else bif 0<=(v13.length:Int) then bif ((v13.length:Int)*8)<=140737488355328 then fx n go0 go1 v1 v7 v9 v11 v12 v13 else none else none)
abbrev yy:= @fx
def rX(n:Nat)(go0:av->Option ab)(go1:aJ->Option ab)(v1:Int)(v7 v9:Lv)(v11:Int)(v12 v13:Lv)(v15 v16:Int):Option ab:=
 (bif v15=1 then sB n go0 go1 v1 v7 v9 v11 v12 v13 v16 else bif 0<=(v13.length:Int) then bif ((v13.length:Int)*8)<=140737488355328 then yy n go0 go1 v1 v7 v9 v11 v12 v13 else none else none)
abbrev zN:= @fx
def gh(n:Nat)(go0:av->Option ab)(go1:aJ->Option ab)(v1:Int)(v7 v9:Lv)(v10 v11:Int)(v12 v13:Lv)(v15 v16:Int):Option ab:=
 (bif v10=(cI v7 (cI v9 v11 1) 1) then rX n go0 go1 v1 v7 v9 v11 v12 v13 v15 v16 else bif 0<=(v13.length:Int) then bif ((v13.length:Int)*8)<=140737488355328 then zN n go0 go1 v1 v7 v9 v11 v12 v13 else none else none)
abbrev yO:= @fx
def qf(n:Nat)(go0:av->Option ab)(go1:cF->Option ab)(go2:bi->Option ab)(v9:Lv)(v11:Int)(v16:Lv):Option ab:=
 bif 0<=((v16.length:Int)-1) then bif ((v16.length:Int)-1)<(v16.length:Int) then(bif (cI v16 ((v16.length:Int)-1) 1)=(cI v9 v11 0) then bif ((v16.length:Int)-1)<=(v16.length:Int) then bif(-9223372036854775808<=(((v16.length:Int)-1)-1))&&((((v16.length:Int)-1)-1)<=9223372036854775807)then go2 ((((v16.length:Int)-1)-1),(M9 (((v16.length:Int)-1)).toNat v16))else none else none else go2 (((v16.length:Int)-1),(Nc v16 (((v16.length:Int)-1)).toNat (fun r=>r.set 2 (AV.int (cI v9 v11 0))))))else none else none
def yL(n:Nat)(go0:av->Option ab)(go1:cF->Option ab)(v7 v9:Lv)(v11:Int)(v17:Lv)(v18:Int)(v19:Lv):Option ab:=
 (bif v18<0 then bif (((v19.length:Int)+1)*24)<=140737488355328 then go1 (true,(v19++[[(AV.int (cI v7 (cI (M9 (((v17.length:Int)-1)).toNat v17) (((M9 (((v17.length:Int)-1)).toNat v17).length:Int)-1) 0) 2)),(AV.int (cI v9 v11 0)),(AV.int 0)]]),(M9 (((v17.length:Int)-1)).toNat v17))else none else bif 0<=v18 then bif v18<(v19.length:Int) then(bif !((cI v19 v18 0)=(cI v7 (cI (M9 (((v17.length:Int)-1)).toNat v17) (((M9 (((v17.length:Int)-1)).toNat v17).length:Int)-1) 0) 2))then bif (((v19.length:Int)+1)*24)<=140737488355328 then go1 (true,(v19++[[(AV.int (cI v7 (cI (M9 (((v17.length:Int)-1)).toNat v17) (((M9 (((v17.length:Int)-1)).toNat v17).length:Int)-1) 0) 2)),(AV.int (cI v9 v11 0)),(AV.int 0)]]),(M9 (((v17.length:Int)-1)).toNat v17))else none else go1 (true,v19,(M9 (((v17.length:Int)-1)).toNat v17)))else none else none)
abbrev zD:= @qf
def zR(n:Nat)(go0:av->Option ab)(go1:cF->Option ab)(v1:Int)(v9:Lv)(v11:Int)(v17:Lv)(v18:Int)(v19:Lv):Option ab:=
 (bif v18<0 then bif (((v19.length:Int)+1)*24)<=140737488355328 then go1 (true,(v19++[[(AV.int v1),(AV.int (cI v9 v11 0)),(AV.int 0)]]),(M9 (((v17.length:Int)-1)).toNat v17))else none else bif 0<=v18 then bif v18<(v19.length:Int) then(bif !((cI v19 v18 0)=v1)then bif (((v19.length:Int)+1)*24)<=140737488355328 then go1 (true,(v19++[[(AV.int v1),(AV.int (cI v9 v11 0)),(AV.int 0)]]),(M9 (((v17.length:Int)-1)).toNat v17))else none else go1 (true,v19,(M9 (((v17.length:Int)-1)).toNat v17)))else none else none)
def qY(n:Nat)(go0:av->Option ab)(go1:cF->Option ab)(v1:Int)(v7 v9:Lv)(v11:Int)(v16 v17:Lv):Option ab:=
 (bif 0<((M9 (((v17.length:Int)-1)).toNat v17).length:Int) then bif(-9223372036854775808<=(((M9 (((v17.length:Int)-1)).toNat v17).length:Int)-1))&&((((M9 (((v17.length:Int)-1)).toNat v17).length:Int)-1)<=9223372036854775807)then bif 0<=(((M9 (((v17.length:Int)-1)).toNat v17).length:Int)-1) then bif (((M9 (((v17.length:Int)-1)).toNat v17).length:Int)-1)<((M9 (((v17.length:Int)-1)).toNat v17).length:Int) then bif 0<=(cI (M9 (((v17.length:Int)-1)).toNat v17) (((M9 (((v17.length:Int)-1)).toNat v17).length:Int)-1) 0) then bif (cI (M9 (((v17.length:Int)-1)).toNat v17) (((M9 (((v17.length:Int)-1)).toNat v17).length:Int)-1) 0)<(v7.length:Int) then bif(-9223372036854775808<=((v16.length:Int)-1))&&(((v16.length:Int)-1)<=9223372036854775807)then(kO (fun(go2:bi->Option ab)=>qf n go0 go1 go2 v9 v11 v16)
 (fun(s:bi)=>yL n go0 go1 v7 v9 v11 v17 s.1 s.2))else none else none else none else none else none else none else bif(-9223372036854775808<=((v16.length:Int)-1))&&(((v16.length:Int)-1)<=9223372036854775807)then(kO (fun(go2:bi->Option ab)=>zD n go0 go1 go2 v9 v11 v16)
 (fun(s:bi)=>zR n go0 go1 v1 v9 v11 v17 s.1 s.2))else none)
abbrev zK:= @qY
def zi(n:Nat)(go0:av->Option ab)(go1:cF->Option ab)(v1:Int)(v7 v9:Lv)(v11:Int)(v16 v17:Lv):Option ab:=
 (bif (cI v17 ((v17.length:Int)-1) 0)=(cI v9 v11 1) then bif ((v17.length:Int)-1)<=(v17.length:Int) then bif 0<=((M9 (((v17.length:Int)-1)).toNat v17).length:Int) then bif (((M9 (((v17.length:Int)-1)).toNat v17).length:Int)*8)<=140737488355328 then qY n go0 go1 v1 v7 v9 v11 v16 v17 else none else none else none else bif ((v17.length:Int)-1)<=(v17.length:Int) then bif 0<=((M9 (((v17.length:Int)-1)).toNat v17).length:Int) then bif (((M9 (((v17.length:Int)-1)).toNat v17).length:Int)*8)<=140737488355328 then zK n go0 go1 v1 v7 v9 v11 v16 v17 else none else none else none)
def zh(n:Nat)(go0:av->Option ab)(go1:cF->Option ab)(v1:Int)(v7 v9:Lv)(v11 v14:Int)(v16 v17:Lv):Option ab:=
 (bif v14<(v17.length:Int) then bif(-9223372036854775808<=((v17.length:Int)-1))&&(((v17.length:Int)-1)<=9223372036854775807)then bif 0<=((v17.length:Int)-1) then bif ((v17.length:Int)-1)<(v17.length:Int) then zi n go0 go1 v1 v7 v9 v11 v16 v17 else none else none else none else(bif 0<(v17.length:Int) then bif(-9223372036854775808<=((v17.length:Int)-1))&&(((v17.length:Int)-1)<=9223372036854775807)then bif 0<=((v17.length:Int)-1) then bif ((v17.length:Int)-1)<(v17.length:Int) then bif 0<=(cI v17 ((v17.length:Int)-1) 0) then bif (cI v17 ((v17.length:Int)-1) 0)<(v7.length:Int) then bif(-9223372036854775808<=(v11+1))&&((v11+1)<=9223372036854775807)then go0 ((cI v7 (cI v17 ((v17.length:Int)-1) 0) 2),(v11+1),v16,v17)else none else none else none else none else none else none else bif(-9223372036854775808<=(v11+1))&&((v11+1)<=9223372036854775807)then go0 (v1,(v11+1),v16,v17)else none))
def yR(n:Nat)(go0:av->Option ab)(go1:cF->Option ab)(v1:Int)(v7 v9:Lv)(v11 v14:Int)(v15:Bool)(v16 v17:Lv):Option ab:=
 (bif v15 then zh n go0 go1 v1 v7 v9 v11 v14 v16 v17 else bif(-9223372036854775808<=((v16.length:Int)-1))&&(((v16.length:Int)-1)<=9223372036854775807)then bif 0<=((v16.length:Int)-1) then bif ((v16.length:Int)-1)<(v16.length:Int) then some ((Nc v16 (((v16.length:Int)-1)).toNat (fun r=>r.set 2 (AV.int 20000001))),0)else none else none else none)
def zw(n:Nat)(go0:av->Option ab)(go1:aJ->Option ab)(v1:Int)(v7 v9:Lv)(v11:Int)(v12 v13:Lv)(v14:Int):Option ab:=
 (bif v14<0 then bif 0<=(v13.length:Int) then bif ((v13.length:Int)*8)<=140737488355328 then yO n go0 go1 v1 v7 v9 v11 v12 v13 else none else none else(af (fun go1 s=>yR n go0 go1 v1 v7 v9 v11 v14 s.1 s.2.1 s.2.2) n ((true,v12,v13):cF)))
def Bh(n:Nat)(go0:av->Option ab)(go1:aJ->Option ab)(v1:Int)(v6 v7 v9:Lv)(v10 v11:Int)(v12 v13:Lv)(v14:Int):Option ab:=
 (bif(!(cB v9 v11 2))then(lQ n v6 (b9 (cI v9 v11 0) 10000000)).bind fun y15=>
 gh n go0 go1 v1 v7 v9 v10 v11 v12 v13 y15.1 y15.2.1 else zw n go0 go1 v1 v7 v9 v11 v12 v13 v14)
def Bb(n:Nat)(go0:av->Option ab)(go1:aJ->Option ab)(v1:Int)(v6 v7 v9:Lv)(v10 v11:Int)(v12 v13:Lv)(v14:Int):Option ab:=
 (bif (cI v9 v11 1)=(cI v13 v14 0) then bif 0<=(cI v9 v11 1) then bif (cI v9 v11 1)<(v7.length:Int) then Bh n go0 go1 v1 v6 v7 v9 v10 v11 v12 v13 v14 else none else none else bif(-9223372036854775808<=(v14+1))&&((v14+1)<=9223372036854775807)then go1 (v14+1)else none)
abbrev yz:= @gh
abbrev zb:= @fx
def zj(n:Nat)(go0:av->Option ab)(go1:aJ->Option ab)(v1:Int)(v6 v7 v9:Lv)(v10 v11:Int)(v12 v13:Lv):Option ab:=
 (bif(!(cB v9 v11 2))then(lQ n v6 (b9 (cI v9 v11 0) 10000000)).bind fun y15=>
 yz n go0 go1 v1 v7 v9 v10 v11 v12 v13 y15.1 y15.2.1 else bif 0<=(v13.length:Int) then bif ((v13.length:Int)*8)<=140737488355328 then zb n go0 go1 v1 v7 v9 v11 v12 v13 else none else none)
def mM(n:Nat)(go0:av->Option ab)(go1:aJ->Option ab)(v1:Int)(v6 v7 v9:Lv)(v10 v11:Int)(v12 v13:Lv)(v14:Int):Option ab:=
 (bif v14<(v13.length:Int) then bif 0<=v14 then Bb n go0 go1 v1 v6 v7 v9 v10 v11 v12 v13 v14 else none else bif 0<=(cI v9 v11 1) then bif (cI v9 v11 1)<(v7.length:Int) then zj n go0 go1 v1 v6 v7 v9 v10 v11 v12 v13 else none else none)
def sj(n:Nat)(go0:av->Option ab)(v1:Int)(v6 v7 v9:Lv)(v10 v11:Int)(v12 v13:Lv):Option ab:=
 (bif v11<(v9.length:Int) then bif 0<=v11 then(af (fun go1 s=>mM n go0 go1 v1 v6 v7 v9 v10 v11 v12 v13 s) n (0:aJ))else none else bif(-9223372036854775808<=((v12.length:Int)-1))&&(((v12.length:Int)-1)<=9223372036854775807)then bif 0<=((v12.length:Int)-1) then bif ((v12.length:Int)-1)<(v12.length:Int) then some ((Nc v12 (((v12.length:Int)-1)).toNat (fun r=>r.set 2 (AV.int 20000001))),0)else none else none else none)
def sa(n:Nat)(v0 v1 v2 v3 v4 v5:Int)(v6 v7:Lv)(v8:Bool):Option ab:=
 (bif(!v8)then some (([]:Lv),170)else(hX n v0 v1 v2 v3 v4 v5 v6 v7).bind fun y9=>
 (af (fun go0 s=>sj n go0 v1 v6 v7 y9 s.1 s.2.1 s.2.2.1 s.2.2.2) n ((v1,0,(([]:Lv)++[[(AV.int v1),(AV.int 0),(AV.int 0)]]),([]:Lv)):av)))
def mi(n:Nat)(v0 v1 v2 v3 v4 v5:Int)(v6 v7:Lv):Option ab:=
 (kh n v0 v1 v2 v3 v4 v5 v6 v7).bind fun y8=>
 sa n v0 v1 v2 v3 v4 v5 v6 v7 y8
def kz(n:Nat)(v0 v1 v2 v3 v4 v5:Int)(v6 v7:Lv):Option ab:=mi n v0 v1 v2 v3 v4 v5 v6 v7
def chain_Holders_t:FnT:=⟨[(true,[.int,.int,.int,.int,.int,.int,tSc,(.sl (.cons .int (.cons .int (.cons .int (.cons .int (.cons .int (.cons .bool (.cons tSc .nil))))))))])],(.tup (.cons (.row 106 (.cons .int (.cons .int (.cons .int .nil)))) (.cons .i .nil))),fun n (s:Int×Int×Int×Int×Int×Int×Lv×Lv)=>kz n s.1 s.2.1 s.2.2.1 s.2.2.2.1 s.2.2.2.2.1 s.2.2.2.2.2.1 s.2.2.2.2.2.2.1 s.2.2.2.2.2.2.2⟩
theorem yv:chain_Holders_t.ok Tryz.prog 31:=FnT.ok_of (cfg:=⟨[((63,5,0),.inv [(.tmp 5 .int),(.tmp 22 .int),(.cellrow 2 0 106 (.cons .int (.cons .int (.cons .int .nil)))),(.cellrow 7 0 3 (.cons .int .nil))]),((66,2,0),.inv [(.tmp 8 .int)]),((63,10,0),.inv [(.tmp 10 .bool),(.cellrow 2 0 106 (.cons .int (.cons .int (.cons .int .nil)))),(.cellrow 7 0 3 (.cons .int .nil))]),((31,7,1000000),.join [.tmp 6 .int,.cellrow 2 0 106 (.cons .int (.cons .int (.cons .int .nil)))]),((31,11,1000000),.join [.cellrow 2 0 106 (.cons .int (.cons .int (.cons .int .nil)))])],JW,[(63,15),(31,8)],az⟩) aT vm be (fun s fn hf=>by rw[Tryz.func31]at hf;cases hf;kernel_rfl) (fun n s=>by kernel_rfl)
def chain_Holders_T:Tab:=(31,chain_Holders_t)::chain_At_T
theorem n6:chain_Holders_T.ok Tryz.prog:=Tab.ok_cons yv vm
def tF:List Nat:=[26,33,34,68,2000291,3000170]
abbrev wl:=Int
def D3(n:Nat)(v0 v1:Int):Option wl:=
 (bif v0<0 then bif(-9223372036854775808<=(v0+1))&&((v0+1)<=9223372036854775807)then bif(-9223372036854775808<=(0-(v0+1)))&&((0-(v0+1))<=9223372036854775807)then bif !(v1=0)then some (Ns (0-(v0+1)) v1)else none else none else none else bif !(v1=0)then some (Ns v0 v1)else none)
def aw(n:Nat)(v0 v1:Int):Option wl:=D3 n v0 v1
def ref16_pick_t:FnT:=⟨[(false,[.int]),(false,[.int])],.i,fun n (s:Int×Int)=>aw n s.1 s.2⟩
theorem C3:ref16_pick_t.ok Tryz.prog 26:=FnT.ok_of (cfg:=⟨[],tF,[],az⟩) aT n6 be (fun s fn hf=>by rw[Tryz.func26]at hf;cases hf;kernel_rfl) (fun n s=>by kernel_rfl)
def ref16_pick_T:Tab:=(26,ref16_pick_t)::chain_Holders_T
theorem rY:ref16_pick_T.ok Tryz.prog:=Tab.ok_cons C3 n6
abbrev kf:=Int×Int×Int×Int
def pa(n:Nat)(v0 v1 v2 v3 v4 v5:Int):Option kf:=
 (bif v5=3 then(aw n v0 86400).bind fun y6=>
 bif(-9223372036854775808<=(1+y6))&&((1+y6)<=9223372036854775807)then(aw n v1 12).bind fun y7=>
 bif(-9223372036854775808<=(1+y7))&&((1+y7)<=9223372036854775807)then bif(-9223372036854775808<=(Na v1 16))&&((Na v1 16)<=9223372036854775807)then(aw n (Na v1 16) 4).bind fun y8=>
 (bif y8=3 then(aw n v1 86400).bind fun y9=>
 bif(-9223372036854775808<=(1+y9))&&((1+y9)<=9223372036854775807)then(aw n v2 12).bind fun y10=>
 bif(-9223372036854775808<=(1+y10))&&((1+y10)<=9223372036854775807)then bif(-9223372036854775808<=(Na v2 16))&&((Na v2 16)<=9223372036854775807)then(aw n (Na v2 16) 4).bind fun y11=>
 (bif y11=3 then(aw n v2 86400).bind fun y12=>
 bif(-9223372036854775808<=(1+y12))&&((1+y12)<=9223372036854775807)then(aw n v3 12).bind fun y13=>
 bif(-9223372036854775808<=(1+y13))&&((1+y13)<=9223372036854775807)then bif(-9223372036854775808<=(Na v3 16))&&((Na v3 16)<=9223372036854775807)then(aw n (Na v3 16) 4).bind fun y14=>
 (bif y14=3 then(aw n v3 86400).bind fun y15=>
 bif(-9223372036854775808<=(1+y15))&&((1+y15)<=9223372036854775807)then some ((1+y6),(1+y9),(1+y12),(1+y15))else none else some ((1+y6),(1+y9),(1+y12),(1+y13)))else none else none else none else(aw n v3 12).bind fun y12=>
 bif(-9223372036854775808<=(1+y12))&&((1+y12)<=9223372036854775807)then bif(-9223372036854775808<=(Na v3 16))&&((Na v3 16)<=9223372036854775807)then(aw n (Na v3 16) 4).bind fun y13=>
 (bif y13=3 then(aw n v3 86400).bind fun y14=>
 bif(-9223372036854775808<=(1+y14))&&((1+y14)<=9223372036854775807)then some ((1+y6),(1+y9),(1+y10),(1+y14))else none else some ((1+y6),(1+y9),(1+y10),(1+y12)))else none else none)else none else none else none else(aw n v2 12).bind fun y9=>
 bif(-9223372036854775808<=(1+y9))&&((1+y9)<=9223372036854775807)then bif(-9223372036854775808<=(Na v2 16))&&((Na v2 16)<=9223372036854775807)then(aw n (Na v2 16) 4).bind fun y10=>
 (bif y10=3 then(aw n v2 86400).bind fun y11=>
 bif(-9223372036854775808<=(1+y11))&&((1+y11)<=9223372036854775807)then(aw n v3 12).bind fun y12=>
 bif(-9223372036854775808<=(1+y12))&&((1+y12)<=9223372036854775807)then bif(-9223372036854775808<=(Na v3 16))&&((Na v3 16)<=9223372036854775807)then(aw n (Na v3 16) 4).bind fun y13=>
 (bif y13=3 then(aw n v3 86400).bind fun y14=>
 bif(-9223372036854775808<=(1+y14))&&((1+y14)<=9223372036854775807)then some ((1+y6),(1+y7),(1+y11),(1+y14))else none else some ((1+y6),(1+y7),(1+y11),(1+y12)))else none else none else none else(aw n v3 12).bind fun y11=>
 bif(-9223372036854775808<=(1+y11))&&((1+y11)<=9223372036854775807)then bif(-9223372036854775808<=(Na v3 16))&&((Na v3 16)<=9223372036854775807)then(aw n (Na v3 16) 4).bind fun y12=>
 (bif y12=3 then(aw n v3 86400).bind fun y13=>
 bif(-9223372036854775808<=(1+y13))&&((1+y13)<=9223372036854775807)then some ((1+y6),(1+y7),(1+y9),(1+y13))else none else some ((1+y6),(1+y7),(1+y9),(1+y11)))else none else none)else none else none)else none else none else none else(aw n v1 12).bind fun y6=>
 bif(-9223372036854775808<=(1+y6))&&((1+y6)<=9223372036854775807)then bif(-9223372036854775808<=(Na v1 16))&&((Na v1 16)<=9223372036854775807)then(aw n (Na v1 16) 4).bind fun y7=>
 (bif y7=3 then(aw n v1 86400).bind fun y8=>
 bif(-9223372036854775808<=(1+y8))&&((1+y8)<=9223372036854775807)then(aw n v2 12).bind fun y9=>
 bif(-9223372036854775808<=(1+y9))&&((1+y9)<=9223372036854775807)then bif(-9223372036854775808<=(Na v2 16))&&((Na v2 16)<=9223372036854775807)then(aw n (Na v2 16) 4).bind fun y10=>
 (bif y10=3 then(aw n v2 86400).bind fun y11=>
 bif(-9223372036854775808<=(1+y11))&&((1+y11)<=9223372036854775807)then(aw n v3 12).bind fun y12=>
 bif(-9223372036854775808<=(1+y12))&&((1+y12)<=9223372036854775807)then bif(-9223372036854775808<=(Na v3 16))&&((Na v3 16)<=9223372036854775807)then(aw n (Na v3 16) 4).bind fun y13=>
 (bif y13=3 then(aw n v3 86400).bind fun y14=>
 bif(-9223372036854775808<=(1+y14))&&((1+y14)<=9223372036854775807)then some ((1+v4),(1+y8),(1+y11),(1+y14))else none else some ((1+v4),(1+y8),(1+y11),(1+y12)))else none else none else none else(aw n v3 12).bind fun y11=>
 bif(-9223372036854775808<=(1+y11))&&((1+y11)<=9223372036854775807)then bif(-9223372036854775808<=(Na v3 16))&&((Na v3 16)<=9223372036854775807)then(aw n (Na v3 16) 4).bind fun y12=>
 (bif y12=3 then(aw n v3 86400).bind fun y13=>
 bif(-9223372036854775808<=(1+y13))&&((1+y13)<=9223372036854775807)then some ((1+v4),(1+y8),(1+y9),(1+y13))else none else some ((1+v4),(1+y8),(1+y9),(1+y11)))else none else none)else none else none else none else(aw n v2 12).bind fun y8=>
 bif(-9223372036854775808<=(1+y8))&&((1+y8)<=9223372036854775807)then bif(-9223372036854775808<=(Na v2 16))&&((Na v2 16)<=9223372036854775807)then(aw n (Na v2 16) 4).bind fun y9=>
 (bif y9=3 then(aw n v2 86400).bind fun y10=>
 bif(-9223372036854775808<=(1+y10))&&((1+y10)<=9223372036854775807)then(aw n v3 12).bind fun y11=>
 bif(-9223372036854775808<=(1+y11))&&((1+y11)<=9223372036854775807)then bif(-9223372036854775808<=(Na v3 16))&&((Na v3 16)<=9223372036854775807)then(aw n (Na v3 16) 4).bind fun y12=>
 (bif y12=3 then(aw n v3 86400).bind fun y13=>
 bif(-9223372036854775808<=(1+y13))&&((1+y13)<=9223372036854775807)then some ((1+v4),(1+y6),(1+y10),(1+y13))else none else some ((1+v4),(1+y6),(1+y10),(1+y11)))else none else none else none else(aw n v3 12).bind fun y10=>
 bif(-9223372036854775808<=(1+y10))&&((1+y10)<=9223372036854775807)then bif(-9223372036854775808<=(Na v3 16))&&((Na v3 16)<=9223372036854775807)then(aw n (Na v3 16) 4).bind fun y11=>
 (bif y11=3 then(aw n v3 86400).bind fun y12=>
 bif(-9223372036854775808<=(1+y12))&&((1+y12)<=9223372036854775807)then some ((1+v4),(1+y6),(1+y8),(1+y12))else none else some ((1+v4),(1+y6),(1+y8),(1+y10)))else none else none)else none else none)else none else none)
def kc(n:Nat)(v0 v1 v2 v3:Int):Option kf:=
 (aw n v0 12).bind fun y4=>
 bif(-9223372036854775808<=(1+y4))&&((1+y4)<=9223372036854775807)then bif(-9223372036854775808<=(Na v0 16))&&((Na v0 16)<=9223372036854775807)then(aw n (Na v0 16) 4).bind fun y5=>
 pa n v0 v1 v2 v3 y4 y5 else none else none
def ml(n:Nat)(v0 v1 v2 v3:Int):Option kf:=kc n v0 v1 v2 v3
def ref16_MadeRules_t:FnT:=⟨[(true,[.int,.int,.int,.int])],(.agg (.cons .i (.cons .i (.cons .i (.cons .i .nil))))),fun n (s:Int×Int×Int×Int)=>ml n s.1 s.2.1 s.2.2.1 s.2.2.2⟩
theorem wV:ref16_MadeRules_t.ok Tryz.prog 11:=FnT.ok_of (cfg:=⟨[((11,3,0),.unroll 5)],tF,[],az⟩) aT rY be (fun s fn hf=>by rw[Tryz.func11]at hf;cases hf;kernel_rfl) (fun n s=>by kernel_rfl)
def ref16_MadeRules_T:Tab:=(11,ref16_MadeRules_t)::ref16_pick_T
theorem mz:ref16_MadeRules_T.ok Tryz.prog:=Tab.ok_cons wV rY
abbrev wK:=Int
def E0(n:Nat)(v0 v1:Int):Option wK:=
 (bif v0<0 then bif(-9223372036854775808<=(v0+1))&&((v0+1)<=9223372036854775807)then bif(-9223372036854775808<=(0-(v0+1)))&&((0-(v0+1))<=9223372036854775807)then bif !(v1=0)then some (Ns (0-(v0+1)) v1)else none else none else none else bif !(v1=0)then some (Ns v0 v1)else none)
def uS(n:Nat)(v0 v1:Int):Option wK:=E0 n v0 v1
def ref19_pick_t:FnT:=⟨[(false,[.int]),(false,[.int])],.i,fun n (s:Int×Int)=>uS n s.1 s.2⟩
theorem Db:ref19_pick_t.ok Tryz.prog 33:=FnT.ok_of (cfg:=⟨[],tF,[],az⟩) aT mz be (fun s fn hf=>by rw[Tryz.func33]at hf;cases hf;kernel_rfl) (fun n s=>by kernel_rfl)
def ref19_pick_T:Tab:=(33,ref19_pick_t)::ref16_MadeRules_T
theorem sn:ref19_pick_T.ok Tryz.prog:=Tab.ok_cons Db mz
abbrev yu:=List UInt8
def sI(n:Nat)(v0:Int):Option yu:=
 bif (7+((bytesOf (([]:Lv)++[[(AV.raw (.int .u8 (IntKind.wrap .u8 v0)))]])).length:Int))<=9223372036854775807 then(jt n (([99,97,114,114,105,101,114]:List UInt8)++(bytesOf (([]:Lv)++[[(AV.raw (.int .u8 (IntKind.wrap .u8 v0)))]])))).bind fun y1=>
 some y1 else none
def wN(n:Nat)(v0:Int):Option yu:=sI n v0
def ref19_Key_t:FnT:=⟨[(false,[.int])],.st,fun n (s:Int)=>wN n s⟩
theorem Dw:ref19_Key_t.ok Tryz.prog 34:=FnT.ok_of (cfg:=⟨[],tF,[],az⟩) aT sn be (fun s fn hf=>by rw[Tryz.func34]at hf;cases hf;kernel_rfl) (fun n s=>by kernel_rfl)
def ref19_Key_T:Tab:=(34,ref19_Key_t)::ref19_pick_T
theorem tp:ref19_Key_T.ok Tryz.prog:=Tab.ok_cons Dw sn
abbrev jA:=Lv
abbrev iN:=Int×Lv
def mj(n:Nat)(go0:iN->Option jA)(v0 v1:Int)(v2:Lv):Option jA:=
 (uS n v0 3).bind fun y3=>
 bif 0<=y3 then bif y3<3 then(bif v1<(cI (((([]:Lv)++[[(AV.int 4)]])++[[(AV.int 7)]])++[[(AV.int 1)]]) y3 0) then(wN n v1).bind fun y4=>
 bif (((v2.length:Int)+1)*16)<=140737488355328 then bif(-9223372036854775808<=(v1+1))&&((v1+1)<=9223372036854775807)then go0 ((v1+1),(v2++[[(AV.raw (ar y4))]]))else none else none else some v2)else none else none
def EK(n:Nat)(v0:Int):Option jA:=
 (af (fun go0 s=>mj n go0 v0 s.1 s.2) n ((0,([]:Lv)):iN))
def py(n:Nat)(v0:Int):Option jA:=EK n v0
def ref19_Made_t:FnT:=⟨[(false,[.int])],(.agg (.cons (.row 9 (.cons .str .nil)) .nil)),fun n (s:Int)=>py n s⟩
theorem C0:ref19_Made_t.ok Tryz.prog 15:=FnT.ok_of (cfg:=⟨[((15,3,2),.inv [(.tmp 4 .int),(.cellrow 1 0 9 (.cons .str .nil))])],tF,[],az⟩) aT tp be (fun s fn hf=>by rw[Tryz.func15]at hf;cases hf;kernel_rfl) (fun n s=>by kernel_rfl)
def ref19_Made_T:Tab:=(15,ref19_Made_t)::ref19_Key_T
theorem rR:ref19_Made_T.ok Tryz.prog:=Tab.ok_cons C0 tp
end
open Go.Dial.Wire
noncomputable section
abbrev bp(nu fr to ho ask:Int)(b:Bool)(E:Lv):Lv:=([]:Lv)++[[(AV.int nu),(AV.int fr),(AV.int to),(AV.int ho),(AV.int ask),(AV.bool b),(AV.sl (.cons .int (.cons .int (.cons .int .nil))) E)]]
def cd(b:Bool)(E:Lv):Prop:=E=[]\/b=true
instance (b:Bool) (E:Lv):Decidable (cd b E):=Classical.propDecidable _
section
variable (n:Nat) (an co se re nu fr to ho ask:Int) (b:Bool) (E:Lv)
theorem Ly(go:dM->Option iI):kF n go nu an co se re (bp nu fr to ho ask b E) 0 0=bif !(decide (nu=nu))then some false else(kv n an co se re nu fr to ho ask b E).bind (fun y16=>bif !y16 then some false else bif decide (ask<0)then some false else go (ask,1)):=by kernel_rfl
theorem oG(hn:20<=n)(hr:Rul an co se re)(hc:Clm nu fr to ho ask)(hE:E=[]\/E=eI ask):kh n nu fr an co se re (bU ho) (bp nu fr to ho ask b E)=some true:=by
 have hv:=va n an co se re nu fr to ho ask b E hn hr hc hE;show o5 n nu fr an co se re (bU ho) (bp nu fr to ho ask b E)=_
 unfold o5;rw[uC n ho hn hc.h5];rw[bS];obtain⟨h1,h2,h3,h4,h5,h6⟩:=hc;refine(bF' rfl).trans ?_
 rw[dT (by omega),nT (by omega),dT (by omega),nT (by omega)]
 show af (fun go0 (s:dM)=>kF n go0 nu an co se re (bp nu fr to ho ask b E) s.1 s.2) n ((0,0):dM)=_
 obtain⟨k,hk⟩:∃k,n=k+2:=⟨n-2,by omega⟩
 conv=>lhs;arg 2;rw[hk]
 rw[ae];refine(Ly n an co se re nu fr to ho ask b E _).trans ?_
 rw[nT rfl,hv];rw[bS];rw[bnt,dF (by omega)]
 show af (fun go0 (s:dM)=>kF n go0 nu an co se re (bp nu fr to ho ask b E) s.1 s.2) (k+1) ((ask,1):dM)=_
 rw[ae];rfl
def eT(T:Int):Lv:=[[.int T,.int 0,.bool false]]
theorem Mz(n k:Nat)(go0:aO->Option aC):af (fun go1 (s:aO)=>js n go0 go1 0 (tlG ask an co re) s.1 s.2) (k+6) ((([]:Lv),0):aO)=go0 (eT (ask+an+co),1):=by kernel_rfl
theorem MN(n k:Nat)(go0:aO->Option aC):af (fun go1 (s:aO)=>js n go0 go1 0 (tlR ask an) s.1 s.2) (k+6) ((([]:Lv),0):aO)=go0 ([],1):=by kernel_rfl
theorem LM(k:Nat)(T:Int)(go:aO->Option aC):gj (k+6) go an co se re (bp nu fr to ho ask b E) (eT T) 1=some (eT T):=by kernel_rfl
theorem LN(k:Nat)(go:aO->Option aC):gj (k+6) go an co se re (bp nu fr to ho ask b E) [] 1=some []:=by kernel_rfl
theorem nY(hn:20<=n)(hr:Rul an co se re)(hc:Clm nu fr to ho ask)(hE:E=[]\/E=eI ask):
  hX n nu fr an co se re (bU ho) (bp nu fr to ho ask b E)=some (if cd b E then eT (ask+an+co)else[]):=by
 have hv:=yE n an co se re nu fr to ho ask b E hn hr hc hE;obtain⟨k,rfl⟩:∃k,n=k+6:=⟨n-6,by omega⟩
 show af (fun go0 (s:aO)=>gj (k+6) go0 an co se re (bp nu fr to ho ask b E) s.1 s.2) (k+6) ((([]:Lv),0):aO)=_
 rw[ae];show(jR (k+6) an co se re nu fr to ho ask b E).bind _=_
 rw[hv];rw[bS];by_cases h:cd b E
 ·rw[if_pos h,if_pos (show E=[]\/b=true from h)]
  refine(Mz an co re ask (k+6) k _).trans ?_
  rw[ae];exact LM an co se re nu fr to ho ask b E k _ _
 ·rw[if_neg h,if_neg (show ¬(E=[]\/b=true)from h)]
  refine(MN an ask (k+6) k _).trans ?_
  rw[ae];exact LN an co se re nu fr to ho ask b E k _
theorem Bl(hn:20<=n)(hr:Rul an co se re)(hc:Clm nu fr to ho ask)(hE:E=[]\/E=eI ask):
  oR n nu fr an co se re (bU ho) (bp nu fr to ho ask b E)=some (ask+an-1+se+co+re,0):=by
 have hv:=ER n an co se re nu fr to ho ask b hn hr hc;show mE n nu fr an co se re (bU ho) (bp nu fr to ho ask b E)=_
 unfold mE;rw[oG n an co se re nu fr to ho ask b E hn hr hc hE];rw[bS];obtain⟨k,hk⟩:∃k,n=k+2:=⟨n-2,by omega⟩
 show af (fun go0 (s:dK)=>mG n go0 an co se re (bp nu fr to ho ask b E) s.1 s.2) n ((0,0):dK)=_
 conv=>lhs;arg 2;rw[hk]
 rw[ae];show(pv n an co se re nu fr to ho ask b).bind _=_
 rw[hv];rw[bS];show af (fun go0 (s:dK)=>mG n go0 an co se re (bp nu fr to ho ask b E) s.1 s.2) (k+1) ((yK 0 (ask+an-1+se+co+re),1):dK)=_
 rw[ae];obtain⟨r1,r2,r3,r4⟩:=hr;have h6:=hc.h6;have hm:yK 0 (ask+an-1+se+co+re)=ask+an-1+se+co+re:=by unfold yK;rw[if_pos (by omega)]
 rw[hm];rfl
theorem L0(go0:bT->Option aD)(go1:bZ->Option aD)(t T:Int):pN n go0 go1 fr (bU ho) (bp nu fr to ho ask b E) t (eT T) fr 0 0 0 0 ([]:Lv) fr ([]:Lv) 0=(lQ n (bU ho) (b9 T 10000000)).bind (fun y20=>mb n go0 go1 fr (bp nu fr to ho ask b E) t (eT T) fr 0 ([]:Lv) fr ([]:Lv) y20.1 y20.2.1):=by kernel_rfl
theorem LP(go0:bT->Option aD)(go1:bZ->Option aD)(t T:Int):mb n go0 go1 fr (bp nu fr to ho ask b E) t (eT T) fr 0 ([]:Lv) fr ([]:Lv) 1 ho=bif decide (t<T)then some (fr,[],0)else go0 (to,1,T,0,1,[[.int 0]],to,[[.int 0]]):=by
 unfold mb;rw[show cI (bp nu fr to ho ask b E) (cI (eT T) 0 1) 1=fr from rfl,dT rfl]
 unfold xZ;rw[dT rfl,show cI (bp nu fr to ho ask b E) (cI (eT T) 0 1) 3=ho from rfl,dT rfl]
 kernel_rfl
theorem A2(t:Int)(hn:20<=n)(hr:Rul an co se re)(hc:Clm nu fr to ho ask)(hE:E=[]\/E=eI ask)(ht:0<=t/\t<=20000000):
  ∃l,qH n nu fr an co se re (bU ho) (bp nu fr to ho ask b E) t=some (if cd b E/\ask+an+co<=t then to else fr,l,0):=by
 have hl:=Cn n ho (b9 (ask+an+co) 10000000) hn hc.h5 (by have:=hc.h6;have:=hr.h1;have:=hr.h2;unfold b9;split<;>omega)
 obtain⟨k,hk⟩:∃k,n=k+2:=⟨n-2,by omega⟩
 have e:qH n nu fr an co se re (bU ho) (bp nu fr to ho ask b E) t=af (fun go0 (s:bT)=>Al n go0 fr (bU ho) (bp nu fr to ho ask b E) t (if cd b E then eT (ask+an+co)else[]) s.1 s.2.1 s.2.2.1 s.2.2.2.1 s.2.2.2.2.1 s.2.2.2.2.2.1 s.2.2.2.2.2.2.1 s.2.2.2.2.2.2.2) n ((fr,0,0,0,0,([]:Lv),fr,([]:Lv)):bT):=by
  show tW n nu fr an co se re (bU ho) (bp nu fr to ho ask b E) t=_
  unfold tW;rw[oG n an co se re nu fr to ho ask b E hn hr hc hE];rw[bS];show ur n nu fr an co se re (bU ho) (bp nu fr to ho ask b E) t=_
  unfold ur;rw[dT (by omega)]
  unfold zX;rw[nT (by omega),nY n an co se re nu fr to ho ask b E hn hr hc hE]
  rw[bS]
 by_cases h:cd b E
 ·rw[if_pos h]at e
  rw[e];conv=>enter [1,l];lhs;arg 2;rw[hk]
  by_cases hT:t<ask+an+co
  ·refine⟨[],?_⟩
   rw[if_neg (by omega),ae]
   show af (fun go1 (s:bZ)=>pN n _ go1 fr (bU ho) (bp nu fr to ho ask b E) t (eT (ask+an+co)) fr 0 0 0 0 ([]:Lv) fr ([]:Lv) s) n (0:bZ)=_
   conv=>lhs;arg 2;rw[hk]
   rw[ae];refine(L0 n nu fr to ho ask b E _ _ t _).trans ?_
   rw[hl];rw[bS];refine(LP n nu fr to ho ask b E _ _ t _).trans ?_
   rw[dT hT]
  ·refine⟨[[.int 0]],?_⟩
   rw[if_pos ⟨h,by omega⟩,ae]
   show af (fun go1 (s:bZ)=>pN n _ go1 fr (bU ho) (bp nu fr to ho ask b E) t (eT (ask+an+co)) fr 0 0 0 0 ([]:Lv) fr ([]:Lv) s) n (0:bZ)=_
   conv=>lhs;arg 2;rw[hk]
   rw[ae];refine(L0 n nu fr to ho ask b E _ _ t _).trans ?_
   rw[hl];rw[bS];refine(LP n nu fr to ho ask b E _ _ t _).trans ?_
   rw[dF hT,ae];rfl
 ·rw[if_neg h]at e
  refine⟨[],?_⟩
  rw[e,if_neg (fun g=>h g.1)]
  conv=>lhs;arg 2;rw[hk]
  rw[ae];rfl
abbrev uz(fr:Int):Lv:=([]:Lv)++[[(AV.int fr),(AV.int 0),(AV.int 0)]]
theorem LK(go0:av->Option ab)(go1:aJ->Option ab)(T:Int):mM n go0 go1 fr (bU ho) (bp nu fr to ho ask b E) (eT T) fr 0 (uz fr) ([]:Lv) 0=(lQ n (bU ho) (b9 T 10000000)).bind (fun y15=>gh n go0 go1 fr (bp nu fr to ho ask b E) (eT T) fr 0 (uz fr) ([]:Lv) y15.1 y15.2.1):=by kernel_rfl
theorem LC(go0:av->Option ab)(go1:aJ->Option ab)(T:Int):gh n go0 go1 fr (bp nu fr to ho ask b E) (eT T) fr 0 (uz fr) ([]:Lv) 1 ho=kZ n go0 go1 fr (bp nu fr to ho ask b E) (eT T) 0 (uz fr) ([]:Lv):=by
 unfold gh;rw[show cI (bp nu fr to ho ask b E) (cI (eT T) 0 1) 1=fr from rfl,dT rfl]
 unfold rX;rw[dT rfl];unfold sB;rw[show cI (bp nu fr to ho ask b E) (cI (eT T) 0 1) 3=ho from rfl,dT rfl]
 kernel_rfl
theorem KX(go0:av->Option ab)(go1:aJ->Option ab)(T:Int):kZ n go0 go1 fr (bp nu fr to ho ask b E) (eT T) 0 (uz fr) ([]:Lv)=bif decide (0=T)then ik n go0 go1 (bp nu fr to ho ask b E) (eT T) 0 ([]:Lv) (-1) []else ik n go0 go1 (bp nu fr to ho ask b E) (eT T) 0 ([]:Lv) 0 [[.int fr,.int 0,.int T]]:=by kernel_rfl
theorem Lw(go0:av->Option ab)(go1:aJ->Option ab)(T:Int):ik n go0 go1 (bp nu fr to ho ask b E) (eT T) 0 ([]:Lv) 0 [[.int fr,.int 0,.int T]]=bif !(decide (fr=to))then go0 (to,1,[[.int fr,.int 0,.int T],[.int to,.int T,.int 0]],[[.int 0]])else go0 (to,1,[[.int fr,.int 0,.int T]],[[.int 0]]):=by kernel_rfl
def pp(fr to T:Int):Lv:=[[.int fr,.int 0,.int T],[.int to,.int T,.int 20000001]]
def AG(fr:Int):Lv:=[[.int fr,.int 0,.int 20000001]]
theorem AW(hn:20<=n)(hr:Rul an co se re)(hc:Clm nu fr to ho ask)(hE:E=[]\/E=eI ask):
  kz n nu fr an co se re (bU ho) (bp nu fr to ho ask b E)=some (if cd b E then pp fr to (ask+an+co)else AG fr,0):=by
 have hl:=Cn n ho (b9 (ask+an+co) 10000000) hn hc.h5 (by have:=hc.h6;have:=hr.h1;have:=hr.h2;unfold b9;split<;>omega)
 obtain⟨k,hk⟩:∃k,n=k+2:=⟨n-2,by omega⟩
 have e:kz n nu fr an co se re (bU ho) (bp nu fr to ho ask b E)=af (fun go0 (s:av)=>sj n go0 fr (bU ho) (bp nu fr to ho ask b E) (if cd b E then eT (ask+an+co)else[]) s.1 s.2.1 s.2.2.1 s.2.2.2) n ((fr,0,uz fr,([]:Lv)):av):=by
  show mi n nu fr an co se re (bU ho) (bp nu fr to ho ask b E)=_
  unfold mi;rw[oG n an co se re nu fr to ho ask b E hn hr hc hE];rw[bS];unfold sa;rw[nY n an co se re nu fr to ho ask b E hn hr hc hE];rw[bS];rfl
 rw[e];conv=>lhs;arg 2;rw[hk]
 by_cases h:cd b E
 ·rw[if_pos h,if_pos h,ae]
  show af (fun go1 (s:aJ)=>mM n _ go1 fr (bU ho) (bp nu fr to ho ask b E) (eT (ask+an+co)) fr 0 (uz fr) ([]:Lv) s) n (0:aJ)=_
  conv=>lhs;arg 2;rw[hk]
  rw[ae];refine(LK n nu fr to ho ask b E _ _ _).trans ?_
  rw[hl];rw[bS];refine(LC n nu fr to ho ask b E _ _ _).trans ?_
  have h6:=hc.h6;have r1:=hr.h1;have r2:=hr.h2;rw[KX,dF (by omega),Lw,nF hc.h4,ae]
  rfl
 ·rw[if_neg h,if_neg h,ae]
  rfl
end
end
end Go.Proofs.YtkgphkdlbjinmaaGreatDoor
namespace Go.Proofs.YtkgphkdlbjinmaaGreatDoor
open Go Go.Sx
noncomputable section
def fW:List Nat:=[72,74,78,80,81,83,102,119,121,153,2000291,3000170]
abbrev ly:=Int
def lK(n:Nat)(v0:Int):Option ly:=
 some (IOp.f .and (IntKind.wrap .i64 (aa .add .u64 (aa .add .u64 (aa .add .u64 (aa .and .u64 (aa .add .u64 (aa .shr .u64 (aa .add .u64 (aa .and .u64 (aa .shr .u64 (aa .add .u64 (aa .and .u64 (aa .shr .u64 v0 1) 6148914691236517205) (aa .and .u64 v0 6148914691236517205)) 2) 3689348814741910323) (aa .and .u64 (aa .add .u64 (aa .and .u64 (aa .shr .u64 v0 1) 6148914691236517205) (aa .and .u64 v0 6148914691236517205)) 3689348814741910323)) 4) (aa .add .u64 (aa .and .u64 (aa .shr .u64 (aa .add .u64 (aa .and .u64 (aa .shr .u64 v0 1) 6148914691236517205) (aa .and .u64 v0 6148914691236517205)) 2) 3689348814741910323) (aa .and .u64 (aa .add .u64 (aa .and .u64 (aa .shr .u64 v0 1) 6148914691236517205) (aa .and .u64 v0 6148914691236517205)) 3689348814741910323))) 1085102592571150095) (aa .shr .u64 (aa .and .u64 (aa .add .u64 (aa .shr .u64 (aa .add .u64 (aa .and .u64 (aa .shr .u64 (aa .add .u64 (aa .and .u64 (aa .shr .u64 v0 1) 6148914691236517205) (aa .and .u64 v0 6148914691236517205)) 2) 3689348814741910323) (aa .and .u64 (aa .add .u64 (aa .and .u64 (aa .shr .u64 v0 1) 6148914691236517205) (aa .and .u64 v0 6148914691236517205)) 3689348814741910323)) 4) (aa .add .u64 (aa .and .u64 (aa .shr .u64 (aa .add .u64 (aa .and .u64 (aa .shr .u64 v0 1) 6148914691236517205) (aa .and .u64 v0 6148914691236517205)) 2) 3689348814741910323) (aa .and .u64 (aa .add .u64 (aa .and .u64 (aa .shr .u64 v0 1) 6148914691236517205) (aa .and .u64 v0 6148914691236517205)) 3689348814741910323))) 1085102592571150095) 8)) (aa .shr .u64 (aa .add .u64 (aa .and .u64 (aa .add .u64 (aa .shr .u64 (aa .add .u64 (aa .and .u64 (aa .shr .u64 (aa .add .u64 (aa .and .u64 (aa .shr .u64 v0 1) 6148914691236517205) (aa .and .u64 v0 6148914691236517205)) 2) 3689348814741910323) (aa .and .u64 (aa .add .u64 (aa .and .u64 (aa .shr .u64 v0 1) 6148914691236517205) (aa .and .u64 v0 6148914691236517205)) 3689348814741910323)) 4) (aa .add .u64 (aa .and .u64 (aa .shr .u64 (aa .add .u64 (aa .and .u64 (aa .shr .u64 v0 1) 6148914691236517205) (aa .and .u64 v0 6148914691236517205)) 2) 3689348814741910323) (aa .and .u64 (aa .add .u64 (aa .and .u64 (aa .shr .u64 v0 1) 6148914691236517205) (aa .and .u64 v0 6148914691236517205)) 3689348814741910323))) 1085102592571150095) (aa .shr .u64 (aa .and .u64 (aa .add .u64 (aa .shr .u64 (aa .add .u64 (aa .and .u64 (aa .shr .u64 (aa .add .u64 (aa .and .u64 (aa .shr .u64 v0 1) 6148914691236517205) (aa .and .u64 v0 6148914691236517205)) 2) 3689348814741910323) (aa .and .u64 (aa .add .u64 (aa .and .u64 (aa .shr .u64 v0 1) 6148914691236517205) (aa .and .u64 v0 6148914691236517205)) 3689348814741910323)) 4) (aa .add .u64 (aa .and .u64 (aa .shr .u64 (aa .add .u64 (aa .and .u64 (aa .shr .u64 v0 1) 6148914691236517205) (aa .and .u64 v0 6148914691236517205)) 2) 3689348814741910323) (aa .and .u64 (aa .add .u64 (aa .and .u64 (aa .shr .u64 v0 1) 6148914691236517205) (aa .and .u64 v0 6148914691236517205)) 3689348814741910323))) 1085102592571150095) 8)) 16)) (aa .shr .u64 (aa .add .u64 (aa .add .u64 (aa .and .u64 (aa .add .u64 (aa .shr .u64 (aa .add .u64 (aa .and .u64 (aa .shr .u64 (aa .add .u64 (aa .and .u64 (aa .shr .u64 v0 1) 6148914691236517205) (aa .and .u64 v0 6148914691236517205)) 2) 3689348814741910323) (aa .and .u64 (aa .add .u64 (aa .and .u64 (aa .shr .u64 v0 1) 6148914691236517205) (aa .and .u64 v0 6148914691236517205)) 3689348814741910323)) 4) (aa .add .u64 (aa .and .u64 (aa .shr .u64 (aa .add .u64 (aa .and .u64 (aa .shr .u64 v0 1) 6148914691236517205) (aa .and .u64 v0 6148914691236517205)) 2) 3689348814741910323) (aa .and .u64 (aa .add .u64 (aa .and .u64 (aa .shr .u64 v0 1) 6148914691236517205) (aa .and .u64 v0 6148914691236517205)) 3689348814741910323))) 1085102592571150095) (aa .shr .u64 (aa .and .u64 (aa .add .u64 (aa .shr .u64 (aa .add .u64 (aa .and .u64 (aa .shr .u64 (aa .add .u64 (aa .and .u64 (aa .shr .u64 v0 1) 6148914691236517205) (aa .and .u64 v0 6148914691236517205)) 2) 3689348814741910323) (aa .and .u64 (aa .add .u64 (aa .and .u64 (aa .shr .u64 v0 1) 6148914691236517205) (aa .and .u64 v0 6148914691236517205)) 3689348814741910323)) 4) (aa .add .u64 (aa .and .u64 (aa .shr .u64 (aa .add .u64 (aa .and .u64 (aa .shr .u64 v0 1) 6148914691236517205) (aa .and .u64 v0 6148914691236517205)) 2) 3689348814741910323) (aa .and .u64 (aa .add .u64 (aa .and .u64 (aa .shr .u64 v0 1) 6148914691236517205) (aa .and .u64 v0 6148914691236517205)) 3689348814741910323))) 1085102592571150095) 8)) (aa .shr .u64 (aa .add .u64 (aa .and .u64 (aa .add .u64 (aa .shr .u64 (aa .add .u64 (aa .and .u64 (aa .shr .u64 (aa .add .u64 (aa .and .u64 (aa .shr .u64 v0 1) 6148914691236517205) (aa .and .u64 v0 6148914691236517205)) 2) 3689348814741910323) (aa .and .u64 (aa .add .u64 (aa .and .u64 (aa .shr .u64 v0 1) 6148914691236517205) (aa .and .u64 v0 6148914691236517205)) 3689348814741910323)) 4) (aa .add .u64 (aa .and .u64 (aa .shr .u64 (aa .add .u64 (aa .and .u64 (aa .shr .u64 v0 1) 6148914691236517205) (aa .and .u64 v0 6148914691236517205)) 2) 3689348814741910323) (aa .and .u64 (aa .add .u64 (aa .and .u64 (aa .shr .u64 v0 1) 6148914691236517205) (aa .and .u64 v0 6148914691236517205)) 3689348814741910323))) 1085102592571150095) (aa .shr .u64 (aa .and .u64 (aa .add .u64 (aa .shr .u64 (aa .add .u64 (aa .and .u64 (aa .shr .u64 (aa .add .u64 (aa .and .u64 (aa .shr .u64 v0 1) 6148914691236517205) (aa .and .u64 v0 6148914691236517205)) 2) 3689348814741910323) (aa .and .u64 (aa .add .u64 (aa .and .u64 (aa .shr .u64 v0 1) 6148914691236517205) (aa .and .u64 v0 6148914691236517205)) 3689348814741910323)) 4) (aa .add .u64 (aa .and .u64 (aa .shr .u64 (aa .add .u64 (aa .and .u64 (aa .shr .u64 v0 1) 6148914691236517205) (aa .and .u64 v0 6148914691236517205)) 2) 3689348814741910323) (aa .and .u64 (aa .add .u64 (aa .and .u64 (aa .shr .u64 v0 1) 6148914691236517205) (aa .and .u64 v0 6148914691236517205)) 3689348814741910323))) 1085102592571150095) 8)) 16)) 32))) 127)
def ja(n:Nat)(v0:Int):Option ly:=lK n v0
def math_bits_OnesCount_t:FnT:=⟨[(false,[(.num .u64)])],.i,fun n (s:Int)=>ja n s⟩
theorem sT:math_bits_OnesCount_t.ok Tryz.prog 78:=FnT.ok_of (cfg:=⟨[],fW,[],az⟩) aT rR be (fun s fn hf=>by rw[Tryz.func78]at hf;cases hf;kernel_rfl) (fun n s=>by kernel_rfl)
def math_bits_OnesCount_T:Tab:=(78,math_bits_OnesCount_t)::ref19_Made_T
theorem jF:math_bits_OnesCount_T.ok Tryz.prog:=Tab.ok_cons sT rR
abbrev je:=Int
def jg(n:Nat)(v0:Int):Option je:=
 (bif v0=0 then some 64 else bif 0<=(aa .shr .u64 (aa .mul .u64 (aa .and .u64 v0 (aa .sub .u64 0 v0)) 285870213051353865) 58) then bif (aa .shr .u64 (aa .mul .u64 (aa .and .u64 v0 (aa .sub .u64 0 v0)) 285870213051353865) 58)<64 then bif (IntKind.wrap .i64 (aa .shr .u64 (aa .mul .u64 (aa .and .u64 v0 (aa .sub .u64 0 v0)) 285870213051353865) 58))<64 then some (IntKind.wrap .i64 (cN ((((((((((((((((((((((((((((((((((((((((((((((((((((((((((((((((([]:Lv)++[[(AV.raw (.int .u8 0))]])++[[(AV.raw (.int .u8 1))]])++[[(AV.raw (.int .u8 56))]])++[[(AV.raw (.int .u8 2))]])++[[(AV.raw (.int .u8 57))]])++[[(AV.raw (.int .u8 49))]])++[[(AV.raw (.int .u8 28))]])++[[(AV.raw (.int .u8 3))]])++[[(AV.raw (.int .u8 61))]])++[[(AV.raw (.int .u8 58))]])++[[(AV.raw (.int .u8 42))]])++[[(AV.raw (.int .u8 50))]])++[[(AV.raw (.int .u8 38))]])++[[(AV.raw (.int .u8 29))]])++[[(AV.raw (.int .u8 17))]])++[[(AV.raw (.int .u8 4))]])++[[(AV.raw (.int .u8 62))]])++[[(AV.raw (.int .u8 47))]])++[[(AV.raw (.int .u8 59))]])++[[(AV.raw (.int .u8 36))]])++[[(AV.raw (.int .u8 45))]])++[[(AV.raw (.int .u8 43))]])++[[(AV.raw (.int .u8 51))]])++[[(AV.raw (.int .u8 22))]])++[[(AV.raw (.int .u8 53))]])++[[(AV.raw (.int .u8 39))]])++[[(AV.raw (.int .u8 33))]])++[[(AV.raw (.int .u8 30))]])++[[(AV.raw (.int .u8 24))]])++[[(AV.raw (.int .u8 18))]])++[[(AV.raw (.int .u8 12))]])++[[(AV.raw (.int .u8 5))]])++[[(AV.raw (.int .u8 63))]])++[[(AV.raw (.int .u8 55))]])++[[(AV.raw (.int .u8 48))]])++[[(AV.raw (.int .u8 27))]])++[[(AV.raw (.int .u8 60))]])++[[(AV.raw (.int .u8 41))]])++[[(AV.raw (.int .u8 37))]])++[[(AV.raw (.int .u8 16))]])++[[(AV.raw (.int .u8 46))]])++[[(AV.raw (.int .u8 35))]])++[[(AV.raw (.int .u8 44))]])++[[(AV.raw (.int .u8 21))]])++[[(AV.raw (.int .u8 52))]])++[[(AV.raw (.int .u8 32))]])++[[(AV.raw (.int .u8 23))]])++[[(AV.raw (.int .u8 11))]])++[[(AV.raw (.int .u8 54))]])++[[(AV.raw (.int .u8 26))]])++[[(AV.raw (.int .u8 40))]])++[[(AV.raw (.int .u8 15))]])++[[(AV.raw (.int .u8 34))]])++[[(AV.raw (.int .u8 20))]])++[[(AV.raw (.int .u8 31))]])++[[(AV.raw (.int .u8 10))]])++[[(AV.raw (.int .u8 25))]])++[[(AV.raw (.int .u8 14))]])++[[(AV.raw (.int .u8 19))]])++[[(AV.raw (.int .u8 9))]])++[[(AV.raw (.int .u8 13))]])++[[(AV.raw (.int .u8 8))]])++[[(AV.raw (.int .u8 7))]])++[[(AV.raw (.int .u8 6))]]) (IntKind.wrap .i64 (aa .shr .u64 (aa .mul .u64 (aa .and .u64 v0 (aa .sub .u64 0 v0)) 285870213051353865) 58)) 0))else none else none else none)
def dB(n:Nat)(v0:Int):Option je:=jg n v0
def math_bits_TrailingZeros_t:FnT:=⟨[(false,[(.num .u64)])],.i,fun n (s:Int)=>dB n s⟩
theorem tz4{tab:Tab}{mt:MTab}{n:Nat}{sh:RS}(e0 e1 e2 e3:E)(r0 r1:T)(env:List AV)(K:Nat->List AV->Option (bg sh.tys)):(T.br e0 r0 (.need e1 (.need e2 (.need e3 r1)))).fn tab mt n sh env K=cond (evX env e0).b (r0.fn tab mt n sh env K) (cond (evX env e1).b (cond (evX env e2).b (cond (evX env e3).b (r1.fn tab mt n sh env K) none) none) none):=rfl
theorem tz5{α:Type}{a a0 b b0 c c0 d d0:Bool}{x x0 y y0:Option α}(h0:a=a0)(h1:b=b0)(h2:c=c0)(h3:d=d0)(h4:x=x0)(h5:y=y0):cond a x (cond b (cond c (cond d y none) none) none)=cond a0 x0 (cond b0 (cond c0 (cond d0 y0 none) none) none):=by subst h0;subst h1;subst h2;subst h3;subst h4;subst h5;rfl
theorem MU(v0:Int):(evX [.raw (.int .u64 v0)] (E.kcmp .eq (.co (.num .u64) (.v 0)) (.oint .u64 0))).b=(decide (v0=0)):=by kernel_rfl
theorem MR(v0:Int):(evX [.raw (.int .u64 v0)] (E.kcmp .le (.int 0) (E.kop .shr .u64 (E.kop .mul .u64 (E.kop .and .u64 (.co (.num .u64) (.v 0)) (.kop .sub .u64 (.oint .u64 0) (.co (.num .u64) (.v 0)))) (.oint .u64 285870213051353865)) (.oint .u64 58)))).b=(decide (0<=(aa .shr .u64 (aa .mul .u64 (aa .and .u64 v0 (aa .sub .u64 0 v0)) 285870213051353865) 58))):=by kernel_rfl
theorem M0(v0:Int):(evX [.raw (.int .u64 v0)] (E.kcmp .lt (E.kop .shr .u64 (E.kop .mul .u64 (E.kop .and .u64 (.co (.num .u64) (.v 0)) (.kop .sub .u64 (.oint .u64 0) (.co (.num .u64) (.v 0)))) (.oint .u64 285870213051353865)) (.oint .u64 58)) (.int 64))).b=(decide ((aa .shr .u64 (aa .mul .u64 (aa .and .u64 v0 (aa .sub .u64 0 v0)) 285870213051353865) 58)<64)):=by kernel_rfl
theorem MY(v0:Int):(evX [.raw (.int .u64 v0)] (E.cmp .lt (.kout (E.kop .shr .u64 (E.kop .mul .u64 (E.kop .and .u64 (.co (.num .u64) (.v 0)) (.kop .sub .u64 (.oint .u64 0) (.co (.num .u64) (.v 0)))) (.oint .u64 285870213051353865)) (.oint .u64 58))) (.int 64))).b=(decide (IntKind.wrap .i64 (aa .shr .u64 (aa .mul .u64 (aa .and .u64 v0 (aa .sub .u64 0 v0)) 285870213051353865) 58)<64)):=by kernel_rfl
theorem Mi:AA Tryz.prog ⟨[],fW,[],az⟩ 80=T.br (E.kcmp .eq (.co (.num .u64) (.v 0)) (.oint .u64 0)) (.ret (RE.i (.int 64))) (.need (E.kcmp .le (.int 0) (E.kop .shr .u64 (E.kop .mul .u64 (E.kop .and .u64 (.co (.num .u64) (.v 0)) (.kop .sub .u64 (.oint .u64 0) (.co (.num .u64) (.v 0)))) (.oint .u64 285870213051353865)) (.oint .u64 58))) (.need (E.kcmp .lt (E.kop .shr .u64 (E.kop .mul .u64 (E.kop .and .u64 (.co (.num .u64) (.v 0)) (.kop .sub .u64 (.oint .u64 0) (.co (.num .u64) (.v 0)))) (.oint .u64 285870213051353865)) (.oint .u64 58)) (.int 64)) (.need (E.cmp .lt (.kout (E.kop .shr .u64 (E.kop .mul .u64 (E.kop .and .u64 (.co (.num .u64) (.v 0)) (.kop .sub .u64 (.oint .u64 0) (.co (.num .u64) (.v 0)))) (.oint .u64 285870213051353865)) (.oint .u64 58))) (.int 64)) (.ret (RE.i (E.kout (.co (.num .u8) (.cell (.snoc (.snoc (.snoc (.snoc (.snoc (.snoc (.snoc (.snoc (.snoc (.snoc (.snoc (.snoc (.snoc (.snoc (.snoc (.snoc (.snoc (.snoc (.snoc (.snoc (.snoc (.snoc (.snoc (.snoc (.snoc (.snoc (.snoc (.snoc (.snoc (.snoc (.snoc (.snoc (.snoc (.snoc (.snoc (.snoc (.snoc (.snoc (.snoc (.snoc (.snoc (.snoc (.snoc (.snoc (.snoc (.snoc (.snoc (.snoc (.snoc (.snoc (.snoc (.snoc (.snoc (.snoc (.snoc (.snoc (.snoc (.snoc (.snoc (.snoc (.snoc (.snoc (.snoc (.snoc .lnil (.rcons (.oint .u8 0) .rnil)) (.rcons (.oint .u8 1) .rnil)) (.rcons (.oint .u8 56) .rnil)) (.rcons (.oint .u8 2) .rnil)) (.rcons (.oint .u8 57) .rnil)) (.rcons (.oint .u8 49) .rnil)) (.rcons (.oint .u8 28) .rnil)) (.rcons (.oint .u8 3) .rnil)) (.rcons (.oint .u8 61) .rnil)) (.rcons (.oint .u8 58) .rnil)) (.rcons (.oint .u8 42) .rnil)) (.rcons (.oint .u8 50) .rnil)) (.rcons (.oint .u8 38) .rnil)) (.rcons (.oint .u8 29) .rnil)) (.rcons (.oint .u8 17) .rnil)) (.rcons (.oint .u8 4) .rnil)) (.rcons (.oint .u8 62) .rnil)) (.rcons (.oint .u8 47) .rnil)) (.rcons (.oint .u8 59) .rnil)) (.rcons (.oint .u8 36) .rnil)) (.rcons (.oint .u8 45) .rnil)) (.rcons (.oint .u8 43) .rnil)) (.rcons (.oint .u8 51) .rnil)) (.rcons (.oint .u8 22) .rnil)) (.rcons (.oint .u8 53) .rnil)) (.rcons (.oint .u8 39) .rnil)) (.rcons (.oint .u8 33) .rnil)) (.rcons (.oint .u8 30) .rnil)) (.rcons (.oint .u8 24) .rnil)) (.rcons (.oint .u8 18) .rnil)) (.rcons (.oint .u8 12) .rnil)) (.rcons (.oint .u8 5) .rnil)) (.rcons (.oint .u8 63) .rnil)) (.rcons (.oint .u8 55) .rnil)) (.rcons (.oint .u8 48) .rnil)) (.rcons (.oint .u8 27) .rnil)) (.rcons (.oint .u8 60) .rnil)) (.rcons (.oint .u8 41) .rnil)) (.rcons (.oint .u8 37) .rnil)) (.rcons (.oint .u8 16) .rnil)) (.rcons (.oint .u8 46) .rnil)) (.rcons (.oint .u8 35) .rnil)) (.rcons (.oint .u8 44) .rnil)) (.rcons (.oint .u8 21) .rnil)) (.rcons (.oint .u8 52) .rnil)) (.rcons (.oint .u8 32) .rnil)) (.rcons (.oint .u8 23) .rnil)) (.rcons (.oint .u8 11) .rnil)) (.rcons (.oint .u8 54) .rnil)) (.rcons (.oint .u8 26) .rnil)) (.rcons (.oint .u8 40) .rnil)) (.rcons (.oint .u8 15) .rnil)) (.rcons (.oint .u8 34) .rnil)) (.rcons (.oint .u8 20) .rnil)) (.rcons (.oint .u8 31) .rnil)) (.rcons (.oint .u8 10) .rnil)) (.rcons (.oint .u8 25) .rnil)) (.rcons (.oint .u8 14) .rnil)) (.rcons (.oint .u8 19) .rnil)) (.rcons (.oint .u8 9) .rnil)) (.rcons (.oint .u8 13) .rnil)) (.rcons (.oint .u8 8) .rnil)) (.rcons (.oint .u8 7) .rnil)) (.rcons (.oint .u8 6) .rnil)) (E.kout (E.kop .shr .u64 (E.kop .mul .u64 (E.kop .and .u64 (.co (.num .u64) (.v 0)) (.kop .sub .u64 (.oint .u64 0) (.co (.num .u64) (.v 0)))) (.oint .u64 285870213051353865)) (.oint .u64 58))) 0)))))))):=by kernel_rfl
theorem Mw(mt:MTab)(tab:Tab)(n:Nat)(v0:Int)(K:Nat->List AV->Option (bg (RS.tys .i))):(T.ret (RE.i (.int 64))).fn tab mt n .i [.raw (.int .u64 v0)] K=some (64:Int):=by kernel_rfl
theorem LS{mt:MTab}{tab:Tab}{n:Nat}{K:Nat->List AV->Option (bg (RS.tys .i))}(e:E)(env:List AV){z:Int}(h:(evX env e).i=z):(T.ret (RE.i e)).fn tab mt n .i env K=some z:=congrArg some h
theorem M2(v0:Int):(evX [.raw (.int .u64 v0)] (E.kout (.co (.num .u8) (.cell (.snoc (.snoc (.snoc (.snoc (.snoc (.snoc (.snoc (.snoc (.snoc (.snoc (.snoc (.snoc (.snoc (.snoc (.snoc (.snoc (.snoc (.snoc (.snoc (.snoc (.snoc (.snoc (.snoc (.snoc (.snoc (.snoc (.snoc (.snoc (.snoc (.snoc (.snoc (.snoc (.snoc (.snoc (.snoc (.snoc (.snoc (.snoc (.snoc (.snoc (.snoc (.snoc (.snoc (.snoc (.snoc (.snoc (.snoc (.snoc (.snoc (.snoc (.snoc (.snoc (.snoc (.snoc (.snoc (.snoc (.snoc (.snoc (.snoc (.snoc (.snoc (.snoc (.snoc (.snoc .lnil (.rcons (.oint .u8 0) .rnil)) (.rcons (.oint .u8 1) .rnil)) (.rcons (.oint .u8 56) .rnil)) (.rcons (.oint .u8 2) .rnil)) (.rcons (.oint .u8 57) .rnil)) (.rcons (.oint .u8 49) .rnil)) (.rcons (.oint .u8 28) .rnil)) (.rcons (.oint .u8 3) .rnil)) (.rcons (.oint .u8 61) .rnil)) (.rcons (.oint .u8 58) .rnil)) (.rcons (.oint .u8 42) .rnil)) (.rcons (.oint .u8 50) .rnil)) (.rcons (.oint .u8 38) .rnil)) (.rcons (.oint .u8 29) .rnil)) (.rcons (.oint .u8 17) .rnil)) (.rcons (.oint .u8 4) .rnil)) (.rcons (.oint .u8 62) .rnil)) (.rcons (.oint .u8 47) .rnil)) (.rcons (.oint .u8 59) .rnil)) (.rcons (.oint .u8 36) .rnil)) (.rcons (.oint .u8 45) .rnil)) (.rcons (.oint .u8 43) .rnil)) (.rcons (.oint .u8 51) .rnil)) (.rcons (.oint .u8 22) .rnil)) (.rcons (.oint .u8 53) .rnil)) (.rcons (.oint .u8 39) .rnil)) (.rcons (.oint .u8 33) .rnil)) (.rcons (.oint .u8 30) .rnil)) (.rcons (.oint .u8 24) .rnil)) (.rcons (.oint .u8 18) .rnil)) (.rcons (.oint .u8 12) .rnil)) (.rcons (.oint .u8 5) .rnil)) (.rcons (.oint .u8 63) .rnil)) (.rcons (.oint .u8 55) .rnil)) (.rcons (.oint .u8 48) .rnil)) (.rcons (.oint .u8 27) .rnil)) (.rcons (.oint .u8 60) .rnil)) (.rcons (.oint .u8 41) .rnil)) (.rcons (.oint .u8 37) .rnil)) (.rcons (.oint .u8 16) .rnil)) (.rcons (.oint .u8 46) .rnil)) (.rcons (.oint .u8 35) .rnil)) (.rcons (.oint .u8 44) .rnil)) (.rcons (.oint .u8 21) .rnil)) (.rcons (.oint .u8 52) .rnil)) (.rcons (.oint .u8 32) .rnil)) (.rcons (.oint .u8 23) .rnil)) (.rcons (.oint .u8 11) .rnil)) (.rcons (.oint .u8 54) .rnil)) (.rcons (.oint .u8 26) .rnil)) (.rcons (.oint .u8 40) .rnil)) (.rcons (.oint .u8 15) .rnil)) (.rcons (.oint .u8 34) .rnil)) (.rcons (.oint .u8 20) .rnil)) (.rcons (.oint .u8 31) .rnil)) (.rcons (.oint .u8 10) .rnil)) (.rcons (.oint .u8 25) .rnil)) (.rcons (.oint .u8 14) .rnil)) (.rcons (.oint .u8 19) .rnil)) (.rcons (.oint .u8 9) .rnil)) (.rcons (.oint .u8 13) .rnil)) (.rcons (.oint .u8 8) .rnil)) (.rcons (.oint .u8 7) .rnil)) (.rcons (.oint .u8 6) .rnil)) (E.kout (E.kop .shr .u64 (E.kop .mul .u64 (E.kop .and .u64 (.co (.num .u64) (.v 0)) (.kop .sub .u64 (.oint .u64 0) (.co (.num .u64) (.v 0)))) (.oint .u64 285870213051353865)) (.oint .u64 58))) 0)))).i=IntKind.wrap .i64 (cN ((((((((((((((((((((((((((((((((((((((((((((((((((((((((((((((((([]:Lv)++[[(AV.raw (.int .u8 0))]])++[[(AV.raw (.int .u8 1))]])++[[(AV.raw (.int .u8 56))]])++[[(AV.raw (.int .u8 2))]])++[[(AV.raw (.int .u8 57))]])++[[(AV.raw (.int .u8 49))]])++[[(AV.raw (.int .u8 28))]])++[[(AV.raw (.int .u8 3))]])++[[(AV.raw (.int .u8 61))]])++[[(AV.raw (.int .u8 58))]])++[[(AV.raw (.int .u8 42))]])++[[(AV.raw (.int .u8 50))]])++[[(AV.raw (.int .u8 38))]])++[[(AV.raw (.int .u8 29))]])++[[(AV.raw (.int .u8 17))]])++[[(AV.raw (.int .u8 4))]])++[[(AV.raw (.int .u8 62))]])++[[(AV.raw (.int .u8 47))]])++[[(AV.raw (.int .u8 59))]])++[[(AV.raw (.int .u8 36))]])++[[(AV.raw (.int .u8 45))]])++[[(AV.raw (.int .u8 43))]])++[[(AV.raw (.int .u8 51))]])++[[(AV.raw (.int .u8 22))]])++[[(AV.raw (.int .u8 53))]])++[[(AV.raw (.int .u8 39))]])++[[(AV.raw (.int .u8 33))]])++[[(AV.raw (.int .u8 30))]])++[[(AV.raw (.int .u8 24))]])++[[(AV.raw (.int .u8 18))]])++[[(AV.raw (.int .u8 12))]])++[[(AV.raw (.int .u8 5))]])++[[(AV.raw (.int .u8 63))]])++[[(AV.raw (.int .u8 55))]])++[[(AV.raw (.int .u8 48))]])++[[(AV.raw (.int .u8 27))]])++[[(AV.raw (.int .u8 60))]])++[[(AV.raw (.int .u8 41))]])++[[(AV.raw (.int .u8 37))]])++[[(AV.raw (.int .u8 16))]])++[[(AV.raw (.int .u8 46))]])++[[(AV.raw (.int .u8 35))]])++[[(AV.raw (.int .u8 44))]])++[[(AV.raw (.int .u8 21))]])++[[(AV.raw (.int .u8 52))]])++[[(AV.raw (.int .u8 32))]])++[[(AV.raw (.int .u8 23))]])++[[(AV.raw (.int .u8 11))]])++[[(AV.raw (.int .u8 54))]])++[[(AV.raw (.int .u8 26))]])++[[(AV.raw (.int .u8 40))]])++[[(AV.raw (.int .u8 15))]])++[[(AV.raw (.int .u8 34))]])++[[(AV.raw (.int .u8 20))]])++[[(AV.raw (.int .u8 31))]])++[[(AV.raw (.int .u8 10))]])++[[(AV.raw (.int .u8 25))]])++[[(AV.raw (.int .u8 14))]])++[[(AV.raw (.int .u8 19))]])++[[(AV.raw (.int .u8 9))]])++[[(AV.raw (.int .u8 13))]])++[[(AV.raw (.int .u8 8))]])++[[(AV.raw (.int .u8 7))]])++[[(AV.raw (.int .u8 6))]]) (IntKind.wrap .i64 (aa .shr .u64 (aa .mul .u64 (aa .and .u64 v0 (aa .sub .u64 0 v0)) 285870213051353865) 58)) 0):=by kernel_rfl
theorem ME(mt:MTab)(tab:Tab)(n:Nat)(v0:Int)(K:Nat->List AV->Option (bg (RS.tys .i))):(T.ret (RE.i (E.kout (.co (.num .u8) (.cell (.snoc (.snoc (.snoc (.snoc (.snoc (.snoc (.snoc (.snoc (.snoc (.snoc (.snoc (.snoc (.snoc (.snoc (.snoc (.snoc (.snoc (.snoc (.snoc (.snoc (.snoc (.snoc (.snoc (.snoc (.snoc (.snoc (.snoc (.snoc (.snoc (.snoc (.snoc (.snoc (.snoc (.snoc (.snoc (.snoc (.snoc (.snoc (.snoc (.snoc (.snoc (.snoc (.snoc (.snoc (.snoc (.snoc (.snoc (.snoc (.snoc (.snoc (.snoc (.snoc (.snoc (.snoc (.snoc (.snoc (.snoc (.snoc (.snoc (.snoc (.snoc (.snoc (.snoc (.snoc .lnil (.rcons (.oint .u8 0) .rnil)) (.rcons (.oint .u8 1) .rnil)) (.rcons (.oint .u8 56) .rnil)) (.rcons (.oint .u8 2) .rnil)) (.rcons (.oint .u8 57) .rnil)) (.rcons (.oint .u8 49) .rnil)) (.rcons (.oint .u8 28) .rnil)) (.rcons (.oint .u8 3) .rnil)) (.rcons (.oint .u8 61) .rnil)) (.rcons (.oint .u8 58) .rnil)) (.rcons (.oint .u8 42) .rnil)) (.rcons (.oint .u8 50) .rnil)) (.rcons (.oint .u8 38) .rnil)) (.rcons (.oint .u8 29) .rnil)) (.rcons (.oint .u8 17) .rnil)) (.rcons (.oint .u8 4) .rnil)) (.rcons (.oint .u8 62) .rnil)) (.rcons (.oint .u8 47) .rnil)) (.rcons (.oint .u8 59) .rnil)) (.rcons (.oint .u8 36) .rnil)) (.rcons (.oint .u8 45) .rnil)) (.rcons (.oint .u8 43) .rnil)) (.rcons (.oint .u8 51) .rnil)) (.rcons (.oint .u8 22) .rnil)) (.rcons (.oint .u8 53) .rnil)) (.rcons (.oint .u8 39) .rnil)) (.rcons (.oint .u8 33) .rnil)) (.rcons (.oint .u8 30) .rnil)) (.rcons (.oint .u8 24) .rnil)) (.rcons (.oint .u8 18) .rnil)) (.rcons (.oint .u8 12) .rnil)) (.rcons (.oint .u8 5) .rnil)) (.rcons (.oint .u8 63) .rnil)) (.rcons (.oint .u8 55) .rnil)) (.rcons (.oint .u8 48) .rnil)) (.rcons (.oint .u8 27) .rnil)) (.rcons (.oint .u8 60) .rnil)) (.rcons (.oint .u8 41) .rnil)) (.rcons (.oint .u8 37) .rnil)) (.rcons (.oint .u8 16) .rnil)) (.rcons (.oint .u8 46) .rnil)) (.rcons (.oint .u8 35) .rnil)) (.rcons (.oint .u8 44) .rnil)) (.rcons (.oint .u8 21) .rnil)) (.rcons (.oint .u8 52) .rnil)) (.rcons (.oint .u8 32) .rnil)) (.rcons (.oint .u8 23) .rnil)) (.rcons (.oint .u8 11) .rnil)) (.rcons (.oint .u8 54) .rnil)) (.rcons (.oint .u8 26) .rnil)) (.rcons (.oint .u8 40) .rnil)) (.rcons (.oint .u8 15) .rnil)) (.rcons (.oint .u8 34) .rnil)) (.rcons (.oint .u8 20) .rnil)) (.rcons (.oint .u8 31) .rnil)) (.rcons (.oint .u8 10) .rnil)) (.rcons (.oint .u8 25) .rnil)) (.rcons (.oint .u8 14) .rnil)) (.rcons (.oint .u8 19) .rnil)) (.rcons (.oint .u8 9) .rnil)) (.rcons (.oint .u8 13) .rnil)) (.rcons (.oint .u8 8) .rnil)) (.rcons (.oint .u8 7) .rnil)) (.rcons (.oint .u8 6) .rnil)) (E.kout (E.kop .shr .u64 (E.kop .mul .u64 (E.kop .and .u64 (.co (.num .u64) (.v 0)) (.kop .sub .u64 (.oint .u64 0) (.co (.num .u64) (.v 0)))) (.oint .u64 285870213051353865)) (.oint .u64 58))) 0))))).fn tab mt n .i [.raw (.int .u64 v0)] K=some (IntKind.wrap .i64 (cN ((((((((((((((((((((((((((((((((((((((((((((((((((((((((((((((((([]:Lv)++[[(AV.raw (.int .u8 0))]])++[[(AV.raw (.int .u8 1))]])++[[(AV.raw (.int .u8 56))]])++[[(AV.raw (.int .u8 2))]])++[[(AV.raw (.int .u8 57))]])++[[(AV.raw (.int .u8 49))]])++[[(AV.raw (.int .u8 28))]])++[[(AV.raw (.int .u8 3))]])++[[(AV.raw (.int .u8 61))]])++[[(AV.raw (.int .u8 58))]])++[[(AV.raw (.int .u8 42))]])++[[(AV.raw (.int .u8 50))]])++[[(AV.raw (.int .u8 38))]])++[[(AV.raw (.int .u8 29))]])++[[(AV.raw (.int .u8 17))]])++[[(AV.raw (.int .u8 4))]])++[[(AV.raw (.int .u8 62))]])++[[(AV.raw (.int .u8 47))]])++[[(AV.raw (.int .u8 59))]])++[[(AV.raw (.int .u8 36))]])++[[(AV.raw (.int .u8 45))]])++[[(AV.raw (.int .u8 43))]])++[[(AV.raw (.int .u8 51))]])++[[(AV.raw (.int .u8 22))]])++[[(AV.raw (.int .u8 53))]])++[[(AV.raw (.int .u8 39))]])++[[(AV.raw (.int .u8 33))]])++[[(AV.raw (.int .u8 30))]])++[[(AV.raw (.int .u8 24))]])++[[(AV.raw (.int .u8 18))]])++[[(AV.raw (.int .u8 12))]])++[[(AV.raw (.int .u8 5))]])++[[(AV.raw (.int .u8 63))]])++[[(AV.raw (.int .u8 55))]])++[[(AV.raw (.int .u8 48))]])++[[(AV.raw (.int .u8 27))]])++[[(AV.raw (.int .u8 60))]])++[[(AV.raw (.int .u8 41))]])++[[(AV.raw (.int .u8 37))]])++[[(AV.raw (.int .u8 16))]])++[[(AV.raw (.int .u8 46))]])++[[(AV.raw (.int .u8 35))]])++[[(AV.raw (.int .u8 44))]])++[[(AV.raw (.int .u8 21))]])++[[(AV.raw (.int .u8 52))]])++[[(AV.raw (.int .u8 32))]])++[[(AV.raw (.int .u8 23))]])++[[(AV.raw (.int .u8 11))]])++[[(AV.raw (.int .u8 54))]])++[[(AV.raw (.int .u8 26))]])++[[(AV.raw (.int .u8 40))]])++[[(AV.raw (.int .u8 15))]])++[[(AV.raw (.int .u8 34))]])++[[(AV.raw (.int .u8 20))]])++[[(AV.raw (.int .u8 31))]])++[[(AV.raw (.int .u8 10))]])++[[(AV.raw (.int .u8 25))]])++[[(AV.raw (.int .u8 14))]])++[[(AV.raw (.int .u8 19))]])++[[(AV.raw (.int .u8 9))]])++[[(AV.raw (.int .u8 13))]])++[[(AV.raw (.int .u8 8))]])++[[(AV.raw (.int .u8 7))]])++[[(AV.raw (.int .u8 6))]]) (IntKind.wrap .i64 (aa .shr .u64 (aa .mul .u64 (aa .and .u64 v0 (aa .sub .u64 0 v0)) 285870213051353865) 58)) 0)):=LS _ _ (M2 v0)
theorem MD(n:Nat)(v0:Int):(AA Tryz.prog ⟨[],fW,[],az⟩ 80).fn math_bits_OnesCount_T mtE n .i (dD (B6 [(false,[(.num .u64)])] v0)) (fun _ _=>none)=dB n v0:=(congrArg (fun t:T=>t.fn math_bits_OnesCount_T mtE n .i [.raw (.int .u64 v0)] (fun _ _=>none)) Mi).trans ((tz4 ..).trans (tz5 (MU v0) (MR v0) (M0 v0) (MY v0) (Mw ..) (ME ..)))
theorem oM:math_bits_TrailingZeros_t.ok Tryz.prog 80:=FnT.ok_of (cfg:=⟨[],fW,[],az⟩) aT jF be (fun s fn hf=>by rw[Tryz.func80]at hf;cases hf;kernel_rfl) MD
def math_bits_TrailingZeros_T:Tab:=(80,math_bits_TrailingZeros_t)::math_bits_OnesCount_T
theorem gO:math_bits_TrailingZeros_T.ok Tryz.prog:=Tab.ok_cons oM jF
abbrev mh:=List UInt8
abbrev oA:=Int×Lv
def gH(n:Nat)(go0:oA->Option mh)(v0:Lv)(v3:Int)(v4:Lv):Option mh:=
 (bif v3<(v0.length:Int) then bif 0<=v3 then(dW n (cI v0 v3 0)).bind fun y5=>
 bif (((v4++(au y5.1)).length:Int)*1)<=140737488355328 then bif(-9223372036854775808<=(v3+1))&&((v3+1)<=9223372036854775807)then go0 ((v3+1),(v4++(au y5.1)))else none else none else none else bif 0<(v4.length:Int) then some (bytesOf v4)else none)
def qD(n:Nat)(v0:Lv):Option mh:=
 (bif 0<(v0.length:Int) then(dW n (cI v0 0 0)).bind fun y1=>
 bif (((au y1.1).length:Int)*1)<=140737488355328 then(af (fun go0 s=>gH n go0 v0 s.1 s.2) n ((1,(au y1.1)):oA))else none else none)
def pH(n:Nat)(v0:Lv):Option mh:=qD n v0
def quorum_put_t:FnT:=⟨[(false,[tSa])],.st,fun n (s:Lv)=>pH n s⟩
theorem CM:quorum_put_t.ok Tryz.prog 153:=FnT.ok_of (cfg:=⟨[((153,3,0),.peel)],fW,[],az⟩) aT gO be (fun s fn hf=>by rw[Tryz.func153]at hf;cases hf;kernel_rfl) (fun n s=>by kernel_rfl)
def quorum_put_T:Tab:=(153,quorum_put_t)::math_bits_TrailingZeros_T
theorem r8:quorum_put_T.ok Tryz.prog:=Tab.ok_cons CM gO
abbrev qh:=List UInt8
def lg(n:Nat)(v0 v1 v2:Int)(v3:List UInt8):Option qh:=
 (pH n ((((([]:Lv)++[[(AV.int 5)]])++[[(AV.int v0)]])++[[(AV.int v1)]])++[[(AV.int v2)]])).bind fun y5=>
 bif ((y5.length:Int)+(v3.length:Int))<=9223372036854775807 then some (y5++v3)else none
def nr(n:Nat)(v0 v1 v2:Int)(v3 v4:List UInt8):Option qh:=lg n v0 v1 v2 v3
def quorum_content_t:FnT:=⟨[(true,[.int,.int,.int,.str,.str])],.st,fun n (s:Int×Int×Int×List UInt8×List UInt8)=>nr n s.1 s.2.1 s.2.2.1 s.2.2.2.1 s.2.2.2.2⟩
theorem xP:quorum_content_t.ok Tryz.prog 119:=FnT.ok_of (cfg:=⟨[],fW,[],az⟩) aT r8 be (fun s fn hf=>by rw[Tryz.func119]at hf;cases hf;kernel_rfl) (fun n s=>by kernel_rfl)
def quorum_content_T:Tab:=(119,quorum_content_t)::quorum_put_T
theorem mQ:quorum_content_T.ok Tryz.prog:=Tab.ok_cons xP r8
abbrev vh:=List UInt8
def oK(n:Nat)(v0:List UInt8)(v1 v2 v3:Int)(v4 v5:List UInt8):Option vh:=
 (nr n v1 v2 v3 v4 v5).bind fun y6=>
 (dX n y6).bind fun y7=>
 (ku n v0 y7).bind fun y8=>
 some y8
def iQ(n:Nat)(v0:List UInt8)(v1 v2 v3:Int)(v4 v5:List UInt8):Option vh:=oK n v0 v1 v2 v3 v4 v5
def quorum_seal_t:FnT:=⟨[(false,[.str]),(true,[.int,.int,.int,.str,.str])],.st,fun n (s:List UInt8×Int×Int×Int×List UInt8×List UInt8)=>iQ n s.1 s.2.1 s.2.2.1 s.2.2.2.1 s.2.2.2.2.1 s.2.2.2.2.2⟩
theorem Cb:quorum_seal_t.ok Tryz.prog 72:=FnT.ok_of (cfg:=⟨[],fW,[],az⟩) aT mQ be (fun s fn hf=>by rw[Tryz.func72]at hf;cases hf;kernel_rfl) (fun n s=>by kernel_rfl)
def quorum_seal_T:Tab:=(72,quorum_seal_t)::quorum_content_T
theorem qz:quorum_seal_T.ok Tryz.prog:=Tab.ok_cons Cb mQ
abbrev n0:=Bool
def jo(n:Nat)(v0:Lv)(v1 v2 v3:Int)(v4 v5:List UInt8):Option n0:=
 (bif 0<=v1 then(bif v1<=7 then(bif 0<=v2 then(bif v2<=99999999 then(bif 0<=v3 then(bif v3<=1000 then(bif (v4.length:Int)=32 then(bif (v5.length:Int)=32 then(bif v1<(v0.length:Int) then(iQ n (cS v0 v1 0) v1 v2 v3 v4 v5).bind fun y6=>
 some (v5==y6)else some false)else some false)else some false)else some false)else some false)else some false)else some false)else some false)else some false)
def il(n:Nat)(v0:Lv)(v1 v2 v3:Int)(v4 v5:List UInt8):Option n0:=jo n v0 v1 v2 v3 v4 v5
def quorum_isGenuine_t:FnT:=⟨[(true,[(.sl (.cons .str .nil))]),(true,[.int,.int,.int,.str,.str])],.b,fun n (s:Lv×Int×Int×Int×List UInt8×List UInt8)=>il n s.1 s.2.1 s.2.2.1 s.2.2.2.1 s.2.2.2.2.1 s.2.2.2.2.2⟩
theorem vF:quorum_isGenuine_t.ok Tryz.prog 83:=FnT.ok_of (cfg:=⟨[],fW,[],az⟩) aT qz be (fun s fn hf=>by rw[Tryz.func83]at hf;cases hf;kernel_rfl) (fun n s=>by kernel_rfl)
def quorum_isGenuine_T:Tab:=(83,quorum_isGenuine_t)::quorum_seal_T
theorem lM:quorum_isGenuine_T.ok Tryz.prog:=Tab.ok_cons vF qz
abbrev fi:=Bool
abbrev cm:=Int
def dL(n:Nat)(go0:cm->Option fi)(v0:Lv)(v2:Int):Option fi:=
 (bif v2<(v0.length:Int) then bif 0<=v2 then(bif !(((cS v0 v2 0).length:Int)=32)then some (!(decide (0<=v2)))else bif(-9223372036854775808<=(v2+1))&&((v2+1)<=9223372036854775807)then go0 (v2+1)else none)else none else some true)
def ff(n:Nat)(go0:cm->Option fi)(v0:Lv)(v1:Int):Option fi:=
 (bif v1<3 then bif 0<=v1 then(bif (v0.length:Int)=(cI (((([]:Lv)++[[(AV.int 1)]])++[[(AV.int 4)]])++[[(AV.int 7)]]) v1 0) then(af (fun go0 s=>dL n go0 v0 s) n (0:cm))else bif(-9223372036854775808<=(v1+1))&&((v1+1)<=9223372036854775807)then go0 (v1+1)else none)else none else some false)
def B8(n:Nat)(v0:Lv):Option fi:=
 (af (fun go0 s=>ff n go0 v0 s) n (0:cm))
def mq(n:Nat)(v0:Lv):Option fi:=B8 n v0
def quorum_Valid_t:FnT:=⟨[(true,[(.sl (.cons .str .nil))])],.b,fun n (s:Lv)=>mq n s⟩
theorem Aq:quorum_Valid_t.ok Tryz.prog 81:=FnT.ok_of (cfg:=⟨[((66,2,2),.inv [(.tmp 8 .int)]),((94,2,3),.inv [(.tmp 8 .int)])],fW,[],az⟩) aT lM be (fun s fn hf=>by rw[Tryz.func81]at hf;cases hf;kernel_rfl) (fun n s=>by kernel_rfl)
def quorum_Valid_T:Tab:=(81,quorum_Valid_t)::quorum_isGenuine_T
theorem ph:quorum_Valid_T.ok Tryz.prog:=Tab.ok_cons Aq lM
abbrev ky:=Int×Int×Int×List UInt8×List UInt8×Int
abbrev jT:=Int
def vC(n:Nat)(go0:jT->Option ky)(v0:List UInt8)(v1:Int)(v2:Lv)(v3 v4:Int)(v5:List UInt8)(v6:Int):Option ky:=
 (bif v6<(v2.length:Int) then bif 0<=v6 then(bif (cI v2 v6 0)=v1 then(bif((cI v2 v6 1)=v3)&&((cI v2 v6 2)=v4)then(bif(!((cS v2 v6 3)==v5))then some (0,0,0,([]:List UInt8),([]:List UInt8),190)else bif(-9223372036854775808<=(v6+1))&&((v6+1)<=9223372036854775807)then go0 (v6+1)else none)else bif(-9223372036854775808<=(v6+1))&&((v6+1)<=9223372036854775807)then go0 (v6+1)else none)else bif(-9223372036854775808<=(v6+1))&&((v6+1)<=9223372036854775807)then go0 (v6+1)else none)else none else(iQ n v0 v1 v3 v4 v5 v0).bind fun y7=>
 some (v1,v3,v4,v5,y7,0))
def oH(n:Nat)(v0:List UInt8)(v1:Int)(v2:Lv)(v3 v4:Int)(v5:List UInt8):Option ky:=
 (bif 0<=v1 then(bif v1<=7 then(bif 0<=v3 then(bif v3<=99999999 then(bif 0<=v4 then(bif v4<=1000 then(bif (v5.length:Int)=32 then(bif !((v0.length:Int)=32)then some (0,0,0,([]:List UInt8),([]:List UInt8),190)else(af (fun go0 s=>vC n go0 v0 v1 v2 v3 v4 v5 s) n (0:jT)))else some (0,0,0,([]:List UInt8),([]:List UInt8),190))else some (0,0,0,([]:List UInt8),([]:List UInt8),190))else some (0,0,0,([]:List UInt8),([]:List UInt8),190))else some (0,0,0,([]:List UInt8),([]:List UInt8),190))else some (0,0,0,([]:List UInt8),([]:List UInt8),190))else some (0,0,0,([]:List UInt8),([]:List UInt8),190))else some (0,0,0,([]:List UInt8),([]:List UInt8),190))
def sY(n:Nat)(v0:List UInt8)(v1:Int)(v2:Lv)(v3 v4:Int)(v5:List UInt8):Option ky:=oH n v0 v1 v2 v3 v4 v5
def quorum_Cast_t:FnT:=⟨[(false,[.str]),(false,[.int]),(false,[(.sl (.cons .int (.cons .int (.cons .int (.cons .str (.cons .str .nil))))))]),(true,[.int,.int]),(false,[.str])],(.tup (.cons (.agg (.cons .i (.cons .i (.cons .i (.cons .st (.cons .st .nil)))))) (.cons .i .nil))),fun n (s:List UInt8×Int×Lv×Int×Int×List UInt8)=>sY n s.1 s.2.1 s.2.2.1 s.2.2.2.1 s.2.2.2.2.1 s.2.2.2.2.2⟩
theorem BJ:quorum_Cast_t.ok Tryz.prog 37:=FnT.ok_of (cfg:=⟨[((118,2,7),.inv [(.tmp 8 .int)])],fW,[],az⟩) aT ph be (fun s fn hf=>by rw[Tryz.func37]at hf;cases hf;kernel_rfl) (fun n s=>by kernel_rfl)
def quorum_Cast_T:Tab:=(37,quorum_Cast_t)::quorum_Valid_T
theorem qZ:quorum_Cast_T.ok Tryz.prog:=Tab.ok_cons BJ ph
abbrev c9:=Lv×Bool
abbrev lZ:=Lv×Int
abbrev gd:=Int×Lv
def nD(n:Nat)(go0:lZ->Option c9)(v0:Lv)(v1 v2:Int)(v3:List UInt8)(v9:Lv)(v10:Int):Option c9:=
 (bif (v9.length:Int)<((2*(Na ((v0.length:Int)-1) 3))+1) then(dB n v10).bind fun y11=>
 bif 0<=y11 then bif y11<(v0.length:Int) then(iQ n (cS v0 y11 0) y11 v1 v2 v3 ([]:List UInt8)).bind fun y12=>
 bif (((v9.length:Int)+1)*56)<=140737488355328 then go0 ((v9++[[(AV.int y11),(AV.int v1),(AV.int v2),(AV.raw (ar v3)),(AV.raw (ar y12))]]),(aa .and .u64 v10 (aa .sub .u64 v10 1)))else none else none else none else some (v9,true))
def fd(n:Nat)(go0:gd->Option c9)(v0:Lv)(v1 v2:Int)(v3:List UInt8)(v4:Lv)(v6:Int)(v7:Lv):Option c9:=
 (bif v6<(v4.length:Int) then bif 0<=v6 then(il n v0 (cI v4 v6 0) (cI v4 v6 1) (cI v4 v6 2) (cS v4 v6 3) (cS v4 v6 4)).bind fun y8=>
 (bif y8 then(bif((cI v4 v6 1)=v1)&&((cI v4 v6 2)=v2)then bif 0<=(cI v4 v6 0) then bif(-9223372036854775808<=(v6+1))&&((v6+1)<=9223372036854775807)then go0 ((v6+1),(eA [(AV.raw (ar (cS v4 v6 3)))] (AV.raw (.int .u64 (aa .or .u64 (cb [(AV.raw (ar (cS v4 v6 3)))] v7) (aa .shl .u64 1 (cI v4 v6 0))))) v7))else none else none else bif(-9223372036854775808<=(v6+1))&&((v6+1)<=9223372036854775807)then go0 ((v6+1),v7)else none)else bif(-9223372036854775808<=(v6+1))&&((v6+1)<=9223372036854775807)then go0 ((v6+1),v7)else none)else none else(ja n (cb [(AV.raw (ar v3))] v7)).bind fun y8=>
 bif(-9223372036854775808<=((v0.length:Int)-1))&&(((v0.length:Int)-1)<=9223372036854775807)then bif(-9223372036854775808<=(Na ((v0.length:Int)-1) 3))&&((Na ((v0.length:Int)-1) 3)<=9223372036854775807)then bif(-9223372036854775808<=(2*(Na ((v0.length:Int)-1) 3)))&&((2*(Na ((v0.length:Int)-1) 3))<=9223372036854775807)then bif(-9223372036854775808<=((2*(Na ((v0.length:Int)-1) 3))+1))&&(((2*(Na ((v0.length:Int)-1) 3))+1)<=9223372036854775807)then(bif y8<((2*(Na ((v0.length:Int)-1) 3))+1) then some (([]:Lv),false)else(af (fun go0 s=>nD n go0 v0 v1 v2 v3 s.1 s.2) n ((([]:Lv),(cb [(AV.raw (ar v3))] v7)):lZ)))else none else none else none else none)
def np(n:Nat)(v0:Lv)(v1 v2:Int)(v3:List UInt8)(v4:Lv):Option c9:=
 (mq n v0).bind fun y5=>
 (bif y5 then(bif !((v4.length:Int)<=60)then some (([]:Lv),false)else(af (fun go0 s=>fd n go0 v0 v1 v2 v3 v4 s.1 s.2) n ((0,([]:Lv)):gd)))else some (([]:Lv),false))
def ee(n:Nat)(v0:Lv)(v1 v2:Int)(v3:List UInt8)(v4:Lv):Option c9:=np n v0 v1 v2 v3 v4
def quorum_Prove_t:FnT:=⟨[(true,[(.sl (.cons .str .nil))]),(true,[.int,.int]),(false,[.str]),(false,[(.sl (.cons .int (.cons .int (.cons .int (.cons .str (.cons .str .nil))))))])],(.tup (.cons (.row 113 (.cons .int (.cons .int (.cons .int (.cons .str (.cons .str .nil)))))) (.cons .b .nil))),fun n (s:Lv×Int×Int×List UInt8×Lv)=>ee n s.1 s.2.1 s.2.2.1 s.2.2.2.1 s.2.2.2.2⟩
theorem Bi:quorum_Prove_t.ok Tryz.prog 39:=FnT.ok_of (cfg:=⟨[((158,1,11),.inv [(.tmp 8 .int),(.inrow 5 4000000 (.cons .str (.cons (.num .u64) .nil)))]),((39,7,14),.inv [(.tmprow 11 113 (.cons .int (.cons .int (.cons .int (.cons .str (.cons .str .nil)))))),(.tmp 10 (.num .u64))])],fW,[],az⟩) aT qZ be (fun s fn hf=>by rw[Tryz.func39]at hf;cases hf;kernel_rfl) (fun n s=>by kernel_rfl)
def quorum_Prove_T:Tab:=(39,quorum_Prove_t)::quorum_Cast_T
theorem pj:quorum_Prove_T.ok Tryz.prog:=Tab.ok_cons Bi qZ
abbrev gC:=Bool
abbrev mI:=Int×Int
def gA(n:Nat)(go0:mI->Option gC)(v0:Lv)(v1 v2:Int)(v3:List UInt8)(v4:Lv)(v6 v7:Int):Option gC:=
 (bif v6<(v4.length:Int) then bif 0<=v6 then(bif (cI v4 v6 0)<=v7 then some (!(decide (0<=v6)))else(bif(!((decide ((cI v4 v6 1)=v1))&&(decide ((cI v4 v6 2)=v2))))then some (!(decide (0<=v6)))else(bif(!((cS v4 v6 3)==v3))then some (!(decide (0<=v6)))else(il n v0 (cI v4 v6 0) (cI v4 v6 1) (cI v4 v6 2) (cS v4 v6 3) (cS v4 v6 4)).bind fun y8=>
 (bif(!y8)then some (!(decide (0<=v6)))else bif(-9223372036854775808<=(v6+1))&&((v6+1)<=9223372036854775807)then go0 ((v6+1),(cI v4 v6 0))else none))))else none else some true)
def mY(n:Nat)(v0:Lv)(v1 v2:Int)(v3:List UInt8)(v4:Lv):Option gC:=
 (mq n v0).bind fun y5=>
 (bif(!y5)then some false else bif(-9223372036854775808<=((v0.length:Int)-1))&&(((v0.length:Int)-1)<=9223372036854775807)then bif(-9223372036854775808<=(Na ((v0.length:Int)-1) 3))&&((Na ((v0.length:Int)-1) 3)<=9223372036854775807)then bif(-9223372036854775808<=(2*(Na ((v0.length:Int)-1) 3)))&&((2*(Na ((v0.length:Int)-1) 3))<=9223372036854775807)then bif(-9223372036854775808<=((2*(Na ((v0.length:Int)-1) 3))+1))&&(((2*(Na ((v0.length:Int)-1) 3))+1)<=9223372036854775807)then(bif !((v4.length:Int)=((2*(Na ((v0.length:Int)-1) 3))+1))then some false else(af (fun go0 s=>gA n go0 v0 v1 v2 v3 v4 s.1 s.2) n ((0,(-1)):mI)))else none else none else none else none)
def gP(n:Nat)(v0:Lv)(v1 v2:Int)(v3:List UInt8)(v4:Lv):Option gC:=mY n v0 v1 v2 v3 v4
def quorum_Check_t:FnT:=⟨[(true,[(.sl (.cons .str .nil))]),(true,[.int,.int]),(false,[.str]),(false,[(.sl (.cons .int (.cons .int (.cons .int (.cons .str (.cons .str .nil))))))])],.b,fun n (s:Lv×Int×Int×List UInt8×Lv)=>gP n s.1 s.2.1 s.2.2.1 s.2.2.2.1 s.2.2.2.2⟩
theorem A7:quorum_Check_t.ok Tryz.prog 40:=FnT.ok_of (cfg:=⟨[((118,2,6),.inv [(.tmp 8 .int),(.cell 4 0 .int)])],fW,[],az⟩) aT pj be (fun s fn hf=>by rw[Tryz.func40]at hf;cases hf;kernel_rfl) (fun n s=>by kernel_rfl)
def quorum_Check_T:Tab:=(40,quorum_Check_t)::quorum_Prove_T
theorem o9:quorum_Check_T.ok Tryz.prog:=Tab.ok_cons A7 pj
def ng:List Nat:=[18,31,35,37,39,40,74,75,121,2000291,3000170]
abbrev ki:=List UInt8
abbrev qJ:=List UInt8×Int
def iR(n:Nat)(go0:qJ->Option ki)(v0:Lv)(v1:List UInt8)(v2:Int):Option ki:=
 (bif v2<(v0.length:Int) then bif 0<=v2 then(dW n (cI v0 v2 0)).bind fun y3=>
 bif ((v1.length:Int)+(y3.1.length:Int))<=9223372036854775807 then bif(-9223372036854775808<=(v2+1))&&((v2+1)<=9223372036854775807)then go0 ((v1++y3.1),(v2+1))else none else none else none else some v1)
def FJ(n:Nat)(v0:Lv):Option ki:=
 (af (fun go0 s=>iR n go0 v0 s.1 s.2) n ((([]:List UInt8),0):qJ))
def lq(n:Nat)(v0:Lv):Option ki:=FJ n v0
def title_put_t:FnT:=⟨[(false,[tSa])],.st,fun n (s:Lv)=>lq n s⟩
theorem EC:title_put_t.ok Tryz.prog 75:=FnT.ok_of (cfg:=⟨[((75,3,0),.inv [(.tmp 3 .str),(.tmp 10 .int)])],ng,[],az⟩) aT o9 be (fun s fn hf=>by rw[Tryz.func75]at hf;cases hf;kernel_rfl) (fun n s=>by kernel_rfl)
def title_put_T:Tab:=(75,title_put_t)::quorum_Check_T
theorem tQ:title_put_T.ok Tryz.prog:=Tab.ok_cons EC o9
abbrev fe:=Bool
abbrev ew:=Int×Int×Int×Lv
def dJ(n:Nat)(go0:ew->Option fe)(v1:Lv)(v2 v3 v4:Int):Option fe:=
 (bif v2<(v1.length:Int) then bif 0<=v2 then(bif 0<=(cI v1 v2 0) then(bif !((cI v1 v2 0)<=7)then some false else(bif (cI v1 v2 0)=v3 then some false else bif(-9223372036854775808<=(v4+1))&&((v4+1)<=9223372036854775807)then(bif (v4+1)<=(cI v1 v2 1) then(bif !((cI v1 v2 1)<=20000000)then some false else bif(-9223372036854775808<=(v2+1))&&((v2+1)<=9223372036854775807)then go0 ((v2+1),(cI v1 v2 0),(cI v1 v2 1),(cL v1 v2 2))else none)else some false)else none))else some false)else none else some true)
def nt(n:Nat)(v0:Int)(v1:Lv):Option fe:=
 (bif 0<=v0 then(bif !(v0<=99999999)then some false else(bif 1<=(v1.length:Int) then(bif !((v1.length:Int)<=20)then some false else(af (fun go0 s=>dJ n go0 v1 s.1 s.2.1 s.2.2.1) n ((0,(-1),(-1),([]:Lv)):ew)))else some false))else some false)
def ju(n:Nat)(v0:Int)(v1:Lv):Option fe:=nt n v0 v1
def title_Formed_t:FnT:=⟨[(true,[.int,(.sl (.cons .int (.cons .int (.cons (.sl (.cons .int (.cons .int (.cons .int (.cons .str (.cons .str .nil)))))) .nil))))])],.b,fun n (s:Int×Lv)=>ju n s.1 s.2⟩
theorem A6:title_Formed_t.ok Tryz.prog 35:=FnT.ok_of (cfg:=⟨[((35,5,3),.inv [(.tmp 21 .int),(.cell 1 0 .int),(.cell 1 1 .int),(.cell 1 2 (.sl (.cons .int (.cons .int (.cons .int (.cons .str (.cons .str .nil)))))))])],ng,[],az⟩) aT tQ be (fun s fn hf=>by rw[Tryz.func35]at hf;cases hf;kernel_rfl) (fun n s=>by kernel_rfl)
def title_Formed_T:Tab:=(35,title_Formed_t)::title_put_T
theorem pb:title_Formed_T.ok Tryz.prog:=Tab.ok_cons A6 tQ
abbrev kP:=Int×Lv×Int
abbrev tI:=Int×Lv
def eF(n:Nat)(go0:tI->Option kP)(v0 v8:Int)(v9:Lv)(v11:Int)(v12:Lv):Option kP:=
 (bif v11<(v9.length:Int) then bif 0<=v11 then(bif (cI v9 v11 1)<=v8 then bif (((v12.length:Int)+1)*40)<=140737488355328 then bif(-9223372036854775808<=(v11+1))&&((v11+1)<=9223372036854775807)then go0 ((v11+1),(v12++[[(AV.int (cI v9 v11 0)),(AV.int (cI v9 v11 1)),(AV.sl (.cons .int (.cons .int (.cons .int (.cons .str (.cons .str .nil))))) ([]:Lv))]]))else none else none else bif(-9223372036854775808<=(v11+1))&&((v11+1)<=9223372036854775807)then go0 ((v11+1),v12)else none)else none else(bif 20<(v12.length:Int) then some (0,([]:Lv),200)else some (v0,v12,0)))
def oD(n:Nat)(v0 v1 v2 v3 v4 v5:Int)(v6 v7:Lv)(v8:Int):Option kP:=
 (kz n v0 v1 v2 v3 v4 v5 v6 v7).bind fun y9=>
 (bif !(y9.2=0)then some (0,([]:Lv),200)else(bif 0<=v8 then(bif !(v8<=20000000)then some (0,([]:Lv),200)else(af (fun go0 s=>eF n go0 v0 v8 y9.1 s.1 s.2) n ((0,([]:Lv)):tI)))else some (0,([]:Lv),200)))
def sS(n:Nat)(v0 v1 v2 v3 v4 v5:Int)(v6 v7:Lv)(v8:Int):Option kP:=oD n v0 v1 v2 v3 v4 v5 v6 v7 v8
def title_Draft_t:FnT:=⟨[(true,[.int,.int,.int,.int,.int,.int,tSc,(.sl (.cons .int (.cons .int (.cons .int (.cons .int (.cons .int (.cons .bool (.cons tSc .nil))))))))]),(false,[.int])],(.tup (.cons (.agg (.cons .i (.cons (.row 73 (.cons .int (.cons .int (.cons (.sl (.cons .int (.cons .int (.cons .int (.cons .str (.cons .str .nil)))))) .nil)))) .nil))) (.cons .i .nil))),fun n (s:Int×Int×Int×Int×Int×Int×Lv×Lv×Int)=>sS n s.1 s.2.1 s.2.2.1 s.2.2.2.1 s.2.2.2.2.1 s.2.2.2.2.2.1 s.2.2.2.2.2.2.1 s.2.2.2.2.2.2.2.1 s.2.2.2.2.2.2.2.2⟩
theorem BY:title_Draft_t.ok Tryz.prog 14:=FnT.ok_of (cfg:=⟨[((14,6,5),.inv [(.tmp 29 .int),(.cellrow 3 1 73 (.cons .int (.cons .int (.cons (.sl (.cons .int (.cons .int (.cons .int (.cons .str (.cons .str .nil)))))) .nil))))])],ng,[],az⟩) aT pb be (fun s fn hf=>by rw[Tryz.func14]at hf;cases hf;kernel_rfl) (fun n s=>by kernel_rfl)
def title_Draft_T:Tab:=(14,title_Draft_t)::title_Formed_T
theorem rp:title_Draft_T.ok Tryz.prog:=Tab.ok_cons BY pb
abbrev kB:=Lv×Int
abbrev jO:=List UInt8×Int×Lv
def fQ(n:Nat)(go0:jO->Option kB)(v0:List UInt8)(v1:Int)(v2:Lv)(v3:Int)(v4:Lv)(v6:List UInt8)(v7:Int)(v8:Lv):Option kB:=
 (bif v7<(v4.length:Int) then bif 0<=v7 then(lq n (((((([]:Lv)++[[(AV.int 6)]])++[[(AV.int v3)]])++[[(AV.int v7)]])++[[(AV.int (cI v4 v7 0))]])++[[(AV.int (cI v4 v7 1))]])).bind fun y9=>
 bif ((y9.length:Int)+(v6.length:Int))<=9223372036854775807 then(dX n (y9++v6)).bind fun y10=>
 (sY n v0 v1 v2 v3 v7 y10).bind fun y11=>
 bif (((v8.length:Int)+1)*56)<=140737488355328 then(bif !(y11.2.2.2.2.2=0)then some (([]:Lv),200)else bif(-9223372036854775808<=(v7+1))&&((v7+1)<=9223372036854775807)then go0 (y10,(v7+1),(v8++[[(AV.int y11.1),(AV.int y11.2.1),(AV.int y11.2.2.1),(AV.raw (ar y11.2.2.2.1)),(AV.raw (ar y11.2.2.2.2.1))]]))else none)else none else none else none else some (v8,0))
def oT(n:Nat)(v0:List UInt8)(v1:Int)(v2:Lv)(v3:Int)(v4:Lv):Option kB:=
 (ju n v3 v4).bind fun y5=>
 (bif(!y5)then some (([]:Lv),200)else(af (fun go0 s=>fQ n go0 v0 v1 v2 v3 v4 s.1 s.2.1 s.2.2) n ((([]:List UInt8),0,([]:Lv)):jO)))
def nJ(n:Nat)(v0:List UInt8)(v1:Int)(v2:Lv)(v3:Int)(v4:Lv):Option kB:=oT n v0 v1 v2 v3 v4
def title_Votes_t:FnT:=⟨[(false,[.str]),(false,[.int]),(false,[(.sl (.cons .int (.cons .int (.cons .int (.cons .str (.cons .str .nil))))))]),(true,[.int,(.sl (.cons .int (.cons .int (.cons (.sl (.cons .int (.cons .int (.cons .int (.cons .str (.cons .str .nil)))))) .nil))))])],(.tup (.cons (.row 113 (.cons .int (.cons .int (.cons .int (.cons .str (.cons .str .nil)))))) (.cons .i .nil))),fun n (s:List UInt8×Int×Lv×Int×Lv)=>nJ n s.1 s.2.1 s.2.2.1 s.2.2.2.1 s.2.2.2.2⟩
theorem BW:title_Votes_t.ok Tryz.prog 16:=FnT.ok_of (cfg:=⟨[((73,2,11),.inv [(.tmp 3 .str),(.tmp 9 .int),(.cellrow 6 0 113 (.cons .int (.cons .int (.cons .int (.cons .str (.cons .str .nil))))))])],ng,[],az⟩) aT rp be (fun s fn hf=>by rw[Tryz.func16]at hf;cases hf;kernel_rfl) (fun n s=>by kernel_rfl)
def title_Votes_T:Tab:=(16,title_Votes_t)::title_Draft_T
theorem qX:title_Votes_T.ok Tryz.prog:=Tab.ok_cons BW rp
abbrev kQ:=Int×Lv×Int
abbrev jY:=List UInt8×Int×Lv
def fU(n:Nat)(go0:jY->Option kQ)(v0:Lv)(v1:Int)(v2 v3:Lv)(v5:List UInt8)(v6:Int)(v7:Lv):Option kQ:=
 (bif v6<(v2.length:Int) then bif 0<=v6 then(lq n (((((([]:Lv)++[[(AV.int 6)]])++[[(AV.int v1)]])++[[(AV.int v6)]])++[[(AV.int (cI v2 v6 0))]])++[[(AV.int (cI v2 v6 1))]])).bind fun y8=>
 bif ((y8.length:Int)+(v5.length:Int))<=9223372036854775807 then(dX n (y8++v5)).bind fun y9=>
 (ee n v0 v1 v6 y9 v3).bind fun y10=>
 (bif(!y10.2)then(bif (v7.length:Int)=0 then some (0,([]:Lv),200)else some (v1,v7,0))else bif (((v7.length:Int)+1)*40)<=140737488355328 then bif(-9223372036854775808<=(v6+1))&&((v6+1)<=9223372036854775807)then go0 (y9,(v6+1),(v7++[[(AV.int (cI v2 v6 0)),(AV.int (cI v2 v6 1)),(AV.sl (.cons .int (.cons .int (.cons .int (.cons .str (.cons .str .nil))))) y10.1)]]))else none else none)else none else none else(bif (v7.length:Int)=0 then some (0,([]:Lv),200)else some (v1,v7,0)))
def oO(n:Nat)(v0:Lv)(v1:Int)(v2 v3:Lv):Option kQ:=
 (ju n v1 v2).bind fun y4=>
 (bif(!y4)then some (0,([]:Lv),200)else(af (fun go0 s=>fU n go0 v0 v1 v2 v3 s.1 s.2.1 s.2.2) n ((([]:List UInt8),0,([]:Lv)):jY)))
def kl(n:Nat)(v0:Lv)(v1:Int)(v2 v3:Lv):Option kQ:=oO n v0 v1 v2 v3
def title_Prove_t:FnT:=⟨[(true,[(.sl (.cons .str .nil))]),(true,[.int,(.sl (.cons .int (.cons .int (.cons (.sl (.cons .int (.cons .int (.cons .int (.cons .str (.cons .str .nil)))))) .nil))))]),(false,[(.sl (.cons .int (.cons .int (.cons .int (.cons .str (.cons .str .nil))))))])],(.tup (.cons (.agg (.cons .i (.cons (.row 73 (.cons .int (.cons .int (.cons (.sl (.cons .int (.cons .int (.cons .int (.cons .str (.cons .str .nil)))))) .nil)))) .nil))) (.cons .i .nil))),fun n (s:Lv×Int×Lv×Lv)=>kl n s.1 s.2.1 s.2.2.1 s.2.2.2⟩
theorem BN:title_Prove_t.ok Tryz.prog 17:=FnT.ok_of (cfg:=⟨[((73,2,8),.inv [(.tmp 3 .str),(.tmp 9 .int),(.cellrow 4 1 73 (.cons .int (.cons .int (.cons (.sl (.cons .int (.cons .int (.cons .int (.cons .str (.cons .str .nil)))))) .nil))))])],ng,[],az⟩) aT qX be (fun s fn hf=>by rw[Tryz.func17]at hf;cases hf;kernel_rfl) (fun n s=>by kernel_rfl)
def title_Prove_T:Tab:=(17,title_Prove_t)::title_Votes_T
theorem qA:title_Prove_T.ok Tryz.prog:=Tab.ok_cons BN qX
abbrev kR:=Bool
abbrev jW:=List UInt8×Int
def fT(n:Nat)(go0:jW->Option kR)(v0:Lv)(v1:Int)(v2:Lv)(v4:List UInt8)(v5:Int):Option kR:=
 (bif v5<(v2.length:Int) then bif 0<=v5 then(lq n (((((([]:Lv)++[[(AV.int 6)]])++[[(AV.int v1)]])++[[(AV.int v5)]])++[[(AV.int (cI v2 v5 0))]])++[[(AV.int (cI v2 v5 1))]])).bind fun y6=>
 bif ((y6.length:Int)+(v4.length:Int))<=9223372036854775807 then(dX n (y6++v4)).bind fun y7=>
 (gP n v0 v1 v5 y7 (cL v2 v5 2)).bind fun y8=>
 (bif(!y8)then some false else bif(-9223372036854775808<=(v5+1))&&((v5+1)<=9223372036854775807)then go0 (y7,(v5+1))else none)else none else none else some true)
def oS(n:Nat)(v0:Lv)(v1:Int)(v2:Lv):Option kR:=
 (ju n v1 v2).bind fun y3=>
 (bif(!y3)then some false else(af (fun go0 s=>fT n go0 v0 v1 v2 s.1 s.2) n ((([]:List UInt8),0):jW)))
def nS(n:Nat)(v0:Lv)(v1:Int)(v2:Lv):Option kR:=oS n v0 v1 v2
def title_Check_t:FnT:=⟨[(true,[(.sl (.cons .str .nil))]),(true,[.int,(.sl (.cons .int (.cons .int (.cons (.sl (.cons .int (.cons .int (.cons .int (.cons .str (.cons .str .nil)))))) .nil))))])],.b,fun n (s:Lv×Int×Lv)=>nS n s.1 s.2.1 s.2.2⟩
theorem BZ:title_Check_t.ok Tryz.prog 18:=FnT.ok_of (cfg:=⟨[((73,2,5),.inv [(.tmp 3 .str),(.tmp 9 .int)])],ng,[],az⟩) aT qA be (fun s fn hf=>by rw[Tryz.func18]at hf;cases hf;kernel_rfl) (fun n s=>by kernel_rfl)
def title_Check_T:Tab:=(18,title_Check_t)::title_Prove_T
theorem rr:title_Check_T.ok Tryz.prog:=Tab.ok_cons BZ qA
abbrev gy:=Int×Bool
abbrev fX:=Int×Int
def fm(n:Nat)(go0:fX->Option gy)(v2:Lv)(v3 v5 v6:Int):Option gy:=
 (bif v6<(v2.length:Int) then bif 0<=v6 then(bif (cI v2 v6 1)<=v3 then bif(-9223372036854775808<=(v6+1))&&((v6+1)<=9223372036854775807)then go0 ((cI v2 v6 0),(v6+1))else none else bif(-9223372036854775808<=(v6+1))&&((v6+1)<=9223372036854775807)then go0 (v5,(v6+1))else none)else none else some (v5,true))
def qU(n:Nat)(v0:Lv)(v1:Int)(v2:Lv)(v3:Int):Option gy:=
 (nS n v0 v1 v2).bind fun y4=>
 (bif(!y4)then some (0,false)else(bif 0<=v3 then(bif !(v3<=20000000)then some (0,false)else bif 0<(v2.length:Int) then(bif v3<(cI v2 0 1) then some (0,false)else(af (fun go0 s=>fm n go0 v2 v3 s.1 s.2) n ((0,0):fX)))else none)else some (0,false)))
def j7(n:Nat)(v0:Lv)(v1:Int)(v2:Lv)(v3:Int):Option gy:=qU n v0 v1 v2 v3
def title_With_t:FnT:=⟨[(true,[(.sl (.cons .str .nil))]),(true,[.int,(.sl (.cons .int (.cons .int (.cons (.sl (.cons .int (.cons .int (.cons .int (.cons .str (.cons .str .nil)))))) .nil))))]),(false,[.int])],(.tup (.cons .i (.cons .b .nil))),fun n (s:Lv×Int×Lv×Int)=>j7 n s.1 s.2.1 s.2.2.1 s.2.2.2⟩
theorem C8:title_With_t.ok Tryz.prog 19:=FnT.ok_of (cfg:=⟨[((19,5,2),.inv [(.tmp 8 .int),(.tmp 32 .int)])],ng,[],az⟩) aT rr be (fun s fn hf=>by rw[Tryz.func19]at hf;cases hf;kernel_rfl) (fun n s=>by kernel_rfl)
def title_With_T:Tab:=(19,title_With_t)::title_Check_T
theorem rZ:title_With_T.ok Tryz.prog:=Tab.ok_cons C8 rr
end
open Go.Dial.Wire
noncomputable section
theorem wS(C:List Int):(iL C).length=C.length:=by simp[iL]
theorem FB(n:Nat)(C:List Int)(hn:20<=n)(hC:C.length<=10)(h:Ok62 C):lq n (iL C)=some (aX C):=by
 have:=oi (α:=ki) (step:=fun go0 (s:qJ)=>iR n go0 (iL C) s.1 s.2) C some ?_ ?_ C.length 0 n [] (by omega) (by omega) (by simp)
 ·exact this
 ·intro go acc i hi ha
  show iR n go (iL C) acc (i:Int)=_
  unfold iR;obtain⟨b1,b2⟩:=h.at i;have he:=cn (C.getD i 0);rw[dT (by rw[wS];omega),dT (by omega),nV,eG n _ hn b1 b2]
  rw[bS];dsimp only;rw[dT (by omega),inn (by omega) (by omega)]
  rfl
 ·intro go acc ha
  show iR n go (iL C) acc (C.length:Int)=_
  unfold iR;rw[dF (by rw[wS];omega)]
theorem D8(n:Nat)(C:List Int)(hn:20<=n)(hC:C.length<=10)(h:Ok62 (5::C)):pH n (iL (5::C))=some (aX (5::C)):=by
 show qD n (iL (5::C))=_
 unfold qD;have he5:=cn 5;have hlen:(5::C).length=C.length+1:=rfl
 rw[dT (by rw[wS];omega),show cI (iL (5::C)) 0 0=5 from rfl,eG n 5 hn (by omega) (by omega)]
 rw[bS];rw[dT (by rw[cX];show((enc 5).length:Int)*1<=_;omega)]
 obtain⟨m',e⟩:=H2 (step:=fun go0 (s:oA)=>gH n go0 (iL (5::C)) s.1 s.2) (5::C) (fun go acc i hi ha=>by
  show gH n go (iL (5::C)) (i:Int) (au acc)=_
  unfold gH;obtain⟨b1,b2⟩:=h.at i;have he:=cn ((5::C).getD i 0);rw[dT (by rw[wS];omega),dT (by omega),nV,eG n _ hn b1 b2]
  rw[bS];dsimp only;rw[dT (by rw[Nf,cX,cX];omega),inn (by omega) (by omega),uA]
  rfl) C.length 1 n (enc 5) (by omega) (by omega) (by omega)
 refine Eq.trans e ?_
 show gH n _ (iL (5::C)) ((5::C).length:Int) (au (aX (5::C)))=_
 unfold gH;have hp:0<(aX (5::C)).length:=by
  rw[sw,Nf];have:0<(enc 5).length:=by decide
  omega
 rw[dF (by rw[wS];omega),dT (by rw[cX];omega),nj]
def lV(ca nu st:Int)(v:List UInt8):List UInt8:=aX [5,ca,nu,st]++v
structure Vok (ca nu st:Int) (v:List UInt8):Prop where
 h1:0<=ca/\ca<=7
 h2:0<=nu/\nu<=99999999
 h3:0<=st/\st<=1000
 h4:v.length=32
theorem zG(n:Nat)(ca nu st:Int)(v s:List UInt8)(hn:20<=n)(h:Vok ca nu st v):nr n ca nu st v s=some (lV ca nu st v):=by
 obtain⟨h1,h2,h3,h4⟩:=h;show lg n ca nu st v=_
 unfold lg;have hl:=jy [5,ca,nu,st];have hl:(aX [5,ca,nu,st]).length<=36:=hl
 have hok:Ok62 [5,ca,nu,st]:=by repeat (first|exact nc|refine lz (by omega) ?_)
 rw[show pH n ((((([]:Lv)++[[(AV.int 5)]])++[[(AV.int ca)]])++[[(AV.int nu)]])++[[(AV.int st)]])=some (aX [5,ca,nu,st])from D8 n [ca,nu,st] hn (by show 3<=10;omega) hok]
 rw[bS];rw[dT (by omega)]
 rfl
theorem Jz{ca nu st:Int}{v:List UInt8}(h:Vok ca nu st v):(lV ca nu st v).length<=68:=by
 have hl:=jy [5,ca,nu,st];have hl:(aX [5,ca,nu,st]).length<=36:=hl
 have:=h.h4
 unfold lV;rw[Nf];omega
theorem oJ(n:Nat)(key:List UInt8)(ca nu st:Int)(v s:List UInt8)(hn:1000<=n)(hk:key.length=32)(h:Vok ca nu st v):iQ n key ca nu st v s=some (db key (lV ca nu st v)):=by
 have hl:=Jz h;show oK n key ca nu st v s=_
 unfold oK;rw[zG n ca nu st v s (by omega) h]
 rw[bS];rw[kH n _ (by omega) (by omega)]
 rw[bS];rw[oY n key _ (by rw[hk,e8];omega) (by rw[hk,e8];omega)]
 rfl
def kC(i:Int):List UInt8:=sha (([99,97,114,114,105,101,114]:List UInt8)++(bytesOf (([]:Lv)++[[(AV.raw (.int .u8 (IntKind.wrap .u8 i)))]])))
theorem wX(i:Int):(kC i).length=32:=rfl
theorem FH(n:Nat)(i:Int)(hn:1000<=n):wN n i=some (kC i):=by
 show sI n i=_
 unfold sI;have hb:(bytesOf (([]:Lv)++[[(AV.raw (.int .u8 (IntKind.wrap .u8 i)))]])).length=1:=rfl
 rw[dT (by rw[hb];omega),iW n _ (by rw[Nf,hb];simp) (by rw[Nf,hb];simp;omega)]
 rfl
abbrev DT(i:Int):List AV:=[(AV.raw (ar (kC i)))]
abbrev keysC:Lv:=(((([]:Lv)++[DT 0])++[DT 1])++[DT 2])++[DT 3]
theorem qQ(i:Int)(h:0<=i/\i<4):cS keysC i 0=kC i:=by
 have:i=0\/i=1\/i=2\/i=3:=by omega
 rcases this with rfl|rfl|rfl|rfl
 ·exact gu _
 ·exact gu _
 ·exact gu _
 ·exact gu _
theorem eX:(keysC.length:Int)=4:=rfl
theorem wR(n:Nat)(hn:1000<=n):py n 0=some keysC:=by
 have key:∀(go:iN->Option jA) (i:Int) (v:Lv),0<=i->i<4->v.length<=4->mj n go 0 i v=go (i+1,v++[DT i]):=by
  intro go i v h0 h1 hv;unfold mj;rw[show uS n 0 3=some 0 from rfl]
  rw[bS];rw[dT (p:=(0:Int)<=0) (by omega),dT (p:=(0:Int)<3) (by omega),show cI (((([]:Lv)++[[(AV.int 4)]])++[[(AV.int 7)]])++[[(AV.int 1)]]) 0 0=4 from rfl,dT h1,FH n i hn]
  rw[bS];rw[dT (by omega),inn (by omega) (by omega)]
 obtain⟨k,hk⟩:∃k,n=k+5:=⟨n-5,by omega⟩
 show af (fun go0 (s:iN)=>mj n go0 0 s.1 s.2) n ((0,([]:Lv)):iN)=_
 conv=>lhs;arg 2;rw[hk]
 rw[ae];refine(key _ 0 _ (by omega) (by omega) (by simp)).trans ?_
 rw[ae];refine(key _ _ _ (by omega) (by omega) (by simp)).trans ?_
 rw[ae];refine(key _ _ _ (by omega) (by omega) (by simp)).trans ?_
 rw[ae];refine(key _ _ _ (by omega) (by omega) (by simp)).trans ?_
 rw[ae];rfl
theorem tA(n:Nat)(hn:20<=n):mq n keysC=some true:=by
 obtain⟨m',e⟩:=cnt (step:=fun go0 (s:cm)=>dL n go0 keysC s) 4 (fun go i hi=>by
  show dL n go keysC (i:Int)=_
  unfold dL;rw[dT (by rw[eX];omega),dT (by omega),qQ (i:Int) (by omega),nT (by rw[wX];rfl),inn (by omega) (by omega)]
  rfl) 4 0 n rfl (by omega)
 have e':af (fun go0 (s:cm)=>dL n go0 keysC s) n (0:cm)=some true:=by
  refine Eq.trans e ?_
  show dL n _ keysC (4:Int)=_
  unfold dL;rw[dF (by rw[eX];omega)]
 obtain⟨k,hk⟩:∃k,n=k+2:=⟨n-2,by omega⟩
 show af (fun go0 (s:cm)=>ff n go0 keysC s) n (0:cm)=_
 conv=>lhs;arg 2;rw[hk]
 rw[ae];show ff n _ keysC 0=_
 unfold ff;rw[dT (by omega),dT (by omega),show cI (((([]:Lv)++[[(AV.int 1)]])++[[(AV.int 4)]])++[[(AV.int 7)]]) 0 0=1 from rfl,dF (by rw[eX];omega),inn (by omega) (by omega),ae]
 show ff n _ keysC 1=_
 unfold ff;rw[dT (by omega),dT (by omega),show cI (((([]:Lv)++[[(AV.int 1)]])++[[(AV.int 4)]])++[[(AV.int 7)]]) 1 0=4 from rfl,dT eX]
 exact e'
def rK(key:List UInt8)(ca nu st:Int)(v:List UInt8):List AV:=[(AV.int ca),(AV.int nu),(AV.int st),(AV.raw (ar v)),(AV.raw (ar (db key (lV ca nu st v))))]
theorem oe(n:Nat)(ca nu st:Int)(v:List UInt8)(hn:1000<=n)(h:Vok ca nu st v)(hc:ca<4):il n keysC ca nu st v (db (kC ca) (lV ca nu st v))=some true:=by
 have h':=h;obtain⟨h1,h2,h3,h4⟩:=h;show jo n keysC ca nu st v _=_
 unfold jo;rw[dT (by omega),dT (by omega),dT (by omega),dT (by omega),dT (by omega),dT (by omega),dT (by omega),dT (by rw[Ic];rfl),dT (by rw[eX];omega),qQ ca (by omega),oJ n _ ca nu st v _ hn (wX _) h']
 rw[bS];rw[show(db (kC ca) (lV ca nu st v)==db (kC ca) (lV ca nu st v))=true from beq_iff_eq.2 rfl]
theorem C7(n:Nat)(key:List UInt8)(ca nu st:Int)(v:List UInt8)(hn:1000<=n)(hk:key.length=32)(h:Vok ca nu st v):sY n key ca ([]:Lv) nu st v=some (ca,nu,st,v,db key (lV ca nu st v),0):=by
 have h':=h;obtain⟨h1,h2,h3,h4⟩:=h;show oH n key ca ([]:Lv) nu st v=_
 unfold oH;rw[dT (by omega),dT (by omega),dT (by omega),dT (by omega),dT (by omega),dT (by omega),dT (by omega),nT (by omega)]
 obtain⟨k,hk'⟩:∃k,n=k+1:=⟨n-1,by omega⟩
 show af (fun go0 (s:jT)=>vC n go0 key ca ([]:Lv) nu st v s) n (0:jT)=_
 conv=>lhs;arg 2;rw[hk']
 rw[ae];show(iQ n key ca nu st v key).bind _=_
 rw[oJ n key ca nu st v key hn hk h'];rfl
def pAt(ps:List (Int×Int))(i:Nat):Int×Int:=ps.getD i (0,0)
def ba(nu:Int)(ps:List (Int×Int)):Nat->List UInt8
 |0=>[]
 |k+1=>kM (aX [6,nu,(k:Int),(pAt ps k).1,(pAt ps k).2]++ba nu ps k)
theorem iu(nu:Int)(ps:List (Int×Int))(k:Nat):(ba nu ps (k+1)).length=32:=rfl
theorem pZ(nu:Int)(ps:List (Int×Int))(k:Nat):(ba nu ps k).length<=32:=by
 cases k with
 |zero=>exact Nat.zero_le _
 |succ k=>exact Nat.le_of_eq (iu nu ps k)
structure Col (S:Lv) (ps:List (Int×Int)):Prop where
 hl:S.length=ps.length
 h0:∀i:Nat,i<ps.length->cI S (i:Int) 0=(pAt ps i).1
 h1:∀i:Nat,i<ps.length->cI S (i:Int) 1=(pAt ps i).2
structure Fmd (nu:Int) (ps:List (Int×Int)):Prop where
 hn:0<=nu/\nu<=99999999
 hl:1<=ps.length/\ps.length<=2
 hc:∀i,i<ps.length->0<=(pAt ps i).1/\(pAt ps i).1<=7
 ha:∀i,i<ps.length->0<=(pAt ps i).2/\(pAt ps i).2<=20000000
 hd:1<ps.length->(pAt ps 0).1≠(pAt ps 1).1/\(pAt ps 0).2<(pAt ps 1).2
theorem Fmd.ok{nu:Int}{ps:List (Int×Int)}(h:Fmd nu ps)(k:Nat)(hk:k<ps.length):Ok62 [6,nu,(k:Int),(pAt ps k).1,(pAt ps k).2]:=by
 have h1:=h.hn;have h2:=h.hl;have h3:=h.hc k hk;have h4:=h.ha k hk;repeat (first|exact nc|refine lz (by omega) ?_)
theorem nh(n:Nat)(nu:Int)(ps:List (Int×Int))(S:Lv)(hn:20<=n)(h:Fmd nu ps)(hS:Col S ps):ju n nu S=some true:=by
 have hl:=h.hl;have key:∀(go:ew->Option fe) (i:Nat) (c a:Int),i<ps.length->(pAt ps i).1≠c-> -1<=a->a+1<=(pAt ps i).2->dJ n go S (i:Int) c a=go (((i:Int)+1),(pAt ps i).1,(pAt ps i).2,cL S (i:Int) 2):=by
  intro go i c a hi hc h0 ha;have h3:=h.hc i hi;have h4:=h.ha i hi;unfold dJ;rw[dT (by rw[hS.hl];omega),dT (by omega),hS.h0 i hi,hS.h1 i hi,dT (by omega),nT (by omega),dF hc,inn (by omega) (by omega),dT (by omega),nT (by omega),inn (by omega) (by omega)]
 have kend:∀(go:ew->Option fe) (c a:Int),dJ n go S (ps.length:Int) c a=some true:=by
  intro go c a;unfold dJ;rw[dF (by rw[hS.hl];omega)]
 show nt n nu S=_
 unfold nt;have hnu:=h.hn;rw[dT (by omega),nT (by omega),dT (by rw[hS.hl];omega),nT (by rw[hS.hl];omega)]
 obtain⟨k,hk⟩:∃k,n=k+3:=⟨n-3,by omega⟩
 conv=>lhs;arg 2;rw[hk]
 rw[ae];have c0:=h.hc 0 (by omega)
 have a0:=h.ha 0 (by omega)
 refine(key _ 0 (-1) (-1) (by omega) (by omega) (by omega) (by omega)).trans ?_
 rw[ae];by_cases h2:ps.length=1
 ·have:=kend (af (fun go0 (s:ew)=>dJ n go0 S s.1 s.2.1 s.2.2.1) (k+1)) (pAt ps 0).1 (pAt ps 0).2
  rw[h2]at this;exact this
 ·have e2:ps.length=2:=by omega
  have hd:=h.hd (by omega)
  refine(key _ 1 (pAt ps 0).1 (pAt ps 0).2 (by omega) (fun e=>hd.1 e.symm) (by omega) (by omega)).trans ?_
  rw[ae];have:=kend (af (fun go0 (s:ew)=>dJ n go0 S s.1 s.2.1 s.2.2.1) k) (pAt ps 1).1 (pAt ps 1).2
  rw[e2]at this;exact this
theorem ue(n:Nat)(nu:Int)(ps:List (Int×Int))(k:Nat)(hn:1000<=n)(h:Fmd nu ps)(hk:k<ps.length):
  lq n (((((([]:Lv)++[[(AV.int 6)]])++[[(AV.int nu)]])++[[(AV.int (k:Int))]])++[[(AV.int (pAt ps k).1)]])++[[(AV.int (pAt ps k).2)]])=some (aX [6,nu,(k:Int),(pAt ps k).1,(pAt ps k).2]) ∧
  (aX [6,nu,(k:Int),(pAt ps k).1,(pAt ps k).2]).length<=45 ∧
  dX n (aX [6,nu,(k:Int),(pAt ps k).1,(pAt ps k).2]++ba nu ps k)=some (ba nu ps (k+1)):=by
 have hl:=jy [6,nu,(k:Int),(pAt ps k).1,(pAt ps k).2];have hl:(aX [6,nu,(k:Int),(pAt ps k).1,(pAt ps k).2]).length<=45:=hl
 have hv:=pZ nu ps k;refine⟨FB n [6,nu,(k:Int),(pAt ps k).1,(pAt ps k).2] (by omega) (by show 5<=10;omega) (h.ok k hk),hl,?_⟩
 rw[kH n _ (by rw[Nf];omega) (by rw[Nf];omega)]
 rfl
def gg(key:List UInt8)(ca nu:Int)(ps:List (Int×Int))(k:Nat):Lv:=(List.range k).map fun(i:Nat)=>rK key ca nu (i:Int) (ba nu ps (i+1))
theorem Fq(key:List UInt8)(ca nu:Int)(ps:List (Int×Int))(k:Nat):gg key ca nu ps (k+1)=gg key ca nu ps k++[rK key ca nu (k:Int) (ba nu ps (k+1))]:=by
 simp[gg,Nu]
theorem tR(key:List UInt8)(ca nu:Int)(ps:List (Int×Int))(k:Nat):(gg key ca nu ps k).length=k:=by simp[gg]
theorem vw(n:Nat)(key:List UInt8)(ca nu:Int)(ps:List (Int×Int))(S:Lv)(hn:1000<=n)(hk:key.length=32)(hca:0<=ca/\ca<=7)(h:Fmd nu ps)(hS:Col S ps):
  nJ n key ca ([]:Lv) nu S=some (gg key ca nu ps ps.length,0):=by
 have hl:=h.hl;have loop:∀(f i m:Nat),i+f=ps.length->f<m->af (fun go0 (s:jO)=>fQ n go0 key ca ([]:Lv) nu S s.1 s.2.1 s.2.2) m ((ba nu ps i,(i:Int),gg key ca nu ps i):jO)=some (gg key ca nu ps ps.length,0):=by
  intro f;induction f with
  |zero=>
   intro i m hi hm;obtain⟨m,rfl⟩:∃k,m=k+1:=⟨m-1,by omega⟩
   obtain rfl:i=ps.length:=by omega
   rw[ae];show fQ n _ key ca ([]:Lv) nu S (ba nu ps ps.length) (ps.length:Int) (gg key ca nu ps ps.length)=_
   unfold fQ;rw[dF (by rw[hS.hl];omega)]
  |succ f ih=>
   intro i m hi hm;obtain⟨m,rfl⟩:∃k,m=k+1:=⟨m-1,by omega⟩
   have hi':i<ps.length:=by omega
   obtain⟨e1,e2,e3⟩:=ue n nu ps i hn h hi';have hv:=pZ nu ps i;rw[ae];show fQ n _ key ca ([]:Lv) nu S (ba nu ps i) (i:Int) (gg key ca nu ps i)=_
   unfold fQ;rw[dT (by rw[hS.hl];omega),dT (by omega),hS.h0 i hi',hS.h1 i hi',e1]
   rw[bS];rw[dT (by omega),e3]
   rw[bS];rw[C7 n key ca nu (i:Int) _ hn hk ⟨hca,h.hn,by omega,iu nu ps i⟩]
   rw[bS];rw[dT (by rw[tR];omega)]
   rw[nT rfl,inn (by omega) (by omega)]
   have:=ih (i+1) m (by omega) (by omega)
   rw[Fq]at this;exact this
 show oT n key ca ([]:Lv) nu S=_
 unfold oT;rw[nh n nu ps S (by omega) h hS]
 rw[bS];rw[bnt];exact loop ps.length 0 n (by omega) (by omega)
def At(c a:Int)(V:Lv):List AV:=[(AV.int c),(AV.int a),(AV.sl (.cons .int (.cons .int (.cons .int (.cons .str (.cons .str .nil))))) V)]
def aQ(ps:List (Int×Int))(PL:Nat->Lv)(k:Nat):Lv:=(List.range k).map fun(i:Nat)=>At (pAt ps i).1 (pAt ps i).2 (PL i)
theorem D5(ps:List (Int×Int))(PL:Nat->Lv)(k:Nat):aQ ps PL (k+1)=aQ ps PL k++[At (pAt ps k).1 (pAt ps k).2 (PL k)]:=by
 simp[aQ,Nu]
theorem de(ps:List (Int×Int))(PL:Nat->Lv)(k:Nat):(aQ ps PL k).length=k:=by simp[aQ]
theorem kx(ps:List (Int×Int))(PL:Nat->Lv)(k i:Nat)(h:i<k):(aQ ps PL k).getD ((i:Int)).toNat []=At (pAt ps i).1 (pAt ps i).2 (PL i):=by
 rw[Int.toNat_natCast];simp[aQ,List.getD,Ng,List.getElem?_range h]
theorem sU(ps:List (Int×Int))(PL:Nat->Lv):Col (aQ ps PL ps.length) ps:=by
 refine⟨de _ _ _,fun i hi=>?_,fun i hi=>?_⟩
 ·show AV.i (((aQ ps PL ps.length).getD ((i:Int)).toNat []).getD 0 (.int 0))=_
  rw[kx _ _ _ _ hi];rfl
 ·show AV.i (((aQ ps PL ps.length).getD ((i:Int)).toNat []).getD 1 (.int 0))=_
  rw[kx _ _ _ _ hi];rfl
theorem Am(ps:List (Int×Int))(PL:Nat->Lv)(k i:Nat)(h:i<k):cL (aQ ps PL k) (i:Int) 2=PL i:=by
 show AV.l (((aQ ps PL k).getD ((i:Int)).toNat []).getD 2 (.int 0))=_
 rw[kx _ _ _ _ h];rfl
theorem oP(n:Nat)(nu:Int)(ps:List (Int×Int))(S pool:Lv)(PL:Nat->Lv)(K:Nat)(hn:1000<=n)(h:Fmd nu ps)(hS:Col S ps)(hK:1<=K/\K<=ps.length)
  (hp:∀k:Nat,k<K->ee n keysC nu (k:Int) (ba nu ps (k+1)) pool=some (PL k,true)) (hq:K<ps.length->∃l,ee n keysC nu (K:Int) (ba nu ps (K+1)) pool=some (l,false)):
  kl n keysC nu S pool=some (nu,aQ ps PL K,0):=by
 have hl:=h.hl;have loop:∀(f i m:Nat),i+f=K->f<m->af (fun go0 (s:jY)=>fU n go0 keysC nu S pool s.1 s.2.1 s.2.2) m ((ba nu ps i,(i:Int),aQ ps PL i):jY)=some (nu,aQ ps PL K,0):=by
  intro f;induction f with
  | zero=>
   intro i m hi hm;obtain⟨m,rfl⟩:∃k,m=k+1:=⟨m-1,by omega⟩
   obtain rfl:i=K:=by omega
   rw[ae];show fU n _ keysC nu S pool (ba nu ps i) (i:Int) (aQ ps PL i)=_
   unfold fU;by_cases hi':i<ps.length
   ·obtain⟨e1,e2,e3⟩:=ue n nu ps i hn h hi'
    obtain⟨l,eq⟩:=hq hi';have hv:=pZ nu ps i;rw[dT (by rw[hS.hl];omega),dT (by omega),hS.h0 i hi',hS.h1 i hi',e1]
    rw[bS];rw[dT (by omega),e3]
    rw[bS];rw[eq];rw[bS];dsimp only;rw[bnf,dF (by rw[de];omega)]
   ·rw[dF (by rw[hS.hl];omega),dF (by rw[de];omega)]
  |succ f ih=>
   intro i m hi hm;obtain⟨m,rfl⟩:∃k,m=k+1:=⟨m-1,by omega⟩
   have hi':i<ps.length:=by omega
   obtain⟨e1,e2,e3⟩:=ue n nu ps i hn h hi';have hv:=pZ nu ps i;rw[ae];show fU n _ keysC nu S pool (ba nu ps i) (i:Int) (aQ ps PL i)=_
   unfold fU;rw[dT (by rw[hS.hl];omega),dT (by omega),hS.h0 i hi',hS.h1 i hi',e1]
   rw[bS];rw[dT (by omega),e3]
   rw[bS];rw[hp i (by omega)]
   rw[bS];dsimp only;rw[bnt,dT (by rw[de];omega),inn (by omega) (by omega)]
   have:=ih (i+1) m (by omega) (by omega)
   rw[D5]at this;exact this
 show oO n keysC nu S pool=_
 unfold oO;rw[nh n nu ps S (by omega) h hS]
 rw[bS];rw[bnt];exact loop K 0 n (by omega) (by omega)
theorem vl(n:Nat)(nu:Int)(ps:List (Int×Int))(PL:Nat->Lv)(hn:1000<=n)(h:Fmd nu ps)
  (hp:∀k:Nat,k<ps.length->gP n keysC nu (k:Int) (ba nu ps (k+1)) (PL k)=some true):
  nS n keysC nu (aQ ps PL ps.length)=some true:=by
 have hl:=h.hl;have hS:=sU ps PL;have loop:∀(f i m:Nat),i+f=ps.length->f<m->af (fun go0 (s:jW)=>fT n go0 keysC nu (aQ ps PL ps.length) s.1 s.2) m ((ba nu ps i,(i:Int)):jW)=some true:=by
  intro f;induction f with
  |zero=>
   intro i m hi hm;obtain⟨m,rfl⟩:∃k,m=k+1:=⟨m-1,by omega⟩
   obtain rfl:i=ps.length:=by omega
   rw[ae];show fT n _ keysC nu (aQ ps PL ps.length) (ba nu ps ps.length) (ps.length:Int)=_
   unfold fT;rw[dF (by rw[hS.hl];omega)]
  |succ f ih=>
   intro i m hi hm;obtain⟨m,rfl⟩:∃k,m=k+1:=⟨m-1,by omega⟩
   have hi':i<ps.length:=by omega
   obtain⟨e1,e2,e3⟩:=ue n nu ps i hn h hi';have hv:=pZ nu ps i;rw[ae];show fT n _ keysC nu (aQ ps PL ps.length) (ba nu ps i) (i:Int)=_
   unfold fT;rw[dT (by rw[hS.hl];omega),dT (by omega),hS.h0 i hi',hS.h1 i hi',e1]
   rw[bS];rw[dT (by omega),e3]
   rw[bS];rw[Am ps PL _ i hi',hp i hi'];rw[bS];rw[bnt,inn (by omega) (by omega)]
   exact ih (i+1) m (by omega) (by omega)
 show oS n keysC nu (aQ ps PL ps.length)=_
 unfold oS;rw[nh n nu ps _ (by omega) h hS]
 rw[bS];rw[bnt];exact loop ps.length 0 n (by omega) (by omega)
theorem Dy(n:Nat)(nu:Int)(ps:List (Int×Int))(PL:Nat->Lv)(t:Int)(hn:1000<=n)(h:Fmd nu ps)(h0:(pAt ps 0).2=0)
  (hp:∀k:Nat,k<ps.length->gP n keysC nu (k:Int) (ba nu ps (k+1)) (PL k)=some true) (ht:0<=t/\t<=20000000):
  j7 n keysC nu (aQ ps PL ps.length) t=some (if ps.length=2/\(pAt ps 1).2<=t then(pAt ps 1).1 else(pAt ps 0).1,true):=by
 have hl:=h.hl;have hS:=sU ps PL;have key:∀(go:fX->Option gy) (i:Nat) (c:Int),i<ps.length->fm n go (aQ ps PL ps.length) t c (i:Int)=go (if(pAt ps i).2<=t then(pAt ps i).1 else c,(i:Int)+1):=by
  intro go i c hi;unfold fm;rw[dT (by rw[hS.hl];omega),dT (by omega),hS.h0 i hi,hS.h1 i hi]
  by_cases hq:(pAt ps i).2<=t
  ·rw[dT hq,if_pos hq,inn (by omega) (by omega)]
  ·rw[dF hq,if_neg hq,inn (by omega) (by omega)]
 have kend:∀(go:fX->Option gy) (c:Int),fm n go (aQ ps PL ps.length) t c (ps.length:Int)=some (c,true):=by
  intro go c;unfold fm;rw[dF (by rw[hS.hl];omega)]
 show qU n keysC nu (aQ ps PL ps.length) t=_
 unfold qU;rw[vl n nu ps PL hn h hp];rw[bS];rw[bnt,dT (by omega),nT (by omega),dT (by rw[hS.hl];omega),show cI (aQ ps PL ps.length) 0 1=0 from(hS.h1 0 (by omega)).trans h0,dF (by omega)]
 obtain⟨k,hk⟩:∃k,n=k+3:=⟨n-3,by omega⟩
 conv=>lhs;arg 2;rw[hk]
 rw[ae];refine(key _ 0 0 (by omega)).trans ?_
 rw[ae,if_pos (by omega)]
 by_cases h2:ps.length=1
 ·rw[if_neg (by omega)]
  have:=kend (af (fun go0 (s:fX)=>fm n go0 (aQ ps PL ps.length) t s.1 s.2) (k+1)) (pAt ps 0).1
  have e:(ps.length:Int)=0+1:=by omega
  rw[e]at this;exact this
 ·have e2:ps.length=2:=by omega
  refine(key _ 1 (pAt ps 0).1 (by omega)).trans ?_
  rw[ae];have:=kend (af (fun go0 (s:fX)=>fm n go0 (aQ ps PL ps.length) t s.1 s.2) k) (if(pAt ps 1).2<=t then(pAt ps 1).1 else(pAt ps 0).1)
  have e:(ps.length:Int)=1+1:=by omega
  rw[e]at this;refine Eq.trans this ?_
  by_cases hq:(pAt ps 1).2<=t
  ·rw[if_pos hq,if_pos ⟨e2,hq⟩]
  ·rw[if_neg hq,if_neg (fun g=>hq g.2)]
end
end Go.Proofs.YtkgphkdlbjinmaaGreatDoor
