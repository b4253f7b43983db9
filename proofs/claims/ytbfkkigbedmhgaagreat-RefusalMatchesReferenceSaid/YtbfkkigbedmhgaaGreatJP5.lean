/-
  Texts of this claim, joined (part 5).
-/
import Derived.Test.YtbfkkigbedmhgaaGreatJP4
import Derived.Lib.Hide
open List renaming modify → v0, mem_cons_of_mem → v1, getD_eq_getElem?_getD → v2, mem_cons_self → v3, getElem?_eq_getElem → v4, length_cons → v5, replicate → v7, take → v8, map_cons → v9, getElem_mem → y0, take_of_length_le → y3, countP_cons → y8, drop → y9, length_replicate → RJ, mem_singleton → RL, take_add_one → RM, foldl_append → RN, getElem?_replicate → RP, mem_of_getElem? → RT, getElem?_of_mem → RU, getElem?_set → RX, take_length → RY, cons_append → RZ, length_set → R0, foldl_cons → R1, range → R2
open Int renaming tmod → v6, le_refl → RK, tdiv → RO, toNat_of_nonneg → RV, toNat_natCast → RW
open Nat renaming lt_of_lt_of_le → y1, le_refl → y2, zero_le → y7, testBit_lt_two_pow → RQ, pow_le_pow_right → RR
set_option linter.unusedVariables false
set_option linter.unusedSimpArgs false
set_option linter.unusedSectionVars false
set_option linter.constructorNameAsVariable false
set_option maxRecDepth 100000
namespace Go.Proofs.YtbfkkigbedmhgaaGreat
open Go Go.Sx
noncomputable section
def aL:List Nat:=[12,13,14,15,16,17,18,19,20,21,22,23,24,25,26,27,28,29,30,31,32,33,34,37,38,39,40,43,44,45,46,47,48,49,50,51,52,53,54,55,56,57,58,59,62,66,68,69,70,71,72,73,74,75,76,77,78,84,85,86,87,89,95,105,106,107,108,109,110,111,112,114,115,116,117,120,122,149,150,152,153,159,176,178,179,180,182,183,184,186,187,193,202,203,204,210,211,1000015,1000016,1000017,1000018,1000019,1000022,1000049,1000050,1000051,1000052,1000053,1000062,2000151,2000152,2000217,2000247,2000248,2000249]
abbrev vw:=Bool
def wn(n:Nat)(a c b d e:Int):Option vw:=
 (bif 0<=a then(bif a<=99999999 then(bif 0<=b then(bif b<=99999999 then(bif !(a=b)then(bif 1<=c then(bif c<=4 then(bif 0<=d then(bif d<e then some (decide (e<=10000001))else some false)else some false)else some false)else some false)else some false)else some false)else some false)else some false)else some false)
def mF(n:Nat)(a b c d e:Int):Option vw:=wn n a b c d e
def ref22_formed_t:FnT:=⟨[(true,[.int,.int,.int,.int,.int])],.b,fun n (s:Int×Int×Int×Int×Int)=>mF n s.1 s.2.1 s.2.2.1 s.2.2.2.1 s.2.2.2.2⟩
theorem Ef:ref22_formed_t.ok Tryz.prog 182:=FnT.ok_of (cfg:=⟨[],aL,[],aq⟩) az uK ay (fun s fn hf=>by rw[Tryz.func182]at hf;cases hf;kernel_rfl) (fun n s=>by kernel_rfl)
def ref22_formed_T:Tab:=(182,ref22_formed_t)::claim_With_T
theorem pO:ref22_formed_T.ok Tryz.prog:=Tab.ok_cons Ef uK
abbrev dz:=Bool
abbrev fi:=Int
def fF(n:Nat)(e:fi->Option dz)(d:fi->Option dz)(b:Lv)(c a:Int):Option dz:=
 (bif a<c then bif 0<=a then bif a<(b.length:Int) then(bif (cI b c 0)=(cI b a 0) then(bif (cI b c 1)=(cI b a 1) then(bif (aZ (cI b c 3) (cI b a 3))<(aQ (cI b c 4) (cI b a 4)) then some false else bif(-9223372036854775808<=(a+1))&&((a+1)<=9223372036854775807)then d (a+1)else none)else bif(-9223372036854775808<=(a+1))&&((a+1)<=9223372036854775807)then d (a+1)else none)else bif(-9223372036854775808<=(a+1))&&((a+1)<=9223372036854775807)then d (a+1)else none)else none else none else bif(-9223372036854775808<=(c+1))&&((c+1)<=9223372036854775807)then e (c+1)else none)
def mf(n:Nat)(c:fi->Option dz)(b:Lv)(a:Int):Option dz:=
 (bif a<(b.length:Int) then bif 0<=a then(mF n (cI b a 0) (cI b a 1) (cI b a 2) (cI b a 3) (cI b a 4)).bind fun e=>
 (bif(!e)then some false else(ab (fun d s=>fF n c d b a s) n (0:fi)))else none else some true)
def sT(n:Nat)(b:Lv):Option dz:=
 (bif 40<(b.length:Int) then some false else(ab (fun a s=>mf n a b s) n (0:fi)))
def ia(n:Nat)(a:Lv):Option dz:=sT n a
def ref22_Settings_t:FnT:=⟨[(false,[(.sl (.cons .int (.cons .int (.cons .int (.cons .int (.cons .int .nil))))))])],.b,fun n (s:Lv)=>ia n s⟩
theorem BF:ref22_Settings_t.ok Tryz.prog 108:=FnT.ok_of (cfg:=⟨[((108,4,0),.inv [(.tmp 3 .int)]),((108,9,1),.inv [(.tmp 4 .int)])],aL,[],aq⟩) az pO ay (fun s fn hf=>by rw[Tryz.func108]at hf;cases hf;kernel_rfl) (fun n s=>by kernel_rfl)
def ref22_Settings_T:Tab:=(108,ref22_Settings_t)::ref22_formed_T
theorem nT:ref22_Settings_T.ok Tryz.prog:=Tab.ok_cons BF pO
abbrev lH:=Bool
abbrev wh:=Int
def dO(n:Nat)(c:wh->Option lH)(b:Lv)(a:Int):Option lH:=
 (bif a<(b.length:Int) then bif 0<=a then(bif 0<=(cI b a 0) then(bif !((cI b a 0)<=99999999)then some false else(bif (cI b a 1)<2 then some false else(bif 4<(cI b a 1) then some false else(bif 0<a then bif(-9223372036854775808<=(a-1))&&((a-1)<=9223372036854775807)then bif 0<=(a-1) then bif (a-1)<(b.length:Int) then(bif (cI b a 0)<=(cI b (a-1) 0) then some false else bif(-9223372036854775808<=(a+1))&&((a+1)<=9223372036854775807)then c (a+1)else none)else none else none else none else bif(-9223372036854775808<=(a+1))&&((a+1)<=9223372036854775807)then c (a+1)else none))))else some false)else none else some true)
def xN(n:Nat)(c b:Lv):Option lH:=
 (ia n c).bind fun d=>
 (bif(!d)then some false else(bif 40<(b.length:Int) then some false else(ab (fun a s=>dO n a b s) n (0:wh))))
def ll(n:Nat)(a b:Lv):Option lH:=xN n a b
def ref22_Valid_t:FnT:=⟨[(false,[(.sl (.cons .int (.cons .int (.cons .int (.cons .int (.cons .int .nil))))))]),(false,[(.sl (.cons .int (.cons .int .nil)))])],.b,fun n (s:Lv×Lv)=>ll n s.1 s.2⟩
theorem Eu:ref22_Valid_t.ok Tryz.prog 75:=FnT.ok_of (cfg:=⟨[((75,4,0),.inv [(.tmp 5 .int)])],aL,[],aq⟩) az nT ay (fun s fn hf=>by rw[Tryz.func75]at hf;cases hf;kernel_rfl) (fun n s=>by kernel_rfl)
def ref22_Valid_T:Tab:=(75,ref22_Valid_t)::ref22_Settings_T
theorem rT:ref22_Valid_T.ok Tryz.prog:=Tab.ok_cons Eu nT
abbrev gZ:=Int
abbrev oW:=Int
def k7(n:Nat)(b:oW->Option gZ)(c:Lv)(d a:Int):Option gZ:=
 (bif a<(c.length:Int) then bif 0<=a then(bif (cI c a 0)=d then some (cI c a 1)else bif(-9223372036854775808<=(a+1))&&((a+1)<=9223372036854775807)then b (a+1)else none)else none else some 0)
def pQ(n:Nat)(b:Lv)(c:Int):Option gZ:=
 (ab (fun a s=>k7 n a b c s) n (0:oW))
def dN(n:Nat)(a:Lv)(b:Int):Option gZ:=pQ n a b
def ref22_condition_t:FnT:=⟨[(false,[(.sl (.cons .int (.cons .int .nil)))]),(false,[.int])],.i,fun n (s:Lv×Int)=>dN n s.1 s.2⟩
theorem zd:ref22_condition_t.ok Tryz.prog 115:=FnT.ok_of (cfg:=⟨[((115,2,0),.inv [(.tmp 5 .int)])],aL,[],aq⟩) az rT ay (fun s fn hf=>by rw[Tryz.func115]at hf;cases hf;kernel_rfl) (fun n s=>by kernel_rfl)
def ref22_condition_T:Tab:=(115,ref22_condition_t)::ref22_Valid_T
theorem mL:ref22_condition_T.ok Tryz.prog:=Tab.ok_cons zd rT
abbrev mX:=Int
abbrev yo:=Int
def rF(n:Nat)(b:yo->Option mX)(c:Lv)(e f d a:Int):Option mX:=
 (bif a<(c.length:Int) then bif 0<=a then(bif (cI c a 0)=e then(bif (cI c a 1)=f then(bif (cI c a 3)<=d then(bif d<(cI c a 4) then some a else bif(-9223372036854775808<=(a+1))&&((a+1)<=9223372036854775807)then b (a+1)else none)else bif(-9223372036854775808<=(a+1))&&((a+1)<=9223372036854775807)then b (a+1)else none)else bif(-9223372036854775808<=(a+1))&&((a+1)<=9223372036854775807)then b (a+1)else none)else bif(-9223372036854775808<=(a+1))&&((a+1)<=9223372036854775807)then b (a+1)else none)else none else some (-1))
def zN(n:Nat)(b:Lv)(c d e:Int):Option mX:=
 (ab (fun a s=>rF n a b c d e s) n (0:yo))
def mI(n:Nat)(a:Lv)(b c d:Int):Option mX:=zN n a b c d
def ref22_find_t:FnT:=⟨[(false,[(.sl (.cons .int (.cons .int (.cons .int (.cons .int (.cons .int .nil))))))]),(false,[.int]),(false,[.int]),(false,[.int])],.i,fun n (s:Lv×Int×Int×Int)=>mI n s.1 s.2.1 s.2.2.1 s.2.2.2⟩
theorem Gu:ref22_find_t.ok Tryz.prog 184:=FnT.ok_of (cfg:=⟨[((184,2,0),.inv [(.tmp 9 .int)])],aL,[],aq⟩) az mL ay (fun s fn hf=>by rw[Tryz.func184]at hf;cases hf;kernel_rfl) (fun n s=>by kernel_rfl)
def ref22_find_T:Tab:=(184,ref22_find_t)::ref22_condition_T
theorem tX:ref22_find_T.ok Tryz.prog:=Tab.ok_cons Gu mL
abbrev vY:=Int
def vV(n:Nat)(b c:Lv)(a d:Int):Option vY:=
 (mI n b a 1 d).bind fun y4=>
 (bif y4<0 then(dN n c a).bind fun y5=>
 (bif 0<y5 then(dN n c a).bind fun y6=>
 (mI n b a y6 d).bind fun e=>
 some e else some y4)else some y4)
def mS(n:Nat)(a b:Lv)(c d:Int):Option vY:=vV n a b c d
def ref22_counts_t:FnT:=⟨[(false,[(.sl (.cons .int (.cons .int (.cons .int (.cons .int (.cons .int .nil))))))]),(false,[(.sl (.cons .int (.cons .int .nil)))]),(false,[.int]),(false,[.int])],.i,fun n (s:Lv×Lv×Int×Int)=>mS n s.1 s.2.1 s.2.2.1 s.2.2.2⟩
theorem D1:ref22_counts_t.ok Tryz.prog 114:=FnT.ok_of (cfg:=⟨[],aL,[],aq⟩) az tX ay (fun s fn hf=>by rw[Tryz.func114]at hf;cases hf;kernel_rfl) (fun n s=>by kernel_rfl)
def ref22_counts_T:Tab:=(114,ref22_counts_t)::ref22_find_T
theorem pW:ref22_counts_T.ok Tryz.prog:=Tab.ok_cons D1 tX
abbrev oE:=Bool
abbrev zG:=Int
def vq(n:Nat)(b:zG->Option oE)(c:Lv)(d a:Int):Option oE:=
 (bif a<(c.length:Int) then bif 0<=a then(bif (cI c a 0)=d then some true else bif(-9223372036854775808<=(a+1))&&((a+1)<=9223372036854775807)then b (a+1)else none)else none else some false)
def B0(n:Nat)(b:Lv)(c:Int):Option oE:=
 (ab (fun a s=>vq n a b c s) n (0:zG))
def uq(n:Nat)(a:Lv)(b:Int):Option oE:=B0 n a b
def ref22_has_t:FnT:=⟨[(false,[tSa]),(false,[.int])],.b,fun n (s:Lv×Int)=>uq n s.1 s.2⟩
theorem Ja:ref22_has_t.ok Tryz.prog 116:=FnT.ok_of (cfg:=⟨[((116,2,0),.inv [(.tmp 5 .int)])],aL,[],aq⟩) az pW ay (fun s fn hf=>by rw[Tryz.func116]at hf;cases hf;kernel_rfl) (fun n s=>by kernel_rfl)
def ref22_has_T:Tab:=(116,ref22_has_t)::ref22_counts_T
theorem wk:ref22_has_T.ok Tryz.prog:=Tab.ok_cons Ja pW
abbrev eJ:=Int×Lv×Lv×Int
abbrev iR:=Int×Lv×Lv
def gn(n:Nat)(e:iR->Option eJ)(d f:Lv)(j g:Int)(b c:Lv):Option eJ:=
 (mS n d f g j).bind fun a=>
 (bif a<0 then(dN n f g).bind fun h=>
 (bif 0<h then(dN n f g).bind fun i=>
 some (i,b,c,0)else some (1,b,c,0))else(bif (c.length:Int)=5 then some (6,b,c,0)else bif 0<=a then bif a<(d.length:Int) then(uq n b (cI d a 2)).bind fun h=>
 bif (((c.length:Int)+1)*8)<=140737488355328 then bif (((b.length:Int)+1)*8)<=140737488355328 then(bif h then some (5,(b++[[(AV.int (cI d a 2))]]),(c++[[(AV.int a)]]),0)else e ((cI d a 2),(b++[[(AV.int (cI d a 2))]]),(c++[[(AV.int a)]])))else none else none else none else none))
def tp(n:Nat)(d e:Lv)(a b:Int):Option eJ:=
 (ll n d e).bind fun y4=>
 (bif(!y4)then some (0,([]:Lv),([]:Lv),220)else(bif 0<=a then(bif !(a<=99999999)then some (0,([]:Lv),([]:Lv),220)else(bif b<0 then some (0,([]:Lv),([]:Lv),220)else(bif 10000000<b then some (0,([]:Lv),([]:Lv),220)else(ab (fun c s=>gn n c d e b s.1 s.2.1 s.2.2) n ((a,(([]:Lv)++[[(AV.int a)]]),([]:Lv)):iR)))))else some (0,([]:Lv),([]:Lv),220)))
def eN(n:Nat)(a b:Lv)(c d:Int):Option eJ:=tp n a b c d
def ref22_Resolve_t:FnT:=⟨[(false,[(.sl (.cons .int (.cons .int (.cons .int (.cons .int (.cons .int .nil))))))]),(false,[(.sl (.cons .int (.cons .int .nil)))]),(false,[.int]),(false,[.int])],(.tup (.cons (.agg (.cons .i (.cons (.row 3 (.cons .int .nil)) (.cons (.row 3 (.cons .int .nil)) .nil)))) (.cons .i .nil))),fun n (s:Lv×Lv×Int×Int)=>eN n s.1 s.2.1 s.2.2.1 s.2.2.2⟩
theorem CC:ref22_Resolve_t.ok Tryz.prog 55:=FnT.ok_of (cfg:=⟨[((55,4,4),.inv [(.tmp 2 .int),(.cellrow 2 1 3 (.cons .int .nil)),(.cellrow 2 2 3 (.cons .int .nil))])],aL,[],aq⟩) az wk ay (fun s fn hf=>by rw[Tryz.func55]at hf;cases hf;kernel_rfl) (fun n s=>by kernel_rfl)
def ref22_Resolve_T:Tab:=(55,ref22_Resolve_t)::ref22_has_T
theorem oX:ref22_Resolve_T.ok Tryz.prog:=Tab.ok_cons CC wk
abbrev na:=Bool
abbrev x5:=Int
def kg(n:Nat)(b:x5->Option na)(c d:Lv)(a:Int):Option na:=
 (bif a<(c.length:Int) then bif 0<=a then bif a<(d.length:Int) then(bif !((cI c a 0)=(cI d a 0))then some false else bif(-9223372036854775808<=(a+1))&&((a+1)<=9223372036854775807)then b (a+1)else none)else none else none else some true)
def Ag(n:Nat)(b c:Lv):Option na:=
 (bif !((b.length:Int)=(c.length:Int))then some false else(ab (fun a s=>kg n a b c s) n (0:x5)))
def nv(n:Nat)(a b:Lv):Option na:=Ag n a b
def ref22_Ints_t:FnT:=⟨[(false,[tSa]),(false,[tSa])],.b,fun n (s:Lv×Lv)=>nv n s.1 s.2⟩
theorem Gz:ref22_Ints_t.ok Tryz.prog 87:=FnT.ok_of (cfg:=⟨[((87,4,0),.inv [(.tmp 5 .int)])],aL,[],aq⟩) az oX ay (fun s fn hf=>by rw[Tryz.func87]at hf;cases hf;kernel_rfl) (fun n s=>by kernel_rfl)
def ref22_Ints_T:Tab:=(87,ref22_Ints_t)::ref22_Resolve_T
theorem tD:ref22_Ints_T.ok Tryz.prog:=Tab.ok_cons Gz oX
abbrev zS:=Bool
def Az(n:Nat)(a:Int)(b c:Lv)(d:Int)(e f:Lv):Option zS:=
 (bif a=d then(nv n b e).bind fun y6=>
 (bif y6 then(nv n c f).bind fun g=>
 some g else some false)else some false)
def mH(n:Nat)(a:Int)(b c:Lv)(d:Int)(e f:Lv):Option zS:=Az n a b c d e f
def ref22_Same_t:FnT:=⟨[(true,[.int,tSa,tSa]),(true,[.int,tSa,tSa])],.b,fun n (s:Int×Lv×Lv×Int×Lv×Lv)=>mH n s.1 s.2.1 s.2.2.1 s.2.2.2.1 s.2.2.2.2.1 s.2.2.2.2.2⟩
theorem GG:ref22_Same_t.ok Tryz.prog 30:=FnT.ok_of (cfg:=⟨[],aL,[],aq⟩) az tD ay (fun s fn hf=>by rw[Tryz.func30]at hf;cases hf;kernel_rfl) (fun n s=>by kernel_rfl)
def ref22_Same_T:Tab:=(30,ref22_Same_t)::ref22_Ints_T
theorem tY:ref22_Same_T.ok Tryz.prog:=Tab.ok_cons GG tD
abbrev z9:=Int
def Am(n:Nat)(a b:Int):Option z9:=
 (bif a<0 then bif(-9223372036854775808<=(a+1))&&((a+1)<=9223372036854775807)then bif(-9223372036854775808<=(0-(a+1)))&&((0-(a+1))<=9223372036854775807)then bif !(b=0)then some (v6 (0-(a+1)) b)else none else none else none else bif !(b=0)then some (v6 a b)else none)
def bD(n:Nat)(a b:Int):Option z9:=Am n a b
def ref22_pick_t:FnT:=⟨[(false,[.int]),(false,[.int])],.i,fun n (s:Int×Int)=>bD n s.1 s.2⟩
theorem Gm:ref22_pick_t.ok Tryz.prog 109:=FnT.ok_of (cfg:=⟨[],aL,[],aq⟩) az tY ay (fun s fn hf=>by rw[Tryz.func109]at hf;cases hf;kernel_rfl) (fun n s=>by kernel_rfl)
def ref22_pick_T:Tab:=(109,ref22_pick_t)::ref22_Same_T
theorem tf:ref22_pick_T.ok Tryz.prog:=Tab.ok_cons Gm tY
abbrev Ca:=Int×Int×Int×Int×Int
def BQ(n:Nat)(e d f g h:Int):Option Ca:=
 (bD n e 8).bind fun y5=>
 bif(-9223372036854775808<=(10+y5))&&((10+y5)<=9223372036854775807)then bif(-9223372036854775808<=(y5+1))&&((y5+1)<=9223372036854775807)then(bD n f 7).bind fun y6=>
 bif(-9223372036854775808<=((y5+1)+y6))&&(((y5+1)+y6)<=9223372036854775807)then bif(-9223372036854775808<=(10+(v6 ((y5+1)+y6) 8)))&&((10+(v6 ((y5+1)+y6) 8))<=9223372036854775807)then(bD n g 50).bind fun a=>
 bif(-9223372036854775808<=(a+1))&&((a+1)<=9223372036854775807)then(bD n h 60).bind fun c=>
 bif(-9223372036854775808<=((a+1)+c))&&(((a+1)+c)<=9223372036854775807)then(bD n d 8).bind fun i=>
 (bif 4<i then(bD n d 8).bind fun b=>
 bif(-9223372036854775808<=(b-3))&&((b-3)<=9223372036854775807)then some ((10+y5),(b-3),(10+(v6 ((y5+1)+y6) 8)),a,((a+1)+c))else none else some ((10+y5),1,(10+(v6 ((y5+1)+y6) 8)),a,((a+1)+c)))else none else none else none else none else none else none
def uC(n:Nat)(a b c d e:Int):Option Ca:=BQ n a b c d e
def ref22_One_t:FnT:=⟨[(true,[.int,.int,.int,.int,.int])],(.agg (.cons .i (.cons .i (.cons .i (.cons .i (.cons .i .nil)))))),fun n (s:Int×Int×Int×Int×Int)=>uC n s.1 s.2.1 s.2.2.1 s.2.2.2.1 s.2.2.2.2⟩
theorem IG:ref22_One_t.ok Tryz.prog 107:=FnT.ok_of (cfg:=⟨[],aL,[],aq⟩) az tf ay (fun s fn hf=>by rw[Tryz.func107]at hf;cases hf;kernel_rfl) (fun n s=>by kernel_rfl)
def ref22_One_T:Tab:=(107,ref22_One_t)::ref22_pick_T
theorem vu:ref22_One_T.ok Tryz.prog:=Tab.ok_cons IG tf
abbrev nH:=Lv
abbrev xF:=Lv×Int
def sP(n:Nat)(e:xF->Option nH)(d c:Lv)(a:Int):Option nH:=
 (bif a<(d.length:Int) then(bif a<16 then bif ((c.length:Int)*40)<=140737488355328 then bif 0<=a then(uC n (cI d a 0) (cI d a 1) (cI d a 2) (cI d a 3) (cI d a 4)).bind fun b=>
 bif (((c.length:Int)+1)*40)<=140737488355328 then(ia n (c++[[(AV.int b.1),(AV.int b.2.1),(AV.int b.2.2.1),(AV.int b.2.2.2.1),(AV.int b.2.2.2.2)]])).bind fun f=>
 (bif f then bif(-9223372036854775808<=(a+1))&&((a+1)<=9223372036854775807)then e ((c++[[(AV.int b.1),(AV.int b.2.1),(AV.int b.2.2.1),(AV.int b.2.2.2.1),(AV.int b.2.2.2.2)]]),(a+1))else none else bif(-9223372036854775808<=(a+1))&&((a+1)<=9223372036854775807)then e (c,(a+1))else none)else none else none else none else some c)else some c)
def Aa(n:Nat)(b:Lv):Option nH:=
 (ab (fun a s=>sP n a b s.1 s.2) n ((([]:Lv),0):xF))
def nC(n:Nat)(a:Lv):Option nH:=Aa n a
def ref22_Made_t:FnT:=⟨[(false,[(.sl (.cons .int (.cons .int (.cons .int (.cons .int (.cons .int .nil))))))])],(.row 162 (.cons .int (.cons .int (.cons .int (.cons .int (.cons .int .nil)))))),fun n (s:Lv)=>nC n s⟩
theorem Gi:ref22_Made_t.ok Tryz.prog 45:=FnT.ok_of (cfg:=⟨[((45,3,0),.inv [(.tmprow 3 162 (.cons .int (.cons .int (.cons .int (.cons .int (.cons .int .nil)))))),(.tmp 4 .int)])],aL,[],aq⟩) az vu ay (fun s fn hf=>by rw[Tryz.func45]at hf;cases hf;kernel_rfl) (fun n s=>by kernel_rfl)
def ref22_Made_T:Tab:=(45,ref22_Made_t)::ref22_One_T
theorem uy:ref22_Made_T.ok Tryz.prog:=Tab.ok_cons Gi vu
abbrev gG:=Lv
abbrev nU:=Lv×Int
def j6(n:Nat)(b:nU->Option gG)(c:Int)(d:Lv)(a:Int):Option gG:=
 (bif a<8 then bif(-9223372036854775808<=(2*a))&&((2*a)<=9223372036854775807)then bif 0<=(2*a) then(bif 0<(v6 (IOp.f .shr c (2*a)) 4) then bif(-9223372036854775808<=(10+a))&&((10+a)<=9223372036854775807)then bif(-9223372036854775808<=(1+(v6 (IOp.f .shr c (2*a)) 4)))&&((1+(v6 (IOp.f .shr c (2*a)) 4))<=9223372036854775807)then bif (((d.length:Int)+1)*16)<=140737488355328 then bif(-9223372036854775808<=(a+1))&&((a+1)<=9223372036854775807)then b ((d++[[(AV.int (10+a)),(AV.int (1+(v6 (IOp.f .shr c (2*a)) 4)))]]),(a+1))else none else none else none else none else bif(-9223372036854775808<=(a+1))&&((a+1)<=9223372036854775807)then b (d,(a+1))else none)else none else none else some d)
def pq(n:Nat)(b:Int):Option gG:=
 (bD n b 65536).bind fun c=>
 (ab (fun a s=>j6 n a c s.1 s.2) n ((([]:Lv),0):nU))
def fT(n:Nat)(a:Int):Option gG:=pq n a
def ref22_Conditions_t:FnT:=⟨[(false,[.int])],(.row 198 (.cons .int (.cons .int .nil))),fun n (s:Int)=>fT n s⟩
theorem yz:ref22_Conditions_t.ok Tryz.prog 46:=FnT.ok_of (cfg:=⟨[((46,4,0),.inv [(.tmprow 3 198 (.cons .int (.cons .int .nil))),(.tmp 5 .int)])],aL,[],aq⟩) az uy ay (fun s fn hf=>by rw[Tryz.func46]at hf;cases hf;kernel_rfl) (fun n s=>by kernel_rfl)
def ref22_Conditions_T:Tab:=(46,ref22_Conditions_t)::ref22_Made_T
theorem mo:ref22_Conditions_T.ok Tryz.prog:=Tab.ok_cons yz uy
abbrev eH:=Lv×Lv
abbrev cu:=Lv
def cG(n:Nat)(b:cu->Option eH)(d:Lv)(e:Int)(a:Lv):Option eH:=
 (bD n e 3).bind fun c=>
 bif(-9223372036854775808<=(39+c))&&((39+c)<=9223372036854775807)then(bif (a.length:Int)<(39+c) then bif(-9223372036854775808<=(100+(a.length:Int)))&&((100+(a.length:Int))<=9223372036854775807)then bif (((a.length:Int)+1)*40)<=140737488355328 then b (a++[[(AV.int (100+(a.length:Int))),(AV.int 1),(AV.int 10),(AV.int 0),(AV.int 5)]])else none else none else some (a,d))else none
abbrev I3:= @cG
abbrev HV:= @cG
abbrev HK:= @cG
def An(n:Nat)(b a:Lv)(d f e:Int):Option eH:=
 (bif e<6 then(bif 0<(b.length:Int) then(bD n f (b.length:Int)).bind fun y6=>
 bif 0<=y6 then bif y6<(b.length:Int) then(bif e=0 then some ((v0 b (y6).toNat (fun r=>r.set 0 (AV.int d))),a)else(bif e=1 then some ((v0 b (y6).toNat (fun r=>r.set 1 (AV.int d))),a)else(bif e=2 then some ((v0 b (y6).toNat (fun r=>r.set 2 (AV.int d))),a)else(bif e=3 then some ((v0 b (y6).toNat (fun r=>r.set 3 (AV.int d))),a)else(bif e=4 then some ((v0 b (y6).toNat (fun r=>r.set 4 (AV.int d))),a)else bif (((b.length:Int)+1)*40)<=140737488355328 then some ((b++[[(AV.int (cI b y6 0)),(AV.int (cI b y6 1)),(AV.int (cI b y6 2)),(AV.int (cI b y6 3)),(AV.int (cI b y6 4))]]),a)else none)))))else none else none else(bif e<9 then(bif 0<(a.length:Int) then(bD n f (a.length:Int)).bind fun y6=>
 (bif e=6 then bif 0<=y6 then bif y6<(a.length:Int) then some (b,(v0 a (y6).toNat (fun r=>r.set 0 (AV.int d))))else none else none else(bif e=7 then bif 0<=y6 then bif y6<(a.length:Int) then some (b,(v0 a (y6).toNat (fun r=>r.set 1 (AV.int d))))else none else none else bif 0<=y6 then bif y6<(a.length:Int) then some (b,(v0 (v0 (v0 (v0 a ((0:Int)).toNat (fun r=>r.set 0 (AV.int (cI a y6 0)))) ((0:Int)).toNat (fun r=>r.set 1 (AV.int (cI a y6 1)))) (y6).toNat (fun r=>r.set 0 (AV.int (cI a 0 0)))) (y6).toNat (fun r=>r.set 1 (AV.int (cI a 0 1)))))else none else none))else(ab (fun c s=>cG n c a d s) n (b:cu)))else(ab (fun c s=>I3 n c a d s) n (b:cu))))else(bif e<9 then(bif 0<(a.length:Int) then(bD n f (a.length:Int)).bind fun y6=>
 (bif e=6 then bif 0<=y6 then bif y6<(a.length:Int) then some (b,(v0 a (y6).toNat (fun r=>r.set 0 (AV.int d))))else none else none else(bif e=7 then bif 0<=y6 then bif y6<(a.length:Int) then some (b,(v0 a (y6).toNat (fun r=>r.set 1 (AV.int d))))else none else none else bif 0<=y6 then bif y6<(a.length:Int) then some (b,(v0 (v0 (v0 (v0 a ((0:Int)).toNat (fun r=>r.set 0 (AV.int (cI a y6 0)))) ((0:Int)).toNat (fun r=>r.set 1 (AV.int (cI a y6 1)))) (y6).toNat (fun r=>r.set 0 (AV.int (cI a 0 0)))) (y6).toNat (fun r=>r.set 1 (AV.int (cI a 0 1)))))else none else none))else(ab (fun c s=>HV n c a d s) n (b:cu)))else(ab (fun c s=>HK n c a d s) n (b:cu))))
def Aj(n:Nat)(a b:Lv)(c d e:Int):Option eH:=
 bif ((a.length:Int)*40)<=140737488355328 then bif ((b.length:Int)*16)<=140737488355328 then(bD n c 10).bind fun y5=>
 An n a b d e y5 else none else none
def qE(n:Nat)(a b:Lv)(c d e:Int):Option eH:=Aj n a b c d e
def ref22_Bent_t:FnT:=⟨[(false,[(.sl (.cons .int (.cons .int (.cons .int (.cons .int (.cons .int .nil))))))]),(false,[(.sl (.cons .int (.cons .int .nil)))]),(false,[.int]),(false,[.int]),(false,[.int])],(.tup (.cons (.row 1000162 (.cons .int (.cons .int (.cons .int (.cons .int (.cons .int .nil)))))) (.cons (.row 1000198 (.cons .int (.cons .int .nil))) .nil))),fun n (s:Lv×Lv×Int×Int×Int)=>qE n s.1 s.2.1 s.2.2.1 s.2.2.2.1 s.2.2.2.2⟩
theorem G9:ref22_Bent_t.ok Tryz.prog 49:=FnT.ok_of (cfg:=⟨[((49,28,4),.inv [(.tmprow 12 162 (.cons .int (.cons .int (.cons .int (.cons .int (.cons .int .nil))))))])],aL,[],aq⟩) az mo ay (fun s fn hf=>by rw[Tryz.func49]at hf;cases hf;kernel_rfl) (fun n s=>by kernel_rfl)
def ref22_Bent_T:Tab:=(49,ref22_Bent_t)::ref22_Conditions_T
theorem ut:ref22_Bent_T.ok Tryz.prog:=Tab.ok_cons G9 mo
abbrev pY:=Int×Lv×Lv
def p9(n:Nat)(c:Int)(a b:Lv)(d e:Int):Option pY:=
 bif ((a.length:Int)*8)<=140737488355328 then bif ((b.length:Int)*8)<=140737488355328 then(bD n d 5).bind fun y5=>
 (bif y5=0 then some (e,a,b)else(bif y5=1 then bif (((a.length:Int)+1)*8)<=140737488355328 then some (c,(a++[[(AV.int e)]]),b)else none else(bif y5=2 then bif (((b.length:Int)+1)*8)<=140737488355328 then some (c,a,(b++[[(AV.int e)]]))else none else(bif y5=3 then(bif 0<(a.length:Int) then bif(-9223372036854775808<=((a.length:Int)-1))&&(((a.length:Int)-1)<=9223372036854775807)then bif 0<=((a.length:Int)-1) then bif ((a.length:Int)-1)<=(a.length:Int) then some (c,(v8 (((a.length:Int)-1)).toNat a),b)else none else none else none else some (c,a,b))else(bif 0<(b.length:Int) then bif(-9223372036854775808<=(RO d 5))&&((RO d 5)<=9223372036854775807)then(bD n (RO d 5) (b.length:Int)).bind fun y6=>
 bif 0<=y6 then bif y6<(b.length:Int) then some (c,a,(v0 b (y6).toNat (fun r=>r.set 0 (AV.int e))))else none else none else none else some (c,a,b))))))else none else none
def jK(n:Nat)(a:Int)(b c:Lv)(d e:Int):Option pY:=p9 n a b c d e
def ref22_BentRoute_t:FnT:=⟨[(true,[.int,tSa,tSa]),(false,[.int]),(false,[.int])],(.agg (.cons .i (.cons (.row 1000003 (.cons .int .nil)) (.cons (.row 1000003 (.cons .int .nil)) .nil)))),fun n (s:Int×Lv×Lv×Int×Int)=>jK n s.1 s.2.1 s.2.2.1 s.2.2.2.1 s.2.2.2.2⟩
theorem zp:ref22_BentRoute_t.ok Tryz.prog 62:=FnT.ok_of (cfg:=⟨[],aL,[],aq⟩) az ut ay (fun s fn hf=>by rw[Tryz.func62]at hf;cases hf;kernel_rfl) (fun n s=>by kernel_rfl)
def ref22_BentRoute_T:Tab:=(62,ref22_BentRoute_t)::ref22_Bent_T
theorem mW:ref22_BentRoute_T.ok Tryz.prog:=Tab.ok_cons zp ut
abbrev jF:=Bool
abbrev sU:=Int
def gF(n:Nat)(b:sU->Option jF)(c:Lv)(a:Int):Option jF:=
 (bif a<(c.length:Int) then bif 0<=a then(bif (-1)<=(cI c a 0) then(bif !((cI c a 0)<=7)then some false else bif(-9223372036854775808<=(a+1))&&((a+1)<=9223372036854775807)then b (a+1)else none)else some false)else none else some true)
def uJ(n:Nat)(a:Lv):Option jF:=
 (bif 1<=(a.length:Int) then(bif !((a.length:Int)<=30)then some false else(ab (fun b s=>gF n b a s) n (0:sU)))else some false)
def lG(n:Nat)(a:Lv):Option jF:=uJ n a
def ref24_holders_t:FnT:=⟨[(false,[tSa])],.b,fun n (s:Lv)=>lG n s⟩
theorem CJ:ref24_holders_t.ok Tryz.prog 150:=FnT.ok_of (cfg:=⟨[((150,4,0),.inv [(.tmp 3 .int)])],aL,[],aq⟩) az mW ay (fun s fn hf=>by rw[Tryz.func150]at hf;cases hf;kernel_rfl) (fun n s=>by kernel_rfl)
def ref24_holders_T:Tab:=(150,ref24_holders_t)::ref22_BentRoute_T
theorem pa:ref24_holders_T.ok Tryz.prog:=Tab.ok_cons CJ mW
abbrev bH:=Bool
abbrev bm:=Int
def cN(n:Nat)(e:bm->Option bH)(b:bm->Option bH)(c f:Lv)(d a:Int):Option bH:=
 (bif a<=((c.length:Int)-1) then bif 0<=a then bif a<(c.length:Int) then bif(-9223372036854775808<=(a-1))&&((a-1)<=9223372036854775807)then bif 0<=(a-1) then bif (a-1)<(c.length:Int) then(bif !((cI c a 0)=(cI c (a-1) 0))then(bif (cI c a 0)=d then(bif (cI f d 0)<a then some false else bif(-9223372036854775808<=(a+1))&&((a+1)<=9223372036854775807)then b (a+1)else none)else(bif (cI c (a-1) 0)=d then(bif (cI f d 0)<a then some false else bif(-9223372036854775808<=(a+1))&&((a+1)<=9223372036854775807)then b (a+1)else none)else bif(-9223372036854775808<=(a+1))&&((a+1)<=9223372036854775807)then b (a+1)else none))else bif(-9223372036854775808<=(a+1))&&((a+1)<=9223372036854775807)then b (a+1)else none)else none else none else none else none else none else bif(-9223372036854775808<=(d+1))&&((d+1)<=9223372036854775807)then e (d+1)else none)
def ff(n:Nat)(e:bm->Option bH)(b:bm->Option bH)(c:Lv)(d a:Int):Option bH:=
 (bif a<=((c.length:Int)-1) then bif 0<=a then bif a<(c.length:Int) then bif(-9223372036854775808<=(a-1))&&((a-1)<=9223372036854775807)then bif 0<=(a-1) then bif (a-1)<(c.length:Int) then(bif !((cI c a 0)=(cI c (a-1) 0))then(bif (cI c a 0)=d then bif(-9223372036854775808<=(a+1))&&((a+1)<=9223372036854775807)then b (a+1)else none else(bif (cI c (a-1) 0)=d then bif(-9223372036854775808<=(a+1))&&((a+1)<=9223372036854775807)then b (a+1)else none else bif(-9223372036854775808<=(a+1))&&((a+1)<=9223372036854775807)then b (a+1)else none))else bif(-9223372036854775808<=(a+1))&&((a+1)<=9223372036854775807)then b (a+1)else none)else none else none else none else none else none else bif(-9223372036854775808<=(d+1))&&((d+1)<=9223372036854775807)then e (d+1)else none)
def i8(n:Nat)(e:bm->Option bH)(c d:Lv)(f a:Int):Option bH:=
 (bif a<(d.length:Int) then bif 0<=a then(bif (-1)<=(cI d a 0) then(bif !((cI d a 0)<=((c.length:Int)-1))then some false else(bif 0<=(cI d a 0) then bif(-9223372036854775808<=(((c.length:Int)-1)-f))&&((((c.length:Int)-1)-f)<=9223372036854775807)then(bif (cI d a 0)<(((c.length:Int)-1)-f) then some false else(ab (fun b s=>cN n e b c d a s) n (1:bm)))else none else(ab (fun b s=>ff n e b c a s) n (1:bm))))else some false)else none else some true)
def xW(n:Nat)(a d:Lv)(b:Int):Option bH:=
 (lG n a).bind fun e=>
 (bif(!e)then some false else(bif !((d.length:Int)=8)then some false else(bif 0<=b then(bif !(b<=10)then some false else bif(-9223372036854775808<=((a.length:Int)-1))&&(((a.length:Int)-1)<=9223372036854775807)then(ab (fun c s=>i8 n c a d b s) n (0:bm))else none)else some false)))
def lh(n:Nat)(a b:Lv)(c:Int):Option bH:=xW n a b c
def ref24_Valid_t:FnT:=⟨[(false,[tSa]),(false,[tSa]),(false,[.int])],.b,fun n (s:Lv×Lv×Int)=>lh n s.1 s.2.1 s.2.2⟩
theorem Fv:ref24_Valid_t.ok Tryz.prog 76:=FnT.ok_of (cfg:=⟨[((76,5,0),.inv [(.tmp 8 .int)]),((76,10,1),.inv [(.tmp 9 .int)])],aL,[],aq⟩) az pa ay (fun s fn hf=>by rw[Tryz.func76]at hf;cases hf;kernel_rfl) (fun n s=>by kernel_rfl)
def ref24_Valid_T:Tab:=(76,ref24_Valid_t)::ref24_holders_T
theorem qV:ref24_Valid_T.ok Tryz.prog:=Tab.ok_cons Fv pa
abbrev kf:=Lv×Int×Int
abbrev lL:=Lv×Int×Int
def jQ(n:Nat)(f:lL->Option kf)(e b d:Lv)(a c:Int):Option kf:=
 bif 0<=a then bif a<(b.length:Int) then bif 0<=(aZ (cI b a 0) c) then bif (aZ (cI b a 0) c)<(e.length:Int) then(bif (cI e (aZ (cI b a 0) c) 0)=a then bif (((d.length:Int)+1)*16)<=140737488355328 then some ((d++[[(AV.int a),(AV.int (aZ (cI b a 0) c))]]),1,0)else none else(bif (cI e (aZ (cI b a 0) c) 0)=(-1) then bif (((d.length:Int)+1)*16)<=140737488355328 then some ((d++[[(AV.int a),(AV.int (aZ (cI b a 0) c))]]),2,0)else none else bif 0<=(cI e (aZ (cI b a 0) c) 0) then bif (cI e (aZ (cI b a 0) c) 0)<(b.length:Int) then(bif (cI b (cI e (aZ (cI b a 0) c) 0) 0)<0 then bif (((d.length:Int)+1)*16)<=140737488355328 then some ((d++[[(AV.int a),(AV.int (aZ (cI b a 0) c))]]),3,0)else none else bif (((d.length:Int)+1)*16)<=140737488355328 then f ((d++[[(AV.int a),(AV.int (aZ (cI b a 0) c))]]),(cI e (aZ (cI b a 0) c) 0),(aZ (cI b a 0) c))else none)else none else none))else none else none else none else none
def AS(n:Nat)(d b:Lv)(e a:Int):Option kf:=
 (lh n d b e).bind fun y4=>
 (bif(!y4)then some (([]:Lv),0,240)else(bif 0<=a then(bif !(a<=7)then some (([]:Lv),0,240)else bif a<(b.length:Int) then(bif !(0<=(cI b a 0))then some (([]:Lv),0,240)else(ab (fun c s=>jQ n c d b s.1 s.2.1 s.2.2) n ((([]:Lv),a,(-1)):lL)))else none)else some (([]:Lv),0,240)))
def iH(n:Nat)(a b:Lv)(c d:Int):Option kf:=AS n a b c d
def ref24_Path_t:FnT:=⟨[(false,[tSa]),(false,[tSa]),(false,[.int]),(false,[.int])],(.tup (.cons (.row 94 (.cons .int (.cons .int .nil))) (.cons .i (.cons .i .nil)))),fun n (s:Lv×Lv×Int×Int)=>iH n s.1 s.2.1 s.2.2.1 s.2.2.2⟩
theorem Gx:ref24_Path_t.ok Tryz.prog 57:=FnT.ok_of (cfg:=⟨[((57,7,0),.inv [(.tmprow 11 94 (.cons .int (.cons .int .nil))),(.tmp 3 .int),(.tmp 12 .int)])],aL,[],aq⟩) az qV ay (fun s fn hf=>by rw[Tryz.func57]at hf;cases hf;kernel_rfl) (fun n s=>by kernel_rfl)
def ref24_Path_T:Tab:=(57,ref24_Path_t)::ref24_Valid_T
theorem tR:ref24_Path_T.ok Tryz.prog:=Tab.ok_cons Gx qV
abbrev nJ:=Bool
abbrev xH:=Int
def jZ(n:Nat)(b:xH->Option nJ)(c d:Lv)(a:Int):Option nJ:=
 (bif a<(c.length:Int) then bif 0<=a then bif a<(d.length:Int) then(bif(!((decide ((cI c a 0)=(cI d a 0)))&&(decide ((cI c a 1)=(cI d a 1)))))then some false else bif(-9223372036854775808<=(a+1))&&((a+1)<=9223372036854775807)then b (a+1)else none)else none else none else some true)
def AD(n:Nat)(b c:Lv):Option nJ:=
 (bif !((b.length:Int)=(c.length:Int))then some false else(ab (fun a s=>jZ n a b c s) n (0:xH)))
def nE(n:Nat)(a b:Lv):Option nJ:=AD n a b
def ref24_Same_t:FnT:=⟨[(false,[(.sl (.cons .int (.cons .int .nil)))]),(false,[(.sl (.cons .int (.cons .int .nil)))])],.b,fun n (s:Lv×Lv)=>nE n s.1 s.2⟩
theorem Hh:ref24_Same_t.ok Tryz.prog 27:=FnT.ok_of (cfg:=⟨[((27,4,0),.inv [(.tmp 5 .int)])],aL,[],aq⟩) az tR ay (fun s fn hf=>by rw[Tryz.func27]at hf;cases hf;kernel_rfl) (fun n s=>by kernel_rfl)
def ref24_Same_T:Tab:=(27,ref24_Same_t)::ref24_Path_T
theorem tL:ref24_Same_T.ok Tryz.prog:=Tab.ok_cons Hh tR
abbrev yY:=Int
def yM(n:Nat)(a b:Int):Option yY:=
 (bif a<0 then bif(-9223372036854775808<=(a+1))&&((a+1)<=9223372036854775807)then bif(-9223372036854775808<=(0-(a+1)))&&((0-(a+1))<=9223372036854775807)then bif !(b=0)then some (v6 (0-(a+1)) b)else none else none else none else bif !(b=0)then some (v6 a b)else none)
def dr(n:Nat)(a b:Int):Option yY:=yM n a b
def ref24_pick_t:FnT:=⟨[(false,[.int]),(false,[.int])],.i,fun n (s:Int×Int)=>dr n s.1 s.2⟩
theorem Gj:ref24_pick_t.ok Tryz.prog 110:=FnT.ok_of (cfg:=⟨[],aL,[],aq⟩) az tL ay (fun s fn hf=>by rw[Tryz.func110]at hf;cases hf;kernel_rfl) (fun n s=>by kernel_rfl)
def ref24_pick_T:Tab:=(110,ref24_pick_t)::ref24_Same_T
theorem uj:ref24_pick_T.ok Tryz.prog:=Tab.ok_cons Gj tL
abbrev ji:=Int
abbrev kS:=Int×Int
def fd(n:Nat)(b:kS->Option ji)(c:Lv)(e d a:Int):Option ji:=
 (bif a<=((c.length:Int)-1) then bif 0<=a then bif a<(c.length:Int) then bif(-9223372036854775808<=(a-1))&&((a-1)<=9223372036854775807)then bif 0<=(a-1) then bif (a-1)<(c.length:Int) then(bif !((cI c a 0)=(cI c (a-1) 0))then(bif (cI c a 0)=e then bif(-9223372036854775808<=(a+1))&&((a+1)<=9223372036854775807)then b ((aZ d a),(a+1))else none else(bif (cI c (a-1) 0)=e then bif(-9223372036854775808<=(a+1))&&((a+1)<=9223372036854775807)then b ((aZ d a),(a+1))else none else bif(-9223372036854775808<=(a+1))&&((a+1)<=9223372036854775807)then b (d,(a+1))else none))else bif(-9223372036854775808<=(a+1))&&((a+1)<=9223372036854775807)then b (d,(a+1))else none)else none else none else none else none else none else some d)
def yq(n:Nat)(a:Lv)(b d:Int):Option ji:=
 bif(-9223372036854775808<=((a.length:Int)-1))&&(((a.length:Int)-1)<=9223372036854775807)then bif(-9223372036854775808<=(((a.length:Int)-1)-b))&&((((a.length:Int)-1)-b)<=9223372036854775807)then(ab (fun c s=>fd n c a d s.1 s.2) n (((aZ 0 (((a.length:Int)-1)-b)),1):kS))else none else none
def oB(n:Nat)(a:Lv)(b c:Int):Option ji:=yq n a b c
def ref24_Least_t:FnT:=⟨[(false,[tSa]),(false,[.int]),(false,[.int])],.i,fun n (s:Lv×Int×Int)=>oB n s.1 s.2.1 s.2.2⟩
theorem Fa:ref24_Least_t.ok Tryz.prog 183:=FnT.ok_of (cfg:=⟨[((183,4,0),.inv [(.tmp 8 .int),(.tmp 9 .int)])],aL,[],aq⟩) az uj ay (fun s fn hf=>by rw[Tryz.func183]at hf;cases hf;kernel_rfl) (fun n s=>by kernel_rfl)
def ref24_Least_T:Tab:=(183,ref24_Least_t)::ref24_pick_T
theorem rD:ref24_Least_T.ok Tryz.prog:=Tab.ok_cons Fa uj
abbrev lO:=Lv
abbrev vT:=Lv×Int
def pE(n:Nat)(b:vT->Option lO)(d:Lv)(g:Int)(e c:Lv)(a:Int):Option lO:=
 (bif a<=7 then(oB n d g a).bind fun y5=>
 (bif a<(e.length:Int) then bif 0<=a then bif(-9223372036854775808<=(RO (cI e a 0) 16))&&((RO (cI e a 0) 16)<=9223372036854775807)then bif(-9223372036854775808<=((d.length:Int)-y5))&&(((d.length:Int)-y5)<=9223372036854775807)then(dr n (RO (cI e a 0) 16) ((d.length:Int)-y5)).bind fun y6=>
 bif(-9223372036854775808<=(y5+y6))&&((y5+y6)<=9223372036854775807)then(dr n (cI e a 0) 16).bind fun f=>
 (bif f=15 then bif (((c.length:Int)+1)*8)<=140737488355328 then bif(-9223372036854775808<=(a+1))&&((a+1)<=9223372036854775807)then b ((c++[[(AV.int (-1))]]),(a+1))else none else none else bif (((c.length:Int)+1)*8)<=140737488355328 then bif(-9223372036854775808<=(a+1))&&((a+1)<=9223372036854775807)then b ((c++[[(AV.int (y5+y6))]]),(a+1))else none else none)else none else none else none else none else bif(-9223372036854775808<=((d.length:Int)-y5))&&(((d.length:Int)-y5)<=9223372036854775807)then(dr n 0 ((d.length:Int)-y5)).bind fun y6=>
 bif(-9223372036854775808<=(y5+y6))&&((y5+y6)<=9223372036854775807)then(dr n 0 16).bind fun f=>
 (bif f=15 then bif (((c.length:Int)+1)*8)<=140737488355328 then bif(-9223372036854775808<=(a+1))&&((a+1)<=9223372036854775807)then b ((c++[[(AV.int (-1))]]),(a+1))else none else none else bif (((c.length:Int)+1)*8)<=140737488355328 then bif(-9223372036854775808<=(a+1))&&((a+1)<=9223372036854775807)then b ((c++[[(AV.int (y5+y6))]]),(a+1))else none else none)else none else none)else some c)
def yd(n:Nat)(b:Lv)(c:Int)(d:Lv):Option lO:=
 (ab (fun a s=>pE n a b c d s.1 s.2) n ((([]:Lv),0):vT))
def gP(n:Nat)(a:Lv)(b:Int)(c:Lv):Option lO:=yd n a b c
def ref24_Known_t:FnT:=⟨[(false,[tSa]),(false,[.int]),(false,[tSa])],(.row 3 (.cons .int .nil)),fun n (s:Lv×Int×Lv)=>gP n s.1 s.2.1 s.2.2⟩
theorem EE:ref24_Known_t.ok Tryz.prog 111:=FnT.ok_of (cfg:=⟨[((111,3,0),.inv [(.tmprow 7 3 (.cons .int .nil)),(.tmp 8 .int)])],aL,[],aq⟩) az rD ay (fun s fn hf=>by rw[Tryz.func111]at hf;cases hf;kernel_rfl) (fun n s=>by kernel_rfl)
def ref24_Known_T:Tab:=(111,ref24_Known_t)::ref24_Least_T
theorem sx:ref24_Known_T.ok Tryz.prog:=Tab.ok_cons EE rD
abbrev nc:=Lv×Lv×Int
abbrev jo:=Lv×Int
def il(n:Nat)(c:jo->Option nc)(e f:Lv)(g:Int)(b:Lv)(a:Int):Option nc:=
 (bif a<(e.length:Int) then(bif a<12 then bif 0<=a then(dr n (cI e a 0) 9).bind fun y6=>
 bif(-9223372036854775808<=(y6-1))&&((y6-1)<=9223372036854775807)then bif (((b.length:Int)+1)*8)<=140737488355328 then bif(-9223372036854775808<=(a+1))&&((a+1)<=9223372036854775807)then c ((b++[[(AV.int (y6-1))]]),(a+1))else none else none else none else none else(dr n g 11).bind fun y6=>
 (gP n b y6 f).bind fun d=>
 some (b,d,y6))else(dr n g 11).bind fun y6=>
 (gP n b y6 f).bind fun d=>
 some (b,d,y6))
abbrev IQ:= @il
def AO(n:Nat)(b d:Lv)(e:Int):Option nc:=
 (bif 0<(b.length:Int) then(dr n (cI b 0 0) 9).bind fun c=>
 bif(-9223372036854775808<=(c-1))&&((c-1)<=9223372036854775807)then(ab (fun a s=>il n a b d e s.1 s.2) n (((v0 (([]:Lv)++[[(AV.int 0)]]) ((0:Int)).toNat (fun r=>r.set 0 (AV.int (c-1)))),1):jo))else none else(ab (fun a s=>IQ n a b d e s.1 s.2) n (((([]:Lv)++[[(AV.int 0)]]),1):jo)))
def qH(n:Nat)(a b:Lv)(c:Int):Option nc:=AO n a b c
def ref24_Made_t:FnT:=⟨[(false,[tSa]),(false,[tSa]),(false,[.int])],(.tup (.cons (.row 3 (.cons .int .nil)) (.cons (.row 3 (.cons .int .nil)) (.cons .i .nil)))),fun n (s:Lv×Lv×Int)=>qH n s.1 s.2.1 s.2.2⟩
theorem GV:ref24_Made_t.ok Tryz.prog 47:=FnT.ok_of (cfg:=⟨[((47,5,2),.inv [(.tmprow 9 3 (.cons .int .nil)),(.tmp 10 .int)]),((47,5,1),.inv [(.tmprow 9 3 (.cons .int .nil)),(.tmp 10 .int)])],aL,[],aq⟩) az sx ay (fun s fn hf=>by rw[Tryz.func47]at hf;cases hf;kernel_rfl) (fun n s=>by kernel_rfl)
def ref24_Made_T:Tab:=(47,ref24_Made_t)::ref24_Known_T
theorem tx:ref24_Made_T.ok Tryz.prog:=Tab.ok_cons GV sx
abbrev lK:=Bool
abbrev wz:=Int
def jd(n:Nat)(d:wz->Option lK)(c:Int)(b:Lv)(a:Int):Option lK:=
 (bif a<(b.length:Int) then bif 0<=a then bif(-9223372036854775808<=(c-1))&&((c-1)<=9223372036854775807)then(bif 0<=(cI b a 0) then(bif !((cI b a 0)<=(c-1))then some false else(bif 0<=(cI b a 1) then(bif !((cI b a 1)<=(c-1))then some false else(bif (cI b a 0)=(cI b a 1) then some false else(bif 0<=(cI b a 2) then(bif !((cI b a 2)<=10000)then some false else bif(-9223372036854775808<=(a+1))&&((a+1)<=9223372036854775807)then d (a+1)else none)else some false)))else some false))else some false)else none else none else some true)
def yv(n:Nat)(a:Int)(c:Lv):Option lK:=
 (bif 0<=a then(bif !(a<=12)then some false else(bif 40<(c.length:Int) then some false else(ab (fun b s=>jd n b a c s) n (0:wz))))else some false)
def ln(n:Nat)(a:Int)(b:Lv):Option lK:=yv n a b
def ref27_Valid_t:FnT:=⟨[(true,[.int,tSc])],.b,fun n (s:Int×Lv)=>ln n s.1 s.2⟩
theorem E5:ref27_Valid_t.ok Tryz.prog 78:=FnT.ok_of (cfg:=⟨[((78,4,1),.inv [(.tmp 3 .int)])],aL,[],aq⟩) az tx ay (fun s fn hf=>by rw[Tryz.func78]at hf;cases hf;kernel_rfl) (fun n s=>by kernel_rfl)
def ref27_Valid_T:Tab:=(78,ref27_Valid_t)::ref24_Made_T
theorem rB:ref27_Valid_T.ok Tryz.prog:=Tab.ok_cons E5 tx
abbrev ic:=Int
abbrev jG:=Int×Int
def eg(n:Nat)(c:jG->Option ic)(b:Lv)(e d a:Int):Option ic:=
 (bif a<(b.length:Int) then bif 0<=a then bif 0<=(cI b a 0) then(bif (v6 (IOp.f .shr e (cI b a 0)) 2)=1 then bif 0<=(cI b a 1) then(bif !((v6 (IOp.f .shr e (cI b a 1)) 2)=1)then bif(-9223372036854775808<=(d+(cI b a 2)))&&((d+(cI b a 2))<=9223372036854775807)then bif(-9223372036854775808<=(a+1))&&((a+1)<=9223372036854775807)then c ((d+(cI b a 2)),(a+1))else none else none else bif(-9223372036854775808<=(a+1))&&((a+1)<=9223372036854775807)then c (d,(a+1))else none)else none else bif(-9223372036854775808<=(a+1))&&((a+1)<=9223372036854775807)then c (d,(a+1))else none)else none else none else some d)
def we(n:Nat)(b:Lv)(c:Int):Option ic:=
 (ab (fun a s=>eg n a b c s.1 s.2) n ((0,0):jG))
def jU(n:Nat)(c:Int)(a:Lv)(b:Int):Option ic:=we n a b
def ref27_Leaves_t:FnT:=⟨[(true,[.int,tSc]),(false,[.int])],.i,fun n (s:Int×Lv×Int)=>jU n s.1 s.2.1 s.2.2⟩
theorem D9:ref27_Leaves_t.ok Tryz.prog 122:=FnT.ok_of (cfg:=⟨[((122,3,1),.inv [(.tmp 5 .int),(.tmp 6 .int)])],aL,[],aq⟩) az rB ay (fun s fn hf=>by rw[Tryz.func122]at hf;cases hf;kernel_rfl) (fun n s=>by kernel_rfl)
def ref27_Leaves_T:Tab:=(122,ref27_Leaves_t)::ref27_Valid_T
theorem qb:ref27_Leaves_T.ok Tryz.prog:=Tab.ok_cons D9 rB
abbrev jc:=Int×Int
abbrev ky:=Int×Int×Int
def fe(n:Nat)(b:ky->Option jc)(f:Int)(i:Lv)(g h c d a:Int):Option jc:=
 bif 0<=f then(bif a<(IOp.f .shl 1 f) then bif 0<=g then(bif !((v6 (IOp.f .shr a g) 2)=1)then bif(-9223372036854775808<=(a+1))&&((a+1)<=9223372036854775807)then b (c,d,(a+1))else none else bif 0<=h then(bif (v6 (IOp.f .shr a h) 2)=1 then bif(-9223372036854775808<=(a+1))&&((a+1)<=9223372036854775807)then b (c,d,(a+1))else none else(jU n f i a).bind fun e=>
 (bif c<0 then bif(-9223372036854775808<=(a+1))&&((a+1)<=9223372036854775807)then b (e,a,(a+1))else none else(bif e<c then bif(-9223372036854775808<=(a+1))&&((a+1)<=9223372036854775807)then b (e,a,(a+1))else none else(bif e=c then bif(-9223372036854775808<=(a+1))&&((a+1)<=9223372036854775807)then b (c,(IOp.f .and d a),(a+1))else none else bif(-9223372036854775808<=(a+1))&&((a+1)<=9223372036854775807)then b (c,d,(a+1))else none))))else none)else none else some (c,d))else none
def GI(n:Nat)(b:Int)(c:Lv)(d e:Int):Option jc:=
 (ab (fun a s=>fe n a b c d e s.1 s.2.1 s.2.2) n (((-1),0,0):ky))
def uR(n:Nat)(a:Int)(b:Lv)(c d:Int):Option jc:=GI n a b c d
def ref27_Least_t:FnT:=⟨[(true,[.int,tSc]),(false,[.int]),(false,[.int])],(.tup (.cons .i (.cons .i .nil))),fun n (s:Int×Lv×Int×Int)=>uR n s.1 s.2.1 s.2.2.1 s.2.2.2⟩
theorem Fi:ref27_Least_t.ok Tryz.prog 59:=FnT.ok_of (cfg:=⟨[((59,4,1),.inv [(.tmp 8 .int),(.tmp 9 .int),(.tmp 10 .int)])],aL,[],aq⟩) az qb ay (fun s fn hf=>by rw[Tryz.func59]at hf;cases hf;kernel_rfl) (fun n s=>by kernel_rfl)
def ref27_Least_T:Tab:=(59,ref27_Least_t)::ref27_Leaves_T
theorem rZ:ref27_Least_T.ok Tryz.prog:=Tab.ok_cons Fi qb
abbrev qY:=Int×Bool
def sS(n:Nat)(a:Int)(e:Lv)(c d b:Int):Option qY:=
 (ln n a e).bind fun y5=>
 (bif y5 then bif(-9223372036854775808<=(a-1))&&((a-1)<=9223372036854775807)then(bif 0<=c then(bif c<=(a-1) then(bif 0<=d then(bif d<=(a-1) then(bif((decide (c=d))==true)then some (0,false)else bif 0<=a then bif(-9223372036854775808<=((IOp.f .shl 1 a)-1))&&(((IOp.f .shl 1 a)-1)<=9223372036854775807)then(bif 0<=b then(bif !(b<=((IOp.f .shl 1 a)-1))then some (0,false)else(bif !((v6 (IOp.f .shr b c) 2)=1)then some (0,false)else(bif (v6 (IOp.f .shr b d) 2)=1 then some (0,false)else(jU n a e b).bind fun y6=>
 some (y6,true))))else some (0,false))else none else none)else some (0,false))else some (0,false))else some (0,false))else some (0,false))else none else some (0,false))
def kD(n:Nat)(a:Int)(b:Lv)(c d e:Int):Option qY:=sS n a b c d e
def ref27_CheckCut_t:FnT:=⟨[(true,[.int,tSc]),(false,[.int]),(false,[.int]),(false,[.int])],(.tup (.cons .i (.cons .b .nil))),fun n (s:Int×Lv×Int×Int×Int)=>kD n s.1 s.2.1 s.2.2.1 s.2.2.2.1 s.2.2.2.2⟩
theorem BG:ref27_CheckCut_t.ok Tryz.prog 68:=FnT.ok_of (cfg:=⟨[],aL,[],aq⟩) az rZ ay (fun s fn hf=>by rw[Tryz.func68]at hf;cases hf;kernel_rfl) (fun n s=>by kernel_rfl)
def ref27_CheckCut_T:Tab:=(68,ref27_CheckCut_t)::ref27_Least_T
theorem nN:ref27_CheckCut_T.ok Tryz.prog:=Tab.ok_cons BG rZ
abbrev AK:=Int
def zU(n:Nat)(a b:Int):Option AK:=
 (bif a<0 then bif(-9223372036854775808<=(a+1))&&((a+1)<=9223372036854775807)then bif(-9223372036854775808<=(0-(a+1)))&&((0-(a+1))<=9223372036854775807)then bif !(b=0)then some (v6 (0-(a+1)) b)else none else none else none else bif !(b=0)then some (v6 a b)else none)
def kw(n:Nat)(a b:Int):Option AK:=zU n a b
def ref27_pick_t:FnT:=⟨[(false,[.int]),(false,[.int])],.i,fun n (s:Int×Int)=>kw n s.1 s.2⟩
theorem Gh:ref27_pick_t.ok Tryz.prog 112:=FnT.ok_of (cfg:=⟨[],aL,[],aq⟩) az nN ay (fun s fn hf=>by rw[Tryz.func112]at hf;cases hf;kernel_rfl) (fun n s=>by kernel_rfl)
def ref27_pick_T:Tab:=(112,ref27_pick_t)::ref27_CheckCut_T
theorem tn:ref27_pick_T.ok Tryz.prog:=Tab.ok_cons Gh nN
abbrev j7:=Int×Lv
abbrev pF:=Lv
def qU(n:Nat)(c:pF->Option j7)(e f b:Int)(a:Lv):Option j7:=
 (kw n f 3).bind fun d=>
 bif(-9223372036854775808<=(39+d))&&((39+d)<=9223372036854775807)then(bif (a.length:Int)<(39+d) then bif 0<=b then bif b<(a.length:Int) then bif (((a.length:Int)+1)*24)<=140737488355328 then c (a++[[(AV.int (cI a b 0)),(AV.int (cI a b 1)),(AV.int (cI a b 2))]])else none else none else none else some (e,a))else none
def zk(n:Nat)(c:Int)(a:Lv)(e b f:Int):Option j7:=
 bif ((a.length:Int)*24)<=140737488355328 then(bif (a.length:Int)=0 then some (b,a)else(kw n f (a.length:Int)).bind fun y5=>
 (kw n e 5).bind fun y6=>
 (bif y6=0 then some (b,a)else(bif y6=1 then bif 0<=y5 then bif y5<(a.length:Int) then some (c,(v0 a (y5).toNat (fun r=>r.set 0 (AV.int b))))else none else none else(bif y6=2 then bif 0<=y5 then bif y5<(a.length:Int) then some (c,(v0 a (y5).toNat (fun r=>r.set 1 (AV.int b))))else none else none else(bif y6=3 then bif 0<=y5 then bif y5<(a.length:Int) then some (c,(v0 a (y5).toNat (fun r=>r.set 2 (AV.int b))))else none else none else(ab (fun d s=>qU n d c b y5 s) n (a:pF)))))))else none
def qu(n:Nat)(a:Int)(b:Lv)(c d e:Int):Option j7:=zk n a b c d e
def ref27_Bent_t:FnT:=⟨[(true,[.int,tSc]),(false,[.int]),(false,[.int]),(false,[.int])],(.agg (.cons .i (.cons (.row 1000073 (.cons .int (.cons .int (.cons .int .nil)))) .nil))),fun n (s:Int×Lv×Int×Int×Int)=>qu n s.1 s.2.1 s.2.2.1 s.2.2.2.1 s.2.2.2.2⟩
theorem Gy:ref27_Bent_t.ok Tryz.prog 51:=FnT.ok_of (cfg:=⟨[((51,7,6),.inv [(.cellrow 4 1 73 (.cons .int (.cons .int (.cons .int .nil))))])],aL,[],aq⟩) az tn ay (fun s fn hf=>by rw[Tryz.func51]at hf;cases hf;kernel_rfl) (fun n s=>by kernel_rfl)
def ref27_Bent_T:Tab:=(51,ref27_Bent_t)::ref27_pick_T
theorem uM:ref27_Bent_T.ok Tryz.prog:=Tab.ok_cons Gy tn
abbrev cg:=Bool
abbrev eb:=Int
abbrev rC:=Int×Int
def dh(n:Nat)(e:eb->Option cg)(d:eb->Option cg)(c:Lv)(b a:Int):Option cg:=
 (bif a<((v8 (b).toNat c).length:Int) then bif 0<=a then(bif (cI (v8 (b).toNat c) a 0)=(cI c b 0) then(bif (cI (v8 (b).toNat c) a 1)=(cI c b 1) then(bif (cI (v8 (b).toNat c) a 3)<=(cI c b 3) then(bif (cI c b 3)<(cI (v8 (b).toNat c) a 4) then some false else(bif (cI c b 3)<=(cI (v8 (b).toNat c) a 3) then(bif (cI (v8 (b).toNat c) a 3)<(cI c b 4) then some false else bif(-9223372036854775808<=(a+1))&&((a+1)<=9223372036854775807)then d (a+1)else none)else bif(-9223372036854775808<=(a+1))&&((a+1)<=9223372036854775807)then d (a+1)else none))else(bif (cI c b 3)<=(cI (v8 (b).toNat c) a 3) then(bif (cI (v8 (b).toNat c) a 3)<(cI c b 4) then some false else bif(-9223372036854775808<=(a+1))&&((a+1)<=9223372036854775807)then d (a+1)else none)else bif(-9223372036854775808<=(a+1))&&((a+1)<=9223372036854775807)then d (a+1)else none))else bif(-9223372036854775808<=(a+1))&&((a+1)<=9223372036854775807)then d (a+1)else none)else bif(-9223372036854775808<=(a+1))&&((a+1)<=9223372036854775807)then d (a+1)else none)else none else bif(-9223372036854775808<=(b+1))&&((b+1)<=9223372036854775807)then e (b+1)else none)
def dJ(n:Nat)(c:rC->Option cg)(b:Lv)(a d:Int):Option cg:=
 (bif a<(b.length:Int) then bif 0<=a then(bif (cI b a 0)<=d then some (!(decide (0<=a)))else(bif 0<=(cI b a 0) then(bif !((cI b a 0)<=99999999)then some (!(decide (0<=a)))else(bif 2<=(cI b a 1) then(bif !((cI b a 1)<=4)then some (!(decide (0<=a)))else bif(-9223372036854775808<=(a+1))&&((a+1)<=9223372036854775807)then c ((a+1),(cI b a 0))else none)else some (!(decide (0<=a)))))else some (!(decide (0<=a)))))else none else some true)
def gv(n:Nat)(c:eb->Option cg)(b e:Lv)(a:Int):Option cg:=
 (bif a<(b.length:Int) then bif 0<=a then(bif 0<=(cI b a 0) then(bif (cI b a 0)<=99999999 then(bif 0<=(cI b a 2) then(bif (cI b a 2)<=99999999 then(bif !((cI b a 0)=(cI b a 2))then(bif 1<=(cI b a 1) then(bif (cI b a 1)<=4 then(bif 0<=(cI b a 3) then(bif (cI b a 3)<(cI b a 4) then(bif !((cI b a 4)<=10000001)then some false else bif a<=(b.length:Int) then(ab (fun d s=>dh n c d b a s) n (0:eb))else none)else some false)else some false)else some false)else some false)else some false)else some false)else some false)else some false)else some false)else none else(bif (e.length:Int)<=40 then(ab (fun c s=>dJ n c e s.1 s.2) n ((0,(-1)):rC))else some false))
def uP(n:Nat)(b c:Lv):Option cg:=
 (bif 40<(b.length:Int) then some false else(ab (fun a s=>gv n a b c s) n (0:eb)))
def jp(n:Nat)(a b:Lv):Option cg:=uP n a b
def forward_Valid_t:FnT:=⟨[(false,[(.sl (.cons .int (.cons .int (.cons .int (.cons .int (.cons .int .nil))))))]),(false,[(.sl (.cons .int (.cons .int .nil)))])],.b,fun n (s:Lv×Lv)=>jp n s.1 s.2⟩
theorem Cq:forward_Valid_t.ok Tryz.prog 70:=FnT.ok_of (cfg:=⟨[((141,4,2),.inv [(.tmp 11 .int)]),((213,2,6),.inv [(.tmp 8 .int)]),((197,2,3),.inv [(.tmp 8 .int),(.cell 0 0 .int)])],aL,[],aq⟩) az uM ay (fun s fn hf=>by rw[Tryz.func70]at hf;cases hf;kernel_rfl) (fun n s=>by kernel_rfl)
def forward_Valid_T:Tab:=(70,forward_Valid_t)::ref27_Bent_T
theorem pb:forward_Valid_T.ok Tryz.prog:=Tab.ok_cons Cq uM
abbrev aB:=Int×Lv×Lv×Int
abbrev dC:=Int×Bool×Lv×Lv×Int
abbrev pi:=Int
abbrev eF:=Int×Lv
abbrev gz:=Int×Lv
def jS(n:Nat)(f:dC->Option aB)(h:pi->Option aB)(d g i:Lv)(a:Int)(b e:Lv)(c:Int):Option aB:=
 (bif c<(b.length:Int) then bif 0<=c then(bif (cI d a 2)=(cI b c 0) then bif (((b.length:Int)+1)*8)<=140737488355328 then bif (((e.length:Int)+1)*8)<=140737488355328 then some (5,(b++[[(AV.int (cI d a 2))]]),(e++[[(AV.int a)]]),0)else none else none else bif(-9223372036854775808<=(c+1))&&((c+1)<=9223372036854775807)then h (c+1)else none)else none else bif (((b.length:Int)+1)*8)<=140737488355328 then bif (((e.length:Int)+1)*8)<=140737488355328 then(bif(dD [(AV.int (cI d a 2)),(AV.int 1)] g)then f ((cd [(AV.int (cI d a 2)),(AV.int 1)] g),true,(b++[[(AV.int (cI d a 2))]]),(e++[[(AV.int a)]]),(cI d a 2))else f ((cd [(AV.int (cI d a 2)),(AV.int (cd [(AV.int (cI d a 2))] i))] g),(dD [(AV.int (cI d a 2)),(AV.int (cd [(AV.int (cI d a 2))] i))] g),(b++[[(AV.int (cI d a 2))]]),(e++[[(AV.int a)]]),(cI d a 2)))else none else none)
def dB(n:Nat)(c:dC->Option aB)(g i h:Lv)(d:Int)(e:Bool)(a b:Lv):Option aB:=
 (bif e then(bif (b.length:Int)=5 then some (6,a,b,0)else bif 0<=d then bif d<(g.length:Int) then(ab (fun f s=>jS n c f g i h d a b s) n (0:pi))else none else none)else bif(-9223372036854775808<=((a.length:Int)-1))&&(((a.length:Int)-1)<=9223372036854775807)then bif 0<=((a.length:Int)-1) then bif ((a.length:Int)-1)<(a.length:Int) then some ((aZ (cd [(AV.int (cI a ((a.length:Int)-1) 0))] h) 1),a,b,0)else none else none else none)
abbrev zi:= @dB
def pU(n:Nat)(b:eF->Option aB)(e:Lv)(a:Int)(c d:Lv):Option aB:=
 (bif(dD [(AV.int a),(AV.int 1)] c)then(ab (fun b s=>dB n b e c d s.1 s.2.1 s.2.2.1 s.2.2.2.1) n (((cd [(AV.int a),(AV.int 1)] c),true,(([]:Lv)++[[(AV.int a)]]),([]:Lv),a):dC))else(ab (fun b s=>zi n b e c d s.1 s.2.1 s.2.2.1 s.2.2.2.1) n (((cd [(AV.int a),(AV.int (cd [(AV.int a)] d))] c),(dD [(AV.int a),(AV.int (cd [(AV.int a)] d))] c),(([]:Lv)++[[(AV.int a)]]),([]:Lv),a):dC)))
def cX(n:Nat)(b:eF->Option aB)(e c:Lv)(f:Int)(g:Lv)(a:Int)(d:Lv):Option aB:=
 (bif a<(c.length:Int) then bif 0<=a then bif(-9223372036854775808<=(a+1))&&((a+1)<=9223372036854775807)then b ((a+1),(fj [(AV.int (cI c a 0))] (AV.int (cI c a 1)) d))else none else none else pU n b e f g d)
def cY(n:Nat)(b:gz->Option aB)(c f:Lv)(g e a:Int)(d:Lv):Option aB:=
 (bif a<(c.length:Int) then bif 0<=a then(bif (cI c a 3)<=e then(bif e<(cI c a 4) then bif(-9223372036854775808<=(a+1))&&((a+1)<=9223372036854775807)then b ((a+1),(fj [(AV.int (cI c a 0)),(AV.int (cI c a 1))] (AV.int a) d))else none else bif(-9223372036854775808<=(a+1))&&((a+1)<=9223372036854775807)then b ((a+1),d)else none)else bif(-9223372036854775808<=(a+1))&&((a+1)<=9223372036854775807)then b ((a+1),d)else none)else none else(ab (fun b s=>cX n b c f g d s.1 s.2) n ((0,([]:Lv)):eF)))
def qa(n:Nat)(c d:Lv)(e b:Int):Option aB:=
 (bif !(b<=10000000)then some (0,([]:Lv),([]:Lv),220)else(ab (fun a s=>cY n a c d e b s.1 s.2) n ((0,([]:Lv)):gz)))
def pX(n:Nat)(b c:Lv)(d a:Int):Option aB:=
 (bif 0<=a then qa n b c d a else some (0,([]:Lv),([]:Lv),220))
def pR(n:Nat)(b c:Lv)(a d:Int):Option aB:=
 (bif !(a<=99999999)then some (0,([]:Lv),([]:Lv),220)else pX n b c a d)
def pP(n:Nat)(b c:Lv)(a d:Int):Option aB:=
 (bif 0<=a then pR n b c a d else some (0,([]:Lv),([]:Lv),220))
def pM(n:Nat)(a b:Lv)(c d:Int)(e:Bool):Option aB:=
 (bif(!e)then some (0,([]:Lv),([]:Lv),220)else pP n a b c d)
def qd(n:Nat)(a b:Lv)(c d:Int):Option aB:=
 (jp n a b).bind fun y4=>
 pM n a b c d y4
def gE(n:Nat)(a b:Lv)(c d:Int):Option aB:=qd n a b c d
def forward_Resolve_t:FnT:=⟨[(false,[(.sl (.cons .int (.cons .int (.cons .int (.cons .int (.cons .int .nil))))))]),(false,[(.sl (.cons .int (.cons .int .nil)))]),(false,[.int]),(false,[.int])],(.tup (.cons (.agg (.cons .i (.cons (.row 3 (.cons .int .nil)) (.cons (.row 3 (.cons .int .nil)) .nil)))) (.cons .i .nil))),fun n (s:Lv×Lv×Int×Int)=>gE n s.1 s.2.1 s.2.2.1 s.2.2.2⟩
theorem Ab:forward_Resolve_t.ok Tryz.prog 28:=FnT.ok_of (cfg:=⟨[((156,1,0),.inv [.tmp 4 .int,.tmp 5 .bool,.cellrow 16 1 3 (.cons .int .nil),.cellrow 16 2 3 (.cons .int .nil),.cell 19 0 .int]),((81,3,8),.inv [(.tmp 18 .int),(.inrow 4 4000000 (.cons .int (.cons .int (.cons .int .nil))))]),((81,9,10),.inv [(.tmp 38 .int),(.inrow 5 4000000 (.cons .int (.cons .int .nil)))]),((158,2,27),.inv [(.tmp 8 .int)])],aL,[],aq⟩) az pb ay (fun s fn hf=>by rw[Tryz.func28]at hf;cases hf;kernel_rfl) (fun n s=>by kernel_rfl)
def forward_Resolve_T:Tab:=(28,forward_Resolve_t)::forward_Valid_T
theorem mQ:forward_Resolve_T.ok Tryz.prog:=Tab.ok_cons Ab pb
abbrev eI:=Bool
abbrev iS:=Int
def DQ(n:Nat)(b:iS->Option eI)(c d:Lv)(a:Int):Option eI:=
 (bif a<(c.length:Int) then bif 0<=a then bif a<(d.length:Int) then(bif !((cI c a 0)=(cI d a 0))then some false else bif(-9223372036854775808<=(a+1))&&((a+1)<=9223372036854775807)then b (a+1)else none)else none else none else some true)
def DH(n:Nat)(b:iS->Option eI)(c d e f:Lv)(a:Int):Option eI:=
 (bif a<(c.length:Int) then bif 0<=a then bif a<(e.length:Int) then(bif !((cI c a 0)=(cI e a 0))then some false else bif(-9223372036854775808<=(a+1))&&((a+1)<=9223372036854775807)then b (a+1)else none)else none else none else(bif !((d.length:Int)=(f.length:Int))then some false else(ab (fun b s=>DQ n b d f s) n (0:iS))))
def Dc(n:Nat)(d e:Lv)(f g h:Int)(c i:Lv):Option eI:=
 (gE n d e f g).bind fun a=>
 (bif a.2.2.2=0 then(bif h=a.1 then(bif !((c.length:Int)=(a.2.1.length:Int))then some false else(ab (fun b s=>DH n b c i a.2.1 a.2.2.1 s) n (0:iS)))else some false)else some false)
def GA(n:Nat)(a b:Lv)(c d e:Int)(f g:Lv):Option eI:=Dc n a b c d e f g
def forward_Check_t:FnT:=⟨[(false,[(.sl (.cons .int (.cons .int (.cons .int (.cons .int (.cons .int .nil))))))]),(false,[(.sl (.cons .int (.cons .int .nil)))]),(false,[.int]),(false,[.int]),(true,[.int,tSa,tSa])],.b,fun n (s:Lv×Lv×Int×Int×Int×Lv×Lv)=>GA n s.1 s.2.1 s.2.2.1 s.2.2.2.1 s.2.2.2.2.1 s.2.2.2.2.2.1 s.2.2.2.2.2.2⟩
theorem Cz:forward_Check_t.ok Tryz.prog 37:=FnT.ok_of (cfg:=⟨[((97,4,5),.inv [(.tmp 13 .int)]),((97,4,6),.inv [(.tmp 13 .int)])],aL,[],aq⟩) az mQ ay (fun s fn hf=>by rw[Tryz.func37]at hf;cases hf;kernel_rfl) (fun n s=>by kernel_rfl)
def forward_Check_T:Tab:=(37,forward_Check_t)::forward_Resolve_T
theorem pr:forward_Check_T.ok Tryz.prog:=Tab.ok_cons Cz mQ
abbrev aG:=Bool
abbrev aS:=Int×Lv
abbrev dA:=Int
def dS(n:Nat)(f:aS->Option aG)(d:aS->Option aG)(c:Lv)(a b:Int)(e:Lv):Option aG:=
 (bif b<((y9 ((a-1)).toNat (v8 ((a+1)).toNat c)).length:Int) then bif 0<=b then(bif 0<=(cI (y9 ((a-1)).toNat (v8 ((a+1)).toNat c)) b 0) then bif 0<=a then bif a<(c.length:Int) then bif (a-1)<(c.length:Int) then(bif !((cI c a 0)=(cI c (a-1) 0))then bif (cI (y9 ((a-1)).toNat (v8 ((a+1)).toNat c)) b 0)<8 then bif (cI (y9 ((a-1)).toNat (v8 ((a+1)).toNat c)) b 0)<(e.length:Int) then bif(-9223372036854775808<=(b+1))&&((b+1)<=9223372036854775807)then d ((b+1),(v0 e ((cI (y9 ((a-1)).toNat (v8 ((a+1)).toNat c)) b 0)).toNat (fun r=>r.set 0 (AV.int (aZ (cI e (cI (y9 ((a-1)).toNat (v8 ((a+1)).toNat c)) b 0) 0) a)))))else none else none else none else bif(-9223372036854775808<=(b+1))&&((b+1)<=9223372036854775807)then d ((b+1),e)else none)else none else none else none else bif(-9223372036854775808<=(b+1))&&((b+1)<=9223372036854775807)then d ((b+1),e)else none)else none else f ((a+1),e))
def lQ(n:Nat)(b:dA->Option aG)(e c d:Lv)(a:Int):Option aG:=
 (bif a<(c.length:Int) then bif 0<=a then(bif !((cI c a 0)=(-1))then bif a<8 then bif a<(d.length:Int) then(bif (cI d a 0)<=(cI c a 0) then(bif !((cI c a 0)<=((e.length:Int)-1))then some false else bif(-9223372036854775808<=(a+1))&&((a+1)<=9223372036854775807)then b (a+1)else none)else some false)else none else none else bif(-9223372036854775808<=(a+1))&&((a+1)<=9223372036854775807)then b (a+1)else none)else none else some true)
def fc(n:Nat)(b:aS->Option aG)(c f:Lv)(a:Int)(e:Lv):Option aG:=
 (bif a<=((c.length:Int)-1) then bif(-9223372036854775808<=(a-1))&&((a-1)<=9223372036854775807)then bif(-9223372036854775808<=(a+1))&&((a+1)<=9223372036854775807)then bif 0<=(a-1) then bif (a-1)<=(a+1) then bif (a+1)<=(c.length:Int) then(ab (fun d s=>dS n b d c a s.1 s.2) n ((0,e):aS))else none else none else none else none else none else(ab (fun b s=>lQ n b c f e s) n (0:dA)))
def cK(n:Nat)(a:aS->Option aG)(c f:Lv)(d b:Int)(e:Lv):Option aG:=
 (bif b<8 then bif(-9223372036854775808<=(((c.length:Int)-1)-d))&&((((c.length:Int)-1)-d)<=9223372036854775807)then bif 0<=b then bif b<(e.length:Int) then bif(-9223372036854775808<=(b+1))&&((b+1)<=9223372036854775807)then a ((b+1),(v0 e (b).toNat (fun r=>r.set 0 (AV.int (aZ 0 (((c.length:Int)-1)-d))))))else none else none else none else none else(ab (fun a s=>fc n a c f s.1 s.2) n ((1,e):aS)))
abbrev Ho:= @cK
def pB(n:Nat)(a:dA->Option aG)(b e:Lv)(d c:Int):Option aG:=
 (bif (-1)<=(cI b c 0) then(bif !((cI b c 0)<=7)then(bif((decide (0<=c))==true)then some false else(bif !((e.length:Int)=8)then some false else(bif 0<=d then(bif !(d<=10)then some false else bif(-9223372036854775808<=((b.length:Int)-1))&&(((b.length:Int)-1)<=9223372036854775807)then(ab (fun a s=>cK n a b e d s.1 s.2) n ((0,(v7 ((8:Int)).toNat [(AV.int 0)])):aS))else none)else some false)))else bif(-9223372036854775808<=(c+1))&&((c+1)<=9223372036854775807)then a (c+1)else none)else(bif((decide (0<=c))==true)then some false else(bif !((e.length:Int)=8)then some false else(bif 0<=d then(bif !(d<=10)then some false else bif(-9223372036854775808<=((b.length:Int)-1))&&(((b.length:Int)-1)<=9223372036854775807)then(ab (fun a s=>Ho n a b e d s.1 s.2) n ((0,(v7 ((8:Int)).toNat [(AV.int 0)])):aS))else none)else some false))))
abbrev Fj:= @cK
def cO(n:Nat)(a:dA->Option aG)(b d:Lv)(c e:Int):Option aG:=
 (bif e<(b.length:Int) then bif 0<=e then pB n a b d c e else none else(bif !((d.length:Int)=8)then some false else(bif 0<=c then(bif !(c<=10)then some false else bif(-9223372036854775808<=((b.length:Int)-1))&&(((b.length:Int)-1)<=9223372036854775807)then(ab (fun a s=>Fj n a b d c s.1 s.2) n ((0,(v7 ((8:Int)).toNat [(AV.int 0)])):aS))else none)else some false)))
def xT(n:Nat)(b c:Lv)(d:Int):Option aG:=
 (bif (b.length:Int)<=30 then(ab (fun a s=>cO n a b c d s) n (0:dA))else some false)
def xY(n:Nat)(a b:Lv)(c:Int):Option aG:=
 (bif 1<=(a.length:Int) then xT n a b c else some false)
def lj(n:Nat)(a b:Lv)(c:Int):Option aG:=xY n a b c
def route_Valid_t:FnT:=⟨[(false,[tSa]),(false,[tSa]),(false,[.int])],.b,fun n (s:Lv×Lv×Int)=>lj n s.1 s.2.1 s.2.2⟩
theorem E9:route_Valid_t.ok Tryz.prog 71:=FnT.ok_of (cfg:=⟨[((124,2,0),.inv [(.tmp 8 .int)]),((71,6,2),.inv [(.tmp 31 .int),(.inrow 1 217 (.cons .int .nil))]),((71,11,4),.inv [(.tmp 10 .int),(.inrow 1 217 (.cons .int .nil))]),((71,14,6),.inv [(.tmp 53 .int),(.inrow 1 217 (.cons .int .nil))]),((71,20,6),.inv [(.tmp 81 .int)])],aL,[],aq⟩) az pr ay (fun s fn hf=>by rw[Tryz.func71]at hf;cases hf;kernel_rfl) (fun n s=>by kernel_rfl)
def route_Valid_T:Tab:=(71,route_Valid_t)::forward_Check_T
theorem sO:route_Valid_T.ok Tryz.prog:=Tab.ok_cons E9 pr
abbrev kr:=Lv×Int×Int
abbrev lJ:=Int×Lv×Int×Int
def j8(n:Nat)(f:lJ->Option kr)(e b:Lv)(c:Int)(d:Lv)(a:Int):Option kr:=
 bif 0<=a then bif a<(b.length:Int) then bif 0<=(aZ (cI b a 0) c) then bif (aZ (cI b a 0) c)<(e.length:Int) then(bif (cI e (aZ (cI b a 0) c) 0)=a then bif (((d.length:Int)+1)*16)<=140737488355328 then some ((d++[[(AV.int a),(AV.int (aZ (cI b a 0) c))]]),1,0)else none else(bif (cI e (aZ (cI b a 0) c) 0)<0 then bif (((d.length:Int)+1)*16)<=140737488355328 then some ((d++[[(AV.int a),(AV.int (aZ (cI b a 0) c))]]),2,0)else none else bif 0<=(cI e (aZ (cI b a 0) c) 0) then bif (cI e (aZ (cI b a 0) c) 0)<(b.length:Int) then(bif (cI b (cI e (aZ (cI b a 0) c) 0) 0)<0 then bif (((d.length:Int)+1)*16)<=140737488355328 then some ((d++[[(AV.int a),(AV.int (aZ (cI b a 0) c))]]),3,0)else none else bif (((d.length:Int)+1)*16)<=140737488355328 then f ((aZ (cI b a 0) c),(d++[[(AV.int a),(AV.int (aZ (cI b a 0) c))]]),0,(cI e (aZ (cI b a 0) c) 0))else none)else none else none))else none else none else none else none
def zy(n:Nat)(d b:Lv)(e a:Int):Option kr:=
 (lj n d b e).bind fun y4=>
 (bif y4 then(bif 0<=a then(bif a<=7 then bif a<(b.length:Int) then(bif !(0<=(cI b a 0))then some (([]:Lv),0,240)else(ab (fun c s=>j8 n c d b s.1 s.2.1 s.2.2.2) n (((-1),([]:Lv),0,a):lJ)))else none else some (([]:Lv),0,240))else some (([]:Lv),0,240))else some (([]:Lv),0,240))
def qt(n:Nat)(a b:Lv)(c d:Int):Option kr:=zy n a b c d
def route_Path_t:FnT:=⟨[(false,[tSa]),(false,[tSa]),(false,[.int]),(false,[.int])],(.tup (.cons (.row 94 (.cons .int (.cons .int .nil))) (.cons .i (.cons .i .nil)))),fun n (s:Lv×Lv×Int×Int)=>qt n s.1 s.2.1 s.2.2.1 s.2.2.2⟩
theorem G3:route_Path_t.ok Tryz.prog 33:=FnT.ok_of (cfg:=⟨[((166,1,7),.inv [(.tmp 5 .int),(.cellrow 0 0 94 (.cons .int (.cons .int .nil))),(.cell 1 0 .int),(.cell 5 0 .int)])],aL,[],aq⟩) az sO ay (fun s fn hf=>by rw[Tryz.func33]at hf;cases hf;kernel_rfl) (fun n s=>by kernel_rfl)
def route_Path_T:Tab:=(33,route_Path_t)::route_Valid_T
theorem tS:route_Path_T.ok Tryz.prog:=Tab.ok_cons G3 sO
abbrev du:=Bool
abbrev dW:=Int
def pI(n:Nat)(d:dW->Option du)(c b:Lv)(a:Int):Option du:=
 (bif a<(b.length:Int) then bif 0<=a then(bif 0<=(cI b a 0) then(bif !((cI b a 0)<=7)then some (decide (a=(-1)))else bif(-9223372036854775808<=((c.length:Int)-1))&&(((c.length:Int)-1)<=9223372036854775807)then(bif 0<=(cI b a 1) then(bif !((cI b a 1)<=((c.length:Int)-1))then some (decide (a=(-1)))else(bif 0<a then bif(-9223372036854775808<=(a-1))&&((a-1)<=9223372036854775807)then bif 0<=(a-1) then bif (a-1)<(b.length:Int) then bif 0<=(cI b (a-1) 1) then bif (cI b (a-1) 1)<(c.length:Int) then(bif !((cI b a 0)=(cI c (cI b (a-1) 1) 0))then some (decide (a=(-1)))else(bif (cI b a 1)<(cI b (a-1) 1) then some (decide (a=(-1)))else bif(-9223372036854775808<=((b.length:Int)-1))&&(((b.length:Int)-1)<=9223372036854775807)then(bif a<((b.length:Int)-1) then bif (cI b a 1)<(c.length:Int) then(bif (cI c (cI b a 1) 0)=(cI b a 0) then some (decide (a=(-1)))else(bif (cI c (cI b a 1) 0)=(-1) then some (decide (a=(-1)))else bif(-9223372036854775808<=(a+1))&&((a+1)<=9223372036854775807)then d (a+1)else none))else none else bif(-9223372036854775808<=(a+1))&&((a+1)<=9223372036854775807)then d (a+1)else none)else none))else none else none else none else none else none else bif(-9223372036854775808<=((b.length:Int)-1))&&(((b.length:Int)-1)<=9223372036854775807)then(bif a<((b.length:Int)-1) then bif (cI b a 1)<(c.length:Int) then(bif (cI c (cI b a 1) 0)=(cI b a 0) then some (decide (a=(-1)))else(bif (cI c (cI b a 1) 0)=(-1) then some (decide (a=(-1)))else bif(-9223372036854775808<=(a+1))&&((a+1)<=9223372036854775807)then d (a+1)else none))else none else bif(-9223372036854775808<=(a+1))&&((a+1)<=9223372036854775807)then d (a+1)else none)else none))else some (decide (a=(-1))))else none)else some (decide (a=(-1))))else none else some true)
abbrev Gp:= @pI
def GM(n:Nat)(a:dW->Option du)(c d:Lv)(b:Int):Option du:=
 (bif (-1)<=(cI c b 0) then(bif !((cI c b 0)<=7)then(bif((decide (0<=b))==true)then some false else(bif (d.length:Int)=0 then some false else(ab (fun a s=>pI n a c d s) n (0:dW))))else bif(-9223372036854775808<=(b+1))&&((b+1)<=9223372036854775807)then a (b+1)else none)else(bif((decide (0<=b))==true)then some false else(bif (d.length:Int)=0 then some false else(ab (fun a s=>Gp n a c d s) n (0:dW)))))
abbrev Gl:= @pI
def Hm(n:Nat)(a:dW->Option du)(b c:Lv)(d:Int):Option du:=
 (bif d<(b.length:Int) then bif 0<=d then GM n a b c d else none else(bif (c.length:Int)=0 then some false else(ab (fun a s=>Gl n a b c s) n (0:dW))))
def Gd(n:Nat)(b c:Lv):Option du:=
 (bif (b.length:Int)<=30 then(ab (fun a s=>Hm n a b c s) n (0:dW))else some false)
def G5(n:Nat)(a b:Lv):Option du:=
 (bif 1<=(a.length:Int) then Gd n a b else some false)
def Ke(n:Nat)(a b:Lv):Option du:=G5 n a b
def route_Right_t:FnT:=⟨[(false,[tSa]),(false,[(.sl (.cons .int (.cons .int .nil)))])],.b,fun n (s:Lv×Lv)=>Ke n s.1 s.2⟩
theorem Fs:route_Right_t.ok Tryz.prog 38:=FnT.ok_of (cfg:=⟨[((124,2,2),.inv [(.tmp 8 .int)]),((171,2,3),.inv [(.tmp 9 .int)])],aL,[],aq⟩) az tS ay (fun s fn hf=>by rw[Tryz.func38]at hf;cases hf;kernel_rfl) (fun n s=>by kernel_rfl)
def route_Right_T:Tab:=(38,route_Right_t)::route_Path_T
theorem rR:route_Right_T.ok Tryz.prog:=Tab.ok_cons Fs tS
abbrev nK:=Bool
abbrev yx:=Int
def nl(n:Nat)(d:yx->Option nK)(c:Int)(b:Lv)(a:Int):Option nK:=
 (bif a<(b.length:Int) then bif 0<=a then bif(-9223372036854775808<=(c-1))&&((c-1)<=9223372036854775807)then(bif 0<=(cI b a 0) then(bif !((cI b a 0)<=(c-1))then some (!(decide (0<=a)))else(bif 0<=(cI b a 1) then(bif !((cI b a 1)<=(c-1))then some (!(decide (0<=a)))else(bif (cI b a 0)=(cI b a 1) then some (!(decide (0<=a)))else(bif 0<=(cI b a 2) then(bif !((cI b a 2)<=10000)then some (!(decide (0<=a)))else bif(-9223372036854775808<=(a+1))&&((a+1)<=9223372036854775807)then d (a+1)else none)else some (!(decide (0<=a))))))else some (!(decide (0<=a)))))else some (!(decide (0<=a))))else none else none else some true)
def zY(n:Nat)(a:Int)(c:Lv):Option nK:=
 (bif 0<=a then(bif !(a<=12)then some false else(bif 40<(c.length:Int) then some false else(ab (fun b s=>nl n b a c s) n (0:yx))))else some false)
def iO(n:Nat)(a:Int)(b:Lv):Option nK:=zY n a b
def flow_Valid_t:FnT:=⟨[(true,[.int,tSc])],.b,fun n (s:Int×Lv)=>iO n s.1 s.2⟩
theorem GJ:flow_Valid_t.ok Tryz.prog 73:=FnT.ok_of (cfg:=⟨[((201,2,1),.inv [(.tmp 8 .int)])],aL,[],aq⟩) az rR ay (fun s fn hf=>by rw[Tryz.func73]at hf;cases hf;kernel_rfl) (fun n s=>by kernel_rfl)
def flow_Valid_T:Tab:=(73,flow_Valid_t)::route_Right_T
theorem tA:flow_Valid_T.ok Tryz.prog:=Tab.ok_cons GJ rR
abbrev jI:=Int×Bool
abbrev sL:=Int×Int
def eL(n:Nat)(c:sL->Option jI)(b:Lv)(e a d:Int):Option jI:=
 (bif a<(b.length:Int) then bif 0<=a then bif 0<=(cI b a 0) then(bif (IOp.f .and (IOp.f .shr e (cI b a 0)) 1)=1 then bif 0<=(cI b a 1) then(bif (IOp.f .and (IOp.f .shr e (cI b a 1)) 1)=0 then bif(-9223372036854775808<=(d+(cI b a 2)))&&((d+(cI b a 2))<=9223372036854775807)then bif(-9223372036854775808<=(a+1))&&((a+1)<=9223372036854775807)then c ((a+1),(d+(cI b a 2)))else none else none else bif(-9223372036854775808<=(a+1))&&((a+1)<=9223372036854775807)then c ((a+1),d)else none)else none else bif(-9223372036854775808<=(a+1))&&((a+1)<=9223372036854775807)then c ((a+1),d)else none)else none else none else some (d,true))
def ur(n:Nat)(a:Int)(f:Lv)(c d b:Int):Option jI:=
 (iO n a f).bind fun y5=>
 (bif y5 then bif(-9223372036854775808<=(a-1))&&((a-1)<=9223372036854775807)then(bif 0<=c then(bif c<=(a-1) then(bif 0<=d then(bif d<=(a-1) then(bif((decide (c=d))==true)then some (0,false)else bif 0<=a then bif(-9223372036854775808<=((IOp.f .shl 1 a)-1))&&(((IOp.f .shl 1 a)-1)<=9223372036854775807)then(bif 0<=b then(bif !(b<=((IOp.f .shl 1 a)-1))then some (0,false)else(bif (IOp.f .and (IOp.f .shr b c) 1)=0 then some (0,false)else(bif (IOp.f .and (IOp.f .shr b d) 1)=1 then some (0,false)else(ab (fun e s=>eL n e f b s.1 s.2) n ((0,0):sL)))))else some (0,false))else none else none)else some (0,false))else some (0,false))else some (0,false))else some (0,false))else none else some (0,false))
def bn(n:Nat)(a:Int)(b:Lv)(c d e:Int):Option jI:=ur n a b c d e
def flow_CheckCut_t:FnT:=⟨[(true,[.int,tSc]),(false,[.int]),(false,[.int]),(false,[.int])],(.tup (.cons .i (.cons .b .nil))),fun n (s:Int×Lv×Int×Int×Int)=>bn n s.1 s.2.1 s.2.2.1 s.2.2.2.1 s.2.2.2.2⟩
theorem CQ:flow_CheckCut_t.ok Tryz.prog 66:=FnT.ok_of (cfg:=⟨[((209,1,8),.inv [(.tmp 9 .int),(.cell 3 0 .int)])],aL,[],aq⟩) az tA ay (fun s fn hf=>by rw[Tryz.func66]at hf;cases hf;kernel_rfl) (fun n s=>by kernel_rfl)
def flow_CheckCut_T:Tab:=(66,flow_CheckCut_t)::flow_Valid_T
theorem pg:flow_CheckCut_T.ok Tryz.prog:=Tab.ok_cons CQ tA
abbrev dX:=Int×Bool
abbrev pV:=Int
abbrev pN:=Int×Lv
def CN(n:Nat)(b:pV->Option dX)(d e:Int)(c:Lv)(a:Int):Option dX:=
 (bif a<(c.length:Int) then bif 0<=a then(bif !((cI c a 0)=0)then(bif !(a=d)then(bif !(a=e)then some (0,false)else bif(-9223372036854775808<=(a+1))&&((a+1)<=9223372036854775807)then b (a+1)else none)else bif(-9223372036854775808<=(a+1))&&((a+1)<=9223372036854775807)then b (a+1)else none)else bif(-9223372036854775808<=(a+1))&&((a+1)<=9223372036854775807)then b (a+1)else none)else none else some ((cI c d 0),true))
def Ct(n:Nat)(e:pN->Option dX)(b:Lv)(f g:Int)(d:Lv)(a:Int)(c:Lv):Option dX:=
 (bif a<(b.length:Int) then bif 0<=a then bif a<(d.length:Int) then(bif 0<=(cI d a 0) then(bif !((cI d a 0)<=(cI b a 2))then some (0,false)else bif 0<=(cI b a 0) then bif (cI b a 0)<(c.length:Int) then bif(-9223372036854775808<=((cI c (cI b a 0) 0)+(cI d a 0)))&&(((cI c (cI b a 0) 0)+(cI d a 0))<=9223372036854775807)then bif 0<=(cI b a 1) then bif (cI b a 1)<(c.length:Int) then bif(-9223372036854775808<=((cI (v0 c ((cI b a 0)).toNat (fun r=>r.set 0 (AV.int ((cI c (cI b a 0) 0)+(cI d a 0))))) (cI b a 1) 0)-(cI d a 0)))&&(((cI (v0 c ((cI b a 0)).toNat (fun r=>r.set 0 (AV.int ((cI c (cI b a 0) 0)+(cI d a 0))))) (cI b a 1) 0)-(cI d a 0))<=9223372036854775807)then bif(-9223372036854775808<=(a+1))&&((a+1)<=9223372036854775807)then e ((a+1),(v0 (v0 c ((cI b a 0)).toNat (fun r=>r.set 0 (AV.int ((cI c (cI b a 0) 0)+(cI d a 0))))) ((cI b a 1)).toNat (fun r=>r.set 0 (AV.int ((cI (v0 c ((cI b a 0)).toNat (fun r=>r.set 0 (AV.int ((cI c (cI b a 0) 0)+(cI d a 0))))) (cI b a 1) 0)-(cI d a 0))))))else none else none else none else none else none else none else none)else some (0,false))else none else none else bif f<(c.length:Int) then(bif (cI c f 0)<0 then some (0,false)else(ab (fun e s=>CN n e f g c s) n (0:pV)))else none)
def Cg(n:Nat)(a:Int)(d:Lv)(b c:Int)(f:Lv):Option dX:=
 (iO n a d).bind fun y5=>
 (bif y5 then bif(-9223372036854775808<=(a-1))&&((a-1)<=9223372036854775807)then(bif 0<=b then(bif b<=(a-1) then(bif 0<=c then(bif c<=(a-1) then(bif((decide (b=c))==true)then some (0,false)else(bif !((f.length:Int)=(d.length:Int))then some (0,false)else bif 0<=a then bif (a*8)<=140737488355328 then(ab (fun e s=>Ct n e d b c f s.1 s.2) n ((0,(v7 (a).toNat [(AV.int 0)])):pN))else none else none))else some (0,false))else some (0,false))else some (0,false))else some (0,false))else none else some (0,false))
def Ew(n:Nat)(a:Int)(b:Lv)(c d:Int)(e:Lv):Option dX:=Cg n a b c d e
def flow_CheckFlow_t:FnT:=⟨[(true,[.int,tSc]),(false,[.int]),(false,[.int]),(false,[tSa])],(.tup (.cons .i (.cons .b .nil))),fun n (s:Int×Lv×Int×Int×Lv)=>Ew n s.1 s.2.1 s.2.2.1 s.2.2.2.1 s.2.2.2.2⟩
theorem BJ:flow_CheckFlow_t.ok Tryz.prog 40:=FnT.ok_of (cfg:=⟨[((103,5,4),.inv [(.tmp 21 .int),(.inrow 3 3 (.cons .int .nil))]),((40,7,6),.inv [(.tmp 36 .int)])],aL,[],aq⟩) az pg ay (fun s fn hf=>by rw[Tryz.func40]at hf;cases hf;kernel_rfl) (fun n s=>by kernel_rfl)
def flow_CheckFlow_T:Tab:=(40,flow_CheckFlow_t)::flow_CheckCut_T
theorem nR:flow_CheckFlow_T.ok Tryz.prog:=Tab.ok_cons BJ pg
def Py:List Nat:=[12,13,14,15,16,17,18,19,20,21,22,23,24,25,26,27,28,29,30,31,32,33,34,37,38,39,40,43,44,45,46,47,48,49,50,51,52,53,54,55,56,57,58,59,62,66,68,69,70,71,72,73,74,75,76,77,78,84,85,86,87,89,95,105,106,107,108,109,110,111,112,114,115,116,117,120,122,149,150,152,153,159,176,178,179,180,182,183,184,186,187,193,202,203,204,210,211,1000015,1000016,1000017,1000018,1000019,1000022,1000049,1000050,1000051,1000052,1000053,1000062,2000151,2000152,2000217,2000247,2000248,2000249,6000000]
abbrev aa:=Lv×Int×Int
abbrev aN:=Lv×Int×Lv
abbrev aC:=Int×Lv
abbrev ba:=Int×Int
abbrev aK:=Int×Int×Lv
abbrev cf:=Lv×Lv
def Kb(n:Nat)(g:aN->Option aa)(e:aC->Option aa)(f:aC->Option aa)(d:Lv)(a b:Int)(c:Lv):Option aa:=
 (bif b<14 then bif 0<=a then bif (a*14)<(c.length:Int) then bif 0<=b then bif ((a*14)+b)<(c.length:Int) then bif (a*14)<(d.length:Int) then bif ((a*14)+b)<(d.length:Int) then bif(-9223372036854775808<=((cI c ((a*14)+b) 0)-(cI d ((a*14)+b) 0)))&&(((cI c ((a*14)+b) 0)-(cI d ((a*14)+b) 0))<=9223372036854775807)then bif(-9223372036854775808<=(b+1))&&((b+1)<=9223372036854775807)then f ((b+1),(v0 c (((a*14)+b)).toNat (fun r=>r.set 0 (AV.int (aZ ((cI c ((a*14)+b) 0)-(cI d ((a*14)+b) 0)) 0)))))else none else none else none else none else none else none else none else none else bif(-9223372036854775808<=(a+1))&&((a+1)<=9223372036854775807)then e ((a+1),c)else none)
def JA(n:Nat)(g:aN->Option aa)(h:ba->Option aa)(e:aN->Option aa)(b:Lv)(f:Int)(d:Lv)(a:Int)(c:Lv):Option aa:=
 (bif a<(b.length:Int) then bif 0<=a then bif 0<=(cI b a 0) then bif (cI b a 0)<14 then bif ((cI b a 0)*14)<(c.length:Int) then bif 0<=(cI b a 1) then bif (cI b a 1)<14 then bif (((cI b a 0)*14)+(cI b a 1))<(c.length:Int) then bif(-9223372036854775808<=((cI c (((cI b a 0)*14)+(cI b a 1)) 0)-(aQ (cI b a 2) (cI c (((cI b a 0)*14)+(cI b a 1)) 0))))&&(((cI c (((cI b a 0)*14)+(cI b a 1)) 0)-(aQ (cI b a 2) (cI c (((cI b a 0)*14)+(cI b a 1)) 0)))<=9223372036854775807)then bif (((d.length:Int)+1)*8)<=140737488355328 then bif(-9223372036854775808<=(a+1))&&((a+1)<=9223372036854775807)then e ((d++[[(AV.int (aQ (cI b a 2) (cI c (((cI b a 0)*14)+(cI b a 1)) 0)))]]),(a+1),(v0 c ((((cI b a 0)*14)+(cI b a 1))).toNat (fun r=>r.set 0 (AV.int ((cI c (((cI b a 0)*14)+(cI b a 1)) 0)-(aQ (cI b a 2) (cI c (((cI b a 0)*14)+(cI b a 1)) 0)))))))else none else none else none else none else none else none else none else none else none else none else some (d,f,0))
def JY(n:Nat)(c:aN->Option aa)(a:ba->Option aa)(b:aC->Option aa)(g h:Lv)(f d:Int)(e:Lv):Option aa:=
 (bif d<14 then(ab (fun a s=>Kb n c b a h d s.1 s.2) n ((0,e):aC))else(ab (fun b s=>JA n c a b g f s.1 s.2.1 s.2.2) n ((([]:Lv),0,e):aN)))
def J7(n:Nat)(e:aN->Option aa)(f:ba->Option aa)(d:aC->Option aa)(b h:Lv)(g a:Int)(c:Lv):Option aa:=
 (bif a<(b.length:Int) then bif 0<=a then bif 0<=(cI b a 0) then bif (cI b a 0)<14 then bif ((cI b a 0)*14)<(c.length:Int) then bif 0<=(cI b a 1) then bif (cI b a 1)<14 then bif (((cI b a 0)*14)+(cI b a 1))<(c.length:Int) then bif(-9223372036854775808<=((cI c (((cI b a 0)*14)+(cI b a 1)) 0)+(cI b a 2)))&&(((cI c (((cI b a 0)*14)+(cI b a 1)) 0)+(cI b a 2))<=9223372036854775807)then bif(-9223372036854775808<=(a+1))&&((a+1)<=9223372036854775807)then d ((a+1),(v0 c ((((cI b a 0)*14)+(cI b a 1))).toNat (fun r=>r.set 0 (AV.int ((cI c (((cI b a 0)*14)+(cI b a 1)) 0)+(cI b a 2))))))else none else none else none else none else none else none else none else none else none else(ab (fun d s=>JY n e f d b h g s.1 s.2) n ((0,c):aC)))
def Kd(n:Nat)(d:aK->Option aa)(e:aN->Option aa)(b:ba->Option aa)(i j f:Lv)(g:Int)(h:Lv)(c a:Int):Option aa:=
 (bif a<14 then bif 0<=a then(bif 0<(cI (v0 h (g).toNat (fun r=>r.set 0 (AV.int ((cI f 0 0)+1)))) a 0) then bif(-9223372036854775808<=(a+1))&&((a+1)<=9223372036854775807)then b ((IOp.f .or c (IOp.f .shl 1 a)),(a+1))else none else bif(-9223372036854775808<=(a+1))&&((a+1)<=9223372036854775807)then b (c,(a+1))else none)else none else(ab (fun d s=>J7 n e b d i j c s.1 s.2) n ((0,(v7 ((196:Int)).toNat [(AV.int 0)])):aC)))
def fm(n:Nat)(g:aK->Option aa)(j:aN->Option aa)(h:aC->Option aa)(k i l:Int)(c:Lv)(d:Int)(b:Lv)(f a:Int)(e:Lv):Option aa:=
 (bif !(a=k)then bif 0<=a then bif a<14 then bif a<(b.length:Int) then bif(-9223372036854775808<=((cI (v0 b (d).toNat (fun r=>r.set 0 (AV.int ((cI c 0 0)+1)))) a 0)-1))&&(((cI (v0 b (d).toNat (fun r=>r.set 0 (AV.int ((cI c 0 0)+1)))) a 0)-1)<=9223372036854775807)then bif 0<=((cI (v0 b (d).toNat (fun r=>r.set 0 (AV.int ((cI c 0 0)+1)))) a 0)-1) then bif ((cI (v0 b (d).toNat (fun r=>r.set 0 (AV.int ((cI c 0 0)+1)))) a 0)-1)<14 then bif (((cI (v0 b (d).toNat (fun r=>r.set 0 (AV.int ((cI c 0 0)+1)))) a 0)-1)*14)<(e.length:Int) then bif ((((cI (v0 b (d).toNat (fun r=>r.set 0 (AV.int ((cI c 0 0)+1)))) a 0)-1)*14)+a)<(e.length:Int) then bif(-9223372036854775808<=((cI e ((((cI (v0 b (d).toNat (fun r=>r.set 0 (AV.int ((cI c 0 0)+1)))) a 0)-1)*14)+a) 0)-f))&&(((cI e ((((cI (v0 b (d).toNat (fun r=>r.set 0 (AV.int ((cI c 0 0)+1)))) a 0)-1)*14)+a) 0)-f)<=9223372036854775807)then bif (a*14)<(e.length:Int) then bif ((a*14)+((cI (v0 b (d).toNat (fun r=>r.set 0 (AV.int ((cI c 0 0)+1)))) a 0)-1))<(e.length:Int) then bif(-9223372036854775808<=((cI (v0 e (((((cI (v0 b (d).toNat (fun r=>r.set 0 (AV.int ((cI c 0 0)+1)))) a 0)-1)*14)+a)).toNat (fun r=>r.set 0 (AV.int ((cI e ((((cI (v0 b (d).toNat (fun r=>r.set 0 (AV.int ((cI c 0 0)+1)))) a 0)-1)*14)+a) 0)-f)))) ((a*14)+((cI (v0 b (d).toNat (fun r=>r.set 0 (AV.int ((cI c 0 0)+1)))) a 0)-1)) 0)+f))&&(((cI (v0 e (((((cI (v0 b (d).toNat (fun r=>r.set 0 (AV.int ((cI c 0 0)+1)))) a 0)-1)*14)+a)).toNat (fun r=>r.set 0 (AV.int ((cI e ((((cI (v0 b (d).toNat (fun r=>r.set 0 (AV.int ((cI c 0 0)+1)))) a 0)-1)*14)+a) 0)-f)))) ((a*14)+((cI (v0 b (d).toNat (fun r=>r.set 0 (AV.int ((cI c 0 0)+1)))) a 0)-1)) 0)+f)<=9223372036854775807)then h (((cI (v0 b (d).toNat (fun r=>r.set 0 (AV.int ((cI c 0 0)+1)))) a 0)-1),(v0 (v0 e (((((cI (v0 b (d).toNat (fun r=>r.set 0 (AV.int ((cI c 0 0)+1)))) a 0)-1)*14)+a)).toNat (fun r=>r.set 0 (AV.int ((cI e ((((cI (v0 b (d).toNat (fun r=>r.set 0 (AV.int ((cI c 0 0)+1)))) a 0)-1)*14)+a) 0)-f)))) (((a*14)+((cI (v0 b (d).toNat (fun r=>r.set 0 (AV.int ((cI c 0 0)+1)))) a 0)-1))).toNat (fun r=>r.set 0 (AV.int ((cI (v0 e (((((cI (v0 b (d).toNat (fun r=>r.set 0 (AV.int ((cI c 0 0)+1)))) a 0)-1)*14)+a)).toNat (fun r=>r.set 0 (AV.int ((cI e ((((cI (v0 b (d).toNat (fun r=>r.set 0 (AV.int ((cI c 0 0)+1)))) a 0)-1)*14)+a) 0)-f)))) ((a*14)+((cI (v0 b (d).toNat (fun r=>r.set 0 (AV.int ((cI c 0 0)+1)))) a 0)-1)) 0)+f)))))else none else none else none else none else none else none else none else none else none else none else none else none else bif(-9223372036854775808<=(i+f))&&((i+f)<=9223372036854775807)then g ((i+f),l,e)else none)
def gQ(n:Nat)(h:aK->Option aa)(i:aN->Option aa)(e:ba->Option aa)(j k l m:Int)(g c:Lv)(d:Int)(b:Lv)(a f:Int):Option aa:=
 (bif !(a=j)then bif 0<=a then bif a<14 then bif a<(b.length:Int) then bif(-9223372036854775808<=((cI (v0 b (d).toNat (fun r=>r.set 0 (AV.int ((cI c 0 0)+1)))) a 0)-1))&&(((cI (v0 b (d).toNat (fun r=>r.set 0 (AV.int ((cI c 0 0)+1)))) a 0)-1)<=9223372036854775807)then bif 0<=((cI (v0 b (d).toNat (fun r=>r.set 0 (AV.int ((cI c 0 0)+1)))) a 0)-1) then bif ((cI (v0 b (d).toNat (fun r=>r.set 0 (AV.int ((cI c 0 0)+1)))) a 0)-1)<14 then bif (((cI (v0 b (d).toNat (fun r=>r.set 0 (AV.int ((cI c 0 0)+1)))) a 0)-1)*14)<(g.length:Int) then bif ((((cI (v0 b (d).toNat (fun r=>r.set 0 (AV.int ((cI c 0 0)+1)))) a 0)-1)*14)+a)<(g.length:Int) then e (((cI (v0 b (d).toNat (fun r=>r.set 0 (AV.int ((cI c 0 0)+1)))) a 0)-1),(aQ f (cI g ((((cI (v0 b (d).toNat (fun r=>r.set 0 (AV.int ((cI c 0 0)+1)))) a 0)-1)*14)+a) 0)))else none else none else none else none else none else none else none else none else(ab (fun e s=>fm n h i e j l m c d b f s.1 s.2) n ((k,g):aC)))
def vg(n:Nat)(e:aK->Option aa)(a:cf->Option aa)(f:aN->Option aa)(j:Lv)(k g l h:Int)(i c:Lv)(d:Int)(b:Lv):Option aa:=
 (bif (cI (v0 b (d).toNat (fun r=>r.set 0 (AV.int ((cI c 0 0)+1)))) g 0)=0 then bif 14<=(b.length:Int) then(ab (fun a s=>Kd n e f a j i c d b s.1 s.2) n ((h,0):ba))else none else(ab (fun a s=>gQ n e f a k g l h i c d b s.1 s.2) n ((g,4611686018427387903):ba)))
def B7(n:Nat)(g:aK->Option aa)(h:cf->Option aa)(c:aN->Option aa)(i:Lv)(j f k l:Int)(m d e:Lv)(a:Int)(b:Lv):Option aa:=
 (bif a=f then bif f<14 then bif f<(b.length:Int) then vg n g h c i j f k l m d a b else none else none else bif (((e.length:Int)+1)*8)<=140737488355328 then bif(-9223372036854775808<=(a+1))&&((a+1)<=9223372036854775807)then c ((e++[[(AV.int a)]]),(a+1),(v0 b (a).toNat (fun r=>r.set 0 (AV.int ((cI d 0 0)+1)))))else none else none)
def B3(n:Nat)(f:aK->Option aa)(g:cf->Option aa)(c:aN->Option aa)(i:Lv)(j k l m:Int)(h b d:Lv)(a:Int)(e:Lv):Option aa:=
 (bif (cI h (((cI b 0 0)*14)+a) 0)=0 then bif(-9223372036854775808<=(a+1))&&((a+1)<=9223372036854775807)then c (d,(a+1),e)else none else bif(-9223372036854775808<=((cI b 0 0)+1))&&(((cI b 0 0)+1)<=9223372036854775807)then B7 n f g c i j k l m h b d a e else none)
def B5(n:Nat)(f:aK->Option aa)(g:cf->Option aa)(d:aN->Option aa)(i:Lv)(j k l m:Int)(h b e:Lv)(a:Int)(c:Lv):Option aa:=
 (bif 0<(cI c a 0) then bif(-9223372036854775808<=(a+1))&&((a+1)<=9223372036854775807)then d (e,(a+1),c)else none else bif 0<=(cI b 0 0) then bif (cI b 0 0)<14 then bif ((cI b 0 0)*14)<(h.length:Int) then bif (((cI b 0 0)*14)+a)<(h.length:Int) then B3 n f g d i j k l m h b e a c else none else none else none else none)
def ep(n:Nat)(e:aK->Option aa)(c:cf->Option aa)(f:aN->Option aa)(h:Lv)(i j k l:Int)(m g d:Lv)(a:Int)(b:Lv):Option aa:=
 (bif a<14 then bif 0<=a then bif a<(b.length:Int) then B5 n e c f h i j k l m g d a b else none else none else c (d,b))
def gV(n:Nat)(e:aC->Option aa)(f:aC->Option aa)(d:Lv)(a b:Int)(c:Lv):Option aa:=
 (bif b<14 then bif 0<=a then bif (a*14)<(c.length:Int) then bif 0<=b then bif ((a*14)+b)<(c.length:Int) then bif (a*14)<(d.length:Int) then bif ((a*14)+b)<(d.length:Int) then bif(-9223372036854775808<=((cI c ((a*14)+b) 0)-(cI d ((a*14)+b) 0)))&&(((cI c ((a*14)+b) 0)-(cI d ((a*14)+b) 0))<=9223372036854775807)then bif(-9223372036854775808<=(b+1))&&((b+1)<=9223372036854775807)then f ((b+1),(v0 c (((a*14)+b)).toNat (fun r=>r.set 0 (AV.int (aZ ((cI c ((a*14)+b) 0)-(cI d ((a*14)+b) 0)) 0)))))else none else none else none else none else none else none else none else none else bif(-9223372036854775808<=(a+1))&&((a+1)<=9223372036854775807)then e ((a+1),c)else none)
def gL(n:Nat)(g:ba->Option aa)(e:aN->Option aa)(b:Lv)(f:Int)(d:Lv)(a:Int)(c:Lv):Option aa:=
 (bif a<(b.length:Int) then bif 0<=a then bif 0<=(cI b a 0) then bif (cI b a 0)<14 then bif ((cI b a 0)*14)<(c.length:Int) then bif 0<=(cI b a 1) then bif (cI b a 1)<14 then bif (((cI b a 0)*14)+(cI b a 1))<(c.length:Int) then bif(-9223372036854775808<=((cI c (((cI b a 0)*14)+(cI b a 1)) 0)-(aQ (cI b a 2) (cI c (((cI b a 0)*14)+(cI b a 1)) 0))))&&(((cI c (((cI b a 0)*14)+(cI b a 1)) 0)-(aQ (cI b a 2) (cI c (((cI b a 0)*14)+(cI b a 1)) 0)))<=9223372036854775807)then bif (((d.length:Int)+1)*8)<=140737488355328 then bif(-9223372036854775808<=(a+1))&&((a+1)<=9223372036854775807)then e ((d++[[(AV.int (aQ (cI b a 2) (cI c (((cI b a 0)*14)+(cI b a 1)) 0)))]]),(a+1),(v0 c ((((cI b a 0)*14)+(cI b a 1))).toNat (fun r=>r.set 0 (AV.int ((cI c (((cI b a 0)*14)+(cI b a 1)) 0)-(aQ (cI b a 2) (cI c (((cI b a 0)*14)+(cI b a 1)) 0)))))))else none else none else none else none else none else none else none else none else none else none else some (d,f,0))
def gR(n:Nat)(a:ba->Option aa)(b:aC->Option aa)(f g:Lv)(e c:Int)(d:Lv):Option aa:=
 (bif c<14 then(ab (fun a s=>gV n b a g c s.1 s.2) n ((0,d):aC))else(ab (fun b s=>gL n a b f e s.1 s.2.1 s.2.2) n ((([]:Lv),0,d):aN)))
def gO(n:Nat)(e:ba->Option aa)(d:aC->Option aa)(b g:Lv)(f a:Int)(c:Lv):Option aa:=
 (bif a<(b.length:Int) then bif 0<=a then bif 0<=(cI b a 0) then bif (cI b a 0)<14 then bif ((cI b a 0)*14)<(c.length:Int) then bif 0<=(cI b a 1) then bif (cI b a 1)<14 then bif (((cI b a 0)*14)+(cI b a 1))<(c.length:Int) then bif(-9223372036854775808<=((cI c (((cI b a 0)*14)+(cI b a 1)) 0)+(cI b a 2)))&&(((cI c (((cI b a 0)*14)+(cI b a 1)) 0)+(cI b a 2))<=9223372036854775807)then bif(-9223372036854775808<=(a+1))&&((a+1)<=9223372036854775807)then d ((a+1),(v0 c ((((cI b a 0)*14)+(cI b a 1))).toNat (fun r=>r.set 0 (AV.int ((cI c (((cI b a 0)*14)+(cI b a 1)) 0)+(cI b a 2))))))else none else none else none else none else none else none else none else none else none else(ab (fun d s=>gR n e d b g f s.1 s.2) n ((0,c):aC)))
def fp(n:Nat)(d:aK->Option aa)(b:ba->Option aa)(f g e:Lv)(c a:Int):Option aa:=
 (bif a<14 then bif 0<=a then(bif 0<(cI e a 0) then bif(-9223372036854775808<=(a+1))&&((a+1)<=9223372036854775807)then b ((IOp.f .or c (IOp.f .shl 1 a)),(a+1))else none else bif(-9223372036854775808<=(a+1))&&((a+1)<=9223372036854775807)then b (c,(a+1))else none)else none else(ab (fun d s=>gO n b d f g c s.1 s.2) n ((0,(v7 ((196:Int)).toNat [(AV.int 0)])):aC)))
def JO(n:Nat)(e:aK->Option aa)(f:aC->Option aa)(h g i:Int)(b:Lv)(d a:Int)(c:Lv):Option aa:=
 (bif !(a=h)then bif 0<=a then bif a<14 then bif a<(b.length:Int) then bif(-9223372036854775808<=((cI b a 0)-1))&&(((cI b a 0)-1)<=9223372036854775807)then bif 0<=((cI b a 0)-1) then bif ((cI b a 0)-1)<14 then bif (((cI b a 0)-1)*14)<(c.length:Int) then bif ((((cI b a 0)-1)*14)+a)<(c.length:Int) then bif(-9223372036854775808<=((cI c ((((cI b a 0)-1)*14)+a) 0)-d))&&(((cI c ((((cI b a 0)-1)*14)+a) 0)-d)<=9223372036854775807)then bif (a*14)<(c.length:Int) then bif ((a*14)+((cI b a 0)-1))<(c.length:Int) then bif(-9223372036854775808<=((cI (v0 c (((((cI b a 0)-1)*14)+a)).toNat (fun r=>r.set 0 (AV.int ((cI c ((((cI b a 0)-1)*14)+a) 0)-d)))) ((a*14)+((cI b a 0)-1)) 0)+d))&&(((cI (v0 c (((((cI b a 0)-1)*14)+a)).toNat (fun r=>r.set 0 (AV.int ((cI c ((((cI b a 0)-1)*14)+a) 0)-d)))) ((a*14)+((cI b a 0)-1)) 0)+d)<=9223372036854775807)then f (((cI b a 0)-1),(v0 (v0 c (((((cI b a 0)-1)*14)+a)).toNat (fun r=>r.set 0 (AV.int ((cI c ((((cI b a 0)-1)*14)+a) 0)-d)))) (((a*14)+((cI b a 0)-1))).toNat (fun r=>r.set 0 (AV.int ((cI (v0 c (((((cI b a 0)-1)*14)+a)).toNat (fun r=>r.set 0 (AV.int ((cI c ((((cI b a 0)-1)*14)+a) 0)-d)))) ((a*14)+((cI b a 0)-1)) 0)+d)))))else none else none else none else none else none else none else none else none else none else none else none else none else bif(-9223372036854775808<=(g+d))&&((g+d)<=9223372036854775807)then e ((g+d),i,c)else none)
def JG(n:Nat)(f:aK->Option aa)(c:ba->Option aa)(g h i j:Int)(e b:Lv)(a d:Int):Option aa:=
 (bif !(a=g)then bif 0<=a then bif a<14 then bif a<(b.length:Int) then bif(-9223372036854775808<=((cI b a 0)-1))&&(((cI b a 0)-1)<=9223372036854775807)then bif 0<=((cI b a 0)-1) then bif ((cI b a 0)-1)<14 then bif (((cI b a 0)-1)*14)<(e.length:Int) then bif ((((cI b a 0)-1)*14)+a)<(e.length:Int) then c (((cI b a 0)-1),(aQ d (cI e ((((cI b a 0)-1)*14)+a) 0)))else none else none else none else none else none else none else none else none else(ab (fun c s=>JO n f c g i j b d s.1 s.2) n ((h,e):aC)))
def u9(n:Nat)(c:aK->Option aa)(a:cf->Option aa)(g:Lv)(h d i e:Int)(f b:Lv):Option aa:=
 (bif (cI b d 0)=0 then bif 14<=(b.length:Int) then(ab (fun a s=>fp n c a g f b s.1 s.2) n ((e,0):ba))else none else(ab (fun a s=>JG n c a h d i e f b s.1 s.2) n ((d,4611686018427387903):ba)))
def eA(n:Nat)(c:aK->Option aa)(d:cf->Option aa)(g:Lv)(h e i j:Int)(k a b:Lv):Option aa:=
 (bif 0<(a.length:Int) then bif 1<=(a.length:Int) then(ab (fun f s=>ep n c d f g h e i j k a s.1 s.2.1 s.2.2) n (((y9 ((1:Int)).toNat a),0,b):aN))else none else bif e<14 then bif e<(b.length:Int) then u9 n c d g h e i j k b else none else none)
def kC(n:Nat)(b:aK->Option aa)(d:Lv)(a e f g:Int)(h:Lv):Option aa:=
 bif(-9223372036854775808<=(a+1))&&((a+1)<=9223372036854775807)then bif a<14 then bif a<14 then(ab (fun c s=>eA n b c d a e f g h s.1 s.2) n (((([]:Lv)++[[(AV.int a)]]),(v0 (v7 ((14:Int)).toNat [(AV.int 0)]) (a).toNat (fun r=>r.set 0 (AV.int (a+1))))):cf))else none else none else none
def gH(n:Nat)(c:aC->Option aa)(b:Lv)(e f a:Int)(d:Lv):Option aa:=
 (bif a<(b.length:Int) then bif 0<=a then bif 0<=(cI b a 0) then bif (cI b a 0)<14 then bif ((cI b a 0)*14)<(d.length:Int) then bif 0<=(cI b a 1) then bif (cI b a 1)<14 then bif (((cI b a 0)*14)+(cI b a 1))<(d.length:Int) then bif(-9223372036854775808<=((cI d (((cI b a 0)*14)+(cI b a 1)) 0)+(cI b a 2)))&&(((cI d (((cI b a 0)*14)+(cI b a 1)) 0)+(cI b a 2))<=9223372036854775807)then bif(-9223372036854775808<=(a+1))&&((a+1)<=9223372036854775807)then c ((a+1),(v0 d ((((cI b a 0)*14)+(cI b a 1))).toNat (fun r=>r.set 0 (AV.int ((cI d (((cI b a 0)*14)+(cI b a 1)) 0)+(cI b a 2))))))else none else none else none else none else none else none else none else none else none else(ab (fun c s=>kC n c b e f s.1 s.2.1 s.2.2) n ((0,0,d):aK)))
def Da(n:Nat)(d:Lv)(b c:Int):Option aa:=
 (bif((decide (b=c))==true)then some (([]:Lv),0,270)else(ab (fun a s=>gH n a d b c s.1 s.2) n ((0,(v7 ((196:Int)).toNat [(AV.int 0)])):aC)))
def C1(n:Nat)(b:Int)(c:Lv)(d a:Int):Option aa:=
 (bif a<=(b-1) then Da n c d a else some (([]:Lv),0,270))
def De(n:Nat)(b:Int)(c:Lv)(d a:Int):Option aa:=
 (bif 0<=a then C1 n b c d a else some (([]:Lv),0,270))
def DZ(n:Nat)(a:Int)(c:Lv)(b d:Int):Option aa:=
 (bif b<=(a-1) then De n a c b d else some (([]:Lv),0,270))
def Ei(n:Nat)(b:Int)(c:Lv)(a d:Int):Option aa:=
 (bif 0<=a then DZ n b c a d else some (([]:Lv),0,270))
def Dh(n:Nat)(a:Int)(b:Lv)(c d:Int)(e:Bool):Option aa:=
 (bif e then bif(-9223372036854775808<=(a-1))&&((a-1)<=9223372036854775807)then Ei n a b c d else none else some (([]:Lv),0,270))
def DK(n:Nat)(a:Int)(b:Lv)(c d:Int):Option aa:=
 (iO n a b).bind fun y4=>
 Dh n a b c d y4
def jP(n:Nat)(a:Int)(b:Lv)(c d:Int):Option aa:=DK n a b c d
def flow_Max_t:FnT:=⟨[(true,[.int,tSc]),(false,[.int]),(false,[.int])],(.tup (.cons (.row 3 (.cons .int .nil)) (.cons .i (.cons .i .nil)))),fun n (s:Int×Lv×Int×Int)=>jP n s.1 s.2.1 s.2.2.1 s.2.2.2⟩
theorem J5:flow_Max_t.ok Tryz.prog 39:=FnT.ok_of (cfg:=⟨[((101,1,0),.inv [.tmp 6 .int,.tmp 7 .int,.inrow 3 249 (.cons .int .nil)]),((101,4,0),.inv [.tmprow 9 5000003 (.cons .int .nil),.inrow 12 247 (.cons .int .nil)]),((100,3,4),.inv [(.tmp 9 .int),(.inrow 3 249 (.cons .int .nil))]),((101,8,18),.inv [(.tmprow 9 5000003 (.cons .int .nil)),(.tmp 30 .int),(.inrow 12 247 (.cons .int .nil))]),((101,17,22),.inv [(.tmp 7 .int),(.tmp 64 .int)]),((100,3,27),.inv [(.tmp 9 .int),(.inrow 26 249 (.cons .int .nil))]),((102,3,29),.inv [(.tmp 14 .int),(.inrow 26 249 (.cons .int .nil))]),((102,6,31),.inv [(.tmp 17 .int),(.inrow 26 249 (.cons .int .nil))]),((102,13,31),.inv [(.tmprow 8 3 (.cons .int .nil)),(.tmp 47 .int),(.inrow 26 249 (.cons .int .nil))]),((173,1,24),.inv [(.tmp 5 .int),(.cell 22 0 .int)]),((173,1,26),.inv [(.tmp 5 .int),(.inrow 3 249 (.cons .int .nil))]),((101,17,17),.inv [(.tmp 7 .int),(.tmp 64 .int)]),((100,3,22),.inv [(.tmp 9 .int),(.inrow 21 249 (.cons .int .nil))]),((102,3,24),.inv [(.tmp 14 .int),(.inrow 21 249 (.cons .int .nil))]),((102,6,26),.inv [(.tmp 17 .int),(.inrow 21 249 (.cons .int .nil))]),((102,13,26),.inv [(.tmprow 8 3 (.cons .int .nil)),(.tmp 47 .int),(.inrow 21 249 (.cons .int .nil))]),((173,1,19),.inv [(.tmp 5 .int),(.cell 17 0 .int)]),((173,1,21),.inv [(.tmp 5 .int),(.inrow 3 249 (.cons .int .nil))])],Py,[],aq⟩) az nR ay (fun s fn hf=>by rw[Tryz.func39]at hf;cases hf;kernel_rfl) (fun n s=>by kernel_rfl)
def flow_Max_T:Tab:=(39,flow_Max_t)::flow_CheckFlow_T
theorem xO:flow_Max_T.ok Tryz.prog:=Tab.ok_cons J5 nR
def rY:List Nat:=[12,13,14,15,16,17,18,19,20,21,22,23,24,25,26,27,28,29,30,31,32,33,34,37,38,39,40,43,44,45,46,47,48,49,50,51,52,53,54,55,56,57,58,59,62,66,68,69,70,71,72,73,74,75,76,77,78,84,85,86,87,89,95,105,106,107,108,109,110,111,112,114,115,116,117,120,122,130,132,149,150,152,153,159,176,178,179,180,182,183,184,186,187,193,202,203,204,210,211,1000015,1000016,1000017,1000018,1000019,1000022,1000049,1000050,1000051,1000052,1000053,1000062,2000151,2000152,2000217,2000247,2000248,2000249]
abbrev eK:=Bool
abbrev eh:=Int×Int
def de(n:Nat)(f:eh->Option eK)(d s t u v:Lv)(w x y z A g h i j k:Int)(l:Bool)(m:Lv)(e:Int)(o:Lv)(b a:Int):Option eK:=
 (bif a<(d.length:Int) then bif 0<=a then(ox n (cL d a 1)).bind fun c=>
 (bif !(c.2.2.2.2.2=0)then some false else bif(-9223372036854775808<=(b+1))&&((b+1)<=9223372036854775807)then(bif (b+1)<=(cI d a 0) then(bif !((cI d a 0)<=99999999)then some false else bif(-9223372036854775808<=(a+1))&&((a+1)<=9223372036854775807)then f ((cI d a 0),(a+1))else none)else some false)else none)else none else(bif 10<(d.length:Int) then some false else(jp n s t).bind fun c=>
 (bif(!c)then some false else(lj n u v w).bind fun p=>
 (bif(!p)then some false else(lB n x y z A g h i j k l m).bind fun q=>
 (bif q then(iO n e o).bind fun r=>
 (bif r then some (decide (e=8))else some false)else some false)))))
def tN(n:Nat)(k l m o p:Lv)(q r t u v a b c d e:Int)(f:Bool)(g:Lv)(h:Int)(i:Lv):Option eK:=
 (ab (fun j s=>de n j k l m o p q r t u v a b c d e f g h i s.1 s.2) n (((-1),0):eh))
def eV(n:Nat)(j k l m o:Lv)(p q r s t a b c d e:Int)(f:Bool)(g:Lv)(h:Int)(i:Lv):Option eK:=tN n j k l m o p q r s t a b c d e f g h i
def refusal_Valid_t:FnT:=⟨[(true,[(.sl (.cons .int (.cons tSc .nil))),(.sl (.cons .int (.cons .int (.cons .int (.cons .int (.cons .int .nil)))))),(.sl (.cons .int (.cons .int .nil))),tSa,tSa,.int,.int,.int,.int,.int,.int,.int,.int,.int,.int,.bool,tSc,.int,tSc])],.b,fun n (s:Lv×Lv×Lv×Lv×Lv×Int×Int×Int×Int×Int×Int×Int×Int×Int×Int×Bool×Lv×Int×Lv)=>eV n s.1 s.2.1 s.2.2.1 s.2.2.2.1 s.2.2.2.2.1 s.2.2.2.2.2.1 s.2.2.2.2.2.2.1 s.2.2.2.2.2.2.2.1 s.2.2.2.2.2.2.2.2.1 s.2.2.2.2.2.2.2.2.2.1 s.2.2.2.2.2.2.2.2.2.2.1 s.2.2.2.2.2.2.2.2.2.2.2.1 s.2.2.2.2.2.2.2.2.2.2.2.2.1 s.2.2.2.2.2.2.2.2.2.2.2.2.2.1 s.2.2.2.2.2.2.2.2.2.2.2.2.2.2.1 s.2.2.2.2.2.2.2.2.2.2.2.2.2.2.2.1 s.2.2.2.2.2.2.2.2.2.2.2.2.2.2.2.2.1 s.2.2.2.2.2.2.2.2.2.2.2.2.2.2.2.2.2.1 s.2.2.2.2.2.2.2.2.2.2.2.2.2.2.2.2.2.2⟩
theorem CI:refusal_Valid_t.ok Tryz.prog 25:=FnT.ok_of (cfg:=⟨[((25,3,1),.inv [(.tmp 3 .int),(.tmp 12 .int)])],rY,[],aq⟩) az xO ay (fun s fn hf=>by rw[Tryz.func25]at hf;cases hf;kernel_rfl) (fun n s=>by kernel_rfl)
def refusal_Valid_T:Tab:=(25,refusal_Valid_t)::flow_Max_T
theorem pf:refusal_Valid_T.ok Tryz.prog:=Tab.ok_cons CI xO
abbrev dm:=Bool
abbrev dV:=Int
def bR(n:Nat)(b:dV->Option dm)(c:Lv)(d e a:Int):Option dm:=
 (bif a<(c.length:Int) then bif 0<=a then(bif (cI c a 0)=e then(bif a<0 then some false else(Bq n (cL c a 1) d).bind fun f=>
 some (decide (f.1=1)))else bif(-9223372036854775808<=(a+1))&&((a+1)<=9223372036854775807)then b (a+1)else none)else none else some false)
def lA(n:Nat)(d:Lv)(a b:Int):Option dm:=
 (ab (fun c s=>bR n c d a b s) n (0:dV))
def cT(n:Nat)(c t u v w:Lv)(x y z A B d e f g h:Int)(i:Bool)(j:Lv)(k:Int)(l:Lv)(a m o:Int)(p q r:Lv)(s b:Int):Option dm:=lA n c a b
def refusal_call__isHeld_t:FnT:=⟨[(true,[(.sl (.cons .int (.cons tSc .nil))),(.sl (.cons .int (.cons .int (.cons .int (.cons .int (.cons .int .nil)))))),(.sl (.cons .int (.cons .int .nil))),tSa,tSa,.int,.int,.int,.int,.int,.int,.int,.int,.int,.int,.bool,tSc,.int,tSc,.int,.int,.int,tSa,tSa,(.sl (.cons .int (.cons .int .nil))),.int]),(false,[.int])],.b,fun n (s:Lv×Lv×Lv×Lv×Lv×Int×Int×Int×Int×Int×Int×Int×Int×Int×Int×Bool×Lv×Int×Lv×Int×Int×Int×Lv×Lv×Lv×Int×Int)=>cT n s.1 s.2.1 s.2.2.1 s.2.2.2.1 s.2.2.2.2.1 s.2.2.2.2.2.1 s.2.2.2.2.2.2.1 s.2.2.2.2.2.2.2.1 s.2.2.2.2.2.2.2.2.1 s.2.2.2.2.2.2.2.2.2.1 s.2.2.2.2.2.2.2.2.2.2.1 s.2.2.2.2.2.2.2.2.2.2.2.1 s.2.2.2.2.2.2.2.2.2.2.2.2.1 s.2.2.2.2.2.2.2.2.2.2.2.2.2.1 s.2.2.2.2.2.2.2.2.2.2.2.2.2.2.1 s.2.2.2.2.2.2.2.2.2.2.2.2.2.2.2.1 s.2.2.2.2.2.2.2.2.2.2.2.2.2.2.2.2.1 s.2.2.2.2.2.2.2.2.2.2.2.2.2.2.2.2.2.1 s.2.2.2.2.2.2.2.2.2.2.2.2.2.2.2.2.2.2.1 s.2.2.2.2.2.2.2.2.2.2.2.2.2.2.2.2.2.2.2.1 s.2.2.2.2.2.2.2.2.2.2.2.2.2.2.2.2.2.2.2.2.1 s.2.2.2.2.2.2.2.2.2.2.2.2.2.2.2.2.2.2.2.2.2.1 s.2.2.2.2.2.2.2.2.2.2.2.2.2.2.2.2.2.2.2.2.2.2.1 s.2.2.2.2.2.2.2.2.2.2.2.2.2.2.2.2.2.2.2.2.2.2.2.1 s.2.2.2.2.2.2.2.2.2.2.2.2.2.2.2.2.2.2.2.2.2.2.2.2.1 s.2.2.2.2.2.2.2.2.2.2.2.2.2.2.2.2.2.2.2.2.2.2.2.2.2.1 s.2.2.2.2.2.2.2.2.2.2.2.2.2.2.2.2.2.2.2.2.2.2.2.2.2.2⟩
theorem sY:refusal_call__isHeld_t.ok Tryz.prog 132:=FnT.ok_of (cfg:=⟨[((188,2,0),.inv [.tmp 8 .int])],rY,[],aq⟩) az pf ay (fun s fn hf=>by rw[Tryz.func132]at hf;cases hf;kernel_rfl) (fun n s=>by kernel_rfl)
def refusal_call__isHeld_T:Tab:=(132,refusal_call__isHeld_t)::refusal_Valid_T
theorem jJ:refusal_call__isHeld_T.ok Tryz.prog:=Tab.ok_cons sY pf
abbrev jl:=Bool
def jf(n:Nat)(l m o p c d e g h:Int)(i:Bool)(j:Lv)(k:Int)(a b:Lv):Option jl:=
 (m6 n l m o p c d e g h i j k).bind fun f=>
 bif(-9223372036854775808<=((b.length:Int)-1))&&(((b.length:Int)-1)<=9223372036854775807)then bif 0<=((b.length:Int)-1) then bif ((b.length:Int)-1)<(b.length:Int) then(bif (cI b ((b.length:Int)-1) 0)=d then bif(-9223372036854775808<=((a.length:Int)-1))&&(((a.length:Int)-1)<=9223372036854775807)then bif 0<=((a.length:Int)-1) then bif ((a.length:Int)-1)<(a.length:Int) then(bif c=(cI a ((a.length:Int)-1) 0) then some (!(decide ((cI b ((b.length:Int)-1) 0)=f.1)))else some false)else none else none else none else bif(-9223372036854775808<=((a.length:Int)-1))&&(((a.length:Int)-1)<=9223372036854775807)then bif 0<=((a.length:Int)-1) then bif ((a.length:Int)-1)<(a.length:Int) then(bif c=(cI a ((a.length:Int)-1) 0) then(bif (cI b ((b.length:Int)-1) 0)=e then some (!(decide ((cI b ((b.length:Int)-1) 0)=f.1)))else some false)else some false)else none else none else none)else none else none else none
def bq(n:Nat)(v w x y z:Lv)(A k l m o a b c d e:Int)(f:Bool)(g:Lv)(p:Int)(q:Lv)(h r s:Int)(i t j:Lv)(u:Int):Option jl:=jf n k l m o a b c d e f g h i j
def refusal_call__isUnproved_t:FnT:=⟨[(true,[(.sl (.cons .int (.cons tSc .nil))),(.sl (.cons .int (.cons .int (.cons .int (.cons .int (.cons .int .nil)))))),(.sl (.cons .int (.cons .int .nil))),tSa,tSa,.int,.int,.int,.int,.int,.int,.int,.int,.int,.int,.bool,tSc,.int,tSc,.int,.int,.int,tSa,tSa,(.sl (.cons .int (.cons .int .nil))),.int])],.b,fun n (s:Lv×Lv×Lv×Lv×Lv×Int×Int×Int×Int×Int×Int×Int×Int×Int×Int×Bool×Lv×Int×Lv×Int×Int×Int×Lv×Lv×Lv×Int)=>bq n s.1 s.2.1 s.2.2.1 s.2.2.2.1 s.2.2.2.2.1 s.2.2.2.2.2.1 s.2.2.2.2.2.2.1 s.2.2.2.2.2.2.2.1 s.2.2.2.2.2.2.2.2.1 s.2.2.2.2.2.2.2.2.2.1 s.2.2.2.2.2.2.2.2.2.2.1 s.2.2.2.2.2.2.2.2.2.2.2.1 s.2.2.2.2.2.2.2.2.2.2.2.2.1 s.2.2.2.2.2.2.2.2.2.2.2.2.2.1 s.2.2.2.2.2.2.2.2.2.2.2.2.2.2.1 s.2.2.2.2.2.2.2.2.2.2.2.2.2.2.2.1 s.2.2.2.2.2.2.2.2.2.2.2.2.2.2.2.2.1 s.2.2.2.2.2.2.2.2.2.2.2.2.2.2.2.2.2.1 s.2.2.2.2.2.2.2.2.2.2.2.2.2.2.2.2.2.2.1 s.2.2.2.2.2.2.2.2.2.2.2.2.2.2.2.2.2.2.2.1 s.2.2.2.2.2.2.2.2.2.2.2.2.2.2.2.2.2.2.2.2.1 s.2.2.2.2.2.2.2.2.2.2.2.2.2.2.2.2.2.2.2.2.2.1 s.2.2.2.2.2.2.2.2.2.2.2.2.2.2.2.2.2.2.2.2.2.2.1 s.2.2.2.2.2.2.2.2.2.2.2.2.2.2.2.2.2.2.2.2.2.2.2.1 s.2.2.2.2.2.2.2.2.2.2.2.2.2.2.2.2.2.2.2.2.2.2.2.2.1 s.2.2.2.2.2.2.2.2.2.2.2.2.2.2.2.2.2.2.2.2.2.2.2.2.2⟩
theorem o7:refusal_call__isUnproved_t.ok Tryz.prog 130:=FnT.ok_of (cfg:=⟨[],rY,[],aq⟩) az jJ ay (fun s fn hf=>by rw[Tryz.func130]at hf;cases hf;kernel_rfl) (fun n s=>by kernel_rfl)
def refusal_call__isUnproved_T:Tab:=(130,refusal_call__isUnproved_t)::refusal_call__isHeld_T
theorem gX:refusal_call__isUnproved_T.ok Tryz.prog:=Tab.ok_cons o7 jJ
abbrev ct:=Lv×Lv×Lv×Lv×Lv×Int×Int×Int×Int×Int×Int×Int×Int×Int×Int×Bool×Lv×Int×Lv×Int×Int×Int×Lv×Lv×Lv×Int×Bool
def sd(n:Nat)(u q r s e:Lv)(t v w x y f g h i j:Int)(k:Bool)(l:Lv)(m:Int)(o:Lv)(p b a:Int):Option ct:=
 (bif !(b<=10000000)then some (([]:Lv),([]:Lv),([]:Lv),([]:Lv),([]:Lv),0,0,0,0,0,0,0,0,0,0,false,([]:Lv),0,([]:Lv),0,0,0,([]:Lv),([]:Lv),([]:Lv),0,false)else(bif 0<=a then(bif !(a<=7)then some (([]:Lv),([]:Lv),([]:Lv),([]:Lv),([]:Lv),0,0,0,0,0,0,0,0,0,0,false,([]:Lv),0,([]:Lv),0,0,0,([]:Lv),([]:Lv),([]:Lv),0,false)else bif a<(e.length:Int) then(bif (cI e a 0)<0 then some (([]:Lv),([]:Lv),([]:Lv),([]:Lv),([]:Lv),0,0,0,0,0,0,0,0,0,0,false,([]:Lv),0,([]:Lv),0,0,0,([]:Lv),([]:Lv),([]:Lv),0,false)else(gE n q r p b).bind fun c=>
 (qt n s e t a).bind fun d=>
 some (u,q,r,s,e,t,v,w,x,y,f,g,h,i,j,k,l,m,o,b,a,c.1,c.2.1,c.2.2.1,d.1,d.2.1,true))else none)else some (([]:Lv),([]:Lv),([]:Lv),([]:Lv),([]:Lv),0,0,0,0,0,0,0,0,0,0,false,([]:Lv),0,([]:Lv),0,0,0,([]:Lv),([]:Lv),([]:Lv),0,false)))
def rd(n:Nat)(m o p q r:Lv)(s t u v w b c d e f:Int)(g:Bool)(h:Lv)(i:Int)(j:Lv)(k a l:Int):Option ct:=
 (bif 0<=a then sd n m o p q r s t u v w b c d e f g h i j k a l else some (([]:Lv),([]:Lv),([]:Lv),([]:Lv),([]:Lv),0,0,0,0,0,0,0,0,0,0,false,([]:Lv),0,([]:Lv),0,0,0,([]:Lv),([]:Lv),([]:Lv),0,false))
def sq(n:Nat)(m o p q r:Lv)(s t u v w b c d e f:Int)(g:Bool)(h:Lv)(i:Int)(j:Lv)(a k l:Int):Option ct:=
 (bif !(a<=99999999)then some (([]:Lv),([]:Lv),([]:Lv),([]:Lv),([]:Lv),0,0,0,0,0,0,0,0,0,0,false,([]:Lv),0,([]:Lv),0,0,0,([]:Lv),([]:Lv),([]:Lv),0,false)else rd n m o p q r s t u v w b c d e f g h i j a k l)
def qX(n:Nat)(m o p q r:Lv)(s t u v w b c d e f:Int)(g:Bool)(h:Lv)(i:Int)(j:Lv)(a k l:Int):Option ct:=
 (bif 0<=a then sq n m o p q r s t u v w b c d e f g h i j a k l else some (([]:Lv),([]:Lv),([]:Lv),([]:Lv),([]:Lv),0,0,0,0,0,0,0,0,0,0,false,([]:Lv),0,([]:Lv),0,0,0,([]:Lv),([]:Lv),([]:Lv),0,false))
def sn(n:Nat)(o p q r s:Lv)(t u v w x a b c d e:Int)(f:Bool)(g:Lv)(h:Int)(i:Lv)(j k l:Int)(m:Bool):Option ct:=
 (bif(!m)then some (([]:Lv),([]:Lv),([]:Lv),([]:Lv),([]:Lv),0,0,0,0,0,0,0,0,0,0,false,([]:Lv),0,([]:Lv),0,0,0,([]:Lv),([]:Lv),([]:Lv),0,false)else qX n o p q r s t u v w x a b c d e f g h i j k l)
def qS(n:Nat)(o p q r s:Lv)(t u v w x a b c d e:Int)(f:Bool)(g:Lv)(h:Int)(i:Lv)(j k l:Int):Option ct:=
 (eV n o p q r s t u v w x a b c d e f g h i).bind fun m=>
 sn n o p q r s t u v w x a b c d e f g h i j k l m
def fy(n:Nat)(m o p q r:Lv)(s t u v w a b c d e:Int)(f:Bool)(g:Lv)(h:Int)(i:Lv)(j k l:Int):Option ct:=qS n m o p q r s t u v w a b c d e f g h i j k l
def refusal_callOf_t:FnT:=⟨[(true,[(.sl (.cons .int (.cons tSc .nil))),(.sl (.cons .int (.cons .int (.cons .int (.cons .int (.cons .int .nil)))))),(.sl (.cons .int (.cons .int .nil))),tSa,tSa,.int,.int,.int,.int,.int,.int,.int,.int,.int,.int,.bool,tSc,.int,tSc]),(false,[.int]),(false,[.int]),(false,[.int])],(.tup (.cons (.agg (.cons (.row 1000080 (.cons .int (.cons tSc .nil))) (.cons (.row 1000162 (.cons .int (.cons .int (.cons .int (.cons .int (.cons .int .nil)))))) (.cons (.row 1000198 (.cons .int (.cons .int .nil))) (.cons (.row 1000003 (.cons .int .nil)) (.cons (.row 1000003 (.cons .int .nil)) (.cons .i (.cons .i (.cons .i (.cons .i (.cons .i (.cons .i (.cons .i (.cons .i (.cons .i (.cons .i (.cons .b (.cons (.row 1000166 (.cons .int (.cons .int (.cons .int .nil)))) (.cons .i (.cons (.row 1000073 (.cons .int (.cons .int (.cons .int .nil)))) (.cons .i (.cons .i (.cons .i (.cons (.row 1000003 (.cons .int .nil)) (.cons (.row 1000003 (.cons .int .nil)) (.cons (.row 1000094 (.cons .int (.cons .int .nil))) (.cons .i .nil))))))))))))))))))))))))))) (.cons .b .nil))),fun n (s:Lv×Lv×Lv×Lv×Lv×Int×Int×Int×Int×Int×Int×Int×Int×Int×Int×Bool×Lv×Int×Lv×Int×Int×Int)=>fy n s.1 s.2.1 s.2.2.1 s.2.2.2.1 s.2.2.2.2.1 s.2.2.2.2.2.1 s.2.2.2.2.2.2.1 s.2.2.2.2.2.2.2.1 s.2.2.2.2.2.2.2.2.1 s.2.2.2.2.2.2.2.2.2.1 s.2.2.2.2.2.2.2.2.2.2.1 s.2.2.2.2.2.2.2.2.2.2.2.1 s.2.2.2.2.2.2.2.2.2.2.2.2.1 s.2.2.2.2.2.2.2.2.2.2.2.2.2.1 s.2.2.2.2.2.2.2.2.2.2.2.2.2.2.1 s.2.2.2.2.2.2.2.2.2.2.2.2.2.2.2.1 s.2.2.2.2.2.2.2.2.2.2.2.2.2.2.2.2.1 s.2.2.2.2.2.2.2.2.2.2.2.2.2.2.2.2.2.1 s.2.2.2.2.2.2.2.2.2.2.2.2.2.2.2.2.2.2.1 s.2.2.2.2.2.2.2.2.2.2.2.2.2.2.2.2.2.2.2.1 s.2.2.2.2.2.2.2.2.2.2.2.2.2.2.2.2.2.2.2.2.1 s.2.2.2.2.2.2.2.2.2.2.2.2.2.2.2.2.2.2.2.2.2⟩
theorem BK:refusal_callOf_t.ok Tryz.prog 52:=FnT.ok_of (cfg:=⟨[],rY,[],aq⟩) az gX ay (fun s fn hf=>by rw[Tryz.func52]at hf;cases hf;kernel_rfl) (fun n s=>by kernel_rfl)
def refusal_callOf_T:Tab:=(52,refusal_callOf_t)::refusal_call__isUnproved_T
theorem nS:refusal_callOf_T.ok Tryz.prog:=Tab.ok_cons BK gX
abbrev af:=Int×Int×Int×Lv×Lv×Lv×Int×Bool
abbrev ao:=Int
def vo(n:Nat)(E:ao->Option af)(F:ao->Option af)(u v w x y:Lv)(z A B C D l m o p q:Int)(r:Bool)(s:Lv)(d:Int)(e:Lv)(t b f:Int)(h i a:Lv)(c:Int):Option af:=
 (bif 2<=f then(bif f<=4 then some (3,0,f,h,i,([]:Lv),0,true)else(bif c=2 then some (4,0,0,([]:Lv),([]:Lv),a,0,true)else(bif c=3 then some (5,0,0,([]:Lv),([]:Lv),a,0,true)else(bif c=1 then(bq n u v w x y z A B C D l m o p q r s d e t b f h i a c).bind fun j=>
 (bif j then some (6,0,0,([]:Lv),([]:Lv),a,0,true)else bif(-9223372036854775808<=((a.length:Int)-1))&&(((a.length:Int)-1)<=9223372036854775807)then bif 0<=((a.length:Int)-1) then bif ((a.length:Int)-1)<(a.length:Int) then(bif (cI a ((a.length:Int)-1) 0)=b then some (0,0,0,([]:Lv),([]:Lv),([]:Lv),0,false)else(jP n d e b (cI a ((a.length:Int)-1) 0)).bind fun g=>
 (bn n d e b (cI a ((a.length:Int)-1) 0) g.2.1).bind fun k=>
 (bif k.1=0 then some (7,0,0,([]:Lv),([]:Lv),a,g.2.1,true)else some (0,0,0,([]:Lv),([]:Lv),([]:Lv),0,false)))else none else none else none)else some (0,0,0,([]:Lv),([]:Lv),([]:Lv),0,false)))))else(bif c=2 then some (4,0,0,([]:Lv),([]:Lv),a,0,true)else(bif c=3 then some (5,0,0,([]:Lv),([]:Lv),a,0,true)else(bif c=1 then(bq n u v w x y z A B C D l m o p q r s d e t b f h i a c).bind fun j=>
 (bif j then some (6,0,0,([]:Lv),([]:Lv),a,0,true)else bif(-9223372036854775808<=((a.length:Int)-1))&&(((a.length:Int)-1)<=9223372036854775807)then bif 0<=((a.length:Int)-1) then bif ((a.length:Int)-1)<(a.length:Int) then(bif (cI a ((a.length:Int)-1) 0)=b then some (0,0,0,([]:Lv),([]:Lv),([]:Lv),0,false)else(jP n d e b (cI a ((a.length:Int)-1) 0)).bind fun g=>
 (bn n d e b (cI a ((a.length:Int)-1) 0) g.2.1).bind fun k=>
 (bif k.1=0 then some (7,0,0,([]:Lv),([]:Lv),a,g.2.1,true)else some (0,0,0,([]:Lv),([]:Lv),([]:Lv),0,false)))else none else none else none)else some (0,0,0,([]:Lv),([]:Lv),([]:Lv),0,false)))))
def ve(n:Nat)(d:ao->Option af)(e:ao->Option af)(t u v w x:Lv)(y z A B C f g h i j:Int)(k:Bool)(l:Lv)(m:Int)(o:Lv)(p q a:Int)(b c r:Lv)(s:Int):Option af:=
 (bif a=6 then some (2,0,a,b,c,([]:Lv),0,true)else vo n d e t u v w x y z A B C f g h i j k l m o p q a b c r s)
def uX(n:Nat)(d:ao->Option af)(e:ao->Option af)(t u v w x:Lv)(y z A B C f g h i j:Int)(k:Bool)(l:Lv)(m:Int)(o:Lv)(p q a:Int)(b c r:Lv)(s:Int):Option af:=
 (bif a=5 then some (2,0,a,b,c,([]:Lv),0,true)else ve n d e t u v w x y z A B C f g h i j k l m o p q a b c r s)
def lf(n:Nat)(c:ao->Option af)(d:ao->Option af)(u v w x y:Lv)(z A B C D e f g h i:Int)(j:Bool)(k:Lv)(l:Int)(m:Lv)(o p q:Int)(a r s:Lv)(t b:Int):Option af:=
 (bif b<0 then uX n c d u v w x y z A B C D e f g h i j k l m o p q a r s t else some (1,(cI a b 0),0,([]:Lv),([]:Lv),([]:Lv),0,true))
def lm(n:Nat)(b:ao->Option af)(c:ao->Option af)(v w x y z:Lv)(A B C D E d e f g h:Int)(i:Bool)(j:Lv)(k:Int)(l:Lv)(m o p:Int)(q r s:Lv)(t a:Int)(u:Bool):Option af:=
 (bif(!u)then lf n b c v w x y z A B C D E d e f g h i j k l m o p q r s t a else bif(-9223372036854775808<=(a+1))&&((a+1)<=9223372036854775807)then b (a+1)else none)
def gK(n:Nat)(u:ao->Option af)(d:ao->Option af)(w x y z A:Lv)(B C D E F e f g h i:Int)(j:Bool)(k:Lv)(l:Int)(m:Lv)(o p q:Int)(a r s:Lv)(t c b:Int):Option af:=
 (bif (cI a c 0)=(cI a b 0) then(cT n w x y z A B C D E F e f g h i j k l m o p q a r s t (cI a c 0)).bind fun v=>
 lm n u d w x y z A B C D E F e f g h i j k l m o p q a r s t c v else bif(-9223372036854775808<=(b+1))&&((b+1)<=9223372036854775807)then d (b+1)else none)
def bS(n:Nat)(c:ao->Option af)(e:ao->Option af)(v w x y z:Lv)(A B C D E f g h i j:Int)(k:Bool)(l:Lv)(m:Int)(o:Lv)(p q r:Int)(d s t:Lv)(u a b:Int):Option af:=
 (bif b<(d.length:Int) then bif 0<=b then gK n c e v w x y z A B C D E f g h i j k l m o p q r d s t u a b else none else bif(-9223372036854775808<=(a+1))&&((a+1)<=9223372036854775807)then c (a+1)else none)
def kX(n:Nat)(E:ao->Option af)(u v w x y:Lv)(z A B C D l m o p q:Int)(r:Bool)(s:Lv)(d:Int)(e:Lv)(t b f:Int)(h i a:Lv)(c:Int):Option af:=
 (bif 2<=f then(bif f<=4 then some (3,0,f,h,i,([]:Lv),0,true)else(bif c=2 then some (4,0,0,([]:Lv),([]:Lv),a,0,true)else(bif c=3 then some (5,0,0,([]:Lv),([]:Lv),a,0,true)else(bif c=1 then(bq n u v w x y z A B C D l m o p q r s d e t b f h i a c).bind fun j=>
 (bif j then some (6,0,0,([]:Lv),([]:Lv),a,0,true)else bif(-9223372036854775808<=((a.length:Int)-1))&&(((a.length:Int)-1)<=9223372036854775807)then bif 0<=((a.length:Int)-1) then bif ((a.length:Int)-1)<(a.length:Int) then(bif (cI a ((a.length:Int)-1) 0)=b then some (0,0,0,([]:Lv),([]:Lv),([]:Lv),0,false)else(jP n d e b (cI a ((a.length:Int)-1) 0)).bind fun g=>
 (bn n d e b (cI a ((a.length:Int)-1) 0) g.2.1).bind fun k=>
 (bif k.1=0 then some (7,0,0,([]:Lv),([]:Lv),a,g.2.1,true)else some (0,0,0,([]:Lv),([]:Lv),([]:Lv),0,false)))else none else none else none)else some (0,0,0,([]:Lv),([]:Lv),([]:Lv),0,false)))))else(bif c=2 then some (4,0,0,([]:Lv),([]:Lv),a,0,true)else(bif c=3 then some (5,0,0,([]:Lv),([]:Lv),a,0,true)else(bif c=1 then(bq n u v w x y z A B C D l m o p q r s d e t b f h i a c).bind fun j=>
 (bif j then some (6,0,0,([]:Lv),([]:Lv),a,0,true)else bif(-9223372036854775808<=((a.length:Int)-1))&&(((a.length:Int)-1)<=9223372036854775807)then bif 0<=((a.length:Int)-1) then bif ((a.length:Int)-1)<(a.length:Int) then(bif (cI a ((a.length:Int)-1) 0)=b then some (0,0,0,([]:Lv),([]:Lv),([]:Lv),0,false)else(jP n d e b (cI a ((a.length:Int)-1) 0)).bind fun g=>
 (bn n d e b (cI a ((a.length:Int)-1) 0) g.2.1).bind fun k=>
 (bif k.1=0 then some (7,0,0,([]:Lv),([]:Lv),a,g.2.1,true)else some (0,0,0,([]:Lv),([]:Lv),([]:Lv),0,false)))else none else none else none)else some (0,0,0,([]:Lv),([]:Lv),([]:Lv),0,false)))))
def kW(n:Nat)(d:ao->Option af)(s t u v w:Lv)(x y z A B e f g h i:Int)(j:Bool)(k:Lv)(l:Int)(m:Lv)(o p a:Int)(b c q:Lv)(r:Int):Option af:=
 (bif a=6 then some (2,0,a,b,c,([]:Lv),0,true)else kX n d s t u v w x y z A B e f g h i j k l m o p a b c q r)
def fY(n:Nat)(d:ao->Option af)(s t u v w:Lv)(x y z A B e f g h i:Int)(j:Bool)(k:Lv)(l:Int)(m:Lv)(o p a:Int)(b c q:Lv)(r:Int):Option af:=
 (bif a=5 then some (2,0,a,b,c,([]:Lv),0,true)else kW n d s t u v w x y z A B e f g h i j k l m o p a b c q r)
def bT(n:Nat)(c:ao->Option af)(v w x y z:Lv)(A B C D E d e f g h:Int)(i:Bool)(j:Lv)(k:Int)(l:Lv)(m o p:Int)(a q r:Lv)(t b:Int):Option af:=
 (bif b<(a.length:Int) then bif 0<=b then(ab (fun u s=>bS n c u v w x y z A B C D E d e f g h i j k l m o p a q r t b s) n (0:ao))else none else fY n c v w x y z A B C D E d e f g h i j k l m o p a q r t)
def ly(n:Nat)(t u v w x:Lv)(y z A B C a b c d e:Int)(f:Bool)(g:Lv)(h:Int)(i:Lv)(j k l:Int)(m o p:Lv)(q:Int):Option af:=
 (ab (fun r s=>bT n r t u v w x y z A B C a b c d e f g h i j k l m o p q s) n (0:ao))
def dE(n:Nat)(r s t u v:Lv)(w x y z A a b c d e:Int)(f:Bool)(g:Lv)(h:Int)(i:Lv)(j k l:Int)(m o p:Lv)(q:Int):Option af:=ly n r s t u v w x y z A a b c d e f g h i j k l m o p q
def refusal_call__refuse_t:FnT:=⟨[(true,[(.sl (.cons .int (.cons tSc .nil))),(.sl (.cons .int (.cons .int (.cons .int (.cons .int (.cons .int .nil)))))),(.sl (.cons .int (.cons .int .nil))),tSa,tSa,.int,.int,.int,.int,.int,.int,.int,.int,.int,.int,.bool,tSc,.int,tSc,.int,.int,.int,tSa,tSa,(.sl (.cons .int (.cons .int .nil))),.int])],(.tup (.cons (.agg (.cons .i (.cons .i (.cons .i (.cons (.row 1000003 (.cons .int .nil)) (.cons (.row 1000003 (.cons .int .nil)) (.cons (.row 1000094 (.cons .int (.cons .int .nil))) (.cons .i .nil)))))))) (.cons .b .nil))),fun n (s:Lv×Lv×Lv×Lv×Lv×Int×Int×Int×Int×Int×Int×Int×Int×Int×Int×Bool×Lv×Int×Lv×Int×Int×Int×Lv×Lv×Lv×Int)=>dE n s.1 s.2.1 s.2.2.1 s.2.2.2.1 s.2.2.2.2.1 s.2.2.2.2.2.1 s.2.2.2.2.2.2.1 s.2.2.2.2.2.2.2.1 s.2.2.2.2.2.2.2.2.1 s.2.2.2.2.2.2.2.2.2.1 s.2.2.2.2.2.2.2.2.2.2.1 s.2.2.2.2.2.2.2.2.2.2.2.1 s.2.2.2.2.2.2.2.2.2.2.2.2.1 s.2.2.2.2.2.2.2.2.2.2.2.2.2.1 s.2.2.2.2.2.2.2.2.2.2.2.2.2.2.1 s.2.2.2.2.2.2.2.2.2.2.2.2.2.2.2.1 s.2.2.2.2.2.2.2.2.2.2.2.2.2.2.2.2.1 s.2.2.2.2.2.2.2.2.2.2.2.2.2.2.2.2.2.1 s.2.2.2.2.2.2.2.2.2.2.2.2.2.2.2.2.2.2.1 s.2.2.2.2.2.2.2.2.2.2.2.2.2.2.2.2.2.2.2.1 s.2.2.2.2.2.2.2.2.2.2.2.2.2.2.2.2.2.2.2.2.1 s.2.2.2.2.2.2.2.2.2.2.2.2.2.2.2.2.2.2.2.2.2.1 s.2.2.2.2.2.2.2.2.2.2.2.2.2.2.2.2.2.2.2.2.2.2.1 s.2.2.2.2.2.2.2.2.2.2.2.2.2.2.2.2.2.2.2.2.2.2.2.1 s.2.2.2.2.2.2.2.2.2.2.2.2.2.2.2.2.2.2.2.2.2.2.2.2.1 s.2.2.2.2.2.2.2.2.2.2.2.2.2.2.2.2.2.2.2.2.2.2.2.2.2⟩
theorem sX:refusal_call__refuse_t.ok Tryz.prog 53:=FnT.ok_of (cfg:=⟨[((53,2,0),.unroll 8),((124,2,0),.inv [.tmp 8 .int]),((188,2,0),.inv [.tmp 8 .int]),((158,2,0),.inv [.tmp 8 .int])],rY,[],aq⟩) az nS ay (fun s fn hf=>by rw[Tryz.func53]at hf;cases hf;kernel_rfl) (fun n s=>by kernel_rfl)
def refusal_call__refuse_T:Tab:=(53,refusal_call__refuse_t)::refusal_callOf_T
theorem jH:refusal_call__refuse_T.ok Tryz.prog:=Tab.ok_cons sX nS
abbrev lX:=Int×Int×Int×Lv×Lv×Lv×Int×Bool×Int
def rX(n:Nat)(p q r s t:Lv)(u v w x y c d e f g:Int)(h:Bool)(i:Lv)(j:Int)(k:Lv)(l m o:Int):Option lX:=
 (fy n p q r s t u v w x y c d e f g h i j k l m o).bind fun a=>
 (bif(!a.2.2.2.2.2.2.2.2.2.2.2.2.2.2.2.2.2.2.2.2.2.2.2.2.2.2)then some (0,0,0,([]:Lv),([]:Lv),([]:Lv),0,false,280)else(dE n a.1 a.2.1 a.2.2.1 a.2.2.2.1 a.2.2.2.2.1 a.2.2.2.2.2.1 a.2.2.2.2.2.2.1 a.2.2.2.2.2.2.2.1 a.2.2.2.2.2.2.2.2.1 a.2.2.2.2.2.2.2.2.2.1 a.2.2.2.2.2.2.2.2.2.2.1 a.2.2.2.2.2.2.2.2.2.2.2.1 a.2.2.2.2.2.2.2.2.2.2.2.2.1 a.2.2.2.2.2.2.2.2.2.2.2.2.2.1 a.2.2.2.2.2.2.2.2.2.2.2.2.2.2.1 a.2.2.2.2.2.2.2.2.2.2.2.2.2.2.2.1 a.2.2.2.2.2.2.2.2.2.2.2.2.2.2.2.2.1 a.2.2.2.2.2.2.2.2.2.2.2.2.2.2.2.2.2.1 a.2.2.2.2.2.2.2.2.2.2.2.2.2.2.2.2.2.2.1 a.2.2.2.2.2.2.2.2.2.2.2.2.2.2.2.2.2.2.2.1 a.2.2.2.2.2.2.2.2.2.2.2.2.2.2.2.2.2.2.2.2.1 a.2.2.2.2.2.2.2.2.2.2.2.2.2.2.2.2.2.2.2.2.2.1 a.2.2.2.2.2.2.2.2.2.2.2.2.2.2.2.2.2.2.2.2.2.2.1 a.2.2.2.2.2.2.2.2.2.2.2.2.2.2.2.2.2.2.2.2.2.2.2.1 a.2.2.2.2.2.2.2.2.2.2.2.2.2.2.2.2.2.2.2.2.2.2.2.2.1 a.2.2.2.2.2.2.2.2.2.2.2.2.2.2.2.2.2.2.2.2.2.2.2.2.2.1).bind fun b=>
 some (b.1,b.2.1,b.2.2.1,b.2.2.2.1,b.2.2.2.2.1,b.2.2.2.2.2.1,b.2.2.2.2.2.2.1,b.2.2.2.2.2.2.2,0))
def d9(n:Nat)(m o p q r:Lv)(s t u v w a b c d e:Int)(f:Bool)(g:Lv)(h:Int)(i:Lv)(j k l:Int):Option lX:=rX n m o p q r s t u v w a b c d e f g h i j k l
def refusal_Refuse_t:FnT:=⟨[(true,[(.sl (.cons .int (.cons tSc .nil))),(.sl (.cons .int (.cons .int (.cons .int (.cons .int (.cons .int .nil)))))),(.sl (.cons .int (.cons .int .nil))),tSa,tSa,.int,.int,.int,.int,.int,.int,.int,.int,.int,.int,.bool,tSc,.int,tSc]),(false,[.int]),(false,[.int]),(false,[.int])],(.tup (.cons (.agg (.cons .i (.cons .i (.cons .i (.cons (.row 1000003 (.cons .int .nil)) (.cons (.row 1000003 (.cons .int .nil)) (.cons (.row 1000094 (.cons .int (.cons .int .nil))) (.cons .i .nil)))))))) (.cons .b (.cons .i .nil)))),fun n (s:Lv×Lv×Lv×Lv×Lv×Int×Int×Int×Int×Int×Int×Int×Int×Int×Int×Bool×Lv×Int×Lv×Int×Int×Int)=>d9 n s.1 s.2.1 s.2.2.1 s.2.2.2.1 s.2.2.2.2.1 s.2.2.2.2.2.1 s.2.2.2.2.2.2.1 s.2.2.2.2.2.2.2.1 s.2.2.2.2.2.2.2.2.1 s.2.2.2.2.2.2.2.2.2.1 s.2.2.2.2.2.2.2.2.2.2.1 s.2.2.2.2.2.2.2.2.2.2.2.1 s.2.2.2.2.2.2.2.2.2.2.2.2.1 s.2.2.2.2.2.2.2.2.2.2.2.2.2.1 s.2.2.2.2.2.2.2.2.2.2.2.2.2.2.1 s.2.2.2.2.2.2.2.2.2.2.2.2.2.2.2.1 s.2.2.2.2.2.2.2.2.2.2.2.2.2.2.2.2.1 s.2.2.2.2.2.2.2.2.2.2.2.2.2.2.2.2.2.1 s.2.2.2.2.2.2.2.2.2.2.2.2.2.2.2.2.2.2.1 s.2.2.2.2.2.2.2.2.2.2.2.2.2.2.2.2.2.2.2.1 s.2.2.2.2.2.2.2.2.2.2.2.2.2.2.2.2.2.2.2.2.1 s.2.2.2.2.2.2.2.2.2.2.2.2.2.2.2.2.2.2.2.2.2⟩
theorem BH:refusal_Refuse_t.ok Tryz.prog 16:=FnT.ok_of (cfg:=⟨[],aL,[],aq⟩) az jH ay (fun s fn hf=>by rw[Tryz.func16]at hf;cases hf;kernel_rfl) (fun n s=>by kernel_rfl)
def refusal_Refuse_T:Tab:=(16,refusal_Refuse_t)::refusal_call__refuse_T
theorem nP:refusal_Refuse_T.ok Tryz.prog:=Tab.ok_cons BH jH
abbrev kK:=Int×Int×Int×Lv×Lv×Lv×Bool×Int
def vQ(n:Nat)(p q r s t:Lv)(u v w x y b c d e f:Int)(g:Bool)(h:Lv)(i:Int)(j:Lv)(k l m:Int):Option kK:=
 (fy n p q r s t u v w x y b c d e f g h i j k l m).bind fun a=>
 (bif(!a.2.2.2.2.2.2.2.2.2.2.2.2.2.2.2.2.2.2.2.2.2.2.2.2.2.2)then some (0,0,0,([]:Lv),([]:Lv),([]:Lv),false,280)else(dE n a.1 a.2.1 a.2.2.1 a.2.2.2.1 a.2.2.2.2.1 a.2.2.2.2.2.1 a.2.2.2.2.2.2.1 a.2.2.2.2.2.2.2.1 a.2.2.2.2.2.2.2.2.1 a.2.2.2.2.2.2.2.2.2.1 a.2.2.2.2.2.2.2.2.2.2.1 a.2.2.2.2.2.2.2.2.2.2.2.1 a.2.2.2.2.2.2.2.2.2.2.2.2.1 a.2.2.2.2.2.2.2.2.2.2.2.2.2.1 a.2.2.2.2.2.2.2.2.2.2.2.2.2.2.1 a.2.2.2.2.2.2.2.2.2.2.2.2.2.2.2.1 a.2.2.2.2.2.2.2.2.2.2.2.2.2.2.2.2.1 a.2.2.2.2.2.2.2.2.2.2.2.2.2.2.2.2.2.1 a.2.2.2.2.2.2.2.2.2.2.2.2.2.2.2.2.2.2.1 a.2.2.2.2.2.2.2.2.2.2.2.2.2.2.2.2.2.2.2.1 a.2.2.2.2.2.2.2.2.2.2.2.2.2.2.2.2.2.2.2.2.1 a.2.2.2.2.2.2.2.2.2.2.2.2.2.2.2.2.2.2.2.2.2.1 a.2.2.2.2.2.2.2.2.2.2.2.2.2.2.2.2.2.2.2.2.2.2.1 a.2.2.2.2.2.2.2.2.2.2.2.2.2.2.2.2.2.2.2.2.2.2.2.1 a.2.2.2.2.2.2.2.2.2.2.2.2.2.2.2.2.2.2.2.2.2.2.2.2.1 a.2.2.2.2.2.2.2.2.2.2.2.2.2.2.2.2.2.2.2.2.2.2.2.2.2.1).bind fun o=>
 (bif o.2.2.2.2.2.2.2 then some (0,0,0,([]:Lv),([]:Lv),([]:Lv),false,0)else bif(-9223372036854775808<=((a.2.2.2.2.2.2.2.2.2.2.2.2.2.2.2.2.2.2.2.2.2.2.1.length:Int)-1))&&(((a.2.2.2.2.2.2.2.2.2.2.2.2.2.2.2.2.2.2.2.2.2.2.1.length:Int)-1)<=9223372036854775807)then bif 0<=((a.2.2.2.2.2.2.2.2.2.2.2.2.2.2.2.2.2.2.2.2.2.2.1.length:Int)-1) then bif ((a.2.2.2.2.2.2.2.2.2.2.2.2.2.2.2.2.2.2.2.2.2.2.1.length:Int)-1)<(a.2.2.2.2.2.2.2.2.2.2.2.2.2.2.2.2.2.2.2.2.2.2.1.length:Int) then bif(-9223372036854775808<=((a.2.2.2.2.2.2.2.2.2.2.2.2.2.2.2.2.2.2.2.2.2.2.2.2.1.length:Int)-1))&&(((a.2.2.2.2.2.2.2.2.2.2.2.2.2.2.2.2.2.2.2.2.2.2.2.2.1.length:Int)-1)<=9223372036854775807)then bif 0<=((a.2.2.2.2.2.2.2.2.2.2.2.2.2.2.2.2.2.2.2.2.2.2.2.2.1.length:Int)-1) then bif ((a.2.2.2.2.2.2.2.2.2.2.2.2.2.2.2.2.2.2.2.2.2.2.2.2.1.length:Int)-1)<(a.2.2.2.2.2.2.2.2.2.2.2.2.2.2.2.2.2.2.2.2.2.2.2.2.1.length:Int) then some ((cI a.2.2.2.2.2.2.2.2.2.2.2.2.2.2.2.2.2.2.2.2.2.2.1 ((a.2.2.2.2.2.2.2.2.2.2.2.2.2.2.2.2.2.2.2.2.2.2.1.length:Int)-1) 0),(cI a.2.2.2.2.2.2.2.2.2.2.2.2.2.2.2.2.2.2.2.2.2.2.2.2.1 ((a.2.2.2.2.2.2.2.2.2.2.2.2.2.2.2.2.2.2.2.2.2.2.2.2.1.length:Int)-1) 0),a.2.2.2.2.2.2.2.2.2.2.2.2.2.2.2.2.2.2.2.2.2.1,a.2.2.2.2.2.2.2.2.2.2.2.2.2.2.2.2.2.2.2.2.2.2.1,a.2.2.2.2.2.2.2.2.2.2.2.2.2.2.2.2.2.2.2.2.2.2.2.1,a.2.2.2.2.2.2.2.2.2.2.2.2.2.2.2.2.2.2.2.2.2.2.2.2.1,true,0)else none else none else none else none else none else none))
def fJ(n:Nat)(m o p q r:Lv)(s t u v w a b c d e:Int)(f:Bool)(g:Lv)(h:Int)(i:Lv)(j k l:Int):Option kK:=vQ n m o p q r s t u v w a b c d e f g h i j k l
def refusal_Lead_t:FnT:=⟨[(true,[(.sl (.cons .int (.cons tSc .nil))),(.sl (.cons .int (.cons .int (.cons .int (.cons .int (.cons .int .nil)))))),(.sl (.cons .int (.cons .int .nil))),tSa,tSa,.int,.int,.int,.int,.int,.int,.int,.int,.int,.int,.bool,tSc,.int,tSc]),(false,[.int]),(false,[.int]),(false,[.int])],(.tup (.cons (.agg (.cons .i (.cons .i (.cons .i (.cons (.row 1000003 (.cons .int .nil)) (.cons (.row 1000003 (.cons .int .nil)) (.cons (.row 1000094 (.cons .int (.cons .int .nil))) .nil))))))) (.cons .b (.cons .i .nil)))),fun n (s:Lv×Lv×Lv×Lv×Lv×Int×Int×Int×Int×Int×Int×Int×Int×Int×Int×Bool×Lv×Int×Lv×Int×Int×Int)=>fJ n s.1 s.2.1 s.2.2.1 s.2.2.2.1 s.2.2.2.2.1 s.2.2.2.2.2.1 s.2.2.2.2.2.2.1 s.2.2.2.2.2.2.2.1 s.2.2.2.2.2.2.2.2.1 s.2.2.2.2.2.2.2.2.2.1 s.2.2.2.2.2.2.2.2.2.2.1 s.2.2.2.2.2.2.2.2.2.2.2.1 s.2.2.2.2.2.2.2.2.2.2.2.2.1 s.2.2.2.2.2.2.2.2.2.2.2.2.2.1 s.2.2.2.2.2.2.2.2.2.2.2.2.2.2.1 s.2.2.2.2.2.2.2.2.2.2.2.2.2.2.2.1 s.2.2.2.2.2.2.2.2.2.2.2.2.2.2.2.2.1 s.2.2.2.2.2.2.2.2.2.2.2.2.2.2.2.2.2.1 s.2.2.2.2.2.2.2.2.2.2.2.2.2.2.2.2.2.2.1 s.2.2.2.2.2.2.2.2.2.2.2.2.2.2.2.2.2.2.2.1 s.2.2.2.2.2.2.2.2.2.2.2.2.2.2.2.2.2.2.2.2.1 s.2.2.2.2.2.2.2.2.2.2.2.2.2.2.2.2.2.2.2.2.2⟩
theorem D0:refusal_Lead_t.ok Tryz.prog 18:=FnT.ok_of (cfg:=⟨[],aL,[],aq⟩) az nP ay (fun s fn hf=>by rw[Tryz.func18]at hf;cases hf;kernel_rfl) (fun n s=>by kernel_rfl)
def refusal_Lead_T:Tab:=(18,refusal_Lead_t)::refusal_Refuse_T
theorem qe:refusal_Lead_T.ok Tryz.prog:=Tab.ok_cons D0 nP
end
end Go.Proofs.YtbfkkigbedmhgaaGreat
namespace Go.Dial.Flo
open Go.Sx
def has(s c:Int):Bool:=s.toNat.testBit c.toNat
def om(s c:Int):Int:=((s.toNat ||| 2 ^ c.toNat:Nat):Int)
theorem P6(P:Int->Prop)(h:∀k:Fin 256,P (k.val:Int))(s:Int)(h0:0<=s)(h1:s<=255):P s:=by
 have:=h ⟨s.toNat,by omega⟩
 simpa[RV h0]using this
theorem PY(P:Int->Prop)(h:∀k:Fin 8,P (k.val:Int))(s:Int)(h0:0<=s)(h1:s<=7):P s:=by
 have:=h ⟨s.toNat,by omega⟩
 simpa[RV h0]using this
theorem PB{s c:Int}(h0:0<=s)(h1:s<=255)(c0:0<=c)(c1:c<=7):0<=om s c/\om s c<=255:=by
 refine⟨by unfold om;omega,?_⟩
 revert s
 refine PY (fun c=>∀ {s:Int},0<=s->s<=255->om s c<=255) (fun k=>?_) c c0 c1
 intro s h0 h1;have hk:(2:Nat) ^ k.val<2 ^ 8:=Nat.pow_lt_pow_right (by decide) k.isLt
 have:(s.toNat ||| 2 ^ k.val)<2 ^ 8:=Nat.or_lt_two_pow (by omega) hk
 unfold om;simp only[RW];omega
theorem PI{s c d:Int}(c0:0<=c)(d0:0<=d):has (om s c) d=(has s d||decide (d=c)):=by
 unfold has om;rw[RW,Nat.testBit_or,Nat.testBit_two_pow];congr 1
 rw[decide_eq_decide];omega
theorem Pa{s t:Int}(s0:0<=s)(s1:s<=255)(t0:0<=t)(t1:t<=255)(h:∀c:Int,0<=c->c<=7->has s c=has t c):s=t:=by
 have:s.toNat=t.toNat:=by
  refine Nat.eq_of_testBit_eq fun i=>?_
  by_cases hi:i<8
  ·have:=h (i:Int) (by omega) (by omega)
   simpa[has]using this
  ·have e1:s.toNat<2 ^ i:=y1 (show s.toNat<2 ^ 8 by omega) (RR (by decide) (by omega))
   have e2:t.toNat<2 ^ i:=y1 (show t.toNat<2 ^ 8 by omega) (RR (by decide) (by omega))
   rw[RQ e1,RQ e2]
 omega
theorem Ms:∀(j:Fin 8) (k:Fin 256),decide (IOp.f .and (IOp.f .shr (k.val:Int) (j.val:Int)) 1=1)=has (k.val:Int) (j.val:Int)/\decide (IOp.f .and (IOp.f .shr (k.val:Int) (j.val:Int)) 1=0)= !has (k.val:Int) (j.val:Int)/\decide (v6 (IOp.f .shr (k.val:Int) (j.val:Int)) 2=1)=has (k.val:Int) (j.val:Int)
  ∧ IOp.f .or (k.val:Int) (IOp.f .shl 1 (j.val:Int))=om (k.val:Int) (j.val:Int):=by
 decide +kernel
theorem Bb{s c:Int}(h0:0<=s)(h1:s<=255)(c0:0<=c)(c1:c<=7):decide (IOp.f .and (IOp.f .shr s c) 1=1)=has s c/\decide (IOp.f .and (IOp.f .shr s c) 1=0)= !has s c/\decide (v6 (IOp.f .shr s c) 2=1)=has s c
  ∧ IOp.f .or s (IOp.f .shl 1 c)=om s c:=by
 refine PY (fun c=>decide (IOp.f .and (IOp.f .shr s c) 1=1)=has s c/\decide (IOp.f .and (IOp.f .shr s c) 1=0)= !has s c/\decide (v6 (IOp.f .shr s c) 2=1)=has s c
  ∧ IOp.f .or s (IOp.f .shl 1 c)=om s c) (fun j=>?_) c c0 c1
 exact P6 (fun s=>decide (IOp.f .and (IOp.f .shr s (j.val:Int)) 1=1)=has s (j.val:Int)/\decide (IOp.f .and (IOp.f .shr s (j.val:Int)) 1=0)= !has s (j.val:Int)/\decide (v6 (IOp.f .shr s (j.val:Int)) 2=1)=has s (j.val:Int)
  ∧ IOp.f .or s (IOp.f .shl 1 (j.val:Int))=om s (j.val:Int)) (fun k=>Ms j k) s h0 h1
structure Ed where
 f:Int
 t:Int
 c:Int
 deriving DecidableEq
def EdV(n:Int)(e:Ed):Prop:=0<=e.f/\e.f<=n-1/\0<=e.t/\e.t<=n-1/\e.f≠e.t/\0<=e.c/\e.c<=10000
instance (n:Int) (e:Ed):Decidable (EdV n e):=by unfold EdV;infer_instance
def NetV(n:Int)(es:List Ed):Prop:=0<=n/\n<=12/\es.length<=40/\∀e∈es,EdV n e
instance (n:Int) (es:List Ed):Decidable (NetV n es):=by unfold NetV;infer_instance
def out(s:Int)(e:Ed):Bool:=has s e.f&& !has s e.t
def lvs(s:Int):List Ed->Int
 |[]=>0
 |e::es=>(if out s e=true then e.c else 0)+lvs s es
theorem Ma{n:Int}(s:Int){es:List Ed}(h:∀e∈es,EdV n e):0<=lvs s es/\lvs s es<=10000*es.length:=by
 induction es with
 |nil=>simp[lvs]
 |cons e es ih=>
  have h1:=ih (fun x hx=>h x (v1 _ hx))
  obtain⟨_,_,_,_,_,h2,h3⟩:=h e (v3 ..);simp only[lvs,v5];split<;>omega
theorem Jm{n:Int}{s:Int}{es:List Ed}(h:∀e∈es,EdV n e):lvs s es=0↔∀e∈es,out s e=true->e.c=0:=by
 induction es with
 |nil=>simp[lvs]
 | cons e es ih=>
  have h1:=Ma s (fun x hx=>h x (v1 _ hx))
  have h2:=ih (fun x hx=>h x (v1 _ hx))
  obtain⟨_,_,_,_,_,h3,h4⟩:=h e (v3 ..);simp only[lvs];constructor
  ·intro h0 x hx ho
   rcases List.mem_cons.1 hx with rfl|hx
   ·rw[if_pos ho]at h0;omega
   ·refine h2.1 ?_ x hx ho
    split at h0<;>omega
  ·intro h0
   rw[h2.2 (fun x hx=>h0 x (v1 _ hx))]
   split
   ·rename_i ho;rw[h0 e (v3 ..) ho];rfl
   ·rfl
inductive Reach (es:List Ed) (a:Int):Int->Prop
 |here:Reach es a a
 |step (u:Int) (e:Ed) (h:Reach es a u) (he:e∈es) (hf:e.f=u) (hc:0<e.c):Reach es a e.t
theorem rH{n:Int}{s a v:Int}{es:List Ed}(hv:∀e∈es,EdV n e)(h0:lvs s es=0)(ha:has s a=true)(h:Reach es a v):has s v=true:=by
 induction h with
 |here=>exact ha
 | step u e h he hf hc ih=>
  have:=(Jm hv).1 h0 e he
  cases hb:has s e.t with
  |true=>rfl
  |false=>
   have ho:out s e=true:=by unfold out;rw[hf,ih,hb];rfl
   have:=this ho
   omega
def k8(a b s:Int):Prop:=0<=s/\s<=255/\has s a=true/\has s b=false
instance (a b s:Int):Decidable (k8 a b s):=by unfold k8;infer_instance
def IsR(es:List Ed)(a s:Int):Prop:=0<=s/\s<=255/\∀v:Int,0<=v->v<=7->(has s v=true↔Reach es a v)
theorem Pi{es:List Ed}{a s t:Int}(h:IsR es a s)(k:IsR es a t):s=t:=by
 refine Pa h.1 h.2.1 k.1 k.2.1 (fun c h0 h1=>?_)
 rw[Bool.eq_iff_iff,h.2.2 c h0 h1,k.2.2 c h0 h1]
theorem Cp{es:List Ed}{a s:Int}(hv:∀e∈es,EdV 8 e)(h:IsR es a s):lvs s es=0:=by
 rw[Jm hv];intro e he ho;obtain⟨f0,f1,t0,t1,_,c0,_⟩:=hv e he;unfold out at ho;rw[Bool.and_eq_true]at ho;obtain⟨h1,h2⟩:=ho;have h3:=(h.2.2 e.f f0 (by omega)).1 h1
 by_cases hc:0<e.c
 ·have:=(h.2.2 e.t t0 (by omega)).2 (.step e.f e h3 he rfl hc)
  rw[this]at h2;cases h2
 ·omega
end Go.Dial.Flo
namespace Go.Sx
open Go
theorem ae{σ α:Type}(step:(σ->Option α)->σ->Option α)(n:Nat)(s:σ):ab step (n+1) s=step (ab step n) s:=rfl
theorem eG{σ α:Type}{step:(σ->Option α)->σ->Option α}(Inv:σ->Prop)(mu:σ->Nat)(r:α)
  (h:∀s go,Inv s->(∀s',Inv s'->mu s'<mu s->go s'=some r)->step go s=some r):∀(n:Nat) (s:σ),Inv s->mu s<n->ab step n s=some r:=by
 intro n;induction n with
 |zero=>intro s _ hm;omega
 |succ n ih=>
  intro s hi hm;exact h s _ hi fun s' hi' hm'=>ih s' hi' (by omega)
theorem dG{σ α:Type}{step:(σ->Option α)->σ->Option α}(Inv:σ->Prop)(mu:σ->Nat)(Post:α->Prop)
  (h:∀s go,Inv s->(∀s',Inv s'->mu s'<mu s->∃r,go s'=some r/\Post r)->∃r,step go s=some r/\Post r):∀(n:Nat) (s:σ),Inv s->mu s<n->∃r,ab step n s=some r/\Post r:=by
 intro n;induction n with
 |zero=>intro s _ hm;omega
 |succ n ih=>
  intro s hi hm;exact h s _ hi fun s' hi' hm'=>ih s' hi' (by omega)
theorem cx{α:Type}{f:α->List AV}{l:List α}{i:Int}{k:Nat}{x:α}(h:l[i.toNat]?=some x):cA (l.map f) i k=(f x).getD k (.int 0):=by
 simp[cA,List.getD,h]
theorem mw{α:Type}{l:List α}{i:Nat}{x:α}(h:l[i]?=some x):l.take (i+1)=l.take i++[x]:=by
 rw[RM,h];rfl
theorem aF{α:Type}{l:List α}{i:Nat}(h:i<l.length):∃x,l[i]?=some x:=⟨_,v4 h⟩
end Go.Sx
namespace Go.Dial.Flo
open Go.Sx
def gM(M:List Int)(a b:Nat):Int:=M.getD (a*14+b) 0
def px(M:List Int)(a b:Nat)(y:Int):List Int:=M.set (a*14+b) y
theorem jR(M:List Int)(a b:Nat)(y:Int):(px M a b y).length=M.length:=R0
theorem eT(M:List Int)(i j:Nat)(y:Int)(hi:i<M.length):(M.set i y).getD j 0=if j=i then y else M.getD j 0:=by
 rw[v2,v2,RX];by_cases h:i=j
 ·subst h;simp[hi]
 ·rw[if_neg h,if_neg (fun e=>h e.symm)]
theorem yG{M:List Int}{a b c d:Nat}{y:Int}(hl:M.length=196)(ha:a<14)(hb:b<14)(hd:d<14):gM (px M a b y) c d=if c=a/\d=b then y else gM M c d:=by
 unfold gM px;rw[eT _ _ _ _ (by omega)]
 by_cases h:c=a/\d=b
 ·rw[if_pos h,if_pos (by rw[h.1,h.2])]
 ·rw[if_neg h,if_neg (fun e=>h ⟨by omega,by omega⟩)]
def nX:Nat->(Nat->Int)->Int
 |0,_=>0
 |k+1,f=>nX k f+f k
theorem yH{f g:Nat->Int}:∀(k:Nat),(∀i,i<k->f i=g i)->nX k f=nX k g
 |0,_=>rfl
 |k+1,h=>by simp only[nX,yH k (fun i hi=>h i (by omega)),h k (by omega)]
theorem CA{f g:Nat->Int}{j:Nat}{d:Int}:∀(k:Nat),j<k->(∀i,i<k->i≠j->f i=g i)->f j=g j+d->nX k f=nX k g+d
 |0,h,_,_=>by omega
 | k+1,h,h1,h2=>by
  simp only[nX];by_cases e:j=k
  ·subst e
   rw[yH (f:=f) (g:=g) j (fun i hi=>h1 i (by omega) (by omega)),h2];omega
  ·rw[CA k (by omega) (fun i hi hne=>h1 i (by omega) hne) h2,h1 k (by omega) (fun e'=>e e'.symm)];omega
theorem HO{f:Nat->Int}:∀(k:Nat),(∀i,i<k->0<=f i)->0<=nX k f
 |0,_=>RK _
 |k+1,h=>by
  have:=HO k (fun i hi=>h i (by omega))
  have:=h k (by omega)
  simp only[nX];omega
def rs(M:List Int)(v:Nat):Int:=nX 14 (fun b=>gM M v b)
def lU(room:Int)(M:List Int)(p x:Nat):List Int:=px (px M p x (gM M p x-room)) x p (gM M x p+room)
theorem f9{room:Int}{M:List Int}{p x c d:Nat}(hl:M.length=196)(hp:p<14)(hx:x<14)(hd:d<14)(hne:x≠p):
  gM (lU room M p x) c d=if c=x/\d=p then gM M x p+room else if c=p/\d=x then gM M p x-room else gM M c d:=by
 unfold lU;rw[yG (by rw[jR];exact hl) hx hp hd,yG hl hp hx hd]
theorem OU{room:Int}{M:List Int}{p x v:Nat}(hl:M.length=196)(hp:p<14)(hx:x<14)(hne:x≠p):
  rs (lU room M p x) v=rs M v+(if v=x then room else 0)-(if v=p then room else 0):=by
 unfold rs;by_cases h1:v=x
 ·subst h1
  rw[if_pos rfl,if_neg hne];rw[CA (g:=fun b=>gM M v b) (j:=p) (d:=room) 14 hp]
  ·omega
  ·intro i hi hne'
   simp only[f9 hl hp hx hi hne];rw[if_neg (fun h=>hne' h.2),if_neg (fun h=>hne h.1)]
  ·simp only[f9 hl hp hx hp hne]
   simp
 ·by_cases h2:v=p
  ·subst h2
   rw[if_neg h1,if_pos rfl];rw[CA (g:=fun b=>gM M v b) (j:=x) (d:= -room) 14 hx]
   ·omega
   ·intro i hi hne'
    simp only[f9 hl hp hx hi hne];rw[if_neg (fun h=>h1 h.1),if_neg (fun h=>hne' h.2)]
   ·simp only[f9 hl hp hx hx hne]
    rw[if_neg (fun h=>h1 h.1)]
    simp
    omega
  ·rw[if_neg h1,if_neg h2]
   rw[yH (g:=fun b=>gM M v b) 14]
   ·omega
   ·intro i hi
    simp only[f9 hl hp hx hi hne];rw[if_neg (fun h=>h1 h.1),if_neg (fun h=>h2 h.1)]
inductive Way (M L:List Int) (a:Nat):Nat->List Nat->Prop
 |here:Way M L a a []
 |step (x p:Nat) (ps:List Nat) (h:Way M L a p ps) (hL:L.getD x 0=(p:Int)+1) (hM:0<gM M p x) (hx:x<14) (hn:x∉p::ps) (ha:x≠a):Way M L a x (p::ps)
theorem pw{M L:List Int}{a x:Nat}{ps:List Nat}(ha:a<14)(h:Way M L a x ps):∀y∈x::ps,y<14:=by
 induction h with
 |here=>intro y hy;rw[RL]at hy;subst hy;exact ha
 |step x p ps h hL hM hx hn ha ih=>
  intro y hy;rcases List.mem_cons.1 hy with rfl|hy
  ·exact hx
  ·exact ih y hy
theorem Mr{M L:List Int}{a x:Nat}{ps:List Nat}(h:Way M L a x ps):(x::ps).Nodup:=by
 induction h with
 |here=>simp
 |step x p ps h hL hM hx hn ha ih=>exact List.nodup_cons.2 ⟨hn,ih⟩
theorem Ae:∀(k:Nat) (l:List Nat),l.Nodup->(∀y∈l,y<k)->l.length<=k
 |0,l,_,h=>by
  cases l with
  |nil=>exact y2 _
  |cons y l=>exact absurd (h y (v3 ..)) (by omega)
 | k+1,l,hn,h=>by
  by_cases hk:k∈l
  ·have:=Ae k (l.erase k) (hn.erase k) (fun y hy=>by
    have h1:=h y (List.mem_of_mem_erase hy);have h2:y≠k:=fun e=>by subst e;exact(List.Nodup.not_mem_erase hn) hy
    omega)
   rw[List.length_erase_of_mem hk]at this;omega
  ·have:=Ae k l hn (fun y hy=>by
    have h1:=h y hy;have h2:y≠k:=fun e=>by subst e;exact hk hy
    omega)
   omega
theorem OT{M L:List Int}{a x:Nat}{ps:List Nat}(ha:a<14)(h:Way M L a x ps):ps.length<=13:=by
 have:=Ae 14 (x::ps) (Mr h) (pw ha h)
 simp only[v5]at this;omega
def gB(M:List Int):Nat->List Nat->Int->Int
 |_,[],r=>r
 |x,p::ps,r=>gB M p ps (aQ r (gM M p x))
def qK(room:Int):Nat->List Nat->List Int->List Int
 |_,[],M=>M
 |x,p::ps,M=>qK room p ps (lU room M p x)
theorem EQ(a b:Int):aQ a b<=a/\aQ a b<=b/\(0<a->0<b->0<aQ a b):=by
 unfold aQ;split<;>omega
theorem AY{M L:List Int}{a x:Nat}{ps:List Nat}(h:Way M L a x ps):∀r,0<r->0<gB M x ps r/\gB M x ps r<=r:=by
 induction h with
 |here=>intro r hr;exact⟨hr,RK _⟩
 |step x p ps h hL hM hx hn ha ih=>
  intro r hr;obtain⟨h1,h2,h3⟩:=EQ r (gM M p x);obtain⟨h4,h5⟩:=ih _ (h3 hr hM);simp only[gB];exact⟨h4,by omega⟩
structure Kept (M M':List Int):Prop where
 len:M'.length=196
 pos:∀c d,c<14->d<14->0<=gM M' c d
 two:∀c d,c<14->d<14->gM M' c d+gM M' d c=gM M c d+gM M d c
theorem O3{N L:List Int}{a x:Nat}{ps:List Nat}(h:Way N L a x ps)(ha:a<14):∀(room r:Int) (M:List Int),0<r->room<=gB N x ps r->0<=room->M.length=196->(∀c d,c<14->d<14->0<=gM M c d) →
  (∀c∈x::ps,∀d∈x::ps,gM M c d=gM N c d)->Kept M (qK room x ps M)/\∀v,v<14->rs (qK room x ps M) v=rs M v+(if v=x then room else 0)-(if v=a then room else 0):=by
 induction h with
 |here=>
  intro room r M hr hle h0 hl hp hag;refine⟨⟨hl,hp,fun c d _ _=>rfl⟩,fun v _=>?_⟩
  simp only[qK];omega
 | step x p ps h hL hM hx hn hax ih=>
  intro room r M hr hle h0 hl hp hag;simp only[qK];simp only[gB]at hle;have hpl:p<14:=pw ha h p (v3 ..)
  have hne:x≠p:=fun e=>hn (by rw[e];exact v3 ..)
  obtain⟨i1,i2,i3⟩:=EQ r (gM N p x);have hri:=i3 hr hM;obtain⟨g1,g2⟩:=AY h _ hri;have hroom:room<=gM M p x:=by
   rw[hag p (by simp) x (by simp)];omega
  have hlen:(lU room M p x).length=196:=by unfold lU;rw[jR,jR];exact hl
  have hpos:∀c d,c<14->d<14->0<=gM (lU room M p x) c d:=by
   intro c d hc hd;rw[f9 hl hpl hx hd hne];have e1:=hp x p hx hpl;have e2:=hp c d hc hd;split
   ·omega
   ·split<;>omega
  obtain⟨⟨k1,k2,k3⟩,k4⟩:=ih room _ (lU room M p x) hri hle h0 hlen hpos (fun c hc d hd=>by
   have hcl:=pw ha h c hc;have hdl:=pw ha h d hd;rw[f9 hl hpl hx hdl hne,if_neg (fun e=>hn (by rw[<-e.1];exact hc)),if_neg (fun e=>hn (by rw[<-e.2];exact hd))]
   exact hag c (v1 _ hc) d (v1 _ hd))
  refine⟨⟨k1,k2,fun c d hc hd=>?_⟩,fun v hv=>?_⟩
  ·rw[k3 c d hc hd,f9 hl hpl hx hd hne,f9 hl hpl hx hc hne]
   by_cases e1:c=x/\d=p
   ·obtain⟨rfl,rfl⟩:=e1
    simp[hne,hne.symm]
    omega
   ·by_cases e2:c=p/\d=x
    ·obtain⟨rfl,rfl⟩:=e2
     simp[hne,hne.symm]
     omega
    ·rw[if_neg e1,if_neg e2,if_neg (fun e=>e2 ⟨e.2,e.1⟩),if_neg (fun e=>e1 ⟨e.2,e.1⟩)]
  ·rw[k4 v hv,OU hl hpl hx hne]
   omega
theorem KO{M L:List Int}{a x y:Nat}{v:Int}{ps:List Nat}(hl:y<L.length)(h:Way M L a x ps):y∉x::ps->Way M (L.set y v) a x ps:=by
 induction h with
 |here=>intro _;exact .here
 |step x p ps h hL hM hx hn ha ih=>
  intro hy;refine .step x p ps (ih (fun e=>hy (v1 _ e))) ?_ hM hx hn ha
  rw[eT _ _ _ _ hl,if_neg (fun e=>hy (by rw[e];exact v3 ..))]
  exact hL
structure BIn (M L:List Int) (a b:Nat) (q:List Nat) (u k:Nat):Prop where
 len:L.length=14
 nn:∀x,x<14->0<=L.getD x 0/\L.getD x 0<=14
 la:L.getD a 0=(a:Int)+1
 lb:L.getD b 0=0
 way:∀x,x<14->0<L.getD x 0->∃ps,Way M L a x ps/\∀y∈ps,0<L.getD y 0
 que:∀x∈q,x<14/\0<L.getD x 0
 clo:∀x,x<14->0<L.getD x 0->x∉q->∀y,y<14->(x=u->y<k)->gM M x y≠0->0<L.getD y 0
theorem Jo{M L:List Int}{a b u k:Nat}{q:List Nat}(h:BIn M L a b q u k)(hk:0<L.getD k 0\/gM M u k=0):BIn M L a b q u (k+1):=
 ⟨h.len,h.nn,h.la,h.lb,h.way,h.que,fun x hx hp hq y hy hu hm=>by
  by_cases e:x=u/\y=k
  ·obtain⟨rfl,rfl⟩:=e
   rcases hk with hk|hk
   ·exact hk
   ·exact absurd hk hm
  ·exact h.clo x hx hp hq y hy (fun e'=>by have:=hu e';have:y≠k:=fun e2=>e ⟨e',e2⟩;omega) hm⟩
theorem Fx{M L:List Int}{a b u k x:Nat}{q:List Nat}(h:BIn M L a b q u k)(ha:a<14)(hu:u<14)(hup:0<L.getD u 0)(hx:x<14)(hx0:L.getD x 0=0)(hm:0<gM M u x):
  ∃ps,Way M (L.set x ((u:Int)+1)) a x (u::ps)/\∀y∈u::ps,0<L.getD y 0:=by
 obtain⟨ps,hw,hp⟩:=h.way u hu hup;have hall:∀y∈u::ps,0<L.getD y 0:=fun y hy=>by
  rcases List.mem_cons.1 hy with rfl|hy
  ·exact hup
  ·exact hp y hy
 have hn:x∉u::ps:=fun e=>by have:=hall x e;omega
 refine⟨ps,.step x u ps (KO (by rw[h.len];exact hx) hw hn) ?_ hm hx hn ?_,hall⟩
 ·rw[eT _ _ _ _ (by rw[h.len];exact hx),if_pos rfl]
 ·intro e
  subst e;have:=h.la
  omega
theorem Pr{M L:List Int}{a b u k:Nat}{q:List Nat}(h:BIn M L a b q u k)(ha:a<14)(hu:u<14)(hup:0<L.getD u 0)(hk:k<14)(hk0:L.getD k 0=0)(hm:0<gM M u k)(hkb:k≠b):
  BIn M (L.set k ((u:Int)+1)) a b (q++[k]) u (k+1):=by
 have hg:∀x,(L.set k ((u:Int)+1)).getD x 0=if x=k then(u:Int)+1 else L.getD x 0:=fun x=>eT _ _ _ _ (by rw[h.len];exact hk)
 have hge:∀x,0<L.getD x 0->0<(L.set k ((u:Int)+1)).getD x 0:=fun x hx=>by
  rw[hg];split<;>omega
 obtain⟨psk,hwk,hpk⟩:=Fx h ha hu hup hk hk0 hm;refine⟨by rw[R0];exact h.len,fun x hx=>?_,?_,?_,fun x hx hp=>?_,fun x hx=>?_,fun x hx hp hq y hy hyu hm'=>?_⟩
 ·rw[hg];have:=h.nn x hx;split<;>omega
 ·rw[hg,if_neg (fun e=>by have:=h.la;rw[e]at this;omega)];exact h.la
 ·rw[hg,if_neg (fun e=>hkb e.symm)];exact h.lb
 ·by_cases e:x=k
  ·subst e
   exact⟨u::psk,hwk,fun y hy=>hge y (hpk y hy)⟩
  ·rw[hg,if_neg e]at hp
   obtain⟨ps,hw,hpp⟩:=h.way x hx hp;refine⟨ps,KO (by rw[h.len];exact hk) hw (fun hmem=>?_),fun y hy=>hge y (hpp y hy)⟩
   rcases List.mem_cons.1 hmem with e2|e2
   ·exact e e2.symm
   ·have:=hpp k e2;omega
 ·rcases List.mem_append.1 hx with hx|hx
  ·exact⟨(h.que x hx).1,hge x (h.que x hx).2⟩
  ·rw[RL]at hx
   subst hx;refine⟨hk,?_⟩
   rw[hg,if_pos rfl];omega
 ·have hxk:x≠k:=fun e=>hq (List.mem_append.2 (.inr (by rw[e];exact List.mem_singleton.2 rfl)))
  rw[hg,if_neg hxk]at hp;by_cases e:y=k
  ·rw[hg,if_pos e];omega
  ·exact hge y (h.clo x hx hp (fun e'=>hq (List.mem_append.2 (.inl e'))) y hy (fun e'=>by have:=hyu e';omega) hm')
def kP(L:List Int):Nat:=L.countP (fun x=>decide (x=0))
theorem zr:∀(L:List Int) (k:Nat) (v:Int),k<L.length->L.getD k 0=0->v≠0->kP (L.set k v)+1=kP L
 |[],k,v,h,_,_=>by simp at h
 |x::L,0,v,_,h0,hv=>by
  have hx:x=0:=by simpa using h0
  subst hx;show kP (v::L)+1=kP (0::L)
  unfold kP;rw[y8,y8];simp[hv]
 |x::L,k+1,v,h,h0,hv=>by
  have:=zr L k v (by simpa using h) (by simpa using h0) hv
  show kP (x::L.set k v)+1=kP (x::L)
  unfold kP at this⊢
  rw[y8,y8];omega
def zu(M:List Int)(e:Ed):List Int:=px M e.f.toNat e.t.toNat (gM M e.f.toNat e.t.toNat+e.c)
def cQ(es:List Ed):List Int:=es.foldl zu (v7 196 0)
def mK(c d:Nat):List Ed->Int
 |[]=>0
 |e::es=>(if e.f=(c:Int)/\e.t=(d:Int)then e.c else 0)+mK c d es
theorem Jn(es:List Ed)(e:Ed):cQ (es++[e])=zu (cQ es) e:=by unfold cQ;rw[RN];rfl
theorem Kv(es:List Ed):(cQ es).length=196:=by
 unfold cQ;suffices ∀(es:List Ed) (M:List Int),M.length=196->(es.foldl zu M).length=196 from this es _ (by rw[RJ])
 intro es;induction es with
 |nil=>intro M h;exact h
 |cons e es ih=>intro M h;exact ih _ (by unfold zu;rw[jR];exact h)
theorem KF{N:Int}(hN:N<=14)(c d:Nat)(hd:d<14):∀(es:List Ed) (M:List Int),(∀e∈es,EdV N e)->M.length=196->gM (es.foldl zu M) c d=gM M c d+mK c d es
 |[],M,_,_=>by simp[mK]
 |e::es,M,h,hl=>by
  obtain⟨f0,f1,t0,t1,_,c0,c1⟩:=h e (v3 ..);rw[R1,KF hN c d hd es (zu M e) (fun x hx=>h x (v1 _ hx)) (by unfold zu;rw[jR];exact hl)]
  unfold zu;rw[yG hl (by omega) (by omega) hd]
  simp only[mK];by_cases hh:c=e.f.toNat/\d=e.t.toNat
  ·rw[if_pos hh,if_pos (by omega),hh.1,hh.2];omega
  ·rw[if_neg hh,if_neg (fun hx=>hh (by omega))];omega
theorem mv{N:Int}{es:List Ed}(hN:N<=14)(h:∀e∈es,EdV N e)(c d:Nat)(hd:d<14):gM (cQ es) c d=mK c d es:=by
 unfold cQ;rw[KF hN c d hd es _ h (by rw[RJ])]
 have:gM (v7 196 0) c d=0:=by
  unfold gM;rw[v2,RP];split<;>rfl
 omega
theorem vW{N:Int}{es:List Ed}(h:∀e∈es,EdV N e)(c d:Nat):0<=mK c d es/\mK c d es<=10000*es.length:=by
 induction es with
 |nil=>simp[mK]
 |cons e es ih=>
  have h1:=ih (fun x hx=>h x (v1 _ hx))
  obtain⟨_,_,_,_,_,h2,h3⟩:=h e (v3 ..);simp only[mK,v5];split<;>omega
theorem EB{N:Int}{es:List Ed}(h:∀e∈es,EdV N e)(c d:Nat):0<mK c d es↔∃e∈es,e.f=(c:Int)/\e.t=(d:Int)/\0<e.c:=by
 induction es with
 |nil=>simp[mK]
 | cons e es ih=>
  have hv:∀x∈es,EdV N x:=fun x hx=>h x (v1 _ hx)
  have h1:=vW hv c d;have h4:=ih hv;obtain⟨_,_,_,_,_,h2,h3⟩:=h e (v3 ..);simp only[mK];constructor
  ·intro hp
   by_cases he:e.f=(c:Int)/\e.t=(d:Int)/\0<e.c
   ·exact⟨e,v3 ..,he⟩
   ·obtain⟨x,hx,h5⟩:=h4.1 (by
     split at hp
     ·rename_i hh
      have:¬0<e.c:=fun hc=>he ⟨hh.1,hh.2,hc⟩
      omega
     ·omega)
    exact⟨x,v1 _ hx,h5⟩
  ·rintro ⟨x,hx,hf,ht,hc⟩
   rcases List.mem_cons.1 hx with rfl|hx
   ·rw[if_pos ⟨hf,ht⟩];omega
   ·have:=h4.2 ⟨x,hx,hf,ht,hc⟩
    split<;>omega
theorem KN{N:Int}{es:List Ed}(h:∀e∈es,EdV N e)(c d:Nat)(hcd:N<=(c:Int)\/N<=(d:Int)):mK c d es=0:=by
 have h1:=vW h c d;by_cases hp:0<mK c d es
 ·exfalso
  obtain⟨e,he,hf,ht,hc⟩:=(EB h c d).1 hp;obtain⟨a1,a2,a3,a4,a5,a6,a7⟩:=h e he;rw[hf]at a2;rw[ht]at a4;omega
 ·omega
theorem FP{L:List Int}{es:List Ed}{N:Int}{a x:Nat}{ps:List Nat}(hN:N<=14)(hv:∀e∈es,EdV N e)(h:Way (cQ es) L a x ps):Reach es (a:Int) (x:Int):=by
 induction h with
 |here=>exact .here
 |step x p ps h hL hM hx hn ha ih=>
  rw[mv hN hv p x hx]at hM;obtain⟨e,he,hf,ht,hc⟩:=(EB hv p x).1 hM;rw[<-ht];exact .step _ e ih he hf hc
structure PInv (es:List Ed) (a b:Nat) (M:List Int) (value:Int):Prop where
 kept:Kept (cQ es) M
 sums:∀v,v<14->rs M v=rs (cQ es) v+(if v=b then value else 0)-(if v=a then value else 0)
 val:(value=0/\M=cQ es)\/(0<value/\Reach es (a:Int) (b:Int))
theorem xa{es:List Ed}{N:Int}(hN:N<=14)(hv:∀e∈es,EdV N e)(a b:Nat):PInv es a b (cQ es) 0:=
 ⟨⟨Kv es,fun c d _ hd=>by rw[mv hN hv c d hd];exact(vW hv c d).1,fun _ _ _ _=>rfl⟩,fun v _=>by split<;>split<;>omega,.inl ⟨rfl,rfl⟩⟩
theorem E0{es:List Ed}{N:Int}(hN:N<=14)(hv:∀e∈es,EdV N e)(hl:es.length<=40){a b:Nat}{M:List Int}{value:Int}(h:PInv es a b M value)(c d:Nat)(hc:c<14)(hd:d<14):0<=gM M c d/\gM M c d+gM M d c<=800000:=by
 refine⟨h.kept.pos c d hc hd,?_⟩
 rw[h.kept.two c d hc hd,mv hN hv c d hd,mv hN hv d c hc];have h1:=vW hv c d;have h2:=vW hv d c;omega
theorem EN{f:Nat->Int}{B:Int}:∀(k:Nat),(∀i,i<k->f i<=B)->nX k f<=k*B
 |0,_=>by simp[nX]
 |k+1,h=>by
  have h1:=EN k (fun i hi=>h i (by omega))
  have h2:=h k (by omega)
  simp only[nX];rw[show((k+1:Nat):Int)*B=(k:Int)*B+B by rw[Int.natCast_add,Int.add_mul];simp]
  omega
theorem wH{es:List Ed}{N:Int}(hN:N<=14)(hv:∀e∈es,EdV N e)(hl:es.length<=40){a b:Nat}(ha:a<14)(hab:a≠b){M:List Int}{value:Int}(h:PInv es a b M value):0<=rs M a/\rs M a<=11200000/\0<=value/\value<=11200000/\value=rs (cQ es) a-rs M a:=by
 have h1:0<=rs M a:=HO 14 (fun i hi=>h.kept.pos a i ha hi)
 have h2:rs M a<=14*800000:=EN 14 (fun i hi=>by
  have:=E0 hN hv hl h a i ha hi
  have:=h.kept.pos i a hi ha
  omega)
 have h3:rs (cQ es) a<=14*800000:=EN 14 (fun i hi=>by
  have:=E0 hN hv hl (xa hN hv a b) a i ha hi
  have:=(xa hN hv a b).kept.pos i a hi ha
  omega)
 have h4:=h.sums a ha;rw[if_neg hab,if_pos rfl]at h4;rcases h.val with⟨h5,_⟩|⟨h5,_⟩<;>omega
theorem FD{es:List Ed}{N:Int}(hN:N<=14)(hv:∀e∈es,EdV N e){a b:Nat}(ha:a<14)(hab:a≠b){M L:List Int}{value r:Int}{ps:List Nat}(h:PInv es a b M value)(hw:Way M L a b ps)(hr:0<r):
  PInv es a b (qK (gB M b ps r) b ps M) (value+gB M b ps r)/\rs (qK (gB M b ps r) b ps M) a<rs M a:=by
 obtain⟨g1,g2⟩:=AY hw r hr;obtain⟨k,s⟩:=O3 hw ha (gB M b ps r) r M hr (RK _) (by omega) h.kept.len h.kept.pos (fun _ _ _ _=>rfl)
 refine⟨⟨⟨k.len,k.pos,fun c d hc hd=>by rw[k.two c d hc hd,h.kept.two c d hc hd]⟩,fun v hv'=>?_,.inr ⟨?_,?_⟩⟩,?_⟩
 ·rw[s v hv',h.sums v hv']
  by_cases e1:v=b
  ·by_cases e2:v=a
   ·exact absurd (e2.symm.trans e1) hab
   ·rw[if_pos e1,if_pos e1,if_pos e1,if_neg e2,if_neg e2,if_neg e2];omega
  ·by_cases e2:v=a
   ·rw[if_neg e1,if_neg e1,if_neg e1,if_pos e2,if_pos e2,if_pos e2];omega
   ·rw[if_neg e1,if_neg e1,if_neg e1,if_neg e2,if_neg e2,if_neg e2];omega
 ·rcases h.val with⟨h5,_⟩|⟨h5,_⟩<;>omega
 ·rcases h.val with⟨_,h5⟩|⟨_,h5⟩
  ·rw[h5]at hw
   exact FP hN hv hw
  ·exact h5
 ·rw[s a ha,if_neg hab,if_pos rfl];omega
end Go.Dial.Flo
namespace Go.Dial.Rou
abbrev at_(h:List Int)(i:Int):Int:=h.getD i.toNat 0
def HoV(h:List Int):Prop:=1<=h.length/\h.length<=30/\∀x∈h,-1<=x/\x<=7
instance (h:List Int):Decidable (HoV h):=by unfold HoV;infer_instance
def Con(h:List Int)(c:Int)(j:Nat):Prop:=h.getD j 0≠h.getD (j-1) 0/\(h.getD j 0=c\/h.getD (j-1) 0=c)
instance (h:List Int) (c:Int) (j:Nat):Decidable (Con h c j):=by unfold Con;infer_instance
def KnV(h:List Int)(lag:Int)(c:Int)(v:Int):Prop:= -1<=v/\v<=h.length-1/\(0<=v->(h.length:Int)-1-lag<=v/\∀j∈R2 h.length,1<=j->Con h c j->(j:Int)<=v)
instance (h:List Int) (lag c v:Int):Decidable (KnV h lag c v):=by unfold KnV;infer_instance
def RoV(h k:List Int)(lag:Int):Prop:=HoV h/\k.length=8/\0<=lag/\lag<=10/\∀c∈R2 8,KnV h lag (c:Int) (k.getD c 0)
instance (h k:List Int) (lag:Int):Decidable (RoV h k lag):=by unfold RoV;infer_instance
def dec(h k:List Int)(c u:Int):Int×Int×Int:=
 let w:=max (at_ k c) u
 if at_ h w=c then(w,-1,1)else if at_ h w<0 then(w,-1,2)else if at_ k (at_ h w)<0 then(w,-1,3)else(w,at_ h w,0)
def iI(h k:List Int):Nat->Int->Int->List (Int×Int)×Int
 |0,_,_=>([],0)
 |m+1,c,u=>
  let d:=dec h k c u
  if d.2.2≠0 then([(c,d.1)],d.2.2)else((c,d.1)::(iI h k m d.2.1 d.1).1,(iI h k m d.2.1 d.1).2)
def zb(h k:List Int)(lag c:Int):Prop:=RoV h k lag/\0<=c/\c<=7/\0<=at_ k c
instance (h k:List Int) (lag c:Int):Decidable (zb h k lag c):=by unfold zb;infer_instance
def Bs(h k:List Int)(c:Int):List (Int×Int)×Int:=iI h k 40 c (-1)
def oK(h k:List Int)(lag c:Int):(List (Int×Int)×Int)×Int:=if zb h k lag c then(Bs h k c,0)else(([],0),240)
theorem Ad{h k:List Int}{lag c u:Int}(hv:RoV h k lag)(hc:0<=c/\c<=7)(hk:0<=at_ k c)(hu:u<=h.length-1):
  0<=(dec h k c u).1/\(dec h k c u).1<=h.length-1/\u<=(dec h k c u).1/\at_ k c<=(dec h k c u).1/\(dec h k c u).1=max (at_ k c) u:=by
 obtain⟨_,hl,_,_,hkn⟩:=hv;have h1:=hkn c.toNat (List.mem_range.2 (by omega))
 have h2:k.getD c.toNat 0=at_ k c:=rfl
 rw[h2]at h1;have hd:(dec h k c u).1=max (at_ k c) u:=by
  unfold dec;dsimp only;split
  ·rfl
  ·split
   ·rfl
   ·split<;>rfl
 have hm:=h1.2.1;rw[hd];omega
theorem yN(h k:List Int)(c u:Int):let w:=max (at_ k c) u
  (at_ h w=c/\dec h k c u=(w,-1,1))\/(at_ h w≠c/\at_ h w<0/\dec h k c u=(w,-1,2))\/(at_ h w≠c/\0<=at_ h w/\at_ k (at_ h w)<0/\dec h k c u=(w,-1,3))\/(at_ h w≠c/\0<=at_ h w/\0<=at_ k (at_ h w)/\dec h k c u=(w,at_ h w,0)):=by
 intro w;unfold dec;by_cases h1:at_ h (max (at_ k c) u)=c
 ·left;exact⟨h1,by simp only[if_pos h1];rfl⟩
 ·right
  by_cases h2:at_ h (max (at_ k c) u)<0
  ·left;exact⟨h1,h2,by simp only[if_neg h1,if_pos h2];rfl⟩
  ·right
   by_cases h3:at_ k (at_ h (max (at_ k c) u))<0
   ·left;exact⟨h1,Int.not_lt.1 h2,h3,by simp only[if_neg h1,if_neg h2,if_pos h3];rfl⟩
   ·right;exact⟨h1,Int.not_lt.1 h2,Int.not_lt.1 h3,by simp only[if_neg h1,if_neg h2,if_neg h3];rfl⟩
theorem HA{h:List Int}{i:Int}(h0:0<=i)(h1:i<h.length):at_ h i∈h:=by
 unfold at_;rw[v2,v4 (by omega)]
 exact y0 _
open Go.Sx
theorem oo(a b:Int):aZ a b=max a b:=by unfold aZ;omega
def cS(h:List Int)(lag c:Int):Nat->Int
 |0=>max 0 ((h.length:Int)-1-lag)
 |j+1=>if 1<=j/\Con h c j then max (cS h lag c j) (j:Int)else cS h lag c j
theorem DG{h:List Int}{lag c v:Int}:∀m:Nat,cS h lag c m<=v↔(0<=v/\(h.length:Int)-1-lag<=v/\∀j:Nat,j<m->1<=j->Con h c j->(j:Int)<=v)
 |0=>by
  simp only[cS];constructor
  ·intro hh;exact⟨by omega,by omega,fun j hj=>by omega⟩
  ·rintro ⟨h1,h2,_⟩;omega
 | m+1=>by
  have ih:=DG (h:=h) (lag:=lag) (c:=c) (v:=v) m;simp only[cS];split
  ·rename_i hc
   rw[show max (cS h lag c m) (m:Int)<=v↔(cS h lag c m<=v/\(m:Int)<=v) by omega,ih]
   constructor
   ·rintro ⟨⟨h1,h2,h3⟩,h4⟩
    refine⟨h1,h2,fun j hj h5 h6=>?_⟩
    by_cases e:j=m
    ·subst e;exact h4
    ·exact h3 j (by omega) h5 h6
   ·rintro ⟨h1,h2,h3⟩
    exact⟨⟨h1,h2,fun j hj=>h3 j (by omega)⟩,h3 m (by omega) hc.1 hc.2⟩
  ·rename_i hc
   rw[ih];constructor
   ·rintro ⟨h1,h2,h3⟩
    refine⟨h1,h2,fun j hj h5 h6=>?_⟩
    by_cases e:j=m
    ·subst e;exact absurd ⟨h5,h6⟩ hc
    ·exact h3 j (by omega) h5 h6
   ·rintro ⟨h1,h2,h3⟩
    exact⟨h1,h2,fun j hj=>h3 j (by omega)⟩
theorem QV{h:List Int}{lag c:Int}(m:Nat):0<=cS h lag c m:=((DG (v:=cS h lag c m) m).1 (RK _)).1
theorem KG{h:List Int}{lag c v:Int}(hl:1<=h.length):KnV h lag c v↔(v= -1\/(cS h lag c h.length<=v/\v<=(h.length:Int)-1)):=by
 unfold KnV;rw[DG];constructor
 ·rintro ⟨h1,h2,h3⟩
  by_cases h0:0<=v
  ·obtain⟨h4,h5⟩:=h3 h0
   exact .inr ⟨⟨h0,h4,fun j hj=>h5 j (List.mem_range.2 hj)⟩,h2⟩
  ·exact .inl (by omega)
 ·rintro (h1|⟨⟨h0,h4,h5⟩,h2⟩)
  ·exact⟨by omega,by omega,fun h0=>by omega⟩
  ·exact⟨by omega,h2,fun _=>⟨h4,fun j hj=>h5 j (List.mem_range.1 hj)⟩⟩
def st1(A:List Int)(c p q v:Int):List Int:=if 0<=c/\q≠p then A.set c.toNat (max (A.getD c.toNat 0) v)else A
theorem A9(A:List Int)(c p q v:Int):(st1 A c p q v).length=A.length:=by unfold st1;split<;>simp
theorem MI(M:List Int)(i j:Nat)(y:Int)(hi:i<M.length):(M.set i y).getD j 0=if j=i then y else M.getD j 0:=by
 rw[v2,v2,RX];by_cases h:i=j
 ·subst h;simp[hi]
 ·rw[if_neg h,if_neg (fun e=>h e.symm)]
theorem KE{A:List Int}{c p q v:Int}{d:Nat}(hl:A.length=8)(hc:c<=7)(hd:d<8):(st1 A c p q v).getD d 0=if(d:Int)=c/\q≠p then max (A.getD d 0) v else A.getD d 0:=by
 unfold st1;by_cases h1:0<=c/\q≠p
 ·rw[if_pos h1,MI _ _ _ _ (by omega)]
  by_cases h2:d=c.toNat
  ·rw[if_pos h2,if_pos ⟨by omega,h1.2⟩,h2]
  ·rw[if_neg h2,if_neg (fun h=>h2 (by omega))]
 ·rw[if_neg h1,if_neg (fun h=>h1 ⟨by omega,h.2⟩)]
def nG(h:List Int)(lag:Int)(m:Nat):List Int:=(R2 8).map (fun c:Nat=>cS h lag (c:Int) m)
theorem km(h:List Int)(lag:Int)(m:Nat):(nG h lag m).length=8:=by unfold nG;rw[List.length_map,List.length_range]
theorem w9(h:List Int)(lag:Int)(m:Nat){c:Nat}(hc:c<8):(nG h lag m).getD c 0=cS h lag (c:Int) m:=by
 unfold nG;rw[v2,List.getElem?_map,List.getElem?_range hc];rfl
theorem QD{A B:List Int}(ha:A.length=8)(hb:B.length=8)(h:∀d,d<8->A.getD d 0=B.getD d 0):A=B:=by
 refine List.ext_getElem (by omega) (fun d h1 h2=>?_)
 have:=h d (by omega)
 rw[v2,v2,v4 h1,v4 h2]at this;exact this
theorem No{h:List Int}{lag:Int}{v:Nat}(hh:HoV h)(h1:1<=v)(hv:v<h.length):
  st1 (st1 (nG h lag v) (h.getD (v-1) 0) (h.getD (v-1) 0) (h.getD v 0) v) (h.getD v 0) (h.getD (v-1) 0) (h.getD v 0) v=nG h lag (v+1):=by
 have m1:h.getD v 0∈h:=by rw[v2,v4 hv];exact y0 _
 have m2:h.getD (v-1) 0∈h:=by rw[v2,v4 (show v-1<h.length by omega)];exact y0 _
 have b1:=hh.2.2 _ m1;have b2:=hh.2.2 _ m2;refine QD (by rw[A9,A9,km]) (km ..) (fun d hd=>?_)
 rw[KE (by rw[A9,km]) b1.2 hd,KE (km ..) b2.2 hd,w9 _ _ _ hd,w9 _ _ _ hd]
 simp only[cS];unfold Con;by_cases e1:h.getD v 0=h.getD (v-1) 0
 ·rw[if_neg (fun e=>e.2 e1),if_neg (fun e=>e.2 e1),if_neg (fun e=>e.2.1 e1)]
 ·by_cases e2:(d:Int)=h.getD v 0
  ·rw[if_pos ⟨e2,e1⟩,if_neg (fun e=>e1 (e2.symm.trans e.1)),if_pos ⟨h1,e1,.inl e2.symm⟩]
  ·rw[if_neg (fun e=>e2 e.1)]
   by_cases e3:(d:Int)=h.getD (v-1) 0
   ·rw[if_pos ⟨e3,e1⟩,if_pos ⟨h1,e1,.inr e3.symm⟩]
   ·rw[if_neg (fun e=>e3 e.1),if_neg (fun e=>(e.2.2).elim (fun e=>e2 e.symm) (fun e=>e3 e.symm))]
theorem PX(h:List Int)(lag:Int):nG h lag 1=v7 8 (max 0 ((h.length:Int)-1-lag)):=by
 refine QD (km ..) (by rw[RJ]) (fun d hd=>?_)
 rw[w9 _ _ _ hd,v2,RP,if_pos hd];simp only[cS];rw[if_neg (fun e=>by omega)]
 rfl
theorem MM{h k:List Int}{lag:Int}(hh:HoV h)(hk:k.length=8)(h0:0<=lag)(h1:lag<=10)(hx:∀c:Nat,c<8->(k.getD c 0= -1\/(cS h lag (c:Int) h.length<=k.getD c 0/\k.getD c 0<=(h.length:Int)-1))):RoV h k lag:=
 ⟨hh,hk,h0,h1,fun c hc=>(KG hh.1).2 (hx c (List.mem_range.1 hc))⟩
structure PthV (h k:List Int) (c0:Int) (l:List (Int×Int)) (e:Int):Prop where
 ne:l≠[]
 first:∀x,l.head?=some x->x.1=c0
 bd:∀x∈l,0<=x.1/\x.1<=7/\0<=x.2/\x.2<=(h.length:Int)-1/\at_ k x.1<=x.2/\0<=at_ k x.1
 two:∀(i:Nat) x y,l[i]?=some x->l[i+1]?=some y->y.1=at_ h x.2/\x.2<=y.2/\at_ h x.2≠x.1/\at_ h x.2≠ -1
 last:∀x,l.getLast?=some x->(e=1↔at_ h x.2=x.1)/\(e=2↔at_ h x.2<0)
 ends:1<=e/\e<=3
theorem NI{h k:List Int}{lag:Int}(hv:RoV h k lag):∀(m:Nat) (c u:Int),0<=c->c<=7->0<=at_ k c-> -1<=u->u<=h.length-1->(0<=u->at_ h u=c)->(h.length:Int)-u<m →
  PthV h k c (iI h k m c u).1 (iI h k m c u).2/\((iI h k m c u).1.length:Int)<=(h.length:Int)-u/\(∀x,(iI h k m c u).1.head?=some x->u<=x.2):=by
 intro m;induction m with
 |zero=>intro c u _ _ _ _ _ _ hm;omega
 | succ m ih=>
  intro c u hc0 hc7 hk hu0 hu1 hhu hm;obtain⟨r1,r2,r3,r4,r5⟩:=Ad hv ⟨hc0,hc7⟩ hk hu1;have single:∀w e:Int,1<=e->e<=3->w=max (at_ k c) u->((e=1↔at_ h w=c)/\(e=2↔at_ h w<0))->PthV h k c [(c,w)] e/\(([(c,w)]:List (Int×Int)).length:Int)<=(h.length:Int)-u/\(∀x,([(c,w)]:List (Int×Int)).head?=some x->u<=x.2):=by
   intro w e he1 he3 hw hl;rw[r5]at r1 r2;refine⟨⟨by simp,fun x hx=>?_,fun x hx=>?_,fun i x y h1 h2=>?_,fun x hx=>?_,he1,he3⟩,?_,fun x hx=>?_⟩
   ·cases hx;rfl
   ·rw[RL]at hx;subst hx
    exact⟨hc0,hc7,by dsimp only;omega,by dsimp only;omega,by dsimp only;omega,hk⟩
   ·simp at h2
   ·cases hx;exact hl
   ·simp only[List.length_singleton];omega
   ·cases hx;dsimp only;omega
  simp only[iI];rcases yN h k c u with⟨h1,hd⟩|⟨h1,h2,hd⟩|⟨h1,h2,h3,hd⟩|⟨h1,h2,h3,hd⟩
  ·rw[hd]
   dsimp only;rw[if_pos (show(1:Int)≠0 by decide)]
   exact single _ 1 (by decide) (by decide) rfl ⟨⟨fun _=>h1,fun _=>rfl⟩,⟨fun h=>by omega,fun h=>by omega⟩⟩
  ·rw[hd]
   dsimp only;rw[if_pos (show(2:Int)≠0 by decide)]
   exact single _ 2 (by decide) (by decide) rfl ⟨⟨fun h=>by omega,fun h=>absurd h h1⟩,⟨fun _=>h2,fun _=>rfl⟩⟩
  ·rw[hd]
   dsimp only;rw[if_pos (show(3:Int)≠0 by decide)]
   exact single _ 3 (by decide) (by decide) rfl ⟨⟨fun h=>by omega,fun h=>absurd h h1⟩,⟨fun h=>by omega,fun h=>by omega⟩⟩
  ·rw [hd]
   dsimp only;rw[if_neg (show ¬(0:Int)≠0 by decide)]
   rw[hd]at r1 r2 r3;dsimp only at r1 r2 r3
   have hlt:u<max (at_ k c) u:=by
    by_cases e:0<=u
    ·have:=hhu e
     by_cases e2:max (at_ k c) u=u
     ·rw[e2]at h1;exact absurd this h1
     ·omega
    ·omega
   have hmem:=hv.1.2.2 _ (HA r1 (by omega))
   obtain⟨i1,i2,i3⟩:=ih _ _ h2 hmem.2 h3 (by omega) r2 (fun _=>rfl) (by omega)
   generalize hP:(iI h k m (at_ h (max (at_ k c) u)) (max (at_ k c) u))=P at i1 i2 i3
   generalize hw:max (at_ k c) u=w at *
   obtain⟨l,e⟩:=P;dsimp only at i1 i2 i3⊢
   cases l with
   |nil=>exact absurd rfl i1.ne
   | cons z l=>
    have hz:=i1.first z rfl;have hz2:=i3 z rfl;refine⟨⟨by simp,fun x hx=>?_,fun x hx=>?_,fun i x y hx hy=>?_,fun x hx=>?_,i1.ends⟩,?_,fun x hx=>?_⟩
    ·cases hx;rfl
    ·rcases List.mem_cons.1 hx with rfl|hx
     ·exact⟨hc0,hc7,r1,r2,by dsimp only;omega,hk⟩
     ·exact i1.bd x hx
    ·cases i with
     |zero=>
      cases hx
      cases hy
      exact⟨hz,hz2,h1,by dsimp only;omega⟩
     |succ i=>exact i1.two i x y hx hy
    ·rw[List.getLast?_cons_cons]at hx
     exact i1.last x hx
    ·simp only[v5]at i2⊢;omega
    ·cases hx;dsimp only;omega
theorem Oc{h k:List Int}{lag c:Int}(hv:zb h k lag c):PthV h k c (Bs h k c).1 (Bs h k c).2/\(Bs h k c).1.length<=31:=by
 have hl:=hv.1.1.2.1;have h1:=hv.1.1.1;obtain⟨i1,i2,_⟩:=NI hv.1 40 c (-1) hv.2.1 hv.2.2.1 hv.2.2.2 (by omega) (by omega) (fun h=>by omega) (by omega)
 exact⟨i1,by unfold Bs;omega⟩
end Go.Dial.Rou
namespace Go.Sx
open Go
abbrev r2(p:(Int×Int)×Int):List AV:=[.int p.1.1,.int p.1.2,.int p.2]
abbrev r1(p:Int×Int):List AV:=[.int p.1,.int p.2]
def kY{α:Type}[DecidableEq α](k:α)(x:Int):List (α×Int)->List (α×Int)
 |[]=>[(k,x)]
 |p::l=>if p.1=k then(k,x)::l else p::kY k x l
def dM{α:Type}[DecidableEq α](k:α):List (α×Int)->Option Int
 |[]=>none
 |p::l=>if p.1=k then some p.2 else dM k l
theorem Ic{α:Type}[DecidableEq α](k k':α)(x:Int)(l:List (α×Int)):dM k' (kY k x l)=if k'=k then some x else dM k' l:=by
 induction l with
 |nil=>
  by_cases h:k'=k
  ·subst h;simp[kY,dM]
  ·simp[kY,dM,h,Ne.symm h]
 | cons p l ih=>
  by_cases hp:p.1=k
  ·simp only[kY,if_pos hp,dM]
   by_cases h:k'=k
   ·subst h;simp
   ·rw[if_neg (Ne.symm h),if_neg h,if_neg (by rw[hp];exact Ne.symm h)]
  ·simp only[kY,if_neg hp,dM]
   by_cases h2:p.1=k'
   ·rw[if_pos h2,if_pos h2,if_neg (fun h=>hp (h2.trans h))]
   ·rw[if_neg h2,if_neg h2,ih]
theorem qO(a b c d y:Int):cJ [.int a,.int b] (r2 ((c,d),y))=decide ((c,d)=(a,b)):=by
 show(decide (a=c)&&(decide (b=d)&&true))=_
 by_cases h1:a=c
 ·by_cases h2:b=d
  ·subst h1 h2;simp
  ·have:¬(c,d)=(a,b):=fun h=>h2 (by cases h;rfl)
   simp[h2,this]
 ·have:¬(c,d)=(a,b):=fun h=>h1 (by cases h;rfl)
  simp[h1,this]
theorem Bp(a c y:Int):cJ [.int a] (r1 (c,y))=decide (c=a):=by
 show(decide (a=c)&&true)=_
 by_cases h1:a=c
 ·subst h1;simp
 ·have:¬c=a:=fun h=>h1 h.symm
  simp[h1,this]
theorem Rn(a b x:Int)(l:List ((Int×Int)×Int)):fj [.int a,.int b] (.int x) (l.map r2)=(kY (a,b) x l).map r2:=by
 induction l with
 |nil=>rfl
 | cons p l ih=>
  obtain⟨⟨c,d⟩,y⟩:=p;by_cases h:(c,d)=(a,b)
  ·have hk:cJ [.int a,.int b] (r2 ((c,d),y))=true:=by rw[qO];exact decide_eq_true h
   simp only[v9,fj,hk,cond_true,kY,if_pos h];rfl
  ·have hk:cJ [.int a,.int b] (r2 ((c,d),y))=false:=by rw[qO];exact decide_eq_false h
   simp only[v9,fj,hk,cond_false,kY,if_neg h,ih]
theorem LY(a b:Int)(l:List ((Int×Int)×Int)):dD [.int a,.int b] (l.map r2)=(dM (a,b) l).isSome:=by
 induction l with
 |nil=>rfl
 | cons p l ih=>
  obtain⟨⟨c,d⟩,y⟩:=p;by_cases h:(c,d)=(a,b)
  ·have hk:cJ [.int a,.int b] (r2 ((c,d),y))=true:=by rw[qO];exact decide_eq_true h
   simp only[v9,dD,hk,dM,if_pos h];rfl
  ·have hk:cJ [.int a,.int b] (r2 ((c,d),y))=false:=by rw[qO];exact decide_eq_false h
   simp only[v9,dD,hk,Bool.false_or,dM,if_neg h,ih]
theorem OM(a b:Int)(l:List ((Int×Int)×Int)):cd [.int a,.int b] (l.map r2)=(dM (a,b) l).getD 0:=by
 induction l with
 |nil=>rfl
 | cons p l ih=>
  obtain⟨⟨c,d⟩,y⟩:=p;by_cases h:(c,d)=(a,b)
  ·have hk:cJ [.int a,.int b] (r2 ((c,d),y))=true:=by rw[qO];exact decide_eq_true h
   simp only[v9,cd,hk,cond_true,dM,if_pos h];rfl
  ·have hk:cJ [.int a,.int b] (r2 ((c,d),y))=false:=by rw[qO];exact decide_eq_false h
   simp only[v9,cd,hk,cond_false,dM,if_neg h,ih]
theorem Ro(a x:Int)(l:List (Int×Int)):fj [.int a] (.int x) (l.map r1)=(kY a x l).map r1:=by
 induction l with
 |nil=>rfl
 | cons p l ih=>
  obtain⟨c,y⟩:=p;by_cases h:c=a
  ·have hk:cJ [.int a] (r1 (c,y))=true:=by rw[Bp];exact decide_eq_true h
   simp only[v9,fj,hk,cond_true,kY,if_pos h];rfl
  ·have hk:cJ [.int a] (r1 (c,y))=false:=by rw[Bp];exact decide_eq_false h
   simp only[v9,fj,hk,cond_false,kY,if_neg h,ih]
theorem OD(a:Int)(l:List (Int×Int)):cd [.int a] (l.map r1)=(dM a l).getD 0:=by
 induction l with
 |nil=>rfl
 | cons p l ih=>
  obtain⟨c,y⟩:=p;by_cases h:c=a
  ·have hk:cJ [.int a] (r1 (c,y))=true:=by rw[Bp];exact decide_eq_true h
   simp only[v9,cd,hk,cond_true,dM,if_pos h];rfl
  ·have hk:cJ [.int a] (r1 (c,y))=false:=by rw[Bp];exact decide_eq_false h
   simp only[v9,cd,hk,cond_false,dM,if_neg h,ih]
end Go.Sx
namespace Go.Dial.Fwd
open Go.Sx
structure Se where
 n:Int
 k:Int
 t:Int
 f:Int
 u:Int
 deriving DecidableEq
structure Co where
 n:Int
 k:Int
 deriving DecidableEq
def SeF(s:Se):Prop:=0<=s.n/\s.n<=99999999/\0<=s.t/\s.t<=99999999/\s.n≠s.t/\1<=s.k/\s.k<=4/\0<=s.f/\s.f<s.u/\s.u<=10000001
instance (s:Se):Decidable (SeF s):=by unfold SeF;infer_instance
def gA(a b:Se):Prop:=a.n=b.n/\a.k=b.k/\a.f<b.u/\b.f<a.u
instance (a b:Se):Decidable (gA a b):=by unfold gA;infer_instance
def iQ:List Se->List Se->Prop
 |_,[]=>True
 |done,s::l=>SeF s/\(∀r∈done,¬gA r s)/\iQ (done++[s]) l
def MR:∀(done l:List Se),Decidable (iQ done l)
 |_,[]=>.isTrue trivial
 |done,s::l=>
  have:=MR (done++[s]) l
  inferInstanceAs (Decidable (SeF s/\(∀r∈done,¬gA r s)/\iQ (done++[s]) l))
instance (done l:List Se):Decidable (iQ done l):=MR done l
def pL(l:List Se):Prop:=l.length<=40/\iQ [] l
instance (l:List Se):Decidable (pL l):=by unfold pL;infer_instance
def fX:Int->List Co->Prop
 |_,[]=>True
 |last,c::l=>last<c.n/\c.n<=99999999/\2<=c.k/\c.k<=4/\fX c.n l
def Mp:∀(last:Int) (l:List Co),Decidable (fX last l)
 |_,[]=>.isTrue trivial
 |last,c::l=>
  have:=Mp c.n l
  inferInstanceAs (Decidable (last<c.n/\c.n<=99999999/\2<=c.k/\c.k<=4/\fX c.n l))
instance (last:Int) (l:List Co):Decidable (fX last l):=Mp last l
def FwV(l:List Se)(c:List Co):Prop:=pL l/\c.length<=40/\fX (-1) c
instance (l:List Se) (c:List Co):Decidable (FwV l c):=by unfold FwV;infer_instance
def dL(c:List Co)(n:Int):Int:=
 match c with
 |[]=>0
 |x::c=>if x.n=n then x.k else dL c n
def l9(n k t:Int)(s:Se):Prop:=s.n=n/\s.k=k/\s.f<=t/\t<s.u
instance (n k t:Int) (s:Se):Decidable (l9 n k t s):=by unfold l9;infer_instance
def gY(n k t:Int)(l:List Se):Option Nat:=l.findIdx? fun s=>decide (l9 n k t s)
def cnt(l:List Se)(c:List Co)(n t:Int):Option Nat:=
 match gY n 1 t l with
 |some i=>some i
 |none=>if 0<dL c n then gY n (dL c n) t l else none
def vk(l:List Se)(i:Nat):Se:=l.getD i ⟨0,0,0,0,0⟩
def jy(l:List Se)(c:List Co)(t:Int):Nat->Int->List Int->List Int->Int×List Int×List Int
 |0,_,p,u=>(6,p,u)
 | m+1,n,p,u=>
  match cnt l c n t with
  |none=>(if 0<dL c n then dL c n else 1,p,u)
  |some i=>
   if u.length=5 then(6,p,u)else if(vk l i).t∈p then(5,p++[(vk l i).t],u++[(i:Int)])else jy l c t m (vk l i).t (p++[(vk l i).t]) (u++[(i:Int)])
def Bk(l:List Se)(c:List Co)(n t:Int):Prop:=FwV l c/\0<=n/\n<=99999999/\0<=t/\t<=10000000
instance (l:List Se) (c:List Co) (n t:Int):Decidable (Bk l c n t):=by unfold Bk;infer_instance
def EV(l:List Se)(c:List Co)(n t:Int):Int×List Int×List Int:=jy l c t 7 n [n] []
def nk(l:List Se)(c:List Co)(n t:Int):(Int×List Int×List Int)×Int:=if Bk l c n t then(EV l c n t,0)else((0,[],[]),220)
theorem l7{done l:List Se}(h:iQ done l):∀(i:Nat) s,l[i]?=some s->SeF s/\(∀r∈done,¬gA r s)/\∀(j:Nat) r,j<i->l[j]?=some r->¬gA r s:=by
 induction l generalizing done with
 |nil=>intro i s hs;simp at hs
 | cons x l ih=>
  intro i s hs;obtain⟨h1,h2,h3⟩:=h;cases i with
  |zero=>
   simp at hs;subst hs
   exact⟨h1,h2,fun j r hj=>by omega⟩
  | succ i=>
   obtain⟨g1,g2,g3⟩:=ih h3 i s (by simpa using hs)
   refine⟨g1,fun r hr=>g2 r (List.mem_append_left _ hr),fun j r hj hr=>?_⟩
   cases j with
   |zero=>
    simp at hr;subst hr
    exact g2 x (List.mem_append_right _ (List.mem_singleton.2 rfl))
   |succ j=>exact g3 j r (by omega) (by simpa using hr)
theorem Ob{l:List Se}(h:iQ [] l){n k t:Int}{i j:Nat}{s r:Se}(hi:l[i]?=some s)(hj:l[j]?=some r)(hs:l9 n k t s)(hr:l9 n k t r):i=j:=by
 obtain⟨a1,a2,a3,a4⟩:=hs;obtain⟨b1,b2,b3,b4⟩:=hr;rcases Nat.lt_trichotomy i j with hij|hij|hij
 ·exact absurd ⟨a1.trans b1.symm,a2.trans b2.symm,by omega,by omega⟩ ((l7 h j r hj).2.2 i s hij hi)
 ·exact hij
 ·exact absurd ⟨b1.trans a1.symm,b2.trans a2.symm,by omega,by omega⟩ ((l7 h i s hi).2.2 j r hij hj)
def wg(t:Int)(m:List ((Int×Int)×Int))(x:Se×Nat):List ((Int×Int)×Int):=if x.1.f<=t/\t<x.1.u then kY (x.1.n,x.1.k) (x.2:Int) m else m
def ng(t:Int)(l:List Se):List ((Int×Int)×Int):=l.zipIdx.foldl (wg t) []
theorem FY(t:Int)(l:List Se)(s:Se):ng t (l++[s])=wg t (ng t l) (s,l.length):=by
 unfold ng;rw[List.zipIdx_append,RN];simp
theorem Nr{l:List Se}(h:iQ [] l)(t:Int):∀(i:Nat),i<=l.length->∀(n k x:Int),dM (n,k) (ng t (l.take i))=some x↔∃(j:Nat) (s:Se),j<i/\l[j]?=some s/\l9 n k t s/\x=(j:Int):=by
 intro i;induction i with
 |zero=>
  intro _ n k x;constructor
  ·intro h;simp[ng,dM]at h
  ·rintro ⟨j,s,hj,_⟩;omega
 | succ i ih=>
  intro hi n k x;obtain⟨s,hs⟩:∃s,l[i]?=some s:=⟨_,v4 (by omega)⟩
  have ht:l.take (i+1)=l.take i++[s]:=by rw[RM,hs];rfl
  have hl:(l.take i).length=i:=by rw[List.length_take];omega
  rw[ht,FY,hl];unfold wg;split
  ·rename_i hh
   rw[Ic];split
   ·rename_i hk
    cases hk
    constructor
    ·intro hx
     cases hx
     exact⟨i,s,by omega,hs,⟨rfl,rfl,hh.1,hh.2⟩,rfl⟩
    ·rintro ⟨j,r,hj,hr,hf,rfl⟩
     rw[Ob h hr hs hf ⟨rfl,rfl,hh.1,hh.2⟩]
   ·rename_i hk
    rw[ih (by omega)]
    constructor
    ·rintro ⟨j,r,hj,hr,hf,rfl⟩;exact⟨j,r,by omega,hr,hf,rfl⟩
    ·rintro ⟨j,r,hj,hr,hf,rfl⟩
     by_cases e:j=i
     ·subst e
      rw[hs]at hr;cases hr
      exact absurd (by rw[hf.1,hf.2.1]) hk
     ·exact⟨j,r,by omega,hr,hf,rfl⟩
  ·rename_i hh
   rw[ih (by omega)]
   constructor
   ·rintro ⟨j,r,hj,hr,hf,rfl⟩;exact⟨j,r,by omega,hr,hf,rfl⟩
   ·rintro ⟨j,r,hj,hr,hf,rfl⟩
    by_cases e:j=i
    ·subst e
     rw[hs]at hr;cases hr
     exact absurd hf.2.2 hh
    ·exact⟨j,r,by omega,hr,hf,rfl⟩
theorem qr{l:List Se}{n k t:Int}{i:Nat}(h:gY n k t l=some i):∃s,l[i]?=some s/\l9 n k t s:=by
 unfold gY at h;rw[List.findIdx?_eq_some_iff_getElem]at h;obtain⟨hi,h1,_⟩:=h;exact⟨_,v4 hi,of_decide_eq_true h1⟩
theorem Lm{l:List Se}{n k t:Int}(h:gY n k t l=none):∀s∈l,¬l9 n k t s:=by
 unfold gY at h;rw[List.findIdx?_eq_none_iff]at h;intro s hs hf;have:=h s hs
 simp[hf]at this
theorem FM{l:List Se}(h:iQ [] l)(t n k:Int):dM (n,k) (ng t l)=(gY n k t l).map Int.ofNat:=by
 have key:=Nr h t l.length (y2 _) n k;rw[RY]at key;cases hf:gY n k t l with
 |some i=>
  obtain⟨s,hs,hfit⟩:=qr hf;exact(key _).2 ⟨i,s,(List.getElem?_eq_some_iff.1 hs).1,hs,hfit,rfl⟩
 | none=>
  show _=none
  cases ha:dM (n,k) (ng t l)with
  |none=>rfl
  |some x=>
   obtain⟨j,s,_,hs,hfit,_⟩:=(key x).1 ha;exact absurd hfit (Lm hf s (RT hs))
def oC(c:List Co):List (Int×Int):=c.foldl (fun m x=>kY x.n x.k m) []
theorem DX(c:List Co)(x:Co):oC (c++[x])=kY x.n x.k (oC c):=by
 unfold oC;rw[RN];rfl
theorem BB{last:Int}{c:List Co}(h:fX last c):∀(i:Nat) x,c[i]?=some x->last<x.n/\2<=x.k/\x.k<=4/\x.n<=99999999/\∀(j:Nat) y,j<i->c[j]?=some y->y.n<x.n:=by
 induction c generalizing last with
 |nil=>intro i x hx;simp at hx
 | cons z c ih=>
  intro i x hx;obtain⟨h1,h2,h3,h4,h5⟩:=h;cases i with
  |zero=>simp at hx;subst hx;exact⟨h1,h3,h4,h2,fun j y hj=>by omega⟩
  |succ i=>
   obtain⟨g1,g2,g3,g4,g5⟩:=ih h5 i x (by simpa using hx)
   refine⟨by omega,g2,g3,g4,fun j y hj hy=>?_⟩
   cases j with
   |zero=>simp at hy;subst hy;exact g1
   |succ j=>exact g5 j y (by omega) (by simpa using hy)
theorem xt(c:List Co)(n:Int):(∃x∈c,x.n=n/\dL c n=x.k)\/((∀x∈c,x.n≠n)/\dL c n=0):=by
 induction c with
 |nil=>exact .inr ⟨fun x hx=>(by cases hx),rfl⟩
 | cons z c ih=>
  by_cases h:z.n=n
  ·exact .inl ⟨z,v3 ..,h,by simp[dL,h]⟩
  ·rcases ih with⟨x,hx,h1,h2⟩|⟨h1,h2⟩
   ·exact .inl ⟨x,v1 _ hx,h1,by simp[dL,h,h2]⟩
   ·refine .inr ⟨fun x hx=>?_,by simp[dL,h,h2]⟩
    rcases List.mem_cons.1 hx with rfl|hx
    ·exact h
    ·exact h1 x hx
theorem Mn(c:List Co)(h:fX (-1) c):∀(i:Nat),i<=c.length->∀(n x:Int),dM n (oC (c.take i))=some x↔∃(j:Nat) (y:Co),j<i/\c[j]?=some y/\y.n=n/\x=y.k:=by
 intro i;induction i with
 |zero=>
  intro _ n x;constructor
  ·intro h;simp[oC,dM]at h
  ·rintro ⟨j,s,hj,_⟩;omega
 | succ i ih=>
  intro hi n x;obtain⟨y,hy⟩:∃y,c[i]?=some y:=⟨_,v4 (by omega)⟩
  have ht:c.take (i+1)=c.take i++[y]:=by rw[RM,hy];rfl
  rw[ht,DX,Ic];split
  ·rename_i hk
   subst hk;constructor
   ·intro hx;cases hx;exact⟨i,y,by omega,hy,rfl,rfl⟩
   ·rintro ⟨j,z,hj,hz,hn,rfl⟩
    by_cases e:j=i
    ·subst e;rw[hy]at hz;cases hz;rfl
    ·have:=(BB h i y hy).2.2.2.2 j z (by omega) hz;omega
  ·rename_i hk
   rw[ih (by omega)]
   constructor
   ·rintro ⟨j,z,hj,hz,hn,rfl⟩;exact⟨j,z,by omega,hz,hn,rfl⟩
   ·rintro ⟨j,z,hj,hz,hn,rfl⟩
    by_cases e:j=i
    ·subst e;rw[hy]at hz;cases hz;exact absurd hn.symm hk
    ·exact⟨j,z,by omega,hz,hn,rfl⟩
theorem DM{c:List Co}(h:fX (-1) c)(n:Int):(dM n (oC c)).getD 0=dL c n:=by
 have key:=Mn c h c.length (y2 _) n;rw[RY]at key;rcases xt c n with⟨x,hx,h1,h2⟩|⟨h1,h2⟩
 ·obtain⟨j,hj⟩:=RU hx
  rw[(key x.k).2 ⟨j,x,(List.getElem?_eq_some_iff.1 hj).1,hj,h1,rfl⟩,h2];rfl
 ·rw[h2]
  cases ha:dM n (oC c)with
  |none=>rfl
  |some x=>
   obtain⟨j,y,_,hy,hn,_⟩:=(key x).1 ha;exact absurd hn (h1 y (RT hy))
theorem Iz{l:List Se}{c:List Co}(h:FwV l c)(n t:Int):
  (cnt l c n t).map Int.ofNat=match dM (n,1) (ng t l)with
   |some x=>some x
   |none=>dM (n,(dM n (oC c)).getD 0) (ng t l):=by
 obtain⟨⟨_,hs⟩,_,hc⟩:=h;rw[FM hs,DM hc,FM hs];unfold cnt;cases gY n 1 t l with
 |some i=>rfl
 | none=>
  simp only[Option.map_none];by_cases h0:0<dL c n
  ·rw[if_pos h0]
  ·rw[if_neg h0]
   have hk:dL c n=0:=by
    rcases xt c n with⟨x,hx,_,h2⟩|⟨_,h2⟩
    ·obtain⟨j,hj⟩:=RU hx
     have:=(BB hc j x hj).2.1;omega
    ·exact h2
   rw[hk];show none=_
   cases hf:gY n 0 t l with
   |none=>rfl
   |some i=>
    obtain⟨s,hs',hfit⟩:=qr hf;have:=(l7 hs i s hs').1
    obtain⟨_,_,_,_,_,h6,_⟩:=this;rw[hfit.2.1]at h6;omega
end Go.Dial.Fwd
namespace Go.Dial.Lif
structure Ev where
 k:Int
 a:Int
 h:Int
deriving DecidableEq
structure Ln where
 s:Int
 h:Int
 e:Int
 t:Int
deriving DecidableEq
structure St where
 h:Int
 e:Int
 f:Int
 t:Int
deriving DecidableEq
def first:Ln:=⟨0,-1,0,0⟩
def zero:Ln:=⟨0,0,0,0⟩
def Vld(l:Ln):Prop:=0<=l.s/\l.s<=3/\0<=l.e/\l.e<=1000/\0<=l.t/\l.t<=10000000/\(l.s=0->l.h= -1)/\(l.s≠0->0<=l.h/\l.h<=63/\1<=l.e)
instance (l:Ln):Decidable (Vld l):=by unfold Vld;infer_instance
def su(l:Ln):Bool:=decide (Vld l)
def mO(k:Int):Prop:=k=1\/k=2
instance (k:Int):Decidable (mO k):=by unfold mO;infer_instance
def Frm(e:Ev):Prop:=1<=e.k/\e.k<=7/\0<=e.a/\e.a<=10000000/\(mO e.k->0<=e.h/\e.h<=63)/\(¬mO e.k->e.h= -1)
instance (e:Ev):Decidable (Frm e):=by unfold Frm;infer_instance
def uW(e:Ev):Bool:=decide (Frm e)
def Pos(l:Ln)(e:Ev):Prop:=l.t<=e.a/\((e.k=1/\l.s=0/\l.e<1000)\/(e.k=2/\l.s=1/\l.h≠e.h/\l.e<1000)\/(e.k=3/\l.s=1)\/(e.k=4/\l.s=2)\/(e.k=5/\(l.s=1\/l.s=2))\/(e.k=6/\l.s=3)\/(e.k=7/\l.s=3/\l.t+2592000<=e.a))
instance (l:Ln) (e:Ev):Decidable (Pos l e):=by unfold Pos;infer_instance
def nxt(l:Ln)(e:Ev):Ln:=
 if e.k=1\/e.k=2 then⟨1,e.h,l.e+1,e.a⟩else if e.k=3 then⟨2,l.h,l.e,e.a⟩else if e.k=4\/e.k=6 then⟨1,l.h,l.e,e.a⟩else if e.k=5 then⟨3,l.h,l.e,e.a⟩else⟨0,-1,l.e,e.a⟩
def Ok(l:Ln)(e:Ev):Prop:=Vld l/\Frm e/\Pos l e
instance (l:Ln) (e:Ev):Decidable (Ok l e):=by unfold Ok;infer_instance
def uB(l:Ln)(e:Ev):Ln×Int:=if Ok l e then(nxt l e,0)else(zero,140)
theorem ry{l:Ln}{e:Ev}(h:Ok l e):uB l e=(nxt l e,0):=if_pos h
theorem ko{l:Ln}{e:Ev}(h:¬Ok l e):uB l e=(zero,140):=if_neg h
theorem L6:Vld first:=by decide
theorem PD{l:Ln}{e:Ev}(h:Ok l e):Vld (nxt l e):=by
 obtain⟨⟨h1,h2,h3,h4,h5,h6,h7,h8⟩,⟨f1,f2,f3,f4,f5,f6⟩,p1,p2⟩:=h;unfold mO at f5 f6;unfold nxt;by_cases c1:e.k=1\/e.k=2
 ·rw[if_pos c1];have:=f5 c1;refine⟨?_,?_,?_,?_,?_,?_,?_,?_⟩<;>simp only<;>omega
 rw[if_neg c1];by_cases c3:e.k=3
 ·rw[if_pos c3];have:=h8 (by omega);refine⟨?_,?_,?_,?_,?_,?_,?_,?_⟩<;>simp only<;>omega
 rw[if_neg c3];by_cases c4:e.k=4\/e.k=6
 ·rw[if_pos c4];have:=h8 (by omega);refine⟨?_,?_,?_,?_,?_,?_,?_,?_⟩<;>simp only<;>omega
 rw[if_neg c4];by_cases c5:e.k=5
 ·rw[if_pos c5];have:=h8 (by omega);refine⟨?_,?_,?_,?_,?_,?_,?_,?_⟩<;>simp only<;>omega
 rw[if_neg c5];refine⟨?_,?_,?_,?_,?_,?_,?_,?_⟩<;>simp<;>omega
theorem OL(l:Ln)(e:Ev):(nxt l e).t=e.a:=by unfold nxt;split;rfl;split;rfl;split;rfl;split<;>rfl
def eC:Ln->List Ev->Ln×Nat
 |l,[]=>(l,0)
 |l,e::es=>if Ok l e then((eC (nxt l e) es).1,(eC (nxt l e) es).2+1)else(l,0)
theorem Pm(l:Ln)(es:List Ev):(eC l es).2<=es.length:=by
 induction es generalizing l with
 |nil=>simp[eC]
 |cons e es ih=>unfold eC;split<;>simp;exact ih _
def All:Ln->List Ev->Prop
 |_,[]=>True
 |l,e::es=>Ok l e/\All (nxt l e) es
def fin(l:Ln)(es:List Ev):Ln:=es.foldl nxt l
theorem runF_all{l:Ln}{es:List Ev}:(eC l es).2=es.length↔All l es:=by
 induction es generalizing l with
 |nil=>simp[eC,All]
 |cons e es ih=>
  unfold eC All;by_cases h:Ok l e
  ·rw[if_pos h];simp only[v5,Nat.add_right_cancel_iff,ih,h,true_and]
  ·rw[if_neg h];simp[h]
theorem Jl{l:Ln}{es:List Ev}(h:All l es):eC l es=(fin l es,es.length):=by
 induction es generalizing l with
 |nil=>rfl
 |cons e es ih=>
  obtain⟨h1,h2⟩:=h;rw[eC,if_pos h1,ih h2];rfl
theorem Nz{l:Ln}(hl:Vld l)(es:List Ev):Vld (eC l es).1:=by
 induction es generalizing l with
 |nil=>exact hl
 |cons e es ih=>
  unfold eC;by_cases h:Ok l e
  ·rw[if_pos h];exact ih (PD h)
  ·rw[if_neg h];exact hl
theorem Oq{l:Ln}{a b:List Ev}(h:All l a):eC l (a++b)=((eC (fin l a) b).1,a.length+(eC (fin l a) b).2):=by
 induction a generalizing l with
 |nil=>simp[fin]
 |cons e a ih=>
  obtain⟨h1,h2⟩:=h;rw[RZ,eC,if_pos h1,ih h2];simp[fin];omega
theorem wv{l:Ln}{a b:List Ev}:All l (a++b)↔All l a/\All (fin l a) b:=by
 induction a generalizing l with
 |nil=>simp[All,fin]
 |cons e a ih=>simp only[RZ,All,ih,fin,R1,and_assoc]
theorem Bz(l:Ln)(a b:List Ev):fin l (a++b)=fin (fin l a) b:=by simp[fin]
theorem Px{l:Ln}{es:List Ev}(hl:Vld l)(h:All l es):Vld (fin l es):=by
 have:=Nz hl es
 rwa [Jl h]at this
theorem IH{l:Ln}{es:List Ev}(h:All l es)(k:Nat):All l (es.take k):=by
 rw[<-List.take_append_drop k es,wv]at h;exact h.1
def nw(es:List Ev):(Ln×Nat)×Int:=if(eC first (es.take 40)).2=es.length then(((eC first (es.take 40)).1,es.length),0)else((zero,(eC first (es.take 40)).2),140)
def iV(es:List Ev):Prop:=All first es/\es.length<=40
theorem life_iff{es:List Ev}:(eC first (es.take 40)).2=es.length↔iV es:=by
 constructor
 ·intro h
  have h1:=Pm first (es.take 40);have h2:es.length<=40:=by simp at h1;omega
  rw[y3 h2]at h;exact⟨runF_all.1 h,h2⟩
 ·rintro ⟨h1,h2⟩
  rw[y3 h2];exact runF_all.2 h1
instance (es:List Ev):Decidable (iV es):=decidable_of_iff _ life_iff
theorem my{es:List Ev}(h:iV es):nw es=((fin first es,es.length),0):=by
 rw[nw,if_pos (life_iff.2 h),y3 h.2,Jl h.1]
theorem Br{es:List Ev}(h:¬iV es):nw es=((zero,(eC first (es.take 40)).2),140):=by
 rw[nw,if_neg (fun e=>h (life_iff.1 e))]
theorem MH{es:List Ev}(h:iV es)(k:Nat):iV (es.take k):=⟨IH h.1 k,by have:=h.2;simp;omega⟩
theorem MU{l:Ln}{es:List Ev}(h:All l es):∀e∈es,l.t<=e.a:=by
 induction es generalizing l with
 |nil=>simp
 |cons x es ih=>
  obtain⟨h1,h2⟩:=h;intro e he;have hx:=h1.2.2.1;rcases List.mem_cons.1 he with rfl|he
  ·exact hx
  ·have:=ih h2 e he;rw[OL]at this;omega
theorem LJ{l:Ln}{es:List Ev}(h:All l es){i j:Nat}(hij:i<=j)(hj:j<es.length):(es[i]'(by omega)).a<=es[j].a:=by
 induction es generalizing l i j with
 |nil=>simp at hj
 | cons x es ih=>
  obtain⟨h1,h2⟩:=h;cases i with
  | zero=>
   cases j with
   |zero=>exact RK _
   |succ j=>
    have:=MU h2 (es[j]'(by simpa using hj)) (y0 _)
    rw[OL]at this;simpa using this
  |succ i=>
   cases j with
   |zero=>omega
   |succ j=>simpa using ih h2 (i:=i) (j:=j) (by omega) (by simpa using hj)
def fa(es:List Ev)(t:Int):Nat:=(es.takeWhile fun e=>decide (e.a<=t)).length
theorem Bd(es:List Ev)(t:Int):fa es t<=es.length:=by
 unfold fa;exact List.Sublist.length_le (List.takeWhile_sublist _)
theorem KL{es:List Ev}{t:Int}{i:Nat}(h:i<fa es t):(es[i]'(y1 h (Bd es t))).a<=t:=by
 have h1:i<(es.takeWhile fun e=>decide (e.a<=t)).length:=h
 have h2:=List.all_eq_true.1 List.all_takeWhile _ (y0 h1);have h3:(es.takeWhile fun e=>decide (e.a<=t))[i]=es[i]'(y1 h (Bd es t)):=by
  have:=(List.takeWhile_prefix (fun e:Ev=>decide (e.a<=t)) (l:=es))
  exact List.IsPrefix.getElem this h1
 rw[h3]at h2;simpa using h2
theorem Kz{es:List Ev}{t:Int}(h:fa es t<es.length):t<(es[fa es t]).a:=by
 induction es with
 |nil=>simp at h
 | cons x es ih=>
  by_cases hx:x.a<=t
  ·have e:fa (x::es) t=fa es t+1:=by simp[fa,hx]
   simp only[e]at h⊢;simpa using ih (by simpa using h)
  ·have e:fa (x::es) t=0:=by simp[fa,hx]
   simp only[e];simpa using hx
def atL(es:List Ev)(t:Int):Ln:=fin first (es.take (fa es t))
def so(es:List Ev)(t:Int):Prop:=iV es/\0<=t/\t<=10000000
instance (es:List Ev) (t:Int):Decidable (so es t):=by unfold so;infer_instance
def atR(es:List Ev)(t:Int):Ln×Int:=if so es t then(atL es t,0)else(zero,140)
def N8(l:Ln):Prop:=l.s=1\/l.s=2
instance (l:Ln):Decidable (N8 l):=by unfold N8;infer_instance
def IJ(es:List Ev)(t:Int):Prop:=so es t/\N8 (atL es t)
instance (es:List Ev) (t:Int):Decidable (IJ es t):=by unfold IJ;infer_instance
def Mg(es:List Ev)(me ma t:Int):Prop:=IJ es ma/\(atL es ma).e=me/\ma<=t/\t<=10000000
instance (es:List Ev) (me ma t:Int):Decidable (Mg es me ma t):=by unfold Mg;infer_instance
end Go.Dial.Lif
namespace Go.Dial.Clm
structure Rl where
 a:Int
 c:Int
 s:Int
 r:Int
deriving DecidableEq
structure Cl where
 n:Int
 f:Int
 t:Int
 h:Int
 a:Int
 b:Bool
deriving DecidableEq
structure Ce where
 k:Int
 a:Int
 r:Int
deriving DecidableEq
structure Cs where
 s:Int
 f:Int
 n:Int
deriving DecidableEq
def RlV(r:Rl):Prop:=1<=r.a/\r.a<=1000000/\1<=r.c/\r.c<=1000000/\1<=r.s/\r.s<=1000000/\1<=r.r/\r.r<=1000000
instance (r:Rl):Decidable (RlV r):=by unfold RlV;infer_instance
def ClV(c:Cl):Prop:=0<=c.n/\c.n<=99999999/\0<=c.f/\c.f<=7/\0<=c.t/\c.t<=7/\c.f≠c.t/\0<=c.h/\c.h<=63/\0<=c.a/\c.a<=10000000
instance (c:Cl):Decidable (ClV c):=by unfold ClV;infer_instance
def CeV(last:Int)(e:Ce):Prop:=1<=e.k/\e.k<=6/\last<=e.a/\e.a<=20000000/\(e.k=2\/e.k=6->1<=e.r/\e.r<=9)/\(¬(e.k=2\/e.k=6)->e.r=0)
instance (last:Int) (e:Ce):Decidable (CeV last e):=by unfold CeV;infer_instance
def EvV:Int->List Ce->Prop
 |_,[]=>True
 |last,e::es=>CeV last e/\EvV e.a es
instance EvV.dec:(last:Int)->(es:List Ce)->Decidable (EvV last es)
 |_,[]=>.isTrue trivial
 |last,e::es=>by
  have:=EvV.dec e.a es
  unfold EvV;infer_instance
def eP(r:Rl)(c:Cl)(es:List Ce):Prop:=RlV r/\ClV c/\es.length<=20/\EvV c.a es
instance (r:Rl) (c:Cl) (es:List Ce):Decidable (eP r c es):=by unfold eP;infer_instance
def dur(r:Rl)(s:Int):Int:=if s=1 then r.a else if s=2 then r.s else if s=3 then r.c else r.r
def st(r:Rl)(s f:Int):Cs:=⟨s,f,if 1<=s/\s<=4 then f+dur r s else -1⟩
def aft(s:Int):Int:=if s=3 then 4 else if s=4 then 5 else 3
def bec(b:Bool)(s:Int)(e:Ce):Int:=
 if e.k=1 then(if s=1 then 3 else -1)else if e.k=2 then(if s=1 then(if e.r=1 then(if b then -1 else 6)else 2)else -1)else if e.k=3 then(if s=2 then 3 else -1)else if e.k=4 then(if s=2 then 6 else -1)else if e.k=5 then(if s=1\/s=2\/s=3 then 7 else -1)else if e.k=6 then(if s=4 then(if e.r=1/\b then -1 else 8)else -1)else -1
def act(x:Cs):Prop:=1<=x.s/\x.s<=4
instance (x:Cs):Decidable (act x):=by unfold act;infer_instance
def rk(s:Int):Nat:=if s=1\/s=2 then 3 else if s=3 then 2 else if s=4 then 1 else 0
theorem iX(s:Int):rk s<=3:=by unfold rk;split;omega;split;omega;split<;>omega
theorem gI{s:Int}(h:1<=s/\s<=4):rk (aft s)<rk s:=by
 have:s=1\/s=2\/s=3\/s=4:=by omega
 rcases this with rfl|rfl|rfl|rfl<;>decide
def tl(r:Rl)(b:Bool):Cs->List Ce->List Cs
 |now,e::es=>if h:act now/\now.n<=e.a then st r (aft now.s) now.n::tl r b (st r (aft now.s) now.n) (e::es)else if bec b now.s e<0 then tl r b now es else st r (bec b now.s e) e.a::tl r b (st r (bec b now.s e) e.a) es
 |now,[]=>if h:act now then st r (aft now.s) now.n::tl r b (st r (aft now.s) now.n) []else[]
termination_by now es=>5*es.length+rk now.s
decreasing_by
 ·have:=gI h.1
  simp only[st];omega
 ·have:=iX now.s
  simp only[v5];omega
 ·have:=iX (st r (bec b now.s e) e.a).s
  simp only[v5];omega
 ·have:=gI h
  simp only[st];omega
theorem wK{r:Rl}{b:Bool}{now:Cs}{e:Ce}{es:List Ce}(h:act now/\now.n<=e.a):tl r b now (e::es)=st r (aft now.s) now.n::tl r b (st r (aft now.s) now.n) (e::es):=by
 rw[tl,dif_pos h]
theorem Be{r:Rl}{b:Bool}{now:Cs}{e:Ce}{es:List Ce}(h:¬(act now/\now.n<=e.a))(hb:bec b now.s e<0):tl r b now (e::es)=tl r b now es:=by
 rw[tl,dif_neg h,if_pos hb]
theorem DI{r:Rl}{b:Bool}{now:Cs}{e:Ce}{es:List Ce}(h:¬(act now/\now.n<=e.a))(hb:¬bec b now.s e<0):tl r b now (e::es)=st r (bec b now.s e) e.a::tl r b (st r (bec b now.s e) e.a) es:=by
 rw[tl,dif_neg h,if_neg hb]
theorem Aw{r:Rl}{b:Bool}{now:Cs}(h:act now):tl r b now []=st r (aft now.s) now.n::tl r b (st r (aft now.s) now.n) []:=by
 rw[tl,dif_pos h]
theorem wu{r:Rl}{b:Bool}{now:Cs}(h:¬act now):tl r b now []=[]:=by
 rw[tl,dif_neg h]
theorem Dt{r:Rl}{b:Bool}(P:Cs->Prop)(A:Cs->List Ce->Prop)
  (h1:∀now e es,A now (e::es)->act now->now.n<=e.a->P (st r (aft now.s) now.n)/\A (st r (aft now.s) now.n) (e::es))
  (h2:∀now e es,A now (e::es)->¬(act now/\now.n<=e.a)->bec b now.s e<0->A now es)
  (h3:∀now e es,A now (e::es)->¬(act now/\now.n<=e.a)->¬bec b now.s e<0->P (st r (bec b now.s e) e.a)/\A (st r (bec b now.s e) e.a) es)
  (h4:∀now,A now []->act now->P (st r (aft now.s) now.n)/\A (st r (aft now.s) now.n) []):∀(m:Nat) now es,5*es.length+rk now.s<=m->A now es->∀x∈tl r b now es,P x:=by
 intro m;induction m with
 | zero=>
  intro now es hm hA x hx;have he:es=[]:=by
   cases es with
   |nil=>rfl
   |cons e es=>simp at hm
  subst he;by_cases ha:act now
  ·have:=gI ha;omega
  ·rw[wu ha]at hx;cases hx
 | succ m ih=>
  intro now es hm hA x hx;cases es with
  | nil=>
   by_cases ha:act now
   ·rw[Aw ha]at hx
    obtain⟨p,q⟩:=h4 now hA ha;rcases List.mem_cons.1 hx with rfl|hx
    ·exact p
    ·exact ih _ _ (by have:=gI ha;simp only[st];omega) q x hx
   ·rw[wu ha]at hx;cases hx
  | cons e es=>
   by_cases ha:act now/\now.n<=e.a
   ·rw[wK ha]at hx
    obtain⟨p,q⟩:=h1 now e es hA ha.1 ha.2;rcases List.mem_cons.1 hx with rfl|hx
    ·exact p
    ·exact ih _ _ (by have:=gI ha.1;simp only[st];omega) q x hx
   ·by_cases hb:bec b now.s e<0
    ·rw[Be ha hb]at hx
     exact ih _ _ (by simp only[v5]at hm;have:=iX now.s;omega) (h2 now e es hA ha hb) x hx
    ·rw[DI ha hb]at hx
     obtain⟨p,q⟩:=h3 now e es hA ha hb;rcases List.mem_cons.1 hx with rfl|hx
     ·exact p
     ·exact ih _ _ (by simp only[v5]at hm;have:=iX (st r (bec b now.s e) e.a).s;omega) q x hx
theorem HX{r:Rl}{b:Bool}:∀(m:Nat) now es,5*es.length+rk now.s<=m->(tl r b now es).length<=5*es.length+rk now.s:=by
 intro m;induction m with
 | zero=>
  intro now es hm;have he:es=[]:=by
   cases es with
   |nil=>rfl
   |cons e es=>simp at hm
  subst he;by_cases ha:act now
  ·have:=gI ha;omega
  ·rw[wu ha];simp
 | succ m ih=>
  intro now es hm;cases es with
  | nil=>
   by_cases ha:act now
   ·rw[Aw ha]
    have h1:=gI ha;have:=ih (st r (aft now.s) now.n) [] (by simp only[st];omega)
    simp only[st,v5,List.length_nil]at this⊢;omega
   ·rw[wu ha];simp
  | cons e es=>
   by_cases ha:act now/\now.n<=e.a
   ·rw[wK ha]
    have h1:=gI ha.1;have:=ih (st r (aft now.s) now.n) (e::es) (by simp only[st];omega)
    simp only[st,v5]at this⊢;omega
   ·by_cases hb:bec b now.s e<0
    ·rw[Be ha hb]
     simp only[v5]at hm⊢;have h1:=iX now.s;have:=ih now es (by omega)
     omega
    ·rw[DI ha hb]
     simp only[v5]at hm⊢;have h1:=iX (st r (bec b now.s e) e.a).s;have:=ih (st r (bec b now.s e) e.a) es (by omega)
     omega
theorem HT{l:Int}{es:List Ce}(h:EvV l es):∀e∈es,l<=e.a/\e.a<=20000000:=by
 induction es generalizing l with
 |nil=>intro e he;cases he
 | cons x es ih=>
  intro e he;rcases List.mem_cons.1 he with rfl|he
  ·exact⟨h.1.2.2.1,h.1.2.2.2.1⟩
  ·have:=ih h.2 e he
   have:=h.1.2.2.1
   omega
theorem QF{r:Rl}(h:RlV r)(s:Int):1<=dur r s/\dur r s<=1000000:=by
 unfold RlV at h;unfold dur;split;omega;split;omega;split<;>omega
theorem u0{r:Rl}(h:RlV r){s f:Int}(ha:1<=s/\s<=4):f<(st r s f).n/\(st r s f).n<=f+1000000:=by
 have:=QF h s
 simp only[st];rw[if_pos ha];omega
theorem OF{r:Rl}(hr:RlV r){b:Bool}{now:Cs}{es:List Ce}{m:Int}(h1:act now->m<=now.n)(h2:∀e∈es,m<=e.a):∀x∈tl r b now es,m<=x.f:=by
 refine Dt (r:=r) (b:=b) (fun x=>m<=x.f) (fun now es=>(act now->m<=now.n)/\∀e∈es,m<=e.a) ?_ ?_ ?_ ?_ _ now es (y2 _) ⟨h1,h2⟩
 ·intro now e es ⟨g1,g2⟩ ha hle
  exact⟨g1 ha,fun hx=>by have:=u0 hr (s:=aft now.s) (f:=now.n) hx;have:=g1 ha;omega,g2⟩
 ·intro now e es ⟨g1,g2⟩ _ _
  exact⟨g1,fun x hx=>g2 x (v1 _ hx)⟩
 ·intro now e es ⟨g1,g2⟩ _ _
  have:=g2 e (v3 ..)
  exact⟨this,fun hx=>by have:=u0 hr (s:=bec b now.s e) (f:=e.a) hx;omega,fun x hx=>g2 x (v1 _ hx)⟩
 ·intro now ⟨g1,g2⟩ ha
  exact⟨g1 ha,fun hx=>by have:=u0 hr (s:=aft now.s) (f:=now.n) hx;have:=g1 ha;omega,g2⟩
theorem Rh{r:Rl}(hr:RlV r){b:Bool}{now:Cs}{es:List Ce}(h1:now.f+1000000*rk now.s<=23000000)(h0:act now->now.n<=now.f+1000000)(h2:∀e∈es,e.a<=20000000):∀x∈tl r b now es,x.f<=23000000:=by
 refine Dt (r:=r) (b:=b) (fun x=>x.f<=23000000) (fun now es=>now.f+1000000*rk now.s<=23000000/\(act now->now.n<=now.f+1000000)/\∀e∈es,e.a<=20000000) ?_ ?_ ?_ ?_ _ now es (y2 _) ⟨h1,h0,h2⟩
 ·intro now e es ⟨g1,g0,g2⟩ ha hle
  have k1:=gI ha;have k2:=g0 ha;refine⟨?_,?_,fun hx=>(u0 hr hx).2,g2⟩
  ·simp only[st];omega
  ·simp only[st];omega
 ·intro now e es ⟨g1,g0,g2⟩ _ _
  exact⟨g1,g0,fun x hx=>g2 x (v1 _ hx)⟩
 ·intro now e es ⟨g1,g0,g2⟩ _ _
  have k1:=g2 e (v3 ..);have k2:=iX (st r (bec b now.s e) e.a).s;refine⟨?_,?_,fun hx=>(u0 hr hx).2,fun x hx=>g2 x (v1 _ hx)⟩
  ·simp only[st];omega
  ·simp only[st]at k2⊢;omega
 ·intro now ⟨g1,g0,g2⟩ ha
  have k1:=gI ha;have k2:=g0 ha;refine⟨?_,?_,fun hx=>(u0 hr hx).2,g2⟩
  ·simp only[st];omega
  ·simp only[st];omega
def x0(r:Rl)(c:Cl):Cs:=st r 1 c.a
def aJ(r:Rl)(c:Cl)(es:List Ce):List Cs:=x0 r c::tl r c.b (x0 r c) es
def dy(u:Int)(l:List Cs):List Cs:=l.takeWhile fun x=>decide (x.f<=u)
def jx(r:Rl)(c:Cl)(es:List Ce)(t:Int):Cs:=((dy t (aJ r c es)).getLast?).getD ⟨0,0,c.a⟩
def oJ(r:Rl)(c:Cl)(es:List Ce)(t:Int):Prop:=eP r c es/\0<=t/\t<=20000000
instance (r:Rl) (c:Cl) (es:List Ce) (t:Int):Decidable (oJ r c es t):=by unfold oJ;infer_instance
def outR(r:Rl)(c:Cl)(es:List Ce)(t:Int):Cs×Int:=if oJ r c es t then(jx r c es t,0)else(⟨0,0,0⟩,160)
def OA(r:Rl)(c:Cl):Int:=c.a+r.a-1+r.s+r.c+r.r
end Go.Dial.Clm
namespace Go.Dial.Ref
open Go.Sx Go.Dial.Flo Go.Dial.Rou Go.Dial.Fwd Go.Dial.Lif Go.Dial.Clm
structure Gr where
 ls:List (Int×List Ev)
 ss:List Se
 cs:List Co
 h:List Int
 k:List Int
 lag:Int
 r:Rl
 c:Cl
 ce:List Ce
 nn:Int
 es:List Ed
def LsV:Int->List (Int×List Ev)->Prop
 |_,[]=>True
 |last,x::l=>iV x.2/\last<x.1/\x.1<=99999999/\LsV x.1 l
def OS:∀(last:Int) (l:List (Int×List Ev)),Decidable (LsV last l)
 |_,[]=>.isTrue trivial
 |last,x::l=>
  have:=OS x.1 l
  inferInstanceAs (Decidable (iV x.2/\last<x.1/\x.1<=99999999/\LsV x.1 l))
instance (last:Int) (l:List (Int×List Ev)):Decidable (LsV last l):=OS last l
def GrV(g:Gr):Prop:=g.ls.length<=10/\LsV (-1) g.ls/\FwV g.ss g.cs/\RoV g.h g.k g.lag/\eP g.r g.c g.ce/\NetV g.nn g.es/\g.nn=8
instance (g:Gr):Decidable (GrV g):=by unfold GrV;infer_instance
structure Small (g:Gr):Prop where
 ls:g.ls.length<=1000
 ev:∀x∈g.ls,x.2.length<=1000
 ss:g.ss.length<=1000
 cs:g.cs.length<=1000
 ce:g.ce.length<=1000
 es:g.es.length<=1000
def bW:List (Int×List Ev)->Int->Int->Bool
 |[],_,_=>false
 |x::l,num,t=>if x.1=num then decide ((atR x.2 t).1.s=1)else bW l num t
def oH(p:List Int):Int:=(p.getLast?).getD 0
def aW(p:List (Int×Int)):Int:=((p.getLast?).getD (0,0)).1
def LR(g:Gr)(t:Int):Int:=if(jx g.r g.c g.ce t).s=4\/(jx g.r g.c g.ce t).s=5 then g.c.t else g.c.f
def Unp(g:Gr)(t:Int)(p:List Int)(q:List (Int×Int)):Prop:=g.c.n=oH p/\(aW q=g.c.f\/aW q=g.c.t)/\aW q≠LR g t
instance (g:Gr) (t:Int) (p:List Int) (q:List (Int×Int)):Decidable (Unp g t p q):=by unfold Unp;infer_instance
structure Rf where
 k:Int
 n:Int
 rk:Int
 rp:List Int
 ru:List Int
 hs:List (Int×Int)
 s:Int
 deriving DecidableEq
def xn:Rf:=⟨0,0,0,[],[],[],0⟩
open Classical in
noncomputable def rS (es:List Ed) (a:Int):Int:=if h:∃s,IsR es a s then Classical.choose h else 0
theorem OJ{es:List Ed}{a s:Int}(h:IsR es a s):rS es a=s:=by
 have hx:∃s,IsR es a s:=⟨s,h⟩
 unfold rS;rw[dif_pos hx];exact Pi (Classical.choose_spec hx) h
open Classical in
noncomputable def pD (g:Gr) (t c:Int) (w:Int×List Int×List Int) (p:List (Int×Int)×Int):Rf×Bool:=
 match w.2.1.find? (fun x=> !bW g.ls x t)with
 |some x=>(⟨1,x,0,[],[],[],0⟩,true)
 | none=>
  if w.1=5\/w.1=6 then(⟨2,0,w.1,w.2.1,w.2.2,[],0⟩,true)else if 2<=w.1/\w.1<=4 then(⟨3,0,w.1,w.2.1,w.2.2,[],0⟩,true)else if p.2=2 then(⟨4,0,0,[],[],p.1,0⟩,true)else if p.2=3 then(⟨5,0,0,[],[],p.1,0⟩,true)else if p.2=1 then
   (if Unp g t w.2.1 p.1 then(⟨6,0,0,[],[],p.1,0⟩,true)else if aW p.1=c then(xn,false)else if Flo.Reach g.es c (aW p.1)then(xn,false)else(⟨7,0,0,[],[],p.1,rS g.es c⟩,true))else(xn,false)
abbrev wy(g:Gr)(num t:Int):Int×List Int×List Int:=EV g.ss g.cs num t
abbrev hp(g:Gr)(c:Int):List (Int×Int)×Int:=Bs g.h g.k c
noncomputable def vl (g:Gr) (num t c:Int):Rf×Bool:=pD g t c (wy g num t) (hp g c)
def bN(g:Gr)(num t c:Int):Prop:=GrV g/\0<=num/\num<=99999999/\0<=t/\t<=10000000/\0<=c/\c<=7/\0<=at_ g.k c
instance (g:Gr) (num t c:Int):Decidable (bN g num t c):=by unfold bN;infer_instance
def f8(g:Gr)(t c:Int)(w:Int×List Int×List Int)(p:List (Int×Int)×Int)(r:Rf):Prop:=
 (r.k=1/\r.n∈w.2.1/\bW g.ls r.n t=false/\r=⟨1,r.n,0,[],[],[],0⟩) ∨
 (r.k=2/\(w.1=5\/w.1=6)/\r=⟨2,0,w.1,w.2.1,w.2.2,[],0⟩) ∨
 (r.k=3/\(2<=w.1/\w.1<=4)/\r=⟨3,0,w.1,w.2.1,w.2.2,[],0⟩) ∨
 (r.k=4/\p.2=2/\r=⟨4,0,0,[],[],p.1,0⟩) ∨
 (r.k=5/\p.2=3/\r=⟨5,0,0,[],[],p.1,0⟩) ∨
 (r.k=6/\p.2=1/\Unp g t w.2.1 p.1/\r=⟨6,0,0,[],[],p.1,0⟩) ∨
 (r.k=7/\p.2=1/\aW p.1≠c/\k8 c (aW p.1) r.s/\lvs r.s g.es=0/\r=⟨7,0,0,[],[],p.1,r.s⟩)
instance (g:Gr) (t c:Int) (w:Int×List Int×List Int) (p:List (Int×Int)×Int) (r:Rf):Decidable (f8 g t c w p r):=by unfold f8;infer_instance
def Chk(g:Gr)(num t c:Int)(r:Rf):Prop:=bN g num t c/\f8 g t c (wy g num t) (hp g c) r
instance (g:Gr) (num t c:Int) (r:Rf):Decidable (Chk g num t c r):=by unfold Chk;infer_instance
structure Led (g:Gr) (t c:Int) (w:Int×List Int×List Int) (p:List (Int×Int)×Int):Prop where
 held:∀x∈w.2.1,bW g.ls x t=true
 kind:¬(2<=w.1/\w.1<=6)
 ends:p.2≠2/\p.2≠3
 unp:p.2=1->¬Unp g t w.2.1 p.1
 cut:p.2=1->aW p.1=c\/Flo.Reach g.es c (aW p.1)
theorem LH{g:Gr}{t c:Int}{w:Int×List Int×List Int}{p:List (Int×Int)×Int}(hw:w.2.1.length<=1000)(hu:w.2.2.length<=1000)(hp:p.1.length<=1000):(pD g t c w p).1.rp.length<=1000/\(pD g t c w p).1.ru.length<=1000/\(pD g t c w p).1.hs.length<=1000:=by
 unfold pD;split
 ·exact⟨y7 _,y7 _,y7 _⟩
 ·repeat' split
  all_goals exact⟨by first|exact y7 _|exact hw,by first|exact y7 _|exact hu,by first|exact y7 _|exact hp⟩
theorem NH{h k:List Int}{c:Int}{l:List (Int×Int)}{e:Int}(hp:PthV h k c l e):∃x,l.getLast?=some x/\x∈l/\aW l=x.1/\0<=aW l/\aW l<=7:=by
 cases hx:l.getLast? with
 |none=>exact absurd (List.getLast?_eq_none_iff.1 hx) hp.ne
 |some x=>
  have hm:=List.mem_of_getLast? hx;have hl:aW l=x.1:=by unfold aW;rw[hx];rfl
  have:=hp.bd x hm
  exact⟨x,rfl,hm,hl,by omega,by omega⟩
end Go.Dial.Ref
namespace Go.Sx
open Go
def gD{α:Type}(f:Nat->Option α)(e:α):Nat->Nat->α
 |0,_=>e
 |m+1,i=>match f i with
  |some r=>r
  |none=>gD f e m (i+1)
theorem dd{α:Type}{step:(Int->Option α)->Int->Option α}{len n:Nat}{f:Nat->Option α}{e:α}
  (h:∀(i:Nat) go,i<len->step go (i:Int)=match f i with|some r=>some r|none=>go ((i:Int)+1)) (he:∀go,step go (len:Int)=some e) (hn:len<n):ab step n (0:Int)=some (gD f e len 0):=by
 have key:∀(m n i:Nat),m<n->i+m=len->ab step n (i:Int)=some (gD f e m i):=by
  intro m;induction m with
  | zero=>
   intro n i hn hi;cases n with
   |zero=>omega
   |succ n=>
    have:i=len:=by omega
    subst this;rw[ae,he];rfl
  | succ m ih=>
   intro n i hn hi;cases n with
   |zero=>omega
   | succ n=>
    rw[ae,h i _ (by omega)]
    simp only[gD];cases f i with
    |some r=>rfl
    |none=>
     have:=ih n (i+1) (by omega) (by omega)
     simpa using this
 exact key len n 0 hn (by omega)
theorem iW{α:Type}{step:(Int->Option α)->Int->Option α}{len n:Nat}{f:Nat->Option (Option α)}{e:Option α}
  (h:∀(i:Nat) go,i<len->step go (i:Int)=match f i with|some r=>r|none=>go ((i:Int)+1)) (he:∀go,step go (len:Int)=e) (hn:len<n):ab step n (0:Int)=gD f e len 0:=by
 have key:∀(m n i:Nat),m<n->i+m=len->ab step n (i:Int)=gD f e m i:=by
  intro m;induction m with
  | zero=>
   intro n i hn hi;cases n with
   |zero=>omega
   |succ n=>
    have:i=len:=by omega
    subst this;rw[ae,he];rfl
  | succ m ih=>
   intro n i hn hi;cases n with
   |zero=>omega
   | succ n=>
    rw[ae,h i _ (by omega)]
    simp only[gD];cases f i with
    |some r=>rfl
    |none=>
     have:=ih n (i+1) (by omega) (by omega)
     simpa using this
 exact key len n 0 hn (by omega)
theorem pj{α:Type}(f:Nat->Option α)(e:α)(len:Nat):(∃i r,i<len/\f i=some r/\(∀j,j<i->f j=none)/\gD f e len 0=r)\/((∀i,i<len->f i=none)/\gD f e len 0=e):=by
 have key:∀(m i:Nat),(∃k r,i<=k/\k<i+m/\f k=some r/\(∀j,i<=j->j<k->f j=none)/\gD f e m i=r)\/((∀k,i<=k->k<i+m->f k=none)/\gD f e m i=e):=by
  intro m;induction m with
  |zero=>intro i;exact .inr ⟨fun k h1 h2=>by omega,rfl⟩
  | succ m ih=>
   intro i;simp only[gD];cases hf:f i with
   |some r=>exact .inl ⟨i,r,y2 _,by omega,hf,fun j h1 h2=>by omega,rfl⟩
   | none=>
    rcases ih (i+1)with⟨k,r,h1,h2,h3,h4,h5⟩|⟨h1,h2⟩
    ·refine .inl ⟨k,r,by omega,by omega,h3,fun j g1 g2=>?_,h5⟩
     by_cases e:j=i
     ·subst e;exact hf
     ·exact h4 j (by omega) g2
    ·refine .inr ⟨fun k g1 g2=>?_,h2⟩
     by_cases e:k=i
     ·subst e;exact hf
     ·exact h1 k (by omega) (by omega)
 rcases key len 0 with⟨k,r,h1,h2,h3,h4,h5⟩|⟨h1,h2⟩
 ·exact .inl ⟨k,r,by omega,h3,fun j hj=>h4 j (by omega) hj,h5⟩
 ·exact .inr ⟨fun k hk=>h1 k (by omega) (by omega),h2⟩
theorem og{α:Type}{f:Nat->Option α}{e:α}{len:Nat}(h:∀i,i<len->f i=none):gD f e len 0=e:=by
 rcases pj f e len with⟨i,r,h1,h2,_⟩|⟨_,h2⟩
 ·rw[h i h1]at h2;cases h2
 ·exact h2
theorem mc{α:Type}{f:Nat->Option α}{e r:α}{len:Nat}(h:∀i,i<len->f i=none\/f i=some r)(hx:∃i,i<len/\f i≠none):gD f e len 0=r:=by
 rcases pj f e len with⟨i,r',h1,h2,_,h4⟩|⟨h1,_⟩
 ·rcases h i h1 with h3|h3
  ·rw[h3]at h2;cases h2
  ·rw[h3]at h2;cases h2;exact h4
 ·obtain⟨i,hi,hne⟩:=hx
  exact absurd (h1 i hi) hne
theorem gU{P:Nat->Prop}[DecidablePred P]{len:Nat}:gD (fun i=>if P i then none else some false) true len 0=decide (∀i,i<len->P i):=by
 rcases pj (fun i=>if P i then none else some false) true len with⟨i,r,h1,h2,_,h4⟩|⟨h1,h2⟩
 ·rw[h4]
  have hp:¬P i:=fun hp=>by simp[hp]at h2
  have hr:r=false:=by simpa[hp]using h2.symm
  subst hr;exact(decide_eq_false (fun h=>hp (h i h1))).symm
 ·rw[h2]
  exact(decide_eq_true (fun i hi=>by
   have:=h1 i hi
   by_cases hp:P i
   ·exact hp
   ·simp[hp]at this)).symm
end Go.Sx
