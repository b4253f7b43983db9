/-
  Texts of this claim, joined (part 7).
-/
import Derived.Test.YtbfkkigbedmhgaaGreatJP6
open Option renaming bind_some → v0
open List renaming modify → v1, getElem?_eq_getElem → v2, length_singleton → v3, length_map → v4, length_append → v5, mem_of_getElem? → v7, mem_singleton → v9, mem_cons_self → y0, getD_eq_getElem?_getD → y1, mem_cons_of_mem → y7, getElem_of_mem → y8, getElem?_append_left → y9, drop_eq_getElem_cons → RJ, drop_eq_nil_of_le → RM, length_set → RN, drop_zero → RP, getElem?_append_right → RQ, map_cons → RR, length_cons → RT, map_nil → RU, map_append → RV, take_of_length_le → RW, length → RX, mem_append_left → RZ, replicate → R4, map → R5
open Int renaming tmod → v6, tdiv → v8, lt_irrefl → y2, toNat_of_nonneg → R0
open Bool renaming not_true → y3, not_false → RO, and_false → RY, false_and → R3
open Nat renaming zero_le → RK, le_refl → RL, and_le_right → R1, mod_eq_of_lt → R2
set_option linter.unusedVariables false
set_option linter.unusedSimpArgs false
set_option linter.unusedSectionVars false
set_option linter.constructorNameAsVariable false
set_option maxRecDepth 100000
namespace Go.Proofs.YtbfkkigbedmhgaaGreat
open Go Go.Sx
noncomputable section
abbrev jb:=Bool
abbrev kO:=Int
def eY(n:Nat)(d:kO->Option jb)(c r s t u:Lv)(v w x y z f g h i j:Int)(k:Bool)(l:Lv)(e:Int)(m:Lv)(a:Int):Option jb:=
 (bif a<(c.length:Int) then bif 0<=a then(bif (cI c a 0)<0 then some false else(bif 99999999<(cI c a 0) then some false else(bif 0<a then bif(-9223372036854775808<=(a-1))&&((a-1)<=9223372036854775807)then bif 0<=(a-1) then bif (a-1)<(c.length:Int) then(bif (cI c a 0)<=(cI c (a-1) 0) then some false else(mh n (cL c a 1)).bind fun b=>
 (bif(!b)then some false else bif(-9223372036854775808<=(a+1))&&((a+1)<=9223372036854775807)then d (a+1)else none))else none else none else none else(mh n (cL c a 1)).bind fun b=>
 (bif(!b)then some false else bif(-9223372036854775808<=(a+1))&&((a+1)<=9223372036854775807)then d (a+1)else none))))else none else(ll n r s).bind fun b=>
 (bif b then(lh n t u v).bind fun o=>
 (bif o then(lD n w x y z f g h i j k l).bind fun p=>
 (bif p then(ln n e m).bind fun q=>
 (bif q then some (decide (e=8))else some false)else some false)else some false)else some false))
def yu(n:Nat)(k l m o p:Lv)(q r t u v a b c d e:Int)(f:Bool)(g:Lv)(h:Int)(i:Lv):Option jb:=
 (bif 10<(k.length:Int) then some false else(ab (fun j s=>eY n j k l m o p q r t u v a b c d e f g h i s) n (0:kO)))
def lc(n:Nat)(j k l m o:Lv)(p q r s t a b c d e:Int)(f:Bool)(g:Lv)(h:Int)(i:Lv):Option jb:=yu n j k l m o p q r s t a b c d e f g h i
def ref28_Valid_t:FnT:=⟨[(true,[(.sl (.cons .int (.cons tSc .nil))),(.sl (.cons .int (.cons .int (.cons .int (.cons .int (.cons .int .nil)))))),(.sl (.cons .int (.cons .int .nil))),tSa,tSa,.int,.int,.int,.int,.int,.int,.int,.int,.int,.int,.bool,tSc,.int,tSc])],.b,fun n (s:Lv×Lv×Lv×Lv×Lv×Int×Int×Int×Int×Int×Int×Int×Int×Int×Int×Bool×Lv×Int×Lv)=>lc n s.1 s.2.1 s.2.2.1 s.2.2.2.1 s.2.2.2.2.1 s.2.2.2.2.2.1 s.2.2.2.2.2.2.1 s.2.2.2.2.2.2.2.1 s.2.2.2.2.2.2.2.2.1 s.2.2.2.2.2.2.2.2.2.1 s.2.2.2.2.2.2.2.2.2.2.1 s.2.2.2.2.2.2.2.2.2.2.2.1 s.2.2.2.2.2.2.2.2.2.2.2.2.1 s.2.2.2.2.2.2.2.2.2.2.2.2.2.1 s.2.2.2.2.2.2.2.2.2.2.2.2.2.2.1 s.2.2.2.2.2.2.2.2.2.2.2.2.2.2.2.1 s.2.2.2.2.2.2.2.2.2.2.2.2.2.2.2.2.1 s.2.2.2.2.2.2.2.2.2.2.2.2.2.2.2.2.2.1 s.2.2.2.2.2.2.2.2.2.2.2.2.2.2.2.2.2.2⟩
theorem Fb:ref28_Valid_t.ok Tryz.prog 26:=FnT.ok_of (cfg:=⟨[((26,4,1),.inv [(.tmp 3 .int)])],aL,[],aq⟩) az qe ay (fun s fn hf=>by rw[Tryz.func26]at hf;cases hf;kernel_rfl) (fun n s=>by kernel_rfl)
def ref28_Valid_T:Tab:=(26,ref28_Valid_t)::refusal_Lead_T
theorem sr:ref28_Valid_T.ok Tryz.prog:=Tab.ok_cons Fb qe
abbrev j4:=Bool
abbrev lM:=Int
def fG(n:Nat)(c:lM->Option j4)(d:Lv)(e f a:Int):Option j4:=
 (bif a<(d.length:Int) then bif 0<=a then(bif (cI d a 0)=e then(wN n (cL d a 1) f).bind fun b=>
 (bif b.2.2.2.2=0 then some (decide (b.1=1))else some false)else bif(-9223372036854775808<=(a+1))&&((a+1)<=9223372036854775807)then c (a+1)else none)else none else some false)
def zL(n:Nat)(d:Lv)(a b:Int):Option j4:=
 (ab (fun c s=>fG n c d a b s) n (0:lM))
def mT(n:Nat)(c m o p q:Lv)(r s t u v d e f g h:Int)(i:Bool)(j:Lv)(k:Int)(l:Lv)(a b:Int):Option j4:=zL n c a b
def ref28_Held_t:FnT:=⟨[(true,[(.sl (.cons .int (.cons tSc .nil))),(.sl (.cons .int (.cons .int (.cons .int (.cons .int (.cons .int .nil)))))),(.sl (.cons .int (.cons .int .nil))),tSa,tSa,.int,.int,.int,.int,.int,.int,.int,.int,.int,.int,.bool,tSc,.int,tSc]),(false,[.int]),(false,[.int])],.b,fun n (s:Lv×Lv×Lv×Lv×Lv×Int×Int×Int×Int×Int×Int×Int×Int×Int×Int×Bool×Lv×Int×Lv×Int×Int)=>mT n s.1 s.2.1 s.2.2.1 s.2.2.2.1 s.2.2.2.2.1 s.2.2.2.2.2.1 s.2.2.2.2.2.2.1 s.2.2.2.2.2.2.2.1 s.2.2.2.2.2.2.2.2.1 s.2.2.2.2.2.2.2.2.2.1 s.2.2.2.2.2.2.2.2.2.2.1 s.2.2.2.2.2.2.2.2.2.2.2.1 s.2.2.2.2.2.2.2.2.2.2.2.2.1 s.2.2.2.2.2.2.2.2.2.2.2.2.2.1 s.2.2.2.2.2.2.2.2.2.2.2.2.2.2.1 s.2.2.2.2.2.2.2.2.2.2.2.2.2.2.2.1 s.2.2.2.2.2.2.2.2.2.2.2.2.2.2.2.2.1 s.2.2.2.2.2.2.2.2.2.2.2.2.2.2.2.2.2.1 s.2.2.2.2.2.2.2.2.2.2.2.2.2.2.2.2.2.2.1 s.2.2.2.2.2.2.2.2.2.2.2.2.2.2.2.2.2.2.2.1 s.2.2.2.2.2.2.2.2.2.2.2.2.2.2.2.2.2.2.2.2⟩
theorem Hj:ref28_Held_t.ok Tryz.prog 56:=FnT.ok_of (cfg:=⟨[((56,2,1),.inv [(.tmp 7 .int)])],aL,[],aq⟩) az sr ay (fun s fn hf=>by rw[Tryz.func56]at hf;cases hf;kernel_rfl) (fun n s=>by kernel_rfl)
def ref28_Held_T:Tab:=(56,ref28_Held_t)::ref28_Valid_T
theorem tK:ref28_Held_T.ok Tryz.prog:=Tab.ok_cons Hj sr
abbrev yU:=Bool
def zj(n:Nat)(p q r s d:Lv)(t u v w x e f g h i:Int)(j:Bool)(k:Lv)(l:Int)(m:Lv)(b c a:Int):Option yU:=
 (lc n p q r s d t u v w x e f g h i j k l m).bind fun o=>
 (bif(!o)then some false else(bif b<0 then some false else(bif 99999999<b then some false else(bif c<0 then some false else(bif 10000000<c then some false else(bif a<0 then some false else(bif 7<a then some false else bif 0<=a then bif a<(d.length:Int) then some (decide (0<=(cI d a 0)))else none else none)))))))
def mU(n:Nat)(m o p q r:Lv)(s t u v w a b c d e:Int)(f:Bool)(g:Lv)(h:Int)(i:Lv)(j k l:Int):Option yU:=zj n m o p q r s t u v w a b c d e f g h i j k l
def ref28_Call_t:FnT:=⟨[(true,[(.sl (.cons .int (.cons tSc .nil))),(.sl (.cons .int (.cons .int (.cons .int (.cons .int (.cons .int .nil)))))),(.sl (.cons .int (.cons .int .nil))),tSa,tSa,.int,.int,.int,.int,.int,.int,.int,.int,.int,.int,.bool,tSc,.int,tSc]),(false,[.int]),(false,[.int]),(false,[.int])],.b,fun n (s:Lv×Lv×Lv×Lv×Lv×Int×Int×Int×Int×Int×Int×Int×Int×Int×Int×Bool×Lv×Int×Lv×Int×Int×Int)=>mU n s.1 s.2.1 s.2.2.1 s.2.2.2.1 s.2.2.2.2.1 s.2.2.2.2.2.1 s.2.2.2.2.2.2.1 s.2.2.2.2.2.2.2.1 s.2.2.2.2.2.2.2.2.1 s.2.2.2.2.2.2.2.2.2.1 s.2.2.2.2.2.2.2.2.2.2.1 s.2.2.2.2.2.2.2.2.2.2.2.1 s.2.2.2.2.2.2.2.2.2.2.2.2.1 s.2.2.2.2.2.2.2.2.2.2.2.2.2.1 s.2.2.2.2.2.2.2.2.2.2.2.2.2.2.1 s.2.2.2.2.2.2.2.2.2.2.2.2.2.2.2.1 s.2.2.2.2.2.2.2.2.2.2.2.2.2.2.2.2.1 s.2.2.2.2.2.2.2.2.2.2.2.2.2.2.2.2.2.1 s.2.2.2.2.2.2.2.2.2.2.2.2.2.2.2.2.2.2.1 s.2.2.2.2.2.2.2.2.2.2.2.2.2.2.2.2.2.2.2.1 s.2.2.2.2.2.2.2.2.2.2.2.2.2.2.2.2.2.2.2.2.1 s.2.2.2.2.2.2.2.2.2.2.2.2.2.2.2.2.2.2.2.2.2⟩
theorem GO:ref28_Call_t.ok Tryz.prog 54:=FnT.ok_of (cfg:=⟨[],aL,[],aq⟩) az tK ay (fun s fn hf=>by rw[Tryz.func54]at hf;cases hf;kernel_rfl) (fun n s=>by kernel_rfl)
def ref28_Call_T:Tab:=(54,ref28_Call_t)::ref28_Held_T
theorem ul:ref28_Call_T.ok Tryz.prog:=Tab.ok_cons GO tK
abbrev tv:=Bool
def tw(n:Nat)(l m o p b c d f g:Int)(h:Bool)(i:Lv)(j a k:Int):Option tv:=
 (mE n l m o p b c d f g h i k).bind fun e=>
 (bif b=j then(bif a=c then some (!(decide (a=e.1)))else(bif a=d then some (!(decide (a=e.1)))else some false))else some false)
def jk(n:Nat)(r s t u v:Lv)(w k l m o a b c d e:Int)(f:Bool)(g:Lv)(p:Int)(q:Lv)(h i j:Int):Option tv:=tw n k l m o a b c d e f g h i j
def ref28_claimed_t:FnT:=⟨[(true,[(.sl (.cons .int (.cons tSc .nil))),(.sl (.cons .int (.cons .int (.cons .int (.cons .int (.cons .int .nil)))))),(.sl (.cons .int (.cons .int .nil))),tSa,tSa,.int,.int,.int,.int,.int,.int,.int,.int,.int,.int,.bool,tSc,.int,tSc]),(false,[.int]),(false,[.int]),(false,[.int])],.b,fun n (s:Lv×Lv×Lv×Lv×Lv×Int×Int×Int×Int×Int×Int×Int×Int×Int×Int×Bool×Lv×Int×Lv×Int×Int×Int)=>jk n s.1 s.2.1 s.2.2.1 s.2.2.2.1 s.2.2.2.2.1 s.2.2.2.2.2.1 s.2.2.2.2.2.2.1 s.2.2.2.2.2.2.2.1 s.2.2.2.2.2.2.2.2.1 s.2.2.2.2.2.2.2.2.2.1 s.2.2.2.2.2.2.2.2.2.2.1 s.2.2.2.2.2.2.2.2.2.2.2.1 s.2.2.2.2.2.2.2.2.2.2.2.2.1 s.2.2.2.2.2.2.2.2.2.2.2.2.2.1 s.2.2.2.2.2.2.2.2.2.2.2.2.2.2.1 s.2.2.2.2.2.2.2.2.2.2.2.2.2.2.2.1 s.2.2.2.2.2.2.2.2.2.2.2.2.2.2.2.2.1 s.2.2.2.2.2.2.2.2.2.2.2.2.2.2.2.2.2.1 s.2.2.2.2.2.2.2.2.2.2.2.2.2.2.2.2.2.2.1 s.2.2.2.2.2.2.2.2.2.2.2.2.2.2.2.2.2.2.2.1 s.2.2.2.2.2.2.2.2.2.2.2.2.2.2.2.2.2.2.2.2.1 s.2.2.2.2.2.2.2.2.2.2.2.2.2.2.2.2.2.2.2.2.2⟩
theorem CM:ref28_claimed_t.ok Tryz.prog 58:=FnT.ok_of (cfg:=⟨[],aL,[],aq⟩) az ul ay (fun s fn hf=>by rw[Tryz.func58]at hf;cases hf;kernel_rfl) (fun n s=>by kernel_rfl)
def ref28_claimed_T:Tab:=(58,ref28_claimed_t)::ref28_Call_T
theorem pu:ref28_claimed_T.ok Tryz.prog:=Tab.ok_cons CM ul
abbrev eo:=Int×Int×Int×Lv×Lv×Lv×Int×Bool×Int
abbrev gx:=Int
def ee(n:Nat)(s:gx->Option eo)(x y z t u:Lv)(v A B C D i j k l m:Int)(o:Bool)(p:Lv)(e:Int)(f:Lv)(q g d:Int)(b h:Lv)(c:Int):Option eo:=
 (bif c<(b.length:Int) then bif 0<=c then(mT n x y z t u v A B C D i j k l m o p e f (cI b c 0) q).bind fun a=>
 (bif(!a)then some (1,(cI b c 0),0,([]:Lv),([]:Lv),([]:Lv),0,true,0)else bif(-9223372036854775808<=(c+1))&&((c+1)<=9223372036854775807)then s (c+1)else none)else none else(bif d=5 then some (2,0,d,b,h,([]:Lv),0,true,0)else(bif d=6 then some (2,0,d,b,h,([]:Lv),0,true,0)else(bif !(d=1)then some (3,0,d,b,h,([]:Lv),0,true,0)else(iH n t u v g).bind fun a=>
 (bif a.2.1=2 then some (4,0,0,([]:Lv),([]:Lv),a.1,0,true,0)else(bif a.2.1=3 then some (5,0,0,([]:Lv),([]:Lv),a.1,0,true,0)else bif(-9223372036854775808<=((a.1.length:Int)-1))&&(((a.1.length:Int)-1)<=9223372036854775807)then bif 0<=((a.1.length:Int)-1) then bif ((a.1.length:Int)-1)<(a.1.length:Int) then bif(-9223372036854775808<=((b.length:Int)-1))&&(((b.length:Int)-1)<=9223372036854775807)then bif 0<=((b.length:Int)-1) then bif ((b.length:Int)-1)<(b.length:Int) then(jk n x y z t u v A B C D i j k l m o p e f (cI b ((b.length:Int)-1) 0) (cI a.1 ((a.1.length:Int)-1) 0) q).bind fun w=>
 (bif w then some (6,0,0,([]:Lv),([]:Lv),a.1,0,true,0)else(bif !((cI a.1 ((a.1.length:Int)-1) 0)=g)then(uR n e f g (cI a.1 ((a.1.length:Int)-1) 0)).bind fun r=>
 (bif r.1=0 then some (7,0,0,([]:Lv),([]:Lv),a.1,r.2,true,0)else some (0,0,0,([]:Lv),([]:Lv),([]:Lv),0,false,0))else some (0,0,0,([]:Lv),([]:Lv),([]:Lv),0,false,0)))else none else none else none else none else none else none))))))
def vI(n:Nat)(t q r u v:Lv)(w x y z A c d e f g:Int)(h:Bool)(i:Lv)(j:Int)(k:Lv)(l b m:Int)(o:Bool):Option eo:=
 (bif(!o)then some (0,0,0,([]:Lv),([]:Lv),([]:Lv),0,false,280)else(eN n q r l b).bind fun a=>
 (ab (fun p s=>ee n p t q r u v w x y z A c d e f g h i j k b m a.1 a.2.1 a.2.2.1 s) n (0:gx)))
def wo(n:Nat)(o p q r s:Lv)(t u v w x a b c d e:Int)(f:Bool)(g:Lv)(h:Int)(i:Lv)(j k l:Int):Option eo:=
 (mU n o p q r s t u v w x a b c d e f g h i j k l).bind fun m=>
 vI n o p q r s t u v w x a b c d e f g h i j k l m
def iA(n:Nat)(m o p q r:Lv)(s t u v w a b c d e:Int)(f:Bool)(g:Lv)(h:Int)(i:Lv)(j k l:Int):Option eo:=wo n m o p q r s t u v w a b c d e f g h i j k l
def ref28_Refuse_t:FnT:=⟨[(true,[(.sl (.cons .int (.cons tSc .nil))),(.sl (.cons .int (.cons .int (.cons .int (.cons .int (.cons .int .nil)))))),(.sl (.cons .int (.cons .int .nil))),tSa,tSa,.int,.int,.int,.int,.int,.int,.int,.int,.int,.int,.bool,tSc,.int,tSc]),(false,[.int]),(false,[.int]),(false,[.int])],(.tup (.cons (.agg (.cons .i (.cons .i (.cons .i (.cons (.row 1000003 (.cons .int .nil)) (.cons (.row 1000003 (.cons .int .nil)) (.cons (.row 1000094 (.cons .int (.cons .int .nil))) (.cons .i .nil)))))))) (.cons .b (.cons .i .nil)))),fun n (s:Lv×Lv×Lv×Lv×Lv×Int×Int×Int×Int×Int×Int×Int×Int×Int×Int×Bool×Lv×Int×Lv×Int×Int×Int)=>iA n s.1 s.2.1 s.2.2.1 s.2.2.2.1 s.2.2.2.2.1 s.2.2.2.2.2.1 s.2.2.2.2.2.2.1 s.2.2.2.2.2.2.2.1 s.2.2.2.2.2.2.2.2.1 s.2.2.2.2.2.2.2.2.2.1 s.2.2.2.2.2.2.2.2.2.2.1 s.2.2.2.2.2.2.2.2.2.2.2.1 s.2.2.2.2.2.2.2.2.2.2.2.2.1 s.2.2.2.2.2.2.2.2.2.2.2.2.2.1 s.2.2.2.2.2.2.2.2.2.2.2.2.2.2.1 s.2.2.2.2.2.2.2.2.2.2.2.2.2.2.2.1 s.2.2.2.2.2.2.2.2.2.2.2.2.2.2.2.2.1 s.2.2.2.2.2.2.2.2.2.2.2.2.2.2.2.2.2.1 s.2.2.2.2.2.2.2.2.2.2.2.2.2.2.2.2.2.2.1 s.2.2.2.2.2.2.2.2.2.2.2.2.2.2.2.2.2.2.2.1 s.2.2.2.2.2.2.2.2.2.2.2.2.2.2.2.2.2.2.2.2.1 s.2.2.2.2.2.2.2.2.2.2.2.2.2.2.2.2.2.2.2.2.2⟩
theorem Ej:ref28_Refuse_t.ok Tryz.prog 17:=FnT.ok_of (cfg:=⟨[((17,5,6),.inv [(.tmp 13 .int)])],aL,[],aq⟩) az pu ay (fun s fn hf=>by rw[Tryz.func17]at hf;cases hf;kernel_rfl) (fun n s=>by kernel_rfl)
def ref28_Refuse_T:Tab:=(17,ref28_Refuse_t)::ref28_claimed_T
theorem qf:ref28_Refuse_T.ok Tryz.prog:=Tab.ok_cons Ej pu
abbrev zm:=Int×Int×Int×Lv×Lv×Lv×Bool×Int
def yT(n:Nat)(v q r s t:Lv)(u w x y z g h i j k:Int)(l:Bool)(m:Lv)(o:Int)(p:Lv)(d e f:Int):Option zm:=
 (iA n v q r s t u w x y z g h i j k l m o p d e f).bind fun c=>
 (bif !(c.2.2.2.2.2.2.2.2=0)then some (0,0,0,([]:Lv),([]:Lv),([]:Lv),false,c.2.2.2.2.2.2.2.2)else(bif c.2.2.2.2.2.2.2.1 then some (0,0,0,([]:Lv),([]:Lv),([]:Lv),false,c.2.2.2.2.2.2.2.2)else(eN n q r d e).bind fun a=>
 (iH n s t u f).bind fun b=>
 bif(-9223372036854775808<=((a.2.1.length:Int)-1))&&(((a.2.1.length:Int)-1)<=9223372036854775807)then bif 0<=((a.2.1.length:Int)-1) then bif ((a.2.1.length:Int)-1)<(a.2.1.length:Int) then bif(-9223372036854775808<=((b.1.length:Int)-1))&&(((b.1.length:Int)-1)<=9223372036854775807)then bif 0<=((b.1.length:Int)-1) then bif ((b.1.length:Int)-1)<(b.1.length:Int) then some ((cI a.2.1 ((a.2.1.length:Int)-1) 0),(cI b.1 ((b.1.length:Int)-1) 0),a.1,a.2.1,a.2.2.1,b.1,true,0)else none else none else none else none else none else none))
def mR(n:Nat)(m o p q r:Lv)(s t u v w a b c d e:Int)(f:Bool)(g:Lv)(h:Int)(i:Lv)(j k l:Int):Option zm:=yT n m o p q r s t u v w a b c d e f g h i j k l
def ref28_Lead_t:FnT:=⟨[(true,[(.sl (.cons .int (.cons tSc .nil))),(.sl (.cons .int (.cons .int (.cons .int (.cons .int (.cons .int .nil)))))),(.sl (.cons .int (.cons .int .nil))),tSa,tSa,.int,.int,.int,.int,.int,.int,.int,.int,.int,.int,.bool,tSc,.int,tSc]),(false,[.int]),(false,[.int]),(false,[.int])],(.tup (.cons (.agg (.cons .i (.cons .i (.cons .i (.cons (.row 1000003 (.cons .int .nil)) (.cons (.row 1000003 (.cons .int .nil)) (.cons (.row 1000094 (.cons .int (.cons .int .nil))) .nil))))))) (.cons .b (.cons .i .nil)))),fun n (s:Lv×Lv×Lv×Lv×Lv×Int×Int×Int×Int×Int×Int×Int×Int×Int×Int×Bool×Lv×Int×Lv×Int×Int×Int)=>mR n s.1 s.2.1 s.2.2.1 s.2.2.2.1 s.2.2.2.2.1 s.2.2.2.2.2.1 s.2.2.2.2.2.2.1 s.2.2.2.2.2.2.2.1 s.2.2.2.2.2.2.2.2.1 s.2.2.2.2.2.2.2.2.2.1 s.2.2.2.2.2.2.2.2.2.2.1 s.2.2.2.2.2.2.2.2.2.2.2.1 s.2.2.2.2.2.2.2.2.2.2.2.2.1 s.2.2.2.2.2.2.2.2.2.2.2.2.2.1 s.2.2.2.2.2.2.2.2.2.2.2.2.2.2.1 s.2.2.2.2.2.2.2.2.2.2.2.2.2.2.2.1 s.2.2.2.2.2.2.2.2.2.2.2.2.2.2.2.2.1 s.2.2.2.2.2.2.2.2.2.2.2.2.2.2.2.2.2.1 s.2.2.2.2.2.2.2.2.2.2.2.2.2.2.2.2.2.2.1 s.2.2.2.2.2.2.2.2.2.2.2.2.2.2.2.2.2.2.2.1 s.2.2.2.2.2.2.2.2.2.2.2.2.2.2.2.2.2.2.2.2.1 s.2.2.2.2.2.2.2.2.2.2.2.2.2.2.2.2.2.2.2.2.2⟩
theorem G4:ref28_Lead_t.ok Tryz.prog 19:=FnT.ok_of (cfg:=⟨[],aL,[],aq⟩) az qf ay (fun s fn hf=>by rw[Tryz.func19]at hf;cases hf;kernel_rfl) (fun n s=>by kernel_rfl)
def ref28_Lead_T:Tab:=(19,ref28_Lead_t)::ref28_Refuse_T
theorem tU:ref28_Lead_T.ok Tryz.prog:=Tab.ok_cons G4 qf
abbrev Ac:=Bool
def yW(n:Nat)(g h i:Int)(j k l:Lv)(m o p q:Int)(a b c:Lv)(d:Int):Option Ac:=
 (bif g=o then(bif h=p then(mH n i j k q a b).bind fun e=>
 (bif e then(nE n l c).bind fun f=>
 (bif f then some (decide (m=d))else some false)else some false)else some false)else some false)
def bY(n:Nat)(e f g:Int)(h i j:Lv)(k l m o:Int)(a b c:Lv)(d:Int):Option Ac:=yW n e f g h i j k l m o a b c d
def ref28_Same_t:FnT:=⟨[(true,[.int,.int,.int,tSa,tSa,(.sl (.cons .int (.cons .int .nil))),.int]),(true,[.int,.int,.int,tSa,tSa,(.sl (.cons .int (.cons .int .nil))),.int])],.b,fun n (s:Int×Int×Int×Lv×Lv×Lv×Int×Int×Int×Int×Lv×Lv×Lv×Int)=>bY n s.1 s.2.1 s.2.2.1 s.2.2.2.1 s.2.2.2.2.1 s.2.2.2.2.2.1 s.2.2.2.2.2.2.1 s.2.2.2.2.2.2.2.1 s.2.2.2.2.2.2.2.2.1 s.2.2.2.2.2.2.2.2.2.1 s.2.2.2.2.2.2.2.2.2.2.1 s.2.2.2.2.2.2.2.2.2.2.2.1 s.2.2.2.2.2.2.2.2.2.2.2.2.1 s.2.2.2.2.2.2.2.2.2.2.2.2.2⟩
theorem Hf:ref28_Same_t.ok Tryz.prog 20:=FnT.ok_of (cfg:=⟨[],aL,[],aq⟩) az tU ay (fun s fn hf=>by rw[Tryz.func20]at hf;cases hf;kernel_rfl) (fun n s=>by kernel_rfl)
def ref28_Same_T:Tab:=(20,ref28_Same_t)::ref28_Lead_T
theorem ue:ref28_Same_T.ok Tryz.prog:=Tab.ok_cons Hf tU
abbrev tI:=Bool
def uN(n:Nat)(e f g:Int)(h i j:Lv)(k l m:Int)(o a b:Lv):Option tI:=
 (bif e=k then(bif f=l then(mH n g h i m o a).bind fun c=>
 (bif c then(nE n j b).bind fun d=>
 some d else some false)else some false)else some false)
def jm(n:Nat)(c d e:Int)(f g h:Lv)(i j k:Int)(l a b:Lv):Option tI:=uN n c d e f g h i j k l a b
def ref28_SameWay_t:FnT:=⟨[(true,[.int,.int,.int,tSa,tSa,(.sl (.cons .int (.cons .int .nil)))]),(true,[.int,.int,.int,tSa,tSa,(.sl (.cons .int (.cons .int .nil)))])],.b,fun n (s:Int×Int×Int×Lv×Lv×Lv×Int×Int×Int×Lv×Lv×Lv)=>jm n s.1 s.2.1 s.2.2.1 s.2.2.2.1 s.2.2.2.2.1 s.2.2.2.2.2.1 s.2.2.2.2.2.2.1 s.2.2.2.2.2.2.2.1 s.2.2.2.2.2.2.2.2.1 s.2.2.2.2.2.2.2.2.2.1 s.2.2.2.2.2.2.2.2.2.2.1 s.2.2.2.2.2.2.2.2.2.2.2⟩
theorem Cr:ref28_SameWay_t.ok Tryz.prog 21:=FnT.ok_of (cfg:=⟨[],aL,[],aq⟩) az ue ay (fun s fn hf=>by rw[Tryz.func21]at hf;cases hf;kernel_rfl) (fun n s=>by kernel_rfl)
def ref28_SameWay_T:Tab:=(21,ref28_SameWay_t)::ref28_Same_T
theorem o5:ref28_SameWay_T.ok Tryz.prog:=Tab.ok_cons Cr ue
abbrev eO:=Bool
abbrev kx:=Bool×Int
def eU(n:Nat)(c:kx->Option eO)(y z A B C:Lv)(D E F G H g h i j k:Int)(l:Bool)(m:Lv)(o:Int)(p:Lv)(q d b r:Int)(s t u:Lv)(v:Int)(e:Lv)(f:Bool)(a:Int):Option eO:=
 (bif a<(e.length:Int) then(bif f then bif(-9223372036854775808<=(a+1))&&((a+1)<=9223372036854775807)then c (true,(a+1))else none else bif 0<=a then bif(-9223372036854775808<=(a+1))&&((a+1)<=9223372036854775807)then c ((decide ((cI e a 0)=b)),(a+1))else none else none)else(bif f then(mT n y z A B C D E F G H g h i j k l m o p b q).bind fun w=>
 (bif(!w)then(bY n d b r s t u v d b 0 ([]:Lv) ([]:Lv) ([]:Lv) 0).bind fun x=>
 some x else some false)else some false))
def xG(n:Nat)(D E F G H:Lv)(I J K L M q r t u v:Int)(w:Bool)(x:Lv)(m:Int)(o:Lv)(y z a f g:Int)(h i j:Lv)(d k:Int)(c p e:Lv)(l:Int):Option eO:=
 (bif a=1 then(ab (fun A s=>eU n A D E F G H I J K L M q r t u v w x m o y a f g h i j d c s.1 s.2) n ((false,0):kx))else(bif a=2 then(bif k=5 then(bY n a f g h i j d a 0 k c p ([]:Lv) 0).bind fun b=>
 some b else(bif k=6 then(bY n a f g h i j d a 0 k c p ([]:Lv) 0).bind fun b=>
 some b else some false))else(bif a=3 then(bif 2<=k then(bif k<=4 then(bY n a f g h i j d a 0 k c p ([]:Lv) 0).bind fun b=>
 some b else some false)else some false)else(bif a=4 then(bif l=2 then(bY n a f g h i j d a 0 0 ([]:Lv) ([]:Lv) e 0).bind fun b=>
 some b else some false)else(bif a=5 then(bif l=3 then(bY n a f g h i j d a 0 0 ([]:Lv) ([]:Lv) e 0).bind fun b=>
 some b else some false)else(bif a=6 then(bif l=1 then bif(-9223372036854775808<=((c.length:Int)-1))&&(((c.length:Int)-1)<=9223372036854775807)then bif 0<=((c.length:Int)-1) then bif ((c.length:Int)-1)<(c.length:Int) then(jk n D E F G H I J K L M q r t u v w x m o (cI c ((c.length:Int)-1) 0) (cI e ((e.length:Int)-1) 0) y).bind fun b=>
 (bif b then(bY n a f g h i j d a 0 0 ([]:Lv) ([]:Lv) e 0).bind fun B=>
 some B else some false)else none else none else none else some false)else(bif a=7 then(bif !(l=1)then some false else(bif (cI e ((e.length:Int)-1) 0)=z then some false else(kD n m o z (cI e ((e.length:Int)-1) 0) d).bind fun b=>
 (bif b.2 then(bif b.1=0 then(bY n a f g h i j d a 0 0 ([]:Lv) ([]:Lv) e d).bind fun C=>
 some C else some false)else some false)))else some false)))))))
def xJ(n:Nat)(C x y z A:Lv)(B D E F G e f g h i:Int)(j:Bool)(k:Lv)(l:Int)(m:Lv)(o c d p q r:Int)(s t u:Lv)(v:Int)(w:Bool):Option eO:=
 (bif(!w)then some false else(eN n x y o c).bind fun b=>
 (iH n z A B d).bind fun a=>
 bif(-9223372036854775808<=((a.1.length:Int)-1))&&(((a.1.length:Int)-1)<=9223372036854775807)then bif 0<=((a.1.length:Int)-1) then bif ((a.1.length:Int)-1)<(a.1.length:Int) then xG n C x y z A B D E F G e f g h i j k l m c d p q r s t u v b.1 b.2.1 b.2.2.1 a.1 a.2.1 else none else none else none)
def yn(n:Nat)(v w x y z:Lv)(A B C D E a b c d e:Int)(f:Bool)(g:Lv)(h:Int)(i:Lv)(j k l m o p:Int)(q r s:Lv)(t:Int):Option eO:=
 (mU n v w x y z A B C D E a b c d e f g h i j k l).bind fun u=>
 xJ n v w x y z A B C D E a b c d e f g h i j k l m o p q r s t u
def oN(n:Nat)(u v w x y:Lv)(z A B C D a b c d e:Int)(f:Bool)(g:Lv)(h:Int)(i:Lv)(j k l m o p:Int)(q r s:Lv)(t:Int):Option eO:=yn n u v w x y z A B C D a b c d e f g h i j k l m o p q r s t
def ref28_Check_t:FnT:=⟨[(true,[(.sl (.cons .int (.cons tSc .nil))),(.sl (.cons .int (.cons .int (.cons .int (.cons .int (.cons .int .nil)))))),(.sl (.cons .int (.cons .int .nil))),tSa,tSa,.int,.int,.int,.int,.int,.int,.int,.int,.int,.int,.bool,tSc,.int,tSc]),(false,[.int]),(false,[.int]),(false,[.int]),(true,[.int,.int,.int,tSa,tSa,(.sl (.cons .int (.cons .int .nil))),.int])],.b,fun n (s:Lv×Lv×Lv×Lv×Lv×Int×Int×Int×Int×Int×Int×Int×Int×Int×Int×Bool×Lv×Int×Lv×Int×Int×Int×Int×Int×Int×Lv×Lv×Lv×Int)=>oN n s.1 s.2.1 s.2.2.1 s.2.2.2.1 s.2.2.2.2.1 s.2.2.2.2.2.1 s.2.2.2.2.2.2.1 s.2.2.2.2.2.2.2.1 s.2.2.2.2.2.2.2.2.1 s.2.2.2.2.2.2.2.2.2.1 s.2.2.2.2.2.2.2.2.2.2.1 s.2.2.2.2.2.2.2.2.2.2.2.1 s.2.2.2.2.2.2.2.2.2.2.2.2.1 s.2.2.2.2.2.2.2.2.2.2.2.2.2.1 s.2.2.2.2.2.2.2.2.2.2.2.2.2.2.1 s.2.2.2.2.2.2.2.2.2.2.2.2.2.2.2.1 s.2.2.2.2.2.2.2.2.2.2.2.2.2.2.2.2.1 s.2.2.2.2.2.2.2.2.2.2.2.2.2.2.2.2.2.1 s.2.2.2.2.2.2.2.2.2.2.2.2.2.2.2.2.2.2.1 s.2.2.2.2.2.2.2.2.2.2.2.2.2.2.2.2.2.2.2.1 s.2.2.2.2.2.2.2.2.2.2.2.2.2.2.2.2.2.2.2.2.1 s.2.2.2.2.2.2.2.2.2.2.2.2.2.2.2.2.2.2.2.2.2.1 s.2.2.2.2.2.2.2.2.2.2.2.2.2.2.2.2.2.2.2.2.2.2.1 s.2.2.2.2.2.2.2.2.2.2.2.2.2.2.2.2.2.2.2.2.2.2.2.1 s.2.2.2.2.2.2.2.2.2.2.2.2.2.2.2.2.2.2.2.2.2.2.2.2.1 s.2.2.2.2.2.2.2.2.2.2.2.2.2.2.2.2.2.2.2.2.2.2.2.2.2.1 s.2.2.2.2.2.2.2.2.2.2.2.2.2.2.2.2.2.2.2.2.2.2.2.2.2.2.1 s.2.2.2.2.2.2.2.2.2.2.2.2.2.2.2.2.2.2.2.2.2.2.2.2.2.2.2.1 s.2.2.2.2.2.2.2.2.2.2.2.2.2.2.2.2.2.2.2.2.2.2.2.2.2.2.2.2⟩
theorem ED:ref28_Check_t.ok Tryz.prog 24:=FnT.ok_of (cfg:=⟨[((24,10,7),.inv [(.tmp 17 .bool),(.tmp 18 .int)])],aL,[],aq⟩) az o5 ay (fun s fn hf=>by rw[Tryz.func24]at hf;cases hf;kernel_rfl) (fun n s=>by kernel_rfl)
def ref28_Check_T:Tab:=(24,ref28_Check_t)::ref28_SameWay_T
theorem sN:ref28_Check_T.ok Tryz.prog:=Tab.ok_cons ED o5
abbrev zF:=Int
def AL(n:Nat)(a b:Int):Option zF:=
 (bif a<0 then bif(-9223372036854775808<=(a+1))&&((a+1)<=9223372036854775807)then bif(-9223372036854775808<=(0-(a+1)))&&((0-(a+1))<=9223372036854775807)then bif !(b=0)then some (v6 (0-(a+1)) b)else none else none else none else bif !(b=0)then some (v6 a b)else none)
def bX(n:Nat)(a b:Int):Option zF:=AL n a b
def ref28_pick_t:FnT:=⟨[(false,[.int]),(false,[.int])],.i,fun n (s:Int×Int)=>bX n s.1 s.2⟩
theorem G1:ref28_pick_t.ok Tryz.prog 48:=FnT.ok_of (cfg:=⟨[],aL,[],aq⟩) az sN ay (fun s fn hf=>by rw[Tryz.func48]at hf;cases hf;kernel_rfl) (fun n s=>by kernel_rfl)
def ref28_pick_T:Tab:=(48,ref28_pick_t)::ref28_Check_T
theorem uH:ref28_pick_T.ok Tryz.prog:=Tab.ok_cons G1 sN
abbrev aP:=Lv×Lv×Lv×Lv×Lv×Int×Int×Int×Int×Int×Int×Int×Int×Int×Int×Bool×Lv×Int×Lv
abbrev bI:=Int×Lv
abbrev dQ:=Int×Lv
def iB(n:Nat)(v:bI->Option aP)(d g h i a j:Lv)(k l m o p q r s:Int)(t:Bool)(u:Lv)(b:Int)(e:Lv):Option aP:=
 (bif b<(d.length:Int) then(bif b<20 then bif 0<=b then(bX n (cI d b 0) 8).bind fun c=>
 bif(-9223372036854775808<=(c+1))&&((c+1)<=9223372036854775807)then(bX n (cI d b 1) 7).bind fun f=>
 bif(-9223372036854775808<=((c+1)+f))&&(((c+1)+f)<=9223372036854775807)then(bX n (cI d b 2) 4).bind fun w=>
 bif (((e.length:Int)+1)*24)<=140737488355328 then bif(-9223372036854775808<=(b+1))&&((b+1)<=9223372036854775807)then v ((b+1),(e++[[(AV.int c),(AV.int (v6 ((c+1)+f) 8)),(AV.int w)]]))else none else none else none else none else none else some (g,h,i,a,j,k,m,o,p,q,(10+(v6 l 8)),(cI a (((a.length:Int)-1)-1) 0),(cI a ((a.length:Int)-1) 0),r,s,t,u,8,e))else some (g,h,i,a,j,k,m,o,p,q,(10+(v6 l 8)),(cI a (((a.length:Int)-1)-1) 0),(cI a ((a.length:Int)-1) 0),r,s,t,u,8,e))
def dk(n:Nat)(x:bI->Option aP)(c f g h i j:Lv)(k l m o p q r s t u:Int)(v:Bool)(w:Lv)(a:Int)(d:Lv):Option aP:=
 (bif a<(c.length:Int) then(bif a<20 then bif 0<=a then(bX n (cI c a 0) 8).bind fun b=>
 bif(-9223372036854775808<=(b+1))&&((b+1)<=9223372036854775807)then(bX n (cI c a 1) 7).bind fun e=>
 bif(-9223372036854775808<=((b+1)+e))&&(((b+1)+e)<=9223372036854775807)then(bX n (cI c a 2) 4).bind fun y=>
 bif (((d.length:Int)+1)*24)<=140737488355328 then bif(-9223372036854775808<=(a+1))&&((a+1)<=9223372036854775807)then x ((a+1),(d++[[(AV.int b),(AV.int (v6 ((b+1)+e) 8)),(AV.int y)]]))else none else none else none else none else none else some (f,g,h,i,j,k,m,o,p,q,(10+(v6 l 8)),r,s,t,u,v,w,8,d))else some (f,g,h,i,j,k,m,o,p,q,(10+(v6 l 8)),r,s,t,u,v,w,8,d))
def zM(n:Nat)(b:dQ->Option aP)(c d e f a g:Lv)(h i j k l m t u o p:Int)(q:Bool)(r:Lv):Option aP:=
 (bif !((cI a ((a.length:Int)-1) 0)=(cI a (((a.length:Int)-1)-1) 0))then(ab (fun b s=>iB n b c d e f a g h i j k l m o p q r s.1 s.2) n ((0,([]:Lv)):bI))else(ab (fun b s=>dk n b c d e f a g h i j k l m t u o p q r s.1 s.2) n ((0,([]:Lv)):bI)))
abbrev GL:= @dk
def zE(n:Nat)(b:dQ->Option aP)(c d e f a g:Lv)(h i j k l m o p q r:Int)(t:Bool)(u:Lv):Option aP:=
 (bif 0<=(cI a (((a.length:Int)-1)-1) 0) then zM n b c d e f a g h i j k l m o p q r t u else(ab (fun b s=>GL n b c d e f a g h i j k l m o p q r t u s.1 s.2) n ((0,([]:Lv)):bI)))
abbrev GW:= @dk
def AJ(n:Nat)(b:dQ->Option aP)(c d e f a g:Lv)(h i j k l m o p q r:Int)(t:Bool)(u:Lv):Option aP:=
 (bif 0<=(cI a ((a.length:Int)-1) 0) then bif(-9223372036854775808<=(((a.length:Int)-1)-1))&&((((a.length:Int)-1)-1)<=9223372036854775807)then bif 0<=(((a.length:Int)-1)-1) then bif (((a.length:Int)-1)-1)<(a.length:Int) then zE n b c d e f a g h i j k l m o p q r t u else none else none else none else(ab (fun b s=>GW n b c d e f a g h i j k l m o p q r t u s.1 s.2) n ((0,([]:Lv)):bI)))
abbrev GX:= @dk
def zH(n:Nat)(b:dQ->Option aP)(d e f g a h:Lv)(i c j k l m o p q r:Int)(t:Bool)(u:Lv):Option aP:=
 (bif c<12 then bif 0<=((a.length:Int)-1) then bif ((a.length:Int)-1)<(a.length:Int) then AJ n b d e f g a h i c j k l m o p q r t u else none else none else(ab (fun b s=>GX n b d e f g a h i c j k l m o p q r t u s.1 s.2) n ((0,([]:Lv)):bI)))
abbrev GF:= @dk
def rL(n:Nat)(a:dQ->Option aP)(c d e f b g:Lv)(h i j k l m o p q r:Int)(t:Bool)(u:Lv):Option aP:=
 (bif 0<((b.length:Int)-1) then zH n a c d e f b g h i j k l m o p q r t u else(ab (fun a s=>GF n a c d e f b g h i j k l m o p q r t u s.1 s.2) n ((0,([]:Lv)):bI)))
def rI(n:Nat)(e:dQ->Option aP)(s t:Lv)(u:Int)(v w:Lv)(x y z A B h i j k l m:Int)(o p:Lv)(a:Int)(c:Lv):Option aP:=
 (bif a<8 then(bif a<(s.length:Int) then bif 0<=a then(mG n (cL s a 0)).bind fun f=>
 (bif 0<(f.length:Int) then bif(-9223372036854775808<=(10+a))&&((10+a)<=9223372036854775807)then bif (((c.length:Int)+1)*32)<=140737488355328 then bif(-9223372036854775808<=(a+1))&&((a+1)<=9223372036854775807)then e ((a+1),(c++[[(AV.int (10+a)),(AV.sl (.cons .int (.cons .int (.cons .int .nil))) f)]]))else none else none else none else bif(-9223372036854775808<=(a+1))&&((a+1)<=9223372036854775807)then e ((a+1),c)else none)else none else bif(-9223372036854775808<=(10+a))&&((10+a)<=9223372036854775807)then bif (((c.length:Int)+1)*32)<=140737488355328 then bif(-9223372036854775808<=(a+1))&&((a+1)<=9223372036854775807)then e ((a+1),(c++[[(AV.int (10+a)),(AV.sl (.cons .int (.cons .int (.cons .int .nil))) (([]:Lv)++[[(AV.int 1),(AV.int 0),(AV.int a)]]))]]))else none else none else none)else(nC n t).bind fun f=>
 (fT n u).bind fun q=>
 (qH n v w x).bind fun d=>
 (bX n h 16).bind fun g=>
 (bX n l 60).bind fun r=>
 (mN n y z A B h i j k r m o).bind fun b=>
 bif(-9223372036854775808<=(10+(v6 g 8)))&&((10+(v6 g 8))<=9223372036854775807)then bif(-9223372036854775808<=((d.1.length:Int)-1))&&(((d.1.length:Int)-1)<=9223372036854775807)then rL n e p c f q d.1 d.2.1 d.2.2 g b.1 b.2.1 b.2.2.1 b.2.2.2.1 b.2.2.2.2.2.1 b.2.2.2.2.2.2.1 b.2.2.2.2.2.2.2.1 b.2.2.2.2.2.2.2.2.1 b.2.2.2.2.2.2.2.2.2.1 b.2.2.2.2.2.2.2.2.2.2 else none else none)
def Ar(n:Nat)(j k:Lv)(l:Int)(m o:Lv)(p q r t u a b c d e f:Int)(g h:Lv):Option aP:=
 (ab (fun i s=>rI n i j k l m o p q r t u a b c d e f g h s.1 s.2) n ((0,([]:Lv)):dQ))
def nr(n:Nat)(i j:Lv)(k:Int)(l m:Lv)(o p q r s a b c d e f:Int)(g h:Lv):Option aP:=Ar n i j k l m o p q r s a b c d e f g h
def ref28_Made_t:FnT:=⟨[(true,[(.sl (.cons tSc .nil)),(.sl (.cons .int (.cons .int (.cons .int (.cons .int (.cons .int .nil)))))),.int,tSa,tSa,.int,.int,.int,.int,.int,.int,.int,.int,.int,.int,.int,tSc,tSc])],(.agg (.cons (.row 80 (.cons .int (.cons tSc .nil))) (.cons (.row 162 (.cons .int (.cons .int (.cons .int (.cons .int (.cons .int .nil)))))) (.cons (.row 198 (.cons .int (.cons .int .nil))) (.cons (.row 3 (.cons .int .nil)) (.cons (.row 3 (.cons .int .nil)) (.cons .i (.cons .i (.cons .i (.cons .i (.cons .i (.cons .i (.cons .i (.cons .i (.cons .i (.cons .i (.cons .b (.cons (.row 166 (.cons .int (.cons .int (.cons .int .nil)))) (.cons .i (.cons (.row 73 (.cons .int (.cons .int (.cons .int .nil)))) .nil)))))))))))))))))))),fun n (s:Lv×Lv×Int×Lv×Lv×Int×Int×Int×Int×Int×Int×Int×Int×Int×Int×Int×Lv×Lv)=>nr n s.1 s.2.1 s.2.2.1 s.2.2.2.1 s.2.2.2.2.1 s.2.2.2.2.2.1 s.2.2.2.2.2.2.1 s.2.2.2.2.2.2.2.1 s.2.2.2.2.2.2.2.2.1 s.2.2.2.2.2.2.2.2.2.1 s.2.2.2.2.2.2.2.2.2.2.1 s.2.2.2.2.2.2.2.2.2.2.2.1 s.2.2.2.2.2.2.2.2.2.2.2.2.1 s.2.2.2.2.2.2.2.2.2.2.2.2.2.1 s.2.2.2.2.2.2.2.2.2.2.2.2.2.2.1 s.2.2.2.2.2.2.2.2.2.2.2.2.2.2.2.1 s.2.2.2.2.2.2.2.2.2.2.2.2.2.2.2.2.1 s.2.2.2.2.2.2.2.2.2.2.2.2.2.2.2.2.2⟩
theorem GQ:ref28_Made_t.ok Tryz.prog 13:=FnT.ok_of (cfg:=⟨[((13,3,3),.inv [(.tmp 4 .int),(.cellrow 2 0 80 (.cons .int (.cons tSc .nil)))]),((13,23,23),.inv [(.tmp 8 .int),(.cellrow 2 18 73 (.cons .int (.cons .int (.cons .int .nil))))]),((13,23,21),.inv [(.tmp 8 .int),(.cellrow 2 18 73 (.cons .int (.cons .int (.cons .int .nil))))])],aL,[],aq⟩) az uH ay (fun s fn hf=>by rw[Tryz.func13]at hf;cases hf;kernel_rfl) (fun n s=>by kernel_rfl)
def ref28_Made_T:Tab:=(13,ref28_Made_t)::ref28_pick_T
theorem uc:ref28_Made_T.ok Tryz.prog:=Tab.ok_cons GQ uH
end
open Go.Dial.Ref Go.Dial.Lif Go.Dial.Clm Go.Dial.Fwd Go.Dial.Rou Go.Dial.Flo
theorem bZ(n:Nat){c k:Int}(hc:ax c)(hk:0<k):bX n c k=some (pk c k):=by
 unfold ax at hc;unfold bX AL pk;by_cases h:c<0
 ·rw[kT h,kG (by omega),kG (by omega),kNF (show ¬k=0 by omega),if_pos h]
 ·rw[kF h,kNF (show ¬k=0 by omega),if_neg h]
abbrev Tri:=Int×Int×Int
abbrev In3(x:Tri):Prop:=ax x.1/\ax x.2.1/\ax x.2.2
abbrev qT(l:List Tri):List AV:=[.sl (.cons .int (.cons .int (.cons .int .nil))) (l.map bK)]
theorem H1{l:List Tri}{i:Nat}{x:Tri}(h:l[i]?=some x):cI (l.map bK) (i:Int) 0=x.1/\cI (l.map bK) (i:Int) 1=x.2.1/\cI (l.map bK) (i:Int) 2=x.2.2:=by
 have hc:∀k,cA (l.map bK) (i:Int) k=(bK x).getD k (.int 0):=fun k=>cx (by simpa using h)
 simp only[cI,hc];exact⟨rfl,rfl,rfl⟩
theorem NG{l:List (List Tri)}{i:Nat}{x:List Tri}(h:l[i]?=some x):cL (l.map qT) (i:Int) 0=x.map bK:=by
 have hc:∀k,cA (l.map qT) (i:Int) k=(qT x).getD k (.int 0):=fun k=>cx (by simpa using h)
 simp only[cL,hc];rfl
def edV(x:Tri):Ed:=⟨pk x.1 8,v6 ((pk x.1 8+1)+pk x.2.1 7) 8,pk x.2.2 4⟩
theorem Qh(x:Tri):EdV 8 (edV x)/\(edV x).c<=3:=by
 have b0:=aR x.1 (k:=8) (by decide)
 have b1:=aR x.2.1 (k:=7) (by decide)
 have b2:=aR x.2.2 (k:=4) (by decide)
 have e:v6 ((pk x.1 8+1)+pk x.2.1 7) 8=((pk x.1 8+1)+pk x.2.1 7) % 8:=Int.tmod_eq_emod_of_nonneg (by omega)
 unfold EdV edV;dsimp only;rw[e];omega
theorem CK(l:List Ed)(e:Ed):edL l++[[AV.int e.f,AV.int e.t,AV.int e.c]]=edL (l++[e]):=by show _=R5 _ _;rw[RV];rfl
theorem IZ(n:Nat)(xs:List Tri)(step:(bI->Option aP)->bI->Option aP)(R:Lv->aP)
  (h1:∀(i:Nat) (es:List Ed) x go,xs[i]?=some x->i<20->es.length=i->step go ((i:Int),edL es)=go ((i:Int)+1,edL (es++[edV x])))
  (h2:∀(i:Nat) (es:List Ed) go,(xs.length<=i\/20<=i)->step go ((i:Int),edL es)=some (R (edL es))) (hn:100<n):
  ∃es:List Ed,ab step n ((0,([]:Lv)):bI)=some (R (edL es))/\(∀e∈es,EdV 8 e/\e.c<=3)/\es.length<=20:=by
 have main:∃r,ab step n ((0,([]:Lv)):bI)=some r/\∃es:List Ed,r=R (edL es)/\(∀e∈es,EdV 8 e/\e.c<=3)/\es.length<=20:=by
  refine dG (fun s=>∃(es:List Ed),s=((es.length:Int),edL es)/\(∀e∈es,EdV 8 e/\e.c<=3)/\es.length<=20) (fun s=>20-s.1.toNat) (fun r=>∃es:List Ed,r=R (edL es)/\(∀e∈es,EdV 8 e/\e.c<=3)/\es.length<=20) ?_ n _ ⟨[],rfl,(fun e he=>by cases he),by simp⟩ (by simp;omega)
  rintro _ go ⟨es,rfl,hv,hl⟩ ih;by_cases e:xs.length<=es.length\/20<=es.length
  ·rw[h2 es.length es go e]
   exact⟨_,rfl,es,rfl,hv,hl⟩
  ·obtain⟨x,hx⟩:=aF (show es.length<xs.length by omega)
   rw[h1 es.length es x go hx (by omega) rfl]
   refine ih _ ⟨es++[edV x],by rw[v5,v3];simp,fun e he=>?_,by rw[v5,v3];omega⟩ (by simp only;omega)
   rcases List.mem_append.1 he with he|he
   ·exact hv e he
   ·rw[v9]at he;subst he;exact Qh x
 obtain⟨r,e,es,rfl,h3,h4⟩:=main;exact⟨es,e,h3,h4⟩
theorem QY(n:Nat)(xs:List Tri)(hx:∀x∈xs,In3 x)(a b c d f:Lv)(g j l m o p q r t u:Int)(v:Bool)(w:Lv)(hn:100<n):
  ∃es:List Ed,ab (fun y s=>dk n y (xs.map bK) a b c d f g j l m o p q r t u v w s.1 s.2) n ((0,([]:Lv)):bI)=some (a,b,c,d,f,g,l,m,o,p,(10+(v6 j 8)),q,r,t,u,v,w,8,edL es)/\(∀e∈es,EdV 8 e/\e.c<=3)/\es.length<=20:=by
 refine IZ n xs _ (fun e=>(a,b,c,d,f,g,l,m,o,p,(10+(v6 j 8)),q,r,t,u,v,w,8,e)) ?_ ?_ hn
 ·intro i es x go hxe hi hl
  obtain⟨k0,k1,k2⟩:=H1 hxe;obtain⟨q0,q1,q2⟩:=hx x (v7 hxe);have hil:=(List.getElem?_eq_some_iff.1 hxe).1;have b0:=aR x.1 (k:=8) (by decide)
  have b1:=aR x.2.1 (k:=7) (by decide)
  show dk n go (xs.map bK) a b c d f g j l m o p q r t u v w (i:Int) (edL es)=_
  unfold dk;rw[k0,k1,k2,kT (show(i:Int)<((xs.map bK).length:Int) by rw[v4];omega),kT (show(i:Int)<20 by omega),kT (show(0:Int)<=(i:Int) by omega),bZ n q0 (by decide),v0,kG (by omega),bZ n q1 (by decide),v0,kG (by omega),bZ n q2 (by decide),v0,dZ,kT (by omega),kG (by omega)]
  have:=CK es (edV x)
  unfold edV at this;dsimp only at this
  rw[this];rfl
 ·intro i es go h
  show dk n go (xs.map bK) a b c d f g j l m o p q r t u v w (i:Int) (edL es)=_
  unfold dk;by_cases e:xs.length<=i
  ·rw[kF (show ¬(i:Int)<((xs.map bK).length:Int) by rw[v4];omega)]
  ·rw[kT (show(i:Int)<((xs.map bK).length:Int) by rw[v4];omega),kF (show ¬(i:Int)<20 by omega)]
theorem Rg(n:Nat)(xs:List Tri)(hx:∀x∈xs,In3 x)(b c d a f:Lv)(g j l m o p q r:Int)(t:Bool)(u:Lv)(hn:100<n):
  ∃es:List Ed,ab (fun v s=>iB n v (xs.map bK) b c d a f g j l m o p q r t u s.1 s.2) n ((0,([]:Lv)):bI)=some (b,c,d,a,f,g,l,m,o,p,(10+(v6 j 8)),(cI a (((a.length:Int)-1)-1) 0),(cI a ((a.length:Int)-1) 0),q,r,t,u,8,edL es)/\(∀e∈es,EdV 8 e/\e.c<=3)/\es.length<=20:=by
 refine IZ n xs _ (fun e=>(b,c,d,a,f,g,l,m,o,p,(10+(v6 j 8)),(cI a (((a.length:Int)-1)-1) 0),(cI a ((a.length:Int)-1) 0),q,r,t,u,8,e)) ?_ ?_ hn
 ·intro i es x go hxe hi hl
  obtain⟨k0,k1,k2⟩:=H1 hxe;obtain⟨q0,q1,q2⟩:=hx x (v7 hxe);have hil:=(List.getElem?_eq_some_iff.1 hxe).1;have b0:=aR x.1 (k:=8) (by decide)
  have b1:=aR x.2.1 (k:=7) (by decide)
  show iB n go (xs.map bK) b c d a f g j l m o p q r t u (i:Int) (edL es)=_
  unfold iB;rw[k0,k1,k2,kT (show(i:Int)<((xs.map bK).length:Int) by rw[v4];omega),kT (show(i:Int)<20 by omega),kT (show(0:Int)<=(i:Int) by omega),bZ n q0 (by decide),v0,kG (by omega),bZ n q1 (by decide),v0,kG (by omega),bZ n q2 (by decide),v0,dZ,kT (by omega),kG (by omega)]
  have:=CK es (edV x)
  unfold edV at this;dsimp only at this
  rw[this];rfl
 ·intro i es go h
  show iB n go (xs.map bK) b c d a f g j l m o p q r t u (i:Int) (edL es)=_
  unfold iB;by_cases e:xs.length<=i
  ·rw[kF (show ¬(i:Int)<((xs.map bK).length:Int) by rw[v4];omega)]
  ·rw[kT (show(i:Int)<((xs.map bK).length:Int) by rw[v4];omega),kF (show ¬(i:Int)<20 by omega)]
theorem Q1(n:Nat)(w:dQ->Option aP)(xs:List Tri)(hx:∀x∈xs,In3 x)(d g i:Lv)(h k:List Int)(j c l m o p a b q r:Int)(s:Bool)(u:Lv)(hh:HoV h)(hc:0<=a/\a<=7/\0<=b/\b<=7/\a≠b)(hn:100<n):
  ∃(es:List Ed) (f t:Int),rL n w (xs.map bK) d g i (iL h) (iL k) j c l m o p a b q r s u=some (d,g,i,iL h,iL k,j,l,m,o,p,(10+(v6 c 8)),f,t,q,r,s,u,8,edL es)/\(∀e∈es,EdV 8 e/\e.c<=3)/\es.length<=20/\(0<=f/\f<=7/\0<=t/\t<=7/\f≠t):=by
 have h30:=hh.2.1;obtain⟨es,h9,hv,hl⟩:=QY n xs hx d g i (iL h) (iL k) j c l m o p a b q r s u hn;unfold rL;rw[ah];by_cases e1:(0:Int)<(h.length:Int)-1
 ·rw [kT e1]
  unfold zH;rw[ah];by_cases e2:c<12
  ·have m1:=hh.2.2 _ (iY (h:=h) (v:=h.length-1) (by omega))
   have m2:=hh.2.2 _ (iY (h:=h) (v:=h.length-2) (by omega))
   have g1:cI (iL h) ((h.length:Int)-1) 0=h.getD (h.length-1) 0:=by rw[di];congr 1;omega
   have g2:cI (iL h) (((h.length:Int)-1)-1) 0=h.getD (h.length-2) 0:=by rw[di];congr 1;omega
   rw[kT e2,kT (by omega),kT (by omega)]
   unfold AJ;rw[ah,g1];by_cases e3:0<=h.getD (h.length-1) 0
   ·rw[kT e3,kG (by omega),kT (by omega),kT (by omega)]
    unfold zE;rw[ah,g2];by_cases e4:0<=h.getD (h.length-2) 0
    ·rw[kT e4]
     unfold zM;rw[ah,g1,g2];by_cases e5:h.getD (h.length-1) 0=h.getD (h.length-2) 0
     ·rw[kNT e5]
      exact⟨es,a,b,h9,hv,hl,hc⟩
     ·rw[kNF e5]
      obtain⟨es',h8,hv',hl'⟩:=Rg n xs hx d g i (iL h) (iL k) j c l m o p q r s u hn;rw[ah,g1,g2]at h8;exact⟨es',_,_,h8,hv',hl',e4,m2.2,e3,m1.2,fun e=>e5 e.symm⟩
    ·rw[kF e4]
     exact⟨es,a,b,h9,hv,hl,hc⟩
   ·rw[kF e3]
    exact⟨es,a,b,h9,hv,hl,hc⟩
  ·rw[kF e2]
   exact⟨es,a,b,h9,hv,hl,hc⟩
 ·rw[kF e1]
  exact⟨es,a,b,h9,hv,hl,hc⟩
structure Nm where
 lives:List (List Tri)
 sets:List (Int×Int×Int×Int×Int)
 cond:Int
 hol:List Int
 kn:List Int
 lag:Int
 r0:Int
 r1:Int
 r2:Int
 r3:Int
 c0:Int
 c1:Int
 c2:Int
 c3:Int
 c4:Int
 c5:Int
 evs:List Tri
 net:List Tri
structure Nm.ok (x:Nm):Prop where
 lives:∀l∈x.lives,∀y∈l,In3 y
 sets:∀y∈x.sets,In5 y
 cond:ax x.cond
 hol:∀y∈x.hol,ax y
 kn:∀y∈x.kn,ax y
 lag:ax x.lag
 r0:ax x.r0
 r1:ax x.r1
 r2:ax x.r2
 r3:ax x.r3
 c0:ax x.c0
 c1:ax x.c1
 c2:ax x.c2
 c3:ax x.c3
 c4:ax x.c4
 c5:ax x.c5
 evs:∀y∈x.evs,In3 y
 net:∀y∈x.net,In3 y
abbrev grT(g:Gr):aP:=(lnL g.ls,seL g.ss,coL g.cs,iL g.h,iL g.k,g.lag,g.r.a,g.r.c,g.r.s,g.r.r,g.c.n,g.c.f,g.c.t,g.c.h,g.c.a,g.c.b,ceL g.ce,g.nn,edL g.es)
structure MadeV (g:Gr):Prop where
 val:GrV g
 small:Small g
 ls:∀x∈g.ls,10<=x.1/\x.1<=17
 to:∀s∈g.ss,s.t<=17
 h12:g.h.length<=12
 cap:∀e∈g.es,e.c<=3
 es20:g.es.length<=20
 cn:10<=g.c.n/\g.c.n<=17
 ca:g.c.a<1000
 ce10:g.ce.length<=10
 cea:∀e∈g.ce,e.a<=900000
 rr:g.r.a<=86400/\g.r.c<=86400/\g.r.s<=86400/\g.r.r<=86400
theorem Hz{y:Int×List Ev}:∀(l:List (Int×List Ev)) (last:Int),LsV last l->(∀x∈l,x.1<y.1)->last<y.1->y.1<=99999999->iV y.2->LsV last (l++[y])
 |[],last,_,_,h1,h2,h3=>⟨h3,h1,h2,trivial⟩
 |x::l,last,⟨a1,a2,a3,a4⟩,hx,h1,h2,h3=>
  ⟨a1,a2,a3,Hz l x.1 a4 (fun z hz=>hx z (y7 _ hz)) (hx x (y0 ..)) h2 h3⟩
theorem N1:∀k:Fin 8,iV [⟨1,0,(k.val:Int)⟩]:=by decide +kernel
theorem NC(l:List (Int×List Ev))(a:Int)(e:List Ev):lnL l++[[AV.int a,AV.sl (.cons .int (.cons .int (.cons .int .nil))) (evL e)]]=lnL (l++[(a,e)]):=by show _=R5 _ _;rw[RV];rfl
theorem I8(n:Nat)(x:Nm)(hx:x.ok)(hn:1001<n):∃g,nr n (x.lives.map qT) (x.sets.map ju) x.cond (iL x.hol) (iL x.kn) x.lag x.r0 x.r1 x.r2 x.r3 x.c0 x.c1 x.c2 x.c3 x.c4 x.c5 (x.evs.map bK) (x.net.map bK)=some (grT g)/\MadeV g:=by
 have main:∃r,nr n (x.lives.map qT) (x.sets.map ju) x.cond (iL x.hol) (iL x.kn) x.lag x.r0 x.r1 x.r2 x.r3 x.c0 x.c1 x.c2 x.c3 x.c4 x.c5 (x.evs.map bK) (x.net.map bK)=some r/\∃g,r=grT g/\MadeV g:=by
  unfold nr Ar;refine dG (fun s=>∃(ls:List (Int×List Ev)) (i:Nat),s=((i:Int),lnL ls)/\i<=8/\ls.length<=i/\LsV (-1) ls/\∀y∈ls,10<=y.1/\y.1<10+i) (fun s=>8-s.1.toNat) (fun r=>∃g,r=grT g/\MadeV g) ?_ n _ ⟨[],0,rfl,by omega,by simp,trivial,fun y hy=>by cases hy⟩ (by simp;omega)
  rintro _ go ⟨ls,i,rfl,hi,hl,hv,hb⟩ ih;show ∃r,rI n go (x.lives.map qT) (x.sets.map ju) x.cond (iL x.hol) (iL x.kn) x.lag x.r0 x.r1 x.r2 x.r3 x.c0 x.c1 x.c2 x.c3 x.c4 x.c5 (x.evs.map bK) (x.net.map bK) (i:Int) (lnL ls)=some r/\_
  unfold rI;by_cases e1:(i:Int)<8
  ·rw[kT e1]
   have hadd:∀es:List Ev,iV es->∃r,go ((i:Int)+1,lnL ls++[[AV.int (10+(i:Int)),AV.sl (.cons .int (.cons .int (.cons .int .nil))) (evL es)]])=some r/\∃g,r=grT g/\MadeV g:=by
    intro es hes;rw[NC];refine ih _ ⟨ls++[(10+(i:Int),es)],i+1,by simp,by omega,by rw[v5,v3];omega,Hz ls (-1) hv (fun y hy=>by have:=hb y hy;dsimp only;omega) (by dsimp only;omega) (by dsimp only;omega) hes,fun y hy=>?_⟩ (by simp only;omega)
    rcases List.mem_append.1 hy with hy|hy
    ·have:=hb y hy;omega
    ·rw[v9]at hy;subst hy;dsimp only;omega
   by_cases e2:(i:Int)<((x.lives.map qT).length:Int)
   ·have hil:i<x.lives.length:=by rw[v4]at e2;omega
    obtain⟨l,hle⟩:=aF hil;obtain⟨es,hes,hA,h16⟩:=Hx n l (hx.lives l (v7 hle)) (by omega)
    rw[kT e2,kT (by omega),NG hle,hes,v0]
    by_cases e3:(0:Int)<((evL es).length:Int)
    ·rw[kT e3,kG (by omega),fx,kT (by omega),kG (by omega)]
     exact hadd es ⟨hA,by omega⟩
    ·rw[kF e3,kG (by omega)]
     exact ih _ ⟨ls,i+1,by simp,by omega,by omega,hv,fun y hy=>by have:=hb y hy;omega⟩ (by simp only;omega)
   ·rw[kF e2,kG (by omega),fx,kT (by omega),kG (by omega)]
    exact hadd [⟨1,0,(i:Int)⟩] (N1 ⟨i,by omega⟩)
  ·rw[kF e1]
   have hi8:i=8:=by omega
   obtain⟨ss,hss,sv,s16,sto⟩:=Ix n x.sets hx.sets (by omega)
   obtain⟨cs,hcs,cl,cv⟩:=Ax n x.cond hx.cond (by omega)
   obtain⟨h,k,lg,hhk,rv,h12⟩:=Iw n x.hol x.kn x.lag hx.hol hx.kn hx.lag (by omega)
   have b16:=aR x.c0 (k:=16) (by decide)
   have b60:=aR x.c4 (k:=60) (by decide)
   have i60:ax (pk x.c4 60):=by unfold ax;omega
   obtain⟨C,es,hC,hCV,hCa,hC10,hCe⟩:=HL n x.r0 x.r1 x.r2 x.r3 x.c0 x.c1 x.c2 x.c3 (pk x.c4 60) x.c5 x.evs hx.r0 hx.r1 hx.r2 hx.r3 hx.c0 hx.c1 hx.c2 hx.c3 i60 hx.c5 hx.evs (by omega)
   have bt:=qR (a:=pk x.c0 16) (k:=8) b16.1 (by decide)
   have hh:=rv.1;have h1:=hh.1;have h30:=hh.2.1;have hClV:=hCV.2.1;unfold ClV at hClV;obtain⟨ed,f,t,h3,hev,h20,hft⟩:=Q1 n go x.net hx.net (lnL ls) (seL ss) (coL cs) h k lg (pk x.c0 16) (mr x.r0) (mr x.r1) (mr x.r2) (mr x.r3) C.f C.t C.h C.a C.b (ceL es) hh ⟨by omega,by omega,by omega,by omega,by omega⟩ (by omega)
   rw[hss,v0,hcs,v0,hhk,v0,bZ n hx.c0 (by decide),v0,bZ n hx.c4 (by decide),v0,hC,v0]
   dsimp only;rw[ah,kG (by omega),kG (by omega),h3]
   refine⟨_,rfl,⟨ls,ss,cs,h,k,lg,mrR x.r0 x.r1 x.r2 x.r3,⟨10+v6 (pk x.c0 16) 8,f,t,C.h,C.a,C.b⟩,es,8,ed⟩,rfl,?_⟩
   have hcl:eP (mrR x.r0 x.r1 x.r2 x.r3) ⟨10+v6 (pk x.c0 16) 8,f,t,C.h,C.a,C.b⟩ es:=⟨hCV.1,by unfold ClV;dsimp only;omega,hCV.2.2.1,hCV.2.2.2⟩
   refine⟨⟨by dsimp only;omega,hv,⟨sv,by dsimp only;omega,cv⟩,rv,hcl,⟨by dsimp only;omega,by dsimp only;omega,by dsimp only;omega,fun e he=>(hev e he).1⟩,rfl⟩,⟨by dsimp only;omega,fun y hy=>?_,by dsimp only;omega,by dsimp only;omega,by dsimp only;omega,by dsimp only;omega⟩,fun y hy=>by have:=hb y hy;omega,sto,h12,fun e he=>(hev e he).2,h20,by dsimp only;omega,hCa,hC10,hCe,F9 ..⟩
   have:∀(l:List (Int×List Ev)) (last:Int),LsV last l->∀y∈l,y.2.length<=40:=by
    intro l;induction l with
    |nil=>intro _ _ y hy;cases hy
    |cons z l ih=>
     rintro last ⟨a1,a2,a3,a4⟩ y hy;rcases List.mem_cons.1 hy with rfl|hy
     ·exact a1.2
     ·exact ih _ a4 y hy
   have:=this ls _ hv y hy
   omega
 obtain⟨r,e,g,rfl,h⟩:=main;exact⟨g,e,h⟩
end Go.Proofs.YtbfkkigbedmhgaaGreat
namespace Go.Proofs.YtbfkkigbedmhgaaGreat
open Go Go.Sx
noncomputable section
abbrev mM:=Lv×Lv×Lv×Lv×Lv×Int×Int×Int×Int×Int×Int×Int×Int×Int×Int×Bool×Lv×Int×Lv
def za(n:Nat)(q s t u p:Lv)(z v w x y d e f g h:Int)(i:Bool)(j:Lv)(k:Int)(l:Lv)(b c m o:Int):Option mM:=
 (bif o=1 then bif ((((([]:Lv)++[[(AV.int 1),(AV.sl (.cons .int (.cons .int (.cons .int .nil))) (([]:Lv)++[[(AV.int c),(AV.int 0),(AV.int m)]]))]])++q).length:Int)*32)<=140737488355328 then some (((([]:Lv)++[[(AV.int 1),(AV.sl (.cons .int (.cons .int (.cons .int .nil))) (([]:Lv)++[[(AV.int c),(AV.int 0),(AV.int m)]]))]])++q),s,t,u,p,z,v,w,x,y,d,e,f,g,h,i,j,k,l)else none else(bif o=2 then bif(-9223372036854775808<=(v8 b 7))&&((v8 b 7)<=9223372036854775807)then(qE n s t (v8 b 7) c m).bind fun a=>
 some (q,a.1,a.2,u,p,z,v,w,x,y,d,e,f,g,h,i,j,k,l)else none else(bif o=3 then some (q,s,t,u,p,c,v,w,x,y,d,e,f,g,h,i,j,k,l)else(bif o=4 then bif ((p.length:Int)*8)<=140737488355328 then(bX n m 8).bind fun a=>
 bif 0<=a then bif a<(p.length:Int) then some (q,s,t,u,(v1 p (a).toNat (fun r=>r.set 0 (AV.int c))),z,v,w,x,y,d,e,f,g,h,i,j,k,l)else none else none else none else(bif o=5 then bif(-9223372036854775808<=(v8 b 7))&&((v8 b 7)<=9223372036854775807)then(qF n v w x y d e f g h i j (v8 b 7) c m).bind fun a=>
 some (q,s,t,u,p,z,a.1,a.2.1,a.2.2.1,a.2.2.2.1,a.2.2.2.2.1,a.2.2.2.2.2.1,a.2.2.2.2.2.2.1,a.2.2.2.2.2.2.2.1,a.2.2.2.2.2.2.2.2.1,a.2.2.2.2.2.2.2.2.2.1,a.2.2.2.2.2.2.2.2.2.2,k,l)else none else bif(-9223372036854775808<=(v8 b 7))&&((v8 b 7)<=9223372036854775807)then(qu n k l (v8 b 7) c m).bind fun a=>
 some (q,s,t,u,p,z,v,w,x,y,d,e,f,g,h,i,j,a.1,a.2)else none)))))
def zQ(n:Nat)(a p q s t:Lv)(u v w x y b c d e f:Int)(g:Bool)(h:Lv)(i:Int)(j:Lv)(z l m o:Int):Option mM:=
 (bif o=0 then bif ((a.length:Int)*32)<=140737488355328 then(bif 0<(a.length:Int) then(bX n m (a.length:Int)).bind fun k=>
 bif 0<=k then bif k<(a.length:Int) then some ((v1 a (k).toNat (fun r=>r.set 0 (AV.int l))),p,q,s,t,u,v,w,x,y,b,c,d,e,f,g,h,i,j)else none else none else some (a,p,q,s,t,u,v,w,x,y,b,c,d,e,f,g,h,i,j))else none else za n a p q s t u v w x y b c d e f g h i j z l m o)
def Aq(n:Nat)(o p q r s:Lv)(t u v w x b c d e f:Int)(g:Bool)(h:Lv)(i:Int)(j:Lv)(a k l:Int):Option mM:=
 (bX n a 7).bind fun m=>
 zQ n o p q r s t u v w x b c d e f g h i j a k l m
def qp(n:Nat)(m o p q r:Lv)(s t u v w a b c d e:Int)(f:Bool)(g:Lv)(h:Int)(i:Lv)(j k l:Int):Option mM:=Aq n m o p q r s t u v w a b c d e f g h i j k l
def ref28_Bent_t:FnT:=⟨[(true,[(.sl (.cons .int (.cons tSc .nil))),(.sl (.cons .int (.cons .int (.cons .int (.cons .int (.cons .int .nil)))))),(.sl (.cons .int (.cons .int .nil))),tSa,tSa,.int,.int,.int,.int,.int,.int,.int,.int,.int,.int,.bool,tSc,.int,tSc]),(false,[.int]),(false,[.int]),(false,[.int])],(.agg (.cons (.row 1000080 (.cons .int (.cons tSc .nil))) (.cons (.row 1000162 (.cons .int (.cons .int (.cons .int (.cons .int (.cons .int .nil)))))) (.cons (.row 1000198 (.cons .int (.cons .int .nil))) (.cons (.row 1000003 (.cons .int .nil)) (.cons (.row 1000003 (.cons .int .nil)) (.cons .i (.cons .i (.cons .i (.cons .i (.cons .i (.cons .i (.cons .i (.cons .i (.cons .i (.cons .i (.cons .b (.cons (.row 1000166 (.cons .int (.cons .int (.cons .int .nil)))) (.cons .i (.cons (.row 1000073 (.cons .int (.cons .int (.cons .int .nil)))) .nil)))))))))))))))))))),fun n (s:Lv×Lv×Lv×Lv×Lv×Int×Int×Int×Int×Int×Int×Int×Int×Int×Int×Bool×Lv×Int×Lv×Int×Int×Int)=>qp n s.1 s.2.1 s.2.2.1 s.2.2.2.1 s.2.2.2.2.1 s.2.2.2.2.2.1 s.2.2.2.2.2.2.1 s.2.2.2.2.2.2.2.1 s.2.2.2.2.2.2.2.2.1 s.2.2.2.2.2.2.2.2.2.1 s.2.2.2.2.2.2.2.2.2.2.1 s.2.2.2.2.2.2.2.2.2.2.2.1 s.2.2.2.2.2.2.2.2.2.2.2.2.1 s.2.2.2.2.2.2.2.2.2.2.2.2.2.1 s.2.2.2.2.2.2.2.2.2.2.2.2.2.2.1 s.2.2.2.2.2.2.2.2.2.2.2.2.2.2.2.1 s.2.2.2.2.2.2.2.2.2.2.2.2.2.2.2.2.1 s.2.2.2.2.2.2.2.2.2.2.2.2.2.2.2.2.2.1 s.2.2.2.2.2.2.2.2.2.2.2.2.2.2.2.2.2.2.1 s.2.2.2.2.2.2.2.2.2.2.2.2.2.2.2.2.2.2.2.1 s.2.2.2.2.2.2.2.2.2.2.2.2.2.2.2.2.2.2.2.2.1 s.2.2.2.2.2.2.2.2.2.2.2.2.2.2.2.2.2.2.2.2.2⟩
theorem GY:ref28_Bent_t.ok Tryz.prog 15:=FnT.ok_of (cfg:=⟨[],rY,[],aq⟩) az uc ay (fun s fn hf=>by rw[Tryz.func15]at hf;cases hf;kernel_rfl) (fun n s=>by kernel_rfl)
def ref28_Bent_T:Tab:=(15,ref28_Bent_t)::ref28_Made_T
theorem uL:ref28_Bent_T.ok Tryz.prog:=Tab.ok_cons GY uc
abbrev nQ:=Int×Int×Int×Lv×Lv×Lv×Int
def nM(n:Nat)(h i d:Int)(e f b:Lv)(j k g l:Int):Option nQ:=
 (bX n k 5).bind fun c=>
 (bif c=0 then some (g,i,d,e,f,b,j)else(bif c=1 then some (h,g,d,e,f,b,j)else(bif c=2 then bif(-9223372036854775808<=(v8 k 5))&&((v8 k 5)<=9223372036854775807)then(jK n d e f (v8 k 5) g).bind fun a=>
 some (h,i,a.1,a.2.1,a.2.2,b,j)else none else(bif c=3 then some (h,i,d,e,f,b,g)else bif ((b.length:Int)*16)<=140737488355328 then(bif (b.length:Int)=0 then some (h,i,d,e,f,(([]:Lv)++[[(AV.int g),(AV.int 0)]]),j)else(bX n l (b.length:Int)).bind fun a=>
 bif 0<=a then bif a<(b.length:Int) then some (h,i,d,e,f,(v1 b (a).toNat (fun r=>r.set 1 (AV.int g))),j)else none else none)else none))))
def hY(n:Nat)(a b c:Int)(d e f:Lv)(g h i j:Int):Option nQ:=nM n a b c d e f g h i j
def ref28_BentRefusal_t:FnT:=⟨[(true,[.int,.int,.int,tSa,tSa,(.sl (.cons .int (.cons .int .nil))),.int]),(false,[.int]),(false,[.int]),(false,[.int])],(.agg (.cons .i (.cons .i (.cons .i (.cons (.row 1000003 (.cons .int .nil)) (.cons (.row 1000003 (.cons .int .nil)) (.cons (.row 1000094 (.cons .int (.cons .int .nil))) (.cons .i .nil)))))))),fun n (s:Int×Int×Int×Lv×Lv×Lv×Int×Int×Int×Int)=>hY n s.1 s.2.1 s.2.2.1 s.2.2.2.1 s.2.2.2.2.1 s.2.2.2.2.2.1 s.2.2.2.2.2.2.1 s.2.2.2.2.2.2.2.1 s.2.2.2.2.2.2.2.2.1 s.2.2.2.2.2.2.2.2.2⟩
theorem wS:ref28_BentRefusal_t.ok Tryz.prog 22:=FnT.ok_of (cfg:=⟨[],rY,[],aq⟩) az uL ay (fun s fn hf=>by rw[Tryz.func22]at hf;cases hf;kernel_rfl) (fun n s=>by kernel_rfl)
def ref28_BentRefusal_T:Tab:=(22,ref28_BentRefusal_t)::ref28_Bent_T
theorem lw:ref28_BentRefusal_T.ok Tryz.prog:=Tab.ok_cons wS uL
def EO:List Nat:=[12,13,14,15,16,17,18,19,20,21,22,23,24,25,26,27,28,29,30,31,32,33,34,37,38,39,40,43,44,45,46,47,48,49,50,51,52,53,54,55,56,57,58,59,62,65,66,67,68,69,70,71,72,73,74,75,76,77,78,84,85,86,87,89,95,105,106,107,108,109,110,111,112,114,115,116,117,120,122,130,132,149,150,152,153,159,176,178,179,180,182,183,184,186,187,193,202,203,204,210,211,1000015,1000016,1000017,1000018,1000019,1000022,1000049,1000050,1000051,1000052,1000053,1000062,2000151,2000152,2000217,2000247,2000248,2000249]
abbrev eu:=Bool
abbrev kV:=Int
def dl(n:Nat)(d:kV->Option eu)(v w x y z:Lv)(A B C D E e f g h i:Int)(j:Bool)(k:Lv)(l:Int)(m:Lv)(o p q:Int)(b r s:Lv)(t c a:Int):Option eu:=
 (bif a<(b.length:Int) then bif 0<=a then(bif c=(cI b a 0) then(cT n v w x y z A B C D E e f g h i j k l m o p q b r s t c).bind fun u=>
 some (!u)else bif(-9223372036854775808<=(a+1))&&((a+1)<=9223372036854775807)then d (a+1)else none)else none else some false)
def lF(n:Nat)(u v w x y:Lv)(z A B C D a b c d e:Int)(f:Bool)(g:Lv)(h:Int)(i:Lv)(j k l:Int)(m o p:Lv)(q r:Int):Option eu:=
 (ab (fun t s=>dl n t u v w x y z A B C D a b c d e f g h i j k l m o p q r s) n (0:kV))
def bh(n:Nat)(s t u v w:Lv)(x y z A B a b c d e:Int)(f:Bool)(g:Lv)(h:Int)(i:Lv)(j k l:Int)(m o p:Lv)(q r:Int):Option eu:=lF n s t u v w x y z A B a b c d e f g h i j k l m o p q r
def refusal_call__isLost_t:FnT:=⟨[(true,[(.sl (.cons .int (.cons tSc .nil))),(.sl (.cons .int (.cons .int (.cons .int (.cons .int (.cons .int .nil)))))),(.sl (.cons .int (.cons .int .nil))),tSa,tSa,.int,.int,.int,.int,.int,.int,.int,.int,.int,.int,.bool,tSc,.int,tSc,.int,.int,.int,tSa,tSa,(.sl (.cons .int (.cons .int .nil))),.int]),(false,[.int])],.b,fun n (s:Lv×Lv×Lv×Lv×Lv×Int×Int×Int×Int×Int×Int×Int×Int×Int×Int×Bool×Lv×Int×Lv×Int×Int×Int×Lv×Lv×Lv×Int×Int)=>bh n s.1 s.2.1 s.2.2.1 s.2.2.2.1 s.2.2.2.2.1 s.2.2.2.2.2.1 s.2.2.2.2.2.2.1 s.2.2.2.2.2.2.2.1 s.2.2.2.2.2.2.2.2.1 s.2.2.2.2.2.2.2.2.2.1 s.2.2.2.2.2.2.2.2.2.2.1 s.2.2.2.2.2.2.2.2.2.2.2.1 s.2.2.2.2.2.2.2.2.2.2.2.2.1 s.2.2.2.2.2.2.2.2.2.2.2.2.2.1 s.2.2.2.2.2.2.2.2.2.2.2.2.2.2.1 s.2.2.2.2.2.2.2.2.2.2.2.2.2.2.2.1 s.2.2.2.2.2.2.2.2.2.2.2.2.2.2.2.2.1 s.2.2.2.2.2.2.2.2.2.2.2.2.2.2.2.2.2.1 s.2.2.2.2.2.2.2.2.2.2.2.2.2.2.2.2.2.2.1 s.2.2.2.2.2.2.2.2.2.2.2.2.2.2.2.2.2.2.2.1 s.2.2.2.2.2.2.2.2.2.2.2.2.2.2.2.2.2.2.2.2.1 s.2.2.2.2.2.2.2.2.2.2.2.2.2.2.2.2.2.2.2.2.2.1 s.2.2.2.2.2.2.2.2.2.2.2.2.2.2.2.2.2.2.2.2.2.2.1 s.2.2.2.2.2.2.2.2.2.2.2.2.2.2.2.2.2.2.2.2.2.2.2.1 s.2.2.2.2.2.2.2.2.2.2.2.2.2.2.2.2.2.2.2.2.2.2.2.2.1 s.2.2.2.2.2.2.2.2.2.2.2.2.2.2.2.2.2.2.2.2.2.2.2.2.2.1 s.2.2.2.2.2.2.2.2.2.2.2.2.2.2.2.2.2.2.2.2.2.2.2.2.2.2⟩
theorem sW:refusal_call__isLost_t.ok Tryz.prog 65:=FnT.ok_of (cfg:=⟨[((158,2,0),.inv [.tmp 8 .int])],EO,[],aq⟩) az lw ay (fun s fn hf=>by rw[Tryz.func65]at hf;cases hf;kernel_rfl) (fun n s=>by kernel_rfl)
def refusal_call__isLost_T:Tab:=(65,refusal_call__isLost_t)::ref28_BentRefusal_T
theorem jC:refusal_call__isLost_T.ok Tryz.prog:=Tab.ok_cons sW lw
abbrev cP:=Bool
abbrev cc:=Int
def gf(n:Nat)(c:cc->Option cP)(d b:Lv)(a:Int):Option cP:=
 (bif a<(d.length:Int) then bif 0<=a then bif a<(b.length:Int) then(bif(!((decide ((cI d a 0)=(cI b a 0)))&&(decide ((cI d a 1)=(cI b a 1)))))then some false else bif(-9223372036854775808<=(a+1))&&((a+1)<=9223372036854775807)then c (a+1)else none)else none else none else some true)
def gg(n:Nat)(b:cc->Option cP)(h i:Int)(f g:Lv)(j k l:Int)(c d:Lv)(e a:Int):Option cP:=
 (bif a<(f.length:Int) then bif 0<=a then bif a<(c.length:Int) then(bif !((cI f a 0)=(cI c a 0))then some false else bif(-9223372036854775808<=(a+1))&&((a+1)<=9223372036854775807)then b (a+1)else none)else none else none else(bif((decide (h=k))&&((decide (i=l))&&(decide (j=e))))then(bif !((g.length:Int)=(d.length:Int))then some false else(ab (fun b s=>gf n b g d s) n (0:cc)))else some false))
def gd(n:Nat)(b:cc->Option cP)(i j:Int)(g h k:Lv)(l m o:Int)(c d e:Lv)(f a:Int):Option cP:=
 (bif a<(g.length:Int) then bif 0<=a then bif a<(c.length:Int) then(bif !((cI g a 0)=(cI c a 0))then some false else bif(-9223372036854775808<=(a+1))&&((a+1)<=9223372036854775807)then b (a+1)else none)else none else none else(bif !((h.length:Int)=(d.length:Int))then some false else(ab (fun b s=>gg n b i j h k l m o d e f s) n (0:cc))))
def xR(n:Nat)(g h i:Int)(f j k:Lv)(l m o p:Int)(a b c:Lv)(d:Int):Option cP:=
 (bif i=p then(bif !((f.length:Int)=(a.length:Int))then some false else(ab (fun e s=>gd n e g h f j k l m o a b c d s) n (0:cc)))else some false)
def ar(n:Nat)(e f g:Int)(h i j:Lv)(k l m o:Int)(a b c:Lv)(d:Int):Option cP:=xR n e f g h i j k l m o a b c d
def refusal_are_t:FnT:=⟨[(true,[.int,.int,.int,tSa,tSa,(.sl (.cons .int (.cons .int .nil))),.int]),(true,[.int,.int,.int,tSa,tSa,(.sl (.cons .int (.cons .int .nil))),.int])],.b,fun n (s:Int×Int×Int×Lv×Lv×Lv×Int×Int×Int×Int×Lv×Lv×Lv×Int)=>ar n s.1 s.2.1 s.2.2.1 s.2.2.2.1 s.2.2.2.2.1 s.2.2.2.2.2.1 s.2.2.2.2.2.2.1 s.2.2.2.2.2.2.2.1 s.2.2.2.2.2.2.2.2.1 s.2.2.2.2.2.2.2.2.2.1 s.2.2.2.2.2.2.2.2.2.2.1 s.2.2.2.2.2.2.2.2.2.2.2.1 s.2.2.2.2.2.2.2.2.2.2.2.2.1 s.2.2.2.2.2.2.2.2.2.2.2.2.2⟩
theorem Fp:refusal_are_t.ok Tryz.prog 67:=FnT.ok_of (cfg:=⟨[((97,4,2),.inv [(.tmp 13 .int)]),((97,4,3),.inv [(.tmp 13 .int)]),((191,4,6),.inv [(.tmp 13 .int)])],EO,[],aq⟩) az jC ay (fun s fn hf=>by rw[Tryz.func67]at hf;cases hf;kernel_rfl) (fun n s=>by kernel_rfl)
def refusal_are_T:Tab:=(67,refusal_are_t)::refusal_call__isLost_T
theorem sg:refusal_are_T.ok Tryz.prog:=Tab.ok_cons Fp jC
abbrev aA:=Bool
abbrev bj:=Int
def jB(n:Nat)(N:bj->Option aA)(O:bj->Option aA)(P:Int)(Q:Lv)(R a e g:Int)(h i j:Lv)(f:Int)(p q r s t:Lv)(u v w x y z A B C D:Int)(E:Bool)(F:Lv)(G:Int)(H:Lv)(I J K:Int)(c L d:Lv)(M b m:Int):Option aA:=
 (bif (cI c b 0)=(cI c m 0) then(cT n p q r s t u v w x y z A B C D E F G H I J K c L d M (cI c b 0)).bind fun S=>
 (bif(!S)then(bif b<0 then some false else(bif a=1 then(bh n p q r s t u v w x y z A B C D E F G H I J K c L d M e).bind fun k=>
 (bif k then(ar n a e g h i j f a e 0 ([]:Lv) ([]:Lv) ([]:Lv) 0).bind fun o=>
 some o else(ar n a e g h i j f a (cI c b 0) 0 ([]:Lv) ([]:Lv) ([]:Lv) 0).bind fun o=>
 some o)else(bif a=7 then bif(-9223372036854775808<=((d.length:Int)-1))&&(((d.length:Int)-1)<=9223372036854775807)then bif 0<=((d.length:Int)-1) then bif ((d.length:Int)-1)<(d.length:Int) then(bn n P Q R (cI d ((d.length:Int)-1) 0) f).bind fun k=>
 (bif k.2 then(bif k.1=0 then(ar n a e g h i j f a (cI c b 0) 0 ([]:Lv) ([]:Lv) ([]:Lv) f).bind fun l=>
 some l else(ar n a e g h i j f a (cI c b 0) 0 ([]:Lv) ([]:Lv) ([]:Lv) 0).bind fun l=>
 some l)else(ar n a e g h i j f a (cI c b 0) 0 ([]:Lv) ([]:Lv) ([]:Lv) 0).bind fun l=>
 some l)else none else none else none else(ar n a e g h i j f a (cI c b 0) 0 ([]:Lv) ([]:Lv) ([]:Lv) 0).bind fun k=>
 some k)))else bif(-9223372036854775808<=(b+1))&&((b+1)<=9223372036854775807)then N (b+1)else none)else bif(-9223372036854775808<=(m+1))&&((m+1)<=9223372036854775807)then O (m+1)else none)
def dg(n:Nat)(c:bj->Option aA)(e:bj->Option aA)(f:Int)(g:Lv)(h i j k:Int)(l m o:Lv)(p:Int)(q r s t u:Lv)(v w x y z A B C D E:Int)(F:Bool)(G:Lv)(H:Int)(I:Lv)(J K L:Int)(d M N:Lv)(O a b:Int):Option aA:=
 (bif b<(d.length:Int) then bif 0<=b then jB n c e f g h i j k l m o p q r s t u v w x y z A B C D E F G H I J K L d M N O a b else none else bif(-9223372036854775808<=(a+1))&&((a+1)<=9223372036854775807)then c (a+1)else none)
def dK(n:Nat)(c:bj->Option aA)(d:Int)(e:Lv)(f g h i:Int)(j k l:Lv)(m:Int)(o p q r t:Lv)(u v w x y z A B C D:Int)(E:Bool)(F:Lv)(G:Int)(H:Lv)(I J K:Int)(b L M:Lv)(N a:Int):Option aA:=
 (bif a<(b.length:Int) then bif 0<=a then(ab (fun O s=>dg n c O d e f g h i j k l m o p q r t u v w x y z A B C D E F G H I J K b L M N a s) n (0:bj))else none else some false)
def rN(n:Nat)(p:Int)(q:Lv)(r a b i:Int)(j k l:Lv)(c:Int)(s t u v w:Lv)(x y z A B C D E F G:Int)(H:Bool)(I:Lv)(J:Int)(K:Lv)(L M d:Int)(f g e:Lv)(N:Int):Option aA:=
 (bif d=5 then(bif a=1 then(bh n s t u v w x y z A B C D E F G H I J K L M d f g e N b).bind fun h=>
 (bif h then(ar n a b i j k l c a b d f g ([]:Lv) 0).bind fun o=>
 some o else(ar n a b i j k l c a 0 d f g ([]:Lv) 0).bind fun o=>
 some o)else(bif a=7 then bif(-9223372036854775808<=((e.length:Int)-1))&&(((e.length:Int)-1)<=9223372036854775807)then bif 0<=((e.length:Int)-1) then bif ((e.length:Int)-1)<(e.length:Int) then(bn n p q r (cI e ((e.length:Int)-1) 0) c).bind fun h=>
 (bif h.2 then(bif h.1=0 then(ar n a b i j k l c a 0 d f g ([]:Lv) c).bind fun m=>
 some m else(ar n a b i j k l c a 0 d f g ([]:Lv) 0).bind fun m=>
 some m)else(ar n a b i j k l c a 0 d f g ([]:Lv) 0).bind fun m=>
 some m)else none else none else none else(ar n a b i j k l c a 0 d f g ([]:Lv) 0).bind fun h=>
 some h))else(bif !(d=6)then some false else(bif a=1 then(bh n s t u v w x y z A B C D E F G H I J K L M d f g e N b).bind fun h=>
 (bif h then(ar n a b i j k l c a b d f g ([]:Lv) 0).bind fun o=>
 some o else(ar n a b i j k l c a 0 d f g ([]:Lv) 0).bind fun o=>
 some o)else(bif a=7 then bif(-9223372036854775808<=((e.length:Int)-1))&&(((e.length:Int)-1)<=9223372036854775807)then bif 0<=((e.length:Int)-1) then bif ((e.length:Int)-1)<(e.length:Int) then(bn n p q r (cI e ((e.length:Int)-1) 0) c).bind fun h=>
 (bif h.2 then(bif h.1=0 then(ar n a b i j k l c a 0 d f g ([]:Lv) c).bind fun m=>
 some m else(ar n a b i j k l c a 0 d f g ([]:Lv) 0).bind fun m=>
 some m)else(ar n a b i j k l c a 0 d f g ([]:Lv) 0).bind fun m=>
 some m)else none else none else none else(ar n a b i j k l c a 0 d f g ([]:Lv) 0).bind fun h=>
 some h))))
def rj(n:Nat)(P:Int)(Q:Lv)(R b c e:Int)(f g h:Lv)(d:Int)(s t u v w:Lv)(x y z A B C D E F G:Int)(H:Bool)(I:Lv)(o:Int)(p:Lv)(J k K:Int)(L M a:Lv)(q:Int):Option aA:=
 (bif (b-1)=5 then(bif q=1 then(bq n s t u v w x y z A B C D E F G H I o p J k K L M a q).bind fun i=>
 (bif(!i)then some false else(bif b=1 then(bh n s t u v w x y z A B C D E F G H I o p J k K L M a q c).bind fun l=>
 (bif l then(ar n b c e f g h d b c 0 ([]:Lv) ([]:Lv) a 0).bind fun N=>
 some N else(ar n b c e f g h d b 0 0 ([]:Lv) ([]:Lv) a 0).bind fun N=>
 some N)else(bif b=7 then bif(-9223372036854775808<=((a.length:Int)-1))&&(((a.length:Int)-1)<=9223372036854775807)then bif 0<=((a.length:Int)-1) then bif ((a.length:Int)-1)<(a.length:Int) then(bn n P Q R (cI a ((a.length:Int)-1) 0) d).bind fun l=>
 (bif l.2 then(bif l.1=0 then(ar n b c e f g h d b 0 0 ([]:Lv) ([]:Lv) a d).bind fun j=>
 some j else(ar n b c e f g h d b 0 0 ([]:Lv) ([]:Lv) a 0).bind fun j=>
 some j)else(ar n b c e f g h d b 0 0 ([]:Lv) ([]:Lv) a 0).bind fun j=>
 some j)else none else none else none else(ar n b c e f g h d b 0 0 ([]:Lv) ([]:Lv) a 0).bind fun l=>
 some l)))else some false)else(bif (b-1)=6 then(bif !(q=1)then some false else bif(-9223372036854775808<=((a.length:Int)-1))&&(((a.length:Int)-1)<=9223372036854775807)then bif 0<=((a.length:Int)-1) then bif ((a.length:Int)-1)<(a.length:Int) then(bif (cI a ((a.length:Int)-1) 0)=k then some false else(jP n o p k (cI a ((a.length:Int)-1) 0)).bind fun i=>
 (bn n o p k (cI a ((a.length:Int)-1) 0) i.2.1).bind fun j=>
 (bif !(j.1=0)then some false else(bif b=1 then(bh n s t u v w x y z A B C D E F G H I o p J k K L M a q c).bind fun m=>
 (bif m then(ar n b c e f g h d b c 0 ([]:Lv) ([]:Lv) a i.2.1).bind fun O=>
 some O else(ar n b c e f g h d b 0 0 ([]:Lv) ([]:Lv) a i.2.1).bind fun O=>
 some O)else(bif b=7 then(bn n P Q R (cI a ((a.length:Int)-1) 0) d).bind fun m=>
 (bif m.2 then(bif m.1=0 then(ar n b c e f g h d b 0 0 ([]:Lv) ([]:Lv) a d).bind fun r=>
 some r else(ar n b c e f g h d b 0 0 ([]:Lv) ([]:Lv) a i.2.1).bind fun r=>
 some r)else(ar n b c e f g h d b 0 0 ([]:Lv) ([]:Lv) a i.2.1).bind fun r=>
 some r)else(ar n b c e f g h d b 0 0 ([]:Lv) ([]:Lv) a i.2.1).bind fun m=>
 some m))))else none else none else none)else none))
def sD(n:Nat)(m:Int)(o:Lv)(p a c e:Int)(f g h:Lv)(d:Int)(q r s t u:Lv)(v w x y z A B C D E:Int)(F:Bool)(G:Lv)(H:Int)(I:Lv)(J K L:Int)(M N b:Lv)(k:Int):Option aA:=
 (bif (a-1)=4 then(bif !(k=3)then some false else(bif a=1 then(bh n q r s t u v w x y z A B C D E F G H I J K L M N b k c).bind fun i=>
 (bif i then(ar n a c e f g h d a c 0 ([]:Lv) ([]:Lv) b 0).bind fun l=>
 some l else(ar n a c e f g h d a 0 0 ([]:Lv) ([]:Lv) b 0).bind fun l=>
 some l)else(bif a=7 then bif(-9223372036854775808<=((b.length:Int)-1))&&(((b.length:Int)-1)<=9223372036854775807)then bif 0<=((b.length:Int)-1) then bif ((b.length:Int)-1)<(b.length:Int) then(bn n m o p (cI b ((b.length:Int)-1) 0) d).bind fun i=>
 (bif i.2 then(bif i.1=0 then(ar n a c e f g h d a 0 0 ([]:Lv) ([]:Lv) b d).bind fun j=>
 some j else(ar n a c e f g h d a 0 0 ([]:Lv) ([]:Lv) b 0).bind fun j=>
 some j)else(ar n a c e f g h d a 0 0 ([]:Lv) ([]:Lv) b 0).bind fun j=>
 some j)else none else none else none else(ar n a c e f g h d a 0 0 ([]:Lv) ([]:Lv) b 0).bind fun i=>
 some i)))else rj n m o p a c e f g h d q r s t u v w x y z A B C D E F G H I J K L M N b k)
def sF(n:Nat)(m:Int)(o:Lv)(p a c e:Int)(f g h:Lv)(d:Int)(q r s t u:Lv)(v w x y z A B C D E:Int)(F:Bool)(G:Lv)(H:Int)(I:Lv)(J K L:Int)(M N b:Lv)(k:Int):Option aA:=
 (bif (a-1)=3 then(bif !(k=2)then some false else(bif a=1 then(bh n q r s t u v w x y z A B C D E F G H I J K L M N b k c).bind fun i=>
 (bif i then(ar n a c e f g h d a c 0 ([]:Lv) ([]:Lv) b 0).bind fun l=>
 some l else(ar n a c e f g h d a 0 0 ([]:Lv) ([]:Lv) b 0).bind fun l=>
 some l)else(bif a=7 then bif(-9223372036854775808<=((b.length:Int)-1))&&(((b.length:Int)-1)<=9223372036854775807)then bif 0<=((b.length:Int)-1) then bif ((b.length:Int)-1)<(b.length:Int) then(bn n m o p (cI b ((b.length:Int)-1) 0) d).bind fun i=>
 (bif i.2 then(bif i.1=0 then(ar n a c e f g h d a 0 0 ([]:Lv) ([]:Lv) b d).bind fun j=>
 some j else(ar n a c e f g h d a 0 0 ([]:Lv) ([]:Lv) b 0).bind fun j=>
 some j)else(ar n a c e f g h d a 0 0 ([]:Lv) ([]:Lv) b 0).bind fun j=>
 some j)else none else none else none else(ar n a c e f g h d a 0 0 ([]:Lv) ([]:Lv) b 0).bind fun i=>
 some i)))else sD n m o p a c e f g h d q r s t u v w x y z A B C D E F G H I J K L M N b k)
def qZ(n:Nat)(p:Int)(q:Lv)(r a c h:Int)(i j k:Lv)(d:Int)(s t u v w:Lv)(x y z A B C D E F G:Int)(H:Bool)(I:Lv)(J:Int)(K:Lv)(L M b:Int)(f g e:Lv)(N:Int):Option aA:=
 (bif (a-1)=2 then(bif 2<=b then(bif !(b<=4)then some false else(bif a=1 then(bh n s t u v w x y z A B C D E F G H I J K L M b f g e N c).bind fun l=>
 (bif l then(ar n a c h i j k d a c b f g ([]:Lv) 0).bind fun o=>
 some o else(ar n a c h i j k d a 0 b f g ([]:Lv) 0).bind fun o=>
 some o)else(bif a=7 then bif(-9223372036854775808<=((e.length:Int)-1))&&(((e.length:Int)-1)<=9223372036854775807)then bif 0<=((e.length:Int)-1) then bif ((e.length:Int)-1)<(e.length:Int) then(bn n p q r (cI e ((e.length:Int)-1) 0) d).bind fun l=>
 (bif l.2 then(bif l.1=0 then(ar n a c h i j k d a 0 b f g ([]:Lv) d).bind fun m=>
 some m else(ar n a c h i j k d a 0 b f g ([]:Lv) 0).bind fun m=>
 some m)else(ar n a c h i j k d a 0 b f g ([]:Lv) 0).bind fun m=>
 some m)else none else none else none else(ar n a c h i j k d a 0 b f g ([]:Lv) 0).bind fun l=>
 some l)))else some false)else sF n p q r a c h i j k d s t u v w x y z A B C D E F G H I J K L M b f g e N)
def uk(n:Nat)(b:Int)(c:Lv)(d a e f:Int)(g h i:Lv)(j:Int)(k l m o p:Lv)(q r s t u v w x y z:Int)(A:Bool)(B:Lv)(C:Int)(D:Lv)(E F G:Int)(H I J:Lv)(K:Int):Option aA:=
 (bif (a-1)=1 then rN n b c d a e f g h i j k l m o p q r s t u v w x y z A B C D E F G H I J K else qZ n b c d a e f g h i j k l m o p q r s t u v w x y z A B C D E F G H I J K)
def uF(n:Nat)(b:Int)(c:Lv)(d a e f:Int)(g h i:Lv)(j:Int)(k l m o p:Lv)(q r t u v w x y z A:Int)(B:Bool)(C:Lv)(D:Int)(E:Lv)(F G H:Int)(I J K:Lv)(L:Int):Option aA:=
 (bif (a-1)=0 then(ab (fun M s=>dK n M b c d a e f g h i j k l m o p q r t u v w x y z A B C D E F G H I J K L s) n (0:bj))else uk n b c d a e f g h i j k l m o p q r t u v w x y z A B C D E F G H I J K L)
def tj(n:Nat)(b:Int)(c:Lv)(d a e f:Int)(g h i:Lv)(j:Int)(k l m o p:Lv)(q r s t u v w x y z:Int)(A:Bool)(B:Lv)(C:Int)(D:Lv)(E F G:Int)(H I J:Lv)(K:Int):Option aA:=
 (bif !(a<=7)then some false else bif(-9223372036854775808<=(a-1))&&((a-1)<=9223372036854775807)then uF n b c d a e f g h i j k l m o p q r s t u v w x y z A B C D E F G H I J K else none)
def m7(n:Nat)(b:Int)(c:Lv)(d a e f:Int)(g h i:Lv)(j:Int)(k l m o p:Lv)(q r s t u v w x y z:Int)(A:Bool)(B:Lv)(C:Int)(D:Lv)(E F G:Int)(H I J:Lv)(K:Int):Option aA:=
 (bif 1<=a then tj n b c d a e f g h i j k l m o p q r s t u v w x y z A B C D E F G H I J K else some false)
def tt(n:Nat)(a:Int)(b:Lv)(c d e f:Int)(g h i:Lv)(j:Int)(k l m o p:Lv)(q r s t u v w x y z:Int)(A:Bool)(B:Lv)(C:Int)(D:Lv)(E F G:Int)(H I J:Lv)(K:Int)(L:Bool):Option aA:=
 (bif(!L)then some false else m7 n a b c d e f g h i j k l m o p q r s t u v w x y z A B C D E F G H I J K)
def uE(n:Nat)(v w x y z:Lv)(A B C D E e f g h i:Int)(j:Bool)(k:Lv)(b:Int)(c:Lv)(l m d o p q:Int)(r s t:Lv)(u:Int):Option aA:=
 (fy n v w x y z A B C D E e f g h i j k b c l m d).bind fun a=>
 tt n b c d o p q r s t u a.1 a.2.1 a.2.2.1 a.2.2.2.1 a.2.2.2.2.1 a.2.2.2.2.2.1 a.2.2.2.2.2.2.1 a.2.2.2.2.2.2.2.1 a.2.2.2.2.2.2.2.2.1 a.2.2.2.2.2.2.2.2.2.1 a.2.2.2.2.2.2.2.2.2.2.1 a.2.2.2.2.2.2.2.2.2.2.2.1 a.2.2.2.2.2.2.2.2.2.2.2.2.1 a.2.2.2.2.2.2.2.2.2.2.2.2.2.1 a.2.2.2.2.2.2.2.2.2.2.2.2.2.2.1 a.2.2.2.2.2.2.2.2.2.2.2.2.2.2.2.1 a.2.2.2.2.2.2.2.2.2.2.2.2.2.2.2.2.1 a.2.2.2.2.2.2.2.2.2.2.2.2.2.2.2.2.2.1 a.2.2.2.2.2.2.2.2.2.2.2.2.2.2.2.2.2.2.1 a.2.2.2.2.2.2.2.2.2.2.2.2.2.2.2.2.2.2.2.1 a.2.2.2.2.2.2.2.2.2.2.2.2.2.2.2.2.2.2.2.2.1 a.2.2.2.2.2.2.2.2.2.2.2.2.2.2.2.2.2.2.2.2.2.1 a.2.2.2.2.2.2.2.2.2.2.2.2.2.2.2.2.2.2.2.2.2.2.1 a.2.2.2.2.2.2.2.2.2.2.2.2.2.2.2.2.2.2.2.2.2.2.2.1 a.2.2.2.2.2.2.2.2.2.2.2.2.2.2.2.2.2.2.2.2.2.2.2.2.1 a.2.2.2.2.2.2.2.2.2.2.2.2.2.2.2.2.2.2.2.2.2.2.2.2.2.1 a.2.2.2.2.2.2.2.2.2.2.2.2.2.2.2.2.2.2.2.2.2.2.2.2.2.2
def eQ(n:Nat)(u v w x y:Lv)(z A B C D a b c d e:Int)(f:Bool)(g:Lv)(h:Int)(i:Lv)(j k l m o p:Int)(q r s:Lv)(t:Int):Option aA:=uE n u v w x y z A B C D a b c d e f g h i j k l m o p q r s t
def refusal_Check_t:FnT:=⟨[(true,[(.sl (.cons .int (.cons tSc .nil))),(.sl (.cons .int (.cons .int (.cons .int (.cons .int (.cons .int .nil)))))),(.sl (.cons .int (.cons .int .nil))),tSa,tSa,.int,.int,.int,.int,.int,.int,.int,.int,.int,.int,.bool,tSc,.int,tSc]),(false,[.int]),(false,[.int]),(false,[.int]),(true,[.int,.int,.int,tSa,tSa,(.sl (.cons .int (.cons .int .nil))),.int])],.b,fun n (s:Lv×Lv×Lv×Lv×Lv×Int×Int×Int×Int×Int×Int×Int×Int×Int×Int×Bool×Lv×Int×Lv×Int×Int×Int×Int×Int×Int×Lv×Lv×Lv×Int)=>eQ n s.1 s.2.1 s.2.2.1 s.2.2.2.1 s.2.2.2.2.1 s.2.2.2.2.2.1 s.2.2.2.2.2.2.1 s.2.2.2.2.2.2.2.1 s.2.2.2.2.2.2.2.2.1 s.2.2.2.2.2.2.2.2.2.1 s.2.2.2.2.2.2.2.2.2.2.1 s.2.2.2.2.2.2.2.2.2.2.2.1 s.2.2.2.2.2.2.2.2.2.2.2.2.1 s.2.2.2.2.2.2.2.2.2.2.2.2.2.1 s.2.2.2.2.2.2.2.2.2.2.2.2.2.2.1 s.2.2.2.2.2.2.2.2.2.2.2.2.2.2.2.1 s.2.2.2.2.2.2.2.2.2.2.2.2.2.2.2.2.1 s.2.2.2.2.2.2.2.2.2.2.2.2.2.2.2.2.2.1 s.2.2.2.2.2.2.2.2.2.2.2.2.2.2.2.2.2.2.1 s.2.2.2.2.2.2.2.2.2.2.2.2.2.2.2.2.2.2.2.1 s.2.2.2.2.2.2.2.2.2.2.2.2.2.2.2.2.2.2.2.2.1 s.2.2.2.2.2.2.2.2.2.2.2.2.2.2.2.2.2.2.2.2.2.1 s.2.2.2.2.2.2.2.2.2.2.2.2.2.2.2.2.2.2.2.2.2.2.1 s.2.2.2.2.2.2.2.2.2.2.2.2.2.2.2.2.2.2.2.2.2.2.2.1 s.2.2.2.2.2.2.2.2.2.2.2.2.2.2.2.2.2.2.2.2.2.2.2.2.1 s.2.2.2.2.2.2.2.2.2.2.2.2.2.2.2.2.2.2.2.2.2.2.2.2.2.1 s.2.2.2.2.2.2.2.2.2.2.2.2.2.2.2.2.2.2.2.2.2.2.2.2.2.2.1 s.2.2.2.2.2.2.2.2.2.2.2.2.2.2.2.2.2.2.2.2.2.2.2.2.2.2.2.1 s.2.2.2.2.2.2.2.2.2.2.2.2.2.2.2.2.2.2.2.2.2.2.2.2.2.2.2.2⟩
theorem Ci:refusal_Check_t.ok Tryz.prog 23:=FnT.ok_of (cfg:=⟨[((124,2,0),.inv [.tmp 8 .int]),((188,2,0),.inv [.tmp 8 .int]),((158,2,0),.inv [.tmp 8 .int])],EO,[],aq⟩) az sg ay (fun s fn hf=>by rw[Tryz.func23]at hf;cases hf;kernel_rfl) (fun n s=>by kernel_rfl)
def refusal_Check_T:Tab:=(23,refusal_Check_t)::refusal_are_T
theorem oP:refusal_Check_T.ok Tryz.prog:=Tab.ok_cons Ci sg
end
open Go.Dial.Ref Go.Dial.Lif Go.Dial.Clm Go.Dial.Fwd Go.Dial.Rou Go.Dial.Flo
theorem ow{l:List Int}{i:Nat}{x:Int}(h:l[i]?=some x):cI (iL l) (i:Int) 0=x:=by rw[dF,y1,h];rfl
theorem Rs(n:Nat)(a b:List (Int×Int))(hl:a.length=b.length)(ha:a.length<=1000)(hn:1000<n):ab (fun c s=>gf n c (hpL a) (hpL b) s) n (0:cc)=some (decide (a=b)):=by
 rw[dd (len:=a.length) (f:=fun i=>if a[i]?=b[i]? then none else some false) (e:=true) ?_ ?_ (by omega),gU]
 ·congr 1
  rw[decide_eq_decide];exact kq hl
 ·intro i go hi
  obtain⟨x,hx⟩:=aF hi;obtain⟨y,hy⟩:=aF (show i<b.length by omega)
  obtain⟨k0,k1⟩:=vG hx;obtain⟨j0,j1⟩:=vG hy;show gf n go (hpL a) (hpL b) (i:Int)=_
  unfold gf;rw[k0,k1,j0,j1,bP,bP,kT (show(i:Int)<(a.length:Int) by omega),kT (show(0:Int)<=(i:Int) by omega),kT (show(i:Int)<(b.length:Int) by omega),kG (by omega),hx,hy]
  by_cases h1:x.1=y.1
  ·by_cases h2:x.2=y.2
   ·rw[decide_eq_true h1,decide_eq_true h2,if_pos (congrArg some (Prod.ext h1 h2))];rfl
   ·rw[decide_eq_true h1,decide_eq_false h2,if_neg (fun e=>h2 (by rw[Option.some.inj e]))];rfl
  ·rw[decide_eq_false h1,if_neg (fun e=>h1 (by rw[Option.some.inj e]))];rfl
 ·intro go
  show gf n go (hpL a) (hpL b) (a.length:Int)=_
  unfold gf;rw[bP,kF (y2 _)]
theorem RD(n:Nat)(d g j k l c:Int)(a b:List Int)(x y:List (Int×Int))(hl:a.length=b.length)(ha:a.length<=1000)(hx:x.length<=1000)(hn:1000<n):ab (fun m s=>gg n m d g (iL a) (hpL x) j k l (iL b) (hpL y) c s) n (0:cc)=some (decide (a=b/\d=k/\g=l/\j=c/\x=y)):=by
 have hend:∀go:cc->Option cP,gg n go d g (iL a) (hpL x) j k l (iL b) (hpL y) c (a.length:Int)=some (decide (d=k/\g=l/\j=c/\x=y)):=by
  intro go;unfold gg;rw[ah,kF (y2 _),bP,bP];by_cases e1:d=k
  ·by_cases e2:g=l
   ·by_cases e3:j=c
    ·rw[decide_eq_true e1,decide_eq_true e2,decide_eq_true e3]
     show(bif !decide ((x.length:Int)=(y.length:Int))then _ else _)=_
     by_cases e4:x.length=y.length
     ·rw[kNT (by omega),Rs n x y e4 hx hn]
      congr 1
      rw[decide_eq_decide];exact⟨fun h=>⟨e1,e2,e3,h⟩,fun h=>h.2.2.2⟩
     ·rw[kNF (by omega),decide_eq_false (fun h=>e4 (by rw[h.2.2.2]))]
    ·rw[decide_eq_false e3,decide_eq_false (fun h:d=k/\g=l/\j=c/\x=y=>e3 h.2.2.1),RY,RY];rfl
   ·rw[decide_eq_false e2,decide_eq_false (fun h:d=k/\g=l/\j=c/\x=y=>e2 h.2.1),R3,RY];rfl
  ·rw[decide_eq_false e1,decide_eq_false (fun h:d=k/\g=l/\j=c/\x=y=>e1 h.1),R3];rfl
 rw[iW (len:=a.length) (f:=fun i=>if a[i]?=b[i]? then none else some (some false)) (e:=some (decide (d=k/\g=l/\j=c/\x=y))) ?_ hend (by omega)]
 by_cases e:a=b
 ·rw[og (fun i hi=>if_pos ((kq hl).2 e i hi))]
  congr 1
  rw[decide_eq_decide];exact⟨fun h=>⟨e,h⟩,fun h=>h.2⟩
 ·rw[mc (r:=some false),decide_eq_false (fun h:a=b/\d=k/\g=l/\j=c/\x=y=>e h.1)]
  ·intro i _
   by_cases h:a[i]?=b[i]?
   ·rw[if_pos h];exact .inl rfl
   ·rw[if_neg h];exact .inr rfl
  ·refine Classical.byContradiction (fun hx=>e ((kq hl).1 (fun i hi=>Classical.byContradiction (fun hb=>hx ⟨i,hi,?_⟩))))
   rw[if_neg hb];simp
 ·intro i go hi
  show gg n go d g (iL a) (hpL x) j k l (iL b) (hpL y) c (i:Int)=_
  obtain⟨p,hp⟩:=aF hi;obtain⟨q,hq⟩:=aF (show i<b.length by omega)
  unfold gg;rw[ow hp,ow hq,ah,ah,kT (show(i:Int)<(a.length:Int) by omega),kT (show(0:Int)<=(i:Int) by omega),kT (show(i:Int)<(b.length:Int) by omega),kG (by omega),hp,hq]
  by_cases h1:p=q
  ·rw[kNT h1,if_pos (congrArg some h1)]
  ·rw[kNF h1,if_neg (fun e=>h1 (Option.some.inj e))]
theorem Rt(n:Nat)(j k l m o g:Int)(c d a b:List Int)(x y:List (Int×Int))(hl:c.length=d.length)(hc:c.length<=1000)(ha:a.length<=1000)(hx:x.length<=1000)(hn:1000<n):ab (fun t s=>gd n t j k (iL c) (iL a) (hpL x) l m o (iL d) (iL b) (hpL y) g s) n (0:cc)=some (decide (c=d/\a=b/\j=m/\k=o/\l=g/\x=y)):=by
 have hend:∀go:cc->Option cP,gd n go j k (iL c) (iL a) (hpL x) l m o (iL d) (iL b) (hpL y) g (c.length:Int)=some (decide (a=b/\j=m/\k=o/\l=g/\x=y)):=by
  intro go;unfold gd;rw[ah c,kF (y2 _),ah a,ah b];by_cases e4:a.length=b.length
  ·rw[kNT (by omega),RD n j k l m o g a b x y e4 ha hx hn]
  ·rw[kNF (by omega),decide_eq_false (fun h:a=b/\j=m/\k=o/\l=g/\x=y=>e4 (by rw[h.1]))]
 rw[iW (len:=c.length) (f:=fun i=>if c[i]?=d[i]? then none else some (some false)) (e:=some (decide (a=b/\j=m/\k=o/\l=g/\x=y))) ?_ hend (by omega)]
 by_cases e:c=d
 ·rw[og (fun i hi=>if_pos ((kq hl).2 e i hi))]
  congr 1
  rw[decide_eq_decide];exact⟨fun h=>⟨e,h⟩,fun h=>h.2⟩
 ·rw[mc (r:=some false),decide_eq_false (fun h:c=d/\a=b/\j=m/\k=o/\l=g/\x=y=>e h.1)]
  ·intro i _
   by_cases h:c[i]?=d[i]?
   ·rw[if_pos h];exact .inl rfl
   ·rw[if_neg h];exact .inr rfl
  ·refine Classical.byContradiction (fun hx=>e ((kq hl).1 (fun i hi=>Classical.byContradiction (fun hb=>hx ⟨i,hi,?_⟩))))
   rw[if_neg hb];simp
 ·intro i go hi
  show gd n go j k (iL c) (iL a) (hpL x) l m o (iL d) (iL b) (hpL y) g (i:Int)=_
  obtain⟨p,hp⟩:=aF hi;obtain⟨q,hq⟩:=aF (show i<d.length by omega)
  unfold gd;rw[ow hp,ow hq,ah c,ah d,kT (show(i:Int)<(c.length:Int) by omega),kT (show(0:Int)<=(i:Int) by omega),kT (show(i:Int)<(d.length:Int) by omega),kG (by omega),hp,hq]
  by_cases h1:p=q
  ·rw[kNT h1,if_pos (congrArg some h1)]
  ·rw[kNF h1,if_neg (fun e=>h1 (Option.some.inj e))]
structure RSmall (r:Rf):Prop where
 rp:r.rp.length<=1000
 ru:r.ru.length<=1000
 hs:r.hs.length<=1000
theorem KY(n:Nat)(r:Rf)(hr:RSmall r)(k m rk s:Int)(rp ru:List Int)(hs:List (Int×Int))(hn:1000<n):ar n r.k r.n r.rk (iL r.rp) (iL r.ru) (hpL r.hs) r.s k m rk (iL rp) (iL ru) (hpL hs) s=some (decide (r=⟨k,m,rk,rp,ru,hs,s⟩)):=by
 unfold ar xR;by_cases e1:r.rk=rk
 ·rw[kT e1,ah r.rp,ah rp]
  by_cases e2:r.rp.length=rp.length
  ·rw[kNT (by omega),Rt n r.k r.n r.s k m s r.rp rp r.ru ru r.hs hs e2 hr.rp hr.ru hr.hs hn]
   congr 1
   rw[decide_eq_decide];constructor
   ·rintro ⟨a1,a2,a3,a4,a5,a6⟩
    cases r
    dsimp only at *
    subst a1 a2 a3 a4 a5 a6 e1;rfl
   ·intro h;rw[h];exact⟨rfl,rfl,rfl,rfl,rfl,rfl⟩
  ·rw[kNF (by omega),decide_eq_false (fun h=>e2 (by rw[h]))]
 ·rw[kF e1,decide_eq_false (fun h=>e1 (by rw[h]))]
theorem PW(n:Nat)(r:Rf)(hr:RSmall r)(k m s:Int)(hn:1000<n):ar n r.k r.n r.rk (iL r.rp) (iL r.ru) (hpL r.hs) r.s k m 0 ([]:Lv) ([]:Lv) ([]:Lv) s=some (decide (r=⟨k,m,0,[],[],[],s⟩)):=KY n r hr k m 0 s [] [] [] hn
theorem PP(n:Nat)(r:Rf)(hr:RSmall r)(k m rk s:Int)(rp ru:List Int)(hn:1000<n):ar n r.k r.n r.rk (iL r.rp) (iL r.ru) (hpL r.hs) r.s k m rk (iL rp) (iL ru) ([]:Lv) s=some (decide (r=⟨k,m,rk,rp,ru,[],s⟩)):=KY n r hr k m rk s rp ru [] hn
theorem EY(n:Nat)(r:Rf)(hr:RSmall r)(k m s:Int)(hs:List (Int×Int))(hn:1000<n):ar n r.k r.n r.rk (iL r.rp) (iL r.ru) (hpL r.hs) r.s k m 0 ([]:Lv) ([]:Lv) (hpL hs) s=some (decide (r=⟨k,m,0,[],[],hs,s⟩)):=KY n r hr k m 0 s [] [] hs hn
theorem N5(n:Nat)(g:Gr)(hs:Small g)(t c x:Int)(w:Int×List Int×List Int)(p:List (Int×Int)×Int)(hwl:w.2.1.length<=1000)(hn:1001<n):bh n (lnL g.ls) (seL g.ss) (coL g.cs) (iL g.h) (iL g.k) g.lag g.r.a g.r.c g.r.s g.r.r g.c.n g.c.f g.c.t g.c.h g.c.a g.c.b (ceL g.ce) g.nn (edL g.es) t c w.1 (iL w.2.1) (iL w.2.2) (hpL p.1) p.2 x=some (decide (x∈w.2.1/\bW g.ls x t=false)):=by
 unfold bh lF;rw[dd (len:=w.2.1.length) (f:=fun i=>if w.2.1[i]?=some x then some (!bW g.ls x t)else none) (e:=false) ?_ ?_ (by omega)]
 ·congr 1
  by_cases hm:x∈w.2.1
  ·obtain⟨i,hi,he⟩:=y8 hm
   rw[mc (r:= !bW g.ls x t)]
   ·cases bW g.ls x t with
    |true=>rw[decide_eq_false (fun h=>by cases h.2)];rfl
    |false=>rw[decide_eq_true ⟨hm,rfl⟩];rfl
   ·intro j _
    by_cases h:w.2.1[j]?=some x
    ·rw[if_pos h];exact .inr rfl
    ·rw[if_neg h];exact .inl rfl
   ·refine⟨i,hi,?_⟩
    rw[if_pos (by rw[v2 hi,he])];simp
  ·rw[og,decide_eq_false (fun h=>hm h.1)]
   intro i hi;rw[if_neg (fun h=>hm (v7 h))]
 ·intro i go hi
  obtain⟨y,hy⟩:=aF hi;show dl n go (lnL g.ls) (seL g.ss) (coL g.cs) (iL g.h) (iL g.k) g.lag g.r.a g.r.c g.r.s g.r.r g.c.n g.c.f g.c.t g.c.h g.c.a g.c.b (ceL g.ce) g.nn (edL g.es) t c w.1 (iL w.2.1) (iL w.2.2) (hpL p.1) p.2 x (i:Int)=_
  unfold dl;rw[ow hy,ah,kT (show(i:Int)<(w.2.1.length:Int) by omega),kT (show(0:Int)<=(i:Int) by omega),hy]
  by_cases h:x=y
  ·rw[kT h,CU n g hs x t c w p hn,v0,if_pos (congrArg some h.symm)]
  ·rw[kF h,kG (by omega),if_neg (fun e=>h (Option.some.inj e).symm)]
 ·intro go
  show dl n go (lnL g.ls) (seL g.ss) (coL g.cs) (iL g.h) (iL g.k) g.lag g.r.a g.r.c g.r.s g.r.r g.c.n g.c.f g.c.t g.c.h g.c.a g.c.b (ceL g.ce) g.nn (edL g.es) t c w.1 (iL w.2.1) (iL w.2.2) (hpL p.1) p.2 x (w.2.1.length:Int)=_
  unfold dl;rw[ah,kF (y2 _)]
theorem QS(n:Nat)(g:Gr)(hs:Small g)(t c:Int)(w:Int×List Int×List Int)(p:List (Int×Int)×Int)(r:Rf)(hr:RSmall r)(hwl:w.2.1.length<=1000)(hk:r.k=1)(hn:20001000<n):∀(m n' i:Nat),m<n'->i+m=w.2.1.length->(∀j y,j<i->w.2.1[j]?=some y->bW g.ls y t=true) →
  ab (fun b s=>dK n b g.nn (edL g.es) c r.k r.n r.rk (iL r.rp) (iL r.ru) (hpL r.hs) r.s (lnL g.ls) (seL g.ss) (coL g.cs) (iL g.h) (iL g.k) g.lag g.r.a g.r.c g.r.s g.r.r g.c.n g.c.f g.c.t g.c.h g.c.a g.c.b (ceL g.ce) g.nn (edL g.es) t c w.1 (iL w.2.1) (iL w.2.2) (hpL p.1) p.2 s) n' ((i:Int):bj)=some (decide (r.n∈w.2.1/\bW g.ls r.n t=false/\r=⟨1,r.n,0,[],[],[],0⟩)):=by
 intro m;induction m with
 | zero=>
  intro n' i hm hi hh;cases n' with
  |zero=>omega
  |succ n'=>
   rw[ae];show dK n _ g.nn (edL g.es) c r.k r.n r.rk (iL r.rp) (iL r.ru) (hpL r.hs) r.s (lnL g.ls) (seL g.ss) (coL g.cs) (iL g.h) (iL g.k) g.lag g.r.a g.r.c g.r.s g.r.r g.c.n g.c.f g.c.t g.c.h g.c.a g.c.b (ceL g.ce) g.nn (edL g.es) t c w.1 (iL w.2.1) (iL w.2.2) (hpL p.1) p.2 (i:Int)=_
   unfold dK;rw[ah,kF (by omega),decide_eq_false (fun h=>?_)]
   obtain⟨j,hj,he⟩:=y8 h.1;have:=hh j r.n (by omega) (by rw[v2 hj,he])
   rw[this]at h;cases h.2.1
 | succ m ih=>
  intro n' i hm hi hh;cases n' with
  |zero=>omega
  | succ n'=>
   rw[ae];have hih:=ih n' (i+1) (by omega) (by omega)
   generalize (ab (fun b s=>dK n b g.nn (edL g.es) c r.k r.n r.rk (iL r.rp) (iL r.ru) (hpL r.hs) r.s (lnL g.ls) (seL g.ss) (coL g.cs) (iL g.h) (iL g.k) g.lag g.r.a g.r.c g.r.s g.r.r g.c.n g.c.f g.c.t g.c.h g.c.a g.c.b (ceL g.ce) g.nn (edL g.es) t c w.1 (iL w.2.1) (iL w.2.2) (hpL p.1) p.2 s) n':bj->Option aA)=go at hih
   obtain⟨x,hx⟩:=aF (show i<w.2.1.length by omega)
   have k0:=ow hx;have hxm:=v7 hx;rw[show((i+1:Nat):Int)=(i:Int)+1 by omega]at hih
   have hit:∀a:bj->Option aA,∀j:Nat,cI (iL w.2.1) (j:Int) 0=x->jB n go a g.nn (edL g.es) c r.k r.n r.rk (iL r.rp) (iL r.ru) (hpL r.hs) r.s (lnL g.ls) (seL g.ss) (coL g.cs) (iL g.h) (iL g.k) g.lag g.r.a g.r.c g.r.s g.r.r g.c.n g.c.f g.c.t g.c.h g.c.a g.c.b (ceL g.ce) g.nn (edL g.es) t c w.1 (iL w.2.1) (iL w.2.2) (hpL p.1) p.2 (i:Int) (j:Int)=some (decide (r.n∈w.2.1/\bW g.ls r.n t=false/\r=⟨1,r.n,0,[],[],[],0⟩)):=by
    intro a j kj;unfold jB;rw[k0,kj,kT rfl,CU n g hs x t c w p (by omega),v0]
    cases hb:bW g.ls x t with
    |true=>
     rw[y3,cond_false,kG (by omega)]
     refine hih (fun j y hj hy=>?_)
     by_cases e:j=i
     ·subst e;rw[hx]at hy;cases hy;exact hb
     ·exact hh j y (by omega) hy
    | false=>
     rw[RO,cond_true,kF (show ¬(i:Int)<0 by omega),kT hk,N5 n g hs t c r.n w p hwl (by omega),v0]
     by_cases hl:r.n∈w.2.1/\bW g.ls r.n t=false
     ·rw[kT hl,PW n r hr r.k r.n 0 (by omega),v0]
      congr 1
      rw[decide_eq_decide,hk];exact⟨fun h=>⟨hl.1,hl.2,h⟩,fun h=>h.2.2⟩
     ·rw[kF hl,PW n r hr r.k x 0 (by omega),v0,decide_eq_false (fun h:r=⟨r.k,x,0,[],[],[],0⟩=>?_),decide_eq_false (fun h=>hl ⟨h.1,h.2.1⟩)]
      have:r.n=x:=by rw[h]
      exact hl (by rw[this];exact⟨hxm,hb⟩)
   have inner:∀(m n' j:Nat),m<n'->j+m=i->ab (fun a s=>dg n go a g.nn (edL g.es) c r.k r.n r.rk (iL r.rp) (iL r.ru) (hpL r.hs) r.s (lnL g.ls) (seL g.ss) (coL g.cs) (iL g.h) (iL g.k) g.lag g.r.a g.r.c g.r.s g.r.r g.c.n g.c.f g.c.t g.c.h g.c.a g.c.b (ceL g.ce) g.nn (edL g.es) t c w.1 (iL w.2.1) (iL w.2.2) (hpL p.1) p.2 (i:Int) s) n' ((j:Int):bj)=some (decide (r.n∈w.2.1/\bW g.ls r.n t=false/\r=⟨1,r.n,0,[],[],[],0⟩)):=by
    intro m;induction m with
    | zero=>
     intro n' j hm hj;cases n' with
     |zero=>omega
     |succ n'=>
      rw[ae];have hji:j=i:=by omega
      subst hji;generalize (ab (fun a s=>dg n go a g.nn (edL g.es) c r.k r.n r.rk (iL r.rp) (iL r.ru) (hpL r.hs) r.s (lnL g.ls) (seL g.ss) (coL g.cs) (iL g.h) (iL g.k) g.lag g.r.a g.r.c g.r.s g.r.r g.c.n g.c.f g.c.t g.c.h g.c.a g.c.b (ceL g.ce) g.nn (edL g.es) t c w.1 (iL w.2.1) (iL w.2.2) (hpL p.1) p.2 (j:Int) s) n':bj->Option aA)=a
      show dg n go a g.nn (edL g.es) c r.k r.n r.rk (iL r.rp) (iL r.ru) (hpL r.hs) r.s (lnL g.ls) (seL g.ss) (coL g.cs) (iL g.h) (iL g.k) g.lag g.r.a g.r.c g.r.s g.r.r g.c.n g.c.f g.c.t g.c.h g.c.a g.c.b (ceL g.ce) g.nn (edL g.es) t c w.1 (iL w.2.1) (iL w.2.2) (hpL p.1) p.2 (j:Int) (j:Int)=_
      unfold dg;rw[ah,kT (by omega),kT (by omega)]
      exact hit a j k0
    | succ m ih2=>
     intro n' j hm hj;cases n' with
     |zero=>omega
     | succ n'=>
      rw[ae];have hih2:=ih2 n' (j+1) (by omega) (by omega)
      generalize (ab (fun a s=>dg n go a g.nn (edL g.es) c r.k r.n r.rk (iL r.rp) (iL r.ru) (hpL r.hs) r.s (lnL g.ls) (seL g.ss) (coL g.cs) (iL g.h) (iL g.k) g.lag g.r.a g.r.c g.r.s g.r.r g.c.n g.c.f g.c.t g.c.h g.c.a g.c.b (ceL g.ce) g.nn (edL g.es) t c w.1 (iL w.2.1) (iL w.2.2) (hpL p.1) p.2 (i:Int) s) n':bj->Option aA)=a at hih2
      show dg n go a g.nn (edL g.es) c r.k r.n r.rk (iL r.rp) (iL r.ru) (hpL r.hs) r.s (lnL g.ls) (seL g.ss) (coL g.cs) (iL g.h) (iL g.k) g.lag g.r.a g.r.c g.r.s g.r.r g.c.n g.c.f g.c.t g.c.h g.c.a g.c.b (ceL g.ce) g.nn (edL g.es) t c w.1 (iL w.2.1) (iL w.2.2) (hpL p.1) p.2 (i:Int) (j:Int)=_
      unfold dg;rw[ah,kT (by omega),kT (by omega)]
      by_cases kj:cI (iL w.2.1) (j:Int) 0=x
      ·exact hit a j kj
      ·unfold jB
       rw[k0,kF (fun e=>kj e.symm),kG (by omega)]
       rw[show((j+1:Nat):Int)=(j:Int)+1 by omega]at hih2
       exact hih2
   show dK n go g.nn (edL g.es) c r.k r.n r.rk (iL r.rp) (iL r.ru) (hpL r.hs) r.s (lnL g.ls) (seL g.ss) (coL g.cs) (iL g.h) (iL g.k) g.lag g.r.a g.r.c g.r.s g.r.r g.c.n g.c.f g.c.t g.c.h g.c.a g.c.b (ceL g.ce) g.nn (edL g.es) t c w.1 (iL w.2.1) (iL w.2.2) (hpL p.1) p.2 (i:Int)=_
   unfold dK;rw[ah,kT (by omega),kT (by omega)]
   exact inner i n 0 (by omega) (by omega)
theorem QN(n:Nat)(g:Gr)(hs:Small g)(t c:Int)(w:Int×List Int×List Int)(p:List (Int×Int)×Int)(r:Rf)(hr:RSmall r)(hw:w.2.1≠[])(hp:p.1≠[])(hwl:w.2.1.length<=1000)(hpl:p.1.length<=1000)(hv:GrV g)(t0:0<=t)(t1:t<=10000000)(c0:0<=c)(c1:c<=7)(q0:0<=aW p.1)(q1:aW p.1<=7)(hn:20001000<n):
  m7 n g.nn (edL g.es) c r.k r.n r.rk (iL r.rp) (iL r.ru) (hpL r.hs) r.s (lnL g.ls) (seL g.ss) (coL g.cs) (iL g.h) (iL g.k) g.lag g.r.a g.r.c g.r.s g.r.r g.c.n g.c.f g.c.t g.c.h g.c.a g.c.b (ceL g.ce) g.nn (edL g.es) t c w.1 (iL w.2.1) (iL w.2.2) (hpL p.1) p.2=some (decide (f8 g t c w p r)):=by
 have l2:=gi hp;have hnet:NetV 8 g.es:=by have:=hv.2.2.2.2.2.1;rw[hv.2.2.2.2.2.2]at this;exact this
 have hnn:g.nn=8:=hv.2.2.2.2.2.2
 unfold m7;by_cases hk1:1<=r.k
 ·rw [kT hk1]
  unfold tj;by_cases hk7:r.k<=7
  ·rw [kNT hk7,kG (by omega)]
   unfold uF;by_cases a1:r.k=1
   ·rw[kT (by omega)]
    refine(QS n g hs t c w p r hr hwl a1 hn w.2.1.length n 0 (by omega) (by omega) (fun j y hj _=>by omega)).trans ?_
    congr 1
    rw[decide_eq_decide,Nc a1]
   ·rw [kF (by omega)]
    unfold uk;by_cases a2:r.k=2
    ·rw[kT (by omega)]
     unfold rN;have e:∀k,ar n r.k r.n r.rk (iL r.rp) (iL r.ru) (hpL r.hs) r.s k 0 w.1 (iL w.2.1) (iL w.2.2) ([]:Lv) 0=_:=fun k=>PP n r hr k 0 w.1 0 w.2.1 w.2.2 (by omega)
     by_cases w5:w.1=5
     ·rw[kT w5,kF a1,kF (by omega),e,v0]
      congr 1
      rw[decide_eq_decide,vF a2,a2];exact⟨fun h=>⟨.inl w5,h⟩,fun h=>h.2⟩
     ·rw[kF w5]
      by_cases w6:w.1=6
      ·rw[kNT w6,kF a1,kF (by omega),e,v0]
       congr 1
       rw[decide_eq_decide,vF a2,a2];exact⟨fun h=>⟨.inr w6,h⟩,fun h=>h.2⟩
      ·rw[kNF w6,decide_eq_false]
       rw[vF a2];rintro ⟨h|h,_⟩
       ·exact w5 h
       ·exact w6 h
    ·rw [kF (by omega)]
     unfold qZ;by_cases a3:r.k=3
     ·rw[kT (by omega)]
      by_cases w2:2<=w.1
      ·rw[kT w2]
       by_cases w4:w.1<=4
       ·rw[kNT w4,kF a1,kF (by omega),PP n r hr r.k 0 w.1 0 w.2.1 w.2.2 (by omega),v0]
        congr 1
        rw[decide_eq_decide,wa a3,a3];exact⟨fun h=>⟨⟨w2,w4⟩,h⟩,fun h=>h.2⟩
       ·rw[kNF w4,decide_eq_false]
        rw[wa a3];exact fun h=>w4 h.1.2
      ·rw[kF w2,decide_eq_false]
       rw[wa a3];exact fun h=>w2 h.1.1
     ·rw [kF (by omega)]
      unfold sF;by_cases a4:r.k=4
      ·rw[kT (by omega)]
       by_cases e2:p.2=2
       ·rw[kNT e2,kF a1,kF (by omega),EY n r hr r.k 0 0 p.1 (by omega),v0]
        congr 1
        rw[decide_eq_decide,DA a4,a4];exact⟨fun h=>⟨e2,h⟩,fun h=>h.2⟩
       ·rw[kNF e2,decide_eq_false]
        rw[DA a4];exact fun h=>e2 h.1
      ·rw [kF (by omega)]
       unfold sD;by_cases a5:r.k=5
       ·rw[kT (by omega)]
        by_cases e3:p.2=3
        ·rw[kNT e3,kF a1,kF (by omega),EY n r hr r.k 0 0 p.1 (by omega),v0]
         congr 1
         rw[decide_eq_decide,C3 a5,a5];exact⟨fun h=>⟨e3,h⟩,fun h=>h.2⟩
        ·rw[kNF e3,decide_eq_false]
         rw[C3 a5];exact fun h=>e3 h.1
       ·rw [kF (by omega)]
        unfold rj;by_cases a6:r.k=6
        ·rw[kT (by omega)]
         by_cases e1:p.2=1
         ·rw[kT e1,yC n g t c w p hw hp hwl hpl hv.2.2.2.2.1 t0 t1 (by omega),v0]
          by_cases u:Unp g t w.2.1 p.1
          ·rw[kNT u,kF a1,kF (by omega),EY n r hr r.k 0 0 p.1 (by omega),v0]
           congr 1
           rw[decide_eq_decide,vS a6,a6];exact⟨fun h=>⟨e1,u,h⟩,fun h=>h.2.2⟩
          ·rw[kNF u,decide_eq_false]
           rw[vS a6];exact fun h=>u h.2.1
         ·rw[kF e1,decide_eq_false]
          rw[vS a6];exact fun h=>e1 h.1
        ·have a7:r.k=7:=by omega
         rw[kF (by omega),kT (by omega)]
         by_cases e1:p.2=1
         ·rw [kNT e1,l8 _ hp,bP,kG (by omega),kT (by omega),kT (by omega)]
          by_cases e4:aW p.1=c
          ·rw[kT e4,decide_eq_false]
           rw[jX a7];exact fun h=>h.2.1 e4
          ·have e4':c≠aW p.1:=fun e=>e4 e.symm
           obtain⟨M,value,s,hM,hF⟩:=w7 n g.es c (aW p.1) hnet c0 c1 q0 q1 e4' (by omega)
           obtain⟨m1,m2,_,m4⟩:=I9 c0 q0 hnet hM;have hC:=m5 n g.es c (aW p.1) s hnet (by omega)
           have hD:=m5 n g.es c (aW p.1) r.s hnet (by omega)
           unfold CB at hC hD;rw[if_pos ⟨c0,c1,q0,q1,e4',m4⟩]at hC;rw[kF e4,hnn,hF,v0,hC,v0];by_cases hl0:lvs s g.es=0
           ·rw [kNT hl0,kF a1,kT a7,hD,v0]
            by_cases hcv:k8 c (aW p.1) r.s
            ·rw[if_pos ⟨c0,c1,q0,q1,e4',hcv⟩]
             dsimp only;rw[cond_true];by_cases hr0:lvs r.s g.es=0
             ·rw[kT hr0,EY n r hr r.k 0 r.s p.1 (by omega),v0]
              congr 1
              rw[decide_eq_decide,jX a7,a7];exact⟨fun h=>⟨e1,e4,hcv,hr0,h⟩,fun h=>h.2.2.2.2⟩
             ·rw[kF hr0,EY n r hr r.k 0 s p.1 (by omega),v0,decide_eq_false,decide_eq_false]
              ·rw[jX a7];exact fun h=>hr0 h.2.2.2.1
              ·intro h
               have:r.s=s:=by rw[h]
               rw[this]at hr0;exact hr0 hl0
            ·rw[if_neg (fun h=>hcv h.2.2.2.2.2)]
             dsimp only;rw[cond_false,EY n r hr r.k 0 s p.1 (by omega),v0,decide_eq_false,decide_eq_false]
             ·rw[jX a7];exact fun h=>hcv h.2.2.1
             ·intro h
              have:r.s=s:=by rw[h]
              rw[this]at hcv;exact hcv m4
           ·rw[kNF hl0,decide_eq_false]
            rw[jX a7];intro h;refine hl0 (m1.2 (fun hr=>?_))
            have:=rH hnet.2.2.2 h.2.2.2.1 h.2.2.1.2.2.1 hr
            rw[h.2.2.1.2.2.2]at this;cases this
         ·rw[kNF e1,decide_eq_false]
          rw[jX a7];exact fun h=>e1 h.1
  ·rw[kNF hk7,decide_eq_false (fun h=>hk7 (Fm h).2)]
 ·rw[kF hk1,decide_eq_false (fun h=>hk1 (Fm h).1)]
theorem Eg(n:Nat)(g:Gr)(hs:Small g)(num t c:Int)(r:Rf)(hr:RSmall r)(hn:20001000<n):eQ n (lnL g.ls) (seL g.ss) (coL g.cs) (iL g.h) (iL g.k) g.lag g.r.a g.r.c g.r.s g.r.r g.c.n g.c.f g.c.t g.c.h g.c.a g.c.b (ceL g.ce) g.nn (edL g.es) num t c r.k r.n r.rk (iL r.rp) (iL r.ru) (hpL r.hs) r.s=some (decide (Chk g num t c r)):=by
 unfold eQ uE;rw[CH n g hs num t c (by omega),v0]
 by_cases h:bN g num t c
 ·have hc:=iz h
  have hR:=QN n g hs t c (wy g num t) (hp g c) r hr hc.wne hc.pth.ne (by have:=hc.wlen;omega) (by have:=hc.plen;omega) h.1 hc.t0.1 hc.t0.2 hc.c0.1 hc.c0.2 hc.last.1 hc.last.2 hn
  rw[if_pos h];dsimp only[Hs]
  unfold tt;rw[y3,cond_false,hR];congr 1
  rw[decide_eq_decide];exact⟨fun x=>⟨h,x⟩,fun x=>x.2⟩
 ·rw[if_neg h,decide_eq_false (fun x:Chk g num t c r=>h x.1)]
  rfl
end Go.Proofs.YtbfkkigbedmhgaaGreat
namespace Go.Proofs.YtbfkkigbedmhgaaGreat
open Go Go.Sx
noncomputable section
def zR:List Nat:=[12,13,14,15,16,17,18,19,20,21,22,23,24,25,26,27,28,29,30,31,32,33,34,37,38,39,40,41,42,43,44,45,46,47,48,49,50,51,52,53,54,55,56,57,58,59,62,65,66,67,68,69,70,71,72,73,74,75,76,77,78,84,85,86,87,89,95,105,106,107,108,109,110,111,112,114,115,116,117,120,122,130,132,149,150,152,153,159,176,178,179,180,182,183,184,186,187,193,202,203,204,210,211,1000015,1000016,1000017,1000018,1000019,1000022,1000049,1000050,1000051,1000052,1000053,1000062,2000151,2000152,2000217,2000247,2000248,2000249]
abbrev zW:=Int
def yP(n:Nat)(a b:Int):Option zW:=
 (bif a<0 then bif(-9223372036854775808<=(a+1))&&((a+1)<=9223372036854775807)then bif(-9223372036854775808<=(0-(a+1)))&&((0-(a+1))<=9223372036854775807)then bif !(b=0)then some (v6 (0-(a+1)) b)else none else none else none else bif !(b=0)then some (v6 a b)else none)
def dw(n:Nat)(a b:Int):Option zW:=yP n a b
def law28_pick_t:FnT:=⟨[(false,[.int]),(false,[.int])],.i,fun n (s:Int×Int)=>dw n s.1 s.2⟩
theorem Hk:law28_pick_t.ok Tryz.prog 14:=FnT.ok_of (cfg:=⟨[],zR,[],aq⟩) az oP ay (fun s fn hf=>by rw[Tryz.func14]at hf;cases hf;kernel_rfl) (fun n s=>by kernel_rfl)
def law28_pick_T:Tab:=(14,law28_pick_t)::refusal_Check_T
theorem uz:law28_pick_T.ok Tryz.prog:=Tab.ok_cons Hk oP
abbrev tg:=Lv×Lv×Lv×Lv×Lv×Int×Int×Int×Int×Int×Int×Int×Int×Int×Int×Bool×Lv×Int×Lv
def Dp(n:Nat):Option tg:=
 some (((([]:Lv)++[[(AV.int 10),(AV.sl (.cons .int (.cons .int (.cons .int .nil))) (([]:Lv)++[[(AV.int 1),(AV.int 0),(AV.int 1)]]))]])++[[(AV.int 20),(AV.sl (.cons .int (.cons .int (.cons .int .nil))) ((([]:Lv)++[[(AV.int 1),(AV.int 0),(AV.int 2)]])++[[(AV.int 5),(AV.int 100),(AV.int (-1))]]))]]),(([]:Lv)++[[(AV.int 10),(AV.int 1),(AV.int 20),(AV.int 50),(AV.int 60)]]),([]:Lv),((([]:Lv)++[[(AV.int 0)]])++[[(AV.int 1)]]),((((((((([]:Lv)++[[(AV.int 1)]])++[[(AV.int 1)]])++[[(AV.int 0)]])++[[(AV.int 1)]])++[[(AV.int 1)]])++[[(AV.int 1)]])++[[(AV.int 1)]])++[[(AV.int 1)]]),1,100,50,200,300,20,0,1,2,5,false,([]:Lv),8,((([]:Lv)++[[(AV.int 0),(AV.int 1),(AV.int 3)]])++[[(AV.int 2),(AV.int 0),(AV.int 1)]]))
def dq(n:Nat):Option tg:=Dp n
def law28_example_t:FnT:=⟨[],(.agg (.cons (.row 80 (.cons .int (.cons tSc .nil))) (.cons (.row 162 (.cons .int (.cons .int (.cons .int (.cons .int (.cons .int .nil)))))) (.cons (.row 198 (.cons .int (.cons .int .nil))) (.cons (.row 3 (.cons .int .nil)) (.cons (.row 3 (.cons .int .nil)) (.cons .i (.cons .i (.cons .i (.cons .i (.cons .i (.cons .i (.cons .i (.cons .i (.cons .i (.cons .i (.cons .b (.cons (.row 166 (.cons .int (.cons .int (.cons .int .nil)))) (.cons .i (.cons (.row 73 (.cons .int (.cons .int (.cons .int .nil)))) .nil)))))))))))))))))))),fun n (s:Unit)=>dq n⟩
theorem CS:law28_example_t.ok Tryz.prog 43:=FnT.ok_of (cfg:=⟨[],zR,[],aq⟩) az uz ay (fun s fn hf=>by rw[Tryz.func43]at hf;cases hf;kernel_rfl) (fun n s=>by kernel_rfl)
def law28_example_T:Tab:=(43,law28_example_t)::law28_pick_T
theorem oZ:law28_example_T.ok Tryz.prog:=Tab.ok_cons CS uz
abbrev ze:=Bool
def Jj(n:Nat)(f:Int)(g:Lv):Option ze:=
 (dq n ).bind fun b=>
 (fJ n b.1 b.2.1 b.2.2.1 b.2.2.2.1 b.2.2.2.2.1 b.2.2.2.2.2.1 b.2.2.2.2.2.2.1 b.2.2.2.2.2.2.2.1 b.2.2.2.2.2.2.2.2.1 b.2.2.2.2.2.2.2.2.2.1 b.2.2.2.2.2.2.2.2.2.2.1 b.2.2.2.2.2.2.2.2.2.2.2.1 b.2.2.2.2.2.2.2.2.2.2.2.2.1 b.2.2.2.2.2.2.2.2.2.2.2.2.2.1 b.2.2.2.2.2.2.2.2.2.2.2.2.2.2.1 b.2.2.2.2.2.2.2.2.2.2.2.2.2.2.2.1 b.2.2.2.2.2.2.2.2.2.2.2.2.2.2.2.2.1 b.2.2.2.2.2.2.2.2.2.2.2.2.2.2.2.2.2.1 b.2.2.2.2.2.2.2.2.2.2.2.2.2.2.2.2.2.2 10 10 f).bind fun c=>
 (dq n ).bind fun a=>
 (d9 n a.1 a.2.1 a.2.2.1 a.2.2.2.1 a.2.2.2.2.1 a.2.2.2.2.2.1 a.2.2.2.2.2.2.1 a.2.2.2.2.2.2.2.1 a.2.2.2.2.2.2.2.2.1 a.2.2.2.2.2.2.2.2.2.1 a.2.2.2.2.2.2.2.2.2.2.1 a.2.2.2.2.2.2.2.2.2.2.2.1 a.2.2.2.2.2.2.2.2.2.2.2.2.1 a.2.2.2.2.2.2.2.2.2.2.2.2.2.1 a.2.2.2.2.2.2.2.2.2.2.2.2.2.2.1 a.2.2.2.2.2.2.2.2.2.2.2.2.2.2.2.1 a.2.2.2.2.2.2.2.2.2.2.2.2.2.2.2.2.1 a.2.2.2.2.2.2.2.2.2.2.2.2.2.2.2.2.2.1 a.2.2.2.2.2.2.2.2.2.2.2.2.2.2.2.2.2.2 10 10 f).bind fun d=>
 (bif c.2.2.2.2.2.2.2=0 then(bif d.2.2.2.2.2.2.2.2=0 then(bif c.2.2.2.2.2.2.1 then(bif(!d.2.2.2.2.2.2.2.1)then(jm n c.1 c.2.1 c.2.2.1 c.2.2.2.1 c.2.2.2.2.1 c.2.2.2.2.2.1 10 1 1 (([]:Lv)++[[(AV.int 10)]]) ([]:Lv) g).bind fun e=>
 some e else some false)else some false)else some false)else some false)
def xm(n:Nat)(a:Int)(b:Lv):Option ze:=Jj n a b
def law28_goes_t:FnT:=⟨[(false,[.int]),(false,[(.sl (.cons .int (.cons .int .nil)))])],.b,fun n (s:Int×Lv)=>xm n s.1 s.2⟩
theorem Gs:law28_goes_t.ok Tryz.prog 41:=FnT.ok_of (cfg:=⟨[],zR,[],aq⟩) az oZ ay (fun s fn hf=>by rw[Tryz.func41]at hf;cases hf;kernel_rfl) (fun n s=>by kernel_rfl)
def law28_goes_T:Tab:=(41,law28_goes_t)::law28_example_T
theorem sZ:law28_goes_T.ok Tryz.prog:=Tab.ok_cons Gs oZ
abbrev tV:=Bool
def D5(n:Nat)(f g h k l m:Int)(o p q:Lv)(r:Int):Option tV:=
 (dq n ).bind fun a=>
 (d9 n a.1 a.2.1 a.2.2.1 a.2.2.2.1 a.2.2.2.2.1 a.2.2.2.2.2.1 a.2.2.2.2.2.2.1 a.2.2.2.2.2.2.2.1 a.2.2.2.2.2.2.2.2.1 a.2.2.2.2.2.2.2.2.2.1 a.2.2.2.2.2.2.2.2.2.2.1 a.2.2.2.2.2.2.2.2.2.2.2.1 a.2.2.2.2.2.2.2.2.2.2.2.2.1 a.2.2.2.2.2.2.2.2.2.2.2.2.2.1 a.2.2.2.2.2.2.2.2.2.2.2.2.2.2.1 a.2.2.2.2.2.2.2.2.2.2.2.2.2.2.2.1 a.2.2.2.2.2.2.2.2.2.2.2.2.2.2.2.2.1 a.2.2.2.2.2.2.2.2.2.2.2.2.2.2.2.2.2.1 a.2.2.2.2.2.2.2.2.2.2.2.2.2.2.2.2.2.2 f g h).bind fun d=>
 (dq n ).bind fun b=>
 (fJ n b.1 b.2.1 b.2.2.1 b.2.2.2.1 b.2.2.2.2.1 b.2.2.2.2.2.1 b.2.2.2.2.2.2.1 b.2.2.2.2.2.2.2.1 b.2.2.2.2.2.2.2.2.1 b.2.2.2.2.2.2.2.2.2.1 b.2.2.2.2.2.2.2.2.2.2.1 b.2.2.2.2.2.2.2.2.2.2.2.1 b.2.2.2.2.2.2.2.2.2.2.2.2.1 b.2.2.2.2.2.2.2.2.2.2.2.2.2.1 b.2.2.2.2.2.2.2.2.2.2.2.2.2.2.1 b.2.2.2.2.2.2.2.2.2.2.2.2.2.2.2.1 b.2.2.2.2.2.2.2.2.2.2.2.2.2.2.2.2.1 b.2.2.2.2.2.2.2.2.2.2.2.2.2.2.2.2.2.1 b.2.2.2.2.2.2.2.2.2.2.2.2.2.2.2.2.2.2 f g h).bind fun e=>
 (bif d.2.2.2.2.2.2.2.2=0 then(bif e.2.2.2.2.2.2.2=0 then(bif d.2.2.2.2.2.2.2.1 then(bif(!e.2.2.2.2.2.2.1)then(bY n d.1 d.2.1 d.2.2.1 d.2.2.2.1 d.2.2.2.2.1 d.2.2.2.2.2.1 d.2.2.2.2.2.2.1 k l m o p q r).bind fun i=>
 (bif i then(dq n ).bind fun c=>
 (eQ n c.1 c.2.1 c.2.2.1 c.2.2.2.1 c.2.2.2.2.1 c.2.2.2.2.2.1 c.2.2.2.2.2.2.1 c.2.2.2.2.2.2.2.1 c.2.2.2.2.2.2.2.2.1 c.2.2.2.2.2.2.2.2.2.1 c.2.2.2.2.2.2.2.2.2.2.1 c.2.2.2.2.2.2.2.2.2.2.2.1 c.2.2.2.2.2.2.2.2.2.2.2.2.1 c.2.2.2.2.2.2.2.2.2.2.2.2.2.1 c.2.2.2.2.2.2.2.2.2.2.2.2.2.2.1 c.2.2.2.2.2.2.2.2.2.2.2.2.2.2.2.1 c.2.2.2.2.2.2.2.2.2.2.2.2.2.2.2.2.1 c.2.2.2.2.2.2.2.2.2.2.2.2.2.2.2.2.2.1 c.2.2.2.2.2.2.2.2.2.2.2.2.2.2.2.2.2.2 f g h k l m o p q r).bind fun j=>
 some j else some false)else some false)else some false)else some false)else some false)
def dt(n:Nat)(a b c d e f:Int)(g h i:Lv)(j:Int):Option tV:=D5 n a b c d e f g h i j
def law28_refused_t:FnT:=⟨[(false,[.int]),(false,[.int]),(false,[.int]),(true,[.int,.int,.int,tSa,tSa,(.sl (.cons .int (.cons .int .nil))),.int])],.b,fun n (s:Int×Int×Int×Int×Int×Int×Lv×Lv×Lv×Int)=>dt n s.1 s.2.1 s.2.2.1 s.2.2.2.1 s.2.2.2.2.1 s.2.2.2.2.2.1 s.2.2.2.2.2.2.1 s.2.2.2.2.2.2.2.1 s.2.2.2.2.2.2.2.2.1 s.2.2.2.2.2.2.2.2.2⟩
theorem Cd:law28_refused_t.ok Tryz.prog 42:=FnT.ok_of (cfg:=⟨[],zR,[],aq⟩) az sZ ay (fun s fn hf=>by rw[Tryz.func42]at hf;cases hf;kernel_rfl) (fun n s=>by kernel_rfl)
def law28_refused_T:Tab:=(42,law28_refused_t)::law28_goes_T
theorem o9:law28_refused_T.ok Tryz.prog:=Tab.ok_cons Cd sZ
abbrev ik:=Bool
def Ia(n:Nat)(g h:Bool):Option ik:=
 (bif h then(dt n 30 10 0 1 30 0 ([]:Lv) ([]:Lv) ([]:Lv) 0).bind fun y5=>
 (bif g then(bif y5 then(dq n ).bind fun y6=>
 (eV n y6.1 y6.2.1 y6.2.2.1 y6.2.2.2.1 y6.2.2.2.2.1 y6.2.2.2.2.2.1 y6.2.2.2.2.2.2.1 y6.2.2.2.2.2.2.2.1 y6.2.2.2.2.2.2.2.2.1 y6.2.2.2.2.2.2.2.2.2.1 y6.2.2.2.2.2.2.2.2.2.2.1 y6.2.2.2.2.2.2.2.2.2.2.2.1 y6.2.2.2.2.2.2.2.2.2.2.2.2.1 y6.2.2.2.2.2.2.2.2.2.2.2.2.2.1 y6.2.2.2.2.2.2.2.2.2.2.2.2.2.2.1 y6.2.2.2.2.2.2.2.2.2.2.2.2.2.2.2.1 y6.2.2.2.2.2.2.2.2.2.2.2.2.2.2.2.2.1 y6.2.2.2.2.2.2.2.2.2.2.2.2.2.2.2.2.2.1 y6.2.2.2.2.2.2.2.2.2.2.2.2.2.2.2.2.2.2).bind fun c=>
 (bif c then(eV n ([]:Lv) ([]:Lv) ([]:Lv) ([]:Lv) ([]:Lv) 0 0 0 0 0 0 0 0 0 0 false ([]:Lv) 0 ([]:Lv)).bind fun d=>
 (bif(!d)then(dq n ).bind fun a=>
 (eQ n a.1 a.2.1 a.2.2.1 a.2.2.2.1 a.2.2.2.2.1 a.2.2.2.2.2.1 a.2.2.2.2.2.2.1 a.2.2.2.2.2.2.2.1 a.2.2.2.2.2.2.2.2.1 a.2.2.2.2.2.2.2.2.2.1 a.2.2.2.2.2.2.2.2.2.2.1 a.2.2.2.2.2.2.2.2.2.2.2.1 a.2.2.2.2.2.2.2.2.2.2.2.2.1 a.2.2.2.2.2.2.2.2.2.2.2.2.2.1 a.2.2.2.2.2.2.2.2.2.2.2.2.2.2.1 a.2.2.2.2.2.2.2.2.2.2.2.2.2.2.2.1 a.2.2.2.2.2.2.2.2.2.2.2.2.2.2.2.2.1 a.2.2.2.2.2.2.2.2.2.2.2.2.2.2.2.2.2.1 a.2.2.2.2.2.2.2.2.2.2.2.2.2.2.2.2.2.2 10 10 3 7 0 0 ([]:Lv) ([]:Lv) ((([]:Lv)++[[(AV.int 3),(AV.int 1)]])++[[(AV.int 1),(AV.int 1)]]) 12).bind fun e=>
 (bif(!e)then(dq n ).bind fun b=>
 (eQ n b.1 b.2.1 b.2.2.1 b.2.2.2.1 b.2.2.2.2.1 b.2.2.2.2.2.1 b.2.2.2.2.2.2.1 b.2.2.2.2.2.2.2.1 b.2.2.2.2.2.2.2.2.1 b.2.2.2.2.2.2.2.2.2.1 b.2.2.2.2.2.2.2.2.2.2.1 b.2.2.2.2.2.2.2.2.2.2.2.1 b.2.2.2.2.2.2.2.2.2.2.2.2.1 b.2.2.2.2.2.2.2.2.2.2.2.2.2.1 b.2.2.2.2.2.2.2.2.2.2.2.2.2.2.1 b.2.2.2.2.2.2.2.2.2.2.2.2.2.2.2.1 b.2.2.2.2.2.2.2.2.2.2.2.2.2.2.2.2.1 b.2.2.2.2.2.2.2.2.2.2.2.2.2.2.2.2.2.1 b.2.2.2.2.2.2.2.2.2.2.2.2.2.2.2.2.2.2 10 10 0 7 0 0 ([]:Lv) ([]:Lv) ((([]:Lv)++[[(AV.int 3),(AV.int 1)]])++[[(AV.int 1),(AV.int 1)]]) 8).bind fun f=>
 some (!f)else some false)else some false)else some false)else some false)else some false)else(bif g then some false else some false))
def H9(n:Nat)(a b:Bool):Option ik:=
 (bif b then(dt n 20 100 0 1 20 0 ([]:Lv) ([]:Lv) ([]:Lv) 0).bind fun y4=>
 Ia n a y4 else(bif a then some false else some false))
def IL(n:Nat)(a b:Bool):Option ik:=
 (bif b then(dt n 10 55 0 6 0 0 ([]:Lv) ([]:Lv) ((([]:Lv)++[[(AV.int 0),(AV.int 1)]])++[[(AV.int 1),(AV.int 1)]]) 0).bind fun c=>
 H9 n a c else(bif a then some false else some false))
def I6(n:Nat)(c:Bool):Option ik:=
 (bif c then(xm n 2 (((([]:Lv)++[[(AV.int 2),(AV.int 0)]])++[[(AV.int 0),(AV.int 1)]])++[[(AV.int 1),(AV.int 1)]])).bind fun a=>
 (dt n 10 10 3 7 0 0 ([]:Lv) ([]:Lv) ((([]:Lv)++[[(AV.int 3),(AV.int 1)]])++[[(AV.int 1),(AV.int 1)]]) 8).bind fun b=>
 IL n a b else(dt n 10 10 3 7 0 0 ([]:Lv) ([]:Lv) ((([]:Lv)++[[(AV.int 3),(AV.int 1)]])++[[(AV.int 1),(AV.int 1)]]) 8).bind fun a=>
 (bif a then(dt n 10 55 0 6 0 0 ([]:Lv) ([]:Lv) ((([]:Lv)++[[(AV.int 0),(AV.int 1)]])++[[(AV.int 1),(AV.int 1)]]) 0).bind fun b=>
 (bif b then(dt n 20 100 0 1 20 0 ([]:Lv) ([]:Lv) ([]:Lv) 0).bind fun d=>
 (bif d then(dt n 30 10 0 1 30 0 ([]:Lv) ([]:Lv) ([]:Lv) 0).bind fun y4=>
 some false else some false)else some false)else some false))
def I0(n:Nat):Option ik:=
 (xm n 0 ((([]:Lv)++[[(AV.int 0),(AV.int 1)]])++[[(AV.int 1),(AV.int 1)]])).bind fun a=>
 I6 n a
def xg(n:Nat):Option ik:=I0 n
def law28_sane_t:FnT:=⟨[],.b,fun n (s:Unit)=>xg n⟩
theorem GD:law28_sane_t.ok Tryz.prog 12:=FnT.ok_of (cfg:=⟨[],zR,[],aq⟩) az o9 ay (fun s fn hf=>by rw[Tryz.func12]at hf;cases hf;kernel_rfl) (fun n s=>by kernel_rfl)
def law28_sane_T:Tab:=(12,law28_sane_t)::law28_refused_T
theorem Dq:law28_sane_T.ok Tryz.prog:=Tab.ok_cons GD o9
end
end Go.Proofs.YtbfkkigbedmhgaaGreat
namespace Go.Sx
open Go Go.RowKit Go.Dial Go.ChangeShapes Go.WideShapes Go.ChangeAt Go.WideMaps Go.WideElems
def ax(n:Int):Prop:= -9223372036854775808<=n/\n<=9223372036854775807
inductive AVok:AV->Prop
 |int (n:Int) (h:ax n):AVok (.int n)
 |bool (b:Bool):AVok (.bool b)
 |raw (s:ByteArray) (h:s.size<=maxLen):AVok (.raw (.string s))
 |sl (t:Ty) (l:List (List AV)) (h:l.length<=maxLen) (hty:∀r∈l,r.map AV.ty=t.list) (hr:∀r∈l,∀x∈r,AVok x):AVok (.sl t l)
theorem AVok.i{x:AV}(h:AVok x)(ht:x.ty=.int):∃n,x=.int n/\ax n:=by
 cases h with
 |int n h=>exact⟨n,rfl,h⟩
 |_=>cases ht
theorem AVok.l'{x:AV}{t:Ty}(h:AVok x)(ht:x.ty=.sl t):∃l,x=.sl t l/\l.length<=maxLen/\(∀r∈l,r.map AV.ty=t.list)/\∀r∈l,∀y∈r,AVok y:=by
 cases h with
 |sl t' l h hty hr=>cases ht;exact⟨l,rfl,h,hty,hr⟩
 |_=>cases ht
section
variable (P:Program)
def Ht(go:Nat->Option (List Ty)):List Field->Nat->Option (List Ty)
 |[],_=>some []
 |f::fs,off=>if f.offset=off then(go f.type).bind fun a=>if P.cellsOf f.type=a.length then(Ht go fs (off+a.length)).map fun b=>a++b else none else none
def qI:Nat->Nat->Option (List Ty)
 |0,_=>none
 |d+1,t=>
  match P.underlying t with
  |some .bool=>some [.bool]
  |some (.int .i64)=>some [.int]
  |some .string=>some [.raw]
  |some (.slice e)=>(qI d e).bind fun l=>if P.cellsOf e=l.length/\0<l.length then some [.sl (l.foldr .cons .nil)]else none
  |some (.struct fs)=>(Ht P (qI d) fs.toList 0).bind fun l=>if P.cellsOf t=l.length then some l else none
  |some (.array n e)=>(qI d e).bind fun l=>if P.cellsOf e=l.length/\P.cellsOf t=n*l.length then some (R4 n l).flatten else none
  |_=>none
def o0(t:Nat):Bool:=
 match P.underlying t with
 |some (.struct _)|some (.array _ _)=>true
 |_=>false
def Lz:List Nat->Option Ps
 |[]=>some []
 |t::ts=>(qI P 12 t).bind fun l=>(Lz ts).map fun ps=>(o0 P t,l)::ps
end
theorem Ek(l:List Ty):(l.foldr Ty.cons Ty.nil).list=l:=by
 induction l with
 |nil=>rfl
 |cons a l ih=>show a::(l.foldr Ty.cons Ty.nil).list=_;rw[ih]
theorem Na(l:List Ty):(l.foldr Ty.cons Ty.nil).len=l.length:=by rw[<-Ty.list_len,Ek]
section
variable {H:Type} {enc:TypeId×Value->H} {P:Program} {w:World} {base:Nat} {spare:Nat->Bool} {held:Bool}
def Reads(w:World)(cs:List Value)(tys:List Ty)(avs:List AV):Prop:=
 cs.length=tys.length/\avs.map AV.ty=tys/\(∀(i:Nat) v a,cs[i]?=some v->avs[i]?=some a->Den (fun k=>k<w.heap.size) w v a)/\∀a∈avs,AVok a
theorem Reads.nil:Reads w [] [] []:=⟨rfl,rfl,fun i v a h=>by simp at h,fun a h=>by cases h⟩
theorem Reads.append{c1 c2:List Value}{t1 t2:List Ty}{a1 a2:List AV}(h1:Reads w c1 t1 a1)(h2:Reads w c2 t2 a2):Reads w (c1++c2) (t1++t2) (a1++a2):=by
 obtain⟨p1,p2,p3,p4⟩:=h1;obtain⟨q1,q2,q3,q4⟩:=h2;have hl:a1.length=c1.length:=by rw[p1,<-p2,v4]
 refine⟨by simp[p1,q1],by simp[p2,q2],fun i v a hv ha=>?_,fun a ha=>?_⟩
 ·by_cases hi:i<c1.length
  ·rw[y9 hi]at hv
   rw[y9 (by omega)]at ha
   exact p3 i v a hv ha
  ·rw[RQ (by omega)]at hv ha
   rw[hl]at ha;exact q3 _ v a hv ha
 ·rcases List.mem_append.1 ha with h|h
  ·exact p4 a h
  ·exact q4 a h
theorem Reads.one{v:Value}{a:AV}(h:Den (fun k=>k<w.heap.size) w v a)(hok:AVok a):Reads w [v] [a.ty] [a]:=by
 refine⟨rfl,rfl,fun i u x hu hx=>?_,fun x hx=>by rw[v9]at hx;rw[hx];exact hok⟩
 cases i with
 |zero=>cases hu;cases hx;exact h
 |succ i=>simp at hu
theorem Q9:∀(d:Nat) (t:Nat) (tys:List Ty),qI P d t=some tys->∀m cs x,DataW.trod enc P w base spare held m t cs=some x->∃avs,Reads w cs tys avs:=by
 intro d;induction d with
 |zero=>intro t tys h;cases h
 | succ d ih=>
  intro t tys h m cs x hx;unfold qI at h;split at h
  ·rename_i ht
   cases h
   obtain⟨b,rfl,_⟩:=DataW.trod_bool ht hx;exact⟨[.bool b],Reads.one (.bool b) (.bool b)⟩
  ·rename_i ht
   cases h
   obtain⟨n,rfl,h1,h2⟩:=PO ht m cs x hx;exact⟨[.int n],Reads.one (.int n) (.int n ⟨h1,h2⟩)⟩
  ·rename_i ht
   cases h
   obtain⟨s,rfl,hs⟩:=Nl ht m cs x hx;exact⟨[.raw (.string s)],Reads.one (.raw _ rfl) (.raw s hs)⟩
  ·rename_i e ht
   obtain⟨l,hl,h⟩:=Option.bind_eq_some_iff.1 h;split at h
   ·rename_i hc
    obtain⟨hc,hpos⟩:=hc;cases h
    have he:=ih e l hl;rcases DataW.trod_slice ht hx with⟨rfl,_⟩|⟨a,len,cap,elems,rest,n,_,rfl,_,_,hle,hca,hlen,hel,_⟩
    ·exact⟨[.sl _ []],Reads.one (Den.mk (l:=[]) rfl (RK _) (RK _) (fun i r h=>by simp at h) (fun h=>absurd rfl h)) (.sl _ [] (RK _) (fun r h=>by cases h) (fun r h=>by cases h))⟩
    ·rw [hc]at hel
     have one:∀i,i<len->∃avs:List AV,avs.map AV.ty=l/\(∀a∈avs,AVok a)/\∀(k:Nat) y,avs[k]?=some y->∃u,w.cell? (a.add (i*l.length+k))=some u/\Den (fun k=>k<w.heap.size) w u y:=by
      intro i hi;have hxi:=hel i hi;rw[v2 (by omega)]at hxi
      obtain⟨cl,hl1,hl2⟩:=Option.bind_eq_some_iff.1 hxi;obtain⟨avs,r1,r2,r3,r4⟩:=he _ _ _ hl2;obtain⟨c1,c2⟩:=NO hl1;refine⟨avs,r2,r4,fun k y hy=>?_⟩
      have hk:k<l.length:=by
       have:=(List.getElem?_eq_some_iff.1 hy).1
       rw[<-r2,v4];exact this
      have hck:cl[k]?=some cl[k]:=v2 (by omega)
      refine⟨cl[k],?_,r3 k _ y hck hy⟩
      have:=c2 k hk
      rw[hck,ip]at this;exact this
     have all:∀k,k<=len->∃L:List (List AV),L.length=k/\(∀(i:Nat) r,L[i]?=some r->r.map AV.ty=l)/\(∀r∈L,∀a∈r,AVok a)/\∀(i:Nat) r,L[i]?=some r->∀(k:Nat) y,r[k]?=some y->∃u,w.cell? (a.add (i*l.length+k))=some u/\Den (fun k=>k<w.heap.size) w u y:=by
      intro k;induction k with
      |zero=>intro _;exact⟨[],rfl,(fun i r h=>by simp at h),(fun r h=>by cases h),(fun i r h=>by simp at h)⟩
      | succ k ihk=>
       intro hk;obtain⟨L,g1,g2,g3,g4⟩:=ihk (by omega)
       obtain⟨avs,o1,o2,o3⟩:=one k (by omega)
       have get:∀(i:Nat) r,(L++[avs])[i]?=some r->L[i]?=some r\/(i=k/\r=avs):=fun i r h=>by
        by_cases hi:i<L.length
        ·rw[y9 hi]at h;exact .inl h
        ·rw[RQ (by omega)]at h
         have:i-L.length=0:=by
          have:=(List.getElem?_eq_some_iff.1 h).1
          simp only[RT,List.length_nil]at this;omega
         rw[this]at h;cases h
         exact .inr ⟨by omega,rfl⟩
       refine⟨L++[avs],by simp[g1],fun i r h=>?_,fun r h=>?_,fun i r h=>?_⟩
       ·rcases get i r h with h|⟨_,rfl⟩
        ·exact g2 i r h
        ·exact o1
       ·rcases List.mem_append.1 h with h|h
        ·exact g3 r h
        ·rw[v9]at h;rw[h];exact o2
       ·rcases get i r h with h|⟨rfl,rfl⟩
        ·exact g4 i r h
        ·exact o3
     obtain⟨L,g1,g2,g3,g4⟩:=all len (RL _);have hty:∀(i:Nat) r,L[i]?=some r->r.map AV.ty=(l.foldr Ty.cons Ty.nil).list:=fun i r h=>by rw[Ek];exact g2 i r h
     refine⟨[.sl (l.foldr Ty.cons Ty.nil) L],Reads.one (Den.mk g1 hle hca hty (fun hne=>⟨a,rfl,?_,fun i r h k y hy=>by rw[Na];exact g4 i r h k y hy⟩)) (.sl _ L (by omega) (fun r hr=>?_) g3)⟩
     ·obtain⟨r,L',rfl⟩:=List.exists_cons_of_ne_nil hne
      have h0:=g2 0 r rfl;obtain⟨y,hy⟩:∃y,r[0]?=some y:=⟨_,v2 (by rw[<-v4 (f:=AV.ty),h0];exact hpos)⟩
      obtain⟨u,hu,_⟩:=g4 0 r rfl 0 y hy;have:=World.block_lt_of_cell? w _ hu
      rwa [o4]at this
     ·obtain⟨i,hi,rfl⟩:=y8 hr
      exact hty i _ (v2 hi)
   ·cases h
  ·rename_i fs ht
   obtain⟨l,hl,h⟩:=Option.bind_eq_some_iff.1 h;split at h
   ·rename_i hc
    cases h
    obtain⟨xs,k,_,_,hlen,hn,hf⟩:=DataW.trod_struct ht hx;have go:∀(q:List Field) (j off:Nat) (l:List Ty),Ht P (qI P d) q off=some l->(∀(i:Nat) f,q[i]?=some f->fs[j+i]?=some f)->off+l.length=cs.length->∃avs,Reads w (cs.drop off) l avs:=by
     intro q;induction q with
     |nil=>
      intro j off l h _ hlen;cases h
      refine⟨[],?_⟩
      rw[List.drop_of_length_le (by simp at hlen;omega)]
      exact Reads.nil
     | cons f q ihq=>
      intro j off l h hfs hlen;unfold Ht at h;split at h
      ·rename_i ho
       obtain⟨a,ha,h⟩:=Option.bind_eq_some_iff.1 h;split at h
       ·rename_i hca
        obtain⟨b,hb,rfl⟩:=Option.map_eq_some_iff.1 h;have hfj:=hfs 0 f rfl;have hx1:=hf (j+0) f hfj;have hjl:j+0<xs.length:=by rw[hn];exact(Array.getElem?_eq_some_iff.1 hfj).1
        rw[v2 hjl,ho,hca]at hx1;obtain⟨av1,r1⟩:=ih f.type a ha _ _ _ hx1;rw[v5]at hlen;obtain⟨av2,r2⟩:=ihq (j+1) (off+a.length) b hb (fun i g hg=>by rw[show j+1+i=j+(i+1) by omega];exact hfs (i+1) g hg) (by omega)
        refine⟨av1++av2,?_⟩
        have:=r1.append r2
        rw[<-List.drop_drop,List.take_append_drop]at this;exact this
       ·cases h
      ·cases h
    obtain⟨avs,hr⟩:=go fs.toList 0 0 tys hl (fun i f h=>by simpa using h) (by omega)
    exact⟨avs,by simpa using hr⟩
   ·cases h
  ·rename_i n e ht
   obtain⟨l,hl,h⟩:=Option.bind_eq_some_iff.1 h;split at h
   ·rename_i hc
    cases h
    obtain⟨xs,m',_,_,hlen,hn,hel⟩:=DataW.trod_array ht hx;rw[hc.1]at hel;have key:∀k,k<=n->∃avs,Reads w (cs.take (k*l.length)) (R4 k l).flatten avs:=by
     intro k;induction k with
     |zero=>intro _;exact⟨[],by simpa using Reads.nil⟩
     |succ k ihk=>
      intro hk;obtain⟨a1,r1⟩:=ihk (by omega)
      have hx1:=hel k (by omega)
      rw[v2 (by omega)]at hx1
      obtain⟨a2,r2⟩:=ih e l hl _ _ _ hx1;refine⟨a1++a2,?_⟩
      have:=r1.append r2
      rw[Nat.succ_mul,List.take_add,List.replicate_succ',List.flatten_concat];exact this
    obtain⟨avs,hr⟩:=key n (RL _);exact⟨avs,by rw[RW (by omega)]at hr;exact hr⟩
   ·cases h
  ·cases h
theorem Q2{W:World}{b:Nat}{t:TypeId}{v:Value}{d:DataW H}{ps:List MemPlace}{l:List Ty}(hl:qI P 12 t=some l)(hok:Value.okWide P W .any b t v)(h:DataW.Trod enc P W 0 (fun _=>true) true t v d ps):
  ∃x:AV,Den (fun k=>k<W.heap.size) W v x/\(∀y∈AV.cells x,AVok y)/\(Bool.rec (motive:=fun _=>Bool) (x.oneB l) (x.aggB l) (o0 P t))=true:=by
 obtain⟨fuel,hf⟩:=h;obtain⟨avs,r1,r2,r3,r4⟩:=Q9 12 t l hl _ _ _ hf;have eqt:∀ts:List Ty,uT ts ts=true:=by
  have eqb:∀t:Ty,t.eqb t=true:=by
   intro t;induction t with
   |sl r ih=>exact ih
   |cons a b ih1 ih2=>show(Ty.eqb a a&&Ty.eqb b b)=true;rw[ih1,ih2];rfl
   |_=>rfl
  intro ts;induction ts with
  |nil=>rfl
  |cons t ts ih=>show(Ty.eqb t t&&uT ts ts)=true;rw[eqb,ih];rfl
 have agg:o0 P t=true->(∃fs,P.underlying t=some (.struct fs))\/∃n e,P.underlying t=some (.array n e):=fun h=>by
  unfold o0 at h;split at h
  ·exact .inl ⟨_,‹_›⟩
  ·exact .inr ⟨_,_,‹_›⟩
  ·cases h
 cases ha:o0 P t with
 | true=>
  have hv:∃cs,v=.agg cs:=by
   rcases agg ha with⟨fs,ht⟩|⟨n,e,ht⟩
   ·simp only[Value.okWide,ht]at hok
    obtain⟨cs,h1,_⟩:=hok;exact⟨cs,h1⟩
   ·simp only[Value.okWide,ht]at hok
    obtain⟨cs,h1,_⟩:=hok;exact⟨cs,h1⟩
  obtain⟨cs,rfl⟩:=hv;refine⟨.agg avs,?_,r4,?_⟩
  ·have:=Den.agg (S:=fun k=>k<W.heap.size) (w:=W) cs.toList avs (by
    have:cs.toList.length=l.length:=r1
    rw[this,<-r2,v4]) (fun i v x h1 h2=>r3 i v x h1 h2)
   simpa using this
  ·show uT (avs.map AV.ty) l=true
   rw[r2];exact eqt l
 | false=>
  have single:∃c:Value,aT v=true->v.cells=#[v]:=⟨v,oz⟩
  have hp:aT v=true:=by
   unfold qI at hl;split at hl
   ·rename_i ht;obtain⟨b,rfl⟩:=okWide_bool ht hok;rfl
   ·rename_i ht;obtain⟨n,rfl,_⟩:=QM ht hok ⟨fuel,hf⟩;rfl
   ·rename_i ht;obtain⟨s,rfl,_⟩:=M7 ht hok ⟨fuel,hf⟩;rfl
   ·rename_i e ht;obtain⟨a,len,cap,rfl⟩:=okWide_slice ht hok;rfl
   ·rename_i fs ht;unfold o0 at ha;rw[ht]at ha;cases ha
   ·rename_i n e ht;unfold o0 at ha;rw[ht]at ha;cases ha
   ·cases hl
  have hcs:v.cells.toList=[v]:=by rw[oz hp]
  have r1:v.cells.toList.length=l.length:=r1
  rw[hcs]at r1;have hav:avs.length=1:=by rw[<-v4 (f:=AV.ty),r2,<-r1];rfl
  match avs,hav with
  | [x],_=>
   have hd:=r3 0 v x (by show v.cells.toList[0]?=_;rw[hcs];rfl) rfl
   have hok:=r4 x (y0 ..);have hty:[x.ty]=l:=r2
   subst hty;refine⟨x,hd,fun y hy=>?_,?_⟩
   ·cases hok<;>(unfold AV.cells at hy;rw[v9]at hy;rw[hy];exact r4 _ (y0 ..))
   ·show x.oneB [x.ty]=true
    cases hok with
    |int n h=>exact eqt [.int]
    |bool b=>exact eqt [.bool]
    |raw s h=>exact eqt [.raw]
    |sl t l h _ _=>exact eqt [.sl t]
theorem Mo{W:World}{b:Nat}:∀(ts:List TypeId) (qs:Ps) {vs:List Value} {ds:List (DataW H)} {ps:List MemPlace},Lz P ts=some qs->DataW.TrodAll enc P W 0 (fun _=>true) true ts vs ds ps →
  (∀(j:Nat) t v,ts[j]?=some t->vs[j]?=some v->Value.okWide P W .any b t v) →
  ∃xs:List AV,vs.length=xs.length/\(∀(i:Nat) v x,vs[i]?=some v->xs[i]?=some x->Den (fun k=>k<W.heap.size) W v x)/\(∀x∈xs,∀y∈AV.cells x,AVok y)/\sQ qs xs=true
 |[],qs,vs,ds,ps,hq,h,_=>by
  cases hq
  obtain⟨rfl,rfl,rfl⟩:=trodAll_nil h;exact⟨[],rfl,(fun i v x h=>by simp at h),(fun x h=>by cases h),rfl⟩
 | t::ts,qs,vs,ds,ps,hq,h,hv=>by
  obtain⟨v,vs1,d,ds1,a1,b1,rfl,rfl,rfl,h1,h2⟩:=trodAll_cons h;unfold Lz at hq;obtain⟨l,hl,hq⟩:=Option.bind_eq_some_iff.1 hq;obtain⟨qs',hq',rfl⟩:=Option.map_eq_some_iff.1 hq;obtain⟨xs,e1,e2,e3,e4⟩:=Mo ts qs' hq' h2 (fun j t v hj hv'=>hv (j+1) t v hj hv')
  obtain⟨x,f1,f2,f3⟩:=Q2 hl (hv 0 t v rfl rfl) h1;refine⟨x::xs,by simp[e1],fun i u y hu hy=>?_,fun y hy=>?_,?_⟩
  ·cases i with
   |zero=>cases hu;cases hy;exact f1
   |succ i=>exact e2 i u y hu hy
  ·rcases List.mem_cons.1 hy with rfl|hy
   ·exact f2
   ·exact e3 y hy
  ·show(and (Bool.rec (motive:=fun _=>Bool) (x.oneB l) (x.aggB l) (o0 P t)) (sQ qs' xs))=true
   rw[f3,e4];rfl
theorem BW{W:World}:∀(ts:List TypeId) {vs:List Value} {ds:List (DataW H)} {ps:List MemPlace},DataW.TrodAll enc P W 0 (fun _=>true) true ts vs ds ps->ds.length=ts.length
 |[],_,_,_,h=>by
  obtain⟨_,rfl,_⟩:=trodAll_nil h;rfl
 |t::ts,_,_,_,h=>by
  obtain⟨v,vs1,d,ds1,a,b,_,rfl,_,_,h2⟩:=trodAll_cons h;simp[BW ts h2]
def OR:(ts:List Ty)->bx ts->Prop:=fun ts s=>∀x∈iN ts s,AVok x
theorem Lc{f:Nat}{F:FnT}(hF:F.ok P f){W:World}{b:Nat}{ts:List TypeId}{vs:List Value}{ds:List (DataW H)}{ps:List MemPlace}(hq:Lz P ts=some F.ps)(h:DataW.TrodAll enc P W 0 (fun _=>true) true ts vs ds ps)
  (hv:∀(j:Nat) t v,ts[j]?=some t->vs[j]?=some v->Value.okWide P W .any b t v)
  (hlaw:∀s:bx (Ps.tys F.ps),OR (Ps.tys F.ps) s->∃n z,F.fn n s=some z/\sj F.sh z=.b true):Calls P f vs.toArray W fun e w'=>e=.returned (.bool true)/\Below W.heap.size W w':=by
 obtain⟨xs,e1,e2,e3,e4⟩:=Mo ts F.ps hq h hv;obtain⟨c1,c2⟩:=Bv F.ps xs e4;have hcells:∀y∈eE xs,AVok y:=fun y hy=>by
  rw[F7,List.mem_flatMap]at hy;obtain⟨x,hx,hy⟩:=hy;exact e3 x hx y hy
 obtain⟨n,z,h1,h2⟩:=hlaw (fK (Ps.tys F.ps) (eE xs)) (fun x hx=>by rw[ER c2]at hx;exact hcells x hx)
 have hc:=hF n _ z h1;rw[HH e4,h2]at hc;exact Mq hc rfl ⟨by simpa using e1,fun i v x h1 h2=>e2 i v x (by simpa using h1) h2⟩
end
end Go.Sx
namespace Go.Proofs.YtbfkkigbedmhgaaGreat
open Go Go.Sx Go.Dial.Ref
theorem Ra{α:Type}{l:List α}(h:l.length=3):∃a b c,l=[a,b,c]:=by
 match l,h with
 |[a,b,c],_=>exact⟨a,b,c,rfl⟩
theorem Rp{α:Type}{l:List α}(h:l.length=5):∃a b c d e,l=[a,b,c,d,e]:=by
 match l,h with
 |[a,b,c,d,e],_=>exact⟨a,b,c,d,e,rfl⟩
theorem OK{α:Type}{l:List α}(h:l.length=1):∃a,l=[a]:=by
 match l,h with
 |[a],_=>exact⟨a,rfl⟩
theorem Q5{r:List AV}(h:r.map AV.ty=[.int,.int,.int])(hok:∀x∈r,AVok x):∃x:Tri,r=bK x/\In3 x:=by
 obtain⟨a,b,c,rfl⟩:=Ra (l:=r) (by have:=congrArg RX h;simpa using this)
 simp only[RR,RU,List.cons.injEq,and_true]at h;obtain⟨a,rfl,h1⟩:=(hok a (by simp)).i h.1
 obtain⟨b,rfl,h2⟩:=(hok b (by simp)).i h.2.1
 obtain⟨c,rfl,h3⟩:=(hok c (by simp)).i h.2.2
 exact⟨(a,b,c),rfl,h1,h2,h3⟩
theorem RB{r:List AV}(h:r.map AV.ty=[.int,.int,.int,.int,.int])(hok:∀x∈r,AVok x):∃x:Int×Int×Int×Int×Int,r=ju x/\In5 x:=by
 obtain⟨a,b,c,d,e,rfl⟩:=Rp (l:=r) (by have:=congrArg RX h;simpa using this)
 simp only[RR,RU,List.cons.injEq,and_true]at h;obtain⟨a,rfl,h1⟩:=(hok a (by simp)).i h.1
 obtain⟨b,rfl,h2⟩:=(hok b (by simp)).i h.2.1
 obtain⟨c,rfl,h3⟩:=(hok c (by simp)).i h.2.2.1
 obtain⟨d,rfl,h4⟩:=(hok d (by simp)).i h.2.2.2.1
 obtain⟨e,rfl,h5⟩:=(hok e (by simp)).i h.2.2.2.2
 exact⟨(a,b,c,d,e),rfl,h1,h2,h3,h4,h5⟩
theorem wJ{α:Type}{f:α->List AV}{Q:α->Prop}:∀ {l:Lv},(∀r∈l,∃x,r=f x/\Q x)->∃xs:List α,l=xs.map f/\∀x∈xs,Q x
 |[],_=>⟨[],rfl,fun x h=>by cases h⟩
 | r::l,h=>by
  obtain⟨x,rfl,hx⟩:=h r (y0 ..);obtain⟨xs,rfl,hxs⟩:=wJ (l:=l) fun r hr=>h r (y7 _ hr)
  exact⟨x::xs,rfl,fun y hy=>by
   rcases List.mem_cons.1 hy with rfl|hy
   ·exact hx
   ·exact hxs y hy⟩
theorem Fo{l:Lv}{t:Ty}(ht:t.list=[.int,.int,.int])(h:AVok (.sl t l)):∃xs:List Tri,l=xs.map bK/\∀x∈xs,In3 x:=by
 cases h with
 |sl _ _ _ hty hr=>exact wJ fun r hm=>Q5 (by rw[hty r hm,ht]) (hr r hm)
theorem Pd{l:Lv}{t:Ty}(ht:t.list=[.int,.int,.int,.int,.int])(h:AVok (.sl t l)):∃xs:List (Int×Int×Int×Int×Int),l=xs.map ju/\∀x∈xs,In5 x:=by
 cases h with
 |sl _ _ _ hty hr=>exact wJ fun r hm=>RB (by rw[hty r hm,ht]) (hr r hm)
theorem QP{r:List AV}(h:r.map AV.ty=[.int])(hok:∀x∈r,AVok x):∃x:Int,r=[.int x]/\ax x:=by
 obtain⟨a,rfl⟩:=OK (l:=r) (by have:=congrArg RX h;simpa using this)
 simp only[RR,RU,List.cons.injEq,and_true]at h;obtain⟨a,rfl,h1⟩:=(hok a (by simp)).i h
 exact⟨a,rfl,h1⟩
theorem Kw{l:Lv}{t:Ty}(ht:t.list=[.int])(h:AVok (.sl t l)):∃xs:List Int,l=iL xs/\∀x∈xs,ax x:=by
 cases h with
 |sl _ _ _ hty hr=>exact wJ (f:=fun x=>[.int x]) fun r hm=>QP (by rw[hty r hm,ht]) (hr r hm)
theorem P3{r:List AV}(h:r.map AV.ty=[.sl (.cons .int (.cons .int (.cons .int .nil)))])(hok:∀x∈r,AVok x):∃y:List Tri,r=qT y/\∀x∈y,In3 x:=by
 obtain⟨a,rfl⟩:=OK (l:=r) (by have:=congrArg RX h;simpa using this)
 simp only[RR,RU,List.cons.injEq,and_true]at h;have hg:=hok a (by simp)
 obtain⟨l,rfl,_⟩:=hg.l' h;obtain⟨xs,rfl,h7⟩:=Fo rfl hg;exact⟨xs,rfl,h7⟩
theorem Pe{l:Lv}{t:Ty}(ht:t.list=[.sl (.cons .int (.cons .int (.cons .int .nil)))])(h:AVok (.sl t l)):∃ys:List (List Tri),l=ys.map qT/\∀y∈ys,∀x∈y,In3 x:=by
 cases h with
 |sl _ _ _ hty hr=>exact wJ fun r hm=>P3 (by rw[hty r hm,ht]) (hr r hm)
theorem lC{n:Int}(h:AVok (.int n)):ax n:=by
 cases h with
 |int _ h=>exact h
theorem Pg{q r s t i j:Lv}{k l m n o p a b c d f g:Int}{rest:List AV}(h:∀x∈[AV.sl (.cons (.sl (.cons .int (.cons .int (.cons .int .nil)))) .nil) q,AV.sl (.cons .int (.cons .int (.cons .int (.cons .int (.cons .int .nil))))) r,.int k,AV.sl (.cons .int .nil) s,AV.sl (.cons .int .nil) t,.int l,.int m,.int n,.int o,.int p,.int a,.int b,.int c,.int d,.int f,.int g,AV.sl (.cons .int (.cons .int (.cons .int .nil))) i,AV.sl (.cons .int (.cons .int (.cons .int .nil))) j]++rest,AVok x):
  (∃X:Nm,X.ok/\q=X.lives.map qT/\r=X.sets.map ju/\k=X.cond/\s=iL X.hol/\t=iL X.kn/\l=X.lag/\m=X.r0/\n=X.r1/\o=X.r2/\p=X.r3/\a=X.c0/\b=X.c1/\c=X.c2/\d=X.c3/\f=X.c4/\g=X.c5/\i=X.evs.map bK/\j=X.net.map bK)/\∀x∈rest,AVok x:=by
 obtain⟨lv,rfl,h0⟩:=Pe rfl (h _ (by simp:AV.sl (.cons (.sl (.cons .int (.cons .int (.cons .int .nil)))) .nil) q∈_))
 obtain⟨st,rfl,h1⟩:=Pd rfl (h _ (by simp:AV.sl (.cons .int (.cons .int (.cons .int (.cons .int (.cons .int .nil))))) r∈_))
 obtain⟨ho,rfl,h3⟩:=Kw rfl (h _ (by simp:AV.sl (.cons .int .nil) s∈_))
 obtain⟨kn,rfl,h4⟩:=Kw rfl (h _ (by simp:AV.sl (.cons .int .nil) t∈_))
 obtain⟨ev,rfl,h16⟩:=Fo rfl (h _ (by simp:AV.sl (.cons .int (.cons .int (.cons .int .nil))) i∈_))
 obtain⟨nt,rfl,h17⟩:=Fo rfl (h _ (by simp:AV.sl (.cons .int (.cons .int (.cons .int .nil))) j∈_))
 have hi:∀v:Int,AV.int v∈[AV.int k,.int l,.int m,.int n,.int o,.int p,.int a,.int b,.int c,.int d,.int f,.int g]->ax v:=fun v hv=>lC (h _ (RZ _ (by
  simp only[List.mem_cons,List.not_mem_nil,or_false]at hv⊢;rcases hv with e|e|e|e|e|e|e|e|e|e|e|e<;>rw[e]<;>simp)))
 refine⟨⟨⟨lv,st,k,ho,kn,l,m,n,o,p,a,b,c,d,f,g,ev,nt⟩,?_,rfl,rfl,rfl,rfl,rfl,rfl,rfl,rfl,rfl,rfl,rfl,rfl,rfl,rfl,rfl,rfl,rfl,rfl⟩,fun x hx=>h x (List.mem_append_right _ hx)⟩
 exact⟨h0,h1,hi _ (by simp),h3,h4,hi _ (by simp),hi _ (by simp),hi _ (by simp),hi _ (by simp),hi _ (by simp),hi _ (by simp),hi _ (by simp),hi _ (by simp),hi _ (by simp),hi _ (by simp),hi _ (by simp),h16,h17⟩
theorem eB(n:Nat){c k:Int}(hc:ax c)(hk:0<k):dw n c k=some (pk c k):=by
 unfold ax at hc;unfold dw yP pk;by_cases h:c<0
 ·rw[kT h,kG (by omega),kG (by omega),kNF (show ¬k=0 by omega),if_pos h]
 ·rw[kF h,kNF (show ¬k=0 by omega),if_neg h]
open Go.Dial.Flo in
theorem QC{es:List Ed}{a b:Int}(hv:NetV 8 es)(a0:0<=a)(a1:a<=7)(b0:0<=b)(b1:b<=7)(hab:a≠b)(hr:¬Dial.Flo.Reach es a b):∃s,IsR es a s:=by
 obtain⟨M,value,s,hM,_⟩:=w7 20001001 es a b hv a0 a1 b0 b1 hab (by decide)
 refine⟨s,?_⟩
 have h:=hM.isr;rw[show((a.toNat:Nat):Int)=a by omega]at h
 refine h ?_
 rcases hM.inv.val with⟨h1,_⟩|⟨_,h1⟩
 ·exact h1
 ·rw[show((a.toNat:Nat):Int)=a by omega,show((b.toNat:Nat):Int)=b by omega]at h1
  exact absurd h1 hr
theorem QR{g:Gr}(hv:GrV g):Go.Dial.Flo.NetV 8 g.es:=by
 have:=hv.2.2.2.2.2.1
 rw[hv.2.2.2.2.2.2]at this;exact this
theorem Md{g:Gr}{num t c:Int}(h:bN g num t c):RSmall (vl g num t c).1:=by
 have hc:=iz h;obtain⟨h1,h2,h3⟩:=LH (g:=g) (t:=t) (c:=c) (w:=wy g num t) (p:=hp g c) (by have:=hc.wlen;omega) (by have:=hc.ulen;omega) (by have:=hc.plen;omega)
 exact⟨h1,h2,h3⟩
theorem Nk:RSmall xn:=⟨RK _,RK _,RK _⟩
abbrev N0:Nat:=20001001
theorem Bn:20001000<N0:=by decide
set_option maxHeartbeats 0 in
theorem Ik:xg N0=some true:=by kernel_rfl
theorem mD(n:Nat)(r q:Rf)(hr:RSmall r)(hn:1000<n):bY n r.k r.n r.rk (iL r.rp) (iL r.ru) (hpL r.hs) r.s q.k q.n q.rk (iL q.rp) (iL q.ru) (hpL q.hs) q.s=some (decide (r=q)):=by
 unfold bY yW;rw[yR n r.rk q.rk r.rp q.rp r.ru q.ru hr.rp hr.ru hn,v0,Ah n r.hs q.hs hr.hs hn,v0];by_cases e1:r.k=q.k
 ·rw [kT e1]
  by_cases e2:r.n=q.n
  ·rw [kT e2]
   by_cases e3:(r.rk,r.rp,r.ru)=(q.rk,q.rp,q.ru)
   ·rw[kT e3]
    by_cases e4:r.hs=q.hs
    ·rw[kT e4]
     congr 1
     rw[decide_eq_decide];constructor
     ·intro e5
      cases r;cases q
      dsimp only at *
      cases e3
      subst e1 e2 e4 e5;rfl
     ·intro h;rw[h]
    ·rw[kF e4,decide_eq_false (fun h=>e4 (by rw[h]))]
   ·rw[kF e3,decide_eq_false (fun h=>e3 (by rw[h]))]
  ·rw[kF e2,decide_eq_false (fun h=>e2 (by rw[h]))]
 ·rw[kF e1,decide_eq_false (fun h=>e1 (by rw[h]))]
theorem AP(n:Nat)(a b k:Int)(p u:List Int)(q:List (Int×Int))(hp:p.length<=1000)(hu:u.length<=1000)(hq:q.length<=1000)(hn:1000<n):jm n a b k (iL p) (iL u) (hpL q) a b k (iL p) (iL u) (hpL q)=some true:=by
 unfold jm uN;rw[yR n k k p p u u hp hu hn,v0,Ah n q q hq hn,kT rfl,kT rfl,kT rfl,v0];rw[decide_eq_true rfl]
theorem PL(l:List Int)(k:Nat):List.take k (iL l)=iL (l.take k):=by show List.take k (R5 _ _)=_;rw[<-List.map_take]
theorem BI(n:Nat)(k:Int)(p u:List Int)(how m:Int)(hp:p.length<=100)(hu:u.length<=100)(h1:ax how):∃k' p' u',jK n k (iL p) (iL u) how m=some (k',iL p',iL u')/\p'.length<=101/\u'.length<=101:=by
 have h2:=DL (k:=5) (by decide) h1
 have h2':=h2;unfold ax at h2';unfold jK p9;rw[ah,ah,kT (by omega),kT (by omega),cw n h1 (by decide),v0]
 by_cases e0:pk how 5=0
 ·rw[kT e0];exact⟨_,_,_,rfl,by omega,by omega⟩
 ·rw [kF e0]
  by_cases e1:pk how 5=1
  ·rw[kT e1,kT (by omega),iq];exact⟨_,_,_,rfl,by rw[v5,v3];omega,by omega⟩
  ·rw [kF e1]
   by_cases e2:pk how 5=2
   ·rw[kT e2,kT (by omega),iq];exact⟨_,_,_,rfl,by omega,by rw[v5,v3];omega⟩
   ·rw[kF e2]
    by_cases e3:pk how 5=3
    ·rw[kT e3]
     by_cases e4:(0:Int)<(p.length:Int)
     ·rw[kT e4,kG (by omega),kT (by omega),kT (by omega),PL];exact⟨_,_,_,rfl,by rw[List.length_take];omega,by omega⟩
     ·rw[kF e4];exact⟨_,_,_,rfl,by omega,by omega⟩
    ·rw[kF e3]
     by_cases e4:(0:Int)<(u.length:Int)
     ·have b:=aR (v8 how 5) e4
      rw[kT e4,kG (by omega),cw n h2 e4,v0,kT b.1,kT b.2,pc];exact⟨_,_,_,rfl,by omega,by rw[RN];omega⟩
     ·rw[kF e4];exact⟨_,_,_,rfl,by omega,by omega⟩
theorem O8(l:List (Int×Int))(k:Nat)(v:Int):∃l',v1 (hpL l) k (fun r=>r.set 1 (AV.int v))=hpL l'/\l'.length=l.length:=by
 induction l generalizing k with
 |nil=>exact⟨[],by cases k<;>rfl,rfl⟩
 | cons x l ih=>
  cases k with
  |zero=>exact⟨(x.1,v)::l,rfl,rfl⟩
  |succ k=>
   obtain⟨l',h1,h2⟩:=ih k;exact⟨x::l',by show hpR x::v1 (hpL l) k _=hpR x::hpL l';rw[h1],by simp[h2]⟩
theorem yA(n:Nat)(r:Rf)(h1:r.rp.length<=100)(h2:r.ru.length<=100)(h3:r.hs.length<=100)(how m at_:Int)(i1:ax how)(i3:ax at_):∃q:Rf,hY n r.k r.n r.rk (iL r.rp) (iL r.ru) (hpL r.hs) r.s how m at_=some (q.k,q.n,q.rk,iL q.rp,iL q.ru,hpL q.hs,q.s)/\RSmall q:=by
 have d2:=DL (k:=5) (by decide) i1
 have d2':=d2;unfold ax at d2';unfold hY nM;rw[bZ n i1 (by decide),v0]
 by_cases e0:pk how 5=0
 ·rw[kT e0];exact⟨⟨m,r.n,r.rk,r.rp,r.ru,r.hs,r.s⟩,rfl,by dsimp only;omega,by dsimp only;omega,by dsimp only;omega⟩
 ·rw [kF e0]
  by_cases e1:pk how 5=1
  ·rw[kT e1];exact⟨⟨r.k,m,r.rk,r.rp,r.ru,r.hs,r.s⟩,rfl,by dsimp only;omega,by dsimp only;omega,by dsimp only;omega⟩
  ·rw [kF e1]
   by_cases e2:pk how 5=2
   ·obtain⟨k',p',u',hb,l1,l2⟩:=BI n r.rk r.rp r.ru (v8 how 5) m h1 h2 d2
    rw[kT e2,kG d2',hb,v0];exact⟨⟨r.k,r.n,k',p',u',r.hs,r.s⟩,rfl,by dsimp only;omega,by dsimp only;omega,by dsimp only;omega⟩
   ·rw[kF e2]
    by_cases e3:pk how 5=3
    ·rw[kT e3];exact⟨⟨r.k,r.n,r.rk,r.rp,r.ru,r.hs,m⟩,rfl,by dsimp only;omega,by dsimp only;omega,by dsimp only;omega⟩
    ·rw[kF e3,bP,kT (by omega)]
     by_cases e4:(r.hs.length:Int)=0
     ·rw[kT e4];exact⟨⟨r.k,r.n,r.rk,r.rp,r.ru,[(m,0)],r.s⟩,rfl,by dsimp only;omega,by dsimp only;omega,by dsimp only;simp⟩
     ·have b:=aR at_ (k:=(r.hs.length:Int)) (by omega)
      rw[kF e4,bZ n i3 (by omega),v0,kT b.1,kT b.2]
      obtain⟨l',hm,hl⟩:=O8 r.hs (pk at_ (r.hs.length:Int)).toNat m;rw[hm];exact⟨⟨r.k,r.n,r.rk,r.rp,r.ru,l',r.s⟩,rfl,by dsimp only;omega,by dsimp only;omega,by dsimp only;omega⟩
open Go.Dial.Rou Go.Dial.Flo
theorem Dn(n:Nat)(h:List Int)(hn:100<n):lG n (iL h)=some (decide (HoV h)):=by
 unfold lG uJ;rw[ah];by_cases h1:1<=(h.length:Int)
 ·rw [kT h1]
  by_cases h30:(h.length:Int)<=30
  ·rw[kNT h30,dd (len:=h.length) (f:=fun i=>if(-1<=h.getD i 0/\h.getD i 0<=7)then none else some false) (e:=true) ?_ ?_ (by omega),gU]
   ·congr 1
    rw[decide_eq_decide];constructor
    ·intro hx
     refine⟨by omega,by omega,fun x hm=>?_⟩
     obtain⟨i,hi,rfl⟩:=y8 hm;have:=hx i hi
     rw[y1,v2 hi]at this;exact this
    ·exact fun hx i hi=>hx.2.2 _ (iY hi)
   ·intro i go hi
    show gF n go (iL h) (i:Int)=_
    unfold gF;rw[ah,kT (by omega),kT (by omega),dF]
    by_cases e1: -1<=h.getD i 0
    ·rw[kT e1]
     by_cases e2:h.getD i 0<=7
     ·rw[kNT e2,kG (by omega),if_pos ⟨e1,e2⟩]
     ·rw[kNF e2,if_neg (fun e=>e2 e.2)]
    ·rw[kF e1,if_neg (fun e=>e1 e.1)]
   ·intro go
    show gF n go (iL h) (h.length:Int)=_
    unfold gF;rw[ah,kF (y2 _)]
  ·rw[kNF h30,decide_eq_false (fun hx:HoV h=>h30 (by have:=hx.2.1;omega))]
 ·rw[kF h1,decide_eq_false (fun hx:HoV h=>h1 (by have:=hx.1;omega))]
theorem QL(n:Nat)(b:bm->Option bH)(h k:List Int)(c:Nat)(hh:HoV h)(hc:c<=100):∀(m n' v:Nat),m<n'->v+m=h.length->1<=v →
  ((∀j:Nat,v<=j->j<h.length->Dial.Rou.Con h (c:Int) j->(j:Int)<=k.getD c 0)->ab (fun a s=>cN n b a (iL h) (iL k) (c:Int) s) n' ((v:Int):bm)=b ((c:Int)+1)) ∧
  (¬(∀j:Nat,v<=j->j<h.length->Dial.Rou.Con h (c:Int) j->(j:Int)<=k.getD c 0)->ab (fun a s=>cN n b a (iL h) (iL k) (c:Int) s) n' ((v:Int):bm)=some false):=by
 have h30:=hh.2.1;intro m;induction m with
 | zero=>
  intro n' v hm hv h1;cases n' with
  |zero=>omega
  |succ n'=>
   rw[ae];refine⟨fun _=>?_,fun hx=>absurd (fun j h2 h3=>by omega) hx⟩
   show cN n b _ (iL h) (iL k) (c:Int) (v:Int)=_
   unfold cN;rw[ah,kF (by omega),kG (by omega)]
 | succ m ih=>
  intro n' v hm hv h1;cases n' with
  |zero=>omega
  | succ n'=>
   rw[ae];have hih:=ih n' (v+1) (by omega) (by omega) (by omega)
   generalize (ab (fun a s=>cN n b a (iL h) (iL k) (c:Int) s) n':bm->Option bH)=a at hih
   rw[show((v+1:Nat):Int)=(v:Int)+1 by omega]at hih
   have e1:cI (iL h) (v:Int) 0=h.getD v 0:=dF h v
   have e2:cI (iL h) ((v:Int)-1) 0=h.getD (v-1) 0:=by rw[di];congr 1;omega
   have e3:cI (iL k) (c:Int) 0=k.getD c 0:=dF k c
   have go:(Dial.Rou.Con h (c:Int) v->(v:Int)<=k.getD c 0)->cN n b a (iL h) (iL k) (c:Int) (v:Int)=a ((v:Int)+1):=by
    intro hc';unfold cN;rw[ah,kT (by omega),kT (by omega),kT (by omega),kG (by omega),kT (by omega),kT (by omega),e1,e2]
    by_cases a1:h.getD v 0=h.getD (v-1) 0
    ·rw[kNT a1,kG (by omega)]
    ·rw[kNF a1]
     by_cases a2:h.getD v 0=(c:Int)
     ·rw[kT a2,e3,kF (by have:=hc' ⟨a1,.inl a2⟩;omega),kG (by omega)]
     ·rw[kF a2]
      by_cases a3:h.getD (v-1) 0=(c:Int)
      ·rw[kT a3,e3,kF (by have:=hc' ⟨a1,.inr a3⟩;omega),kG (by omega)]
      ·rw[kF a3,kG (by omega)]
   have bad:¬(Dial.Rou.Con h (c:Int) v->(v:Int)<=k.getD c 0)->cN n b a (iL h) (iL k) (c:Int) (v:Int)=some false:=by
    intro hc';have hcon:Dial.Rou.Con h (c:Int) v:=Classical.byContradiction (fun h=>hc' (fun h'=>absurd h' h))
    have hlt:k.getD c 0<(v:Int):=by
     rcases Int.lt_or_le (k.getD c 0) (v:Int)with h|h
     ·exact h
     ·exact absurd (fun _=>h) hc'
    obtain⟨a1,a2⟩:=hcon;unfold cN;rw[ah,kT (by omega),kT (by omega),kT (by omega),kG (by omega),kT (by omega),kT (by omega),e1,e2,kNF a1]
    by_cases a3:h.getD v 0=(c:Int)
    ·rw[kT a3,e3,kT hlt]
    ·rw[kF a3,kT (a2.resolve_left a3),e3,kT hlt]
   by_cases hg:Dial.Rou.Con h (c:Int) v->(v:Int)<=k.getD c 0
   ·have heq:(∀j:Nat,v<=j->j<h.length->Dial.Rou.Con h (c:Int) j->(j:Int)<=k.getD c 0)↔(∀j:Nat,v+1<=j->j<h.length->Dial.Rou.Con h (c:Int) j->(j:Int)<=k.getD c 0):=by
     constructor
     ·exact fun hx j h2=>hx j (by omega)
     ·intro hx j h2 h3 h4
      by_cases e:j=v
      ·subst e;exact hg h4
      ·exact hx j (by omega) h3 h4
    refine⟨fun hx=>?_,fun hx=>?_⟩
    ·exact(go hg).trans (hih.1 (heq.1 hx))
    ·exact(go hg).trans (hih.2 (fun hy=>hx (heq.2 hy)))
   ·refine⟨fun hx=>absurd (hx v (RL _) (by omega)) hg,fun _=>bad hg⟩
theorem P1(n:Nat)(a:bm->Option bH)(h:List Int)(c:Nat)(hh:HoV h)(hc:c<=100):∀(m n' v:Nat),m<n'->v+m=h.length->1<=v →
  ab (fun b s=>ff n a b (iL h) (c:Int) s) n' ((v:Int):bm)=a ((c:Int)+1):=by
 have h30:=hh.2.1;intro m;induction m with
 | zero=>
  intro n' v hm hv h1;cases n' with
  |zero=>omega
  |succ n'=>
   rw[ae];show ff n a _ (iL h) (c:Int) (v:Int)=_
   unfold ff;rw[ah,kF (by omega),kG (by omega)]
 | succ m ih=>
  intro n' v hm hv h1;cases n' with
  |zero=>omega
  | succ n'=>
   rw[ae];have hih:=ih n' (v+1) (by omega) (by omega) (by omega)
   generalize (ab (fun b s=>ff n a b (iL h) (c:Int) s) n':bm->Option bH)=b at hih
   rw[show((v+1:Nat):Int)=(v:Int)+1 by omega]at hih
   show ff n a b (iL h) (c:Int) (v:Int)=_
   unfold ff;rw[ah,kT (by omega),kT (by omega),kT (by omega),kG (by omega),kT (by omega),kT (by omega)]
   by_cases a1:cI (iL h) (v:Int) 0=cI (iL h) ((v:Int)-1) 0
   ·rw[kNT a1,kG (by omega)];exact hih
   ·rw[kNF a1]
    by_cases a2:cI (iL h) (v:Int) 0=(c:Int)
    ·rw[kT a2,kG (by omega)];exact hih
    ·rw[kF a2]
     by_cases a3:cI (iL h) ((v:Int)-1) 0=(c:Int)
     ·rw[kT a3,kG (by omega)];exact hih
     ·rw[kF a3,kG (by omega)];exact hih
theorem x8(n:Nat)(h k:List Int)(lag:Int)(hn:1000<n):lh n (iL h) (iL k) lag=some (decide (RoV h k lag)):=by
 unfold lh xW;rw[Dn n h (by omega),v0]
 by_cases hh:HoV h
 ·have h1 := hh.1
  have h30:=hh.2.1;rw[kNT hh,ah k];by_cases e1:k.length=8
  ·rw [kNT (show(k.length:Int)=8 by omega)]
   by_cases e2:0<=lag
   ·rw [kT e2]
    by_cases e3:lag<=10
    ·rw [kNT e3,ah h,kG (by omega),dd (len:=8) (f:=fun c=>if KnV h lag (c:Int) (k.getD c 0)then none else some false) (e:=true) ?_ ?_ (by omega),gU]
     ·congr 1
      rw[decide_eq_decide];exact⟨fun hx=>⟨hh,e1,e2,e3,fun c hc=>hx c (List.mem_range.1 hc)⟩,fun hx c hc=>hx.2.2.2.2 c (List.mem_range.2 hc)⟩
     ·intro c go hc
      have hkc:cI (iL k) (c:Int) 0=k.getD c 0:=dF k c
      show i8 n go (iL h) (iL k) lag (c:Int)=_
      unfold i8;rw[ah k,ah h,kT (by omega),kT (by omega),hkc]
      by_cases a1: -1<=k.getD c 0
      ·rw [kT a1]
       by_cases a2:k.getD c 0<=(h.length:Int)-1
       ·rw [kNT a2]
        by_cases a3:0<=k.getD c 0
        ·rw[kT a3,kG (by omega)]
         by_cases a4:k.getD c 0<(h.length:Int)-1-lag
         ·rw[kT a4,if_neg (fun hx=>by have:=(hx.2.2 a3).1;omega)]
         ·rw[kF a4]
          obtain⟨s1,s2⟩:=QL n go h k c hh (by omega) (h.length-1) n 1 (by omega) (by omega) (RL _)
          by_cases a5:∀j:Nat,1<=j->j<h.length->Dial.Rou.Con h (c:Int) j->(j:Int)<=k.getD c 0
          ·rw[if_pos ⟨a1,a2,fun _=>⟨by omega,fun j hj h1 h2=>a5 j h1 (List.mem_range.1 hj) h2⟩⟩]
           exact s1 a5
          ·rw[if_neg (fun hx=>a5 (fun j h1 h2 h3=>(hx.2.2 a3).2 j (List.mem_range.2 h2) h1 h3))]
           exact s2 a5
        ·rw[kF a3,if_pos ⟨a1,a2,fun h=>absurd h a3⟩]
         exact P1 n go h c hh (by omega) (h.length-1) n 1 (by omega) (by omega) (RL _)
       ·rw[kNF a2,if_neg (fun hx=>a2 hx.2.1)]
      ·rw[kF a1,if_neg (fun hx=>a1 hx.1)]
     ·intro go
      show i8 n go (iL h) (iL k) lag ((8:Nat):Int)=_
      unfold i8;rw[ah k,kF (by omega)]
    ·rw[kNF e3,decide_eq_false (fun hx:RoV h k lag=>e3 hx.2.2.2.1)]
   ·rw[kF e2,decide_eq_false (fun hx:RoV h k lag=>e2 hx.2.2.1)]
  ·rw[kNF (show ¬(k.length:Int)=8 by omega),decide_eq_false (fun hx:RoV h k lag=>e1 hx.2.1)]
 ·rw[kNF hh,decide_eq_false (fun hx:RoV h k lag=>hh hx.1)]
theorem RF(n:Nat)(h k:List Int)(lag:Int)(hv:RoV h k lag):∀(m n':Nat) (c u:Int) (out:List (Int×Int)),m<n'->0<=c->c<=7->0<=at_ k c-> -1<=u->u<=h.length-1->(0<=u->at_ h u=c)->(h.length:Int)-u<m->out.length+m<=1000 →
  ab (fun a s=>jQ n a (iL h) (iL k) s.1 s.2.1 s.2.2) n' ((hpL out,c,u):lL)=some (hpL (out++(iI h k m c u).1),(iI h k m c u).2,0):=by
 have h30:=hv.1.2.1;have hk8:=hv.2.1;intro m;induction m with
 |zero=>intro n' c u out _ _ _ _ _ _ _ hm;omega
 | succ m ih=>
  intro n' c u out hn hc0 hc7 hk hu0 hu1 hhu hm ho;cases n' with
  |zero=>omega
  | succ n'=>
   rw[ae];have hih:=ih n';generalize (ab (fun a s=>jQ n a (iL h) (iL k) s.1 s.2.1 s.2.2) n':lL->Option kf)=go at hih
   show jQ n go (iL h) (iL k) (hpL out) c u=_
   obtain⟨r1,r2,r3,r4,r5⟩:=Ad hv ⟨hc0,hc7⟩ hk hu1;have hw:aZ (cI (iL k) c 0) u=max (at_ k c) u:=by rw[oo,mj]
   rw[r5]at r1 r2 r3 r4;have hmem:=hv.1.2.2 _ (HA (h:=h) r1 (by omega))
   unfold jQ;rw[hw,mj,mj,kT hc0,kT (show c<((iL k).length:Int) by rw[ah];omega),kT r1,kT (show max (at_ k c) u<((iL h).length:Int) by rw[ah];omega),bP]
   simp only[iI];rcases yN h k c u with⟨h1,hd⟩|⟨h1,h2,hd⟩|⟨h1,h2,h3,hd⟩|⟨h1,h2,h3,hd⟩
   ·rw[hd,kT h1,kT (by omega),jW]
    rfl
   ·rw[hd,kF h1,kT (by omega),kT (by omega),jW]
    rfl
   ·rw[hd,kF h1,kF (by omega),kT h2,kT (show at_ h (max (at_ k c) u)<((iL k).length:Int) by rw[ah];omega),kT h3,kT (by omega),jW]
    rfl
   ·rw[hd,kF h1,kF (by omega),kT h2,kT (show at_ h (max (at_ k c) u)<((iL k).length:Int) by rw[ah];omega),kF (by omega),kT (by omega),jW]
    dsimp only;rw[if_neg (show ¬(0:Int)≠0 by decide)]
    have hlt:u<max (at_ k c) u:=by
     by_cases e:0<=u
     ·have:=hhu e
      by_cases e2:max (at_ k c) u=u
      ·rw[e2]at h1;exact absurd this h1
      ·omega
     ·omega
    have:=hih (at_ h (max (at_ k c) u)) (max (at_ k c) u) (out++[(c,max (at_ k c) u)]) (by omega) h2 hmem.2 h3 (by omega) r2 (fun _=>rfl) (by omega) (by rw[v5,v3];omega)
    rw[List.append_assoc]at this;exact this
theorem HZ(n:Nat)(h k:List Int)(lag c:Int)(hn:1000<n):iH n (iL h) (iL k) lag c=some (hpL (oK h k lag c).1.1,(oK h k lag c).1.2,(oK h k lag c).2):=by
 unfold iH AS oK;rw[x8 n h k lag hn,v0];by_cases hv:RoV h k lag
 ·have hk8:=hv.2.1
  have h30:=hv.1.2.1;have h1:=hv.1.1;rw[kNT hv];by_cases c0:0<=c
  ·rw[kT c0]
   by_cases c7:c<=7
   ·rw[kNT c7,kT (show c<((iL k).length:Int) by rw[ah];omega),mj]
    by_cases hk:0<=at_ k c
    ·rw[kNT hk,if_pos ⟨hv,c0,c7,hk⟩]
     exact RF n h k lag hv 40 n c (-1) [] (by omega) c0 c7 hk (by omega) (by omega) (fun h=>by omega) (by omega) (by simp)
    ·rw[kNF hk,if_neg (fun hx=>hk hx.2.2.2)];rfl
   ·rw[kNF c7,if_neg (fun hx=>c7 hx.2.2.1)];rfl
  ·rw[kF c0,if_neg (fun hx=>c0 hx.2.1)];rfl
 ·rw[kNF hv,if_neg (fun hx=>hv hx.1)];rfl
theorem yl(n:Nat)(N:Int)(es:List Ed)(hl:es.length<=1000)(hn:1000<n):ln n N (edL es)=some (decide (NetV N es)):=by
 unfold ln yv;by_cases h0:0<=N
 ·rw [kT h0]
  by_cases h1:N<=12
  ·rw [kNT h1,dZ]
   by_cases h2:es.length<=40
   ·rw [kF (by omega),dd (len:=es.length) (f:=fun i=>if(∀e,es[i]?=some e->EdV N e)then none else some false) (e:=true) ?_ ?_ (by omega),gU,Mm h0 h1 h2]
    ·intro i go hi
     obtain⟨e,he⟩:=aF hi;obtain⟨k0,k1,k2⟩:=ou he;have hx:(∀e',es[i]?=some e'->EdV N e')↔EdV N e:=⟨fun h=>h e he,fun h e' he'=>by rw[he]at he';cases he';exact h⟩
     have hbad:¬EdV N e->(if(∀e',es[i]?=some e'->EdV N e')then none else some false:Option Bool)=some false:=fun h=>if_neg (fun h'=>h (hx.1 h'))
     show jd n go N (edL es) (i:Int)=_
     unfold jd;rw[k0,k1,k2,dZ,kT (by omega),kT (by omega),kG (by omega)]
     by_cases a1:0<=e.f
     ·rw [kT a1]
      by_cases a2:e.f<=N-1
      ·rw [kNT a2]
       by_cases a3:0<=e.t
       ·rw [kT a3]
        by_cases a4:e.t<=N-1
        ·rw[kNT a4]
         by_cases a5:e.f=e.t
         ·rw[kT a5,hbad (fun h=>h.2.2.2.2.1 a5)]
         ·rw[kF a5]
          by_cases a6:0<=e.c
          ·rw[kT a6]
           by_cases a7:e.c<=10000
           ·rw[kNT a7,kG (by omega),if_pos (hx.2 ⟨a1,a2,a3,a4,a5,a6,a7⟩)]
           ·rw[kNF a7,hbad (fun h=>a7 h.2.2.2.2.2.2)]
          ·rw[kF a6,hbad (fun h=>a6 h.2.2.2.2.2.1)]
        ·rw[kNF a4,hbad (fun h=>a4 h.2.2.2.1)]
       ·rw[kF a3,hbad (fun h=>a3 h.2.2.1)]
      ·rw[kNF a2,hbad (fun h=>a2 h.2.1)]
     ·rw[kF a1,hbad (fun h=>a1 h.1)]
    ·intro go
     show jd n go N (edL es) (es.length:Int)=_
     unfold jd;rw[dZ,kF (y2 _)]
   ·rw[kT (by omega),decide_eq_false (fun h:NetV N es=>h2 h.2.2.1)]
  ·rw[kNF h1,decide_eq_false (fun h:NetV N es=>h1 h.2.1)]
 ·rw[kF h0,decide_eq_false (fun h:NetV N es=>h0 h.1)]
theorem wt(n:Nat)(N:Int)(es:List Ed)(s:Int)(hv:NetV 8 es)(s0:0<=s)(s1:s<=255)(hn:1000<n):jU n N (edL es) s=some (lvs s es):=by
 have hl:=hv.2.2.1;unfold jU we;have key:∀(m n' i:Nat) (acc:Int),m<n'->i+m=es.length->0<=acc->acc<=10000*(i:Int)->ab (fun a q=>eg n a (edL es) s q.1 q.2) n' ((acc,(i:Int)):jG)=some (acc+lvs s (es.drop i)):=by
  intro m;induction m with
  | zero=>
   intro n' i acc hm hi _ _;cases n' with
   |zero=>omega
   |succ n'=>
    rw[ae];show eg n _ (edL es) s acc (i:Int)=_
    unfold eg;rw[dZ,kF (by omega),RM (by omega)]
    simp only[lvs];rw[Int.add_zero]
  | succ m ih=>
   intro n' i acc hm hi h0 hb;cases n' with
   |zero=>omega
   | succ n'=>
    rw[ae];have hih:=ih n' (i+1);generalize (ab (fun a q=>eg n a (edL es) s q.1 q.2) n':jG->Option ic)=go at hih
    obtain⟨e,he⟩:=aF (show i<es.length by omega)
    obtain⟨k0,k1,k2⟩:=ou he;obtain⟨f0,f1,t0,t1,_,c0,c1⟩:=hv.2.2.2 e (v7 he);have b1:=(js s0 s1 f0 (show e.f<=7 by omega)).2.2
    have b2:=(js s0 s1 t0 (show e.t<=7 by omega)).2.2
    rw[show((i+1:Nat):Int)=(i:Int)+1 by omega]at hih
    show eg n go (edL es) s acc (i:Int)=_
    unfold eg;rw[k0,k1,k2,dZ,kT (by omega),kT (by omega),kT f0,b1,b2,Iv he]
    have hout:out s e=(has s e.f&& !has s e.t):=rfl
    rw[hout];cases has s e.f with
    |false=>
     rw[cond_false,kG (by omega),hih acc (by omega) (by omega) h0 (by omega)]
     simp
    | true=>
     rw[cond_true,kT t0];cases has s e.t with
     |true=>
      rw[y3,cond_false,kG (by omega),hih acc (by omega) (by omega) h0 (by omega)]
      simp
     |false=>
      rw[RO,cond_true,kG (by omega),kG (by omega),hih (acc+e.c) (by omega) (by omega) (by omega) (by omega)]
      simp
      omega
 have:=key es.length n 0 0 (by omega) (by omega) (by omega) (by omega)
 rw[RP,Int.zero_add]at this;exact this
theorem CL(n:Nat)(es:List Ed)(a b s:Int)(hv:NetV 8 es)(hn:1000<n):kD n 8 (edL es) a b s=some (CB es a b s):=by
 have hl:=hv.2.2.1;unfold kD sS;rw[yl n 8 es (by omega) hn,v0,kT hv,kG (by omega),Lr]
 unfold CB;by_cases a0:0<=a
 ·rw [kT a0]
  by_cases a1:a<=8-1
  ·rw [kT a1]
   by_cases b0:0<=b
   ·rw [kT b0]
    by_cases b1:b<=8-1
    ·rw [kT b1]
     by_cases hab:a=b
     ·rw[decide_eq_true hab,if_neg (fun h=>h.2.2.2.2.1 hab)];rfl
     ·rw [decide_eq_false hab]
      rw[show((false:Bool)==true)=false from rfl,cond_false,kT (by omega),kG (by omega)]
      by_cases s0:0<=s
      ·rw [kT s0]
       by_cases s1:s<=256-1
       ·rw[kNT s1,(js s0 (show s<=255 by omega) a0 (show a<=7 by omega)).2.2,(js s0 (show s<=255 by omega) b0 (show b<=7 by omega)).2.2]
        cases ha:has s a with
        |false=>rw[if_neg (fun h=>by rw[h.2.2.2.2.2.2.2.1]at ha;cases ha)];rfl
        | true=>
         cases hb:has s b with
         |true=>rw[if_neg (fun h=>by rw[h.2.2.2.2.2.2.2.2]at hb;cases hb)];rfl
         |false=>
          rw[if_pos ⟨a0,by omega,b0,by omega,hab,s0,by omega,ha,hb⟩,y3,cond_false,cond_false,wt n 8 es s hv s0 (by omega) hn]
          rfl
       ·rw[kNF s1,if_neg (fun h=>s1 (by have:=h.2.2.2.2.2.2.1;omega))]
      ·rw[kF s0,if_neg (fun h=>s0 h.2.2.2.2.2.1)]
    ·rw[kF b1,if_neg (fun h=>b1 (by omega))]
   ·rw[kF b0,if_neg (fun h=>b0 h.2.2.1)]
  ·rw[kF a1,if_neg (fun h=>a1 (by omega))]
 ·rw[kF a0,if_neg (fun h=>a0 h.1)]
theorem Pl{a b:Int}(a0:0<=a)(a1:a<=9223372036854775807)(b0:0<=b)(b1:b<=255):IOp.f .and a b=((a.toNat &&& b.toNat:Nat):Int):=by
 have ha:BitVec.ofInt 64 a=BitVec.ofNat 64 a.toNat:=by
  rw[<-BitVec.ofInt_natCast,R0 a0]
 have hb:BitVec.ofInt 64 b=BitVec.ofNat 64 b.toNat:=by
  rw[<-BitVec.ofInt_natCast,R0 b0]
 have hle:a.toNat &&& b.toNat<=b.toNat:=R1
 show IntKind.i64.wrap ((BitVec.ofInt 64 a &&& BitVec.ofInt 64 b).toNat:Int)=_
 rw[ha,hb,BitVec.toNat_and,BitVec.toNat_ofNat,BitVec.toNat_ofNat,R2 (by omega),R2 (by omega)]
 generalize a.toNat &&& b.toNat=x at hle
 have hx:x<=255:=by omega
 have:((x:Int)) % 18446744073709551616=(x:Int):=by omega
 have hd:decide ((x:Int)>=9223372036854775808)=false:=by rw[decide_eq_false_iff_not];omega
 show(if(true&&decide ((x:Int) % 18446744073709551616>=9223372036854775808))=true then(x:Int) % 18446744073709551616-18446744073709551616 else(x:Int) % 18446744073709551616)=_
 rw[this,hd];rfl
theorem Ey{s t:Int}(s0:0<=s)(s1:s<=255)(t0:0<=t)(t1:t<=255)(c:Int):0<=IOp.f .and s t/\IOp.f .and s t<=255/\has (IOp.f .and s t) c=(has s c&&has t c):=by
 rw[Pl s0 (by omega) t0 t1]
 have hle:s.toNat &&& t.toNat<=t.toNat:=R1
 refine⟨by omega,by omega,?_⟩
 unfold has;rw[Int.toNat_natCast,Nat.testBit_and]
structure LstI (es:List Ed) (a b:Int) (s:Nat) (cF common:Int):Prop where
 no:cF= -1->∀t:Nat,t<s->¬k8 a b (t:Int)
 bd:cF= -1\/0<=cF
 ge:∀t:Nat,t<s->k8 a b (t:Int)->0<=cF/\cF<=lvs (t:Int) es
 some:0<=cF->∃t:Nat,t<s/\k8 a b (t:Int)/\lvs (t:Int) es=cF
 com:0<=common/\common<=255/\(0<=cF->∀c:Int,has common c=true↔∀t:Nat,t<s->k8 a b (t:Int)->lvs (t:Int) es=cF->has (t:Int) c=true)
theorem LO(n:Nat)(es:List Ed)(a b:Int)(hv:NetV 8 es)(a0:0<=a)(a1:a<=7)(b0:0<=b)(b1:b<=7)(hn:1000<n):∀(m n' s:Nat) (cF common:Int),m<n'->s+m=256->LstI es a b s cF common →
  ∃l c,ab (fun d q=>fe n d 8 (edL es) a b q.1 q.2.1 q.2.2) n' ((cF,common,(s:Int)):ky)=some (l,c)/\LstI es a b 256 l c:=by
 intro m;induction m with
 | zero=>
  intro n' s cF common hm hs hI;cases n' with
  |zero=>omega
  |succ n'=>
   rw[ae];have hs':s=256:=by omega
   subst hs';refine⟨cF,common,?_,hI⟩
   show fe n _ 8 (edL es) a b cF common ((256:Nat):Int)=_
   unfold fe;rw[kT (by omega),Lr,kF (by omega)]
 | succ m ih=>
  intro n' s cF common hm hs hI;cases n' with
  |zero=>omega
  | succ n'=>
   rw[ae];have hih:=ih n' (s+1);generalize (ab (fun d q=>fe n d 8 (edL es) a b q.1 q.2.1 q.2.2) n':ky->Option jc)=go at hih
   rw[show((s+1:Nat):Int)=(s:Int)+1 by omega]at hih
   have s0:(0:Int)<=(s:Int):=by omega
   have s1:(s:Int)<=255:=by omega
   have hlv:=Ma (s:Int) hv.2.2.2;have hbd:=hI.bd;have hnocut:¬k8 a b (s:Int)->LstI es a b (s+1) cF common:=fun hc=>
    ⟨fun h t ht=>by
     by_cases e:t=s
     ·subst e;exact hc
     ·exact hI.no h t (by omega),hI.bd,fun t ht hcut=>by
     by_cases e:t=s
     ·subst e;exact absurd hcut hc
     ·exact hI.ge t (by omega) hcut,fun h=>by
     obtain⟨t,h1,h2⟩:=hI.some h;exact⟨t,by omega,h2⟩,hI.com.1,hI.com.2.1,fun h c=>by
     rw[hI.com.2.2 h c];constructor
     ·intro hx t ht hcut hl
      by_cases e:t=s
      ·subst e;exact absurd hcut hc
      ·exact hx t (by omega) hcut hl
     ·exact fun hx t ht=>hx t (by omega)⟩
   show ∃l c,fe n go 8 (edL es) a b cF common (s:Int)=some (l,c)/\_
   unfold fe;rw[kT (by omega),Lr,kT (by omega),kT a0,(js s0 s1 a0 a1).2.2,(js s0 s1 b0 b1).2.2]
   cases ha:has (s:Int) a with
   |false=>
    rw[RO,cond_true,kG (by omega)]
    exact hih cF common (by omega) (by omega) (hnocut (fun h=>by rw[h.2.2.1]at ha;cases ha))
   | true =>
    rw[y3,cond_false,kT b0];cases hb:has (s:Int) b with
    |true=>
     rw[cond_true,kG (by omega)]
     exact hih cF common (by omega) (by omega) (hnocut (fun h=>by rw[h.2.2.2]at hb;cases hb))
    | false=>
     have hcut:k8 a b (s:Int):=⟨s0,s1,ha,hb⟩
     have hnew:(cF<0\/lvs (s:Int) es<cF)->LstI es a b (s+1) (lvs (s:Int) es) (s:Int):=fun hh=>
      ⟨fun h=>by omega,.inr hlv.1,fun t ht hc=>by
       by_cases e:t=s
       ·subst e;exact⟨hlv.1,Int.le_refl _⟩
       ·have:=hI.ge t (by omega) hc
        exact⟨hlv.1,by omega⟩,fun _=>⟨s,by omega,hcut,rfl⟩,s0,s1,fun _ c=>by
       constructor
       ·intro hx t ht hc hl
        by_cases e:t=s
        ·subst e;exact hx
        ·have:=hI.ge t (by omega) hc
         omega
       ·exact fun hx=>hx s (by omega) hcut rfl⟩
     rw[cond_false,wt n 8 es (s:Int) hv s0 s1 hn,v0];by_cases h1:cF<0
     ·rw[kT h1,kG (by omega)]
      exact hih _ _ (by omega) (by omega) (hnew (.inl h1))
     ·rw [kF h1]
      by_cases h2:lvs (s:Int) es<cF
      ·rw[kT h2,kG (by omega)]
       exact hih _ _ (by omega) (by omega) (hnew (.inr h2))
      ·rw [kF h2]
       by_cases h3:lvs (s:Int) es=cF
       ·rw[kT h3,kG (by omega)]
        refine hih _ _ (by omega) (by omega) ⟨fun h=>by omega,hI.bd,fun t ht hc=>?_,fun _=>⟨s,by omega,hcut,h3⟩,(Ey hI.com.1 hI.com.2.1 s0 s1 0).1,(Ey hI.com.1 hI.com.2.1 s0 s1 0).2.1,fun h c=>?_⟩
        ·by_cases e:t=s
         ·subst e;omega
         ·exact hI.ge t (by omega) hc
        ·rw[(Ey hI.com.1 hI.com.2.1 s0 s1 c).2.2,Bool.and_eq_true,hI.com.2.2 h c]
         constructor
         ·rintro ⟨hx,hy⟩ t ht hc hl
          by_cases e:t=s
          ·subst e;exact hy
          ·exact hx t (by omega) hc hl
         ·exact fun hx=>⟨fun t ht=>hx t (by omega),hx s (by omega) hcut h3⟩
       ·rw[kF h3,kG (by omega)]
        refine hih _ _ (by omega) (by omega) ⟨fun h=>by omega,hI.bd,fun t ht hc=>?_,fun h=>?_,hI.com.1,hI.com.2.1,fun h c=>?_⟩
        ·by_cases e:t=s
         ·subst e;omega
         ·exact hI.ge t (by omega) hc
        ·obtain⟨t,q1,q2⟩:=hI.some h
         exact⟨t,by omega,q2⟩
        ·rw[hI.com.2.2 h c]
         constructor
         ·intro hx t ht hc hl
          by_cases e:t=s
          ·subst e;exact absurd hl h3
          ·exact hx t (by omega) hc hl
         ·exact fun hx t ht=>hx t (by omega)
theorem G7(n:Nat)(es:List Ed)(a b:Int)(hv:NetV 8 es)(a0:0<=a)(a1:a<=7)(b0:0<=b)(b1:b<=7)(hab:a≠b)(hn:1000<n):
  ∃l c,uR n 8 (edL es) a b=some (l,c)/\(l=0↔¬Dial.Flo.Reach es a b)/\(¬Dial.Flo.Reach es a b->c=rS es a):=by
 obtain⟨l,c,h1,h2⟩:=LO n es a b hv a0 a1 b0 b1 hn 256 n 0 (-1) 0 (by omega) rfl ⟨fun _ t ht=>by omega,.inl rfl,fun t ht=>by omega,fun h=>by omega,by omega,by omega,fun h=>by omega⟩
 have hz:¬Dial.Flo.Reach es a b->l=0/\c=rS es a:=fun hr=>by
  obtain⟨s,hs⟩:=QC hv a0 a1 b0 b1 hab hr;have hlv:=Cp hv.2.2.2 hs;have hcut:k8 a b s:=by
   refine⟨hs.1,hs.2.1,(hs.2.2 a a0 a1).2 .here,?_⟩
   cases hb:has s b with
   |false=>rfl
   |true=>exact absurd ((hs.2.2 b b0 b1).1 hb) hr
  have hsn:((s.toNat:Nat):Int)=s:=by have:=hs.1;omega
  have hge:=h2.ge s.toNat (by have:=hs.1;have:=hs.2.1;omega) (by rw[hsn];exact hcut)
  rw[hsn,hlv]at hge;have hl0:l=0:=by omega
  refine⟨hl0,?_⟩
  have hco:IsR es a c:=by
   refine⟨h2.com.1,h2.com.2.1,fun v d e=>?_⟩
   rw[h2.com.2.2 (by omega) v]
   constructor
   ·intro hx
    have:=hx s.toNat (by have:=hs.1;have:=hs.2.1;omega) (by rw[hsn];exact hcut) (by rw[hsn,hlv,hl0])
    rw[hsn]at this;exact(hs.2.2 v d e).1 this
   ·intro hreach t ht hc hl
    exact rH hv.2.2.2 (by rw[hl,hl0]) hc.2.2.1 hreach
  exact(OJ hco).symm
 refine⟨l,c,h1,⟨fun h hr=>?_,fun hr=>(hz hr).1⟩,fun hr=>(hz hr).2⟩
 obtain⟨t,q1,q2,q3⟩:=h2.some (by omega)
 have:=rH hv.2.2.2 (by rw[q3,h]) q2.2.2.1 hr
 rw[q2.2.2.2]at this;cases this
open Go.Dial.Fwd Go.Dial.Lif Go.Dial.Clm
theorem H4(n:Nat)(r:Rl)(c:Cl)(es:List Ce)(t:Int)(hn:200<n):mE n r.a r.c r.s r.r c.n c.f c.t c.h c.a c.b (ceL es) t=some (if oJ r c es t then(if(jx r c es t).s=4\/(jx r c es t).s=5 then c.t else c.f,0)else(0,160)):=by
 unfold mE AC;rw[ub n r c es t hn];unfold Go.Dial.Clm.outR;by_cases h:oJ r c es t
 ·simp only[h,if_true,v0]
  grind
 ·simp[h]
theorem As(n:Nat)(g:Gr)(hs:Small g)(num t:Int)(hn:1001<n):mT n (lnL g.ls) (seL g.ss) (coL g.cs) (iL g.h) (iL g.k) g.lag g.r.a g.r.c g.r.s g.r.r g.c.n g.c.f g.c.t g.c.h g.c.a g.c.b (ceL g.ce) g.nn (edL g.es) num t=some (bW g.ls num t):=by
 have hl:=hs.ls;unfold mT zL;have key:∀(m n' i:Nat),m<n'->i+m=g.ls.length->ab (fun a s=>fG n a (lnL g.ls) num t s) n' ((i:Int):lM)=some (bW (g.ls.drop i) num t):=by
  intro m;induction m with
  | zero=>
   intro n' i hm hi;cases n' with
   |zero=>omega
   |succ n'=>
    rw[ae];show fG n _ (lnL g.ls) num t (i:Int)=_
    unfold fG;rw[fx,kF (by omega),RM (by omega)]
    rfl
  | succ m ih=>
   intro n' i hm hi;cases n' with
   |zero=>omega
   | succ n'=>
    rw[ae];have hih:=ih n' (i+1) (by omega) (by omega)
    generalize (ab (fun a s=>fG n a (lnL g.ls) num t s) n':lM->Option j4)=go at hih
    obtain⟨x,hx⟩:=aF (show i<g.ls.length by omega)
    obtain⟨k0,k1⟩:=A5 hx;have hd:g.ls.drop i=x::g.ls.drop (i+1):=by
     rw[RJ (List.getElem?_eq_some_iff.1 hx).1,(List.getElem?_eq_some_iff.1 hx).2]
    have hev:=hs.ev x (v7 hx);show fG n go (lnL g.ls) num t (i:Int)=_
    unfold fG;rw[k0,k1,fx,kT (by omega),kT (by omega),hd]
    unfold bW;by_cases e1:x.1=num
    ·rw[kT e1,La n x.2 t (by omega),v0,if_pos e1]
     dsimp only[atT]
     by_cases ok:so x.2 t
     ·have herr:(atR x.2 t).2=0:=by unfold atR;rw[if_pos ok]
      rw[kT herr]
     ·have herr:(atR x.2 t)=(Go.Dial.Lif.zero,140):=by unfold atR;rw[if_neg ok]
      have h2:¬(atR x.2 t).2=0:=by rw[herr];decide
      have h3:¬(atR x.2 t).1.s=1:=by rw[herr];decide
      rw[kF h2,decide_eq_false h3]
    ·rw[kF e1,kG (by omega),if_neg e1]
     rw[show((i+1:Nat):Int)=(i:Int)+1 by omega]at hih
     exact hih
 have:=key g.ls.length n 0 (by omega) (by omega)
 rw[RP]at this;exact this
theorem Rv(n:Nat)(g:Gr)(hs:Small g)(hn:1001<n):∀(m n' i:Nat) (last:Int),m<n'->i+m=g.ls.length-> -1<=last->(i=0->last= -1)->(0<i->cI (lnL g.ls) ((i:Int)-1) 0=last) →
  ab (fun a s=>eY n a (lnL g.ls) (seL g.ss) (coL g.cs) (iL g.h) (iL g.k) g.lag g.r.a g.r.c g.r.s g.r.r g.c.n g.c.f g.c.t g.c.h g.c.a g.c.b (ceL g.ce) g.nn (edL g.es) s) n' ((i:Int):kO)=some (decide (LsV last (g.ls.drop i)/\FwV g.ss g.cs/\RoV g.h g.k g.lag/\eP g.r g.c g.ce/\NetV g.nn g.es/\g.nn=8)):=by
 have hl:=hs.ls;intro m;induction m with
 | zero=>
  intro n' i last hm hi h0 h1 h2;cases n' with
  |zero=>omega
  | succ n'=>
   rw[ae];show eY n _ (lnL g.ls) (seL g.ss) (coL g.cs) (iL g.h) (iL g.k) g.lag g.r.a g.r.c g.r.s g.r.r g.c.n g.c.f g.c.t g.c.h g.c.a g.c.b (ceL g.ce) g.nn (edL g.es) (i:Int)=_
   unfold eY;rw[RM (by omega),fx,kF (by omega),yi n g.ss g.cs hs.ss hs.cs (by omega),v0]
   by_cases e1:FwV g.ss g.cs
   ·rw [kT e1,x8 n g.h g.k g.lag (by omega),v0]
    by_cases e2:RoV g.h g.k g.lag
    ·rw[kT e2,xP n g.r g.c g.ce (by omega),v0]
     by_cases e3:eP g.r g.c g.ce
     ·rw[kT e3,yl n g.nn g.es hs.es (by omega),v0]
      by_cases e4:NetV g.nn g.es
      ·rw[kT e4]
       congr 1
       rw[decide_eq_decide];exact⟨fun h=>⟨trivial,e1,e2,e3,e4,h⟩,fun h=>h.2.2.2.2.2⟩
      ·rw[kF e4,decide_eq_false (fun h=>e4 h.2.2.2.2.1)]
     ·rw[kF e3,decide_eq_false (fun h=>e3 h.2.2.2.1)]
    ·rw[kF e2,decide_eq_false (fun h=>e2 h.2.2.1)]
   ·rw[kF e1,decide_eq_false (fun h=>e1 h.2.1)]
 | succ m ih=>
  intro n' i last hm hi h0 h1 h2;cases n' with
  |zero=>omega
  | succ n'=>
   rw[ae];have hih:=ih n' (i+1);generalize (ab (fun a s=>eY n a (lnL g.ls) (seL g.ss) (coL g.cs) (iL g.h) (iL g.k) g.lag g.r.a g.r.c g.r.s g.r.r g.c.n g.c.f g.c.t g.c.h g.c.a g.c.b (ceL g.ce) g.nn (edL g.es) s) n':kO->Option jb)=go at hih
   show eY n go (lnL g.ls) (seL g.ss) (coL g.cs) (iL g.h) (iL g.k) g.lag g.r.a g.r.c g.r.s g.r.r g.c.n g.c.f g.c.t g.c.h g.c.a g.c.b (ceL g.ce) g.nn (edL g.es) (i:Int)=_
   obtain⟨x,hx⟩:=aF (show i<g.ls.length by omega)
   obtain⟨k0,k1⟩:=A5 hx;have hd:g.ls.drop i=x::g.ls.drop (i+1):=by
    rw[RJ (List.getElem?_eq_some_iff.1 hx).1,(List.getElem?_eq_some_iff.1 hx).2]
   have hev:=hs.ev x (v7 hx);rw[show((i+1:Nat):Int)=(i:Int)+1 by omega,show(i:Int)+1-1=(i:Int) by omega]at hih
   have is_:x.1>last->0<=x.1->x.1<=99999999->((mh n (evL x.2)).bind fun b=>(bif(!b)then some false else bif(-9223372036854775808<=((i:Int)+1))&&(((i:Int)+1)<=9223372036854775807)then go ((i:Int)+1)else none))=some (decide (LsV last (g.ls.drop i)/\FwV g.ss g.cs/\RoV g.h g.k g.lag/\eP g.r g.c g.ce/\NetV g.nn g.es/\g.nn=8)):=by
    intro a1 a2 a3;rw[C7 n x.2 (by omega),v0]
    by_cases e:iV x.2
    ·rw[kNT e,kG (by omega),hih x.1 (by omega) (by omega) (by omega) (fun h=>by omega) (fun _=>k0),hd]
     congr 1
     rw[decide_eq_decide];exact⟨fun h=>⟨⟨e,a1,a3,h.1⟩,h.2⟩,fun h=>⟨h.1.2.2.2,h.2⟩⟩
    ·rw[kNF e,hd,decide_eq_false (fun h=>e h.1.1)]
   unfold eY;rw[k0,k1,fx,kT (by omega),kT (by omega)]
   by_cases a1:x.1<0
   ·rw[kT a1,hd,decide_eq_false (fun h=>by have:=h.1.2.1;omega)]
   ·rw [kF a1]
    by_cases a2:99999999<x.1
    ·rw[kT a2,hd,decide_eq_false (fun h=>by have:=h.1.2.2.1;omega)]
    ·rw[kF a2]
     by_cases a3:(0:Int)<(i:Int)
     ·rw[kT a3,kG (by omega),kT (by omega),kT (by omega),h2 (by omega)]
      by_cases a4:x.1<=last
      ·rw[kT a4,hd,decide_eq_false (fun h=>by have:=h.1.2.1;omega)]
      ·rw[kF a4]
       exact is_ (by omega) (by omega) (by omega)
     ·rw[kF a3]
      have:=h1 (by omega)
      exact is_ (by omega) (by omega) (by omega)
theorem xX(n:Nat)(g:Gr)(hs:Small g)(hn:1001<n):lc n (lnL g.ls) (seL g.ss) (coL g.cs) (iL g.h) (iL g.k) g.lag g.r.a g.r.c g.r.s g.r.r g.c.n g.c.f g.c.t g.c.h g.c.a g.c.b (ceL g.ce) g.nn (edL g.es)=some (decide (GrV g)):=by
 unfold lc yu;rw[fx];by_cases h:(10:Int)<(g.ls.length:Int)
 ·rw[kT h,decide_eq_false (fun hx:GrV g=>by have:=hx.1;omega)]
 ·rw[kF h]
  refine(Rv n g hs hn g.ls.length n 0 (-1) (by have:=hs.ls;omega) (by omega) (by omega) (fun _=>rfl) (fun h=>by omega)).trans ?_
  rw[RP];congr 1
  rw[decide_eq_decide];exact⟨fun hx=>⟨by omega,hx⟩,fun hx=>hx.2⟩
theorem zl(n:Nat)(g:Gr)(hs:Small g)(num t c:Int)(hn:1001<n):mU n (lnL g.ls) (seL g.ss) (coL g.cs) (iL g.h) (iL g.k) g.lag g.r.a g.r.c g.r.s g.r.r g.c.n g.c.f g.c.t g.c.h g.c.a g.c.b (ceL g.ce) g.nn (edL g.es) num t c=some (decide (bN g num t c)):=by
 unfold mU zj;rw[xX n g hs hn,v0];by_cases hv:GrV g
 ·have hk8:=hv.2.2.2.1.2.1
  rw[kNT hv];by_cases a1:num<0
  ·rw[kT a1,decide_eq_false (fun h:bN g num t c=>by have:=h.2.1;omega)]
  ·rw [kF a1]
   by_cases a2:99999999<num
   ·rw[kT a2,decide_eq_false (fun h:bN g num t c=>by have:=h.2.2.1;omega)]
   ·rw [kF a2]
    by_cases a3:t<0
    ·rw[kT a3,decide_eq_false (fun h:bN g num t c=>by have:=h.2.2.2.1;omega)]
    ·rw [kF a3]
     by_cases a4:10000000<t
     ·rw[kT a4,decide_eq_false (fun h:bN g num t c=>by have:=h.2.2.2.2.1;omega)]
     ·rw[kF a4]
      by_cases a5:c<0
      ·rw[kT a5,decide_eq_false (fun h:bN g num t c=>by have:=h.2.2.2.2.2.1;omega)]
      ·rw[kF a5]
       by_cases a6:7<c
       ·rw[kT a6,decide_eq_false (fun h:bN g num t c=>by have:=h.2.2.2.2.2.2.1;omega)]
       ·rw[kF a6,kT (by omega),kT (show c<((iL g.k).length:Int) by rw[ah];omega),Oz]
        congr 1
        rw[decide_eq_decide];exact⟨fun h=>⟨hv,by omega,by omega,by omega,by omega,by omega,by omega,h⟩,fun h=>h.2.2.2.2.2.2.2⟩
 ·rw[kNF hv,decide_eq_false (fun h:bN g num t c=>hv h.1)]
theorem ui(n:Nat)(g:Gr)(t:Int)(p:List Int)(q:List (Int×Int))(hv:eP g.r g.c g.ce)(t0:0<=t)(t1:t<=10000000)(hn:1001<n):jk n (lnL g.ls) (seL g.ss) (coL g.cs) (iL g.h) (iL g.k) g.lag g.r.a g.r.c g.r.s g.r.r g.c.n g.c.f g.c.t g.c.h g.c.a g.c.b (ceL g.ce) g.nn (edL g.es) (oH p) (aW q) t=some (decide (Unp g t p q)):=by
 have hW:mE n g.r.a g.r.c g.r.s g.r.r g.c.n g.c.f g.c.t g.c.h g.c.a g.c.b (ceL g.ce) t=some (LR g t,0):=by
  rw[H4 n g.r g.c g.ce t (by omega),if_pos ⟨hv,t0,by omega⟩]
  rfl
 unfold jk tw;rw[hW,v0];dsimp only;by_cases e1:g.c.n=oH p
 ·rw[kT e1]
  by_cases e2:aW q=g.c.f
  ·rw[kT e2]
   congr 1
   rw[<-decide_not,decide_eq_decide];exact⟨fun h=>⟨e1,.inl e2,h⟩,fun h=>h.2.2⟩
  ·rw[kF e2]
   by_cases e3:aW q=g.c.t
   ·rw[kT e3]
    congr 1
    rw[<-decide_not,decide_eq_decide];exact⟨fun h=>⟨e1,.inr e3,h⟩,fun h=>h.2.2⟩
   ·rw[kF e3,decide_eq_false (fun h:Unp g t p q=>h.2.1.elim e2 e3)]
 ·rw[kF e1,decide_eq_false (fun h:Unp g t p q=>e1 h.1)]
theorem AM(n:Nat){g:Gr}{num t c:Int}(hs:Small g)(h:bN g num t c)(hn:1001<n):eN n (seL g.ss) (coL g.cs) num t=some ((wy g num t).1,iL (wy g num t).2.1,iL (wy g num t).2.2,0):=by
 have hR:=D2 n g.ss g.cs num t hs.ss hs.cs (by omega)
 unfold nk at hR;rw[if_pos ⟨h.1.2.2.1,h.2.1,h.2.2.1,h.2.2.2.1,h.2.2.2.2.1⟩]at hR;exact hR
theorem Jk(n:Nat){g:Gr}{num t c:Int}(h:bN g num t c)(hn:1001<n):iH n (iL g.h) (iL g.k) g.lag c=some (hpL (hp g c).1,(hp g c).2,0):=by
 have hP:=HZ n g.h g.k g.lag c (by omega)
 unfold oK at hP;rw[if_pos ⟨h.1.2.2.2.1,h.2.2.2.2.2.1,h.2.2.2.2.2.2.1,h.2.2.2.2.2.2.2⟩]at hP;exact hP
theorem QG(n:Nat)(a:gx->Option eo){g:Gr}{num t c:Int}(hs:Small g)(h:bN g num t c)(hn:20001000<n):ee n a (lnL g.ls) (seL g.ss) (coL g.cs) (iL g.h) (iL g.k) g.lag g.r.a g.r.c g.r.s g.r.r g.c.n g.c.f g.c.t g.c.h g.c.a g.c.b (ceL g.ce) g.nn (edL g.es) t c (wy g num t).1 (iL (wy g num t).2.1) (iL (wy g num t).2.2) ((wy g num t).2.1.length:Int)=some (vt (tW g t c (wy g num t) (hp g c)) 0):=by
 have hcv:=iz h;have l1:=gi hcv.wne;have l2:=gi hcv.pth.ne;have b1:=hcv.wlen;have b2:=hcv.plen;have hkd:=hcv.kind;have hen:=hcv.pth.ends;unfold ee tW;rw[ah,kF (y2 _)];by_cases k5:(wy g num t).1=5
 ·rw[kT k5,if_pos (.inl k5)];rfl
 ·rw [kF k5]
  by_cases k6:(wy g num t).1=6
  ·rw[kT k6,if_pos (.inr k6)];rfl
  ·rw [kF k6,if_neg (fun h=>h.elim k5 k6)]
   by_cases k1:(wy g num t).1=1
   ·rw [kNT k1,Jk n h (by omega),v0,if_neg (show ¬(2<=(wy g num t).1/\(wy g num t).1<=4) by omega)]
    dsimp only;by_cases e2:(hp g c).2=2
    ·rw[kT e2,if_pos e2];rfl
    ·rw [kF e2,if_neg e2]
     by_cases e3:(hp g c).2=3
     ·rw[kT e3,if_pos e3];rfl
     ·have e1:(hp g c).2=1:=by omega
      have hx0:cI (hpL (hp g c).1) (((hp g c).1.length:Int)-1) 0=aW (hp g c).1:=by
       have:=l8 (hp g c).1 hcv.pth.ne
       rw[bP]at this;exact this
      have hwl:cI (iL (wy g num t).2.1) (((wy g num t).2.1.length:Int)-1) 0=oH (wy g num t).2.1:=by
       have:=vP _ hcv.wne
       rw[ah]at this;exact this
      rw[kF e3,if_neg e3,if_pos e1,bP,kG (by omega),kT (by omega),kT (by omega),kG (by omega),kT (by omega),kT (by omega),hx0,hwl,ui n g t _ _ h.1.2.2.2.2.1 hcv.t0.1 hcv.t0.2 (by omega),v0]
      by_cases u:Unp g t (wy g num t).2.1 (hp g c).1
      ·rw[kT u,if_pos u];rfl
      ·rw[kF u,if_neg u]
       by_cases e4:aW (hp g c).1=c
       ·rw[kNT e4,if_pos e4];rfl
       ·obtain⟨l,cm,q1,q2,q3⟩:=G7 n g.es c (aW (hp g c).1) (QR h.1) hcv.c0.1 hcv.c0.2 hcv.last.1 hcv.last.2 (fun e=>e4 e.symm) (by omega)
        rw[kNF e4,if_neg e4,h.1.2.2.2.2.2.2,q1,v0];dsimp only;by_cases r:Dial.Flo.Reach g.es c (aW (hp g c).1)
        ·rw[kF (fun e=>(q2.1 e) r),if_pos r];rfl
        ·rw[kT (q2.2 r),if_neg r,q3 r];rfl
   ·rw[kNF k1,if_pos (show 2<=(wy g num t).1/\(wy g num t).1<=4 by omega)];rfl
theorem vK(n:Nat)(g:Gr)(hs:Small g)(num t c:Int)(hn:20001000<n):iA n (lnL g.ls) (seL g.ss) (coL g.cs) (iL g.h) (iL g.k) g.lag g.r.a g.r.c g.r.s g.r.r g.c.n g.c.f g.c.t g.c.h g.c.a g.c.b (ceL g.ce) g.nn (edL g.es) num t c=some (if bN g num t c then vt (vl g num t c) 0 else vt (xn,false) 280):=by
 unfold iA wo;rw[zl n g hs num t c (by omega),v0]
 unfold vI;by_cases h:bN g num t c
 ·have hcv:=iz h
  have b1:=hcv.wlen;rw[kNT h,if_pos h,AM n hs h (by omega),v0]
  dsimp only;have key:∀(m n' i:Nat),m<n'->i+m=(wy g num t).2.1.length->ab (fun a s=>ee n a (lnL g.ls) (seL g.ss) (coL g.cs) (iL g.h) (iL g.k) g.lag g.r.a g.r.c g.r.s g.r.r g.c.n g.c.f g.c.t g.c.h g.c.a g.c.b (ceL g.ce) g.nn (edL g.es) t c (wy g num t).1 (iL (wy g num t).2.1) (iL (wy g num t).2.2) s) n' ((i:Int):gx)=match ((wy g num t).2.1.drop i).find? (fun x=> !bW g.ls x t)with
    |some x=>some (1,x,0,([]:Lv),([]:Lv),([]:Lv),0,true,0)
    |none=>some (vt (tW g t c (wy g num t) (hp g c)) 0):=by
   intro m;induction m with
   | zero=>
    intro n' i hm hi;cases n' with
    |zero=>omega
    |succ n'=>
     rw[ae];have hi':i=(wy g num t).2.1.length:=by omega
     rw[hi',List.drop_length];exact QG n _ hs h hn
   | succ m ih=>
    intro n' i hm hi;cases n' with
    |zero=>omega
    | succ n'=>
     rw[ae];have hih:=ih n' (i+1) (by omega) (by omega)
     generalize (ab (fun a s=>ee n a (lnL g.ls) (seL g.ss) (coL g.cs) (iL g.h) (iL g.k) g.lag g.r.a g.r.c g.r.s g.r.r g.c.n g.c.f g.c.t g.c.h g.c.a g.c.b (ceL g.ce) g.nn (edL g.es) t c (wy g num t).1 (iL (wy g num t).2.1) (iL (wy g num t).2.2) s) n':gx->Option eo)=go at hih
     obtain⟨x,hx⟩:=aF (show i<(wy g num t).2.1.length by omega)
     have k0:cI (iL (wy g num t).2.1) (i:Int) 0=x:=by rw[dF,y1,hx];rfl
     have hd:(wy g num t).2.1.drop i=x::(wy g num t).2.1.drop (i+1):=by
      rw[RJ (List.getElem?_eq_some_iff.1 hx).1,(List.getElem?_eq_some_iff.1 hx).2]
     show ee n go (lnL g.ls) (seL g.ss) (coL g.cs) (iL g.h) (iL g.k) g.lag g.r.a g.r.c g.r.s g.r.r g.c.n g.c.f g.c.t g.c.h g.c.a g.c.b (ceL g.ce) g.nn (edL g.es) t c (wy g num t).1 (iL (wy g num t).2.1) (iL (wy g num t).2.2) (i:Int)=_
     unfold ee;rw[ah,kT (by omega),kT (by omega),k0,As n g hs x t (by omega),v0,hd,List.find?_cons]
     rw[show((i+1:Nat):Int)=(i:Int)+1 by omega]at hih
     cases bW g.ls x t with
     |true=>rw[y3,cond_false,kG (by omega)];exact hih
     |false=>rfl
  have:=key (wy g num t).2.1.length n 0 (by omega) (by omega)
  rw[RP]at this;refine this.trans ?_
  unfold vl;cases hf:(wy g num t).2.1.find? (fun x=> !bW g.ls x t)with
  |some x=>rw[Fw hf];rfl
  |none=>rw[F5 hf]
 ·rw[kNF h,if_neg h];rfl
theorem IB(n:Nat)(g:Gr)(hs:Small g)(num t c:Int)(hn:20001000<n):mR n (lnL g.ls) (seL g.ss) (coL g.cs) (iL g.h) (iL g.k) g.lag g.r.a g.r.c g.r.s g.r.r g.c.n g.c.f g.c.t g.c.h g.c.a g.c.b (ceL g.ce) g.nn (edL g.es) num t c=some (if bN g num t c then(if(vl g num t c).2=true then Ec 0 else OI (wy g num t) (hp g c))else Ec 280):=by
 unfold mR yT;rw[vK n g hs num t c hn,v0];by_cases h:bN g num t c
 ·have hc:=iz h
  have l1:=gi hc.wne;have l2:=gi hc.pth.ne;have b1:=hc.wlen;have b2:=hc.plen;rw[if_pos h,if_pos h];dsimp only[vt]
  rw[kNT rfl];cases hb:(vl g num t c).2 with
  |true=>rw[cond_true,if_pos rfl]
  |false=>
   rw[cond_false,if_neg (by decide),AM n hs h (by omega),v0,Jk n h (by omega),v0]
   dsimp only;rw[vP _ hc.wne,l8 _ hc.pth.ne,ah,bP,kG (by omega),kT (by omega),kT (by omega),kG (by omega),kT (by omega),kT (by omega)]
 ·rw[if_neg h,if_neg h]
  rfl
theorem Q8(n:Nat)(r:Rf)(hr:RSmall r)(k m s:Int)(hn:1000<n):bY n r.k r.n r.rk (iL r.rp) (iL r.ru) (hpL r.hs) r.s k m 0 ([]:Lv) ([]:Lv) ([]:Lv) s=some (decide (r=⟨k,m,0,[],[],[],s⟩)):=mD n r ⟨k,m,0,[],[],[],s⟩ hr hn
theorem LG(n:Nat)(r:Rf)(hr:RSmall r)(k m rk s:Int)(rp ru:List Int)(hn:1000<n):bY n r.k r.n r.rk (iL r.rp) (iL r.ru) (hpL r.hs) r.s k m rk (iL rp) (iL ru) ([]:Lv) s=some (decide (r=⟨k,m,rk,rp,ru,[],s⟩)):=mD n r ⟨k,m,rk,rp,ru,[],s⟩ hr hn
theorem Hq(n:Nat)(r:Rf)(hr:RSmall r)(k m s:Int)(hs:List (Int×Int))(hn:1000<n):bY n r.k r.n r.rk (iL r.rp) (iL r.ru) (hpL r.hs) r.s k m 0 ([]:Lv) ([]:Lv) (hpL hs) s=some (decide (r=⟨k,m,0,[],[],hs,s⟩)):=mD n r ⟨k,m,0,[],[],hs,s⟩ hr hn
theorem O9(n:Nat){g:Gr}{num t c:Int}(hs:Small g)(h:bN g num t c)(r:Rf)(hr:RSmall r)(hk:r.k=1)(hn:20001000<n):∀(m n' i:Nat) (on:Bool),m<n'->i+m=(wy g num t).2.1.length->on=decide (r.n∈(wy g num t).2.1.take i) →
  ab (fun a s=>eU n a (lnL g.ls) (seL g.ss) (coL g.cs) (iL g.h) (iL g.k) g.lag g.r.a g.r.c g.r.s g.r.r g.c.n g.c.f g.c.t g.c.h g.c.a g.c.b (ceL g.ce) g.nn (edL g.es) t r.k r.n r.rk (iL r.rp) (iL r.ru) (hpL r.hs) r.s (iL (wy g num t).2.1) s.1 s.2) n' ((on,(i:Int)):kx)=some (decide (r.n∈(wy g num t).2.1/\bW g.ls r.n t=false/\r=⟨1,r.n,0,[],[],[],0⟩)):=by
 have hcv:=iz h;have b1:=hcv.wlen;intro m;induction m with
 | zero=>
  intro n' i on hm hi hon;cases n' with
  |zero=>omega
  | succ n'=>
   rw[ae];show eU n _ (lnL g.ls) (seL g.ss) (coL g.cs) (iL g.h) (iL g.k) g.lag g.r.a g.r.c g.r.s g.r.r g.c.n g.c.f g.c.t g.c.h g.c.a g.c.b (ceL g.ce) g.nn (edL g.es) t r.k r.n r.rk (iL r.rp) (iL r.ru) (hpL r.hs) r.s (iL (wy g num t).2.1) on (i:Int)=_
   unfold eU;rw[ah,kF (by omega),hon,RW (by omega)]
   by_cases hm:r.n∈(wy g num t).2.1
   ·rw[kT hm,As n g hs r.n t (by omega),v0]
    cases hb:bW g.ls r.n t with
    |true=>rw[y3,cond_false,decide_eq_false (fun h=>by cases h.2.1)]
    |false=>
     rw[RO,cond_true,Q8 n r hr r.k r.n 0 (by omega),v0]
     congr 1
     rw[decide_eq_decide,hk];exact⟨fun h=>⟨hm,rfl,h⟩,fun h=>h.2.2⟩
   ·rw[kF hm,decide_eq_false (fun h=>hm h.1)]
 | succ m ih=>
  intro n' i on hm hi hon;cases n' with
  |zero=>omega
  | succ n'=>
   rw[ae];have hih:=ih n' (i+1);generalize (ab (fun a s=>eU n a (lnL g.ls) (seL g.ss) (coL g.cs) (iL g.h) (iL g.k) g.lag g.r.a g.r.c g.r.s g.r.r g.c.n g.c.f g.c.t g.c.h g.c.a g.c.b (ceL g.ce) g.nn (edL g.es) t r.k r.n r.rk (iL r.rp) (iL r.ru) (hpL r.hs) r.s (iL (wy g num t).2.1) s.1 s.2) n':kx->Option eO)=go at hih
   obtain⟨x,hx⟩:=aF (show i<(wy g num t).2.1.length by omega)
   have k0:cI (iL (wy g num t).2.1) (i:Int) 0=x:=by rw[dF,y1,hx];rfl
   have ht:(wy g num t).2.1.take (i+1)=(wy g num t).2.1.take i++[x]:=by rw[List.take_add_one,hx];rfl
   rw[show((i+1:Nat):Int)=(i:Int)+1 by omega]at hih
   show eU n go (lnL g.ls) (seL g.ss) (coL g.cs) (iL g.h) (iL g.k) g.lag g.r.a g.r.c g.r.s g.r.r g.c.n g.c.f g.c.t g.c.h g.c.a g.c.b (ceL g.ce) g.nn (edL g.es) t r.k r.n r.rk (iL r.rp) (iL r.ru) (hpL r.hs) r.s (iL (wy g num t).2.1) on (i:Int)=_
   unfold eU;rw[ah,kT (by omega)]
   cases hb:on with
   |true=>
    rw[hb]at hon;rw[cond_true,kG (by omega)]
    refine hih true (by omega) (by omega) ?_
    have:r.n∈(wy g num t).2.1.take i:=of_decide_eq_true hon.symm
    rw[ht,decide_eq_true (RZ _ this)]
   |false=>
    rw[hb]at hon;have hnm:¬r.n∈(wy g num t).2.1.take i:=of_decide_eq_false hon.symm
    rw[cond_false,kT (by omega),kG (by omega),k0]
    refine hih _ (by omega) (by omega) ?_
    rw[ht,decide_eq_decide,List.mem_append,v9];exact⟨fun e=>.inr e.symm,fun e=>(e.resolve_left hnm).symm⟩
theorem GN(n:Nat)(g:Gr)(hs:Small g)(num t c:Int)(r:Rf)(hr:RSmall r)(hn:20001000<n):oN n (lnL g.ls) (seL g.ss) (coL g.cs) (iL g.h) (iL g.k) g.lag g.r.a g.r.c g.r.s g.r.r g.c.n g.c.f g.c.t g.c.h g.c.a g.c.b (ceL g.ce) g.nn (edL g.es) num t c r.k r.n r.rk (iL r.rp) (iL r.ru) (hpL r.hs) r.s=some (decide (Chk g num t c r)):=by
 unfold oN yn;rw[zl n g hs num t c (by omega),v0]
 unfold xJ;by_cases h:bN g num t c
 ·have hcv := iz h
  have l1:=gi hcv.wne;have l2:=gi hcv.pth.ne;have b1:=hcv.wlen;have b2:=hcv.plen;have hx0:cI (hpL (hp g c).1) (((hp g c).1.length:Int)-1) 0=aW (hp g c).1:=by
   have:=l8 (hp g c).1 hcv.pth.ne
   rw[bP]at this;exact this
  have hwl:cI (iL (wy g num t).2.1) (((wy g num t).2.1.length:Int)-1) 0=oH (wy g num t).2.1:=by
   have:=vP _ hcv.wne
   rw[ah]at this;exact this
  have hq:∀ {P:Prop} [Decidable P],(f8 g t c (wy g num t) (hp g c) r↔P)->some (decide P)=some (decide (Chk g num t c r)):=fun{P} _ hp=>by
   congr 1
   rw[decide_eq_decide];exact⟨fun x=>⟨h,hp.2 x⟩,fun x=>hp.1 x.2⟩
  have hf:¬f8 g t c (wy g num t) (hp g c) r->some false=some (decide (Chk g num t c r)):=fun hp=>by
   rw[decide_eq_false (fun x:Chk g num t c r=>hp x.2)]
  rw[kNT h,AM n hs h (by omega),v0,Jk n h (by omega),v0]
  dsimp only;rw[bP,kG (by omega),kT (by omega),kT (by omega)]
  unfold xG;by_cases a1:r.k=1
  ·rw[kT a1]
   refine(O9 n hs h r hr a1 hn _ n 0 false (Nat.lt_of_le_of_lt b1 (by omega)) (Nat.zero_add _) (by rw[List.take_zero];rfl)).trans (hq (Nc a1))
  ·rw [kF a1]
   by_cases a2:r.k=2
   ·rw[kT a2]
    by_cases w5:(wy g num t).1=5
    ·rw[kT w5,LG n r hr r.k 0 (wy g num t).1 0 (wy g num t).2.1 (wy g num t).2.2 (by omega),v0]
     refine hq ?_
     rw[vF a2,a2];exact⟨fun h=>h.2,fun h=>⟨.inl w5,h⟩⟩
    ·rw[kF w5]
     by_cases w6:(wy g num t).1=6
     ·rw[kT w6,LG n r hr r.k 0 (wy g num t).1 0 (wy g num t).2.1 (wy g num t).2.2 (by omega),v0]
      refine hq ?_
      rw[vF a2,a2];exact⟨fun h=>h.2,fun h=>⟨.inr w6,h⟩⟩
     ·rw[kF w6]
      refine hf ?_
      rw[vF a2];exact fun h=>h.1.elim w5 w6
   ·rw [kF a2]
    by_cases a3:r.k=3
    ·rw[kT a3]
     by_cases w2:2<=(wy g num t).1
     ·rw[kT w2]
      by_cases w4:(wy g num t).1<=4
      ·rw[kT w4,LG n r hr r.k 0 (wy g num t).1 0 (wy g num t).2.1 (wy g num t).2.2 (by omega),v0]
       refine hq ?_
       rw[wa a3,a3];exact⟨fun h=>h.2,fun h=>⟨⟨w2,w4⟩,h⟩⟩
      ·rw[kF w4]
       refine hf ?_
       rw[wa a3];exact fun h=>w4 h.1.2
     ·rw[kF w2]
      refine hf ?_
      rw[wa a3];exact fun h=>w2 h.1.1
    ·rw [kF a3]
     by_cases a4:r.k=4
     ·rw[kT a4]
      by_cases e2:(hp g c).2=2
      ·rw[kT e2,Hq n r hr r.k 0 0 (hp g c).1 (by omega),v0]
       refine hq ?_
       rw[DA a4,a4];exact⟨fun h=>h.2,fun h=>⟨e2,h⟩⟩
      ·rw[kF e2]
       refine hf ?_
       rw[DA a4];exact fun h=>e2 h.1
     ·rw [kF a4]
      by_cases a5:r.k=5
      ·rw[kT a5]
       by_cases e3:(hp g c).2=3
       ·rw[kT e3,Hq n r hr r.k 0 0 (hp g c).1 (by omega),v0]
        refine hq ?_
        rw[C3 a5,a5];exact⟨fun h=>h.2,fun h=>⟨e3,h⟩⟩
       ·rw[kF e3]
        refine hf ?_
        rw[C3 a5];exact fun h=>e3 h.1
      ·rw [kF a5]
       by_cases a6:r.k=6
       ·rw[kT a6]
        by_cases e1:(hp g c).2=1
        ·rw[kT e1,ah,bP,kG (by omega),kT (by omega),kT (by omega),hx0,hwl,ui n g t _ _ h.1.2.2.2.2.1 hcv.t0.1 hcv.t0.2 (by omega),v0]
         by_cases u:Unp g t (wy g num t).2.1 (hp g c).1
         ·rw[kT u,Hq n r hr r.k 0 0 (hp g c).1 (by omega),v0]
          refine hq ?_
          rw[vS a6,a6];exact⟨fun h=>h.2.2,fun h=>⟨e1,u,h⟩⟩
         ·rw[kF u]
          refine hf ?_
          rw[vS a6];exact fun h=>u h.2.1
        ·rw[kF e1]
         refine hf ?_
         rw[vS a6];exact fun h=>e1 h.1
       ·rw [kF a6]
        by_cases a7:r.k=7
        ·rw [kT a7]
         by_cases e1:(hp g c).2=1
         ·rw [kNT e1,bP,hx0]
          by_cases e4:aW (hp g c).1=c
          ·rw[kT e4]
           refine hf ?_
           rw[jX a7];exact fun h=>h.2.1 e4
          ·rw[kF e4,h.1.2.2.2.2.2.2,CL n g.es c (aW (hp g c).1) r.s (QR h.1) (by omega),v0]
           unfold CB;by_cases hcv2:k8 c (aW (hp g c).1) r.s
           ·rw[if_pos ⟨hcv.c0.1,hcv.c0.2,hcv.last.1,hcv.last.2,fun e=>e4 e.symm,hcv2⟩]
            dsimp only;rw[cond_true];by_cases hr0:lvs r.s g.es=0
            ·rw[kT hr0,Hq n r hr r.k 0 r.s (hp g c).1 (by omega),v0]
             refine hq ?_
             rw[jX a7,a7];exact⟨fun h=>h.2.2.2.2,fun h=>⟨e1,e4,hcv2,hr0,h⟩⟩
            ·rw[kF hr0]
             refine hf ?_
             rw[jX a7];exact fun h=>hr0 h.2.2.2.1
           ·rw[if_neg (fun h=>hcv2 h.2.2.2.2.2)]
            dsimp only;rw[cond_false];refine hf ?_
            rw[jX a7];exact fun h=>hcv2 h.2.2.1
         ·rw[kNF e1]
          refine hf ?_
          rw[jX a7];exact fun h=>e1 h.1
        ·rw[kF a7]
         exact hf (fun h=>by have:=Fm h;omega)
 ·rw[kNF h,decide_eq_false (fun x:Chk g num t c r=>h x.1)]
theorem K8{α:Type}{l:List α}{i:Nat}{f:α->α}{x:α}(h:l[i]?=some x):l.modify i f=l.set i (f x):=by
 apply List.ext_getElem?
 intro j;rw[List.getElem?_modify,List.getElem?_set];by_cases e:i=j
 ·subst e
  obtain⟨h1,h2⟩:=List.getElem?_eq_some_iff.1 h;simp[h1,h2]
 ·simp[e]
abbrev rcT(r:Rl)(c:Cl)(es:List Ce):eD:=(r.a,r.c,r.s,r.r,c.n,c.f,c.t,c.h,c.a,c.b,ceL es)
theorem Ig{es:List Ce}{i:Nat}{e:Ce}(he:es[i]?=some e)(f:List AV->List AV)(e':Ce)(hf:f (ceR e)=ceR e'):v1 (ceL es) ((i:Int)).toNat f=ceL (es.set i e'):=by
 rw[K8 (x:=ceR e) (by rw[List.getElem?_map,show((i:Int)).toNat=i by simp,he];rfl),hf,ceL,show((i:Int)).toNat=i by simp,<-List.map_set]
theorem DJ(n:Nat)(r:Rl)(c:Cl)(es:List Ce)(b:Int)(hb:ax b)(hl:es.length<=30)(hn:100<n):∃r' c' es',ab (fun a s=>iD n a r.a r.c r.s r.r c.n c.f c.t c.h c.a c.b b s) n (ceL es:gh)=some (rcT r' c' es')/\es'.length<=41:=by
 have main:∃z,ab (fun a s=>iD n a r.a r.c r.s r.r c.n c.f c.t c.h c.a c.b b s) n (ceL es:gh)=some z/\∃es',z=rcT r c es'/\es'.length<=41:=by
  refine dG (fun s=>∃fs:List Ce,s=ceL fs/\fs.length<=41) (fun s=>60-s.length) _ ?_ n _ ⟨es,rfl,by omega⟩ (by omega)
  rintro _ go ⟨fs,rfl,f2⟩ ih;unfold iD;obtain⟨q0,q1⟩:=aR b (k:=2) (by decide)
  rw[aI n hb (by decide),v0]
  generalize pk b 2=y at q0 q1⊢
  have hfl:((ceL fs).length:Int)=(fs.length:Int):=by rw[v4]
  have d1:(-9223372036854775808:Int)<=20+y:=by omega
  have d2:20+y<=(9223372036854775807:Int):=by omega
  rw[decide_eq_true d1,decide_eq_true d2,Bool.and_self,cond_true];by_cases g1:((ceL fs).length:Int)<20+y
  ·have d7:(((ceL fs).length:Int)+1)*24<=140737488355328:=by omega
   rw[decide_eq_true g1,cond_true,decide_eq_true d7,cond_true];have hv:ceL fs++[[(AV.int 1),(AV.int 20000000),(AV.int 0)]]=ceL (fs++[⟨1,20000000,0⟩]):=by unfold ceL;rw[RV];rfl
   rw[hv];exact ih _ ⟨_,rfl,by simp;omega⟩ (by simp;omega)
  ·rw[decide_eq_false g1,cond_false]
   exact⟨_,rfl,fs,rfl,f2⟩
 obtain⟨_,h1,es',rfl,h2⟩:=main;exact⟨r,c,es',h1,h2⟩
theorem Jh(n:Nat)(r:Rl)(c:Cl)(es:List Ce)(a b d:Int)(ha:ax a)(hb:ax b)(hd:ax d)(hl:es.length<=30)(hn:100<n):
  ∃r' c' es',qF n r.a r.c r.s r.r c.n c.f c.t c.h c.a c.b (ceL es) a b d=some (rcT r' c' es')/\es'.length<=41:=by
 unfold qF AQ;have hlen:((ceL es).length:Int)=(es.length:Int):=by rw[v4]
 have c0:((ceL es).length:Int)*24<=140737488355328:=by omega
 rw[decide_eq_true c0,cond_true,aI n ha (by decide),v0]
 generalize pk a 14=y
 obtain⟨r1,c1,e1,h1,h2⟩:=DJ n r c es b hb hl hn;have plain:∃r' c' es',(bif y=0 then some ((b,r.c,r.s,r.r,c.n,c.f,c.t,c.h,c.a,c.b,ceL es):eD)else(bif y=1 then some (r.a,b,r.s,r.r,c.n,c.f,c.t,c.h,c.a,c.b,ceL es)else(bif y=2 then some (r.a,r.c,b,r.r,c.n,c.f,c.t,c.h,c.a,c.b,ceL es)else(bif y=3 then some (r.a,r.c,r.s,b,c.n,c.f,c.t,c.h,c.a,c.b,ceL es)else(bif y=4 then some (r.a,r.c,r.s,r.r,b,c.f,c.t,c.h,c.a,c.b,ceL es)else(bif y=5 then some (r.a,r.c,r.s,r.r,c.n,b,c.t,c.h,c.a,c.b,ceL es)else(bif y=6 then some (r.a,r.c,r.s,r.r,c.n,c.f,b,c.h,c.a,c.b,ceL es)else(bif y=7 then some (r.a,r.c,r.s,r.r,c.n,c.f,c.t,b,c.a,c.b,ceL es)else(bif y=8 then some (r.a,r.c,r.s,r.r,c.n,c.f,c.t,c.h,b,c.b,ceL es)else(bif y=9 then some (r.a,r.c,r.s,r.r,c.n,c.f,c.f,c.h,c.a,c.b,ceL es)else(ab (fun f s=>iD n f r.a r.c r.s r.r c.n c.f c.t c.h c.a c.b b s) n (ceL es:gh))))))))))))=some (rcT r' c' es')/\es'.length<=41:=by
  rcases Decidable.em (y=0)with h|h
  ·rw[decide_eq_true h];exact⟨⟨b,r.c,r.s,r.r⟩,c,es,rfl,by omega⟩
  rw[decide_eq_false h,cond_false];rcases Decidable.em (y=1)with h|h
  ·rw[decide_eq_true h];exact⟨⟨r.a,b,r.s,r.r⟩,c,es,rfl,by omega⟩
  rw[decide_eq_false h,cond_false];rcases Decidable.em (y=2)with h|h
  ·rw[decide_eq_true h];exact⟨⟨r.a,r.c,b,r.r⟩,c,es,rfl,by omega⟩
  rw[decide_eq_false h,cond_false];rcases Decidable.em (y=3)with h|h
  ·rw[decide_eq_true h];exact⟨⟨r.a,r.c,r.s,b⟩,c,es,rfl,by omega⟩
  rw[decide_eq_false h,cond_false];rcases Decidable.em (y=4)with h|h
  ·rw[decide_eq_true h];exact⟨r,⟨b,c.f,c.t,c.h,c.a,c.b⟩,es,rfl,by omega⟩
  rw[decide_eq_false h,cond_false];rcases Decidable.em (y=5)with h|h
  ·rw[decide_eq_true h];exact⟨r,⟨c.n,b,c.t,c.h,c.a,c.b⟩,es,rfl,by omega⟩
  rw[decide_eq_false h,cond_false];rcases Decidable.em (y=6)with h|h
  ·rw[decide_eq_true h];exact⟨r,⟨c.n,c.f,b,c.h,c.a,c.b⟩,es,rfl,by omega⟩
  rw[decide_eq_false h,cond_false];rcases Decidable.em (y=7)with h|h
  ·rw[decide_eq_true h];exact⟨r,⟨c.n,c.f,c.t,b,c.a,c.b⟩,es,rfl,by omega⟩
  rw[decide_eq_false h,cond_false];rcases Decidable.em (y=8)with h|h
  ·rw[decide_eq_true h];exact⟨r,⟨c.n,c.f,c.t,c.h,b,c.b⟩,es,rfl,by omega⟩
  rw[decide_eq_false h,cond_false];rcases Decidable.em (y=9)with h|h
  ·rw[decide_eq_true h];exact⟨r,⟨c.n,c.f,c.f,c.h,c.a,c.b⟩,es,rfl,by omega⟩
  rw[decide_eq_false h,cond_false];exact⟨r1,c1,e1,h1,h2⟩
 unfold zw;by_cases g:(11:Int)<=y
 ·rw[decide_eq_true g,cond_true]
  unfold zA;by_cases g0:(0:Int)<((ceL es).length:Int)
  ·obtain⟨p0,p1⟩:=aR d g0
   rw[decide_eq_true g0,cond_true,aI n hd g0,v0];generalize pk d ((ceL es).length:Int)=z at p0 p1⊢
   obtain⟨i,rfl⟩:∃i:Nat,z=(i:Int):=⟨z.toNat,by omega⟩
   obtain⟨e,he⟩:=aF (show i<es.length by omega)
   rw[decide_eq_true p0,cond_true,decide_eq_true p1,cond_true];rcases Decidable.em (y=11)with h|h
   ·rw[decide_eq_true h,cond_true,Ig he _ ⟨b,e.a,e.r⟩ rfl];exact⟨r,c,_,rfl,by rw[RN];omega⟩
   rw[decide_eq_false h,cond_false];rcases Decidable.em (y=12)with h|h
   ·rw[decide_eq_true h,cond_true,Ig he _ ⟨e.k,b,e.r⟩ rfl];exact⟨r,c,_,rfl,by rw[RN];omega⟩
   rw[decide_eq_false h,cond_false,Ig he _ ⟨e.k,e.a,b⟩ rfl];exact⟨r,c,_,rfl,by rw[RN];omega⟩
  ·rw[decide_eq_false g0,cond_false]
   exact plain
 ·rw[decide_eq_false g,cond_false]
  exact plain
theorem vR{α:Type}{f:α->List AV}{g:List AV->List AV}(P:α->Prop)(hg:∀x,P x->∃y,g (f x)=f y/\P y):∀(l:List α) (i:Nat),(∀x∈l,P x)->∃l':List α,v1 (l.map f) i g=l'.map f/\l'.length=l.length/\∀x∈l',P x
 |[],i,h=>⟨[],by cases i<;>rfl,rfl,h⟩
 | x::l,0,h=>by
  obtain⟨y,h1,h2⟩:=hg x (h x (y0 ..));refine⟨y::l,?_,rfl,fun z hz=>?_⟩
  ·show g (f x)::l.map f=f y::l.map f
   rw[h1]
  ·rcases List.mem_cons.1 hz with rfl|hz
   ·exact h2
   ·exact h z (y7 _ hz)
 | x::l,i+1,h=>by
  obtain⟨l',h1,h2,h3⟩:=vR P hg l i (fun z hz=>h z (y7 _ hz))
  refine⟨x::l',?_,by simp[h2],fun z hz=>?_⟩
  ·show f x::v1 (l.map f) i g=f x::l'.map f
   rw[h1]
  ·rcases List.mem_cons.1 hz with rfl|hz
   ·exact h _ (y0 ..)
   ·exact h3 z hz
theorem Ou(n:Nat)(l:List Se)(c:Lv)(b:Int)(hb:ax b)(hl:l.length<=100)(hn:1000<n):∃l',ab (fun a s=>cG n a c b s) n (seL l:cu)=some (seL l',c)/\l'.length<=100:=by
 have q:=aR b (k:=3) (by decide)
 have main:∃z,ab (fun a s=>cG n a c b s) n (seL l:cu)=some z/\∃l',z=(seL l',c)/\l'.length<=100:=by
  refine dG (fun s=>∃l':List Se,s=seL l'/\l'.length<=100) (fun s=>200-s.length) _ ?_ n _ ⟨l,rfl,hl⟩ (by omega)
  rintro _ go ⟨l',rfl,h1⟩ ih;unfold cG;rw[cw n hb (by decide),v0,kG (by omega),Bt]
  by_cases g:(l'.length:Int)<39+pk b 3
  ·rw[kT g,kG (by omega),kT (by omega),CZ l' ⟨100+(l'.length:Int),1,10,0,5⟩]
   exact ih _ ⟨_,rfl,by rw[v5,v3];omega⟩ (by simp;omega)
  ·rw[kF g];exact⟨_,rfl,l',rfl,h1⟩
 obtain⟨_,h1,l',rfl,h2⟩:=main;exact⟨l',h1,h2⟩
theorem Iy(n:Nat)(l:List Se)(c:List Co)(a b d:Int)(ha:ax a)(hb:ax b)(hd:ax d)(hl:l.length<=40)(hc:c.length<=40)(hn:1000<n):∃l' c',qE n (seL l) (coL c) a b d=some (seL l',coL c')/\l'.length<=100/\c'.length<=100:=by
 unfold qE Aj;rw[Bt,EM,kT (by omega),kT (by omega),cw n ha (by decide),v0]
 generalize pk a 10=y
 obtain⟨m,hm,ml⟩:=Ou n l (coL c) b hb (by omega) hn
 have loop:∃l' c',ab (fun e s=>cG n e (coL c) b s) n (seL l:cu)=some (seL l',coL c')/\l'.length<=100/\c'.length<=100:=⟨m,c,hm,ml,by omega⟩
 have sm:∀(i k:Nat) (v:Int),(∀x:Se,∃y,(seR x).set k (AV.int v)=seR y)->∃l' c',(some (v1 (seL l) i (fun r=>r.set k (AV.int v)),coL c):Option eH)=some (seL l',coL c')/\l'.length<=100/\c'.length<=100:=fun i k v h=>by
  obtain⟨l',h1,h2,_⟩:=vR (f:=seR) (g:=fun r=>r.set k (AV.int v)) (fun _=>True) (fun x _=>by obtain⟨y,hy⟩:=h x;exact⟨y,hy,trivial⟩) l i (fun _ _=>trivial)
  rw[h1];exact⟨l',c,rfl,by omega,by omega⟩
 have cm:∀(q:List Co) (i k:Nat) (v:Int),(∀x:Co,∃y,(coR x).set k (AV.int v)=coR y)->∃q',v1 (coL q) i (fun r=>r.set k (AV.int v))=coL q'/\q'.length=q.length:=fun q i k v h=>by
  obtain⟨l',h1,h2,_⟩:=vR (f:=coR) (g:=fun r=>r.set k (AV.int v)) (fun _=>True) (fun x _=>by obtain⟨y,hy⟩:=h x;exact⟨y,hy,trivial⟩) q i (fun _ _=>trivial)
  exact⟨l',h1,h2⟩
 have c0:∀(v:Int) (x:Co),∃y,(coR x).set 0 (AV.int v)=coR y:=fun v x=>⟨⟨v,x.k⟩,rfl⟩
 have c1:∀(v:Int) (x:Co),∃y,(coR x).set 1 (AV.int v)=coR y:=fun v x=>⟨⟨x.n,v⟩,rfl⟩
 have conds:∃l' c',(bif 0<(c.length:Int) then(bD n d (c.length:Int)).bind fun y6=>
   (bif y=6 then bif 0<=y6 then bif y6<(c.length:Int) then(some (seL l,(v1 (coL c) (y6).toNat (fun r=>r.set 0 (AV.int b)))):Option eH)else none else none else(bif y=7 then bif 0<=y6 then bif y6<(c.length:Int) then some (seL l,(v1 (coL c) (y6).toNat (fun r=>r.set 1 (AV.int b))))else none else none else bif 0<=y6 then bif y6<(c.length:Int) then some (seL l,(v1 (v1 (v1 (v1 (coL c) ((0:Int)).toNat (fun r=>r.set 0 (AV.int (cI (coL c) y6 0)))) ((0:Int)).toNat (fun r=>r.set 1 (AV.int (cI (coL c) y6 1)))) (y6).toNat (fun r=>r.set 0 (AV.int (cI (coL c) 0 0)))) (y6).toNat (fun r=>r.set 1 (AV.int (cI (coL c) 0 1)))))else none else none))else(ab (fun e s=>cG n e (coL c) b s) n (seL l:cu)))=some (seL l',coL c')/\l'.length<=100/\c'.length<=100:=by
  by_cases g:(0:Int)<(c.length:Int)
  ·have q:=aR d g
   rw[kT g,cw n hd g,v0];by_cases e6:y=6
   ·obtain⟨q',h1,h2⟩:=cm c (pk d (c.length:Int)).toNat 0 b (c0 b)
    rw[kT e6,kT q.1,kT q.2,h1];exact⟨l,q',rfl,by omega,by omega⟩
   ·rw[kF e6]
    by_cases e7:y=7
    ·obtain⟨q',h1,h2⟩:=cm c (pk d (c.length:Int)).toNat 1 b (c1 b)
     rw[kT e7,kT q.1,kT q.2,h1];exact⟨l,q',rfl,by omega,by omega⟩
    ·obtain⟨q1,h1,g1⟩:=cm c ((0:Int)).toNat 0 (cI (coL c) (pk d (c.length:Int)) 0) (c0 _)
     obtain⟨q2,h2,g2⟩:=cm q1 ((0:Int)).toNat 1 (cI (coL c) (pk d (c.length:Int)) 1) (c1 _);obtain⟨q3,h3,g3⟩:=cm q2 (pk d (c.length:Int)).toNat 0 (cI (coL c) 0 0) (c0 _);obtain⟨q4,h4,g4⟩:=cm q3 (pk d (c.length:Int)).toNat 1 (cI (coL c) 0 1) (c1 _);rw[kF e7,kT q.1,kT q.2,h1,h2,h3,h4];exact⟨l,q4,rfl,by omega,by omega⟩
  ·rw[kF g];exact loop
 unfold An;rw[Bt,EM];have tail:∃l' c',(bif y<9 then(bif 0<(c.length:Int) then(bD n d (c.length:Int)).bind fun y6=>
   (bif y=6 then bif 0<=y6 then bif y6<(c.length:Int) then(some (seL l,(v1 (coL c) (y6).toNat (fun r=>r.set 0 (AV.int b)))):Option eH)else none else none else(bif y=7 then bif 0<=y6 then bif y6<(c.length:Int) then some (seL l,(v1 (coL c) (y6).toNat (fun r=>r.set 1 (AV.int b))))else none else none else bif 0<=y6 then bif y6<(c.length:Int) then some (seL l,(v1 (v1 (v1 (v1 (coL c) ((0:Int)).toNat (fun r=>r.set 0 (AV.int (cI (coL c) y6 0)))) ((0:Int)).toNat (fun r=>r.set 1 (AV.int (cI (coL c) y6 1)))) (y6).toNat (fun r=>r.set 0 (AV.int (cI (coL c) 0 0)))) (y6).toNat (fun r=>r.set 1 (AV.int (cI (coL c) 0 1)))))else none else none))else(ab (fun e s=>cG n e (coL c) b s) n (seL l:cu)))else(ab (fun e s=>cG n e (coL c) b s) n (seL l:cu)))=some (seL l',coL c')/\l'.length<=100/\c'.length<=100:=by
  by_cases g:y<9
  ·rw[kT g];exact conds
  ·rw[kF g];exact loop
 by_cases g6:y<6
 ·rw [kT g6]
  by_cases g:(0:Int)<(l.length:Int)
  ·have q:=aR d g
   rw[kT g,cw n hd g,v0,kT q.1,kT q.2];generalize pk d (l.length:Int)=z at q
   by_cases e0:y=0
   ·rw[kT e0];exact sm _ 0 b (fun x=>⟨⟨b,x.k,x.t,x.f,x.u⟩,rfl⟩)
   ·rw [kF e0]
    by_cases e1:y=1
    ·rw[kT e1];exact sm _ 1 b (fun x=>⟨⟨x.n,b,x.t,x.f,x.u⟩,rfl⟩)
    ·rw [kF e1]
     by_cases e2:y=2
     ·rw[kT e2];exact sm _ 2 b (fun x=>⟨⟨x.n,x.k,b,x.f,x.u⟩,rfl⟩)
     ·rw[kF e2]
      by_cases e3:y=3
      ·rw[kT e3];exact sm _ 3 b (fun x=>⟨⟨x.n,x.k,x.t,b,x.u⟩,rfl⟩)
      ·rw[kF e3]
       by_cases e4:y=4
       ·rw[kT e4];exact sm _ 4 b (fun x=>⟨⟨x.n,x.k,x.t,x.f,b⟩,rfl⟩)
       ·rw[kF e4,kT (by omega),CZ l ⟨cI (seL l) z 0,cI (seL l) z 1,cI (seL l) z 2,cI (seL l) z 3,cI (seL l) z 4⟩]
        exact⟨_,c,rfl,by rw[v5,v3];omega,by omega⟩
  ·rw[kF g];exact tail
 ·rw[kF g6];exact tail
theorem rQ(n:Nat){c k:Int}(hc:ax c)(hk:0<k):kw n c k=some (pk c k):=by
 unfold ax at hc;unfold kw zU pk;by_cases h:c<0
 ·rw[kT h,kG (by omega),kG (by omega),kNF (show ¬k=0 by omega),if_pos h]
 ·rw[kF h,kNF (show ¬k=0 by omega),if_neg h]
theorem Iu(n:Nat)(N:Int)(es:List Ed)(a b d:Int)(ha:ax a)(hb:ax b)(hd:ax d)(hl:es.length<=40)(hn:1000<n):∃N' es',qu n N (edL es) a b d=some (N',edL es')/\es'.length<=100:=by
 unfold qu zk;rw[dZ,kT (by omega)]
 by_cases g:(es.length:Int)=0
 ·rw[kT g];exact⟨b,es,rfl,by omega⟩
 ·have q:=aR d (k:=(es.length:Int)) (by omega)
  rw[kF g,rQ n hd (by omega),v0,rQ n ha (by decide),v0]
  generalize pk d (es.length:Int)=z at q
  generalize pk a 5=y
  have em:∀(k:Nat),(∀x:Ed,∃y,(edR x).set k (AV.int b)=edR y)->∃N' es',(some (N,v1 (edL es) z.toNat (fun r=>r.set k (AV.int b))):Option j7)=some (N',edL es')/\es'.length<=100:=fun k h=>by
   obtain⟨l',h1,h2,_⟩:=vR (f:=edR) (g:=fun r=>r.set k (AV.int b)) (fun _=>True) (fun x _=>by obtain⟨y,hy⟩:=h x;exact⟨y,hy,trivial⟩) es z.toNat (fun _ _=>trivial)
   rw[h1];exact⟨N,l',rfl,by omega⟩
  by_cases e0:y=0
  ·rw[kT e0];exact⟨b,es,rfl,by omega⟩
  ·rw [kF e0]
   by_cases e1:y=1
   ·rw[kT e1,kT q.1,kT q.2];exact em 0 (fun x=>⟨⟨b,x.t,x.c⟩,rfl⟩)
   ·rw [kF e1]
    by_cases e2:y=2
    ·rw[kT e2,kT q.1,kT q.2];exact em 1 (fun x=>⟨⟨x.f,b,x.c⟩,rfl⟩)
    ·rw [kF e2]
     by_cases e3:y=3
     ·rw[kT e3,kT q.1,kT q.2];exact em 2 (fun x=>⟨⟨x.f,x.t,b⟩,rfl⟩)
     ·rw[kF e3]
      have q3:=aR b (k:=3) (by decide)
      have main:∃w,ab (fun c s=>qU n c N b z s) n (edL es:pF)=some w/\∃N' es',w=(N',edL es')/\es'.length<=100:=by
       refine dG (fun s=>∃l':List Ed,s=edL l'/\l'.length<=100/\es.length<=l'.length) (fun s=>200-s.length) _ ?_ n _ ⟨es,rfl,by omega,RL _⟩ (by omega)
       rintro _ go ⟨l',rfl,h1,h2⟩ ih;unfold qU;rw[rQ n hb (by decide),v0,kG (by omega),dZ]
       by_cases g2:(l'.length:Int)<39+pk b 3
       ·rw[kT g2,kT q.1,kT (by omega),kT (by omega),CK l' ⟨cI (edL l') z 0,cI (edL l') z 1,cI (edL l') z 2⟩]
        exact ih _ ⟨_,rfl,by rw[v5,v3];omega,by rw[v5,v3];omega⟩ (by simp;omega)
       ·rw[kF g2];exact⟨_,rfl,N,l',rfl,h1⟩
      obtain⟨_,h1,N',es',rfl,h2⟩:=main;exact⟨N',es',h1,h2⟩
theorem H2(n:Nat)(g:Gr)(hv:GrV g)(hs:Small g)(a b d:Int)(ha:ax a)(hb:ax b)(hd:ax d)(hn:1000<n):∃g':Gr,qp n (lnL g.ls) (seL g.ss) (coL g.cs) (iL g.h) (iL g.k) g.lag g.r.a g.r.c g.r.s g.r.r g.c.n g.c.f g.c.t g.c.h g.c.a g.c.b (ceL g.ce) g.nn (edL g.es) a b d=some (grT g')/\Small g':=by
 have d7:=DL (k:=7) (by decide) ha
 have d7':=d7;unfold ax at d7';have l1:=hv.1;have l2:=hv.2.2.1.1.1;have l3:=hv.2.2.1.2.1;have l4:=hv.2.2.2.2.1.2.2.1;have l5:=hv.2.2.2.2.2.1.2.2.1;have l6:=hv.2.2.2.1.2.1;unfold qp Aq;rw[bZ n ha (by decide),v0]
 generalize pk a 7=y
 unfold zQ;by_cases e0:y=0
 ·rw[kT e0,fx,kT (by omega)]
  by_cases g0:(0:Int)<(g.ls.length:Int)
  ·have q:=aR d g0
   obtain⟨l',h1,h2,h3⟩:=vR (f:=lnR) (g:=fun r=>r.set 0 (AV.int b)) (fun x=>x.2.length<=1000) (fun x hx=>⟨(b,x.2),rfl,hx⟩) g.ls (pk d (g.ls.length:Int)).toNat hs.ev
   rw[kT g0,bZ n hd g0,v0,kT q.1,kT q.2,h1];exact⟨{ g with ls:=l' },rfl,by dsimp only;omega,h3,hs.ss,hs.cs,hs.ce,hs.es⟩
  ·rw[kF g0];exact⟨g,rfl,hs⟩
 ·rw [kF e0]
  unfold za;by_cases e1:y=1
  ·have hL:(([]:Lv)++[[(AV.int 1),(AV.sl (.cons .int (.cons .int (.cons .int .nil))) (([]:Lv)++[[(AV.int b),(AV.int 0),(AV.int d)]]))]])++lnL g.ls=lnL ((1,[⟨b,0,d⟩])::g.ls):=rfl
   rw[kT e1,hL,fx,kT (by rw[RT];omega)]
   refine⟨{ g with ls:=(1,[⟨b,0,d⟩])::g.ls },rfl,by dsimp only;rw[RT];omega,fun x hx=>?_,hs.ss,hs.cs,hs.ce,hs.es⟩
   rcases List.mem_cons.1 hx with rfl|hx
   ·show(1:Nat)<=1000;decide
   ·exact hs.ev x hx
  ·rw [kF e1]
   by_cases e2:y=2
   ·obtain⟨l',c',h1,h2,h3⟩:=Iy n g.ss g.cs (v8 a 7) b d d7 hb hd l2 l3 hn
    rw[kT e2,kG d7',h1,v0];exact⟨{ g with ss:=l',cs:=c' },rfl,hs.ls,hs.ev,by dsimp only;omega,by dsimp only;omega,hs.ce,hs.es⟩
   ·rw [kF e2]
    by_cases e3:y=3
    ·rw[kT e3];exact⟨{ g with lag:=b },rfl,hs.ls,hs.ev,hs.ss,hs.cs,hs.ce,hs.es⟩
    ·rw[kF e3]
     by_cases e4:y=4
     ·have q:=aR d (k:=8) (by decide)
      have hk:((iL g.k).length:Int)=8:=by rw[ah];omega
      rw[kT e4,hk,kT (by decide),bZ n hd (by decide),v0,kT q.1,kT q.2,pc]
      exact⟨{ g with k:=g.k.set (pk d 8).toNat b },rfl,hs.ls,hs.ev,hs.ss,hs.cs,hs.ce,hs.es⟩
     ·rw[kF e4]
      by_cases e5:y=5
      ·obtain⟨r',c',es',h1,h2⟩:=Jh n g.r g.c g.ce (v8 a 7) b d d7 hb hd (by omega) (by omega)
       rw[kT e5,kG d7',h1,v0];exact⟨{ g with r:=r',c:=c',ce:=es' },rfl,hs.ls,hs.ev,hs.ss,hs.cs,by dsimp only;omega,hs.es⟩
      ·obtain⟨N',es',h1,h2⟩:=Iu n g.nn g.es (v8 a 7) b d d7 hb hd l5 hn
       rw[kF e5,kG d7',h1,v0];exact⟨{ g with nn:=N',es:=es' },rfl,hs.ls,hs.ev,hs.ss,hs.cs,hs.ce,by dsimp only;omega⟩
end Go.Proofs.YtbfkkigbedmhgaaGreat
namespace Go.Proofs.YtbfkkigbedmhgaaGreat
open Go Go.Sx
noncomputable section
def P8:List Nat:=[12,13,14,15,16,17,18,19,20,21,22,23,24,25,26,27,28,29,30,31,32,33,34,35,36,37,38,39,40,41,42,43,44,45,46,47,48,49,50,51,52,53,54,55,56,57,58,59,62,65,66,67,68,69,70,71,72,73,74,75,76,77,78,84,85,86,87,89,95,105,106,107,108,109,110,111,112,114,115,116,117,120,122,130,132,149,150,152,153,159,176,178,179,180,182,183,184,186,187,193,202,203,204,210,211,1000015,1000016,1000017,1000018,1000019,1000022,1000049,1000050,1000051,1000052,1000053,1000062,2000151,2000152,2000217,2000247,2000248,2000249]
abbrev dR(a0:Lv)(a1:Lv)(a2:Lv)(a3:Lv)(a4:Lv)(a5:Int)(a6:Int)(a7:Int)(a8:Int)(a9:Int)(a10:Int)(a11:Int)(a12:Int)(a13:Int)(a14:Int)(a15:Bool)(a16:Lv)(a17:Int)(a18:Lv)(b0:Lv)(b1:Lv)(b2:Lv)(b3:Lv)(b4:Lv)(b5:Int)(b6:Int)(b7:Int)(b8:Int)(b9:Int)(b10:Int)(b11:Int)(b12:Int)(b13:Int)(b14:Int)(b15:Bool)(b16:Lv)(b17:Int)(b18:Lv):Lv:=((([]:Lv)++[[(AV.sl (.cons .int (.cons (.sl (.cons .int (.cons .int (.cons .int .nil)))) .nil)) a0),(AV.sl (.cons .int (.cons .int (.cons .int (.cons .int (.cons .int .nil))))) a1),(AV.sl (.cons .int (.cons .int .nil)) a2),(AV.sl (.cons .int .nil) a3),(AV.sl (.cons .int .nil) a4),(AV.int a5),(AV.int a6),(AV.int a7),(AV.int a8),(AV.int a9),(AV.int a10),(AV.int a11),(AV.int a12),(AV.int a13),(AV.int a14),(AV.bool a15),(AV.sl (.cons .int (.cons .int (.cons .int .nil))) a16),(AV.int a17),(AV.sl (.cons .int (.cons .int (.cons .int .nil))) a18)]])++[[(AV.sl (.cons .int (.cons (.sl (.cons .int (.cons .int (.cons .int .nil)))) .nil)) b0),(AV.sl (.cons .int (.cons .int (.cons .int (.cons .int (.cons .int .nil))))) b1),(AV.sl (.cons .int (.cons .int .nil)) b2),(AV.sl (.cons .int .nil) b3),(AV.sl (.cons .int .nil) b4),(AV.int b5),(AV.int b6),(AV.int b7),(AV.int b8),(AV.int b9),(AV.int b10),(AV.int b11),(AV.int b12),(AV.int b13),(AV.int b14),(AV.bool b15),(AV.sl (.cons .int (.cons .int (.cons .int .nil))) b16),(AV.int b17),(AV.sl (.cons .int (.cons .int (.cons .int .nil))) b18)]])
abbrev e9{β:Type}(L:Lv)(i:Int)(f:Lv->Lv->Lv->Lv->Lv->Int->Int->Int->Int->Int->Int->Int->Int->Int->Int->Bool->Lv->Int->Lv->β):β:=f (cL L i 0) (cL L i 1) (cL L i 2) (cL L i 3) (cL L i 4) (cI L i 5) (cI L i 6) (cI L i 7) (cI L i 8) (cI L i 9) (cI L i 10) (cI L i 11) (cI L i 12) (cI L i 13) (cI L i 14) (cB L i 15) (cL L i 16) (cI L i 17) (cL L i 18)
abbrev bf(c0:Int)(c1:Int)(c2:Int)(c3:Int)(c4:Int)(c5:Int)(c6:Int)(c7:Int)(c8:Int):Lv:=(((([]:Lv)++[[(AV.int c0),(AV.int c1),(AV.int c2)]])++[[(AV.int (10+c3)),(AV.int c4),(AV.int c5)]])++[[(AV.int (10+c6)),(AV.int c7),(AV.int c8)]])
abbrev dx(l:Lv)(a b c:Int):Lv:=((l++[[(AV.int a),(AV.int (10+b)),(AV.int 0),(AV.sl (.cons .int .nil) ([]:Lv)),(AV.sl (.cons .int .nil) ([]:Lv)),(AV.sl (.cons .int (.cons .int .nil)) ([]:Lv)),(AV.int 0)]])++[[(AV.int 7),(AV.int 0),(AV.int 0),(AV.sl (.cons .int .nil) ([]:Lv)),(AV.sl (.cons .int .nil) ([]:Lv)),(AV.sl (.cons .int (.cons .int .nil)) ([]:Lv)),(AV.int c)]])
abbrev aj:=Bool
abbrev ap:=Int
abbrev ck:=Lv×Int
def bc(n:Nat)(θ:ap->Option aj)(δ:ap->Option aj)(ε:ap->Option aj)(g h i:Int)(q r s t u:Lv)(v w x y z A B C D E:Int)(F:Bool)(G:Lv)(H:Int)(I:Lv)(j k l m o p:Int)(J K L M N:Lv)(O P Q R S T U V W X:Int)(Y:Bool)(Z:Lv)(α:Int)(β:Lv)(γ:Int)(b:Lv)(c d e f a:Int):Option aj:=
 (bif a<(((b.length:Int)+1)+1) then bif 0<=a then(e9 (dR q r s t u v w x y z A B C D E F G H I J K L M N O P Q R S T U V W X Y Z α β) γ (eQ n) (cI (bf g h i j k l m o p) f 0) (cI (bf g h i j k l m o p) f 1) (cI (bf g h i j k l m o p) f 2) (cI (dx b c d e) a 0) (cI (dx b c d e) a 1) (cI (dx b c d e) a 2) (cL (dx b c d e) a 3) (cL (dx b c d e) a 4) (cL (dx b c d e) a 5) (cI (dx b c d e) a 6)).bind fun ζ=>
 (e9 (dR q r s t u v w x y z A B C D E F G H I J K L M N O P Q R S T U V W X Y Z α β) γ (oN n) (cI (bf g h i j k l m o p) f 0) (cI (bf g h i j k l m o p) f 1) (cI (bf g h i j k l m o p) f 2) (cI (dx b c d e) a 0) (cI (dx b c d e) a 1) (cI (dx b c d e) a 2) (cL (dx b c d e) a 3) (cL (dx b c d e) a 4) (cL (dx b c d e) a 5) (cI (dx b c d e) a 6)).bind fun η=>
 (bif(!(ζ==η))then some false else bif(-9223372036854775808<=(a+1))&&((a+1)<=9223372036854775807)then ε (a+1)else none)else none else bif(-9223372036854775808<=(f+1))&&((f+1)<=9223372036854775807)then δ (f+1)else none)
def bb(n:Nat)(Q:ap->Option aj)(R:ap->Option aj)(S T U:Int)(b c d e f:Lv)(g h i j k l m o p q:Int)(r:Bool)(t:Lv)(u:Int)(v:Lv)(V W X Y Z α:Int)(w x y z A:Lv)(B C D E F G H I J K:Int)(L:Bool)(M:Lv)(N:Int)(O:Lv)(a:Int)(β:Lv)(γ δ ε P:Int):Option aj:=
 (bif P<3 then bif 0<=P then(ab (fun ζ s=>bc n Q R ζ S T U b c d e f g h i j k l m o p q r t u v V W X Y Z α w x y z A B C D E F G H I J K L M N O a β γ δ ε P s) n (0:ap))else none else(e9 (dR b c d e f g h i j k l m o p q r t u v w x y z A B C D E F G H I J K L M N O) a (eV n)).bind fun η=>
 (e9 (dR b c d e f g h i j k l m o p q r t u v w x y z A B C D E F G H I J K L M N O) a (lc n)).bind fun θ=>
 (bif(!(η==θ))then some false else bif(-9223372036854775808<=(a+1))&&((a+1)<=9223372036854775807)then Q (a+1)else none))
def be(n:Nat)(ν:ap->Option aj)(ζ:ck->Option aj)(c d e ι η ξ:Int)(q r t u v:Lv)(w x y z A B C D E F:Int)(G:Bool)(H:Lv)(I:Int)(J:Lv)(f g h i j k:Int)(K L M N O:Lv)(P Q R S T U V W X Y:Int)(Z:Bool)(α:Lv)(β:Int)(γ:Lv)(δ:Int)(ε:Lv)(b:Int):Option aj:=
 (bif b<3 then bif 0<=b then(e9 (dR q r t u v w x y z A B C D E F G H I J K L M N O P Q R S T U V W X Y Z α β γ) δ (d9 n) (cI (bf c d e f g h i j k) b 0) (cI (bf c d e f g h i j k) b 1) (cI (bf c d e f g h i j k) b 2)).bind fun m=>
 (e9 (dR q r t u v w x y z A B C D E F G H I J K L M N O P Q R S T U V W X Y Z α β γ) δ (iA n) (cI (bf c d e f g h i j k) b 0) (cI (bf c d e f g h i j k) b 1) (cI (bf c d e f g h i j k) b 2)).bind fun a=>
 (e9 (dR q r t u v w x y z A B C D E F G H I J K L M N O P Q R S T U V W X Y Z α β γ) δ (fJ n) (cI (bf c d e f g h i j k) b 0) (cI (bf c d e f g h i j k) b 1) (cI (bf c d e f g h i j k) b 2)).bind fun p=>
 (e9 (dR q r t u v w x y z A B C D E F G H I J K L M N O P Q R S T U V W X Y Z α β γ) δ (mR n) (cI (bf c d e f g h i j k) b 0) (cI (bf c d e f g h i j k) b 1) (cI (bf c d e f g h i j k) b 2)).bind fun l=>
 (bY n m.1 m.2.1 m.2.2.1 m.2.2.2.1 m.2.2.2.2.1 m.2.2.2.2.2.1 m.2.2.2.2.2.2.1 a.1 a.2.1 a.2.2.1 a.2.2.2.1 a.2.2.2.2.1 a.2.2.2.2.2.1 a.2.2.2.2.2.2.1).bind fun κ=>
 (bif(!κ)then some false else(bif(!(m.2.2.2.2.2.2.2.1==a.2.2.2.2.2.2.2.1))then some false else(bif !(m.2.2.2.2.2.2.2.2=a.2.2.2.2.2.2.2.2)then some false else(jm n p.1 p.2.1 p.2.2.1 p.2.2.2.1 p.2.2.2.2.1 p.2.2.2.2.2.1 l.1 l.2.1 l.2.2.1 l.2.2.2.1 l.2.2.2.2.1 l.2.2.2.2.2.1).bind fun μ=>
 (bif(!μ)then some false else(bif(!(p.2.2.2.2.2.2.1==l.2.2.2.2.2.2.1))then some false else(bif !(p.2.2.2.2.2.2.2=l.2.2.2.2.2.2.2)then some false else(hY n a.1 a.2.1 a.2.2.1 a.2.2.2.1 a.2.2.2.2.1 a.2.2.2.2.2.1 a.2.2.2.2.2.2.1 ι η ξ).bind fun o=>
 bif ((((ε.length:Int)+1)+1)*104)<=140737488355328 then bif(-9223372036854775808<=(b+1))&&((b+1)<=9223372036854775807)then ζ (((ε++[[(AV.int a.1),(AV.int a.2.1),(AV.int a.2.2.1),(AV.sl (.cons .int .nil) a.2.2.2.1),(AV.sl (.cons .int .nil) a.2.2.2.2.1),(AV.sl (.cons .int (.cons .int .nil)) a.2.2.2.2.2.1),(AV.int a.2.2.2.2.2.2.1)]])++[[(AV.int o.1),(AV.int o.2.1),(AV.int o.2.2.1),(AV.sl (.cons .int .nil) o.2.2.2.1),(AV.sl (.cons .int .nil) o.2.2.2.2.1),(AV.sl (.cons .int (.cons .int .nil)) o.2.2.2.2.2.1),(AV.int o.2.2.2.2.2.2)]]),(b+1))else none else none))))))else none else(dw n ι 9).bind fun m=>
 (dw n η 8).bind fun θ=>
 bif(-9223372036854775808<=(10+θ))&&((10+θ)<=9223372036854775807)then(dw n η 256).bind fun ο=>
 bif ((((ε.length:Int)+1)+1)*104)<=140737488355328 then(ab (fun ζ s=>bb n ν ζ c d e q r t u v w x y z A B C D E F G H I J f g h i j k K L M N O P Q R S T U V W X Y Z α β γ δ ε m θ ο s) n (0:ap))else none else none)
def bM(n:Nat)(b:ap->Option aj)(c d e f g h:Int)(i:Bool)(j k l m o:Lv)(p q r t u v w x y z:Int)(A:Bool)(B:Lv)(C:Int)(D:Lv)(E F G H I J:Int)(K L M N O:Lv)(P Q R S T U V W X Y:Int)(Z:Bool)(α:Lv)(β:Int)(γ:Lv)(a:Int):Option aj:=
 (bif a<2 then bif 0<=a then(ab (fun δ s=>be n b δ c d e f g h j k l m o p q r t u v w x y z A B C D E F G H I J K L M N O P Q R S T U V W X Y Z α β γ a s.1 s.2) n ((([]:Lv),0):ck))else none else some i)
def fV(n:Nat)(D E:Lv)(F:Int)(G H:Lv)(I J K L M j k l m o p:Int)(q r:Lv)(t u v g d h w x c:Int)(i:Bool):Option aj:=
 (bif(!i)then some false else(nr n D E F G H I J K L M j k l m o p q r).bind fun a=>
 (dw n g 9).bind fun e=>
 bif(-9223372036854775808<=(10+e))&&((10+e)<=9223372036854775807)then(dw n d 100).bind fun y=>
 (dw n h 8).bind fun z=>
 (dw n c 9).bind fun f=>
 bif(-9223372036854775808<=(10+f))&&((10+f)<=9223372036854775807)then(dw n d 100).bind fun A=>
 bif(-9223372036854775808<=(v8 c 8))&&((v8 c 8)<=9223372036854775807)then(dw n (v8 c 8) 8).bind fun B=>
 (qp n a.1 a.2.1 a.2.2.1 a.2.2.2.1 a.2.2.2.2.1 a.2.2.2.2.2.1 a.2.2.2.2.2.2.1 a.2.2.2.2.2.2.2.1 a.2.2.2.2.2.2.2.2.1 a.2.2.2.2.2.2.2.2.2.1 a.2.2.2.2.2.2.2.2.2.2.1 a.2.2.2.2.2.2.2.2.2.2.2.1 a.2.2.2.2.2.2.2.2.2.2.2.2.1 a.2.2.2.2.2.2.2.2.2.2.2.2.2.1 a.2.2.2.2.2.2.2.2.2.2.2.2.2.2.1 a.2.2.2.2.2.2.2.2.2.2.2.2.2.2.2.1 a.2.2.2.2.2.2.2.2.2.2.2.2.2.2.2.2.1 a.2.2.2.2.2.2.2.2.2.2.2.2.2.2.2.2.2.1 a.2.2.2.2.2.2.2.2.2.2.2.2.2.2.2.2.2.2 t u v).bind fun b=>
 (ab (fun C s=>bM n C g d h w x c i a.1 a.2.1 a.2.2.1 a.2.2.2.1 a.2.2.2.2.1 a.2.2.2.2.2.1 a.2.2.2.2.2.2.1 a.2.2.2.2.2.2.2.1 a.2.2.2.2.2.2.2.2.1 a.2.2.2.2.2.2.2.2.2.1 a.2.2.2.2.2.2.2.2.2.2.1 a.2.2.2.2.2.2.2.2.2.2.2.1 a.2.2.2.2.2.2.2.2.2.2.2.2.1 a.2.2.2.2.2.2.2.2.2.2.2.2.2.1 a.2.2.2.2.2.2.2.2.2.2.2.2.2.2.1 a.2.2.2.2.2.2.2.2.2.2.2.2.2.2.2.1 a.2.2.2.2.2.2.2.2.2.2.2.2.2.2.2.2.1 a.2.2.2.2.2.2.2.2.2.2.2.2.2.2.2.2.2.1 a.2.2.2.2.2.2.2.2.2.2.2.2.2.2.2.2.2.2 e y z f A B b.1 b.2.1 b.2.2.1 b.2.2.2.1 b.2.2.2.2.1 b.2.2.2.2.2.1 b.2.2.2.2.2.2.1 b.2.2.2.2.2.2.2.1 b.2.2.2.2.2.2.2.2.1 b.2.2.2.2.2.2.2.2.2.1 b.2.2.2.2.2.2.2.2.2.2.1 b.2.2.2.2.2.2.2.2.2.2.2.1 b.2.2.2.2.2.2.2.2.2.2.2.2.1 b.2.2.2.2.2.2.2.2.2.2.2.2.2.1 b.2.2.2.2.2.2.2.2.2.2.2.2.2.2.1 b.2.2.2.2.2.2.2.2.2.2.2.2.2.2.2.1 b.2.2.2.2.2.2.2.2.2.2.2.2.2.2.2.2.1 b.2.2.2.2.2.2.2.2.2.2.2.2.2.2.2.2.2.1 b.2.2.2.2.2.2.2.2.2.2.2.2.2.2.2.2.2.2 s) n (0:ap))else none else none else none)
def fW(n:Nat)(t u:Lv)(v:Int)(w x:Lv)(y z A B C a b c d e f:Int)(g h:Lv)(i j k l m o p q r:Int):Option aj:=
 (xg n ).bind fun s=>
 fV n t u v w x y z A B C a b c d e f g h i j k l m o p q r s
def dT(n:Nat)(s t:Lv)(u:Int)(v w:Lv)(x y z A B a b c d e f:Int)(g h:Lv)(i j k l m o p q r:Int):Option aj:=fW n s t u v w x y z A B a b c d e f g h i j k l m o p q r
def law28_RefusalMatchesReference_t:FnT:=⟨[(true,[(.sl (.cons tSc .nil)),(.sl (.cons .int (.cons .int (.cons .int (.cons .int (.cons .int .nil)))))),.int,tSa,tSa,.int,.int,.int,.int,.int,.int,.int,.int,.int,.int,.int,tSc,tSc]),(true,[.int,.int,.int]),(false,[.int]),(false,[.int]),(false,[.int]),(false,[.int]),(false,[.int]),(false,[.int])],.b,fun n (s:Lv×Lv×Int×Lv×Lv×Int×Int×Int×Int×Int×Int×Int×Int×Int×Int×Int×Lv×Lv×Int×Int×Int×Int×Int×Int×Int×Int×Int)=>dT n s.1 s.2.1 s.2.2.1 s.2.2.2.1 s.2.2.2.2.1 s.2.2.2.2.2.1 s.2.2.2.2.2.2.1 s.2.2.2.2.2.2.2.1 s.2.2.2.2.2.2.2.2.1 s.2.2.2.2.2.2.2.2.2.1 s.2.2.2.2.2.2.2.2.2.2.1 s.2.2.2.2.2.2.2.2.2.2.2.1 s.2.2.2.2.2.2.2.2.2.2.2.2.1 s.2.2.2.2.2.2.2.2.2.2.2.2.2.1 s.2.2.2.2.2.2.2.2.2.2.2.2.2.2.1 s.2.2.2.2.2.2.2.2.2.2.2.2.2.2.2.1 s.2.2.2.2.2.2.2.2.2.2.2.2.2.2.2.2.1 s.2.2.2.2.2.2.2.2.2.2.2.2.2.2.2.2.2.1 s.2.2.2.2.2.2.2.2.2.2.2.2.2.2.2.2.2.2.1 s.2.2.2.2.2.2.2.2.2.2.2.2.2.2.2.2.2.2.2.1 s.2.2.2.2.2.2.2.2.2.2.2.2.2.2.2.2.2.2.2.2.1 s.2.2.2.2.2.2.2.2.2.2.2.2.2.2.2.2.2.2.2.2.2.1 s.2.2.2.2.2.2.2.2.2.2.2.2.2.2.2.2.2.2.2.2.2.2.1 s.2.2.2.2.2.2.2.2.2.2.2.2.2.2.2.2.2.2.2.2.2.2.2.1 s.2.2.2.2.2.2.2.2.2.2.2.2.2.2.2.2.2.2.2.2.2.2.2.2.1 s.2.2.2.2.2.2.2.2.2.2.2.2.2.2.2.2.2.2.2.2.2.2.2.2.2.1 s.2.2.2.2.2.2.2.2.2.2.2.2.2.2.2.2.2.2.2.2.2.2.2.2.2.2⟩
theorem lV:law28_RefusalMatchesReference_t.ok Tryz.prog 3:=FnT.ok_of (cfg:=⟨[((3,7,13),.inv [(.tmp 78 .int)]),((3,11,16),.inv [(.tmprow 22 56 (.cons .int (.cons .int (.cons .int (.cons tSa (.cons tSa (.cons (.sl (.cons .int (.cons .int .nil))) (.cons .int .nil)))))))),(.tmp 84 .int)]),((3,23,20),.inv [(.tmp 190 .int)]),((3,26,23),.inv [(.tmp 39 .int)])],P8,[],aq⟩) az Dq ay (fun s fn hf=>by rw[Tryz.func3]at hf;cases hf;kernel_rfl) (fun n s=>by kernel_rfl)
end
end Go.Proofs.YtbfkkigbedmhgaaGreat
