/-
  Texts of this claim, joined (part 7).
-/
import Derived.Test.YtkgphkdlbjinmaaGreatDoorJT6
import Derived.Test.YtkgphkdlbjinmaaGreatDoorRows
import Derived.SevenTiedAt
import Derived.Lib.LaidTab
open List renaming getElem?_eq_getElem → M9, getD → Nb, length_append → Nc, range → Nd, append_cancel_left → Nf, prefix_append → Ng, getElem?_eq_none → Nk, getElem?_map → No, getElem_mem → Nq, append_nil → Nr, length_map → Ns, getElem?_append → Nt, getElem?_range → Nu, map_append → NA
open Int renaming tmod → Na, tdiv_eq_ediv_of_nonneg → Nm, tmod_eq_emod_of_nonneg → Nn, tdiv → Np, toNat_natCast → Nv, le_refl → Nw, ediv_le_self → Nz, ediv_nonneg → NB
open Bool renaming and_false → Nh, and_eq_true → Nx
open Nat renaming le_refl → Nl
open Option renaming getD_some → Ny
set_option linter.unusedVariables false
set_option linter.unusedSimpArgs false
set_option linter.unusedSectionVars false
set_option linter.constructorNameAsVariable false
set_option maxRecDepth 100000
namespace Go.Proofs.YtkgphkdlbjinmaaGreatDoor
open Go Go.Sx Go.Dial.Wire
noncomputable section
abbrev cw(x:List UInt8):List AV:=[AV.raw (ar x)]
theorem EG(x:List UInt8)(b:AV)(r:List AV):bY (cw x) (b::r)=(decide (0=b.i)&&(x==b.s)):=by
 show(decide ((AV.raw (ar x)).i=b.i)&&(((AV.raw (ar x)).s==b.s)&&true))=_
 rw[gu,Bool.and_true];rfl
theorem I5(x y:List UInt8)(e:Int):∀m:Lv,cb (cw x) (eA (cw y) (.raw (.int .u64 e)) m)=if x=y then e else cb (cw x) m:=by
 have hkk:bY (cw x) (cw y++[AV.raw (.int .u64 e)])=(x==y):=by
  show bY (cw x) (AV.raw (ar y)::[AV.raw (.int .u64 e)])=_
  rw[EG,gu];show(true&&_)=_
  rw[Bool.true_and]
 have hge:((cw y++[AV.raw (.int .u64 e)]).getD (cw x).length (.int 0)).num=e:=rfl
 intro m;induction m with
 |nil=>
  show(bif bY (cw x) (cw y++[AV.raw (.int .u64 e)])then((cw y++[AV.raw (.int .u64 e)]).getD (cw x).length (.int 0)).num else 0)=_
  rw[hkk,hge];by_cases h:x=y
  ·rw[if_pos h,show(x==y)=true from beq_iff_eq.2 h];rfl
  ·rw[if_neg h,show(x==y)=false from beq_eq_false_iff_ne.2 h];rfl
 | cons r l ih=>
  show cb (cw x) (bif bY (cw y) r then(cw y++[AV.raw (.int .u64 e)])::l else r::eA (cw y) (.raw (.int .u64 e)) l)=_
  cases hr:bY (cw y) r with
  | true=>
   show(bif bY (cw x) (cw y++[AV.raw (.int .u64 e)])then((cw y++[AV.raw (.int .u64 e)]).getD (cw x).length (.int 0)).num else cb (cw x) l)=_
   rw[hkk,hge];by_cases h:x=y
   ·rw[if_pos h,show(x==y)=true from beq_iff_eq.2 h];rfl
   ·rw[if_neg h,show(x==y)=false from beq_eq_false_iff_ne.2 h]
    show cb (cw x) l=(bif bY (cw x) r then _ else cb (cw x) l)
    have:bY (cw x) r=false:=by
     cases r with
     |nil=>rfl
     |cons b r=>
      rw[EG]at hr⊢
      rw[Nx]at hr;have e:=beq_iff_eq.1 hr.2;rw[<-e,show(x==y)=false from beq_eq_false_iff_ne.2 h,Nh]
    rw[this];rfl
  |false=>
   show(bif bY (cw x) r then _ else cb (cw x) (eA (cw y) (.raw (.int .u64 e)) l))=if x=y then e else(bif bY (cw x) r then _ else cb (cw x) l)
   rw[ih];by_cases h:x=y
   ·subst h;rw[if_pos rfl,if_pos rfl,hr];rfl
   ·rw[if_neg h,if_neg h]
theorem LB:((Nd 16).all fun m=>(Nd 4).all fun c=>decide (aa .or .u64 (m:Int) (aa .shl .u64 1 (c:Int))=((m ||| 2 ^ c:Nat):Int)))=true:=by kernel_rfl
theorem M3(m c:Nat)(hm:m<16)(hc:c<4):aa .or .u64 (m:Int) (aa .shl .u64 1 (c:Int))=((m ||| 2 ^ c:Nat):Int):=by
 have h:=List.all_eq_true.1 LB m (List.mem_range.2 hm);exact of_decide_eq_true (List.all_eq_true.1 h c (List.mem_range.2 hc))
def fJ(m:Nat):Nat:=m % 2+m / 2 % 2+m / 4 % 2+m / 8 % 2
def tzN(m:Nat):Nat:=if m % 2=1 then 0 else if m / 2 % 2=1 then 1 else if m / 4 % 2=1 then 2 else 3
def cP(m:Nat):Nat:=m &&& (m-1)
theorem Kw:((Nd 16).all fun m=>decide (lK 0 (m:Int)=some ((fJ m:Nat):Int)))=true:=by kernel_rfl
theorem LX(n m:Nat)(hm:m<16):ja n (m:Int)=some ((fJ m:Nat):Int):=
 of_decide_eq_true (List.all_eq_true.1 Kw m (List.mem_range.2 hm))
theorem Lx:((Nd 16).all fun m=>decide (m=0\/jg 0 (m:Int)=some ((tzN m:Nat):Int)))=true:=by kernel_rfl
theorem Mq(n m:Nat)(h0:m≠0)(hm:m<16):dB n (m:Int)=some ((tzN m:Nat):Int):=
 (of_decide_eq_true (List.all_eq_true.1 Lx m (List.mem_range.2 hm))).resolve_left h0
theorem Lf:((Nd 16).all fun m=>decide (m=0\/aa .and .u64 (m:Int) (aa .sub .u64 (m:Int) 1)=((cP m:Nat):Int)))=true:=by kernel_rfl
theorem MK(m:Nat)(h0:m≠0)(hm:m<16):aa .and .u64 (m:Int) (aa .sub .u64 (m:Int) 1)=((cP m:Nat):Int):=
 (of_decide_eq_true (List.all_eq_true.1 Lf m (List.mem_range.2 hm))).resolve_left h0
theorem JC:((Nd 16).all fun m=>decide (fJ m<3\/(m≠0/\cP m≠0/\cP (cP m)≠0/\cP m<16/\cP (cP m)<16/\tzN m<tzN (cP m)/\tzN (cP m)<tzN (cP (cP m))/\tzN (cP (cP m))<4)))=true:=by kernel_rfl
theorem GC(m:Nat)(h:¬fJ m<3)(hm:m<16):m≠0/\cP m≠0/\cP (cP m)≠0/\cP m<16/\cP (cP m)<16/\tzN m<tzN (cP m)/\tzN (cP m)<tzN (cP (cP m))/\tzN (cP (cP m))<4:=
 (of_decide_eq_true (List.all_eq_true.1 JC m (List.mem_range.2 hm))).resolve_left h
structure Vt where
 ca:Nat
 st:Nat
 v:List UInt8
structure Vt.ok (x:Vt):Prop where
 h1:x.ca<4
 h2:x.st<=1000
 h3:x.v.length=32
def Vt.row(nu:Int)(x:Vt):List AV:=rK (kC (x.ca:Int)) (x.ca:Int) nu (x.st:Int) x.v
theorem Vt.ok.vok{x:Vt}(h:x.ok){nu:Int}(hn:0<=nu/\nu<=99999999):Vok (x.ca:Int) nu (x.st:Int) x.v:=⟨by have:=h.h1;omega,hn,by have:=h.h2;omega,h.h3⟩
def bD(nu:Int)(P:List Vt):Lv:=P.map (Vt.row nu)
theorem ol(nu:Int)(P:List Vt):(bD nu P).length=P.length:=by simp[bD]
def jV(st:Nat)(v:List UInt8)(m:Nat)(x:Vt):Nat:=if x.st=st/\x.v=v then m ||| 2 ^ x.ca else m
def bG(st:Nat)(v:List UInt8)(P:List Vt):Nat:=P.foldl (jV st v) 0
theorem CG(st:Nat)(v:List UInt8)(A:List Vt)(x:Vt):bG st v (A++[x])=jV st v (bG st v A) x:=by simp[bG]
theorem Kv{st:Nat}{v:List UInt8}{m:Nat}{x:Vt}(hx:x.ok)(hm:m<16):jV st v m x<16:=by
 unfold jV;split
 ·have:2 ^ x.ca<2 ^ 4:=Nat.pow_lt_pow_right (by omega) hx.h1
  exact Nat.or_lt_two_pow (n:=4) hm this
 ·exact hm
theorem Cd(st:Nat)(v:List UInt8)(P:List Vt)(h:∀x∈P,x.ok):bG st v P<16:=by
 unfold bG;have:∀(P:List Vt) (m:Nat),(∀x∈P,x.ok)->m<16->P.foldl (jV st v) m<16:=by
  intro P;induction P with
  |nil=>intro m _ hm;exact hm
  |cons x P ih=>intro m hp hm;exact ih _ (fun y hy=>hp y (List.mem_cons_of_mem _ hy)) (Kv (hp x List.mem_cons_self) hm)
 exact this P 0 h (by omega)
theorem J0(nu:Int)(A B:List Vt)(x:Vt):(bD nu (A++x::B)).getD ((A.length:Int)).toNat []=x.row nu:=by
 rw[Nv];simp[bD,Nb]
def prL(nu st:Int)(v:List UInt8)(m:Nat):Lv:=((([]:Lv)++[rK (kC (tzN m:Nat)) ((tzN m:Nat):Int) nu st v])++[rK (kC (tzN (cP m):Nat)) ((tzN (cP m):Nat):Int) nu st v])++[rK (kC (tzN (cP (cP m)):Nat)) ((tzN (cP (cP m)):Nat):Int) nu st v]
theorem DR:Np (4-1) 3=1:=by decide
theorem Iq(n:Nat)(nu:Int)(st:Nat)(v:List UInt8)(P:List Vt)(m:Lv)(go:gd->Option c9)(hn:1000<=n)(hnu:0<=nu/\nu<=99999999)(hst:st<=1000)(hv:v.length=32)(hP:∀x∈P,x.ok)
  (hm:cb (cw v) m=((bG st v P:Nat):Int)):
  fd n go keysC nu (st:Int) v (bD nu P) (P.length:Int) m=some (if fJ (bG st v P)<3 then(([]:Lv),false)else(prL nu (st:Int) v (bG st v P),true)):=by
 have hM:=Cd st v P hP;unfold fd;rw[dF (by rw[ol];omega),hm,LX n _ hM]
 rw[bS];rw[eX,inn (by omega) (by omega),DR,inn (by omega) (by omega),inn (by omega) (by omega),inn (by omega) (by omega)]
 by_cases h3:fJ (bG st v P)<3
 ·rw[dT (p:=((fJ (bG st v P):Nat):Int)<2*1+1) (by omega),if_pos h3]
 ·rw[dF (p:=((fJ (bG st v P):Nat):Int)<2*1+1) (by omega),if_neg h3]
  obtain⟨z0,z1,z2,l1,l2,t1,t2,t3⟩:=GC _ h3 hM;have key:∀(go:lZ->Option c9) (q:Nat) (w:Lv),w.length<3->q≠0->q<16->tzN q<4 →
    nD n go keysC nu (st:Int) v w (q:Int)=go (w++[rK (kC (tzN q:Nat)) ((tzN q:Nat):Int) nu (st:Int) v],((cP q:Nat):Int)):=by
   intro go q w hw hq0 hq ht;unfold nD;rw[eX,DR,dT (by omega),Mq n q hq0 hq]
   rw[bS];rw[dT (p:=(0:Int)<=((tzN q:Nat):Int)) (by omega),dT (p:=((tzN q:Nat):Int)<4) (by omega),qQ _ (by omega),oJ n _ _ nu (st:Int) v _ hn (wX _) ⟨by omega,hnu,by omega,hv⟩]
   rw[bS];rw[dT (by omega),MK q hq0 hq]
   rfl
  obtain⟨k,hk⟩:∃k,n=k+4:=⟨n-4,by omega⟩
  conv=>lhs;arg 2;rw[hk]
  rw[ae];refine(key _ _ _ (by simp) z0 hM (by omega)).trans ?_
  rw[ae];refine(key _ _ _ (by simp) z1 l1 (by omega)).trans ?_
  rw[ae];refine(key _ _ _ (by simp) z2 l2 (by omega)).trans ?_
  rw[ae];rfl
theorem B0(n:Nat)(nu:Int)(st:Nat)(v:List UInt8)(P:List Vt)(hn:1000<=n)(hnu:0<=nu/\nu<=99999999)(hst:st<=1000)(hv:v.length=32)(hP:∀x∈P,x.ok)(hl:P.length<=60):
  ee n keysC nu (st:Int) v (bD nu P)=some (if fJ (bG st v P)<3 then(([]:Lv),false)else(prL nu (st:Int) v (bG st v P),true)):=by
 have loop:∀(B A:List Vt) (m:Lv) (f:Nat),B.length<f->A++B=P->(∀x,cb (cw x) m=((bG st x A:Nat):Int)) →
   af (fun go0 (s:gd)=>fd n go0 keysC nu (st:Int) v (bD nu P) s.1 s.2) f (((A.length:Int),m):gd)=some (if fJ (bG st v P)<3 then(([]:Lv),false)else(prL nu (st:Int) v (bG st v P),true)):=by
  intro B;induction B with
  |nil=>
   intro A m f hf hAB hm;obtain⟨f,rfl⟩:∃k,f=k+1:=⟨f-1,by omega⟩
   rw[Nr]at hAB;subst hAB;rw[ae];exact Iq n nu st v A m _ hn hnu hst hv hP (hm v)
  | cons x B ih=>
   intro A m f hf hAB hm;obtain⟨f,rfl⟩:∃k,f=k+1:=⟨f-1,by omega⟩
   have hx:x.ok:=hP x (by rw[<-hAB];simp)
   have hA:∀y∈A,y.ok:=fun y hy=>hP y (by rw[<-hAB];simp[hy])
   have hlen:P.length=A.length+B.length+1:=by rw[<-hAB];simp;omega
   have row:(bD nu P).getD ((A.length:Int)).toNat []=x.row nu:=by rw[<-hAB];exact J0 nu A B x
   have c0:cI (bD nu P) (A.length:Int) 0=(x.ca:Int):=by
    show AV.i (((bD nu P).getD ((A.length:Int)).toNat []).getD 0 (.int 0))=_
    rw[row];rfl
   have c1:cI (bD nu P) (A.length:Int) 1=nu:=by
    show AV.i (((bD nu P).getD ((A.length:Int)).toNat []).getD 1 (.int 0))=_
    rw[row];rfl
   have c2:cI (bD nu P) (A.length:Int) 2=(x.st:Int):=by
    show AV.i (((bD nu P).getD ((A.length:Int)).toNat []).getD 2 (.int 0))=_
    rw[row];rfl
   have c3:cS (bD nu P) (A.length:Int) 3=x.v:=by
    show AV.s (((bD nu P).getD ((A.length:Int)).toNat []).getD 3 (.int 0))=_
    rw[row];exact gu _
   have c4:cS (bD nu P) (A.length:Int) 4=db (kC (x.ca:Int)) (lV (x.ca:Int) nu (x.st:Int) x.v):=by
    show AV.s (((bD nu P).getD ((A.length:Int)).toNat []).getD 4 (.int 0))=_
    rw[row];exact gu _
   have hx1:=hx.h1;rw[ae];show fd n _ keysC nu (st:Int) v (bD nu P) (A.length:Int) m=_
   unfold fd;rw[dT (by rw[ol];omega),dT (by omega),c0,c1,c2,c3,c4,oe n _ nu _ x.v hn (hx.vok hnu) (by omega)]
   rw[bS];have hlA:((A++[x]).length:Int)=(A.length:Int)+1:=by simp
   by_cases hs:x.st=st
   ·have hd:(decide (nu=nu)&&decide ((x.st:Int)=(st:Int)))=true:=by rw[decide_eq_true rfl,decide_eq_true (by omega)];rfl
    rw[bt,hd,bt,dT (by omega),inn (by omega) (by omega),hm x.v,M3 _ _ (Cd st x.v A hA) hx1]
    have:=ih (A++[x]) (eA (cw x.v) (AV.raw (.int .u64 ((bG st x.v A ||| 2 ^ x.ca:Nat):Int))) m) f (by simp at hf;omega) (by rw[<-hAB];simp) (fun y=>by
     rw[I5,CG];unfold jV;by_cases hy:y=x.v
     ·rw[if_pos hy,if_pos ⟨hs,hy.symm⟩,hy]
     ·rw[if_neg hy,if_neg (fun g=>hy g.2.symm),hm y])
    rw[hlA]at this;exact this
   ·have hd:(decide (nu=nu)&&decide ((x.st:Int)=(st:Int)))=false:=by rw[decide_eq_false (show ¬(x.st:Int)=(st:Int) by omega),Nh]
    rw[bt,hd,bf,inn (by omega) (by omega)]
    have:=ih (A++[x]) m f (by simp at hf;omega) (by rw[<-hAB];simp) (fun y=>by
     rw[CG];unfold jV;rw[if_neg (fun g=>hs g.1),hm y])
    rw[hlA]at this;exact this
 show np n keysC nu (st:Int) v (bD nu P)=_
 unfold np;rw[tA n (by omega)]
 rw[bS];rw[bt,nT (by rw[ol];omega)]
 exact loop P [] [] n (by omega) rfl (fun x=>rfl)
theorem BS(n:Nat)(nu:Int)(st:Nat)(v:List UInt8)(m:Nat)(hn:1000<=n)(hnu:0<=nu/\nu<=99999999)(hst:st<=1000)(hv:v.length=32)(hm:m<16)(h3:¬fJ m<3):
  gP n keysC nu (st:Int) v (prL nu (st:Int) v m)=some true:=by
 obtain⟨z0,z1,z2,l1,l2,t1,t2,t3⟩:=GC _ h3 hm;have hlen:((prL nu (st:Int) v m).length:Int)=3:=rfl
 have key:∀(go:mI->Option gC) (i t:Int) (q:Nat),(0<=i/\i<3)->q<4->t<(q:Int)->(prL nu (st:Int) v m).getD i.toNat []=rK (kC (q:Int)) (q:Int) nu (st:Int) v →
   gA n go keysC nu (st:Int) v (prL nu (st:Int) v m) i t=go (i+1,(q:Int)):=by
  intro go i t q hi hq ht row;have c0:cI (prL nu (st:Int) v m) i 0=(q:Int):=by
   show AV.i (((prL nu (st:Int) v m).getD i.toNat []).getD 0 (.int 0))=_
   rw[row];rfl
  have c1:cI (prL nu (st:Int) v m) i 1=nu:=by
   show AV.i (((prL nu (st:Int) v m).getD i.toNat []).getD 1 (.int 0))=_
   rw[row];rfl
  have c2:cI (prL nu (st:Int) v m) i 2=(st:Int):=by
   show AV.i (((prL nu (st:Int) v m).getD i.toNat []).getD 2 (.int 0))=_
   rw[row];rfl
  have c3:cS (prL nu (st:Int) v m) i 3=v:=by
   show AV.s (((prL nu (st:Int) v m).getD i.toNat []).getD 3 (.int 0))=_
   rw[row];exact gu _
  have c4:cS (prL nu (st:Int) v m) i 4=db (kC (q:Int)) (lV (q:Int) nu (st:Int) v):=by
   show AV.s (((prL nu (st:Int) v m).getD i.toNat []).getD 4 (.int 0))=_
   rw[row];exact gu _
  unfold gA;rw[hlen,dT (by omega),dT (by omega),c0,c1,c2,c3,c4,dF (by omega)]
  have hd:(decide (nu=nu)&&decide ((st:Int)=(st:Int)))=true:=by rw[decide_eq_true rfl,decide_eq_true rfl];rfl
  rw[hd,bnt,show(v==v)=true from beq_iff_eq.2 rfl,bnt,oe n _ nu _ v hn ⟨by omega,hnu,by omega,hv⟩ (by omega)]
  rw[bS];rw[bnt,inn (by omega) (by omega)]
 obtain⟨k,hk⟩:∃k,n=k+4:=⟨n-4,by omega⟩
 show mY n keysC nu (st:Int) v (prL nu (st:Int) v m)=_
 unfold mY;rw[tA n (by omega)]
 rw[bS];rw[bnt,eX,inn (by omega) (by omega),DR,inn (by omega) (by omega),inn (by omega) (by omega),inn (by omega) (by omega),hlen,nT (by omega)]
 conv=>lhs;arg 2;rw[hk]
 rw[ae];refine(key _ 0 (-1) _ (by omega) (by omega) (by omega) rfl).trans ?_
 rw[ae];refine(key _ (0+1) _ _ (by omega) (by omega) (by omega) rfl).trans ?_
 rw[ae];refine(key _ (0+1+1) _ _ (by omega) t3 (by omega) rfl).trans ?_
 rw[ae];show gA n _ keysC nu (st:Int) v (prL nu (st:Int) v m) 3 _=_
 unfold gA;rw[hlen,dF (by omega)]
end
end Go.Proofs.YtkgphkdlbjinmaaGreatDoor
namespace Go.Proofs.YtkgphkdlbjinmaaGreatDoor
open Go Go.Sx
noncomputable section
def BU:List Nat:=[68,87,88,129,137,2000291,3000170]
abbrev jc:=List UInt8
abbrev qO:=List UInt8×Int
def zW(n:Nat)(go0:qO->Option jc)(v0 v1 v2:Int)(v3 v5:List UInt8)(v6:Int):Option jc:=
 (bif v6<4 then bif 0<=v6 then(fw n (cI ((((([]:Lv)++[[(AV.int 5)]])++[[(AV.int v0)]])++[[(AV.int v1)]])++[[(AV.int v2)]]) v6 0)).bind fun y7=>
 bif ((v5.length:Int)+(y7.1.length:Int))<=9223372036854775807 then bif(-9223372036854775808<=(v6+1))&&((v6+1)<=9223372036854775807)then go0 ((v5++y7.1),(v6+1))else none else none else none else bif ((v5.length:Int)+(v3.length:Int))<=9223372036854775807 then some (v5++v3)else none)
def AZ(n:Nat)(v0 v1 v2:Int)(v3:List UInt8):Option jc:=
 (af (fun go0 s=>zW n go0 v0 v1 v2 v3 s.1 s.2) n ((([]:List UInt8),0):qO))
def oz(n:Nat)(v0 v1 v2:Int)(v3 v4:List UInt8):Option jc:=AZ n v0 v1 v2 v3
def ref19_Content_t:FnT:=⟨[(true,[.int,.int,.int,.str,.str])],.st,fun n (s:Int×Int×Int×List UInt8×List UInt8)=>oz n s.1 s.2.1 s.2.2.1 s.2.2.2.1 s.2.2.2.2⟩
theorem yJ:ref19_Content_t.ok Tryz.prog 87:=FnT.ok_of (cfg:=⟨[((87,3,2),.inv [(.tmp 3 .str),(.tmp 18 .int)])],BU,[],az⟩) aT rZ be (fun s fn hf=>by rw[Tryz.func87]at hf;cases hf;kernel_rfl) (fun n s=>by kernel_rfl)
def ref19_Content_T:Tab:=(87,ref19_Content_t)::title_With_T
theorem ot:ref19_Content_T.ok Tryz.prog:=Tab.ok_cons yJ rZ
abbrev jf:=Bool
abbrev gZ:=Int
def mv(n:Nat)(go0:gZ->Option jf)(v0:Lv)(v1 v2 v3:Int)(v4 v5:List UInt8)(v6:Int):Option jf:=
 (bif v6<(v0.length:Int) then bif 0<=v6 then(bif !(((cS v0 v6 0).length:Int)=32)then some false else bif(-9223372036854775808<=(v6+1))&&((v6+1)<=9223372036854775807)then go0 (v6+1)else none)else none else(bif 0<=v1 then(bif v1<=7 then(bif 0<=v2 then(bif v2<=99999999 then(bif 0<=v3 then(bif v3<=1000 then(bif (v4.length:Int)=32 then(bif (v5.length:Int)=32 then(bif v1<(v0.length:Int) then(oz n v1 v2 v3 v4 v5).bind fun y7=>
 (ip n y7).bind fun y8=>
 (mg n (cS v0 v1 0) y8).bind fun y9=>
 some (v5==y9)else some false)else some false)else some false)else some false)else some false)else some false)else some false)else some false)else some false))
abbrev AO:= @mv
abbrev Bo:= @mv
def zY(n:Nat)(v0:Lv)(v1 v2 v3:Int)(v4 v5:List UInt8):Option jf:=
 (bif !((v0.length:Int)=1)then(bif !((v0.length:Int)=4)then(bif !((v0.length:Int)=7)then some false else(af (fun go0 s=>mv n go0 v0 v1 v2 v3 v4 v5 s) n (0:gZ)))else(af (fun go0 s=>AO n go0 v0 v1 v2 v3 v4 v5 s) n (0:gZ)))else(af (fun go0 s=>Bo n go0 v0 v1 v2 v3 v4 v5 s) n (0:gZ)))
def vu(n:Nat)(v0:Lv)(v1 v2 v3:Int)(v4 v5:List UInt8):Option jf:=zY n v0 v1 v2 v3 v4 v5
def ref19_Genuine_t:FnT:=⟨[(true,[(.sl (.cons .str .nil))]),(true,[.int,.int,.int,.str,.str])],.b,fun n (s:Lv×Int×Int×Int×List UInt8×List UInt8)=>vu n s.1 s.2.1 s.2.2.1 s.2.2.2.1 s.2.2.2.2.1 s.2.2.2.2.2⟩
theorem yU:ref19_Genuine_t.ok Tryz.prog 86:=FnT.ok_of (cfg:=⟨[((131,5,3),.inv [(.tmp 4 .int)])],BU,[],az⟩) aT ot be (fun s fn hf=>by rw[Tryz.func86]at hf;cases hf;kernel_rfl) (fun n s=>by kernel_rfl)
def ref19_Genuine_T:Tab:=(86,ref19_Genuine_t)::ref19_Content_T
theorem nX:ref19_Genuine_T.ok Tryz.prog:=Tab.ok_cons yU ot
abbrev bK:=Bool
abbrev bl:=Int
abbrev gw:=Lv×Int
def b8(n:Nat)(go0:bl->Option bK)(go1:bl->Option bK)(v0 v1 v2:Lv)(v4:Int)(v5:List UInt8)(v6:Int):Option bK:=
 (bif v6<(v1.length:Int) then bif 0<=v6 then(bif(!((cS v0 v4 0)==(cS v1 v6 0)))then bif v6<(v2.length:Int) then(bif(v5==(cS v2 v6 0))then some true else bif(-9223372036854775808<=(v6+1))&&((v6+1)<=9223372036854775807)then go1 (v6+1)else none)else none else bif(-9223372036854775808<=(v6+1))&&((v6+1)<=9223372036854775807)then go1 (v6+1)else none)else none else bif(-9223372036854775808<=(v4+1))&&((v4+1)<=9223372036854775807)then go0 (v4+1)else none)
def c7(n:Nat)(go0:bl->Option bK)(v0 v1 v2:Lv)(v4:Int):Option bK:=
 (bif v4<(v0.length:Int) then bif 0<=v4 then(jt n (cS v0 v4 0)).bind fun y5=>
 (af (fun go1 s=>b8 n go0 go1 v0 v1 v2 v4 y5 s) n (0:bl))else none else some false)
def dR(n:Nat)(go0:gw->Option bK)(v0 v1 v2:Lv)(v3:Int):Option bK:=
 (bif v3<(v1.length:Int) then bif 0<=v3 then(jt n (cS v1 v3 0)).bind fun y4=>
 bif (((v2.length:Int)+1)*16)<=140737488355328 then bif(-9223372036854775808<=(v3+1))&&((v3+1)<=9223372036854775807)then go0 ((v2++[[(AV.raw (ar y4))]]),(v3+1))else none else none else none else(af (fun go0 s=>c7 n go0 v0 v1 v2 s) n (0:bl)))
def qT(n:Nat)(v0 v1:Lv):Option bK:=
 (af (fun go0 s=>dR n go0 v0 v1 s.1 s.2) n ((([]:Lv),0):gw))
def m5(n:Nat)(v0 v1:Lv):Option bK:=qT n v0 v1
def ref02_Collided_t:FnT:=⟨[(false,[(.sl (.cons .str .nil))]),(false,[(.sl (.cons .str .nil))])],.b,fun n (s:Lv×Lv)=>m5 n s.1 s.2⟩
theorem xV:ref02_Collided_t.ok Tryz.prog 42:=FnT.ok_of (cfg:=⟨[((42,3,0),.inv [(.tmprow 5 9 (.cons .str .nil)),(.tmp 6 .int)]),((42,7,2),.inv [(.tmp 7 .int)]),((42,11,3),.inv [(.tmp 9 .int)])],BU,[],az⟩) aT nX be (fun s fn hf=>by rw[Tryz.func42]at hf;cases hf;kernel_rfl) (fun n s=>by kernel_rfl)
def ref02_Collided_T:Tab:=(42,ref02_Collided_t)::ref19_Genuine_T
theorem vG:ref02_Collided_T.ok Tryz.prog:=Tab.ok_cons xV nX
end
def wk(_n:Nat)(_v0:Int)(_v1:Lv)(_v2:Int):Option (List UInt8):=none
def ref20_value0_t:FnT:=⟨[(true,[.int,(.sl (.cons .int (.cons .int (.cons (.sl (.cons .int (.cons .int (.cons .int (.cons .str (.cons .str .nil)))))) .nil))))]),(false,[.int])],.st,fun n (s:Int×Lv×Int)=>wk n s.1 s.2.1 s.2.2⟩
theorem A4:ref20_value0_t.ok Tryz.prog 130:=fun n s z hz=>by cases(show(none:Option (List UInt8))=some z from hz)
def ref20_value0_T:Tab:=(130,ref20_value0_t)::ref02_Collided_T
theorem pm:ref20_value0_T.ok Tryz.prog:=Tab.ok_cons A4 vG
noncomputable section
def EL:List Nat:=[129,130,2000291,3000170]
abbrev fC:=List UInt8
abbrev ka:=List UInt8×Int
def dQ(n:Nat)(go0:ka->Option fC)(v0:Int)(v1:Lv)(v2:Int)(v3:List UInt8)(v4:Int):Option fC:=
 (bif v4<5 then bif 0<=v4 then(fw n (cI (((((([]:Lv)++[[(AV.int 6)]])++[[(AV.int v0)]])++[[(AV.int v2)]])++[[(AV.int (cI v1 v2 0))]])++[[(AV.int (cI v1 v2 1))]]) v4 0)).bind fun y5=>
 bif ((v3.length:Int)+(y5.1.length:Int))<=9223372036854775807 then bif(-9223372036854775808<=(v4+1))&&((v4+1)<=9223372036854775807)then go0 ((v3++y5.1),(v4+1))else none else none else none else(bif 0<v2 then bif(-9223372036854775808<=(v2-1))&&((v2-1)<=9223372036854775807)then(wk n v0 v1 (v2-1)).bind fun y5=>
 bif ((v3.length:Int)+(y5.length:Int))<=9223372036854775807 then some (v3++y5)else none else none else some v3))
def lf(n:Nat)(v0:Int)(v1:Lv)(v2:Int):Option fC:=
 bif 0<=v2 then bif v2<(v1.length:Int) then(af (fun go0 s=>dQ n go0 v0 v1 v2 s.1 s.2) n ((([]:List UInt8),0):ka))else none else none
def j5(n:Nat)(v0:Int)(v1:Lv)(v2:Int):Option fC:=lf n v0 v1 v2
def ref20_Content0_t:FnT:=⟨[(true,[.int,(.sl (.cons .int (.cons .int (.cons (.sl (.cons .int (.cons .int (.cons .int (.cons .str (.cons .str .nil)))))) .nil))))]),(false,[.int])],.st,fun n (s:Int×Lv×Int)=>j5 n s.1 s.2.1 s.2.2⟩
theorem xQ:ref20_Content0_t.ok Tryz.prog 84:=FnT.ok_of (cfg:=⟨[((84,4,2),.inv [(.tmp 6 .str),(.tmp 7 .int)])],EL,[],az⟩) aT pm be (fun s fn hf=>by rw[Tryz.func84]at hf;cases hf;kernel_rfl) (fun n s=>by kernel_rfl)
def ref20_Content0_T:Tab:=(84,ref20_Content0_t)::ref20_value0_T
theorem mS:ref20_Content0_T.ok Tryz.prog:=Tab.ok_cons xQ pm
def JG:List Nat:=[84,88,2000291,3000170]
abbrev tk:=List UInt8
def B1(n:Nat)(v0:Int)(v1:Lv)(v2:Int):Option tk:=
 (j5 n v0 v1 v2).bind fun y3=>
 (ip n y3).bind fun y4=>
 some y4
def qm(n:Nat)(v0:Int)(v1:Lv)(v2:Int):Option tk:=B1 n v0 v1 v2
def ref20_value1_t:FnT:=⟨[(true,[.int,(.sl (.cons .int (.cons .int (.cons (.sl (.cons .int (.cons .int (.cons .int (.cons .str (.cons .str .nil)))))) .nil))))]),(false,[.int])],.st,fun n (s:Int×Lv×Int)=>qm n s.1 s.2.1 s.2.2⟩
theorem Bf:ref20_value1_t.ok Tryz.prog 130:=FnT.ok_of (cfg:=⟨[],JG,[],az⟩) aT mS be (fun s fn hf=>by rw[Tryz.func130]at hf;cases hf;kernel_rfl) (fun n s=>by kernel_rfl)
def ref20_value1_T:Tab:=(130,ref20_value1_t)::ref20_Content0_T
theorem o8:ref20_value1_T.ok Tryz.prog:=Tab.ok_cons Bf mS
abbrev gf:=List UInt8
abbrev lc:=List UInt8×Int
def em(n:Nat)(go0:lc->Option gf)(v0:Int)(v1:Lv)(v2:Int)(v3:List UInt8)(v4:Int):Option gf:=
 (bif v4<5 then bif 0<=v4 then(fw n (cI (((((([]:Lv)++[[(AV.int 6)]])++[[(AV.int v0)]])++[[(AV.int v2)]])++[[(AV.int (cI v1 v2 0))]])++[[(AV.int (cI v1 v2 1))]]) v4 0)).bind fun y5=>
 bif ((v3.length:Int)+(y5.1.length:Int))<=9223372036854775807 then bif(-9223372036854775808<=(v4+1))&&((v4+1)<=9223372036854775807)then go0 ((v3++y5.1),(v4+1))else none else none else none else(bif 0<v2 then bif(-9223372036854775808<=(v2-1))&&((v2-1)<=9223372036854775807)then(qm n v0 v1 (v2-1)).bind fun y5=>
 bif ((v3.length:Int)+(y5.length:Int))<=9223372036854775807 then some (v3++y5)else none else none else some v3))
def lY(n:Nat)(v0:Int)(v1:Lv)(v2:Int):Option gf:=
 bif 0<=v2 then bif v2<(v1.length:Int) then(af (fun go0 s=>em n go0 v0 v1 v2 s.1 s.2) n ((([]:List UInt8),0):lc))else none else none
def oL(n:Nat)(v0:Int)(v1:Lv)(v2:Int):Option gf:=lY n v0 v1 v2
def ref20_Content_t:FnT:=⟨[(true,[.int,(.sl (.cons .int (.cons .int (.cons (.sl (.cons .int (.cons .int (.cons .int (.cons .str (.cons .str .nil)))))) .nil))))]),(false,[.int])],.st,fun n (s:Int×Lv×Int)=>oL n s.1 s.2.1 s.2.2⟩
theorem yx:ref20_Content_t.ok Tryz.prog 84:=FnT.ok_of (cfg:=⟨[((84,4,2),.inv [(.tmp 6 .str),(.tmp 7 .int)])],EL,[],az⟩) aT o8 be (fun s fn hf=>by rw[Tryz.func84]at hf;cases hf;kernel_rfl) (fun n s=>by kernel_rfl)
def ref20_Content_T:Tab:=(84,ref20_Content_t)::ref20_value1_T
theorem oh:ref20_Content_T.ok Tryz.prog:=Tab.ok_cons yx o8
def DN:List Nat:=[15,41,42,84,86,87,88,2000291,3000170]
abbrev dP:=Lv
abbrev dn:=Lv×Int
def nG(n:Nat)(go0:dn->Option dP)(go1:dn->Option dP)(v0 v2:Lv)(v4:Int)(v6:Lv)(v7:Int):Option dP:=
 bif 0<=v4 then(bif v7<((cL v2 v4 2).length:Int) then bif 0<=v7 then bif(-9223372036854775808<=((v0.length:Int)-1))&&(((v0.length:Int)-1)<=9223372036854775807)then(bif 0<=(cI (cL v2 v4 2) v7 0) then(bif (cI (cL v2 v4 2) v7 0)<=((v0.length:Int)-1) then(vu n v0 (cI (cL v2 v4 2) v7 0) (cI (cL v2 v4 2) v7 1) (cI (cL v2 v4 2) v7 2) (cS (cL v2 v4 2) v7 3) (cS (cL v2 v4 2) v7 4)).bind fun y8=>
 (bif y8 then(oz n (cI (cL v2 v4 2) v7 0) (cI (cL v2 v4 2) v7 1) (cI (cL v2 v4 2) v7 2) (cS (cL v2 v4 2) v7 3) (cS (cL v2 v4 2) v7 4)).bind fun y9=>
 bif (1+(y9.length:Int))<=9223372036854775807 then bif (cI (cL v2 v4 2) v7 0)<(v0.length:Int) then bif (1+((cS v0 (cI (cL v2 v4 2) v7 0) 0).length:Int))<=9223372036854775807 then(ip n y9).bind fun y10=>
 bif (((([1]:List UInt8)++(cS v0 (cI (cL v2 v4 2) v7 0) 0)).length:Int)+(y10.length:Int))<=9223372036854775807 then bif ((((v6.length:Int)+1)+1)*16)<=140737488355328 then bif(-9223372036854775808<=(v7+1))&&((v7+1)<=9223372036854775807)then go1 (((v6++[[(AV.raw (ar (([0]:List UInt8)++y9)))]])++[[(AV.raw (ar ((([1]:List UInt8)++(cS v0 (cI (cL v2 v4 2) v7 0) 0))++y10)))]]),(v7+1))else none else none else none else none else none else none else bif(-9223372036854775808<=(v7+1))&&((v7+1)<=9223372036854775807)then go1 (v6,(v7+1))else none)else bif(-9223372036854775808<=(v7+1))&&((v7+1)<=9223372036854775807)then go1 (v6,(v7+1))else none)else bif(-9223372036854775808<=(v7+1))&&((v7+1)<=9223372036854775807)then go1 (v6,(v7+1))else none)else none else none else bif(-9223372036854775808<=(v4+1))&&((v4+1)<=9223372036854775807)then go0 (v6,(v4+1))else none)else none
def fh(n:Nat)(go0:dn->Option dP)(v0:Lv)(v1:Int)(v2 v3:Lv)(v4:Int):Option dP:=
 (bif v4<(v2.length:Int) then(oL n v1 v2 v4).bind fun y5=>
 bif (1+(y5.length:Int))<=9223372036854775807 then bif (((v3.length:Int)+1)*16)<=140737488355328 then(af (fun go1 s=>nG n go0 go1 v0 v2 v4 s.1 s.2) n (((v3++[[(AV.raw (ar (([0]:List UInt8)++y5)))]]),0):dn))else none else none else some v3)
def tq(n:Nat)(v0:Lv)(v1:Int)(v2:Lv):Option dP:=
 (af (fun go0 s=>fh n go0 v0 v1 v2 s.1 s.2) n ((([]:Lv),0):dn))
def mr(n:Nat)(v0:Lv)(v1:Int)(v2:Lv):Option dP:=tq n v0 v1 v2
def ref20_Hashed_t:FnT:=⟨[(true,[(.sl (.cons .str .nil))]),(true,[.int,(.sl (.cons .int (.cons .int (.cons (.sl (.cons .int (.cons .int (.cons .int (.cons .str (.cons .str .nil)))))) .nil))))])],(.row 9 (.cons .str .nil)),fun n (s:Lv×Int×Lv)=>mr n s.1 s.2.1 s.2.2⟩
theorem A3:ref20_Hashed_t.ok Tryz.prog 41:=FnT.ok_of (cfg:=⟨[((41,3,2),.inv [(.tmprow 5 9 (.cons .str .nil)),(.tmp 6 .int)]),((41,7,6),.inv [(.tmprow 5 9 (.cons .str .nil)),(.tmp 7 .int)])],DN,[],az⟩) aT oh be (fun s fn hf=>by rw[Tryz.func41]at hf;cases hf;kernel_rfl) (fun n s=>by kernel_rfl)
def ref20_Hashed_T:Tab:=(41,ref20_Hashed_t)::ref20_Content_T
theorem pe:ref20_Hashed_T.ok Tryz.prog:=Tab.ok_cons A3 oh
abbrev tf:=Bool
def m0(n:Nat)(v0:Int)(v1:Lv)(v2:Int)(v3:Lv):Option tf:=
 (py n 0).bind fun y4=>
 (mr n y4 v0 v1).bind fun y5=>
 bif ((y5.length:Int)*16)<=140737488355328 then(mr n y4 v2 v3).bind fun y6=>
 bif (((y5++y6).length:Int)*16)<=140737488355328 then(m5 n (y5++y6) (y5++y6)).bind fun y7=>
 some y7 else none else none
def l5(n:Nat)(v0:Int)(v1:Lv)(v2:Int)(v3:Lv):Option tf:=m0 n v0 v1 v2 v3
def top_collided_t:FnT:=⟨[(true,[.int,(.sl (.cons .int (.cons .int (.cons (.sl (.cons .int (.cons .int (.cons .int (.cons .str (.cons .str .nil)))))) .nil))))]),(true,[.int,(.sl (.cons .int (.cons .int (.cons (.sl (.cons .int (.cons .int (.cons .int (.cons .str (.cons .str .nil)))))) .nil))))])],.b,fun n (s:Int×Lv×Int×Lv)=>l5 n s.1 s.2.1 s.2.2.1 s.2.2.2⟩
theorem Ag:top_collided_t.ok Tryz.prog 20:=FnT.ok_of (cfg:=⟨[],DN,[],az⟩) aT pe be (fun s fn hf=>by rw[Tryz.func20]at hf;cases hf;kernel_rfl) (fun n s=>by kernel_rfl)
def top_collided_T:Tab:=(20,top_collided_t)::ref20_Hashed_T
theorem pd:top_collided_T.ok Tryz.prog:=Tab.ok_cons Ag pe
end
open Go.Dial.Wire
noncomputable section
abbrev HT(s:List UInt8):List AV:=[AV.raw (ar s)]
def aM(Q:List (List UInt8)):Lv:=Q.map HT
theorem dv(Q:List (List UInt8)):(aM Q).length=Q.length:=by simp[aM]
theorem ny(Q:List (List UInt8))(i:Nat)(h:i<Q.length):cS (aM Q) (i:Int) 0=Q.getD i []:=by
 show AV.s (((aM Q).getD ((i:Int)).toNat []).getD 0 (.int 0))=_
 rw[Nv];simp only[aM,Nb,No,M9 h,Option.map_some,Ny];exact gu _
theorem Jc(n:Nat)(go0 go1:bl->Option bK)(Q:List (List UInt8))(i k:Nat)(v5:List UInt8)(hQ:Q.length<=1000)(hi:i<Q.length)(hk:k<Q.length):
  b8 n go0 go1 (aM Q) (aM Q) (aM (Q.map sha)) (i:Int) v5 (k:Int)=if Q.getD i []≠Q.getD k []/\v5=sha (Q.getD k [])then some true else go1 ((k:Int)+1):=by
 unfold b8;have e:cS (aM (Q.map sha)) (k:Int) 0=sha (Q.getD k []):=by
  rw[ny _ _ (by rw[Ns];exact hk)]
  simp[Nb,No,M9 hk]
 rw[dT (by rw[dv];omega),dT (by omega),ny Q i hi,ny Q k hk,e]
 by_cases h1:Q.getD i []=Q.getD k []
 ·rw[show(Q.getD i []==Q.getD k [])=true from beq_iff_eq.2 h1,bnt,inn (by omega) (by omega),if_neg (fun g=>g.1 h1)]
 ·rw[show(Q.getD i []==Q.getD k [])=false from beq_eq_false_iff_ne.2 h1,bnf,dT (by rw[dv,Ns];omega)]
  by_cases h2:v5=sha (Q.getD k [])
  ·rw[show(v5==sha (Q.getD k []))=true from beq_iff_eq.2 h2,bt,if_pos ⟨h1,h2⟩]
  ·rw[show(v5==sha (Q.getD k []))=false from beq_eq_false_iff_ne.2 h2,bf,inn (by omega) (by omega),if_neg (fun g=>h2 g.2)]
theorem Ak(n:Nat)(go0:bl->Option bK)(Q:List (List UInt8))(i:Nat)(hQ:Q.length<=1000)(hi:i<Q.length):
    ∀ (f k m:Nat),k+f=Q.length->f<m →
      (af (fun go1 (s:bl)=>b8 n go0 go1 (aM Q) (aM Q) (aM (Q.map sha)) (i:Int) (sha (Q.getD i [])) s) m (k:Int)=some true ∨
       af (fun go1 (s:bl)=>b8 n go0 go1 (aM Q) (aM Q) (aM (Q.map sha)) (i:Int) (sha (Q.getD i [])) s) m (k:Int)=go0 ((i:Int)+1)) ∧
      (∀j,k<=j->j<Q.length->Q.getD i []≠Q.getD j []->sha (Q.getD i [])=sha (Q.getD j []) →
       af (fun go1 (s:bl)=>b8 n go0 go1 (aM Q) (aM Q) (aM (Q.map sha)) (i:Int) (sha (Q.getD i [])) s) m (k:Int)=some true):=by
  intro f;induction f with
  | zero=>
    intro k m hk hm;obtain⟨m,rfl⟩:∃k,m=k+1:=⟨m-1,by omega⟩
    obtain rfl:k=Q.length:=by omega
    refine⟨.inr ?_,fun j h1 h2=>by omega⟩
    rw[ae];show b8 n go0 _ (aM Q) (aM Q) (aM (Q.map sha)) (i:Int) (sha (Q.getD i [])) (Q.length:Int)=_
    unfold b8;rw[dF (by rw[dv];omega),inn (by omega) (by omega)]
  | succ f ih=>
    intro k m hk hm;obtain⟨m,rfl⟩:∃k,m=k+1:=⟨m-1,by omega⟩
    obtain⟨a1,a2⟩:=ih (k+1) m (by omega) (by omega)
    have e:=Jc n go0 (af (fun go1 (s:bl)=>b8 n go0 go1 (aM Q) (aM Q) (aM (Q.map sha)) (i:Int) (sha (Q.getD i [])) s) m) Q i k (sha (Q.getD i [])) hQ hi (by omega)
    rw[ae];by_cases h:Q.getD i []≠Q.getD k []/\sha (Q.getD i [])=sha (Q.getD k [])
    · rw[if_pos h]at e
      exact⟨.inl e,fun _ _ _ _ _=>e⟩
    · rw[if_neg h]at e
      have ec:((k:Int)+1)=((k+1:Nat):Int):=rfl
      rw[ec]at e;refine⟨?_,fun j h1 h2 h3 h4=>?_⟩
      · rcases a1 with a1|a1
        . exact .inl (e.trans a1)
        . exact .inr (e.trans a1)
      · have:k≠j:=fun g=>h ⟨g▸h3,g▸h4⟩
        exact e.trans (a2 j (by omega) h2 h3 h4)
theorem zp(n:Nat)(Q:List (List UInt8))(i j:Nat)(hn:2000<=n)(hQ:Q.length<=1000)(hl:∀i,(Q.getD i []).length<=1000)(hi:i<Q.length)(hj:j<Q.length)
  (hne:Q.getD i []≠Q.getD j []) (he:sha (Q.getD i [])=sha (Q.getD j [])):m5 n (aM Q) (aM Q)=some true:=by
 have outer:∀(f k m:Nat),k+f=i->f<m->af (fun go0 (s:bl)=>c7 n go0 (aM Q) (aM Q) (aM (Q.map sha)) s) m (k:Int)=some true:=by
  intro f;induction f with
  |zero=>
   intro k m hk hm;obtain⟨m,rfl⟩:∃k,m=k+1:=⟨m-1,by omega⟩
   obtain rfl:k=i:=by omega
   rw[ae];show c7 n _ (aM Q) (aM Q) (aM (Q.map sha)) (k:Int)=_
   unfold c7;have:=hl k
   rw[dT (by rw[dv];omega),dT (by omega),ny Q k hi,iW n _ (by omega) (by omega)]
   rw[bS];exact(Ak n _ Q k hQ hi Q.length 0 n (by omega) (by omega)).2 j (by omega) hj hne he
  |succ f ih=>
   intro k m hk hm;obtain⟨m,rfl⟩:∃k,m=k+1:=⟨m-1,by omega⟩
   rw[ae];show c7 n _ (aM Q) (aM Q) (aM (Q.map sha)) (k:Int)=_
   unfold c7;have:=hl k
   rw[dT (by rw[dv];omega),dT (by omega),ny Q k (by omega),iW n _ (by omega) (by omega)]
   rw[bS];rcases(Ak n (af (fun go0 (s:bl)=>c7 n go0 (aM Q) (aM Q) (aM (Q.map sha)) s) m) Q k hQ (by omega) Q.length 0 n (by omega) (by omega)).1 with h|h
   ·exact h
   ·exact h.trans (ih (k+1) m (by omega) (by omega))
 have sums:∀(f k m:Nat),k+f=Q.length->f<m->af (fun go0 (s:gw)=>dR n go0 (aM Q) (aM Q) s.1 s.2) m ((aM ((Q.take k).map sha),(k:Int)):gw)=some true:=by
  intro f;induction f with
  |zero=>
   intro k m hk hm;obtain⟨m,rfl⟩:∃k,m=k+1:=⟨m-1,by omega⟩
   obtain rfl:k=Q.length:=by omega
   rw[ae];show dR n _ (aM Q) (aM Q) (aM ((Q.take Q.length).map sha)) (Q.length:Int)=_
   unfold dR;rw[dF (by rw[dv];omega),List.take_length]
   exact outer i 0 n (by omega) (by omega)
  | succ f ih=>
   intro k m hk hm;obtain⟨m,rfl⟩:∃k,m=k+1:=⟨m-1,by omega⟩
   have hk':k<Q.length:=by omega
   rw[ae];show dR n _ (aM Q) (aM Q) (aM ((Q.take k).map sha)) (k:Int)=_
   unfold dR;have:=hl k
   rw[dT (by rw[dv];omega),dT (by omega),ny Q k hk',iW n _ (by omega) (by omega)]
   rw[bS];rw[dT (by rw[dv,Ns,List.length_take];omega),inn (by omega) (by omega)]
   have e:=ih (k+1) m (by omega) (by omega)
   have et:aM ((Q.take (k+1)).map sha)=aM ((Q.take k).map sha)++[HT (sha (Q.getD k []))]:=by
    have e1:(Q.take (k+1)).map sha=(Q.take k).map sha++[sha (Q.getD k [])]:=by
     rw[List.take_add_one,NA,M9 hk'];simp only[Nb,M9 hk',Ny,Option.toList_some,List.map_cons,List.map_nil]
    rw[e1];unfold aM;rw[NA];rfl
   rw[et]at e;exact e
 show qT n (aM Q) (aM Q)=_
 exact sums Q.length 0 n (by omega) (by omega)
def gX(nu:Int)(ps:List (Int×Int))(k:Nat):List UInt8:=aX [6,nu,(k:Int),(pAt ps k).1,(pAt ps k).2]++ba nu ps k
theorem sy(nu:Int)(ps:List (Int×Int))(k:Nat):(gX nu ps k).length<=77:=by
 have hl:=jy [6,nu,(k:Int),(pAt ps k).1,(pAt ps k).2];have hl:(aX [6,nu,(k:Int),(pAt ps k).1,(pAt ps k).2]).length<=45:=hl
 have hv:=pZ nu ps k;unfold gX;rw[Nc];omega
theorem H1(n:Nat)(nu:Int)(ps:List (Int×Int))(S:Lv)(hn:1000<=n)(h:Fmd nu ps)(hS:Col S ps):j5 n nu S 0=some (gX nu ps 0):=by
 have hl:=h.hl;have hok:Ok62 [6,nu,0,(pAt ps 0).1,(pAt ps 0).2]:=h.ok 0 (by omega)
 show lf n nu S 0=_
 unfold lf;rw[dT (by omega),dT (by rw[hS.hl];omega)]
 have:=oi (α:=fC) (step:=fun go0 (s:ka)=>dQ n go0 nu S 0 s.1 s.2) [6,nu,0,(pAt ps 0).1,(pAt ps 0).2] some ?_ ?_ 5 0 n [] rfl (by omega) (by simp)
 ·refine Eq.trans this ?_
  show some (aX _)=some (aX _++[])
  rw[Nr];rfl
 ·intro go acc i hi ha
  have hi:i<5:=hi
  show dQ n go nu S 0 acc (i:Int)=_
  unfold dQ;obtain⟨b1,b2⟩:=hok.at i;have he:=cn ([6,nu,0,(pAt ps 0).1,(pAt ps 0).2].getD i 0);have c0:cI S 0 0=(pAt ps 0).1:=hS.h0 0 (by omega)
  have c1:cI S 0 1=(pAt ps 0).2:=hS.h1 0 (by omega)
  have e:cI (((((([]:Lv)++[[(AV.int 6)]])++[[(AV.int nu)]])++[[(AV.int 0)]])++[[(AV.int (pAt ps 0).1)]])++[[(AV.int (pAt ps 0).2)]]) (i:Int) 0=[6,nu,0,(pAt ps 0).1,(pAt ps 0).2].getD i 0:=nV [6,nu,0,(pAt ps 0).1,(pAt ps 0).2] i
  rw[dT (by omega),dT (by omega),c0,c1,e,jJ n _ (by omega) b1 b2]
  rw[bS];dsimp only;rw[dT (by omega),inn (by omega) (by omega)]
  rfl
 ·intro go acc ha
  show dQ n go nu S 0 acc (5:Int)=_
  unfold dQ;rw[dF (by omega),dF (by omega)]
theorem Jo(n:Nat)(nu:Int)(ps:List (Int×Int))(S:Lv)(k:Nat)(hn:1000<=n)(h:Fmd nu ps)(hS:Col S ps)(hk:k<ps.length):oL n nu S (k:Int)=some (gX nu ps k):=by
 have hl:=h.hl;have hok:=h.ok k hk;show lY n nu S (k:Int)=_
 unfold lY;rw[dT (by omega),dT (by rw[hS.hl];omega)]
 have:=oi (α:=gf) (step:=fun go0 (s:lc)=>em n go0 nu S (k:Int) s.1 s.2) [6,nu,(k:Int),(pAt ps k).1,(pAt ps k).2] (fun s=>some (s++ba nu ps k)) ?_ ?_ 5 0 n [] rfl (by omega) (by simp)
 ·exact this
 ·intro go acc i hi ha
  have hi:i<5:=hi
  show em n go nu S (k:Int) acc (i:Int)=_
  unfold em;obtain⟨b1,b2⟩:=hok.at i;have he:=cn ([6,nu,(k:Int),(pAt ps k).1,(pAt ps k).2].getD i 0);have e:cI (((((([]:Lv)++[[(AV.int 6)]])++[[(AV.int nu)]])++[[(AV.int (k:Int))]])++[[(AV.int (pAt ps k).1)]])++[[(AV.int (pAt ps k).2)]]) (i:Int) 0=[6,nu,(k:Int),(pAt ps k).1,(pAt ps k).2].getD i 0:=nV [6,nu,(k:Int),(pAt ps k).1,(pAt ps k).2] i
  rw[dT (by omega),dT (by omega),hS.h0 k hk,hS.h1 k hk,e,jJ n _ (by omega) b1 b2]
  rw[bS];dsimp only;rw[dT (by omega),inn (by omega) (by omega)]
  rfl
 ·intro go acc ha
  have ha:acc.length<=45:=ha
  show em n go nu S (k:Int) acc (5:Int)=_
  unfold em;rw[dF (by omega)]
  rcases k with _|k
  ·rw[dF (by omega)]
   show some acc=some (acc++[])
   rw[Nr]
  ·obtain rfl:k=0:=by omega
   have e0:=H1 n nu ps S hn h hS;have hc:=sy nu ps 0;have ev:qm n nu S 0=some (ba nu ps 1):=by
    show(j5 n nu S 0).bind _=_
    rw[e0];rw[bS];rw[rB n _ (by omega) (by omega)]
    rfl
   have e1:(((0+1:Nat):Int)-1)=0:=rfl
   rw[dT (by omega),inn (by omega) (by omega),e1,ev]
   rw[bS];rw[dT (by rw[iu];omega)]
def cq(nu:Int)(ps:List (Int×Int))(k:Nat):List (List UInt8):=(Nd k).map fun i=>[0]++gX nu ps i
theorem GZ(nu:Int)(ps:List (Int×Int))(k:Nat):cq nu ps (k+1)=cq nu ps k++[[0]++gX nu ps k]:=by
 simp[cq,List.range_succ]
theorem lk(nu:Int)(ps:List (Int×Int))(k:Nat):(cq nu ps k).length=k:=by simp[cq]
theorem E6(n:Nat)(nu:Int)(ps:List (Int×Int))(S:Lv)(hn:1000<=n)(h:Fmd nu ps)(hS:Col S ps)(hV:∀i:Nat,i<ps.length->cL S (i:Int) 2=[]):mr n keysC nu S=some (aM (cq nu ps ps.length)):=by
 have hl:=h.hl;have loop:∀(f i m:Nat),i+f=ps.length->f<m->af (fun go0 (s:dn)=>fh n go0 keysC nu S s.1 s.2) m ((aM (cq nu ps i),(i:Int)):dn)=some (aM (cq nu ps ps.length)):=by
  intro f;induction f with
  |zero=>
   intro i m hi hm;obtain⟨m,rfl⟩:∃k,m=k+1:=⟨m-1,by omega⟩
   obtain rfl:i=ps.length:=by omega
   rw[ae];show fh n _ keysC nu S (aM (cq nu ps ps.length)) (ps.length:Int)=_
   unfold fh;rw[dF (by rw[hS.hl];omega)]
  | succ f ih=>
   intro i m hi hm;obtain⟨m,rfl⟩:∃k,m=k+1:=⟨m-1,by omega⟩
   have hi':i<ps.length:=by omega
   have hc:=sy nu ps i;rw[ae];show fh n _ keysC nu S (aM (cq nu ps i)) (i:Int)=_
   unfold fh;rw[dT (by rw[hS.hl];omega),Jo n nu ps S i hn h hS hi']
   rw[bS];rw[dT (by omega),dT (by rw[dv,lk];omega)]
   obtain⟨k,hk⟩:∃k,n=k+1:=⟨n-1,by omega⟩
   have e:=ih (i+1) m (by omega) (by omega)
   have et:aM (cq nu ps (i+1))=aM (cq nu ps i)++[HT ([0]++gX nu ps i)]:=by
    rw[GZ];simp[aM]
   rw[et]at e;conv=>lhs;arg 2;rw[hk]
   rw[ae];show nG n _ _ keysC S (i:Int) (aM (cq nu ps i)++[HT ([0]++gX nu ps i)]) 0=_
   unfold nG;rw[dT (by omega),hV i hi',dF (by decide),inn (by omega) (by omega)]
   exact e
 show tq n keysC nu S=_
 exact loop ps.length 0 n (by omega) (by omega)
theorem HY(n:Nat)(nu:Int)(ps qs:List (Int×Int))(S T:Lv)(hn:2000<=n)(h:Fmd nu ps)(hS:Col S ps)(hV:∀i:Nat,i<ps.length->cL S (i:Int) 2=[])(h':Fmd nu qs)(hT:Col T qs)(hW:∀i:Nat,i<qs.length->cL T (i:Int) 2=[])
  (k:Nat) (hk:k<ps.length) (hk':k<qs.length) (hne:gX nu ps k≠gX nu qs k) (he:ba nu ps (k+1)=ba nu qs (k+1)):l5 n nu S nu T=some true:=by
 have hl:=h.hl;have hl':=h'.hl;show m0 n nu S nu T=_
 unfold m0;rw[wR n (by omega)]
 rw[bS];rw[E6 n nu ps S (by omega) h hS hV]
 rw[bS];rw[dT (by rw[dv,lk];omega),E6 n nu qs T (by omega) h' hT hW]
 rw[bS];rw[dT (by rw[Nc,dv,dv,lk,lk];omega)]
 have ea:aM (cq nu ps ps.length)++aM (cq nu qs qs.length)=aM (cq nu ps ps.length++cq nu qs qs.length):=by simp[aM]
 have g1:(cq nu ps ps.length++cq nu qs qs.length).getD k []=[0]++gX nu ps k:=by
  simp[Nb,cq,Nt,hk,Nu hk]
 have g2:(cq nu ps ps.length++cq nu qs qs.length).getD (ps.length+k) []=[0]++gX nu qs k:=by
  simp[Nb,cq,Nt,hk',Nu hk']
 have hlen:(cq nu ps ps.length++cq nu qs qs.length).length=ps.length+qs.length:=by rw[Nc,lk,lk]
 rw [ea,zp n _ k (ps.length+k) hn (by omega) (fun i=>by
  by_cases hi:i<ps.length+qs.length
  ·have hm:(cq nu ps ps.length++cq nu qs qs.length).getD i []∈cq nu ps ps.length++cq nu qs qs.length:=by
    simp only[Nb];rw[M9 (by omega)]
    exact Nq _
   rcases List.mem_append.1 hm with hm|hm
   ·obtain⟨j,_,ej⟩:=List.mem_map.1 hm
    rw[<-ej];have:=sy nu ps j
    simp;omega
   ·obtain⟨j,_,ej⟩:=List.mem_map.1 hm
    rw[<-ej];have:=sy nu qs j
    simp;omega
  ·simp only[Nb]
   rw[Nk (by omega)]
   simp) (by omega) (by omega) (by rw[g1,g2];simpa using hne) (by rw[g1,g2];exact he)]
 rfl
theorem KY(nu:Int)(ps qs:List (Int×Int))(k:Nat)(hv:ba nu ps k=ba nu qs k)(h1:0<=(pAt ps k).1/\(pAt ps k).1<=100000000)(h2:0<=(pAt ps k).2/\(pAt ps k).2<=100000000)(h3:0<=(pAt qs k).1/\(pAt qs k).1<=100000000)(h4:0<=(pAt qs k).2/\(pAt qs k).2<=100000000)
  (hne:¬((pAt ps k).1=(pAt qs k).1/\(pAt ps k).2=(pAt qs k).2)):gX nu ps k≠gX nu qs k:=by
 intro e;unfold gX at e;rw[hv]at e;have e:=List.append_cancel_right e;simp only[sw]at e;have e:=Nf (Nf (Nf e));have hm:(eg:Int)=4611686018427387903:=rfl
 have a1:(pAt ps k).1=(pAt qs k).1:=o6 (l:=enc (pAt ps k).1++(enc (pAt ps k).2++aX [])) (by omega) (by omega) (by omega) (by omega) (Ng _ _) (by rw[e];exact Ng _ _)
 rw[a1]at e;have e:=Nf e;have a2:(pAt ps k).2=(pAt qs k).2:=o6 (l:=enc (pAt ps k).2++aX []) (by omega) (by omega) (by omega) (by omega) (Ng _ _) (by rw[e];exact Ng _ _)
 exact hne ⟨a1,a2⟩
end
end Go.Proofs.YtkgphkdlbjinmaaGreatDoor
namespace Go.Proofs.YtkgphkdlbjinmaaGreatDoor
open Go Go.Sx
noncomputable section
def xG:List Nat:=[4,5,6,7,8,9,10,11,12,13,14,15,16,17,18,19,20,21,2000291,3000170]
abbrev Ah:=Int
def Hd(n:Nat)(v0 v1:Int):Option Ah:=
 (bif v0<0 then bif(-9223372036854775808<=(v0+1))&&((v0+1)<=9223372036854775807)then bif(-9223372036854775808<=(0-(v0+1)))&&((0-(v0+1))<=9223372036854775807)then bif !(v1=0)then some (Na (0-(v0+1)) v1)else none else none else none else bif !(v1=0)then some (Na v0 v1)else none)
def iC(n:Nat)(v0 v1:Int):Option Ah:=Hd n v0 v1
def top_pick_t:FnT:=⟨[(false,[.int]),(false,[.int])],.i,fun n (s:Int×Int)=>iC n s.1 s.2⟩
theorem FZ:top_pick_t.ok Tryz.prog 5:=FnT.ok_of (cfg:=⟨[],xG,[],az⟩) aT pd be (fun s fn hf=>by rw[Tryz.func5]at hf;cases hf;kernel_rfl) (fun n s=>by kernel_rfl)
def top_pick_T:Tab:=(5,top_pick_t)::top_collided_T
theorem ve:top_pick_T.ok Tryz.prog:=Tab.ok_cons FZ pd
abbrev Ar:=Int×Int×Int×Int×Int×Int×Int×Int×List UInt8×Lv×Int×Int×Int×Int×Int×Bool
def uw(n:Nat)(v0 v1 v2 v3 v4 v5 v6:Int)(v7:Lv)(v8:Int):Option Ar:=
 (uy n v0 v1 v2 v3 v4 v5 v6 v7).bind fun y9=>
 bif(-9223372036854775808<=(y9.2.2.2.2.1+1))&&((y9.2.2.2.2.1+1)<=9223372036854775807)then(iC n v8 7).bind fun y19=>
 bif(-9223372036854775808<=((y9.2.2.2.2.1+1)+y19))&&(((y9.2.2.2.2.1+1)+y19)<=9223372036854775807)then some (y9.1,y9.2.1,y9.2.2.1,y9.2.2.2.1,y9.2.2.2.2.1,y9.2.2.2.2.2.1,y9.2.2.2.2.2.2.1,y9.2.2.2.2.2.2.2.1,y9.2.2.2.2.2.2.2.2.1,y9.2.2.2.2.2.2.2.2.2,y9.2.2.1,(Na ((y9.2.2.2.2.1+1)+y19) 8),y9.2.2.2.2.1,y9.2.1,y9.2.2.2.2.2.2.1,false)else none else none
def yT(n:Nat)(v0 v1 v2 v3 v4 v5 v6:Int)(v7:Lv)(v8:Int):Option Ar:=uw n v0 v1 v2 v3 v4 v5 v6 v7 v8
def top_made_t:FnT:=⟨[(true,[.int,.int,.int,.int,.int,.int,.int,(.sl (.cons .int (.cons .int (.cons .int (.cons .int (.cons .int .nil))))))]),(false,[.int])],(.agg (.cons .i (.cons .i (.cons .i (.cons .i (.cons .i (.cons .i (.cons .i (.cons .i (.cons .st (.cons (.row 127 (.cons .int (.cons .int (.cons .int (.cons .int (.cons .int (.cons .int (.cons .str .nil)))))))) (.cons .i (.cons .i (.cons .i (.cons .i (.cons .i (.cons .b .nil))))))))))))))))),fun n (s:Int×Int×Int×Int×Int×Int×Int×Lv×Int)=>yT n s.1 s.2.1 s.2.2.1 s.2.2.2.1 s.2.2.2.2.1 s.2.2.2.2.2.1 s.2.2.2.2.2.2.1 s.2.2.2.2.2.2.2.1 s.2.2.2.2.2.2.2.2⟩
theorem FG:top_made_t.ok Tryz.prog 4:=FnT.ok_of (cfg:=⟨[],xG,[],az⟩) aT ve be (fun s fn hf=>by rw[Tryz.func4]at hf;cases hf;kernel_rfl) (fun n s=>by kernel_rfl)
def top_made_T:Tab:=(4,top_made_t)::top_pick_T
theorem vf:top_made_T.ok Tryz.prog:=Tab.ok_cons FG ve
abbrev DW:=Int×Int×Int×Int×Int×Int×Lv×Lv
def Kr(n:Nat)(v0 v1 v2 v3 v4 v5 v6 v7 v8:Int)(v9:Bool)(v10:Lv):Option DW:=
 some (v4,v5,v0,v1,v2,v3,(([]:Lv)++[[(AV.int 1),(AV.int 0),(AV.int v7)]]),(([]:Lv)++[[(AV.int v4),(AV.int v5),(AV.int v6),(AV.int v7),(AV.int v8),(AV.bool v9),(AV.sl (.cons .int (.cons .int (.cons .int .nil))) v10)]]))
def Dx(n:Nat)(v0 v1 v2 v3 v4 v5 v6 v7 v8:Int)(v9:Bool)(v10:Lv):Option DW:=Kr n v0 v1 v2 v3 v4 v5 v6 v7 v8 v9 v10
def top_of_t:FnT:=⟨[(true,[.int,.int,.int,.int]),(true,[.int,.int,.int,.int,.int,.bool]),(false,[tSc])],(.agg (.cons .i (.cons .i (.cons .i (.cons .i (.cons .i (.cons .i (.cons (.row 89 (.cons .int (.cons .int (.cons .int .nil)))) (.cons (.row 91 (.cons .int (.cons .int (.cons .int (.cons .int (.cons .int (.cons .bool (.cons tSc .nil)))))))) .nil))))))))),fun n (s:Int×Int×Int×Int×Int×Int×Int×Int×Int×Bool×Lv)=>Dx n s.1 s.2.1 s.2.2.1 s.2.2.2.1 s.2.2.2.2.1 s.2.2.2.2.2.1 s.2.2.2.2.2.2.1 s.2.2.2.2.2.2.2.1 s.2.2.2.2.2.2.2.2.1 s.2.2.2.2.2.2.2.2.2.1 s.2.2.2.2.2.2.2.2.2.2⟩
theorem IC:top_of_t.ok Tryz.prog 10:=FnT.ok_of (cfg:=⟨[],xG,[],az⟩) aT vf be (fun s fn hf=>by rw[Tryz.func10]at hf;cases hf;kernel_rfl) (fun n s=>by kernel_rfl)
def top_of_T:Tab:=(10,top_of_t)::top_made_T
theorem Fu:top_of_T.ok Tryz.prog:=Tab.ok_cons IC vf
abbrev am:=Bool
abbrev eV:=Int×Int×Int×Int×Int×Int×Int×Int×List UInt8
abbrev ib:=Bool
abbrev ic:=Unit
abbrev iy:=Lv
abbrev bh:=Int
abbrev dl:=Int×Lv
def jb(n:Nat)(go0:eV->Option am)(v9 v10 v18 v19 v20 v21 v22 v23 v24 v25:Int)(v26:List UInt8):Option am:=
 (iC n v9 3).bind fun y34=>
 (bif y34=2 then bif(-9223372036854775808<=(Np v9 3))&&((Np v9 3)<=9223372036854775807)then(mZ n v18 v19 v20 v21 v22 v23 v24 v25 v26 (Np v9 3) v10).bind fun y35=>
 go0 (y35.1,y35.2.1,y35.2.2.1,y35.2.2.2.1,y35.2.2.2.2.1,y35.2.2.2.2.2.1,y35.2.2.2.2.2.2.1,y35.2.2.2.2.2.2.2.1,y35.2.2.2.2.2.2.2.2.1)else none else go0 (v18,v19,v20,v21,v22,v23,v24,v25,v26))
def iZ(n:Nat)(go0:ib->Option am)(v27:Lv)(v28 v30 v31 v32 v34 v35 v36 v37 v38 v39 v40 v41:Int)(v42:List UInt8):Option am:=
 (l9 n ).bind fun y51=>
 (mw n y51 v34 v35 v36 v37 v38 v39 v40 v41 v42 v27 v28 v32).bind fun y52=>
 (bif y52 then(bif v38=v30 then go0 (decide (v35=v31))else go0 false)else go0 false)
def i8(n:Nat)(go0:ic->Option am)(v18 v19 v20 v21 v22 v23 v24 v25:Int)(v26:List UInt8)(v34 v35 v36 v37 v38 v39 v40 v41:Int)(v42:List UInt8)(v49:Bool)(v50:Int)(v51:Bool):Option am:=
 (bif !(v50=0)then some false else(bif(!(v49==v51))then some false else(bif((decide (v34=v18))&&((decide (v35=v19))&&(((decide (v36=v20))&&(decide (v37=v21)))&&((decide (v38=v22))&&((decide (v39=v23))&&(((decide (v40=v24))&&(decide (v41=v25)))&&((v42==v26)==true)))))))then(bif(!v51)then some false else go0 ())else go0 ())))
def iY(n:Nat)(go0:iy->Option am)(v11 v48:Int):Option am:=
 (iC n v11 2).bind fun y52=>
 (bif y52=1 then go0 (([]:Lv)++[[(AV.int 2),(AV.int v48),(AV.int 1)]])else go0 ([]:Lv))
def ir(n:Nat)(go0:bh->Option am)(v45 v46:Int)(v51:Bool)(v52:Lv):Option am:=
 (bif(!v51)then(bif 0<(v52.length:Int) then go0 v45 else go0 v46)else go0 v46)
def bv(n:Nat)(go0:bh->Option am)(v44 v45 v74:Int)(v75:Lv)(v78 v79:Int)(v94:Lv)(v96:Int):Option am:=
 (bif v96<(v94.length:Int) then bif 0<=v96 then bif v96<(v75.length:Int) then(bif !((cI v94 v96 0)=(cI v75 v96 0))then(l5 n v74 v75 v44 ((([]:Lv)++[[(AV.int v45),(AV.int 0),(AV.sl (.cons .int (.cons .int (.cons .int (.cons .str (.cons .str .nil))))) ([]:Lv))]])++[[(AV.int (Na ((v45+1)+v78) 8)),(AV.int (1+v79)),(AV.sl (.cons .int (.cons .int (.cons .int (.cons .str (.cons .str .nil))))) ([]:Lv))]])).bind fun y97=>
 some y97 else(bif !((cI v94 v96 1)=(cI v75 v96 1))then(l5 n v74 v75 v44 ((([]:Lv)++[[(AV.int v45),(AV.int 0),(AV.sl (.cons .int (.cons .int (.cons .int (.cons .str (.cons .str .nil))))) ([]:Lv))]])++[[(AV.int (Na ((v45+1)+v78) 8)),(AV.int (1+v79)),(AV.sl (.cons .int (.cons .int (.cons .int (.cons .str (.cons .str .nil))))) ([]:Lv))]])).bind fun y97=>
 some y97 else bif(-9223372036854775808<=(v96+1))&&((v96+1)<=9223372036854775807)then go0 (v96+1)else none))else none else none else some true)
def cK(n:Nat)(go0:dl->Option am)(v16 v17 v44 v45 v48 v65 v66 v74:Int)(v75 v77:Lv)(v78 v79 v80:Int)(v81:Lv):Option am:=
 (bif v80<4 then(iC n v16 4).bind fun y82=>
 (bif v80=y82 then bif 0<=v80 then bif v80<(v77.length:Int) then(nJ n (cS v77 v80 0) v80 ([]:Lv) v44 ((([]:Lv)++[[(AV.int v45),(AV.int 0),(AV.sl (.cons .int (.cons .int (.cons .int (.cons .str (.cons .str .nil))))) ([]:Lv))]])++[[(AV.int (Na ((v45+1)+v78) 8)),(AV.int (1+v79)),(AV.sl (.cons .int (.cons .int (.cons .int (.cons .str (.cons .str .nil))))) ([]:Lv))]])).bind fun y83=>
 (bif !(y83.2=0)then some false else bif (((v81++y83.1).length:Int)*56)<=140737488355328 then bif(-9223372036854775808<=(v80+1))&&((v80+1)<=9223372036854775807)then go0 ((v80+1),(v81++y83.1))else none else none)else none else none else bif 0<=v80 then bif v80<(v77.length:Int) then(nJ n (cS v77 v80 0) v80 ([]:Lv) v74 v75).bind fun y83=>
 (bif !(y83.2=0)then some false else bif (((v81++y83.1).length:Int)*56)<=140737488355328 then bif(-9223372036854775808<=(v80+1))&&((v80+1)<=9223372036854775807)then go0 ((v80+1),(v81++y83.1))else none else none)else none else none)else(kl n v77 v74 v75 v81).bind fun y82=>
 (bif !(y82.2.2=0)then some false else(bif !((y82.2.1.length:Int)=(v75.length:Int))then some false else(nS n v77 y82.1 y82.2.1).bind fun y85=>
 (bif(!y85)then some false else(iC n v17 1000000).bind fun y86=>
 bif(-9223372036854775808<=(v66+y86))&&((v66+y86)<=9223372036854775807)then(j7 n v77 y82.1 y82.2.1 v66).bind fun y87=>
 (bif(!y87.2)then some false else(bif !(y87.1=v65)then some false else(j7 n v77 y82.1 y82.2.1 (b9 (v66+y86) 20000000)).bind fun y89=>
 (bif(!y89.2)then some false else(bif !(y89.1=v65)then some false else(j7 n v77 y82.1 y82.2.1 v48).bind fun y91=>
 (bif(!y91.2)then some false else(bif !(y91.1=v45)then some false else(kl n v77 v44 ((([]:Lv)++[[(AV.int v45),(AV.int 0),(AV.sl (.cons .int (.cons .int (.cons .int (.cons .str (.cons .str .nil))))) ([]:Lv))]])++[[(AV.int (Na ((v45+1)+v78) 8)),(AV.int (1+v79)),(AV.sl (.cons .int (.cons .int (.cons .int (.cons .str (.cons .str .nil))))) ([]:Lv))]]) v81).bind fun y93=>
 (bif !(y93.2.2=0)then some (decide (y93.2.2=200))else(bif (v75.length:Int)<(y93.2.1.length:Int) then some false else(af (fun go0 s=>bv n go0 v44 v45 v74 v75 v78 v79 y93.2.1 s) n (0:bh))))))))))else none))))
def lS(n:Nat)(v10 v16 v17 v44 v45 v48 v65 v66 v71 v74:Int)(v75:Lv):Option am:=
 (bif !(v71=v45)then some false else(py n 0).bind fun y77=>
 bif(-9223372036854775808<=(v45+1))&&((v45+1)<=9223372036854775807)then(iC n v10 7).bind fun y78=>
 bif(-9223372036854775808<=((v45+1)+y78))&&(((v45+1)+y78)<=9223372036854775807)then(iC n v17 1000).bind fun y79=>
 bif(-9223372036854775808<=(1+y79))&&((1+y79)<=9223372036854775807)then(af (fun go0 s=>cK n go0 v16 v17 v44 v45 v48 v65 v66 v74 v75 y77 y78 y79 s.1 s.2) n ((0,([]:Lv)):dl))else none else none else none)
def l3(n:Nat)(v10 v16 v17 v44 v45 v48 v65 v66 v68 v71 v74:Int)(v75:Lv):Option am:=
 (bif !(v68=v65)then some false else lS n v10 v16 v17 v44 v45 v48 v65 v66 v71 v74 v75)
def l6(n:Nat)(v10 v16 v17 v44 v45 v48 v65 v66 v68 v71 v74:Int)(v75:Lv)(v76:Int):Option am:=
 (bif !(v76=0)then some false else l3 n v10 v16 v17 v44 v45 v48 v65 v66 v68 v71 v74 v75)
def mD(n:Nat)(v10 v16 v17 v44 v45 v48 v65 v66 v68 v71 v73 v74:Int)(v75:Lv)(v76:Int):Option am:=
 (bif !(v73=0)then some false else l6 n v10 v16 v17 v44 v45 v48 v65 v66 v68 v71 v74 v75 v76)
def mC(n:Nat)(v10 v16 v17 v44 v45 v48 v65 v66 v68 v70 v71 v73 v74:Int)(v75:Lv)(v76:Int):Option am:=
 (bif !(v70=0)then some false else mD n v10 v16 v17 v44 v45 v48 v65 v66 v68 v71 v73 v74 v75 v76)
def iq(n:Nat)(v10 v16 v17 v44 v45 v48 v65 v66 v67 v68 v70 v71 v73 v74:Int)(v75:Lv)(v76:Int):Option am:=
 (bif !(v67=0)then some false else mC n v10 v16 v17 v44 v45 v48 v65 v66 v68 v70 v71 v73 v74 v75 v76)
def eU(n:Nat)(v10 v16 v17 v44 v45 v48 v57 v58 v59 v60 v61 v62:Int)(v63 v64:Lv)(v65:Int):Option am:=
 (oR n v57 v58 v59 v60 v61 v62 v63 v64).bind fun y66=>
 (qH n v57 v58 v59 v60 v61 v62 v63 v64 y66.1).bind fun y68=>
 (qH n v57 v58 v59 v60 v61 v62 v63 v64 v48).bind fun y71=>
 (sS n v57 v58 v59 v60 v61 v62 v63 v64 y66.1).bind fun y74=>
 iq n v10 v16 v17 v44 v45 v48 v65 y66.1 y66.2 y68.1 y68.2.2 y71.1 y71.2.2 y74.1 y74.2.1 y74.2.2
def fK(n:Nat)(v10 v12 v13 v14 v15 v16 v17 v44 v45 v46 v47 v48:Int)(v49 v51:Bool)(v52:Lv):Option am:=
 (ml n v12 v13 v14 v15).bind fun y53=>
 (Dx n y53.1 y53.2.1 y53.2.2.1 y53.2.2.2 v44 v45 v46 v47 v48 v49 v52).bind fun y57=>
 (kO (fun(go0:bh->Option am)=>ir n go0 v45 v46 v51 v52)
 (fun(s:bh)=>eU n v10 v16 v17 v44 v45 v48 y57.1 y57.2.1 y57.2.2.1 y57.2.2.2.1 y57.2.2.2.2.1 y57.2.2.2.2.2.1 y57.2.2.2.2.2.2.1 y57.2.2.2.2.2.2.2 s))
def i6(n:Nat)(v10 v11 v12 v13 v14 v15 v16 v17 v44 v45 v46 v47 v48:Int)(v49 v51:Bool):Option am:=
 (kO (fun(go0:iy->Option am)=>iY n go0 v11 v48)
 (fun(s:iy)=>fK n v10 v12 v13 v14 v15 v16 v17 v44 v45 v46 v47 v48 v49 v51 s))
def i7(n:Nat)(v10 v11 v12 v13 v14 v15 v16 v17 v18 v19 v20 v21 v22 v23 v24 v25:Int)(v26:List UInt8)(v34 v35 v36 v37 v38 v39 v40 v41:Int)(v42:List UInt8)(v44 v45 v46 v47 v48:Int)(v49:Bool)(v50:Int)(v51:Bool):Option am:=
 (kO (fun(go0:ic->Option am)=>i8 n go0 v18 v19 v20 v21 v22 v23 v24 v25 v26 v34 v35 v36 v37 v38 v39 v40 v41 v42 v49 v50 v51)
 (fun(s:ic)=>i6 n v10 v11 v12 v13 v14 v15 v16 v17 v44 v45 v46 v47 v48 v49 v51))
def fH(n:Nat)(v10 v11 v12 v13 v14 v15 v16 v17 v18 v19 v20 v21 v22 v23 v24 v25:Int)(v26:List UInt8)(v27:Lv)(v28 v29 v30 v31 v32:Int)(v33:Bool)(v34 v35 v36 v37 v38 v39 v40 v41:Int)(v42:List UInt8):Option am:=
 (l9 n ).bind fun y43=>
 (uv n y43 v34 v35 v36 v37 v38 v39 v40 v41 v42 v27 v28 v29 v30 v31 v32 v33).bind fun y44=>
 (kO (fun(go0:ib->Option am)=>iZ n go0 v27 v28 v30 v31 v32 v34 v35 v36 v37 v38 v39 v40 v41 v42)
 (fun(s:ib)=>i7 n v10 v11 v12 v13 v14 v15 v16 v17 v18 v19 v20 v21 v22 v23 v24 v25 v26 v34 v35 v36 v37 v38 v39 v40 v41 v42 y44.1 y44.2.1 y44.2.2.1 y44.2.2.2.1 y44.2.2.2.2.1 y44.2.2.2.2.2.1 y44.2.2.2.2.2.2 s))
def i5(n:Nat)(v0 v1 v2 v3 v4 v5 v6:Int)(v7:Lv)(v8 v9 v10 v11 v12 v13 v14 v15 v16 v17:Int):Option am:=
 (yT n v0 v1 v2 v3 v4 v5 v6 v7 v8).bind fun y18=>
 (kO (fun(go0:eV->Option am)=>jb n go0 v9 v10 y18.1 y18.2.1 y18.2.2.1 y18.2.2.2.1 y18.2.2.2.2.1 y18.2.2.2.2.2.1 y18.2.2.2.2.2.2.1 y18.2.2.2.2.2.2.2.1 y18.2.2.2.2.2.2.2.2.1)
 (fun(s:eV)=>fH n v10 v11 v12 v13 v14 v15 v16 v17 y18.1 y18.2.1 y18.2.2.1 y18.2.2.2.1 y18.2.2.2.2.1 y18.2.2.2.2.2.1 y18.2.2.2.2.2.2.1 y18.2.2.2.2.2.2.2.1 y18.2.2.2.2.2.2.2.2.1 y18.2.2.2.2.2.2.2.2.2.1 y18.2.2.2.2.2.2.2.2.2.2.1 y18.2.2.2.2.2.2.2.2.2.2.2.1 y18.2.2.2.2.2.2.2.2.2.2.2.2.1 y18.2.2.2.2.2.2.2.2.2.2.2.2.2.1 y18.2.2.2.2.2.2.2.2.2.2.2.2.2.2.1 y18.2.2.2.2.2.2.2.2.2.2.2.2.2.2.2 s.1 s.2.1 s.2.2.1 s.2.2.2.1 s.2.2.2.2.1 s.2.2.2.2.2.1 s.2.2.2.2.2.2.1 s.2.2.2.2.2.2.2.1 s.2.2.2.2.2.2.2.2))
def o7(n:Nat)(v0 v1 v2 v3 v4 v5 v6:Int)(v7:Lv)(v8 v9 v10 v11 v12 v13 v14 v15 v16 v17:Int):Option am:=i5 n v0 v1 v2 v3 v4 v5 v6 v7 v8 v9 v10 v11 v12 v13 v14 v15 v16 v17
def top_TopWishCounts_t:FnT:=⟨[(true,[.int,.int,.int,.int,.int,.int,.int,(.sl (.cons .int (.cons .int (.cons .int (.cons .int (.cons .int .nil))))))]),(false,[.int]),(false,[.int]),(false,[.int]),(false,[.int]),(true,[.int,.int,.int,.int]),(false,[.int]),(false,[.int])],.b,fun n (s:Int×Int×Int×Int×Int×Int×Int×Lv×Int×Int×Int×Int×Int×Int×Int×Int×Int×Int)=>o7 n s.1 s.2.1 s.2.2.1 s.2.2.2.1 s.2.2.2.2.1 s.2.2.2.2.2.1 s.2.2.2.2.2.2.1 s.2.2.2.2.2.2.2.1 s.2.2.2.2.2.2.2.2.1 s.2.2.2.2.2.2.2.2.2.1 s.2.2.2.2.2.2.2.2.2.2.1 s.2.2.2.2.2.2.2.2.2.2.2.1 s.2.2.2.2.2.2.2.2.2.2.2.2.1 s.2.2.2.2.2.2.2.2.2.2.2.2.2.1 s.2.2.2.2.2.2.2.2.2.2.2.2.2.2.1 s.2.2.2.2.2.2.2.2.2.2.2.2.2.2.2.1 s.2.2.2.2.2.2.2.2.2.2.2.2.2.2.2.2.1 s.2.2.2.2.2.2.2.2.2.2.2.2.2.2.2.2.2⟩
theorem uX:top_TopWishCounts_t.ok Tryz.prog 3:=FnT.ok_of (cfg:=⟨[((3,3,1000000),.join [.cell 5 0 .int,.cell 5 1 .int,.cell 5 2 .int,.cell 5 3 .int,.cell 5 4 .int,.cell 5 5 .int,.cell 5 6 .int,.cell 5 7 .int,.cell 5 8 .str]),((3,6,1000001),.join [.tmp 21 .bool]),((3,7,1000000),.join []),((3,10,1000000),.join [.tmprow 22 49 (.cons .int (.cons .int (.cons .int .nil)))]),((3,14,1000000),.join [.tmp 24 .int]),((3,26,0),.inv [.tmp 38 .int,.tmprow 37 113 (.cons .int (.cons .int (.cons .int (.cons .str (.cons .str .nil)))))]),((3,39,0),.unroll 3),((3,54,0),.inv [.tmp 52 .int])],xG,[],az⟩) aT Fu be (fun s fn hf=>by rw[Tryz.func3]at hf;cases hf;kernel_rfl) (fun n s=>by kernel_rfl)
end
open Go.Dial.Wire
noncomputable section
theorem AH{x k:Int}(h:I64 x)(hk:0<k):I64 (Np x k):=by
 obtain⟨h1,h2⟩:=h;by_cases h0:0<=x
 ·rw[Nm h0]
  have a:=NB h0 (Int.le_of_lt hk);have b:=Nz k h0;exact⟨by omega,by omega⟩
 ·obtain⟨y,rfl⟩:∃y,x= -y:=⟨-x,by omega⟩
  rw[Int.neg_tdiv,Nm (by omega)]
  have a:=NB (show 0<=y by omega) (Int.le_of_lt hk)
  have b:=Nz k (show 0<=y by omega)
  exact⟨by omega,by omega⟩
theorem dk(n:Nat)(c k:Int)(hk:0<k)(h1: -9223372036854775808<=c)(h2:c<=9223372036854775807):aw n c k=some (pk c k):=yV c k hk h1 h2 id
theorem ia(n:Nat)(c k:Int)(hk:0<k)(h1: -9223372036854775808<=c)(h2:c<=9223372036854775807):iC n c k=some (pk c k):=yV c k hk h1 h2 id
def RB(x:Option (Int×Int×Int×Int)):Prop:=∃an co se re,x=some (an,co,se,re)/\Rul an co se re
theorem RB.ite{c:Bool}{x y:Option (Int×Int×Int×Int)}(hx:RB x)(hy:RB y):RB (bif c then x else y):=by
 cases c
 ·exact hy
 ·exact hx
theorem xN(n:Nat)(v0 v1 v2 v3:Int)(h0:I64 v0)(h1:I64 v1)(h2:I64 v2)(h3:I64 v3):RB (ml n v0 v1 v2 v3):=by
 have t0:=AH h0 (k:=16) (by omega)
 have t1:=AH h1 (k:=16) (by omega)
 have t2:=AH h2 (k:=16) (by omega)
 have t3:=AH h3 (k:=16) (by omega)
 unfold I64 at h0 h1 h2 h3 t0 t1 t2 t3;have a0:=dm v0 (k:=12) (by omega)
 have a1:=dm v1 (k:=12) (by omega)
 have a2:=dm v2 (k:=12) (by omega)
 have a3:=dm v3 (k:=12) (by omega)
 have b0:=dm v0 (k:=86400) (by omega)
 have b1:=dm v1 (k:=86400) (by omega)
 have b2:=dm v2 (k:=86400) (by omega)
 have b3:=dm v3 (k:=86400) (by omega)
 show RB (kc n v0 v1 v2 v3)
 unfold kc;rw[dk n v0 12 (by omega) (by omega) (by omega)]
 rw[bS];rw[inn (by omega) (by omega),inn t0.1 t0.2,dk n _ 4 (by omega) t0.1 t0.2]
 rw[bS];unfold pa;have p86:∀c:Int,-9223372036854775808<=c->c<=9223372036854775807->aw n c 86400=some (pk c 86400):=fun c x y=>dk n c 86400 (by omega) x y
 rw[p86 v0 h0.1 h0.2];repeat' (first
  |rw[bS]
  |rw[inn (by omega) (by omega)]
  |rw[inn t1.1 t1.2]
  |rw[inn t2.1 t2.2]
  |rw[inn t3.1 t3.2]
  |rw[dk n v1 12 (by omega) h1.1 h1.2]
  |rw[dk n v2 12 (by omega) h2.1 h2.2]
  |rw[dk n v3 12 (by omega) h3.1 h3.2]
  |rw[dk n _ 4 (by omega) t1.1 t1.2]
  |rw[dk n _ 4 (by omega) t2.1 t2.2]
  |rw[dk n _ 4 (by omega) t3.1 t3.2]
  |rw[p86 v1 h1.1 h1.2]
  |rw[p86 v2 h2.1 h2.2]
  |rw[p86 v3 h3.1 h3.2]
  |exact⟨_,_,_,_,rfl,⟨by omega,by omega⟩,⟨by omega,by omega⟩,⟨by omega,by omega⟩,⟨by omega,by omega⟩⟩
  |refine RB.ite ?_ ?_)
theorem Ej(n:Nat)(L:List Px)(v1 v2 v3 v4 v5 v6 v7 v8:Int)(v9:List UInt8)(nu fr to ho ask:Int)(b y:Bool)(hc:Clm nu fr to ho ask)(hy:mw n keysL v1 v2 v3 v4 v5 v6 v7 v8 v9 (aN L) nu ask=some y):
  uv n keysL v1 v2 v3 v4 v5 v6 v7 v8 v9 (aN L) nu fr to ho ask b=some (nu,fr,to,ho,ask,(decide (v5=to)&&(decide (v2=ho)&&y)),0):=by
 show rz n keysL v1 v2 v3 v4 v5 v6 v7 v8 v9 (aN L) nu fr to ho ask b=_
 unfold rz;rw[me n nu fr to ho ask b hc];rw[bS];rw[bnt,hy];by_cases h1:v5=to
 ·rw[dT h1,decide_eq_true h1]
  by_cases h2:v2=ho
  ·rw[dT h2,decide_eq_true h2]
   rw[bS];rfl
  ·rw[dF h2,decide_eq_false h2];rfl
 ·rw[dF h1,decide_eq_false h1];rfl
def sH(g:Prop)[Decidable g](fr to T:Int):List (Int×Int):=if g then[(fr,0),(to,T)]else[(fr,0)]
def dS(ps:List (Int×Int)):Lv:=aQ ps (fun _=>([]:Lv)) ps.length
theorem MA(ps:List (Int×Int))(i:Nat)(h:i<ps.length):cL (dS ps) (i:Int) 2=[]:=Am ps _ _ i h
theorem CW(n:Nat)(an co se re nu fr to ho ask:Int)(b:Bool)(E:Lv)(t:Int)(hn:20<=n)(hr:Rul an co se re)(hc:Clm nu fr to ho ask)(hE:E=[]\/E=eI ask)(ht:ask+an+co<=t/\t<=20000000):
  sS n nu fr an co se re (bU ho) (bp nu fr to ho ask b E) t=some (nu,dS (sH (cd b E) fr to (ask+an+co)),0):=by
 have h6:=hc.h6;have r1:=hr.h1;have r2:=hr.h2;show oD n nu fr an co se re (bU ho) (bp nu fr to ho ask b E) t=_
 unfold oD;rw[AW n an co se re nu fr to ho ask b E hn hr hc hE];rw[bS];dsimp only;rw[nT rfl,dT (by omega),nT (by omega)]
 obtain⟨k,hk⟩:∃k,n=k+3:=⟨n-3,by omega⟩
 unfold sH;conv=>lhs;arg 2;rw[hk]
 by_cases h:cd b E
 ·rw[if_pos h,if_pos h,ae]
  show eF n _ nu t (pp fr to (ask+an+co)) 0 ([]:Lv)=_
  unfold eF;rw[show((pp fr to (ask+an+co)).length:Int)=2 from rfl,show cI (pp fr to (ask+an+co)) 0 1=0 from rfl,show cI (pp fr to (ask+an+co)) 0 0=fr from rfl]
  rw[dT (by omega),dT (by omega),dT (by omega),dT (by decide),inn (by omega) (by omega),ae]
  show eF n _ nu t (pp fr to (ask+an+co)) 1 [At fr 0 []]=_
  unfold eF;rw[show((pp fr to (ask+an+co)).length:Int)=2 from rfl,show cI (pp fr to (ask+an+co)) 1 1=ask+an+co from rfl,show cI (pp fr to (ask+an+co)) 1 0=to from rfl,show(([At fr 0 []]:Lv).length:Int)=1 from rfl]
  rw[dT (by omega),dT (by omega),dT (by omega),dT (by omega),inn (by omega) (by omega),ae]
  rfl
 ·rw[if_neg h,if_neg h,ae]
  show eF n _ nu t (AG fr) 0 ([]:Lv)=_
  unfold eF;rw[show((AG fr).length:Int)=1 from rfl,show cI (AG fr) 0 1=0 from rfl,show cI (AG fr) 0 0=fr from rfl]
  rw[dT (by omega),dT (by omega),dT (by omega),dT (by decide),inn (by omega) (by omega),ae]
  rfl
def vtL(ca:Nat)(nu:Int)(rs:List (Int×Int)):List Vt:=(Nd rs.length).map fun s=>⟨ca,s,ba nu rs (s+1)⟩
theorem Fa(ca:Nat)(nu:Int)(rs:List (Int×Int)):bD nu (vtL ca nu rs)=gg (kC (ca:Int)) (ca:Int) nu rs rs.length:=by
 simp[bD,vtL,gg,Vt.row]
theorem Lg(ca:Nat)(nu:Int)(rs:List (Int×Int)):(vtL ca nu rs).length=rs.length:=by simp[vtL]
theorem LH{ca:Nat}{nu:Int}{rs:List (Int×Int)}(hc:ca<4)(hr:rs.length<=2):∀x∈vtL ca nu rs,x.ok:=by
 intro x hx;obtain⟨s,hs,rfl⟩:=List.mem_map.1 hx;have:=List.mem_range.1 hs
 exact⟨hc,by show s<=1000;omega,iu nu rs s⟩
def eS(nu:Int)(ps qs:List (Int×Int))(li:Int):Nat->List Vt
 |0=>[]
 |k+1=>eS nu ps qs li k++vtL k nu (if(k:Int)=li then qs else ps)
def hit(nu:Int)(rs:List (Int×Int))(st:Nat)(v:List UInt8):Bool:=decide (st<rs.length)&&decide (ba nu rs (st+1)=v)
def orb(m:Nat)(b:Bool)(c:Nat):Nat:=if b=true then m ||| 2 ^ c else m
theorem ub(st:Nat)(v:List UInt8)(A:List Vt)(ca:Nat)(nu:Int)(rs:List (Int×Int))(hr:rs.length<=2):bG st v (A++vtL ca nu rs)=orb (bG st v A) (hit nu rs st v) ca:=by
 unfold bG;rw[List.foldl_append];generalize A.foldl (jV st v) 0=m
 have h012:rs.length=0\/rs.length=1\/rs.length=2:=by omega
 unfold vtL hit orb;rcases h012 with e|e|e
 ·rw[e]
  simp
 ·rw[e,show Nd 1=[0]from rfl]
  rcases st with _|st
  ·simp[jV]
  ·simp[jV]
 ·rw[e,show Nd 2=[0,1]from rfl]
  rcases st with _|_|st
  ·simp[jV]
  ·simp[jV]
  ·simp[jV]
   intro h;omega
def GO(b0 b1 b2 b3:Bool):Nat:=orb (orb (orb (orb 0 b0 0) b1 1) b2 2) b3 3
theorem I8(st:Nat)(v:List UInt8)(nu:Int)(ps qs:List (Int×Int))(li:Int)(hp:ps.length<=2)(hq:qs.length<=2):
  bG st v (eS nu ps qs li 4)=GO (if 0=li then hit nu qs st v else hit nu ps st v) (if 1=li then hit nu qs st v else hit nu ps st v) (if 2=li then hit nu qs st v else hit nu ps st v) (if 3=li then hit nu qs st v else hit nu ps st v):=by
 have hl:∀k:Nat,(if(k:Int)=li then qs else ps).length<=2:=by intro k;split<;>assumption
 have hh:∀k:Nat,hit nu (if(k:Int)=li then qs else ps) st v=if(k:Int)=li then hit nu qs st v else hit nu ps st v:=by intro k;split<;>rfl
 show bG st v (eS nu ps qs li 3++vtL 3 nu (if((3:Nat):Int)=li then qs else ps))=_
 rw[ub _ _ _ _ _ _ (hl 3),hh 3];show orb (bG st v (eS nu ps qs li 2++vtL 2 nu (if((2:Nat):Int)=li then qs else ps))) _ _=_
 rw[ub _ _ _ _ _ _ (hl 2),hh 2];show orb (orb (bG st v (eS nu ps qs li 1++vtL 1 nu (if((1:Nat):Int)=li then qs else ps))) _ _) _ _=_
 rw[ub _ _ _ _ _ _ (hl 1),hh 1];show orb (orb (orb (bG st v (eS nu ps qs li 0++vtL 0 nu (if((0:Nat):Int)=li then qs else ps))) _ _) _ _) _ _=_
 rw[ub _ _ _ _ _ _ (hl 0),hh 0];rfl
theorem uW(a b:Bool)(li:Int)(h:0<=li/\li<4)(hb:b=true):¬fJ (GO (if 0=li then a else b) (if 1=li then a else b) (if 2=li then a else b) (if 3=li then a else b))<3:=by
 subst hb;have:li=0\/li=1\/li=2\/li=3:=by omega
 rcases this with rfl|rfl|rfl|rfl<;>cases a<;>decide
theorem JN(a b:Bool)(li:Int)(h:0<=li/\li<4)(hb:b=false):fJ (GO (if 0=li then a else b) (if 1=li then a else b) (if 2=li then a else b) (if 3=li then a else b))<3:=by
 subst hb;have:li=0\/li=1\/li=2\/li=3:=by omega
 rcases this with rfl|rfl|rfl|rfl<;>cases a<;>decide
theorem DB(nu:Int)(ps qs:List (Int×Int))(li:Int)(hp:ps.length<=2)(hq:qs.length<=2):∀k,(eS nu ps qs li k).length<=2*k:=by
 intro k;induction k with
 |zero=>exact Nat.zero_le _
 |succ k ih=>
  show(eS nu ps qs li k++vtL k nu (if(k:Int)=li then qs else ps)).length<=_
  rw[Nc,Lg];split<;>omega
theorem Lr(nu:Int)(ps qs:List (Int×Int))(li:Int)(hp:ps.length<=2)(hq:qs.length<=2):∀k,k<=4->∀x∈eS nu ps qs li k,x.ok:=by
 intro k;induction k with
 |zero=>intro _ x hx;cases hx
 | succ k ih=>
  intro hk x hx;rcases List.mem_append.1 hx with hx|hx
  ·exact ih (by omega) x hx
  ·refine LH (by omega) ?_ x hx
   split<;>assumption
abbrev yM(fr x y:Int):Lv:=((([]:Lv)++[[(AV.int fr),(AV.int 0),(AV.sl (.cons .int (.cons .int (.cons .int (.cons .str (.cons .str .nil))))) ([]:Lv))]])++[[(AV.int (Na ((fr+1)+x) 8)),(AV.int (1+y)),(AV.sl (.cons .int (.cons .int (.cons .int (.cons .str (.cons .str .nil))))) ([]:Lv))]])
def aV(fr x y:Int):List (Int×Int):=[(fr,0),(Na ((fr+1)+x) 8,1+y)]
theorem xA(fr x y:Int):Col (yM fr x y) (aV fr x y):=by
 refine⟨rfl,fun i hi=>?_,fun i hi=>?_⟩
 ·have:i<2:=hi
  rcases i with _|_|i
  ·rfl
  ·rfl
  ·omega
 ·have:i<2:=hi
  rcases i with _|_|i
  ·rfl
  ·rfl
  ·omega
theorem LU(fr x y:Int):∀i:Nat,i<(aV fr x y).length->cL (yM fr x y) (i:Int) 2=[]:=by
 intro i hi;have:i<2:=hi
 rcases i with _|_|i
 ·rfl
 ·rfl
 ·omega
theorem By(nu fr x y:Int)(hn:0<=nu/\nu<=99999999)(hf:0<=fr/\fr<=7)(hx:0<=x/\x<7)(hy:0<=y/\y<1000):Fmd nu (aV fr x y):=by
 have ht:Na ((fr+1)+x) 8=((fr+1)+x) % 8:=Nn (by omega)
 refine⟨hn,⟨show 1<=2 by decide,show 2<=2 by decide⟩,fun i hi=>?_,fun i hi=>?_,fun _=>?_⟩
 ·have:i<2:=hi
  rcases i with _|_|i
  ·exact hf
  ·show 0<=Na ((fr+1)+x) 8/\Na ((fr+1)+x) 8<=7
   omega
  ·omega
 ·have:i<2:=hi
  rcases i with _|_|i
  ·exact⟨Nw _,show(0:Int)<=20000000 by decide⟩
  ·show 0<=1+y/\1+y<=20000000
   omega
  ·omega
 ·show fr≠Na ((fr+1)+x) 8/\0<1+y
  omega
section
variable (n:Nat) (nu fr x y:Int) (ps:List (Int×Int)) (S:Lv)
theorem K3(PL:Nat->Lv)(K:Nat)(hn:2000<=n)(hf:0<=fr/\fr<=7)(hx:0<=x/\x<7)(hy:0<=y/\y<1000)(h:Fmd nu ps)(hS:Col S ps)(hV:∀i:Nat,i<ps.length->cL S (i:Int) 2=[])
  (h0:pAt ps 0=(fr,0)) (hK:1<=K/\K<=2/\K<=ps.length) (hv:K=2->ba nu ps 2=ba nu (aV fr x y) 2):
  af (fun go0 (s:bh)=>bv n go0 nu fr nu S x y (aQ (aV fr x y) PL K) s) n (0:bh)=some true:=by
 have hq:=By nu fr x y h.hn hf hx hy;have hl:=h.hl;have c0:∀i:Nat,i<K->cI (aQ (aV fr x y) PL K) (i:Int) 0=(pAt (aV fr x y) i).1:=by
  intro i hi;show AV.i (((aQ (aV fr x y) PL K).getD ((i:Int)).toNat []).getD 0 (.int 0))=_
  rw[kx _ _ _ _ hi];rfl
 have c1:∀i:Nat,i<K->cI (aQ (aV fr x y) PL K) (i:Int) 1=(pAt (aV fr x y) i).2:=by
  intro i hi;show AV.i (((aQ (aV fr x y) PL K).getD ((i:Int)).toNat []).getD 1 (.int 0))=_
  rw[kx _ _ _ _ hi];rfl
 have key:∀(go:bh->Option am) (i:Nat),i<K->pAt (aV fr x y) i=pAt ps i->bv n go nu fr nu S x y (aQ (aV fr x y) PL K) (i:Int)=go ((i:Int)+1):=by
  intro go i hi e;unfold bv;rw[dT (by rw[de];omega),dT (by omega),dT (by rw[hS.hl];omega),c0 i hi,c1 i hi,hS.h0 i (by omega),hS.h1 i (by omega),e,nT rfl,nT rfl,inn (by omega) (by omega)]
 have kend:∀(go:bh->Option am),bv n go nu fr nu S x y (aQ (aV fr x y) PL K) (K:Int)=some true:=by
  intro go;unfold bv;rw[dF (by rw[de];omega)]
 obtain⟨k,hk⟩:∃k,n=k+3:=⟨n-3,by omega⟩
 conv=>lhs;arg 2;rw[hk]
 rw[ae];refine(key _ 0 (by omega) h0.symm).trans ?_
 rw[ae];by_cases h2:K=1
 ·have:=kend (af (fun go0 (s:bh)=>bv n go0 nu fr nu S x y (aQ (aV fr x y) PL K) s) (k+1))
  have e:(K:Int)=((0:Nat):Int)+1:=by omega
  rw[e]at this;exact this
 ·have e2:K=2:=by omega
  have hv2:=hv e2;by_cases e:pAt (aV fr x y) 1=pAt ps 1
  ·refine(key _ 1 (by omega) e).trans ?_
   rw[ae];have:=kend (af (fun go0 (s:bh)=>bv n go0 nu fr nu S x y (aQ (aV fr x y) PL K) s) k)
   have e:(K:Int)=((1:Nat):Int)+1:=by omega
   rw[e]at this;exact this
  ·have hne:¬((pAt ps 1).1=(pAt (aV fr x y) 1).1/\(pAt ps 1).2=(pAt (aV fr x y) 1).2):=fun g=>e (Prod.ext g.1.symm g.2.symm)
   have p1:=h.hc 1 (by omega)
   have p2:=h.ha 1 (by omega)
   have q1:=hq.hc 1 (show 1<2 by decide)
   have q2:=hq.ha 1 (show 1<2 by decide)
   have hv1:ba nu ps 1=ba nu (aV fr x y) 1:=by
    show kM (aX [6,nu,((0:Nat):Int),(pAt ps 0).1,(pAt ps 0).2]++[])=kM (aX [6,nu,((0:Nat):Int),(pAt (aV fr x y) 0).1,(pAt (aV fr x y) 0).2]++[])
    rw[h0];rfl
   have hcol:=HY n nu ps (aV fr x y) S (yM fr x y) hn h hS hV hq (xA fr x y) (LU fr x y) 1 (by omega) (show 1<2 by decide) (KY nu ps (aV fr x y) 1 hv1 ⟨p1.1,by omega⟩ ⟨p2.1,by omega⟩ ⟨q1.1,by omega⟩ ⟨q2.1,by omega⟩ hne) hv2
   show bv n _ nu fr nu S x y (aQ (aV fr x y) PL K) ((1:Nat):Int)=_
   unfold bv;rw[dT (by rw[de];omega),dT (by omega),dT (by rw[hS.hl];omega),c0 1 (by omega),c1 1 (by omega),hS.h0 1 (by omega),hS.h1 1 (by omega),hcol]
   by_cases g1:(pAt (aV fr x y) 1).1=(pAt ps 1).1
   ·rw[nT g1,nF (fun g2=>e (Prod.ext g1 g2))]
    rw[bS]
   ·rw[nF g1]
    rw[bS]
end
section
variable (n:Nat) (nu fr to T ask en want:Int) (ps:List (Int×Int)) (v10 v16 v17:Int)
structure Ps:Prop where
 h0:pAt ps 0=(fr,0)
 h1:ps.length=1/\want=fr\/ps.length=2/\pAt ps 1=(to,T)/\want=to
theorem EB(ps:List (Int×Int)):Col (dS ps) ps:=sU ps _
theorem Jq(ps:List (Int×Int)):(dS ps).length=ps.length:=de ps _ _
theorem HV(hn:2000<=n)(h16:I64 v16)(hf:0<=fr/\fr<=7)(x y:Int)(hx:0<=x/\x<7)(hy:0<=y/\y<1000)(h:Fmd nu ps)(go:dl->Option am)(k:Nat)(hk:k<4):
  cK n go v16 v17 nu fr ask want en nu (dS ps) keysC x y (k:Int) (bD nu (eS nu ps (aV fr x y) (pk v16 4) k))=go ((k:Int)+1,bD nu (eS nu ps (aV fr x y) (pk v16 4) (k+1))):=by
 have hq:=By nu fr x y h.hn hf hx hy;have hl:=h.hl;have hpl:=DB nu ps (aV fr x y) (pk v16 4) hl.2 (Nl 2) k;unfold cK;rw[dT (by omega),ia n v16 4 (by omega) h16.1 h16.2]
 rw[bS];by_cases hli:(k:Int)=pk v16 4
 ·have et:bD nu (eS nu ps (aV fr x y) (pk v16 4) (k+1))=bD nu (eS nu ps (aV fr x y) (pk v16 4) k)++gg (kC (k:Int)) (k:Int) nu (aV fr x y) (aV fr x y).length:=by
   rw[<-Fa];show bD nu (eS nu ps (aV fr x y) (pk v16 4) k++vtL k nu (if(k:Int)=pk v16 4 then aV fr x y else ps))=_
   rw[if_pos hli];simp[bD]
  rw[dT hli,dT (by omega),dT (by rw[eX];omega),qQ _ (by omega),vw n (kC (k:Int)) (k:Int) nu (aV fr x y) (yM fr x y) (by omega) (wX _) (by omega) hq (xA fr x y)]
  rw[bS];dsimp only;rw[nT rfl,dT (by rw[Nc,ol,tR];show(((_+2:Nat):Int)*56)<=_;omega),inn (by omega) (by omega),et]
 ·have et:bD nu (eS nu ps (aV fr x y) (pk v16 4) (k+1))=bD nu (eS nu ps (aV fr x y) (pk v16 4) k)++gg (kC (k:Int)) (k:Int) nu ps ps.length:=by
   rw[<-Fa];show bD nu (eS nu ps (aV fr x y) (pk v16 4) k++vtL k nu (if(k:Int)=pk v16 4 then aV fr x y else ps))=_
   rw[if_neg hli];simp[bD]
  rw[dF hli,dT (by omega),dT (by rw[eX];omega),qQ _ (by omega),vw n (kC (k:Int)) (k:Int) nu ps (dS ps) (by omega) (wX _) (by omega) h (EB ps)]
  rw[bS];dsimp only;rw[nT rfl,dT (by rw[Nc,ol,tR];omega),inn (by omega) (by omega),et]
theorem Li(hn:2000<=n)(h16:I64 v16)(h17:I64 v17)(hf:0<=fr/\fr<=7)(x y:Int)(hx:0<=x/\x<7)(hy:0<=y/\y<1000)(h:Fmd nu ps)(hp:Ps fr to T want ps)(hT:0<=ask/\ask<T/\T<=en/\en<=20000000):
  af (fun go0 (s:dl)=>cK n go0 v16 v17 nu fr ask want en nu (dS ps) keysC x y s.1 s.2) n ((0,([]:Lv)):dl)=some true:=by
 obtain⟨k,hk⟩:∃k,n=k+5:=⟨n-5,by omega⟩
 have hstep:=HV n nu fr ask en want ps v16 v17 hn h16 hf x y hx hy h;conv=>lhs;arg 2;rw[hk]
 rw[ae];refine(hstep _ 0 (by omega)).trans ?_
 rw[ae];refine(hstep _ 1 (by omega)).trans ?_
 rw[ae];refine(hstep _ 2 (by omega)).trans ?_
 rw[ae];refine(hstep _ 3 (by omega)).trans ?_
 rw[ae];have hq:=By nu fr x y h.hn hf hx hy;have hl:=h.hl;have hql:(aV fr x y).length<=2:=Nl 2
 have hli:=dm v16 (k:=4) (by omega)
 have hpl:=DB nu ps (aV fr x y) (pk v16 4) hl.2 hql 4;have hpo:=Lr nu ps (aV fr x y) (pk v16 4) hl.2 hql 4 (by omega)
 show cK n _ v16 v17 nu fr ask want en nu (dS ps) keysC x y 4 (bD nu (eS nu ps (aV fr x y) (pk v16 4) 4))=_
 generalize hPo:eS nu ps (aV fr x y) (pk v16 4) 4=Po at hpl hpo
 have hmask:∀st v,bG st v Po=GO (if 0=pk v16 4 then hit nu (aV fr x y) st v else hit nu ps st v) (if 1=pk v16 4 then hit nu (aV fr x y) st v else hit nu ps st v) (if 2=pk v16 4 then hit nu (aV fr x y) st v else hit nu ps st v) (if 3=pk v16 4 then hit nu (aV fr x y) st v else hit nu ps st v):=by
  intro st v;rw[<-hPo];exact I8 st v nu ps (aV fr x y) (pk v16 4) hl.2 hql
 have hmlt:∀st v,bG st v Po<16:=fun st v=>Cd st v Po hpo
 have hprove:∀st v,st<=1000->v.length=32->ee n keysC nu ((st:Nat):Int) v (bD nu Po)=some (if fJ (bG st v Po)<3 then(([]:Lv),false)else(prL nu ((st:Nat):Int) v (bG st v Po),true)):=fun st v h1 h2=>B0 n nu st v Po (by omega) h.hn h1 h2 hpo (by omega)
 have h3:∀st,st<ps.length->¬fJ (bG st (ba nu ps (st+1)) Po)<3:=by
  intro st hst;rw[hmask];exact uW _ _ _ hli (by unfold hit;rw[decide_eq_true hst,decide_eq_true rfl];rfl)
 have hpd:∀st:Nat,st<ps.length->ee n keysC nu (st:Int) (ba nu ps (st+1)) (bD nu Po)=some (prL nu (st:Int) (ba nu ps (st+1)) (bG st (ba nu ps (st+1)) Po),true):=by
  intro st hst;rw[hprove st _ (by omega) (iu nu ps st),if_neg (h3 st hst)]
 have hck:∀st:Nat,st<ps.length->gP n keysC nu (st:Int) (ba nu ps (st+1)) (prL nu (st:Int) (ba nu ps (st+1)) (bG st (ba nu ps (st+1)) Po))=some true:=by
  intro st hst;exact BS n nu st _ _ (by omega) h.hn (by omega) (iu nu ps st) (hmlt _ _) (h3 st hst)
 have eP:=oP n nu ps (dS ps) (bD nu Po) (fun st=>prL nu (st:Int) (ba nu ps (st+1)) (bG st (ba nu ps (st+1)) Po)) ps.length (by omega) h (EB ps) ⟨hl.1,Nl _⟩ hpd (fun g=>absurd g (Nat.lt_irrefl _))
 have eC:=vl n nu ps (fun st=>prL nu (st:Int) (ba nu ps (st+1)) (bG st (ba nu ps (st+1)) Po)) (by omega) h hck
 have eW:∀t,0<=t/\t<=20000000->j7 n keysC nu (aQ ps (fun st=>prL nu (st:Int) (ba nu ps (st+1)) (bG st (ba nu ps (st+1)) Po)) ps.length) t=some (if ps.length=2/\(pAt ps 1).2<=t then(pAt ps 1).1 else(pAt ps 0).1,true):=fun t ht=>Dy n nu ps _ t (by omega) h (by rw[hp.h0]) hck ht
 have w1:∀t,T<=t->(if ps.length=2/\(pAt ps 1).2<=t then(pAt ps 1).1 else(pAt ps 0).1)=want:=by
  intro t ht;rcases hp.h1 with⟨a,b⟩|⟨a,b,c⟩
  ·rw[if_neg (by omega),hp.h0];exact b.symm
  ·rw[if_pos ⟨a,by rw[b];exact ht⟩,b];exact c.symm
 have w0:(if ps.length=2/\(pAt ps 1).2<=ask then(pAt ps 1).1 else(pAt ps 0).1)=fr:=by
  rcases hp.h1 with⟨a,b⟩|⟨a,b,c⟩
  ·rw[if_neg (by omega),hp.h0]
  ·rw[if_neg (by rw[b];show ¬(_/\T<=ask);omega),hp.h0]
 have hv1:ba nu (aV fr x y) 1=ba nu ps 1:=by
  show kM (aX [6,nu,((0:Nat):Int),(pAt (aV fr x y) 0).1,(pAt (aV fr x y) 0).2]++[])=kM (aX [6,nu,((0:Nat):Int),(pAt ps 0).1,(pAt ps 0).2]++[])
  rw[hp.h0];rfl
 have hlie:∃K,(1<=K/\K<=2/\K<=ps.length)/\(K=2->ba nu ps 2=ba nu (aV fr x y) 2) ∧
   kl n keysC nu (yM fr x y) (bD nu Po)=some (nu,aQ (aV fr x y) (fun st=>prL nu (st:Int) (ba nu (aV fr x y) (st+1)) (bG st (ba nu (aV fr x y) (st+1)) Po)) K,0):=by
  have hh0:¬fJ (bG 0 (ba nu (aV fr x y) 1) Po)<3:=by
   rw[hmask];exact uW _ _ _ hli (by unfold hit;rw[decide_eq_true (by omega),decide_eq_true hv1.symm];rfl)
  have e0:ee n keysC nu ((0:Nat):Int) (ba nu (aV fr x y) (0+1)) (bD nu Po)=some (prL nu ((0:Nat):Int) (ba nu (aV fr x y) (0+1)) (bG 0 (ba nu (aV fr x y) (0+1)) Po),true):=by
   rw[hprove 0 _ (by omega) (iu nu _ 0),if_neg hh0]
  by_cases hc:ps.length=2/\ba nu ps 2=ba nu (aV fr x y) 2
  ·have hh1:¬fJ (bG 1 (ba nu (aV fr x y) 2) Po)<3:=by
    rw[hmask];exact uW _ _ _ hli (by unfold hit;rw[decide_eq_true (by omega),decide_eq_true hc.2];rfl)
   refine⟨2,⟨by omega,by omega,by omega⟩,fun _=>hc.2,oP n nu (aV fr x y) (yM fr x y) (bD nu Po) _ 2 (by omega) hq (xA fr x y) ⟨by omega,Nl 2⟩ (fun k hk=>?_) (fun g=>absurd g (Nat.lt_irrefl 2))⟩
   rcases k with _|_|k
   ·exact e0
   ·rw[hprove 1 _ (by omega) (iu nu _ 1),if_neg hh1]
   ·omega
  ·have hh1:fJ (bG 1 (ba nu (aV fr x y) 2) Po)<3:=by
    rw[hmask];refine JN _ _ _ hli ?_
    unfold hit;by_cases h2:ps.length=2
    ·rw[decide_eq_false (fun g=>hc ⟨h2,g⟩),Nh]
    ·rw[decide_eq_false (show ¬1<ps.length by omega),Bool.false_and]
   refine⟨1,⟨by omega,by omega,by omega⟩,fun g=>by omega,oP n nu (aV fr x y) (yM fr x y) (bD nu Po) _ 1 (by omega) hq (xA fr x y) ⟨by omega,show 1<=2 by omega⟩ (fun k hk=>?_) (fun g=>?_)⟩
   ·obtain rfl:k=0:=by omega
    exact e0
   ·refine⟨([]:Lv),?_⟩
    rw[hprove 1 _ (by omega) (iu nu _ 1),if_pos hh1]
 obtain⟨K,hK,hv2,eL⟩:=hlie;have e19:=K3 n nu fr x y ps (dS ps) (fun st=>prL nu (st:Int) (ba nu (aV fr x y) (st+1)) (bG st (ba nu (aV fr x y) (st+1)) Po)) K hn hf hx hy h (EB ps) (MA ps) hp.h0 hK hv2
 have hy6:=dm v17 (k:=1000000) (by omega)
 unfold cK;rw[dF (by omega),eP]
 rw[bS];dsimp only;rw[nT rfl,nT (by rw[de,Jq]),eC]
 rw[bS];rw[bnt,ia n v17 1000000 (by omega) h17.1 h17.2]
 rw[bS];rw[inn (by omega) (by omega),eW en (by omega)]
 rw[bS];dsimp only;rw[bnt,nT (w1 en (by omega)),eW (b9 (en+pk v17 1000000) 20000000) (by unfold b9;split<;>omega)]
 rw[bS];dsimp only;rw[bnt,nT (w1 _ (by unfold b9;split<;>omega)),eW ask (by omega)]
 rw[bS];dsimp only;rw[bnt,nT w0,eL];rw[bS];dsimp only;rw[nT rfl,dF (by rw[de,Jq];omega)]
 exact e19
theorem Lu(hn:2000<=n)(h10:I64 v10)(h16:I64 v16)(h17:I64 v17)(hf:0<=fr/\fr<=7)(h:Fmd nu ps)(hp:Ps fr to T want ps)(hT:0<=ask/\ask<T/\T<=en/\en<=20000000):
  iq n v10 v16 v17 nu fr ask want en 0 want 0 fr 0 nu (dS ps) 0=some true:=by
 have hx:=dm v10 (k:=7) (by omega)
 have hy:=dm v17 (k:=1000) (by omega)
 unfold iq;rw[nT rfl];unfold mC;rw[nT rfl];unfold mD;rw[nT rfl];unfold l6;rw[nT rfl];unfold l3;rw[nT rfl];unfold lS;rw[nT rfl,wR n (by omega)]
 rw[bS];rw[inn (by omega) (by omega),ia n v10 7 (by omega) h10.1 h10.2]
 rw[bS];rw[inn (by omega) (by omega),ia n v17 1000 (by omega) h17.1 h17.2]
 rw[bS];rw[inn (by omega) (by omega)]
 exact Li n nu fr to T ask en want ps v16 v17 hn h16 h17 hf _ _ hx hy h hp hT
end
section
variable (n:Nat) (nu fr to ho ask v10 v11 v12 v13 v14 v15 v16 v17:Int)
theorem Lm(an co se re:Int)(b:Bool)(E:Lv)(hn:2000<=n)(h10:I64 v10)(h16:I64 v16)(h17:I64 v17)(hr:Rul an co se re)(hc:Clm nu fr to ho ask)(hE:E=[]\/E=eI ask):
  eU n v10 v16 v17 nu fr ask nu fr an co se re (bU ho) (bp nu fr to ho ask b E) (if cd b E then to else fr)=some true:=by
 have h6:=hc.h6;have h1:=hc.h1;have h2:=hc.h2;have h3:=hc.h3;have h4:=hc.h4;obtain⟨r1,r2,r3,r4⟩:=hr;have hr:Rul an co se re:=⟨r1,r2,r3,r4⟩
 obtain⟨l1,e1⟩:=A2 n an co se re nu fr to ho ask b E (ask+an-1+se+co+re) (by omega) hr hc hE (by omega)
 obtain⟨l2,e2⟩:=A2 n an co se re nu fr to ho ask b E ask (by omega) hr hc hE (by omega)
 have e3:=CW n an co se re nu fr to ho ask b E (ask+an-1+se+co+re) (by omega) hr hc hE (by omega)
 have w1:(if cd b E/\ask+an+co<=ask+an-1+se+co+re then to else fr)=if cd b E then to else fr:=by
  by_cases g:cd b E
  ·rw[if_pos g,if_pos ⟨g,by omega⟩]
  ·rw[if_neg g,if_neg (fun k=>g k.1)]
 rw[w1]at e1;rw[if_neg (by omega)]at e2
 unfold eU;rw[Bl n an co se re nu fr to ho ask b E (by omega) hr hc hE]
 rw[bS];dsimp only;rw[e1];rw[bS];rw[e2];rw[bS];rw[e3];rw[bS];refine Lu n nu fr to (ask+an+co) ask (ask+an-1+se+co+re) (if cd b E then to else fr) (sH (cd b E) fr to (ask+an+co)) v10 v16 v17 hn h10 h16 h17 h2 ?_ ?_ (by omega)
 ·unfold sH
  by_cases g:cd b E
  ·rw[if_pos g]
   refine⟨h1,⟨show 1<=2 by omega,show 2<=2 by omega⟩,fun i hi=>?_,fun i hi=>?_,fun _=>⟨h4,show 0<ask+an+co by omega⟩⟩
   ·have:i<2:=hi
    rcases i with _|_|i
    ·exact h2
    ·exact h3
    ·omega
   ·have:i<2:=hi
    rcases i with _|_|i
    ·exact⟨Nw _,show(0:Int)<=20000000 by decide⟩
    ·exact⟨show 0<=ask+an+co by omega,show ask+an+co<=20000000 by omega⟩
    ·omega
  ·rw[if_neg g]
   refine⟨h1,⟨show 1<=1 by omega,show 1<=2 by omega⟩,fun i hi=>?_,fun i hi=>?_,fun hh=>absurd hh (show ¬1<1 by decide)⟩
   ·have:i<1:=hi
    obtain rfl:i=0:=by omega
    exact h2
   ·have:i<1:=hi
    obtain rfl:i=0:=by omega
    exact⟨Nw _,show(0:Int)<=20000000 by decide⟩
 ·unfold sH
  by_cases g:cd b E
  ·rw[if_pos g,if_pos g]
   exact⟨rfl,.inr ⟨rfl,rfl,rfl⟩⟩
  ·rw[if_neg g,if_neg g]
   exact⟨rfl,.inl ⟨rfl,rfl⟩⟩
theorem Mf(b:Bool)(E:Lv)(hn:2000<=n)(h10:I64 v10)(h12:I64 v12)(h13:I64 v13)(h14:I64 v14)(h15:I64 v15)(h16:I64 v16)(h17:I64 v17)(hc:Clm nu fr to ho ask)(hE:E=[]\/E=eI ask):
  fK n v10 v12 v13 v14 v15 v16 v17 nu fr to ho ask b b E=some true:=by
 obtain⟨an,co,se,re,e,hr⟩:=xN n v12 v13 v14 v15 h12 h13 h14 h15;have h11:=Lm n nu fr to ho ask v10 v16 v17 an co se re b E hn h10 h16 h17 hr hc hE;unfold fK;rw[e];rw[bS];rw[show Dx n an co se re nu fr to ho ask b E=some (nu,fr,an,co,se,re,bU ho,bp nu fr to ho ask b E)from rfl]
 rw[bS];show ir n (fun s=>eU n v10 v16 v17 nu fr ask nu fr an co se re (bU ho) (bp nu fr to ho ask b E) s) fr to b E=_
 unfold ir;cases b with
 |true=>
  rw[if_pos (.inr rfl)]at h11;rw[bnt];exact h11
 | false=>
  rcases hE with rfl|rfl
  ·rw[if_pos (.inl rfl)]at h11
   rw[bnf,dF (by decide)]
   exact h11
  ·rw[if_neg (by rintro (h|h)<;>cases h)]at h11
   rw[bnf,dT (show(0:Int)<((eI ask).length:Int)from(by decide:(0:Int)<1))]
   exact h11
theorem LG(b:Bool)(hn:2000<=n)(h10:I64 v10)(h11:I64 v11)(h12:I64 v12)(h13:I64 v13)(h14:I64 v14)(h15:I64 v15)(h16:I64 v16)(h17:I64 v17)(hc:Clm nu fr to ho ask):
  i6 n v10 v11 v12 v13 v14 v15 v16 v17 nu fr to ho ask b b=some true:=by
 have h9:=fun E hE=>Mf n nu fr to ho ask v10 v12 v13 v14 v15 v16 v17 b E hn h10 h12 h13 h14 h15 h16 h17 hc hE
 show iY n (fun s=>fK n v10 v12 v13 v14 v15 v16 v17 nu fr to ho ask b b s) v11 ask=_
 unfold iY;rw[ia n v11 2 (by omega) h11.1 h11.2]
 rw[bS];by_cases h:pk v11 2=1
 ·rw[dT h];exact h9 _ (.inr rfl)
 ·rw[dF h];exact h9 _ (.inl rfl)
end
theorem cnd{α:Type}{c b:Bool}{x g:α}(h:c=true->b=true):(bif c then(bif !b then x else g)else g)=g:=by
 cases c
 ·rfl
 ·rw[h rfl];rfl
section
variable (n:Nat) (nu fr to ho ask v10 v11 v12 v13 v14 v15 v16 v17:Int)
theorem L5(b:Bool)(v18 v19 v20 v21 v22 v23 v24 v25:Int)(v26:List UInt8)(v34 v35 v36 v37 v38 v39 v40 v41:Int)(v42:List UInt8)(hn:2000<=n)(h10:I64 v10)(h11:I64 v11)(h12:I64 v12)(h13:I64 v13)(h14:I64 v14)(h15:I64 v15)(h16:I64 v16)(h17:I64 v17)(hc:Clm nu fr to ho ask)
  (hb:v34=v18->v35=v19->v36=v20->v37=v21->v38=v22->v39=v23->v40=v24->v41=v25->v42=v26->b=true):
  i7 n v10 v11 v12 v13 v14 v15 v16 v17 v18 v19 v20 v21 v22 v23 v24 v25 v26 v34 v35 v36 v37 v38 v39 v40 v41 v42 nu fr to ho ask b 0 b=some true:=by
 have h7:=LG n nu fr to ho ask v10 v11 v12 v13 v14 v15 v16 v17 b hn h10 h11 h12 h13 h14 h15 h16 h17 hc;show i8 n (fun s=>i6 n v10 v11 v12 v13 v14 v15 v16 v17 nu fr to ho ask b b) v18 v19 v20 v21 v22 v23 v24 v25 v26 v34 v35 v36 v37 v38 v39 v40 v41 v42 b 0 b=_
 unfold i8;rw[nT rfl,show(b==b)=true from by cases b<;>rfl,bnt]
 refine(cnd ?_).trans h7
 intro h;simp only[Nx,decide_eq_true_eq,beq_iff_eq]at h;obtain⟨a1,a2,⟨a3,a4⟩,a5,a6,⟨a7,a8⟩,a9⟩:=h;exact hb a1 a2 a3 a4 a5 a6 a7 a8 a9
theorem LD(L:List Px)(sg a bb ca se c d:Int)(v34 v35 v36 v37 v38 v39 v40 v41:Int)(v42:List UInt8)(hn:2000<=n)(h10:I64 v10)(h11:I64 v11)(h12:I64 v12)(h13:I64 v13)(h14:I64 v14)(h15:I64 v15)(h16:I64 v16)(h17:I64 v17)
  (hL:Chn ho L sg a bb c d) (hl:L.length<=4) (hca:0<=ca/\ca<=7) (hse:0<=se/\se<1000) (hc:Clm a fr ca ho c):
  fH n v10 v11 v12 v13 v14 v15 v16 v17 sg ho a bb ca se c d (db (fk sg) (aX [1,sg,ho,a,bb,ca,se,c,d])) (aN L) a fr ca ho c false v34 v35 v36 v37 v38 v39 v40 v41 v42=some true:=by
 obtain⟨y,ey,hy⟩:=EU n L v34 v35 v36 v37 v38 v39 v40 v41 v42 a c (by omega) hl hL.okAt
 have h5:=L5 n a fr ca ho c v10 v11 v12 v13 v14 v15 v16 v17 (decide (v38=ca)&&(decide (v35=ho)&&y)) sg ho a bb ca se c d (db (fk sg) (aX [1,sg,ho,a,bb,ca,se,c,d])) v34 v35 v36 v37 v38 v39 v40 v41 v42 hn h10 h11 h12 h13 h14 h15 h16 h17 hc (by
  intro a1 a2 a3 a4 a5 a6 a7 a8 a9;obtain⟨k1,k2,k3,k4⟩:=hL.bd;have g:aB L v34 v35 v36 v37 v38 v39 v40 v41 v42 a c:=by
   subst a1 a2 a3 a4 a5 a6 a7 a8 a9;exact⟨by omega,by omega,by omega,by omega,by omega,by omega,by omega,by omega,hL.link,hL.nest.1,hL.nest.2,rfl⟩
  rw[hy g,decide_eq_true a5,decide_eq_true a2];rfl)
 unfold fH;rw[wq n (by omega)]
 rw[bS];rw[Ej n L v34 v35 v36 v37 v38 v39 v40 v41 v42 a fr ca ho c false y hc ey];rw[bS];show iZ n (fun s=>i7 n v10 v11 v12 v13 v14 v15 v16 v17 sg ho a bb ca se c d (db (fk sg) (aX [1,sg,ho,a,bb,ca,se,c,d])) v34 v35 v36 v37 v38 v39 v40 v41 v42 a fr ca ho c (decide (v38=ca)&&(decide (v35=ho)&&y)) 0 s) (aN L) a ca ho c v34 v35 v36 v37 v38 v39 v40 v41 v42=_
 unfold iZ;rw[wq n (by omega)]
 rw[bS];rw[ey];rw[bS];cases y with
 | true=>
  rw[bt];by_cases e1:v38=ca
  ·rw[decide_eq_true e1]at h5⊢
   rw[bt];by_cases e2:v35=ho
   ·rw[decide_eq_true e2]at h5⊢;exact h5
   ·rw[decide_eq_false e2]at h5⊢;exact h5
  ·rw[decide_eq_false e1]at h5⊢;exact h5
 |false=>
  rw[bf];rw[Nh,Nh]at h5⊢
  exact h5
end
theorem Bm(n:Nat)(v0 v1 v2 v3 v4 v5 v6:Int)(v7:Lv)(v8 v9 v10 v11 v12 v13 v14 v15 v16 v17:Int)(hn:2000<=n)(h0:I64 v0)(h1:I64 v1)(h2:I64 v2)(h3:I64 v3)(h4:I64 v4)(h5:I64 v5)(h6:I64 v6)(h7:LvI v7)(h8:I64 v8)(h9:I64 v9)
  (h10:I64 v10) (h11:I64 v11) (h12:I64 v12) (h13:I64 v13) (h14:I64 v14) (h15:I64 v15) (h16:I64 v16) (h17:I64 v17):
  o7 n v0 v1 v2 v3 v4 v5 v6 v7 v8 v9 v10 v11 v12 v13 v14 v15 v16 v17=some true:=by
 obtain⟨L,sg,ho,a,bb,ca,se,c,d,hL,hl,hca,hse,e⟩:=Ev n v0 v1 v2 v3 v4 v5 v6 v7 (by omega) h0 h1 h2 h3 h4 h5 h6 h7
 obtain⟨k1,k2,k3,k4⟩:=hL.bd;have hp:=dm v8 (k:=7) (by omega)
 have ht:Na ((ca+1)+pk v8 7) 8=((ca+1)+pk v8 7) % 8:=Nn (by omega)
 have hm:yT n v0 v1 v2 v3 v4 v5 v6 v7 v8=some (sg,ho,a,bb,ca,se,c,d,db (fk sg) (aX [1,sg,ho,a,bb,ca,se,c,d]),aN L,a,Na ((ca+1)+pk v8 7) 8,ca,ho,c,false):=by
  show uw n v0 v1 v2 v3 v4 v5 v6 v7 v8=_
  unfold uw;rw[e];rw[bS];dsimp only[Dq]
  refine(inn (x:=ca+1) (by omega) (by omega)).trans ?_
  rw[ia n v8 7 (by omega) h8.1 h8.2]
  rw[bS];exact inn (x:=ca+1+pk v8 7) (by omega) (by omega)
 have hc:Clm a (Na ((ca+1)+pk v8 7) 8) ca ho c:=⟨by omega,by omega,by omega,by omega,by omega,by omega⟩
 have hs:=fun w34 w35 w36 w37 w38 w39 w40 w41 w42=>LD n (Na ((ca+1)+pk v8 7) 8) ho v10 v11 v12 v13 v14 v15 v16 v17 L sg a bb ca se c d w34 w35 w36 w37 w38 w39 w40 w41 w42 hn h10 h11 h12 h13 h14 h15 h16 h17 hL hl hca hse hc
 show i5 n v0 v1 v2 v3 v4 v5 v6 v7 v8 v9 v10 v11 v12 v13 v14 v15 v16 v17=_
 unfold i5;rw[hm];rw[bS];show jb n (fun(s:eV)=>fH n v10 v11 v12 v13 v14 v15 v16 v17 sg ho a bb ca se c d (db (fk sg) (aX [1,sg,ho,a,bb,ca,se,c,d])) (aN L) a (Na ((ca+1)+pk v8 7) 8) ca ho c false s.1 s.2.1 s.2.2.1 s.2.2.2.1 s.2.2.2.2.1 s.2.2.2.2.2.1 s.2.2.2.2.2.2.1 s.2.2.2.2.2.2.2.1 s.2.2.2.2.2.2.2.2) v9 v10 sg ho a bb ca se c d (db (fk sg) (aX [1,sg,ho,a,bb,ca,se,c,d]))=_
 unfold jb;rw[ia n v9 3 (by omega) h9.1 h9.2]
 rw[bS];by_cases h:pk v9 3=2
 ·have td:=AH h9 (k:=3) (by omega)
  have i64:∀z:Int,0<=z->z<=100000->I64 z:=fun z a b=>⟨by omega,by omega⟩
  obtain⟨w0,w1,w2,w3,w4,w5,w6,w7,bo,eb,_⟩:=zI n sg ho a bb ca se c d (db (fk sg) (aX [1,sg,ho,a,bb,ca,se,c,d])) (Np v9 3) v10 td (by omega) (i64 _ (by omega) (by omega)) (i64 _ (by omega) (by omega)) (i64 _ (by omega) (by omega)) (i64 _ (by omega) (by omega)) (i64 _ (by omega) (by omega)) (i64 _ (by omega) (by omega)) (i64 _ (by omega) (by omega)) h10 (i64 _ (by omega) (by omega))
  rw[dT h,inn td.1 td.2,eb];rw[bS];exact hs _ _ _ _ _ _ _ _ _
 ·rw[dF h]
  exact hs _ _ _ _ _ _ _ _ _
end
end Go.Proofs.YtkgphkdlbjinmaaGreatDoor
namespace Go.Proofs.YtkgphkdlbjinmaaGreatDoor
open Go Go.ChangeShapes Go.WideShapes Go.ChangeAt Go.WideMaps Go.WideElems Go.RowKit Go.Dial Go.Sx
theorem dE{n:Int}(h:AVok (.int n)):I64 n:=by
 cases h with
 |int n h=>exact h
theorem Mh{v:Lv}(h:∀r∈v,∀x∈r,AVok x):LvI v:=by
 intro i k;have z:(-9223372036854775808<=(0:Int)/\(0:Int)<=9223372036854775807):=by decide
 show -9223372036854775808<=AV.i ((v.getD i.toNat []).getD k (.int 0))/\AV.i ((v.getD i.toNat []).getD k (.int 0))<=9223372036854775807
 by_cases hi:i.toNat<v.length
 ·have hr:v.getD i.toNat []=v[i.toNat]:=by simp[Nb,M9 hi]
  rw[hr];by_cases hk:k<(v[i.toNat]).length
  ·have hx:(v[i.toNat]).getD k (.int 0)=(v[i.toNat])[k]:=by simp[Nb,M9 hk]
   rw[hx];have ha:=h _ (Nq hi) _ (Nq hk);cases hq:(v[i.toNat])[k]with
   |int n=>rw[hq]at ha;exact dE ha
   |bool b=>exact z
   |raw s=>exact z
   |sl t l=>exact z
   |agg l=>exact z
  ·have hx:(v[i.toNat]).getD k (.int 0)=.int 0:=by simp only[Nb];rw[Nk (by omega)];rfl
   rw[hx];exact z
 ·have hr:v.getD i.toNat []=[]:=by simp only[Nb];rw[Nk (by omega)];rfl
  rw[hr];exact z
theorem MB{t:Ty}{l:Lv}(h:AVok (.sl t l)):LvI l:=by
 cases h with
 |sl t l h hty hr=>exact Mh hr
theorem tt:∀s:bg (Ps.tys top_TopWishCounts_t.ps),KO (Ps.tys top_TopWishCounts_t.ps) s->∃n z,top_TopWishCounts_t.fn n s=some z/\qy top_TopWishCounts_t.sh z=.b true:=by
 rintro ⟨v0,v1,v2,v3,v4,v5,v6,v7,v8,v9,v10,v11,v12,v13,v14,v15,v16,v17⟩ hs;have hr:∀x∈([.int v0,.int v1,.int v2,.int v3,.int v4,.int v5,.int v6,.sl (.cons .int (.cons .int (.cons .int (.cons .int (.cons .int .nil))))) v7,.int v8,.int v9,.int v10,.int v11,.int v12,.int v13,.int v14,.int v15,.int v16,.int v17]:List AV),AVok x:=hs
 exact⟨2000,true,Bm 2000 v0 v1 v2 v3 v4 v5 v6 v7 v8 v9 v10 v11 v12 v13 v14 v15 v16 v17 (Nl _) (dE (hr _ (by simp))) (dE (hr _ (by simp))) (dE (hr _ (by simp))) (dE (hr _ (by simp))) (dE (hr _ (by simp))) (dE (hr _ (by simp))) (dE (hr _ (by simp))) (MB (hr (.sl (.cons .int (.cons .int (.cons .int (.cons .int (.cons .int .nil))))) v7) (by simp))) (dE (hr _ (by simp))) (dE (hr _ (by simp))) (dE (hr _ (by simp))) (dE (hr _ (by simp))) (dE (hr _ (by simp))) (dE (hr _ (by simp))) (dE (hr _ (by simp))) (dE (hr _ (by simp))) (dE (hr _ (by simp))) (dE (hr _ (by simp))),rfl⟩
theorem MV:ownKnob Tryz.prog.godebug=none:=by kernel_rfl
theorem JT:laidOutB Tryz.prog=true:=by kernel_rfl
abbrev AN:List (String×DataW Unit):=[("math/bits.deBruijn32tab",Rows.laid_math_bits_deBruijn32tab),("math/bits.deBruijn64tab",Rows.laid_math_bits_deBruijn64tab),("dialtone/digest.round",Rows.laid_dialtone_digest_round)]
theorem Kn(os:Os)(args:Array Value):laidMetH Tryz.prog AN ((World.doorLaid Tryz.prog 400 os).forCall (fun _ _=>0) ⟨#[],args,[]⟩).memory:=
 laidMetH_of_parts3 (fuel:=8) (laidMet_of_run' 8 (by kernel_rfl) (by kernel_rfl)) (by kernel_rfl) (by kernel_rfl)
theorem gN0:Tryz.prog.globalNamed "math/bits.deBruijn32tab" = some 0:=by kernel_rfl
theorem gN1:Tryz.prog.globalNamed "math/bits.deBruijn64tab" = some 1:=by kernel_rfl
theorem gN2:Tryz.prog.globalNamed "dialtone/digest.round" = some 2:=by kernel_rfl
theorem gT0:(Tryz.prog.globals[0]?).map (·.type)=some 251:=by kernel_rfl
theorem gT1:(Tryz.prog.globals[1]?).map (·.type)=some 252:=by kernel_rfl
theorem gT2:(Tryz.prog.globals[2]?).map (·.type)=some 291:=by kernel_rfl
theorem yI{W:World}{name:String}{g t e n:Nat}{k:IntKind}{zs:List Int}{cs:Array Value}{f:Nat}{p:List MemPlace}(hg:Tryz.prog.globalNamed name=some g)(ht:Tryz.prog.underlying t=some (.array n e))(he:Tryz.prog.underlying e=some (.int k))(hce:Tryz.prog.cellsOf e=1)(hct:Tryz.prog.cellsOf t=n)
  (hv:W.var? Tryz.prog name=some cs) (hd:DataW.trod (fun _=>()) Tryz.prog W 0 (fun _=>true) false f t cs.toList=some (Lib.tabData k zs,p)) (hz:0<zs.length) (hm:zs.length<=maxLen):
  (g<W.heap.size)/\zs.length<=maxLen/\∀(i:Nat) n,zs[i]?=some n->W.cell? ⟨g,i,none⟩=some (.int k n):=by
 have hcs:=Lib.cells_of_tab (k:=k) ht he hce hct hd;have hc:∀(i:Nat) n,zs[i]?=some n->W.cell? ⟨g,i,none⟩=some (.int k n):=by
  intro i n hi;rw[World.var?_cell hg hv i,<-Array.getElem?_toList,hcs,No,hi];rfl
 refine⟨?_,hm,hc⟩
 exact World.block_lt_of_cell? W _ (hc 0 zs[0] (M9 hz))
theorem EZ{W:World}(h:laidMetH Tryz.prog AN W):GlobOK (fun k=>k<W.heap.size) W:=by
 rw[MakeChecks.laidMetH_plain _ _ _ (by kernel_rfl)]at h
 obtain⟨ps,⟨g0,t0,cs0,f0,p0,q0,hg0,ht0,hv0,hd0,⟨g1,t1,cs1,f1,p1,q1,hg1,ht1,hv1,hd1,⟨g2,t2,cs2,f2,p2,q2,hg2,ht2,hv2,hd2,_,_⟩,_⟩,_⟩,_,_⟩:=h;obtain rfl:=Option.some.inj (gN0.symm.trans hg0)
 obtain rfl:=Option.some.inj (gN1.symm.trans hg1)
 obtain rfl:=Option.some.inj (gN2.symm.trans hg2)
 obtain rfl:=Option.some.inj (gT0.symm.trans ht0)
 obtain rfl:=Option.some.inj (gT1.symm.trans ht1)
 obtain rfl:=Option.some.inj (gT2.symm.trans ht2)
 intro x hx;have hx':x=globL.getD 0 (0,.u8,[])\/x=globL.getD 1 (0,.u8,[])\/x=globL.getD 2 (0,.u8,[]):=by
  rcases List.mem_cons.1 hx with h|hx
  ·exact .inl h
  rcases List.mem_cons.1 hx with h|hx
  ·exact .inr (.inl h)
  rcases List.mem_cons.1 hx with h|hx
  ·exact .inr (.inr h)
  ·cases hx
 rcases hx' with rfl|rfl|rfl
 ·exact yI (k:=.u8) (zs:=(globL.getD 0 (0,.u8,[])).2.2) hg0 Tryz.underlying251 Tryz.underlying5 (by kernel_rfl) (by kernel_rfl) hv0 hd0 (by decide) (by decide)
 ·exact yI (k:=.u8) (zs:=(globL.getD 1 (0,.u8,[])).2.2) hg1 Tryz.underlying252 Tryz.underlying5 (by kernel_rfl) (by kernel_rfl) hv1 hd1 (by decide) (by decide)
 ·exact yI (k:=.u32) (zs:=(globL.getD 2 (0,.u8,[])).2.2) hg2 Tryz.underlying291 Tryz.underlying210 (by kernel_rfl) (by kernel_rfl) hv2 hd2 (by decide) (by decide)
end Go.Proofs.YtkgphkdlbjinmaaGreatDoor
