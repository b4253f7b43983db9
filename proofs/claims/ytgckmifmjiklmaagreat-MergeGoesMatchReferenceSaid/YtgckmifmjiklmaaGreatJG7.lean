/-
  Texts of this claim, joined (part 7).
-/
import Derived.Test.YtgckmifmjiklmaaGreatJG6
set_option linter.unusedVariables false
set_option linter.unusedSimpArgs false
set_option linter.unusedSectionVars false
set_option linter.constructorNameAsVariable false
set_option maxRecDepth 100000
namespace Go.Proofs.YtgckmifmjiklmaaGreat
open Go Go.Sx Go.Dial.Clm
theorem Rp{v:Int}(h:ae v):ae (Int.tdiv v 4):=by
 unfold ae at h⊢
 rcases Int.le_total 0 v with h0|h0
 ·rw[Int.tdiv_eq_ediv_of_nonneg h0];omega
 ·obtain⟨w,rfl⟩:∃w,v= -w:=⟨-v,by omega⟩
  rw[Int.neg_tdiv,Int.tdiv_eq_ediv_of_nonneg (by omega)];omega
theorem NY{l:Int}{es:List Ce}{e:Ce}:EvV l (es++[e])↔EvV l es/\CeV ((es.getLast?.map (·.a)).getD l) e:=by
 induction es generalizing l with
 |nil=>simp[EvV]
 | cons x es ih=>
  simp only[List.cons_append,EvV,ih,and_assoc];cases es with
  |nil=>simp
  | cons y es=>
   have:((y::es).getLast?.map (·.a)).getD x.a=((x::y::es).getLast?.map (·.a)).getD l:=by
    rw[List.getLast?_cons_cons];cases h:(y::es).getLast? with
    |none=>simp at h
    |some z=>rfl
   rw[this]
theorem Q2{r:Rl}(hr:r.a<=86400/\r.c<=86400/\r.s<=86400/\r.r<=86400){c:Cl}{es:List Ce}{t:Int}(h0:c.a<=t)(ht:0<=t):(yV r c es t).n<=t+86400:=by
 have hd:∀s,dur r s<=86400:=fun s=>by unfold dur;split;omega;split;omega;split<;>omega
 have hst:∀s f,f<=t->0<=t->(st r s f).n<=t+86400:=fun s f hf ht=>by
  simp only[st];split
  ·have:=hd s;omega
  ·omega
 have hall:∀x∈an r c es,∃s f,x=st r s f:=by
  intro x hx;unfold an at hx;rcases List.mem_cons.1 hx with rfl|hx
  ·exact⟨_,_,rfl⟩
  ·exact zY (r:=r) (b:=c.b) (fun x=>∃s f,x=st r s f) (fun _ _=>True) (fun _ _ _ _ _ _=>⟨⟨_,_,rfl⟩,trivial⟩) (fun _ _ _ _ _ _=>trivial) (fun _ _ _ _ _ _=>⟨⟨_,_,rfl⟩,trivial⟩) (fun _ _ _=>⟨⟨_,_,rfl⟩,trivial⟩) _ _ _ (Nat.le_refl _) trivial x hx
 unfold yV;cases hl:(de t (an r c es)).getLast? with
 |none=>simp only[Option.getD_none];omega
 | some x=>
  have hm:=List.mem_of_getLast? hl;have h1:x.f<=t:=by
   unfold de at hm;have:=List.all_eq_true.1 List.all_takeWhile x hm
   simpa using this
  have h2:x∈an r c es:=by unfold de at hm;exact(List.takeWhile_sublist _).subset hm
  obtain⟨s,f,rfl⟩:=hall x h2;simp only[Option.getD_some];have:f<=t:=h1
  simp only[st];split
  ·have:=hd s;omega
  ·omega
def mrR(a b c d:Int):Rl:=⟨mr a,mr b,mr c,mr d⟩
theorem Gd(a b c d:Int):(mrR a b c d).a<=86400/\(mrR a b c d).c<=86400/\(mrR a b c d).s<=86400/\(mrR a b c d).r<=86400:=by
 have:=qF a;have:=qF b;have:=qF c;have:=qF d
 unfold mrR;simp only;omega
theorem Mj(a b c d:Int):RlV (mrR a b c d):=by
 have:=qF a;have:=qF b;have:=qF c;have:=qF d
 unfold RlV mrR;simp only;omega
theorem zL(n:Nat)(a b c d e0 e1 e2 e3 e4 e5:Int)(xs:List (Int×Int×Int))(ha:ae a)(hb:ae b)(hc:ae c)(hd:ae d)(h0:ae e0)(h1:ae e1)(h2:ae e2)(h3:ae e3)(h4:ae e4)(h5:ae e5)
  (hx:∀x∈xs,ae x.1/\ae x.2.1/\ae x.2.2) (hn:200<n):
  ∃(C:Cl) (es:List Ce),iP n a b c d e0 e1 e2 e3 e4 e5 (xs.map bG)=some (mr a,mr b,mr c,mr d,C.n,C.f,C.t,C.h,C.a,C.b,ceL es)/\cD (mrR a b c d) C es/\C.a<1000/\es.length<=10/\∀e∈es,e.a<=900000:=by
 obtain⟨y4,hy4⟩:∃y,y=pk e0 100000000:=⟨_,rfl⟩
 obtain⟨y5,hy5⟩:∃y,y=pk e1 8:=⟨_,rfl⟩
 obtain⟨y7,hy7⟩:∃y,y=pk e3 64:=⟨_,rfl⟩
 obtain⟨y8,hy8⟩:∃y,y=pk e4 1000:=⟨_,rfl⟩
 obtain⟨y9,hy9⟩:∃y,y=pk e5 2:=⟨_,rfl⟩
 obtain⟨y6,hy6⟩:∃y,y=pk e2 7:=⟨_,rfl⟩
 have b4:=aY e0 (k:=100000000) (by decide)
 have b5:=aY e1 (k:=8) (by decide)
 have b7:=aY e3 (k:=64) (by decide)
 have b8:=aY e4 (k:=1000) (by decide)
 have b6:=aY e2 (k:=7) (by decide)
 rw[<-hy4]at b4;rw[<-hy5]at b5;rw[<-hy7]at b7;rw[<-hy8]at b8;rw[<-hy6]at b6;obtain⟨C,hC⟩:∃C:Cl,C=⟨y4,y5,Int.tmod ((y5+1)+y6) 8,y7,y8,decide (y9=0)⟩:=⟨_,rfl⟩
 have hT:Int.tmod ((y5+1)+y6) 8=((y5+1)+y6) % 8:=Int.tmod_eq_emod_of_nonneg (by omega)
 have hCV:ClV C:=by rw[hC];unfold ClV;simp only[hT];omega
 have hCa:C.a=y8:=by rw[hC]
 have main:∃q:cW,iP n a b c d e0 e1 e2 e3 e4 e5 (xs.map bG)=some q/\∃es,q=(mr a,mr b,mr c,mr d,C.n,C.f,C.t,C.h,C.a,C.b,ceL es)/\EvV C.a es/\es.length<=10/\∀e∈es,e.a<=900000:=by
  unfold iP zA;have n1:(-9223372036854775808:Int)<=y5+1:=by omega
  have n2:y5+1<=(9223372036854775807:Int):=by omega
  have n3:(-9223372036854775808:Int)<=y5+1+y6:=by omega
  have n4:y5+1+y6<=(9223372036854775807:Int):=by omega
  simp only[nG n a b c d ha hb hc hd,aO n h0 (show(0:Int)<100000000 by decide),aO n h1 (show(0:Int)<8 by decide),aO n h3 (show(0:Int)<64 by decide),aO n h4 (show(0:Int)<1000 by decide),aO n h5 (show(0:Int)<2 by decide),aO n h2 (show(0:Int)<7 by decide),Option.bind_some,<-hy4,<-hy5,<-hy6,<-hy7,<-hy8,<-hy9,n1,n2,n3,n4,decide_true,Bool.and_self]
  simp only[cond_true];refine ir (fun s=>∃(es:List Ce) (last:Int) (i:Nat),s=(ceL es,last,(i:Int))/\es.length=i/\i<=10/\EvV C.a es/\last=(es.getLast?.map (·.a)).getD C.a/\C.a<=last/\last<=1000+86402*i/\∀e∈es,e.a<=900000) (fun s=>10-s.2.2.toNat) (fun q=>∃es,q=(mr a,mr b,mr c,mr d,C.n,C.f,C.t,C.h,C.a,C.b,ceL es)/\EvV C.a es/\es.length<=10/\∀e∈es,e.a<=900000) ?_ n _
   ⟨[],y8,0,rfl,rfl,by omega,trivial,by rw[hCa];rfl,by omega,by omega,fun e he=>by cases he⟩ (by simp;omega)
  rintro _ go ⟨es,last,i,rfl,hl,hi,hE,hlast,hl0,hl1,hea⟩ ih;simp only
  unfold yD xE;have done:∃q:cW,some (mr a,mr b,mr c,mr d,y4,y5,Int.tmod ((y5+1)+y6) 8,y7,y8,decide (y9=0),ceL es)=some q/\∃es,q=(mr a,mr b,mr c,mr d,C.n,C.f,C.t,C.h,C.a,C.b,ceL es)/\EvV C.a es/\es.length<=10/\∀e∈es,e.a<=900000:=
   ⟨_,rfl,es,by rw[hC],hE,by omega,hea⟩
  by_cases g1:i<xs.length
  ·have c1:(i:Int)<(xs.length:Int):=by omega
   by_cases g2:i<10
   ·obtain⟨x,hxe⟩:=aD g1
    have hcell:∀k,cA (xs.map bG) (i:Int) k=(bG x).getD k (.int 0):=fun k=>bv (by simpa using hxe)
    have z0:cI (xs.map bG) i 0=x.1:=by simp only[cI,hcell];rfl
    have z1:cI (xs.map bG) i 1=x.2.1:=by simp only[cI,hcell];rfl
    have z2:cI (xs.map bG) i 2=x.2.2:=by simp only[cI,hcell];rfl
    obtain⟨q1,q2,q3⟩:=hx x (List.mem_of_getElem? hxe);have q4:=Rp q2;obtain⟨w0,hw0⟩:∃y,y=pk x.1 6:=⟨_,rfl⟩
    obtain⟨w1,hw1⟩:∃y,y=pk x.2.1 4:=⟨_,rfl⟩
    obtain⟨w2,hw2⟩:∃y,y=pk x.2.1 3:=⟨_,rfl⟩
    obtain⟨w3,hw3⟩:∃y,y=pk x.2.2 4:=⟨_,rfl⟩
    obtain⟨w4,hw4⟩:∃y,y=pk (Int.tdiv x.2.1 4) 3:=⟨_,rfl⟩
    have v0:=aY x.1 (k:=6) (by decide)
    have v1:=aY x.2.1 (k:=4) (by decide)
    have v2:=aY x.2.1 (k:=3) (by decide)
    have v3:=aY x.2.2 (k:=4) (by decide)
    rw[<-hw0]at v0;rw[<-hw1]at v1;rw[<-hw2]at v2;rw[<-hw3]at v3;have hout:=CU n (mrR a b c d) C es last hn;have hOk:Ei (mrR a b c d) C es last:=⟨⟨Mj a b c d,hCV,by omega,hE⟩,by omega,by omega⟩
    have hN:=Q2 (Gd a b c d) (c:=C) (es:=es) hl0 (by omega)
    unfold Fw at hout;rw[if_pos hOk]at hout;obtain⟨O,hO⟩:∃O,O=yV (mrR a b c d) C es last:=⟨_,rfl⟩
    rw[<-hO]at hout hN;rw[hC]at hout;simp only[mrR]at hout;have c2:(i:Int)<10:=by omega
    have c3:(0:Int)<=(i:Int):=by omega
    have c4:(-9223372036854775808:Int)<=1+w0:=by omega
    have c5:1+w0<=(9223372036854775807:Int):=by omega
    have c6:(-9223372036854775808:Int)<=last+w1:=by omega
    have c7:last+w1<=(9223372036854775807:Int):=by omega
    have c8:(-9223372036854775808:Int)<=(i:Int)+1:=by omega
    have c9:(i:Int)+1<=(9223372036854775807:Int):=by omega
    have c10:(-9223372036854775808:Int)<=1+w3:=by omega
    have c11:1+w3<=(9223372036854775807:Int):=by omega
    have c12:((es.length:Int)+1)*24<=140737488355328:=by omega
    have hgo:∀A rr:Int,last<=A->A<=last+86402->(1+w0=2\/1+w0=6->1<=rr/\rr<=9)->(¬(1+w0=2\/1+w0=6)->rr=0)->∃q,go (ceL es++[[AV.int (1+w0),AV.int A,AV.int rr]],A,(i:Int)+1)=some q/\∃es,q=(mr a,mr b,mr c,mr d,C.n,C.f,C.t,C.h,C.a,C.b,ceL es)/\EvV C.a es/\es.length<=10/\∀e∈es,e.a<=900000:=fun A rr k1 k2 k3 k4=>
     ih _ ⟨es++[⟨1+w0,A,rr⟩],A,i+1,by simp,by simp;omega,by omega,by rw[NY,<-hlast];exact⟨hE,⟨by simp only;omega,by simp only;omega,k1,by simp only;omega,k3,k4⟩⟩,by simp,by omega,by omega,fun e he=>by
      rcases List.mem_append.1 he with he|he
      ·exact hea e he
      ·rw[List.mem_singleton.1 he];simp only;omega⟩ (by simp only;omega)
    unfold Al;simp only[z0,z1,z2,List.length_map,c1,c2,c3,aO n q1 (show(0:Int)<6 by decide),aO n q2 (show(0:Int)<4 by decide),aO n q2 (show(0:Int)<3 by decide),aO n q3 (show(0:Int)<4 by decide),aO n q4 (show(0:Int)<3 by decide),<-hw0,<-hw1,<-hw2,<-hw3,<-hw4,Option.bind_some,c4,c5,c6,c7,c8,c9,c10,c11,c12,hout,decide_true,Bool.and_self]
    simp only[cond_true];unfold ae at q4;by_cases k0:0<O.n
    ·have c13:(-9223372036854775808:Int)<=O.n-1:=by omega
     have c14:O.n-1<=(9223372036854775807:Int):=by omega
     have c15:(-9223372036854775808:Int)<=O.n-1+w2:=by omega
     have c16:O.n-1+w2<=(9223372036854775807:Int):=by omega
     have m1:last<=aq last (O.n-1+w2):=by unfold aq;split<;>omega
     have m2:aq last (O.n-1+w2)<=last+86402:=by unfold aq;split<;>omega
     simp only[k0,q4.1,q4.2,c13,c14,c15,c16,decide_true,Bool.and_self];simp only[cond_true];by_cases k1:0<w4<;>by_cases k2:1+w0=2<;>by_cases k3:1+w0=6<;>simp only[k1,k2,k3,decide_true,decide_false]<;>simp only[cond_true,cond_false] <;>
      (try rw[k2]at hgo)<;>(try rw[k3]at hgo)<;>first|exact hgo _ _ m1 m2 (fun _=>by omega) (fun h=>by omega)|exact hgo _ _ (by omega) (by omega) (fun _=>by omega) (fun h=>by omega)
    ·by_cases k2:1+w0=2<;>by_cases k3:1+w0=6<;>simp only[k0,k2,k3,decide_true,decide_false]<;>simp only[cond_true,cond_false] <;>
      (try rw[k2]at hgo)<;>(try rw[k3]at hgo)<;>exact hgo _ _ (by omega) (by omega) (fun _=>by omega) (fun h=>by omega)
   ·have c2:¬(i:Int)<10:=by omega
    simp only[List.length_map,c1,c2,decide_true,decide_false];simp only[cond_true,cond_false];exact done
  ·have c1:¬(i:Int)<(xs.length:Int):=by omega
   simp only[List.length_map,c1,decide_false];simp only[cond_false];exact done
 obtain⟨q,g1,es,rfl,g2,g3,g4⟩:=main;exact⟨C,es,g1,⟨Mj a b c d,hCV,by omega,g2⟩,by omega,g3,g4⟩
theorem rH(n:Nat)(c:Cl):gP n c.n c.f c.t c.h c.a c.b=some (decide (ClV c)):=by
 by_cases h:ClV c<;>simp only[h,decide_true,decide_false]<;>unfold ClV at h<;>unfold gP ry<;>grind
def fH(r:Rl)(i:Nat):Int:=if i=0 then r.a else if i=1 then r.s else if i=2 then r.c else r.r
theorem FN(r:Rl){i:Nat}(h:i<4):cI ((((([]:Lv)++[[(AV.int r.a)]])++[[(AV.int r.s)]])++[[(AV.int r.c)]])++[[(AV.int r.r)]]) (i:Int) 0=fH r i:=by
 match i,h with
 |0,_=>rfl
 |1,_=>rfl
 |2,_=>rfl
 |3,_=>rfl
theorem rules_all{r:Rl}:RlV r↔∀i,i<4->1<=fH r i/\fH r i<=1000000:=by
 constructor
 ·intro h i hi
  unfold RlV at h;unfold fH;split;omega;split;omega;split<;>omega
 ·intro h
  have h0:=h 0 (by omega)
  have h1:=h 1 (by omega)
  have h2:=h 2 (by omega)
  have h3:=h 3 (by omega)
  simp[fH]at h0 h1 h2 h3
  unfold RlV;omega
theorem QF(n:Nat)(r:Rl)(c:Cl)(hn:10<n):uH n r.a r.c r.s r.r c.n c.f c.t c.h c.a c.b=some (if RlV r/\ClV c then(ic r c,0)else(0,160)):=by
 unfold uH yP;refine ar (fun s=>∃i:Nat,s=(i:Int)/\i<=4/\∀j,j<i->1<=fH r j/\fH r j<=1000000) (fun s=>4-s.toNat) _ ?_ n _ ⟨0,rfl,by omega,fun j hj=>by omega⟩ (by simp;omega)
 rintro _ go ⟨i,rfl,hi,hj⟩ ih;unfold zC;have c2:(0:Int)<=(i:Int):=by omega
 have c8:(-9223372036854775808:Int)<=(i:Int)+1:=by omega
 have c9:(i:Int)+1<=(9223372036854775807:Int):=by omega
 by_cases h4:i<4
 ·have c1:(i:Int)<4:=by omega
  simp only[c1,c2,c8,c9,FN r h4,decide_true,Bool.and_self];simp only[cond_true];by_cases k1:1<=fH r i
  ·by_cases k2:fH r i<=1000000
   ·simp only[k1,k2,decide_true,Bool.not_true]
    simp only[cond_true,cond_false];exact ih _ ⟨i+1,by simp,by omega,fun j hj'=>by
     rcases Nat.lt_or_ge j i with h|h
     ·exact hj j h
     ·have:j=i:=by omega
      subst this;exact⟨k1,k2⟩⟩ (by simp;omega)
   ·have:¬(RlV r/\ClV c):=fun h=>k2 (rules_all.1 h.1 i h4).2
    simp[k1,k2,this]
  ·have:¬(RlV r/\ClV c):=fun h=>k1 (rules_all.1 h.1 i h4).1
   simp[k1,this]
 ·have hr:RlV r:=rules_all.2 fun j hj'=>hj j (by omega)
  have c1:¬(i:Int)<4:=by omega
  rw[rH];by_cases hc:ClV c
  ·simp only[c1,hr,hc,decide_true,decide_false,Option.bind_some,Bool.not_true,and_self,if_true]
   simp only[cond_false];unfold ic;unfold RlV at hr;unfold ClV at hc;have n1:(-9223372036854775808:Int)<=c.a+r.a/\c.a+r.a<=9223372036854775807:=by omega
   have n2:(-9223372036854775808:Int)<=c.a+r.a-1/\c.a+r.a-1<=9223372036854775807:=by omega
   have n3:(-9223372036854775808:Int)<=c.a+r.a-1+r.s/\c.a+r.a-1+r.s<=9223372036854775807:=by omega
   have n4:(-9223372036854775808:Int)<=c.a+r.a-1+r.s+r.c/\c.a+r.a-1+r.s+r.c<=9223372036854775807:=by omega
   have n5:(-9223372036854775808:Int)<=c.a+r.a-1+r.s+r.c+r.r/\c.a+r.a-1+r.s+r.c+r.r<=9223372036854775807:=by omega
   simp only[n1,n2,n3,n4,n5,decide_true,Bool.and_self];simp only[cond_true]
  ·simp[c1,hc]
theorem xr(n:Nat)(r:Rl)(c:Cl)(es:List Ce)(hn:25<n):gU n r.a r.c r.s r.r c.n c.f c.t c.h c.a c.b (ceL es)=some (decide (cD r c es)):=by
 unfold gU wi;refine ar (fun s=>∃i:Nat,s=(i:Int)/\i<=4/\∀j,j<i->1<=fH r j/\fH r j<=1000000) (fun s=>4-s.toNat) _ ?_ n _ ⟨0,rfl,by omega,fun j hj=>by omega⟩ (by simp;omega)
 rintro _ go ⟨i,rfl,hi,hj⟩ ih;unfold wU;have c2:(0:Int)<=(i:Int):=by omega
 have c8:(-9223372036854775808:Int)<=(i:Int)+1:=by omega
 have c9:(i:Int)+1<=(9223372036854775807:Int):=by omega
 by_cases h4:i<4
 ·have c1:(i:Int)<4:=by omega
  simp only[c1,c2,c8,c9,FN r h4,decide_true,Bool.and_self];simp only[cond_true];by_cases k1:1<=fH r i
  ·by_cases k2:fH r i<=1000000
   ·simp only[k1,k2,decide_true,Bool.not_true]
    simp only[cond_true,cond_false];exact ih _ ⟨i+1,by simp,by omega,fun j hj'=>by
     rcases Nat.lt_or_ge j i with h|h
     ·exact hj j h
     ·have:j=i:=by omega
      subst this;exact⟨k1,k2⟩⟩ (by simp;omega)
   ·have:¬cD r c es:=fun h=>k2 (rules_all.1 h.1 i h4).2
    simp[k1,k2,this]
  ·have:¬cD r c es:=fun h=>k1 (rules_all.1 h.1 i h4).1
   simp[k1,this]
 ·have hr:RlV r:=rules_all.2 fun j hj'=>hj j (by omega)
  have c1:¬(i:Int)<4:=by omega
  clear ih
  rw[rH];unfold cD;by_cases h2:ClV c
  ·by_cases h3:es.length<=20
   ·have c3:¬(20:Int)<(es.length:Int):=by omega
    simp only[c1,hr,h2,h3,decide_true,decide_false,Option.bind_some,Bool.not_true,List.length_map,c3,true_and];simp only[cond_false];refine ar (fun s=>∃(i:Nat) (last:Int),s=((i:Int),last)/\i<=es.length/\(EvV c.a es↔EvV last (es.drop i))) (fun s=>es.length-s.1.toNat) _ ?_ n _ ⟨0,c.a,rfl,by omega,by simp⟩ (by simp;omega)
    rintro _ go ⟨i,last,rfl,hi,hE⟩ ih;simp only
    unfold vI;by_cases hlt:i<es.length
    ·obtain⟨e,he⟩:=aD hlt
     have hc:∀k,cA (ceL es) (i:Int) k=(ceR e).getD k (.int 0):=fun k=>bv (by simpa using he)
     have g0:cI (ceL es) i 0=e.k:=by simp only[cI,hc];rfl
     have g1:cI (ceL es) i 1=e.a:=by simp only[cI,hc];rfl
     have g2:cI (ceL es) i 2=e.r:=by simp only[cI,hc];rfl
     have c1:(i:Int)<(es.length:Int):=by omega
     have c2:(0:Int)<=(i:Int):=by omega
     have c4:(-9223372036854775808:Int)<=(i:Int)+1:=by omega
     have c5:(i:Int)+1<=(9223372036854775807:Int):=by omega
     simp only[g0,g1,g2,List.length_map,c1,c2,c4,c5,decide_true,Bool.and_self,Bool.not_true];simp only[cond_true];rw[cJ he]at hE;have hgo:CeV last e->go ((i:Int)+1,e.a)=some (decide (EvV c.a es)):=fun hv=>ih _ ⟨i+1,e.a,by simp,by omega,by rw[hE];exact⟨fun h=>h.2,fun h=>⟨hv,h⟩⟩⟩ (by simp only;omega)
     by_cases hv:CeV last e
     ·rw[hgo hv]
      unfold CeV at hv;grind
     ·have:¬EvV c.a es:=fun h=>hv (hE.1 h).1
      simp only[this,decide_false];unfold CeV at hv;grind
    ·have h0:i=es.length:=by omega
     have c1:¬(i:Int)<(es.length:Int):=by omega
     simp only[List.length_map,c1,decide_false];simp only[cond_false];subst h0;rw[List.drop_length]at hE;have:EvV c.a es:=hE.2 trivial
     simp[this]
   ·have c3:(20:Int)<(es.length:Int):=by omega
    simp only[c1,h2,h3,decide_true,decide_false,Option.bind_some,Bool.not_true,List.length_map,c3,false_and,and_false];simp only[cond_true,cond_false]
  ·simp[c1,h2]
theorem Bp{r:Rl}{c:Cl}{es:List Ce}(h:cD r c es):∀x∈an r c es,x.f<=23000000:=by
 obtain⟨hr,hc,hl,hE⟩:=h;unfold ClV at hc;intro x hx;unfold an at hx;have h0:(x0 r c).f=c.a:=rfl
 rcases List.mem_cons.1 hx with rfl|hx
 ·omega
 ·exact Ph hr (b:=c.b) (now:=x0 r c) (es:=es) (by rw[h0];have:=eT (x0 r c).s;omega) (fun _=>(nh hr (s:=1) (f:=c.a) (by omega)).2) (fun e he=>(sZ hE e he).2) x hx
theorem Bo{r:Rl}{c:Cl}{es:List Ce}(h:cD r c es):∀x∈an r c es,c.a<=x.f:=by
 obtain⟨hr,hc,hl,hE⟩:=h;intro x hx;unfold an at hx;rcases List.mem_cons.1 hx with rfl|hx
 ·exact Int.le_refl _
 ·exact LX hr (b:=c.b) (now:=x0 r c) (es:=es) (fun ha=>by have:=(nh hr (s:=1) (f:=c.a) (by omega)).1;unfold x0;omega) (fun e he=>(sZ hE e he).1) x hx
theorem KD{r:Rl}{c:Cl}{es:List Ce}:∀x∈an r c es,∃s f,x=st r s f:=by
 intro x hx;unfold an at hx;rcases List.mem_cons.1 hx with rfl|hx
 ·exact⟨_,_,rfl⟩
 ·exact zY (r:=r) (b:=c.b) (fun x=>∃s f,x=st r s f) (fun _ _=>True) (fun _ _ _ _ _ _=>⟨⟨_,_,rfl⟩,trivial⟩) (fun _ _ _ _ _ _=>trivial) (fun _ _ _ _ _ _=>⟨⟨_,_,rfl⟩,trivial⟩) (fun _ _ _=>⟨⟨_,_,rfl⟩,trivial⟩) _ _ _ (Nat.le_refl _) trivial x hx
theorem pi{r:Rl}{c:Cl}{es:List Ce}(hl:es.length<=20):(an r c es).length<=110:=by
 have h2:=Iw (r:=r) (b:=c.b) _ (x0 r c) es (Nat.le_refl _);have h3:=eT (x0 r c).s;unfold an;simp only[List.length_cons];omega
structure RunJ (r:Rl) (c:Cl) (es:List Ce) (out:List Cs) (now:Cs) (i:Nat):Prop where
 le:i<=es.length
 last:out.getLast?=some now
 rest:an r c es=out++tl r c.b now (es.drop i)
section
variable {r:Rl} {c:Cl} {es:List Ce} {out:List Cs} {now:Cs} {i:Nat}
theorem RunJ.mem(h:RunJ r c es out now i):now∈an r c es:=by
 rw[h.rest];exact List.mem_append_left _ (List.mem_of_getLast? h.last)
theorem RunJ.len(h:RunJ r c es out now i)(hl:es.length<=20):out.length<=110:=by
 have h1:=pi (r:=r) (c:=c) hl;rw[h.rest,List.length_append]at h1;omega
theorem RunJ.auto(h:RunJ r c es out now i)(ha:act now)(h1:∀e,es[i]?=some e->now.n<=e.a):RunJ r c es (out++[st r (aft now.s) now.n]) (st r (aft now.s) now.n) i:=by
 refine⟨h.le,by simp,?_⟩
 rw[h.rest];have:tl r c.b now (es.drop i)=st r (aft now.s) now.n::tl r c.b (st r (aft now.s) now.n) (es.drop i):=by
  cases hd:es.drop i with
  |nil=>exact tg ha
  | cons e rest=>
   have he:es[i]?=some e:=by
    have:=congrArg (fun l=>l[0]?) hd
    simpa using this
   exact oE ⟨ha,h1 e he⟩
 rw[this];simp
theorem RunJ.event{e:Ce}(h:RunJ r c es out now i)(he:es[i]?=some e)(h1:¬(act now/\now.n<=e.a))(hb:¬bec c.b now.s e<0):RunJ r c es (out++[st r (bec c.b now.s e) e.a]) (st r (bec c.b now.s e) e.a) (i+1):=by
 refine⟨(List.getElem?_eq_some_iff.1 he).1,by simp,?_⟩
 rw[h.rest,cJ he,A4 h1 hb];simp
theorem RunJ.void{e:Ce}(h:RunJ r c es out now i)(he:es[i]?=some e)(h1:¬(act now/\now.n<=e.a))(hb:bec c.b now.s e<0):RunJ r c es out now (i+1):=
 ⟨(List.getElem?_eq_some_iff.1 he).1,h.last,by rw[h.rest,cJ he,oD h1 hb]⟩
theorem RunJ.done(h:RunJ r c es out now i)(h0:i=es.length)(h1:¬act now):an r c es=out:=by
 rw[h.rest,h0,List.drop_length,kE h1];simp
end
theorem OA(n:Nat)(go0:be->Option ak)(go1:aU->Option ak)(r:Rl)(hr:RlV r)(b:Bool)(es:List Ce)(i:Nat)(e:Ce)(he:es[i]?=some e)(vd:Lv)(out:List Cs)(s f m l:Int)
  (hce:CeV l e) (hl:0<=l) (h1:vd.length<=20) (h2:out.length<=110) (h3:i<=20):
  dH n go0 go1 r.c r.s b (ceL es) (i:Int) vd (csL out) s f m=if bec b s e<0 then go0 ((i:Int)+1,vd++[[AV.int (i:Int)]],csL out,s,f,m)else go0 ((i:Int)+1,vd,csL out++[csR (st r (bec b s e) e.a)],(st r (bec b s e) e.a).s,(st r (bec b s e) e.a).f,(st r (bec b s e) e.a).n):=by
 have hc:∀k,cA (ceL es) (i:Int) k=(ceR e).getD k (.int 0):=fun k=>bv (by simpa using he)
 have g0:cI (ceL es) i 0=e.k:=by simp only[cI,hc];rfl
 have g1:cI (ceL es) i 1=e.a:=by simp only[cI,hc];rfl
 have g2:cI (ceL es) i 2=e.r:=by simp only[cI,hc];rfl
 have c4:(-9223372036854775808:Int)<=(i:Int)+1:=by omega
 have c5:(i:Int)+1<=(9223372036854775807:Int):=by omega
 have c10:((vd.length:Int)+1)*8<=140737488355328:=by omega
 have c11:((out.length:Int)+1)*24<=140737488355328:=by omega
 have hrr:=hr;unfold RlV at hr;unfold CeV at hce;have c6:(-9223372036854775808:Int)<=e.a+r.c:=by omega
 have c7:e.a+r.c<=(9223372036854775807:Int):=by omega
 have c8:(-9223372036854775808:Int)<=e.a+r.s:=by omega
 have c9:e.a+r.s<=(9223372036854775807:Int):=by omega
 unfold dH pV oR qm nr nJ;simp only[g0,g1,g2,List.length_map,c4,c5,c6,c7,c8,c9,c10,c11,decide_true,Bool.and_self];simp only[cond_true];clear g0 g1 g2 hc c4 c5 c6 c7 c8 c9 c10 c11
 unfold bec st dur;have hk:e.k=1\/e.k=2\/e.k=3\/e.k=4\/e.k=5\/e.k=6:=by omega
 have hs:s=1\/s=2\/s=3\/s=4\/(s≠1/\s≠2/\s≠3/\s≠4):=by omega
 cases b<;>by_cases hq:e.r=1<;>rcases hk with hk|hk|hk|hk|hk|hk<;>rcases hs with hs|hs|hs|hs|⟨q1,q2,q3,q4⟩<;>simp_all
theorem RH: @nD= @dH:=rfl
theorem NR(n:Nat)(go0:be->Option ak)(go1:aU->Option ak)(r:Rl)(hr:RlV r)(b:Bool)(L:Lv)(i:Int)(vd O:Lv)(s f m:Int)(ha:1<=s/\s<=4)(hm:m<=cI L i 1)(h1: -100000000<=m)(h2:m<=100000000)(h3:O.length<=110):
  gn n go0 go1 r.c r.s r.r b L i vd O s f m=go1 (O++[csR (st r (aft s) m)],(st r (aft s) m).s,(st r (aft s) m).f,(st r (aft s) m).n):=by
 have hs:s=1\/s=2\/s=3\/s=4:=by omega
 unfold RlV at hr;unfold gn;rcases hs with hs|hs|hs|hs<;>subst hs<;>simp only[csR,aft,st,dur]<;>grind
theorem Mq(n:Nat)(go1:aU->Option ak)(r:Rl)(hr:RlV r)(O:Lv)(s m:Int)(ha:1<=s/\s<=4)(h1:0<=m)(h2:m<=100000000)(h3:O.length<=110):
  fC n go1 r.c r.r O s m=go1 (O++[csR (st r (aft s) m)],(st r (aft s) m).s,(st r (aft s) m).f,(st r (aft s) m).n):=by
 have hs:s=1\/s=2\/s=3\/s=4:=by omega
 unfold RlV at hr;unfold fC;rcases hs with hs|hs|hs|hs<;>subst hs<;>simp only[csR,aft,st,dur]<;>grind
theorem B8(n:Nat)(r:Rl)(c:Cl)(es:List Ce)(hn:200<n):iX n r.a r.c r.s r.r c.n c.f c.t c.h c.a c.b (ceL es)=some (if cD r c es then(csL (an r c es),0)else([],160)):=by
 unfold iX pv pU;rw[xr n r c es (by omega)]
 by_cases hv:cD r c es
 ·obtain⟨hr,hcl,hlen,hE⟩:=id hv
  have hrb:=hr;unfold RlV at hrb;have hca:0<=c.a/\c.a<=10000000:=by unfold ClV at hcl;omega
  have n1:(-9223372036854775808:Int)<=c.a+r.a:=by omega
  have n2:c.a+r.a<=(9223372036854775807:Int):=by omega
  simp only[hv,decide_true,Option.bind_some,Bool.not_true,n1,n2,Bool.and_self,if_true];simp only[cond_true,cond_false];have facts:∀out now i,RunJ r c es out now i->(0<=now.n↔act now)/\now.f<=23000000/\now.n<=24000000/\out.length<=110:=fun out now i h=>by
   have h1:=Bp hv now h.mem;have h2:=Bo hv now h.mem;obtain⟨s,f,hf⟩:=KD now h.mem;have h3:(st r s f).f=f:=rfl
   refine⟨by rw[hf];exact H9 hr (by rw[hf,h3]at h2;omega),h1,?_,h.len hlen⟩
   rw[hf]at h1⊢
   have h1:f<=23000000:=h1
   by_cases ha:1<=s/\s<=4
   ·have:=(nh hr (f:=f) ha).2;omega
   ·simp only[st];rw[if_neg ha];omega
  refine ar (fun s=>∃(i:Nat) (vd:Lv) (out:List Cs) (now:Cs),s=((i:Int),vd,csL out,now.s,now.f,now.n)/\vd.length<=i/\RunJ r c es out now i) (fun s=>es.length+1-s.1.toNat) _ ?_ n _
   ⟨0,[],[x0 r c],x0 r c,rfl,by simp,⟨by omega,rfl,by unfold an;simp⟩⟩ (by simp;omega)
  rintro _ go ⟨i,vd,out,now,rfl,hvd,hJ⟩ ih;simp only
  unfold o4;have hle:=hJ.le;have c6:(0:Int)<=(i:Int):=by omega
  by_cases hlt:i<es.length
  ·have c7:(i:Int)<(es.length:Int):=by omega
   obtain⟨e,he⟩:=aD hlt;have hce:∃l,0<=l/\CeV l e:=by
    have:=(sZ hE)
    have key:∀(es:List Ce) (l:Int) (i:Nat) (e:Ce),0<=l->EvV l es->es[i]?=some e->∃l,0<=l/\CeV l e:=by
     intro es;induction es with
     |nil=>intro l i e _ _ h;simp at h
     |cons x es ih=>
      intro l i e hl hE h;cases i with
      |zero=>simp at h;subst h;exact⟨l,hl,hE.1⟩
      |succ i=>exact ih x.a i e (by have:=hE.1.2.2.1;omega) hE.2 (by simpa using h)
    exact key es c.a i e hca.1 hE he
   obtain⟨l,hl0,hce⟩:=hce;simp only[List.length_map,c6,c7,decide_true];simp only[cond_true];refine ar (fun s=>∃(out:List Cs) (now:Cs),s=(csL out,now.s,now.f,now.n)/\RunJ r c es out now i) (fun s=>rk s.2.1) _ ?_ n _ ⟨out,now,rfl,hJ⟩ (by have:=eT now.s;simp only;omega)
   rintro _ go1 ⟨out,now,rfl,hJ⟩ ih1;simp only
   obtain⟨f1,f2,f3,f4⟩:=facts out now i hJ;have tail:¬(act now/\now.n<=e.a)->dH n go go1 r.c r.s c.b (ceL es) (i:Int) vd (csL out) now.s now.f now.n=some (csL (an r c es),0):=fun hna=>by
    rw[OA n go go1 r hr c.b es i e he vd out now.s now.f now.n l hce hl0 (by omega) f4 (by omega)]
    by_cases hb:bec c.b now.s e<0
    ·rw[if_pos hb]
     exact ih _ ⟨i+1,vd++[[AV.int (i:Int)]],out,now,by simp,by simp;omega,hJ.void he hna hb⟩ (by simp only;omega)
    ·rw[if_neg hb]
     exact ih _ ⟨i+1,vd,out++[st r (bec c.b now.s e) e.a],_,by simp,by omega,hJ.event he hna hb⟩ (by simp only;omega)
   unfold pF;have g1:cI (ceL es) i 1=e.a:=by simp only[cI];rw[bv (by simpa using he)];rfl
   rw[RH];by_cases hn0:0<=now.n
   ·have ha:=f1.1 hn0
    rw[decide_eq_true hn0,cond_true];by_cases hnm:now.n<=e.a
    ·rw[NR n go go1 r hr c.b (ceL es) i vd (csL out) now.s now.f now.n ha (by rw[g1];exact hnm) (by omega) (by omega) (by rw[List.length_map];exact f4)]
     have:=ih1 _ ⟨out++[st r (aft now.s) now.n],_,rfl,hJ.auto ha (fun e' he'=>by rw[he]at he';cases he';exact hnm)⟩ (dg ha)
     rw[<-this];simp
    ·unfold gn
     rw[g1,decide_eq_false hnm,cond_false];exact tail fun h=>hnm h.2
   ·rw[decide_eq_false hn0,cond_false]
    exact tail fun h=>hn0 (f1.2 h.1)
  ·have h0:i=es.length:=by omega
   have c7:¬(i:Int)<(es.length:Int):=by omega
   have hnone:∀e,¬es[i]?=some e:=fun e he=>by have:=(List.getElem?_eq_some_iff.1 he).1;omega
   simp only[List.length_map,c7,decide_false];simp only[cond_false];refine ar (fun s=>∃(out:List Cs) (now:Cs),s=(csL out,now.s,now.f,now.n)/\RunJ r c es out now i) (fun s=>rk s.2.1) _ ?_ n _ ⟨out,now,rfl,hJ⟩ (by have:=eT now.s;simp only;omega)
   rintro _ go1 ⟨out,now,rfl,hJ⟩ ih1;simp only
   obtain⟨f1,f2,f3,f4⟩:=facts out now i hJ;by_cases hn0:0<=now.n
   ·have ha:=f1.1 hn0
    rw[Mq n go1 r hr (csL out) now.s now.n ha hn0 (by omega) (by rw[List.length_map];exact f4)]
    have:=ih1 _ ⟨out++[st r (aft now.s) now.n],_,rfl,hJ.auto ha (fun e' he'=>absurd he' (hnone e'))⟩ (dg ha)
    rw[<-this];simp
   ·unfold fC
    rw[decide_eq_false hn0,cond_false,hJ.done h0 (fun ha=>hn0 (f1.2 ha))]
 ·simp[hv]
theorem IM{t:Int}:∀ {out rest:List Cs},(∀x∈out,x.f<=t)->(∀x,rest.head?=some x->t<x.f)->de t (out++rest)=out
 |[],[],_,_=>rfl
 |[],x::rest,_,h=>by
  have:=h x rfl
  unfold de;rw[List.nil_append,List.takeWhile_cons];simp;omega
 |y::out,rest,h1,h2=>by
  rw[List.cons_append,tB (h1 y (List.mem_cons_self ..)),IM (fun x hx=>h1 x (List.mem_cons_of_mem _ hx)) h2]
structure RunO (r:Rl) (c:Cl) (es:List Ce) (t:Int) (out:List Cs) (now:Cs) (i:Nat):Prop where
 j:RunJ r c es out now i
 up:∀x∈out,x.f<=t
section
variable {r:Rl} {c:Cl} {es:List Ce} {t:Int} {out:List Cs} {now x:Cs} {i:Nat} {rest:List Cs}
theorem RunO.stop(h:RunO r c es t out now i)(hr:tl r c.b now (es.drop i)=rest)(hx:∀x,rest.head?=some x->t<x.f):yV r c es t=now:=by
 unfold yV;rw[h.j.rest,hr,IM h.up hx,h.j.last];rfl
end
end Go.Proofs.YtgckmifmjiklmaaGreat
namespace Go.Dial.Chn
open Go.Dial.Clm Go.Dial.Lif
structure Pt where
 c:Cl
 es:List Ce
structure Ch where
 n:Int
 f:Int
 r:Rl
 life:List Ev
 ps:List Pt
def PtsV(n:Int)(r:Rl):Int->List Pt->Prop
 |_,[]=>True
 |last,p::ps=>(p.c.n=n/\cD r p.c p.es/\last<=p.c.a)/\PtsV n r p.c.a ps
instance PtsV.dec (n:Int) (r:Rl):(last:Int)->(ps:List Pt)->Decidable (PtsV n r last ps)
 |_,[]=>.isTrue trivial
 |last,p::ps=>by
  have:=PtsV.dec n r p.c.a ps
  unfold PtsV;infer_instance
def ChV(c:Ch):Prop:=fu c.life/\0<=c.n/\c.n<=99999999/\0<=c.f/\c.f<=7/\c.ps.length<=8/\PtsV c.n c.r 0 c.ps
instance (c:Ch):Decidable (ChV c):=by unfold ChV;infer_instance
structure Hp where
 a:Int
 p:Int
 b:Bool
deriving DecidableEq
def bp(i:Nat)(x:Cs):Option Hp:=if x.s=4\/x.s=8 then some ⟨x.f,i,decide (x.s=8)⟩else none
def bO(r:Rl):Nat->List Pt->List Hp
 |_,[]=>[]
 |i,p::ps=>(an r p.c p.es).filterMap (bp i)++bO r (i+1) ps
def ltH(x y:Hp):Prop:=x.a<y.a\/(x.a=y.a/\x.p<y.p)
instance (x y:Hp):Decidable (ltH x y):=by unfold ltH;infer_instance
def ins(x:Hp):List Hp->List Hp
 |[]=>[x]
 |y::l=>if ltH x y then x::y::l else y::ins x l
def dy(l:List Hp):List Hp:=l.foldl (fun acc x=>ins x acc) []
def dh:List Hp->Prop
 |[]=>True
 |x::l=>(∀y∈l,¬ltH y x)/\dh l
theorem FT{x y z:Hp}(h1:¬ltH y x)(h2:¬ltH z y):¬ltH z x:=by unfold ltH at *;omega
theorem FC{x y:Hp}(h:ltH x y):¬ltH y x:=by unfold ltH at *;omega
theorem mem_ins{x y:Hp}{l:List Hp}:y∈ins x l↔y=x\/y∈l:=by
 induction l with
 |nil=>simp[ins]
 | cons z l ih=>
  unfold ins;split
  ·simp
  ·simp only[List.mem_cons,ih]
   constructor
   ·rintro (h|h|h)
    ·exact .inr (.inl h)
    ·exact .inl h
    ·exact .inr (.inr h)
   ·rintro (h|h|h)
    ·exact .inr (.inl h)
    ·exact .inl h
    ·exact .inr (.inr h)
theorem Lw{x:Hp}{l:List Hp}(h:dh l):dh (ins x l):=by
 induction l with
 |nil=>exact⟨fun y hy=>(by cases hy),trivial⟩
 | cons z l ih=>
  unfold ins;split
  ·rename_i hx
   refine⟨fun y hy=>?_,h⟩
   rcases List.mem_cons.1 hy with rfl|hy
   ·exact FC hx
   ·exact FT (FC hx) (h.1 y hy)
  ·rename_i hx
   refine⟨fun y hy=>?_,ih h.2⟩
   rcases mem_ins.1 hy with rfl|hy
   ·exact hx
   ·exact h.1 y hy
theorem pp(l:List Hp):dh (dy l):=by
 have:∀(l acc:List Hp),dh acc->dh (l.foldl (fun acc x=>ins x acc) acc):=by
  intro l;induction l with
  |nil=>intro acc h;exact h
  |cons x l ih=>intro acc h;exact ih _ (Lw h)
 exact this l [] trivial
theorem DO(l:List Hp)(x:Hp):dy (l++[x])=ins x (dy l):=by simp[dy]
theorem PH(x:Hp)(l:List Hp):(ins x l).length=l.length+1:=by
 induction l with
 |nil=>rfl
 |cons y l ih=>unfold ins;split<;>simp[ih]
theorem rl(l:List Hp):(dy l).length=l.length:=by
 have:∀(l acc:List Hp),(l.foldl (fun acc x=>ins x acc) acc).length=acc.length+l.length:=by
  intro l;induction l with
  |nil=>intro acc;simp
  |cons x l ih=>intro acc;rw[List.foldl_cons,ih,PH,List.length_cons];omega
 have:=this l []
 simpa[dy]using this
theorem zK{x:Hp}:∀ {A B:List Hp},dh (A++B)->(∀y∈B,ltH x y)->(∀y,A.getLast?=some y->¬ltH x y)->ins x (A++B)=A++x::B
 |[],[],_,_,_=>rfl
 |[],z::B,_,h,_=>by
  show ins x (z::B)=_
  rw[ins,if_pos (h z (List.mem_cons_self ..))];rfl
 | z::A,B,hS,hB,hA=>by
  have hz:¬ltH x z:=by
   cases A with
   |nil=>exact hA z rfl
   |cons w A=>
    obtain⟨y,hy⟩:∃y,(w::A).getLast?=some y:=⟨_,List.getLast?_eq_some_getLast (by simp)⟩
    have h1:=hA y (by rw[List.getLast?_cons_cons];exact hy)
    have h2:=hS.1 y (List.mem_append_left _ (List.mem_of_getLast? hy));exact FT h2 h1
  rw[List.cons_append,ins,if_neg hz,zK hS.2 hB (fun y hy=>hA y (by
   cases A with
   |nil=>cases hy
   |cons w A=>rw[List.getLast?_cons_cons];exact hy))]
  rfl
def hb(s:Int):Nat:=if 1<=s/\s<=3 then 2 else if s=4 then 1 else 0
theorem zG{b:Bool}{s:Int}{e:Ce}(h:¬bec b s e<0):(1<=s/\s<=3/\(bec b s e=2\/bec b s e=3\/bec b s e=6\/bec b s e=7))\/(s=4/\bec b s e=8):=by
 unfold bec at *
 grind
theorem QY{r:Rl}{b:Bool}{i:Nat}:∀(m:Nat) (now:Cs) (es:List Ce),5*es.length+rk now.s<=m->((tl r b now es).filterMap (bp i)).length<=hb now.s:=by
 intro m;have auto:∀(now:Cs) (k:Nat),act now->k<=hb (aft now.s)->(if aft now.s=4\/aft now.s=8 then 1 else 0)+k<=hb now.s:=by
  intro now k ha hk;have:now.s=1\/now.s=2\/now.s=3\/now.s=4:=by unfold act at ha;omega
  rcases this with h|h|h|h<;>rw[h]at hk⊢<;>simp[aft,hb]at hk⊢<;>omega
 have cons:∀(x:Cs) (l:List Cs),((x::l).filterMap (bp i)).length=(if x.s=4\/x.s=8 then 1 else 0)+(l.filterMap (bp i)).length:=by
  intro x l;rw[List.filterMap_cons];unfold bp;split
  ·rename_i h;split at h
   ·cases h
   ·rename_i h2;rw[if_neg h2];omega
  ·rename_i h;split at h
   ·rename_i h2;rw[if_pos h2];simp;omega
   ·cases h
 induction m with
 | zero=>
  intro now es hm;have he:es=[]:=by
   cases es with
   |nil=>rfl
   |cons e es=>simp at hm
  subst he;by_cases ha:act now
  ·have:=dg ha;omega
  ·rw[kE ha];simp
 | succ m ih=>
  intro now es hm;cases es with
  | nil=>
   by_cases ha:act now
   ·rw[tg ha,cons]
    exact auto now _ ha (ih (st r (aft now.s) now.n) [] (by have:=dg ha;simp only[st];omega))
   ·rw[kE ha];simp
  | cons e es=>
   by_cases ha:act now/\now.n<=e.a
   ·rw[oE ha,cons]
    exact auto now _ ha.1 (ih (st r (aft now.s) now.n) (e::es) (by have:=dg ha.1;simp only[st];omega))
   ·by_cases hbb:bec b now.s e<0
    ·rw[oD ha hbb]
     exact ih now es (by simp only[List.length_cons]at hm;omega)
    ·rw[A4 ha hbb,cons]
     have:=ih (st r (bec b now.s e) e.a) es (by simp only[List.length_cons]at hm;have:=eT (st r (bec b now.s e) e.a).s;omega)
     have hs:(st r (bec b now.s e) e.a).s=bec b now.s e:=rfl
     rw[hs]at this⊢
     rcases zG hbb with⟨h1,h2,h3⟩|⟨h1,h2⟩
     ·have h4:hb now.s=2:=by unfold hb;rw[if_pos ⟨h1,h2⟩]
      rw[h4];have q2:hb 2=2:=rfl
      have q3:hb 3=2:=rfl
      have q6:hb 6=0:=rfl
      have q7:hb 7=0:=rfl
      rcases h3 with h|h|h|h<;>rw[h]at this⊢<;>(try rw[q2]at this)<;>(try rw[q3]at this)<;>(try rw[q6]at this)<;>(try rw[q7]at this)<;>split<;>omega
     ·rw[h2]at this⊢
      rw[h1];have q8:hb 8=0:=rfl
      have q4:hb 4=1:=rfl
      rw[q8]at this;rw[q4];split<;>omega
theorem JQ{r:Rl}{c:Cl}{es:List Ce}{i:Nat}:((an r c es).filterMap (bp i)).length<=2:=by
 have:=QY (r:=r) (b:=c.b) (i:=i) _ (x0 r c) es (Nat.le_refl _)
 unfold an;rw[List.filterMap_cons];have h0:bp i (x0 r c)=none:=by unfold bp x0 st;simp
 rw[h0];have h1:hb (x0 r c).s=2:=rfl
 rw[h1]at this;exact this
theorem l3(r:Rl):∀(ps:List Pt) (i:Nat),(bO r i ps).length<=2*ps.length
 |[],i=>by simp[bO]
 |p::ps,i=>by
  have h1:=JQ (r:=r) (c:=p.c) (es:=p.es) (i:=i);have h2:=l3 r ps (i+1);simp only[bO,List.length_append,List.length_cons];omega
def hps(c:Ch):List Hp:=dy (bO c.r 0 c.ps)
end Go.Dial.Chn
namespace Go.Proofs.YtgckmifmjiklmaaGreat
open Go Go.Sx Go.Dial.Clm Go.Dial.Lif Go.Dial.Chn
abbrev ptR(p:Pt):List AV:=[.int p.c.n,.int p.c.f,.int p.c.t,.int p.c.h,.int p.c.a,.bool p.c.b,.sl (.cons .int (.cons .int (.cons .int .nil))) (ceL p.es)]
abbrev ptL(ps:List Pt):Lv:=ps.map ptR
theorem Hw(n:Nat)(c:Ch)(hl:c.life.length<n)(hn:200<n):lX n c.n c.f c.r.a c.r.c c.r.s c.r.r (lfL c.life) (ptL c.ps)=some (decide (ChV c)):=by
 unfold lX vH ChV;rw[uD n c.life hl];simp only[Option.bind_some,nc];by_cases h0:fu c.life
 ·rw [j4 h0]
  by_cases h1:0<=c.n/\c.n<=99999999/\0<=c.f/\c.f<=7
  ·by_cases h2:c.ps.length<=8
   ·have c3:¬(8:Int)<((ptL c.ps).length:Int):=by rw[List.length_map];omega
    simp only[h0,h1,h2,decide_true,Bool.not_true,true_and];simp only[cond_true,cond_false];rw[decide_eq_false c3,cond_false];refine ar (fun s=>∃(i:Nat) (last:Int),s=(last,(i:Int))/\i<=c.ps.length/\(PtsV c.n c.r 0 c.ps↔PtsV c.n c.r last (c.ps.drop i))) (fun s=>c.ps.length-s.2.toNat) _ ?_ n _ ⟨0,0,rfl,by omega,by simp⟩ (by simp;omega)
    rintro _ go ⟨i,last,rfl,hi,hE⟩ ih;simp only
    unfold xn;by_cases hlt:i<c.ps.length
    ·obtain⟨p,hp⟩:=aD hlt
     have hc:∀k,cA (ptL c.ps) (i:Int) k=(ptR p).getD k (.int 0):=fun k=>bv (by simpa using hp)
     have g0:cI (ptL c.ps) i 0=p.c.n:=by simp only[cI,hc];rfl
     have g1:cI (ptL c.ps) i 1=p.c.f:=by simp only[cI,hc];rfl
     have g2:cI (ptL c.ps) i 2=p.c.t:=by simp only[cI,hc];rfl
     have g3:cI (ptL c.ps) i 3=p.c.h:=by simp only[cI,hc];rfl
     have g4:cI (ptL c.ps) i 4=p.c.a:=by simp only[cI,hc];rfl
     have g5:cB (ptL c.ps) i 5=p.c.b:=by simp only[cB,hc];rfl
     have g6:cL (ptL c.ps) i 6=ceL p.es:=by simp only[cL,hc];rfl
     have c1:(i:Int)<((ptL c.ps).length:Int):=by rw[List.length_map];omega
     have c2:(0:Int)<=(i:Int):=by omega
     have c4:(-9223372036854775808:Int)<=(i:Int)+1:=by omega
     have c5:(i:Int)+1<=(9223372036854775807:Int):=by omega
     rw[cJ hp]at hE;simp only[g0,g1,g2,g3,g4,g5,g6,xr n c.r p.c p.es (by omega),c1,c2,c4,c5,decide_true,Bool.and_self,Option.bind_some]
     simp only[cond_true];by_cases k1:p.c.n=c.n
     ·by_cases k2:cD c.r p.c p.es
      ·by_cases k3:p.c.a<last
       ·have:¬PtsV c.n c.r 0 c.ps:=fun h=>by have:=(hE.1 h).1.2.2;omega
        simp[k1,k2,k3,this]
       ·have hgo:=ih _ ⟨i+1,p.c.a,rfl,by omega,by rw[hE];exact⟨fun h=>h.2,fun h=>⟨⟨k1,k2,by omega⟩,h⟩⟩⟩ (by simp only;omega)
        rw[<-hgo];simp[k1,k2,k3]
      ·have:¬PtsV c.n c.r 0 c.ps:=fun h=>k2 (hE.1 h).1.2.1
       simp[k1,k2,this]
     ·have:¬PtsV c.n c.r 0 c.ps:=fun h=>k1 (hE.1 h).1.1
      simp[k1,this]
    ·have h00:i=c.ps.length:=by omega
     have c1:¬(i:Int)<((ptL c.ps).length:Int):=by rw[List.length_map];omega
     rw[decide_eq_false c1,cond_false];subst h00;rw[List.drop_length]at hE;have:PtsV c.n c.r 0 c.ps:=hE.2 trivial
     simp[this]
   ·have c3:(8:Int)<((ptL c.ps).length:Int):=by rw[List.length_map];omega
    simp only[h0,h1,h2,c3,decide_true,Bool.not_true,false_and,and_false,decide_false];simp only[cond_true,cond_false]
  ·have:¬(fu c.life/\0<=c.n/\c.n<=99999999/\0<=c.f/\c.f<=7/\c.ps.length<=8/\PtsV c.n c.r 0 c.ps):=fun h=>h1 ⟨h.2.1,h.2.2.1,h.2.2.2.1,h.2.2.2.2.1⟩
   simp only[this,decide_false];grind
 ·rw[AY h0]
  simp[h0]
abbrev hpR(h:Hp):List AV:=[.int h.a,.int h.p,.bool h.b]
abbrev hpL(l:List Hp):Lv:=l.map hpR
theorem jh{α:Type}{l:List α}{i:Nat}{f:α->α}{x:α}(h:l[i]?=some x):l.modify i f=l.set i (f x):=by
 apply List.ext_getElem?
 intro j;rw[List.getElem?_modify,List.getElem?_set];by_cases e:i=j
 ·subst e
  obtain⟨h1,h2⟩:=List.getElem?_eq_some_iff.1 h;simp[h1,h2]
 ·simp[e]
theorem FG{A B:List Hp}{x y:Hp}{j:Nat}(hj:j=A.length+1):
  (List.modify (List.modify (List.modify (List.modify (List.modify (List.modify (hpL (A++y::x::B)) j (fun r=>r.set 0 (AV.int y.a))) j (fun r=>r.set 1 (AV.int y.p))) j (fun r=>r.set 2 (AV.bool y.b))) (j-1) (fun r=>r.set 0 (AV.int x.a))) (j-1) (fun r=>r.set 1 (AV.int x.p))) (j-1) (fun r=>r.set 2 (AV.bool x.b)))=hpL (A++x::y::B):=by
 subst hj;have e1:∀(a b:List AV),((A.map hpR)++a::b::B.map hpR)[A.length+1]?=some b:=fun a b=>by
  rw[List.getElem?_append_right (by simp)];simp
 have e2:∀(a b:List AV),((A.map hpR)++a::b::B.map hpR)[A.length]?=some a:=fun a b=>by
  rw[List.getElem?_append_right (by simp)];simp
 have s1:∀(a b c:List AV),((A.map hpR)++a::b::B.map hpR).set (A.length+1) c=(A.map hpR)++a::c::B.map hpR:=fun a b c=>by
  rw[List.set_append_right _ _ (by simp)];simp
 have s2:∀(a b c:List AV),((A.map hpR)++a::b::B.map hpR).set A.length c=(A.map hpR)++c::b::B.map hpR:=fun a b c=>by
  rw[List.set_append_right _ _ (by simp)];simp
 simp only[hpL,List.map_append,List.map_cons,Nat.add_sub_cancel];rw[jh (e1 _ _),s1,jh (e1 _ _),s1,jh (e1 _ _),s1,jh (e2 _ _),s2,jh (e2 _ _),s2,jh (e2 _ _),s2];rfl
theorem Mp(n:Nat)(go0:aQ->Option aw)(go1:aQ->Option aw)(i:Nat)(hi:i<=100)(L:Lv):bT n go0 go1 (i:Int) 0 L=go0 ((i:Int)+1,L):=by
 unfold bT;try unfold fp
 have c8:(-9223372036854775808:Int)<=(i:Int)+1:=by omega
 have c9:(i:Int)+1<=(9223372036854775807:Int):=by omega
 simp[c8,c9]
theorem MC(n:Nat)(go0:aQ->Option aw)(go1:aQ->Option aw)(i:Nat)(hi:i<=100)(A B:List Hp)(x y:Hp)(hA:A.length<=100):
  bT n go0 go1 (i:Int) ((A.length+1:Nat):Int) (hpL (A++y::x::B))=if ltH x y then go1 ((A.length:Int),hpL (A++x::y::B))else go0 ((i:Int)+1,hpL (A++y::x::B)):=by
 have hx:∀k,cA (hpL (A++y::x::B)) ((A.length+1:Nat):Int) k=(hpR x).getD k (.int 0):=fun k=>bv (by
  rw[show(((A.length+1:Nat):Int)).toNat=A.length+1 by omega,List.getElem?_append_right (by omega)];simp)
 have hy:∀k,cA (hpL (A++y::x::B)) (((A.length+1:Nat):Int)-1) k=(hpR y).getD k (.int 0):=fun k=>bv (by
  rw[show(((A.length+1:Nat):Int)-1).toNat=A.length by omega,List.getElem?_append_right (by omega)];simp)
 have x0:cI (hpL (A++y::x::B)) ((A.length+1:Nat):Int) 0=x.a:=by simp only[cI,hx];rfl
 have x1:cI (hpL (A++y::x::B)) ((A.length+1:Nat):Int) 1=x.p:=by simp only[cI,hx];rfl
 have x2:cB (hpL (A++y::x::B)) ((A.length+1:Nat):Int) 2=x.b:=by simp only[cB,hx];rfl
 have y0:cI (hpL (A++y::x::B)) (((A.length+1:Nat):Int)-1) 0=y.a:=by simp only[cI,hy];rfl
 have y1:cI (hpL (A++y::x::B)) (((A.length+1:Nat):Int)-1) 1=y.p:=by simp only[cI,hy];rfl
 have y2:cB (hpL (A++y::x::B)) (((A.length+1:Nat):Int)-1) 2=y.b:=by simp only[cB,hy];rfl
 have hsw:=FG (A:=A) (B:=B) (x:=x) (y:=y) (j:=A.length+1) rfl;rw[Nat.add_sub_cancel]at hsw;have t1:(((A.length+1:Nat):Int)).toNat=A.length+1:=by omega
 have t2:(((A.length+1:Nat):Int)-1).toNat=A.length:=by omega
 have t3:((A.length+1:Nat):Int)-1=(A.length:Int):=by omega
 have c8:(-9223372036854775808:Int)<=(i:Int)+1:=by omega
 have c9:(i:Int)+1<=(9223372036854775807:Int):=by omega
 have d1:(0:Int)<((A.length+1:Nat):Int):=by omega
 have d2:(0:Int)<=((A.length+1:Nat):Int):=by omega
 have d3:((A.length+1:Nat):Int)<((hpL (A++y::x::B)).length:Int):=by simp;omega
 have d4:(-9223372036854775808:Int)<=((A.length+1:Nat):Int)-1:=by omega
 have d5:((A.length+1:Nat):Int)-1<=(9223372036854775807:Int):=by omega
 have d6:(0:Int)<=((A.length+1:Nat):Int)-1:=by omega
 have d7:((A.length+1:Nat):Int)-1<((hpL (A++y::x::B)).length:Int):=by simp;omega
 unfold bT;try unfold fp
 generalize hL:hpL (A++y::x::B)=L at *
 generalize ((A.length+1:Nat):Int)=j at *
 simp only[x0,x1,x2,y0,y1,y2,c8,c9,d1,d2,d3,d4,d5,d6,d7,t1,t2,hsw,decide_true,Bool.and_self];simp only[cond_true];rw[t3];by_cases hlt:ltH x y
 ·rw[if_pos hlt]
  unfold ltH at hlt;by_cases k1:x.a<y.a
  ·simp[k1]
  ·have k4:x.a=y.a:=by omega
   have k5:x.p<y.p:=by omega
   simp[k4,k5]
 ·rw[if_neg hlt]
  unfold ltH at hlt;have k1:¬x.a<y.a:=by omega
  by_cases k2:y.a<x.a
  ·simp[k1,k2]
  ·have k4:x.a=y.a:=by omega
   have k5:¬x.p<y.p:=by omega
   simp[k4,k5]
theorem PA(n:Nat)(go0:aQ->Option aw)(i:Nat)(hi:i<=100)(x:Hp)(S R:List Hp)(hS:dh S)(hl:S.length<=100):∀(m:Nat) (A B:List Hp),S=A++B->(∀y∈B,ltH x y)->A.length<m →
  aa (fun go1 s=>bT n go0 go1 (i:Int) s.1 s.2) m ((A.length:Int),hpL (A++x::(B++R)))=go0 ((i:Int)+1,hpL (ins x S++R)):=by
 intro m;induction m with
 |zero=>intro A B _ _ h;omega
 | succ m ih=>
  intro A B hAB hB hm;rw[DK];rcases List.eq_nil_or_concat A with rfl|⟨A',y,rfl⟩
  ·show bT n go0 _ (i:Int) 0 _=_
   rw[Mp n go0 _ i hi];have hS':dh ([]++B):=hAB▸hS
   rw[hAB,zK hS' hB (fun y hy=>by cases hy)]
   simp
  ·rw[List.concat_eq_append]at hAB hm⊢
   have e1:(A'++[y])++x::(B++R)=A'++y::x::(B++R):=by simp
   have e2:((A'++[y]).length:Int)=((A'.length+1:Nat):Int):=by simp
   rw[e1,e2];show bT n go0 _ (i:Int) ((A'.length+1:Nat):Int) (hpL (A'++y::x::(B++R)))=_
   have hA':A'.length<=100:=by rw[hAB]at hl;simp at hl;omega
   rw[MC n go0 _ i hi A' (B++R) x y hA'];by_cases hxy:ltH x y
   ·rw[if_pos hxy]
    have:=ih A' (y::B) (by rw[hAB];simp) (fun z hz=>by
     rcases List.mem_cons.1 hz with rfl|hz
     ·exact hxy
     ·exact hB z hz) (by simp at hm;omega)
    rw[List.cons_append]at this;exact this
   ·rw[if_neg hxy]
    have hS':dh ((A'++[y])++B):=hAB▸hS
    rw[hAB,zK hS' hB (fun z hz=>by simp at hz;subst hz;exact hxy)]
    simp
theorem NI(n:Nat)(l:List Hp)(hl:l.length<=19)(hn:200<n):aa (fun go0 s=>iG n go0 (hpL l) s.1 s.2) n ((1:Int),hpL l)=some (hpL (dy l)):=by
 refine ar (fun s=>∃i:Nat,s=((i:Int),hpL (dy (l.take i)++l.drop i))/\1<=i/\i<=l.length+1) (fun s=>l.length+1-s.1.toNat) _ ?_ n _ ⟨1,?_,by omega,by omega⟩ (by simp;omega)
 ·rintro _ go ⟨i,rfl,h1,h2⟩ ih
  simp only
  unfold iG;by_cases hlt:i<l.length
  ·have c1:(i:Int)<((hpL l).length:Int):=by rw[List.length_map];omega
   obtain⟨x,hx⟩:=aD hlt;rw[decide_eq_true c1,cond_true,cJ hx];have hli:(dy (l.take i)).length=i:=by rw[rl,List.length_take];omega
   have:=PA n go i (by omega) x (dy (l.take i)) (l.drop (i+1)) (pp _) (by omega) n (dy (l.take i)) [] (by simp) (fun y hy=>by cases hy) (by omega)
   rw[hli,List.nil_append]at this;rw[this];exact ih _ ⟨i+1,by rw[bV hx,DO];simp,by omega,by omega⟩ (by simp only;omega)
  ·have c1:¬(i:Int)<((hpL l).length:Int):=by rw[List.length_map];omega
   have c2:¬(20:Int)<((hpL l).length:Int):=by rw[List.length_map];omega
   rw[decide_eq_false c1,cond_false,decide_eq_false c2,cond_false,List.take_of_length_le (by omega),List.drop_of_length_le (by omega),List.append_nil]
 ·cases l with
  |nil=>rfl
  |cons x l=>rfl
theorem oK{n:Int}{r:Rl}:∀ {ps:List Pt} {last:Int},PtsV n r last ps->∀p∈ps,p.c.n=n/\cD r p.c p.es
 |[],_,_,p,hp=>by cases hp
 |q::ps,_,h,p,hp=>by
  rcases List.mem_cons.1 hp with rfl|hp
  ·exact⟨h.1.1,h.1.2.1⟩
  ·exact oK h.2 p hp
theorem zg{r:Rl}{ps:List Pt}{i:Nat}{p:Pt}(h:ps[i]?=some p):bO r i (ps.drop i)=(an r p.c p.es).filterMap (bp i)++bO r (i+1) (ps.drop (i+1)):=by
 rw[cJ h];rfl
theorem xY(n:Nat)(c:Ch)(h:ChV c)(hn:200<n):gh n c.n c.f c.r.a c.r.c c.r.s c.r.r (lfL c.life) (ptL c.ps)=some (hpL (hps c)):=by
 obtain⟨_,_,_,_,_,h8,hP⟩:=h;have htot:=l3 c.r c.ps 0;unfold gh mH;refine ar (fun s=>∃(i:Nat) (A:List Hp),s=(hpL A,(i:Int))/\i<=c.ps.length/\A++bO c.r i (c.ps.drop i)=bO c.r 0 c.ps) (fun s=>c.ps.length-s.2.toNat) _ ?_ n _ ⟨0,[],rfl,by omega,by simp⟩ (by simp;omega)
 rintro _ go ⟨i,A,rfl,hi,hA⟩ ih;simp only
 unfold mi;by_cases hlt:i<c.ps.length
 ·obtain⟨p,hp⟩:=aD hlt
  have hc:∀k,cA (ptL c.ps) (i:Int) k=(ptR p).getD k (.int 0):=fun k=>bv (by simpa using hp)
  have g0:cI (ptL c.ps) i 0=p.c.n:=by simp only[cI,hc];rfl
  have g1:cI (ptL c.ps) i 1=p.c.f:=by simp only[cI,hc];rfl
  have g2:cI (ptL c.ps) i 2=p.c.t:=by simp only[cI,hc];rfl
  have g3:cI (ptL c.ps) i 3=p.c.h:=by simp only[cI,hc];rfl
  have g4:cI (ptL c.ps) i 4=p.c.a:=by simp only[cI,hc];rfl
  have g5:cB (ptL c.ps) i 5=p.c.b:=by simp only[cB,hc];rfl
  have g6:cL (ptL c.ps) i 6=ceL p.es:=by simp only[cL,hc];rfl
  have c1:(i:Int)<((ptL c.ps).length:Int):=by rw[List.length_map];omega
  have c2:(0:Int)<=(i:Int):=by omega
  have hv:=(oK hP p (List.mem_of_getElem? hp)).2;rw[decide_eq_true c1,cond_true,decide_eq_true c2,cond_true,g0,g1,g2,g3,g4,g5,g6,B8 n c.r p.c p.es hn,if_pos hv,Option.bind_some];rw[zg hp]at hA;obtain⟨T,hT⟩:∃T,T=an c.r p.c p.es:=⟨_,rfl⟩
  have hTl:T.length<=110:=by rw[hT];exact pi hv.2.2.1
  rw[<-hT]at hA⊢
  refine ar (fun s=>∃(k:Nat) (B:List Hp),s=(hpL B,(k:Int))/\k<=T.length/\B++(T.drop k).filterMap (bp i)=A++T.filterMap (bp i)) (fun s=>T.length-s.2.toNat) _ ?_ n _ ⟨0,A,rfl,by omega,by simp⟩ (by simp;omega)
  rintro _ go1 ⟨k,B,rfl,hk,hB⟩ ih1;simp only
  unfold mO;have hBl:B.length<=16:=by
   have e1:=congrArg List.length hB;have e2:=congrArg List.length hA;simp only[List.length_append]at e1 e2;omega
  have c4:(-9223372036854775808:Int)<=(k:Int)+1:=by omega
  have c5:(k:Int)+1<=(9223372036854775807:Int):=by omega
  have c6:(-9223372036854775808:Int)<=(i:Int)+1:=by omega
  have c7:(i:Int)+1<=(9223372036854775807:Int):=by omega
  have c8:(((hpL B).length:Int)+1)*24<=140737488355328:=by rw[List.length_map];omega
  have c9:(0:Int)<=(k:Int):=by omega
  by_cases hkt:k<T.length
  ·obtain⟨x,hx⟩:=aD hkt
   have hcx:∀j,cA (csL T) (k:Int) j=(csR x).getD j (.int 0):=fun j=>bv (by simpa using hx)
   have x0:cI (csL T) k 0=x.s:=by simp only[cI,hcx];rfl
   have x1:cI (csL T) k 1=x.f:=by simp only[cI,hcx];rfl
   have c10:(k:Int)<((csL T).length:Int):=by rw[List.length_map];omega
   rw[cJ hx,List.filterMap_cons]at hB;rw[x0,x1,decide_eq_true c10,cond_true,decide_eq_true c9,cond_true];by_cases h4:x.s=4\/x.s=8
   ·have hh:bp i x=some ⟨x.f,i,decide (x.s=8)⟩:=by unfold bp;rw[if_pos h4]
    rw[hh]at hB;have hgo:=ih1 _ ⟨k+1,B++[⟨x.f,i,decide (x.s=8)⟩],rfl,by omega,by rw[<-hB];simp⟩ (by simp only;omega)
    have e:hpL (B++[⟨x.f,i,decide (x.s=8)⟩])=hpL B++[[AV.int x.f,AV.int (i:Int),AV.bool (decide (x.s=8))]]:=by simp
    rw[e]at hgo;rcases h4 with h4|h4
    ·rw[decide_eq_true h4,cond_true,decide_eq_true c8,cond_true,decide_eq_true c4,decide_eq_true c5,Bool.and_self,cond_true];exact hgo
    ·have h5:¬x.s=4:=by omega
     rw[decide_eq_false h5,cond_false,decide_eq_true h4,cond_true,decide_eq_true c8,cond_true,decide_eq_true c4,decide_eq_true c5,Bool.and_self,cond_true];rw[decide_eq_true h4]at hgo;exact hgo
   ·have hh:bp i x=none:=by unfold bp;rw[if_neg h4]
    rw[hh]at hB;have h5:¬x.s=4:=fun h=>h4 (.inl h)
    have h6:¬x.s=8:=fun h=>h4 (.inr h)
    rw[decide_eq_false h5,cond_false,decide_eq_false h6,cond_false,decide_eq_true c4,decide_eq_true c5,Bool.and_self,cond_true];exact ih1 _ ⟨k+1,B,rfl,by omega,hB⟩ (by simp only;omega)
  ·have hkk:k=T.length:=by omega
   have c10:¬(k:Int)<((csL T).length:Int):=by rw[List.length_map];omega
   rw[hkk,List.drop_length]at hB;simp only[List.filterMap_nil,List.append_nil]at hB;rw[decide_eq_false c10,cond_false,decide_eq_true c6,decide_eq_true c7,Bool.and_self,cond_true];exact ih _ ⟨i+1,B,rfl,by omega,by rw[hB,List.append_assoc];exact hA⟩ (by simp only;omega)
 ·have h00:i=c.ps.length:=by omega
  have c1:¬(i:Int)<((ptL c.ps).length:Int):=by rw[List.length_map];omega
  rw[h00,List.drop_length]at hA;have hA:A=bO c.r 0 c.ps:=by simpa[bO]using hA
  have hl:A.length<=19:=by rw[hA];omega
  have c2:¬(20:Int)<=((hpL A).length:Int):=by rw[List.length_map];omega
  rw[decide_eq_false c1,cond_false];unfold mq;rw[decide_eq_false c2,cond_false,NI n A hl hn,hA];rfl
section
variable (c:Ch)
theorem nS{ps:List Pt}{i:Nat}{p:Pt}(hp:ps[i]?=some p):cI (ptL ps) i 0=p.c.n/\cI (ptL ps) i 1=p.c.f/\cI (ptL ps) i 2=p.c.t/\cI (ptL ps) i 3=p.c.h/\cI (ptL ps) i 4=p.c.a/\cB (ptL ps) i 5=p.c.b/\cL (ptL ps) i 6=ceL p.es:=by
 have hc:∀k,cA (ptL ps) (i:Int) k=(ptR p).getD k (.int 0):=fun k=>bv (by simpa using hp)
 refine⟨?_,?_,?_,?_,?_,?_,?_⟩<;>simp only[cI,cB,cL,hc]<;>rfl
end
end Go.Proofs.YtgckmifmjiklmaaGreat
namespace Go.Dial.Chn
open Go.Dial.Clm Go.Dial.Lif
def Rr:Pt:=⟨⟨0,0,0,0,0,false⟩,[]⟩
def cC(c:Ch)(i:Int):Pt:=(c.ps[i.toNat]?).getD Rr
def aT(c:Ch):List Int->Int
 |[]=>c.f
 |x::_=>(cC c x).c.t
structure Mo where
 a:Int
 p:Int
 k:Int
 G:List Int
def lR(c:Ch)(G:List Int)(h:Hp):Prop:=aT c G=(cC c h.p).c.f/\(atL c.life (min h.a 10000000)).s=1/\(atL c.life (min h.a 10000000)).h=(cC c h.p).c.h
instance (c:Ch) (G:List Int) (h:Hp):Decidable (lR c G h):=by unfold lR;infer_instance
def pN(a p:Int):List Int->List Mo
 |[]=>[]
 |x::G=>if p∈x::G then⟨a,x,if x=p then 3 else 4,G⟩::pN a p G else[]
def dW(p:Int):List Int->List Int
 |[]=>[]
 |x::G=>if p∈x::G then dW p G else x::G
def ig(c:Ch)(G:List Int)(h:Hp):List Mo:=
 if h.b=true then(if h.p∈G then pN h.a h.p G else[⟨h.a,h.p,5,G⟩])else if lR c G h then[⟨h.a,h.p,1,h.p::G⟩]else[⟨h.a,h.p,2,G⟩]
def cE(c:Ch)(G:List Int)(h:Hp):List Int:=if h.b=true then dW h.p G else if lR c G h then h.p::G else G
def gB(c:Ch):List Int->List Hp->List Mo
 |_,[]=>[]
 |G,h::l=>ig c G h++gB c (cE c G h) l
def dl(c:Ch)(G:List Int)(l:List Hp):List Int:=l.foldl (cE c) G
def dK(c:Ch)(t:Int):List Int:=dl c [] ((hps c).takeWhile fun h=>decide (h.a<=t))
structure Hd where
 c:Int
 f:Int
 t:Int
deriving DecidableEq
theorem AL{p:Int}{G:List Int}(h:p∉G):dW p G=G:=by
 cases G with
 |nil=>rfl
 |cons x G=>unfold dW;rw[if_neg h]
theorem vl(p:Int)(G:List Int):(dW p G).length<=G.length:=by
 induction G with
 |nil=>simp[dW]
 |cons x G ih=>unfold dW;split<;>simp;omega
theorem N9(a p:Int)(G:List Int):(pN a p G).length=G.length-(dW p G).length:=by
 induction G with
 |nil=>rfl
 |cons x G ih=>
  unfold pN dW;have:=vl p G
  split
  ·simp only[List.length_cons,ih];omega
  ·simp
theorem OJ{p x:Int}{G:List Int}(h:x∈dW p G):x∈G:=by
 induction G with
 |nil=>exact h
 |cons y G ih=>
  unfold dW at h;split at h
  ·exact List.mem_cons_of_mem _ (ih h)
  ·exact h
theorem IB(c:Ch):∀(l:List Hp) (G:List Int),(gB c G l).length<=2*l.length+G.length
 |[],G=>by simp[gB]
 | h::l,G=>by
  have ih:=IB c l (cE c G h);have:(ig c G h).length+(cE c G h).length<=G.length+2:=by
   unfold ig cE;have:=N9 h.a h.p G
   have:=vl h.p G
   split
   ·split
    ·omega
    ·simp;omega
   ·split<;>simp<;>omega
  simp only[gB,List.length_append,List.length_cons];omega
theorem zh{c:Ch}{x:Int}:∀ {l:List Hp} {G:List Int},x∈dl c G l->x∈G\/∃h∈l,h.p=x
 |[],_,h=>.inl h
 | y :: l,G,h=>by
  have h:x∈dl c (cE c G y) l:=h
  rcases zh h with h|⟨z,h1,h2⟩
  ·unfold cE at h
   split at h
   ·exact .inl (OJ h)
   ·split at h
    ·rcases List.mem_cons.1 h with rfl|h
     ·exact .inr ⟨y,List.mem_cons_self ..,rfl⟩
     ·exact .inl h
    ·exact .inl h
  ·exact .inr ⟨z,List.mem_cons_of_mem _ h1,h2⟩
theorem BH{r:Rl}{h:Hp}:∀ {ps:List Pt} {i:Nat},h∈bO r i ps->∃k p,ps[k]?=some p/\h.p=((i+k:Nat):Int)/\∃x∈an r p.c p.es,bp (i+k) x=some h
 |[],_,hh=>by cases hh
 | p::ps,i,hh=>by
  rcases List.mem_append.1 hh with hh|hh
  ·obtain⟨x,h1,h2⟩:=List.mem_filterMap.1 hh
   refine⟨0,p,rfl,?_,x,h1,h2⟩
   unfold bp at h2;split at h2
   ·cases h2;rfl
   ·cases h2
  ·obtain⟨k,q,h1,h2,h3⟩:=BH hh
   exact⟨k+1,q,h1,by rw[h2];congr 1;omega,by rw[show i+(k+1)=i+1+k by omega];exact h3⟩
theorem Ga{x:Hp}:∀ {l acc:List Hp},x∈l.foldl (fun acc x=>ins x acc) acc↔x∈acc\/x∈l
 |[],acc=>by simp
 | y::l,acc=>by
  rw[List.foldl_cons,Ga,mem_ins,List.mem_cons];constructor
  ·rintro ((h|h)|h)
   ·exact .inr (.inl h)
   ·exact .inl h
   ·exact .inr (.inr h)
  ·rintro (h|h|h)
   ·exact .inl (.inr h)
   ·exact .inl (.inl h)
   ·exact .inr h
theorem mem_hps{c:Ch}{h:Hp}:h∈hps c↔h∈bO c.r 0 c.ps:=by
 unfold hps dy;rw[Ga];simp
theorem jO{c:Ch}{h:Hp}(hh:h∈hps c):∃(k:Nat) (p:Pt),c.ps[k]?=some p/\h.p=(k:Int)/\∃x∈an c.r p.c p.es,bp k x=some h:=by
 obtain⟨k,p,h1,h2,h3⟩:=BH (mem_hps.1 hh);rw[Nat.zero_add]at h2 h3;exact⟨k,p,h1,h2,h3⟩
theorem EV(c:Ch):(hps c).length<=2*c.ps.length:=by
 unfold hps;rw[rl];exact l3 c.r c.ps 0
theorem C8(c:Ch):dh (hps c):=pp _
theorem MZ{l:List Hp}(h:dh l){i j:Nat}(hij:i<=j){x y:Hp}(hx:l[i]?=some x)(hy:l[j]?=some y):x.a<=y.a:=by
 induction l generalizing i j with
 |nil=>cases hx
 | cons z l ih=>
  cases i with
  | zero=>
   cases hx
   cases j with
   |zero=>cases hy;omega
   |succ j=>
    have:=h.1 y (List.mem_of_getElem? hy)
    unfold ltH at this;omega
  |succ i=>
   cases j with
   |zero=>omega
   |succ j=>exact ih h.2 (by omega) hx hy
end Go.Dial.Chn
namespace Go.Proofs.YtgckmifmjiklmaaGreat
open Go Go.Sx Go.Dial.Clm Go.Dial.Lif Go.Dial.Chn
abbrev inL(l:List Int):Lv:=l.map fun i=>[AV.int i]
def foL(G:List Int):Lv:=inL G.reverse
theorem bA(G:List Int):(foL G).length=G.length:=by simp[foL]
theorem pJ(G:List Int)(x:Int):foL G++[[AV.int x]]=foL (x::G):=by simp[foL]
theorem JT(G:List Int)(x:Int):List.take ((((foL (x::G)).length:Nat):Int)-1).toNat (foL (x::G))=foL G:=by
 rw[bA];have:((((x::G).length:Nat):Int)-1).toNat=(foL G).length:=by rw[bA];simp
 rw[this,<-pJ];simp
theorem J4(L:Lv)(y:Int):cI (L++[[AV.int y]]) (((L.length:Int)+1)-1) 0=y:=by
 have:(((L.length:Int)+1)-1).toNat=L.length:=by omega
 simp[cI,cA,this,List.getD,AV.i]
theorem te(G:List Int)(x:Int):cI (foL (x::G)) ((((foL (x::G)).length:Nat):Int)-1) 0=x:=by
 have h:=J4 (foL G) x;rw[pJ]at h;rw[bA]at h⊢
 exact h
theorem Of{G:List Int}{k:Nat}{x:Int}(h:G.reverse[k]?=some x):cI (foL G) (k:Int) 0=x:=by
 have:cA (foL G) (k:Int) 0=([AV.int x]:List AV).getD 0 (.int 0):=bv (by simpa using h)
 simp only[cI,this];rfl
def PIn(c:Ch)(x:Int):Prop:=0<=x/\x<(c.ps.length:Int)
def oY(c:Ch)(G:List Int):Prop:=∀x∈G,PIn c x
theorem lN{c:Ch}{x:Int}(h:PIn c x):cI (ptL c.ps) x 1=(cC c x).c.f/\cI (ptL c.ps) x 2=(cC c x).c.t/\cI (ptL c.ps) x 3=(cC c x).c.h:=by
 obtain⟨h1,h2⟩:=h;obtain⟨k,rfl⟩:∃k:Nat,x=(k:Int):=⟨x.toNat,by omega⟩
 obtain⟨p,hp⟩:=aD (l:=c.ps) (i:=k) (by omega)
 obtain⟨_,g1,g2,g3,_⟩:=nS hp;have:cC c (k:Int)=p:=by simp[cC,hp]
 rw[this];exact⟨g1,g2,g3⟩
def wT2(c:Ch)(L:Lv){α:Type}(K:Int->Option α):Option α:=
 (bif 0<(L.length:Int) then bif(-9223372036854775808<=((L.length:Int)-1))&&(((L.length:Int)-1)<=9223372036854775807)then bif 0<=((L.length:Int)-1) then bif ((L.length:Int)-1)<(L.length:Int) then bif 0<=(cI L ((L.length:Int)-1) 0) then bif (cI L ((L.length:Int)-1) 0)<((ptL c.ps).length:Int) then K (cI (ptL c.ps) (cI L ((L.length:Int)-1) 0) 2)else none else none else none else none else none else K c.f)
def wC(c:Ch)(L:Lv){α:Type}(K:Int->Option α):Option α:=
 (bif 0<=(L.length:Int) then bif ((L.length:Int)*8)<=140737488355328 then(bif 0<(L.length:Int) then bif(-9223372036854775808<=((L.length:Int)-1))&&(((L.length:Int)-1)<=9223372036854775807)then bif 0<=((L.length:Int)-1) then bif ((L.length:Int)-1)<(L.length:Int) then bif 0<=(cI L ((L.length:Int)-1) 0) then bif (cI L ((L.length:Int)-1) 0)<((ptL c.ps).length:Int) then K (cI (ptL c.ps) (cI L ((L.length:Int)-1) 0) 2)else none else none else none else none else none else K c.f)else none else none)
def wP(c:Ch)(L:Lv)(p:Int){α:Type}(K:Int->Option α):Option α:=
 (bif ((L.length:Int)+1)*8<=140737488355328 then bif 0<=((L.length:Int)+1) then(bif 0<((L.length:Int)+1) then bif(-9223372036854775808<=(((L.length:Int)+1)-1))&&((((L.length:Int)+1)-1)<=9223372036854775807)then bif 0<=(((L.length:Int)+1)-1) then bif (((L.length:Int)+1)-1)<((L.length:Int)+1) then bif 0<=(cI (L++[[AV.int p]]) (((L.length:Int)+1)-1) 0) then bif (cI (L++[[AV.int p]]) (((L.length:Int)+1)-1) 0)<((ptL c.ps).length:Int) then K (cI (ptL c.ps) (cI (L++[[AV.int p]]) (((L.length:Int)+1)-1) 0) 2)else none else none else none else none else none else K c.f)else none else none)
theorem wth{c:Ch}{G:List Int}(hG:oY c G)(hl:G.length<=100){α:Type}(K:Int->Option α):wT2 c (foL G) K=K (aT c G):=by
 unfold wT2;cases G with
 |nil=>rfl
 |cons x G=>
  have hx:=hG x (List.mem_cons_self ..);obtain⟨_,x2,_⟩:=lN hx;obtain⟨q1,q2⟩:=hx;have e1:(0:Int)<((foL (x::G)).length:Int):=by rw[bA,List.length_cons];omega
  have e5:(-9223372036854775808:Int)<=((foL (x::G)).length:Int)-1:=by omega
  have e6:((foL (x::G)).length:Int)-1<=(9223372036854775807:Int):=by rw[bA,List.length_cons];simp only[List.length_cons]at hl;omega
  have e7:(0:Int)<=((foL (x::G)).length:Int)-1:=by omega
  have e8:((foL (x::G)).length:Int)-1<((foL (x::G)).length:Int):=by omega
  have e9:x<((ptL c.ps).length:Int):=by rw[List.length_map];exact q2
  rw[decide_eq_true e1,cond_true,decide_eq_true e5,decide_eq_true e6,Bool.and_self,cond_true,decide_eq_true e7,cond_true,decide_eq_true e8,cond_true,te,decide_eq_true q1,cond_true,decide_eq_true e9,cond_true,x2];rfl
theorem Qq{c:Ch}{G:List Int}(hG:oY c G)(hl:G.length<=100){α:Type}(K:Int->Option α):wC c (foL G) K=K (aT c G):=by
 unfold wC;have e12:(0:Int)<=((foL G).length:Int):=by omega
 have e13:((foL G).length:Int)*8<=140737488355328:=by rw[bA];omega
 rw[decide_eq_true e12,cond_true,decide_eq_true e13,cond_true];exact wth hG hl K
theorem Rw{c:Ch}{G:List Int}{p:Int}(hG:oY c G)(hl:G.length<=100)(hP:PIn c p){α:Type}(K:Int->Option α):wP c (foL G) p K=K (aT c (p::G)):=by
 unfold wP;obtain⟨g1,g2,g3⟩:=lN hP;obtain⟨p1,p2⟩:=hP;have e0:(0:Int)<((foL G).length:Int)+1:=by omega
 have e2:(0:Int)<=((foL G).length:Int)+1:=by omega
 have e3:(((foL G).length:Int)+1)*8<=140737488355328:=by rw[bA];omega
 have e5:(-9223372036854775808:Int)<=(((foL G).length:Int)+1)-1:=by omega
 have e6:(((foL G).length:Int)+1)-1<=(9223372036854775807:Int):=by rw[bA];omega
 have e7:(0:Int)<=(((foL G).length:Int)+1)-1:=by omega
 have e8:(((foL G).length:Int)+1)-1<((foL G).length:Int)+1:=by omega
 have e9:p<((ptL c.ps).length:Int):=by rw[List.length_map];exact p2
 rw[decide_eq_true e3,cond_true,decide_eq_true e2,cond_true,decide_eq_true e0,cond_true,decide_eq_true e5,decide_eq_true e6,Bool.and_self,cond_true,decide_eq_true e7,cond_true,decide_eq_true e8,cond_true,J4,decide_eq_true p1,cond_true,decide_eq_true e9,cond_true,g2];rfl
abbrev tnR(m:Mo):List AV:=[.int m.a,.int m.p,.int m.k]
abbrev tnL(l:List Mo):Lv:=l.map tnR
theorem Q0{B G':List Int}{p:Int}{k:Nat}(hk:(B++G').reverse[k]?=some p)(hn:∀j,j<k->(B++G').reverse[j]?≠some p):p∈G'↔k<G'.length:=by
 rw[List.reverse_append]at hk hn;constructor
 ·intro h
  rcases Nat.lt_or_ge k G'.length with h1|h1
  ·exact h1
  ·obtain⟨j,hj,he⟩:=List.getElem_of_mem (List.mem_reverse.2 h)
   have hj':j<G'.length:=by simpa using hj
   refine absurd ?_ (hn j (by omega))
   rw[List.getElem?_append_left hj,List.getElem?_eq_getElem hj,he]
 ·intro h
  rw[List.getElem?_append_left (by simpa using h)]at hk
  exact List.mem_reverse.1 (List.mem_of_getElem? hk)
theorem Hr(n:Nat)(c:Ch)(hl:c.life.length<n)(hn:200<n):lZ n c.n c.f c.r.a c.r.c c.r.s c.r.r (lfL c.life) (ptL c.ps)=some (decide (ChV c)):=by
 unfold lZ wO;by_cases a1:0<=c.n
 ·by_cases a2:c.n<=99999999
  ·by_cases a3:0<=c.f
   ·by_cases a4:c.f<=7
    ·rw [decide_eq_true a1,cond_true,decide_eq_true a2,Bool.not_true,cond_false,decide_eq_true a3,cond_true,decide_eq_true a4,Bool.not_true,cond_false,C6 n c.life hl,Option.bind_some]
     by_cases h0:fu c.life
     ·rw [decide_eq_true h0,Bool.not_true,cond_false]
      by_cases h2:c.ps.length<=8
      ·have c3:¬(8:Int)<((ptL c.ps).length:Int):=by rw[List.length_map];omega
       rw[decide_eq_false c3,cond_false];have hdec:decide (ChV c)=decide (PtsV c.n c.r 0 c.ps):=by
        by_cases hP:PtsV c.n c.r 0 c.ps
        ·rw[decide_eq_true hP,decide_eq_true (show ChV c from⟨h0,a1,a2,a3,a4,h2,hP⟩)]
        ·rw[decide_eq_false hP,decide_eq_false (fun h:ChV c=>hP h.2.2.2.2.2.2)]
       rw[hdec];refine ar (fun s=>∃(i:Nat) (last:Int),s=(i:Int)/\i<=c.ps.length/\(PtsV c.n c.r 0 c.ps↔PtsV c.n c.r last (c.ps.drop i))/\((i=0/\last=0)\/(0<i/\∃q,c.ps[i-1]?=some q/\last=q.c.a))) (fun s=>c.ps.length-s.toNat) _ ?_ n _ ⟨0,0,rfl,by omega,by simp,.inl ⟨rfl,rfl⟩⟩ (by simp;omega)
       rintro _ go ⟨i,last,rfl,hi,hE,hlast⟩ ih;unfold wS;by_cases hlt:i<c.ps.length
       ·obtain⟨p,hp⟩:=aD hlt
        obtain⟨g0,g1,g2,g3,g4,g5,g6⟩:=nS hp;have c1:(i:Int)<((ptL c.ps).length:Int):=by rw[List.length_map];omega
        have c2:(0:Int)<=(i:Int):=by omega
        have c4:(-9223372036854775808:Int)<=(i:Int)+1:=by omega
        have c5:(i:Int)+1<=(9223372036854775807:Int):=by omega
        rw[cJ hp]at hE;rw[decide_eq_true c1,cond_true,decide_eq_true c2,cond_true,g0,g1,g2,g3,g4,g5,g6,nn n c.r p.c p.es (by omega)]
        by_cases k1:p.c.n=c.n
        ·rw [decide_eq_true k1,Bool.not_true,cond_false,Option.bind_some]
         by_cases k2:cD c.r p.c p.es
         ·rw[decide_eq_true k2,Bool.not_true,cond_false]
          have h0a:0<=p.c.a:=by have:=k2.2.1;unfold ClV at this;omega
          rcases hlast with⟨e1,e2⟩|⟨e1,q,e2,e3⟩
          ·have d1:¬(0:Int)<(i:Int):=by omega
           rw[decide_eq_false d1,cond_false,decide_eq_true c4,decide_eq_true c5,Bool.and_self,cond_true];exact ih _ ⟨i+1,p.c.a,rfl,by omega,by rw[hE];exact⟨fun h=>h.2,fun h=>⟨⟨k1,k2,by omega⟩,h⟩⟩,.inr ⟨by omega,p,by simpa using hp,rfl⟩⟩ (by omega)
          ·have d1:(0:Int)<(i:Int):=by omega
           have d2:(-9223372036854775808:Int)<=(i:Int)-1:=by omega
           have d3:(i:Int)-1<=(9223372036854775807:Int):=by omega
           have d4:(0:Int)<=(i:Int)-1:=by omega
           have d5:(i:Int)-1<((ptL c.ps).length:Int):=by omega
           have ei:(i:Int)-1=((i-1:Nat):Int):=by omega
           obtain⟨_,_,_,_,z4,_,_⟩:=nS e2;rw[decide_eq_true d1,cond_true,decide_eq_true d2,decide_eq_true d3,Bool.and_self,cond_true,decide_eq_true d4,cond_true,decide_eq_true d5,cond_true,ei,z4];by_cases k3:p.c.a<q.c.a
           ·have:¬PtsV c.n c.r 0 c.ps:=fun h=>by have:=(hE.1 h).1.2.2;omega
            rw[decide_eq_true k3,cond_true,decide_eq_false this]
           ·rw[decide_eq_false k3,cond_false,decide_eq_true c4,decide_eq_true c5,Bool.and_self,cond_true]
            exact ih _ ⟨i+1,p.c.a,rfl,by omega,by rw[hE];exact⟨fun h=>h.2,fun h=>⟨⟨k1,k2,by omega⟩,h⟩⟩,.inr ⟨by omega,p,by simpa using hp,rfl⟩⟩ (by omega)
         ·have:¬PtsV c.n c.r 0 c.ps:=fun h=>k2 (hE.1 h).1.2.1
          rw[decide_eq_false k2,Bool.not_false,cond_true,decide_eq_false this]
        ·have:¬PtsV c.n c.r 0 c.ps:=fun h=>k1 (hE.1 h).1.1
         rw[decide_eq_false k1,Bool.not_false,cond_true,decide_eq_false this]
       ·have h00:i=c.ps.length:=by omega
        have c1:¬(i:Int)<((ptL c.ps).length:Int):=by rw[List.length_map];omega
        rw[h00,List.drop_length]at hE;rw[decide_eq_false c1,cond_false,decide_eq_true (hE.2 trivial)]
      ·have c3:(8:Int)<((ptL c.ps).length:Int):=by rw[List.length_map];omega
       rw[decide_eq_true c3,cond_true,decide_eq_false (fun h:ChV c=>h2 h.2.2.2.2.2.1)]
     ·rw[decide_eq_false h0,Bool.not_false,cond_true,decide_eq_false (fun h:ChV c=>h0 h.1)]
    ·rw[decide_eq_true a1,cond_true,decide_eq_true a2,Bool.not_true,cond_false,decide_eq_true a3,cond_true,decide_eq_false a4,Bool.not_false,cond_true,decide_eq_false (fun h:ChV c=>a4 h.2.2.2.2.1)]
   ·rw[decide_eq_true a1,cond_true,decide_eq_true a2,Bool.not_true,cond_false,decide_eq_false a3,cond_false,decide_eq_false (fun h:ChV c=>a3 h.2.2.2.1)]
  ·rw[decide_eq_true a1,cond_true,decide_eq_false a2,Bool.not_false,cond_true,decide_eq_false (fun h:ChV c=>a2 h.2.2.1)]
 ·rw[decide_eq_false a1,cond_false,decide_eq_false (fun h:ChV c=>a1 h.2.1)]
end Go.Proofs.YtgckmifmjiklmaaGreat
namespace Go.Dial.Chn
open Go.Dial.Clm Go.Dial.Lif
def lst(now:Cs)(l:List Cs):Cs:=l.getLast?.getD now
theorem Ob(now x:Cs)(l:List Cs):lst now (x::l)=lst x l:=by
 cases l<;>simp[lst,List.getLast?_cons]
def AM(r:Rl)(i:Nat)(now:Cs)(L:List Hp)(z:Cs):Prop:=
 (now.s<=3->(L=[]/\6<=z.s)\/(∃f,now.f<=f/\L=[⟨f,i,false⟩]/\z=⟨5,f+r.r,-1⟩)\/(∃f g,now.f<=f/\f<=g/\g<f+r.r/\L=[⟨f,i,false⟩,⟨g,i,true⟩]/\z.s=8)) ∧
 (now.s=4->(L=[]/\z=⟨5,now.f+r.r,-1⟩)\/(∃g,now.f<=g/\g<now.f+r.r/\L=[⟨g,i,true⟩]/\z.s=8)) ∧
 (5<=now.s->L=[]/\z=now)
theorem va{r:Rl}{i:Nat}{now:Cs}{s f:Int}{l:List Cs}(h:AM r i (st r s f) (l.filterMap (bp i)) (lst (st r s f) l))(hf:now.f<=f)
  (hs:(now.s<=3/\(s=2\/s=3\/s=4\/s=6\/s=7))\/(now.s=4/\((s=5/\f=now.f+r.r)\/(s=8/\f<now.f+r.r)))):
  AM r i now ((st r s f::l).filterMap (bp i)) (lst now (st r s f::l)):=by
 rw[Ob,List.filterMap_cons];have e1:(st r s f).s=s:=rfl
 have e2:(st r s f).f=f:=rfl
 unfold AM at h⊢
 rw[e1,e2]at h;obtain⟨h1,h2,h3⟩:=h;rcases hs with⟨q,hs⟩|⟨q,hs⟩
 ·refine⟨fun _=>?_,fun h=>by omega,fun h=>by omega⟩
  rcases hs with rfl|rfl|rfl|rfl|rfl
  ·have:bp i (st r 2 f)=none:=rfl
   rw[this];simp only
   rcases h1 (by decide)with h|⟨a,b,c⟩|⟨a,b,c,d⟩
   ·exact .inl h
   ·exact .inr (.inl ⟨a,by omega,c⟩)
   ·exact .inr (.inr ⟨a,b,by omega,d⟩)
  ·have:bp i (st r 3 f)=none:=rfl
   rw[this];simp only
   rcases h1 (by decide)with h|⟨a,b,c⟩|⟨a,b,c,d⟩
   ·exact .inl h
   ·exact .inr (.inl ⟨a,by omega,c⟩)
   ·exact .inr (.inr ⟨a,b,by omega,d⟩)
  ·have:bp i (st r 4 f)=some ⟨f,i,false⟩:=rfl
   rw[this];simp only
   rcases h2 rfl with⟨h,g⟩|⟨g,a,b,c,d⟩
   ·exact .inr (.inl ⟨f,hf,by rw[h],g⟩)
   ·exact .inr (.inr ⟨f,g,hf,a,b,by rw[c],d⟩)
  ·have:bp i (st r 6 f)=none:=rfl
   rw[this];simp only
   obtain⟨h,g⟩:=h3 (by decide)
   exact .inl ⟨h,by rw[g,e1];decide⟩
  ·have:bp i (st r 7 f)=none:=rfl
   rw[this];simp only
   obtain⟨h,g⟩:=h3 (by decide)
   exact .inl ⟨h,by rw[g,e1];decide⟩
 ·refine⟨fun h=>by omega,fun _=>?_,fun h=>by omega⟩
  rcases hs with⟨rfl,hf'⟩|⟨rfl,hf'⟩
  ·have:bp i (st r 5 f)=none:=rfl
   rw[this];simp only
   obtain⟨h,g⟩:=h3 (by decide)
   exact .inl ⟨h,by rw[g,<-hf'];rfl⟩
  ·have:bp i (st r 8 f)=some ⟨f,i,true⟩:=rfl
   rw[this];simp only
   obtain⟨h,g⟩:=h3 (by decide)
   exact .inr ⟨f,hf,hf',by rw[h],by rw[g];rfl⟩
theorem Ow{r:Rl}(hr:RlV r){b:Bool}{i:Nat}:∀(m:Nat) (now:Cs) (es:List Ce),5*es.length+rk now.s<=m->1<=now.s->(act now->now.n=now.f+dur r now.s)->EvV now.f es →
  AM r i now ((tl r b now es).filterMap (bp i)) (lst now (tl r b now es)):=by
 have nil:∀now:Cs,5<=now.s->AM r i now (([]:List Cs).filterMap (bp i)) (lst now []):=fun now h=>⟨fun h=>by omega,fun h=>by omega,fun _=>⟨rfl,rfl⟩⟩
 have ni:∀s f,act (st r s f)->(st r s f).n=(st r s f).f+dur r (st r s f).s:=fun s f ha=>by
  unfold act at ha;simp only[st]at ha⊢;rw[if_pos ha]
 have auto:∀now:Cs,act now->now.n=now.f+dur r now.s->(now.s<=3/\(aft now.s=2\/aft now.s=3\/aft now.s=4\/aft now.s=6\/aft now.s=7))\/(now.s=4/\((aft now.s=5/\now.n=now.f+r.r)\/(aft now.s=8/\now.n<now.f+r.r))):=by
  intro now ha hn;unfold act at ha;have:now.s=1\/now.s=2\/now.s=3\/now.s=4:=by omega
  rcases this with h|h|h|h<;>rw[h]at hn⊢<;>simp[aft,dur]at hn⊢
  exact hn
 have later:∀now:Cs,act now->now.n=now.f+dur r now.s->now.f<now.n:=fun now _ h=>by
  have:=MU hr now.s
  omega
 have aft1:∀s,1<=s->1<=aft s:=fun s h=>by unfold aft;split;omega;split<;>omega
 intro m;induction m with
 | zero=>
  intro now es hm h1 hn hE;have he:es=[]:=by
   cases es with
   |nil=>rfl
   |cons e es=>simp at hm
  subst he;by_cases ha:act now
  ·have:=dg ha;omega
  ·rw[kE ha]
   exact nil now (by unfold act at ha;omega)
 | succ m ih=>
  intro now es hm h1 hn hE;cases es with
  | nil=>
   by_cases ha:act now
   ·rw[tg ha]
    exact va (ih (st r (aft now.s) now.n) [] (by have:=dg ha;simp only[st];omega) (aft1 _ h1) (ni _ _) trivial) (Int.le_of_lt (later now ha (hn ha))) (auto now ha (hn ha))
   ·rw[kE ha]
    exact nil now (by unfold act at ha;omega)
  | cons e es=>
   obtain⟨hc,hE'⟩:=hE;by_cases ha:act now/\now.n<=e.a
   ·rw[oE ha]
    exact va (ih (st r (aft now.s) now.n) (e::es) (by have:=dg ha.1;simp only[st];omega) (aft1 _ h1) (ni _ _) ⟨⟨hc.1,hc.2.1,ha.2,hc.2.2.2⟩,hE'⟩) (Int.le_of_lt (later now ha.1 (hn ha.1))) (auto now ha.1 (hn ha.1))
   ·by_cases hbb:bec b now.s e<0
    ·rw[oD ha hbb]
     exact ih now es (by simp only[List.length_cons]at hm;omega) h1 hn (NX hE' hc.2.2.1)
    ·rw[A4 ha hbb]
     have h8:=zG hbb;refine va (ih (st r (bec b now.s e) e.a) es (by simp only[List.length_cons]at hm;have:=eT (st r (bec b now.s e) e.a).s;omega) (by simp only[st];omega) (ni _ _) hE') hc.2.2.1 ?_
     rcases h8 with⟨q1,q2,q3⟩|⟨q1,q2⟩
     ·exact .inl ⟨q2,by omega⟩
     ·have hact:act now:=⟨by omega,by omega⟩
      have:=hn hact
      have hd:dur r now.s=r.r:=by rw[q1];rfl
      refine .inr ⟨q1,.inr ⟨q2,?_⟩⟩
      have:¬now.n<=e.a:=fun h=>ha ⟨hact,h⟩
      omega
theorem LG{r:Rl}{c:Cl}{es:List Ce}(h:cD r c es)(i:Nat):AM r i (x0 r c) ((an r c es).filterMap (bp i)) (lst (x0 r c) (tl r c.b (x0 r c) es)):=by
 have:=Ow h.1 (b:=c.b) (i:=i) _ (x0 r c) es (Nat.le_refl _) (show(1:Int)<=1 by decide) (fun _=>by simp[x0,st,dur]) h.2.2.2
 unfold an;rw[List.filterMap_cons];have h0:bp i (x0 r c)=none:=by unfold bp x0 st;simp
 rw[h0];exact this
theorem uR{r:Rl}{c:Cl}{es:List Ce}(h:cD r c es)(i:Nat):((an r c es).filterMap (bp i)=[]/\6<=(lst (x0 r c) (tl r c.b (x0 r c) es)).s) ∨
 (∃f,c.a<=f/\(an r c es).filterMap (bp i)=[⟨f,i,false⟩]/\lst (x0 r c) (tl r c.b (x0 r c) es)=⟨5,f+r.r,-1⟩) ∨
 (∃f g,c.a<=f/\f<=g/\g<f+r.r/\(an r c es).filterMap (bp i)=[⟨f,i,false⟩,⟨g,i,true⟩]/\(lst (x0 r c) (tl r c.b (x0 r c) es)).s=8):=(LG h i).1 (show(1:Int)<=3 by decide)
def bnd(r:Rl)(c:Cl)(s:Int):Int:=if s=1 then c.a else if s=2 then c.a+r.a-1 else if s=3 then c.a+r.a-1+r.s else if s=4 then c.a+r.a-1+r.s+r.c else ic r c
theorem HM{r:Rl}{c:Cl}{es:List Ce}(h:cD r c es):∀x∈an r c es,x.f<=ic r c:=by
 have hr:=h.1;have hle:∀s,bnd r c s<=ic r c:=fun s=>by unfold RlV at hr;unfold bnd ic;grind
 have key:∀now:Cs,now.f<=bnd r c now.s->act now->now.n=now.f+dur r now.s->now.n<=bnd r c (aft now.s):=fun now h1 ha hn=>by
  unfold act at ha;unfold RlV at hr;have:now.s=1\/now.s=2\/now.s=3\/now.s=4:=by omega
  rcases this with h|h|h|h<;>rw[h]at hn h1⊢<;>simp[aft,dur,bnd,ic]at hn h1⊢<;>omega
 have kev:∀(b:Bool) (now:Cs) (e:Ce),now.f<=bnd r c now.s->(act now->now.n=now.f+dur r now.s)->¬(act now/\now.n<=e.a)->¬bec b now.s e<0->e.a<=bnd r c (bec b now.s e):=fun b now e h1 hn ha hb=>by
  have h8:=zG hb;have hact:act now:=by unfold act;omega
  have hn:=hn hact;have ha:e.a<now.n:=by
   rcases Int.lt_or_le e.a now.n with h|h
   ·exact h
   ·exact absurd ⟨hact,h⟩ ha
  unfold RlV at hr;rcases h8 with⟨q1,q2,q3⟩|⟨q1,q2⟩
  ·have:now.s=1\/now.s=2\/now.s=3:=by omega
   have hk:bec b now.s e=2->now.s=1:=fun hk=>by unfold bec at hk;grind
   have hk3:bec b now.s e=3->now.s<=2:=fun hk=>by unfold bec at hk;grind
   have hk6:bec b now.s e=6->now.s<=2:=fun hk=>by unfold bec at hk;grind
   rcases this with h|h|h<;>rw[h]at hn h1 hk hk3 hk6<;>simp[dur,bnd]at hn h1<;>rcases q3 with q|q|q|q<;>rw[h]at q<;>rw[h,q]<;>simp[bnd,ic]<;>grind
  ·rw[q2];rw[q1]at hn h1
   simp[dur,bnd,ic]at hn h1⊢
   omega
 intro x hx;unfold an at hx;rcases List.mem_cons.1 hx with rfl|hx
 ·have:=hle 1
  simpa[bnd,x0,st]using this
 ·refine zY (r:=r) (b:=c.b) (fun x=>x.f<=ic r c) (fun now _=>now.f<=bnd r c now.s/\(act now->now.n=now.f+dur r now.s)) ?_ ?_ ?_ ?_ _ (x0 r c) es (Nat.le_refl _) ⟨by simp[x0,st,bnd],fun _=>by simp[x0,st,dur]⟩ x hx
  ·intro now e es ⟨g1,g2⟩ ha _
   have:=key now g1 ha (g2 ha)
   exact⟨Int.le_trans this (hle _),this,fun hx=>by unfold act at hx;simp only[st]at hx⊢;rw[if_pos hx]⟩
  ·intro now e es g _ _
   exact g
  ·intro now e es ⟨g1,g2⟩ ha hb
   have:=kev c.b now e g1 g2 ha hb
   exact⟨Int.le_trans this (hle _),this,fun hx=>by unfold act at hx;simp only[st]at hx⊢;rw[if_pos hx]⟩
  ·intro now ⟨g1,g2⟩ ha
   have:=key now g1 ha (g2 ha)
   exact⟨Int.le_trans this (hle _),this,fun hx=>by unfold act at hx;simp only[st]at hx⊢;rw[if_pos hx]⟩
theorem NQ(x:Hp)(l:List Hp):(ins x l).Perm (x::l):=by
 induction l with
 |nil=>exact List.Perm.refl _
 |cons y l ih=>
  unfold ins;split
  ·exact List.Perm.refl _
  ·exact(List.Perm.cons y ih).trans (List.Perm.swap x y l)
theorem En(l:List Hp):(dy l).Perm l:=by
 have:∀(l acc:List Hp),(l.foldl (fun acc x=>ins x acc) acc).Perm (l++acc):=by
  intro l;induction l with
  |nil=>intro acc;exact List.Perm.refl _
  |cons x l ih=>
   intro acc;rw[List.foldl_cons];refine(ih _).trans ?_
   refine((NQ x acc).append_left l).trans ?_
   exact List.perm_middle
 have:=this l []
 rw[List.append_nil]at this;exact this
theorem Cy{n:Int}{r:Rl}:∀ {ps:List Pt} {last:Int},PtsV n r last ps->∀p∈ps,p.c.n=n/\cD r p.c p.es
 |[],_,_,p,h=>by cases h
 |q::ps,_,hv,p,h=>by
  rcases List.mem_cons.1 h with rfl|h
  ·exact⟨hv.1.1,hv.1.2.1⟩
  ·exact Cy hv.2 p h
def Good(c:Ch):Prop:=ChV c/\∀p∈c.ps,ic c.r p.c<=400000
theorem J1{c:Ch}(h:ChV c){k:Nat}{p:Pt}(hp:c.ps[k]?=some p):cD c.r p.c p.es:=(Cy h.2.2.2.2.2.2 p (List.mem_of_getElem? hp)).2
theorem FF{c:Ch}{k:Nat}{p:Pt}(hp:c.ps[k]?=some p):cC c (k:Int)=p:=by simp[cC,hp]
def hpP(c:Ch)(k:Nat):List Hp:=(an c.r (cC c k).c (cC c k).es).filterMap (bp k)
def yl(c:Ch)(x:Int):Int:=match hpP c x.toNat with
 |h::_=>h.a
 |[]=>0
theorem PY{c:Ch}{h:Hp}(hh:h∈hps c):∃(k:Nat) (p:Pt),c.ps[k]?=some p/\h.p=(k:Int)/\h∈hpP c k:=by
 obtain⟨k,p,h1,h2,x,h3,h4⟩:=jO hh;refine⟨k,p,h1,h2,?_⟩
 unfold hpP;rw[FF h1];exact List.mem_filterMap.2 ⟨x,h3,h4⟩
theorem No{c:Ch}(hV:ChV c){k:Nat}{p:Pt}(hp:c.ps[k]?=some p):hpP c k=[]\/(∃f,hpP c k=[⟨f,k,false⟩]/\yl c k=f)\/(∃f g,f<=g/\g<f+c.r.r/\hpP c k=[⟨f,k,false⟩,⟨g,k,true⟩]/\yl c k=f):=by
 unfold yl;rw[Int.toNat_natCast];have hc:=uR (J1 hV hp) k;have he:hpP c k=(an c.r p.c p.es).filterMap (bp k):=by unfold hpP;rw[FF hp]
 rw[he];rcases hc with⟨h,_⟩|⟨f,h1,h2,_⟩|⟨f,g,h1,h2,h3,h4,_⟩
 ·exact .inl h
 ·exact .inr (.inl ⟨f,h2,by rw[h2]⟩)
 ·exact .inr (.inr ⟨f,g,h2,h3,h4,by rw[h4]⟩)
theorem P1{c:Ch}(hV:ChV c){h:Hp}(hh:h∈hps c)(hb:h.b=false):h=⟨yl c h.p,h.p,false⟩:=by
 obtain⟨k,p,h1,h2,h3⟩:=PY hh;rcases No hV h1 with e|⟨f,e,q⟩|⟨f,g,_,_,e,q⟩
 ·rw[e]at h3;cases h3
 ·rw[e]at h3
  rw[List.mem_singleton]at h3;rw[h2,q];exact h3
 ·rw[e]at h3
  rcases List.mem_cons.1 h3 with h3|h3
  ·rw[h2,q];exact h3
  ·rw[List.mem_singleton]at h3
   rw[h3]at hb;cases hb
theorem MS{c:Ch}(hV:ChV c):(hps c).Nodup:=by
 refine(En _).nodup_iff.2 ?_
 have:∀(ps:List Pt) (i:Nat),(∀p∈ps,cD c.r p.c p.es)->(bO c.r i ps).Nodup/\∀h∈bO c.r i ps,(i:Int)<=h.p:=by
  intro ps;induction ps with
  |nil=>intro i _;exact⟨List.nodup_nil,fun h hh=>by cases hh⟩
  | cons p ps ih=>
   intro i hp;obtain⟨h1,h2⟩:=ih (i+1) (fun q hq=>hp q (List.mem_cons_of_mem _ hq))
   have hc:=uR (hp p (List.mem_cons_self ..)) i;have hi:((an c.r p.c p.es).filterMap (bp i)).Nodup/\∀h∈(an c.r p.c p.es).filterMap (bp i),h.p=(i:Int):=by
    rcases hc with⟨h,_⟩|⟨f,_,h,_⟩|⟨f,g,_,_,_,h,_⟩<;>rw[h]
    ·exact⟨List.nodup_nil,fun h hh=>by cases hh⟩
    ·exact⟨by simp,fun h hh=>by rw[List.mem_singleton]at hh;rw[hh]⟩
    ·refine⟨by simp,fun h hh=>?_⟩
     rcases List.mem_cons.1 hh with hh|hh
     ·rw[hh]
     ·rw[List.mem_singleton]at hh;rw[hh]
   refine⟨List.nodup_append.2 ⟨hi.1,h1,fun x hx y hy e=>?_⟩,fun h hh=>?_⟩
   ·have:=hi.2 x hx
    have:=h2 y hy
    rw[e]at *
    omega
   ·rcases List.mem_append.1 hh with hh|hh
    ·rw[hi.2 h hh];omega
    ·have:=h2 h hh;omega
 exact(this c.ps 0 fun p hp=>(Cy hV.2.2.2.2.2.2 p hp).2).1
theorem Pw{c:Ch}(hV:ChV c){i j:Nat}{h:Hp}(hi:(hps c)[i]?=some h)(hj:(hps c)[j]?=some h):i=j:=
 (List.getElem?_inj (List.getElem?_eq_some_iff.1 hi).1 (MS hV)).1 (hi.trans hj.symm)
def Gk(c:Ch)(i:Nat):List Int:=dl c [] ((hps c).take i)
theorem PN(c:Ch):Gk c 0=[]:=rfl
theorem Fx{c:Ch}{i:Nat}{h:Hp}(hi:(hps c)[i]?=some h):Gk c (i+1)=cE c (Gk c i) h:=by
 unfold Gk;rw[List.take_add_one,hi];simp[dl]
theorem M5{c:Ch}{i:Nat}(hi:(hps c)[i]?=none):Gk c (i+1)=Gk c i:=by
 unfold Gk;rw[List.take_add_one,hi];simp
theorem JW(p:Int):∀(G:List Int),∃Z,G=Z++dW p G
 |[]=>⟨[],rfl⟩
 |x::G=>by
  obtain⟨Z,hZ⟩:=JW p G;unfold dW;split
  ·exact⟨x::Z,by rw[List.cons_append,<-hZ]⟩
  ·exact⟨[],rfl⟩
theorem inv{c:Ch}(hV:ChV c):∀(i:Nat) (X:List Int) (p:Int) (Y:List Int),Gk c i=X++p::Y->∃j,j<i/\(hps c)[j]?=some ⟨yl c p,p,false⟩/\Gk c j=Y/\lR c Y ⟨yl c p,p,false⟩:=by
 intro i;induction i with
 |zero=>intro X p Y h;rw[PN]at h;simp at h
 | succ i ih=>
  intro X p Y h;have up:∀X',Gk c i=X'++p::Y->∃j,j<i+1/\(hps c)[j]?=some ⟨yl c p,p,false⟩/\Gk c j=Y/\lR c Y ⟨yl c p,p,false⟩:=fun X' h'=>by
   obtain⟨j,h1,h2⟩:=ih X' p Y h';exact⟨j,by omega,h2⟩
  cases hi:(hps c)[i]? with
  |none=>rw[M5 hi]at h;exact up X h
  | some x=>
   rw[Fx hi]at h;unfold cE at h;by_cases hb:x.b=true
   ·rw[if_pos hb]at h
    obtain⟨Z,hZ⟩:=JW x.p (Gk c i);rw[h]at hZ;exact up (Z++X) (by rw[hZ,List.append_assoc])
   ·rw[if_neg hb]at h
    by_cases ht:lR c (Gk c i) x
    ·rw[if_pos ht]at h
     cases X with
     |nil=>
      cases h
      have hx:=P1 hV (List.mem_of_getElem? hi) (by simpa using hb)
      exact⟨i,by omega,by rw[<-hx];exact hi,rfl,by rw[<-hx];exact ht⟩
     |cons y X=>
      rw[List.cons_append]at h;exact up X (List.cons.inj h).2
    ·rw[if_neg ht]at h
     exact up X h
theorem base{c:Ch}(hV:ChV c){i i':Nat}{X X' Y Y':List Int}{p:Int}(h:Gk c i=X++p::Y)(h':Gk c i'=X'++p::Y'):Y=Y':=by
 obtain⟨j,_,h1,h2,_⟩:=inv hV i X p Y h;obtain⟨j',_,h1',h2',_⟩:=inv hV i' X' p Y' h';have:=Pw hV h1 h1'
 rw[<-h2,<-h2',this]
theorem IC{c:Ch}(hV:ChV c){i:Nat}{X Y:List Int}{p:Int}(h:Gk c i=X++p::Y):p∉Y:=fun hp=>by
 obtain⟨A,B,rfl⟩:=List.append_of_mem hp;have h':Gk c i=(X++p::A)++p::B:=by rw[h];simp
 have:=congrArg List.length (base hV h h')
 simp at this
 omega
def upH(c:Ch)(t:Int):Nat:=((hps c).takeWhile fun h=>decide (h.a<=t)).length
theorem On(c:Ch)(t:Int):(hps c).takeWhile (fun h=>decide (h.a<=t))=(hps c).take (upH c t):=List.prefix_iff_eq_take.1 (List.takeWhile_prefix _)
theorem vj(c:Ch)(t:Int):dK c t=Gk c (upH c t):=by
 unfold dK Gk;rw[On]
theorem Qw{c:Ch}{t:Int}{i:Nat}{h:Hp}(hi:(hps c)[i]?=some h):i<upH c t↔h.a<=t:=by
 obtain⟨hl,rfl⟩:=List.getElem?_eq_some_iff.1 hi;constructor
 ·intro h
  have h1:=List.all_eq_true.1 List.all_takeWhile _ (List.getElem_mem (l:=(hps c).takeWhile fun h=>decide (h.a<=t)) h)
  have h3:=List.IsPrefix.getElem (List.takeWhile_prefix (fun h:Hp=>decide (h.a<=t)) (l:=hps c)) h
  rw[h3]at h1;simpa using h1
 ·intro ht
  rcases Nat.lt_or_ge i (upH c t)with h1|h1
  ·exact h1
  ·have hlen:upH c t<(hps c).length:=by omega
   have h2:t<((hps c)[upH c t]).a:=by
    have:∀(l:List Hp) (h:(l.takeWhile fun h=>decide (h.a<=t)).length<l.length),t<(l[(l.takeWhile fun h=>decide (h.a<=t)).length]).a:=by
     intro l;induction l with
     |nil=>intro h;simp at h
     | cons x l ih=>
      intro h;by_cases hx:x.a<=t
      ·have e:((x::l).takeWhile fun h=>decide (h.a<=t)).length=(l.takeWhile fun h=>decide (h.a<=t)).length+1:=by simp[hx]
       simp only[e]at h⊢;simpa using ih (by simpa using h)
      ·have e:((x::l).takeWhile fun h=>decide (h.a<=t)).length=0:=by simp[hx]
       simp only[e];simpa using hx
    exact this _ hlen
   have h3:=MZ (C8 c) h1 (List.getElem?_eq_getElem hlen) (List.getElem?_eq_getElem hl);omega
end Go.Dial.Chn
namespace Go.Proofs.YtgckmifmjiklmaaGreat
open Go Go.Sx Go.Dial.Clm Go.Dial.Lif Go.Dial.Chn
theorem LS(n:Nat)(go0:bj->Option aK)(go1:bj->Option aK)(i:Nat)(hi:i<=100)(L:Lv):bU n go0 go1 (i:Int) 0 L=go0 ((i:Int)+1,L):=by
 unfold bU;have c8:(-9223372036854775808:Int)<=(i:Int)+1:=by omega
 have c9:(i:Int)+1<=(9223372036854775807:Int):=by omega
 simp[c8,c9]
theorem Li(n:Nat)(go0:bj->Option aK)(go1:bj->Option aK)(i:Nat)(hi:i<=100)(A B:List Hp)(x y:Hp)(hA:A.length<=100)(h3:¬(x.p=y.p/\x.b=false/\y.b=true)):
  bU n go0 go1 (i:Int) ((A.length+1:Nat):Int) (hpL (A++y::x::B))=if ltH x y then go1 ((A.length:Int),hpL (A++x::y::B))else go0 ((i:Int)+1,hpL (A++y::x::B)):=by
 have hx:∀k,cA (hpL (A++y::x::B)) ((A.length+1:Nat):Int) k=(hpR x).getD k (.int 0):=fun k=>bv (by
  rw[show(((A.length+1:Nat):Int)).toNat=A.length+1 by omega,List.getElem?_append_right (by omega)];simp)
 have hy:∀k,cA (hpL (A++y::x::B)) (((A.length+1:Nat):Int)-1) k=(hpR y).getD k (.int 0):=fun k=>bv (by
  rw[show(((A.length+1:Nat):Int)-1).toNat=A.length by omega,List.getElem?_append_right (by omega)];simp)
 have x0:cI (hpL (A++y::x::B)) ((A.length+1:Nat):Int) 0=x.a:=by simp only[cI,hx];rfl
 have x1:cI (hpL (A++y::x::B)) ((A.length+1:Nat):Int) 1=x.p:=by simp only[cI,hx];rfl
 have x2:cB (hpL (A++y::x::B)) ((A.length+1:Nat):Int) 2=x.b:=by simp only[cB,hx];rfl
 have y0:cI (hpL (A++y::x::B)) (((A.length+1:Nat):Int)-1) 0=y.a:=by simp only[cI,hy];rfl
 have y1:cI (hpL (A++y::x::B)) (((A.length+1:Nat):Int)-1) 1=y.p:=by simp only[cI,hy];rfl
 have y2:cB (hpL (A++y::x::B)) (((A.length+1:Nat):Int)-1) 2=y.b:=by simp only[cB,hy];rfl
 have hsw:=FG (A:=A) (B:=B) (x:=x) (y:=y) (j:=A.length+1) rfl;rw[Nat.add_sub_cancel]at hsw;have t1:(((A.length+1:Nat):Int)).toNat=A.length+1:=by omega
 have t2:(((A.length+1:Nat):Int)-1).toNat=A.length:=by omega
 have t3:((A.length+1:Nat):Int)-1=(A.length:Int):=by omega
 have c8:(-9223372036854775808:Int)<=(i:Int)+1:=by omega
 have c9:(i:Int)+1<=(9223372036854775807:Int):=by omega
 have d1:(0:Int)<((A.length+1:Nat):Int):=by omega
 have d2:(0:Int)<=((A.length+1:Nat):Int):=by omega
 have d3:((A.length+1:Nat):Int)<((hpL (A++y::x::B)).length:Int):=by simp;omega
 have d4:(-9223372036854775808:Int)<=((A.length+1:Nat):Int)-1:=by omega
 have d5:((A.length+1:Nat):Int)-1<=(9223372036854775807:Int):=by omega
 have d6:(0:Int)<=((A.length+1:Nat):Int)-1:=by omega
 have d7:((A.length+1:Nat):Int)-1<((hpL (A++y::x::B)).length:Int):=by simp;omega
 unfold bU;generalize hL:hpL (A++y::x::B)=L at *
 generalize ((A.length+1:Nat):Int)=j at *
 simp only[x0,x1,x2,y0,y1,y2,c8,c9,d1,d2,d3,d4,d5,d6,d7,t1,t2,hsw,decide_true,Bool.and_self];simp only[cond_true];rw[t3];by_cases hlt:ltH x y
 ·rw[if_pos hlt]
  unfold ltH at hlt;by_cases k1:x.a<y.a
  ·have k2:¬x.a=y.a:=by omega
   simp[k1,k2]
  ·have k4:x.a=y.a:=by omega
   have k5:x.p<y.p:=by omega
   have k6:¬x.p=y.p:=by omega
   simp[k4,k5,k6]
 ·rw [if_neg hlt]
  unfold ltH at hlt;have k1:¬x.a<y.a:=by omega
  by_cases k2:y.a<x.a
  ·have k3:¬x.a=y.a:=by omega
   simp[k1,k3]
  ·have k4:x.a=y.a:=by omega
   have k5:¬x.p<y.p:=by omega
   by_cases k6:x.p=y.p
   ·cases hx:x.b
    ·cases hy:y.b
     ·simp[k4,k6]
     ·exact absurd ⟨k6,hx,hy⟩ h3
    ·simp[k4,k6]
   ·simp[k4,k5,k6]
theorem Ot(n:Nat)(go0:bj->Option aK)(i:Nat)(hi:i<=100)(x:Hp)(S R:List Hp)(hS:dh S)(hl:S.length<=100)(h3:∀y∈S,¬(x.p=y.p/\x.b=false/\y.b=true)):∀(m:Nat) (A B:List Hp),S=A++B->(∀y∈B,ltH x y)->A.length<m →
  aa (fun go1 s=>bU n go0 go1 (i:Int) s.1 s.2) m ((A.length:Int),hpL (A++x::(B++R)))=go0 ((i:Int)+1,hpL (ins x S++R)):=by
 intro m;induction m with
 |zero=>intro A B _ _ h;omega
 | succ m ih=>
  intro A B hAB hB hm;rw[DK];rcases List.eq_nil_or_concat A with rfl|⟨A',y,rfl⟩
  ·show bU n go0 _ (i:Int) 0 _=_
   rw[LS n go0 _ i hi];have hS':dh ([]++B):=hAB▸hS
   rw[hAB,zK hS' hB (fun y hy=>by cases hy)]
   simp
  ·rw[List.concat_eq_append]at hAB hm⊢
   have e1:(A'++[y])++x::(B++R)=A'++y::x::(B++R):=by simp
   have e2:((A'++[y]).length:Int)=((A'.length+1:Nat):Int):=by simp
   rw[e1,e2];show bU n go0 _ (i:Int) ((A'.length+1:Nat):Int) (hpL (A'++y::x::(B++R)))=_
   have hA':A'.length<=100:=by rw[hAB]at hl;simp at hl;omega
   rw[Li n go0 _ i hi A' (B++R) x y hA' (h3 y (by rw[hAB];simp))]
   by_cases hxy:ltH x y
   ·rw[if_pos hxy]
    have:=ih A' (y::B) (by rw[hAB];simp) (fun z hz=>by
     rcases List.mem_cons.1 hz with rfl|hz
     ·exact hxy
     ·exact hB z hz) (by simp at hm;omega)
    rw[List.cons_append]at this;exact this
   ·rw[if_neg hxy]
    have hS':dh ((A'++[y])++B):=hAB▸hS
    rw[hAB,zK hS' hB (fun z hz=>by simp at hz;subst hz;exact hxy)]
    simp
theorem Mx(n:Nat)(l:List Hp)(hl:l.length<=19)(hn:200<n)(hO:∀(i j:Nat) (x y:Hp),j<i->l[i]?=some x->l[j]?=some y->¬(x.p=y.p/\x.b=false/\y.b=true)):aa (fun go0 s=>iE n go0 s.1 s.2) n ((1:Int),hpL l)=some (hpL (dy l)):=by
 refine ar (fun s=>∃i:Nat,s=((i:Int),hpL (dy (l.take i)++l.drop i))/\1<=i/\i<=l.length+1) (fun s=>l.length+1-s.1.toNat) _ ?_ n _ ⟨1,?_,by omega,by omega⟩ (by simp;omega)
 ·rintro _ go ⟨i,rfl,h1,h2⟩ ih
  simp only
  unfold iE;have hlen:((hpL (dy (l.take i)++l.drop i)).length:Int)=(l.length:Int):=by
   rw[List.length_map,List.length_append,rl,<-List.length_append,List.take_append_drop]
  by_cases hlt:i<l.length
  ·have c1:(i:Int)<((hpL (dy (l.take i)++l.drop i)).length:Int):=by omega
   obtain⟨x,hx⟩:=aD hlt;rw[decide_eq_true c1,cond_true,cJ hx];have hli:(dy (l.take i)).length=i:=by rw[rl,List.length_take];omega
   have:=Ot n go i (by omega) x (dy (l.take i)) (l.drop (i+1)) (pp _) (by omega) (fun y hy=>by
    have hy:=(En _).mem_iff.1 hy;obtain⟨j,hj⟩:=List.getElem?_of_mem hy;rw[List.getElem?_take]at hj;split at hj
    ·rename_i hji
     exact hO i j x y hji hx hj
    ·cases hj) n (dy (l.take i)) [] (by simp) (fun y hy=>by cases hy) (by omega)
   rw[hli,List.nil_append]at this;rw[this];exact ih _ ⟨i+1,by rw[bV hx,DO];simp,by omega,by omega⟩ (by simp only;omega)
  ·have c1:¬(i:Int)<((hpL (dy (l.take i)++l.drop i)).length:Int):=by omega
   rw[decide_eq_false c1,cond_false,List.take_of_length_le (by omega),List.drop_of_length_le (by omega),List.append_nil]
 ·cases l with
  |nil=>rfl
  |cons x l=>rfl
theorem PM{c:Ch}(hV:ChV c):∀(i j:Nat) (x y:Hp),j<i->(bO c.r 0 c.ps)[i]?=some x->(bO c.r 0 c.ps)[j]?=some y->¬(x.p=y.p/\x.b=false/\y.b=true):=by
 have key:∀(ps:List Pt) (k:Nat),(∀p∈ps,cD c.r p.c p.es)->(bO c.r k ps).Pairwise (fun y x=>¬(x.p=y.p/\x.b=false/\y.b=true))/\∀h∈bO c.r k ps,(k:Int)<=h.p:=by
  intro ps;induction ps with
  |nil=>intro k _;exact⟨List.Pairwise.nil,fun h hh=>by cases hh⟩
  | cons p ps ih=>
   intro k hv;obtain⟨h1,h2⟩:=ih (k+1) fun q hq=>hv q (List.mem_cons_of_mem _ hq)
   have hi:((an c.r p.c p.es).filterMap (bp k)).Pairwise (fun y x=>¬(x.p=y.p/\x.b=false/\y.b=true))/\∀h∈(an c.r p.c p.es).filterMap (bp k),h.p=(k:Int):=by
    rcases uR (hv p (List.mem_cons_self ..)) k with⟨e,_⟩|⟨f,_,e,_⟩|⟨f,g,_,_,_,e,_⟩
    ·rw[e];exact⟨List.Pairwise.nil,fun h hh=>by cases hh⟩
    ·rw[e];exact⟨List.pairwise_singleton _ _,fun h hh=>by simp at hh;rw[hh]⟩
    ·rw[e];exact⟨List.Pairwise.cons (fun x hx=>by simp at hx;subst hx;simp) (List.pairwise_singleton _ _),fun h hh=>by simp at hh;rcases hh with rfl|rfl<;>rfl⟩
   refine⟨List.pairwise_append.2 ⟨hi.1,h1,fun y hy x hx=>?_⟩,fun h hh=>?_⟩
   ·have e1:=hi.2 y hy
    have e2:=h2 x hx;rintro ⟨e3,_⟩;omega
   ·rcases List.mem_append.1 hh with hh|hh
    ·rw[hi.2 h hh];exact Int.le_refl _
    ·have:=h2 h hh;omega
 have hp:=(key c.ps 0 fun p hp=>(oK hV.2.2.2.2.2.2 p hp).2).1
 intro i j x y hj hx hy;obtain⟨l1,e1⟩:=List.getElem?_eq_some_iff.1 hx;obtain⟨l2,e2⟩:=List.getElem?_eq_some_iff.1 hy;have:=List.pairwise_iff_getElem.1 hp j i l2 l1 hj
 rw[e1,e2]at this;exact this
theorem yj(n:Nat)(c:Ch)(h:ChV c)(hn:200<n):gm n c.n c.f c.r.a c.r.c c.r.s c.r.r (lfL c.life) (ptL c.ps)=some (hpL (hps c)):=by
 obtain⟨_,_,_,_,_,h8,hP⟩:=id h;have htot:=l3 c.r c.ps 0;unfold gm mU;refine ar (fun s=>∃(i:Nat) (A:List Hp),s=(hpL A,(i:Int))/\i<=c.ps.length/\A++bO c.r i (c.ps.drop i)=bO c.r 0 c.ps) (fun s=>c.ps.length-s.2.toNat) _ ?_ n _ ⟨0,[],rfl,by omega,by simp⟩ (by simp;omega)
 rintro _ go ⟨i,A,rfl,hi,hA⟩ ih;simp only
 unfold ml;by_cases hlt:i<c.ps.length
 ·obtain⟨p,hp⟩:=aD hlt
  have hc:∀k,cA (ptL c.ps) (i:Int) k=(ptR p).getD k (.int 0):=fun k=>bv (by simpa using hp)
  have g0:cI (ptL c.ps) i 0=p.c.n:=by simp only[cI,hc];rfl
  have g1:cI (ptL c.ps) i 1=p.c.f:=by simp only[cI,hc];rfl
  have g2:cI (ptL c.ps) i 2=p.c.t:=by simp only[cI,hc];rfl
  have g3:cI (ptL c.ps) i 3=p.c.h:=by simp only[cI,hc];rfl
  have g4:cI (ptL c.ps) i 4=p.c.a:=by simp only[cI,hc];rfl
  have g5:cB (ptL c.ps) i 5=p.c.b:=by simp only[cB,hc];rfl
  have g6:cL (ptL c.ps) i 6=ceL p.es:=by simp only[cL,hc];rfl
  have c1:(i:Int)<((ptL c.ps).length:Int):=by rw[List.length_map];omega
  have c2:(0:Int)<=(i:Int):=by omega
  have hv:=(oK hP p (List.mem_of_getElem? hp)).2;rw[decide_eq_true c1,cond_true,decide_eq_true c2,cond_true,g0,g1,g2,g3,g4,g5,g6,Co n c.r p.c p.es hn,if_pos hv,Option.bind_some];rw[zg hp]at hA;obtain⟨T,hT⟩:∃T,T=an c.r p.c p.es:=⟨_,rfl⟩
  have hTl:T.length<=110:=by rw[hT];exact pi hv.2.2.1
  rw[<-hT]at hA⊢
  refine ar (fun s=>∃(k:Nat) (B:List Hp),s=(hpL B,(k:Int))/\k<=T.length/\B++(T.drop k).filterMap (bp i)=A++T.filterMap (bp i)) (fun s=>T.length-s.2.toNat) _ ?_ n _ ⟨0,A,rfl,by omega,by simp⟩ (by simp;omega)
  rintro _ go1 ⟨k,B,rfl,hk,hB⟩ ih1;simp only
  unfold mV;have hBl:B.length<=16:=by
   have e1:=congrArg List.length hB;have e2:=congrArg List.length hA;simp only[List.length_append]at e1 e2;omega
  have c4:(-9223372036854775808:Int)<=(k:Int)+1:=by omega
  have c5:(k:Int)+1<=(9223372036854775807:Int):=by omega
  have c6:(-9223372036854775808:Int)<=(i:Int)+1:=by omega
  have c7:(i:Int)+1<=(9223372036854775807:Int):=by omega
  have c8:(((hpL B).length:Int)+1)*24<=140737488355328:=by rw[List.length_map];omega
  have c9:(0:Int)<=(k:Int):=by omega
  by_cases hkt:k<T.length
  ·obtain⟨x,hx⟩:=aD hkt
   have hcx:∀j,cA (csL T) (k:Int) j=(csR x).getD j (.int 0):=fun j=>bv (by simpa using hx)
   have x0:cI (csL T) k 0=x.s:=by simp only[cI,hcx];rfl
   have x1:cI (csL T) k 1=x.f:=by simp only[cI,hcx];rfl
   have c10:(k:Int)<((csL T).length:Int):=by rw[List.length_map];omega
   rw[cJ hx,List.filterMap_cons]at hB;rw[x0,x1,decide_eq_true c10,cond_true,decide_eq_true c9,cond_true];by_cases h4:x.s=4\/x.s=8
   ·have hh:bp i x=some ⟨x.f,i,decide (x.s=8)⟩:=by unfold bp;rw[if_pos h4]
    rw[hh]at hB;have hgo:=ih1 _ ⟨k+1,B++[⟨x.f,i,decide (x.s=8)⟩],rfl,by omega,by rw[<-hB];simp⟩ (by simp only;omega)
    have e:hpL (B++[⟨x.f,i,decide (x.s=8)⟩])=hpL B++[[AV.int x.f,AV.int (i:Int),AV.bool (decide (x.s=8))]]:=by simp
    rw[e]at hgo;rcases h4 with h4|h4
    ·rw[decide_eq_true h4,cond_true,decide_eq_true c8,cond_true,decide_eq_true c4,decide_eq_true c5,Bool.and_self,cond_true];exact hgo
    ·have h5:¬x.s=4:=by omega
     rw[decide_eq_false h5,cond_false,decide_eq_true h4,cond_true,decide_eq_true c8,cond_true,decide_eq_true c4,decide_eq_true c5,Bool.and_self,cond_true];rw[decide_eq_true h4]at hgo;exact hgo
   ·have hh:bp i x=none:=by unfold bp;rw[if_neg h4]
    rw[hh]at hB;have h5:¬x.s=4:=fun h=>h4 (.inl h)
    have h6:¬x.s=8:=fun h=>h4 (.inr h)
    rw[decide_eq_false h5,cond_false,decide_eq_false h6,cond_false,decide_eq_true c4,decide_eq_true c5,Bool.and_self,cond_true];exact ih1 _ ⟨k+1,B,rfl,by omega,hB⟩ (by simp only;omega)
  ·have hkk:k=T.length:=by omega
   have c10:¬(k:Int)<((csL T).length:Int):=by rw[List.length_map];omega
   rw[hkk,List.drop_length]at hB;simp only[List.filterMap_nil,List.append_nil]at hB;rw[decide_eq_false c10,cond_false,decide_eq_true c6,decide_eq_true c7,Bool.and_self,cond_true];exact ih _ ⟨i+1,B,rfl,by omega,by rw[hB,List.append_assoc];exact hA⟩ (by simp only;omega)
 ·have h00:i=c.ps.length:=by omega
  have c1:¬(i:Int)<((ptL c.ps).length:Int):=by rw[List.length_map];omega
  rw[h00,List.drop_length]at hA;have hA:A=bO c.r 0 c.ps:=by simpa[bO]using hA
  have hl:A.length<=19:=by rw[hA];omega
  rw[decide_eq_false c1,cond_false,Mx n A hl hn (by rw[hA];exact PM h),hA]
  rfl
theorem G1(n:Nat)(L:List Int)(p:Int)(hn:L.length<n)(hl:L.length<=1000):(p∉L->eB n (inL L) p=some (-1))/\∀A B,L=A++p::B->p∉A->eB n (inL L) p=some (A.length:Int):=by
 have hlen:((inL L).length:Int)=(L.length:Int):=by rw[List.length_map]
 have cell:∀(i:Nat) x,L[i]?=some x->cI (inL L) (i:Int) 0=x:=fun i x hx=>by
  have:cA (inL L) (i:Int) 0=([AV.int x]:List AV).getD 0 (.int 0):=bv (by simpa using hx)
  simp only[cI,this];rfl
 have step:∀(i:Nat) (go:Int->Option Int),i<L.length->∀x,L[i]?=some x->jA n go (inL L) p (i:Int)=if x=p then some (i:Int)else go ((i:Int)+1):=by
  intro i go hi x hx;unfold jA;have c1:(i:Int)<((inL L).length:Int):=by omega
  have c2:(0:Int)<=(i:Int):=by omega
  have c4:(-9223372036854775808:Int)<=(i:Int)+1:=by omega
  have c5:(i:Int)+1<=(9223372036854775807:Int):=by omega
  rw[decide_eq_true c1,cond_true,decide_eq_true c2,cond_true,cell i x hx,decide_eq_true c4,decide_eq_true c5,Bool.and_self,cond_true];by_cases h:x=p
  ·rw[decide_eq_true h,cond_true,if_pos h]
  ·rw[decide_eq_false h,cond_false,if_neg h]
 refine⟨fun hp=>?_,fun A B hL hA=>?_⟩
 ·unfold eB nb
  refine ar (fun s=>∃i:Nat,s=(i:Int)/\i<=L.length) (fun s=>L.length-s.toNat) _ ?_ n _ ⟨0,rfl,by omega⟩ (by simp;omega)
  rintro _ go ⟨i,rfl,hi⟩ ih;by_cases hlt:i<L.length
  ·obtain⟨x,hx⟩:=aD hlt
   rw[step i go hlt x hx,if_neg (fun e:x=p=>hp (e▸List.mem_of_getElem? hx))]
   exact ih _ ⟨i+1,rfl,by omega⟩ (by omega)
  ·unfold jA
   have c1:¬(i:Int)<((inL L).length:Int):=by omega
   rw[decide_eq_false c1,cond_false]
 ·unfold eB nb
  have hAl:A.length<L.length:=by rw[hL];simp
  refine ar (fun s=>∃i:Nat,s=(i:Int)/\i<=A.length) (fun s=>L.length-s.toNat) _ ?_ n _ ⟨0,rfl,by omega⟩ (by simp;omega)
  rintro _ go ⟨i,rfl,hi⟩ ih;obtain⟨x,hx⟩:=aD (show i<L.length by omega)
  rw[step i go (by omega) x hx]
  rcases Nat.lt_or_ge i A.length with h|h
  ·rw[hL,List.getElem?_append_left h]at hx
   rw[if_neg (fun e:x=p=>hA (e▸List.mem_of_getElem? hx))]
   exact ih _ ⟨i+1,rfl,by omega⟩ (by omega)
  ·have:i=A.length:=by omega
   subst this;rw[hL,List.getElem?_append_right (Nat.le_refl _)]at hx;simp at hx
   rw[if_pos hx.symm]
end Go.Proofs.YtgckmifmjiklmaaGreat
namespace Go.Dial.Chn
open Go.Dial.Clm Go.Dial.Lif
def Rg(l:List Mo)(G:List Int):List Int:=(l.getLast?.map (·.G)).getD G
theorem mX{α:Type}{q:α->Bool}{A B:List α}(h:∀x∈A,q x=true):(A++B).takeWhile q=A++B.takeWhile q:=by
 induction A with
 |nil=>rfl
 |cons x A ih=>rw[List.cons_append,List.takeWhile_cons_of_pos (h x (List.mem_cons_self ..)),ih fun y hy=>h y (List.mem_cons_of_mem _ hy)];rfl
def Oq(c:Ch)(l:List Mo)(t:Int):Int:=aT c (Rg (l.takeWhile fun m=>decide (m.a<=t)) [])
structure HInv (c:Ch) (l:List Mo) (o:List Hd):Prop where
 ne:o≠[]
 adj:∀i (x y:Hd),o[i]?=some x->o[i+1]?=some y->y.t=x.f/\y.f<y.t/\y.c≠x.c
 bot:∀x:Hd,o.getLast?=some x->x.f=0
 sem:∀i (z:Hd),o[i+1]?=some z->∀t,z.f<=t->t<z.t->Oq c l t=z.c
 top:∀x:Hd,o.head?=some x->(∀t,x.f<=t->Oq c l t=x.c)/\0<=x.f/\∀b,(∀m∈l,m.a<=b)->0<=b->x.f<=b
structure HInv' (c:Ch) (a:Int) (l:List Mo) (o:List Hd):Prop where
 adj:∀i (x y:Hd),o[i]?=some x->o[i+1]?=some y->y.t=x.f/\y.f<y.t/\y.c≠x.c
 bot:∀x:Hd,o.getLast?=some x->x.f=0
 sem:∀(i:Nat) (z:Hd),o[i]?=some z->∀t,z.f<=t->t<z.t->Oq c l t=z.c
 top:∀x:Hd,o.head?=some x->x.t=a/\x.f<a/\0<=x.f
 nil:o=[]->a=0
theorem Ro{c:Ch}(hV:ChV c){h:Hp}(hh:h∈hps c):∃(k:Nat) (p:Pt) (x:Cs),c.ps[k]?=some p/\h.p=(k:Int)/\x∈an c.r p.c p.es/\h.a=x.f/\p.c.a<=h.a:=by
 obtain⟨k,p,h1,h2,x,h3,h4⟩:=jO hh;have:h.a=x.f:=by
  unfold bp at h4;split at h4
  ·cases h4;rfl
  ·cases h4
 refine⟨k,p,x,h1,h2,h3,this,?_⟩
 rw[this];have hc:=J1 hV h1;unfold an at h3;rcases List.mem_cons.1 h3 with rfl|h3
 ·exact Int.le_refl _
 ·refine LX hc.1 (m:=p.c.a) (fun ha=>?_) (fun e he=>(sZ hc.2.2.2 e he).1) x h3
  have:=(nh hc.1 (s:=1) (f:=p.c.a) (by decide)).1
  exact Int.le_of_lt this
theorem Pv{r:Rl}{c:Cl}{es:List Ce}(h:cD r c es):ic r c<=14000000:=by
 obtain⟨h1,h2,_⟩:=h;unfold RlV at h1;unfold ClV at h2;unfold ic;omega
theorem PT{c:Ch}(h:ChV c){x:Hp}(hx:x∈hps c):0<=x.a/\x.a<=14000000:=by
 obtain⟨k,p,y,h1,_,h3,h4,h5⟩:=Ro h hx;have hc:=J1 h h1;have:=HM hc y h3
 have:=Pv hc
 have:=hc.2.1
 unfold ClV at this;omega
structure RInv (F:Int->Int) (s:Int) (y:Hd) (r:List Hd):Prop where
 f:y.f<=s
 t:y.t=20000001
 cov:∀u,y.f<=u->u<=s->y.c=F u
 bot:∀x:Hd,(y::r).getLast?=some x->x.f=0
 adj:∀(i:Nat) (x z:Hd),(y::r)[i]?=some x->r[i]?=some z->z.t=x.f/\z.f<z.t/\z.c≠x.c/\∀u,z.f<=u->u<z.t->z.c=F u
end Go.Dial.Chn
namespace Go.Proofs.YtgckmifmjiklmaaGreat
open Go Go.Sx Go.Dial.Clm Go.Dial.Lif Go.Dial.Chn
theorem JM(c:Ch)(h:Hp):∀(l:List Hp) (G:List Int),gB c G (l++[h])=gB c G l++ig c (dl c G l) h
 |[],G=>by simp[gB,dl]
 |x::l,G=>by
  rw[List.cons_append,gB,gB,JM c h l,List.append_assoc];rfl
theorem Pp(c:Ch)(G:List Int)(h:Hp):(cE c G h).length<=G.length+1:=by
 unfold cE;split
 ·have:=vl h.p G;omega
 ·split<;>simp
theorem Dj(c:Ch):∀i,(Gk c i).length<=i
 |0=>by simp[Gk,dl]
 |i+1=>by
  cases hh:(hps c)[i]? with
  |none=>rw[M5 hh];have:=Dj c i;omega
  |some h=>rw[Fx hh];have:=Dj c i;have:=Pp c (Gk c i) h;omega
theorem Mk{c:Ch}(i:Nat):oY c (Gk c i):=fun x hx=>by
 rcases zh hx with h|⟨h,hh,rfl⟩
 ·cases h
 ·obtain⟨k,p,h1,h2,_⟩:=jO (List.mem_of_mem_take hh)
  have:=(List.getElem?_eq_some_iff.1 h1).1
  exact⟨by omega,by omega⟩
theorem FJ{a p:Int}{Y:List Int}(hY:p∉Y):∀(X:List Int),p∉X->tnL (pN a p (X++p::Y))=X.map (fun x=>[AV.int a,AV.int x,AV.int 4])++[[AV.int a,AV.int p,AV.int 3]]/\dW p (X++p::Y)=Y
 | [],_=>by
  have h1:pN a p Y=[]:=by cases Y with
   |nil=>rfl
   |cons y Y=>unfold pN;rw[if_neg hY]
  refine⟨?_,?_⟩
  ·rw[List.nil_append,pN,if_pos (List.mem_cons_self ..),h1]
   simp
  ·rw[List.nil_append,dW,if_pos (List.mem_cons_self ..)]
   exact AL hY
 | x::X,hX=>by
  have hx:¬x=p:=fun e=>hX (e▸List.mem_cons_self ..)
  obtain⟨h1,h2⟩:=FJ hY X (fun h=>hX (List.mem_cons_of_mem _ h))
  have hm:p∈x::(X++p::Y):=by simp
  refine⟨?_,?_⟩
  ·rw[List.cons_append,pN,if_pos hm,if_neg hx,List.map_cons]
   show tnR _::tnL (pN a p (X++p::Y))=_
   rw[h1];rfl
  ·rw[List.cons_append,dW,if_pos hm];exact h2
section
variable (n:Nat) (c:Ch) (go0:fP->Option cd) (hn:200<n)
include hn
theorem OQ(i:Nat)(hi:i<=100)(a p:Int)(v9:Lv)(h0:cI v9 (i:Int) 0=a)(h1:cI v9 (i:Int) 1=p)(O:Lv)(Y X:List Int)(hX:X.length+Y.length<=50)(hO:O.length<=100)(r:cd)
  (hgo:go0 (foL Y,O++(X.map (fun x=>[AV.int a,AV.int x,AV.int 4])++[[AV.int a,AV.int p,AV.int 3]]),(i:Int)+1)=some r):
  aa (fun go1 s=>sw n go0 go1 v9 (i:Int) (Y.length:Int) s.1 s.2) n ((O,foL (X++p::Y)):pn)=some r:=by
 refine ar (fun s=>∃X1 X2:List Int,X=X1++X2/\s=(O++X1.map (fun x=>[AV.int a,AV.int x,AV.int 4]),foL (X2++p::Y))) (fun s=>s.2.length) _ ?_ n _ ⟨[],X,rfl,by simp⟩ (by simp[bA];omega)
 rintro _ go ⟨X1,X2,rfl,rfl⟩ ih;simp only
 unfold sw;have hxl:X1.length+X2.length+Y.length<=50:=by simpa using hX
 have e1:(-9223372036854775808:Int)<=(Y.length:Int)+1:=by omega
 have e2:(Y.length:Int)+1<=(9223372036854775807:Int):=by omega
 have hlen:((foL (X2++p::Y)).length:Int)=(X2.length:Int)+(Y.length:Int)+1:=by rw[bA];simp;omega
 have hol:((O++X1.map (fun x=>[AV.int a,AV.int x,AV.int 4])).length:Int)=(O.length:Int)+(X1.length:Int):=by simp
 have c24:(((O++X1.map (fun x=>[AV.int a,AV.int x,AV.int 4])).length:Int)+1)*24<=140737488355328:=by omega
 rw[decide_eq_true e1,decide_eq_true e2,Bool.and_self,cond_true];cases X2 with
 |cons x X2=>
  have hlx:((x::X2).length:Int)=(X2.length:Int)+1:=by simp
  have d1:(Y.length:Int)+1<((foL (x::X2++p::Y)).length:Int):=by omega
  have d2:(-9223372036854775808:Int)<=((foL (x::X2++p::Y)).length:Int)-1:=by omega
  have d3:((foL (x::X2++p::Y)).length:Int)-1<=(9223372036854775807:Int):=by omega
  have d4:(0:Int)<=((foL (x::X2++p::Y)).length:Int)-1:=by omega
  have d5:((foL (x::X2++p::Y)).length:Int)-1<((foL (x::X2++p::Y)).length:Int):=by omega
  have d6:((foL (x::X2++p::Y)).length:Int)-1<=((foL (x::X2++p::Y)).length:Int):=by omega
  rw[decide_eq_true d1,cond_true,decide_eq_true d2,decide_eq_true d3,Bool.and_self,cond_true,decide_eq_true d4,cond_true,decide_eq_true d5,cond_true,decide_eq_true c24,cond_true,decide_eq_true d6,cond_true,h0];rw[List.cons_append,te,JT];exact ih _ ⟨X1++[x],X2,by simp,by simp⟩ (by simp only[bA];simp)
 | nil=>
  have d1:¬(Y.length:Int)+1<((foL ([]++p::Y)).length:Int):=by simp only[List.length_nil]at hlen;omega
  have d2:(0:Int)<=(Y.length:Int):=by omega
  have d3:(Y.length:Int)<=((foL ([]++p::Y)).length:Int):=by simp only[List.length_nil]at hlen;omega
  have htk:List.take ((Y.length:Int)).toNat (foL ([]++p::Y))=foL Y:=by
   rw[List.nil_append,<-pJ,show((Y.length:Int)).toNat=(foL Y).length by rw[bA];simp,List.take_left]
  have d4:((foL Y).length:Int)*8<=140737488355328:=by rw[bA];omega
  have d5:(-9223372036854775808:Int)<=(i:Int)+1:=by omega
  have d6:(i:Int)+1<=(9223372036854775807:Int):=by omega
  rw[decide_eq_false d1,cond_false,decide_eq_true c24,cond_true,decide_eq_true d2,cond_true,decide_eq_true d3,cond_true,htk,decide_eq_true d4,cond_true,decide_eq_true d5,decide_eq_true d6,Bool.and_self,cond_true,h0,h1];rw[List.append_nil]at hgo;rw[<-hgo,List.append_assoc]
end
theorem I4{l:List Hp}{i:Nat}{h:Hp}(hh:l[i]?=some h):cI (hpL l) (i:Int) 0=h.a/\cI (hpL l) (i:Int) 1=h.p/\cB (hpL l) (i:Int) 2=h.b:=by
 have hc:∀k,cA (hpL l) (i:Int) k=(hpR h).getD k (.int 0):=fun k=>bv (by simpa using hh)
 refine⟨?_,?_,?_⟩<;>simp only[cI,cB,hc]<;>rfl
theorem Kb(n:Nat)(c:Ch)(t:Int)(hV:ChV c)(hl:c.life.length<n)(hn:200<n):
  rc n c.n c.f c.r.a c.r.c c.r.s c.r.r (lfL c.life) (ptL c.ps) t=some (tnL (gB c [] ((hps c).take (upH c t))),foL (dK c t)):=by
 unfold rc BT;rw[yj n c hV hn,Option.bind_some,vj];have hlen:((hpL (hps c)).length:Int)=((hps c).length:Int):=by rw[List.length_map]
 have h16:(hps c).length<=16:=by have:=EV c;have:=hV.2.2.2.2.2.1;omega
 have hpl:((ptL c.ps).length:Int)=(c.ps.length:Int):=by rw[List.length_map]
 have hup:upH c t<=(hps c).length:=by unfold upH;exact List.Sublist.length_le (List.takeWhile_sublist _)
 refine ar (fun s=>∃i:Nat,s=(foL (Gk c i),tnL (gB c [] ((hps c).take i)),(i:Int))/\i<=upH c t) (fun s=>(hps c).length-s.2.2.toNat) _ ?_ n _ ⟨0,by simp[Gk,dl,gB,foL],by omega⟩ (by simp;omega)
 rintro _ go ⟨i,rfl,hi⟩ ih;simp only
 unfold Bn;rcases Nat.lt_or_ge i (hps c).length with hlt|hge
 case inr=>
  have e:i=upH c t:=by omega
  have c1:¬(i:Int)<((hpL (hps c)).length:Int):=by omega
  rw[decide_eq_false c1,cond_false,e]
 case inl=>
 obtain⟨h,hh⟩:=aD hlt;obtain⟨x0,x1,x2⟩:=I4 hh;have c1:(i:Int)<((hpL (hps c)).length:Int):=by omega
 have c2:(0:Int)<=(i:Int):=by omega
 have c4:(-9223372036854775808:Int)<=(i:Int)+1:=by omega
 have c5:(i:Int)+1<=(9223372036854775807:Int):=by omega
 rw[decide_eq_true c1,cond_true,decide_eq_true c2,cond_true];unfold BX;rw[x0,x1];have hu:=Qw (t:=t) hh;by_cases hat:h.a<=t
 rotate_left
 ·have e:i=upH c t:=by
   have:¬i<upH c t:=fun hx=>hat (hu.1 hx)
   omega
  rw[decide_eq_false hat,cond_false,e]
 have hi1:=hu.2 hat;obtain⟨k,p,hp1,hp2,_⟩:=jO (List.mem_of_getElem? hh);have hkl:=(List.getElem?_eq_some_iff.1 hp1).1;have hpin:PIn c h.p:=⟨by omega,by omega⟩
 have d1:(0:Int)<=h.p:=hpin.1
 have d2:h.p<((ptL c.ps).length:Int):=by have:=hpin.2;omega
 rw[decide_eq_true hat,cond_true,decide_eq_true d1,cond_true,decide_eq_true d2,cond_true];unfold BV;rw[x0,x1,x2];have hgl:=Dj c i;have hgp:=Mk (c:=c) i;have hml:(gB c [] ((hps c).take i)).length<=40:=by
  have:=IB c ((hps c).take i) []
  rw[List.length_take]at this;simp at this
  omega
 obtain⟨G,hG⟩:∃G,G=Gk c i:=⟨_,rfl⟩
 obtain⟨O,hO⟩:∃O,O=gB c [] ((hps c).take i):=⟨_,rfl⟩
 have hfG:dl c [] ((hps c).take i)=G:=hG.symm
 have hnext:Gk c (i+1)=cE c G h:=by rw[hG];exact Fx hh
 have hmom:gB c [] ((hps c).take (i+1))=O++ig c G h:=by rw[bV hh,JM,hfG,hO]
 have hgo:go (foL (cE c G h),tnL (O++ig c G h),(i:Int)+1)=some (tnL (gB c [] ((hps c).take (upH c t))),foL (Gk c (upH c t))):=by
  rw[<-hnext,<-hmom];exact ih _ ⟨i+1,rfl,by omega⟩ (by simp only;omega)
 rw[<-hG]at hgl hgp⊢
 rw[<-hO]at hml⊢
 obtain⟨t1,t2,t3⟩:=lN hpin;have hol:((tnL O).length:Int)=(O.length:Int):=by rw[List.length_map]
 have c24:(((tnL O).length:Int)+1)*24<=140737488355328:=by omega
 have hfl:((foL G).length:Int)=(G.length:Int):=by rw[bA]
 have c8:(((foL G).length:Int)+1)*8<=140737488355328:=by omega
 cases hb:h.b with
 | false=>
  have h0:=(PT hV (List.mem_of_getElem? hh)).1;have hAt:dq n (lfL c.life) (af h.a 10000000)=some ((atL c.life (min h.a 10000000)).s,(atL c.life (min h.a 10000000)).h,(atL c.life (min h.a 10000000)).e,(atL c.life (min h.a 10000000)).t,0):=by
   rw[DJ n c.life _ hl,show af h.a 10000000=min h.a 10000000 by unfold af;omega]
   unfold atT atR;rw[if_pos ⟨hV.1,by omega,by omega⟩]
  rw[Bool.not_false,cond_true,hAt,Option.bind_some];simp only
  have hmiss:¬lR c G h->go (foL G,tnL O++[[AV.int h.a,AV.int h.p,AV.int 2]],(i:Int)+1)=some (tnL (gB c [] ((hps c).take (upH c t))),foL (Gk c (upH c t))):=fun hT=>by
   have e1:cE c G h=G:=by unfold cE;rw[if_neg (by rw[hb];decide),if_neg hT]
   have e2:ig c G h=[⟨h.a,h.p,2,G⟩]:=by unfold ig;rw[if_neg (by rw[hb];decide),if_neg hT]
   rw[e1,e2]at hgo;rw[<-hgo];simp
  have htake:lR c G h->go (foL G++[[AV.int h.p]],tnL O++[[AV.int h.a,AV.int h.p,AV.int 1]],(i:Int)+1)=some (tnL (gB c [] ((hps c).take (upH c t))),foL (Gk c (upH c t))):=fun hT=>by
   have e1:cE c G h=h.p::G:=by unfold cE;rw[if_neg (by rw[hb];decide),if_pos hT]
   have e2:ig c G h=[⟨h.a,h.p,1,h.p::G⟩]:=by unfold ig;rw[if_neg (by rw[hb];decide),if_pos hT]
   rw[e1,e2]at hgo;rw[<-hgo,pJ];simp
  have fin:∀w:Int,w=aT c G->(bif w=(cC c h.p).c.f then(bif (atL c.life (min h.a 10000000)).s=1 then(bif (atL c.life (min h.a 10000000)).h=(cC c h.p).c.h then bif (((foL G).length:Int)+1)*8<=140737488355328 then bif (((tnL O).length:Int)+1)*24<=140737488355328 then bif(-9223372036854775808<=((i:Int)+1))&&(((i:Int)+1)<=9223372036854775807)then go ((foL G++[[(AV.int h.p)]]),(tnL O++[[(AV.int h.a),(AV.int h.p),(AV.int 1)]]),((i:Int)+1))else none else none else none else bif (((tnL O).length:Int)+1)*24<=140737488355328 then bif(-9223372036854775808<=((i:Int)+1))&&(((i:Int)+1)<=9223372036854775807)then go (foL G,(tnL O++[[(AV.int h.a),(AV.int h.p),(AV.int 2)]]),((i:Int)+1))else none else none)else bif (((tnL O).length:Int)+1)*24<=140737488355328 then bif(-9223372036854775808<=((i:Int)+1))&&(((i:Int)+1)<=9223372036854775807)then go (foL G,(tnL O++[[(AV.int h.a),(AV.int h.p),(AV.int 2)]]),((i:Int)+1))else none else none)else bif (((tnL O).length:Int)+1)*24<=140737488355328 then bif(-9223372036854775808<=((i:Int)+1))&&(((i:Int)+1)<=9223372036854775807)then go (foL G,(tnL O++[[(AV.int h.a),(AV.int h.p),(AV.int 2)]]),((i:Int)+1))else none else none)=some (tnL (gB c [] ((hps c).take (upH c t))),foL (Gk c (upH c t))):=by
   rintro w rfl;rw[decide_eq_true c8,decide_eq_true c24,decide_eq_true c4,decide_eq_true c5,Bool.and_self,cond_true,cond_true,cond_true,cond_true,cond_true];by_cases k1:aT c G=(cC c h.p).c.f
   ·rw[decide_eq_true k1,cond_true]
    by_cases k2:(atL c.life (min h.a 10000000)).s=1
    ·rw[decide_eq_true k2,cond_true]
     by_cases k3:(atL c.life (min h.a 10000000)).h=(cC c h.p).c.h
     ·rw[decide_eq_true k3,cond_true];exact htake ⟨k1,k2,k3⟩
     ·rw[decide_eq_false k3,cond_false];exact hmiss (fun hT=>k3 hT.2.2)
    ·rw[decide_eq_false k2,cond_false];exact hmiss (fun hT=>k2 hT.2.1)
   ·rw[decide_eq_false k1,cond_false];exact hmiss (fun hT=>k1 hT.1)
  rw[t1,t3];cases G with
  |nil=>
   have e0:((foL ([]:List Int)).length:Int)=0:=rfl
   rw[decide_eq_true e0,cond_true];exact fin c.f rfl
  |cons y G'=>
   have e0:¬((foL (y::G')).length:Int)=0:=by rw[bA,List.length_cons];omega
   have hy:=hgp y (List.mem_cons_self ..);obtain⟨_,u2,_⟩:=lN hy;have q1:(-9223372036854775808:Int)<=((foL (y::G')).length:Int)-1:=by omega
   have q2:((foL (y::G')).length:Int)-1<=(9223372036854775807:Int):=by omega
   have q3:(0:Int)<=((foL (y::G')).length:Int)-1:=by rw[bA,List.length_cons];omega
   have q4:((foL (y::G')).length:Int)-1<((foL (y::G')).length:Int):=by omega
   have q5:(0:Int)<=y:=hy.1
   have q6:y<((ptL c.ps).length:Int):=by have:=hy.2;omega
   rw[decide_eq_false e0,cond_false,decide_eq_true q1,decide_eq_true q2,Bool.and_self,cond_true,decide_eq_true q3,cond_true,decide_eq_true q4,cond_true,te,decide_eq_true q5,cond_true,decide_eq_true q6,cond_true,u2];exact fin (cC c y).c.t rfl
 | true=>
  rw[Bool.not_true,cond_false];have hrl:G.reverse.length=G.length:=List.length_reverse ..
  obtain⟨pl1,pl2⟩:=G1 n G.reverse h.p (by omega) (by omega)
  by_cases hm:h.p∈G
  ·obtain⟨X,Y,hXY⟩:=List.append_of_mem hm
   have hY:h.p∉Y:=IC hV (by rw[<-hG];exact hXY)
   have hX:h.p∉X:=fun hx=>by
    obtain⟨X1,X2,e⟩:=List.append_of_mem hx;have:Gk c i=X1++h.p::(X2++h.p::Y):=by rw[<-hG,hXY,e];simp
    exact IC hV this (by simp)
   have hpl2:=pl2 Y.reverse X.reverse (by rw[hXY];simp) (by simpa using hY)
   rw[List.length_reverse]at hpl2;have hneg:¬(Y.length:Int)<0:=by omega
   have hfo:eB n (foL G) h.p=some (Y.length:Int):=hpl2
   rw[hfo,Option.bind_some,decide_eq_false hneg,cond_false];obtain⟨r1,r2⟩:=FJ (a:=h.a) hY X hX
   have e1:cE c G h=Y:=by unfold cE;rw[if_pos hb,hXY];exact r2
   have e2:ig c G h=pN h.a h.p G:=by unfold ig;rw[if_pos hb,if_pos hm]
   have hxl:X.length+Y.length<=50:=by have:=congrArg List.length hXY;simp at this;omega
   rw[hXY];refine OQ n go hn i (by omega) h.a h.p _ x0 x1 (tnL O) Y X hxl (by rw[List.length_map];omega) _ ?_
   rw[<-r1,<-hXY,<-e2];rw[e1]at hgo;rw[<-hgo];simp
  ·have hfo:eB n (foL G) h.p=some (-1):=pl1 (by simpa using hm)
   have hneg:(-1:Int)<0:=by decide
   rw[hfo,Option.bind_some,decide_eq_true hneg,cond_true,decide_eq_true c24,cond_true,decide_eq_true c4,decide_eq_true c5,Bool.and_self,cond_true];have e1:cE c G h=G:=by unfold cE;rw[if_pos hb];exact AL hm
   have e2:ig c G h=[⟨h.a,h.p,5,G⟩]:=by unfold ig;rw[if_pos hb,if_neg hm]
   rw[e1,e2]at hgo;rw[<-hgo];simp
theorem Nw(a b:Int):af a b=min a b:=by unfold af;omega
theorem Q1{c:Ch}(hL:fu c.life){a:Int}(h0:0<=a)(n:Nat)(hn:c.life.length<n):oH n (lfL c.life) (af a 10000000)=some ((atL c.life (min a 10000000)).s,(atL c.life (min a 10000000)).h,(atL c.life (min a 10000000)).e,(atL c.life (min a 10000000)).t,0):=by
 have hok:nq c.life (min a 10000000):=⟨hL,by omega,by omega⟩
 rw[M2 n c.life _ hn,Nw];simp only[atT,atR,if_pos hok]
theorem N4{c:Ch}{l:List Hp}(hl:∀h∈l,h∈hps c):oY c (dl c [] l):=fun x hx=>by
 rcases zh hx with h|⟨h,h1,h2⟩
 ·cases h
 ·obtain⟨k,p,g1,g2,_⟩:=jO (hl h h1)
  have:=(List.getElem?_eq_some_iff.1 g1).1
  rw[<-h2,g2];exact⟨by omega,by omega⟩
theorem OS(c:Ch)(G:List Int)(h:Hp):(cE c G h).length<=G.length+1:=by
 unfold cE;have:=vl h.p G
 split
 ·omega
 ·split<;>simp
theorem F0(c:Ch):∀(l:List Hp) (G:List Int),(dl c G l).length<=G.length+l.length
 |[],G=>by simp[dl]
 |h::l,G=>by
  have h1:=F0 c l (cE c G h);have h2:=OS c G h;show(dl c (cE c G h) l).length<=_
  simp only[List.length_cons];omega
theorem QX{c:Ch}(h:ChV c){x:Hp}(hx:x∈hps c):0<=x.a/\x.a<=23000000:=by
 obtain⟨k,p,h1,h2,y,h3,h4⟩:=jO hx;have hv:=(oK h.2.2.2.2.2.2 p (List.mem_of_getElem? h1)).2;have g1:=Bo hv y h3;have g2:=Bp hv y h3;have g3:=hv.2.1;unfold ClV at g3;unfold bp at h4;split at h4
 ·cases h4;simp only;omega
 ·cases h4
theorem xJ(L:Lv)(k:Int)(hk:k=(L.length:Int)):List.take (List.replicate k.toNat [AV.int 0]).length L++List.drop L.length (List.replicate k.toNat [AV.int 0])=L:=by
 subst hk;simp
theorem Rs: @Bm= @iV:=rfl
section
variable (n:Nat) (go0:bQ->Option ax) (go1:dj->Option ax) (c:Ch) (t:Int) (v9:Lv) (i:Int) (G:List Int) (r:ax)
 (hi:0<=i/\i<=100) (hG:oY c G) (hl:G.length<=90) (hP:PIn c (cI v9 i 1)) (hst:t<cI v9 i 0->r=(aT c G,foL G,0))
include hi hst
theorem Pa(w a p kd u:Int)(L X:Lv)(hX:X=L)(hu:u=w)(hgo:cI v9 i 0<=t->go0 (w,i+1,a,p,kd,L,w,L)=some r):(bif t<(cI v9 i 0) then some (aT c G,foL G,0)else bif(-9223372036854775808<=(i+1))&&((i+1)<=9223372036854775807)then go0 (u,(i+1),a,p,kd,X,w,L)else none)=some r:=by
 have e10:(-9223372036854775808:Int)<=i+1:=by omega
 have e11:i+1<=(9223372036854775807:Int):=by omega
 by_cases h:t<cI v9 i 0
 ·rw[decide_eq_true h,cond_true,hst h]
 ·rw[decide_eq_false h,cond_false,decide_eq_true e10,decide_eq_true e11,Bool.and_self,cond_true,hX,hu]
  exact hgo (by omega)
include hG hl
theorem AQ(a p kd:Int)(hgo:cI v9 i 0<=t->go0 (aT c G,i+1,a,p,kd,foL G,aT c G,foL G)=some r):wC c (foL G) (fun w=>(bif t<(cI v9 i 0) then some (aT c G,foL G,0)else bif(-9223372036854775808<=(i+1))&&((i+1)<=9223372036854775807)then go0 (w,(i+1),a,p,kd,(List.take (List.replicate (((foL G).length:Int)).toNat [(AV.int 0)]).length (foL G)++List.drop (foL G).length (List.replicate (((foL G).length:Int)).toNat [(AV.int 0)])),w,foL G)else none))=some r:=
 (Qq hG (by omega) _).trans
  (Pa go0 c t v9 i G r hi hst (aT c G) a p kd _ _ _ (xJ _ _ rfl) rfl hgo)
include hP
theorem RF(s h:Int)(hgo:cI v9 i 0<=t->∀a p kd,(if s=1/\h=(cC c (cI v9 i 1)).c.h then go0 (aT c (cI v9 i 1::G),i+1,a,p,kd,foL (cI v9 i 1::G),aT c (cI v9 i 1::G),foL (cI v9 i 1::G))else go0 (aT c G,i+1,a,p,kd,foL G,aT c G,foL G))=some r):
  sy n go0 go1 c.f (ptL c.ps) t v9 i (foL G) (aT c G) (foL G) s h=some r:=by
 obtain⟨g1,g2,g3⟩:=lN hP;unfold sy;rw[g3];by_cases k1:s=1
 ·by_cases k2:h=(cC c (cI v9 i 1)).c.h
  ·simp only[k1,k2,and_self,if_true]at hgo
   rw[decide_eq_true k1,cond_true,decide_eq_true k2,cond_true];refine(Rw hG (by omega) hP (fun w=>(bif t<(cI v9 i 0) then some (aT c G,foL G,0)else bif(-9223372036854775808<=(i+1))&&((i+1)<=9223372036854775807)then go0 (w,(i+1),(cI v9 i 0),(cI v9 i 1),1,(List.take (List.replicate ((((foL G).length:Int)+1)).toNat [(AV.int 0)]).length (foL G++[[(AV.int (cI v9 i 1))]])++List.drop (foL G++[[(AV.int (cI v9 i 1))]]).length (List.replicate ((((foL G).length:Int)+1)).toNat [(AV.int 0)])),w,foL G++[[(AV.int (cI v9 i 1))]])else none))).trans ?_
   refine Pa go0 c t v9 i G r hi hst _ _ _ _ _ _ _ (xJ _ _ (by simp)) rfl ?_
   rw[pJ];exact fun h=>hgo h _ _ _
  ·simp only[k2,and_false,if_false]at hgo
   rw[decide_eq_true k1,cond_true,decide_eq_false k2,cond_false];exact AQ go0 c t v9 i G r hi hG hl hst _ _ 2 fun h=>hgo h _ _ _
 ·simp only[k1,false_and,if_false]at hgo
  rw[decide_eq_false k1,cond_false];exact AQ go0 c t v9 i G r hi hG hl hst _ _ 2 fun h=>hgo h _ _ _
theorem at9(s h:Int)(hgo:cI v9 i 0<=t->∀a p kd,(if aT c G=(cC c (cI v9 i 1)).c.f/\s=1/\h=(cC c (cI v9 i 1)).c.h then go0 (aT c (cI v9 i 1::G),i+1,a,p,kd,foL (cI v9 i 1::G),aT c (cI v9 i 1::G),foL (cI v9 i 1::G))else go0 (aT c G,i+1,a,p,kd,foL G,aT c G,foL G))=some r):
  iV n go0 go1 c.f (ptL c.ps) t v9 (aT c G) i (foL G) (aT c G) (foL G) s h=some r:=by
 obtain⟨g1,g2,g3⟩:=lN hP;unfold iV;rw[g1];by_cases k:aT c G=(cC c (cI v9 i 1)).c.f
 ·rw[decide_eq_true k,cond_true]
  simp only[k,true_and]at hgo;rw[k]at hst;refine RF n go0 go1 c t v9 i G r hi hG hl hP (by rw[k];exact hst) s h ?_
  rw[k];exact hgo
 ·rw[decide_eq_false k,cond_false]
  simp only[k,false_and,if_false]at hgo;exact AQ go0 c t v9 i G r hi hG hl hst _ _ 2 fun h=>hgo h _ _ _
end
section
variable (n:Nat) (go0:bQ->Option ax) (go1:ju->Option ax) (c:Ch) (t:Int) (v9:Lv) (i:Int) (G:List Int) (k:Nat) (r:ax)
 (hi:0<=i/\i<=100) (hG:oY c G) (hl:G.length<=90)
theorem QW(w a p kd u b d:Int)(L X B:Lv)(hX:X=L)(hu:u=w)(hst:t<a->r=(b,B,0))(hgo:a<=t->go1 (true,a,p,kd,L,w,L)=some r):(bif t<a then some (b,B,0)else go1 (true,a,p,kd,X,u,L))=some r:=by
 by_cases h:t<a
 ·rw[decide_eq_true h,cond_true,hst h]
 ·rw[decide_eq_false h,cond_false,hX,hu]
  exact hgo (by omega)
include hG hl
theorem Io(a p kd b:Int)(B:Lv)(hst:t<a->r=(b,B,0))(hgo:a<=t->go1 (true,a,p,kd,foL G,aT c G,foL G)=some r):wC c (foL G) (fun w=>(bif t<a then some (b,B,0)else go1 (true,a,p,kd,(List.take (List.replicate (((foL G).length:Int)).toNat [(AV.int 0)]).length (foL G)++List.drop (foL G).length (List.replicate (((foL G).length:Int)).toNat [(AV.int 0)])),w,foL G)))=some r:=
 (Qq hG (by omega) _).trans
  (QW go1 t r (aT c G) a p kd _ b 0 _ _ B (xJ _ _ rfl) rfl hst hgo)
theorem NU(x a p kd b:Int)(B:Lv)(hk:k<(x::G).length)(hst:t<cI v9 i 0->r=(b,B,0))(hgo:cI v9 i 0<=t->∀a p kd,go1 (true,a,p,kd,foL G,aT c G,foL G)=some r):gS n go0 go1 c.f (ptL c.ps) t v9 i (k:Int) true a p kd B b (foL (x::G))=some r:=by
 have e0:(k:Int)<((foL (x::G)).length:Int):=by rw[bA];omega
 have e5:(-9223372036854775808:Int)<=((foL (x::G)).length:Int)-1:=by omega
 have e6:((foL (x::G)).length:Int)-1<=(9223372036854775807:Int):=by rw[bA];simp;omega
 have e7:(0:Int)<=((foL (x::G)).length:Int)-1:=by omega
 have e8:((foL (x::G)).length:Int)-1<((foL (x::G)).length:Int):=by omega
 have e9:((foL (x::G)).length:Int)-1<=((foL (x::G)).length:Int):=by omega
 unfold gS;rw[cond_true];unfold sH;rw[decide_eq_true e0,cond_true,decide_eq_true e5,decide_eq_true e6,Bool.and_self,cond_true,decide_eq_true e7,cond_true,decide_eq_true e8,cond_true,te,JT,decide_eq_true e9,cond_true];by_cases h:x=cI v9 i 1
 ·rw[decide_eq_true h,cond_true]
  exact Io go1 c t G r hG hl _ _ 3 b B hst fun h=>hgo h _ _ _
 ·rw[decide_eq_false h,cond_false,cond_true]
  exact Io go1 c t G r hG hl _ _ 4 b B hst fun h=>hgo h _ _ _
include hi
theorem NV(a p kd:Int)(b:Int)(B:Lv)(hk:¬k<G.length)(hgo:go0 (aT c G,i+1,a,p,kd,B,b,foL G)=some r):gS n go0 go1 c.f (ptL c.ps) t v9 i (k:Int) true a p kd B b (foL G)=some r:=by
 have e0:¬(k:Int)<((foL G).length:Int):=by rw[bA];omega
 have e10:(-9223372036854775808:Int)<=i+1:=by omega
 have e11:i+1<=(9223372036854775807:Int):=by omega
 unfold gS;rw[cond_true];unfold sH;rw[decide_eq_false e0,cond_false];refine(wth hG (by omega) (fun w=>bif(-9223372036854775808<=(i+1))&&((i+1)<=9223372036854775807)then go0 (w,i+1,a,p,kd,B,b,foL G)else none)).trans ?_
 simp only[decide_eq_true e10,decide_eq_true e11,Bool.and_self,cond_true];exact hgo
end
section
variable (n:Nat) (go0:bQ->Option ax) (c:Ch) (t:Int) (v9:Lv) (i:Int) (G:List Int) (r:ax) (h:Hp)
 (hi:0<=i/\i<=100) (hG:oY c G) (hl:G.length<=90) (hP:PIn c h.p) (hh0:cI v9 i 0=h.a) (hh1:cI v9 i 1=h.p) (hh2:cB v9 i 2=h.b) (hst:t<h.a->r=(aT c G,foL G,0))
include hi hG hl hh0 hh1 hst
theorem Py(a p kd:Int)(k:Nat)(hk:G.reverse[k]?=some h.p)(hm:∀j,j<k->G.reverse[j]?≠some h.p)(hn:200<n)
  (hgo:h.a<=t->∀a p kd,go0 (aT c (dW h.p G),i+1,a,p,kd,foL (dW h.p G),aT c (dW h.p G),foL (dW h.p G))=some r):
  aa (fun go1 s=>gS n go0 go1 c.f (ptL c.ps) t v9 i (k:Int) s.1 s.2.1 s.2.2.1 s.2.2.2.1 s.2.2.2.2.1 s.2.2.2.2.2.1 s.2.2.2.2.2.2) n ((true,a,p,kd,foL G,aT c G,foL G):ju)=some r:=by
 refine ar (fun s=>∃(B G':List Int) (a p kd:Int),s=(true,a,p,kd,foL G',aT c G',foL G')/\G=B++G'/\dW h.p G'=dW h.p G/\(t<h.a->G'=G)) (fun s=>s.2.2.2.2.1.length) r ?_ n _ ⟨[],G,a,p,kd,rfl,rfl,rfl,fun _=>rfl⟩ (by rw[bA];omega)
 rintro _ go ⟨B,G',a,p,kd,rfl,hB,hp,hsame⟩ ih;simp only
 have hin:h.p∈G'↔k<G'.length:=by
  subst hB;exact Q0 hk hm
 have hG':oY c G':=fun x hx=>hG x (by rw[hB];exact List.mem_append_right _ hx)
 have hlen:G'.length<=90:=by rw[hB,List.length_append]at hl;omega
 by_cases hkk:k<G'.length
 ·cases G' with
  |nil=>simp at hkk
  | cons x G'=>
   have h1:h.p∈x::G':=hin.2 hkk
   have e1:dW h.p (x::G')=dW h.p G':=by rw[dW,if_pos h1]
   refine NU n go0 go c t v9 i G' k r (fun y hy=>hG' y (List.mem_cons_of_mem _ hy)) (by simp only[List.length_cons]at hlen;omega) x a p kd _ _ hkk (fun ht=>?_) (fun ht a p kd=>?_)
   ·rw[hh0]at ht
    rw[hsame ht];exact hst ht
   ·rw[hh0]at ht
    refine ih _ ⟨B++[x],G',a,p,kd,rfl,by rw[hB];simp,by rw[<-hp,e1],fun h=>by omega⟩ ?_
    simp only[bA,List.length_cons];omega
 ·have h1:h.p∉G':=fun h=>hkk (hin.1 h)
  have e1:dW h.p G'=G':=AL h1
  have ht:h.a<=t:=by
   rcases Int.lt_or_le t h.a with h2|h2
   ·exact absurd (by rw[hsame h2];exact List.mem_reverse.1 (List.mem_of_getElem? hk)) h1
   ·exact h2
  refine NV n go0 go c t v9 i G' k r hi hG' hlen a p kd _ _ hkk ?_
  rw[<-e1,hp];exact hgo ht _ _ _
include hP hh2
theorem OC(a p kd:Int)(hL:fu c.life)(h0:0<=h.a)(hn:200<n)(hnl:c.life.length<n)
  (hgo:h.a<=t->∀a p kd,go0 (aT c (cE c G h),i+1,a,p,kd,foL (cE c G h),aT c (cE c G h),foL (cE c G h))=some r):
  aa (fun go1 s=>uT n go0 go1 c.f (lfL c.life) (ptL c.ps) t v9 (aT c G) i a p kd (foL G) (aT c G) (foL G) s) n (0:dj)=some r:=by
 refine ar (fun s=>∃j:Nat,s=(j:Int)/\j<=G.length/\∀j',j'<j->G.reverse[j']?≠some h.p) (fun s=>G.length-s.toNat) r ?_ n _ ⟨0,rfl,by omega,fun j hj=>by omega⟩ (by omega)
 rintro _ go ⟨j,rfl,hj,hm⟩ ih;have hP':PIn c (cI v9 i 1):=by rw[hh1];exact hP
 have p1:(0:Int)<=cI v9 i 1:=hP'.1
 have p2:cI v9 i 1<((ptL c.ps).length:Int):=by rw[List.length_map];exact hP'.2
 have hst':t<cI v9 i 0->r=(aT c G,foL G,0):=by rw[hh0];exact hst
 have hE:h.b=false->∀go1,iV n go0 go1 c.f (ptL c.ps) t v9 (aT c G) i (foL G) (aT c G) (foL G) (atL c.life (min h.a 10000000)).s (atL c.life (min h.a 10000000)).h=some r:=by
  intro hb go1;refine at9 n go0 go1 c t v9 i G r hi hG hl hP' hst' _ _ fun ht a p kd=>?_
  rw[hh0]at ht;have hgo:=hgo ht a p kd;rw[hh1];have hnb:¬h.b=true:=by rw[hb];decide
  unfold cE at hgo;rw[if_neg hnb]at hgo;by_cases ht:lR c G h
  ·rw[if_pos ht]at hgo
   exact(if_pos ht).trans hgo
  ·rw[if_neg ht]at hgo
   exact(if_neg ht).trans hgo
 unfold uT;by_cases hlt:j<G.length
 ·have c1:(j:Int)<((foL G).length:Int):=by rw[bA];omega
  have c2:(0:Int)<=(j:Int):=by omega
  obtain⟨x,hx⟩:=aD (l:=G.reverse) (i:=j) (by simpa using hlt)
  rw[decide_eq_true c1,cond_true,decide_eq_true c2,cond_true];unfold CY;rw[Of hx];by_cases he:cI v9 i 1=x
  ·rw[decide_eq_true he,cond_true,decide_eq_true p1,cond_true,decide_eq_true p2,cond_true]
   unfold DZ;rw[hh2];cases hb:h.b with
   |false=>
    rw[Bool.not_false,cond_true,hh0,Q1 hL h0 n hnl,Option.bind_some];exact hE hb _
   |true=>
    rw[Bool.not_true,cond_false];unfold Bk;have c3:¬(j:Int)<0:=by omega
    rw[decide_eq_false c3,cond_false];have hx':G.reverse[j]?=some h.p:=by rw[hx,<-he,hh1]
    unfold cE at hgo;rw[if_pos hb]at hgo;exact Py n go0 c t v9 i G r h hi hG hl hh0 hh1 hst a p kd j hx' hm hn hgo
  ·have c4:(-9223372036854775808:Int)<=(j:Int)+1:=by omega
   have c5:(j:Int)+1<=(9223372036854775807:Int):=by omega
   rw[decide_eq_false he,cond_false,decide_eq_true c4,decide_eq_true c5,Bool.and_self,cond_true];refine ih _ ⟨j+1,by omega,by omega,fun j' hj'=>?_⟩ (by omega)
   rcases Nat.lt_or_ge j' j with h1|h1
   ·exact hm j' h1
   ·have:j'=j:=by omega
    subst this;rw[hx,<-hh1];exact fun e=>he (Option.some.inj e).symm
 ·have c1:¬(j:Int)<((foL G).length:Int):=by rw[bA];omega
  have hnin:h.p∉G:=fun hin=>by
   obtain⟨q,hq,he⟩:=List.getElem_of_mem (List.mem_reverse.2 hin);have hq':q<G.length:=by simpa using hq
   exact hm q (by omega) (by rw[List.getElem?_eq_getElem hq,he])
  rw[decide_eq_false c1,cond_false,decide_eq_true p1,cond_true,decide_eq_true p2,cond_true];unfold BN;rw[hh2];cases hb:h.b with
  |false=>
   rw[Bool.not_false,cond_true,hh0,Q1 hL h0 n hnl,Option.bind_some,Rs];exact hE hb _
  |true=>
   rw[Bool.not_true,cond_false];refine AQ go0 c t v9 i G r hi hG hl hst' _ _ 5 fun ht=>?_
   rw[hh0]at ht⊢
   have hgo:=hgo ht h.a (cI v9 i 1) 5;unfold cE at hgo;rw[if_pos hb,AL hnin]at hgo;exact hgo
end
theorem ue{l:List Hp}(hS:dh l){t:Int}{i:Nat}(h1:∀x∈l.take i,x.a<=t)(h2:∀x,l[i]?=some x->t<x.a):l.takeWhile (fun h=>decide (h.a<=t))=l.take i:=by
 induction l generalizing i with
 |nil=>simp
 | cons y l ih=>
  cases i with
  |zero=>
   have:=h2 y rfl
   rw[List.takeWhile_cons_of_neg (by simp;omega)];rfl
  |succ i=>
   have:=h1 y (by simp)
   rw[List.takeWhile_cons_of_pos (by simpa using this),List.take_succ_cons,ih hS.2 (fun x hx=>h1 x (by simp[hx])) (fun x hx=>h2 x hx)]
theorem LQ(n:Nat)(c:Ch)(t:Int)(hl:c.life.length<n)(hn:200<n):uS n c.n c.f c.r.a c.r.c c.r.s c.r.r (lfL c.life) (ptL c.ps) t=some (if ChV c/\0<=t/\t<=20000000 then(aT c (dK c t),foL (dK c t),0)else(0,[],170)):=by
 unfold uS DD;rw[Hw n c hl hn,Option.bind_some];unfold D5;by_cases h:ChV c
 ·rw [decide_eq_true h,Bool.not_true,cond_false]
  unfold Dt;by_cases h0:0<=t
  ·rw [decide_eq_true h0,cond_true]
   unfold Dn;by_cases h1:t<=20000000
   ·rw[if_pos ⟨h,h0,h1⟩,decide_eq_true h1,Bool.not_true,cond_false,xY n c h hn,Option.bind_some]
    obtain⟨H,hH⟩:∃H,H=hps c:=⟨_,rfl⟩
    have hHl:H.length<=16:=by
     have:=EV c
     have:=h.2.2.2.2.2.1
     rw[hH];omega
    have hS:dh H:=by rw[hH];exact C8 c
    have hF:dK c t=dl c [] (H.takeWhile fun h=>decide (h.a<=t)):=by rw[hH];rfl
    rw[<-hH];refine ar (fun s=>∃(i:Nat) (a p kd:Int),s=(aT c (dl c [] (H.take i)),(i:Int),a,p,kd,foL (dl c [] (H.take i)),aT c (dl c [] (H.take i)),foL (dl c [] (H.take i)))/\i<=H.length/\∀x∈H.take i,x.a<=t) (fun s=>H.length-s.2.1.toNat) _ ?_ n _ ⟨0,0,0,0,rfl,by omega,fun x hx=>by simp at hx⟩ (by simp;omega)
    rintro _ go ⟨i,a,p,kd,rfl,hi,hle⟩ ih;simp only
    unfold Dx;by_cases hlt:i<H.length
    ·obtain⟨x,hx⟩:=aD hlt
     obtain⟨x0,x1,x2⟩:=I4 hx;have hxm:x∈hps c:=by rw[<-hH];exact List.mem_of_getElem? hx
     have c1:(i:Int)<((hpL H).length:Int):=by rw[List.length_map];omega
     have c2:(0:Int)<=(i:Int):=by omega
     have hti:(H.take i).length<=i:=by rw[List.length_take];omega
     have hfl:=F0 c (H.take i) [];simp only[List.length_nil]at hfl;have hPx:PIn c x.p:=by
      obtain⟨k,p,g1,g2,_⟩:=jO hxm;have:=(List.getElem?_eq_some_iff.1 g1).1
      rw[g2];exact⟨by omega,by omega⟩
     rw[decide_eq_true c1,cond_true,decide_eq_true c2,cond_true];refine OC n go c t (hpL H) i (dl c [] (H.take i)) _ x (by omega) (N4 fun y hy=>by rw[<-hH];exact List.mem_of_mem_take hy) (by omega) hPx x0 x1 x2 (fun ht=>?_) a p kd h.1 (QX h hxm).1 hn hl (fun ht a p kd=>?_)
     ·rw[hF,ue hS hle (fun y hy=>by rw[hx]at hy;cases hy;exact ht)]
     ·have e1:H.take (i+1)=H.take i++[x]:=bV hx
      have e2:dl c [] (H.take (i+1))=cE c (dl c [] (H.take i)) x:=by rw[e1];simp[dl]
      rw[<-e2];refine ih _ ⟨i+1,a,p,kd,rfl,by omega,fun y hy=>?_⟩ (by simp only;omega)
      rw[e1]at hy;rcases List.mem_append.1 hy with hy|hy
      ·exact hle y hy
      ·rw[List.mem_singleton]at hy;rw[hy];exact ht
    ·have h00:i=H.length:=by omega
     have c1:¬(i:Int)<((hpL H).length:Int):=by rw[List.length_map];omega
     rw[decide_eq_false c1,cond_false,hF,ue hS hle (fun y hy=>by rw[h00]at hy;simp at hy)]
   ·rw[if_neg (fun h=>h1 h.2.2),decide_eq_false h1,Bool.not_false,cond_true]
  ·rw[if_neg (fun h=>h0 h.2.1),decide_eq_false h0,cond_false]
 ·rw[if_neg (fun hh=>h hh.1),decide_eq_false h,Bool.not_false,cond_true]
theorem MF{c:Ch}(t:Int):oY c (dK c t):=by rw[vj];exact Mk _
theorem NN{c:Ch}(hV:ChV c)(t:Int):(dK c t).length<=16:=by
 rw[vj];have h1:=Dj c (upH c t);have h2:upH c t<=(hps c).length:=by unfold upH;exact List.Sublist.length_le (List.takeWhile_sublist _)
 have h3:=EV c;have h4:=hV.2.2.2.2.2.1;omega
theorem N0{α:Type}(c:Ch)(G:List Int)(hG:oY c G)(hl:G.length<=100)(K:Int->Option α)(r:Option α)(hK:K (aT c G)=r):
  (bif ((foL G).length:Int)=0 then K c.f else bif(-9223372036854775808<=(((foL G).length:Int)-1))&&((((foL G).length:Int)-1)<=9223372036854775807)then bif 0<=(((foL G).length:Int)-1) then bif (((foL G).length:Int)-1)<((foL G).length:Int) then bif 0<=(cI (foL G) (((foL G).length:Int)-1) 0) then bif (cI (foL G) (((foL G).length:Int)-1) 0)<((ptL c.ps).length:Int) then K (cI (ptL c.ps) (cI (foL G) (((foL G).length:Int)-1) 0) 2)else none else none else none else none else none)=r:=by
 have hpl:((ptL c.ps).length:Int)=(c.ps.length:Int):=by rw[List.length_map]
 have hfl:((foL G).length:Int)=(G.length:Int):=by rw[bA]
 cases G with
 |nil=>
  have e0:((foL ([]:List Int)).length:Int)=0:=rfl
  rw[decide_eq_true e0,cond_true];exact hK
 |cons y G=>
  have e0:¬((foL (y::G)).length:Int)=0:=by rw[bA,List.length_cons];omega
  have hy:=hG y (List.mem_cons_self ..);obtain⟨_,u2,_⟩:=lN hy;have q1:(-9223372036854775808:Int)<=((foL (y::G)).length:Int)-1:=by omega
  have q2:((foL (y::G)).length:Int)-1<=(9223372036854775807:Int):=by omega
  have q3:(0:Int)<=((foL (y::G)).length:Int)-1:=by rw[bA,List.length_cons];omega
  have q4:((foL (y::G)).length:Int)-1<((foL (y::G)).length:Int):=by omega
  have q5:(0:Int)<=y:=hy.1
  have q6:y<((ptL c.ps).length:Int):=by have:=hy.2;omega
  rw[decide_eq_false e0,cond_false,decide_eq_true q1,decide_eq_true q2,Bool.and_self,cond_true,decide_eq_true q3,cond_true,decide_eq_true q4,cond_true,te,decide_eq_true q5,cond_true,decide_eq_true q6,cond_true,u2];exact hK
theorem Lx(n:Nat)(c:Ch)(t:Int)(hl:c.life.length<n)(hn:200<n):ve n c.n c.f c.r.a c.r.c c.r.s c.r.r (lfL c.life) (ptL c.ps) t=some (if ChV c/\0<=t/\t<=20000000 then(aT c (dK c t),foL (dK c t),0)else(0,[],170)):=by
 unfold ve DW;rw[Hr n c hl hn,Option.bind_some];by_cases h:ChV c
 ·rw[decide_eq_true h,Bool.not_true,cond_false]
  by_cases h0:0<=t
  ·by_cases h1:t<=20000000
   ·rw[decide_eq_true h0,cond_true,decide_eq_true h1,Bool.not_true,cond_false,Kb n c _ h hl hn,Option.bind_some,if_pos ⟨h,h0,h1⟩]
    exact N0 c (dK c t) (MF t) (by have:=NN h t;omega) (fun w=>some (w,foL (dK c t),0)) _ rfl
   ·rw[if_neg (fun h=>h1 h.2.2),decide_eq_true h0,cond_true,decide_eq_false h1,Bool.not_false,cond_true]
  ·rw[if_neg (fun h=>h0 h.2.1),decide_eq_false h0,cond_false]
 ·rw[if_neg (fun hh=>h hh.1),decide_eq_false h,Bool.not_false,cond_true]
end Go.Proofs.YtgckmifmjiklmaaGreat
namespace Go.Proofs.YtgckmifmjiklmaaGreat
open Go Go.Sx Go.Dial.Blk Go.Dial.Mrg
open Go.Dial.Chn (Ch ChV aT dK)
theorem eu(n:Nat)(w:Wd)(l:List Ev)(hl:l.length<=1000000)(c k t:Int)(hn:1000001<n):a9 n w.al w.ev (bL w.bl) (iL w.ba) (iL w.le) (evL l) c k t=some (EO (jN w l c k t)):=by
 unfold a9 ny;rw[Lr n w l hl t hn,Option.bind_some];by_cases hA:AtOk w l t
 ·have eA:atW w l t=some (dY w (untl l t)):=if_pos hA
  rw[eA,Nh];refine cN (fun _=>?_) (fun h=>absurd rfl h)
  refine cF (fun c0=>cN (fun c1=>cF (fun k0=>cN (fun k1=>?_) (fun h=>noS fun p=>h p.k1)) (fun h=>noS fun p=>h p.k0)) (fun h=>noS fun p=>h p.c1)) (fun h=>noS fun p=>h p.c0)
  rw[vE n l hl t hn,Option.bind_some];have e1:jN w l c k t=some (gZ (untl l t) k c):=if_pos ⟨hA.g,hA.t0,hA.t1,c0,c1,k0,k1⟩
  rw[e1];have hgu:=hA.g.untl t;have hul:=hgu.few;obtain⟨m,hm⟩:∃m,m=untl l t:=⟨_,rfl⟩
  rw[<-hm]at hul⊢
  refine ar (fun s=>∃(i:Nat) (x:Int),s=(x,(i:Int))/\i<=m.length/\gZ (m.drop i) k x=gZ m k c) (fun s=>m.length-s.2.toNat) _ ?_ n _ ⟨0,c,rfl,by omega,rfl⟩ (by first|omega|(simp only;omega))
  rintro _ go ⟨i,x,rfl,hi,hE⟩ ih;simp only at ih⊢
  unfold nA;rw[ku];refine cF (fun hlt=>gN (by omega) ?_) (fun hlt=>?_)
  ·obtain⟨e,he⟩:=aD (l:=m) (i:=i) (by omega)
   obtain⟨g0,g1,g2,g3,g4,g5,g6,g7⟩:=nY he;rw[kS he,mC]at hE;rw[g0,g2,g3,g4,g5,g6];have hgo:∀y,rho e k x=y->(bif(-9223372036854775808<=((i:Int)+1))&&(((i:Int)+1)<=9223372036854775807)then go (y,(i:Int)+1)else none)=some (EO (some (gZ m k c))):=fun y hy=>by
    refine gO (by omega) (by omega) (ih _ ⟨i+1,y,rfl,by omega,?_⟩ (by first|omega|(simp only;omega)))
    rw[<-hE,hy]
   refine cN (fun hx=>?_) (fun hx=>hgo x (by unfold rho;rw[if_neg (fun h=>hx h.symm)]))
   refine cF (fun hin=>cF (fun h1=>hgo _ ?_) (fun h1=>cF (fun h2=>cF (fun h5=>hgo _ ?_) (fun h5=>hgo _ ?_)) (fun h2=>cF (fun h3=>cF (fun h5=>hgo _ ?_) (fun h5=>hgo _ ?_)) (fun h3=>hgo _ ?_))))
    (fun hin=>cF (fun h1=>hgo _ ?_) (fun h1=>cF (fun h2=>hgo _ ?_) (fun h2=>cF (fun h3=>hgo _ ?_) (fun h3=>hgo _ ?_))))
   all_goals
    unfold rho;rw[if_pos hx.symm];first
     |(rw[if_pos (by omega)])
     |(rw[if_neg (by omega),if_pos (by omega)])
     |(rw[if_neg (by omega),if_neg (by omega)])
  ·rw[List.drop_of_length_le (by omega)]at hE
   rw[<-hE];rfl
 ·have eA:atW w l t=none:=if_neg hA
  rw[eA];exact cN (fun h=>absurd h (by show ¬(420:Int)=0;decide)) (fun _=>noS fun p=>hA ⟨p.g,p.t0,p.t1⟩)
theorem vD(n:Nat)(w:Wd)(l:List Ev)(hl:l.length<=1000000)(k a b x y:Int)(z:Bool)(t:Int)(hn:1000001<n):cT n w.al w.ev (bL w.bl) (iL w.ba) (iL w.le) (evL l) k a b x y z t=some (clO k (x,y,z) (clW w l k a b t)):=by
 unfold cT wd;rw[eu n w l hl a k t hn,Option.bind_some,eu n w l hl b k t hn,Option.bind_some];unfold clW;cases jN w l a k t with
 |none=>exact cN (fun h=>absurd h (by show ¬(420:Int)=0;decide)) (fun _=>by cases jN w l b k t<;>rfl)
 | some p=>
  cases jN w l b k t with
  |none=>exact cN (fun _=>cN (fun h=>absurd h (by show ¬(420:Int)=0;decide)) (fun _=>rfl)) (fun h=>absurd rfl h)
  | some q=>
   refine cN (fun _=>cN (fun _=>?_) (fun h=>absurd rfl h)) (fun h=>absurd rfl h)
   refine cF (fun he=>?_) (fun he=>?_)
   ·have he':p=q:=he
    dsimp only;rw[if_pos he'];rfl
   ·have he':¬p=q:=he
    dsimp only;rw[if_neg he'];rfl
noncomputable def Mh (w:Wd) (l:List Ev) (c:Ch) (t:Int):Option Int:=if ChV c/\0<=t/\t<=20000000 then jN w l (aT c (dK c t)) c.n t else none
theorem Ai(n:Nat)(w:Wd)(ha:ae w.al)(l:List Ev)(hl:l.length<=1000000)(c:Ch)(hc:c.life.length<n)(t:Int)(hn:100000001<n):
  gu n w.al w.ev (bL w.bl) (iL w.ba) (iL w.le) (evL l) c.n c.f c.r.a c.r.c c.r.s c.r.r (lfL c.life) (ptL c.ps) t=some (EO (Mh w l c t)):=by
 unfold gu Ab;rw[LQ n c t hc (by omega),Option.bind_some]
 unfold Mh;by_cases h:ChV c/\0<=t/\t<=20000000
 ·rw[if_pos h,if_pos h]
  refine cN (fun _=>?_) (fun h=>absurd rfl h)
  rw[jj n w ha l hl _ _ t hn,Option.bind_some]
 ·rw[if_neg h,if_neg h]
  exact cN (fun h=>absurd h (by show ¬(170:Int)=0;decide)) (fun _=>rfl)
theorem yG(n:Nat)(w:Wd)(l:List Ev)(hl:l.length<=1000000)(c:Ch)(hc:c.life.length<n)(t:Int)(hn:100000001<n):
  gq n w.al w.ev (bL w.bl) (iL w.ba) (iL w.le) (evL l) c.n c.f c.r.a c.r.c c.r.s c.r.r (lfL c.life) (ptL c.ps) t=some (EO (Mh w l c t)):=by
 unfold gq yF;rw[Lx n c t hc (by omega),Option.bind_some]
 unfold Mh;by_cases h:ChV c/\0<=t/\t<=20000000
 ·rw[if_pos h,if_pos h]
  refine cN (fun _=>?_) (fun h=>absurd rfl h)
  rw[eu n w l hl _ _ t (by omega),Option.bind_some]
 ·rw[if_neg h,if_neg h]
  exact cN (fun h=>absurd h (by show ¬(170:Int)=0;decide)) (fun _=>rfl)
end Go.Proofs.YtgckmifmjiklmaaGreat
namespace Go.Proofs.YtgckmifmjiklmaaGreat
open Go Go.Sx Go.Dial.Blk Go.Dial.Mrg
theorem n9{α:Type}(f:α->List AV)(xs:List α)(i:Nat)(g:List AV->List AV)(h:α->α)(hf:∀x,g (f x)=f (h x)):List.modify (xs.map f) i g=(xs.modify i h).map f:=by
 induction xs generalizing i with
 |nil=>cases i<;>rfl
 |cons x xs ih=>
  cases i with
  |zero=>simp[List.modify_zero_cons,hf]
  |succ i=>simp only[List.map_cons,List.modify_succ_cons,ih]
theorem LD(xs:List B3)(i:Nat)(v:Int):List.modify (bL xs) i (fun r=>r.set 0 (AV.int v))=bL (xs.modify i fun b=>⟨v,b.t,b.c⟩):=n9 bR xs i _ _ fun _=>rfl
theorem Lk(xs:List B3)(i:Nat)(v:Int):List.modify (bL xs) i (fun r=>r.set 1 (AV.int v))=bL (xs.modify i fun b=>⟨b.f,v,b.c⟩):=n9 bR xs i _ _ fun _=>rfl
theorem L3(xs:List B3)(i:Nat)(v:Int):List.modify (bL xs) i (fun r=>r.set 2 (AV.int v))=bL (xs.modify i fun b=>⟨b.f,b.t,v⟩):=n9 bR xs i _ _ fun _=>rfl
theorem Jg(n:Nat)(l:List B3)(hl:l.length<=1000){a b c:Int}(ha:ae a)(hb:ae b)(hc:ae c)(hn:100<n):Ok (fun r=>∃l',r=bL l') (ja n (bL l) a b c):=by
 unfold ja zQ;have hlm:((bL l).length:Int)=(l.length:Int):=by rw[List.length_map]
 rw[hlm];refine hN (by omega) (oF (fun _=>hD ⟨[⟨b,c,0⟩],rfl⟩) (fun h0=>?_))
 have pc:=aY c (k:=(l.length:Int)) (by omega)
 have pa:=aY a (k:=6) (by decide)
 have pb:=aY b (k:=4) (by decide)
 rw[eP n hc (by omega),Option.bind_some,eP n ha (by decide),Option.bind_some]
 refine oF (fun _=>hN pc.1 (hN pc.2 (hD ⟨_,LD l _ _⟩))) (fun _=>oF (fun _=>hN pc.1 (hN pc.2 (hD ⟨_,Lk l _ _⟩))) (fun _=>oF (fun _=>hN pc.1 (hN pc.2 (hD ⟨_,L3 l _ _⟩))) (fun _=>oF (fun _=>hN pc.1 (hN pc.2 (hN (by omega) (hD ⟨l++[⟨cI (bL l) (pk c (l.length:Int)) 0,cI (bL l) (pk c (l.length:Int)) 1,cI (bL l) (pk c (l.length:Int)) 2⟩],?_⟩)))) (fun _=>oF (fun _=>hN pc.1 (hN pc.2 (hN (by omega) (hD ?_)))) (fun _=>?_)))))
 ·rw[kT];rfl
 ·rw[LD,Lk,L3,LD,Lk,L3]
  exact⟨_,rfl⟩
 ·refine dE (fun s=>∃(i:Nat) (m:List B3),s=(bL m,(i:Int))/\i<=100/\m.length<=i) (fun s=>100-s.2.toNat) _ ?_ n _ ⟨0,[],rfl,by omega,by simp⟩ (by first|omega|(simp only;omega))
  rintro _ go ⟨i,m,rfl,hi,hm⟩ ih;simp only at ih⊢
  unfold x9;have hmm:((bL m).length:Int)=(m.length:Int):=by rw[List.length_map]
  rw[eP n hb (by decide),Option.bind_some,hmm]
  refine hO (by omega) (by omega) (oF (fun hlt=>hO (by omega) (by omega) (hO (by omega) (by omega) (hN (by omega) (hO (by omega) (by omega) (ih _ ⟨i+1,m++[⟨2*(i:Int),2*(i:Int)+1,1⟩],?_,by omega,by simp;omega⟩ (by first|omega|(simp only;omega))))))) (fun _=>hD ⟨m,rfl⟩))
  rw[kT];rfl
theorem Rt(xs:List Ev)(i:Nat)(g:List AV->List AV)(h:Ev->Ev)(hf:∀x,g (evR x)=evR (h x)):List.modify (evL xs) i g=evL (xs.modify i h):=n9 evR xs i g h hf
def H1(r:Int×Int×Lv×Lv×Lv×Lv):Prop:=∃(u:Wd) (m:List Ev),r=(u.al,u.ev,bL u.bl,iL u.ba,iL u.le,evL m)/\ae u.al/\m.length<=21
theorem Or(n:Nat)(u:Wd)(hu:ae u.al)(l:List Ev)(hl:l.length<=21)(hn:30<n):Ok H1 (aa (fun go0 s=>iy n go0 u.al u.ev (bL u.bl) (iL u.ba) (iL u.le) s) n (evL l:gH)):=by
 refine dE (fun s=>∃m:List Ev,s=evL m/\m.length<=21) (fun s=>21-s.length) _ ?_ n _ ⟨l,rfl,hl⟩ (by first|omega|(simp only;omega))
 rintro _ go ⟨m,rfl,hm⟩ ih;unfold iy;rw[ku];refine oF (fun hlt=>hN (by omega) (ih _ ⟨m++[⟨4,10000000,0,0,0,0,0,0⟩],?_,by simp;omega⟩ ?_)) (fun _=>hD ⟨u,m,rfl,hu,hm⟩)
 ·rw[evL,evL,List.map_append];rfl
 ·simp;omega
theorem I8(n:Nat)(w:Wd)(hw:WV w)(l:List Ev)(hl:l.length<=8){a b c:Int}(ha:ae a)(hb:ae b)(hc:ae c)(hn:100<n):Ok H1 (nX n w.al w.ev (bL w.bl) (iL w.ba) (iL w.le) (evL l) a b c):=by
 have hal:ae w.al:=by have h0:=hw.a0;have h1:=hw.a1;unfold ae;omega
 have hfew:=hw.few;unfold nX yr;rw[oW n w (by omega) (by rw[hw.bal];decide) (by rw[hw.lel];decide),Option.bind_some,ku,a7 n ha (by decide),Option.bind_some]
 dsimp only;refine hN (by omega) ?_
 have p8:=aY c (k:=8) (by decide)
 have il1:((iL w.ba).length:Int)=8:=by rw[dB,hw.bal];rfl
 have il2:((iL w.le).length:Int)=8:=by rw[dB,hw.lel];rfl
 have hdiv:ae (Int.tdiv a 13):=by
  unfold ae at *
  by_cases h:0<=a
  ·have h1:=Int.tdiv_nonneg h (by omega:(0:Int)<=13)
   have h2:Int.tdiv a 13<=a:=by rw[Int.tdiv_eq_ediv_of_nonneg h];exact Int.ediv_le_self 13 h
   omega
  ·have h0:0<= -a:=by omega
   have h1:=Int.tdiv_nonneg h0 (by omega:(0:Int)<=13)
   have h2:Int.tdiv (-a) 13<= -a:=by rw[Int.tdiv_eq_ediv_of_nonneg h0];exact Int.ediv_le_self 13 h0
   rw[Int.neg_tdiv]at h1 h2;omega
 have rest:∀v14:Int,Ok H1 (bif v14=0 then some (b,w.ev,bL w.bl,iL w.ba,iL w.le,evL l)else(bif v14=1 then some (w.al,b,bL w.bl,iL w.ba,iL w.le,evL l)else(bif v14=2 then(aN n c 8).bind fun y15=>bif 0<=y15 then bif y15<((iL w.ba).length:Int) then some (w.al,w.ev,bL w.bl,(List.modify (iL w.ba) (y15).toNat (fun r=>r.set 0 (AV.int b))),iL w.le,evL l)else none else none else(bif v14=3 then(aN n c 8).bind fun y15=>bif 0<=y15 then bif y15<((iL w.le).length:Int) then some (w.al,w.ev,bL w.bl,iL w.ba,(List.modify (iL w.le) (y15).toNat (fun r=>r.set 0 (AV.int b))),evL l)else none else none else(bif v14=4 then bif(-9223372036854775808<=(Int.tdiv a 13))&&((Int.tdiv a 13)<=9223372036854775807)then(ja n (bL w.bl) (Int.tdiv a 13) b c).bind fun y15=>some (w.al,w.ev,y15,iL w.ba,iL w.le,evL l)else none else(aa (fun go0 s=>iy n go0 w.al w.ev (bL w.bl) (iL w.ba) (iL w.le) s) n (evL l:gH))))))):=fun v14=>by
  rw[a7 n hc (by decide),Option.bind_some,Option.bind_some,il1,il2,dF,dF]
  refine oF (fun _=>hD ⟨⟨b,w.ev,w.bl,w.ba,w.le⟩,l,rfl,hb,by omega⟩) (fun _=>oF (fun _=>hD ⟨⟨w.al,b,w.bl,w.ba,w.le⟩,l,rfl,hal,by omega⟩) (fun _=>oF (fun _=>hN p8.1 (hN p8.2 (hD ⟨⟨w.al,w.ev,w.bl,w.ba.set (pk c 8).toNat b,w.le⟩,l,rfl,hal,by omega⟩)))
   (fun _=>oF (fun _=>hN p8.1 (hN p8.2 (hD ⟨⟨w.al,w.ev,w.bl,w.ba,w.le.set (pk c 8).toNat b⟩,l,rfl,hal,by omega⟩))) (fun _=>oF (fun _=>hO hdiv.1 hdiv.2 ?_) (fun _=>Or n w hal l (by omega) (by omega))))))
  obtain⟨_,e1,l',rfl⟩:=Jg n w.bl (by omega) hdiv hb hc hn
  rw[e1,Option.bind_some];exact hD ⟨⟨w.al,w.ev,l',w.ba,w.le⟩,l,rfl,hal,by omega⟩
 unfold zN;refine oF (fun h6=>?_) (fun _=>rest _)
 unfold Ar;rw[ku];refine oF (fun hp=>?_) (fun _=>rest _)
 have pc:=aY c (k:=(l.length:Int)) (by omega)
 have hlen:∀(i:Nat) (h:Ev->Ev),(l.modify i h).length<=21:=fun i h=>by rw[List.length_modify];omega
 have fin:∀(i:Nat) (g:List AV->List AV) (h:Ev->Ev),(∀x,g (evR x)=evR (h x))->Ok H1 (some (w.al,w.ev,bL w.bl,iL w.ba,iL w.le,List.modify (evL l) i g)):=fun i g h hf=>by
  rw[Rt l i g h hf];exact hD ⟨w,_,rfl,hal,hlen i h⟩
 rw[a7 n hc (by omega),Option.bind_some]
 refine hN pc.1 (hN pc.2 ?_)
 refine oF (fun _=>fin _ _ (fun e=>⟨b,e.at_,e.a,e.b,e.c,e.f,e.t,e.m⟩) fun _=>rfl) (fun _=>oF (fun _=>fin _ _ (fun e=>⟨e.k,b,e.a,e.b,e.c,e.f,e.t,e.m⟩) fun _=>rfl) (fun _=>oF (fun _=>fin _ _ (fun e=>⟨e.k,e.at_,b,e.b,e.c,e.f,e.t,e.m⟩) fun _=>rfl)
  (fun _=>oF (fun _=>fin _ _ (fun e=>⟨e.k,e.at_,e.a,b,e.c,e.f,e.t,e.m⟩) fun _=>rfl) (fun _=>oF (fun _=>fin _ _ (fun e=>⟨e.k,e.at_,e.a,e.b,b,e.f,e.t,e.m⟩) fun _=>rfl) (fun _=>oF (fun _=>fin _ _ (fun e=>⟨e.k,e.at_,e.a,e.b,e.c,e.f,e.t,b⟩) fun _=>rfl)
   (fun _=>fin _ _ (fun e=>⟨e.k,e.at_,e.a,e.b,e.c,e.f,b,e.m⟩) fun _=>rfl))))))
end Go.Proofs.YtgckmifmjiklmaaGreat
namespace Go.Proofs.YtgckmifmjiklmaaGreat
open Go Go.Sx Go.Dial.Clm Go.Dial.Lif Go.Dial.Chn
def hK(o:Lv)(a w:Int){α:Type}(k:Lv->Option α):Option α:=
 bif(-9223372036854775808<=((o.length:Int)-1))&&(((o.length:Int)-1)<=9223372036854775807)then bif 0<=((o.length:Int)-1) then bif ((o.length:Int)-1)<(o.length:Int) then(bif (cI o ((o.length:Int)-1) 1)=a then bif ((o.length:Int)-1)<=(o.length:Int) then bif(-9223372036854775808<=(((o.length:Int)-1)-1))&&((((o.length:Int)-1)-1)<=9223372036854775807)then(bif (((o.length:Int)-1)-1)<0 then bif ((((List.take (((o.length:Int)-1)).toNat o).length:Int)+1)*24)<=140737488355328 then k ((List.take (((o.length:Int)-1)).toNat o)++[[(AV.int w),(AV.int a),(AV.int 0)]])else none else bif 0<=(((o.length:Int)-1)-1) then bif (((o.length:Int)-1)-1)<((List.take (((o.length:Int)-1)).toNat o).length:Int) then(bif !((cI (List.take (((o.length:Int)-1)).toNat o) (((o.length:Int)-1)-1) 0)=w)then bif ((((List.take (((o.length:Int)-1)).toNat o).length:Int)+1)*24)<=140737488355328 then k ((List.take (((o.length:Int)-1)).toNat o)++[[(AV.int w),(AV.int a),(AV.int 0)]])else none else k (List.take (((o.length:Int)-1)).toNat o))else none else none)else none else none else(bif ((o.length:Int)-1)<0 then bif (((o.length:Int)+1)*24)<=140737488355328 then k ((List.modify o (((o.length:Int)-1)).toNat (fun r=>r.set 2 (AV.int a)))++[[(AV.int w),(AV.int a),(AV.int 0)]])else none else(bif !((cI (List.modify o (((o.length:Int)-1)).toNat (fun r=>r.set 2 (AV.int a))) ((o.length:Int)-1) 0)=w)then bif (((o.length:Int)+1)*24)<=140737488355328 then k ((List.modify o (((o.length:Int)-1)).toNat (fun r=>r.set 2 (AV.int a)))++[[(AV.int w),(AV.int a),(AV.int 0)]])else none else k (List.modify o (((o.length:Int)-1)).toNat (fun r=>r.set 2 (AV.int a))))))else none else none else none
end Go.Proofs.YtgckmifmjiklmaaGreat
namespace Go.Dial.Chn
open Go.Dial.Clm Go.Dial.Lif
end Go.Dial.Chn
namespace Go.Proofs.YtgckmifmjiklmaaGreat
open Go Go.Sx Go.Dial.Clm Go.Dial.Lif Go.Dial.Chn
theorem iH(n:Nat){c k:Int}(hc:ae c)(hk:0<k):ck n c k=some (pk c k):=by
 unfold ck xI pk;unfold ae at hc;grind
def fq(N:Int)(r:Rl)(p:Pt):Prop:=p.c.n=N/\cD r p.c p.es/\p.c.a<1000/\p.es.length<=10/\∀e∈p.es,e.a<=900000
abbrev Asc(ps:List Pt):Prop:=ps.Pairwise fun p q=>p.c.a<=q.c.a
theorem RJ{α:Type}(P Q:List α)(a b:α)(f:α->α):List.modify (P++a::b::Q) P.length f=P++f a::b::Q:=by
 induction P with
 |nil=>rfl
 |cons p P ih=>simp[ih]
theorem RB{α:Type}(P Q:List α)(a b:α)(f:α->α):List.modify (P++a::b::Q) (P.length+1) f=P++a::f b::Q:=by
 induction P with
 |nil=>rfl
 |cons p P ih=>simp[ih]
theorem O6(P Q:Lv)(a b:List AV)(k:Nat):cA (P++a::b::Q) (P.length:Int) k=a.getD k (.int 0):=by simp[cA,List.getD]
theorem O2(P Q:Lv)(a b:List AV)(k:Nat):cA (P++a::b::Q) ((P.length:Int)+1) k=b.getD k (.int 0):=by
 have:((P.length:Int)+1).toNat=P.length+1:=by omega
 simp[cA,List.getD,this]
theorem PX(P Q:Lv)(y x:Pt)(k:Int)(hk:k=(P.length:Int)+1)(L:Lv)(hL:L=P++ptR y::ptR x::Q):
  (List.modify (List.modify (List.modify (List.modify (List.modify (List.modify (List.modify (List.modify (List.modify (List.modify (List.modify (List.modify (List.modify (List.modify L (k).toNat (fun r=>r.set 0 (AV.int (cI L (k-1) 0)))) (k).toNat (fun r=>r.set 1 (AV.int (cI L (k-1) 1)))) (k).toNat (fun r=>r.set 2 (AV.int (cI L (k-1) 2)))) (k).toNat (fun r=>r.set 3 (AV.int (cI L (k-1) 3)))) (k).toNat (fun r=>r.set 4 (AV.int (cI L (k-1) 4)))) (k).toNat (fun r=>r.set 5 (AV.bool (cB L (k-1) 5)))) (k).toNat (fun r=>r.set 6 (AV.sl (.cons .int (.cons .int (.cons .int .nil))) (cL L (k-1) 6)))) ((k-1)).toNat (fun r=>r.set 0 (AV.int (cI L k 0)))) ((k-1)).toNat (fun r=>r.set 1 (AV.int (cI L k 1)))) ((k-1)).toNat (fun r=>r.set 2 (AV.int (cI L k 2)))) ((k-1)).toNat (fun r=>r.set 3 (AV.int (cI L k 3)))) ((k-1)).toNat (fun r=>r.set 4 (AV.int (cI L k 4)))) ((k-1)).toNat (fun r=>r.set 5 (AV.bool (cB L k 5)))) ((k-1)).toNat (fun r=>r.set 6 (AV.sl (.cons .int (.cons .int (.cons .int .nil))) (cL L k 6))))=P++ptR x::ptR y::Q:=by
 have h1:k.toNat=P.length+1:=by omega
 have h2:k-1=(P.length:Int):=by omega
 have h3:(P.length:Int).toNat=P.length:=by omega
 have a0:∀j,cA L (k-1) j=(ptR y).getD j (.int 0):=fun j=>by rw[hL,h2];exact O6 P Q _ _ j
 have b0:∀j,cA L k j=(ptR x).getD j (.int 0):=fun j=>by rw[hL,hk];exact O2 P Q _ _ j
 simp only[cI,cB,cL,a0,b0];rw[h1,h2,h3,hL];simp only[RJ,RB];rfl
section
variable {Post:aj->Prop} (n:Nat) (go0:am->Option aj) (i:Int) (N:Int) (r:Rl)
theorem PG(hi:0<=i/\i<=100)(m:Nat)(hm:m<=10)(hn:200<n)(hgo:∀ps,(∀p∈ps,fq N r p)->Asc ps->ps.length=m->∃q,go0 (i+1,ptL ps)=some q/\Post q)(A B:List Pt)(x:Pt)(hl:(A++x::B).length=m)
  (hg:∀p∈A++x::B,fq N r p) (hs:Asc (A++B)) (hx:∀p∈B,x.c.a<=p.c.a):
  ∃q,aa (fun go1 s=>aS n go0 go1 i s.1 s.2) n (((A.length:Int),ptL (A++x::B)):am)=some q/\Post q:=by
 refine ir (fun s=>∃(A B:List Pt) (x:Pt),s=((A.length:Int),ptL (A++x::B))/\(A++x::B).length=m/\(∀p∈A++x::B,fq N r p)/\Asc (A++B)/\∀p∈B,x.c.a<=p.c.a) (fun s=>s.1.toNat) Post ?_ n _ ⟨A,B,x,rfl,hl,hg,hs,hx⟩ (by simp only[List.length_append,List.length_cons]at hl;simp only;omega)
 rintro _ go ⟨A,B,x,rfl,hl,hg,hs,hx⟩ ih;simp only
 unfold aS;have e4:(-9223372036854775808:Int)<=i+1:=by omega
 have e5:i+1<=(9223372036854775807:Int):=by omega
 have hlen:((ptL (A++x::B)).length:Int)=(m:Int):=by rw[List.length_map,hl]
 have hAm:A.length<m:=by simp only[List.length_append,List.length_cons]at hl;omega
 rcases List.eq_nil_or_concat A with rfl|⟨A',y,rfl⟩
 ·have c0:¬(0:Int)<((([]:List Pt).length:Nat):Int):=by simp
  rw[decide_eq_false c0,cond_false,decide_eq_true e4,decide_eq_true e5,Bool.and_self,cond_true];exact hgo _ hg (List.pairwise_cons.2 ⟨fun p hp=>hx p hp,by simpa using hs⟩) hl
 ·rw [List.concat_eq_append]at hl hg hs hlen hAm ih⊢
  have hAl:(A'++[y]).length=A'.length+1:=by simp
  rw[hAl]at hAm ih⊢
  have c0:(0:Int)<((A'.length+1:Nat):Int):=by omega
  have c1:(0:Int)<=((A'.length+1:Nat):Int):=by omega
  have c2:((A'.length+1:Nat):Int)<((ptL (A'++[y]++x::B)).length:Int):=by rw[hlen];omega
  have c3:(-9223372036854775808:Int)<=((A'.length+1:Nat):Int)-1:=by omega
  have c4:((A'.length+1:Nat):Int)-1<=(9223372036854775807:Int):=by omega
  have c5:(0:Int)<=((A'.length+1:Nat):Int)-1:=by omega
  have c6:((A'.length+1:Nat):Int)-1<((ptL (A'++[y]++x::B)).length:Int):=by rw[hlen];omega
  have hL:ptL (A'++[y]++x::B)=ptL A'++ptR y::ptR x::ptL B:=by simp
  have hk:((A'.length+1:Nat):Int)=((ptL A').length:Int)+1:=by rw[List.length_map];omega
  have g1:cI (ptL (A'++[y]++x::B)) ((A'.length+1:Nat):Int) 4=x.c.a:=by rw[hL,hk];simp only[cI,O2];rfl
  have g2:cI (ptL (A'++[y]++x::B)) (((A'.length+1:Nat):Int)-1) 4=y.c.a:=by rw[hL,hk,Int.add_sub_cancel];simp only[cI,O6];rfl
  rw[decide_eq_true c0,cond_true,decide_eq_true c1,cond_true,decide_eq_true c2,cond_true,decide_eq_true c3,decide_eq_true c4,Bool.and_self,cond_true,decide_eq_true c5,cond_true,decide_eq_true c6,cond_true,g1,g2];by_cases hlt:x.c.a<y.c.a
  ·rw[decide_eq_true hlt,cond_true]
   have hsw:=PX (ptL A') (ptL B) y x _ hk _ hL;have hgo2:=ih (((A'.length+1:Nat):Int)-1,ptL A'++ptR x::ptR y::ptL B) ?_ ?_
   ·rw[<-hsw,g1,g2]at hgo2
    exact hgo2
   refine⟨A',y::B,x,?_,by simp only[List.length_append,List.length_cons,List.length_nil]at hl⊢;omega,fun p hp=>hg p ?_,by simpa using hs,fun p hp=>?_⟩
   ·rw[show((A'.length+1:Nat):Int)-1=(A'.length:Int) by omega]
    simp
   ·simp only[List.mem_append,List.mem_cons,List.not_mem_nil,or_false]at hp⊢
    rcases hp with h|h|h|h
    ·exact .inl (.inl h)
    ·exact .inr (.inl h)
    ·exact .inl (.inr h)
    ·exact .inr (.inr h)
   ·rcases List.mem_cons.1 hp with rfl|hp
    ·omega
    ·exact hx p hp
   ·simp only;omega
  ·rw[decide_eq_false hlt,cond_false,decide_eq_true e4,decide_eq_true e5,Bool.and_self,cond_true]
   refine hgo _ hg ?_ hl
   obtain⟨s1,s2,s3⟩:=List.pairwise_append.1 hs;refine List.pairwise_append.2 ⟨s1,List.pairwise_cons.2 ⟨hx,s2⟩,fun p hp q hq=>?_⟩
   rcases List.mem_cons.1 hq with rfl|hq
   ·rcases List.mem_append.1 hp with hp|hp
    ·have:=(List.pairwise_append.1 s1).2.2 p hp y (List.mem_singleton.2 rfl)
     omega
    ·rw[List.mem_singleton]at hp;rw[hp];omega
   ·exact s3 p hp q hq
def AT(L:Lv)(row:List AV):Option aj:=bif (((L.length:Int)+1)*72)<=140737488355328 then bif(-9223372036854775808<=(((L.length:Int)+1)-1))&&((((L.length:Int)+1)-1)<=9223372036854775807)then(aa (fun go1 s=>aS n go0 go1 i s.1 s.2) n (((((L.length:Int)+1)-1),(L++[row])):am))else none else none
theorem Ou(hi:0<=i/\i<=100)(ps:List Pt)(p:Pt)(hm:ps.length<=9)(hn:200<n)(hgo:∀qs,(∀p∈qs,fq N r p)->Asc qs->qs.length=ps.length+1->∃q,go0 (i+1,ptL qs)=some q/\Post q)(hg:∀p∈ps,fq N r p)(hs:Asc ps)(hp:fq N r p):
  ∃q,AT n go0 i (ptL ps) (ptR p)=some q/\Post q:=by
 unfold AT;have hl:((ptL ps).length:Int)=(ps.length:Int):=by rw[List.length_map]
 have e1:(((ptL ps).length:Int)+1)*72<=140737488355328:=by omega
 have e2:(-9223372036854775808:Int)<=(((ptL ps).length:Int)+1)-1:=by omega
 have e3:(((ptL ps).length:Int)+1)-1<=(9223372036854775807:Int):=by omega
 rw[decide_eq_true e1,cond_true,decide_eq_true e2,decide_eq_true e3,Bool.and_self,cond_true];have:=PG (Post:=Post) n go0 i N r hi (ps.length+1) (by omega) hn hgo ps [] p (by simp) (fun q hq=>by
  simp only[List.mem_append,List.mem_cons,List.not_mem_nil,or_false]at hq;rcases hq with h|rfl
  ·exact hg q h
  ·exact hp) (by simpa using hs) (fun q hq=>by cases hq)
 rw[show(((ptL ps).length:Int)+1)-1=(ps.length:Int) by omega]
 simpa using this
def hT(v7 L:Lv)(N F T H A:Int)(B:Bool)(E:Lv)(h:Int):Option aj:=
 (bif 0<=h then bif(-9223372036854775808<=(Int.tdiv (cI v7 i 7) 16))&&((Int.tdiv (cI v7 i 7) 16)<=9223372036854775807)then(ck n (Int.tdiv (cI v7 i 7) 16) 8).bind fun y35=>
  (bif y35<7 then AT n go0 i L [(AV.int N),(AV.int F),(AV.int T),(AV.int h),(AV.int A),(AV.bool B),(AV.sl (.cons .int (.cons .int (.cons .int .nil))) E)]
  else AT n go0 i L [(AV.int N),(AV.int F),(AV.int T),(AV.int H),(AV.int A),(AV.bool B),(AV.sl (.cons .int (.cons .int (.cons .int .nil))) E)])else none else AT n go0 i L [(AV.int N),(AV.int F),(AV.int T),(AV.int H),(AV.int A),(AV.bool B),(AV.sl (.cons .int (.cons .int (.cons .int .nil))) E)])
def tT(v7 life L:Lv)(N F T H A:Int)(B:Bool)(E:Lv):Option aj:=
 (bif F=T then bif(-9223372036854775808<=(T+1))&&((T+1)<=9223372036854775807)then(dq n life A).bind fun y30=>
  hT n go0 i v7 L N F (Int.tmod (T+1) 8) H A B E y30.2.1 else none else(dq n life A).bind fun y30=>hT n go0 i v7 L N F T H A B E y30.2.1)
theorem QJ(hi:0<=i/\i<=100)(v7:Lv)(h7:ae (cI v7 i 7))(life:List Ev)(hL:fu life)(ps:List Pt)(C:Cl)(es:List Ce)(F:Int)(hm:ps.length<=9)(hn:200<n)(hln:life.length<n)
  (hgo:∀qs,(∀p∈qs,fq N r p)->Asc qs->qs.length=ps.length+1->∃q,go0 (i+1,ptL qs)=some q/\Post q) (hg:∀p∈ps,fq N r p) (hs:Asc ps)
  (hF:0<=F/\F<=7) (hN:0<=N/\N<=99999999) (hC:cD r C es) (hCa:C.a<1000) (hes:es.length<=10) (hea:∀e∈es,e.a<=900000):
  ∃q,tT n go0 i v7 (lfL life) (ptL ps) N F C.t C.h C.a C.b (ceL es)=some q/\Post q:=by
 have hCl:=hC.2.1;unfold ClV at hCl;have hv:Vld (atL life C.a):=Pk hL _
 have hAt:dq n (lfL life) C.a=some ((atL life C.a).s,(atL life C.a).h,(atL life C.a).e,(atL life C.a).t,0):=by
  have hok:nq life C.a:=⟨hL,by omega,by omega⟩
  rw[DJ n life _ hln];simp only[atT,atR,if_pos hok]
 have p7:=xz h7;have main:∀T h:Int,0<=T/\T<=7->F≠T->h<=63->∃q,hT n go0 i v7 (ptL ps) N F T C.h C.a C.b (ceL es) h=some q/\Post q:=by
  intro T h hT0 hFT hh;have mk:∀H:Int,0<=H/\H<=63->∃q,AT n go0 i (ptL ps) [(AV.int N),(AV.int F),(AV.int T),(AV.int H),(AV.int C.a),(AV.bool C.b),(AV.sl (.cons .int (.cons .int (.cons .int .nil))) (ceL es))]=some q/\Post q:=fun H hH=>
   Ou n go0 i N r hi ps ⟨⟨N,F,T,H,C.a,C.b⟩,es⟩ hm hn hgo hg hs ⟨rfl,⟨hC.1,⟨by simp only;omega,by simp only;omega,by simp only;omega,by simp only;omega,by simp only;omega,by simp only;omega,hFT,by simp only;omega,by simp only;omega,by simp only;omega,by simp only;omega⟩,hC.2.2.1,hC.2.2.2⟩,hCa,hes,hea⟩
  unfold hT;by_cases h0:0<=h
  ·rw[decide_eq_true h0,cond_true,decide_eq_true p7.1,decide_eq_true p7.2,Bool.and_self,cond_true,iH n p7 (show(0:Int)<8 by decide),Option.bind_some]
   by_cases h1:pk (Int.tdiv (cI v7 i 7) 16) 8<7
   ·rw[decide_eq_true h1,cond_true];exact mk h ⟨h0,hh⟩
   ·rw[decide_eq_false h1,cond_false];exact mk C.h (by omega)
  ·rw[decide_eq_false h0,cond_false];exact mk C.h (by omega)
 have hh:(atL life C.a).h<=63:=by unfold Vld at hv;omega
 unfold tT;by_cases h0:F=C.t
 ·have e1:(-9223372036854775808:Int)<=C.t+1:=by omega
  have e2:C.t+1<=(9223372036854775807:Int):=by omega
  rw[decide_eq_true h0,cond_true,decide_eq_true e1,decide_eq_true e2,Bool.and_self,cond_true,hAt,Option.bind_some];have ht:Int.tmod (C.t+1) 8=(C.t+1) % 8:=Int.tmod_eq_emod_of_nonneg (by omega)
  exact main _ _ (by rw[ht];omega) (by rw[ht];omega) hh
 ·rw[decide_eq_false h0,cond_false,hAt,Option.bind_some]
  exact main _ _ (by omega) h0 hh
end
abbrev PtN:=(Int×Int×Int×Int×Int×Int)×List (Int×Int×Int)×Int
abbrev pnR(y:PtN):List AV:=[.int y.1.1,.int y.1.2.1,.int y.1.2.2.1,.int y.1.2.2.2.1,.int y.1.2.2.2.2.1,.int y.1.2.2.2.2.2,.sl (.cons .int (.cons .int (.cons .int .nil))) (y.2.1.map bG),.int y.2.2]
def L6(y:PtN):Prop:=(ae y.1.1/\ae y.1.2.1/\ae y.1.2.2.1/\ae y.1.2.2.2.1/\ae y.1.2.2.2.2.1/\ae y.1.2.2.2.2.2)/\(∀x∈y.2.1,ae x.1/\ae x.2.1/\ae x.2.2)/\ae y.2.2
theorem KK{N:Int}{r:Rl}:∀ {ps:List Pt} {last:Int},(∀p∈ps,fq N r p)->Asc ps->(∀p∈ps,last<=p.c.a)->PtsV N r last ps
 |[],_,_,_,_=>trivial
 |p::ps,last,hg,hs,hl=>by
  have h1:=hg p (List.mem_cons_self ..);refine⟨⟨h1.1,h1.2.1,hl p (List.mem_cons_self ..)⟩,KK (fun q hq=>hg q (List.mem_cons_of_mem _ hq)) (List.pairwise_cons.1 hs).2 fun q hq=>(List.pairwise_cons.1 hs).1 q hq⟩
theorem J5(n:Nat)(v0 v1 v2 v3 v4 v5:Int)(xs:List (Int×Int×Int))(ys:List PtN)(h0:ae v0)(h1:ae v1)(h2:ae v2)(h3:ae v3)(h4:ae v4)(h5:ae v5)(hx:∀x∈xs,ae x.1/\ae x.2.1/\ae x.2.2)(hy:∀y∈ys,L6 y)(hn:200<n):
  ∃c:Ch,kM n v0 v1 v2 v3 v4 v5 (xs.map bG) (ys.map pnR)=some (c.n,c.f,c.r.a,c.r.c,c.r.s,c.r.r,lfL c.life,ptL c.ps)/\Go.Dial.Chn.Good c/\c.life.length<=16/\c.ps.length<=5/\∀p∈c.ps,fq c.n c.r p:=by
 obtain⟨life,hlife,hA,hl16⟩:=Ja n xs hx (by omega)
 have hL:fu life:=⟨hA,by omega⟩
 obtain⟨N,hN⟩:∃y,y=pk v0 100000000:=⟨_,rfl⟩
 obtain⟨F,hF⟩:∃y,y=pk v1 8:=⟨_,rfl⟩
 have bN:=aY v0 (k:=100000000) (by decide)
 have bF:=aY v1 (k:=8) (by decide)
 rw[<-hN]at bN;rw[<-hF]at bF;obtain⟨r,hr⟩:∃r,r=mrR v2 v3 v4 v5:=⟨_,rfl⟩
 have hrV:RlV r:=by rw[hr];exact Mj ..
 have hrS:=Gd v2 v3 v4 v5;rw[<-hr]at hrS;have hR:ea n v2 v3 v4 v5=some (r.a,r.c,r.s,r.r):=by rw[nG n v2 v3 v4 v5 h2 h3 h4 h5,hr];rfl
 have main:∃q:aj,kM n v0 v1 v2 v3 v4 v5 (xs.map bG) (ys.map pnR)=some q/\∃ps,q=(N,F,r.a,r.c,r.s,r.r,lfL life,ptL ps)/\(∀p∈ps,fq N r p)/\Asc ps/\ps.length<=5:=by
  unfold kM yT;rw[iH n h0 (show(0:Int)<100000000 by decide),Option.bind_some,iH n h1 (show(0:Int)<8 by decide),Option.bind_some,hR,Option.bind_some,hlife,Option.bind_some,<-hN,<-hF]
  refine ir (fun s=>∃(i:Nat) (ps:List Pt),s=((i:Int),ptL ps)/\i<=5/\ps.length=i/\(∀p∈ps,fq N r p)/\Asc ps) (fun s=>5-s.1.toNat) (fun q=>∃ps,q=(N,F,r.a,r.c,r.s,r.r,lfL life,ptL ps)/\(∀p∈ps,fq N r p)/\Asc ps/\ps.length<=5) ?_ n _ ⟨0,[],rfl,by omega,rfl,(fun p hp=>by cases hp),List.Pairwise.nil⟩ (by simp;omega)
  rintro _ go ⟨i,ps,rfl,hi,hl,hg,hs⟩ ih;simp only
  unfold An;have done:∃q:aj,some (N,F,r.a,r.c,r.s,r.r,lfL life,ptL ps)=some q/\∃ps,q=(N,F,r.a,r.c,r.s,r.r,lfL life,ptL ps)/\(∀p∈ps,fq N r p)/\Asc ps/\ps.length<=5:=⟨_,rfl,ps,rfl,hg,hs,by omega⟩
  by_cases g1:i<ys.length
  ·have c1:(i:Int)<((ys.map pnR).length:Int):=by rw[List.length_map];omega
   rw[decide_eq_true c1,cond_true];unfold yK;by_cases g2:i<5
   ·obtain⟨y,hye⟩:=aD g1
    obtain⟨⟨q0,q1,q2,q3,q4,q5⟩,q6,q7⟩:=hy y (List.mem_of_getElem? hye);have hcell:∀k,cA (ys.map pnR) (i:Int) k=(pnR y).getD k (.int 0):=fun k=>bv (by simpa using hye)
    have z0:cI (ys.map pnR) i 0=y.1.1:=by simp only[cI,hcell];rfl
    have z1:cI (ys.map pnR) i 1=y.1.2.1:=by simp only[cI,hcell];rfl
    have z2:cI (ys.map pnR) i 2=y.1.2.2.1:=by simp only[cI,hcell];rfl
    have z3:cI (ys.map pnR) i 3=y.1.2.2.2.1:=by simp only[cI,hcell];rfl
    have z4:cI (ys.map pnR) i 4=y.1.2.2.2.2.1:=by simp only[cI,hcell];rfl
    have z5:cI (ys.map pnR) i 5=y.1.2.2.2.2.2:=by simp only[cI,hcell];rfl
    have z6:cL (ys.map pnR) i 6=y.2.1.map bG:=by simp only[cL,hcell];rfl
    have z7:cI (ys.map pnR) i 7=y.2.2:=by simp only[cI,hcell];rfl
    obtain⟨C,es,hM,hC,hCa,hes,hea⟩:=zL n v2 v3 v4 v5 _ _ _ _ _ _ y.2.1 h2 h3 h4 h5 q0 q1 q2 q3 q4 q5 q6 hn;rw[<-hr]at hC;obtain⟨w0,hw0⟩:∃w,w=pk y.2.2 3:=⟨_,rfl⟩
    have bw:=aY y.2.2 (k:=3) (by decide)
    rw[<-hw0]at bw;have c2:(i:Int)<5:=by omega
    have c3:(0:Int)<=(i:Int):=by omega
    have hpl:((ptL ps).length:Int)=(i:Int):=by rw[List.length_map];omega
    have c4:(-9223372036854775808:Int)<=((ptL ps).length:Int)-w0:=by omega
    have c5:((ptL ps).length:Int)-w0<=(9223372036854775807:Int):=by omega
    have hgo:∀qs,(∀p∈qs,fq N r p)->Asc qs->qs.length=ps.length+1->∃q,go ((i:Int)+1,ptL qs)=some q/\∃ps,q=(N,F,r.a,r.c,r.s,r.r,lfL life,ptL ps)/\(∀p∈ps,fq N r p)/\Asc ps/\ps.length<=5:=fun qs a1 a2 a3=>
     ih _ ⟨i+1,qs,rfl,by omega,by omega,a1,a2⟩ (by simp only;omega)
    have T:∀F',0<=F'/\F'<=7->∃q,tT n go i (ys.map pnR) (lfL life) (ptL ps) N F' C.t C.h C.a C.b (ceL es)=some q/\∃ps,q=(N,F,r.a,r.c,r.s,r.r,lfL life,ptL ps)/\(∀p∈ps,fq N r p)/\Asc ps/\ps.length<=5:=fun F' hF'=>
     QJ n go i N r (by omega) (ys.map pnR) (by rw[z7];exact q7) life hL ps C es F' (by omega) hn (by omega) hgo hg hs hF' (by omega) hC hCa hes hea
    rw[decide_eq_true c2,cond_true,decide_eq_true c3,cond_true,z0,z1,z2,z3,z4,z5,z6,z7,hM,Option.bind_some,iH n q7 (show(0:Int)<3 by decide),Option.bind_some,<-hw0,decide_eq_true c4,decide_eq_true c5,Bool.and_self,cond_true,iH n q7 (show(0:Int)<16 by decide),Option.bind_some]
    simp only
    unfold yX;by_cases k1:pk y.2.2 16<15
    ·rw[decide_eq_true k1,cond_true]
     unfold zJ;by_cases k2:(0:Int)<((ptL ps).length:Int)-w0
     ·have e1:(-9223372036854775808:Int)<=((ptL ps).length:Int)-w0-1:=by omega
      have e2:((ptL ps).length:Int)-w0-1<=(9223372036854775807:Int):=by omega
      have e3:(0:Int)<=((ptL ps).length:Int)-w0-1:=by omega
      have e4:((ptL ps).length:Int)-w0-1<((ptL ps).length:Int):=by omega
      rw[decide_eq_true k2,cond_true,decide_eq_true e1,decide_eq_true e2,Bool.and_self,cond_true,decide_eq_true e3,cond_true,decide_eq_true e4,cond_true];obtain⟨k,hk⟩:∃k:Nat,((ptL ps).length:Int)-w0-1=(k:Int):=⟨(((ptL ps).length:Int)-w0-1).toNat,by omega⟩
      obtain⟨p,hp⟩:=aD (l:=ps) (i:=k) (by omega)
      obtain⟨_,_,g3,_⟩:=nS hp;have hpg:=(hg p (List.mem_of_getElem? hp)).2.1.2.1;unfold ClV at hpg;have:=T (cI (ptL ps) (((ptL ps).length:Int)-w0-1) 2) (by rw[hk,g3];omega)
      exact this
     ·rw[decide_eq_false k2,cond_false]
      exact T F (by omega)
    ·rw[decide_eq_false k1,cond_false]
     have hCl:=hC.2.1;unfold ClV at hCl;exact T C.f (by omega)
   ·have c2:¬(i:Int)<5:=by omega
    rw[decide_eq_false c2,cond_false];exact done
  ·have c1:¬(i:Int)<((ys.map pnR).length:Int):=by rw[List.length_map];omega
   rw[decide_eq_false c1,cond_false];exact done
 obtain⟨q,e,ps,rfl,hg,hs,hl⟩:=main;refine⟨⟨N,F,r,life,ps⟩,e,⟨⟨hL,by simp only;omega,by simp only;omega,by simp only;omega,by simp only;omega,by simp only;omega,KK hg hs fun p hp=>?_⟩,fun p hp=>?_⟩,hl16,hl,hg⟩
 ·have:=(hg p hp).2.1.2.1
  unfold ClV at this;omega
 ·have:=(hg p hp).2.2.1
  unfold ic;simp only
  omega
end Go.Proofs.YtgckmifmjiklmaaGreat
namespace Go.Proofs.YtgckmifmjiklmaaGreat
open Go Go.Sx
theorem Ih(m:Nat):oc (m+300)=some true:=by kernel_rfl
theorem IJ(n:Nat)(hn:300<n):oc n=some true:=by
 obtain⟨m,rfl⟩:∃m,n=m+300:=⟨n-300,by omega⟩
 exact Ih m
noncomputable section
abbrev eV:=Bool
def eU(n:Nat)(v0 v1 v2:Int)(v3 v4:Lv)(v5 v6 v7 v8 v9 v10 v11 v12 v13 v14 v15 v16 v17 v18 v19 v20:Int)(v21:Lv)(v22 v23 v24 v25 v26:Int)(v27:Bool)(v28 v29 v30 v31 v32 v33:Int)(v34 v35:Lv):Option eV:=
 (oc n ).bind fun y36=>
 (bif(!y36)then some false else(kl n v0 v1 v2 v3 ([]:Lv)).bind fun y37=>
 (kP n y37.1 y37.2.1 y37.2.2.1 y37.2.2.2.1 y37.2.2.2.2.1 v4).bind fun y43=>
 (nX n y37.1 y37.2.1 y37.2.2.1 y37.2.2.2.1 y37.2.2.2.2.1 y43 v5 v6 v7).bind fun y44=>
 (iP n v11 v12 v13 v14 v15 v16 v17 v18 v19 v20 v21).bind fun y50=>
 (bZ n v9 61).bind fun y61=>
 (kM n v28 v29 v30 v31 v32 v33 v34 v35).bind fun y62=>
 (bZ n v10 40).bind fun y70=>
 (bZ n v8 8).bind fun y71=>
 (bZ n v9 61).bind fun y72=>
 (bi n y37.1 y37.2.1 y37.2.2.1 y37.2.2.2.1 y37.2.2.2.2.1 y43 v8 v9 v10).bind fun y73=>
 (a9 n y37.1 y37.2.1 y37.2.2.1 y37.2.2.2.1 y37.2.2.2.2.1 y43 v8 v9 v10).bind fun y75=>
 (bif !(y73.1=y75.1)then some false else(bif !(y73.2=y75.2)then some false else(bi n y37.1 y37.2.1 y37.2.2.1 y37.2.2.2.1 y37.2.2.2.2.1 y43 y71 y72 v10).bind fun y77=>
 (a9 n y37.1 y37.2.1 y37.2.2.1 y37.2.2.2.1 y37.2.2.2.2.1 y43 y71 y72 v10).bind fun y79=>
 (bif !(y77.1=y79.1)then some false else(bif !(y77.2=y79.2)then some false else(cf n y37.1 y37.2.1 y37.2.2.1 y37.2.2.2.1 y37.2.2.2.2.1 y43 y61 y50.2.2.2.2.2.1 y50.2.2.2.2.2.2.1 y50.2.2.2.2.2.2.2.1 y50.2.2.2.2.2.2.2.2.1 y50.2.2.2.2.2.2.2.2.2.1 v10).bind fun y81=>
 (cT n y37.1 y37.2.1 y37.2.2.1 y37.2.2.2.1 y37.2.2.2.2.1 y43 y61 y50.2.2.2.2.2.1 y50.2.2.2.2.2.2.1 y50.2.2.2.2.2.2.2.1 y50.2.2.2.2.2.2.2.2.1 y50.2.2.2.2.2.2.2.2.2.1 v10).bind fun y88=>
 (bif(!((decide (y81.1=y88.1))&&((decide (y81.2.1=y88.2.1))&&((decide (y81.2.2.1=y88.2.2.1))&&((decide (y81.2.2.2.1=y88.2.2.2.1))&&((decide (y81.2.2.2.2.1=y88.2.2.2.2.1))&&(y81.2.2.2.2.2.1==y88.2.2.2.2.2.1)))))))then some false else(bif(!(y81.2.2.2.2.2.2==y88.2.2.2.2.2.2))then some false else(cf n y37.1 y37.2.1 y37.2.2.1 y37.2.2.2.1 y37.2.2.2.2.1 y43 v22 v23 v24 v25 v26 v27 v10).bind fun y95=>
 (cT n y37.1 y37.2.1 y37.2.2.1 y37.2.2.2.1 y37.2.2.2.2.1 y43 v22 v23 v24 v25 v26 v27 v10).bind fun y102=>
 (bif(!((decide (y95.1=y102.1))&&((decide (y95.2.1=y102.2.1))&&((decide (y95.2.2.1=y102.2.2.1))&&((decide (y95.2.2.2.1=y102.2.2.2.1))&&((decide (y95.2.2.2.2.1=y102.2.2.2.2.1))&&(y95.2.2.2.2.2.1==y102.2.2.2.2.2.1)))))))then some false else(bif(!(y95.2.2.2.2.2.2==y102.2.2.2.2.2.2))then some false else(gu n y37.1 y37.2.1 y37.2.2.1 y37.2.2.2.1 y37.2.2.2.2.1 y43 y62.1 y62.2.1 y62.2.2.1 y62.2.2.2.1 y62.2.2.2.2.1 y62.2.2.2.2.2.1 y62.2.2.2.2.2.2.1 y62.2.2.2.2.2.2.2 v10).bind fun y109=>
 (gq n y37.1 y37.2.1 y37.2.2.1 y37.2.2.2.1 y37.2.2.2.2.1 y43 y62.1 y62.2.1 y62.2.2.1 y62.2.2.2.1 y62.2.2.2.2.1 y62.2.2.2.2.2.1 y62.2.2.2.2.2.2.1 y62.2.2.2.2.2.2.2 v10).bind fun y111=>
 (bif !(y109.1=y111.1)then some false else(bif !(y109.2=y111.2)then some false else(bZ n v8 8).bind fun y113=>
 (bZ n v9 61).bind fun y114=>
 (bi n y37.1 y37.2.1 y37.2.2.1 y37.2.2.2.1 y37.2.2.2.2.1 y43 v8 v9 y70).bind fun y115=>
 (a9 n y37.1 y37.2.1 y37.2.2.1 y37.2.2.2.1 y37.2.2.2.2.1 y43 v8 v9 y70).bind fun y117=>
 (bif !(y115.1=y117.1)then some false else(bif !(y115.2=y117.2)then some false else(bi n y37.1 y37.2.1 y37.2.2.1 y37.2.2.2.1 y37.2.2.2.2.1 y43 y113 y114 y70).bind fun y119=>
 (a9 n y37.1 y37.2.1 y37.2.2.1 y37.2.2.2.1 y37.2.2.2.2.1 y43 y113 y114 y70).bind fun y121=>
 (bif !(y119.1=y121.1)then some false else(bif !(y119.2=y121.2)then some false else(cf n y37.1 y37.2.1 y37.2.2.1 y37.2.2.2.1 y37.2.2.2.2.1 y43 y61 y50.2.2.2.2.2.1 y50.2.2.2.2.2.2.1 y50.2.2.2.2.2.2.2.1 y50.2.2.2.2.2.2.2.2.1 y50.2.2.2.2.2.2.2.2.2.1 y70).bind fun y123=>
 (cT n y37.1 y37.2.1 y37.2.2.1 y37.2.2.2.1 y37.2.2.2.2.1 y43 y61 y50.2.2.2.2.2.1 y50.2.2.2.2.2.2.1 y50.2.2.2.2.2.2.2.1 y50.2.2.2.2.2.2.2.2.1 y50.2.2.2.2.2.2.2.2.2.1 y70).bind fun y130=>
 (bif(!((decide (y123.1=y130.1))&&((decide (y123.2.1=y130.2.1))&&((decide (y123.2.2.1=y130.2.2.1))&&((decide (y123.2.2.2.1=y130.2.2.2.1))&&((decide (y123.2.2.2.2.1=y130.2.2.2.2.1))&&(y123.2.2.2.2.2.1==y130.2.2.2.2.2.1)))))))then some false else(bif(!(y123.2.2.2.2.2.2==y130.2.2.2.2.2.2))then some false else(cf n y37.1 y37.2.1 y37.2.2.1 y37.2.2.2.1 y37.2.2.2.2.1 y43 v22 v23 v24 v25 v26 v27 y70).bind fun y137=>
 (cT n y37.1 y37.2.1 y37.2.2.1 y37.2.2.2.1 y37.2.2.2.2.1 y43 v22 v23 v24 v25 v26 v27 y70).bind fun y144=>
 (bif(!((decide (y137.1=y144.1))&&((decide (y137.2.1=y144.2.1))&&((decide (y137.2.2.1=y144.2.2.1))&&((decide (y137.2.2.2.1=y144.2.2.2.1))&&((decide (y137.2.2.2.2.1=y144.2.2.2.2.1))&&(y137.2.2.2.2.2.1==y144.2.2.2.2.2.1)))))))then some false else(bif(!(y137.2.2.2.2.2.2==y144.2.2.2.2.2.2))then some false else(gu n y37.1 y37.2.1 y37.2.2.1 y37.2.2.2.1 y37.2.2.2.2.1 y43 y62.1 y62.2.1 y62.2.2.1 y62.2.2.2.1 y62.2.2.2.2.1 y62.2.2.2.2.2.1 y62.2.2.2.2.2.2.1 y62.2.2.2.2.2.2.2 y70).bind fun y151=>
 (gq n y37.1 y37.2.1 y37.2.2.1 y37.2.2.2.1 y37.2.2.2.2.1 y43 y62.1 y62.2.1 y62.2.2.1 y62.2.2.2.1 y62.2.2.2.2.1 y62.2.2.2.2.2.1 y62.2.2.2.2.2.2.1 y62.2.2.2.2.2.2.2 y70).bind fun y153=>
 (bif !(y151.1=y153.1)then some false else(bif !(y151.2=y153.2)then some false else(bZ n v10 40).bind fun y155=>
 (bZ n v8 8).bind fun y156=>
 (bZ n v9 61).bind fun y157=>
 (bi n y44.1 y44.2.1 y44.2.2.1 y44.2.2.2.1 y44.2.2.2.2.1 y44.2.2.2.2.2 v8 v9 v10).bind fun y158=>
 (a9 n y44.1 y44.2.1 y44.2.2.1 y44.2.2.2.1 y44.2.2.2.2.1 y44.2.2.2.2.2 v8 v9 v10).bind fun y160=>
 (bif !(y158.1=y160.1)then some false else(bif !(y158.2=y160.2)then some false else(bi n y44.1 y44.2.1 y44.2.2.1 y44.2.2.2.1 y44.2.2.2.2.1 y44.2.2.2.2.2 y156 y157 v10).bind fun y162=>
 (a9 n y44.1 y44.2.1 y44.2.2.1 y44.2.2.2.1 y44.2.2.2.2.1 y44.2.2.2.2.2 y156 y157 v10).bind fun y164=>
 (bif !(y162.1=y164.1)then some false else(bif !(y162.2=y164.2)then some false else(cf n y44.1 y44.2.1 y44.2.2.1 y44.2.2.2.1 y44.2.2.2.2.1 y44.2.2.2.2.2 y61 y50.2.2.2.2.2.1 y50.2.2.2.2.2.2.1 y50.2.2.2.2.2.2.2.1 y50.2.2.2.2.2.2.2.2.1 y50.2.2.2.2.2.2.2.2.2.1 v10).bind fun y166=>
 (cT n y44.1 y44.2.1 y44.2.2.1 y44.2.2.2.1 y44.2.2.2.2.1 y44.2.2.2.2.2 y61 y50.2.2.2.2.2.1 y50.2.2.2.2.2.2.1 y50.2.2.2.2.2.2.2.1 y50.2.2.2.2.2.2.2.2.1 y50.2.2.2.2.2.2.2.2.2.1 v10).bind fun y173=>
 (bif(!((decide (y166.1=y173.1))&&((decide (y166.2.1=y173.2.1))&&((decide (y166.2.2.1=y173.2.2.1))&&((decide (y166.2.2.2.1=y173.2.2.2.1))&&((decide (y166.2.2.2.2.1=y173.2.2.2.2.1))&&(y166.2.2.2.2.2.1==y173.2.2.2.2.2.1)))))))then some false else(bif(!(y166.2.2.2.2.2.2==y173.2.2.2.2.2.2))then some false else(cf n y44.1 y44.2.1 y44.2.2.1 y44.2.2.2.1 y44.2.2.2.2.1 y44.2.2.2.2.2 v22 v23 v24 v25 v26 v27 v10).bind fun y180=>
 (cT n y44.1 y44.2.1 y44.2.2.1 y44.2.2.2.1 y44.2.2.2.2.1 y44.2.2.2.2.2 v22 v23 v24 v25 v26 v27 v10).bind fun y187=>
 (bif(!((decide (y180.1=y187.1))&&((decide (y180.2.1=y187.2.1))&&((decide (y180.2.2.1=y187.2.2.1))&&((decide (y180.2.2.2.1=y187.2.2.2.1))&&((decide (y180.2.2.2.2.1=y187.2.2.2.2.1))&&(y180.2.2.2.2.2.1==y187.2.2.2.2.2.1)))))))then some false else(bif(!(y180.2.2.2.2.2.2==y187.2.2.2.2.2.2))then some false else(gu n y44.1 y44.2.1 y44.2.2.1 y44.2.2.2.1 y44.2.2.2.2.1 y44.2.2.2.2.2 y62.1 y62.2.1 y62.2.2.1 y62.2.2.2.1 y62.2.2.2.2.1 y62.2.2.2.2.2.1 y62.2.2.2.2.2.2.1 y62.2.2.2.2.2.2.2 v10).bind fun y194=>
 (gq n y44.1 y44.2.1 y44.2.2.1 y44.2.2.2.1 y44.2.2.2.2.1 y44.2.2.2.2.2 y62.1 y62.2.1 y62.2.2.1 y62.2.2.2.1 y62.2.2.2.2.1 y62.2.2.2.2.2.1 y62.2.2.2.2.2.2.1 y62.2.2.2.2.2.2.2 v10).bind fun y196=>
 (bif !(y194.1=y196.1)then some false else(bif !(y194.2=y196.2)then some false else(bZ n v8 8).bind fun y198=>
 (bZ n v9 61).bind fun y199=>
 (bi n y44.1 y44.2.1 y44.2.2.1 y44.2.2.2.1 y44.2.2.2.2.1 y44.2.2.2.2.2 v8 v9 y155).bind fun y200=>
 (a9 n y44.1 y44.2.1 y44.2.2.1 y44.2.2.2.1 y44.2.2.2.2.1 y44.2.2.2.2.2 v8 v9 y155).bind fun y202=>
 (bif !(y200.1=y202.1)then some false else(bif !(y200.2=y202.2)then some false else(bi n y44.1 y44.2.1 y44.2.2.1 y44.2.2.2.1 y44.2.2.2.2.1 y44.2.2.2.2.2 y198 y199 y155).bind fun y204=>
 (a9 n y44.1 y44.2.1 y44.2.2.1 y44.2.2.2.1 y44.2.2.2.2.1 y44.2.2.2.2.2 y198 y199 y155).bind fun y206=>
 (bif !(y204.1=y206.1)then some false else(bif !(y204.2=y206.2)then some false else(cf n y44.1 y44.2.1 y44.2.2.1 y44.2.2.2.1 y44.2.2.2.2.1 y44.2.2.2.2.2 y61 y50.2.2.2.2.2.1 y50.2.2.2.2.2.2.1 y50.2.2.2.2.2.2.2.1 y50.2.2.2.2.2.2.2.2.1 y50.2.2.2.2.2.2.2.2.2.1 y155).bind fun y208=>
 (cT n y44.1 y44.2.1 y44.2.2.1 y44.2.2.2.1 y44.2.2.2.2.1 y44.2.2.2.2.2 y61 y50.2.2.2.2.2.1 y50.2.2.2.2.2.2.1 y50.2.2.2.2.2.2.2.1 y50.2.2.2.2.2.2.2.2.1 y50.2.2.2.2.2.2.2.2.2.1 y155).bind fun y215=>
 (bif(!((decide (y208.1=y215.1))&&((decide (y208.2.1=y215.2.1))&&((decide (y208.2.2.1=y215.2.2.1))&&((decide (y208.2.2.2.1=y215.2.2.2.1))&&((decide (y208.2.2.2.2.1=y215.2.2.2.2.1))&&(y208.2.2.2.2.2.1==y215.2.2.2.2.2.1)))))))then some false else(bif(!(y208.2.2.2.2.2.2==y215.2.2.2.2.2.2))then some false else(cf n y44.1 y44.2.1 y44.2.2.1 y44.2.2.2.1 y44.2.2.2.2.1 y44.2.2.2.2.2 v22 v23 v24 v25 v26 v27 y155).bind fun y222=>
 (cT n y44.1 y44.2.1 y44.2.2.1 y44.2.2.2.1 y44.2.2.2.2.1 y44.2.2.2.2.2 v22 v23 v24 v25 v26 v27 y155).bind fun y229=>
 (bif(!((decide (y222.1=y229.1))&&((decide (y222.2.1=y229.2.1))&&((decide (y222.2.2.1=y229.2.2.1))&&((decide (y222.2.2.2.1=y229.2.2.2.1))&&((decide (y222.2.2.2.2.1=y229.2.2.2.2.1))&&(y222.2.2.2.2.2.1==y229.2.2.2.2.2.1)))))))then some false else(bif(!(y222.2.2.2.2.2.2==y229.2.2.2.2.2.2))then some false else(gu n y44.1 y44.2.1 y44.2.2.1 y44.2.2.2.1 y44.2.2.2.2.1 y44.2.2.2.2.2 y62.1 y62.2.1 y62.2.2.1 y62.2.2.2.1 y62.2.2.2.2.1 y62.2.2.2.2.2.1 y62.2.2.2.2.2.2.1 y62.2.2.2.2.2.2.2 y155).bind fun y236=>
 (gq n y44.1 y44.2.1 y44.2.2.1 y44.2.2.2.1 y44.2.2.2.2.1 y44.2.2.2.2.2 y62.1 y62.2.1 y62.2.2.1 y62.2.2.2.1 y62.2.2.2.2.1 y62.2.2.2.2.2.1 y62.2.2.2.2.2.2.1 y62.2.2.2.2.2.2.2 y155).bind fun y238=>
 (bif !(y236.1=y238.1)then some false else(bif !(y236.2=y238.2)then some false else some y36)))))))))))))))))))))))))))))))))))))))))
def dv(n:Nat)(v0 v1 v2:Int)(v3 v4:Lv)(v5 v6 v7 v8 v9 v10 v11 v12 v13 v14 v15 v16 v17 v18 v19 v20:Int)(v21:Lv)(v22 v23 v24 v25 v26:Int)(v27:Bool)(v28 v29 v30 v31 v32 v33:Int)(v34 v35:Lv):Option eV:=eU n v0 v1 v2 v3 v4 v5 v6 v7 v8 v9 v10 v11 v12 v13 v14 v15 v16 v17 v18 v19 v20 v21 v22 v23 v24 v25 v26 v27 v28 v29 v30 v31 v32 v33 v34 v35
def law42_MergeGoesMatchReference_t:FnT:=⟨[(true,[.int,.int,.int]),(false,[tSc]),(false,[tSg]),(true,[.int,.int,.int]),(false,[.int]),(false,[.int]),(false,[.int]),(true,[.int,.int,.int,.int,.int,.int,.int,.int,.int,.int,tSc]),(true,[.int,.int,.int,.int,.int,.bool]),(true,[.int,.int,.int,.int,.int,.int,tSc,(.sl (.cons .int (.cons .int (.cons .int (.cons .int (.cons .int (.cons .int (.cons tSc (.cons .int .nil)))))))))])],.b,fun n (s:Int×Int×Int×Lv×Lv×Int×Int×Int×Int×Int×Int×Int×Int×Int×Int×Int×Int×Int×Int×Int×Int×Lv×Int×Int×Int×Int×Int×Bool×Int×Int×Int×Int×Int×Int×Lv×Lv)=>dv n s.1 s.2.1 s.2.2.1 s.2.2.2.1 s.2.2.2.2.1 s.2.2.2.2.2.1 s.2.2.2.2.2.2.1 s.2.2.2.2.2.2.2.1 s.2.2.2.2.2.2.2.2.1 s.2.2.2.2.2.2.2.2.2.1 s.2.2.2.2.2.2.2.2.2.2.1 s.2.2.2.2.2.2.2.2.2.2.2.1 s.2.2.2.2.2.2.2.2.2.2.2.2.1 s.2.2.2.2.2.2.2.2.2.2.2.2.2.1 s.2.2.2.2.2.2.2.2.2.2.2.2.2.2.1 s.2.2.2.2.2.2.2.2.2.2.2.2.2.2.2.1 s.2.2.2.2.2.2.2.2.2.2.2.2.2.2.2.2.1 s.2.2.2.2.2.2.2.2.2.2.2.2.2.2.2.2.2.1 s.2.2.2.2.2.2.2.2.2.2.2.2.2.2.2.2.2.2.1 s.2.2.2.2.2.2.2.2.2.2.2.2.2.2.2.2.2.2.2.1 s.2.2.2.2.2.2.2.2.2.2.2.2.2.2.2.2.2.2.2.2.1 s.2.2.2.2.2.2.2.2.2.2.2.2.2.2.2.2.2.2.2.2.2.1 s.2.2.2.2.2.2.2.2.2.2.2.2.2.2.2.2.2.2.2.2.2.2.1 s.2.2.2.2.2.2.2.2.2.2.2.2.2.2.2.2.2.2.2.2.2.2.2.1 s.2.2.2.2.2.2.2.2.2.2.2.2.2.2.2.2.2.2.2.2.2.2.2.2.1 s.2.2.2.2.2.2.2.2.2.2.2.2.2.2.2.2.2.2.2.2.2.2.2.2.2.1 s.2.2.2.2.2.2.2.2.2.2.2.2.2.2.2.2.2.2.2.2.2.2.2.2.2.2.1 s.2.2.2.2.2.2.2.2.2.2.2.2.2.2.2.2.2.2.2.2.2.2.2.2.2.2.2.1 s.2.2.2.2.2.2.2.2.2.2.2.2.2.2.2.2.2.2.2.2.2.2.2.2.2.2.2.2.1 s.2.2.2.2.2.2.2.2.2.2.2.2.2.2.2.2.2.2.2.2.2.2.2.2.2.2.2.2.2.1 s.2.2.2.2.2.2.2.2.2.2.2.2.2.2.2.2.2.2.2.2.2.2.2.2.2.2.2.2.2.2.1 s.2.2.2.2.2.2.2.2.2.2.2.2.2.2.2.2.2.2.2.2.2.2.2.2.2.2.2.2.2.2.2.1 s.2.2.2.2.2.2.2.2.2.2.2.2.2.2.2.2.2.2.2.2.2.2.2.2.2.2.2.2.2.2.2.2.1 s.2.2.2.2.2.2.2.2.2.2.2.2.2.2.2.2.2.2.2.2.2.2.2.2.2.2.2.2.2.2.2.2.2.1 s.2.2.2.2.2.2.2.2.2.2.2.2.2.2.2.2.2.2.2.2.2.2.2.2.2.2.2.2.2.2.2.2.2.2.1 s.2.2.2.2.2.2.2.2.2.2.2.2.2.2.2.2.2.2.2.2.2.2.2.2.2.2.2.2.2.2.2.2.2.2.2⟩
theorem jP:law42_MergeGoesMatchReference_t.ok Tryz.prog 9:=FnT.ok_of (cfg:=⟨[((9,11,0),.unroll 3),((9,17,0),.unroll 3),((9,20,0),.unroll 3),((9,28,0),.unroll 3)],aH,[],aG⟩) av Dl aX (fun s fn hf=>by rw[Tryz.func9]at hf;cases hf;kernel_rfl) (fun n s=>by kernel_rfl)
end
end Go.Proofs.YtgckmifmjiklmaaGreat
namespace Go.Proofs.YtgckmifmjiklmaaGreat
open Go Go.Sx Go.Dial.Blk Go.Dial.Mrg
open Go.Dial.Chn (Ch ChV aT dK)
theorem WV.a64{w:Wd}(h:WV w):ae w.al:=by
 have h0:=h.a0;have h1:=h.a1;unfold ae;omega
theorem Q9{r:List AV}(h:r.map AV.ty=[.int,.int,.int,.int,.int,.int,.sl (.cons .int (.cons .int (.cons .int .nil))),.int])(hok:∀x∈r,AVok x):∃y:PtN,r=pnR y/\L6 y:=by
 obtain⟨a,b,c,d,e,f,g,i,rfl⟩:=Q7 (l:=r) (by have:=congrArg List.length h;simpa using this)
 simp only[List.map_cons,List.map_nil,List.cons.injEq,and_true]at h;obtain⟨k0,k1,k2,k3,k4,k5,k6,k7⟩:=h;obtain⟨a,rfl,h1⟩:=(hok a (by simp)).i k0
 obtain⟨b,rfl,h2⟩:=(hok b (by simp)).i k1
 obtain⟨c,rfl,h3⟩:=(hok c (by simp)).i k2
 obtain⟨d,rfl,h4⟩:=(hok d (by simp)).i k3
 obtain⟨e,rfl,h5⟩:=(hok e (by simp)).i k4
 obtain⟨f,rfl,h6⟩:=(hok f (by simp)).i k5
 obtain⟨i,rfl,h8⟩:=(hok i (by simp)).i k7
 have hg:=hok g (by simp)
 obtain⟨l,rfl,_⟩:=hg.l' k6;obtain⟨xs,rfl,h7⟩:=A6 rfl hg;exact⟨((a,b,c,d,e,f),xs,i),rfl,⟨h1,h2,h3,h4,h5,h6⟩,h7,h8⟩
theorem Qe{l:Lv}{t:Ty}(ht:t.list=[.int,.int,.int,.int,.int,.int,.sl (.cons .int (.cons .int (.cons .int .nil))),.int])(h:AVok (.sl t l)):∃ys:List PtN,l=ys.map pnR/\∀y∈ys,L6 y:=by
 cases h with
 |sl _ _ _ hty hr=>exact AI fun r hm=>Q9 (by rw[hty r hm,ht]) (hr r hm)
theorem j9(n:Nat){v0 v1 v2:Int}(h0:ae v0)(h1:ae v1)(h2:ae v2)(xs:List (Int×Int×Int))(hx:∀x∈xs,ae x.1/\ae x.2.1/\ae x.2.2)(zs:List Sev)(hz:∀x∈zs,H8 x)
  {v5 v6 v7 v8 v9 v10:Int} (h5:ae v5) (h6:ae v6) (h7:ae v7) (h8:ae v8) (h9:ae v9) (h10:ae v10)
  {v11 v12 v13 v14 v15 v16 v17 v18 v19 v20:Int} (h11:ae v11) (h12:ae v12) (h13:ae v13) (h14:ae v14) (h15:ae v15) (h16:ae v16) (h17:ae v17) (h18:ae v18) (h19:ae v19) (h20:ae v20) (ys:List (Int×Int×Int)) (hy:∀x∈ys,ae x.1/\ae x.2.1/\ae x.2.2)
  (v22 v23 v24 v25 v26:Int) (v27:Bool)
  {v28 v29 v30 v31 v32 v33:Int} (h28:ae v28) (h29:ae v29) (h30:ae v30) (h31:ae v31) (h32:ae v32) (h33:ae v33) (ls:List (Int×Int×Int)) (hls:∀x∈ls,ae x.1/\ae x.2.1/\ae x.2.2) (ps:List PtN) (hps:∀y∈ps,L6 y)
  (hn:100000001<n):
  dv n v0 v1 v2 (xs.map bG) (zs.map lK) v5 v6 v7 v8 v9 v10 v11 v12 v13 v14 v15 v16 v17 v18 v19 v20 (ys.map bG) v22 v23 v24 v25 v26 v27 v28 v29 v30 v31 v32 v33 (ls.map bG) (ps.map pnR)=some true:=by
 unfold dv eU;rw[IJ n (by omega),Option.bind_some]
 rw[Bool.not_true,cond_false];obtain⟨_,e1,w,ds,rfl,hw,-⟩:=Jr n h0 h1 h2 xs [] hx (fun x h=>by simp at h) (by omega)
 have e1':kl n v0 v1 v2 (xs.map bG) ([]:Lv)=_:=e1
 rw[e1',Option.bind_some];dsimp only;have hv:=hw.v;obtain⟨_,e2,l,rfl,hE⟩:=EM n w hv zs hz (by omega)
 have hl8:=hE.few;obtain⟨_,e3,u,m,rfl,hu,hm⟩:=I8 n w hv l hl8 h5 h6 h7 (by omega)
 obtain⟨C,es,e4,-⟩:=zL n v11 v12 v13 v14 v15 v16 v17 v18 v19 v20 ys h11 h12 h13 h14 h15 h16 h17 h18 h19 h20 hy (by omega)
 obtain⟨c,e5,-,hl16,-⟩:=J5 n v28 v29 v30 v31 v32 v33 ls ps h28 h29 h30 h31 h32 h33 hls hps (by omega)
 have hc:c.life.length<n:=by omega
 have p1:=kL n h9 (k:=61) (by decide)
 have p2:=kL n h10 (k:=40) (by decide)
 have p3:=kL n h8 (k:=8) (by decide)
 rw[e2,Option.bind_some,e3,Option.bind_some,e4,Option.bind_some,p1,Option.bind_some,e5,Option.bind_some,p2,Option.bind_some,p3,Option.bind_some,Option.bind_some];have hw64:=WV.a64 hv;have a1:=fun a k t=>jj n w hw64 l (by omega) a k t hn
 have a2:=fun a k t=>eu n w l (by omega) a k t (by omega)
 have a3:=fun k a b x y z t=>wG n w hw64 l (by omega) k a b x y z t hn
 have a4:=fun k a b x y z t=>vD n w l (by omega) k a b x y z t (by omega)
 have a5:=fun t=>Ai n w hw64 l (by omega) c hc t hn
 have a6:=fun t=>yG n w l (by omega) c hc t hn
 have b1:=fun a k t=>jj n u hu m (by omega) a k t hn
 have b2:=fun a k t=>eu n u m (by omega) a k t (by omega)
 have b3:=fun k a b x y z t=>wG n u hu m (by omega) k a b x y z t hn
 have b4:=fun k a b x y z t=>vD n u m (by omega) k a b x y z t (by omega)
 have b5:=fun t=>Ai n u hu m (by omega) c hc t hn
 have b6:=fun t=>yG n u m (by omega) c hc t hn
 have same:∀(P:Prop) [Decidable P] (x:Option Bool),P->(bif(!(decide P))then some false else x)=x:=fun P _ x h=>by rw[decide_eq_true h];rfl
 have sameB:∀(b:Bool) (x:Option Bool),(bif(!(b==b))then some false else x)=x:=fun b x=>by cases b<;>rfl
 simp only[a1,a2,a3,a4,a5,a6,b1,b2,b3,b4,b5,b6,p1,p2,p3,Option.bind_some,decide_true,Bool.not_true,Bool.and_self,beq_self_eq_true,cond_false]
theorem jq:∀s:bm (Ps.tys law42_MergeGoesMatchReference_t.ps),O3 (Ps.tys law42_MergeGoesMatchReference_t.ps) s->∃n z,law42_MergeGoesMatchReference_t.fn n s=some z/\pw law42_MergeGoesMatchReference_t.sh z=.b true:=by
 rintro ⟨v0,v1,v2,v3,v4,v5,v6,v7,v8,v9,v10,v11,v12,v13,v14,v15,v16,v17,v18,v19,v20,v21,v22,v23,v24,v25,v26,v27,v28,v29,v30,v31,v32,v33,v34,v35⟩ hs;have h:∀x∈[AV.int v0,.int v1,.int v2,.sl (.cons .int (.cons .int (.cons .int .nil))) v3,.sl (.cons .int (.cons .int (.cons .int (.cons .int (.cons .int (.cons .int (.cons .int .nil))))))) v4,.int v5,.int v6,.int v7,.int v8,.int v9,.int v10,.int v11,.int v12,.int v13,.int v14,.int v15,.int v16,.int v17,.int v18,.int v19,.int v20,.sl (.cons .int (.cons .int (.cons .int .nil))) v21,.int v22,.int v23,.int v24,.int v25,.int v26,.bool v27,.int v28,.int v29,.int v30,.int v31,.int v32,.int v33,.sl (.cons .int (.cons .int (.cons .int .nil))) v34,.sl (.cons .int (.cons .int (.cons .int (.cons .int (.cons .int (.cons .int (.cons (.sl (.cons .int (.cons .int (.cons .int .nil)))) (.cons .int .nil)))))))) v35],AVok x:=hs
 obtain⟨xs,rfl,hx⟩:=A6 (t:=.cons .int (.cons .int (.cons .int .nil))) rfl (h (.sl (.cons .int (.cons .int (.cons .int .nil))) v3) (by simp))
 obtain⟨ys,rfl,hy⟩:=A6 (t:=.cons .int (.cons .int (.cons .int .nil))) rfl (h (.sl (.cons .int (.cons .int (.cons .int .nil))) v21) (by simp))
 obtain⟨ls,rfl,hls⟩:=A6 (t:=.cons .int (.cons .int (.cons .int .nil))) rfl (h (.sl (.cons .int (.cons .int (.cons .int .nil))) v34) (by simp))
 obtain⟨zs,rfl,hz⟩:=PV (t:=.cons .int (.cons .int (.cons .int (.cons .int (.cons .int (.cons .int (.cons .int .nil))))))) rfl (h (.sl (.cons .int (.cons .int (.cons .int (.cons .int (.cons .int (.cons .int (.cons .int .nil))))))) v4) (by simp))
 obtain⟨ps,rfl,hps⟩:=Qe rfl (h (.sl (.cons .int (.cons .int (.cons .int (.cons .int (.cons .int (.cons .int (.cons (.sl (.cons .int (.cons .int (.cons .int .nil)))) (.cons .int .nil)))))))) v35) (by simp))
 exact⟨100000002,true,j9 100000002 (ca (h (.int v0) (by simp))) (ca (h (.int v1) (by simp))) (ca (h (.int v2) (by simp))) xs hx zs hz (ca (h (.int v5) (by simp))) (ca (h (.int v6) (by simp))) (ca (h (.int v7) (by simp))) (ca (h (.int v8) (by simp))) (ca (h (.int v9) (by simp))) (ca (h (.int v10) (by simp))) (ca (h (.int v11) (by simp))) (ca (h (.int v12) (by simp))) (ca (h (.int v13) (by simp))) (ca (h (.int v14) (by simp))) (ca (h (.int v15) (by simp))) (ca (h (.int v16) (by simp))) (ca (h (.int v17) (by simp))) (ca (h (.int v18) (by simp))) (ca (h (.int v19) (by simp))) (ca (h (.int v20) (by simp))) ys hy v22 v23 v24 v25 v26 v27 (ca (h (.int v28) (by simp))) (ca (h (.int v29) (by simp))) (ca (h (.int v30) (by simp))) (ca (h (.int v31) (by simp))) (ca (h (.int v32) (by simp))) (ca (h (.int v33) (by simp))) ls hls ps hps (by decide),rfl⟩
end Go.Proofs.YtgckmifmjiklmaaGreat
