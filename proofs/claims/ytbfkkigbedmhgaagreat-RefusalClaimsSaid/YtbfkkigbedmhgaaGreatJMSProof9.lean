/-
  Texts of this claim, joined (part JMSProof9).
-/
import Derived.Test.YtbfkkigbedmhgaaGreatJM7
set_option linter.unusedVariables false
set_option linter.unusedSimpArgs false
set_option linter.unusedSectionVars false
set_option linter.constructorNameAsVariable false
namespace Go.Dial.Chn
open Go.Dial.Clm Go.Dial.Lif
structure Pt where
 c:Cl
 es:List Ce
structure Ch where
 n:Int
 f:Int
 r:Rl
 life:List Ev
 ps:List Pt
def PtsV(n:Int)(r:Rl):Int->List Pt->Prop
 |_,[]=>True
 |last,p::ps=>(p.c.n=n/\dC r p.c p.es/\last<=p.c.a)/\PtsV n r p.c.a ps
instance PtsV.dec (n:Int) (r:Rl):(last:Int)->(ps:List Pt)->Decidable (PtsV n r last ps)
 |_,[]=>.isTrue trivial
 |last,p::ps=>by
  have:=PtsV.dec n r p.c.a ps
  unfold PtsV;infer_instance
def ChV(c:Ch):Prop:=lB c.life/\0<=c.n/\c.n<=99999999/\0<=c.f/\c.f<=7/\c.ps.length<=8/\PtsV c.n c.r 0 c.ps
instance (c:Ch):Decidable (ChV c):=by unfold ChV;infer_instance
structure Hp where
 a:Int
 p:Int
 b:Bool
deriving DecidableEq
def eF(i:Nat)(x:Cs):Option Hp:=if x.s=4\/x.s=8 then some ⟨x.f,i,decide (x.s=8)⟩else none
def qC(r:Rl):Nat->List Pt->List Hp
 |_,[]=>[]
 |i,p::ps=>(aw r p.c p.es).filterMap (eF i)++qC r (i+1) ps
def ltH(x y:Hp):Prop:=x.a<y.a\/(x.a=y.a/\x.p<y.p)
instance (x y:Hp):Decidable (ltH x y):=by unfold ltH;infer_instance
def ins(x:Hp):List Hp->List Hp
 |[]=>[x]
 |y::l=>if ltH x y then x::y::l else y::ins x l
def LC(l:List Hp):List Hp:=l.foldl (fun acc x=>ins x acc) []
theorem P3{x y:Hp}{l:List Hp}:y∈ins x l↔y=x\/y∈l:=by
 induction l with
 |nil=>simp[ins]
 | cons z l ih=>
  unfold ins;split
  ·simp
  ·simp only[List.mem_cons,ih]
   constructor
   ·rintro (h|h|h)
    ·exact .inr (.inl h)
    ·exact .inl h
    ·exact .inr (.inr h)
   ·rintro (h|h|h)
    ·exact .inr (.inl h)
    ·exact .inl h
    ·exact .inr (.inr h)
def hb(s:Int):Nat:=if 1<=s/\s<=3 then 2 else if s=4 then 1 else 0
theorem FT{b:Bool}{s:Int}{e:Ce}(h:¬bec b s e<0):(1<=s/\s<=3/\(bec b s e=2\/bec b s e=3\/bec b s e=6\/bec b s e=7))\/(s=4/\bec b s e=8):=by
 unfold bec at *
 grind
def hps(c:Ch):List Hp:=LC (qC c.r 0 c.ps)
def SE:Pt:=⟨⟨0,0,0,0,0,false⟩,[]⟩
def rx(c:Ch)(i:Int):Pt:=(c.ps[i.toNat]?).getD SE
def uo(c:Ch):List Int->Int
 |[]=>c.f
 |x::_=>(rx c x).c.t
structure Mo where
 a:Int
 p:Int
 k:Int
 G:List Int
def AW(c:Ch)(G:List Int)(h:Hp):Prop:=uo c G=(rx c h.p).c.f/\(atL c.life (min h.a 10000000)).s=1/\(atL c.life (min h.a 10000000)).h=(rx c h.p).c.h
instance (c:Ch) (G:List Int) (h:Hp):Decidable (AW c G h):=by unfold AW;infer_instance
def Lh(p:Int):List Int->List Int
 |[]=>[]
 |x::G=>if p∈x::G then Lh p G else x::G
def Oe(c:Ch)(G:List Int)(h:Hp):List Int:=if h.b=true then Lh h.p G else if AW c G h then h.p::G else G
def Pk(c:Ch)(G:List Int)(l:List Hp):List Int:=l.foldl (Oe c) G
structure Hd where
 c:Int
 f:Int
 t:Int
deriving DecidableEq
theorem BK{r:Rl}{h:Hp}:∀ {ps:List Pt} {i:Nat},h∈qC r i ps->∃k p,ps[k]?=some p/\h.p=((i+k:Nat):Int)/\∃x∈aw r p.c p.es,eF (i+k) x=some h
 |[],_,hh=>by cases hh
 | p::ps,i,hh=>by
  rcases List.mem_append.1 hh with hh|hh
  ·obtain⟨x,h1,h2⟩:=List.mem_filterMap.1 hh
   refine⟨0,p,rfl,?_,x,h1,h2⟩
   unfold eF at h2;split at h2
   ·cases h2;rfl
   ·cases h2
  ·obtain⟨k,q,h1,h2,h3⟩:=BK hh
   exact⟨k+1,q,h1,by rw[h2];congr 1;omega,by rw[show i+(k+1)=i+1+k by omega];exact h3⟩
theorem FP{x:Hp}:∀ {l acc:List Hp},x∈l.foldl (fun acc x=>ins x acc) acc↔x∈acc\/x∈l
 |[],acc=>by simp
 | y::l,acc=>by
  rw[List.foldl_cons,FP,P3,List.mem_cons];constructor
  ·rintro ((h|h)|h)
   ·exact .inr (.inl h)
   ·exact .inl h
   ·exact .inr (.inr h)
  ·rintro (h|h|h)
   ·exact .inl (.inr h)
   ·exact .inl (.inl h)
   ·exact .inr h
theorem mem_hps{c:Ch}{h:Hp}:h∈hps c↔h∈qC c.r 0 c.ps:=by
 unfold hps LC;rw[FP];simp
theorem OJ{c:Ch}{h:Hp}(hh:h∈hps c):∃(k:Nat) (p:Pt),c.ps[k]?=some p/\h.p=(k:Int)/\∃x∈aw c.r p.c p.es,eF k x=some h:=by
 obtain⟨k,p,h1,h2,h3⟩:=BK (mem_hps.1 hh);rw[Nat.zero_add]at h2 h3;exact⟨k,p,h1,h2,h3⟩
def lst(now:Cs)(l:List Cs):Cs:=l.getLast?.getD now
theorem Oc(now x:Cs)(l:List Cs):lst now (x::l)=lst x l:=by
 cases l<;>simp[lst,List.getLast?_cons]
def AO(r:Rl)(i:Nat)(now:Cs)(L:List Hp)(z:Cs):Prop:=
 (now.s<=3->(L=[]/\6<=z.s)\/(∃f,now.f<=f/\L=[⟨f,i,false⟩]/\z=⟨5,f+r.r,-1⟩)\/(∃f g,now.f<=f/\f<=g/\g<f+r.r/\L=[⟨f,i,false⟩,⟨g,i,true⟩]/\z.s=8)) ∧
 (now.s=4->(L=[]/\z=⟨5,now.f+r.r,-1⟩)\/(∃g,now.f<=g/\g<now.f+r.r/\L=[⟨g,i,true⟩]/\z.s=8)) ∧
 (5<=now.s->L=[]/\z=now)
theorem xA{r:Rl}{i:Nat}{now:Cs}{s f:Int}{l:List Cs}(h:AO r i (st r s f) (l.filterMap (eF i)) (lst (st r s f) l))(hf:now.f<=f)
  (hs:(now.s<=3/\(s=2\/s=3\/s=4\/s=6\/s=7))\/(now.s=4/\((s=5/\f=now.f+r.r)\/(s=8/\f<now.f+r.r)))):
  AO r i now ((st r s f::l).filterMap (eF i)) (lst now (st r s f::l)):=by
 rw[Oc,List.filterMap_cons];have e1:(st r s f).s=s:=rfl
 have e2:(st r s f).f=f:=rfl
 unfold AO at h⊢
 rw[e1,e2]at h;obtain⟨h1,h2,h3⟩:=h;rcases hs with⟨q,hs⟩|⟨q,hs⟩
 ·refine⟨fun _=>?_,fun h=>by omega,fun h=>by omega⟩
  rcases hs with rfl|rfl|rfl|rfl|rfl
  ·have:eF i (st r 2 f)=none:=rfl
   rw[this];simp only
   rcases h1 (by decide)with h|⟨a,b,c⟩|⟨a,b,c,d⟩
   ·exact .inl h
   ·exact .inr (.inl ⟨a,by omega,c⟩)
   ·exact .inr (.inr ⟨a,b,by omega,d⟩)
  ·have:eF i (st r 3 f)=none:=rfl
   rw[this];simp only
   rcases h1 (by decide)with h|⟨a,b,c⟩|⟨a,b,c,d⟩
   ·exact .inl h
   ·exact .inr (.inl ⟨a,by omega,c⟩)
   ·exact .inr (.inr ⟨a,b,by omega,d⟩)
  ·have:eF i (st r 4 f)=some ⟨f,i,false⟩:=rfl
   rw[this];simp only
   rcases h2 rfl with⟨h,g⟩|⟨g,a,b,c,d⟩
   ·exact .inr (.inl ⟨f,hf,by rw[h],g⟩)
   ·exact .inr (.inr ⟨f,g,hf,a,b,by rw[c],d⟩)
  ·have:eF i (st r 6 f)=none:=rfl
   rw[this];simp only
   obtain⟨h,g⟩:=h3 (by decide)
   exact .inl ⟨h,by rw[g,e1];decide⟩
  ·have:eF i (st r 7 f)=none:=rfl
   rw[this];simp only
   obtain⟨h,g⟩:=h3 (by decide)
   exact .inl ⟨h,by rw[g,e1];decide⟩
 ·refine⟨fun h=>by omega,fun _=>?_,fun h=>by omega⟩
  rcases hs with⟨rfl,hf'⟩|⟨rfl,hf'⟩
  ·have:eF i (st r 5 f)=none:=rfl
   rw[this];simp only
   obtain⟨h,g⟩:=h3 (by decide)
   exact .inl ⟨h,by rw[g,<-hf'];rfl⟩
  ·have:eF i (st r 8 f)=some ⟨f,i,true⟩:=rfl
   rw[this];simp only
   obtain⟨h,g⟩:=h3 (by decide)
   exact .inr ⟨f,hf,hf',by rw[h],by rw[g];rfl⟩
theorem O8{r:Rl}(hr:RlV r){b:Bool}{i:Nat}:∀(m:Nat) (now:Cs) (es:List Ce),5*es.length+rk now.s<=m->1<=now.s->(act now->now.n=now.f+dur r now.s)->EvV now.f es →
  AO r i now ((tl r b now es).filterMap (eF i)) (lst now (tl r b now es)):=by
 have nil:∀now:Cs,5<=now.s->AO r i now (([]:List Cs).filterMap (eF i)) (lst now []):=fun now h=>⟨fun h=>by omega,fun h=>by omega,fun _=>⟨rfl,rfl⟩⟩
 have ni:∀s f,act (st r s f)->(st r s f).n=(st r s f).f+dur r (st r s f).s:=fun s f ha=>by
  unfold act at ha;simp only[st]at ha⊢;rw[if_pos ha]
 have auto:∀now:Cs,act now->now.n=now.f+dur r now.s->(now.s<=3/\(aft now.s=2\/aft now.s=3\/aft now.s=4\/aft now.s=6\/aft now.s=7))\/(now.s=4/\((aft now.s=5/\now.n=now.f+r.r)\/(aft now.s=8/\now.n<now.f+r.r))):=by
  intro now ha hn;unfold act at ha;have:now.s=1\/now.s=2\/now.s=3\/now.s=4:=by omega
  rcases this with h|h|h|h<;>rw[h]at hn⊢<;>simp[aft,dur]at hn⊢
  exact hn
 have later:∀now:Cs,act now->now.n=now.f+dur r now.s->now.f<now.n:=fun now _ h=>by
  have:=MJ hr now.s
  omega
 have aft1:∀s,1<=s->1<=aft s:=fun s h=>by unfold aft;split;omega;split<;>omega
 intro m;induction m with
 | zero=>
  intro now es hm h1 hn hE;have he:es=[]:=by
   cases es with
   |nil=>rfl
   |cons e es=>simp at hm
  subst he;by_cases ha:act now
  ·have:=eo ha;omega
  ·rw[oY ha]
   exact nil now (by unfold act at ha;omega)
 | succ m ih=>
  intro now es hm h1 hn hE;cases es with
  | nil=>
   by_cases ha:act now
   ·rw[vP ha]
    exact xA (ih (st r (aft now.s) now.n) [] (by have:=eo ha;simp only[st];omega) (aft1 _ h1) (ni _ _) trivial) (Int.le_of_lt (later now ha (hn ha))) (auto now ha (hn ha))
   ·rw[oY ha]
    exact nil now (by unfold act at ha;omega)
  | cons e es=>
   obtain⟨hc,hE'⟩:=hE;by_cases ha:act now/\now.n<=e.a
   ·rw[qu ha]
    exact xA (ih (st r (aft now.s) now.n) (e::es) (by have:=eo ha.1;simp only[st];omega) (aft1 _ h1) (ni _ _) ⟨⟨hc.1,hc.2.1,ha.2,hc.2.2.2⟩,hE'⟩) (Int.le_of_lt (later now ha.1 (hn ha.1))) (auto now ha.1 (hn ha.1))
   ·by_cases hbb:bec b now.s e<0
    ·rw[vA ha hbb]
     exact ih now es (by simp only[List.length_cons]at hm;omega) h1 hn (O5 hE' hc.2.2.1)
    ·rw[AS ha hbb]
     have h8:=FT hbb;refine xA (ih (st r (bec b now.s e) e.a) es (by simp only[List.length_cons]at hm;have:=gF (st r (bec b now.s e) e.a).s;omega) (by simp only[st];omega) (ni _ _) hE') hc.2.2.1 ?_
     rcases h8 with⟨q1,q2,q3⟩|⟨q1,q2⟩
     ·exact .inl ⟨q2,by omega⟩
     ·have hact:act now:=⟨by omega,by omega⟩
      have:=hn hact
      have hd:dur r now.s=r.r:=by rw[q1];rfl
      refine .inr ⟨q1,.inr ⟨q2,?_⟩⟩
      have:¬now.n<=e.a:=fun h=>ha ⟨hact,h⟩
      omega
theorem Lg{r:Rl}{c:Cl}{es:List Ce}(h:dC r c es)(i:Nat):AO r i (x0 r c) ((aw r c es).filterMap (eF i)) (lst (x0 r c) (tl r c.b (x0 r c) es)):=by
 have:=O8 h.1 (b:=c.b) (i:=i) _ (x0 r c) es (Nat.le_refl _) (show(1:Int)<=1 by decide) (fun _=>by simp[x0,st,dur]) h.2.2.2
 unfold aw;rw[List.filterMap_cons];have h0:eF i (x0 r c)=none:=by unfold eF x0 st;simp
 rw[h0];exact this
theorem wV{r:Rl}{c:Cl}{es:List Ce}(h:dC r c es)(i:Nat):((aw r c es).filterMap (eF i)=[]/\6<=(lst (x0 r c) (tl r c.b (x0 r c) es)).s) ∨
 (∃f,c.a<=f/\(aw r c es).filterMap (eF i)=[⟨f,i,false⟩]/\lst (x0 r c) (tl r c.b (x0 r c) es)=⟨5,f+r.r,-1⟩) ∨
 (∃f g,c.a<=f/\f<=g/\g<f+r.r/\(aw r c es).filterMap (eF i)=[⟨f,i,false⟩,⟨g,i,true⟩]/\(lst (x0 r c) (tl r c.b (x0 r c) es)).s=8):=(Lg h i).1 (show(1:Int)<=3 by decide)
def bnd(r:Rl)(c:Cl)(s:Int):Int:=if s=1 then c.a else if s=2 then c.a+r.a-1 else if s=3 then c.a+r.a-1+r.s else if s=4 then c.a+r.a-1+r.s+r.c else fV r c
theorem G6{r:Rl}{c:Cl}{es:List Ce}(h:dC r c es):∀x∈aw r c es,x.f<=fV r c:=by
 have hr:=h.1;have hle:∀s,bnd r c s<=fV r c:=fun s=>by unfold RlV at hr;unfold bnd fV;grind
 have key:∀now:Cs,now.f<=bnd r c now.s->act now->now.n=now.f+dur r now.s->now.n<=bnd r c (aft now.s):=fun now h1 ha hn=>by
  unfold act at ha;unfold RlV at hr;have:now.s=1\/now.s=2\/now.s=3\/now.s=4:=by omega
  rcases this with h|h|h|h<;>rw[h]at hn h1⊢<;>simp[aft,dur,bnd,fV]at hn h1⊢<;>omega
 have kev:∀(b:Bool) (now:Cs) (e:Ce),now.f<=bnd r c now.s->(act now->now.n=now.f+dur r now.s)->¬(act now/\now.n<=e.a)->¬bec b now.s e<0->e.a<=bnd r c (bec b now.s e):=fun b now e h1 hn ha hb=>by
  have h8:=FT hb;have hact:act now:=by unfold act;omega
  have hn:=hn hact;have ha:e.a<now.n:=by
   rcases Int.lt_or_le e.a now.n with h|h
   ·exact h
   ·exact absurd ⟨hact,h⟩ ha
  unfold RlV at hr;rcases h8 with⟨q1,q2,q3⟩|⟨q1,q2⟩
  ·have:now.s=1\/now.s=2\/now.s=3:=by omega
   have hk:bec b now.s e=2->now.s=1:=fun hk=>by unfold bec at hk;grind
   have hk3:bec b now.s e=3->now.s<=2:=fun hk=>by unfold bec at hk;grind
   have hk6:bec b now.s e=6->now.s<=2:=fun hk=>by unfold bec at hk;grind
   rcases this with h|h|h<;>rw[h]at hn h1 hk hk3 hk6<;>simp[dur,bnd]at hn h1<;>rcases q3 with q|q|q|q<;>rw[h]at q<;>rw[h,q]<;>simp[bnd,fV]<;>grind
  ·rw[q2];rw[q1]at hn h1
   simp[dur,bnd,fV]at hn h1⊢
   omega
 intro x hx;unfold aw at hx;rcases List.mem_cons.1 hx with rfl|hx
 ·have:=hle 1
  simpa[bnd,x0,st]using this
 ·refine yA (r:=r) (b:=c.b) (fun x=>x.f<=fV r c) (fun now _=>now.f<=bnd r c now.s/\(act now->now.n=now.f+dur r now.s)) ?_ ?_ ?_ ?_ _ (x0 r c) es (Nat.le_refl _) ⟨by simp[x0,st,bnd],fun _=>by simp[x0,st,dur]⟩ x hx
  ·intro now e es ⟨g1,g2⟩ ha _
   have:=key now g1 ha (g2 ha)
   exact⟨Int.le_trans this (hle _),this,fun hx=>by unfold act at hx;simp only[st]at hx⊢;rw[if_pos hx]⟩
  ·intro now e es g _ _
   exact g
  ·intro now e es ⟨g1,g2⟩ ha hb
   have:=kev c.b now e g1 g2 ha hb
   exact⟨Int.le_trans this (hle _),this,fun hx=>by unfold act at hx;simp only[st]at hx⊢;rw[if_pos hx]⟩
  ·intro now ⟨g1,g2⟩ ha
   have:=key now g1 ha (g2 ha)
   exact⟨Int.le_trans this (hle _),this,fun hx=>by unfold act at hx;simp only[st]at hx⊢;rw[if_pos hx]⟩
theorem OB(x:Hp)(l:List Hp):(ins x l).Perm (x::l):=by
 induction l with
 |nil=>exact List.Perm.refl _
 |cons y l ih=>
  unfold ins;split
  ·exact List.Perm.refl _
  ·exact(List.Perm.cons y ih).trans (List.Perm.swap x y l)
theorem LZ(l:List Hp):(LC l).Perm l:=by
 have:∀(l acc:List Hp),(l.foldl (fun acc x=>ins x acc) acc).Perm (l++acc):=by
  intro l;induction l with
  |nil=>intro acc;exact List.Perm.refl _
  |cons x l ih=>
   intro acc;rw[List.foldl_cons];refine(ih _).trans ?_
   refine((OB x acc).append_left l).trans ?_
   exact List.perm_middle
 have:=this l []
 rw[List.append_nil]at this;exact this
theorem Cd{n:Int}{r:Rl}:∀ {ps:List Pt} {last:Int},PtsV n r last ps->∀p∈ps,p.c.n=n/\dC r p.c p.es
 |[],_,_,p,h=>by cases h
 |q::ps,_,hv,p,h=>by
  rcases List.mem_cons.1 h with rfl|h
  ·exact⟨hv.1.1,hv.1.2.1⟩
  ·exact Cd hv.2 p h
def a8(c:Ch):Prop:=ChV c/\∀p∈c.ps,fV c.r p.c<=400000
theorem QF{c:Ch}(h:ChV c){k:Nat}{p:Pt}(hp:c.ps[k]?=some p):dC c.r p.c p.es:=(Cd h.2.2.2.2.2.2 p (List.mem_of_getElem? hp)).2
theorem FL{c:Ch}{k:Nat}{p:Pt}(hp:c.ps[k]?=some p):rx c (k:Int)=p:=by simp[rx,hp]
def hpP(c:Ch)(k:Nat):List Hp:=(aw c.r (rx c k).c (rx c k).es).filterMap (eF k)
def zB(c:Ch)(x:Int):Int:=match hpP c x.toNat with
 |h::_=>h.a
 |[]=>0
theorem P4{c:Ch}{h:Hp}(hh:h∈hps c):∃(k:Nat) (p:Pt),c.ps[k]?=some p/\h.p=(k:Int)/\h∈hpP c k:=by
 obtain⟨k,p,h1,h2,x,h3,h4⟩:=OJ hh;refine⟨k,p,h1,h2,?_⟩
 unfold hpP;rw[FL h1];exact List.mem_filterMap.2 ⟨x,h3,h4⟩
theorem MR{c:Ch}(hV:ChV c){k:Nat}{p:Pt}(hp:c.ps[k]?=some p):hpP c k=[]\/(∃f,hpP c k=[⟨f,k,false⟩]/\zB c k=f)\/(∃f g,f<=g/\g<f+c.r.r/\hpP c k=[⟨f,k,false⟩,⟨g,k,true⟩]/\zB c k=f):=by
 unfold zB;rw[Int.toNat_natCast];have hc:=wV (QF hV hp) k;have he:hpP c k=(aw c.r p.c p.es).filterMap (eF k):=by unfold hpP;rw[FL hp]
 rw[he];rcases hc with⟨h,_⟩|⟨f,h1,h2,_⟩|⟨f,g,h1,h2,h3,h4,_⟩
 ·exact .inl h
 ·exact .inr (.inl ⟨f,h2,by rw[h2]⟩)
 ·exact .inr (.inr ⟨f,g,h2,h3,h4,by rw[h4]⟩)
theorem QT{c:Ch}(hV:ChV c){h:Hp}(hh:h∈hps c)(hb:h.b=false):h=⟨zB c h.p,h.p,false⟩:=by
 obtain⟨k,p,h1,h2,h3⟩:=P4 hh;rcases MR hV h1 with e|⟨f,e,q⟩|⟨f,g,_,_,e,q⟩
 ·rw[e]at h3;cases h3
 ·rw[e]at h3
  rw[List.mem_singleton]at h3;rw[h2,q];exact h3
 ·rw[e]at h3
  rcases List.mem_cons.1 h3 with h3|h3
  ·rw[h2,q];exact h3
  ·rw[List.mem_singleton]at h3
   rw[h3]at hb;cases hb
theorem MT{c:Ch}(hV:ChV c):(hps c).Nodup:=by
 refine(LZ _).nodup_iff.2 ?_
 have:∀(ps:List Pt) (i:Nat),(∀p∈ps,dC c.r p.c p.es)->(qC c.r i ps).Nodup/\∀h∈qC c.r i ps,(i:Int)<=h.p:=by
  intro ps;induction ps with
  |nil=>intro i _;exact⟨List.nodup_nil,fun h hh=>by cases hh⟩
  | cons p ps ih=>
   intro i hp;obtain⟨h1,h2⟩:=ih (i+1) (fun q hq=>hp q (List.mem_cons_of_mem _ hq))
   have hc:=wV (hp p (List.mem_cons_self ..)) i;have hi:((aw c.r p.c p.es).filterMap (eF i)).Nodup/\∀h∈(aw c.r p.c p.es).filterMap (eF i),h.p=(i:Int):=by
    rcases hc with⟨h,_⟩|⟨f,_,h,_⟩|⟨f,g,_,_,_,h,_⟩<;>rw[h]
    ·exact⟨List.nodup_nil,fun h hh=>by cases hh⟩
    ·exact⟨by simp,fun h hh=>by rw[List.mem_singleton]at hh;rw[hh]⟩
    ·refine⟨by simp,fun h hh=>?_⟩
     rcases List.mem_cons.1 hh with hh|hh
     ·rw[hh]
     ·rw[List.mem_singleton]at hh;rw[hh]
   refine⟨List.nodup_append.2 ⟨hi.1,h1,fun x hx y hy e=>?_⟩,fun h hh=>?_⟩
   ·have:=hi.2 x hx
    have:=h2 y hy
    rw[e]at *
    omega
   ·rcases List.mem_append.1 hh with hh|hh
    ·rw[hi.2 h hh];omega
    ·have:=h2 h hh;omega
 exact(this c.ps 0 fun p hp=>(Cd hV.2.2.2.2.2.2 p hp).2).1
theorem P1{c:Ch}(hV:ChV c){i j:Nat}{h:Hp}(hi:(hps c)[i]?=some h)(hj:(hps c)[j]?=some h):i=j:=
 (List.getElem?_inj (List.getElem?_eq_some_iff.1 hi).1 (MT hV)).1 (hi.trans hj.symm)
def Gk(c:Ch)(i:Nat):List Int:=Pk c [] ((hps c).take i)
theorem Qy(c:Ch):Gk c 0=[]:=rfl
theorem P7{c:Ch}{i:Nat}{h:Hp}(hi:(hps c)[i]?=some h):Gk c (i+1)=Oe c (Gk c i) h:=by
 unfold Gk;rw[List.take_add_one,hi];simp[Pk]
theorem RI{c:Ch}{i:Nat}(hi:(hps c)[i]?=none):Gk c (i+1)=Gk c i:=by
 unfold Gk;rw[List.take_add_one,hi];simp
theorem HP(p:Int):∀(G:List Int),∃Z,G=Z++Lh p G
 |[]=>⟨[],rfl⟩
 |x::G=>by
  obtain⟨Z,hZ⟩:=HP p G;unfold Lh;split
  ·exact⟨x::Z,by rw[List.cons_append,<-hZ]⟩
  ·exact⟨[],rfl⟩
theorem inv{c:Ch}(hV:ChV c):∀(i:Nat) (X:List Int) (p:Int) (Y:List Int),Gk c i=X++p::Y->∃j,j<i/\(hps c)[j]?=some ⟨zB c p,p,false⟩/\Gk c j=Y/\AW c Y ⟨zB c p,p,false⟩:=by
 intro i;induction i with
 |zero=>intro X p Y h;rw[Qy]at h;simp at h
 | succ i ih=>
  intro X p Y h;have up:∀X',Gk c i=X'++p::Y->∃j,j<i+1/\(hps c)[j]?=some ⟨zB c p,p,false⟩/\Gk c j=Y/\AW c Y ⟨zB c p,p,false⟩:=fun X' h'=>by
   obtain⟨j,h1,h2⟩:=ih X' p Y h';exact⟨j,by omega,h2⟩
  cases hi:(hps c)[i]? with
  |none=>rw[RI hi]at h;exact up X h
  | some x=>
   rw[P7 hi]at h;unfold Oe at h;by_cases hb:x.b=true
   ·rw[if_pos hb]at h
    obtain⟨Z,hZ⟩:=HP x.p (Gk c i);rw[h]at hZ;exact up (Z++X) (by rw[hZ,List.append_assoc])
   ·rw[if_neg hb]at h
    by_cases ht:AW c (Gk c i) x
    ·rw[if_pos ht]at h
     cases X with
     |nil=>
      cases h
      have hx:=QT hV (List.mem_of_getElem? hi) (by simpa using hb)
      exact⟨i,by omega,by rw[<-hx];exact hi,rfl,by rw[<-hx];exact ht⟩
     |cons y X=>
      rw[List.cons_append]at h;exact up X (List.cons.inj h).2
    ·rw[if_neg ht]at h
     exact up X h
theorem base{c:Ch}(hV:ChV c){i i':Nat}{X X' Y Y':List Int}{p:Int}(h:Gk c i=X++p::Y)(h':Gk c i'=X'++p::Y'):Y=Y':=by
 obtain⟨j,_,h1,h2,_⟩:=inv hV i X p Y h;obtain⟨j',_,h1',h2',_⟩:=inv hV i' X' p Y' h';have:=P1 hV h1 h1'
 rw[<-h2,<-h2',this]
def R3(l:List Mo)(G:List Int):List Int:=(l.getLast?.map (·.G)).getD G
theorem pt{α:Type}{q:α->Bool}{A B:List α}(h:∀x∈A,q x=true):(A++B).takeWhile q=A++B.takeWhile q:=by
 induction A with
 |nil=>rfl
 |cons x A ih=>rw[List.cons_append,List.takeWhile_cons_of_pos (h x (List.mem_cons_self ..)),ih fun y hy=>h y (List.mem_cons_of_mem _ hy)];rfl
def ON(c:Ch)(l:List Mo)(t:Int):Int:=uo c (R3 (l.takeWhile fun m=>decide (m.a<=t)) [])
structure HInv (c:Ch) (l:List Mo) (o:List Hd):Prop where
 ne:o≠[]
 adj:∀i (x y:Hd),o[i]?=some x->o[i+1]?=some y->y.t=x.f/\y.f<y.t/\y.c≠x.c
 bot:∀x:Hd,o.getLast?=some x->x.f=0
 sem:∀i (z:Hd),o[i+1]?=some z->∀t,z.f<=t->t<z.t->ON c l t=z.c
 top:∀x:Hd,o.head?=some x->(∀t,x.f<=t->ON c l t=x.c)/\0<=x.f/\∀b,(∀m∈l,m.a<=b)->0<=b->x.f<=b
structure HInv' (c:Ch) (a:Int) (l:List Mo) (o:List Hd):Prop where
 adj:∀i (x y:Hd),o[i]?=some x->o[i+1]?=some y->y.t=x.f/\y.f<y.t/\y.c≠x.c
 bot:∀x:Hd,o.getLast?=some x->x.f=0
 sem:∀(i:Nat) (z:Hd),o[i]?=some z->∀t,z.f<=t->t<z.t->ON c l t=z.c
 top:∀x:Hd,o.head?=some x->x.t=a/\x.f<a/\0<=x.f
 nil:o=[]->a=0
theorem out_end{r:Rl}{c:Cl}{es:List Ce}(h:dC r c es){t:Int}(ht:fV r c<=t):5<=(fx r c es t).s:=by
 have hall:cX t (aw r c es)=aw r c es:=by
  have:=pt (q:=fun x:Cs=>decide (x.f<=t)) (A:=aw r c es) (B:=[]) (fun x hx=>by have:=G6 h x hx;exact decide_eq_true (by omega))
  simpa[cX]using this
 have e:fx r c es t=lst (x0 r c) (tl r c.b (x0 r c) es):=by
  unfold fx;rw[hall];unfold aw lst;rw[List.getLast?_cons];rfl
 rw[e];rcases wV h 0 with⟨_,e⟩|⟨f,_,_,e⟩|⟨f,g,_,_,_,_,e⟩
 ·omega
 ·rw[e];exact Int.le_refl 5
 ·omega
end Go.Dial.Chn
set_option maxRecDepth 100000
namespace Go.Proofs.YtbfkkigbedmhgaaGreat
open Go Go.Sx
noncomputable section
abbrev cx:=Bool
def lN(n:Nat)(v22 v23 v24 v25 v26:Lv)(v27 v28 v29 v30 v31 v32 v33 v34 v35 v36:Int)(v37:Bool)(v38:Lv)(v39:Int)(v40:Lv)(v41 v42 v43 v45 v46:Int):Option cx:=
 (bif v46<5 then some false else(az n v22 v23 v24 v25 v26 v27 v28 v29 v30 v31 v32 v33 v34 v35 v36 v37 v38 v39 v40 (10+v41) (aM (v43+v45) 10000000) v42).bind fun y50=>
 (nj n v25 v26 v27 v42).bind fun y59=>
 (dE n v23 v24 (10+v41) (aM (v43+v45) 10000000)).bind fun y62=>
 (bif !(y50.2.2.2.2.2.2.2.2=0)then(bif y50.2.2.2.2.2.2.2.2=y59.2.2 then some true else(bif y50.2.2.2.2.2.2.2.2=280 then some (decide (y59.2.2=240))else some false))else(bif !(y59.2.2=0)then(bif y50.2.2.2.2.2.2.2.2=y59.2.2 then some true else some false)else(bif !(y62.2.2.2=0)then(bif y50.2.2.2.2.2.2.2.2=y59.2.2 then some true else some false)else(bif !(y59.2.1=1)then(bif y50.2.2.2.2.2.2.2.2=y59.2.2 then some true else some false)else(bif (y62.2.1.length:Int)=0 then(bif y50.2.2.2.2.2.2.2.2=y59.2.2 then some true else some false)else bif(-9223372036854775808<=((y62.2.1.length:Int)-1))&&(((y62.2.1.length:Int)-1)<=9223372036854775807)then bif 0<=((y62.2.1.length:Int)-1) then bif ((y62.2.1.length:Int)-1)<(y62.2.1.length:Int) then(bif !((cI y62.2.1 ((y62.2.1.length:Int)-1) 0)=v32)then(bif y50.2.2.2.2.2.2.2.2=y59.2.2 then some true else some false)else(bif v46=5 then bif(-9223372036854775808<=((y59.1.length:Int)-1))&&(((y59.1.length:Int)-1)<=9223372036854775807)then bif 0<=((y59.1.length:Int)-1) then bif ((y59.1.length:Int)-1)<(y59.1.length:Int) then(bif (cI y59.1 ((y59.1.length:Int)-1) 0)=v34 then(bif(!y50.2.2.2.2.2.2.2.1)then some true else some (!(decide (y50.1=6))))else(bif (cI y59.1 ((y59.1.length:Int)-1) 0)=v33 then(bif y50.2.2.2.2.2.2.2.1 then(bif y50.1<=6 then(bV n v22 v23 v24 v25 v26 v27 v28 v29 v30 v31 v32 v33 v34 v35 v36 v37 v38 v39 v40 (10+v41) (aM (v43+v45) 10000000) v42 6 0 0 ([]:Lv) ([]:Lv) y59.1 0).bind fun y66=>
 some y66 else some false)else some false)else(bif(!y50.2.2.2.2.2.2.2.1)then some true else some (!(decide (y50.1=6))))))else none else none else none else bif(-9223372036854775808<=((y59.1.length:Int)-1))&&(((y59.1.length:Int)-1)<=9223372036854775807)then bif 0<=((y59.1.length:Int)-1) then bif ((y59.1.length:Int)-1)<(y59.1.length:Int) then(bif (cI y59.1 ((y59.1.length:Int)-1) 0)=v33 then(bif(!y50.2.2.2.2.2.2.2.1)then some true else some (!(decide (y50.1=6))))else(bif (cI y59.1 ((y59.1.length:Int)-1) 0)=v34 then(bif y50.2.2.2.2.2.2.2.1 then(bif y50.1<=6 then(bV n v22 v23 v24 v25 v26 v27 v28 v29 v30 v31 v32 v33 v34 v35 v36 v37 v38 v39 v40 (10+v41) (aM (v43+v45) 10000000) v42 6 0 0 ([]:Lv) ([]:Lv) y59.1 0).bind fun y66=>
 some y66 else some false)else some false)else(bif(!y50.2.2.2.2.2.2.2.1)then some true else some (!(decide (y50.1=6))))))else none else none else none))else none else none else none))))))
def lS(n:Nat)(v22 v23 v24 v25 v26:Lv)(v27 v28 v29 v30 v31 v32 v33 v34 v35 v36:Int)(v37:Bool)(v38:Lv)(v39:Int)(v40:Lv)(v41 v42 v43 v45 v46 v49:Int):Option cx:=
 (bif !(v49=0)then some false else lN n v22 v23 v24 v25 v26 v27 v28 v29 v30 v31 v32 v33 v34 v35 v36 v37 v38 v39 v40 v41 v42 v43 v45 v46)
def lG(n:Nat)(v22 v23 v24 v25 v26:Lv)(v27 v28 v29 v30 v31 v32 v33 v34 v35 v36:Int)(v37:Bool)(v38:Lv)(v39:Int)(v40:Lv)(v41 v42 v43 v44 v45 v46 v49:Int):Option cx:=
 (bif !(v44=0)then some false else lS n v22 v23 v24 v25 v26 v27 v28 v29 v30 v31 v32 v33 v34 v35 v36 v37 v38 v39 v40 v41 v42 v43 v45 v46 v49)
def lH(n:Nat)(v0 v1:Lv)(v2:Int)(v3 v4:Lv)(v5 v6 v7 v8 v9 v10 v11 v12 v13 v14 v15:Int)(v16 v17:Lv)(v18 v19 v20:Int)(v21:Bool):Option cx:=
 (bif(!v21)then some false else(d9 n v0 v1 v2 v3 v4 v5 v6 v7 v8 v9 v10 v11 v12 v13 v14 v15 v16 v17).bind fun y22=>
 (aN n v18 8).bind fun y41=>
 bif(-9223372036854775808<=(10+y41))&&((10+y41)<=9223372036854775807)then(aN n v19 8).bind fun y42=>
 (p9 n y22.2.2.2.2.2.2.1 y22.2.2.2.2.2.2.2.1 y22.2.2.2.2.2.2.2.2.1 y22.2.2.2.2.2.2.2.2.2.1 y22.2.2.2.2.2.2.2.2.2.2.1 y22.2.2.2.2.2.2.2.2.2.2.2.1 y22.2.2.2.2.2.2.2.2.2.2.2.2.1 y22.2.2.2.2.2.2.2.2.2.2.2.2.2.1 y22.2.2.2.2.2.2.2.2.2.2.2.2.2.2.1 y22.2.2.2.2.2.2.2.2.2.2.2.2.2.2.2.1).bind fun y43=>
 (aN n v20 100).bind fun y45=>
 bif(-9223372036854775808<=(y43.1+y45))&&((y43.1+y45)<=9223372036854775807)then(iN n y22.2.2.2.2.2.2.1 y22.2.2.2.2.2.2.2.1 y22.2.2.2.2.2.2.2.2.1 y22.2.2.2.2.2.2.2.2.2.1 y22.2.2.2.2.2.2.2.2.2.2.1 y22.2.2.2.2.2.2.2.2.2.2.2.1 y22.2.2.2.2.2.2.2.2.2.2.2.2.1 y22.2.2.2.2.2.2.2.2.2.2.2.2.2.1 y22.2.2.2.2.2.2.2.2.2.2.2.2.2.2.1 y22.2.2.2.2.2.2.2.2.2.2.2.2.2.2.2.1 y22.2.2.2.2.2.2.2.2.2.2.2.2.2.2.2.2.1 (aM (y43.1+y45) 10000000)).bind fun y46=>
 lG n y22.1 y22.2.1 y22.2.2.1 y22.2.2.2.1 y22.2.2.2.2.1 y22.2.2.2.2.2.1 y22.2.2.2.2.2.2.1 y22.2.2.2.2.2.2.2.1 y22.2.2.2.2.2.2.2.2.1 y22.2.2.2.2.2.2.2.2.2.1 y22.2.2.2.2.2.2.2.2.2.2.1 y22.2.2.2.2.2.2.2.2.2.2.2.1 y22.2.2.2.2.2.2.2.2.2.2.2.2.1 y22.2.2.2.2.2.2.2.2.2.2.2.2.2.1 y22.2.2.2.2.2.2.2.2.2.2.2.2.2.2.1 y22.2.2.2.2.2.2.2.2.2.2.2.2.2.2.2.1 y22.2.2.2.2.2.2.2.2.2.2.2.2.2.2.2.2.1 y22.2.2.2.2.2.2.2.2.2.2.2.2.2.2.2.2.2.1 y22.2.2.2.2.2.2.2.2.2.2.2.2.2.2.2.2.2.2 y41 y42 y43.1 y43.2 y45 y46.1 y46.2.2.2 else none else none)
def lR(n:Nat)(v0 v1:Lv)(v2:Int)(v3 v4:Lv)(v5 v6 v7 v8 v9 v10 v11 v12 v13 v14 v15:Int)(v16 v17:Lv)(v18 v19 v20:Int):Option cx:=
 (ik n ).bind fun y21=>
 lH n v0 v1 v2 v3 v4 v5 v6 v7 v8 v9 v10 v11 v12 v13 v14 v15 v16 v17 v18 v19 v20 y21
def je(n:Nat)(v0 v1:Lv)(v2:Int)(v3 v4:Lv)(v5 v6 v7 v8 v9 v10 v11 v12 v13 v14 v15:Int)(v16 v17:Lv)(v18 v19 v20:Int):Option cx:=lR n v0 v1 v2 v3 v4 v5 v6 v7 v8 v9 v10 v11 v12 v13 v14 v15 v16 v17 v18 v19 v20
def law28_RefusalClaims_t:FnT:=⟨[(true,[(.sl (.cons tSc .nil)),(.sl (.cons .int (.cons .int (.cons .int (.cons .int (.cons .int .nil)))))),.int,tSa,tSa,.int,.int,.int,.int,.int,.int,.int,.int,.int,.int,.int,tSc,tSc]),(false,[.int]),(false,[.int]),(false,[.int])],.b,fun n (s:Lv×Lv×Int×Lv×Lv×Int×Int×Int×Int×Int×Int×Int×Int×Int×Int×Int×Lv×Lv×Int×Int×Int)=>je n s.1 s.2.1 s.2.2.1 s.2.2.2.1 s.2.2.2.2.1 s.2.2.2.2.2.1 s.2.2.2.2.2.2.1 s.2.2.2.2.2.2.2.1 s.2.2.2.2.2.2.2.2.1 s.2.2.2.2.2.2.2.2.2.1 s.2.2.2.2.2.2.2.2.2.2.1 s.2.2.2.2.2.2.2.2.2.2.2.1 s.2.2.2.2.2.2.2.2.2.2.2.2.1 s.2.2.2.2.2.2.2.2.2.2.2.2.2.1 s.2.2.2.2.2.2.2.2.2.2.2.2.2.2.1 s.2.2.2.2.2.2.2.2.2.2.2.2.2.2.2.1 s.2.2.2.2.2.2.2.2.2.2.2.2.2.2.2.2.1 s.2.2.2.2.2.2.2.2.2.2.2.2.2.2.2.2.2.1 s.2.2.2.2.2.2.2.2.2.2.2.2.2.2.2.2.2.2.1 s.2.2.2.2.2.2.2.2.2.2.2.2.2.2.2.2.2.2.2.1 s.2.2.2.2.2.2.2.2.2.2.2.2.2.2.2.2.2.2.2.2⟩
def yB:List Nat:=[12,13,14,15,16,17,18,19,20,21,22,23,24,25,26,27,28,29,30,31,32,33,34,35,36,37,38,39,40,41,42,43,44,45,46,47,48,49,50,51,52,53,54,55,56,57,58,59,62,65,66,67,68,69,70,71,72,73,74,75,76,77,78,84,85,86,87,89,95,105,106,107,108,109,110,111,112,114,115,116,117,120,122,130,132,149,150,152,153,159,176,178,179,180,182,183,184,186,187,193,202,203,204,210,211,1000015,1000016,1000017,1000018,1000019,1000022,1000049,1000050,1000051,1000052,1000053,1000062,2000151,2000152,2000217,2000247,2000248,2000249]
theorem uC:law28_RefusalClaims_t.ok Tryz.prog 9:=FnT.ok_of (cfg:=⟨[],yB,[],aj⟩) ay gh ax (fun s fn hf=>by rw[Tryz.func9]at hf;cases hf;kernel_rfl) (fun n s=>by kernel_rfl)
end
open Go.Dial.Ref Go.Dial.Rou Go.Dial.Fwd Go.Dial.Clm
theorem Qf{g:Gr}{t c:Int}{w:Int×List Int×List Int}{p:List (Int×Int)×Int}(h:p.2=1)(hu:Unp g t w.2.1 p.1):(dF g t c w p).2=true/\(dF g t c w p).1.k<=6:=by
 unfold dF;split
 ·exact⟨rfl,by show(1:Int)<=6;decide⟩
 ·rw[h,if_neg (show ¬(1:Int)=2 by decide),if_neg (show ¬(1:Int)=3 by decide),if_pos rfl,if_pos hu]
  split
  ·exact⟨rfl,by show(2:Int)<=6;decide⟩
  ·split
   ·exact⟨rfl,by show(3:Int)<=6;decide⟩
   ·exact⟨rfl,by show(6:Int)<=6;decide⟩
theorem CO{g:Gr}{m t c:Int}(hs:Small g)(hok:bL g m t c)(hp1:(hp g c).2=1)(hn:jn (wy g m t).2.1=g.c.n)(right wrong:Int)(hW:uo g t=right)(hft:(right=g.c.t/\wrong=g.c.f)\/(right=g.c.f/\wrong=g.c.t))(hne:g.c.f≠g.c.t)(A B:Option Bool)
  (hA:A=(bif(!(cT g m t c).2)then some true else some (!(decide ((cT g m t c).1.k=6)))))
  (hB:B=(bif(cT g m t c).2 then(bif (cT g m t c).1.k<=6 then(bV N0 (lnL g.ls) (seL g.ss) (coL g.cs) (iL g.h) (iL g.k) g.lag g.r.a g.r.c g.r.s g.r.r g.c.n g.c.f g.c.t g.c.h g.c.a g.c.b (ceL g.ce) g.nn (edL g.es) m t c 6 0 0 ([]:Lv) ([]:Lv) (hpL (hp g c).1) 0).bind fun y66=>some y66 else some false)else some false)):
  (bif aS (hp g c).1=right then A else(bif aS (hp g c).1=wrong then B else A))=some true:=by
 have six:(cT g m t c).2=true->(cT g m t c).1.k=6->Unp g t (wy g m t).2.1 (hp g c).1:=fun h2 hk=>((yC hk).1 (K9 hok h2).1.2).2.1
 have no6:¬Unp g t (wy g m t).2.1 (hp g c).1->A=some true:=fun hu=>by
  rw[hA];cases h2:(cT g m t c).2 with
  |false=>rfl
  |true=>rw[decide_eq_false (fun hk=>hu (six h2 hk))];rfl
 by_cases h1:aS (hp g c).1=right
 ·rw[kT h1]
  exact no6 (fun hu=>hu.2.2 (by rw[hW];exact h1))
 ·rw[kF h1]
  by_cases h2:aS (hp g c).1=wrong
  ·rw[kT h2]
   have hu:Unp g t (wy g m t).2.1 (hp g c).1:=by
    refine⟨hn.symm,?_,fun e=>h1 (by rw[<-hW];exact e)⟩
    rcases hft with⟨_,e⟩|⟨_,e⟩
    ·exact .inl (h2.trans e)
    ·exact .inr (h2.trans e)
   obtain⟨e1,e2⟩:=Qf (c:=c) (w:=wy g m t) hp1 hu
   have e1':(cT g m t c).2=true:=e1
   have e2':(cT g m t c).1.k<=6:=e2
   have hC:bV N0 (lnL g.ls) (seL g.ss) (coL g.cs) (iL g.h) (iL g.k) g.lag g.r.a g.r.c g.r.s g.r.r g.c.n g.c.f g.c.t g.c.h g.c.a g.c.b (ceL g.ce) g.nn (edL g.es) m t c 6 0 0 ([]:Lv) ([]:Lv) (hpL (hp g c).1) 0=_:=tQ N0 g hs m t c ⟨6,0,0,[],[],(hp g c).1,0⟩ ⟨Nat.zero_le _,Nat.zero_le _,by have:=(gQ hok).plen;dsimp only;omega⟩ fZ
   have hchk:Chk g m t c ⟨6,0,0,[],[],(hp g c).1,0⟩:=⟨hok,(yC rfl).2 ⟨hp1,hu,rfl⟩⟩
   rw[hB,e1',cond_true,kT e2',hC,decide_eq_true hchk];rfl
  ·rw[kF h2]
   refine no6 (fun hu=>?_)
   rcases hu.2.1 with e|e<;>rcases hft with⟨f1,f2⟩|⟨f1,f2⟩
   ·exact h2 (e.trans f2.symm)
   ·exact h1 (e.trans f1.symm)
   ·exact h1 (e.trans f1.symm)
   ·exact h2 (e.trans f2.symm)
theorem vK(X:Nm)(hX:X.ok)(a b d:Int)(ha:av a)(hb:av b)(hd:av d):je N0 (X.lives.map kA) (X.sets.map fg) X.cond (iL X.hol) (iL X.kn) X.lag X.r0 X.r1 X.r2 X.r3 X.c0 X.c1 X.c2 X.c3 X.c4 X.c5 (X.evs.map bb) (X.net.map bb) a b d=some true:=by
 obtain⟨g,hG,hM⟩:=gV N0 X hX (by decide)
 have b8a:=aO a (k:=8) (by decide)
 have b8:=aO b (k:=8) (by decide)
 have b100:=aO d (k:=100) (by decide)
 have hv:=hM.val;have hs:=hM.small;have hcl:=hv.2.2.2.2.1;have hClV:=hcl.2.1;unfold ClV at hClV;have hrr:=hM.rr;have hca:=hM.ca;have hRl:=hcl.1;unfold RlV at hRl;have hE:=Jh N0 g.r g.c (by decide)
 rw[if_pos ⟨hcl.1,hcl.2.1⟩]at hE;have hends:0<=fV g.r g.c/\fV g.r g.c<=400000:=by unfold fV;omega
 obtain⟨t,ht⟩:∃t,t=aM (fV g.r g.c+pk d 100) 10000000:=⟨_,rfl⟩
 have htv:t=fV g.r g.c+pk d 100:=by rw[ht];unfold aM;split<;>omega
 have hO:=uw N0 g.r g.c g.ce t (by decide)
 have hOk:qa g.r g.c g.ce t:=⟨hcl,by omega,by omega⟩
 unfold Go.Dial.Clm.outR at hO;rw[if_pos hOk]at hO;have h5:5<=(fx g.r g.c g.ce t).s:=Go.Dial.Chn.out_end hcl (by omega)
 unfold je lR;rw[jV,Option.bind_some];unfold lH;rw[Bool.not_true,cond_false,hG,Option.bind_some,aJ N0 ha (by decide),Option.bind_some,kG (by omega),aJ N0 hb (by decide),Option.bind_some]
 dsimp only[grT]
 rw[hE,Option.bind_some,aJ N0 hd (by decide),Option.bind_some]
 dsimp only;rw[kG (by omega),<-ht,hO,Option.bind_some]
 dsimp only;unfold lG;rw[kNT rfl];unfold lS;rw[kNT rfl];unfold lN;rw[<-ht,kF (show ¬(fx g.r g.c g.ce t).s<5 by omega)]
 generalize hm:10+pk a 8=m
 generalize hc:pk b 8=c at b8
 have hR:=cC N0 g hs m t c fZ;have hP:=zS N0 g.h g.k g.lag c (by decide)
 have hF:=kB N0 g.ss g.cs m t hs.ss hs.cs (by decide)
 unfold Bg at hP;unfold wt at hF;have ok1:xn g.ss g.cs m t:=⟨hv.2.2.1,by omega,by omega,by omega,by omega⟩
 rw[if_pos ok1]at hF;by_cases h0:0<=at_ g.k c
 ·have hok:bL g m t c:=⟨hv,by omega,by omega,by omega,by omega,b8.1,by omega,h0⟩
  have hcv:=gQ hok;have l1:0<((rl g.ss g.cs m t).2.1.length:Int):=kg hcv.wne
  have l2:0<((mi g.h g.k c).1.length:Int):=kg hcv.pth.ne
  have w8:(rl g.ss g.cs m t).2.1.length<=8:=hcv.wlen
  have p31:(mi g.h g.k c).1.length<=31:=hcv.plen
  rw[if_pos ⟨hv.2.2.2.1,b8.1,by omega,h0⟩]at hP
  rw[if_pos hok]at hR;rw[hR,Option.bind_some,hP,Option.bind_some,hF,Option.bind_some];dsimp only;rw[kNT rfl,kNT rfl,kNT rfl];by_cases e1:(mi g.h g.k c).2=1
  ·rw[kNT e1,am,kF (by omega),kG (by omega),kT (by omega),kT (by omega)]
   have hl1:cI (iL (rl g.ss g.cs m t).2.1) (((rl g.ss g.cs m t).2.1.length:Int)-1) 0=jn (wy g m t).2.1:=by
    have:=vQ (wy g m t).2.1 hcv.wne
    rw[am]at this;exact this
   have hl2:cI (hpL (mi g.h g.k c).1) (((mi g.h g.k c).1.length:Int)-1) 0=aS (hp g c).1:=by
    have:=qP (hp g c).1 hcv.pth.ne
    rw[cw]at this;exact this
   rw[hl1];by_cases e2:jn (wy g m t).2.1=g.c.n
   ·rw[kNT e2]
    by_cases e5:(fx g.r g.c g.ce t).s=5
    ·rw[kT e5,cw,kG (by omega),kT (by omega),kT (by omega),hl2]
     exact CO hs hok e1 e2 g.c.t g.c.f (by unfold uo;rw[if_pos (.inr e5)]) (.inl ⟨rfl,rfl⟩) hClV.2.2.2.2.2.2.1 _ _ rfl rfl
    ·rw[kF e5,cw,kG (by omega),kT (by omega),kT (by omega),hl2]
     exact CO hs hok e1 e2 g.c.f g.c.t (by unfold uo;rw[if_neg (by omega)]) (.inr ⟨rfl,rfl⟩) hClV.2.2.2.2.2.2.1 _ _ rfl rfl
   ·rw[kNF e2,kT rfl]
  ·rw[kNF e1,kT rfl]
 ·rw[if_neg (fun h=>h0 h.2.2.2)]at hP
  rw[if_neg (fun h:bL g m t c=>h0 h.2.2.2.2.2.2.2)]at hR
  rw[hR,Option.bind_some,hP,Option.bind_some,hF,Option.bind_some];rfl
theorem sF:∀s:bi (Ps.tys law28_RefusalClaims_t.ps),A6 (Ps.tys law28_RefusalClaims_t.ps) s->∃n z,law28_RefusalClaims_t.fn n s=some z/\lz law28_RefusalClaims_t.sh z=.b true:=by
 rintro ⟨v0,v1,v2,v3,v4,v5,v6,v7,v8,v9,v10,v11,v12,v13,v14,v15,v16,v17,a,b,d⟩ hs;obtain⟨⟨X,hX,rfl,rfl,rfl,rfl,rfl,rfl,rfl,rfl,rfl,rfl,rfl,rfl,rfl,rfl,rfl,rfl,rfl,rfl⟩,hr⟩:=qx (rest:=[.int a,.int b,.int d]) hs
 exact⟨N0,true,vK X hX a b d (bD (hr _ (by simp))) (bD (hr _ (by simp))) (bD (hr _ (by simp))),rfl⟩
end Go.Proofs.YtbfkkigbedmhgaaGreat
