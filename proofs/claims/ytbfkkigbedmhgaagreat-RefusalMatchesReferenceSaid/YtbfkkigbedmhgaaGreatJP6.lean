/-
  Texts of this claim, joined (part 6).
-/
import Derived.Test.YtbfkkigbedmhgaaGreatJP5
open Option renaming bind_some → v0, getD_some → Sy
open List renaming length_map → v1, getD_eq_getElem?_getD → v2, replicate → v5, length_append → v6, mem_of_getElem? → v7, getElem?_eq_getElem → v9, drop_eq_getElem_cons → y0, length_singleton → y1, length_take → y3, take_of_length_le → y8, length_replicate → y9, getElem?_take → RJ, mem_cons_self → RK, length_cons → RM, drop_length → RN, getElem?_of_mem → RO, take → RR, getElem?_append_right → RT, append_assoc → RU, take_add_one → RV, mem_cons_of_mem → RW, takeWhile_cons → RY, mem_singleton → R0, modify → R2, getLast?_eq_getElem? → R3, drop_eq_nil_of_le → R5, takeWhile_sublist → R6, map_append → R7, drop_zero → R8, map_replicate → R9, map_take → Sa, getElem?_append_left → Sc, cons_append → Sd, getElem?_replicate → Sg, append_nil → Sh, singleton_append → Si, set_append_right → Sj, getElem?_eq_none → Sk, mem_of_getLast? → Sm, getElem_of_mem → Sn, getElem?_drop → So, ext_getElem? → Sr, take_length → Ss, map → Su, not_mem_nil → Sv, nil_append → SA
open Bool renaming not_true → v3, and_self → v4, and_eq_true → RQ, not_false → RX, eq_iff_iff → RZ, eq_false_iff → R4, not_eq_true' → Sb, or_eq_true → Sz
open Int renaming toNat_natCast → v8, lt_irrefl → y2, tdiv_eq_ediv_of_nonneg → y7, tdiv → RP, tmod → R1, le_of_lt → Sp, neg_tdiv → Sq, ediv_le_self → Sw, ediv_nonneg → SC
open Nat renaming le_refl → RL, lt_or_ge → Sf
set_option linter.unusedVariables false
set_option linter.unusedSimpArgs false
set_option linter.unusedSectionVars false
set_option linter.constructorNameAsVariable false
set_option maxRecDepth 100000
namespace Go.Proofs.YtbfkkigbedmhgaaGreat
open Go Go.Sx
def ax(n:Int):Prop:= -9223372036854775808<=n/\n<=9223372036854775807
def pk(c k:Int):Int:=if c<0 then R1 (0-(c+1)) k else R1 c k
theorem qR{a k:Int}(ha:0<=a)(hk:0<k):0<=R1 a k/\R1 a k<k:=⟨Int.tmod_nonneg _ ha,Int.tmod_lt_of_pos _ hk⟩
theorem aR(c:Int){k:Int}(hk:0<k):0<=pk c k/\pk c k<k:=by
 unfold pk;split
 ·exact qR (by omega) hk
 ·exact qR (by omega) hk
abbrev bK(x:Int×Int×Int):List AV:=[.int x.1,.int x.2.1,.int x.2.2]
open Go.Dial.Fwd
abbrev seR(s:Se):List AV:=[.int s.n,.int s.k,.int s.t,.int s.f,.int s.u]
abbrev seL(l:List Se):Lv:=l.map seR
abbrev iL(l:List Int):Lv:=l.map fun x=>[.int x]
abbrev coR(c:Co):List AV:=[.int c.n,.int c.k]
abbrev coL(l:List Co):Lv:=l.map coR
theorem kQ{l:List Se}{i:Nat}{s:Se}(h:l[i]?=some s):cI (seL l) (i:Int) 0=s.n/\cI (seL l) (i:Int) 1=s.k/\cI (seL l) (i:Int) 2=s.t/\cI (seL l) (i:Int) 3=s.f/\cI (seL l) (i:Int) 4=s.u:=by
 have hc:∀k,cA (seL l) (i:Int) k=(seR s).getD k (.int 0):=fun k=>cx (by simpa using h)
 simp only[cI,hc];exact⟨rfl,rfl,rfl,rfl,rfl⟩
theorem vU{l:List Co}{i:Nat}{s:Co}(h:l[i]?=some s):cI (coL l) (i:Int) 0=s.n/\cI (coL l) (i:Int) 1=s.k:=by
 have hc:∀k,cA (coL l) (i:Int) k=(coR s).getD k (.int 0):=fun k=>cx (by simpa using h)
 simp only[cI,hc];exact⟨rfl,rfl⟩
theorem EK(n:Nat)(s:Se):mF n s.n s.k s.t s.f s.u=some (decide (SeF s)):=by
 unfold mF wn SeF;grind
theorem p8(n:Nat)(c:List Co)(x:Int)(hc:c.length<=1000)(hn:c.length<n):dN n (coL c) x=some (dL c x):=by
 unfold dN pQ;rw[dd (len:=c.length) (f:=fun i=>(c[i]?).bind fun y=>if y.n=x then some y.k else none) (e:=0) ?_ ?_ hn]
 ·congr 1
  have key:∀(c d:List Co),gD (fun i=>((d++c)[i]?).bind fun y=>if y.n=x then some y.k else none) 0 c.length d.length=dL c x:=by
   intro c;induction c with
   |nil=>intro d;rfl
   | cons y c ih=>
    intro d;simp only[RM,gD,dL];have hg:(d++y::c)[d.length]?=some y:=by simp
    rw[hg];by_cases h:y.n=x
    ·simp[h]
    ·have:=ih (d++[y])
     simp only[RU,Si,v6,RM,List.length_nil]at this;simpa[h]using this
  exact key c []
 ·intro i go hi
  obtain⟨y,hy⟩:=aF hi;obtain⟨h0,h1⟩:=vU hy;unfold k7;have c1:(i:Int)<(c.length:Int):=by omega
  have c2:(0:Int)<=(i:Int):=by omega
  have c4:(-9223372036854775808:Int)<=(i:Int)+1:=by omega
  have c5:(i:Int)+1<=(9223372036854775807:Int):=by omega
  simp only[hy,h0,h1,v1,c1,c2,c4,c5,decide_true,v4,v0];simp only[cond_true];by_cases h:y.n=x<;>simp[h]
 ·intro go
  unfold k7;simp only[v1,y2,decide_false];simp only[cond_false]
theorem zz(n:Nat)(l:List Se)(a k t:Int)(hl:l.length<=1000)(hn:l.length<n):mI n (seL l) a k t=some (match gY a k t l with|some i=>(i:Int)|none=> -1):=by
 unfold mI zN;rw[dd (len:=l.length) (f:=fun i=>(l[i]?).bind fun y=>if l9 a k t y then some (i:Int)else none) (e:= -1) ?_ ?_ hn]
 ·congr 1
  rcases pj (fun i=>(l[i]?).bind fun y=>if l9 a k t y then some (i:Int)else none) (-1) l.length with⟨i,r,h1,h2,h3,h4⟩|⟨h1,h2⟩
  ·rw[h4]
   obtain⟨y,hy,hr⟩:=Option.bind_eq_some_iff.1 h2;have hf:l9 a k t y:=by
    by_cases hf:l9 a k t y
    ·exact hf
    ·simp[hf]at hr
   have hr':r=(i:Int):=by simpa[hf]using hr.symm
   have:gY a k t l=some i:=by
    unfold gY;rw[List.findIdx?_eq_some_iff_getElem];refine⟨h1,?_,fun j hj=>?_⟩
    ·have:=(List.getElem?_eq_some_iff.1 hy).2
     rw[this];exact decide_eq_true hf
    ·have:=h3 j hj
     rw[v9 (by omega)]at this
     simp only[v0]at this;have hnf:¬l9 a k t l[j]:=fun hff=>by simp[hff]at this
     simp[hnf]
   rw[this,hr']
  ·rw[h2]
   have:gY a k t l=none:=by
    unfold gY;rw[List.findIdx?_eq_none_iff];intro y hy;obtain⟨i,hi,rfl⟩:=Sn hy;have:=h1 i hi
    rw[v9 hi]at this;simp only[v0]at this;have hnf:¬l9 a k t l[i]:=fun hff=>by simp[hff]at this
    simp[hnf]
   rw[this]
 ·intro i go hi
  obtain⟨y,hy⟩:=aF hi;obtain⟨h0,h1,_,h3,h4⟩:=kQ hy;unfold rF l9;have c1:(i:Int)<(l.length:Int):=by omega
  have c2:(0:Int)<=(i:Int):=by omega
  have c4:(-9223372036854775808:Int)<=(i:Int)+1:=by omega
  have c5:(i:Int)+1<=(9223372036854775807:Int):=by omega
  simp only[hy,h0,h1,h3,h4,v1,c1,c2,c4,c5,decide_true,v4,v0];simp only[cond_true];by_cases g1:y.n=a<;>by_cases g2:y.k=k<;>by_cases g3:y.f<=t<;>by_cases g4:t<y.u<;>simp[g1,g2,g3,g4]
 ·intro go
  unfold rF;simp only[v1,y2,decide_false];simp only[cond_false]
theorem Fq(n:Nat)(l:List Se)(c:List Co)(a t:Int)(hl:l.length<=1000)(hc:c.length<=1000)(hn:1000<n):mS n (seL l) (coL c) a t=some (match cnt l c a t with|some i=>(i:Int)|none=> -1):=by
 unfold mS vV cnt;rw[zz n l a 1 t hl (by omega),p8 n c a hc (by omega)]
 simp only[v0];cases gY a 1 t l with
 |some i=>
  have:¬((i:Int)<0):=by omega
  simp[this]
 | none=>
  by_cases h:0<dL c a
  ·rw[zz n l a _ t hl (by omega)]
   simp[h]
  ·simp[h]
theorem JF(n:Nat)(p:List Int)(x:Int)(hp:p.length<=1000)(hn:p.length<n):uq n (iL p) x=some (decide (x∈p)):=by
 unfold uq B0;rw[dd (len:=p.length) (f:=fun i=>(p[i]?).bind fun y=>if y=x then some true else none) (e:=false) ?_ ?_ hn]
 ·congr 1
  rcases pj (fun i=>(p[i]?).bind fun y=>if y=x then some true else none) false p.length with⟨i,r,h1,h2,_,h4⟩|⟨h1,h2⟩
  ·rw[h4]
   obtain⟨y,hy,hr⟩:=Option.bind_eq_some_iff.1 h2;by_cases hf:y=x
   ·subst hf
    have hr':r=true:=by simpa using hr.symm
    rw[hr'];exact(decide_eq_true (v7 hy)).symm
   ·simp[hf]at hr
  ·rw[h2]
   refine(decide_eq_false (fun hx=>?_)).symm
   obtain⟨i,hi⟩:=RO hx;have:=h1 i (List.getElem?_eq_some_iff.1 hi).1
   rw[hi]at this;simp at this
 ·intro i go hi
  obtain⟨y,hy⟩:=aF hi;have h0:cI (iL p) (i:Int) 0=y:=by
   have hc:cA (iL p) (i:Int) 0=([.int y]:List AV).getD 0 (.int 0):=cx (by simpa using hy)
   simp only[cI,hc];rfl
  unfold vq;have c1:(i:Int)<(p.length:Int):=by omega
  have c2:(0:Int)<=(i:Int):=by omega
  have c4:(-9223372036854775808:Int)<=(i:Int)+1:=by omega
  have c5:(i:Int)+1<=(9223372036854775807:Int):=by omega
  simp only[hy,h0,v1,c1,c2,c4,c5,decide_true,v4,v0];simp only[cond_true];by_cases h:y=x<;>simp[h]
 ·intro go
  unfold vq;simp only[v1,y2,decide_false];simp only[cond_false]
def mB(a b:Se):Prop:=a.n=b.n/\a.k=b.k/\aZ a.f b.f<aQ a.u b.u
theorem KQ{a b:Se}(ha:SeF a)(hb:SeF b):mB a b↔gA b a:=by
 obtain⟨_,_,_,_,_,_,_,_,h1,_⟩:=ha;obtain⟨_,_,_,_,_,_,_,_,h2,_⟩:=hb;unfold mB gA aZ aQ;constructor
 ·rintro ⟨g1,g2,g3⟩
  refine⟨g1.symm,g2.symm,?_,?_⟩<;>(split at g3<;>split at g3<;>omega)
 ·rintro ⟨g1,g2,g3,g4⟩
  refine⟨g1.symm,g2.symm,?_⟩
  split<;>split<;>omega
theorem sesP_iff{l:List Se}:iQ [] l↔∀(i:Nat) s,l[i]?=some s->SeF s/\∀(j:Nat) r,j<i->l[j]?=some r->¬mB s r:=by
 constructor
 ·intro h i s hs
  obtain⟨h1,_,h3⟩:=l7 h i s hs;refine⟨h1,fun j r hj hr hc=>h3 j r hj hr ((KQ h1 (l7 h j r hr).1).1 hc)⟩
 ·intro h
  have key:∀(m d:List Se),l=d++m->iQ d m:=by
   intro m;induction m with
   |nil=>intro d _;trivial
   |cons x m ih=>
    intro d hd;have hx:l[d.length]?=some x:=by rw[hd];simp
    obtain⟨h1,h2⟩:=h d.length x hx;refine⟨h1,fun r hr hc=>?_,ih (d++[x]) (by rw[hd];simp)⟩
    obtain⟨j,hj⟩:=RO hr;have hjl:=(List.getElem?_eq_some_iff.1 hj).1;have hjr:l[j]?=some r:=by rw[hd,Sc hjl];exact hj
    exact h2 j r hjl hjr ((KQ h1 (h j r hjr).1).2 hc)
  exact key l [] rfl
theorem NR(n:Nat)(a b:Int->Option Bool)(l:List Se)(i:Nat)(hi:i<l.length)(hl:l.length<=1000):fF n a b (seL l) (i:Int) (i:Int)=a ((i:Int)+1):=by
 unfold fF;have d4:(-9223372036854775808:Int)<=(i:Int)+1:=by omega
 have d5:(i:Int)+1<=(9223372036854775807:Int):=by omega
 rw[decide_eq_false (y2 _),cond_false,decide_eq_true d4,decide_eq_true d5];simp only[cond_true,v4]
theorem O7(n:Nat)(b a:Int->Option Bool){l:List Se}{i j:Nat}{y z:Se}(hy:l[i]?=some y)(hz:l[j]?=some z)(hj:j<i)(hl:l.length<=1000):fF n b a (seL l) (i:Int) (j:Int)=(bif decide (y.n=z.n)then(bif decide (y.k=z.k)then(bif decide (aZ y.f z.f<aQ y.u z.u)then some false else a ((j:Int)+1))else a ((j:Int)+1))else a ((j:Int)+1)):=by
 obtain⟨h0,h1,h2,h3,h4⟩:=kQ hy;obtain⟨k0,k1,_,k3,k4⟩:=kQ hz;have hil:=(List.getElem?_eq_some_iff.1 hy).1;have d3:(j:Int)<((seL l).length:Int):=by rw[v1];omega
 unfold fF;grind
open Classical in
theorem rE(n:Nat)(l:List Se)(hl:l.length<=1000)(hn:1000<n):ia n (seL l)=some (decide (pL l)):=by
 unfold ia sT;by_cases h40:40<l.length
 ·have c1:(40:Int)<(l.length:Int):=by omega
  have c2:¬pL l:=fun h=>by have:=h.1;omega
  simp only[v1,c1,decide_true,cond_true,c2,decide_false]
 ·have c1:¬(40:Int)<(l.length:Int):=by omega
  simp only[v1,c1,decide_false,cond_false];rw[dd (len:=l.length) (f:=fun i=>if ∀s,l[i]?=some s->SeF s/\∀(j:Nat) r,j<i->l[j]?=some r->¬mB s r then none else some false) (e:=true) ?_ ?_ (by omega)]
  ·rw[gU (P:=fun i=>∀s,l[i]?=some s->SeF s/\∀(j:Nat) r,j<i->l[j]?=some r->¬mB s r)]
   congr 1
   rw[RZ,decide_eq_true_iff,decide_eq_true_iff];constructor
   ·intro h
    refine⟨by omega,sesP_iff.2 (fun i s hs=>h i (List.getElem?_eq_some_iff.1 hs).1 s hs)⟩
   ·intro h i _ s hs
    exact sesP_iff.1 h.2 i s hs
  ·intro i go hi
   obtain⟨y,hy⟩:=aF hi;obtain⟨h0,h1,h2,h3,h4⟩:=kQ hy;unfold mf;have c1:(i:Int)<(l.length:Int):=by omega
   have c2:(0:Int)<=(i:Int):=by omega
   rw[h0,h1,h2,h3,h4,EK];simp only[v1,c1,c2,decide_true,v0];simp only[cond_true];by_cases hf:SeF y
   ·simp only[hf,decide_true,v3,cond_false]
    rw[iW (len:=i) (f:=fun j=>if ∀r,l[j]?=some r->¬mB y r then none else some (some false)) (e:=go ((i:Int)+1)) ?_ ?_ (by omega)]
    ·by_cases hall:∀(j:Nat) r,j<i->l[j]?=some r->¬mB y r
     ·rw[og (fun j hj=>if_pos (fun r hr=>hall j r hj hr))]
      rw[if_pos (fun s hs=>by rw[hy]at hs;cases hs;exact⟨hf,hall⟩)]
     ·rw[mc (r:=some false) (fun j _=>by split;exact .inl rfl;exact .inr rfl) ?_]
      ·rw[if_neg (fun h=>hall (h y hy).2)]
      ·refine Classical.byContradiction (fun hno=>hall (fun j r hj hr hc=>hno ⟨j,hj,?_⟩))
       rw[if_neg (fun h=>h r hr hc)]
       simp
    ·intro j a hj
     obtain⟨z,hz⟩:=aF (show j<l.length by omega)
     rw[O7 n go a hy hz hj hl];have e1:(∀r,l[j]?=some r->¬mB y r)↔¬mB y z:=⟨fun h=>h z hz,fun h r hr=>by rw[hz]at hr;cases hr;exact h⟩
     by_cases g1:y.n=z.n
     ·by_cases g2:y.k=z.k
      ·by_cases g3:aZ y.f z.f<aQ y.u z.u
       ·rw[if_neg (fun h=>h z hz ⟨g1,g2,g3⟩),decide_eq_true g1,decide_eq_true g2,decide_eq_true g3];rfl
       ·rw[if_pos (e1.2 (fun h=>g3 h.2.2)),decide_eq_true g1,decide_eq_true g2,decide_eq_false g3];rfl
      ·rw[if_pos (e1.2 (fun h=>g2 h.2.1)),decide_eq_true g1,decide_eq_false g2];rfl
     ·rw[if_pos (e1.2 (fun h=>g1 h.1)),decide_eq_false g1];rfl
    ·intro a
     exact NR n go a l i hi hl
   ·simp only[hf,decide_false,RX,cond_true]
    rw[if_neg (fun h=>hf (h y hy).1)]
  ·intro go
   unfold mf;simp only[v1,y2,decide_false];simp only[cond_false]
def Ez(c:List Co)(i:Nat):Prop:=∀x,c[i]?=some x->0<=x.n/\x.n<=99999999/\2<=x.k/\x.k<=4/\∀y,0<i->c[i-1]?=some y->y.n<x.n
theorem PG{c:List Co}(h:∀i,i<c.length->Ez c i):fX (-1) c:=by
 have key:∀(m d:List Co) (last:Int),c=d++m->(∀x,m[0]?=some x->last<x.n)->fX last m:=by
  intro m;induction m with
  |nil=>intro d last _ _;trivial
  | cons x m ih=>
   intro d last hd hl;have hx:c[d.length]?=some x:=by rw[hd];simp
   obtain⟨_,h2,h3,h4,_⟩:=h d.length (List.getElem?_eq_some_iff.1 hx).1 x hx;refine⟨hl x rfl,h2,h3,h4,ih (d++[x]) x.n (by rw[hd];simp) (fun y hy=>?_)⟩
   have hy':c[d.length+1]?=some y:=by
    rw[hd,RT (by omega)]
    simpa using hy
   exact(h (d.length+1) (List.getElem?_eq_some_iff.1 hy').1 y hy').2.2.2.2 x (by omega) (by simpa using hx)
 exact key c [] (-1) rfl (fun x hx=>by
  have:=(h 0 (List.getElem?_eq_some_iff.1 hx).1 x hx).1;omega)
theorem PK{c:List Co}(h:fX (-1) c)(i:Nat):Ez c i:=by
 intro x hx;obtain⟨h1,h2,h3,h4,h5⟩:=BB h i x hx;exact⟨by omega,h4,h2,h3,fun y hi hy=>h5 (i-1) y (by omega) hy⟩
theorem Nd(n:Nat)(go:Int->Option Bool)(v:Lv)(i p q r:Int)(h0:cI v i 0=p)(h1:cI v i 1=q)(k0:cI v (i-1) 0=r)(hi:0<i)(hlt:i<v.length)(hb:i<=1000):
  dO n go v i=bif decide (0<=p)&&(decide (p<=99999999)&&(decide (2<=q)&&(decide (q<=4)&&decide (r<p))))then go (i+1)else some false:=by
 have hv:(0:Int)<v.length:=by omega
 have i1:(0:Int)<=i:=by omega
 have i2:(0:Int)<=i-1:=by omega
 have i3:i-1<(v.length:Int):=by omega
 have i4:(-9223372036854775808:Int)<=i-1:=by omega
 have i5:i-1<=(9223372036854775807:Int):=by omega
 have i6:(-9223372036854775808:Int)<=i+1:=by omega
 have i7:i+1<=(9223372036854775807:Int):=by omega
 unfold dO;by_cases a1:0<=p
 ·by_cases a2:p<=99999999
  ·by_cases a3:2<=q
   ·by_cases a4:q<=4
    ·by_cases a5:r<p<;>grind
    ·grind
   ·grind
  ·grind
 ·grind
theorem Lx(n:Nat)(go:Int->Option Bool)(v:Lv)(p q:Int)(h0:cI v 0 0=p)(h1:cI v 0 1=q)(hlt:0<(v.length:Int)):
  dO n go v 0=bif decide (0<=p)&&(decide (p<=99999999)&&(decide (2<=q)&&decide (q<=4)))then go (0+1)else some false:=by
 unfold dO;grind
theorem NV(n:Nat)(go:Int->Option Bool){c:List Co}{i:Nat}{x:Co}(hx:c[i]?=some x)(hl:c.length<=1000):(Ez c i->dO n go (coL c) (i:Int)=go ((i:Int)+1))/\(¬Ez c i->dO n go (coL c) (i:Int)=some false):=by
 obtain⟨h0,h1⟩:=vU hx;have hil:=(List.getElem?_eq_some_iff.1 hx).1;have d3:(i:Int)<((coL c).length:Int):=by rw[v1];omega
 by_cases hi:0<i
 ·obtain⟨z,hz⟩:=aF (show i-1<c.length by omega)
  obtain⟨k0,_⟩:=vU hz;have hci:((i-1:Nat):Int)=(i:Int)-1:=by omega
  rw[hci]at k0;rw[Nd n go (coL c) i _ _ _ h0 h1 k0 (by omega) d3 (by omega)]
  refine⟨fun hc=>?_,fun hc=>?_⟩
  ·obtain⟨a1,a2,a3,a4,a5⟩:=hc x hx
   rw[decide_eq_true a1,decide_eq_true a2,decide_eq_true a3,decide_eq_true a4,decide_eq_true (a5 z hi hz)];rfl
  ·have hn:(decide (0<=x.n)&&(decide (x.n<=99999999)&&(decide (2<=x.k)&&(decide (x.k<=4)&&decide (z.n<x.n)))))=false:=by
    rw[R4];intro h;simp only[RQ,decide_eq_true_eq]at h;obtain⟨a1,a2,a3,a4,a5⟩:=h;exact hc (fun y hy=>by rw[hx]at hy;cases hy;exact⟨a1,a2,a3,a4,fun w _ hw=>by rw[hz]at hw;cases hw;exact a5⟩)
   rw[hn];rfl
 ·have hi0:i=0:=by omega
  subst hi0;rw[show((0:Nat):Int)=0 from rfl]at h0 h1 d3⊢
  rw[Lx n go (coL c) _ _ h0 h1 d3];refine⟨fun hc=>?_,fun hc=>?_⟩
  ·obtain⟨a1,a2,a3,a4,_⟩:=hc x hx
   rw[decide_eq_true a1,decide_eq_true a2,decide_eq_true a3,decide_eq_true a4];rfl
  ·have hn:(decide (0<=x.n)&&(decide (x.n<=99999999)&&(decide (2<=x.k)&&decide (x.k<=4))))=false:=by
    rw[R4];intro h;simp only[RQ,decide_eq_true_eq]at h;obtain⟨a1,a2,a3,a4⟩:=h;exact hc (fun y hy=>by rw[hx]at hy;cases hy;exact⟨a1,a2,a3,a4,fun w h _=>by omega⟩)
   rw[hn];rfl
open Classical in
theorem yi(n:Nat)(l:List Se)(c:List Co)(hl:l.length<=1000)(hc:c.length<=1000)(hn:1000<n):ll n (seL l) (coL c)=some (decide (FwV l c)):=by
 unfold ll xN;rw[rE n l hl hn,v0];by_cases hs:pL l
 ·rw[decide_eq_true hs]
  simp only[v3,cond_false];by_cases h40:40<c.length
  ·have c1:(40:Int)<((coL c).length:Int):=by rw[v1];omega
   rw[decide_eq_true c1,cond_true,decide_eq_false (fun h:FwV l c=>by have:=h.2.1;omega)]
  ·have c1:¬(40:Int)<((coL c).length:Int):=by rw[v1];omega
   rw[decide_eq_false c1,cond_false];rw[dd (len:=c.length) (f:=fun i=>if Ez c i then none else some false) (e:=true) ?_ ?_ (by omega)]
   ·rw[gU]
    congr 1
    rw[RZ,decide_eq_true_iff,decide_eq_true_iff];constructor
    ·intro h;exact⟨hs,by omega,PG h⟩
    ·intro h i _;exact PK h.2.2 i
   ·intro i go hi
    obtain⟨x,hx⟩:=aF hi;obtain⟨g1,g2⟩:=NV n go hx hc;by_cases hh:Ez c i
    ·rw[if_pos hh];exact g1 hh
    ·rw[if_neg hh];exact g2 hh
   ·intro go
    unfold dO;rw[v1,decide_eq_false (y2 _),cond_false]
 ·rw[decide_eq_false hs,decide_eq_false (fun h:FwV l c=>hs h.1)]
  rfl
theorem iq(p:List Int)(x:Int):iL p++[[AV.int x]]=iL (p++[x]):=by simp
theorem Nb{l:List Se}{c:List Co}{a t:Int}{i:Nat}(h:cnt l c a t=some i):∃s,l[i]?=some s/\vk l i=s:=by
 have:∃s,l[i]?=some s:=by
  unfold cnt at h;split at h
  ·rename_i j hj;cases h;obtain⟨s,hs,_⟩:=qr hj;exact⟨s,hs⟩
  ·split at h
   ·obtain⟨s,hs,_⟩:=qr h;exact⟨s,hs⟩
   ·cases h
 obtain⟨s,hs⟩:=this;exact⟨s,hs,by unfold vk;rw[v2,hs];rfl⟩
abbrev If(r:Int×List Int×List Int):eJ:=(r.1,iL r.2.1,iL r.2.2,0)
theorem Ay(n:Nat)(l:List Se)(c:List Co)(t:Int)(hl:l.length<=1000)(hc:c.length<=1000)(hn:1000<n):∀(m n':Nat) (x:Int) (p u:List Int),m<n'->u.length+m=7->u.length<=5->p.length=u.length+1 →
  ab (fun a s=>gn n a (seL l) (coL c) t s.1 s.2.1 s.2.2) n' ((x,iL p,iL u):iR)=some (If (jy l c t m x p u)):=by
 intro m;induction m with
 |zero=>intro n' x p u _ h1 h2 _;omega
 | succ m ih=>
  intro n' x p u hm h1 h2 h3;cases n' with
  |zero=>omega
  | succ n'=>
   rw[ae];generalize hg:(ab (fun a s=>gn n a (seL l) (coL c) t s.1 s.2.1 s.2.2) n':iR->Option eJ)=go
   show gn n go (seL l) (coL c) t x (iL p) (iL u)=_
   unfold gn;rw[Fq n l c x t hl hc hn,v0];simp only[jy];cases hcn:cnt l c x t with
   |none=>
    dsimp only;rw[decide_eq_true (show(-1:Int)<0 by decide),cond_true,p8 n c x hc (by omega),v0,v0]
    by_cases hk:0<dL c x
    ·rw[decide_eq_true hk,cond_true,if_pos hk]
    ·rw[decide_eq_false hk,cond_false,if_neg hk]
   | some i=>
    obtain⟨s,hs,hat⟩:=Nb hcn;obtain⟨_,_,h2',_,_⟩:=kQ hs;have hil:=(List.getElem?_eq_some_iff.1 hs).1;dsimp only;rw[decide_eq_false (show ¬(i:Int)<0 by omega),cond_false]
    have elu:((iL u).length:Int)=(u.length:Int):=by rw[v1]
    have elp:((iL p).length:Int)=(p.length:Int):=by rw[v1]
    have ell:((seL l).length:Int)=(l.length:Int):=by rw[v1]
    rw[elu,elp,ell];by_cases h5:u.length=5
    ·rw[decide_eq_true (show(u.length:Int)=5 by omega),cond_true,if_pos h5]
    ·rw[decide_eq_false (show ¬(u.length:Int)=5 by omega),cond_false,if_neg h5,decide_eq_true (show(0:Int)<=(i:Int) by omega),cond_true,decide_eq_true (show(i:Int)<(l.length:Int) by omega),cond_true,h2',hat,
      JF n p s.t (by omega) (by omega),v0,decide_eq_true (show((u.length:Int)+1)*8<=140737488355328 by omega),cond_true,decide_eq_true (show((p.length:Int)+1)*8<=140737488355328 by omega),cond_true,iq,iq]
     by_cases hp:s.t∈p
     ·rw[decide_eq_true hp,cond_true,if_pos hp]
     ·rw[decide_eq_false hp,cond_false,if_neg hp]
      rw[<-hg];exact ih n' s.t (p++[s.t]) (u++[(i:Int)]) (by omega) (by simp;omega) (by simp;omega) (by simp;omega)
theorem D2(n:Nat)(l:List Se)(c:List Co)(a t:Int)(hl:l.length<=1000)(hc:c.length<=1000)(hn:1000<n):
  eN n (seL l) (coL c) a t=some ((nk l c a t).1.1,iL (nk l c a t).1.2.1,iL (nk l c a t).1.2.2,(nk l c a t).2):=by
 unfold eN tp;rw[yi n l c hl hc hn,v0];by_cases hok:Bk l c a t
 ·have e:nk l c a t=(EV l c a t,0):=if_pos hok
  obtain⟨hv,h1,h2,h3,h4⟩:=hok;rw[e,decide_eq_true hv,decide_eq_true h1,cond_true,decide_eq_true h2,decide_eq_false (show ¬t<0 by omega),cond_false,decide_eq_false (show ¬10000000<t by omega),cond_false]
  simp only[v3,cond_false];exact Ay n l c t hl hc hn 7 n a [a] [] (by omega) rfl (by simp) rfl
 ·have e:nk l c a t=((0,[],[]),220):=if_neg hok
  rw[e];by_cases hv:FwV l c
  ·rw [decide_eq_true hv]
   simp only[v3,cond_false];by_cases h1:0<=a
   ·by_cases h2:a<=99999999
    ·by_cases h3:t<0
     ·rw[decide_eq_true h1,cond_true,decide_eq_true h2,decide_eq_true h3];rfl
     ·have h4:10000000<t:=Decidable.byContradiction fun h4=>hok ⟨hv,h1,h2,by omega,by omega⟩
      rw[decide_eq_true h1,cond_true,decide_eq_true h2,decide_eq_false h3,decide_eq_true h4];rfl
    ·rw[decide_eq_true h1,cond_true,decide_eq_false h2];rfl
   ·rw[decide_eq_false h1];rfl
  ·rw[decide_eq_false hv];rfl
theorem Qv(n:Nat)(b a:Int->Option Bool)(v:Lv)(i j p0 p1 p3 p4 q0 q1 q3 q4:Int)(h0:cI (RR i.toNat v) j 0=p0)(h1:cI (RR i.toNat v) j 1=p1)(h3:cI (RR i.toNat v) j 3=p3)(h4:cI (RR i.toNat v) j 4=p4)
  (k0:cI v i 0=q0) (k1:cI v i 1=q1) (k3:cI v i 3=q3) (k4:cI v i 4=q4) (hj:0<=j) (hlt:j<((RR i.toNat v).length:Int)) (hb:j<=1000):
  dh n b a v i j=bif decide (p0=q0)&&(decide (p1=q1)&&((decide (p3<=q3)&&decide (q3<p4))||(decide (q3<=p3)&&decide (p3<q4))))then some false else a (j+1):=by
 have i6:(-9223372036854775808:Int)<=j+1:=by omega
 have i7:j+1<=(9223372036854775807:Int):=by omega
 unfold dh;by_cases a0:p0=q0
 ·by_cases a1:p1=q1
  ·by_cases a2:p3<=q3
   ·by_cases a3:q3<p4<;>by_cases a4:q3<=p3<;>by_cases a5:p3<q4<;>grind
   ·by_cases a4:q3<=p3<;>by_cases a5:p3<q4<;>grind
  ·grind
 ·grind
theorem O6(n:Nat)(a b:Int->Option Bool)(v:Lv)(i j:Int)(hlt:¬j<((RR i.toNat v).length:Int))(hi:0<=i)(hb:i<=1000):dh n a b v i j=a (i+1):=by
 have i6:(-9223372036854775808:Int)<=i+1:=by omega
 have i7:i+1<=(9223372036854775807:Int):=by omega
 unfold dh;rw[decide_eq_false hlt,cond_false,decide_eq_true i6,decide_eq_true i7];rfl
theorem PA{r s:Se}(hr:SeF r)(hs:SeF s):gA r s↔(r.n=s.n/\r.k=s.k/\((r.f<=s.f/\s.f<r.u)\/(s.f<=r.f/\r.f<s.u))):=by
 obtain⟨_,_,_,_,_,_,_,_,h1,_⟩:=hr;obtain⟨_,_,_,_,_,_,_,_,h2,_⟩:=hs;unfold gA;constructor
 ·rintro ⟨a,b,c,d⟩;exact⟨a,b,by omega⟩
 ·rintro ⟨a,b,c⟩;exact⟨a,b,by omega,by omega⟩
theorem NT(n:Nat)(a:Int->Option Bool){l:List Se}{i:Nat}{s:Se}(hs:l[i]?=some s)(hl:l.length<=1000)(hn:1000<n)(hf:∀(j:Nat) r,j<=i->l[j]?=some r->SeF r):
  ab (fun b t=>dh n a b (seL l) (i:Int) t) n (0:Int)=if ∀r∈l.take i,¬gA r s then a ((i:Int)+1)else some false:=by
 have hil:=(List.getElem?_eq_some_iff.1 hs).1;have htl:((RR ((i:Int)).toNat (seL l)).length:Int)=(i:Int):=by
  rw[y3,v1,v8];omega
 obtain⟨k0,k1,_,k3,k4⟩:=kQ hs;rw[iW (len:=i) (f:=fun j=>(l[j]?).bind fun r=>if gA r s then some (some false)else none) (e:=a ((i:Int)+1)) ?_ ?_ (by omega)]
 ·by_cases hall:∀r∈l.take i,¬gA r s
  ·rw[if_pos hall,og]
   intro j hj;obtain⟨r,hr⟩:=aF (show j<l.length by omega)
   have hm:r∈l.take i:=v7 (i:=j) (by rw[RJ,if_pos hj];exact hr)
   simp only[hr,v0];rw[if_neg (hall r hm)]
  ·rw[if_neg hall,mc (r:=some false)]
   ·intro j hj
    obtain⟨r,hr⟩:=aF (show j<l.length by omega)
    simp only[hr,v0];by_cases hc:gA r s
    ·right;rw[if_pos hc]
    ·left;rw[if_neg hc]
   ·refine Classical.byContradiction fun hno=>hall (fun r hr hc=>hno ?_)
    obtain⟨j,hj⟩:=RO hr;rw[RJ]at hj;split at hj
    ·rename_i hji
     refine⟨j,hji,?_⟩
     simp only[hj,v0];rw[if_pos hc];simp
    ·cases hj
 ·intro j b hj
  obtain⟨r,hr⟩:=aF (show j<l.length by omega)
  have hc:∀k,cA (RR ((i:Int)).toNat (seL l)) (j:Int) k=(seR r).getD k (.int 0):=fun k=>by
   rw[v8,<-Sa];exact cx (by simp only[v8];rw[RJ,if_pos hj];exact hr)
  rw[Qv n a b (seL l) i j r.n r.k r.f r.u s.n s.k s.f s.u (by simp only[cI,hc];rfl) (by simp only[cI,hc];rfl) (by simp only[cI,hc];rfl) (by simp only[cI,hc];rfl) k0 k1 k3 k4 (by omega) (by omega) (by omega)]
  have e:=PA (hf j r (by omega) hr) (hf i s (RL _) hs)
  simp only[hr,v0];by_cases hcl:gA r s
  ·rw[if_pos hcl]
   have:=e.1 hcl
   have hb:(decide (r.n=s.n)&&(decide (r.k=s.k)&&((decide (r.f<=s.f)&&decide (s.f<r.u))||(decide (s.f<=r.f)&&decide (r.f<s.u)))))=true:=by
    simp only[RQ,Sz,decide_eq_true_eq];exact this
   rw[hb];rfl
  ·rw[if_neg hcl]
   have hb:(decide (r.n=s.n)&&(decide (r.k=s.k)&&((decide (r.f<=s.f)&&decide (s.f<r.u))||(decide (s.f<=r.f)&&decide (r.f<s.u)))))=false:=by
    rw[R4];intro h;simp only[RQ,Sz,decide_eq_true_eq]at h;exact hcl (e.2 h)
   rw[hb];rfl
 ·intro b
  exact O6 n a b (seL l) i i (by omega) (by omega) (by omega)
theorem zo(s:Se):∀(l d:List Se),iQ d (l++[s])↔iQ d l/\SeF s/\∀r∈d++l,¬gA r s
 |[],d=>by simp[iQ]
 |x::l,d=>by
  have:=zo s l (d++[x])
  simp only[Sd,iQ,this,RU,SA];constructor
  ·rintro ⟨h1,h2,h3,h4,h5⟩;exact⟨⟨h1,h2,h3⟩,h4,h5⟩
  ·rintro ⟨⟨h1,h2,h3⟩,h4,h5⟩;exact⟨h1,h2,h3,h4,h5⟩
theorem Oj{l:List Se}{i:Nat}(h:iQ [] l):iQ [] (l.take i):=by
 refine sesP_iff.2 (fun j s hs=>?_)
 rw[RJ]at hs;split at hs
 ·rename_i hji
  obtain⟨h1,h2⟩:=sesP_iff.1 h j s hs;refine⟨h1,fun k r hk hr=>?_⟩
  rw[RJ,if_pos (by omega)]at hr
  exact h2 k r hk hr
 ·cases hs
theorem MY(n:Nat)(a:Int->Option Bool)(v w:Lv)(i p0 p1 p2 p3 p4:Int)(k0:cI v i 0=p0)(k1:cI v i 1=p1)(k2:cI v i 2=p2)(k3:cI v i 3=p3)(k4:cI v i 4=p4)(hi:0<=i)(hlt:i<(v.length:Int))(R:Option Bool)
  (hR:ab (fun b s=>dh n a b v i s) n (0:Int)=R):
  gv n a v w i=bif decide (0<=p0)&&(decide (p0<=99999999)&&(decide (0<=p2)&&(decide (p2<=99999999)&&(!decide (p0=p2)&&(decide (1<=p1)&&(decide (p1<=4)&&(decide (0<=p3)&&(decide (p3<p4)&&decide (p4<=10000001)))))))))then R else some false:=by
 unfold gv;rw[decide_eq_true hlt,cond_true,decide_eq_true hi,cond_true,decide_eq_true (show i<=(v.length:Int) by omega),cond_true,k0,k1,k2,k3,k4]
 generalize hQ:(ab (fun b s=>dh n a b v i s) n (0:eb):Option cg)=Q
 have:Q=R:=by rw[<-hQ];exact hR
 subst this;cases decide (0<=p0)<;>cases decide (p0<=99999999)<;>cases decide (0<=p2)<;>cases decide (p2<=99999999)<;>cases decide (p0=p2)<;>try rfl
 cases decide (1<=p1)<;>cases decide (p1<=4)<;>cases decide (0<=p3)<;>cases decide (p3<p4)<;>cases decide (p4<=10000001)<;>rfl
theorem Oy(s:Se):(decide (0<=s.n)&&(decide (s.n<=99999999)&&(decide (0<=s.t)&&(decide (s.t<=99999999)&&(!decide (s.n=s.t)&&(decide (1<=s.k)&&(decide (s.k<=4)&&(decide (0<=s.f)&&(decide (s.f<s.u)&&decide (s.u<=10000001))))))))))=decide (SeF s):=by
 rw[RZ];simp only[RQ,Sb,decide_eq_true_eq,decide_eq_false_iff_not];exact Iff.rfl
theorem P5(n:Nat)(go:Int×Int->Option Bool)(w:Lv)(i last p q:Int)(k0:cI w i 0=p)(k1:cI w i 1=q)(hi:0<=i)(hlt:i<(w.length:Int))(hb:i<=1000):
  dJ n go w i last=bif !decide (p<=last)&&(decide (0<=p)&&(decide (p<=99999999)&&(decide (2<=q)&&decide (q<=4))))then go (i+1,p)else some false:=by
 have i6:(-9223372036854775808:Int)<=i+1:=by omega
 have i7:i+1<=(9223372036854775807:Int):=by omega
 unfold dJ;rw[decide_eq_true hlt,cond_true,decide_eq_true hi,cond_true,k0,k1,decide_eq_true i6,decide_eq_true i7];cases decide (p<=last)<;>cases decide (0<=p)<;>cases decide (p<=99999999)<;>cases decide (2<=q)<;>cases decide (q<=4)<;>rfl
theorem NQ(n:Nat)(c:List Co)(hc:c.length<=1000):∀(m n' i:Nat) (last:Int),m<n'->i+m=c.length-> -1<=last →
  ab (fun a s=>dJ n a (coL c) s.1 s.2) n' ((i:Int),last)=some (decide (fX last (c.drop i))):=by
 intro m;induction m with
 | zero=>
  intro n' i last hm hi _;cases n' with
  |zero=>omega
  |succ n'=>
   rw[ae];have hd:c.drop i=[]:=R5 (by omega)
   have hlt:¬(i:Int)<((coL c).length:Int):=by rw[v1];omega
   show dJ n _ (coL c) (i:Int) last=_
   unfold dJ;rw[decide_eq_false hlt,cond_false,hd,decide_eq_true (show fX last []from trivial)]
 | succ m ih=>
  intro n' i last hm hi hl;cases n' with
  |zero=>omega
  | succ n'=>
   rw[ae];obtain⟨x,hx⟩:=aF (show i<c.length by omega)
   obtain⟨k0,k1⟩:=vU hx;have hd:c.drop i=x::c.drop (i+1):=by
    rw[y0 (by omega)]
    congr 1
    exact(List.getElem?_eq_some_iff.1 hx).2
   show dJ n _ (coL c) (i:Int) last=_
   rw[P5 n _ (coL c) i last x.n x.k k0 k1 (by omega) (by rw[v1];omega) (by omega),hd]
   by_cases h:last<x.n/\x.n<=99999999/\2<=x.k/\x.k<=4
   ·obtain⟨h1,h2,h3,h4⟩:=h
    rw[decide_eq_false (show ¬x.n<=last by omega),decide_eq_true (show 0<=x.n by omega),decide_eq_true h2,decide_eq_true h3,decide_eq_true h4]
    simp only[RX,v4,cond_true];have e:=ih n' (i+1) x.n (by omega) (by omega) (by omega)
    rw[show((i+1:Nat):Int)=(i:Int)+1 by omega]at e
    rw[e];congr 1
    rw[RZ,decide_eq_true_iff,decide_eq_true_iff];exact⟨fun h=>⟨h1,h2,h3,h4,h⟩,fun h=>h.2.2.2.2⟩
   ·have hb:(!decide (x.n<=last)&&(decide (0<=x.n)&&(decide (x.n<=99999999)&&(decide (2<=x.k)&&decide (x.k<=4)))))=false:=by
     rw[R4];intro hh;simp only[RQ,Sb,decide_eq_true_eq,decide_eq_false_iff_not]at hh;exact h ⟨by omega,hh.2.2.1,hh.2.2.2.1,hh.2.2.2.2⟩
    rw[hb,cond_false,decide_eq_false (fun hp:fX last (x::c.drop (i+1))=>h ⟨hp.1,hp.2.1,hp.2.2.1,hp.2.2.2.1⟩)]
theorem uQ(n:Nat)(l:List Se)(c:List Co)(hl:l.length<=1000)(hc:c.length<=1000)(hn:1000<n):jp n (seL l) (coL c)=some (decide (FwV l c)):=by
 unfold jp uP;have ell:((seL l).length:Int)=(l.length:Int):=by rw[v1]
 by_cases h40:40<l.length
 ·rw[ell,decide_eq_true (show(40:Int)<(l.length:Int) by omega),cond_true,decide_eq_false (fun h:FwV l c=>by have:=h.1.1;omega)]
 ·rw [ell,decide_eq_false (show ¬(40:Int)<(l.length:Int) by omega),cond_false]
  have key:∀(m n' i:Nat),m<n'->i+m=l.length->iQ [] (l.take i)->ab (fun a s=>gv n a (seL l) (coL c) s) n' (i:Int)=some (decide (FwV l c)):=by
   intro m;induction m with
   | zero=>
    intro n' i hm hi hP;cases n' with
    |zero=>omega
    | succ n'=>
     rw[ae];have hil:i=l.length:=by omega
     subst hil;rw[Ss]at hP;unfold gv;rw[ell,decide_eq_false (y2 _),cond_false];by_cases h4:c.length<=40
     ·rw[decide_eq_true (show((coL c).length:Int)<=40 by rw[v1];omega),cond_true]
      have e:=NQ n c hc c.length n 0 (-1) (by omega) (by omega) (by omega)
      rw[R8]at e;refine e.trans ?_
      congr 1
      rw[RZ,decide_eq_true_iff,decide_eq_true_iff];exact⟨fun h=>⟨⟨by omega,hP⟩,h4,h⟩,fun h=>h.2.2⟩
     ·rw[decide_eq_false (show ¬((coL c).length:Int)<=40 by rw[v1];omega),cond_false,decide_eq_false (fun h:FwV l c=>h4 h.2.1)]
   | succ m ih=>
    intro n' i hm hi hP;cases n' with
    |zero=>omega
    | succ n'=>
     rw[ae];obtain⟨s,hs⟩:=aF (show i<l.length by omega)
     obtain⟨k0,k1,k2,k3,k4⟩:=kQ hs;have ht:l.take (i+1)=l.take i++[s]:=by rw[RV,hs];rfl
     by_cases hf:SeF s
     ·have hall:∀(j:Nat) r,j<=i->l[j]?=some r->SeF r:=fun j r hj hr=>by
       by_cases e:j=i
       ·subst e;rw[hs]at hr;cases hr;exact hf
       ·exact(l7 hP j r (by rw[RJ,if_pos (by omega)];exact hr)).1
      rw[MY n _ (seL l) (coL c) i s.n s.k s.t s.f s.u k0 k1 k2 k3 k4 (by omega) (by omega) _ (NT n _ hs hl hn hall),Oy,decide_eq_true hf,cond_true]
      by_cases hcl:∀r∈l.take i,¬gA r s
      ·rw[if_pos hcl]
       have e:=ih n' (i+1) (by omega) (by omega) (by rw[ht,zo];exact⟨hP,hf,by simpa using hcl⟩)
       rw[show((i+1:Nat):Int)=(i:Int)+1 by omega]at e
       exact e
      ·rw[if_neg hcl,decide_eq_false (fun h:FwV l c=>hcl (by
        have:=Oj (i:=i+1) h.1.2
        rw[ht,zo]at this;simpa using this.2.2))]
     ·rw[MY n _ (seL l) (coL c) i s.n s.k s.t s.f s.u k0 k1 k2 k3 k4 (by omega) (by omega) _ rfl,Oy,decide_eq_false hf,cond_false,decide_eq_false (fun h:FwV l c=>hf (l7 h.1.2 i s hs).1)]
  exact key l.length n 0 (by omega) (by omega) (by simp[iQ])
abbrev sM(t:Int)(l:List Se):Lv:=(ng t l).map r2
abbrev cM(c:List Co):Lv:=(oC c).map r1
def Nx(l:List Se)(c:List Co)(x t b:Int)(a:Bool):Prop:=a=(cnt l c x t).isSome/\∀i,cnt l c x t=some i->b=(i:Int)
theorem Mv{l:List Se}{c:List Co}(h:FwV l c){x t:Int}(hm:dD [.int x,.int 1] (sM t l)=true):Nx l c x t (cd [.int x,.int 1] (sM t l)) true:=by
 have e:=Iz h x t;rw[LY]at hm;obtain⟨a,ha⟩:=Option.isSome_iff_exists.1 hm;rw[ha]at e;dsimp only at e
 rw[OM,ha];cases hc:cnt l c x t with
 |none=>rw[hc]at e;cases e
 |some i=>
  rw[hc]at e;refine⟨by rw[hc];rfl,fun j hj=>?_⟩
  rw[hc]at hj;cases hj
  have:Int.ofNat i=a:=by simpa using e
  exact this.symm
theorem MQ{l:List Se}{c:List Co}(h:FwV l c){x t:Int}(hm:dD [.int x,.int 1] (sM t l)=false):Nx l c x t (cd [.int x,.int (cd [.int x] (cM c))] (sM t l)) (dD [.int x,.int (cd [.int x] (cM c))] (sM t l)):=by
 have e:=Iz h x t;rw[LY]at hm;have ha:dM (x,1) (ng t l)=none:=by
  cases hq:dM (x,1) (ng t l)with
  |none=>rfl
  |some a=>rw[hq]at hm;cases hm
 rw[ha]at e;dsimp only at e
 rw[OD,OM,LY,<-e];cases hc:cnt l c x t with
 |none=>exact⟨by rw[hc];rfl,fun i hi=>by rw[hc]at hi;cases hi⟩
 |some i=>exact⟨by rw[hc];rfl,fun j hj=>by rw[hc]at hj;cases hj;rfl⟩
theorem P0(n:Nat)(l:List Se)(c:List Co)(t:Int)(hv:FwV l c)(hl:l.length<=1000)(hn:1000<n):∀(m n':Nat) (x d:Int) (a:Bool) (p u:List Int),m<n'->u.length+m=7->u.length<=5->p.length=u.length+1->p.getD u.length 0=x->Nx l c x t d a →
  ab (fun b s=>dB n b (seL l) (sM t l) (cM c) s.1 s.2.1 s.2.2.1 s.2.2.2.1) n' ((d,a,iL p,iL u,x):dC)=some (If (jy l c t m x p u)):=by
 intro m;induction m with
 |zero=>intro n' x d a p u _ h1 h2;omega
 | succ m ih=>
  intro n' x d a p u hm h1 h2 h3 hx hg;cases n' with
  |zero=>omega
  | succ n'=>
   rw[ae];generalize hgo:(ab (fun b s=>dB n b (seL l) (sM t l) (cM c) s.1 s.2.1 s.2.2.1 s.2.2.2.1) n':dC->Option aB)=go
   show dB n go (seL l) (sM t l) (cM c) d a (iL p) (iL u)=_
   have elu:((iL u).length:Int)=(u.length:Int):=by rw[v1]
   have elp:((iL p).length:Int)=(p.length:Int):=by rw[v1]
   have ell:((seL l).length:Int)=(l.length:Int):=by rw[v1]
   simp only[jy];unfold dB;obtain⟨hg1,hg2⟩:=hg;cases hcn:cnt l c x t with
   | none=>
    rw[hcn]at hg1;have hg1:a=false:=hg1
    subst hg1;have hcell:cI (iL p) ((p.length:Int)-1) 0=x:=by
     have hc:cA (iL p) ((p.length:Int)-1) 0=([.int x]:List AV).getD 0 (.int 0):=by
      refine cx (f:=fun y=>[AV.int y]) (x:=x) ?_
      rw[show((p.length:Int)-1).toNat=u.length by omega]
      rw[v2]at hx;cases hq:p[u.length]? with
      |none=>have:=List.getElem?_eq_none_iff.1 hq;omega
      |some y=>rw[hq]at hx;simp at hx;rw[hx]
     simp only[cI,hc];rfl
    rw[cond_false,elp,decide_eq_true (show(-9223372036854775808:Int)<=(p.length:Int)-1 by omega),decide_eq_true (show(p.length:Int)-1<=9223372036854775807 by omega),decide_eq_true (show 0<=(p.length:Int)-1 by omega),decide_eq_true (show(p.length:Int)-1<(p.length:Int) by omega),hcell,OD,DM hv.2.2]
    show some (aZ (dL c x) 1,iL p,iL u,0)=_
    congr 2
    unfold aZ;by_cases hk:0<dL c x
    ·rw[if_neg (by omega),if_pos hk]
    ·rw[if_pos (by omega),if_neg hk]
   | some i=>
    rw[hcn]at hg1;have hg1:a=true:=hg1
    subst hg1;have h9:=hg2 i hcn;subst h9;obtain⟨s,hs,hat⟩:=Nb hcn;obtain⟨_,_,h2',_,_⟩:=kQ hs;have hil:=(List.getElem?_eq_some_iff.1 hs).1;dsimp only;rw[cond_true,elu];by_cases h5:u.length=5
    ·rw[decide_eq_true (show(u.length:Int)=5 by omega),cond_true,if_pos h5]
    ·rw [decide_eq_false (show ¬(u.length:Int)=5 by omega),cond_false,if_neg h5,ell,decide_eq_true (show(0:Int)<=(i:Int) by omega),cond_true,decide_eq_true (show(i:Int)<(l.length:Int) by omega),cond_true,hat]
     have ru:decide (((u.length:Int)+1)*8<=140737488355328)=true:=decide_eq_true (by omega)
     have rp:decide (((p.length:Int)+1)*8<=140737488355328)=true:=decide_eq_true (by omega)
     rw[iW (len:=p.length) (f:=fun j=>(p[j]?).bind fun y=>if s.t=y then some (some (5,iL (p++[s.t]),iL (u++[(i:Int)]),0))else none) (e:=some (If (jy l c t m s.t (p++[s.t]) (u++[(i:Int)])))) ?_ ?_ (by omega)]
     ·by_cases hp:s.t∈p
      ·rw[if_pos hp,mc (r:=some (5,iL (p++[s.t]),iL (u++[(i:Int)]),0))]
       ·intro j hj
        obtain⟨y,hy⟩:=aF hj;simp only[hy,v0];by_cases hq:s.t=y
        ·right;rw[if_pos hq]
        ·left;rw[if_neg hq]
       ·obtain⟨j,hj⟩:=RO hp
        refine⟨j,(List.getElem?_eq_some_iff.1 hj).1,?_⟩
        simp only[hj,v0];simp
      ·rw[if_neg hp,og]
       intro j hj;obtain⟨y,hy⟩:=aF hj;simp only[hy,v0];rw[if_neg (fun h:s.t=y=>hp (by rw[h];exact v7 hy))]
     ·intro j g hj
      obtain⟨y,hy⟩:=aF hj;have hcell:cI (iL p) (j:Int) 0=y:=by
       have hc:cA (iL p) (j:Int) 0=([.int y]:List AV).getD 0 (.int 0):=cx (f:=fun z=>[AV.int z]) (by simpa using hy)
       simp only[cI,hc];rfl
      unfold jS;rw[elp,elu,decide_eq_true (show(j:Int)<(p.length:Int) by omega),cond_true,decide_eq_true (show(0:Int)<=(j:Int) by omega),cond_true,h2',hcell,rp,cond_true,ru,cond_true,decide_eq_true (show(-9223372036854775808:Int)<=(j:Int)+1 by omega),decide_eq_true (show(j:Int)+1<=9223372036854775807 by omega),iq,iq]
      simp only[hy,v0];by_cases hq:s.t=y
      ·rw[decide_eq_true hq,if_pos hq];rfl
      ·rw[decide_eq_false hq,if_neg hq];rfl
     ·intro g
      unfold jS;rw[elp,elu,decide_eq_false (y2 _),cond_false,h2',rp,cond_true,ru,cond_true,iq,iq,<-hgo];have hgd:(p++[s.t]).getD (u++[(i:Int)]).length 0=s.t:=by
       rw[v2,RT (by simp;omega)]
       simp[h3]
      cases hmh:dD [.int s.t,.int 1] (sM t l)with
      |true=>
       rw[cond_true];exact ih n' s.t _ _ (p++[s.t]) (u++[(i:Int)]) (by omega) (by simp;omega) (by simp;omega) (by simp;omega) hgd (Mv hv hmh)
      |false=>
       rw[cond_false];exact ih n' s.t _ _ (p++[s.t]) (u++[(i:Int)]) (by omega) (by simp;omega) (by simp;omega) (by simp;omega) hgd (MQ hv hmh)
theorem fr8(n:Nat)(l:List Se)(c:List Co)(a t:Int)(hv:FwV l c)(hl:l.length<=1000)(hc:c.length<=1000)(hn:1000<n):∀(m n' i:Nat),m<n'->i+m=c.length →
  ab (fun b s=>cX n b (seL l) (coL c) a (sM t l) s.1 s.2) n' (((i:Int),cM (c.take i)):eF)=some (If (EV l c a t)):=by
 intro m;induction m with
 | zero=>
  intro n' i hm hi;cases n' with
  |zero=>omega
  | succ n'=>
   rw[ae];have hil:c.take i=c:=y8 (by omega)
   rw[hil];show cX n _ (seL l) (coL c) a (sM t l) (i:Int) (cM c)=_
   unfold cX;rw[decide_eq_false (show ¬(i:Int)<((coL c).length:Int) by rw[v1];omega),cond_false]
   unfold pU;cases hmh:dD [.int a,.int 1] (sM t l)with
   |true=>
    rw[cond_true];exact P0 n l c t hv hl hn 7 n a _ _ [a] [] (by omega) rfl (by simp) rfl rfl (Mv hv hmh)
   |false=>
    rw[cond_false];exact P0 n l c t hv hl hn 7 n a _ _ [a] [] (by omega) rfl (by simp) rfl rfl (MQ hv hmh)
 | succ m ih=>
  intro n' i hm hi;cases n' with
  |zero=>omega
  |succ n'=>
   rw[ae];generalize hgo:(ab (fun b s=>cX n b (seL l) (coL c) a (sM t l) s.1 s.2) n':eF->Option aB)=go
   obtain⟨x,hx⟩:=aF (show i<c.length by omega)
   obtain⟨k0,k1⟩:=vU hx;have ht:c.take (i+1)=c.take i++[x]:=by rw[RV,hx];rfl
   show cX n go (seL l) (coL c) a (sM t l) (i:Int) (cM (c.take i))=_
   unfold cX;rw[decide_eq_true (show(i:Int)<((coL c).length:Int) by rw[v1];omega),cond_true,decide_eq_true (show(0:Int)<=(i:Int) by omega),cond_true,decide_eq_true (show(-9223372036854775808:Int)<=(i:Int)+1 by omega),decide_eq_true (show(i:Int)+1<=9223372036854775807 by omega),k0,k1,Ro,<-hgo]
   have e:=ih n' (i+1) (by omega) (by omega)
   rw[ht,show cM (c.take i++[x])=(kY x.n x.k (oC (c.take i))).map r1 by rw[<-DX],show((i+1:Nat):Int)=(i:Int)+1 by omega]at e
   exact e
theorem fr7(n:Nat)(l:List Se)(c:List Co)(a t:Int)(hv:FwV l c)(hl:l.length<=1000)(hc:c.length<=1000)(hn:1000<n):∀(m n' i:Nat),m<n'->i+m=l.length →
  ab (fun b s=>cY n b (seL l) (coL c) a t s.1 s.2) n' (((i:Int),sM t (l.take i)):gz)=some (If (EV l c a t)):=by
 intro m;induction m with
 | zero=>
  intro n' i hm hi;cases n' with
  |zero=>omega
  |succ n'=>
   rw[ae];have hil:l.take i=l:=y8 (by omega)
   rw[hil];show cY n _ (seL l) (coL c) a t (i:Int) (sM t l)=_
   unfold cY;rw[decide_eq_false (show ¬(i:Int)<((seL l).length:Int) by rw[v1];omega),cond_false]
   exact fr8 n l c a t hv hl hc hn c.length n 0 (by omega) (by omega)
 | succ m ih=>
  intro n' i hm hi;cases n' with
  |zero=>omega
  | succ n'=>
   rw[ae];generalize hgo:(ab (fun b s=>cY n b (seL l) (coL c) a t s.1 s.2) n':gz->Option aB)=go
   obtain⟨x,hx⟩:=aF (show i<l.length by omega)
   obtain⟨k0,k1,_,k3,k4⟩:=kQ hx;have ht:l.take (i+1)=l.take i++[x]:=by rw[RV,hx];rfl
   have htl:(l.take i).length=i:=by rw[y3];omega
   show cY n go (seL l) (coL c) a t (i:Int) (sM t (l.take i))=_
   unfold cY;rw[decide_eq_true (show(i:Int)<((seL l).length:Int) by rw[v1];omega),cond_true,decide_eq_true (show(0:Int)<=(i:Int) by omega),cond_true,decide_eq_true (show(-9223372036854775808:Int)<=(i:Int)+1 by omega),decide_eq_true (show(i:Int)+1<=9223372036854775807 by omega),k0,k1,k3,k4,Rn,<-hgo]
   have e:=ih n' (i+1) (by omega) (by omega)
   have es:sM t (l.take i++[x])=(wg t (ng t (l.take i)) (x,i)).map r2:=by
    show(ng t (l.take i++[x])).map r2=_
    rw[FY,htl]
   rw[ht,es,show((i+1:Nat):Int)=(i:Int)+1 by omega]at e
   unfold wg at e;by_cases h1:x.f<=t
   ·by_cases h2:t<x.u
    ·rw[if_pos ⟨h1,h2⟩]at e
     rw[decide_eq_true h1,decide_eq_true h2];exact e
    ·rw[if_neg (fun h=>h2 h.2)]at e
     rw[decide_eq_true h1,decide_eq_false h2];exact e
   ·rw[if_neg (fun h=>h1 h.1)]at e
    rw[decide_eq_false h1];exact e
theorem BD(n:Nat)(l:List Se)(c:List Co)(a t:Int)(hl:l.length<=1000)(hc:c.length<=1000)(hn:1000<n):
  gE n (seL l) (coL c) a t=some ((nk l c a t).1.1,iL (nk l c a t).1.2.1,iL (nk l c a t).1.2.2,(nk l c a t).2):=by
 unfold gE qd;rw[uQ n l c hl hc hn,v0];unfold pM pP pR pX qa;by_cases hok:Bk l c a t
 ·have e:nk l c a t=(EV l c a t,0):=if_pos hok
  obtain⟨hv,h1,h2,h3,h4⟩:=hok;rw[e,decide_eq_true hv,decide_eq_true h1,cond_true,decide_eq_true h2,decide_eq_true h3,cond_true,decide_eq_true h4];simp only[v3,cond_false];exact fr7 n l c a t hv hl hc hn l.length n 0 (by omega) (by omega)
 ·have e:nk l c a t=((0,[],[]),220):=if_neg hok
  rw[e];by_cases hv:FwV l c
  ·by_cases h1:0<=a
   ·by_cases h2:a<=99999999
    ·by_cases h3:0<=t
     ·have h4:¬t<=10000000:=fun h4=>hok ⟨hv,h1,h2,h3,h4⟩
      rw[decide_eq_true hv,decide_eq_true h1,decide_eq_true h2,decide_eq_true h3,decide_eq_false h4];rfl
     ·rw[decide_eq_true hv,decide_eq_true h1,decide_eq_true h2,decide_eq_false h3];rfl
    ·rw[decide_eq_true hv,decide_eq_true h1,decide_eq_false h2];rfl
   ·rw[decide_eq_true hv,decide_eq_false h1];rfl
  ·rw[decide_eq_false hv];rfl
end Go.Proofs.YtbfkkigbedmhgaaGreat
namespace Go.Proofs.YtbfkkigbedmhgaaGreat
open Go Go.Sx Go.Dial.Flo
abbrev edR(e:Ed):List AV:=[.int e.f,.int e.t,.int e.c]
abbrev edL(l:List Ed):Lv:=l.map edR
theorem ou{l:List Ed}{i:Nat}{e:Ed}(h:l[i]?=some e):cI (edL l) (i:Int) 0=e.f/\cI (edL l) (i:Int) 1=e.t/\cI (edL l) (i:Int) 2=e.c:=by
 have hc:∀k,cA (edL l) (i:Int) k=(edR e).getD k (.int 0):=fun k=>cx (by simpa using h)
 simp only[cI,hc];exact⟨rfl,rfl,rfl⟩
theorem Q0(N:Int)(e:Ed):(decide (0<=e.f)&&(decide (e.f<=N-1)&&(decide (0<=e.t)&&(decide (e.t<=N-1)&&(!decide (e.f=e.t)&&(decide (0<=e.c)&&decide (e.c<=10000)))))))=decide (EdV N e):=by
 rw[RZ];simp only[RQ,Sb,decide_eq_true_eq,decide_eq_false_iff_not];exact Iff.rfl
theorem PU(n:Nat)(go:Int->Option Bool)(N:Int)(v:Lv)(i p q r:Int)(k0:cI v i 0=p)(k1:cI v i 1=q)(k2:cI v i 2=r)(hN0:0<=N)(hN1:N<=12)(hi:0<=i)(hlt:i<(v.length:Int))(hb:i<=1000):
  nl n go N v i=bif decide (0<=p)&&(decide (p<=N-1)&&(decide (0<=q)&&(decide (q<=N-1)&&(!decide (p=q)&&(decide (0<=r)&&decide (r<=10000))))))then go (i+1)else some false:=by
 have i4:(-9223372036854775808:Int)<=N-1:=by omega
 have i5:N-1<=(9223372036854775807:Int):=by omega
 have i6:(-9223372036854775808:Int)<=i+1:=by omega
 have i7:i+1<=(9223372036854775807:Int):=by omega
 unfold nl;rw[decide_eq_true hlt,cond_true,decide_eq_true hi,cond_true,k0,k1,k2,decide_eq_true i4,decide_eq_true i5,decide_eq_true i6,decide_eq_true i7];cases decide (0<=p)<;>cases decide (p<=N-1)<;>cases decide (0<=q)<;>cases decide (q<=N-1)<;>cases decide (p=q)<;>cases decide (0<=r)<;>cases decide (r<=10000)<;>rfl
theorem Mm{N:Int}{es:List Ed}(h0:0<=N)(h1:N<=12)(h2:es.length<=40):decide (∀i,i<es.length->∀e,es[i]?=some e->EdV N e)=decide (NetV N es):=by
 rw[decide_eq_decide];constructor
 ·intro h
  refine⟨h0,h1,h2,fun e he=>?_⟩
  obtain⟨i,hi⟩:=RO he;exact h i (List.getElem?_eq_some_iff.1 hi).1 e hi
 ·intro h i _ e he
  exact h.2.2.2 e (v7 he)
theorem sw(n:Nat)(N:Int)(es:List Ed)(hl:es.length<=1000)(hn:1000<n):iO n N (edL es)=some (decide (NetV N es)):=by
 unfold iO zY;have ell:((edL es).length:Int)=(es.length:Int):=by rw[v1]
 by_cases h0:0<=N
 ·rw [decide_eq_true h0,cond_true]
  by_cases h1:N<=12
  ·rw[decide_eq_true h1,v3,cond_false,ell]
   by_cases h2:es.length<=40
   ·rw[decide_eq_false (show ¬(40:Int)<(es.length:Int) by omega),cond_false]
    rw[dd (len:=es.length) (f:=fun i=>if(∀e,es[i]?=some e->EdV N e)then none else some false) (e:=true) ?_ ?_ (by omega)]
    ·rw[gU,Mm h0 h1 h2]
    ·intro i go hi
     obtain⟨e,he⟩:=aF hi;obtain⟨k0,k1,k2⟩:=ou he;rw[PU n go N (edL es) i e.f e.t e.c k0 k1 k2 h0 h1 (by omega) (by omega) (by omega),Q0]
     by_cases hv:EdV N e
     ·rw[decide_eq_true hv,if_pos (fun e' he'=>by rw[he]at he';cases he';exact hv)];rfl
     ·rw[decide_eq_false hv,if_neg (fun h=>hv (h e he))];rfl
    ·intro go
     unfold nl;rw[ell,decide_eq_false (y2 _),cond_false]
   ·rw[decide_eq_true (show(40:Int)<(es.length:Int) by omega),cond_true,decide_eq_false (fun h:NetV N es=>h2 h.2.2.1)]
  ·rw[decide_eq_false h1,RX,cond_true,decide_eq_false (fun h:NetV N es=>h1 h.2.1)]
 ·rw[decide_eq_false h0,cond_false,decide_eq_false (fun h:NetV N es=>h0 h.1)]
theorem Iv{s:Int}{es:List Ed}{i:Nat}{e:Ed}(h:es[i]?=some e):lvs s (es.drop i)=(if out s e=true then e.c else 0)+lvs s (es.drop (i+1)):=by
 rw[y0 (List.getElem?_eq_some_iff.1 h).1,(List.getElem?_eq_some_iff.1 h).2];rfl
theorem OY{es:List Ed}{s:Int}{α:Type}(hv:∀e∈es,EdV 8 e)(hl:es.length<=40)(step:(Int×Int->Option α)->Int×Int->Option α)(R:Int->α)
  (h1:∀(i:Nat) (acc:Int) e go,es[i]?=some e->0<=acc->acc<=400000->step go ((i:Int),acc)=go ((i:Int)+1,acc+if out s e=true then e.c else 0)) (h2:∀acc go,step go ((es.length:Int),acc)=some (R acc)) (n:Nat) (hn:1000<n):
  ab step n ((0:Int),(0:Int))=some (R (lvs s es)):=by
 have key:∀(m n i:Nat) (acc:Int),m<n->i+m=es.length->0<=acc->acc<=10000*(i:Int)->ab step n ((i:Int),acc)=some (R (acc+lvs s (es.drop i))):=by
  intro m;induction m with
  | zero=>
   intro n i acc hm hi _ _;cases n with
   |zero=>omega
   |succ n=>
    rw[ae];have:i=es.length:=by omega
    subst this;rw[h2,RN];simp only[lvs];rw[Int.add_zero]
  | succ m ih=>
   intro n i acc hm hi h0 hb;cases n with
   |zero=>omega
   |succ n=>
    rw[ae];obtain⟨e,he⟩:=aF (show i<es.length by omega)
    obtain⟨_,_,_,_,_,c0,c1⟩:=hv e (v7 he);rw[h1 i acc e _ he h0 (by omega),Iv he]
    have:=ih n (i+1) (acc+if out s e=true then e.c else 0) (by omega) (by omega) (by split<;>omega) (by split<;>omega)
    rw[show((i+1:Nat):Int)=(i:Int)+1 by omega]at this
    rw[this,Int.add_assoc]
 have:=key es.length n 0 0 (by omega) (by omega) (by omega) (by omega)
 simpa using this
def CB(es:List Ed)(a b s:Int):Int×Bool:=if 0<=a/\a<=7/\0<=b/\b<=7/\a≠b/\k8 a b s then(lvs s es,true)else(0,false)
theorem Lr:IOp.f .shl 1 (8:Int)=256:=by decide
theorem js{s c:Int}(h0:0<=s)(h1:s<=255)(c0:0<=c)(c1:c<=7):decide (IOp.f .and (IOp.f .shr s c) 1=1)=has s c/\decide (IOp.f .and (IOp.f .shr s c) 1=0)= !has s c/\decide (R1 (IOp.f .shr s c) 2=1)=has s c:=
 ⟨(Bb h0 h1 c0 c1).1,(Bb h0 h1 c0 c1).2.1,(Bb h0 h1 c0 c1).2.2.1⟩
theorem Qo(n:Nat)(go:Int×Int->Option (Int×Bool))(v:Lv)(s i acc p q r:Int)(k0:cI v i 0=p)(k1:cI v i 1=q)(k2:cI v i 2=r)(b1 b2:Bool)(hp:0<=p)(hq:0<=q)(hb1:decide (IOp.f .and (IOp.f .shr s p) 1=1)=b1)(hb2:decide (IOp.f .and (IOp.f .shr s q) 1=0)= !b2)(hi:0<=i)(hlt:i<(v.length:Int))(hb:i<=1000)(h0:0<=acc)(h1:acc<=400000)(hr0:0<=r)(hr1:r<=10000):
  eL n go v s i acc=go (i+1,acc+if(b1&& !b2)=true then r else 0):=by
 have i4:(-9223372036854775808:Int)<=acc+r:=by omega
 have i5:acc+r<=(9223372036854775807:Int):=by omega
 have i6:(-9223372036854775808:Int)<=i+1:=by omega
 have i7:i+1<=(9223372036854775807:Int):=by omega
 unfold eL;rw[decide_eq_true hlt,cond_true,decide_eq_true hi,cond_true,k0,k1,k2,decide_eq_true hp,cond_true,decide_eq_true hq,decide_eq_true i4,decide_eq_true i5,decide_eq_true i6,decide_eq_true i7,hb1,hb2];cases b1<;>cases b2<;>simp
theorem m5(n:Nat)(es:List Ed)(a b s:Int)(hv:NetV 8 es)(hn:1000<n):bn n 8 (edL es) a b s=some (CB es a b s):=by
 have hl:=hv.2.2.1;unfold bn ur;rw[sw n 8 es (by omega) hn,v0,decide_eq_true hv,cond_true,Lr]
 have e1:((decide ((-9223372036854775808:Int)<=8-1))&&(decide ((8:Int)-1<=9223372036854775807)))=true:=by decide
 have e2:((decide ((-9223372036854775808:Int)<=256-1))&&(decide ((256:Int)-1<=9223372036854775807)))=true:=by decide
 rw[e1,cond_true,e2,decide_eq_true (show(0:Int)<=8 by omega)]
 unfold CB;by_cases a0:0<=a
 ·rw [decide_eq_true a0,cond_true]
  by_cases a1:a<=7
  ·rw [decide_eq_true (show a<=8-1 by omega),cond_true]
   by_cases b0:0<=b
   ·rw [decide_eq_true b0,cond_true]
    by_cases b1:b<=7
    ·rw [decide_eq_true (show b<=8-1 by omega),cond_true]
     by_cases hab:a=b
     ·rw[decide_eq_true hab,if_neg (fun h=>h.2.2.2.2.1 hab)];rfl
     ·rw [decide_eq_false hab]
      show(bif decide (0<=s)then _ else _)=_
      by_cases s0:0<=s
      ·rw [decide_eq_true s0,cond_true]
       by_cases s1:s<=255
       ·rw [decide_eq_true (show s<=256-1 by omega),v3,cond_false,(js s0 s1 a0 a1).2.1,(js s0 s1 b0 b1).1]
        cases ha:has s a with
        |false=>rw[if_neg (fun h=>by rw[h.2.2.2.2.2.2.2.1]at ha;cases ha)];rfl
        | true=>
         cases hb:has s b with
         |true=>rw[if_neg (fun h=>by rw[h.2.2.2.2.2.2.2.2]at hb;cases hb)];rfl
         | false=>
          rw[if_pos ⟨a0,a1,b0,b1,hab,s0,s1,ha,hb⟩,v3,cond_false,cond_false];refine OY (s:=s) hv.2.2.2 hl (fun c x=>eL n c (edL es) s x.1 x.2) (fun x=>(x,true)) ?_ ?_ n hn
          ·intro i acc e go he h0 h1
           obtain⟨k0,k1,k2⟩:=ou he;obtain⟨f0,f1,t0,t1,_,c0,c1⟩:=hv.2.2.2 e (v7 he);have hil:=(List.getElem?_eq_some_iff.1 he).1;exact Qo n go (edL es) s i acc e.f e.t e.c k0 k1 k2 (has s e.f) (has s e.t) f0 t0 (js s0 s1 f0 (by omega)).1 (js s0 s1 t0 (by omega)).2.1 (by omega) (by rw[v1];omega) (by omega) h0 h1 c0 c1
          ·intro acc go
           show eL n go (edL es) s (es.length:Int) acc=_
           unfold eL;rw[decide_eq_false (show ¬(es.length:Int)<((edL es).length:Int) by rw[v1];omega),cond_false]
       ·rw[decide_eq_false (show ¬s<=256-1 by omega),if_neg (fun h=>s1 h.2.2.2.2.2.2.1)];rfl
      ·rw[decide_eq_false s0,if_neg (fun h=>s0 h.2.2.2.2.2.1)];rfl
    ·rw[decide_eq_false (show ¬b<=8-1 by omega),if_neg (fun h=>b1 h.2.2.2.1)];rfl
   ·rw[decide_eq_false b0,if_neg (fun h=>b0 h.2.2.1)];rfl
  ·rw[decide_eq_false (show ¬a<=8-1 by omega),if_neg (fun h=>a1 h.2.1)];rfl
 ·rw[decide_eq_false a0,if_neg (fun h=>a0 h.1)];rfl
theorem kT{α:Type}{p:Prop}[Decidable p]{A B:α}(h:p):(bif decide p then A else B)=A:=by rw[decide_eq_true h];rfl
theorem kF{α:Type}{p:Prop}[Decidable p]{A B:α}(h:¬p):(bif decide p then A else B)=B:=by rw[decide_eq_false h];rfl
theorem kG{α:Type}{x:Int}{A B:α}(h: -9223372036854775808<=x/\x<=9223372036854775807):(bif decide (-9223372036854775808<=x)&&decide (x<=9223372036854775807)then A else B)=A:=by
 rw[decide_eq_true h.1,decide_eq_true h.2];rfl
theorem kNT{α:Type}{p:Prop}[Decidable p]{A B:α}(h:p):(bif !decide p then A else B)=B:=by rw[decide_eq_true h];rfl
theorem kNF{α:Type}{p:Prop}[Decidable p]{A B:α}(h:¬p):(bif !decide p then A else B)=A:=by rw[decide_eq_false h];rfl
theorem pc(y:Int):∀(M:List Int) (k:Nat),R2 (iL M) k (fun r=>r.set 0 (AV.int y))=iL (M.set k y)
 |[],k=>by cases k<;>rfl
 |x::M,0=>rfl
 |x::M,k+1=>by
  have:=pc y M k
  show[AV.int x]::R2 (iL M) k _=[AV.int x]::iL (M.set k y)
  rw[this]
theorem di(M:List Int)(i:Int):cI (iL M) i 0=M.getD i.toNat 0:=by
 unfold cI cA;rw[v2 (l:=M)];cases h:M[i.toNat]? with
 |none=>
  have:(iL M)[i.toNat]?=none:=by simp[h]
  simp[List.getD,this]
 |some x=>
  have:(iL M)[i.toNat]?=some [AV.int x]:=by simp[h]
  simp[List.getD,this]
theorem xr(M:List Int)(a b:Nat):cI (iL M) (((a:Int)*14)+(b:Int)) 0=gM M a b:=by
 rw[di];unfold gM;congr 1
theorem vz(M:List Int)(a b:Nat)(y:Int):R2 (iL M) (((a:Int)*14)+(b:Int)).toNat (fun r=>r.set 0 (AV.int y))=iL (px M a b y):=by
 rw[pc];unfold px;congr 2
theorem ah(M:List Int):((iL M).length:Int)=(M.length:Int):=by rw[v1]
theorem dZ(M:List Ed):((edL M).length:Int)=(M.length:Int):=by rw[v1]
def sG:List Int->List Ed->List Int
 |_,[]=>[]
 |U,e::es=>
  let k:=aQ e.c (gM U e.f.toNat e.t.toNat)
  k::sG (px U e.f.toNat e.t.toNat (gM U e.f.toNat e.t.toNat-k)) es
def BdM(U:List Int):Prop:=U.length=196/\∀c d,c<14->d<14->0<=gM U c d/\gM U c d<=800000
theorem m28(n:Nat)(b:ba->Option aa)(es:List Ed)(a:Int)(hv:NetV 8 es):∀(m n' i:Nat) (out U:List Int),m<n'->i+m=es.length->out.length=i->BdM U →
  ab (fun f s=>gL n b f (edL es) a s.1 s.2.1 s.2.2) n' ((iL out,(i:Int),iL U):aN)=some (iL (out++sG U (es.drop i)),a,0):=by
 have h40:=hv.2.2.1;intro m;induction m with
 | zero=>
  intro n' i out U hm hi ho hU;cases n' with
  |zero=>omega
  |succ n'=>
   rw[ae];show gL n b _ (edL es) a (iL out) (i:Int) (iL U)=_
   unfold gL;rw[kF (show ¬(i:Int)<((edL es).length:Int) by rw[dZ];omega)]
   have:es.drop i=[]:=R5 (by omega)
   rw[this];simp only[sG,Sh]
 | succ m ih=>
  intro n' i out U hm hi ho hU;cases n' with
  |zero=>omega
  | succ n'=>
   rw[ae];generalize hgo:(ab (fun f s=>gL n b f (edL es) a s.1 s.2.1 s.2.2) n':aN->Option aa)=go
   obtain⟨e,he⟩:=aF (show i<es.length by omega)
   obtain⟨k0,k1,k2⟩:=ou he;obtain⟨f0,f1,t0,t1,_,c0,c1⟩:=hv.2.2.2 e (v7 he);have ef:e.f=((e.f.toNat:Nat):Int):=by omega
   have et:e.t=((e.t.toNat:Nat):Int):=by omega
   have hg:=hU.2 e.f.toNat e.t.toNat (by omega) (by omega)
   show gL n b go (edL es) a (iL out) (i:Int) (iL U)=_
   unfold gL;have hmin:0<=aQ e.c (gM U e.f.toNat e.t.toNat)/\aQ e.c (gM U e.f.toNat e.t.toNat)<=gM U e.f.toNat e.t.toNat:=by unfold aQ;split<;>omega
   have hgg:cI (iL U) ((e.f*14)+e.t) 0=gM U e.f.toNat e.t.toNat:=by rw[<-xr,<-ef,<-et]
   rw[k0,k1,k2,hgg];rw[kT (show(i:Int)<((edL es).length:Int) by rw[dZ];omega),kT (show(0:Int)<=(i:Int) by omega),kT f0,kT (show e.f<14 by omega),kT (show e.f*14<((iL U).length:Int) by rw[ah,hU.1];omega),kT t0,kT (show e.t<14 by omega),kT (show e.f*14+e.t<((iL U).length:Int) by rw[ah,hU.1];omega),
    kG (by omega),kT (show((((iL out).length:Int)+1)*8)<=140737488355328 by rw[ah];omega),kG (by omega)]
   rw[show(e.f*14+e.t).toNat=(((e.f.toNat:Nat):Int)*14+((e.t.toNat:Nat):Int)).toNat by omega,vz,iq,<-hgo]
   have hd:es.drop i=e::es.drop (i+1):=by
    rw[y0 (by omega)]
    congr 1
    exact(List.getElem?_eq_some_iff.1 he).2
   have:=ih n' (i+1) (out++[aQ e.c (gM U e.f.toNat e.t.toNat)]) (px U e.f.toNat e.t.toNat (gM U e.f.toNat e.t.toNat-aQ e.c (gM U e.f.toNat e.t.toNat))) (by omega) (by omega) (by simp[ho]) ⟨by rw[jR];exact hU.1,fun c d hc hd=>by
    rw[yG hU.1 (by omega) (by omega) hd]
    have:=hU.2 c d hc hd
    split<;>omega⟩
   rw[show((i+1:Nat):Int)=(i:Int)+1 by omega]at this
   rw[this,hd];simp only[sG,RU,Si]
def fZ(M0 M:List Int):List Int:=List.zipWith (fun x y=>aZ (x-y) 0) M0 M
def jA(M0 M:List Int)(i:Nat):List Int:=(fZ M0 M).take i++M0.drop i
theorem qP{M0 M:List Int}(h0:M0.length=196)(h:M.length=196):(fZ M0 M).length=196:=by
 unfold fZ;rw[List.length_zipWith,h0,h];rfl
theorem OX{M0 M:List Int}(h0:M0.length=196)(h:M.length=196){i:Nat}(hi:i<=196):(jA M0 M i).length=196:=by
 unfold jA;rw[v6,y3,List.length_drop,qP h0 h,h0];omega
theorem Pp{M0 M:List Int}(h0:M0.length=196)(h:M.length=196){i:Nat}(hi:i<196):(jA M0 M i).getD i 0=M0.getD i 0:=by
 unfold jA;rw[v2,v2,RT (by rw[y3,qP h0 h];omega),y3,qP h0 h,So]
 congr 2
 omega
theorem KM{M0 M:List Int}(h0:M0.length=196)(h:M.length=196){i:Nat}(hi:i<196):(fZ M0 M).getD i 0=aZ (M0.getD i 0-M.getD i 0) 0:=by
 unfold fZ;rw[v2,List.getElem?_zipWith,v2,v2,v9 (by omega),v9 (by omega)]
 rfl
theorem O5{M0 M:List Int}(h0:M0.length=196)(h:M.length=196){i:Nat}(hi:i<196):(jA M0 M i).set i (aZ (M0.getD i 0-M.getD i 0) 0)=jA M0 M (i+1):=by
 rw[<-KM h0 h hi];have hd:=qP h0 h;unfold jA;have e1:M0.drop i=M0[i]::M0.drop (i+1):=y0 (by omega)
 have e2:(fZ M0 M).take (i+1)=(fZ M0 M).take i++[(fZ M0 M)[i]]:=by rw[RV,v9 (by omega)];rfl
 have e3:(fZ M0 M).getD i 0=(fZ M0 M)[i]:=by rw[v2,v9 (by omega)];rfl
 rw[e3,e2,e1,Sj _ _ (by rw[y3];omega),y3,show i-min i (fZ M0 M).length=0 by omega,RU]
 rfl
theorem O2{M0 M:List Int}(h0:M0.length=196)(h:M.length=196):jA M0 M 196=fZ M0 M:=by
 unfold jA;rw[y8 (by rw[qP h0 h];omega),R5 (by omega),Sh]
theorem m27(n:Nat)(a:aC->Option aa)(M0 M:List Int)(k:Nat)(hk:k<14)(h0:BdM M0)(h1:BdM M):∀(m n' j:Nat),m<n'->j+m=14 →
  ab (fun b s=>gV n a b (iL M) (k:Int) s.1 s.2) n' (((j:Int),iL (jA M0 M (k*14+j))):aC)=a ((k:Int)+1,iL (jA M0 M ((k+1)*14))):=by
 intro m;induction m with
 | zero=>
  intro n' j hm hj;cases n' with
  |zero=>omega
  |succ n'=>
   rw[ae];show gV n a _ (iL M) (k:Int) (j:Int) _=_
   unfold gV;rw[kF (show ¬(j:Int)<14 by omega),kG (by omega),show k*14+j=(k+1)*14 by omega]
 | succ m ih=>
  intro n' j hm hj;cases n' with
  |zero=>omega
  | succ n'=>
   rw[ae];generalize hgo:(ab (fun b s=>gV n a b (iL M) (k:Int) s.1 s.2) n':aC->Option aa)=go
   show gV n a go (iL M) (k:Int) (j:Int) _=_
   unfold gV;have hml:(jA M0 M (k*14+j)).length=196:=OX h0.1 h1.1 (by omega)
   have e1:cI (iL (jA M0 M (k*14+j))) ((k:Int)*14+(j:Int)) 0=gM M0 k j:=by
    rw[xr];exact Pp h0.1 h1.1 (by omega)
   have b0:=h0.2 k j hk (by omega)
   have b1:=h1.2 k j hk (by omega)
   rw[kT (show(j:Int)<14 by omega),kT (show(0:Int)<=(k:Int) by omega),kT (show(k:Int)*14<((iL (jA M0 M (k*14+j))).length:Int) by rw[ah,hml];omega),kT (show(0:Int)<=(j:Int) by omega),kT (show(k:Int)*14+(j:Int)<((iL (jA M0 M (k*14+j))).length:Int) by rw[ah,hml];omega),
    kT (show(k:Int)*14<((iL M).length:Int) by rw[ah,h1.1];omega),kT (show(k:Int)*14+(j:Int)<((iL M).length:Int) by rw[ah,h1.1];omega),e1,xr,kG (by omega),kG (by omega),vz,<-hgo]
   have e2:px (jA M0 M (k*14+j)) k j (aZ (gM M0 k j-gM M k j) 0)=jA M0 M (k*14+(j+1)):=O5 h0.1 h1.1 (by omega)
   rw[e2];have:=ih n' (j+1) (by omega) (by omega)
   rw[show((j+1:Nat):Int)=(j:Int)+1 by omega]at this
   exact this
theorem QK{M0 M:List Int}(h0:BdM M0)(h1:BdM M):BdM (fZ M0 M):=by
 refine⟨qP h0.1 h1.1,fun c d hc hd=>?_⟩
 have b0:=h0.2 c d hc hd;have b1:=h1.2 c d hc hd;have:gM (fZ M0 M) c d=aZ (gM M0 c d-gM M c d) 0:=KM h0.1 h1.1 (by omega)
 rw[this];unfold aZ;split<;>omega
theorem m26(n:Nat)(b:ba->Option aa)(es:List Ed)(M0 M:List Int)(a:Int)(hv:NetV 8 es)(h0:BdM M0)(h1:BdM M)(hn:1000<n):∀(m n' k:Nat),m<n'->k+m=14 →
  ab (fun c s=>gR n b c (edL es) (iL M) a s.1 s.2) n' (((k:Int),iL (jA M0 M (k*14))):aC)=some (iL (sG (fZ M0 M) es),a,0):=by
 have h40:=hv.2.2.1;intro m;induction m with
 | zero=>
  intro n' k hm hk;cases n' with
  |zero=>omega
  |succ n'=>
   rw[ae];show gR n b _ (edL es) (iL M) a (k:Int) _=_
   unfold gR;have hk14:k=14:=by omega
   subst hk14;rw[kF (show ¬((14:Nat):Int)<14 by omega),O2 h0.1 h1.1]
   exact m28 n b es a hv es.length n 0 [] (fZ M0 M) (by omega) (by omega) rfl (QK h0 h1)
 | succ m ih=>
  intro n' k hm hk;cases n' with
  |zero=>omega
  |succ n'=>
   rw[ae];generalize hgo:(ab (fun c s=>gR n b c (edL es) (iL M) a s.1 s.2) n':aC->Option aa)=go
   show gR n b go (edL es) (iL M) a (k:Int) _=_
   unfold gR;rw[kT (show(k:Int)<14 by omega)]
   have e:=m27 n go M0 M k (by omega) h0 h1 14 n 0 (by omega) (by omega)
   refine e.trans ?_
   have:=ih n' (k+1) (by omega) (by omega)
   rw[show((k+1:Nat):Int)=(k:Int)+1 by omega]at this
   rw[<-hgo];exact this
theorem KR:v5 ((196:Int)).toNat [(AV.int 0)]=iL (v5 196 0):=by
 show _=(v5 196 (0:Int)).map _
 rw[R9];rfl
theorem H7{es:List Ed}(hv:NetV 8 es):BdM (cQ es):=by
 refine⟨Kv es,fun c d hc hd=>?_⟩
 rw[mv (by decide) hv.2.2.2 c d hd]
 have:=vW hv.2.2.2 c d
 have:=hv.2.2.1
 omega
theorem FS{es:List Ed}(hv:NetV 8 es)(i:Nat):NetV 8 (es.take i):=
 ⟨hv.1,hv.2.1,by rw[y3];have:=hv.2.2.1;omega,fun e he=>hv.2.2.2 e (List.mem_of_mem_take he)⟩
theorem m25(n:Nat)(b:ba->Option aa)(es:List Ed)(M:List Int)(a:Int)(hv:NetV 8 es)(h1:BdM M)(hn:1000<n):∀(m n' i:Nat),m<n'->i+m=es.length →
  ab (fun c s=>gO n b c (edL es) (iL M) a s.1 s.2) n' (((i:Int),iL (cQ (es.take i))):aC)=some (iL (sG (fZ (cQ es) M) es),a,0):=by
 have h40:=hv.2.2.1;intro m;induction m with
 | zero=>
  intro n' i hm hi;cases n' with
  |zero=>omega
  |succ n'=>
   rw[ae];show gO n b _ (edL es) (iL M) a (i:Int) _=_
   unfold gO;rw[kF (show ¬(i:Int)<((edL es).length:Int) by rw[dZ];omega),y8 (by omega)]
   exact m26 n b es (cQ es) M a hv (H7 hv) h1 hn 14 n 0 (by omega) (by omega)
 | succ m ih=>
  intro n' i hm hi;cases n' with
  |zero=>omega
  | succ n'=>
   rw[ae];generalize hgo:(ab (fun c s=>gO n b c (edL es) (iL M) a s.1 s.2) n':aC->Option aa)=go
   obtain⟨e,he⟩:=aF (show i<es.length by omega)
   obtain⟨k0,k1,k2⟩:=ou he;obtain⟨f0,f1,t0,t1,_,c0,c1⟩:=hv.2.2.2 e (v7 he);have hb:=H7 (FS hv i);have hg:=hb.2 e.f.toNat e.t.toNat (by omega) (by omega)
   have ht:es.take (i+1)=es.take i++[e]:=by rw[RV,he];rfl
   show gO n b go (edL es) (iL M) a (i:Int) _=_
   unfold gO;have hgg:cI (iL (cQ (es.take i))) ((e.f*14)+e.t) 0=gM (cQ (es.take i)) e.f.toNat e.t.toNat:=by rw[<-xr];congr 1;omega
   rw[k0,k1,k2,hgg];rw[kT (show(i:Int)<((edL es).length:Int) by rw[dZ];omega),kT (show(0:Int)<=(i:Int) by omega),kT f0,kT (show e.f<14 by omega),kT (show e.f*14<((iL (cQ (es.take i))).length:Int) by rw[ah,hb.1];omega),kT t0,kT (show e.t<14 by omega),kT (show e.f*14+e.t<((iL (cQ (es.take i))).length:Int) by rw[ah,hb.1];omega),
    kG (by omega),kG (by omega)]
   rw[show(e.f*14+e.t).toNat=(((e.f.toNat:Nat):Int)*14+((e.t.toNat:Nat):Int)).toNat by omega,vz,<-hgo]
   have:=ih n' (i+1) (by omega) (by omega)
   rw[show((i+1:Nat):Int)=(i:Int)+1 by omega,ht,Jn]at this
   exact this
def gW:Nat->List Int->Int
 |0,_=>0
 |k+1,L=>if 0<L.getD k 0 then om (gW k L) k else gW k L
theorem Ft{L:List Int}(h:∀x,8<=x->x<14->L.getD x 0=0):∀k:Nat,k<=14->0<=gW k L/\gW k L<=255/\∀c:Nat,has (gW k L) (c:Int)=decide (c<k/\0<L.getD c 0)
 |0,_=>by
  refine⟨by simp[gW],by simp[gW],fun c=>?_⟩
  rw[decide_eq_false (by omega)]
  simp[gW,has]
 | k+1,hk=>by
  obtain⟨h0,h1,h2⟩:=Ft h k (by omega)
  unfold gW;by_cases hp:0<L.getD k 0
  ·have hk8:k<8:=by
    by_cases hk8:k<8
    ·exact hk8
    ·have:=h k (by omega) (by omega);omega
   rw[if_pos hp];obtain⟨b0,b1⟩:=PB (c:=(k:Int)) h0 h1 (by omega) (by omega)
   refine⟨b0,b1,fun c=>?_⟩
   rw[PI (by omega) (by omega),h2 c]
   by_cases e:c=k
   ·subst e
    rw[decide_eq_true (show(c:Int)=(c:Int)from rfl),Bool.or_true,decide_eq_true ⟨by omega,hp⟩]
   ·rw[decide_eq_false (show ¬(c:Int)=(k:Int) by omega),Bool.or_false,decide_eq_decide]
    omega
  ·rw[if_neg hp]
   refine⟨h0,h1,fun c=>?_⟩
   rw[h2 c,decide_eq_decide];by_cases e:c=k
   ·subst e;omega
   ·omega
theorem m24(n:Nat)(a:aK->Option aa)(es:List Ed)(M L:List Int)(hv:NetV 8 es)(h1:BdM M)(hL:L.length=14)(hz:∀x,8<=x->x<14->L.getD x 0=0)(hn:1000<n):∀(m n' i:Nat),m<n'->i+m=14 →
  ab (fun b s=>fp n a b (edL es) (iL M) (iL L) s.1 s.2) n' ((gW i L,(i:Int)):ba)=some (iL (sG (fZ (cQ es) M) es),gW 14 L,0):=by
 intro m;induction m with
 | zero=>
  intro n' i hm hi;cases n' with
  |zero=>omega
  |succ n'=>
   rw[ae];generalize hgo:(ab (fun b s=>fp n a b (edL es) (iL M) (iL L) s.1 s.2) n':ba->Option aa)=go
   show fp n a go (edL es) (iL M) (iL L) (gW i L) (i:Int)=_
   unfold fp;have hi14:i=14:=by omega
   subst hi14;rw[kF (show ¬((14:Nat):Int)<14 by omega),KR]
   exact m25 n go es M (gW 14 L) hv h1 hn es.length n 0 (by have:=hv.2.2.1;omega) (by omega)
 | succ m ih=>
  intro n' i hm hi;cases n' with
  |zero=>omega
  | succ n'=>
   rw[ae];generalize hgo:(ab (fun b s=>fp n a b (edL es) (iL M) (iL L) s.1 s.2) n':ba->Option aa)=go
   show fp n a go (edL es) (iL M) (iL L) (gW i L) (i:Int)=_
   unfold fp;have hc:cI (iL L) (i:Int) 0=L.getD i 0:=by rw[di,v8]
   have hs:gW (i+1) L=if 0<L.getD i 0 then om (gW i L) i else gW i L:=rfl
   have:=ih n' (i+1) (by omega) (by omega)
   rw[show((i+1:Nat):Int)=(i:Int)+1 by omega,hgo]at this
   rw[kT (show(i:Int)<14 by omega),kT (show(0:Int)<=(i:Int) by omega),hc]
   by_cases hp:0<L.getD i 0
   ·have hk8:i<8:=by
     by_cases hk8:i<8
     ·exact hk8
     ·have:=hz i (by omega) (by omega);omega
    rw[if_pos hp]at hs;obtain⟨b0,b1,_⟩:=Ft hz i (by omega)
    rw[kT hp,kG (by omega),(Bb b0 b1 (show(0:Int)<=(i:Int) by omega) (by omega)).2.2.2,<-hs]
    exact this
   ·rw[if_neg hp]at hs
    rw[kF hp,kG (by omega),<-hs]
    exact this
def Bd2(M:List Int):Prop:=M.length=196/\∀c d,c<14->d<14->0<=gM M c d/\gM M c d+gM M d c<=800000
theorem OC{M:List Int}(h:Bd2 M):BdM M:=⟨h.1,fun c d hc hd=>by have h1:=h.2 c d hc hd;have h2:=h.2 d c hd hc;omega⟩
theorem N9{M:List Int}{room:Int}{p x:Nat}(h:Bd2 M)(h0:0<=room)(h1:room<=gM M p x)(hp:p<14)(hx:x<14)(hne:x≠p):Bd2 (lU room M p x):=by
 refine⟨by unfold lU;rw[jR,jR];exact h.1,fun c d hc hd=>?_⟩
 have hcd:=h.2 c d hc hd;have hdc:=h.2 d c hd hc;have hxp:=h.2 x p hx hp;have hpx:=h.2 p x hp hx;rw[f9 h.1 hp hx hd hne,f9 h.1 hp hx hc hne];by_cases e1:c=x/\d=p
 ·obtain⟨rfl,rfl⟩:=e1
  rw[if_pos ⟨rfl,rfl⟩,if_neg (fun e=>hne e.1.symm),if_pos ⟨rfl,rfl⟩]
  omega
 ·by_cases e2:c=p/\d=x
  ·obtain⟨rfl,rfl⟩:=e2
   rw[if_neg (fun e=>hne e.1.symm),if_pos ⟨rfl,rfl⟩,if_pos ⟨rfl,rfl⟩]
   omega
  ·rw[if_neg e1,if_neg e2,if_neg (fun e=>e2 ⟨e.2,e.1⟩),if_neg (fun e=>e1 ⟨e.2,e.1⟩)]
   omega
theorem m21(n:Nat)(f:aK->Option aa)(g:aN->Option aa)(M L:List Int)(a b:Nat)(value j d:Int)(e c:Lv)(ha:a<14)(hM:M.length=196)
  (hL:R2 c (d).toNat (fun r=>r.set 0 (AV.int ((cI e 0 0)+1)))=iL L) (h14:(c.length:Int)=14):∀(ps:List Nat) (x:Nat) (r:Int) (n':Nat),Dial.Flo.Way M L a x ps->ps.length<n' →
  ab (fun i s=>gQ n f g i (a:Int) (b:Int) value j (iL M) e d c s.1 s.2) n' (((x:Int),r):ba)=ab (fun i s=>fm n f g i (a:Int) value j e d c (gB M x ps r) s.1 s.2) n (((b:Int),iL M):aC):=by
 intro ps;induction ps with
 | nil=>
  intro x r n' hw hl;cases hw
  cases n' with
  |zero=>omega
  |succ n'=>
   rw[ae];show gQ n f g _ (a:Int) (b:Int) value j (iL M) e d c (a:Int) r=_
   unfold gQ;rw[kNT rfl];rfl
 | cons p ps ih=>
  intro x r n' hw hl;cases hw with
  |step _ _ _ h hLx hMx hx hn hax=>
  cases n' with
  |zero=>omega
  | succ n'=>
   rw[ae];generalize hgo:(ab (fun i s=>gQ n f g i (a:Int) (b:Int) value j (iL M) e d c s.1 s.2) n':ba->Option aa)=go
   show gQ n f g go (a:Int) (b:Int) value j (iL M) e d c (x:Int) r=_
   have hp:p<14:=pw ha h p (RK ..)
   have hc:cI (iL L) (x:Int) 0=(p:Int)+1:=by rw[di,v8];exact hLx
   unfold gQ;rw[hL,hc,kNF (show ¬(x:Int)=(a:Int) by omega),kT (show(0:Int)<=(x:Int) by omega),kT (show(x:Int)<14 by omega),h14,kT (show(x:Int)<14 by omega),kG (by omega),
    show(p:Int)+1-1=(p:Int) by omega,kT (show(0:Int)<=(p:Int) by omega),kT (show(p:Int)<14 by omega),kT (show(p:Int)*14<((iL M).length:Int) by rw[ah,hM];omega),kT (show(p:Int)*14+(x:Int)<((iL M).length:Int) by rw[ah,hM];omega),xr,<-hgo]
   exact ih p (aQ r (gM M p x)) n' h (by simp only[RM]at hl;omega)
theorem m22(n:Nat)(f:aK->Option aa)(j:aN->Option aa)(N L:List Int)(a:Nat)(value l g room:Int)(i b:Lv)(ha:a<14)(h0:0<=room)(hvl:0<=value/\value+room<=9223372036854775807)
  (hL:R2 b (g).toNat (fun r=>r.set 0 (AV.int ((cI i 0 0)+1)))=iL L) (h14:(b.length:Int)=14):∀(ps:List Nat) (x:Nat) (r:Int) (M:List Int) (n':Nat),Dial.Flo.Way N L a x ps->ps.length<n'->0<r->room<=gB N x ps r->Bd2 M->(∀c∈x::ps,∀d∈x::ps,gM M c d=gM N c d) →
  ab (fun k s=>fm n f j k (a:Int) value l i g b room s.1 s.2) n' (((x:Int),iL M):aC)=f (value+room,l,iL (qK room x ps M)):=by
 intro ps;induction ps with
 | nil=>
  intro x r M n' hw hl hr hle hM hag;cases hw
  cases n' with
  |zero=>omega
  |succ n'=>
   rw[ae];show fm n f j _ (a:Int) value l i g b room (a:Int) (iL M)=_
   unfold fm;rw[kNT rfl,kG (by omega)]
   rfl
 | cons p ps ih=>
  intro x r M n' hw hl hr hle hM hag;cases hw with
  |step _ _ _ h hLx hMx hx hn hax=>
  cases n' with
  |zero=>omega
  | succ n'=>
   rw[ae];generalize hgo:(ab (fun k s=>fm n f j k (a:Int) value l i g b room s.1 s.2) n':aC->Option aa)=go
   show fm n f j go (a:Int) value l i g b room (x:Int) (iL M)=_
   have hp:p<14:=pw ha h p (RK ..)
   have hne:x≠p:=fun e=>hn (by rw[e];exact RK ..)
   have hc:cI (iL L) (x:Int) 0=(p:Int)+1:=by rw[di,v8];exact hLx
   simp only[gB]at hle;obtain⟨i1,i2,i3⟩:=EQ r (gM N p x);have hri:=i3 hr hMx;obtain⟨g1,g2⟩:=AY h _ hri;have hroom:room<=gM M p x:=by
    rw[hag p (by simp) x (by simp)];omega
   have hpx:=hM.2 p x hp hx;have hxp:=hM.2 x p hx hp;have e1:cI (iL (px M p x (gM M p x-room))) ((x:Int)*14+(p:Int)) 0=gM M x p:=by
    rw[xr,yG hM.1 hp hx hp,if_neg (fun e=>hne e.1)]
   unfold fm;rw[hL,hc,kNF (show ¬(x:Int)=(a:Int) by omega),kT (show(0:Int)<=(x:Int) by omega),kT (show(x:Int)<14 by omega),h14,kT (show(x:Int)<14 by omega),kG (by omega),
    show(p:Int)+1-1=(p:Int) by omega,kT (show(0:Int)<=(p:Int) by omega),kT (show(p:Int)<14 by omega),kT (show(p:Int)*14<((iL M).length:Int) by rw[ah,hM.1];omega),kT (show(p:Int)*14+(x:Int)<((iL M).length:Int) by rw[ah,hM.1];omega),xr,kG (by omega),
    kT (show(x:Int)*14<((iL M).length:Int) by rw[ah,hM.1];omega),kT (show(x:Int)*14+(p:Int)<((iL M).length:Int) by rw[ah,hM.1];omega),vz,e1,kG (by omega),vz,<-hgo]
   have hag':∀c∈p::ps,∀d∈p::ps,gM (lU room M p x) c d=gM N c d:=fun c hc' d hd'=>by
    have hdl:=pw ha h d hd';rw[f9 hM.1 hp hx hdl hne,if_neg (fun e=>hn (by rw[<-e.1];exact hc')),if_neg (fun e=>hn (by rw[<-e.2];exact hd'))]
    exact hag c (RW _ hc') d (RW _ hd')
   exact ih p (aQ r (gM N p x)) (lU room M p x) n' h (by simp only[RM]at hl;omega) hri hle (N9 hM h0 hroom hp hx hne) hag'
abbrev nL(q:List Nat):Lv:=q.map (fun x:Nat=>[AV.int (x:Int)])
theorem OW(u:Nat)(q:List Nat):cI (nL (u::q)) 0 0=(u:Int):=rfl
theorem Av(q:List Nat):((nL q).length:Int)=(q.length:Int):=by rw[v1]
theorem Pz(q:List Nat)(k:Nat):nL q++[[AV.int (k:Int)]]=nL (q++[k]):=by show _=Su _ _;rw[R7];rfl
abbrev xh:Int:=4611686018427387903
abbrev KU(a:aK->Option aa)(M:List Int)(b:Nat)(value:Int)(ps:List Nat):Option aa:=
 a (value+gB M b ps xh,0,iL (qK (gB M b ps xh) b ps M))
theorem m15(n:Nat)(d:aK->Option aa)(i:cf->Option aa)(g:aN->Option aa)(es:List Ed)(M L:List Int)(a b:Nat)(value e:Int)(f c:Lv)(ps:List Nat)(ha:a<14)(hM:Bd2 M)(hab:a≠b)
  (hvl:0<=value/\value<=11200000) (hL:R2 c (e).toNat (fun r=>r.set 0 (AV.int ((cI f 0 0)+1)))=iL L) (h14:(c.length:Int)=14) (hw:Dial.Flo.Way M L a b ps) (hn:1000<n):
  vg n d i g (edL es) (a:Int) (b:Int) value 0 (iL M) f e c=KU d M b value ps:=by
 have hps:=OT ha hw;obtain⟨g1,g2⟩:=AY hw xh (by decide)
 have hnz:¬cI (iL L) (b:Int) 0=0:=by
  rw[di,v8];cases hw with
  |here=>exact absurd rfl hab
  |step _ p ps' h hLx hMx hx hnn hax=>omega
 unfold vg;rw[hL,kF hnz,m21 n d g M L a b value 0 e f c ha hM.1 hL h14 ps b xh n hw (by omega)]
 have g3:gB M b ps xh<=4611686018427387903:=g2
 exact m22 n d g M L a value 0 e (gB M b ps xh) f c ha (by omega) (by omega) hL h14 ps b xh M n hw (by omega) (by decide) (Int.le_refl _) hM (fun _ _ _ _=>rfl)
def Np(c:aK->Option aa)(d:cf->Option aa)(M:List Int)(a b u:Nat)(value:Int)(q:List Nat)(L:List Int)(r:Option aa):Prop:=
 (∃q' L',BIn M L' a b q' u 14/\2*kP L'+q'.length<=2*kP L+q.length/\r=d (nL q',iL L'))\/(∃L' ps,Dial.Flo.Way M L' a b ps/\r=KU c M b value ps)
theorem m11(n:Nat)(c:aK->Option aa)(d:cf->Option aa)(es:List Ed)(M:List Int)(a b u:Nat)(value:Int)(f:Lv)(ha:a<14)(hb:b<14)(hu:u<14)(hM:Bd2 M)(hab:a≠b)
  (hvl:0<=value/\value<=11200000) (hq:cI f 0 0=(u:Int)) (hn:1000<n):∀(m n' k:Nat) (q:List Nat) (L:List Int),m<n'->k+m=14->BIn M L a b q u k->0<L.getD u 0->2*kP L+q.length<=100 →
  Np c d M a b u value q L (ab (fun g s=>ep n c d g (edL es) (a:Int) (b:Int) value 0 (iL M) f s.1 s.2.1 s.2.2) n' ((nL q,(k:Int),iL L):aN)):=by
 intro m;induction m with
 | zero=>
  intro n' k q L hm hk hB hup hz;cases n' with
  |zero=>omega
  |succ n'=>
   rw[ae];generalize (ab (fun g s=>ep n c d g (edL es) (a:Int) (b:Int) value 0 (iL M) f s.1 s.2.1 s.2.2) n':aN->Option aa)=go
   show Np c d M a b u value q L (ep n c d go (edL es) (a:Int) (b:Int) value 0 (iL M) f (nL q) (k:Int) (iL L))
   unfold ep;have hk14:k=14:=by omega
   subst hk14;rw[kF (show ¬((14:Nat):Int)<14 by omega)]
   exact .inl ⟨q,L,hB,RL _,rfl⟩
 | succ m ih=>
  intro n' k q L hm hk hB hup hz;cases n' with
  |zero=>omega
  | succ n'=>
   rw[ae];have hih:=ih n' (k+1);rw[show((k+1:Nat):Int)=(k:Int)+1 by omega]at hih
   generalize hgo:(ab (fun g s=>ep n c d g (edL es) (a:Int) (b:Int) value 0 (iL M) f s.1 s.2.1 s.2.2) n':aN->Option aa)=go
   rw[hgo]at hih;show Np c d M a b u value q L (ep n c d go (edL es) (a:Int) (b:Int) value 0 (iL M) f (nL q) (k:Int) (iL L))
   have hll:((iL L).length:Int)=14:=by rw[ah,hB.len];rfl
   have hck:cI (iL L) (k:Int) 0=L.getD k 0:=by rw[di,v8]
   have hcm:cI (iL M) ((cI f 0 0)*14+(k:Int)) 0=gM M u k:=by rw[hq,xr]
   have hmm:=hM.2 u k hu (by omega)
   unfold ep;rw[kT (show(k:Int)<14 by omega),kT (show(0:Int)<=(k:Int) by omega),hll,kT (show(k:Int)<14 by omega)]
   unfold B5;rw[hck];by_cases hpk:0<L.getD k 0
   ·rw[kT hpk,kG (by omega)]
    exact hih q L (by omega) (by omega) (Jo hB (.inl hpk)) hup hz
   ·have hk0:L.getD k 0=0:=by have:=hB.nn k (by omega);omega
    rw[kF hpk,hq,kT (show(0:Int)<=(u:Int) by omega),kT (show(u:Int)<14 by omega),kT (show(u:Int)*14<((iL M).length:Int) by rw[ah,hM.1];omega),kT (show(u:Int)*14+(k:Int)<((iL M).length:Int) by rw[ah,hM.1];omega)]
    unfold B3;rw[hcm,hq];by_cases hg0:gM M u k=0
    ·rw[kT hg0,kG (by omega)]
     exact hih q L (by omega) (by omega) (Jo hB (.inr hg0)) hup hz
    ·rw[kF hg0,kG (by omega)]
     unfold B7;have hmod:R2 (iL L) ((k:Int)).toNat (fun r=>r.set 0 (AV.int ((cI f 0 0)+1)))=iL (L.set k ((u:Int)+1)):=by rw[pc,hq,v8]
     by_cases hkb:k=b
     ·subst hkb
      obtain⟨ps,hw,_⟩:=Fx hB ha hu hup hb hk0 (by omega)
      rw[kT rfl,kT (show(k:Int)<14 by omega),hll,kT (show(k:Int)<14 by omega),m15 n c d go es M _ a k value (k:Int) f (iL L) _ ha hM hab hvl hmod hll hw hn]
      exact .inr ⟨_,_,hw,rfl⟩
     ·have hzz:=zr L k ((u:Int)+1) (by rw[hB.len];omega) hk0 (by omega)
      have hqz:(q++[k]).length=q.length+1:=by rw[v6];rfl
      rw[kF (show ¬(k:Int)=(b:Int) by omega),Av,kT (show((q.length:Int)+1)*8<=140737488355328 by omega),kG (by omega),hmod,Pz]
      have hun:(L.set k ((u:Int)+1)).getD u 0=L.getD u 0:=by
       rw[eT _ _ _ _ (by rw[hB.len];omega),if_neg (fun e=>by rw[e]at hup;omega)]
      rcases hih (q++[k]) (L.set k ((u:Int)+1)) (by omega) (by omega) (Pr hB ha hu hup (by omega) hk0 (by omega) hkb) (by rw[hun];exact hup) (by rw[hqz];omega)with⟨q',L',h1,h2,h3⟩|h
      ·exact .inl ⟨q',L',h1,by rw[hqz]at h2;omega,h3⟩
      ·exact .inr h
def Ji(c:aK->Option aa)(es:List Ed)(M:List Int)(a b:Nat)(value:Int)(r:Option aa):Prop:=
 (∃L' u,BIn M L' a b [] u 14/\r=some (iL (sG (fZ (cQ es) M) es),gW 14 L',0))\/(∃L' ps,Dial.Flo.Way M L' a b ps/\r=KU c M b value ps)
theorem EC{M L:List Int}{a b u k:Nat}{q:List Nat}(h:BIn M L a b q u k)(ha:a<8)(hz:∀c d,c<14->d<14->(8<=c\/8<=d)->gM M c d=0):∀x,8<=x->x<14->L.getD x 0=0:=by
 intro x h8 hx;have hnn:=h.nn x hx;by_cases hp:0<L.getD x 0
 ·exfalso
  obtain⟨ps,hw,_⟩:=h.way x hx hp;cases hw with
  |here=>omega
  |step _ p ps' hw' hLx hMx hx' hn' hax=>
   have hpl:p<14:=pw (by omega) hw' p (RK ..)
   have:=hz p x hpl hx (.inr h8)
   omega
 ·omega
theorem m10(n:Nat)(f:aK->Option aa)(es:List Ed)(M:List Int)(a b:Nat)(value:Int)(hv:NetV 8 es)(ha:a<8)(hb:b<8)(hM:Bd2 M)(hab:a≠b)(hz:∀c d,c<14->d<14->(8<=c\/8<=d)->gM M c d=0)
  (hvl:0<=value/\value<=11200000) (hn:1000<n):∀(m n':Nat) (q:List Nat) (L:List Int) (u:Nat),m<n'->2*kP L+q.length<=m->m<=100->BIn M L a b q u 14 →
  Ji f es M a b value (ab (fun g s=>eA n f g (edL es) (a:Int) (b:Int) value 0 (iL M) s.1 s.2) n' ((nL q,iL L):cf)):=by
 intro m;induction m with
 | zero=>
  intro n' q L u hm hle hm1 hB;cases n' with
  |zero=>omega
  |succ n'=>
   rw[ae];generalize (ab (fun g s=>eA n f g (edL es) (a:Int) (b:Int) value 0 (iL M) s.1 s.2) n':cf->Option aa)=go
   show Ji f es M a b value (eA n f go (edL es) (a:Int) (b:Int) value 0 (iL M) (nL q) (iL L))
   have:q=[]:=List.length_eq_zero_iff.1 (by omega)
   subst this;have hll:((iL L).length:Int)=14:=by rw[ah,hB.len];rfl
   have hcb:cI (iL L) (b:Int) 0=0:=by rw[di,v8];exact hB.lb
   unfold eA;rw[kF (show ¬(0:Int)<((nL []).length:Int) by rw[Av];simp),kT (show(b:Int)<14 by omega),hll,kT (show(b:Int)<14 by omega)]
   unfold u9;rw[kT hcb,hll,kT (show(14:Int)<=14 by omega)]
   exact .inl ⟨L,u,hB,m24 n f es M L hv (OC hM) hB.len (EC hB ha hz) hn 14 n 0 (by omega) rfl⟩
 | succ m ih=>
  intro n' q L u hm hle hm1 hB;cases n' with
  |zero=>omega
  | succ n'=>
   rw[ae];have hih:=ih n';generalize (ab (fun g s=>eA n f g (edL es) (a:Int) (b:Int) value 0 (iL M) s.1 s.2) n':cf->Option aa)=go at hih
   show Ji f es M a b value (eA n f go (edL es) (a:Int) (b:Int) value 0 (iL M) (nL q) (iL L))
   have hll:((iL L).length:Int)=14:=by rw[ah,hB.len];rfl
   cases q with
   |nil=>
    have hcb:cI (iL L) (b:Int) 0=0:=by rw[di,v8];exact hB.lb
    unfold eA;rw[kF (show ¬(0:Int)<((nL []).length:Int) by rw[Av];simp),kT (show(b:Int)<14 by omega),hll,kT (show(b:Int)<14 by omega)]
    unfold u9;rw[kT hcb,hll,kT (show(14:Int)<=14 by omega)]
    exact .inl ⟨L,u,hB,m24 n f es M L hv (OC hM) hB.len (EC hB ha hz) hn 14 n 0 (by omega) rfl⟩
   | cons w q=>
    obtain⟨hw14,hwp⟩:=hB.que w (RK ..);have hlc:((w::q).length:Int)=(q.length:Int)+1:=by rw[RM];omega
    have hlq:(w::q).length=q.length+1:=rfl
    have hB':BIn M L a b q w 0:=⟨hB.len,hB.nn,hB.la,hB.lb,hB.way,fun x hx=>hB.que x (RW _ hx),fun x hx hp hq y hy hyk hg=>by
     by_cases e:x=w
     ·have:=hyk e;omega
     ·exact hB.clo x hx hp (fun h=>(List.mem_cons.1 h).elim (fun h=>e h) (fun h=>hq h)) y hy (fun _=>hy) hg⟩
    unfold eA;rw[kT (show(0:Int)<((nL (w::q)).length:Int) by rw[Av];omega),kT (show(1:Int)<=((nL (w::q)).length:Int) by rw[Av];omega)]
    have hin:=m11 n f go es M a b w value (nL (w::q)) (by omega) (by omega) hw14 hM hab hvl (OW w q) hn 14 n 0 q L (by omega) rfl hB' hwp (by omega)
    show Ji f es M a b value (ab (fun i s=>ep n f go i (edL es) (a:Int) (b:Int) value 0 (iL M) (nL (w::q)) s.1 s.2.1 s.2.2) n ((nL q,0,iL L):aN))
    rcases hin with⟨q',L',h1,h2,h3⟩|h
    ·have h4:=hih q' L' w (by omega) (by omega) (by omega) h1
     rw[<-h3]at h4;exact h4
    ·exact .inr h
theorem m9(n:Nat)(f:aK->Option aa)(es:List Ed)(M:List Int)(a b:Nat)(value:Int)(hv:NetV 8 es)(ha:a<8)(hb:b<8)(hM:Bd2 M)(hab:a≠b)(hz:∀c d,c<14->d<14->(8<=c\/8<=d)->gM M c d=0)
  (hvl:0<=value/\value<=11200000) (hn:1000<n):Ji f es M a b value (kC n f (edL es) (a:Int) (b:Int) value 0 (iL M)):=by
 unfold kC;have e0:v5 ((14:Int)).toNat [(AV.int 0)]=iL (v5 14 0):=by
  show _=(v5 14 (0:Int)).map _
  rw[R9];rfl
 have hg:∀x,((v5 14 (0:Int)).set a ((a:Int)+1)).getD x 0=if x=a then(a:Int)+1 else 0:=fun x=>by
  rw[eT _ _ _ _ (by rw[y9];omega)]
  split
  ·rfl
  ·rw[v2,Sg];split<;>rfl
 have hB:BIn M ((v5 14 (0:Int)).set a ((a:Int)+1)) a b [a] 0 14:=by
  refine⟨by rw[List.length_set,y9],fun x hx=>?_,?_,?_,fun x hx hp=>?_,fun x hx=>?_,fun x hx hp hq=>?_⟩
  ·rw[hg];split<;>omega
  ·rw[hg,if_pos rfl]
  ·rw[hg,if_neg (fun e=>hab e.symm)]
  ·rw[hg]at hp
   split at hp
   ·rename_i e;subst e
    exact⟨[],.here,fun y hy=>absurd hy (Sv)⟩
   ·omega
  ·rw[R0]at hx
   subst hx;exact⟨by omega,by rw[hg,if_pos rfl];omega⟩
  ·rw[hg]at hp
   split at hp
   ·rename_i e;subst e
    exact absurd (List.mem_singleton.2 rfl) hq
   ·omega
 have hzz:=zr (v5 14 (0:Int)) a ((a:Int)+1) (by rw[y9];omega) (by rw[v2,Sg];split<;>rfl) (by omega)
 have hz0:kP (v5 14 (0:Int))=14:=by decide
 rw[kG (by omega),kT (show(a:Int)<14 by omega),kT (show(a:Int)<14 by omega),e0,pc,v8]
 exact m10 n f es M a b value hv ha hb hM hab hz hvl hn 100 n [a] _ 0 (by omega) (by have:[a].length=1:=rfl;omega) (RL _) hB
theorem Cj{es:List Ed}(hv:NetV 8 es){a b:Nat}{M:List Int}{value:Int}(h:PInv es a b M value):∀c d,c<14->d<14->(8<=c\/8<=d)->gM M c d=0:=by
 intro c d hc hd h8;have h1:=h.kept.pos c d hc hd;have h2:=h.kept.pos d c hd hc;have h3:=h.kept.two c d hc hd;rw[mv (by decide) hv.2.2.2 c d hd,mv (by decide) hv.2.2.2 d c hc,KN hv.2.2.2 c d (by omega),KN hv.2.2.2 d c (by omega)]at h3
 omega
theorem H5{es:List Ed}(hv:NetV 8 es){a b:Nat}{M:List Int}{value:Int}(h:PInv es a b M value):Bd2 M:=
 ⟨h.kept.len,fun c d hc hd=>E0 (by decide) hv.2.2.2 hv.2.2.1 h c d hc hd⟩
structure MaxR (es:List Ed) (a b:Nat) (M:List Int) (value s:Int):Prop where
 inv:PInv es a b M value
 cut:k8 (a:Int) (b:Int) s
 isr:value=0->IsR es (a:Int) s
theorem Kp{es:List Ed}(hv:NetV 8 es){a b u:Nat}(ha:a<8)(hb:b<8){M L:List Int}{value:Int}(h:PInv es a b M value)(hB:BIn M L a b [] u 14):MaxR es a b M value (gW 14 L):=by
 have hz:=EC hB ha (Cj hv h);obtain⟨s0,s1,s2⟩:=Ft hz 14 (RL _);refine⟨h,⟨s0,s1,?_,?_⟩,fun h0=>⟨s0,s1,fun v c d=>?_⟩⟩
 ·rw[s2 a,decide_eq_true ⟨by omega,by rw[hB.la];omega⟩]
 ·rw[s2 b,decide_eq_false (by rw[hB.lb];omega)]
 ·have hMo:M=cQ es:=by
   rcases h.val with⟨_,h5⟩|⟨h5,_⟩
   ·exact h5
   ·omega
  have hvn:v=((v.toNat:Nat):Int):=by omega
  rw[hvn,s2 v.toNat,decide_eq_true_eq];constructor
  ·rintro ⟨_,hp⟩
   obtain⟨ps,hw,_⟩:=hB.way v.toNat (by omega) hp
   rw[hMo]at hw;exact FP (by decide) hv.2.2.2 hw
  ·intro hr
   refine⟨by omega,?_⟩
   have key:∀x:Int,Dial.Flo.Reach es (a:Int) x->0<L.getD x.toNat 0:=by
    intro x hx;induction hx with
    |here=>rw[v8,hB.la];omega
    |step w e hw he hf hc ih=>
     obtain⟨f0,f1,t0,t1,_,_,_⟩:=hv.2.2.2 e he;refine hB.clo w.toNat (by omega) ih (Sv) e.t.toNat (by omega) (fun _=>by omega) ?_
     rw[hMo,mv (by decide) hv.2.2.2 _ _ (by omega)]
     have:=(EB hv.2.2.2 w.toNat e.t.toNat).2 ⟨e,he,by omega,by omega,hc⟩
     omega
   have:=key _ hr
   rwa [v8]at this
theorem m8b(n:Nat)(es:List Ed)(a b:Nat)(hv:NetV 8 es)(ha:a<8)(hb:b<8)(hab:a≠b)(hn:1000<n):∀(m n':Nat) (M:List Int) (value:Int),m<n'->(rs M a).toNat<=m->PInv es a b M value →
  ∃M' value' s,MaxR es a b M' value' s/\ab (fun c s=>kC n c (edL es) (a:Int) (b:Int) s.1 s.2.1 s.2.2) n' ((value,0,iL M):aK)=some (iL (sG (fZ (cQ es) M') es),s,0):=by
 intro m;induction m with
 | zero=>
  intro n' M value hm hle h;cases n' with
  |zero=>omega
  | succ n'=>
   rw[ae];generalize (ab (fun c s=>kC n c (edL es) (a:Int) (b:Int) s.1 s.2.1 s.2.2) n':aK->Option aa)=go
   have hrs:=wH (by decide) hv.2.2.2 hv.2.2.1 (show a<14 by omega) hab h
   rcases m9 n go es M a b value hv ha hb (H5 hv h) hab (Cj hv h) (by omega) hn with⟨L,u,hB,hr⟩|⟨L,ps,hw,hr⟩
   ·exact⟨M,value,gW 14 L,Kp hv ha hb h hB,hr⟩
   ·exfalso
    obtain⟨h1,h2⟩:=FD (by decide) hv.2.2.2 (show a<14 by omega) hab h hw (show(0:Int)<xh by decide)
    have:=wH (by decide) hv.2.2.2 hv.2.2.1 (show a<14 by omega) hab h1
    omega
 | succ m ih=>
  intro n' M value hm hle h;cases n' with
  |zero=>omega
  | succ n'=>
   rw[ae];have hih:=ih n';generalize (ab (fun c s=>kC n c (edL es) (a:Int) (b:Int) s.1 s.2.1 s.2.2) n':aK->Option aa)=go at hih
   have hrs:=wH (by decide) hv.2.2.2 hv.2.2.1 (show a<14 by omega) hab h
   rcases m9 n go es M a b value hv ha hb (H5 hv h) hab (Cj hv h) (by omega) hn with⟨L,u,hB,hr⟩|⟨L,ps,hw,hr⟩
   ·exact⟨M,value,gW 14 L,Kp hv ha hb h hB,hr⟩
   ·obtain⟨h1,h2⟩:=FD (by decide) hv.2.2.2 (show a<14 by omega) hab h hw (show(0:Int)<xh by decide)
    have h3:=wH (by decide) hv.2.2.2 hv.2.2.1 (show a<14 by omega) hab h1
    obtain⟨M',value',s,h4,h5⟩:=hih _ _ (by omega) (by omega) h1
    exact⟨M',value',s,h4,hr.trans h5⟩
theorem m8(n:Nat)(es:List Ed)(a b:Nat)(hv:NetV 8 es)(ha:a<8)(hb:b<8)(hab:a≠b)(hn:20000000<n):∀(m n' i:Nat),m<n'->i+m=es.length →
  ∃M' value' s,MaxR es a b M' value' s/\ab (fun c s=>gH n c (edL es) (a:Int) (b:Int) s.1 s.2) n' (((i:Int),iL (cQ (es.take i))):aC)=some (iL (sG (fZ (cQ es) M') es),s,0):=by
 have h40:=hv.2.2.1;intro m;induction m with
 | zero=>
  intro n' i hm hi;cases n' with
  |zero=>omega
  |succ n'=>
   rw[ae];generalize (ab (fun c s=>gH n c (edL es) (a:Int) (b:Int) s.1 s.2) n':aC->Option aa)=go
   have hin:=xa (by decide) hv.2.2.2 a b
   have hrs:=wH (by decide) hv.2.2.2 hv.2.2.1 (show a<14 by omega) hab hin
   obtain⟨M',value',s,h4,h5⟩:=m8b n es a b hv ha hb hab (by omega) 11200000 n (cQ es) 0 (by omega) (by omega) hin
   refine⟨M',value',s,h4,?_⟩
   show gH n go (edL es) (a:Int) (b:Int) (i:Int) _=_
   unfold gH;rw[kF (show ¬(i:Int)<((edL es).length:Int) by rw[dZ];omega),y8 (by omega)]
   exact h5
 | succ m ih=>
  intro n' i hm hi;cases n' with
  |zero=>omega
  | succ n'=>
   rw[ae];have hih:=ih n' (i+1) (by omega) (by omega)
   generalize (ab (fun c s=>gH n c (edL es) (a:Int) (b:Int) s.1 s.2) n':aC->Option aa)=go at hih
   obtain⟨e,he⟩:=aF (show i<es.length by omega)
   obtain⟨k0,k1,k2⟩:=ou he;obtain⟨f0,f1,t0,t1,_,c0,c1⟩:=hv.2.2.2 e (v7 he);have hb':=H7 (FS hv i);have hg:=hb'.2 e.f.toNat e.t.toNat (by omega) (by omega)
   have ht:es.take (i+1)=es.take i++[e]:=by rw[RV,he];rfl
   obtain⟨M',value',s,h4,h5⟩:=hih;refine⟨M',value',s,h4,?_⟩
   show gH n go (edL es) (a:Int) (b:Int) (i:Int) _=_
   unfold gH;have hgg:cI (iL (cQ (es.take i))) ((e.f*14)+e.t) 0=gM (cQ (es.take i)) e.f.toNat e.t.toNat:=by rw[<-xr];congr 1;omega
   rw[k0,k1,k2,hgg];rw[kT (show(i:Int)<((edL es).length:Int) by rw[dZ];omega),kT (show(0:Int)<=(i:Int) by omega),kT f0,kT (show e.f<14 by omega),kT (show e.f*14<((iL (cQ (es.take i))).length:Int) by rw[ah,hb'.1];omega),kT t0,kT (show e.t<14 by omega),kT (show e.f*14+e.t<((iL (cQ (es.take i))).length:Int) by rw[ah,hb'.1];omega),
    kG (by omega),kG (by omega)]
   rw[show(e.f*14+e.t).toNat=(((e.f.toNat:Nat):Int)*14+((e.t.toNat:Nat):Int)).toNat by omega,vz]
   rw[show((i+1:Nat):Int)=(i:Int)+1 by omega,ht,Jn]at h5
   exact h5
theorem w7(n:Nat)(es:List Ed)(a b:Int)(hv:NetV 8 es)(a0:0<=a)(a1:a<=7)(b0:0<=b)(b1:b<=7)(hab:a≠b)(hn:20000000<n):
  ∃M value s,MaxR es a.toNat b.toNat M value s/\jP n 8 (edL es) a b=some (iL (sG (fZ (cQ es) M) es),s,0):=by
 obtain⟨M,value,s,h4,h5⟩:=m8 n es a.toNat b.toNat hv (by omega) (by omega) (by omega) hn es.length n 0 (by have:=hv.2.2.1;omega) (by omega)
 refine⟨M,value,s,h4,?_⟩
 rw[show((a.toNat:Nat):Int)=a by omega,show((b.toNat:Nat):Int)=b by omega]at h5
 unfold jP DK;rw[sw n 8 es (by have:=hv.2.2.1;omega) (by omega),v0,decide_eq_true hv]
 unfold Dh Ei DZ De C1 Da;rw[cond_true,kG (by omega),kT a0,kT (show a<=8-1 by omega),kT b0,kT (show b<=8-1 by omega),decide_eq_false hab,KR]
 exact h5
end Go.Proofs.YtbfkkigbedmhgaaGreat
namespace Go.Proofs.YtbfkkigbedmhgaaGreat
open Go Go.Sx Go.Dial.Rou
theorem Oz(M:List Int)(i:Int):cI (iL M) i 0=at_ M i:=di M i
theorem dF(M:List Int)(i:Nat):cI (iL M) (i:Int) 0=M.getD i 0:=by rw[di,v8]
theorem iY{h:List Int}{v:Nat}(hv:v<h.length):h.getD v 0∈h:=by
 rw[v2,v9 hv];exact List.getElem_mem _
theorem Qm{h:List Int}{v:Nat}(h1:1<=v)(hv:v<h.length):List.drop (((v:Int)-1)).toNat (RR (((v:Int)+1)).toNat (iL h))=iL [h.getD (v-1) 0,h.getD v 0]:=by
 rw[show(((v:Int)-1)).toNat=v-1 by omega,show(((v:Int)+1)).toNat=v+1 by omega,<-Sa,<-List.map_drop]
 congr 1
 refine Sr (fun i=>?_)
 rw[So,RJ];match i with
 |0=>rw[if_pos (by omega),show v-1+0=v-1 by omega,v2,v9 (show v-1<h.length by omega)];rfl
 |1=>rw[if_pos (by omega),show v-1+1=v by omega,v2 (i:=v),v9 hv];rfl
 |i+2=>rw[if_neg (by omega)];rfl
theorem rv7(n:Nat)(b a:aS->Option aG)(h A:List Int)(v:Nat)(i c:Int)(S:Lv)(hS:List.drop (((v:Int)-1)).toNat (RR (((v:Int)+1)).toNat (iL h))=S)(h1:1<=v)(hv:v<h.length)(hi0:0<=i)(hi1:i<(S.length:Int))(hi:i<=1)(hc:cI S i 0=c)(hcb:c<=7)(hA:A.length=8):
  dS n b a (iL h) (v:Int) i (iL A)=a (i+1,iL (st1 A c (h.getD (v-1) 0) (h.getD v 0) v)):=by
 have e1:cI (iL h) (v:Int) 0=h.getD v 0:=dF h v
 have e2:cI (iL h) ((v:Int)-1) 0=h.getD (v-1) 0:=by rw[di];congr 1;omega
 unfold dS;rw[hS,kT hi1,kT hi0,hc];unfold st1;by_cases c0:0<=c
 ·rw[kT c0,kT (show(0:Int)<=(v:Int) by omega),kT (show(v:Int)<((iL h).length:Int) by rw[ah];omega),kT (show(v:Int)-1<((iL h).length:Int) by rw[ah];omega),e1,e2]
  by_cases hpq:h.getD v 0=h.getD (v-1) 0
  ·rw[kNT hpq,kG (by omega),if_neg (fun e=>e.2 hpq)]
  ·rw[kNF hpq,kT (show c<8 by omega),kT (show c<((iL A).length:Int) by rw[ah];omega),kG (by omega),pc,di,oo,if_pos ⟨c0,hpq⟩]
 ·rw[kF c0,kG (by omega),if_neg (fun e=>c0 e.1)]
theorem Po(n:Nat)(a:aS->Option aG)(h:List Int)(lag:Int)(v n':Nat)(hh:HoV h)(h1:1<=v)(hv:v<h.length)(hn:3<n'):
  ab (fun b s=>dS n a b (iL h) (v:Int) s.1 s.2) n' ((0,iL (nG h lag v)):aS)=a ((v:Int)+1,iL (nG h lag (v+1))):=by
 have hl:=hh.2.1;obtain⟨m,rfl⟩:∃m,n'=m+3:=⟨n'-3,by omega⟩
 have b1:=hh.2.2 _ (iY (h:=h) (v:=v) hv);have b2:=hh.2.2 _ (iY (h:=h) (v:=v-1) (by omega))
 have hS:=Qm (h:=h) h1 hv;rw[ae];have s1:=rv7 n a (ab (fun b s=>dS n a b (iL h) (v:Int) s.1 s.2) (m+2)) h (nG h lag v) v 0 (h.getD (v-1) 0) _ hS h1 hv (by decide) (by show(0:Int)<2;decide) (by decide) rfl b2.2 (km ..)
 refine s1.trans ?_
 rw[ae];have s2:=rv7 n a (ab (fun b s=>dS n a b (iL h) (v:Int) s.1 s.2) (m+1)) h (st1 (nG h lag v) (h.getD (v-1) 0) (h.getD (v-1) 0) (h.getD v 0) v) v 1 (h.getD v 0) _ hS h1 hv (by decide) (by show(1:Int)<2;decide) (by decide) rfl b1.2 (by rw[A9,km])
 refine s2.trans ?_
 rw[No hh h1 hv,ae];show dS n a _ (iL h) (v:Int) 2 _=_
 unfold dS;rw[hS,kF (show ¬(2:Int)<((iL [h.getD (v-1) 0,h.getD v 0]).length:Int)from(by show ¬(2:Int)<2;decide))]
theorem rv8(n:Nat)(h k:List Int)(lag:Int)(hh:HoV h)(hk:k.length=8)(hn:1000<n):
  ab (fun a s=>lQ n a (iL h) (iL k) (iL (nG h lag h.length)) s) n (0:dA)=some (decide (∀c:Nat,c<8->(k.getD c 0= -1\/(cS h lag (c:Int) h.length<=k.getD c 0/\k.getD c 0<=(h.length:Int)-1)))):=by
 rw[dd (len:=8) (f:=fun i=>if(k.getD i 0= -1\/(cS h lag (i:Int) h.length<=k.getD i 0/\k.getD i 0<=(h.length:Int)-1))then none else some false) (e:=true) ?_ ?_ (by omega),gU]
 ·intro i go hi
  unfold lQ;rw[kT (show(i:Int)<((iL k).length:Int) by rw[ah];omega),kT (show(0:Int)<=(i:Int) by omega),dF,dF,w9 _ _ _ hi]
  by_cases e1:k.getD i 0= -1
  ·rw[kNT e1,kG (by omega),if_pos (.inl e1)]
  ·rw[kNF e1,kT (show(i:Int)<8 by omega),kT (show(i:Int)<((iL (nG h lag h.length)).length:Int) by rw[ah,km];omega)]
   by_cases e2:cS h lag (i:Int) h.length<=k.getD i 0
   ·rw[kT e2,ah]
    by_cases e3:k.getD i 0<=(h.length:Int)-1
    ·rw[kNT e3,kG (by omega),if_pos (.inr ⟨e2,e3⟩)]
    ·rw[kNF e3,if_neg (fun e=>(e).elim (fun e=>e1 e) (fun e=>e3 e.2))]
   ·rw[kF e2,if_neg (fun e=>(e).elim (fun e=>e1 e) (fun e=>e2 e.1))]
 ·intro go
  unfold lQ;rw[kF (show ¬((8:Nat):Int)<((iL k).length:Int) by rw[ah,hk];omega)]
theorem rv6(n:Nat)(h k:List Int)(lag:Int)(hh:HoV h)(hk:k.length=8)(hn:1000<n):∀(m n' v:Nat),m<n'->v+m=h.length->1<=v →
  ab (fun a s=>fc n a (iL h) (iL k) s.1 s.2) n' (((v:Int),iL (nG h lag v)):aS)=some (decide (∀c:Nat,c<8->(k.getD c 0= -1\/(cS h lag (c:Int) h.length<=k.getD c 0/\k.getD c 0<=(h.length:Int)-1)))):=by
 have hl:=hh.2.1;intro m;induction m with
 | zero=>
  intro n' v hm hv h1;cases n' with
  |zero=>omega
  |succ n'=>
   rw[ae];show fc n _ (iL h) (iL k) (v:Int) _=_
   unfold fc;have hv':v=h.length:=by omega
   subst hv';rw[kF (show ¬(h.length:Int)<=((iL h).length:Int)-1 by rw[ah];omega)]
   exact rv8 n h k lag hh hk hn
 | succ m ih=>
  intro n' v hm hv h1;cases n' with
  |zero=>omega
  |succ n'=>
   rw[ae];have hih:=ih n' (v+1) (by omega) (by omega) (by omega)
   generalize (ab (fun a s=>fc n a (iL h) (iL k) s.1 s.2) n':aS->Option aG)=go at hih
   show fc n go (iL h) (iL k) (v:Int) _=_
   unfold fc;rw[kT (show(v:Int)<=((iL h).length:Int)-1 by rw[ah];omega),kG (by omega),kG (by omega),kT (show(0:Int)<=(v:Int)-1 by omega),kT (show(v:Int)-1<=(v:Int)+1 by omega),kT (show(v:Int)+1<=((iL h).length:Int) by rw[ah];omega)]
   have e:=Po n go h lag v n hh h1 (by omega) (by omega)
   refine e.trans ?_
   rw[show((v+1:Nat):Int)=(v:Int)+1 by omega]at hih
   exact hih
theorem rv5(n:Nat)(h k:List Int)(lag:Int)(hh:HoV h)(hk:k.length=8)(h0:0<=lag)(h10:lag<=10)(hn:1000<n):∀(m n' c:Nat),m<n'->c+m=8 →
  ab (fun a s=>cK n a (iL h) (iL k) lag s.1 s.2) n' (((c:Int),iL (v5 c (max 0 ((h.length:Int)-1-lag))++v5 m 0)):aS)=some (decide (RoV h k lag)):=by
 have hl:=hh.2.1;intro m;induction m with
 | zero=>
  intro n' c hm hc;cases n' with
  |zero=>omega
  |succ n'=>
   rw[ae];show cK n _ (iL h) (iL k) lag (c:Int) _=_
   unfold cK;have hc':c=8:=by omega
   subst hc';rw[kF (show ¬((8:Nat):Int)<8 by omega),List.replicate_zero,Sh,<-PX]
   refine(rv6 n h k lag hh hk hn (h.length-1) n 1 (by omega) (by have:=hh.1;omega) (RL _)).trans ?_
   congr 1
   rw[decide_eq_decide];constructor
   ·exact fun hx=>MM hh hk h0 h10 hx
   ·exact fun hx c hc=>(KG hh.1).1 (hx.2.2.2.2 c (List.mem_range.2 hc))
 | succ m ih=>
  intro n' c hm hc;cases n' with
  |zero=>omega
  | succ n'=>
   rw[ae];have hih:=ih n' (c+1) (by omega) (by omega)
   generalize (ab (fun a s=>cK n a (iL h) (iL k) lag s.1 s.2) n':aS->Option aG)=go at hih
   show cK n go (iL h) (iL k) lag (c:Int) _=_
   unfold cK;have hlen:((iL (v5 c (max 0 ((h.length:Int)-1-lag))++v5 (m+1) 0)).length:Int)=8:=by
    rw[ah,v6,y9,y9];omega
   rw[kT (show(c:Int)<8 by omega),ah h,kG (by omega),kT (show(0:Int)<=(c:Int) by omega),hlen,kT (show(c:Int)<8 by omega),kG (by omega),pc,v8,oo]
   have e:(v5 c (max 0 ((h.length:Int)-1-lag))++v5 (m+1) 0).set c (max 0 ((h.length:Int)-1-lag))=v5 (c+1) (max 0 ((h.length:Int)-1-lag))++v5 m 0:=by
    rw[Sj _ _ (by rw[y9];omega),y9,Nat.sub_self,List.replicate_succ (n:=m),List.set_cons_zero,List.replicate_succ',RU]
    rfl
   rw[e];rw[show((c+1:Nat):Int)=(c:Int)+1 by omega]at hih
   exact hih
theorem RG:v5 ((8:Int)).toNat [(AV.int 0)]=iL (v5 8 0):=by
 show _=(v5 8 (0:Int)).map _
 rw[R9];rfl
theorem QE(n:Nat)(h k:List Int)(lag:Int)(hh:HoV h)(hn:1000<n)(f:(aS->Option aG)->aS->Option aG)(hf:f=fun a s=>cK n a (iL h) (iL k) lag s.1 s.2):
  (bif !(((iL k).length:Int)=8)then some false else(bif 0<=lag then(bif !(lag<=10)then some false else bif(-9223372036854775808<=(((iL h).length:Int)-1))&&((((iL h).length:Int)-1)<=9223372036854775807)then ab f n ((0,(v5 ((8:Int)).toNat [(AV.int 0)])):aS)else none)else some false))=some (decide (RoV h k lag)):=by
 have hl:=hh.2.1;rw[hf];by_cases e1:k.length=8
 ·rw[kNT (show((iL k).length:Int)=8 by rw[ah];omega)]
  by_cases e2:0<=lag
  ·rw[kT e2]
   by_cases e3:lag<=10
   ·rw[kNT e3,ah h,kG (by omega),RG]
    exact rv5 n h k lag hh e1 e2 e3 hn 8 n 0 (by omega) rfl
   ·rw[kNF e3,decide_eq_false (fun hx:RoV h k lag=>e3 hx.2.2.2.1)]
  ·rw[kF e2,decide_eq_false (fun hx:RoV h k lag=>e2 hx.2.2.1)]
 ·rw[kNF (show ¬((iL k).length:Int)=8 by rw[ah];omega),decide_eq_false (fun hx:RoV h k lag=>e1 hx.2.1)]
theorem xS(n:Nat)(h k:List Int)(lag:Int)(hn:1000<n):lj n (iL h) (iL k) lag=some (decide (RoV h k lag)):=by
 unfold lj xY;rw[ah];by_cases h1:1<=(h.length:Int)
 ·rw [kT h1]
  unfold xT;rw[ah];by_cases h30:(h.length:Int)<=30
  ·rw[kT h30]
   have hok:∀(i:Nat) (go:dA->Option aG),i<h.length-> -1<=h.getD i 0/\h.getD i 0<=7->cO n go (iL h) (iL k) lag (i:Int)=go ((i:Int)+1):=by
    intro i go hi e;unfold cO;rw[kT (show(i:Int)<((iL h).length:Int) by rw[ah];omega),kT (show(0:Int)<=(i:Int) by omega)]
    unfold pB;rw[dF,show decide ((0:Int)<=(i:Int))=true from decide_eq_true (by omega),kT e.1,kNT e.2,kG (by omega)]
   have hbad:∀(i:Nat) (go:dA->Option aG),i<h.length->¬(-1<=h.getD i 0/\h.getD i 0<=7)->cO n go (iL h) (iL k) lag (i:Int)=some false:=by
    intro i go hi e;unfold cO;rw[kT (show(i:Int)<((iL h).length:Int) by rw[ah];omega),kT (show(0:Int)<=(i:Int) by omega)]
    unfold pB;rw[dF,show decide ((0:Int)<=(i:Int))=true from decide_eq_true (by omega)]
    by_cases e1: -1<=h.getD i 0
    ·rw[kT e1,kNF (fun e2=>e ⟨e1,e2⟩)];rfl
    ·rw[kF e1];rfl
   by_cases hh:HoV h
   ·rw[iW (len:=h.length) (f:=fun i=>if(-1<=h.getD i 0/\h.getD i 0<=7)then none else some (some false)) (e:=some (decide (RoV h k lag))) ?_ ?_ (by omega),og]
    ·intro i hi
     rw[if_pos (hh.2.2 _ (iY hi))]
    ·intro i go hi
     by_cases e: -1<=h.getD i 0/\h.getD i 0<=7
     ·rw[if_pos e];exact hok i go hi e
     ·rw[if_neg e];exact hbad i go hi e
    ·intro go
     show cO n go (iL h) (iL k) lag (h.length:Int)=_
     unfold cO;rw[kF (show ¬(h.length:Int)<((iL h).length:Int) by rw[ah];omega)]
     exact QE n h k lag hh hn _ rfl
   ·rw[iW (len:=h.length) (f:=fun i=>if(-1<=h.getD i 0/\h.getD i 0<=7)then none else some (some false)) (e:=cO n (fun _=>none) (iL h) (iL k) lag (h.length:Int)) ?_ ?_ (by omega),mc (r:=some false)]
    ·rw[decide_eq_false (fun hx:RoV h k lag=>hh hx.1)]
    ·intro i _
     by_cases e: -1<=h.getD i 0/\h.getD i 0<=7
     ·rw[if_pos e];exact .inl rfl
     ·rw[if_neg e];exact .inr rfl
    ·refine Classical.byContradiction (fun hx=>hh ⟨by omega,by omega,fun x hm=>?_⟩)
     obtain⟨i,hi,rfl⟩:=Sn hm;refine Classical.byContradiction (fun hb=>hx ⟨i,hi,?_⟩)
     have:h.getD i 0=h[i]:=by rw[v2,v9 hi];rfl
     rw[this,if_neg hb];simp
    ·intro i go hi
     by_cases e: -1<=h.getD i 0/\h.getD i 0<=7
     ·rw[if_pos e];exact hok i go hi e
     ·rw[if_neg e];exact hbad i go hi e
    ·intro go
     show cO n go (iL h) (iL k) lag (h.length:Int)=_
     unfold cO;rw[kF (show ¬(h.length:Int)<((iL h).length:Int) by rw[ah];omega),kF (show ¬(h.length:Int)<((iL h).length:Int) by rw[ah];omega)]
  ·rw[kF h30,decide_eq_false (fun hx:RoV h k lag=>h30 (by have:=hx.1.2.1;omega))]
 ·rw[kF h1,decide_eq_false (fun hx:RoV h k lag=>h1 (by have:=hx.1.1;omega))]
abbrev hpR(x:Int×Int):List AV:=[.int x.1,.int x.2]
abbrev hpL(l:List (Int×Int)):Lv:=l.map hpR
theorem bP(l:List (Int×Int)):((hpL l).length:Int)=(l.length:Int):=by rw[v1]
theorem jW(l:List (Int×Int))(c w:Int):hpL l++[[AV.int c,AV.int w]]=hpL (l++[(c,w)]):=by show _=Su _ _;rw[R7];rfl
theorem mj{h:List Int}{i:Int}:cI (iL h) i 0=at_ h i:=di h i
theorem rp2(n:Nat)(h k:List Int)(lag:Int)(hv:RoV h k lag):∀(m n':Nat) (c u:Int) (out:List (Int×Int)),m<n'->0<=c->c<=7->0<=at_ k c-> -1<=u->u<=h.length-1->(0<=u->at_ h u=c)->(h.length:Int)-u<m->out.length+m<=1000 →
  ab (fun a s=>j8 n a (iL h) (iL k) s.1 s.2.1 s.2.2.2) n' ((u,hpL out,0,c):lJ)=some (hpL (out++(iI h k m c u).1),(iI h k m c u).2,0):=by
 have h30:=hv.1.2.1;have hk8:=hv.2.1;intro m;induction m with
 |zero=>intro n' c u out _ _ _ _ _ _ _ hm;omega
 | succ m ih=>
  intro n' c u out hn hc0 hc7 hk hu0 hu1 hhu hm ho;cases n' with
  |zero=>omega
  | succ n'=>
   rw[ae];have hih:=ih n';generalize (ab (fun a s=>j8 n a (iL h) (iL k) s.1 s.2.1 s.2.2.2) n':lJ->Option kr)=go at hih
   show j8 n go (iL h) (iL k) u (hpL out) c=_
   obtain⟨r1,r2,r3,r4,r5⟩:=Ad hv ⟨hc0,hc7⟩ hk hu1;have hw:aZ (cI (iL k) c 0) u=max (at_ k c) u:=by rw[oo,mj]
   rw[r5]at r1 r2 r3 r4;have hmem:=hv.1.2.2 _ (HA (h:=h) r1 (by omega))
   unfold j8;rw[hw,mj,mj,kT hc0,kT (show c<((iL k).length:Int) by rw[ah];omega),kT r1,kT (show max (at_ k c) u<((iL h).length:Int) by rw[ah];omega),bP]
   simp only[iI];rcases yN h k c u with⟨h1,hd⟩|⟨h1,h2,hd⟩|⟨h1,h2,h3,hd⟩|⟨h1,h2,h3,hd⟩
   ·rw[hd,kT h1,kT (by omega),jW]
    rfl
   ·rw[hd,kF h1,kT h2,kT (by omega),jW]
    rfl
   ·rw[hd,kF h1,kF (by omega),kT h2,kT (show at_ h (max (at_ k c) u)<((iL k).length:Int) by rw[ah];omega),kT h3,kT (by omega),jW]
    rfl
   ·rw[hd,kF h1,kF (by omega),kT h2,kT (show at_ h (max (at_ k c) u)<((iL k).length:Int) by rw[ah];omega),kF (by omega),kT (by omega),jW]
    dsimp only;rw[if_neg (show ¬(0:Int)≠0 by decide)]
    have hlt:u<max (at_ k c) u:=by
     by_cases e:0<=u
     ·have:=hhu e
      by_cases e2:max (at_ k c) u=u
      ·rw[e2]at h1;exact absurd this h1
      ·omega
     ·omega
    have:=hih (at_ h (max (at_ k c) u)) (max (at_ k c) u) (out++[(c,max (at_ k c) u)]) (by omega) h2 hmem.2 h3 (by omega) r2 (fun _=>rfl) (by omega) (by rw[v6,y1];omega)
    rw[RU]at this;exact this
theorem Ij(n:Nat)(h k:List Int)(lag c:Int)(hn:1000<n):qt n (iL h) (iL k) lag c=some (hpL (oK h k lag c).1.1,(oK h k lag c).1.2,(oK h k lag c).2):=by
 unfold qt zy oK;rw[xS n h k lag hn,v0];by_cases hv:RoV h k lag
 ·have hk8:=hv.2.1
  have h30:=hv.1.2.1;have h1:=hv.1.1;rw[kT hv];by_cases c0:0<=c
  ·rw[kT c0]
   by_cases c7:c<=7
   ·rw[kT c7,kT (show c<((iL k).length:Int) by rw[ah];omega),mj]
    by_cases hk:0<=at_ k c
    ·rw[kNT hk,if_pos ⟨hv,c0,c7,hk⟩]
     exact rp2 n h k lag hv 40 n c (-1) [] (by omega) c0 c7 hk (by omega) (by omega) (fun h=>by omega) (by omega) (by simp)
    ·rw[kNF hk,if_neg (fun hx=>hk hx.2.2.2)];rfl
   ·rw[kF c7,if_neg (fun hx=>c7 hx.2.2.1)];rfl
  ·rw[kF c0,if_neg (fun hx=>c0 hx.2.1)];rfl
 ·rw[kF hv,if_neg (fun hx=>hv hx.1)];rfl
theorem DL{v k:Int}(hk:0<k)(h:ax v):ax (RP v k):=by
 unfold ax at h⊢
 by_cases h0:0<=v
 ·rw[y7 h0]
  have h1:=SC h0 (Sp hk);have h2:=Sw k h0;omega
 ·have e:RP v k= -((-v) / k):=by
   rw[<-y7 (show 0<= -v by omega),Sq,Int.neg_neg]
  rw[e];have h1:=SC (show 0<= -v by omega) (Sp hk)
  have h2:=Sw k (show 0<= -v by omega)
  omega
theorem fM(n:Nat){c k:Int}(hc:ax c)(hk:0<k):dr n c k=some (pk c k):=by
 unfold ax at hc;unfold dr yM pk;by_cases h:c<0
 ·rw[kT h,kG (by omega),kG (by omega),kNF (show ¬k=0 by omega),if_pos h]
 ·rw[kF h,kNF (show ¬k=0 by omega),if_neg h]
theorem GZ(n:Nat)(h:List Int)(lag c:Int)(h1:1<=h.length)(h30:h.length<=30)(l0:0<=lag)(l1:lag<=10)(hn:100<n):oB n (iL h) lag c=some (cS h lag c h.length):=by
 have key:∀(m n' v:Nat),m<n'->v+m=h.length->1<=v->ab (fun a s=>fd n a (iL h) c s.1 s.2) n' ((cS h lag c v,(v:Int)):kS)=some (cS h lag c h.length):=by
  intro m;induction m with
  | zero=>
   intro n' v hm hv hv1;cases n' with
   |zero=>omega
   |succ n'=>
    rw[ae];show fd n _ (iL h) c (cS h lag c v) (v:Int)=_
    unfold fd;have hv':v=h.length:=by omega
    subst hv';rw[kF (show ¬(h.length:Int)<=((iL h).length:Int)-1 by rw[ah];omega)]
  | succ m ih=>
   intro n' v hm hv hv1;cases n' with
   |zero=>omega
   | succ n'=>
    rw[ae];have hih:=ih n' (v+1) (by omega) (by omega) (by omega)
    generalize (ab (fun a s=>fd n a (iL h) c s.1 s.2) n':kS->Option ji)=go at hih
    show fd n go (iL h) c (cS h lag c v) (v:Int)=_
    have e1:cI (iL h) (v:Int) 0=h.getD v 0:=dF h v
    have e2:cI (iL h) ((v:Int)-1) 0=h.getD (v-1) 0:=by rw[di];congr 1;omega
    rw[show((v+1:Nat):Int)=(v:Int)+1 by omega]at hih
    unfold fd;rw[kT (show(v:Int)<=((iL h).length:Int)-1 by rw[ah];omega),kT (show(0:Int)<=(v:Int) by omega),kT (show(v:Int)<((iL h).length:Int) by rw[ah];omega),kG (by omega),kT (show(0:Int)<=(v:Int)-1 by omega),kT (show(v:Int)-1<((iL h).length:Int) by rw[ah];omega),e1,e2]
    simp only[cS]at hih;unfold Dial.Rou.Con at hih;by_cases hpq:h.getD v 0=h.getD (v-1) 0
    ·rw[if_neg (fun e=>e.2.1 hpq)]at hih
     rw[kNT hpq,kG (by omega)]
     exact hih
    ·rw[kNF hpq]
     by_cases hq:h.getD v 0=c
     ·rw[if_pos ⟨hv1,hpq,.inl hq⟩,<-oo]at hih
      rw[kT hq,kG (by omega)]
      exact hih
     ·rw[kF hq]
      by_cases hp:h.getD (v-1) 0=c
      ·rw[if_pos ⟨hv1,hpq,.inr hp⟩,<-oo]at hih
       rw[kT hp,kG (by omega)]
       exact hih
      ·rw[if_neg (fun e=>(e.2.2).elim (fun e=>hq e) (fun e=>hp e))]at hih
       rw[kF hp,kG (by omega)]
       exact hih
 unfold oB yq;rw[ah,kG (by omega),kG (by omega)]
 have:=key (h.length-1) n 1 (by omega) (by omega) (RL _)
 have e:cS h lag c 1=aZ 0 ((h.length:Int)-1-lag):=by
  simp only[cS];rw[if_neg (fun e=>by omega),oo]
 rw[e]at this;exact this
theorem Pn{h:List Int}{lag c:Int}(h1:1<=h.length)(l0:0<=lag):cS h lag c h.length<=(h.length:Int)-1:=
 (DG _).2 ⟨by omega,by omega,fun j hj _ _=>by omega⟩
theorem He(n:Nat)(h ys:List Int)(lag:Int)(hh:HoV h)(l0:0<=lag)(l1:lag<=10)(hy:∀x∈ys,ax x)(hn:100<n):∃k,gP n (iL h) lag (iL ys)=some (iL k)/\RoV h k lag:=by
 have h1:=hh.1;have h30:=hh.2.1;have main:∃r,gP n (iL h) lag (iL ys)=some r/\∃k,r=iL k/\RoV h k lag:=by
  unfold gP yd;refine dG (fun s=>∃(k:List Int),s=(iL k,(k.length:Int))/\k.length<=8/\∀c:Nat,c<k.length->(k.getD c 0= -1\/(cS h lag (c:Int) h.length<=k.getD c 0/\k.getD c 0<=(h.length:Int)-1))) (fun s=>8-s.2.toNat) (fun r=>∃k,r=iL k/\RoV h k lag) ?_ n _ ⟨[],rfl,by simp,fun c hc=>by simp at hc⟩ (by simp;omega)
  rintro _ go ⟨k,rfl,hk,hx⟩ ih;show ∃r,pE n go (iL h) lag (iL ys) (iL k) (k.length:Int)=some r/\_
  unfold pE;by_cases h7:(k.length:Int)<=7
  ·have htop:=Pn (c:=(k.length:Int)) (lag:=lag) h1 l0
   have hge:=QV (h:=h) (lag:=lag) (c:=(k.length:Int)) h.length;have hnext:∀v:Int,(v= -1\/(cS h lag (k.length:Int) h.length<=v/\v<=(h.length:Int)-1))->∃r,go (iL k++[[AV.int v]],(k.length:Int)+1)=some r/\∃k,r=iL k/\RoV h k lag:=by
    intro v hv;rw[iq];refine ih _ ⟨k++[v],by rw[v6,y1];simp,by rw[v6,y1];omega,fun c hc=>?_⟩ (by simp only;omega)
    rw[v6,y1]at hc;by_cases e:c=k.length
    ·subst e
     rw[v2,RT (RL _),Nat.sub_self];exact hv
    ·have:=hx c (by omega)
     rw[v2,Sc (show c<k.length by omega),<-v2]
     exact this
   have fin:∀p15 q:Int,0<=q->q<(h.length:Int)-cS h lag (k.length:Int) h.length->∃r,(bif p15=15 then bif ((((iL k).length:Int)+1)*8)<=140737488355328 then bif(-9223372036854775808<=((k.length:Int)+1))&&(((k.length:Int)+1)<=9223372036854775807)then go ((iL k++[[(AV.int (-1))]]),((k.length:Int)+1))else none else none else bif ((((iL k).length:Int)+1)*8)<=140737488355328 then bif(-9223372036854775808<=((k.length:Int)+1))&&(((k.length:Int)+1)<=9223372036854775807)then go ((iL k++[[(AV.int (cS h lag (k.length:Int) h.length+q))]]),((k.length:Int)+1))else none else none)=some r/\∃k,r=iL k/\RoV h k lag:=by
    intro p15 q hq0 hq1;rw[ah];by_cases e:p15=15
    ·rw[kT e,kT (by omega),kG (by omega)]
     exact hnext _ (.inl rfl)
    ·rw[kF e,kT (by omega),kG (by omega)]
     exact hnext _ (.inr ⟨by omega,by omega⟩)
   rw[kT h7,GZ n h lag _ h1 h30 l0 l1 hn,v0];by_cases hc:(k.length:Int)<((iL ys).length:Int)
   ·have hcl:k.length<ys.length:=by rw[ah]at hc;omega
    have hin:=hy _ (iY hcl);have hin':=hin;unfold ax at hin';have hd:=DL (k:=16) (by decide) hin
    have hd':=hd;unfold ax at hd';have hb:=aR (RP (ys.getD k.length 0) 16) (k:=(h.length:Int)-cS h lag (k.length:Int) h.length) (by omega)
    rw[kT hc,kT (show(0:Int)<=(k.length:Int) by omega),dF,kG hd',ah h,kG (by omega),fM n hd (by omega),v0,kG (by omega),fM n hin (by decide),v0]
    exact fin _ _ hb.1 hb.2
   ·have hb:=aR 0 (k:=(h.length:Int)-cS h lag (k.length:Int) h.length) (by omega)
    have h00:ax 0:=by unfold ax;omega
    rw[kF hc,ah h,kG (by omega),fM n h00 (by omega),v0,kG (by omega),fM n h00 (by decide),v0]
    exact fin _ _ hb.1 hb.2
  ·rw[kF h7]
   have hk8:k.length=8:=by omega
   exact⟨_,rfl,k,rfl,MM hh hk8 l0 l1 (fun c hc=>hx c (by omega))⟩
 obtain⟨r,h1,k,rfl,h2⟩:=main;exact⟨k,h1,h2⟩
theorem Iw(n:Nat)(xs ys:List Int)(lag:Int)(hx:∀x∈xs,ax x)(hy:∀x∈ys,ax x)(hl:ax lag)(hn:100<n):∃h k lg,qH n (iL xs) (iL ys) lag=some (iL h,iL k,lg)/\RoV h k lg/\h.length<=12:=by
 have bl:=aR lag (k:=11) (by decide)
 have key:∀(z:Int),-1<=z->z<=7->∃r,ab (fun a s=>il n a (iL xs) (iL ys) lag s.1 s.2) n ((iL [z],1):jo)=some r/\∃h k lg,r=(iL h,iL k,lg)/\RoV h k lg/\h.length<=12:=by
  intro z hz0 hz1;refine dG (fun s=>∃(h:List Int),s=(iL h,(h.length:Int))/\1<=h.length/\h.length<=12/\∀x∈h,-1<=x/\x<=7) (fun s=>12-s.2.toNat) (fun r=>∃h k lg,r=(iL h,iL k,lg)/\RoV h k lg/\h.length<=12) ?_ n _ ⟨[z],rfl,by simp,by simp,fun x hx=>by rw[R0]at hx;subst hx;exact⟨hz0,hz1⟩⟩ (by simp;omega)
  rintro _ go ⟨h,rfl,h1,h12,hb⟩ ih;show ∃r,il n go (iL xs) (iL ys) lag (iL h) (h.length:Int)=some r/\_
  have done:∃r,((dr n lag 11).bind fun y6=>(gP n (iL h) y6 (iL ys)).bind fun b=>some (iL h,b,y6))=some r/\∃h k lg,r=(iL h,iL k,lg)/\RoV h k lg/\h.length<=12:=by
   obtain⟨k,hk,hv⟩:=He n h ys (pk lag 11) ⟨h1,by omega,hb⟩ bl.1 (by omega) hy hn
   rw[fM n hl (by decide),v0,hk,v0]
   exact⟨_,rfl,h,k,_,rfl,hv,h12⟩
  unfold il;by_cases e1:(h.length:Int)<((iL xs).length:Int)
  ·rw[kT e1]
   by_cases e2:(h.length:Int)<12
   ·have hlt:h.length<xs.length:=by rw[ah]at e1;omega
    have b9:=aR (xs.getD h.length 0) (k:=9) (by decide)
    rw[kT e2,kT (show(0:Int)<=(h.length:Int) by omega),dF,fM n (hx _ (iY hlt)) (by decide),v0,kG (by omega),ah,kT (by omega),kG (by omega),iq]
    refine ih _ ⟨h++[pk (xs.getD h.length 0) 9-1],by rw[v6,y1];simp,by rw[v6,y1];omega,by rw[v6,y1];omega,fun x hx'=>?_⟩ (by simp only;omega)
    rcases List.mem_append.1 hx' with hx'|hx'
    ·exact hb x hx'
    ·rw[R0]at hx';subst hx';omega
   ·rw[kF e2];exact done
  ·rw[kF e1];exact done
 have fin:∀z:Int,-1<=z->z<=7->∃h k lg,ab (fun a s=>il n a (iL xs) (iL ys) lag s.1 s.2) n ((iL [z],1):jo)=some (iL h,iL k,lg)/\RoV h k lg/\h.length<=12:=by
  intro z h0 h1;obtain⟨r,e,h,k,lg,rfl,e2,e3⟩:=key z h0 h1;exact⟨h,k,lg,e,e2,e3⟩
 unfold qH AO;by_cases e0:(0:Int)<((iL xs).length:Int)
 ·have hlt:0<xs.length:=by rw[ah]at e0;omega
  have b9:=aR (xs.getD 0 0) (k:=9) (by decide)
  have e1:cI (iL xs) 0 0=xs.getD 0 0:=dF xs 0
  rw[kT e0,e1,fM n (hx _ (iY hlt)) (by decide),v0,kG (by omega)]
  exact fin (pk (xs.getD 0 0) 9-1) (by omega) (by omega)
 ·rw[kF e0]
  exact fin 0 (by decide) (by decide)
theorem vG{l:List (Int×Int)}{i:Nat}{e:Int×Int}(h:l[i]?=some e):cI (hpL l) (i:Int) 0=e.1/\cI (hpL l) (i:Int) 1=e.2:=by
 have hc:∀k,cA (hpL l) (i:Int) k=(hpR e).getD k (.int 0):=fun k=>cx (by simpa using h)
 simp only[cI,hc];exact⟨rfl,rfl⟩
theorem kq{α:Type}{a b:List α}(hl:a.length=b.length):(∀i,i<a.length->a[i]?=b[i]?)↔a=b:=by
 constructor
 ·intro h
  refine Sr (fun i=>?_)
  by_cases hi:i<a.length
  ·exact h i hi
  ·rw[Sk (by omega),Sk (by omega)]
 ·rintro rfl i _;rfl
theorem Ah(n:Nat)(a b:List (Int×Int))(ha:a.length<=1000)(hn:1000<n):nE n (hpL a) (hpL b)=some (decide (a=b)):=by
 unfold nE AD;rw[bP,bP];by_cases hl:a.length=b.length
 ·rw[kNT (show(a.length:Int)=(b.length:Int) by omega),dd (len:=a.length) (f:=fun i=>if a[i]?=b[i]? then none else some false) (e:=true) ?_ ?_ (by omega),gU]
  ·congr 1
   rw[decide_eq_decide];exact kq hl
  ·intro i go hi
   obtain⟨x,hx⟩:=aF hi;obtain⟨y,hy⟩:=aF (show i<b.length by omega)
   obtain⟨k0,k1⟩:=vG hx;obtain⟨j0,j1⟩:=vG hy;show jZ n go (hpL a) (hpL b) (i:Int)=_
   unfold jZ;rw[k0,k1,j0,j1,bP,bP,kT (show(i:Int)<(a.length:Int) by omega),kT (show(0:Int)<=(i:Int) by omega),kT (show(i:Int)<(b.length:Int) by omega),kG (by omega),hx,hy]
   by_cases h1:x.1=y.1
   ·by_cases h2:x.2=y.2
    ·rw[decide_eq_true h1,decide_eq_true h2,if_pos (congrArg some (Prod.ext h1 h2))];rfl
    ·rw[decide_eq_true h1,decide_eq_false h2,if_neg (fun e=>h2 (by rw[Option.some.inj e]))];rfl
   ·rw[decide_eq_false h1,if_neg (fun e=>h1 (by rw[Option.some.inj e]))];rfl
  ·intro go
   show jZ n go (hpL a) (hpL b) (a.length:Int)=_
   unfold jZ;rw[bP,kF (y2 _)]
 ·rw[kNF (show ¬(a.length:Int)=(b.length:Int) by omega),decide_eq_false (fun e=>hl (by rw[e]))]
end Go.Proofs.YtbfkkigbedmhgaaGreat
namespace Go.Proofs.YtbfkkigbedmhgaaGreat
open Go Go.Sx Go.Dial.Fwd
theorem yZ(n:Nat)(a b:List Int)(ha:a.length<=1000)(hn:1000<n):nv n (iL a) (iL b)=some (decide (a=b)):=by
 unfold nv Ag;rw[ah,ah];by_cases hl:a.length=b.length
 ·rw[kNT (show(a.length:Int)=(b.length:Int) by omega),dd (len:=a.length) (f:=fun i=>if a[i]?=b[i]? then none else some false) (e:=true) ?_ ?_ (by omega),gU]
  ·congr 1
   rw[decide_eq_decide];exact kq hl
  ·intro i go hi
   obtain⟨x,hx⟩:=aF hi;obtain⟨y,hy⟩:=aF (show i<b.length by omega)
   have k0:cI (iL a) (i:Int) 0=x:=by rw[dF,v2,hx];rfl
   have j0:cI (iL b) (i:Int) 0=y:=by rw[dF,v2,hy];rfl
   show kg n go (iL a) (iL b) (i:Int)=_
   unfold kg;rw[k0,j0,ah,ah,kT (show(i:Int)<(a.length:Int) by omega),kT (show(0:Int)<=(i:Int) by omega),kT (show(i:Int)<(b.length:Int) by omega),kG (by omega),hx,hy]
   by_cases h1:x=y
   ·rw[kNT h1,if_pos (congrArg some h1)]
   ·rw[kNF h1,if_neg (fun e=>h1 (Option.some.inj e))]
  ·intro go
   show kg n go (iL a) (iL b) (a.length:Int)=_
   unfold kg;rw[ah,kF (y2 _)]
 ·rw[kNF (show ¬(a.length:Int)=(b.length:Int) by omega),decide_eq_false (fun e=>hl (by rw[e]))]
theorem yR(n:Nat)(k k':Int)(a a' b b':List Int)(ha:a.length<=1000)(hb:b.length<=1000)(hn:1000<n):mH n k (iL a) (iL b) k' (iL a') (iL b')=some (decide ((k,a,b)=(k',a',b'))):=by
 unfold mH Az;rw[yZ n a a' ha hn,yZ n b b' hb hn,v0];by_cases h1:k=k'
 ·rw[kT h1]
  by_cases h2:a=a'
  ·rw[kT h2,v0]
   congr 1
   rw[decide_eq_decide];subst h1 h2;simp
  ·rw[kF h2,decide_eq_false (fun e=>h2 (by cases e;rfl))]
 ·rw[kF h1,decide_eq_false (fun e=>h1 (by cases e;rfl))]
theorem cw(n:Nat){c k:Int}(hc:ax c)(hk:0<k):bD n c k=some (pk c k):=by
 unfold ax at hc;unfold bD Am pk;by_cases h:c<0
 ·rw[kT h,kG (by omega),kG (by omega),kNF (show ¬k=0 by omega),if_pos h]
 ·rw[kF h,kNF (show ¬k=0 by omega),if_neg h]
abbrev ju(x:Int×Int×Int×Int×Int):List AV:=[.int x.1,.int x.2.1,.int x.2.2.1,.int x.2.2.2.1,.int x.2.2.2.2]
def xc(x:Int×Int×Int×Int×Int):Se:=⟨10+pk x.1 8,if 4<pk x.2.1 8 then pk x.2.1 8-3 else 1,10+R1 (pk x.1 8+1+pk x.2.2.1 7) 8,pk x.2.2.2.1 50,pk x.2.2.2.1 50+1+pk x.2.2.2.2 60⟩
abbrev In5(x:Int×Int×Int×Int×Int):Prop:=ax x.1/\ax x.2.1/\ax x.2.2.1/\ax x.2.2.2.1/\ax x.2.2.2.2
theorem J8(n:Nat)(x:Int×Int×Int×Int×Int)(hx:In5 x):uC n x.1 x.2.1 x.2.2.1 x.2.2.2.1 x.2.2.2.2=some ((xc x).n,(xc x).k,(xc x).t,(xc x).f,(xc x).u):=by
 obtain⟨h0,h1,h2,h3,h4⟩:=hx;have b0:=aR x.1 (k:=8) (by decide)
 have b1:=aR x.2.1 (k:=8) (by decide)
 have b2:=aR x.2.2.1 (k:=7) (by decide)
 have b3:=aR x.2.2.2.1 (k:=50) (by decide)
 have b4:=aR x.2.2.2.2 (k:=60) (by decide)
 have bt:=qR (a:=pk x.1 8+1+pk x.2.2.1 7) (k:=8) (by omega) (by decide)
 unfold uC BQ xc;rw[cw n h0 (by decide),v0,kG (by omega),kG (by omega),cw n h2 (by decide),v0,kG (by omega),kG (by omega),cw n h3 (by decide),v0,kG (by omega),cw n h4 (by decide),v0,kG (by omega),cw n h1 (by decide),v0,v0]
 by_cases h:4<pk x.2.1 8
 ·rw[kT h,kG (by omega),if_pos h]
 ·rw[kF h,if_neg h]
theorem CZ(l:List Se)(s:Se):seL l++[[AV.int s.n,AV.int s.k,AV.int s.t,AV.int s.f,AV.int s.u]]=seL (l++[s]):=by show _=Su _ _;rw[R7];rfl
theorem Bt(l:List Se):((seL l).length:Int)=(l.length:Int):=by rw[v1]
theorem Ix(n:Nat)(xs:List (Int×Int×Int×Int×Int))(hx:∀x∈xs,In5 x)(hn:1000<n):∃l,nC n (xs.map ju)=some (seL l)/\pL l/\l.length<=16/\∀s∈l,s.t<=17:=by
 have main:∃r,nC n (xs.map ju)=some r/\∃l,r=seL l/\pL l/\l.length<=16/\∀s∈l,s.t<=17:=by
  unfold nC Aa;refine dG (fun s=>∃(l:List Se) (i:Nat),s=(seL l,(i:Int))/\pL l/\l.length<=i/\i<=16/\∀s∈l,s.t<=17) (fun s=>16-s.2.toNat) (fun r=>∃l,r=seL l/\pL l/\l.length<=16/\∀s∈l,s.t<=17) ?_ n _ ⟨[],0,rfl,⟨by simp,trivial⟩,by simp,by omega,fun s hs=>by cases hs⟩ (by simp;omega)
  rintro _ go ⟨l,i,rfl,hv,hl,hi,ht⟩ ih;show ∃r,sP n go (xs.map ju) (seL l) (i:Int)=some r/\_
  have done:∃r,some (seL l)=some r/\∃l,r=seL l/\pL l/\l.length<=16/\∀s∈l,s.t<=17:=⟨_,rfl,l,rfl,hv,by omega,ht⟩
  unfold sP;by_cases e1:(i:Int)<((xs.map ju).length:Int)
  ·rw [kT e1]
   by_cases e2:(i:Int)<16
   ·have hil:i<xs.length:=by rw[v1]at e1;omega
    obtain⟨x,hxe⟩:=aF hil;have hc:∀k,cA (xs.map ju) (i:Int) k=(ju x).getD k (.int 0):=fun k=>cx (by simpa using hxe)
    have g0:cI (xs.map ju) i 0=x.1:=by simp only[cI,hc];rfl
    have g1:cI (xs.map ju) i 1=x.2.1:=by simp only[cI,hc];rfl
    have g2:cI (xs.map ju) i 2=x.2.2.1:=by simp only[cI,hc];rfl
    have g3:cI (xs.map ju) i 3=x.2.2.2.1:=by simp only[cI,hc];rfl
    have g4:cI (xs.map ju) i 4=x.2.2.2.2:=by simp only[cI,hc];rfl
    rw[kT e2,Bt,kT (by omega),kT (by omega),g0,g1,g2,g3,g4,J8 n x (hx x (v7 hxe)),v0,kT (by omega)]
    dsimp only;rw[CZ,rE n _ (by rw[v6,y1];omega) hn,v0]
    by_cases hs:pL (l++[xc x])
    ·rw[kT hs,kG (by omega)]
     refine ih _ ⟨l++[xc x],i+1,by simp,hs,by rw[v6,y1];omega,by omega,fun s hs=>?_⟩ (by simp only;omega)
     rcases List.mem_append.1 hs with hs|hs
     ·exact ht s hs
     ·rw[R0]at hs;subst hs
      have b0:=aR x.1 (k:=8) (by decide)
      have b2:=aR x.2.2.1 (k:=7) (by decide)
      have bt:=qR (a:=pk x.1 8+1+pk x.2.2.1 7) (k:=8) (by omega) (by decide)
      unfold xc;dsimp only;omega
    ·rw[kF hs,kG (by omega)]
     exact ih _ ⟨l,i+1,by simp,hv,by omega,by omega,ht⟩ (by simp only;omega)
   ·rw[kF e2];exact done
  ·rw[kF e1];exact done
 obtain⟨r,h1,l,rfl,h2,h3,h4⟩:=main;exact⟨l,h1,h2,h3,h4⟩
theorem FT{y:Co}:∀(c:List Co) (last:Int),fX last c->(∀x∈c,x.n<y.n)->last<y.n->y.n<=99999999->2<=y.k->y.k<=4->fX last (c++[y])
 |[],last,_,_,h1,h2,h3,h4=>⟨h1,h2,h3,h4,trivial⟩
 |x::c,last,⟨a1,a2,a3,a4,a5⟩,hx,h1,h2,h3,h4=>
  ⟨a1,a2,a3,a4,FT c x.n a5 (fun z hz=>hx z (RW _ hz)) (hx x (RK ..)) h2 h3 h4⟩
theorem N7(l:List Co)(a b:Int):coL l++[[AV.int a,AV.int b]]=coL (l++[⟨a,b⟩]):=by show _=Su _ _;rw[R7];rfl
theorem EM(l:List Co):((coL l).length:Int)=(l.length:Int):=by rw[v1]
theorem PJ{a b:Int}(h:0<=a):0<=IOp.f .shr a b:=by
 show 0<=a.fdiv (2 ^ (Nat.min b.toNat 64))
 refine Int.fdiv_nonneg h ?_
 exact Sp (Int.pow_pos (by decide))
theorem Ax(n:Nat)(x:Int)(hx:ax x)(hn:100<n):∃c,fT n x=some (coL c)/\c.length<=8/\fX (-1) c:=by
 have b:=aR x (k:=65536) (by decide)
 have main:∃r,fT n x=some r/\∃c,r=coL c/\c.length<=8/\fX (-1) c:=by
  unfold fT pq;rw[cw n hx (by decide),v0]
  refine dG (fun s=>∃(c:List Co) (i:Nat),s=(coL c,(i:Int))/\c.length<=i/\i<=8/\fX (-1) c/\∀y∈c,y.n<10+i) (fun s=>8-s.2.toNat) (fun r=>∃c,r=coL c/\c.length<=8/\fX (-1) c) ?_ n _ ⟨[],0,rfl,by simp,by omega,trivial,fun y hy=>by cases hy⟩ (by simp;omega)
  rintro _ go ⟨c,i,rfl,hl,hi,hc,hy⟩ ih;show ∃r,j6 n go (pk x 65536) (coL c) (i:Int)=some r/\_
  unfold j6;by_cases e1:(i:Int)<8
  ·have hs:=PJ (a:=pk x 65536) (b:=2*(i:Int)) b.1
   generalize IOp.f .shr (pk x 65536) (2*(i:Int))=w at hs
   have hw:=qR hs (show(0:Int)<4 by decide)
   rw[kT e1,kG (by omega),kT (by omega)]
   by_cases e2:0<R1 w 4
   ·rw[kT e2,kG (by omega),kG (by omega),EM,kT (by omega),kG (by omega),N7]
    refine ih _ ⟨c++[⟨10+(i:Int),1+R1 w 4⟩],i+1,by simp,by rw[v6,y1];omega,by omega,FT c (-1) hc hy (by dsimp only;omega) (by dsimp only;omega) (by dsimp only;omega) (by dsimp only;omega),fun y hy'=>?_⟩ (by simp only;omega)
    rcases List.mem_append.1 hy' with hy'|hy'
    ·have:=hy y hy';omega
    ·rw[R0]at hy';subst hy';dsimp only;omega
   ·rw[kF e2,kG (by omega)]
    exact ih _ ⟨c,i+1,by simp,by omega,by omega,hc,fun y hy'=>by have:=hy y hy';omega⟩ (by simp only;omega)
  ·rw[kF e1]
   exact⟨_,rfl,c,rfl,by omega,hc⟩
 obtain⟨r,h1,c,rfl,h2,h3⟩:=main;exact⟨c,h1,h2,h3⟩
end Go.Proofs.YtbfkkigbedmhgaaGreat
namespace Go.Proofs.YtbfkkigbedmhgaaGreat
open Go Go.Sx Go.Dial.Lif
theorem GH(n:Nat)(l:Ln):oD n l.s l.h l.e l.t=some (su l):=by
 unfold oD ya su Vld;grind
theorem IR(n:Nat)(l:Ln):qD n l.s l.h l.e l.t=some (su l):=by
 unfold qD At su Vld;grind
theorem EU(n:Nat)(e:Ev):nI n e.k e.a e.h=some (uW e):=by
 unfold nI wF uW Frm mO;grind
theorem Cy(n:Nat)(l:Ln)(e:Ev)(hl:Vld l)(he:Frm e):kB n l.s l.h l.e l.t e.k e.a e.h=some (decide (Pos l e)):=by
 unfold Vld at hl;unfold Frm mO at he;by_cases hp:Pos l e<;>simp only[hp,decide_true,decide_false]<;>unfold Pos at hp<;>unfold kB rJ<;>grind
abbrev kE(l:Ln)(e:Ev):Int×Int×Int×Int×Int:=((uB l e).1.s,(uB l e).1.h,(uB l e).1.e,(uB l e).1.t,(uB l e).2)
theorem rz(n:Nat)(l:Ln)(e:Ev):iJ n l.s l.h l.e l.t e.k e.a e.h=some (kE l e):=by
 unfold iJ yV kE;rw[GH,EU];by_cases h1:Vld l
 ·by_cases h2:Frm e
  ·rw[Cy n l e h1 h2]
   by_cases h3:Pos l e
   ·rw[ry ⟨h1,h2,h3⟩]
    simp only[su,uW,h1,h2,h3,decide_true,v0,v3,cond_false];unfold nxt;unfold Vld at h1;unfold Frm mO at h2;unfold Pos at h3;grind
   ·rw[ko (fun h=>h3 h.2.2)]
    simp[su,uW,h1,h2,h3,zero]
  ·rw[ko (fun h=>h2 h.2.1)]
   simp[su,uW,h1,h2,zero]
 ·rw[ko (fun h=>h1 h.1)]
  simp[su,h1,zero]
theorem kinds{k:Int}(h1:1<=k)(h2:k<=7):k=1\/k=2\/k=3\/k=4\/k=5\/k=6\/k=7:=by omega
theorem Qk{s:Int}(h1:0<=s)(h2:s<=3):s=0\/s=1\/s=2\/s=3:=by omega
theorem Gg(n:Nat)(e:Ev):lu n e.k e.a e.h=some (uW e):=by
 obtain⟨k,a,h⟩:=e;by_cases hk:1<=k/\k<=7
 ·unfold lu py uW Frm mO
  rcases kinds hk.1 hk.2 with rfl|rfl|rfl|rfl|rfl|rfl|rfl<;>simp[cB,cA]<;>grind
 ·unfold lu py uW Frm mO
  grind
theorem P9:IOp.f .and (IOp.f .shr 1 0) 1=1:=by decide +kernel
theorem QO:IOp.f .and (IOp.f .shr 1 1) 1=0:=by decide +kernel
theorem P7:IOp.f .and (IOp.f .shr 1 2) 1=0:=by decide +kernel
theorem PS:IOp.f .and (IOp.f .shr 1 3) 1=0:=by decide +kernel
theorem P4:IOp.f .and (IOp.f .shr 2 0) 1=0:=by decide +kernel
theorem Qi:IOp.f .and (IOp.f .shr 2 1) 1=1:=by decide +kernel
theorem Qw:IOp.f .and (IOp.f .shr 2 2) 1=0:=by decide +kernel
theorem PZ:IOp.f .and (IOp.f .shr 2 3) 1=0:=by decide +kernel
theorem PT:IOp.f .and (IOp.f .shr 4 0) 1=0:=by decide +kernel
theorem Qx:IOp.f .and (IOp.f .shr 4 1) 1=0:=by decide +kernel
theorem Qb:IOp.f .and (IOp.f .shr 4 2) 1=1:=by decide +kernel
theorem Qc:IOp.f .and (IOp.f .shr 4 3) 1=0:=by decide +kernel
theorem QW:IOp.f .and (IOp.f .shr 6 0) 1=0:=by decide +kernel
theorem Qr:IOp.f .and (IOp.f .shr 6 1) 1=1:=by decide +kernel
theorem QB:IOp.f .and (IOp.f .shr 6 2) 1=1:=by decide +kernel
theorem Qg:IOp.f .and (IOp.f .shr 6 3) 1=0:=by decide +kernel
theorem PR:IOp.f .and (IOp.f .shr 8 0) 1=0:=by decide +kernel
theorem Qz:IOp.f .and (IOp.f .shr 8 1) 1=0:=by decide +kernel
theorem QQ:IOp.f .and (IOp.f .shr 8 2) 1=0:=by decide +kernel
theorem Qa:IOp.f .and (IOp.f .shr 8 3) 1=1:=by decide +kernel
theorem G0(n:Nat)(l:Ln)(e:Ev)(h1:Vld l)(h2:Frm e):uS n l.s l.h l.e l.t e.k e.a e.h=some (kE l e):=by
 obtain⟨k,a,h⟩:=e;obtain⟨s,g,p,t⟩:=l;unfold kE uB Ok Pos;simp only[h1,h2,true_and];unfold Vld at h1;unfold Frm mO at h2;unfold nxt zero uS BP BM;simp only at h1 h2⊢
 rcases kinds h2.1 h2.2.1 with rfl|rfl|rfl|rfl|rfl|rfl|rfl<;>rcases Qk h1.1 h1.2.1 with rfl|rfl|rfl|rfl <;>
  simp[cI,cB,cA,P9,QO,P7,PS,P4,Qi,Qw,PZ,PT,Qx,Qb,Qc,QW,Qr,QB,Qg,PR,Qz,QQ,Qa]<;>grind
theorem J6(n:Nat)(l:Ln)(e:Ev):oT n l.s l.h l.e l.t e.k e.a e.h=some (kE l e):=by
 unfold oT BL BN BV;rw[IR,Gg];by_cases h1:Vld l
 ·by_cases h2:Frm e
  ·simp only[su,uW,h1,h2,decide_true,v0,v3,cond_false]
   exact G0 n l e h1 h2
  ·unfold kE
   rw[ko (fun h=>h2 h.2.1)]
   simp[su,uW,h1,h2,zero]
 ·unfold kE
  rw[ko (fun h=>h1 h.1)]
  simp[su,h1,zero]
abbrev evR(e:Ev):List AV:=[.int e.k,.int e.a,.int e.h]
abbrev evL(es:List Ev):Lv:=es.map evR
abbrev oh(es:List Ev):Int×Int×Int×Int×Int×Int:=((nw es).1.1.s,(nw es).1.1.h,(nw es).1.1.e,(nw es).1.1.t,((nw es).1.2:Int),(nw es).2)
theorem oF{es:List Ev}{i:Nat}{e:Ev}(hA:All first (es.take i))(h40:i<=40)(he:es[i]?=some e)(hs:i=40\/¬Ok (fin first (es.take i)) e):nw es=((zero,i),140):=by
 have hi:i<es.length:=(List.getElem?_eq_some_iff.1 he).1
 have e1:es.take 40=es.take i++(es.drop i).take (40-i):=by
  rw[<-List.take_append_drop i (es.take 40),List.take_take,List.drop_take];congr 2
  omega
 have e2:(eC first (es.take 40)).2=i:=by
  rw[e1,Oq hA];have hl:(es.take i).length=i:=by simp;omega
  have:(eC (fin first (es.take i)) ((es.drop i).take (40-i))).2=0:=by
   rcases hs with hs|hs
   ·subst hs;simp[eC]
   ·cases hk:40-i with
    |zero=>simp[eC]
    | succ k=>
     have:es.drop i=e::es.drop (i+1):=by
      rw[y0 hi];congr 1
      exact(List.getElem?_eq_some_iff.1 he).2
     rw[this,List.take_succ_cons,eC,if_neg hs]
  simp[hl,this]
 rw[Br (fun h=>?_),e2]
 have:=life_iff.2 h
 omega
theorem FW{es:List Ev}{i:Nat}(hA:All first (es.take i))(h40:i<=40)(he:i=es.length):nw es=((fin first (es.take i),i),0):=by
 subst he;rw[Ss]at hA⊢
 exact my ⟨hA,h40⟩
theorem JX(n:Nat)(es:List Ev)(hn:es.length<n):tB n (evL es)=some (oh es):=by
 unfold tB BY;refine eG (fun s=>∃(i:Nat) (l:Ln),s=((i:Int),l.s,l.h,l.e,l.t)/\i<=es.length/\i<=40/\All first (es.take i)/\l=fin first (es.take i)) (fun s=>es.length-s.1.toNat) _ ?_ n _ ⟨0,first,rfl,by omega,by omega,trivial,rfl⟩ (by simp;omega)
 rintro _ go ⟨i,l,rfl,hi,h40,hA,hl⟩ ih;simp only
 unfold B9;have c2:(0:Int)<=(i:Int):=by omega
 have c4:(-9223372036854775808:Int)<=(i:Int)+1:=by omega
 have c5:(i:Int)+1<=(9223372036854775807:Int):=by omega
 by_cases hlt:i<es.length
 ·obtain⟨e,he⟩:=aF hlt
  have hc:∀k,cA (evL es) (i:Int) k=(evR e).getD k (.int 0):=fun k=>cx (by simpa using he)
  have hs:iJ n l.s l.h l.e l.t (cI (evL es) i 0) (cI (evL es) i 1) (cI (evL es) i 2)=some (kE l e):=by
   simp only[cI,hc];exact rz n l e
  have c1:(i:Int)<(es.length:Int):=by omega
  simp only[hs,v1,v0,c1,c2,c4,c5,decide_true,cond_true,v4,kE];by_cases hok:Ok l e
  ·simp only[ry hok,decide_true,v3,cond_false]
   by_cases h4:i=40
   ·have h4':(i:Int)=40:=by omega
    simp only[h4',decide_true,cond_true];unfold oh;rw[oF hA h40 he (.inl h4),h4];rfl
   ·have h4':¬(i:Int)=40:=by omega
    simp only[h4',decide_false,cond_false];exact ih _ ⟨i+1,nxt l e,rfl,by omega,by omega,by rw[mw he,wv];exact⟨hA,by rw[<-hl];exact⟨hok,trivial⟩⟩,by rw[mw he,Bz,<-hl];rfl⟩ (by simp only;omega)
  ·have e140:decide ((140:Int)=0)=false:=rfl
   simp only[ko hok,e140,RX,cond_true];unfold oh;rw[oF hA h40 he (.inr (by rw[<-hl];exact hok))];rfl
 ·have h0:i=es.length:=by omega
  have c1:¬(i:Int)<(es.length:Int):=by omega
  simp only[v1,c1,decide_false,cond_false];unfold oh;rw[FW hA h40 h0,<-hl,h0]
theorem wU(n:Nat)(es:List Ev)(hn:es.length<n):ox n (evL es)=some (oh es):=by
 unfold ox DS;have c1:0<=aQ ((evL es).length:Int) 40:=by unfold aQ;split<;>omega
 have c2:aQ ((evL es).length:Int) 40<=((evL es).length:Int):=by unfold aQ;split<;>omega
 have hT:RR (aQ ((evL es).length:Int) 40).toNat (evL es)=evL (es.take 40):=by
  unfold evL aQ;rw[<-Sa];congr 1
  split
  ·rfl
  ·rw[y8 (by simp),y8 (by simp at *;omega)]
 simp only[c1,c2,decide_true,cond_true];refine eG (fun s=>∃(i:Nat) (l:Ln),s=((i:Int),(i:Int),l.s,l.h,l.e,l.t,l.s,l.h,l.e,l.t)/\i<=es.length/\i<=40/\All first (es.take i)/\l=fin first (es.take i)) (fun s=>es.length-s.1.toNat) _ ?_ n _ ⟨0,first,rfl,by omega,by omega,trivial,rfl⟩ (by simp;omega)
 rintro _ go ⟨i,l,rfl,hi,h40,hA,hl⟩ ih;simp only
 unfold D6;rw[hT];have c2:(0:Int)<=(i:Int):=by omega
 have c4:(-9223372036854775808:Int)<=(i:Int)+1:=by omega
 have c5:(i:Int)+1<=(9223372036854775807:Int):=by omega
 by_cases hlt:i<es.length
 ·obtain⟨e,he⟩:=aF hlt
  have c3:(i:Int)<(es.length:Int):=by omega
  by_cases h4:i=40
  ·have c1:¬(i:Int)<((es.take 40).length:Int):=by rw[y3];omega
   simp only[v1,c1,decide_false,cond_false,c3,decide_true,cond_true];unfold oh;rw[oF hA h40 he (.inl h4)];rfl
  ·have hc:∀k,cA (evL (es.take 40)) (i:Int) k=(evR e).getD k (.int 0):=fun k=>cx (by
    rw[show(i:Int).toNat=i by simp,RJ,if_pos (by omega)];exact he)
   have hs:oT n l.s l.h l.e l.t (cI (evL (es.take 40)) i 0) (cI (evL (es.take 40)) i 1) (cI (evL (es.take 40)) i 2)=some (kE l e):=by
    simp only[cI,hc];exact J6 n l e
   have c1:(i:Int)<((es.take 40).length:Int):=by rw[y3];omega
   simp only[hs,v1,c1,c2,c4,c5,decide_true,cond_true,v4,v0,kE];by_cases hok:Ok l e
   ·simp only[ry hok,decide_true,v3,cond_false]
    exact ih _ ⟨i+1,nxt l e,rfl,by omega,by omega,by rw[mw he,wv];exact⟨hA,by rw[<-hl];exact⟨hok,trivial⟩⟩,by rw[mw he,Bz,<-hl];rfl⟩ (by simp only;omega)
   ·have e140:decide ((140:Int)=0)=false:=rfl
    simp only[ko hok,e140,RX,cond_true,v1,c3,decide_true];unfold oh;rw[oF hA h40 he (.inr (by rw[<-hl];exact hok))];rfl
 ·have h0:i=es.length:=by omega
  have c1:¬(i:Int)<((es.take 40).length:Int):=by rw[y3];omega
  have c3:¬(i:Int)<(es.length:Int):=by omega
  simp only[v1,c1,c3,decide_false,cond_false];unfold oh;rw[FW hA h40 h0,<-hl]
theorem iw(n:Nat){c k:Int}(hc:ax c)(hk:0<k):bC n c k=some (pk c k):=by
 unfold bC yO pk;unfold ax at hc;grind
theorem Oh{es:List Ev}{t:Int}{i:Nat}{e:Ev}(he:es[i]?=some e)(hi:i<=fa es t):(i<fa es t↔e.a<=t):=by
 have hlt:=(List.getElem?_eq_some_iff.1 he);obtain⟨hl,rfl⟩:=hlt;constructor
 ·intro h;exact KL h
 ·intro h
  rcases Sf i (fa es t)with h1|h1
  ·exact h1
  ·have:i=fa es t:=by omega
   subst this;have:=Kz hl
   omega
theorem LU(n:Nat)(es:List Ev)(t:Int)(hL:iV es)(hn:es.length<n):wW n (evL es) t=some ((atL es t).s,(atL es t).h,(atL es t).e,(atL es t).t):=by
 unfold wW DE;refine eG (fun s=>∃(i:Nat) (l:Ln),s=((i:Int),l.s,l.h,l.e,l.t)/\i<=fa es t/\l=fin first (es.take i)) (fun s=>es.length-s.1.toNat) _ ?_ n _ ⟨0,first,rfl,by omega,rfl⟩ (by simp;omega)
 rintro _ go ⟨i,l,rfl,hi,hl⟩ ih;simp only
 unfold Em;have hle:=Bd es t;have h40:=hL.2;have c2:(0:Int)<=(i:Int):=by omega
 have c4:(-9223372036854775808:Int)<=(i:Int)+1:=by omega
 have c5:(i:Int)+1<=(9223372036854775807:Int):=by omega
 by_cases hlt:i<es.length
 ·obtain⟨e,he⟩:=aF hlt
  have hc:∀k,cA (evL es) (i:Int) k=(evR e).getD k (.int 0):=fun k=>cx (by simpa using he)
  have h0:cI (evL es) i 0=e.k:=by simp only[cI,hc];rfl
  have h1:cI (evL es) i 1=e.a:=by simp only[cI,hc];rfl
  have h2:cI (evL es) i 2=e.h:=by simp only[cI,hc];rfl
  have c1:(i:Int)<(es.length:Int):=by omega
  simp only[h0,h1,h2,rz n l e,v1,v0,c1,c2,c4,c5,decide_true,cond_true,v4,kE];have hu:=Oh he hi;by_cases ht:e.a<=t
  ·have hok:Ok l e:=by
    have:=(IH hL.1 (i+1))
    rw[mw he,wv,<-hl]at this;exact this.2.1
   simp only[ht,decide_true,cond_true,ry hok];exact ih _ ⟨i+1,nxt l e,rfl,by have:=hu.2 ht;omega,by rw[mw he,Bz,<-hl];rfl⟩ (by simp only;omega)
  ·simp only[ht,decide_false,cond_false]
   have:i=fa es t:=by
    have:¬i<fa es t:=fun h=>ht (hu.1 h)
    omega
   unfold atL;rw[<-this,<-hl]
 ·have h0:i=es.length:=by omega
  have c1:¬(i:Int)<(es.length:Int):=by omega
  simp only[v1,c1,decide_false,cond_false];have:i=fa es t:=by omega
  unfold atL;rw[<-this,<-hl]
theorem C7(n:Nat)(es:List Ev)(hn:es.length<n):mh n (evL es)=some (decide (iV es)):=by
 unfold mh Db;rw[JX n es hn];simp only[v0,oh];by_cases h:iV es
 ·rw[my h];simp[h]
 ·rw[Br h];simp[h]
abbrev atT(es:List Ev)(t:Int):Int×Int×Int×Int×Int:=((atR es t).1.s,(atR es t).1.h,(atR es t).1.e,(atR es t).1.t,(atR es t).2)
theorem La(n:Nat)(es:List Ev)(t:Int)(hn:es.length<n):wN n (evL es) t=some (atT es t):=by
 unfold wN Dr atT atR so;rw[C7 n es hn];by_cases h:iV es
 ·rw[LU n es t h hn]
  simp only[h,decide_true,v0,v3,cond_false,true_and];unfold zero;grind
 ·simp[h,zero]
theorem RC{a b:Int}(ha:0<=a)(hb:0<=b)(h:a+b<=9223372036854775807):IntKind.wrap .i64 (jY .shr .u64 (IntKind.wrap .u64 (a+b)) 1)=(a+b) / 2:=by
 have h1:IntKind.wrap .u64 (a+b)=a+b:=by
  unfold IntKind.wrap;simp only[IntKind.bits,IntKind.signed,Bool.false_and];simp
  omega
 rw[h1];have h2:jY .shr .u64 (a+b) 1=(a+b) / 2:=by
  unfold jY;simp only[IntKind.bits];rw[Int.fdiv_eq_ediv_of_nonneg _ (by decide)]
  rfl
 rw[h2];unfold IntKind.wrap;simp only[IntKind.bits,IntKind.signed,Bool.true_and];have h3:(a+b) / 2 % 2 ^ 64=(a+b) / 2:=Int.emod_eq_of_lt (by omega) (by omega)
 simp only[h3];rw[if_neg (by simp;omega)]
end Go.Proofs.YtbfkkigbedmhgaaGreat
namespace Go.Proofs.YtbfkkigbedmhgaaGreat
open Go Go.Sx Go.Dial.Clm
abbrev ceR(e:Ce):List AV:=[.int e.k,.int e.a,.int e.r]
abbrev ceL(es:List Ce):Lv:=es.map ceR
abbrev csR(x:Cs):List AV:=[.int x.s,.int x.f,.int x.n]
abbrev csL(l:List Cs):Lv:=l.map csR
theorem aI(n:Nat){c k:Int}(hc:ax c)(hk:0<k):am n c k=some (pk c k):=by
 unfold am AA pk;unfold ax at hc;grind
theorem Hn(n:Nat)(r:Rl):oM n r.a r.c r.s r.r=some (decide (RlV r)):=by
 by_cases h:RlV r<;>simp only[h,decide_true,decide_false]<;>unfold RlV at h<;>unfold oM yt<;>grind
theorem G8(n:Nat)(c:Cl):oA n c.n c.f c.t c.h c.a c.b=some (decide (ClV c)):=by
 by_cases h:ClV c<;>simp only[h,decide_true,decide_false]<;>unfold ClV at h<;>unfold oA yg<;>grind
theorem gy{α:Type}{l:List α}{i:Nat}{x:α}(h:l[i]?=some x):l.drop i=x::l.drop (i+1):=by
 obtain⟨hl,rfl⟩:=List.getElem?_eq_some_iff.1 h;exact y0 hl
theorem xP(n:Nat)(r:Rl)(c:Cl)(es:List Ce)(hn:25<n):lD n r.a r.c r.s r.r c.n c.f c.t c.h c.a c.b (ceL es)=some (decide (eP r c es)):=by
 unfold lD yh eP;rw[Hn,G8];by_cases h1:RlV r
 ·by_cases h2:ClV c
  ·by_cases h3:es.length<=20
   ·have c3:¬(20:Int)<(es.length:Int):=by omega
    simp only[h1,h2,h3,decide_true,v0,v3,cond_false,v1,c3,decide_false,true_and];refine eG (fun s=>∃(i:Nat) (last:Int),s=(last,(i:Int))/\i<=es.length/\(EvV c.a es↔EvV last (es.drop i))) (fun s=>es.length-s.2.toNat) _ ?_ n _ ⟨0,c.a,rfl,by omega,by simp⟩ (by simp;omega)
    rintro _ go ⟨i,last,rfl,hi,hE⟩ ih;simp only
    unfold xL;by_cases hlt:i<es.length
    ·obtain⟨e,he⟩:=aF hlt
     have hc:∀k,cA (ceL es) (i:Int) k=(ceR e).getD k (.int 0):=fun k=>cx (by simpa using he)
     have g0:cI (ceL es) i 0=e.k:=by simp only[cI,hc];rfl
     have g1:cI (ceL es) i 1=e.a:=by simp only[cI,hc];rfl
     have g2:cI (ceL es) i 2=e.r:=by simp only[cI,hc];rfl
     have c1:(i:Int)<(es.length:Int):=by omega
     have c2:(0:Int)<=(i:Int):=by omega
     have c4:(-9223372036854775808:Int)<=(i:Int)+1:=by omega
     have c5:(i:Int)+1<=(9223372036854775807:Int):=by omega
     simp only[g0,g1,g2,v1,c1,c2,c4,c5,decide_true,cond_true,v4];rw[gy he]at hE;have hgo:CeV last e->go (e.a,(i:Int)+1)=some (decide (EvV c.a es)):=fun hv=>ih _ ⟨i+1,e.a,by simp,by omega,by rw[hE];exact⟨fun h=>h.2,fun h=>⟨hv,h⟩⟩⟩ (by simp only;omega)
     by_cases hv:CeV last e
     ·rw[hgo hv]
      unfold CeV at hv;grind
     ·have:¬EvV c.a es:=fun h=>hv (hE.1 h).1
      simp only[this,decide_false];unfold CeV at hv;grind
    ·have h0:i=es.length:=by omega
     have c1:¬(i:Int)<(es.length:Int):=by omega
     simp only[v1,c1,decide_false,cond_false];subst h0;rw[RN]at hE;have:EvV c.a es:=hE.2 trivial
     simp[this]
   ·have c3:(20:Int)<(es.length:Int):=by omega
    simp only[h1,h2,h3,decide_true,v0,v3,cond_false,v1,c3,cond_true,true_and,false_and,decide_false]
  ·simp[h1,h2]
 ·simp[h1]
abbrev stT(x:Cs):Int×Int×Int:=(x.s,x.f,x.n)
theorem kv(n:Nat)(r:Rl)(hr:RlV r)(s f:Int)(h1:0<=f)(h2:f<=100000000):cH n r.a r.c r.s r.r s f=some (stT (st r s f)):=by
 unfold cH vN stT st dur;unfold RlV at hr;grind
theorem x7(n:Nat)(s:Int):lq n s=some (aft s):=by
 unfold lq yp aft;grind
theorem Dl(n:Nat)(c:Cl)(s:Int)(e:Ce):eR n c.n c.f c.t c.h c.a c.b s e.k e.a e.r=some (bec c.b s e):=by
 unfold eR uo bec;grind
theorem mm{out:List Cs}{now:Cs}(h:out.getLast?=some now)(k:Nat):cA (csL out) ((out.length:Int)-1) k=(csR now).getD k (.int 0):=by
 refine cx ?_
 rw[R3]at h;rw[show((out.length:Int)-1).toNat=out.length-1 by omega]
 exact h
theorem Ju{out:List Cs}{now:Cs}(h:out.getLast?=some now):1<=out.length:=by
 cases out with
 |nil=>cases h
 |cons x l=>simp
structure RunI (r:Rl) (c:Cl) (es:List Ce) (u:Int) (out:List Cs) (now:Cs) (i:Nat):Prop where
 le:i<=es.length
 last:out.getLast?=some now
 form:∃s f,now=st r s f/\0<=f/\f<=40000000
 rest:dy u (aJ r c es)=out++dy u (tl r c.b now (es.drop i))
 evs:∃l,0<=l/\EvV l (es.drop i)
theorem RunI.len{r:Rl}{c:Cl}{es:List Ce}{u:Int}{out:List Cs}{now:Cs}{i:Nat}(h:RunI r c es u out now i)(hl:es.length<=20):out.length<=110:=by
 have h1:(dy u (aJ r c es)).length<=(aJ r c es).length:=by unfold dy;exact List.Sublist.length_le (R6 _)
 have h2:=HX (r:=r) (b:=c.b) _ (x0 r c) es (RL _);have h3:=iX (x0 r c).s;have h4:=congrArg List.length h.rest;unfold aJ at h1 h4;simp only[RM,v6]at h1 h4;omega
theorem Hw{r:Rl}(hr:RlV r){s f:Int}(h0:0<=f):0<=(st r s f).n↔act (st r s f):=by
 unfold act;by_cases h:1<=s/\s<=4
 ·have:=(u0 hr (f:=f) h).1
  exact⟨fun _=>h,fun _=>by omega⟩
 ·simp only[st]
  rw[if_neg h];exact⟨fun h'=>by omega,fun h'=>absurd h' h⟩
theorem Mc{u:Int}{l:List Cs}(h:∀x∈l,u<x.f):dy u l=[]:=by
 cases l with
 |nil=>rfl
 |cons x l=>
  have:=h x (RK ..)
  unfold dy;rw[RY];simp;omega
theorem wB{u:Int}{x:Cs}{l:List Cs}(h:x.f<=u):dy u (x::l)=x::dy u l:=by
 unfold dy;rw[RY];simp[h]
theorem RunI.auto{r:Rl}{c:Cl}{es:List Ce}{u:Int}{out:List Cs}{now:Cs}{i:Nat}(hr:RlV r)(hu:u<=40000000)(h:RunI r c es u out now i)(ha:act now)(h1:∀e,es[i]?=some e->now.n<=e.a)(h2:now.n<=u):
  RunI r c es u (out++[st r (aft now.s) now.n]) (st r (aft now.s) now.n) i:=by
 obtain⟨s,f,hf,f0,f1⟩:=h.form;have h0:0<=now.n:=by rw[hf];exact(Hw hr f0).2 (hf▸ha)
 refine⟨h.le,by simp,⟨_,_,rfl,h0,by omega⟩,?_,h.evs⟩
 rw[h.rest];have:tl r c.b now (es.drop i)=st r (aft now.s) now.n::tl r c.b (st r (aft now.s) now.n) (es.drop i):=by
  cases hd:es.drop i with
  |nil=>exact Aw ha
  | cons e rest=>
   have he:es[i]?=some e:=by
    have:=congrArg (fun l=>l[0]?) hd
    simpa using this
   exact wK ⟨ha,h1 e he⟩
 rw[this,wB (by exact h2)]
 simp
theorem RunI.done{r:Rl}{c:Cl}{es:List Ce}{u:Int}{out:List Cs}{now:Cs}{i:Nat}(hr:RlV r)(h:RunI r c es u out now i)(h1:act now->u<now.n)(h2:∀e,es[i]?=some e->u<e.a):dy u (aJ r c es)=out:=by
 rw[h.rest];obtain⟨l,l0,hE⟩:=h.evs;have:dy u (tl r c.b now (es.drop i))=[]:=by
  refine Mc fun x hx=>?_
  have:=OF hr (b:=c.b) (now:=now) (es:=es.drop i) (m:=u+1) (fun ha=>by have:=h1 ha;omega) (fun e he=>?_) x hx
  ·omega
  ·cases hd:es.drop i with
   |nil=>rw[hd]at he;cases he
   | cons y rest=>
    have hy:es[i]?=some y:=by
     have:=congrArg (fun l=>l[0]?) hd
     simpa using this
    have h3:=h2 y hy;rw[hd]at he hE;rcases List.mem_cons.1 he with rfl|he
    ·omega
    ·have:=(HT hE.2 e he).1;omega
 rw[this];simp
theorem RunI.event{r:Rl}{c:Cl}{es:List Ce}{u:Int}{out:List Cs}{now:Cs}{i:Nat}{e:Ce}(h:RunI r c es u out now i)(he:es[i]?=some e)(h1:¬(act now/\now.n<=e.a))(hb:¬bec c.b now.s e<0)(h2:e.a<=u):
  RunI r c es u (out++[st r (bec c.b now.s e) e.a]) (st r (bec c.b now.s e) e.a) (i+1):=by
 obtain⟨l,l0,hE⟩:=h.evs;have hd:=gy he;rw[hd]at hE;have hlt:=(List.getElem?_eq_some_iff.1 he).1;refine⟨hlt,by simp,⟨_,_,rfl,by have:=hE.1.2.2.1;omega,by have:=hE.1.2.2.2.1;omega⟩,?_,⟨e.a,by have:=hE.1.2.2.1;omega,hE.2⟩⟩
 rw[h.rest,hd,DI h1 hb,wB (by exact h2)]
 simp
theorem RunI.void{r:Rl}{c:Cl}{es:List Ce}{u:Int}{out:List Cs}{now:Cs}{i:Nat}{e:Ce}(h:RunI r c es u out now i)(he:es[i]?=some e)(h1:¬(act now/\now.n<=e.a))(hb:bec c.b now.s e<0):RunI r c es u out now (i+1):=by
 obtain⟨l,l0,hE⟩:=h.evs;have hd:=gy he;rw[hd]at hE;have hlt:=(List.getElem?_eq_some_iff.1 he).1;refine⟨hlt,h.last,h.form,?_,⟨e.a,by have:=hE.1.2.2.1;omega,hE.2⟩⟩
 rw[h.rest,hd,Be h1 hb]
theorem Pb{n:Nat}{r:Rl}{c:Cl}{es:List Ce}{u:Int}{out:List Cs}{now:Cs}{i:Nat}{go:iu->Option cy}(hr:RlV r)(hu2:u<=40000000)(hlen:es.length<=20)(hI:RunI r c es u out now i)(h0:i=es.length)(hn:rk now.s<n)(vd:Lv)(hv:True):
  ∃q:Lv×Lv,(bif decide ((i:Int)<(es.length:Int))then none else ab (fun a s=>vf n go a r.a r.c r.s r.r c.n c.f c.t c.h c.a c.b (ceL es) u vd (i:Int) s.1 s.2.1 s.2.2.2) n (csL out,now.s,now.f,now.n))=some q/\q.1=csL (dy u (aJ r c es)):=by
 have c7:¬(i:Int)<(es.length:Int):=by omega
 have hnone:∀e,¬es[i]?=some e:=fun e he=>by have:=(List.getElem?_eq_some_iff.1 he).1;omega
 simp only[c7,decide_false,cond_false];refine dG (fun s=>∃(out:List Cs) (now:Cs),s=(csL out,now.s,now.f,now.n)/\RunI r c es u out now i) (fun s=>rk s.2.1) (fun q:Lv×Lv=>q.1=csL (dy u (aJ r c es))) ?_ n _ ⟨out,now,rfl,hI⟩ hn
 rintro _ a ⟨out,now,rfl,hI⟩ ih1;simp only
 unfold vf;have hol:=hI.len hlen;obtain⟨s,f,hf,f0,f1⟩:=hI.form;have hact:=Hw hr (s:=s) f0;rw[<-hf]at hact;have c11:((out.length:Int)+1)*24<=140737488355328:=by omega
 have hne:(i:Int)=((ceL es).length:Int):=by simp;omega
 rw[show decide ((i:Int)=((ceL es).length:Int))=true from decide_eq_true hne]
 simp only[v1,c11,decide_true];simp only[cond_true,x7,v0];by_cases hn0:0<=now.n
 ·simp only[hn0,decide_true,cond_true]
  by_cases hnm:now.n<=u
  ·simp only[hnm,decide_true,cond_true,kv n r hr (aft now.s) now.n hn0 (by omega),v0,stT]
   exact ih1 _ ⟨out++[st r (aft now.s) now.n],_,by simp,hI.auto hr hu2 (hact.1 hn0) (fun e' he'=>absurd he' (hnone e')) hnm⟩ (gI (hact.1 hn0))
  ·simp only[hnm,decide_false,cond_false]
   exact⟨_,rfl,by rw[hI.done hr (fun _=>by omega) (fun e' he'=>absurd he' (hnone e'))]⟩
 ·simp only[hn0,decide_false,cond_false]
  exact⟨_,rfl,by rw[hI.done hr (fun h=>absurd (hact.2 h) hn0) (fun e' he'=>absurd he' (hnone e'))]⟩
theorem JD(n:Nat)(r:Rl)(c:Cl)(es:List Ce)(u:Int)(h:eP r c es)(hn:200<n)(hu1:c.a<=u)(hu2:u<=40000000):
  ∃vd,o8 n r.a r.c r.s r.r c.n c.f c.t c.h c.a c.b (ceL es) u=some (csL (dy u (aJ r c es)),vd):=by
 obtain⟨hr,hcl,hlen,hE⟩:=h;have ha0:0<=c.a/\c.a<=10000000:=by unfold ClV at hcl;omega
 have main:∃q:Lv×Lv,o8 n r.a r.c r.s r.r c.n c.f c.t c.h c.a c.b (ceL es) u=some q/\q.1=csL (dy u (aJ r c es)):=by
  unfold o8 BR;rw[kv n r hr 1 c.a (by omega) (by omega)]
  simp only[v0];refine dG (fun s=>∃(out:List Cs) (vd:Lv) (i:Nat) (now:Cs),s=(csL out,vd,(i:Int))/\vd.length<=i/\RunI r c es u out now i) (fun s=>es.length+1-s.2.2.toNat) (fun q:Lv×Lv=>q.1=csL (dy u (aJ r c es))) ?_ n _
   ⟨[x0 r c],[],0,x0 r c,rfl,by simp,by omega,rfl,⟨1,c.a,rfl,by omega,by omega⟩,by unfold aJ;rw[wB (by exact hu1)];simp,⟨c.a,by omega,by simpa using hE⟩⟩ (by simp;omega)
  rintro _ go ⟨out,vd,i,now,rfl,hvd,hI⟩ ih;simp only
  unfold BS BU;have hpos:=Ju hI.last;have hol:=hI.len hlen;have hle:=hI.le;have c1:(i:Int)<=(es.length:Int):=by omega
  have c2:(-9223372036854775808:Int)<=(out.length:Int)-1:=by omega
  have c3:(out.length:Int)-1<=(9223372036854775807:Int):=by omega
  have c4:(0:Int)<=(out.length:Int)-1:=by omega
  have c5:(out.length:Int)-1<(out.length:Int):=by omega
  have l0:cI (csL out) ((out.length:Int)-1) 0=now.s:=by simp only[cI,mm hI.last];rfl
  have l1:cI (csL out) ((out.length:Int)-1) 1=now.f:=by simp only[cI,mm hI.last];rfl
  have l2:cI (csL out) ((out.length:Int)-1) 2=now.n:=by simp only[cI,mm hI.last];rfl
  have c6:(0:Int)<=(i:Int):=by omega
  have c8:(-9223372036854775808:Int)<=(i:Int)+1:=by omega
  have c9:(i:Int)+1<=(9223372036854775807:Int):=by omega
  have c10:((vd.length:Int)+1)*8<=140737488355328:=by omega
  simp only[v1,c1,c2,c3,c4,c5,c6,l0,l1,l2,decide_true,cond_true,v4];have stat:∀(out:List Cs) (now:Cs),RunI r c es u out now i->∃s f,now=st r s f/\0<=f/\f<=40000000:=fun _ _ h=>h.form
  by_cases hlt:i<es.length
  ·as_aux_lemma=>
   have c7:(i:Int)<(es.length:Int):=by omega
   obtain⟨e,he⟩:=aF hlt;have hc:∀k,cA (ceL es) (i:Int) k=(ceR e).getD k (.int 0):=fun k=>cx (by simpa using he)
   have g0:cI (ceL es) i 0=e.k:=by simp only[cI,hc];rfl
   have g1:cI (ceL es) i 1=e.a:=by simp only[cI,hc];rfl
   have g2:cI (ceL es) i 2=e.r:=by simp only[cI,hc];rfl
   simp only[c7,decide_true,cond_true];refine dG (fun s=>∃(out:List Cs) (now:Cs),s=(csL out,now.s,now.f,now.n)/\RunI r c es u out now i) (fun s=>rk s.2.1) (fun q:Lv×Lv=>q.1=csL (dy u (aJ r c es))) ?_ n _ ⟨out,now,rfl,hI⟩ (by have:=iX now.s;simp only;omega)
   rintro _ b ⟨out,now,rfl,hI⟩ ih1;simp only
   unfold BZ;have hol:=hI.len hlen;obtain⟨s,f,hf,f0,f1⟩:=hI.form;have hact:=Hw hr (s:=s) f0;rw[<-hf]at hact;have e0:0<=e.a/\e.a<=20000000:=by
    obtain⟨l,l0,hE'⟩:=hI.evs;rw[gy he]at hE';have:=hE'.1.2.2
    omega
   have c11:((out.length:Int)+1)*24<=140737488355328:=by omega
   have hne:¬(i:Int)=(es.length:Int):=by omega
   simp only[g0,g1,g2,v1,c8,c9,c10,c11,hne,decide_true,decide_false,cond_true,cond_false,v4,x7,Dl,v0];have tail:¬(act now/\now.n<=aQ e.a u)->∃q:Lv×Lv,(bif decide (u<e.a)then some (csL out,vd)else bif decide (bec c.b now.s e<0)then go (csL out,vd++[[AV.int (i:Int)]],(i:Int)+1)else
     (cH n r.a r.c r.s r.r (bec c.b now.s e) e.a).bind fun a=>go (csL out++[[AV.int a.1,AV.int a.2.1,AV.int a.2.2]],vd,(i:Int)+1))=some q/\q.1=csL (dy u (aJ r c es)):=fun hna=>by
    by_cases hue:u<e.a
    ·simp only[hue,decide_true,cond_true]
     refine⟨_,rfl,?_⟩
     have hm:aQ e.a u=u:=by unfold aQ;rw[if_pos hue]
     rw[hm]at hna;rw[hI.done hr (fun ha=>by have:¬now.n<=u:=fun h=>hna ⟨ha,h⟩;omega) (fun e' he'=>by rw[he]at he';cases he';exact hue)]
    ·have hm:aQ e.a u=e.a:=by unfold aQ;rw[if_neg hue]
     rw[hm]at hna;simp only[hue,decide_false,cond_false];by_cases hb:bec c.b now.s e<0
     ·simp only[hb,decide_true,cond_true]
      exact ih _ ⟨out,vd++[[AV.int (i:Int)]],i+1,now,by simp,by simp;omega,hI.void he hna hb⟩ (by simp only;omega)
     ·simp only[hb,decide_false,cond_false,kv n r hr (bec c.b now.s e) e.a e0.1 (by omega),v0,stT]
      exact ih _ ⟨out++[st r (bec c.b now.s e) e.a],vd,i+1,_,by simp,by omega,hI.event he hna hb (by omega)⟩ (by simp only;omega)
   by_cases hn0:0<=now.n
   ·simp only[hn0,decide_true,cond_true]
    by_cases hnm:now.n<=aQ e.a u
    ·have hle:now.n<=e.a/\now.n<=u:=by unfold aQ at hnm;split at hnm<;>omega
     simp only[hnm,decide_true,cond_true,kv n r hr (aft now.s) now.n hn0 (by omega),v0,stT]
     exact ih1 _ ⟨out++[st r (aft now.s) now.n],_,by simp,hI.auto hr hu2 (hact.1 hn0) (fun e' he'=>by rw[he]at he';cases he';exact hle.1) hle.2⟩ (gI (hact.1 hn0))
    ·simp only[hnm,decide_false,cond_false]
     exact tail fun h=>hnm h.2
   ·simp only[hn0,decide_false,cond_false]
    exact tail fun h=>hn0 (hact.2 h.1)
  ·have c7:¬(i:Int)<(es.length:Int):=by omega
   have:=Pb (n:=n) (go:=go) hr hu2 hlen hI (by omega) (by have:=iX now.s;omega) vd trivial
   simp only[c7,decide_false,cond_false]at this⊢;exact this
 obtain⟨⟨q1,q2⟩,h1,h2⟩:=main;exact⟨q2,by rw[h1];simp only at h2;rw[h2]⟩
theorem ub(n:Nat)(r:Rl)(c:Cl)(es:List Ce)(t:Int)(hn:200<n):i9 n r.a r.c r.s r.r c.n c.f c.t c.h c.a c.b (ceL es) t=some ((outR r c es t).1.s,(outR r c es t).1.f,(outR r c es t).1.n,(outR r c es t).2):=by
 unfold i9 ua outR oJ;rw[xP n r c es (by omega)]
 by_cases hv:eP r c es
 ·simp only[hv,decide_true,v0,v3,cond_false,true_and]
  by_cases h0:0<=t
  ·by_cases h1:t<=20000000
   ·by_cases h2:t<c.a
    ·simp only[h0,h1,h2,decide_true,v3,cond_false,cond_true,and_self,if_true]
     have:dy t (aJ r c es)=[]:=by
      unfold aJ dy;rw[RY];simp[x0,st];omega
     unfold jx;rw[this];rfl
    ·obtain⟨vd,hrun⟩:=JD n r c es t hv hn (by omega) (by omega)
     simp only[h0,h1,h2,hrun,decide_true,decide_false,v3,cond_false,cond_true,and_self,if_true,v0];unfold jx;obtain⟨out,hout⟩:∃out,out=dy t (aJ r c es):=⟨_,rfl⟩
     rw[<-hout];have hne:out≠[]:=by
      rw[hout];unfold aJ;rw[wB (by simp[x0,st];omega)]
      simp
     obtain⟨now,hl⟩:∃now,out.getLast?=some now:=⟨_,List.getLast?_eq_some_getLast hne⟩
     have hpos:=Ju hl;have hlen:out.length<=110:=by
      have k1:(dy t (aJ r c es)).length<=(aJ r c es).length:=by unfold dy;exact List.Sublist.length_le (R6 _)
      have k2:=HX (r:=r) (b:=c.b) _ (x0 r c) es (RL _);have k3:=iX (x0 r c).s;have k4:=hv.2.2.1;rw[<-hout]at k1;unfold aJ at k1;simp only[RM]at k1;omega
     have c2:(-9223372036854775808:Int)<=(out.length:Int)-1:=by omega
     have c3:(out.length:Int)-1<=(9223372036854775807:Int):=by omega
     have c4:(0:Int)<=(out.length:Int)-1:=by omega
     have c5:(out.length:Int)-1<(out.length:Int):=by omega
     have l0:cI (csL out) ((out.length:Int)-1) 0=now.s:=by simp only[cI,mm hl];rfl
     have l1:cI (csL out) ((out.length:Int)-1) 1=now.f:=by simp only[cI,mm hl];rfl
     have l2:cI (csL out) ((out.length:Int)-1) 2=now.n:=by simp only[cI,mm hl];rfl
     simp only[v1,c2,c3,c4,c5,l0,l1,l2,decide_true,v4];simp only[cond_true,hl,Sy]
   ·have:¬(0<=t/\t<=20000000):=fun h=>h1 h.2
    simp[h0,h1]
  ·simp[h0]
 ·simp[hv]
def mr(v:Int):Int:=if pk (RP v 16) 4=3 then 1+pk v 86400 else 1+pk v 12
theorem ug(v:Int):1<=mr v/\mr v<=86400:=by
 have h1:=aR v (k:=86400) (by decide)
 have h2:=aR v (k:=12) (by decide)
 unfold mr;split<;>omega
theorem Du{v:Int}(h:ax v):ax (RP v 16):=by
 unfold ax at h⊢
 rcases Int.le_total 0 v with h0|h0
 ·rw[y7 h0];omega
 ·obtain⟨w,rfl⟩:∃w,v= -w:=⟨-v,by omega⟩
  rw[Sq,y7 (by omega)];omega
theorem BE(n:Nat)(a b c d:Int)(ha:ax a)(hb:ax b)(hc:ax c)(hd:ax d):jE n a b c d=some (mr a,mr b,mr c,mr d):=by
 have key:∀v,(0<=pk v 12/\pk v 12<12)/\0<=pk v 86400/\pk v 86400<86400:=fun v=>⟨aR v (by decide),aR v (by decide)⟩
 have ta:=Du ha;have tb:=Du hb;have tc:=Du hc;have td:=Du hd;unfold jE pZ pT mr;have p4:(0:Int)<4:=by decide
 have p12:(0:Int)<12:=by decide
 have pd:(0:Int)<86400:=by decide
 simp only[aI n ha p12,aI n hb p12,aI n hc p12,aI n hd p12,aI n ha pd,aI n hb pd,aI n hc pd,aI n hd pd,
  aI n ta p4,aI n tb p4,aI n tc p4,aI n td p4,v0]
 have ka:=key a;have kb:=key b;have kc:=key c;have kd:=key d;unfold ax at ta tb tc td;generalize pk (RP a 16) 4=x1
 generalize pk (RP b 16) 4=x2
 generalize pk (RP c 16) 4=x3
 generalize pk (RP d 16) 4=x4
 generalize RP a 16=e at *
 generalize RP b 16=f at *
 generalize RP c 16=g at *
 generalize RP d 16=y4 at *
 generalize pk a 12=a1 at *
 generalize pk b 12=b1 at *
 generalize pk c 12=c1 at *
 generalize pk d 12=d1 at *
 generalize pk a 86400=a2 at *
 generalize pk b 86400=b2 at *
 generalize pk c 86400=c2 at *
 generalize pk d 86400=d2 at *
 have r1:∀z:Int,0<=z->z<86400->(decide ((-9223372036854775808:Int)<=1+z)&&decide (1+z<=9223372036854775807))=true:=fun z h1 h2=>by simp;omega
 simp only[r1 a1 ka.1.1 (by omega),r1 b1 kb.1.1 (by omega),r1 c1 kc.1.1 (by omega),r1 d1 kd.1.1 (by omega),r1 a2 ka.2.1 (by omega),r1 b2 kb.2.1 (by omega),r1 c2 kc.2.1 (by omega),r1 d2 kd.2.1 (by omega),ta,tb,tc,td,decide_true,v4]
 simp only[cond_true];by_cases h1:x1=3<;>by_cases h2:x2=3<;>by_cases h3:x3=3<;>by_cases h4:x4=3<;>simp only[h1,h2,h3,h4,decide_true,decide_false,if_true,if_false]<;>rfl
end Go.Proofs.YtbfkkigbedmhgaaGreat
namespace Go.Proofs.YtbfkkigbedmhgaaGreat
open Go Go.Sx Go.Dial.Lif
theorem JN{es:List Ev}(h:All first es){t:Int}{i:Nat}{e:Ev}(he:es[i]?=some e):i<fa es t↔e.a<=t:=by
 obtain⟨hl,rfl⟩:=List.getElem?_eq_some_iff.1 he;constructor
 ·intro h;exact KL h
 ·intro ht
  rcases Sf i (fa es t)with h1|h1
  ·exact h1
  ·have h2:=Kz (es:=es) (t:=t) (by omega)
   have h3:=LJ h h1 hl;omega
theorem L8(n:Nat)(es:List Ev)(t:Int)(hn:es.length<n):Bl n (evL es) t=some (if so es t then((atL es t).s,(atL es t).h,(atL es t).e,(atL es t).t,true)else(0,0,0,0,false)):=by
 unfold Bl FI;rw[wU n es hn];simp only[v0,oh];by_cases hL:iV es
 ·by_cases ht:0<=t/\t<=10000000
  ·have hA:so es t:=⟨hL,ht⟩
   simp only[my hL,hA,ht.1,ht.2,decide_true,v3,cond_false,cond_true,if_true];have hle:=Bd es t;have h40:=hL.2;refine eG (fun s=>∃i j:Nat,s=((i:Int),(j:Int))/\i<=fa es t/\fa es t<=j/\j<=es.length) (fun s=>(s.2-s.1).toNat) _ ?_ n _ ⟨0,es.length,by simp,by omega,by omega,by omega⟩ (by simp;omega)
   rintro _ go ⟨i,j,rfl,h1,h2,h3⟩ ih;simp only
   unfold FF;by_cases hij:i<j
   ·have c1:(i:Int)<(j:Int):=by omega
    have c2:(-9223372036854775808:Int)<=(i:Int)+j:=by omega
    have c3:(i:Int)+j<=(9223372036854775807:Int):=by omega
    obtain⟨k,hk⟩:∃k,k=(i+j) / 2:=⟨_,rfl⟩
    have hh:IntKind.wrap .i64 (jY .shr .u64 (IntKind.wrap .u64 ((i:Int)+j)) 1)=(k:Int):=by
     rw[RC (by omega) (by omega) (by omega)];omega
    have c4:(0:Int)<=(k:Int):=by omega
    have c5:(k:Int)<(es.length:Int):=by omega
    have c6:(-9223372036854775808:Int)<=(k:Int)+1:=by omega
    have c7:(k:Int)+1<=(9223372036854775807:Int):=by omega
    have c8:(0:Int)<=1:=by omega
    obtain⟨e,he⟩:=aF (show k<es.length by omega)
    have hc:cI (evL es) k 1=e.a:=by simp only[cI];rw[cx (by simpa using he)];rfl
    have hu:=JN hL.1 (t:=t) he;simp only[c1,c2,c3,hh,c4,c5,c6,c7,c8,hc,v1,decide_true,cond_true,v4];by_cases hlt:t<e.a
    ·simp only[hlt,decide_true,v3,cond_false]
     refine ih _ ⟨i,k,rfl,h1,?_,by omega⟩ (by simp only;omega)
     have:¬k<fa es t:=fun h=>by have:=hu.1 h;omega
     omega
    ·simp only[hlt,decide_false,RX,cond_true]
     refine ih _ ⟨k+1,j,rfl,?_,h2,h3⟩ (by simp only;omega)
     have:=hu.2 (by omega)
     omega
   ·have c1:¬(i:Int)<(j:Int):=by omega
    have c2:(0:Int)<=(i:Int):=by omega
    have c3:(i:Int)<=(es.length:Int):=by omega
    have hi:i=fa es t:=by omega
    have hT:RR (i:Int).toNat (evL es)=evL (es.take i):=by
     rw[<-Sa];rfl
    simp only[c1,c2,c3,v1,decide_true,decide_false,cond_true,cond_false,hT];rw[wU n (es.take i) (by simp;omega)]
    simp only[v0,oh,my (MH hL i)];unfold atL;rw[<-hi]
  ·have hA:¬so es t:=fun h=>ht h.2
   simp only[my hL,hA,decide_true,v3,cond_false,if_false];grind
 ·have hA:¬so es t:=fun h=>hL h.1
  simp[Br hL,hA]
theorem Mj(n:Nat)(es:List Ev)(t:Int)(hn:es.length<n):Bq n (evL es) t=some (atT es t):=by
 unfold Bq F6;rw[L8 n es t hn];unfold atT atR;by_cases h:so es t<;>simp[h,zero]
theorem Ha(n:Nat)(l:Ln)(x:Int×Int×Int)(hl:Vld l)(h1:ax x.1)(h2:ax x.2.1)(h3:ax x.2.2):∃e:Ev,lr n l.s l.h l.e l.t x.1 x.2.1 x.2.2=some (e.k,e.a,e.h):=by
 obtain⟨s,g,p,t⟩:=l;obtain⟨x,y,z⟩:=x;unfold Vld at hl;simp only at hl h1 h2 h3⊢
 have q5:=aR x (k:=5) (by decide)
 have q3:=aR x (k:=3) (by decide)
 have q2:=aR x (k:=2) (by decide)
 have q1:=aR x (k:=1) (by decide)
 have r6:=aR y (k:=6) (by decide)
 have w5:=aR z (k:=5) (by decide)
 have key:∃w:Int×Int×Int,lr n s g p t x y z=some w:=by
  unfold lr yk xK;simp only[iw n h1 (show(0:Int)<5 by decide),iw n h1 (show(0:Int)<3 by decide),iw n h1 (show(0:Int)<2 by decide),iw n h1 (show(0:Int)<1 by decide),
   iw n h2 (show(0:Int)<6 by decide),iw n h3 (show(0:Int)<5 by decide),v0]
  generalize pk x 5=a5 at *
  generalize pk x 3=a3 at *
  generalize pk x 2=a2 at *
  generalize pk x 1=a1 at *
  generalize pk y 6=b at *
  generalize pk z 5=c at *
  have n1:(-9223372036854775808:Int)<=b+2592000:=by omega
  have n2:b+2592000<=(9223372036854775807:Int):=by omega
  have n3:(-9223372036854775808:Int)<=t+(b+2592000):=by omega
  have n4:t+(b+2592000)<=(9223372036854775807:Int):=by omega
  have n5:(-9223372036854775808:Int)<=t+b:=by omega
  have n6:t+b<=(9223372036854775807:Int):=by omega
  have n7:(-9223372036854775808:Int)<=c+1:=by omega
  have n8:c+1<=(9223372036854775807:Int):=by omega
  simp only[q5,q3,q2,q1,n1,n2,n3,n4,n5,n6,n7,n8,decide_true,v4,cond_true];cases decide (s=1)<;>cases decide (s=2)<;>cases decide (s=3)<;>simp only[cond_true,cond_false]<;>(repeat' (split<;>try exact⟨_,rfl⟩))<;>first|exact⟨_,rfl⟩|(simp only[Bool.cond_eq_ite];repeat' (split<;>try exact⟨_,rfl⟩))
 obtain⟨w,hw⟩:=key;exact⟨⟨w.1,w.2.1,w.2.2⟩,hw⟩
theorem Hx(n:Nat)(xs:List (Int×Int×Int))(hx:∀x∈xs,ax x.1/\ax x.2.1/\ax x.2.2)(hn:16<n):∃es,mG n (xs.map bK)=some (evL es)/\All first es/\es.length<=16:=by
 have main:∃r,mG n (xs.map bK)=some r/\∃es,r=evL es/\All first es/\es.length<=16:=by
  unfold mG AB;refine dG (fun s=>∃(i:Nat) (es:List Ev) (l:Ln),s=(evL es,(i:Int),l.s,l.h,l.e,l.t)/\All first es/\es.length<=i/\i<=16/\l=fin first es) (fun s=>16-s.2.1.toNat) (fun r=>∃es,r=evL es/\All first es/\es.length<=16) ?_ n _ ⟨0,[],first,rfl,trivial,by simp,by omega,rfl⟩ (by simp;omega)
  rintro _ go ⟨i,es,l,rfl,hA,hle,hi,hl⟩ ih;simp only
  unfold zV;have done:∃r,some (evL es)=some r/\∃es,r=evL es/\All first es/\es.length<=16:=⟨_,rfl,es,rfl,hA,by omega⟩
  by_cases h1:i<xs.length
  ·by_cases h2:i<16
   ·obtain⟨x,hxe⟩:=aF h1
    have hc:∀k,cA (xs.map bK) (i:Int) k=(bK x).getD k (.int 0):=fun k=>cx (by simpa using hxe)
    have g0:cI (xs.map bK) i 0=x.1:=by simp only[cI,hc];rfl
    have g1:cI (xs.map bK) i 1=x.2.1:=by simp only[cI,hc];rfl
    have g2:cI (xs.map bK) i 2=x.2.2:=by simp only[cI,hc];rfl
    obtain⟨b1,b2,b3⟩:=hx x (v7 hxe);have hv:Vld l:=by rw[hl];exact Px L6 hA
    obtain⟨e,he⟩:=Ha n l x hv b1 b2 b3;have c1:(i:Int)<(xs.length:Int):=by omega
    have c2:(i:Int)<16:=by omega
    have c3:(0:Int)<=(i:Int):=by omega
    have c4:(-9223372036854775808:Int)<=(i:Int)+1:=by omega
    have c5:(i:Int)+1<=(9223372036854775807:Int):=by omega
    have c6:((es.length:Int)+1)*24<=140737488355328:=by omega
    simp only[g0,g1,g2,he,rz n l e,v1,c1,c2,c3,c4,c5,c6,decide_true,cond_true,v4,v0,kE];by_cases hok:Ok l e
    ·simp only[ry hok,decide_true,cond_true]
     exact ih _ ⟨i+1,es++[e],nxt l e,by simp,by rw[wv];exact⟨hA,by rw[<-hl];exact⟨hok,trivial⟩⟩,by simp;omega,by omega,by rw[Bz,<-hl];rfl⟩ (by simp only;omega)
    ·have e140:decide ((140:Int)=0)=false:=rfl
     simp only[ko hok,e140,cond_false];exact ih _ ⟨i+1,es,l,by simp,hA,by omega,by omega,hl⟩ (by simp only;omega)
   ·have c1:(i:Int)<(xs.length:Int):=by omega
    have c2:¬(i:Int)<16:=by omega
    simp only[v1,c1,c2,decide_true,decide_false,cond_true,cond_false];exact done
  ·have c1:¬(i:Int)<(xs.length:Int):=by omega
   simp only[v1,c1,decide_false,cond_false];exact done
 obtain⟨r,h1,es,rfl,h2,h3⟩:=main;exact⟨es,h1,h2,h3⟩
end Go.Proofs.YtbfkkigbedmhgaaGreat
namespace Go.Proofs.YtbfkkigbedmhgaaGreat
open Go Go.Sx Go.Dial.Clm
theorem Rb{v:Int}(h:ax v):ax (RP v 4):=by
 unfold ax at h⊢
 rcases Int.le_total 0 v with h0|h0
 ·rw[y7 h0];omega
 ·obtain⟨w,rfl⟩:∃w,v= -w:=⟨-v,by omega⟩
  rw[Sq,y7 (by omega)];omega
theorem NE{l:Int}{es:List Ce}{e:Ce}:EvV l (es++[e])↔EvV l es/\CeV ((es.getLast?.map (·.a)).getD l) e:=by
 induction es generalizing l with
 |nil=>simp[EvV]
 | cons x es ih=>
  simp only[Sd,EvV,ih,and_assoc];cases es with
  |nil=>simp
  | cons y es=>
   have:((y::es).getLast?.map (·.a)).getD x.a=((x::y::es).getLast?.map (·.a)).getD l:=by
    rw[List.getLast?_cons_cons];cases h:(y::es).getLast? with
    |none=>simp at h
    |some z=>rfl
   rw[this]
theorem Ri{r:Rl}(hr:r.a<=86400/\r.c<=86400/\r.s<=86400/\r.r<=86400){c:Cl}{es:List Ce}{t:Int}(h0:c.a<=t)(ht:0<=t):(jx r c es t).n<=t+86400:=by
 have hd:∀s,dur r s<=86400:=fun s=>by unfold dur;split;omega;split;omega;split<;>omega
 have hst:∀s f,f<=t->0<=t->(st r s f).n<=t+86400:=fun s f hf ht=>by
  simp only[st];split
  ·have:=hd s;omega
  ·omega
 have hall:∀x∈aJ r c es,∃s f,x=st r s f:=by
  intro x hx;unfold aJ at hx;rcases List.mem_cons.1 hx with rfl|hx
  ·exact⟨_,_,rfl⟩
  ·exact Dt (r:=r) (b:=c.b) (fun x=>∃s f,x=st r s f) (fun _ _=>True) (fun _ _ _ _ _ _=>⟨⟨_,_,rfl⟩,trivial⟩) (fun _ _ _ _ _ _=>trivial) (fun _ _ _ _ _ _=>⟨⟨_,_,rfl⟩,trivial⟩) (fun _ _ _=>⟨⟨_,_,rfl⟩,trivial⟩) _ _ _ (RL _) trivial x hx
 unfold jx;cases hl:(dy t (aJ r c es)).getLast? with
 |none=>simp only[Option.getD_none];omega
 | some x=>
  have hm:=Sm hl;have h1:x.f<=t:=by
   unfold dy at hm;have:=List.all_eq_true.1 List.all_takeWhile x hm
   simpa using this
  have h2:x∈aJ r c es:=by unfold dy at hm;exact(R6 _).subset hm
  obtain⟨s,f,rfl⟩:=hall x h2;simp only[Sy];have:f<=t:=h1
  simp only[st];split
  ·have:=hd s;omega
  ·omega
def mrR(a b c d:Int):Rl:=⟨mr a,mr b,mr c,mr d⟩
theorem F9(a b c d:Int):(mrR a b c d).a<=86400/\(mrR a b c d).c<=86400/\(mrR a b c d).s<=86400/\(mrR a b c d).r<=86400:=by
 have:=ug a;have:=ug b;have:=ug c;have:=ug d
 unfold mrR;simp only;omega
theorem OB(a b c d:Int):RlV (mrR a b c d):=by
 have:=ug a;have:=ug b;have:=ug c;have:=ug d
 unfold RlV mrR;simp only;omega
theorem HL(n:Nat)(a b c d e0 e1 e2 e3 e4 e5:Int)(xs:List (Int×Int×Int))(ha:ax a)(hb:ax b)(hc:ax c)(hd:ax d)(h0:ax e0)(h1:ax e1)(h2:ax e2)(h3:ax e3)(h4:ax e4)(h5:ax e5)
  (hx:∀x∈xs,ax x.1/\ax x.2.1/\ax x.2.2) (hn:200<n):
  ∃(C:Cl) (es:List Ce),mN n a b c d e0 e1 e2 e3 e4 e5 (xs.map bK)=some (mr a,mr b,mr c,mr d,C.n,C.f,C.t,C.h,C.a,C.b,ceL es)/\eP (mrR a b c d) C es/\C.a<1000/\es.length<=10/\∀e∈es,e.a<=900000:=by
 obtain⟨y4,hy4⟩:∃y,y=pk e0 100000000:=⟨_,rfl⟩
 obtain⟨y5,hy5⟩:∃y,y=pk e1 8:=⟨_,rfl⟩
 obtain⟨g,hy7⟩:∃y,y=pk e3 64:=⟨_,rfl⟩
 obtain⟨f,hy8⟩:∃y,y=pk e4 1000:=⟨_,rfl⟩
 obtain⟨j,hy9⟩:∃y,y=pk e5 2:=⟨_,rfl⟩
 obtain⟨y6,hy6⟩:∃y,y=pk e2 7:=⟨_,rfl⟩
 have b4:=aR e0 (k:=100000000) (by decide)
 have b5:=aR e1 (k:=8) (by decide)
 have b7:=aR e3 (k:=64) (by decide)
 have b8:=aR e4 (k:=1000) (by decide)
 have b6:=aR e2 (k:=7) (by decide)
 rw[<-hy4]at b4;rw[<-hy5]at b5;rw[<-hy7]at b7;rw[<-hy8]at b8;rw[<-hy6]at b6;obtain⟨C,hC⟩:∃C:Cl,C=⟨y4,y5,R1 ((y5+1)+y6) 8,g,f,decide (j=0)⟩:=⟨_,rfl⟩
 have hT:R1 ((y5+1)+y6) 8=((y5+1)+y6) % 8:=Int.tmod_eq_emod_of_nonneg (by omega)
 have hCV:ClV C:=by rw[hC];unfold ClV;simp only[hT];omega
 have hCa:C.a=f:=by rw[hC]
 have main:∃q:dp,mN n a b c d e0 e1 e2 e3 e4 e5 (xs.map bK)=some q/\∃es,q=(mr a,mr b,mr c,mr d,C.n,C.f,C.t,C.h,C.a,C.b,ceL es)/\EvV C.a es/\es.length<=10/\∀e∈es,e.a<=900000:=by
  unfold mN zg;have n1:(-9223372036854775808:Int)<=y5+1:=by omega
  have n2:y5+1<=(9223372036854775807:Int):=by omega
  have n3:(-9223372036854775808:Int)<=y5+1+y6:=by omega
  have n4:y5+1+y6<=(9223372036854775807:Int):=by omega
  simp only[BE n a b c d ha hb hc hd,aI n h0 (show(0:Int)<100000000 by decide),aI n h1 (show(0:Int)<8 by decide),aI n h3 (show(0:Int)<64 by decide),aI n h4 (show(0:Int)<1000 by decide),aI n h5 (show(0:Int)<2 by decide),aI n h2 (show(0:Int)<7 by decide),v0,<-hy4,<-hy5,<-hy6,<-hy7,<-hy8,<-hy9,n1,n2,n3,n4,decide_true,v4]
  simp only[cond_true];refine dG (fun s=>∃(es:List Ce) (last:Int) (i:Nat),s=(ceL es,last,(i:Int))/\es.length=i/\i<=10/\EvV C.a es/\last=(es.getLast?.map (·.a)).getD C.a/\C.a<=last/\last<=1000+86402*i/\∀e∈es,e.a<=900000) (fun s=>10-s.2.2.toNat) (fun q=>∃es,q=(mr a,mr b,mr c,mr d,C.n,C.f,C.t,C.h,C.a,C.b,ceL es)/\EvV C.a es/\es.length<=10/\∀e∈es,e.a<=900000) ?_ n _
   ⟨[],f,0,rfl,rfl,by omega,trivial,by rw[hCa];rfl,by omega,by omega,fun e he=>by cases he⟩ (by simp;omega)
  rintro _ go ⟨es,last,i,rfl,hl,hi,hE,hlast,hl0,hl1,hea⟩ ih;simp only
  unfold yS AE;have done:∃q:dp,some (mr a,mr b,mr c,mr d,y4,y5,R1 ((y5+1)+y6) 8,g,f,decide (j=0),ceL es)=some q/\∃es,q=(mr a,mr b,mr c,mr d,C.n,C.f,C.t,C.h,C.a,C.b,ceL es)/\EvV C.a es/\es.length<=10/\∀e∈es,e.a<=900000:=
   ⟨_,rfl,es,by rw[hC],hE,by omega,hea⟩
  by_cases g1:i<xs.length
  ·have c1:(i:Int)<(xs.length:Int):=by omega
   by_cases g2:i<10
   ·obtain⟨x,hxe⟩:=aF g1
    have hcell:∀k,cA (xs.map bK) (i:Int) k=(bK x).getD k (.int 0):=fun k=>cx (by simpa using hxe)
    have z0:cI (xs.map bK) i 0=x.1:=by simp only[cI,hcell];rfl
    have z1:cI (xs.map bK) i 1=x.2.1:=by simp only[cI,hcell];rfl
    have z2:cI (xs.map bK) i 2=x.2.2:=by simp only[cI,hcell];rfl
    obtain⟨q1,q2,q3⟩:=hx x (v7 hxe);have q4:=Rb q2;obtain⟨w0,hw0⟩:∃y,y=pk x.1 6:=⟨_,rfl⟩
    obtain⟨w1,hw1⟩:∃y,y=pk x.2.1 4:=⟨_,rfl⟩
    obtain⟨w2,hw2⟩:∃y,y=pk x.2.1 3:=⟨_,rfl⟩
    obtain⟨w3,hw3⟩:∃y,y=pk x.2.2 4:=⟨_,rfl⟩
    obtain⟨w4,hw4⟩:∃y,y=pk (RP x.2.1 4) 3:=⟨_,rfl⟩
    have l:=aR x.1 (k:=6) (by decide)
    have m:=aR x.2.1 (k:=4) (by decide)
    have o:=aR x.2.1 (k:=3) (by decide)
    have p:=aR x.2.2 (k:=4) (by decide)
    rw[<-hw0]at l;rw[<-hw1]at m;rw[<-hw2]at o;rw[<-hw3]at p;have hout:=ub n (mrR a b c d) C es last hn;have hOk:oJ (mrR a b c d) C es last:=⟨⟨OB a b c d,hCV,by omega,hE⟩,by omega,by omega⟩
    have hN:=Ri (F9 a b c d) (c:=C) (es:=es) hl0 (by omega)
    unfold outR at hout;rw[if_pos hOk]at hout;obtain⟨O,hO⟩:∃O,O=jx (mrR a b c d) C es last:=⟨_,rfl⟩
    rw[<-hO]at hout hN;rw[hC]at hout;simp only[mrR]at hout;have c2:(i:Int)<10:=by omega
    have c3:(0:Int)<=(i:Int):=by omega
    have c4:(-9223372036854775808:Int)<=1+w0:=by omega
    have c5:1+w0<=(9223372036854775807:Int):=by omega
    have c6:(-9223372036854775808:Int)<=last+w1:=by omega
    have c7:last+w1<=(9223372036854775807:Int):=by omega
    have c8:(-9223372036854775808:Int)<=(i:Int)+1:=by omega
    have c9:(i:Int)+1<=(9223372036854775807:Int):=by omega
    have c10:(-9223372036854775808:Int)<=1+w3:=by omega
    have c11:1+w3<=(9223372036854775807:Int):=by omega
    have c12:((es.length:Int)+1)*24<=140737488355328:=by omega
    have hgo:∀A rr:Int,last<=A->A<=last+86402->(1+w0=2\/1+w0=6->1<=rr/\rr<=9)->(¬(1+w0=2\/1+w0=6)->rr=0)->∃q,go (ceL es++[[AV.int (1+w0),AV.int A,AV.int rr]],A,(i:Int)+1)=some q/\∃es,q=(mr a,mr b,mr c,mr d,C.n,C.f,C.t,C.h,C.a,C.b,ceL es)/\EvV C.a es/\es.length<=10/\∀e∈es,e.a<=900000:=fun A rr k1 k2 k3 k4=>
     ih _ ⟨es++[⟨1+w0,A,rr⟩],A,i+1,by simp,by simp;omega,by omega,by rw[NE,<-hlast];exact⟨hE,⟨by simp only;omega,by simp only;omega,k1,by simp only;omega,k3,k4⟩⟩,by simp,by omega,by omega,fun e he=>by
      rcases List.mem_append.1 he with he|he
      ·exact hea e he
      ·rw[List.mem_singleton.1 he];simp only;omega⟩ (by simp only;omega)
    unfold zq;simp only[z0,z1,z2,v1,c1,c2,c3,aI n q1 (show(0:Int)<6 by decide),aI n q2 (show(0:Int)<4 by decide),aI n q2 (show(0:Int)<3 by decide),aI n q3 (show(0:Int)<4 by decide),aI n q4 (show(0:Int)<3 by decide),<-hw0,<-hw1,<-hw2,<-hw3,<-hw4,v0,c4,c5,c6,c7,c8,c9,c10,c11,c12,hout,decide_true,v4]
    simp only[cond_true];unfold ax at q4;by_cases k0:0<O.n
    ·have c13:(-9223372036854775808:Int)<=O.n-1:=by omega
     have c14:O.n-1<=(9223372036854775807:Int):=by omega
     have c15:(-9223372036854775808:Int)<=O.n-1+w2:=by omega
     have c16:O.n-1+w2<=(9223372036854775807:Int):=by omega
     have m1:last<=aZ last (O.n-1+w2):=by unfold aZ;split<;>omega
     have m2:aZ last (O.n-1+w2)<=last+86402:=by unfold aZ;split<;>omega
     simp only[k0,q4.1,q4.2,c13,c14,c15,c16,decide_true,v4];simp only[cond_true];by_cases k1:0<w4<;>by_cases k2:1+w0=2<;>by_cases k3:1+w0=6<;>simp only[k1,k2,k3,decide_true,decide_false]<;>simp only[cond_true,cond_false] <;>
      (try rw[k2]at hgo)<;>(try rw[k3]at hgo)<;>first|exact hgo _ _ m1 m2 (fun _=>by omega) (fun h=>by omega)|exact hgo _ _ (by omega) (by omega) (fun _=>by omega) (fun h=>by omega)
    ·by_cases k2:1+w0=2<;>by_cases k3:1+w0=6<;>simp only[k0,k2,k3,decide_true,decide_false]<;>simp only[cond_true,cond_false] <;>
      (try rw[k2]at hgo)<;>(try rw[k3]at hgo)<;>exact hgo _ _ (by omega) (by omega) (fun _=>by omega) (fun h=>by omega)
   ·have c2:¬(i:Int)<10:=by omega
    simp only[v1,c1,c2,decide_true,decide_false];simp only[cond_true,cond_false];exact done
  ·have c1:¬(i:Int)<(xs.length:Int):=by omega
   simp only[v1,c1,decide_false];simp only[cond_false];exact done
 obtain⟨q,g1,es,rfl,g2,g3,g4⟩:=main;exact⟨C,es,g1,⟨OB a b c d,hCV,by omega,g2⟩,by omega,g3,g4⟩
theorem uh(n:Nat)(c:Cl):ja n c.n c.f c.t c.h c.a c.b=some (decide (ClV c)):=by
 by_cases h:ClV c<;>simp only[h,decide_true,decide_false]<;>unfold ClV at h<;>unfold ja tO<;>grind
def ig(r:Rl)(i:Nat):Int:=if i=0 then r.a else if i=1 then r.s else if i=2 then r.c else r.r
theorem FG(r:Rl){i:Nat}(h:i<4):cI ((((([]:Lv)++[[(AV.int r.a)]])++[[(AV.int r.s)]])++[[(AV.int r.c)]])++[[(AV.int r.r)]]) (i:Int) 0=ig r i:=by
 match i,h with
 |0,_=>rfl
 |1,_=>rfl
 |2,_=>rfl
 |3,_=>rfl
theorem rules_all{r:Rl}:RlV r↔∀i,i<4->1<=ig r i/\ig r i<=1000000:=by
 constructor
 ·intro h i hi
  unfold RlV at h;unfold ig;split;omega;split;omega;split<;>omega
 ·intro h
  have h0:=h 0 (by omega)
  have h1:=h 1 (by omega)
  have h2:=h 2 (by omega)
  have h3:=h 3 (by omega)
  simp[ig]at h0 h1 h2 h3
  unfold RlV;omega
theorem QJ(n:Nat)(r:Rl)(c:Cl)(hn:10<n):xC n r.a r.c r.s r.r c.n c.f c.t c.h c.a c.b=some (if RlV r/\ClV c then(OA r c,0)else(0,160)):=by
 unfold xC AI;refine eG (fun s=>∃i:Nat,s=(i:Int)/\i<=4/\∀j,j<i->1<=ig r j/\ig r j<=1000000) (fun s=>4-s.toNat) _ ?_ n _ ⟨0,rfl,by omega,fun j hj=>by omega⟩ (by simp;omega)
 rintro _ go ⟨i,rfl,hi,hj⟩ ih;unfold yI;have c2:(0:Int)<=(i:Int):=by omega
 have c8:(-9223372036854775808:Int)<=(i:Int)+1:=by omega
 have c9:(i:Int)+1<=(9223372036854775807:Int):=by omega
 by_cases h4:i<4
 ·have c1:(i:Int)<4:=by omega
  simp only[c1,c2,c8,c9,FG r h4,decide_true,v4];simp only[cond_true];by_cases k1:1<=ig r i
  ·by_cases k2:ig r i<=1000000
   ·simp only[k1,k2,decide_true,v3]
    simp only[cond_true,cond_false];exact ih _ ⟨i+1,by simp,by omega,fun j hj'=>by
     rcases Sf j i with h|h
     ·exact hj j h
     ·have:j=i:=by omega
      subst this;exact⟨k1,k2⟩⟩ (by simp;omega)
   ·have:¬(RlV r/\ClV c):=fun h=>k2 (rules_all.1 h.1 i h4).2
    simp[k1,k2,this]
  ·have:¬(RlV r/\ClV c):=fun h=>k1 (rules_all.1 h.1 i h4).1
   simp[k1,this]
 ·have hr:RlV r:=rules_all.2 fun j hj'=>hj j (by omega)
  have c1:¬(i:Int)<4:=by omega
  rw[uh];by_cases hc:ClV c
  ·simp only[c1,hr,hc,decide_true,decide_false,v0,v3,and_self,if_true]
   simp only[cond_false];unfold OA;unfold RlV at hr;unfold ClV at hc;have n1:(-9223372036854775808:Int)<=c.a+r.a/\c.a+r.a<=9223372036854775807:=by omega
   have n2:(-9223372036854775808:Int)<=c.a+r.a-1/\c.a+r.a-1<=9223372036854775807:=by omega
   have n3:(-9223372036854775808:Int)<=c.a+r.a-1+r.s/\c.a+r.a-1+r.s<=9223372036854775807:=by omega
   have n4:(-9223372036854775808:Int)<=c.a+r.a-1+r.s+r.c/\c.a+r.a-1+r.s+r.c<=9223372036854775807:=by omega
   have n5:(-9223372036854775808:Int)<=c.a+r.a-1+r.s+r.c+r.r/\c.a+r.a-1+r.s+r.c+r.r<=9223372036854775807:=by omega
   simp only[n1,n2,n3,n4,n5,decide_true,v4];simp only[cond_true]
  ·simp[c1,hc]
theorem yb(n:Nat)(r:Rl)(c:Cl)(es:List Ce)(hn:25<n):lB n r.a r.c r.s r.r c.n c.f c.t c.h c.a c.b (ceL es)=some (decide (eP r c es)):=by
 unfold lB xU;refine eG (fun s=>∃i:Nat,s=(i:Int)/\i<=4/\∀j,j<i->1<=ig r j/\ig r j<=1000000) (fun s=>4-s.toNat) _ ?_ n _ ⟨0,rfl,by omega,fun j hj=>by omega⟩ (by simp;omega)
 rintro _ go ⟨i,rfl,hi,hj⟩ ih;unfold ym;have c2:(0:Int)<=(i:Int):=by omega
 have c8:(-9223372036854775808:Int)<=(i:Int)+1:=by omega
 have c9:(i:Int)+1<=(9223372036854775807:Int):=by omega
 by_cases h4:i<4
 ·have c1:(i:Int)<4:=by omega
  simp only[c1,c2,c8,c9,FG r h4,decide_true,v4];simp only[cond_true];by_cases k1:1<=ig r i
  ·by_cases k2:ig r i<=1000000
   ·simp only[k1,k2,decide_true,v3]
    simp only[cond_true,cond_false];exact ih _ ⟨i+1,by simp,by omega,fun j hj'=>by
     rcases Sf j i with h|h
     ·exact hj j h
     ·have:j=i:=by omega
      subst this;exact⟨k1,k2⟩⟩ (by simp;omega)
   ·have:¬eP r c es:=fun h=>k2 (rules_all.1 h.1 i h4).2
    simp[k1,k2,this]
  ·have:¬eP r c es:=fun h=>k1 (rules_all.1 h.1 i h4).1
   simp[k1,this]
 ·have hr:RlV r:=rules_all.2 fun j hj'=>hj j (by omega)
  have c1:¬(i:Int)<4:=by omega
  clear ih
  rw[uh];unfold eP;by_cases h2:ClV c
  ·by_cases h3:es.length<=20
   ·have c3:¬(20:Int)<(es.length:Int):=by omega
    simp only[c1,hr,h2,h3,decide_true,decide_false,v0,v3,v1,c3,true_and];simp only[cond_false];refine eG (fun s=>∃(i:Nat) (last:Int),s=((i:Int),last)/\i<=es.length/\(EvV c.a es↔EvV last (es.drop i))) (fun s=>es.length-s.1.toNat) _ ?_ n _ ⟨0,c.a,rfl,by omega,by simp⟩ (by simp;omega)
    rintro _ go ⟨i,last,rfl,hi,hE⟩ ih;simp only
    unfold yr;by_cases hlt:i<es.length
    ·obtain⟨e,he⟩:=aF hlt
     have hc:∀k,cA (ceL es) (i:Int) k=(ceR e).getD k (.int 0):=fun k=>cx (by simpa using he)
     have g0:cI (ceL es) i 0=e.k:=by simp only[cI,hc];rfl
     have g1:cI (ceL es) i 1=e.a:=by simp only[cI,hc];rfl
     have g2:cI (ceL es) i 2=e.r:=by simp only[cI,hc];rfl
     have c1:(i:Int)<(es.length:Int):=by omega
     have c2:(0:Int)<=(i:Int):=by omega
     have c4:(-9223372036854775808:Int)<=(i:Int)+1:=by omega
     have c5:(i:Int)+1<=(9223372036854775807:Int):=by omega
     simp only[g0,g1,g2,v1,c1,c2,c4,c5,decide_true,v4,v3];simp only[cond_true];rw[gy he]at hE;have hgo:CeV last e->go ((i:Int)+1,e.a)=some (decide (EvV c.a es)):=fun hv=>ih _ ⟨i+1,e.a,by simp,by omega,by rw[hE];exact⟨fun h=>h.2,fun h=>⟨hv,h⟩⟩⟩ (by simp only;omega)
     by_cases hv:CeV last e
     ·rw[hgo hv]
      unfold CeV at hv;grind
     ·have:¬EvV c.a es:=fun h=>hv (hE.1 h).1
      simp only[this,decide_false];unfold CeV at hv;grind
    ·have h0:i=es.length:=by omega
     have c1:¬(i:Int)<(es.length:Int):=by omega
     simp only[v1,c1,decide_false];simp only[cond_false];subst h0;rw[RN]at hE;have:EvV c.a es:=hE.2 trivial
     simp[this]
   ·have c3:(20:Int)<(es.length:Int):=by omega
    simp only[c1,h2,h3,decide_true,decide_false,v0,v3,v1,c3,false_and,and_false];simp only[cond_true,cond_false]
  ·simp[c1,h2]
theorem Kf{r:Rl}{c:Cl}{es:List Ce}(h:eP r c es):∀x∈aJ r c es,x.f<=23000000:=by
 obtain⟨hr,hc,hl,hE⟩:=h;unfold ClV at hc;intro x hx;unfold aJ at hx;have h0:(x0 r c).f=c.a:=rfl
 rcases List.mem_cons.1 hx with rfl|hx
 ·omega
 ·exact Rh hr (b:=c.b) (now:=x0 r c) (es:=es) (by rw[h0];have:=iX (x0 r c).s;omega) (fun _=>(u0 hr (s:=1) (f:=c.a) (by omega)).2) (fun e he=>(HT hE e he).2) x hx
theorem Kh{r:Rl}{c:Cl}{es:List Ce}(h:eP r c es):∀x∈aJ r c es,c.a<=x.f:=by
 obtain⟨hr,hc,hl,hE⟩:=h;intro x hx;unfold aJ at hx;rcases List.mem_cons.1 hx with rfl|hx
 ·exact Int.le_refl _
 ·exact OF hr (b:=c.b) (now:=x0 r c) (es:=es) (fun ha=>by have:=(u0 hr (s:=1) (f:=c.a) (by omega)).1;unfold x0;omega) (fun e he=>(HT hE e he).1) x hx
theorem Ki{r:Rl}{c:Cl}{es:List Ce}:∀x∈aJ r c es,∃s f,x=st r s f:=by
 intro x hx;unfold aJ at hx;rcases List.mem_cons.1 hx with rfl|hx
 ·exact⟨_,_,rfl⟩
 ·exact Dt (r:=r) (b:=c.b) (fun x=>∃s f,x=st r s f) (fun _ _=>True) (fun _ _ _ _ _ _=>⟨⟨_,_,rfl⟩,trivial⟩) (fun _ _ _ _ _ _=>trivial) (fun _ _ _ _ _ _=>⟨⟨_,_,rfl⟩,trivial⟩) (fun _ _ _=>⟨⟨_,_,rfl⟩,trivial⟩) _ _ _ (RL _) trivial x hx
theorem I1{r:Rl}{c:Cl}{es:List Ce}(hl:es.length<=20):(aJ r c es).length<=110:=by
 have h2:=HX (r:=r) (b:=c.b) _ (x0 r c) es (RL _);have h3:=iX (x0 r c).s;unfold aJ;simp only[RM];omega
structure RunJ (r:Rl) (c:Cl) (es:List Ce) (out:List Cs) (now:Cs) (i:Nat):Prop where
 le:i<=es.length
 last:out.getLast?=some now
 rest:aJ r c es=out++tl r c.b now (es.drop i)
section
variable {r:Rl} {c:Cl} {es:List Ce} {out:List Cs} {now:Cs} {i:Nat}
theorem RunJ.mem(h:RunJ r c es out now i):now∈aJ r c es:=by
 rw[h.rest];exact List.mem_append_left _ (Sm h.last)
theorem RunJ.len(h:RunJ r c es out now i)(hl:es.length<=20):out.length<=110:=by
 have h1:=I1 (r:=r) (c:=c) hl;rw[h.rest,v6]at h1;omega
theorem RunJ.auto(h:RunJ r c es out now i)(ha:act now)(h1:∀e,es[i]?=some e->now.n<=e.a):RunJ r c es (out++[st r (aft now.s) now.n]) (st r (aft now.s) now.n) i:=by
 refine⟨h.le,by simp,?_⟩
 rw[h.rest];have:tl r c.b now (es.drop i)=st r (aft now.s) now.n::tl r c.b (st r (aft now.s) now.n) (es.drop i):=by
  cases hd:es.drop i with
  |nil=>exact Aw ha
  | cons e rest=>
   have he:es[i]?=some e:=by
    have:=congrArg (fun l=>l[0]?) hd
    simpa using this
   exact wK ⟨ha,h1 e he⟩
 rw[this];simp
theorem RunJ.event{e:Ce}(h:RunJ r c es out now i)(he:es[i]?=some e)(h1:¬(act now/\now.n<=e.a))(hb:¬bec c.b now.s e<0):RunJ r c es (out++[st r (bec c.b now.s e) e.a]) (st r (bec c.b now.s e) e.a) (i+1):=by
 refine⟨(List.getElem?_eq_some_iff.1 he).1,by simp,?_⟩
 rw[h.rest,gy he,DI h1 hb];simp
theorem RunJ.void{e:Ce}(h:RunJ r c es out now i)(he:es[i]?=some e)(h1:¬(act now/\now.n<=e.a))(hb:bec c.b now.s e<0):RunJ r c es out now (i+1):=
 ⟨(List.getElem?_eq_some_iff.1 he).1,h.last,by rw[h.rest,gy he,Be h1 hb]⟩
theorem RunJ.done(h:RunJ r c es out now i)(h0:i=es.length)(h1:¬act now):aJ r c es=out:=by
 rw[h.rest,h0,RN,wu h1];simp
end
theorem Rw: @rV= @eM:=rfl
theorem Oi(n:Nat)(a:bw->Option av)(c:bg->Option av)(r:Rl)(hr:RlV r)(b:Bool)(es:List Ce)(t:Int)(i:Nat)(e:Ce)(he:es[i]?=some e)(vd:Lv)(s f m s' f' m' l:Int)
  (hce:CeV l e) (hl:0<=l) (h1:vd.length<=20) (h3:i<=20):
  eM n a c r.c r.s b (ceL es) t (i:Int) vd s' f' m' s f m=if bec b s e<0 then a ((i:Int)+1,vd++[[AV.int (i:Int)]],s',f',m',s,f,m)else if t<e.a then some (s',f',m',0)else
   a ((i:Int)+1,vd,(st r (bec b s e) e.a).s,(st r (bec b s e) e.a).f,(st r (bec b s e) e.a).n,(st r (bec b s e) e.a).s,(st r (bec b s e) e.a).f,(st r (bec b s e) e.a).n):=by
 have hc:∀k,cA (ceL es) (i:Int) k=(ceR e).getD k (.int 0):=fun k=>cx (by simpa using he)
 have g0:cI (ceL es) i 0=e.k:=by simp only[cI,hc];rfl
 have g1:cI (ceL es) i 1=e.a:=by simp only[cI,hc];rfl
 have g2:cI (ceL es) i 2=e.r:=by simp only[cI,hc];rfl
 have c4:(-9223372036854775808:Int)<=(i:Int)+1:=by omega
 have c5:(i:Int)+1<=(9223372036854775807:Int):=by omega
 have c10:((vd.length:Int)+1)*8<=140737488355328:=by omega
 have hrr:=hr;unfold RlV at hr;unfold CeV at hce;have c6:(-9223372036854775808:Int)<=e.a+r.c:=by omega
 have c7:e.a+r.c<=(9223372036854775807:Int):=by omega
 have c8:(-9223372036854775808:Int)<=e.a+r.s:=by omega
 have c9:e.a+r.s<=(9223372036854775807:Int):=by omega
 unfold eM rn sA rP rG rA;simp only[g0,g1,g2,c4,c5,c6,c7,c8,c9,c10,decide_true,v4];simp only[cond_true];clear g0 g1 g2 hc c4 c5 c6 c7 c8 c9 c10
 unfold bec st dur;have hk:e.k=1\/e.k=2\/e.k=3\/e.k=4\/e.k=5\/e.k=6:=by omega
 have hs:s=1\/s=2\/s=3\/s=4\/(s≠1/\s≠2/\s≠3/\s≠4):=by omega
 by_cases ht:t<e.a<;>cases b<;>by_cases hq:e.r=1<;>rcases hk with hk|hk|hk|hk|hk|hk<;>rcases hs with hs|hs|hs|hs|⟨q1,q2,q3,q4⟩<;>simp_all
theorem ND(n:Nat)(c:bw->Option av)(a:bg->Option av)(r:Rl)(hr:RlV r)(b:Bool)(L:Lv)(t i:Int)(vd:Lv)(s f m s' f' m':Int)(ha:1<=s/\s<=4)(hm:m<=cI L i 1)(h1: -100000000<=m)(h2:m<=100000000):
  jL n c a r.c r.s r.r b L t i vd s' f' m' s f m=if t<m then some (s',f',m',0)else a ((st r (aft s) m).s,(st r (aft s) m).f,(st r (aft s) m).n,(st r (aft s) m).s,(st r (aft s) m).f,(st r (aft s) m).n):=by
 have hs:s=1\/s=2\/s=3\/s=4:=by omega
 unfold RlV at hr;unfold jL;rcases hs with hs|hs|hs|hs<;>subst hs<;>simp only[aft,st,dur]<;>grind
theorem Mt(n:Nat)(a:bg->Option av)(r:Rl)(hr:RlV r)(t s m s' f' m':Int)(ha:1<=s/\s<=4)(h1:0<=m)(h2:m<=100000000):
  iU n a r.c r.r t s' f' m' s m=if t<m then some (s',f',m',0)else a ((st r (aft s) m).s,(st r (aft s) m).f,(st r (aft s) m).n,(st r (aft s) m).s,(st r (aft s) m).f,(st r (aft s) m).n):=by
 have hs:s=1\/s=2\/s=3\/s=4:=by omega
 unfold RlV at hr;unfold iU;rcases hs with hs|hs|hs|hs<;>subst hs<;>simp only[aft,st,dur]<;>grind
theorem HP{t:Int}:∀ {out rest:List Cs},(∀x∈out,x.f<=t)->(∀x,rest.head?=some x->t<x.f)->dy t (out++rest)=out
 |[],[],_,_=>rfl
 |[],x::rest,_,h=>by
  have:=h x rfl
  unfold dy;rw[SA,RY];simp;omega
 |y::out,rest,h1,h2=>by
  rw[Sd,wB (h1 y (RK ..)),HP (fun x hx=>h1 x (RW _ hx)) h2]
structure RunO (r:Rl) (c:Cl) (es:List Ce) (t:Int) (out:List Cs) (now:Cs) (i:Nat):Prop where
 j:RunJ r c es out now i
 up:∀x∈out,x.f<=t
section
variable {r:Rl} {c:Cl} {es:List Ce} {t:Int} {out:List Cs} {now x:Cs} {i:Nat} {rest:List Cs}
theorem RunO.stop(h:RunO r c es t out now i)(hr:tl r c.b now (es.drop i)=rest)(hx:∀x,rest.head?=some x->t<x.f):jx r c es t=now:=by
 unfold jx;rw[h.j.rest,hr,HP h.up hx,h.j.last];rfl
theorem RunO.go(h:RunO r c es t out now i){k:Nat}(hj:RunJ r c es (out++[x]) x k)(hx:x.f<=t):RunO r c es t (out++[x]) x k:=
 ⟨hj,fun y hy=>by
  rcases List.mem_append.1 hy with hy|hy
  ·exact h.up y hy
  ·rw[List.mem_singleton.1 hy];exact hx⟩
end
theorem Dw(n:Nat)(r:Rl)(c:Cl)(es:List Ce)(t:Int)(hn:200<n):lT n r.a r.c r.s r.r c.n c.f c.t c.h c.a c.b (ceL es) t=some ((outR r c es t).1.s,(outR r c es t).1.f,(outR r c es t).1.n,(outR r c es t).2):=by
 unfold lT uI;rw[yb n r c es (by omega)]
 unfold outR oJ;by_cases hv:eP r c es
 ·obtain ⟨hr,hcl,hlen,hE⟩:=id hv
  have hrb:=hr;unfold RlV at hrb;have hca:0<=c.a/\c.a<=10000000:=by unfold ClV at hcl;omega
  have n1:(-9223372036854775808:Int)<=c.a+r.a:=by omega
  have n2:c.a+r.a<=(9223372036854775807:Int):=by omega
  unfold nx tG uG tM;by_cases h0:0<=t
  ·by_cases h1:t<=20000000
   ·simp only[hv,h0,h1,decide_true,v0,v3,n1,n2,v4,and_self,if_true]
    simp only[cond_true,cond_false];by_cases h2:t<c.a
    ·rw[decide_eq_true h2,cond_true]
     have:dy t (aJ r c es)=[]:=by
      unfold aJ dy;rw[RY];simp[x0,st];omega
     unfold jx;rw[this];rfl
    ·rw [decide_eq_false h2,cond_false]
     have facts:∀out now i,RunJ r c es out now i->(0<=now.n↔act now)/\now.f<=23000000/\now.n<=24000000/\out.length<=110:=fun out now i h=>by
      have h1:=Kf hv now h.mem;have h2:=Kh hv now h.mem;obtain⟨s,f,hf⟩:=Ki now h.mem;have h3:(st r s f).f=f:=rfl
      refine⟨by rw[hf];exact Hw hr (by rw[hf,h3]at h2;omega),h1,?_,h.len hlen⟩
      rw[hf]at h1⊢
      have h1:f<=23000000:=h1
      by_cases ha:1<=s/\s<=4
      ·have:=(u0 hr (f:=f) ha).2;omega
      ·simp only[st];rw[if_neg ha];omega
     refine eG (fun s=>∃(i:Nat) (vd:Lv) (out:List Cs) (now:Cs),s=((i:Int),vd,now.s,now.f,now.n,now.s,now.f,now.n)/\vd.length<=i/\RunO r c es t out now i) (fun s=>es.length+1-s.1.toNat) _ ?_ n _
      ⟨0,[],[x0 r c],x0 r c,rfl,by simp,⟨⟨by omega,rfl,by unfold aJ;simp⟩,fun x hx=>by rw[List.mem_singleton.1 hx];simp only[x0,st];omega⟩⟩ (by simp;omega)
     rintro _ go ⟨i,vd,out,now,rfl,hvd,hO⟩ ih;simp only
     unfold ux;have hle:=hO.j.le;have c6:(0:Int)<=(i:Int):=by omega
     by_cases hlt:i<es.length
     ·have c7:(i:Int)<((ceL es).length:Int):=by rw[v1];omega
      obtain⟨e,he⟩:=aF hlt;have hce:∃l,0<=l/\CeV l e:=by
       have key:∀(es:List Ce) (l:Int) (i:Nat) (e:Ce),0<=l->EvV l es->es[i]?=some e->∃l,0<=l/\CeV l e:=by
        intro es;induction es with
        |nil=>intro l i e _ _ h;simp at h
        |cons x es ih=>
         intro l i e hl hE h;cases i with
         |zero=>simp at h;subst h;exact⟨l,hl,hE.1⟩
         |succ i=>exact ih x.a i e (by have:=hE.1.2.2.1;omega) hE.2 (by simpa using h)
       exact key es c.a i e hca.1 hE he
      obtain⟨l,hl0,hce⟩:=hce;rw[decide_eq_true c7,cond_true,decide_eq_true c6,cond_true];refine eG (fun s=>∃(out:List Cs) (now:Cs),s=(now.s,now.f,now.n,now.s,now.f,now.n)/\RunO r c es t out now i) (fun s=>rk s.1) _ ?_ n _ ⟨out,now,rfl,hO⟩ (by have:=iX now.s;simp only;omega)
      rintro _ a ⟨out,now,rfl,hO⟩ ih1;simp only
      obtain⟨f1,f2,f3,f4⟩:=facts out now i hO.j;have g1:cI (ceL es) i 1=e.a:=by simp only[cI];rw[cx (by simpa using he)];rfl
      have tail:¬(act now/\now.n<=e.a)->eM n go a r.c r.s c.b (ceL es) t (i:Int) vd now.s now.f now.n now.s now.f now.n=some ((jx r c es t).s,(jx r c es t).f,(jx r c es t).n,0):=fun hna=>by
       rw[Oi n go a r hr c.b es t i e he vd now.s now.f now.n now.s now.f now.n l hce hl0 (by omega) (by omega)]
       by_cases hb:bec c.b now.s e<0
       ·rw[if_pos hb]
        exact ih _ ⟨i+1,vd++[[AV.int (i:Int)]],out,now,by simp,by simp;omega,⟨hO.j.void he hna hb,hO.up⟩⟩ (by simp only;omega)
       ·rw[if_neg hb]
        by_cases hte:t<e.a
        ·rw[if_pos hte,hO.stop (by rw[gy he,DI hna hb]) (fun x hx=>by simp at hx;subst hx;exact hte)]
        ·rw[if_neg hte]
         exact ih _ ⟨i+1,vd,out++[st r (bec c.b now.s e) e.a],_,by simp,by omega,hO.go (hO.j.event he hna hb) (by simp only[st];omega)⟩ (by simp only;omega)
      unfold th;rw[Rw];by_cases hn0:0<=now.n
      ·have ha:=f1.1 hn0
       rw[decide_eq_true hn0,cond_true];by_cases hnm:now.n<=e.a
       ·rw[ND n go a r hr c.b (ceL es) t i vd now.s now.f now.n now.s now.f now.n ha (by rw[g1];exact hnm) (by omega) (by omega)]
        by_cases htn:t<now.n
        ·rw[if_pos htn,hO.stop (by rw[gy he,wK ⟨ha,hnm⟩]) (fun x hx=>by simp at hx;subst hx;exact htn)]
        ·rw[if_neg htn]
         exact ih1 _ ⟨out++[st r (aft now.s) now.n],_,rfl,hO.go (hO.j.auto ha (fun e' he'=>by rw[he]at he';cases he';exact hnm)) (by simp only[st];omega)⟩ (gI ha)
       ·unfold jL
        rw[g1,decide_eq_false hnm,cond_false];exact tail fun h=>hnm h.2
      ·rw[decide_eq_false hn0,cond_false]
       exact tail fun h=>hn0 (f1.2 h.1)
     ·have h00:i=es.length:=by omega
      have c7:¬(i:Int)<((ceL es).length:Int):=by rw[v1];omega
      have hnone:∀e,¬es[i]?=some e:=fun e he=>by have:=(List.getElem?_eq_some_iff.1 he).1;omega
      have hdr:es.drop i=[]:=by rw[h00,RN]
      rw[decide_eq_false c7,cond_false];refine eG (fun s=>∃(out:List Cs) (now:Cs),s=(now.s,now.f,now.n,now.s,now.f,now.n)/\RunO r c es t out now i) (fun s=>rk s.1) _ ?_ n _ ⟨out,now,rfl,hO⟩ (by have:=iX now.s;simp only;omega)
      rintro _ a ⟨out,now,rfl,hO⟩ ih1;simp only
      obtain⟨f1,f2,f3,f4⟩:=facts out now i hO.j;by_cases hn0:0<=now.n
      ·have ha:=f1.1 hn0
       rw[Mt n a r hr t now.s now.n now.s now.f now.n ha hn0 (by omega)]
       by_cases htn:t<now.n
       ·rw[if_pos htn,hO.stop (by rw[hdr,Aw ha]) (fun x hx=>by simp at hx;subst hx;exact htn)]
       ·rw[if_neg htn]
        exact ih1 _ ⟨out++[st r (aft now.s) now.n],_,rfl,hO.go (hO.j.auto ha (fun e' he'=>absurd he' (hnone e'))) (by simp only[st];omega)⟩ (gI ha)
      ·unfold iU
       rw[decide_eq_false hn0,cond_false,hO.stop (by rw[hdr,wu (fun ha=>hn0 (f1.2 ha))]) (fun x hx=>by cases hx)]
   ·have:¬(eP r c es/\0<=t/\t<=20000000):=fun h=>h1 h.2.2
    simp[hv,h0,h1]
  ·simp[hv,h0]
 ·unfold nx
  simp[hv]
open Go.Dial.Ref Go.Dial.Lif Go.Dial.Fwd Go.Dial.Rou Go.Dial.Flo
theorem HW(n:Nat)(r:Rl)(c:Cl)(es:List Ce)(t:Int)(hn:200<n):m6 n r.a r.c r.s r.r c.n c.f c.t c.h c.a c.b (ceL es) t=some (if oJ r c es t then(if(jx r c es t).s=4\/(jx r c es t).s=5 then c.t else c.f,0)else(0,160)):=by
 unfold m6 AN;rw[Dw n r c es t hn];unfold Go.Dial.Clm.outR;by_cases h:oJ r c es t
 ·simp only[h,if_true,v0]
  grind
 ·simp[h]
abbrev lnR(x:Int×List Ev):List AV:=[.int x.1,.sl (.cons .int (.cons .int (.cons .int .nil))) (evL x.2)]
abbrev lnL(l:List (Int×List Ev)):Lv:=l.map lnR
theorem fx(l:List (Int×List Ev)):((lnL l).length:Int)=(l.length:Int):=by rw[v1]
theorem A5{l:List (Int×List Ev)}{i:Nat}{x:Int×List Ev}(h:l[i]?=some x):cI (lnL l) (i:Int) 0=x.1/\cL (lnL l) (i:Int) 1=evL x.2:=by
 have hc:∀k,cA (lnL l) (i:Int) k=(lnR x).getD k (.int 0):=fun k=>cx (by simpa using h)
 simp only[cI,cL,hc];exact⟨rfl,rfl⟩
theorem HN(n:Nat)(g:Gr)(hs:Small g)(hn:1000<n):∀(m n' i:Nat) (last:Int),m<n'->i+m=g.ls.length-> -1<=last->last<=99999999 →
  ab (fun c s=>de n c (lnL g.ls) (seL g.ss) (coL g.cs) (iL g.h) (iL g.k) g.lag g.r.a g.r.c g.r.s g.r.r g.c.n g.c.f g.c.t g.c.h g.c.a g.c.b (ceL g.ce) g.nn (edL g.es) s.1 s.2) n' ((last,(i:Int)):eh)=some (decide (LsV last (g.ls.drop i)/\g.ls.length<=10/\FwV g.ss g.cs/\RoV g.h g.k g.lag/\eP g.r g.c g.ce/\NetV g.nn g.es/\g.nn=8)):=by
 have hl:=hs.ls;intro m;induction m with
 | zero =>
  intro n' i last hm hi h0 h1;cases n' with
  |zero=>omega
  | succ n'=>
   rw[ae];generalize (ab (fun c s=>de n c (lnL g.ls) (seL g.ss) (coL g.cs) (iL g.h) (iL g.k) g.lag g.r.a g.r.c g.r.s g.r.r g.c.n g.c.f g.c.t g.c.h g.c.a g.c.b (ceL g.ce) g.nn (edL g.es) s.1 s.2) n':eh->Option eK)=go
   show de n go (lnL g.ls) (seL g.ss) (coL g.cs) (iL g.h) (iL g.k) g.lag g.r.a g.r.c g.r.s g.r.r g.c.n g.c.f g.c.t g.c.h g.c.a g.c.b (ceL g.ce) g.nn (edL g.es) last (i:Int)=_
   unfold de;have hi':i=g.ls.length:=by omega
   subst hi';rw[RN,fx,kF (y2 _)];by_cases e0:(10:Int)<(g.ls.length:Int)
   ·rw[kT e0,decide_eq_false (fun h=>by omega)]
   ·rw [kF e0,uQ n g.ss g.cs hs.ss hs.cs hn,v0]
    by_cases e1:FwV g.ss g.cs
    ·rw [kNT e1,xS n g.h g.k g.lag hn,v0]
     by_cases e2:RoV g.h g.k g.lag
     ·rw[kNT e2,yb n g.r g.c g.ce (by omega),v0]
      by_cases e3:eP g.r g.c g.ce
      ·rw[kT e3,sw n g.nn g.es hs.es hn,v0]
       by_cases e4:NetV g.nn g.es
       ·rw[kT e4]
        congr 1
        rw[decide_eq_decide];exact⟨fun h=>⟨trivial,by omega,e1,e2,e3,e4,h⟩,fun h=>h.2.2.2.2.2.2⟩
       ·rw[kF e4,decide_eq_false (fun h=>e4 h.2.2.2.2.2.1)]
      ·rw[kF e3,decide_eq_false (fun h=>e3 h.2.2.2.2.1)]
     ·rw[kNF e2,decide_eq_false (fun h=>e2 h.2.2.2.1)]
    ·rw[kNF e1,decide_eq_false (fun h=>e1 h.2.2.1)]
 | succ m ih=>
  intro n' i last hm hi h0 h1;cases n' with
  |zero=>omega
  | succ n'=>
   rw[ae];have hih:=ih n' (i+1);generalize (ab (fun c s=>de n c (lnL g.ls) (seL g.ss) (coL g.cs) (iL g.h) (iL g.k) g.lag g.r.a g.r.c g.r.s g.r.r g.c.n g.c.f g.c.t g.c.h g.c.a g.c.b (ceL g.ce) g.nn (edL g.es) s.1 s.2) n':eh->Option eK)=go at hih
   show de n go (lnL g.ls) (seL g.ss) (coL g.cs) (iL g.h) (iL g.k) g.lag g.r.a g.r.c g.r.s g.r.r g.c.n g.c.f g.c.t g.c.h g.c.a g.c.b (ceL g.ce) g.nn (edL g.es) last (i:Int)=_
   obtain⟨x,hx⟩:=aF (show i<g.ls.length by omega)
   obtain⟨k0,k1⟩:=A5 hx;have hd:g.ls.drop i=x::g.ls.drop (i+1):=by
    rw[y0 (List.getElem?_eq_some_iff.1 hx).1,(List.getElem?_eq_some_iff.1 hx).2]
   have hev:=hs.ev x (v7 hx);unfold de;rw[k0,k1,fx,kT (show(i:Int)<(g.ls.length:Int) by omega),kT (show(0:Int)<=(i:Int) by omega),wU n x.2 (by omega),v0,hd]
   by_cases e1:iV x.2
   ·have:(nw x.2).2=0:=by rw[my e1]
    dsimp only[oh]
    rw[this,kNT rfl,kG (by omega)]
    by_cases e2:last+1<=x.1
    ·rw[kT e2]
     by_cases e3:x.1<=99999999
     ·rw[kNT e3,kG (by omega)]
      have:=hih x.1 (by omega) (by omega) (by omega) e3
      rw[show((i+1:Nat):Int)=(i:Int)+1 by omega]at this
      rw[this];congr 1
      rw[decide_eq_decide];constructor
      ·rintro ⟨a,b⟩;exact⟨⟨e1,by omega,e3,a⟩,b⟩
      ·rintro ⟨a,b⟩;exact⟨a.2.2.2,b⟩
     ·rw[kNF e3,decide_eq_false (fun h=>e3 h.1.2.2.1)]
    ·rw[kF e2,decide_eq_false (fun h=>by have:=h.1.2.1;omega)]
   ·have:(nw x.2).2=140:=by rw[Br e1]
    dsimp only[oh]
    rw[this,kNF (by decide),decide_eq_false (fun h=>e1 h.1.1)]
theorem uD(n:Nat)(g:Gr)(hs:Small g)(hn:1001<n):eV n (lnL g.ls) (seL g.ss) (coL g.cs) (iL g.h) (iL g.k) g.lag g.r.a g.r.c g.r.s g.r.r g.c.n g.c.f g.c.t g.c.h g.c.a g.c.b (ceL g.ce) g.nn (edL g.es)=some (decide (GrV g)):=by
 unfold eV tN;rw[show((-1,0):eh)=(-1,((0:Nat):Int))from rfl,HN n g hs (by omega) g.ls.length n 0 (-1) (by have:=hs.ls;omega) (by omega) (by omega) (by omega),R8]
 congr 1
 rw[decide_eq_decide];unfold GrV;constructor
 ·rintro ⟨a,b,c⟩;exact⟨b,a,c⟩
 ·rintro ⟨b,a,c⟩;exact⟨a,b,c⟩
theorem CU(n:Nat)(g:Gr)(hs:Small g)(num t c:Int)(w:Int×List Int×List Int)(p:List (Int×Int)×Int)(hn:1001<n):cT n (lnL g.ls) (seL g.ss) (coL g.cs) (iL g.h) (iL g.k) g.lag g.r.a g.r.c g.r.s g.r.r g.c.n g.c.f g.c.t g.c.h g.c.a g.c.b (ceL g.ce) g.nn (edL g.es) t c w.1 (iL w.2.1) (iL w.2.2) (hpL p.1) p.2 num=some (bW g.ls num t):=by
 have hl:=hs.ls;unfold cT lA;have key:∀(m n' i:Nat),m<n'->i+m=g.ls.length->ab (fun a s=>bR n a (lnL g.ls) t num s) n' ((i:Int):dV)=some (bW (g.ls.drop i) num t):=by
  intro m;induction m with
  | zero=>
   intro n' i hm hi;cases n' with
   |zero=>omega
   |succ n'=>
    rw[ae];show bR n _ (lnL g.ls) t num (i:Int)=_
    unfold bR;have hi':i=g.ls.length:=by omega
    subst hi';rw[RN,fx,kF (y2 _)];rfl
  | succ m ih=>
   intro n' i hm hi;cases n' with
   |zero=>omega
   | succ n'=>
    rw[ae];have hih:=ih n' (i+1) (by omega) (by omega)
    generalize (ab (fun a s=>bR n a (lnL g.ls) t num s) n':dV->Option dm)=go at hih
    obtain⟨x,hx⟩:=aF (show i<g.ls.length by omega)
    obtain⟨k0,k1⟩:=A5 hx;have hd:g.ls.drop i=x::g.ls.drop (i+1):=by
     rw[y0 (List.getElem?_eq_some_iff.1 hx).1,(List.getElem?_eq_some_iff.1 hx).2]
    have hev:=hs.ev x (v7 hx);show bR n go (lnL g.ls) t num (i:Int)=_
    unfold bR;rw[k0,k1,fx,kT (show(i:Int)<(g.ls.length:Int) by omega),kT (show(0:Int)<=(i:Int) by omega),hd]
    unfold bW;by_cases e1:x.1=num
    ·rw[kT e1,kF (show ¬(i:Int)<0 by omega),Mj n x.2 t (by omega),v0,if_pos e1]
    ·rw[kF e1,kG (by omega),if_neg e1]
     rw[show((i+1:Nat):Int)=(i:Int)+1 by omega]at hih
     exact hih
 have:=key g.ls.length n 0 (by omega) (by omega)
 rw[R8]at this;exact this
theorem vP(p:List Int)(h:p≠[]):cI (iL p) (((iL p).length:Int)-1) 0=oH p:=by
 have hl:0<p.length:=List.length_pos_iff.2 h
 rw[di,ah];unfold oH;rw[R3,v2];congr 2
 omega
theorem l8(p:List (Int×Int))(h:p≠[]):cI (hpL p) (((hpL p).length:Int)-1) 0=aW p:=by
 have hl:0<p.length:=List.length_pos_iff.2 h
 have hx:p[p.length-1]?=some (p[p.length-1]'(by omega)):=v9 (by omega)
 have:=(vG hx).1
 rw[bP,show((p.length:Int)-1)=((p.length-1:Nat):Int) by omega,this]
 unfold aW;rw[R3,hx];rfl
theorem gi{α:Type}{p:List α}(h:p≠[]):0<(p.length:Int):=by
 have:=List.length_pos_iff.2 h
 omega
theorem yC(n:Nat)(g:Gr)(t c:Int)(w:Int×List Int×List Int)(p:List (Int×Int)×Int)(hw:w.2.1≠[])(hp:p.1≠[])(hwl:w.2.1.length<=1000)(hpl:p.1.length<=1000)(hv:eP g.r g.c g.ce)(t0:0<=t)(t1:t<=10000000)(hn:1001<n):
  bq n (lnL g.ls) (seL g.ss) (coL g.cs) (iL g.h) (iL g.k) g.lag g.r.a g.r.c g.r.s g.r.r g.c.n g.c.f g.c.t g.c.h g.c.a g.c.b (ceL g.ce) g.nn (edL g.es) t c w.1 (iL w.2.1) (iL w.2.2) (hpL p.1) p.2=some (decide (Unp g t w.2.1 p.1)):=by
 have l1:=gi hw;have l2:=gi hp;have hW:m6 n g.r.a g.r.c g.r.s g.r.r g.c.n g.c.f g.c.t g.c.h g.c.a g.c.b (ceL g.ce) t=some (LR g t,0):=by
  rw[HW n g.r g.c g.ce t (by omega),if_pos ⟨hv,t0,by omega⟩]
  rfl
 unfold bq jf;rw[hW,v0,l8 _ hp,vP _ hw,bP,ah,kG (by omega),kT (by omega),kT (by omega)]
 dsimp only;by_cases e2:aW p.1=g.c.f
 ·rw[kT e2,kG (by omega),kT (by omega),kT (by omega)]
  by_cases e1:g.c.n=oH w.2.1
  ·rw[kT e1]
   congr 1
   rw[<-decide_not,decide_eq_decide];exact⟨fun h=>⟨e1,.inl e2,h⟩,fun h=>h.2.2⟩
  ·rw[kF e1,decide_eq_false (fun h:Unp g t w.2.1 p.1=>e1 h.1)]
 ·rw[kF e2,kG (by omega),kT (by omega),kT (by omega)]
  by_cases e1:g.c.n=oH w.2.1
  ·rw[kT e1]
   by_cases e3:aW p.1=g.c.t
   ·rw[kT e3]
    congr 1
    rw[<-decide_not,decide_eq_decide];exact⟨fun h=>⟨e1,.inr e3,h⟩,fun h=>h.2.2⟩
   ·rw[kF e3,decide_eq_false (fun h:Unp g t w.2.1 p.1=>(h.2.1).elim (fun h=>e2 h) (fun h=>e3 h))]
  ·rw[kF e1,decide_eq_false (fun h:Unp g t w.2.1 p.1=>e1 h.1)]
abbrev Hs(g:Gr)(t c:Int)(w:Int×List Int×List Int)(p:List (Int×Int)×Int):ct:=
 (lnL g.ls,seL g.ss,coL g.cs,iL g.h,iL g.k,g.lag,g.r.a,g.r.c,g.r.s,g.r.r,g.c.n,g.c.f,g.c.t,g.c.h,g.c.a,g.c.b,ceL g.ce,g.nn,edL g.es,t,c,w.1,iL w.2.1,iL w.2.2,hpL p.1,p.2,true)
abbrev Rc:ct:=(([]:Lv),([]:Lv),([]:Lv),([]:Lv),([]:Lv),0,0,0,0,0,0,0,0,0,0,false,([]:Lv),0,([]:Lv),0,0,0,([]:Lv),([]:Lv),([]:Lv),0,false)
theorem CH(n:Nat)(g:Gr)(hs:Small g)(num t c:Int)(hn:1001<n):fy n (lnL g.ls) (seL g.ss) (coL g.cs) (iL g.h) (iL g.k) g.lag g.r.a g.r.c g.r.s g.r.r g.c.n g.c.f g.c.t g.c.h g.c.a g.c.b (ceL g.ce) g.nn (edL g.es) num t c=some (if bN g num t c then Hs g t c (wy g num t) (hp g c)else Rc):=by
 unfold fy qS;rw[uD n g hs hn,v0];unfold sn;by_cases hv:GrV g
 ·have hk8:=hv.2.2.2.1.2.1
  rw[kNT hv];unfold qX;by_cases n0:0<=num
  ·rw [kT n0]
   unfold sq;by_cases n1:num<=99999999
   ·rw [kNT n1]
    unfold rd;by_cases t0:0<=t
    ·rw [kT t0]
     unfold sd;by_cases t1:t<=10000000
     ·rw [kNT t1]
      by_cases c0:0<=c
      ·rw[kT c0]
       by_cases c1:c<=7
       ·rw[kNT c1,kT (show c<((iL g.k).length:Int) by rw[ah];omega),Oz]
        by_cases c2:at_ g.k c<0
        ·rw[kT c2,if_neg (fun h=>by have:=h.2.2.2.2.2.2.2;omega)]
        ·have hR:=BD n g.ss g.cs num t hs.ss hs.cs (by omega)
         have hP:=Ij n g.h g.k g.lag c (by omega)
         have o1:Bk g.ss g.cs num t:=⟨hv.2.2.1,n0,n1,t0,t1⟩
         have o2:zb g.h g.k g.lag c:=⟨hv.2.2.2.1,c0,c1,by omega⟩
         unfold nk at hR;unfold oK at hP;rw[if_pos o1]at hR;rw[if_pos o2]at hP;rw[kF c2,hR,v0,hP,v0,if_pos ⟨hv,n0,n1,t0,t1,c0,c1,by omega⟩]
       ·rw[kNF c1,if_neg (fun h=>c1 h.2.2.2.2.2.2.1)]
      ·rw[kF c0,if_neg (fun h=>c0 h.2.2.2.2.2.1)]
     ·rw[kNF t1,if_neg (fun h=>t1 h.2.2.2.2.1)]
    ·rw[kF t0,if_neg (fun h=>t0 h.2.2.2.1)]
   ·rw[kNF n1,if_neg (fun h=>n1 h.2.2.1)]
  ·rw[kF n0,if_neg (fun h=>n0 h.2.1)]
 ·rw[kNF hv,if_neg (fun h=>hv h.1)]
end Go.Proofs.YtbfkkigbedmhgaaGreat
namespace Go.Dial.Ref
open Go.Sx Go.Dial.Flo Go.Dial.Rou Go.Dial.Fwd Go.Dial.Lif Go.Dial.Clm
theorem Ow{c:List Co}(h:fX (-1) c)(n:Int):dL c n=0\/(2<=dL c n/\dL c n<=4):=by
 rcases xt c n with⟨x,hx,_,h2⟩|⟨_,h2⟩
 ·obtain⟨j,hj⟩:=RO hx
  have:=BB h j x hj
  exact .inr (by omega)
 ·exact .inl h2
theorem Kx{l:List Se}{c:List Co}(hc:fX (-1) c)(t:Int):∀(m:Nat) (n:Int) (p u:List Int),p≠[] →
  (jy l c t m n p u).2.1≠[]/\(jy l c t m n p u).2.1.length<=p.length+m/\(jy l c t m n p u).2.2.length<=u.length+m/\(jy l c t m n p u).2.1.head?=p.head?/\1<=(jy l c t m n p u).1/\(jy l c t m n p u).1<=6
 |0,n,p,u,hp=>⟨hp,by simp only[jy];omega,by simp only[jy];omega,rfl,by simp only[jy];omega,by simp only[jy];omega⟩
 | m + 1,n,p,u,hp=>by
  have hsn:∀x:Int,p++[x]≠[]/\(p++[x]).length=p.length+1/\(p++[x]).head?=p.head?:=fun x=>by
   refine⟨by simp,by simp,?_⟩
   cases p with
   |nil=>exact absurd rfl hp
   |cons y p=>rfl
  have hun:∀x:Int,(u++[x]).length=u.length+1:=fun x=>by simp
  simp only[jy];cases cnt l c n t with
  |none=>
   have:=Ow hc n
   refine⟨hp,by dsimp only;omega,by dsimp only;omega,rfl,?_,?_⟩<;>dsimp only<;>split<;>omega
  | some i=>
   dsimp only;by_cases h5:u.length=5
   ·rw[if_pos h5]
    exact⟨hp,by dsimp only;omega,by dsimp only;omega,rfl,by dsimp only;omega,by dsimp only;omega⟩
   ·rw[if_neg h5]
    obtain⟨s1,s2,s3⟩:=hsn (vk l i).t;have s4:=hun (i:Int);by_cases hm:(vk l i).t∈p
    ·rw[if_pos hm]
     exact⟨s1,by dsimp only;omega,by dsimp only;omega,s3,by dsimp only;omega,by dsimp only;omega⟩
    ·rw[if_neg hm]
     obtain⟨a1,a2,a3,a4,a5⟩:=Kx hc t m (vk l i).t (p++[(vk l i).t]) (u++[(i:Int)]) s1;exact⟨a1,by omega,by omega,a4.trans s3,a5⟩
structure CallV (g:Gr) (num t c:Int):Prop where
 wne:(wy g num t).2.1≠[]
 wlen:(wy g num t).2.1.length<=8
 ulen:(wy g num t).2.2.length<=8
 whead:(wy g num t).2.1.head?=some num
 kind:1<=(wy g num t).1/\(wy g num t).1<=6
 pth:PthV g.h g.k c (hp g c).1 (hp g c).2
 plen:(hp g c).1.length<=31
 c0:0<=c/\c<=7
 t0:0<=t/\t<=10000000
 last:0<=aW (hp g c).1/\aW (hp g c).1<=7
theorem iz{g:Gr}{num t c:Int}(h:bN g num t c):CallV g num t c:=by
 obtain⟨hv,n0,n1,t0,t1,c0,c1,hk⟩:=h;obtain⟨a1,a2,a3,a4,a5,a6⟩:=Kx (l:=g.ss) (c:=g.cs) hv.2.2.1.2.2 t 7 num [num] [] (by simp)
 obtain⟨p1,p2⟩:=Oc (h:=g.h) (k:=g.k) (lag:=g.lag) (c:=c) ⟨hv.2.2.2.1,c0,c1,hk⟩
 obtain⟨_,_,_,_,hl⟩:=NH p1;exact⟨a1,by have:(wy g num t).2.1.length<=1+7:=a2;omega,by have:(wy g num t).2.2.length<=0+7:=a3;omega,a4,⟨a5,a6⟩,p1,p2,⟨c0,c1⟩,⟨t0,t1⟩,hl⟩
open Classical in
noncomputable def tW (g:Gr) (t c:Int) (w:Int×List Int×List Int) (p:List (Int×Int)×Int):Rf×Bool:=
 if w.1=5\/w.1=6 then(⟨2,0,w.1,w.2.1,w.2.2,[],0⟩,true)else if 2<=w.1/\w.1<=4 then(⟨3,0,w.1,w.2.1,w.2.2,[],0⟩,true)else if p.2=2 then(⟨4,0,0,[],[],p.1,0⟩,true)else if p.2=3 then(⟨5,0,0,[],[],p.1,0⟩,true)else if p.2=1 then
  (if Unp g t w.2.1 p.1 then(⟨6,0,0,[],[],p.1,0⟩,true)else if aW p.1=c then(xn,false)else if Flo.Reach g.es c (aW p.1)then(xn,false)else(⟨7,0,0,[],[],p.1,rS g.es c⟩,true))else(xn,false)
theorem Fw{g:Gr}{t c:Int}{w:Int×List Int×List Int}{p:List (Int×Int)×Int}{x:Int}(h:w.2.1.find? (fun x=> !bW g.ls x t)=some x):pD g t c w p=(⟨1,x,0,[],[],[],0⟩,true):=by
 unfold pD;rw[h]
theorem F5{g:Gr}{t c:Int}{w:Int×List Int×List Int}{p:List (Int×Int)×Int}(h:w.2.1.find? (fun x=> !bW g.ls x t)=none):pD g t c w p=tW g t c w p:=by
 unfold pD tW;rw[h]
theorem Nc{g:Gr}{t c:Int}{w:Int×List Int×List Int}{p:List (Int×Int)×Int}{r:Rf}(hk:r.k=1):f8 g t c w p r↔(r.n∈w.2.1/\bW g.ls r.n t=false/\r=⟨1,r.n,0,[],[],[],0⟩):=by
 unfold f8;constructor
 ·rintro (⟨_,e⟩|⟨e,_⟩|⟨e,_⟩|⟨e,_⟩|⟨e,_⟩|⟨e,_⟩|⟨e,_⟩)
  ·exact e
  ·exact absurd (hk.symm.trans e) (by decide)
  ·exact absurd (hk.symm.trans e) (by decide)
  ·exact absurd (hk.symm.trans e) (by decide)
  ·exact absurd (hk.symm.trans e) (by decide)
  ·exact absurd (hk.symm.trans e) (by decide)
  ·exact absurd (hk.symm.trans e) (by decide)
 ·intro h;exact .inl ⟨hk,h⟩
theorem vF{g:Gr}{t c:Int}{w:Int×List Int×List Int}{p:List (Int×Int)×Int}{r:Rf}(hk:r.k=2):f8 g t c w p r↔((w.1=5\/w.1=6)/\r=⟨2,0,w.1,w.2.1,w.2.2,[],0⟩):=by
 unfold f8;constructor
 ·rintro (⟨e,_⟩|⟨_,e⟩|⟨e,_⟩|⟨e,_⟩|⟨e,_⟩|⟨e,_⟩|⟨e,_⟩)
  ·exact absurd (hk.symm.trans e) (by decide)
  ·exact e
  ·exact absurd (hk.symm.trans e) (by decide)
  ·exact absurd (hk.symm.trans e) (by decide)
  ·exact absurd (hk.symm.trans e) (by decide)
  ·exact absurd (hk.symm.trans e) (by decide)
  ·exact absurd (hk.symm.trans e) (by decide)
 ·intro h;exact .inr (.inl ⟨hk,h⟩)
theorem wa{g:Gr}{t c:Int}{w:Int×List Int×List Int}{p:List (Int×Int)×Int}{r:Rf}(hk:r.k=3):f8 g t c w p r↔((2<=w.1/\w.1<=4)/\r=⟨3,0,w.1,w.2.1,w.2.2,[],0⟩):=by
 unfold f8;constructor
 ·rintro (⟨e,_⟩|⟨e,_⟩|⟨_,e⟩|⟨e,_⟩|⟨e,_⟩|⟨e,_⟩|⟨e,_⟩)
  ·exact absurd (hk.symm.trans e) (by decide)
  ·exact absurd (hk.symm.trans e) (by decide)
  ·exact e
  ·exact absurd (hk.symm.trans e) (by decide)
  ·exact absurd (hk.symm.trans e) (by decide)
  ·exact absurd (hk.symm.trans e) (by decide)
  ·exact absurd (hk.symm.trans e) (by decide)
 ·intro h;exact .inr (.inr (.inl ⟨hk,h⟩))
theorem DA{g:Gr}{t c:Int}{w:Int×List Int×List Int}{p:List (Int×Int)×Int}{r:Rf}(hk:r.k=4):f8 g t c w p r↔(p.2=2/\r=⟨4,0,0,[],[],p.1,0⟩):=by
 unfold f8;constructor
 ·rintro (⟨e,_⟩|⟨e,_⟩|⟨e,_⟩|⟨_,e⟩|⟨e,_⟩|⟨e,_⟩|⟨e,_⟩)
  ·exact absurd (hk.symm.trans e) (by decide)
  ·exact absurd (hk.symm.trans e) (by decide)
  ·exact absurd (hk.symm.trans e) (by decide)
  ·exact e
  ·exact absurd (hk.symm.trans e) (by decide)
  ·exact absurd (hk.symm.trans e) (by decide)
  ·exact absurd (hk.symm.trans e) (by decide)
 ·intro h;exact .inr (.inr (.inr (.inl ⟨hk,h⟩)))
theorem C3{g:Gr}{t c:Int}{w:Int×List Int×List Int}{p:List (Int×Int)×Int}{r:Rf}(hk:r.k=5):f8 g t c w p r↔(p.2=3/\r=⟨5,0,0,[],[],p.1,0⟩):=by
 unfold f8;constructor
 ·rintro (⟨e,_⟩|⟨e,_⟩|⟨e,_⟩|⟨e,_⟩|⟨_,e⟩|⟨e,_⟩|⟨e,_⟩)
  ·exact absurd (hk.symm.trans e) (by decide)
  ·exact absurd (hk.symm.trans e) (by decide)
  ·exact absurd (hk.symm.trans e) (by decide)
  ·exact absurd (hk.symm.trans e) (by decide)
  ·exact e
  ·exact absurd (hk.symm.trans e) (by decide)
  ·exact absurd (hk.symm.trans e) (by decide)
 ·intro h;exact .inr (.inr (.inr (.inr (.inl ⟨hk,h⟩))))
theorem vS{g:Gr}{t c:Int}{w:Int×List Int×List Int}{p:List (Int×Int)×Int}{r:Rf}(hk:r.k=6):f8 g t c w p r↔(p.2=1/\Unp g t w.2.1 p.1/\r=⟨6,0,0,[],[],p.1,0⟩):=by
 unfold f8;constructor
 ·rintro (⟨e,_⟩|⟨e,_⟩|⟨e,_⟩|⟨e,_⟩|⟨e,_⟩|⟨_,e⟩|⟨e,_⟩)
  ·exact absurd (hk.symm.trans e) (by decide)
  ·exact absurd (hk.symm.trans e) (by decide)
  ·exact absurd (hk.symm.trans e) (by decide)
  ·exact absurd (hk.symm.trans e) (by decide)
  ·exact absurd (hk.symm.trans e) (by decide)
  ·exact e
  ·exact absurd (hk.symm.trans e) (by decide)
 ·intro h;exact .inr (.inr (.inr (.inr (.inr (.inl ⟨hk,h⟩)))))
theorem jX{g:Gr}{t c:Int}{w:Int×List Int×List Int}{p:List (Int×Int)×Int}{r:Rf}(hk:r.k=7):f8 g t c w p r↔(p.2=1/\aW p.1≠c/\k8 c (aW p.1) r.s/\lvs r.s g.es=0/\r=⟨7,0,0,[],[],p.1,r.s⟩):=by
 unfold f8;constructor
 ·rintro (⟨e,_⟩|⟨e,_⟩|⟨e,_⟩|⟨e,_⟩|⟨e,_⟩|⟨e,_⟩|⟨_,e⟩)
  ·exact absurd (hk.symm.trans e) (by decide)
  ·exact absurd (hk.symm.trans e) (by decide)
  ·exact absurd (hk.symm.trans e) (by decide)
  ·exact absurd (hk.symm.trans e) (by decide)
  ·exact absurd (hk.symm.trans e) (by decide)
  ·exact absurd (hk.symm.trans e) (by decide)
  ·exact e
 ·intro h;exact .inr (.inr (.inr (.inr (.inr (.inr (⟨hk,h⟩))))))
theorem Fm{g:Gr}{t c:Int}{w:Int×List Int×List Int}{p:List (Int×Int)×Int}{r:Rf}(h:f8 g t c w p r):1<=r.k/\r.k<=7:=by
 unfold f8 at h;rcases h with⟨e,_⟩|⟨e,_⟩|⟨e,_⟩|⟨e,_⟩|⟨e,_⟩|⟨e,_⟩|⟨e,_⟩<;>omega
end Go.Dial.Ref
namespace Go.Proofs.YtbfkkigbedmhgaaGreat
open Go Go.Sx Go.Dial.Ref Go.Dial.Lif Go.Dial.Clm Go.Dial.Fwd Go.Dial.Rou Go.Dial.Flo
theorem RA{α:Type}{p q:Prop}[Decidable p][Decidable q]{X Y:α}:(bif decide p then(bif decide q then X else Y)else Y)=if p/\q then X else Y:=by
 by_cases hp:p<;>by_cases hq:q<;>simp[hp,hq]
abbrev rfT(x:Rf×Bool):af:=(x.1.k,x.1.n,x.1.rk,iL x.1.rp,iL x.1.ru,hpL x.1.hs,x.1.s,x.2)
theorem Pu{es:List Ed}{a b M:_}{value s:Int}(hv:NetV 8 es)(h:MaxR es a b M value s):(lvs s es=0↔¬Dial.Flo.Reach es (a:Int) (b:Int))/\(¬Dial.Flo.Reach es (a:Int) (b:Int)->rS es (a:Int)=s)/\(Dial.Flo.Reach es (a:Int) (b:Int)↔0<value):=by
 have hval:=h.inv.val;have hz:value=0->¬Dial.Flo.Reach es (a:Int) (b:Int):=fun h0 hr=>by
  have:=rH hv.2.2.2 (Cp hv.2.2.2 (h.isr h0)) h.cut.2.2.1 hr
  rw[h.cut.2.2.2]at this;cases this
 have hn:¬Dial.Flo.Reach es (a:Int) (b:Int)->value=0:=fun hr=>by
  rcases hval with⟨h1,_⟩|⟨_,h1⟩
  ·exact h1
  ·exact absurd h1 hr
 refine⟨⟨fun h0 hr=>?_,fun hr=>Cp hv.2.2.2 (h.isr (hn hr))⟩,fun hr=>OJ (h.isr (hn hr)),⟨fun hr=>?_,fun hp=>?_⟩⟩
 ·have:=rH hv.2.2.2 h0 h.cut.2.2.1 hr
  rw[h.cut.2.2.2]at this;cases this
 ·rcases hval with⟨h1,_⟩|⟨h1,_⟩
  ·exact absurd hr (hz h1)
  ·exact h1
 ·rcases hval with⟨h1,_⟩|⟨_,h1⟩
  ·omega
  ·exact h1
theorem I9{es:List Ed}{a b:Int}{M:List Int}{value s:Int}(a0:0<=a)(b0:0<=b)(hv:NetV 8 es)(h:MaxR es a.toNat b.toNat M value s):(lvs s es=0↔¬Dial.Flo.Reach es a b)/\(¬Dial.Flo.Reach es a b->rS es a=s)/\(Dial.Flo.Reach es a b↔0<value)/\k8 a b s:=by
 have h1:=Pu hv h;have h2:=h.cut;rw[show((a.toNat:Nat):Int)=a by omega,show((b.toNat:Nat):Int)=b by omega]at h1 h2
 exact⟨h1.1,h1.2.1,h1.2.2,h2⟩
theorem J0(n:Nat)(a:ao->Option af)(g:Gr)(t c:Int)(w:Int×List Int×List Int)(p:List (Int×Int)×Int)(hw:w.2.1≠[])(hp:p.1≠[])(hwl:w.2.1.length<=1000)(hpl:p.1.length<=1000)(hv:GrV g)(t0:0<=t)(t1:t<=10000000)(c0:0<=c)(c1:c<=7)(q0:0<=aW p.1)(q1:aW p.1<=7)(hn:20001000<n):
  fY n a (lnL g.ls) (seL g.ss) (coL g.cs) (iL g.h) (iL g.k) g.lag g.r.a g.r.c g.r.s g.r.r g.c.n g.c.f g.c.t g.c.h g.c.a g.c.b (ceL g.ce) g.nn (edL g.es) t c w.1 (iL w.2.1) (iL w.2.2) (hpL p.1) p.2=some (rfT (tW g t c w p)):=by
 have l2:=gi hp;have hnet:NetV 8 g.es:=by have:=hv.2.2.2.2.2.1;rw[hv.2.2.2.2.2.2]at this;exact this
 have hnn:g.nn=8:=hv.2.2.2.2.2.2
 unfold fY tW;by_cases k5:w.1=5
 ·rw[kT k5,if_pos (.inl k5)];rfl
 ·rw [kF k5]
  unfold kW;by_cases k6:w.1=6
  ·rw[kT k6,if_pos (.inr k6)];rfl
  ·rw [kF k6,if_neg (fun h=>(h).elim (fun h=>k5 h) (fun h=>k6 h))]
   unfold kX;rw[RA];by_cases k2:2<=w.1/\w.1<=4
   ·rw[if_pos k2,if_pos k2];rfl
   ·rw [if_neg k2,if_neg k2]
    by_cases e2:p.2=2
    ·rw[kT e2,if_pos e2];rfl
    ·rw [kF e2,if_neg e2]
     by_cases e3:p.2=3
     ·rw[kT e3,if_pos e3];rfl
     ·rw [kF e3,if_neg e3]
      by_cases e1:p.2=1
      ·rw[kT e1,if_pos e1,yC n g t c w p hw hp hwl hpl hv.2.2.2.2.1 t0 t1 (by omega),v0]
       by_cases u:Unp g t w.2.1 p.1
       ·rw[kT u,if_pos u];rfl
       ·rw[kF u,if_neg u,l8 _ hp,bP,kG (by omega),kT (by omega),kT (by omega)]
        by_cases e4:aW p.1=c
        ·rw[kT e4,if_pos e4];rfl
        ·obtain⟨M,value,s,hM,hF⟩:=w7 n g.es c (aW p.1) hnet c0 c1 q0 q1 (fun e=>e4 e.symm) (by omega)
         obtain⟨m1,m2,_,m4⟩:=I9 c0 q0 hnet hM;have hC:=m5 n g.es c (aW p.1) s hnet (by omega)
         unfold CB at hC;rw[if_pos ⟨c0,c1,q0,q1,fun e=>e4 e.symm,m4⟩]at hC
         rw[kF e4,if_neg e4,hnn,hF,v0,hC,v0];by_cases r:Dial.Flo.Reach g.es c (aW p.1)
         ·rw[kF (fun h=>(m1.1 h) r),if_pos r];rfl
         ·rw[kT (m1.2 r),if_neg r,m2 r];rfl
      ·rw[kF e1,if_neg e1];rfl
theorem JI(n:Nat)(b:ao->Option af)(g:Gr)(hs:Small g)(t c:Int)(w:Int×List Int×List Int)(p:List (Int×Int)×Int)(hwl:w.2.1.length<=1000)(hn:20001000<n)(i:Nat)(x:Int)(hx:w.2.1[i]?=some x):∀(m n' j:Nat),m<n'->j+m=i →
  ab (fun a s=>bS n b a (lnL g.ls) (seL g.ss) (coL g.cs) (iL g.h) (iL g.k) g.lag g.r.a g.r.c g.r.s g.r.r g.c.n g.c.f g.c.t g.c.h g.c.a g.c.b (ceL g.ce) g.nn (edL g.es) t c w.1 (iL w.2.1) (iL w.2.2) (hpL p.1) p.2 (i:Int) s) n' ((j:Int):ao)=bif bW g.ls x t then b ((i:Int)+1)else some (1,x,0,([]:Lv),([]:Lv),([]:Lv),0,true):=by
 have hil:=(List.getElem?_eq_some_iff.1 hx).1;have k0:cI (iL w.2.1) (i:Int) 0=x:=by rw[dF,v2,hx];rfl
 have hit:∀a:ao->Option af,∀j:Nat,j<=i->cI (iL w.2.1) (j:Int) 0=x->bS n b a (lnL g.ls) (seL g.ss) (coL g.cs) (iL g.h) (iL g.k) g.lag g.r.a g.r.c g.r.s g.r.r g.c.n g.c.f g.c.t g.c.h g.c.a g.c.b (ceL g.ce) g.nn (edL g.es) t c w.1 (iL w.2.1) (iL w.2.2) (hpL p.1) p.2 (i:Int) (j:Int)=bif bW g.ls x t then b ((i:Int)+1)else some (1,x,0,([]:Lv),([]:Lv),([]:Lv),0,true):=by
  intro a j hj kj;unfold bS;rw[ah,kT (show(j:Int)<(w.2.1.length:Int) by omega),kT (show(0:Int)<=(j:Int) by omega)]
  unfold gK;rw[k0,kj,kT rfl,CU n g hs x t c w p (by omega),v0]
  unfold lm;cases bW g.ls x t with
  |true=>rw[v3,cond_false,kG (by omega),cond_true]
  |false=>
   rw[RX,cond_true,cond_false];unfold lf;rw[kF (show ¬(i:Int)<0 by omega),k0]
 intro m;induction m with
 | zero=>
  intro n' j hm hj;cases n' with
  |zero=>omega
  |succ n'=>
   rw[ae];have hji:j=i:=by omega
   subst hji;exact hit _ j (RL _) k0
 | succ m ih=>
  intro n' j hm hj;cases n' with
  |zero=>omega
  | succ n'=>
   rw[ae];by_cases kj:cI (iL w.2.1) (j:Int) 0=x
   ·exact hit _ j (by omega) kj
   ·have hih:=ih n' (j+1) (by omega) (by omega)
    generalize (ab (fun a s=>bS n b a (lnL g.ls) (seL g.ss) (coL g.cs) (iL g.h) (iL g.k) g.lag g.r.a g.r.c g.r.s g.r.r g.c.n g.c.f g.c.t g.c.h g.c.a g.c.b (ceL g.ce) g.nn (edL g.es) t c w.1 (iL w.2.1) (iL w.2.2) (hpL p.1) p.2 (i:Int) s) n':ao->Option af)=a at hih
    show bS n b a (lnL g.ls) (seL g.ss) (coL g.cs) (iL g.h) (iL g.k) g.lag g.r.a g.r.c g.r.s g.r.r g.c.n g.c.f g.c.t g.c.h g.c.a g.c.b (ceL g.ce) g.nn (edL g.es) t c w.1 (iL w.2.1) (iL w.2.2) (hpL p.1) p.2 (i:Int) (j:Int)=_
    unfold bS;rw[ah,kT (show(j:Int)<(w.2.1.length:Int) by omega),kT (show(0:Int)<=(j:Int) by omega)]
    unfold gK;rw[k0,kF (fun e=>kj e.symm),kG (by omega)]
    rw[show((j+1:Nat):Int)=(j:Int)+1 by omega]at hih
    exact hih
theorem Jb(n:Nat)(g:Gr)(hs:Small g)(t c:Int)(w:Int×List Int×List Int)(p:List (Int×Int)×Int)(hw:w.2.1≠[])(hp:p.1≠[])(hwl:w.2.1.length<=1000)(hpl:p.1.length<=1000)(hv:GrV g)(t0:0<=t)(t1:t<=10000000)(c0:0<=c)(c1:c<=7)(q0:0<=aW p.1)(q1:aW p.1<=7)(hn:20001000<n):
  dE n (lnL g.ls) (seL g.ss) (coL g.cs) (iL g.h) (iL g.k) g.lag g.r.a g.r.c g.r.s g.r.r g.c.n g.c.f g.c.t g.c.h g.c.a g.c.b (ceL g.ce) g.nn (edL g.es) t c w.1 (iL w.2.1) (iL w.2.2) (hpL p.1) p.2=some (rfT (pD g t c w p)):=by
 unfold dE ly;have key:∀(m n' i:Nat),m<n'->i+m=w.2.1.length->ab (fun a s=>bT n a (lnL g.ls) (seL g.ss) (coL g.cs) (iL g.h) (iL g.k) g.lag g.r.a g.r.c g.r.s g.r.r g.c.n g.c.f g.c.t g.c.h g.c.a g.c.b (ceL g.ce) g.nn (edL g.es) t c w.1 (iL w.2.1) (iL w.2.2) (hpL p.1) p.2 s) n' ((i:Int):ao)=match (w.2.1.drop i).find? (fun x=> !bW g.ls x t)with
   |some x=>some (1,x,0,([]:Lv),([]:Lv),([]:Lv),0,true)
   |none=>some (rfT (tW g t c w p)):=by
  intro m;induction m with
  | zero=>
   intro n' i hm hi;cases n' with
   |zero=>omega
   |succ n'=>
    rw[ae];show bT n _ (lnL g.ls) (seL g.ss) (coL g.cs) (iL g.h) (iL g.k) g.lag g.r.a g.r.c g.r.s g.r.r g.c.n g.c.f g.c.t g.c.h g.c.a g.c.b (ceL g.ce) g.nn (edL g.es) t c w.1 (iL w.2.1) (iL w.2.2) (hpL p.1) p.2 (i:Int)=_
    unfold bT;have hi':i=w.2.1.length:=by omega
    subst hi';rw[RN,ah,kF (y2 _)];exact J0 n _ g t c w p hw hp hwl hpl hv t0 t1 c0 c1 q0 q1 hn
  | succ m ih=>
   intro n' i hm hi;cases n' with
   |zero=>omega
   | succ n'=>
    rw[ae];have hih:=ih n' (i+1) (by omega) (by omega)
    generalize (ab (fun a s=>bT n a (lnL g.ls) (seL g.ss) (coL g.cs) (iL g.h) (iL g.k) g.lag g.r.a g.r.c g.r.s g.r.r g.c.n g.c.f g.c.t g.c.h g.c.a g.c.b (ceL g.ce) g.nn (edL g.es) t c w.1 (iL w.2.1) (iL w.2.2) (hpL p.1) p.2 s) n':ao->Option af)=go at hih
    obtain⟨x,hx⟩:=aF (show i<w.2.1.length by omega)
    have hd:w.2.1.drop i=x::w.2.1.drop (i+1):=by
     rw[y0 (List.getElem?_eq_some_iff.1 hx).1,(List.getElem?_eq_some_iff.1 hx).2]
    show bT n go (lnL g.ls) (seL g.ss) (coL g.cs) (iL g.h) (iL g.k) g.lag g.r.a g.r.c g.r.s g.r.r g.c.n g.c.f g.c.t g.c.h g.c.a g.c.b (ceL g.ce) g.nn (edL g.es) t c w.1 (iL w.2.1) (iL w.2.2) (hpL p.1) p.2 (i:Int)=_
    unfold bT;rw[ah,kT (show(i:Int)<(w.2.1.length:Int) by omega),kT (show(0:Int)<=(i:Int) by omega),hd,List.find?_cons]
    have hf:=JI n go g hs t c w p hwl hn i x hx i n 0 (by omega) (by omega)
    refine hf.trans ?_
    rw[show((i+1:Nat):Int)=(i:Int)+1 by omega]at hih
    cases bW g.ls x t with
    |true=>exact hih
    |false=>rfl
 have:=key w.2.1.length n 0 (by omega) (by omega)
 rw[R8]at this;refine this.trans ?_
 cases hf:w.2.1.find? (fun x=> !bW g.ls x t)with
 |some x=>rw[Fw hf];rfl
 |none=>rw[F5 hf]
abbrev vt(x:Rf×Bool)(e:Int):lX:=(x.1.k,x.1.n,x.1.rk,iL x.1.rp,iL x.1.ru,hpL x.1.hs,x.1.s,x.2,e)
theorem CR(n:Nat)(g:Gr)(hs:Small g)(num t c:Int)(hn:20001000<n):d9 n (lnL g.ls) (seL g.ss) (coL g.cs) (iL g.h) (iL g.k) g.lag g.r.a g.r.c g.r.s g.r.r g.c.n g.c.f g.c.t g.c.h g.c.a g.c.b (ceL g.ce) g.nn (edL g.es) num t c=some (if bN g num t c then vt (vl g num t c) 0 else vt (xn,false) 280):=by
 unfold d9 rX;rw[CH n g hs num t c (by omega),v0]
 by_cases h:bN g num t c
 ·have hc:=iz h
  have hR:=Jb n g hs t c (wy g num t) (hp g c) hc.wne hc.pth.ne (by have:=hc.wlen;omega) (by have:=hc.plen;omega) h.1 hc.t0.1 hc.t0.2 hc.c0.1 hc.c0.2 hc.last.1 hc.last.2 hn
  rw[if_pos h,if_pos h];dsimp only[Hs]
  rw[v3,cond_false,hR,v0];rfl
 ·rw[if_neg h,if_neg h]
  rfl
abbrev OI(w:Int×List Int×List Int)(p:List (Int×Int)×Int):kK:=(oH w.2.1,aW p.1,w.1,iL w.2.1,iL w.2.2,hpL p.1,true,0)
abbrev Ec(e:Int):kK:=(0,0,0,([]:Lv),([]:Lv),([]:Lv),false,e)
theorem Fd(n:Nat)(g:Gr)(hs:Small g)(num t c:Int)(hn:20001000<n):fJ n (lnL g.ls) (seL g.ss) (coL g.cs) (iL g.h) (iL g.k) g.lag g.r.a g.r.c g.r.s g.r.r g.c.n g.c.f g.c.t g.c.h g.c.a g.c.b (ceL g.ce) g.nn (edL g.es) num t c=some (if bN g num t c then(if(vl g num t c).2=true then Ec 0 else OI (wy g num t) (hp g c))else Ec 280):=by
 unfold fJ vQ;rw[CH n g hs num t c (by omega),v0]
 by_cases h:bN g num t c
 ·have hc:=iz h
  have l1:=gi hc.wne;have l2:=gi hc.pth.ne;have b1:=hc.wlen;have b2:=hc.plen;have hR:=Jb n g hs t c (wy g num t) (hp g c) hc.wne hc.pth.ne (by omega) (by omega) h.1 hc.t0.1 hc.t0.2 hc.c0.1 hc.c0.2 hc.last.1 hc.last.2 hn
  rw[if_pos h,if_pos h];dsimp only[Hs]
  rw[v3,cond_false,hR,v0];unfold vl;dsimp only[rfT]
  cases hb:(pD g t c (wy g num t) (hp g c)).2 with
  |true=>rw[cond_true,if_pos rfl]
  |false=>
   rw[cond_false,if_neg (by decide),vP _ hc.wne,l8 _ hc.pth.ne,ah,bP,kG (by omega),kT (by omega),kT (by omega),kG (by omega),kT (by omega),kT (by omega)]
 ·rw[if_neg h,if_neg h]
  rfl
end Go.Proofs.YtbfkkigbedmhgaaGreat
