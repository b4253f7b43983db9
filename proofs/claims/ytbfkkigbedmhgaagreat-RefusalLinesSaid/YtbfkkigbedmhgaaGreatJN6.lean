/-
  Texts of this claim, joined (part JN6).
-/
import Derived.Test.YtbfkkigbedmhgaaGreatJN5
set_option linter.unusedVariables false
set_option linter.unusedSimpArgs false
set_option linter.unusedSectionVars false
set_option linter.constructorNameAsVariable false
namespace Go.Sx
open Go
def gL{α:Type}(f:Nat->Option α)(e:α):Nat->Nat->α
 |0,_=>e
 |m+1,i=>match f i with
  |some r=>r
  |none=>gL f e m (i+1)
theorem kO{α:Type}{step:(Int->Option α)->Int->Option α}{len n:Nat}{f:Nat->Option α}{e:α}
  (h:∀(i:Nat) go,i<len->step go (i:Int)=match f i with|some r=>some r|none=>go ((i:Int)+1)) (he:∀go,step go (len:Int)=some e) (hn:len<n):ab step n (0:Int)=some (gL f e len 0):=by
 have key:∀(m n i:Nat),m<n->i+m=len->ab step n (i:Int)=some (gL f e m i):=by
  intro m;induction m with
  | zero=>
   intro n i hn hi;cases n with
   |zero=>omega
   |succ n=>
    have:i=len:=by omega
    subst this;rw[am,he];rfl
  | succ m ih=>
   intro n i hn hi;cases n with
   |zero=>omega
   | succ n=>
    rw[am,h i _ (by omega)]
    simp only[gL];cases f i with
    |some r=>rfl
    |none=>
     have:=ih n (i+1) (by omega) (by omega)
     simpa using this
 exact key len n 0 hn (by omega)
theorem fM{α:Type}{step:(Int->Option α)->Int->Option α}{len n:Nat}{f:Nat->Option (Option α)}{e:Option α}
  (h:∀(i:Nat) go,i<len->step go (i:Int)=match f i with|some r=>r|none=>go ((i:Int)+1)) (he:∀go,step go (len:Int)=e) (hn:len<n):ab step n (0:Int)=gL f e len 0:=by
 have key:∀(m n i:Nat),m<n->i+m=len->ab step n (i:Int)=gL f e m i:=by
  intro m;induction m with
  | zero=>
   intro n i hn hi;cases n with
   |zero=>omega
   |succ n=>
    have:i=len:=by omega
    subst this;rw[am,he];rfl
  | succ m ih=>
   intro n i hn hi;cases n with
   |zero=>omega
   | succ n=>
    rw[am,h i _ (by omega)]
    simp only[gL];cases f i with
    |some r=>rfl
    |none=>
     have:=ih n (i+1) (by omega) (by omega)
     simpa using this
 exact key len n 0 hn (by omega)
theorem xp{α:Type}(f:Nat->Option α)(e:α)(len:Nat):(∃i r,i<len/\f i=some r/\(∀j,j<i->f j=none)/\gL f e len 0=r)\/((∀i,i<len->f i=none)/\gL f e len 0=e):=by
 have key:∀(m i:Nat),(∃k r,i<=k/\k<i+m/\f k=some r/\(∀j,i<=j->j<k->f j=none)/\gL f e m i=r)\/((∀k,i<=k->k<i+m->f k=none)/\gL f e m i=e):=by
  intro m;induction m with
  |zero=>intro i;exact .inr ⟨fun k h1 h2=>by omega,rfl⟩
  | succ m ih=>
   intro i;simp only[gL];cases hf:f i with
   |some r=>exact .inl ⟨i,r,Nat.le_refl _,by omega,hf,fun j h1 h2=>by omega,rfl⟩
   | none=>
    rcases ih (i+1)with⟨k,r,h1,h2,h3,h4,h5⟩|⟨h1,h2⟩
    ·refine .inl ⟨k,r,by omega,by omega,h3,fun j g1 g2=>?_,h5⟩
     by_cases e:j=i
     ·subst e;exact hf
     ·exact h4 j (by omega) g2
    ·refine .inr ⟨fun k g1 g2=>?_,h2⟩
     by_cases e:k=i
     ·subst e;exact hf
     ·exact h1 k (by omega) (by omega)
 rcases key len 0 with⟨k,r,h1,h2,h3,h4,h5⟩|⟨h1,h2⟩
 ·exact .inl ⟨k,r,by omega,h3,fun j hj=>h4 j (by omega) hj,h5⟩
 ·exact .inr ⟨fun k hk=>h1 k (by omega) (by omega),h2⟩
theorem iB{α:Type}{f:Nat->Option α}{e:α}{len:Nat}(h:∀i,i<len->f i=none):gL f e len 0=e:=by
 rcases xp f e len with⟨i,r,h1,h2,_⟩|⟨_,h2⟩
 ·rw[h i h1]at h2;cases h2
 ·exact h2
theorem uI{α:Type}{f:Nat->Option α}{e r:α}{len:Nat}(h:∀i,i<len->f i=none\/f i=some r)(hx:∃i,i<len/\f i≠none):gL f e len 0=r:=by
 rcases xp f e len with⟨i,r',h1,h2,_,h4⟩|⟨h1,_⟩
 ·rcases h i h1 with h3|h3
  ·rw[h3]at h2;cases h2
  ·rw[h3]at h2;cases h2;exact h4
 ·obtain⟨i,hi,hne⟩:=hx
  exact absurd (h1 i hi) hne
theorem AQ{P:Nat->Prop}[DecidablePred P]{len:Nat}:gL (fun i=>if P i then none else some false) true len 0=decide (∀i,i<len->P i):=by
 rcases xp (fun i=>if P i then none else some false) true len with⟨i,r,h1,h2,_,h4⟩|⟨h1,h2⟩
 ·rw[h4]
  have hp:¬P i:=fun hp=>by simp[hp]at h2
  have hr:r=false:=by simpa[hp]using h2.symm
  subst hr;exact(decide_eq_false (fun h=>hp (h i h1))).symm
 ·rw[h2]
  exact(decide_eq_true (fun i hi=>by
   have:=h1 i hi
   by_cases hp:P i
   ·exact hp
   ·simp[hp]at this)).symm
end Go.Sx
set_option maxRecDepth 100000
namespace Go.Proofs.YtbfkkigbedmhgaaGreat
open Go Go.Sx
def ax(n:Int):Prop:= -9223372036854775808<=n/\n<=9223372036854775807
def pk(c k:Int):Int:=if c<0 then Int.tmod (0-(c+1)) k else Int.tmod c k
theorem pm{a k:Int}(ha:0<=a)(hk:0<k):0<=Int.tmod a k/\Int.tmod a k<k:=⟨Int.tmod_nonneg _ ha,Int.tmod_lt_of_pos _ hk⟩
theorem aX(c:Int){k:Int}(hk:0<k):0<=pk c k/\pk c k<k:=by
 unfold pk;split
 ·exact pm (by omega) hk
 ·exact pm (by omega) hk
abbrev bx(x:Int×Int×Int):List AV:=[.int x.1,.int x.2.1,.int x.2.2]
open Go.Dial.Fwd
abbrev seR(s:Se):List AV:=[.int s.n,.int s.k,.int s.t,.int s.f,.int s.u]
abbrev seL(l:List Se):Lv:=l.map seR
abbrev iL(l:List Int):Lv:=l.map fun x=>[.int x]
abbrev coR(c:Co):List AV:=[.int c.n,.int c.k]
abbrev coL(l:List Co):Lv:=l.map coR
theorem mH{l:List Se}{i:Nat}{s:Se}(h:l[i]?=some s):cI (seL l) (i:Int) 0=s.n/\cI (seL l) (i:Int) 1=s.k/\cI (seL l) (i:Int) 2=s.t/\cI (seL l) (i:Int) 3=s.f/\cI (seL l) (i:Int) 4=s.u:=by
 have hc:∀k,cA (seL l) (i:Int) k=(seR s).getD k (.int 0):=fun k=>cD (by simpa using h)
 simp only[cI,hc];exact⟨rfl,rfl,rfl,rfl,rfl⟩
theorem JT{l:List Co}{i:Nat}{s:Co}(h:l[i]?=some s):cI (coL l) (i:Int) 0=s.n/\cI (coL l) (i:Int) 1=s.k:=by
 have hc:∀k,cA (coL l) (i:Int) k=(coR s).getD k (.int 0):=fun k=>cD (by simpa using h)
 simp only[cI,hc];exact⟨rfl,rfl⟩
theorem DR(n:Nat)(s:Se):lP n s.n s.k s.t s.f s.u=some (decide (SeF s)):=by
 unfold lP ur SeF;grind
def lJ(a b:Se):Prop:=a.n=b.n/\a.k=b.k/\aL a.f b.f<aB a.u b.u
theorem JQ{a b:Se}(ha:SeF a)(hb:SeF b):lJ a b↔fC b a:=by
 obtain⟨_,_,_,_,_,_,_,_,h1,_⟩:=ha;obtain⟨_,_,_,_,_,_,_,_,h2,_⟩:=hb;unfold lJ fC aL aB;constructor
 ·rintro ⟨g1,g2,g3⟩
  refine⟨g1.symm,g2.symm,?_,?_⟩<;>(split at g3<;>split at g3<;>omega)
 ·rintro ⟨g1,g2,g3,g4⟩
  refine⟨g1.symm,g2.symm,?_⟩
  split<;>split<;>omega
theorem sesP_iff{l:List Se}:gU [] l↔∀(i:Nat) s,l[i]?=some s->SeF s/\∀(j:Nat) r,j<i->l[j]?=some r->¬lJ s r:=by
 constructor
 ·intro h i s hs
  obtain⟨h1,_,h3⟩:=kM h i s hs;refine⟨h1,fun j r hj hr hc=>h3 j r hj hr ((JQ h1 (kM h j r hr).1).1 hc)⟩
 ·intro h
  have key:∀(m d:List Se),l=d++m->gU d m:=by
   intro m;induction m with
   |nil=>intro d _;trivial
   |cons x m ih=>
    intro d hd;have hx:l[d.length]?=some x:=by rw[hd];simp
    obtain⟨h1,h2⟩:=h d.length x hx;refine⟨h1,fun r hr hc=>?_,ih (d++[x]) (by rw[hd];simp)⟩
    obtain⟨j,hj⟩:=List.getElem?_of_mem hr;have hjl:=(List.getElem?_eq_some_iff.1 hj).1;have hjr:l[j]?=some r:=by rw[hd,List.getElem?_append_left hjl];exact hj
    exact h2 j r hjl hjr ((JQ h1 (h j r hjr).1).2 hc)
  exact key l [] rfl
theorem MM(n:Nat)(go0 go1:Int->Option Bool)(l:List Se)(i:Nat)(hi:i<l.length)(hl:l.length<=1000):eU n go0 go1 (seL l) (i:Int) (i:Int)=go0 ((i:Int)+1):=by
 unfold eU;have d4:(-9223372036854775808:Int)<=(i:Int)+1:=by omega
 have d5:(i:Int)+1<=(9223372036854775807:Int):=by omega
 rw[decide_eq_false (Int.lt_irrefl _),cond_false,decide_eq_true d4,decide_eq_true d5];simp only[cond_true,Bool.and_self]
theorem OU(n:Nat)(go0 go1:Int->Option Bool){l:List Se}{i j:Nat}{y z:Se}(hy:l[i]?=some y)(hz:l[j]?=some z)(hj:j<i)(hl:l.length<=1000):eU n go0 go1 (seL l) (i:Int) (j:Int)=(bif decide (y.n=z.n)then(bif decide (y.k=z.k)then(bif decide (aL y.f z.f<aB y.u z.u)then some false else go1 ((j:Int)+1))else go1 ((j:Int)+1))else go1 ((j:Int)+1)):=by
 obtain⟨h0,h1,h2,h3,h4⟩:=mH hy;obtain⟨k0,k1,_,k3,k4⟩:=mH hz;have hil:=(List.getElem?_eq_some_iff.1 hy).1;have d3:(j:Int)<((seL l).length:Int):=by rw[List.length_map];omega
 unfold eU;grind
open Classical in
theorem AF(n:Nat)(l:List Se)(hl:l.length<=1000)(hn:1000<n):gx n (seL l)=some (decide (pB l)):=by
 unfold gx qD;by_cases h40:40<l.length
 ·have c1:(40:Int)<(l.length:Int):=by omega
  have c2:¬pB l:=fun h=>by have:=h.1;omega
  simp only[List.length_map,c1,decide_true,cond_true,c2,decide_false]
 ·have c1:¬(40:Int)<(l.length:Int):=by omega
  simp only[List.length_map,c1,decide_false,cond_false];rw[kO (len:=l.length) (f:=fun i=>if ∀s,l[i]?=some s->SeF s/\∀(j:Nat) r,j<i->l[j]?=some r->¬lJ s r then none else some false) (e:=true) ?_ ?_ (by omega)]
  ·rw[AQ (P:=fun i=>∀s,l[i]?=some s->SeF s/\∀(j:Nat) r,j<i->l[j]?=some r->¬lJ s r)]
   congr 1
   rw[Bool.eq_iff_iff,decide_eq_true_iff,decide_eq_true_iff];constructor
   ·intro h
    refine⟨by omega,sesP_iff.2 (fun i s hs=>h i (List.getElem?_eq_some_iff.1 hs).1 s hs)⟩
   ·intro h i _ s hs
    exact sesP_iff.1 h.2 i s hs
  ·intro i go hi
   obtain⟨y,hy⟩:=aV hi;obtain⟨h0,h1,h2,h3,h4⟩:=mH hy;unfold kC;have c1:(i:Int)<(l.length:Int):=by omega
   have c2:(0:Int)<=(i:Int):=by omega
   rw[h0,h1,h2,h3,h4,DR];simp only[List.length_map,c1,c2,decide_true,Option.bind_some];simp only[cond_true];by_cases hf:SeF y
   ·simp only[hf,decide_true,Bool.not_true,cond_false]
    rw[fM (len:=i) (f:=fun j=>if ∀r,l[j]?=some r->¬lJ y r then none else some (some false)) (e:=go ((i:Int)+1)) ?_ ?_ (by omega)]
    ·by_cases hall:∀(j:Nat) r,j<i->l[j]?=some r->¬lJ y r
     ·rw[iB (fun j hj=>if_pos (fun r hr=>hall j r hj hr))]
      rw[if_pos (fun s hs=>by rw[hy]at hs;cases hs;exact⟨hf,hall⟩)]
     ·rw[uI (r:=some false) (fun j _=>by split;exact .inl rfl;exact .inr rfl) ?_]
      ·rw[if_neg (fun h=>hall (h y hy).2)]
      ·refine Classical.byContradiction (fun hno=>hall (fun j r hj hr hc=>hno ⟨j,hj,?_⟩))
       rw[if_neg (fun h=>h r hr hc)]
       simp
    ·intro j go1 hj
     obtain⟨z,hz⟩:=aV (show j<l.length by omega)
     rw[OU n go go1 hy hz hj hl];have e1:(∀r,l[j]?=some r->¬lJ y r)↔¬lJ y z:=⟨fun h=>h z hz,fun h r hr=>by rw[hz]at hr;cases hr;exact h⟩
     by_cases g1:y.n=z.n
     ·by_cases g2:y.k=z.k
      ·by_cases g3:aL y.f z.f<aB y.u z.u
       ·rw[if_neg (fun h=>h z hz ⟨g1,g2,g3⟩),decide_eq_true g1,decide_eq_true g2,decide_eq_true g3];rfl
       ·rw[if_pos (e1.2 (fun h=>g3 h.2.2)),decide_eq_true g1,decide_eq_true g2,decide_eq_false g3];rfl
      ·rw[if_pos (e1.2 (fun h=>g2 h.2.1)),decide_eq_true g1,decide_eq_false g2];rfl
     ·rw[if_pos (e1.2 (fun h=>g1 h.1)),decide_eq_false g1];rfl
    ·intro go1
     exact MM n go go1 l i hi hl
   ·simp only[hf,decide_false,Bool.not_false,cond_true]
    rw[if_neg (fun h=>hf (h y hy).1)]
  ·intro go
   unfold kC;simp only[List.length_map,Int.lt_irrefl,decide_false];simp only[cond_false]
theorem mJ(p:List Int)(x:Int):iL p++[[AV.int x]]=iL (p++[x]):=by simp
theorem Px{l:List Se}{c:List Co}{a t:Int}{i:Nat}(h:cnt l c a t=some i):∃s,l[i]?=some s/\sL l i=s:=by
 have:∃s,l[i]?=some s:=by
  unfold cnt at h;split at h
  ·rename_i j hj;cases h;obtain⟨s,hs,_⟩:=o7 hj;exact⟨s,hs⟩
  ·split at h
   ·obtain⟨s,hs,_⟩:=o7 h;exact⟨s,hs⟩
   ·cases h
 obtain⟨s,hs⟩:=this;exact⟨s,hs,by unfold sL;rw[List.getD_eq_getElem?_getD,hs];rfl⟩
abbrev KI(r:Int×List Int×List Int):fu:=(r.1,iL r.2.1,iL r.2.2,0)
theorem Pd(n:Nat)(go0 go1:Int->Option Bool)(v:Lv)(i j p0 p1 p3 p4 q0 q1 q3 q4:Int)(h0:cI (List.take i.toNat v) j 0=p0)(h1:cI (List.take i.toNat v) j 1=p1)(h3:cI (List.take i.toNat v) j 3=p3)(h4:cI (List.take i.toNat v) j 4=p4)
  (k0:cI v i 0=q0) (k1:cI v i 1=q1) (k3:cI v i 3=q3) (k4:cI v i 4=q4) (hj:0<=j) (hlt:j<((List.take i.toNat v).length:Int)) (hb:j<=1000):
  cK n go0 go1 v i j=bif decide (p0=q0)&&(decide (p1=q1)&&((decide (p3<=q3)&&decide (q3<p4))||(decide (q3<=p3)&&decide (p3<q4))))then some false else go1 (j+1):=by
 have i6:(-9223372036854775808:Int)<=j+1:=by omega
 have i7:j+1<=(9223372036854775807:Int):=by omega
 unfold cK;by_cases a0:p0=q0
 ·by_cases a1:p1=q1
  ·by_cases a2:p3<=q3
   ·by_cases a3:q3<p4<;>by_cases a4:q3<=p3<;>by_cases a5:p3<q4<;>grind
   ·by_cases a4:q3<=p3<;>by_cases a5:p3<q4<;>grind
  ·grind
 ·grind
theorem Ow(n:Nat)(go0 go1:Int->Option Bool)(v:Lv)(i j:Int)(hlt:¬j<((List.take i.toNat v).length:Int))(hi:0<=i)(hb:i<=1000):cK n go0 go1 v i j=go0 (i+1):=by
 have i6:(-9223372036854775808:Int)<=i+1:=by omega
 have i7:i+1<=(9223372036854775807:Int):=by omega
 unfold cK;rw[decide_eq_false hlt,cond_false,decide_eq_true i6,decide_eq_true i7];rfl
theorem OT{r s:Se}(hr:SeF r)(hs:SeF s):fC r s↔(r.n=s.n/\r.k=s.k/\((r.f<=s.f/\s.f<r.u)\/(s.f<=r.f/\r.f<s.u))):=by
 obtain⟨_,_,_,_,_,_,_,_,h1,_⟩:=hr;obtain⟨_,_,_,_,_,_,_,_,h2,_⟩:=hs;unfold fC;constructor
 ·rintro ⟨a,b,c,d⟩;exact⟨a,b,by omega⟩
 ·rintro ⟨a,b,c⟩;exact⟨a,b,by omega,by omega⟩
theorem M3(n:Nat)(go0:Int->Option Bool){l:List Se}{i:Nat}{s:Se}(hs:l[i]?=some s)(hl:l.length<=1000)(hn:1000<n)(hf:∀(j:Nat) r,j<=i->l[j]?=some r->SeF r):
  ab (fun go1 t=>cK n go0 go1 (seL l) (i:Int) t) n (0:Int)=if ∀r∈l.take i,¬fC r s then go0 ((i:Int)+1)else some false:=by
 have hil:=(List.getElem?_eq_some_iff.1 hs).1;have htl:((List.take ((i:Int)).toNat (seL l)).length:Int)=(i:Int):=by
  rw[List.length_take,List.length_map,Int.toNat_natCast];omega
 obtain⟨k0,k1,_,k3,k4⟩:=mH hs;rw[fM (len:=i) (f:=fun j=>(l[j]?).bind fun r=>if fC r s then some (some false)else none) (e:=go0 ((i:Int)+1)) ?_ ?_ (by omega)]
 ·by_cases hall:∀r∈l.take i,¬fC r s
  ·rw[if_pos hall,iB]
   intro j hj;obtain⟨r,hr⟩:=aV (show j<l.length by omega)
   have hm:r∈l.take i:=List.mem_of_getElem? (i:=j) (by rw[List.getElem?_take,if_pos hj];exact hr)
   simp only[hr,Option.bind_some];rw[if_neg (hall r hm)]
  ·rw[if_neg hall,uI (r:=some false)]
   ·intro j hj
    obtain⟨r,hr⟩:=aV (show j<l.length by omega)
    simp only[hr,Option.bind_some];by_cases hc:fC r s
    ·right;rw[if_pos hc]
    ·left;rw[if_neg hc]
   ·refine Classical.byContradiction fun hno=>hall (fun r hr hc=>hno ?_)
    obtain⟨j,hj⟩:=List.getElem?_of_mem hr;rw[List.getElem?_take]at hj;split at hj
    ·rename_i hji
     refine⟨j,hji,?_⟩
     simp only[hj,Option.bind_some];rw[if_pos hc];simp
    ·cases hj
 ·intro j go1 hj
  obtain⟨r,hr⟩:=aV (show j<l.length by omega)
  have hc:∀k,cA (List.take ((i:Int)).toNat (seL l)) (j:Int) k=(seR r).getD k (.int 0):=fun k=>by
   rw[Int.toNat_natCast,<-List.map_take];exact cD (by simp only[Int.toNat_natCast];rw[List.getElem?_take,if_pos hj];exact hr)
  rw[Pd n go0 go1 (seL l) i j r.n r.k r.f r.u s.n s.k s.f s.u (by simp only[cI,hc];rfl) (by simp only[cI,hc];rfl) (by simp only[cI,hc];rfl) (by simp only[cI,hc];rfl) k0 k1 k3 k4 (by omega) (by omega) (by omega)]
  have e:=OT (hf j r (by omega) hr) (hf i s (Nat.le_refl _) hs)
  simp only[hr,Option.bind_some];by_cases hcl:fC r s
  ·rw[if_pos hcl]
   have:=e.1 hcl
   have hb:(decide (r.n=s.n)&&(decide (r.k=s.k)&&((decide (r.f<=s.f)&&decide (s.f<r.u))||(decide (s.f<=r.f)&&decide (r.f<s.u)))))=true:=by
    simp only[Bool.and_eq_true,Bool.or_eq_true,decide_eq_true_eq];exact this
   rw[hb];rfl
  ·rw[if_neg hcl]
   have hb:(decide (r.n=s.n)&&(decide (r.k=s.k)&&((decide (r.f<=s.f)&&decide (s.f<r.u))||(decide (s.f<=r.f)&&decide (r.f<s.u)))))=false:=by
    rw[Bool.eq_false_iff];intro h;simp only[Bool.and_eq_true,Bool.or_eq_true,decide_eq_true_eq]at h;exact hcl (e.2 h)
   rw[hb];rfl
 ·intro go1
  exact Ow n go0 go1 (seL l) i i (by omega) (by omega) (by omega)
theorem xI(s:Se):∀(l d:List Se),gU d (l++[s])↔gU d l/\SeF s/\∀r∈d++l,¬fC r s
 |[],d=>by simp[gU]
 |x::l,d=>by
  have:=xI s l (d++[x])
  simp only[List.cons_append,gU,this,List.append_assoc,List.nil_append];constructor
  ·rintro ⟨h1,h2,h3,h4,h5⟩;exact⟨⟨h1,h2,h3⟩,h4,h5⟩
  ·rintro ⟨⟨h1,h2,h3⟩,h4,h5⟩;exact⟨h1,h2,h3,h4,h5⟩
theorem Ns{l:List Se}{i:Nat}(h:gU [] l):gU [] (l.take i):=by
 refine sesP_iff.2 (fun j s hs=>?_)
 rw[List.getElem?_take]at hs;split at hs
 ·rename_i hji
  obtain⟨h1,h2⟩:=sesP_iff.1 h j s hs;refine⟨h1,fun k r hk hr=>?_⟩
  rw[List.getElem?_take,if_pos (by omega)]at hr
  exact h2 k r hk hr
 ·cases hs
theorem LY(n:Nat)(go0:Int->Option Bool)(v w:Lv)(i p0 p1 p2 p3 p4:Int)(k0:cI v i 0=p0)(k1:cI v i 1=p1)(k2:cI v i 2=p2)(k3:cI v i 3=p3)(k4:cI v i 4=p4)(hi:0<=i)(hlt:i<(v.length:Int))(R:Option Bool)
  (hR:ab (fun go1 s=>cK n go0 go1 v i s) n (0:Int)=R):
  fw n go0 v w i=bif decide (0<=p0)&&(decide (p0<=99999999)&&(decide (0<=p2)&&(decide (p2<=99999999)&&(!decide (p0=p2)&&(decide (1<=p1)&&(decide (p1<=4)&&(decide (0<=p3)&&(decide (p3<p4)&&decide (p4<=10000001)))))))))then R else some false:=by
 unfold fw;rw[decide_eq_true hlt,cond_true,decide_eq_true hi,cond_true,decide_eq_true (show i<=(v.length:Int) by omega),cond_true,k0,k1,k2,k3,k4]
 generalize hQ:(ab (fun go1 s=>cK n go0 go1 v i s) n (0:dD):Option bQ)=Q
 have:Q=R:=by rw[<-hQ];exact hR
 subst this;cases decide (0<=p0)<;>cases decide (p0<=99999999)<;>cases decide (0<=p2)<;>cases decide (p2<=99999999)<;>cases decide (p0=p2)<;>try rfl
 cases decide (1<=p1)<;>cases decide (p1<=4)<;>cases decide (0<=p3)<;>cases decide (p3<p4)<;>cases decide (p4<=10000001)<;>rfl
theorem NQ(s:Se):(decide (0<=s.n)&&(decide (s.n<=99999999)&&(decide (0<=s.t)&&(decide (s.t<=99999999)&&(!decide (s.n=s.t)&&(decide (1<=s.k)&&(decide (s.k<=4)&&(decide (0<=s.f)&&(decide (s.f<s.u)&&decide (s.u<=10000001))))))))))=decide (SeF s):=by
 rw[Bool.eq_iff_iff];simp only[Bool.and_eq_true,Bool.not_eq_true',decide_eq_true_eq,decide_eq_false_iff_not];exact Iff.rfl
theorem PP(n:Nat)(go:Int×Int->Option Bool)(w:Lv)(i last p q:Int)(k0:cI w i 0=p)(k1:cI w i 1=q)(hi:0<=i)(hlt:i<(w.length:Int))(hb:i<=1000):
  dp n go w i last=bif !decide (p<=last)&&(decide (0<=p)&&(decide (p<=99999999)&&(decide (2<=q)&&decide (q<=4))))then go (i+1,p)else some false:=by
 have i6:(-9223372036854775808:Int)<=i+1:=by omega
 have i7:i+1<=(9223372036854775807:Int):=by omega
 unfold dp;rw[decide_eq_true hlt,cond_true,decide_eq_true hi,cond_true,k0,k1,decide_eq_true i6,decide_eq_true i7];cases decide (p<=last)<;>cases decide (0<=p)<;>cases decide (p<=99999999)<;>cases decide (2<=q)<;>cases decide (q<=4)<;>rfl
theorem Nn(n:Nat)(c:List Co)(hc:c.length<=1000):∀(m n' i:Nat) (last:Int),m<n'->i+m=c.length-> -1<=last →
  ab (fun go0 s=>dp n go0 (coL c) s.1 s.2) n' ((i:Int),last)=some (decide (gP last (c.drop i))):=by
 intro m;induction m with
 | zero=>
  intro n' i last hm hi _;cases n' with
  |zero=>omega
  |succ n'=>
   rw[am];have hd:c.drop i=[]:=List.drop_eq_nil_of_le (by omega)
   have hlt:¬(i:Int)<((coL c).length:Int):=by rw[List.length_map];omega
   show dp n _ (coL c) (i:Int) last=_
   unfold dp;rw[decide_eq_false hlt,cond_false,hd,decide_eq_true (show gP last []from trivial)]
 | succ m ih=>
  intro n' i last hm hi hl;cases n' with
  |zero=>omega
  | succ n'=>
   rw[am];obtain⟨x,hx⟩:=aV (show i<c.length by omega)
   obtain⟨k0,k1⟩:=JT hx;have hd:c.drop i=x::c.drop (i+1):=by
    rw[List.drop_eq_getElem_cons (by omega)]
    congr 1
    exact(List.getElem?_eq_some_iff.1 hx).2
   show dp n _ (coL c) (i:Int) last=_
   rw[PP n _ (coL c) i last x.n x.k k0 k1 (by omega) (by rw[List.length_map];omega) (by omega),hd]
   by_cases h:last<x.n/\x.n<=99999999/\2<=x.k/\x.k<=4
   ·obtain⟨h1,h2,h3,h4⟩:=h
    rw[decide_eq_false (show ¬x.n<=last by omega),decide_eq_true (show 0<=x.n by omega),decide_eq_true h2,decide_eq_true h3,decide_eq_true h4]
    simp only[Bool.not_false,Bool.and_self,cond_true];have e:=ih n' (i+1) x.n (by omega) (by omega) (by omega)
    rw[show((i+1:Nat):Int)=(i:Int)+1 by omega]at e
    rw[e];congr 1
    rw[Bool.eq_iff_iff,decide_eq_true_iff,decide_eq_true_iff];exact⟨fun h=>⟨h1,h2,h3,h4,h⟩,fun h=>h.2.2.2.2⟩
   ·have hb:(!decide (x.n<=last)&&(decide (0<=x.n)&&(decide (x.n<=99999999)&&(decide (2<=x.k)&&decide (x.k<=4)))))=false:=by
     rw[Bool.eq_false_iff];intro hh;simp only[Bool.and_eq_true,Bool.not_eq_true',decide_eq_true_eq,decide_eq_false_iff_not]at hh;exact h ⟨by omega,hh.2.2.1,hh.2.2.2.1,hh.2.2.2.2⟩
    rw[hb,cond_false,decide_eq_false (fun hp:gP last (x::c.drop (i+1))=>h ⟨hp.1,hp.2.1,hp.2.2.1,hp.2.2.2.1⟩)]
theorem sH(n:Nat)(l:List Se)(c:List Co)(hl:l.length<=1000)(hc:c.length<=1000)(hn:1000<n):il n (seL l) (coL c)=some (decide (FwV l c)):=by
 unfold il se;have ell:((seL l).length:Int)=(l.length:Int):=by rw[List.length_map]
 by_cases h40:40<l.length
 ·rw[ell,decide_eq_true (show(40:Int)<(l.length:Int) by omega),cond_true,decide_eq_false (fun h:FwV l c=>by have:=h.1.1;omega)]
 ·rw [ell,decide_eq_false (show ¬(40:Int)<(l.length:Int) by omega),cond_false]
  have key:∀(m n' i:Nat),m<n'->i+m=l.length->gU [] (l.take i)->ab (fun go0 s=>fw n go0 (seL l) (coL c) s) n' (i:Int)=some (decide (FwV l c)):=by
   intro m;induction m with
   | zero=>
    intro n' i hm hi hP;cases n' with
    |zero=>omega
    | succ n'=>
     rw[am];have hil:i=l.length:=by omega
     subst hil;rw[List.take_length]at hP;unfold fw;rw[ell,decide_eq_false (Int.lt_irrefl _),cond_false];by_cases h4:c.length<=40
     ·rw[decide_eq_true (show((coL c).length:Int)<=40 by rw[List.length_map];omega),cond_true]
      have e:=Nn n c hc c.length n 0 (-1) (by omega) (by omega) (by omega)
      rw[List.drop_zero]at e;refine e.trans ?_
      congr 1
      rw[Bool.eq_iff_iff,decide_eq_true_iff,decide_eq_true_iff];exact⟨fun h=>⟨⟨by omega,hP⟩,h4,h⟩,fun h=>h.2.2⟩
     ·rw[decide_eq_false (show ¬((coL c).length:Int)<=40 by rw[List.length_map];omega),cond_false,decide_eq_false (fun h:FwV l c=>h4 h.2.1)]
   | succ m ih=>
    intro n' i hm hi hP;cases n' with
    |zero=>omega
    | succ n'=>
     rw[am];obtain⟨s,hs⟩:=aV (show i<l.length by omega)
     obtain⟨k0,k1,k2,k3,k4⟩:=mH hs;have ht:l.take (i+1)=l.take i++[s]:=by rw[List.take_add_one,hs];rfl
     by_cases hf:SeF s
     ·have hall:∀(j:Nat) r,j<=i->l[j]?=some r->SeF r:=fun j r hj hr=>by
       by_cases e:j=i
       ·subst e;rw[hs]at hr;cases hr;exact hf
       ·exact(kM hP j r (by rw[List.getElem?_take,if_pos (by omega)];exact hr)).1
      rw[LY n _ (seL l) (coL c) i s.n s.k s.t s.f s.u k0 k1 k2 k3 k4 (by omega) (by omega) _ (M3 n _ hs hl hn hall),NQ,decide_eq_true hf,cond_true]
      by_cases hcl:∀r∈l.take i,¬fC r s
      ·rw[if_pos hcl]
       have e:=ih n' (i+1) (by omega) (by omega) (by rw[ht,xI];exact⟨hP,hf,by simpa using hcl⟩)
       rw[show((i+1:Nat):Int)=(i:Int)+1 by omega]at e
       exact e
      ·rw[if_neg hcl,decide_eq_false (fun h:FwV l c=>hcl (by
        have:=Ns (i:=i+1) h.1.2
        rw[ht,xI]at this;simpa using this.2.2))]
     ·rw[LY n _ (seL l) (coL c) i s.n s.k s.t s.f s.u k0 k1 k2 k3 k4 (by omega) (by omega) _ rfl,NQ,decide_eq_false hf,cond_false,decide_eq_false (fun h:FwV l c=>hf (kM h.1.2 i s hs).1)]
  exact key l.length n 0 (by omega) (by omega) (by simp[gU])
abbrev sM(t:Int)(l:List Se):Lv:=(lF t l).map r2
abbrev cM(c:List Co):Lv:=(mS c).map r1
def Nz(l:List Se)(c:List Co)(x t v9:Int)(v10:Bool):Prop:=v10=(cnt l c x t).isSome/\∀i,cnt l c x t=some i->v9=(i:Int)
theorem L8{l:List Se}{c:List Co}(h:FwV l c){x t:Int}(hm:du [.int x,.int 1] (sM t l)=true):Nz l c x t (bP [.int x,.int 1] (sM t l)) true:=by
 have e:=Ic h x t;rw[KQ]at hm;obtain⟨a,ha⟩:=Option.isSome_iff_exists.1 hm;rw[ha]at e;dsimp only at e
 rw[NR,ha];cases hc:cnt l c x t with
 |none=>rw[hc]at e;cases e
 |some i=>
  rw[hc]at e;refine⟨by rw[hc];rfl,fun j hj=>?_⟩
  rw[hc]at hj;cases hj
  have:Int.ofNat i=a:=by simpa using e
  exact this.symm
theorem Mj{l:List Se}{c:List Co}(h:FwV l c){x t:Int}(hm:du [.int x,.int 1] (sM t l)=false):Nz l c x t (bP [.int x,.int (bP [.int x] (cM c))] (sM t l)) (du [.int x,.int (bP [.int x] (cM c))] (sM t l)):=by
 have e:=Ic h x t;rw[KQ]at hm;have ha:dv (x,1) (lF t l)=none:=by
  cases hq:dv (x,1) (lF t l)with
  |none=>rfl
  |some a=>rw[hq]at hm;cases hm
 rw[ha]at e;dsimp only at e
 rw[NT,NR,KQ,<-e];cases hc:cnt l c x t with
 |none=>exact⟨by rw[hc];rfl,fun i hi=>by rw[hc]at hi;cases hi⟩
 |some i=>exact⟨by rw[hc];rfl,fun j hj=>by rw[hc]at hj;cases hj;rfl⟩
theorem Pf(n:Nat)(l:List Se)(c:List Co)(t:Int)(hv:FwV l c)(hl:l.length<=1000)(hn:1000<n):∀(m n':Nat) (x v9:Int) (v10:Bool) (p u:List Int),m<n'->u.length+m=7->u.length<=5->p.length=u.length+1->p.getD u.length 0=x->Nz l c x t v9 v10 →
  ab (fun go0 s=>dj n go0 (seL l) (sM t l) (cM c) s.1 s.2.1 s.2.2.1 s.2.2.2.1) n' ((v9,v10,iL p,iL u,x):di)=some (KI (jN l c t m x p u)):=by
 intro m;induction m with
 |zero=>intro n' x v9 v10 p u _ h1 h2;omega
 | succ m ih=>
  intro n' x v9 v10 p u hm h1 h2 h3 hx hg;cases n' with
  |zero=>omega
  | succ n'=>
   rw[am];generalize hgo:(ab (fun go0 s=>dj n go0 (seL l) (sM t l) (cM c) s.1 s.2.1 s.2.2.1 s.2.2.2.1) n':di->Option az)=go
   show dj n go (seL l) (sM t l) (cM c) v9 v10 (iL p) (iL u)=_
   have elu:((iL u).length:Int)=(u.length:Int):=by rw[List.length_map]
   have elp:((iL p).length:Int)=(p.length:Int):=by rw[List.length_map]
   have ell:((seL l).length:Int)=(l.length:Int):=by rw[List.length_map]
   simp only[jN];unfold dj;obtain⟨hg1,hg2⟩:=hg;cases hcn:cnt l c x t with
   | none=>
    rw[hcn]at hg1;have hg1:v10=false:=hg1
    subst hg1;have hcell:cI (iL p) ((p.length:Int)-1) 0=x:=by
     have hc:cA (iL p) ((p.length:Int)-1) 0=([.int x]:List AV).getD 0 (.int 0):=by
      refine cD (f:=fun y=>[AV.int y]) (x:=x) ?_
      rw[show((p.length:Int)-1).toNat=u.length by omega]
      rw[List.getD_eq_getElem?_getD]at hx;cases hq:p[u.length]? with
      |none=>have:=List.getElem?_eq_none_iff.1 hq;omega
      |some y=>rw[hq]at hx;simp at hx;rw[hx]
     simp only[cI,hc];rfl
    rw[cond_false,elp,decide_eq_true (show(-9223372036854775808:Int)<=(p.length:Int)-1 by omega),decide_eq_true (show(p.length:Int)-1<=9223372036854775807 by omega),decide_eq_true (show 0<=(p.length:Int)-1 by omega),decide_eq_true (show(p.length:Int)-1<(p.length:Int) by omega),hcell,NT,Bc hv.2.2]
    show some (aL (e8 c x) 1,iL p,iL u,0)=_
    congr 2
    unfold aL;by_cases hk:0<e8 c x
    ·rw[if_neg (by omega),if_pos hk]
    ·rw[if_pos (by omega),if_neg hk]
   | some i=>
    rw[hcn]at hg1;have hg1:v10=true:=hg1
    subst hg1;have h9:=hg2 i hcn;subst h9;obtain⟨s,hs,hat⟩:=Px hcn;obtain⟨_,_,h2',_,_⟩:=mH hs;have hil:=(List.getElem?_eq_some_iff.1 hs).1;dsimp only;rw[cond_true,elu];by_cases h5:u.length=5
    ·rw[decide_eq_true (show(u.length:Int)=5 by omega),cond_true,if_pos h5]
    ·rw [decide_eq_false (show ¬(u.length:Int)=5 by omega),cond_false,if_neg h5,ell,decide_eq_true (show(0:Int)<=(i:Int) by omega),cond_true,decide_eq_true (show(i:Int)<(l.length:Int) by omega),cond_true,hat]
     have ru:decide (((u.length:Int)+1)*8<=140737488355328)=true:=decide_eq_true (by omega)
     have rp:decide (((p.length:Int)+1)*8<=140737488355328)=true:=decide_eq_true (by omega)
     rw[fM (len:=p.length) (f:=fun j=>(p[j]?).bind fun y=>if s.t=y then some (some (5,iL (p++[s.t]),iL (u++[(i:Int)]),0))else none) (e:=some (KI (jN l c t m s.t (p++[s.t]) (u++[(i:Int)])))) ?_ ?_ (by omega)]
     ·by_cases hp:s.t∈p
      ·rw[if_pos hp,uI (r:=some (5,iL (p++[s.t]),iL (u++[(i:Int)]),0))]
       ·intro j hj
        obtain⟨y,hy⟩:=aV hj;simp only[hy,Option.bind_some];by_cases hq:s.t=y
        ·right;rw[if_pos hq]
        ·left;rw[if_neg hq]
       ·obtain⟨j,hj⟩:=List.getElem?_of_mem hp
        refine⟨j,(List.getElem?_eq_some_iff.1 hj).1,?_⟩
        simp only[hj,Option.bind_some];simp
      ·rw[if_neg hp,iB]
       intro j hj;obtain⟨y,hy⟩:=aV hj;simp only[hy,Option.bind_some];rw[if_neg (fun h:s.t=y=>hp (by rw[h];exact List.mem_of_getElem? hy))]
     ·intro j go1 hj
      obtain⟨y,hy⟩:=aV hj;have hcell:cI (iL p) (j:Int) 0=y:=by
       have hc:cA (iL p) (j:Int) 0=([.int y]:List AV).getD 0 (.int 0):=cD (f:=fun z=>[AV.int z]) (by simpa using hy)
       simp only[cI,hc];rfl
      unfold jb;rw[elp,elu,decide_eq_true (show(j:Int)<(p.length:Int) by omega),cond_true,decide_eq_true (show(0:Int)<=(j:Int) by omega),cond_true,h2',hcell,rp,cond_true,ru,cond_true,decide_eq_true (show(-9223372036854775808:Int)<=(j:Int)+1 by omega),decide_eq_true (show(j:Int)+1<=9223372036854775807 by omega),mJ,mJ]
      simp only[hy,Option.bind_some];by_cases hq:s.t=y
      ·rw[decide_eq_true hq,if_pos hq];rfl
      ·rw[decide_eq_false hq,if_neg hq];rfl
     ·intro go1
      unfold jb;rw[elp,elu,decide_eq_false (Int.lt_irrefl _),cond_false,h2',rp,cond_true,ru,cond_true,mJ,mJ,<-hgo];have hgd:(p++[s.t]).getD (u++[(i:Int)]).length 0=s.t:=by
       rw[List.getD_eq_getElem?_getD,List.getElem?_append_right (by simp;omega)]
       simp[h3]
      cases hmh:du [.int s.t,.int 1] (sM t l)with
      |true=>
       rw[cond_true];exact ih n' s.t _ _ (p++[s.t]) (u++[(i:Int)]) (by omega) (by simp;omega) (by simp;omega) (by simp;omega) hgd (L8 hv hmh)
      |false=>
       rw[cond_false];exact ih n' s.t _ _ (p++[s.t]) (u++[(i:Int)]) (by omega) (by simp;omega) (by simp;omega) (by simp;omega) hgd (Mj hv hmh)
theorem fr8(n:Nat)(l:List Se)(c:List Co)(a t:Int)(hv:FwV l c)(hl:l.length<=1000)(hc:c.length<=1000)(hn:1000<n):∀(m n' i:Nat),m<n'->i+m=c.length →
  ab (fun go0 s=>cF n go0 (seL l) (coL c) a (sM t l) s.1 s.2) n' (((i:Int),cM (c.take i)):dV)=some (KI (oe l c a t)):=by
 intro m;induction m with
 | zero=>
  intro n' i hm hi;cases n' with
  |zero=>omega
  | succ n'=>
   rw[am];have hil:c.take i=c:=List.take_of_length_le (by omega)
   rw[hil];show cF n _ (seL l) (coL c) a (sM t l) (i:Int) (cM c)=_
   unfold cF;rw[decide_eq_false (show ¬(i:Int)<((coL c).length:Int) by rw[List.length_map];omega),cond_false]
   unfold om;cases hmh:du [.int a,.int 1] (sM t l)with
   |true=>
    rw[cond_true];exact Pf n l c t hv hl hn 7 n a _ _ [a] [] (by omega) rfl (by simp) rfl rfl (L8 hv hmh)
   |false=>
    rw[cond_false];exact Pf n l c t hv hl hn 7 n a _ _ [a] [] (by omega) rfl (by simp) rfl rfl (Mj hv hmh)
 | succ m ih=>
  intro n' i hm hi;cases n' with
  |zero=>omega
  |succ n'=>
   rw[am];generalize hgo:(ab (fun go0 s=>cF n go0 (seL l) (coL c) a (sM t l) s.1 s.2) n':dV->Option az)=go
   obtain⟨x,hx⟩:=aV (show i<c.length by omega)
   obtain⟨k0,k1⟩:=JT hx;have ht:c.take (i+1)=c.take i++[x]:=by rw[List.take_add_one,hx];rfl
   show cF n go (seL l) (coL c) a (sM t l) (i:Int) (cM (c.take i))=_
   unfold cF;rw[decide_eq_true (show(i:Int)<((coL c).length:Int) by rw[List.length_map];omega),cond_true,decide_eq_true (show(0:Int)<=(i:Int) by omega),cond_true,decide_eq_true (show(-9223372036854775808:Int)<=(i:Int)+1 by omega),decide_eq_true (show(i:Int)+1<=9223372036854775807 by omega),k0,k1,Qj,<-hgo]
   have e:=ih n' (i+1) (by omega) (by omega)
   rw[ht,show cM (c.take i++[x])=(jO x.n x.k (mS (c.take i))).map r1 by rw[<-BT],show((i+1:Nat):Int)=(i:Int)+1 by omega]at e
   exact e
theorem fr7(n:Nat)(l:List Se)(c:List Co)(a t:Int)(hv:FwV l c)(hl:l.length<=1000)(hc:c.length<=1000)(hn:1000<n):∀(m n' i:Nat),m<n'->i+m=l.length →
  ab (fun go0 s=>cH n go0 (seL l) (coL c) a t s.1 s.2) n' (((i:Int),sM t (l.take i)):fA)=some (KI (oe l c a t)):=by
 intro m;induction m with
 | zero=>
  intro n' i hm hi;cases n' with
  |zero=>omega
  |succ n'=>
   rw[am];have hil:l.take i=l:=List.take_of_length_le (by omega)
   rw[hil];show cH n _ (seL l) (coL c) a t (i:Int) (sM t l)=_
   unfold cH;rw[decide_eq_false (show ¬(i:Int)<((seL l).length:Int) by rw[List.length_map];omega),cond_false]
   exact fr8 n l c a t hv hl hc hn c.length n 0 (by omega) (by omega)
 | succ m ih=>
  intro n' i hm hi;cases n' with
  |zero=>omega
  | succ n'=>
   rw[am];generalize hgo:(ab (fun go0 s=>cH n go0 (seL l) (coL c) a t s.1 s.2) n':fA->Option az)=go
   obtain⟨x,hx⟩:=aV (show i<l.length by omega)
   obtain⟨k0,k1,_,k3,k4⟩:=mH hx;have ht:l.take (i+1)=l.take i++[x]:=by rw[List.take_add_one,hx];rfl
   have htl:(l.take i).length=i:=by rw[List.length_take];omega
   show cH n go (seL l) (coL c) a t (i:Int) (sM t (l.take i))=_
   unfold cH;rw[decide_eq_true (show(i:Int)<((seL l).length:Int) by rw[List.length_map];omega),cond_true,decide_eq_true (show(0:Int)<=(i:Int) by omega),cond_true,decide_eq_true (show(-9223372036854775808:Int)<=(i:Int)+1 by omega),decide_eq_true (show(i:Int)+1<=9223372036854775807 by omega),k0,k1,k3,k4,P4,<-hgo]
   have e:=ih n' (i+1) (by omega) (by omega)
   have es:sM t (l.take i++[x])=(tZ t (lF t (l.take i)) (x,i)).map r2:=by
    show(lF t (l.take i++[x])).map r2=_
    rw[Ei,htl]
   rw[ht,es,show((i+1:Nat):Int)=(i:Int)+1 by omega]at e
   unfold tZ at e;by_cases h1:x.f<=t
   ·by_cases h2:t<x.u
    ·rw[if_pos ⟨h1,h2⟩]at e
     rw[decide_eq_true h1,decide_eq_true h2];exact e
    ·rw[if_neg (fun h=>h2 h.2)]at e
     rw[decide_eq_true h1,decide_eq_false h2];exact e
   ·rw[if_neg (fun h=>h1 h.1)]at e
    rw[decide_eq_false h1];exact e
theorem ot(n:Nat)(l:List Se)(c:List Co)(a t:Int)(hl:l.length<=1000)(hc:c.length<=1000)(hn:1000<n):
  fF n (seL l) (coL c) a t=some ((yr l c a t).1.1,iL (yr l c a t).1.2.1,iL (yr l c a t).1.2.2,(yr l c a t).2):=by
 unfold fF oz;rw[sH n l c hl hc hn,Option.bind_some];unfold ox oC oF oG oJ;by_cases hok:zr l c a t
 ·have e:yr l c a t=(oe l c a t,0):=if_pos hok
  obtain⟨hv,h1,h2,h3,h4⟩:=hok;rw[e,decide_eq_true hv,decide_eq_true h1,cond_true,decide_eq_true h2,decide_eq_true h3,cond_true,decide_eq_true h4];simp only[Bool.not_true,cond_false];exact fr7 n l c a t hv hl hc hn l.length n 0 (by omega) (by omega)
 ·have e:yr l c a t=((0,[],[]),220):=if_neg hok
  rw[e];by_cases hv:FwV l c
  ·by_cases h1:0<=a
   ·by_cases h2:a<=99999999
    ·by_cases h3:0<=t
     ·have h4:¬t<=10000000:=fun h4=>hok ⟨hv,h1,h2,h3,h4⟩
      rw[decide_eq_true hv,decide_eq_true h1,decide_eq_true h2,decide_eq_true h3,decide_eq_false h4];rfl
     ·rw[decide_eq_true hv,decide_eq_true h1,decide_eq_true h2,decide_eq_false h3];rfl
    ·rw[decide_eq_true hv,decide_eq_true h1,decide_eq_false h2];rfl
   ·rw[decide_eq_true hv,decide_eq_false h1];rfl
  ·rw[decide_eq_false hv];rfl
end Go.Proofs.YtbfkkigbedmhgaaGreat
namespace Go.Proofs.YtbfkkigbedmhgaaGreat
open Go Go.Sx Go.Dial.Flo
abbrev edR(e:Ed):List AV:=[.int e.f,.int e.t,.int e.c]
abbrev edL(l:List Ed):Lv:=l.map edR
theorem pi{l:List Ed}{i:Nat}{e:Ed}(h:l[i]?=some e):cI (edL l) (i:Int) 0=e.f/\cI (edL l) (i:Int) 1=e.t/\cI (edL l) (i:Int) 2=e.c:=by
 have hc:∀k,cA (edL l) (i:Int) k=(edR e).getD k (.int 0):=fun k=>cD (by simpa using h)
 simp only[cI,hc];exact⟨rfl,rfl,rfl⟩
theorem Qm(N:Int)(e:Ed):(decide (0<=e.f)&&(decide (e.f<=N-1)&&(decide (0<=e.t)&&(decide (e.t<=N-1)&&(!decide (e.f=e.t)&&(decide (0<=e.c)&&decide (e.c<=10000)))))))=decide (EdV N e):=by
 rw[Bool.eq_iff_iff];simp only[Bool.and_eq_true,Bool.not_eq_true',decide_eq_true_eq,decide_eq_false_iff_not];exact Iff.rfl
theorem P1(n:Nat)(go:Int->Option Bool)(N:Int)(v:Lv)(i p q r:Int)(k0:cI v i 0=p)(k1:cI v i 1=q)(k2:cI v i 2=r)(hN0:0<=N)(hN1:N<=12)(hi:0<=i)(hlt:i<(v.length:Int))(hb:i<=1000):
  lr n go N v i=bif decide (0<=p)&&(decide (p<=N-1)&&(decide (0<=q)&&(decide (q<=N-1)&&(!decide (p=q)&&(decide (0<=r)&&decide (r<=10000))))))then go (i+1)else some false:=by
 have i4:(-9223372036854775808:Int)<=N-1:=by omega
 have i5:N-1<=(9223372036854775807:Int):=by omega
 have i6:(-9223372036854775808:Int)<=i+1:=by omega
 have i7:i+1<=(9223372036854775807:Int):=by omega
 unfold lr;rw[decide_eq_true hlt,cond_true,decide_eq_true hi,cond_true,k0,k1,k2,decide_eq_true i4,decide_eq_true i5,decide_eq_true i6,decide_eq_true i7];cases decide (0<=p)<;>cases decide (p<=N-1)<;>cases decide (0<=q)<;>cases decide (q<=N-1)<;>cases decide (p=q)<;>cases decide (0<=r)<;>cases decide (r<=10000)<;>rfl
theorem OZ{N:Int}{es:List Ed}(h0:0<=N)(h1:N<=12)(h2:es.length<=40):decide (∀i,i<es.length->∀e,es[i]?=some e->EdV N e)=decide (NetV N es):=by
 rw[decide_eq_decide];constructor
 ·intro h
  refine⟨h0,h1,h2,fun e he=>?_⟩
  obtain⟨i,hi⟩:=List.getElem?_of_mem he;exact h i (List.getElem?_eq_some_iff.1 hi).1 e hi
 ·intro h i _ e he
  exact h.2.2.2 e (List.mem_of_getElem? he)
theorem ld(n:Nat)(N:Int)(es:List Ed)(hl:es.length<=1000)(hn:1000<n):gR n N (edL es)=some (decide (NetV N es)):=by
 unfold gR yz;have ell:((edL es).length:Int)=(es.length:Int):=by rw[List.length_map]
 by_cases h0:0<=N
 ·rw [decide_eq_true h0,cond_true]
  by_cases h1:N<=12
  ·rw[decide_eq_true h1,Bool.not_true,cond_false,ell]
   by_cases h2:es.length<=40
   ·rw[decide_eq_false (show ¬(40:Int)<(es.length:Int) by omega),cond_false]
    rw[kO (len:=es.length) (f:=fun i=>if(∀e,es[i]?=some e->EdV N e)then none else some false) (e:=true) ?_ ?_ (by omega)]
    ·rw[AQ,OZ h0 h1 h2]
    ·intro i go hi
     obtain⟨e,he⟩:=aV hi;obtain⟨k0,k1,k2⟩:=pi he;rw[P1 n go N (edL es) i e.f e.t e.c k0 k1 k2 h0 h1 (by omega) (by omega) (by omega),Qm]
     by_cases hv:EdV N e
     ·rw[decide_eq_true hv,if_pos (fun e' he'=>by rw[he]at he';cases he';exact hv)];rfl
     ·rw[decide_eq_false hv,if_neg (fun h=>hv (h e he))];rfl
    ·intro go
     unfold lr;rw[ell,decide_eq_false (Int.lt_irrefl _),cond_false]
   ·rw[decide_eq_true (show(40:Int)<(es.length:Int) by omega),cond_true,decide_eq_false (fun h:NetV N es=>h2 h.2.2.1)]
  ·rw[decide_eq_false h1,Bool.not_false,cond_true,decide_eq_false (fun h:NetV N es=>h1 h.2.1)]
 ·rw[decide_eq_false h0,cond_false,decide_eq_false (fun h:NetV N es=>h0 h.1)]
theorem M5{s:Int}{es:List Ed}{i:Nat}{e:Ed}(h:es[i]?=some e):lvs s (es.drop i)=(if out s e=true then e.c else 0)+lvs s (es.drop (i+1)):=by
 rw[List.drop_eq_getElem_cons (List.getElem?_eq_some_iff.1 h).1,(List.getElem?_eq_some_iff.1 h).2];rfl
theorem Ob{es:List Ed}{s:Int}{α:Type}(hv:∀e∈es,EdV 8 e)(hl:es.length<=40)(step:(Int×Int->Option α)->Int×Int->Option α)(R:Int->α)
  (h1:∀(i:Nat) (acc:Int) e go,es[i]?=some e->0<=acc->acc<=400000->step go ((i:Int),acc)=go ((i:Int)+1,acc+if out s e=true then e.c else 0)) (h2:∀acc go,step go ((es.length:Int),acc)=some (R acc)) (n:Nat) (hn:1000<n):
  ab step n ((0:Int),(0:Int))=some (R (lvs s es)):=by
 have key:∀(m n i:Nat) (acc:Int),m<n->i+m=es.length->0<=acc->acc<=10000*(i:Int)->ab step n ((i:Int),acc)=some (R (acc+lvs s (es.drop i))):=by
  intro m;induction m with
  | zero=>
   intro n i acc hm hi _ _;cases n with
   |zero=>omega
   |succ n=>
    rw[am];have:i=es.length:=by omega
    subst this;rw[h2,List.drop_length];simp only[lvs];rw[Int.add_zero]
  | succ m ih=>
   intro n i acc hm hi h0 hb;cases n with
   |zero=>omega
   |succ n=>
    rw[am];obtain⟨e,he⟩:=aV (show i<es.length by omega)
    obtain⟨_,_,_,_,_,c0,c1⟩:=hv e (List.mem_of_getElem? he);rw[h1 i acc e _ he h0 (by omega),M5 he]
    have:=ih n (i+1) (acc+if out s e=true then e.c else 0) (by omega) (by omega) (by split<;>omega) (by split<;>omega)
    rw[show((i+1:Nat):Int)=(i:Int)+1 by omega]at this
    rw[this,Int.add_assoc]
 have:=key es.length n 0 0 (by omega) (by omega) (by omega) (by omega)
 simpa using this
def Ny(es:List Ed)(a b s:Int):Int×Bool:=if 0<=a/\a<=7/\0<=b/\b<=7/\a≠b/\C4 a b s then(lvs s es,true)else(0,false)
theorem QE:IOp.f .shl 1 (8:Int)=256:=by decide
theorem zm{s c:Int}(h0:0<=s)(h1:s<=255)(c0:0<=c)(c1:c<=7):decide (IOp.f .and (IOp.f .shr s c) 1=1)=has s c/\decide (IOp.f .and (IOp.f .shr s c) 1=0)= !has s c/\decide (Int.tmod (IOp.f .shr s c) 2=1)=has s c:=
 ⟨(yN h0 h1 c0 c1).1,(yN h0 h1 c0 c1).2.1,(yN h0 h1 c0 c1).2.2.1⟩
theorem PG(n:Nat)(go:Int×Int->Option (Int×Bool))(v:Lv)(s i acc p q r:Int)(k0:cI v i 0=p)(k1:cI v i 1=q)(k2:cI v i 2=r)(b1 b2:Bool)(hp:0<=p)(hq:0<=q)(hb1:decide (IOp.f .and (IOp.f .shr s p) 1=1)=b1)(hb2:decide (IOp.f .and (IOp.f .shr s q) 1=0)= !b2)(hi:0<=i)(hlt:i<(v.length:Int))(hb:i<=1000)(h0:0<=acc)(h1:acc<=400000)(hr0:0<=r)(hr1:r<=10000):
  dW n go v s i acc=go (i+1,acc+if(b1&& !b2)=true then r else 0):=by
 have i4:(-9223372036854775808:Int)<=acc+r:=by omega
 have i5:acc+r<=(9223372036854775807:Int):=by omega
 have i6:(-9223372036854775808:Int)<=i+1:=by omega
 have i7:i+1<=(9223372036854775807:Int):=by omega
 unfold dW;rw[decide_eq_true hlt,cond_true,decide_eq_true hi,cond_true,k0,k1,k2,decide_eq_true hp,cond_true,decide_eq_true hq,decide_eq_true i4,decide_eq_true i5,decide_eq_true i6,decide_eq_true i7,hb1,hb2];cases b1<;>cases b2<;>simp
theorem BC(n:Nat)(es:List Ed)(a b s:Int)(hv:NetV 8 es)(hn:1000<n):a8 n 8 (edL es) a b s=some (Ny es a b s):=by
 have hl:=hv.2.2.1;unfold a8 sr;rw[ld n 8 es (by omega) hn,Option.bind_some,decide_eq_true hv,cond_true,QE]
 have e1:((decide ((-9223372036854775808:Int)<=8-1))&&(decide ((8:Int)-1<=9223372036854775807)))=true:=by decide
 have e2:((decide ((-9223372036854775808:Int)<=256-1))&&(decide ((256:Int)-1<=9223372036854775807)))=true:=by decide
 rw[e1,cond_true,e2,decide_eq_true (show(0:Int)<=8 by omega)]
 unfold Ny;by_cases a0:0<=a
 ·rw [decide_eq_true a0,cond_true]
  by_cases a1:a<=7
  ·rw [decide_eq_true (show a<=8-1 by omega),cond_true]
   by_cases b0:0<=b
   ·rw [decide_eq_true b0,cond_true]
    by_cases b1:b<=7
    ·rw [decide_eq_true (show b<=8-1 by omega),cond_true]
     by_cases hab:a=b
     ·rw[decide_eq_true hab,if_neg (fun h=>h.2.2.2.2.1 hab)];rfl
     ·rw [decide_eq_false hab]
      show(bif decide (0<=s)then _ else _)=_
      by_cases s0:0<=s
      ·rw [decide_eq_true s0,cond_true]
       by_cases s1:s<=255
       ·rw [decide_eq_true (show s<=256-1 by omega),Bool.not_true,cond_false,(zm s0 s1 a0 a1).2.1,(zm s0 s1 b0 b1).1]
        cases ha:has s a with
        |false=>rw[if_neg (fun h=>by rw[h.2.2.2.2.2.2.2.1]at ha;cases ha)];rfl
        | true=>
         cases hb:has s b with
         |true=>rw[if_neg (fun h=>by rw[h.2.2.2.2.2.2.2.2]at hb;cases hb)];rfl
         | false=>
          rw[if_pos ⟨a0,a1,b0,b1,hab,s0,s1,ha,hb⟩,Bool.not_true,cond_false,cond_false];refine Ob (s:=s) hv.2.2.2 hl (fun go0 x=>dW n go0 (edL es) s x.1 x.2) (fun x=>(x,true)) ?_ ?_ n hn
          ·intro i acc e go he h0 h1
           obtain⟨k0,k1,k2⟩:=pi he;obtain⟨f0,f1,t0,t1,_,c0,c1⟩:=hv.2.2.2 e (List.mem_of_getElem? he);have hil:=(List.getElem?_eq_some_iff.1 he).1;exact PG n go (edL es) s i acc e.f e.t e.c k0 k1 k2 (has s e.f) (has s e.t) f0 t0 (zm s0 s1 f0 (by omega)).1 (zm s0 s1 t0 (by omega)).2.1 (by omega) (by rw[List.length_map];omega) (by omega) h0 h1 c0 c1
          ·intro acc go
           show dW n go (edL es) s (es.length:Int) acc=_
           unfold dW;rw[decide_eq_false (show ¬(es.length:Int)<((edL es).length:Int) by rw[List.length_map];omega),cond_false]
       ·rw[decide_eq_false (show ¬s<=256-1 by omega),if_neg (fun h=>s1 h.2.2.2.2.2.2.1)];rfl
      ·rw[decide_eq_false s0,if_neg (fun h=>s0 h.2.2.2.2.2.1)];rfl
    ·rw[decide_eq_false (show ¬b<=8-1 by omega),if_neg (fun h=>b1 h.2.2.2.1)];rfl
   ·rw[decide_eq_false b0,if_neg (fun h=>b0 h.2.2.1)];rfl
  ·rw[decide_eq_false (show ¬a<=8-1 by omega),if_neg (fun h=>a1 h.2.1)];rfl
 ·rw[decide_eq_false a0,if_neg (fun h=>a0 h.1)];rfl
theorem kT{α:Type}{p:Prop}[Decidable p]{A B:α}(h:p):(bif decide p then A else B)=A:=by rw[decide_eq_true h];rfl
theorem kF{α:Type}{p:Prop}[Decidable p]{A B:α}(h:¬p):(bif decide p then A else B)=B:=by rw[decide_eq_false h];rfl
theorem kG{α:Type}{x:Int}{A B:α}(h: -9223372036854775808<=x/\x<=9223372036854775807):(bif decide (-9223372036854775808<=x)&&decide (x<=9223372036854775807)then A else B)=A:=by
 rw[decide_eq_true h.1,decide_eq_true h.2];rfl
theorem kNT{α:Type}{p:Prop}[Decidable p]{A B:α}(h:p):(bif !decide p then A else B)=B:=by rw[decide_eq_true h];rfl
theorem kNF{α:Type}{p:Prop}[Decidable p]{A B:α}(h:¬p):(bif !decide p then A else B)=A:=by rw[decide_eq_false h];rfl
theorem ni(y:Int):∀(M:List Int) (k:Nat),List.modify (iL M) k (fun r=>r.set 0 (AV.int y))=iL (M.set k y)
 |[],k=>by cases k<;>rfl
 |x::M,0=>rfl
 |x::M,k+1=>by
  have:=ni y M k
  show[AV.int x]::List.modify (iL M) k _=[AV.int x]::iL (M.set k y)
  rw[this]
theorem cg(M:List Int)(i:Int):cI (iL M) i 0=M.getD i.toNat 0:=by
 unfold cI cA;rw[List.getD_eq_getElem?_getD (l:=M)];cases h:M[i.toNat]? with
 |none=>
  have:(iL M)[i.toNat]?=none:=by simp[h]
  simp[List.getD,this]
 |some x=>
  have:(iL M)[i.toNat]?=some [AV.int x]:=by simp[h]
  simp[List.getD,this]
theorem vz(M:List Int)(a b:Nat):cI (iL M) (((a:Int)*14)+(b:Int)) 0=gM M a b:=by
 rw[cg];unfold gM;congr 1
theorem ua(M:List Int)(a b:Nat)(y:Int):List.modify (iL M) (((a:Int)*14)+(b:Int)).toNat (fun r=>r.set 0 (AV.int y))=iL (lY M a b y):=by
 rw[ni];unfold lY;congr 2
theorem aq(M:List Int):((iL M).length:Int)=(M.length:Int):=by rw[List.length_map]
theorem gC(M:List Ed):((edL M).length:Int)=(M.length:Int):=by rw[List.length_map]
def lp:List Int->List Ed->List Int
 |_,[]=>[]
 |U,e::es=>
  let k:=aB e.c (gM U e.f.toNat e.t.toNat)
  k::lp (lY U e.f.toNat e.t.toNat (gM U e.f.toNat e.t.toNat-k)) es
def BdM(U:List Int):Prop:=U.length=196/\∀c d,c<14->d<14->0<=gM U c d/\gM U c d<=800000
theorem m28(n:Nat)(go1:aW->Option aa)(es:List Ed)(v12:Int)(hv:NetV 8 es):∀(m n' i:Nat) (out U:List Int),m<n'->i+m=es.length->out.length=i->BdM U →
  ab (fun go0 s=>f7 n go1 go0 (edL es) v12 s.1 s.2.1 s.2.2) n' ((iL out,(i:Int),iL U):aK)=some (iL (out++lp U (es.drop i)),v12,0):=by
 have h40:=hv.2.2.1;intro m;induction m with
 | zero=>
  intro n' i out U hm hi ho hU;cases n' with
  |zero=>omega
  |succ n'=>
   rw[am];show f7 n go1 _ (edL es) v12 (iL out) (i:Int) (iL U)=_
   unfold f7;rw[kF (show ¬(i:Int)<((edL es).length:Int) by rw[gC];omega)]
   have:es.drop i=[]:=List.drop_eq_nil_of_le (by omega)
   rw[this];simp only[lp,List.append_nil]
 | succ m ih=>
  intro n' i out U hm hi ho hU;cases n' with
  |zero=>omega
  | succ n'=>
   rw[am];generalize hgo:(ab (fun go0 s=>f7 n go1 go0 (edL es) v12 s.1 s.2.1 s.2.2) n':aK->Option aa)=go
   obtain⟨e,he⟩:=aV (show i<es.length by omega)
   obtain⟨k0,k1,k2⟩:=pi he;obtain⟨f0,f1,t0,t1,_,c0,c1⟩:=hv.2.2.2 e (List.mem_of_getElem? he);have ef:e.f=((e.f.toNat:Nat):Int):=by omega
   have et:e.t=((e.t.toNat:Nat):Int):=by omega
   have hg:=hU.2 e.f.toNat e.t.toNat (by omega) (by omega)
   show f7 n go1 go (edL es) v12 (iL out) (i:Int) (iL U)=_
   unfold f7;have hmin:0<=aB e.c (gM U e.f.toNat e.t.toNat)/\aB e.c (gM U e.f.toNat e.t.toNat)<=gM U e.f.toNat e.t.toNat:=by unfold aB;split<;>omega
   have hgg:cI (iL U) ((e.f*14)+e.t) 0=gM U e.f.toNat e.t.toNat:=by rw[<-vz,<-ef,<-et]
   rw[k0,k1,k2,hgg];rw[kT (show(i:Int)<((edL es).length:Int) by rw[gC];omega),kT (show(0:Int)<=(i:Int) by omega),kT f0,kT (show e.f<14 by omega),kT (show e.f*14<((iL U).length:Int) by rw[aq,hU.1];omega),kT t0,kT (show e.t<14 by omega),kT (show e.f*14+e.t<((iL U).length:Int) by rw[aq,hU.1];omega),
    kG (by omega),kT (show((((iL out).length:Int)+1)*8)<=140737488355328 by rw[aq];omega),kG (by omega)]
   rw[show(e.f*14+e.t).toNat=(((e.f.toNat:Nat):Int)*14+((e.t.toNat:Nat):Int)).toNat by omega,ua,mJ,<-hgo]
   have hd:es.drop i=e::es.drop (i+1):=by
    rw[List.drop_eq_getElem_cons (by omega)]
    congr 1
    exact(List.getElem?_eq_some_iff.1 he).2
   have:=ih n' (i+1) (out++[aB e.c (gM U e.f.toNat e.t.toNat)]) (lY U e.f.toNat e.t.toNat (gM U e.f.toNat e.t.toNat-aB e.c (gM U e.f.toNat e.t.toNat))) (by omega) (by omega) (by simp[ho]) ⟨by rw[gI];exact hU.1,fun c d hc hd=>by
    rw[qC hU.1 (by omega) (by omega) hd]
    have:=hU.2 c d hc hd
    split<;>omega⟩
   rw[show((i+1:Nat):Int)=(i:Int)+1 by omega]at this
   rw[this,hd];simp only[lp,List.append_assoc,List.singleton_append]
def d9(M0 M:List Int):List Int:=List.zipWith (fun x y=>aL (x-y) 0) M0 M
def iJ(M0 M:List Int)(i:Nat):List Int:=(d9 M0 M).take i++M0.drop i
theorem pp{M0 M:List Int}(h0:M0.length=196)(h:M.length=196):(d9 M0 M).length=196:=by
 unfold d9;rw[List.length_zipWith,h0,h];rfl
theorem N6{M0 M:List Int}(h0:M0.length=196)(h:M.length=196){i:Nat}(hi:i<=196):(iJ M0 M i).length=196:=by
 unfold iJ;rw[List.length_append,List.length_take,List.length_drop,pp h0 h,h0];omega
theorem Oa{M0 M:List Int}(h0:M0.length=196)(h:M.length=196){i:Nat}(hi:i<196):(iJ M0 M i).getD i 0=M0.getD i 0:=by
 unfold iJ;rw[List.getD_eq_getElem?_getD,List.getD_eq_getElem?_getD,List.getElem?_append_right (by rw[List.length_take,pp h0 h];omega),List.length_take,pp h0 h,List.getElem?_drop]
 congr 2
 omega
theorem Dn{M0 M:List Int}(h0:M0.length=196)(h:M.length=196){i:Nat}(hi:i<196):(d9 M0 M).getD i 0=aL (M0.getD i 0-M.getD i 0) 0:=by
 unfold d9;rw[List.getD_eq_getElem?_getD,List.getElem?_zipWith,List.getD_eq_getElem?_getD,List.getD_eq_getElem?_getD,List.getElem?_eq_getElem (by omega),List.getElem?_eq_getElem (by omega)]
 rfl
theorem Og{M0 M:List Int}(h0:M0.length=196)(h:M.length=196){i:Nat}(hi:i<196):(iJ M0 M i).set i (aL (M0.getD i 0-M.getD i 0) 0)=iJ M0 M (i+1):=by
 rw[<-Dn h0 h hi];have hd:=pp h0 h;unfold iJ;have e1:M0.drop i=M0[i]::M0.drop (i+1):=List.drop_eq_getElem_cons (by omega)
 have e2:(d9 M0 M).take (i+1)=(d9 M0 M).take i++[(d9 M0 M)[i]]:=by rw[List.take_add_one,List.getElem?_eq_getElem (by omega)];rfl
 have e3:(d9 M0 M).getD i 0=(d9 M0 M)[i]:=by rw[List.getD_eq_getElem?_getD,List.getElem?_eq_getElem (by omega)];rfl
 rw[e3,e2,e1,List.set_append_right _ _ (by rw[List.length_take];omega),List.length_take,show i-min i (d9 M0 M).length=0 by omega,List.append_assoc]
 rfl
theorem Oc{M0 M:List Int}(h0:M0.length=196)(h:M.length=196):iJ M0 M 196=d9 M0 M:=by
 unfold iJ;rw[List.take_of_length_le (by rw[pp h0 h];omega),List.drop_eq_nil_of_le (by omega),List.append_nil]
theorem m27(n:Nat)(go0:ay->Option aa)(M0 M:List Int)(k:Nat)(hk:k<14)(h0:BdM M0)(h1:BdM M):∀(m n' j:Nat),m<n'->j+m=14 →
  ab (fun go1 s=>fP n go0 go1 (iL M) (k:Int) s.1 s.2) n' (((j:Int),iL (iJ M0 M (k*14+j))):ay)=go0 ((k:Int)+1,iL (iJ M0 M ((k+1)*14))):=by
 intro m;induction m with
 | zero=>
  intro n' j hm hj;cases n' with
  |zero=>omega
  |succ n'=>
   rw[am];show fP n go0 _ (iL M) (k:Int) (j:Int) _=_
   unfold fP;rw[kF (show ¬(j:Int)<14 by omega),kG (by omega),show k*14+j=(k+1)*14 by omega]
 | succ m ih=>
  intro n' j hm hj;cases n' with
  |zero=>omega
  | succ n'=>
   rw[am];generalize hgo:(ab (fun go1 s=>fP n go0 go1 (iL M) (k:Int) s.1 s.2) n':ay->Option aa)=go
   show fP n go0 go (iL M) (k:Int) (j:Int) _=_
   unfold fP;have hml:(iJ M0 M (k*14+j)).length=196:=N6 h0.1 h1.1 (by omega)
   have e1:cI (iL (iJ M0 M (k*14+j))) ((k:Int)*14+(j:Int)) 0=gM M0 k j:=by
    rw[vz];exact Oa h0.1 h1.1 (by omega)
   have b0:=h0.2 k j hk (by omega)
   have b1:=h1.2 k j hk (by omega)
   rw[kT (show(j:Int)<14 by omega),kT (show(0:Int)<=(k:Int) by omega),kT (show(k:Int)*14<((iL (iJ M0 M (k*14+j))).length:Int) by rw[aq,hml];omega),kT (show(0:Int)<=(j:Int) by omega),kT (show(k:Int)*14+(j:Int)<((iL (iJ M0 M (k*14+j))).length:Int) by rw[aq,hml];omega),
    kT (show(k:Int)*14<((iL M).length:Int) by rw[aq,h1.1];omega),kT (show(k:Int)*14+(j:Int)<((iL M).length:Int) by rw[aq,h1.1];omega),e1,vz,kG (by omega),kG (by omega),ua,<-hgo]
   have e2:lY (iJ M0 M (k*14+j)) k j (aL (gM M0 k j-gM M k j) 0)=iJ M0 M (k*14+(j+1)):=Og h0.1 h1.1 (by omega)
   rw[e2];have:=ih n' (j+1) (by omega) (by omega)
   rw[show((j+1:Nat):Int)=(j:Int)+1 by omega]at this
   exact this
theorem Lq{M0 M:List Int}(h0:BdM M0)(h1:BdM M):BdM (d9 M0 M):=by
 refine⟨pp h0.1 h1.1,fun c d hc hd=>?_⟩
 have b0:=h0.2 c d hc hd;have b1:=h1.2 c d hc hd;have:gM (d9 M0 M) c d=aL (gM M0 c d-gM M c d) 0:=Dn h0.1 h1.1 (by omega)
 rw[this];unfold aL;split<;>omega
theorem m26(n:Nat)(go1:aW->Option aa)(es:List Ed)(M0 M:List Int)(v12:Int)(hv:NetV 8 es)(h0:BdM M0)(h1:BdM M)(hn:1000<n):∀(m n' k:Nat),m<n'->k+m=14 →
  ab (fun go0 s=>fZ n go1 go0 (edL es) (iL M) v12 s.1 s.2) n' (((k:Int),iL (iJ M0 M (k*14))):ay)=some (iL (lp (d9 M0 M) es),v12,0):=by
 have h40:=hv.2.2.1;intro m;induction m with
 | zero=>
  intro n' k hm hk;cases n' with
  |zero=>omega
  |succ n'=>
   rw[am];show fZ n go1 _ (edL es) (iL M) v12 (k:Int) _=_
   unfold fZ;have hk14:k=14:=by omega
   subst hk14;rw[kF (show ¬((14:Nat):Int)<14 by omega),Oc h0.1 h1.1]
   exact m28 n go1 es v12 hv es.length n 0 [] (d9 M0 M) (by omega) (by omega) rfl (Lq h0 h1)
 | succ m ih=>
  intro n' k hm hk;cases n' with
  |zero=>omega
  |succ n'=>
   rw[am];generalize hgo:(ab (fun go0 s=>fZ n go1 go0 (edL es) (iL M) v12 s.1 s.2) n':ay->Option aa)=go
   show fZ n go1 go (edL es) (iL M) v12 (k:Int) _=_
   unfold fZ;rw[kT (show(k:Int)<14 by omega)]
   have e:=m27 n go M0 M k (by omega) h0 h1 14 n 0 (by omega) (by omega)
   refine e.trans ?_
   have:=ih n' (k+1) (by omega) (by omega)
   rw[show((k+1:Nat):Int)=(k:Int)+1 by omega]at this
   rw[<-hgo];exact this
theorem J3:List.replicate ((196:Int)).toNat [(AV.int 0)]=iL (List.replicate 196 0):=by
 show _=(List.replicate 196 (0:Int)).map _
 rw[List.map_replicate];rfl
theorem B4{es:List Ed}(hv:NetV 8 es):BdM (bw es):=by
 refine⟨DI es,fun c d hc hd=>?_⟩
 rw[jo (by decide) hv.2.2.2 c d hd]
 have:=nk hv.2.2.2 c d
 have:=hv.2.2.1
 omega
theorem Ew{es:List Ed}(hv:NetV 8 es)(i:Nat):NetV 8 (es.take i):=
 ⟨hv.1,hv.2.1,by rw[List.length_take];have:=hv.2.2.1;omega,fun e he=>hv.2.2.2 e (List.mem_of_mem_take he)⟩
theorem m25(n:Nat)(go1:aW->Option aa)(es:List Ed)(M:List Int)(v12:Int)(hv:NetV 8 es)(h1:BdM M)(hn:1000<n):∀(m n' i:Nat),m<n'->i+m=es.length →
  ab (fun go0 s=>fW n go1 go0 (edL es) (iL M) v12 s.1 s.2) n' (((i:Int),iL (bw (es.take i))):ay)=some (iL (lp (d9 (bw es) M) es),v12,0):=by
 have h40:=hv.2.2.1;intro m;induction m with
 | zero=>
  intro n' i hm hi;cases n' with
  |zero=>omega
  |succ n'=>
   rw[am];show fW n go1 _ (edL es) (iL M) v12 (i:Int) _=_
   unfold fW;rw[kF (show ¬(i:Int)<((edL es).length:Int) by rw[gC];omega),List.take_of_length_le (by omega)]
   exact m26 n go1 es (bw es) M v12 hv (B4 hv) h1 hn 14 n 0 (by omega) (by omega)
 | succ m ih=>
  intro n' i hm hi;cases n' with
  |zero=>omega
  | succ n'=>
   rw[am];generalize hgo:(ab (fun go0 s=>fW n go1 go0 (edL es) (iL M) v12 s.1 s.2) n':ay->Option aa)=go
   obtain⟨e,he⟩:=aV (show i<es.length by omega)
   obtain⟨k0,k1,k2⟩:=pi he;obtain⟨f0,f1,t0,t1,_,c0,c1⟩:=hv.2.2.2 e (List.mem_of_getElem? he);have hb:=B4 (Ew hv i);have hg:=hb.2 e.f.toNat e.t.toNat (by omega) (by omega)
   have ht:es.take (i+1)=es.take i++[e]:=by rw[List.take_add_one,he];rfl
   show fW n go1 go (edL es) (iL M) v12 (i:Int) _=_
   unfold fW;have hgg:cI (iL (bw (es.take i))) ((e.f*14)+e.t) 0=gM (bw (es.take i)) e.f.toNat e.t.toNat:=by rw[<-vz];congr 1;omega
   rw[k0,k1,k2,hgg];rw[kT (show(i:Int)<((edL es).length:Int) by rw[gC];omega),kT (show(0:Int)<=(i:Int) by omega),kT f0,kT (show e.f<14 by omega),kT (show e.f*14<((iL (bw (es.take i))).length:Int) by rw[aq,hb.1];omega),kT t0,kT (show e.t<14 by omega),kT (show e.f*14+e.t<((iL (bw (es.take i))).length:Int) by rw[aq,hb.1];omega),
    kG (by omega),kG (by omega)]
   rw[show(e.f*14+e.t).toNat=(((e.f.toNat:Nat):Int)*14+((e.t.toNat:Nat):Int)).toNat by omega,ua,<-hgo]
   have:=ih n' (i+1) (by omega) (by omega)
   rw[show((i+1:Nat):Int)=(i:Int)+1 by omega,ht,H9]at this
   exact this
def fU:Nat->List Int->Int
 |0,_=>0
 |k+1,L=>if 0<L.getD k 0 then my (fU k L) k else fU k L
theorem C5{L:List Int}(h:∀x,8<=x->x<14->L.getD x 0=0):∀k:Nat,k<=14->0<=fU k L/\fU k L<=255/\∀c:Nat,has (fU k L) (c:Int)=decide (c<k/\0<L.getD c 0)
 |0,_=>by
  refine⟨by simp[fU],by simp[fU],fun c=>?_⟩
  rw[decide_eq_false (by omega)]
  simp[fU,has]
 | k+1,hk=>by
  obtain⟨h0,h1,h2⟩:=C5 h k (by omega)
  unfold fU;by_cases hp:0<L.getD k 0
  ·have hk8:k<8:=by
    by_cases hk8:k<8
    ·exact hk8
    ·have:=h k (by omega) (by omega);omega
   rw[if_pos hp];obtain⟨b0,b1⟩:=OL (c:=(k:Int)) h0 h1 (by omega) (by omega)
   refine⟨b0,b1,fun c=>?_⟩
   rw[OV (by omega) (by omega),h2 c]
   by_cases e:c=k
   ·subst e
    rw[decide_eq_true (show(c:Int)=(c:Int)from rfl),Bool.or_true,decide_eq_true ⟨by omega,hp⟩]
   ·rw[decide_eq_false (show ¬(c:Int)=(k:Int) by omega),Bool.or_false,decide_eq_decide]
    omega
  ·rw[if_neg hp]
   refine⟨h0,h1,fun c=>?_⟩
   rw[h2 c,decide_eq_decide];by_cases e:c=k
   ·subst e;omega
   ·omega
theorem m24(n:Nat)(go0:aG->Option aa)(es:List Ed)(M L:List Int)(hv:NetV 8 es)(h1:BdM M)(hL:L.length=14)(hz:∀x,8<=x->x<14->L.getD x 0=0)(hn:1000<n):∀(m n' i:Nat),m<n'->i+m=14 →
  ab (fun go1 s=>ey n go0 go1 (edL es) (iL M) (iL L) s.1 s.2) n' ((fU i L,(i:Int)):aW)=some (iL (lp (d9 (bw es) M) es),fU 14 L,0):=by
 intro m;induction m with
 | zero=>
  intro n' i hm hi;cases n' with
  |zero=>omega
  |succ n'=>
   rw[am];generalize hgo:(ab (fun go1 s=>ey n go0 go1 (edL es) (iL M) (iL L) s.1 s.2) n':aW->Option aa)=go
   show ey n go0 go (edL es) (iL M) (iL L) (fU i L) (i:Int)=_
   unfold ey;have hi14:i=14:=by omega
   subst hi14;rw[kF (show ¬((14:Nat):Int)<14 by omega),J3]
   exact m25 n go es M (fU 14 L) hv h1 hn es.length n 0 (by have:=hv.2.2.1;omega) (by omega)
 | succ m ih=>
  intro n' i hm hi;cases n' with
  |zero=>omega
  | succ n'=>
   rw[am];generalize hgo:(ab (fun go1 s=>ey n go0 go1 (edL es) (iL M) (iL L) s.1 s.2) n':aW->Option aa)=go
   show ey n go0 go (edL es) (iL M) (iL L) (fU i L) (i:Int)=_
   unfold ey;have hc:cI (iL L) (i:Int) 0=L.getD i 0:=by rw[cg,Int.toNat_natCast]
   have hs:fU (i+1) L=if 0<L.getD i 0 then my (fU i L) i else fU i L:=rfl
   have:=ih n' (i+1) (by omega) (by omega)
   rw[show((i+1:Nat):Int)=(i:Int)+1 by omega,hgo]at this
   rw[kT (show(i:Int)<14 by omega),kT (show(0:Int)<=(i:Int) by omega),hc]
   by_cases hp:0<L.getD i 0
   ·have hk8:i<8:=by
     by_cases hk8:i<8
     ·exact hk8
     ·have:=hz i (by omega) (by omega);omega
    rw[if_pos hp]at hs;obtain⟨b0,b1,_⟩:=C5 hz i (by omega)
    rw[kT hp,kG (by omega),(yN b0 b1 (show(0:Int)<=(i:Int) by omega) (by omega)).2.2.2,<-hs]
    exact this
   ·rw[if_neg hp]at hs
    rw[kF hp,kG (by omega),<-hs]
    exact this
def Bd2(M:List Int):Prop:=M.length=196/\∀c d,c<14->d<14->0<=gM M c d/\gM M c d+gM M d c<=800000
theorem K0{M:List Int}(h:Bd2 M):BdM M:=⟨h.1,fun c d hc hd=>by have h1:=h.2 c d hc hd;have h2:=h.2 d c hd hc;omega⟩
theorem M7{M:List Int}{room:Int}{p x:Nat}(h:Bd2 M)(h0:0<=room)(h1:room<=gM M p x)(hp:p<14)(hx:x<14)(hne:x≠p):Bd2 (kv room M p x):=by
 refine⟨by unfold kv;rw[gI,gI];exact h.1,fun c d hc hd=>?_⟩
 have hcd:=h.2 c d hc hd;have hdc:=h.2 d c hd hc;have hxp:=h.2 x p hx hp;have hpx:=h.2 p x hp hx;rw[ff h.1 hp hx hd hne,ff h.1 hp hx hc hne];by_cases e1:c=x/\d=p
 ·obtain⟨rfl,rfl⟩:=e1
  rw[if_pos ⟨rfl,rfl⟩,if_neg (fun e=>hne e.1.symm),if_pos ⟨rfl,rfl⟩]
  omega
 ·by_cases e2:c=p/\d=x
  ·obtain⟨rfl,rfl⟩:=e2
   rw[if_neg (fun e=>hne e.1.symm),if_pos ⟨rfl,rfl⟩,if_pos ⟨rfl,rfl⟩]
   omega
  ·rw[if_neg e1,if_neg e2,if_neg (fun e=>e2 ⟨e.2,e.1⟩),if_neg (fun e=>e1 ⟨e.2,e.1⟩)]
   omega
theorem m21(n:Nat)(go0:aG->Option aa)(go2:aK->Option aa)(M L:List Int)(a b:Nat)(value v8 v13:Int)(v10 v14:Lv)(ha:a<14)(hM:M.length=196)
  (hL:List.modify v14 (v13).toNat (fun r=>r.set 0 (AV.int ((cI v10 0 0)+1)))=iL L) (h14:(v14.length:Int)=14):∀(ps:List Nat) (x:Nat) (r:Int) (n':Nat),Dial.Flo.Way M L a x ps->ps.length<n' →
  ab (fun go1 s=>fT n go0 go2 go1 (a:Int) (b:Int) value v8 (iL M) v10 v13 v14 s.1 s.2) n' (((x:Int),r):aW)=ab (fun go1 s=>ez n go0 go2 go1 (a:Int) value v8 v10 v13 v14 (fo M x ps r) s.1 s.2) n (((b:Int),iL M):ay):=by
 intro ps;induction ps with
 | nil=>
  intro x r n' hw hl;cases hw
  cases n' with
  |zero=>omega
  |succ n'=>
   rw[am];show fT n go0 go2 _ (a:Int) (b:Int) value v8 (iL M) v10 v13 v14 (a:Int) r=_
   unfold fT;rw[kNT rfl];rfl
 | cons p ps ih=>
  intro x r n' hw hl;cases hw with
  |step _ _ _ h hLx hMx hx hn hax=>
  cases n' with
  |zero=>omega
  | succ n'=>
   rw[am];generalize hgo:(ab (fun go1 s=>fT n go0 go2 go1 (a:Int) (b:Int) value v8 (iL M) v10 v13 v14 s.1 s.2) n':aW->Option aa)=go
   show fT n go0 go2 go (a:Int) (b:Int) value v8 (iL M) v10 v13 v14 (x:Int) r=_
   have hp:p<14:=nR ha h p (List.mem_cons_self ..)
   have hc:cI (iL L) (x:Int) 0=(p:Int)+1:=by rw[cg,Int.toNat_natCast];exact hLx
   unfold fT;rw[hL,hc,kNF (show ¬(x:Int)=(a:Int) by omega),kT (show(0:Int)<=(x:Int) by omega),kT (show(x:Int)<14 by omega),h14,kT (show(x:Int)<14 by omega),kG (by omega),
    show(p:Int)+1-1=(p:Int) by omega,kT (show(0:Int)<=(p:Int) by omega),kT (show(p:Int)<14 by omega),kT (show(p:Int)*14<((iL M).length:Int) by rw[aq,hM];omega),kT (show(p:Int)*14+(x:Int)<((iL M).length:Int) by rw[aq,hM];omega),vz,<-hgo]
   exact ih p (aB r (gM M p x)) n' h (by simp only[List.length_cons]at hl;omega)
theorem m22(n:Nat)(go0:aG->Option aa)(go2:aK->Option aa)(N L:List Int)(a:Nat)(value v8 v13 room:Int)(v10 v14:Lv)(ha:a<14)(h0:0<=room)(hvl:0<=value/\value+room<=9223372036854775807)
  (hL:List.modify v14 (v13).toNat (fun r=>r.set 0 (AV.int ((cI v10 0 0)+1)))=iL L) (h14:(v14.length:Int)=14):∀(ps:List Nat) (x:Nat) (r:Int) (M:List Int) (n':Nat),Dial.Flo.Way N L a x ps->ps.length<n'->0<r->room<=fo N x ps r->Bd2 M->(∀c∈x::ps,∀d∈x::ps,gM M c d=gM N c d) →
  ab (fun go1 s=>ez n go0 go2 go1 (a:Int) value v8 v10 v13 v14 room s.1 s.2) n' (((x:Int),iL M):ay)=go0 (value+room,v8,iL (pc room x ps M)):=by
 intro ps;induction ps with
 | nil=>
  intro x r M n' hw hl hr hle hM hag;cases hw
  cases n' with
  |zero=>omega
  |succ n'=>
   rw[am];show ez n go0 go2 _ (a:Int) value v8 v10 v13 v14 room (a:Int) (iL M)=_
   unfold ez;rw[kNT rfl,kG (by omega)]
   rfl
 | cons p ps ih=>
  intro x r M n' hw hl hr hle hM hag;cases hw with
  |step _ _ _ h hLx hMx hx hn hax=>
  cases n' with
  |zero=>omega
  | succ n'=>
   rw[am];generalize hgo:(ab (fun go1 s=>ez n go0 go2 go1 (a:Int) value v8 v10 v13 v14 room s.1 s.2) n':ay->Option aa)=go
   show ez n go0 go2 go (a:Int) value v8 v10 v13 v14 room (x:Int) (iL M)=_
   have hp:p<14:=nR ha h p (List.mem_cons_self ..)
   have hne:x≠p:=fun e=>hn (by rw[e];exact List.mem_cons_self ..)
   have hc:cI (iL L) (x:Int) 0=(p:Int)+1:=by rw[cg,Int.toNat_natCast];exact hLx
   simp only[fo]at hle;obtain⟨i1,i2,i3⟩:=CQ r (gM N p x);have hri:=i3 hr hMx;obtain⟨g1,g2⟩:=zb h _ hri;have hroom:room<=gM M p x:=by
    rw[hag p (by simp) x (by simp)];omega
   have hpx:=hM.2 p x hp hx;have hxp:=hM.2 x p hx hp;have e1:cI (iL (lY M p x (gM M p x-room))) ((x:Int)*14+(p:Int)) 0=gM M x p:=by
    rw[vz,qC hM.1 hp hx hp,if_neg (fun e=>hne e.1)]
   unfold ez;rw[hL,hc,kNF (show ¬(x:Int)=(a:Int) by omega),kT (show(0:Int)<=(x:Int) by omega),kT (show(x:Int)<14 by omega),h14,kT (show(x:Int)<14 by omega),kG (by omega),
    show(p:Int)+1-1=(p:Int) by omega,kT (show(0:Int)<=(p:Int) by omega),kT (show(p:Int)<14 by omega),kT (show(p:Int)*14<((iL M).length:Int) by rw[aq,hM.1];omega),kT (show(p:Int)*14+(x:Int)<((iL M).length:Int) by rw[aq,hM.1];omega),vz,kG (by omega),
    kT (show(x:Int)*14<((iL M).length:Int) by rw[aq,hM.1];omega),kT (show(x:Int)*14+(p:Int)<((iL M).length:Int) by rw[aq,hM.1];omega),ua,e1,kG (by omega),ua,<-hgo]
   have hag':∀c∈p::ps,∀d∈p::ps,gM (kv room M p x) c d=gM N c d:=fun c hc' d hd'=>by
    have hdl:=nR ha h d hd';rw[ff hM.1 hp hx hdl hne,if_neg (fun e=>hn (by rw[<-e.1];exact hc')),if_neg (fun e=>hn (by rw[<-e.2];exact hd'))]
    exact hag c (List.mem_cons_of_mem _ hc') d (List.mem_cons_of_mem _ hd')
   exact ih p (aB r (gM N p x)) (kv room M p x) n' h (by simp only[List.length_cons]at hl;omega) hri hle (M7 hM h0 hroom hp hx hne) hag'
abbrev nL(q:List Nat):Lv:=q.map (fun x:Nat=>[AV.int (x:Int)])
theorem N2(u:Nat)(q:List Nat):cI (nL (u::q)) 0 0=(u:Int):=rfl
theorem xN(q:List Nat):((nL q).length:Int)=(q.length:Int):=by rw[List.length_map]
theorem N5(q:List Nat)(k:Nat):nL q++[[AV.int (k:Int)]]=nL (q++[k]):=by show _=List.map _ _;rw[List.map_append];rfl
abbrev uL:Int:=4611686018427387903
abbrev KV(go0:aG->Option aa)(M:List Int)(b:Nat)(value:Int)(ps:List Nat):Option aa:=
 go0 (value+fo M b ps uL,0,iL (pc (fo M b ps uL) b ps M))
theorem m15(n:Nat)(go0:aG->Option aa)(go1:bO->Option aa)(go2:aK->Option aa)(es:List Ed)(M L:List Int)(a b:Nat)(value v13:Int)(v10 v14:Lv)(ps:List Nat)(ha:a<14)(hM:Bd2 M)(hab:a≠b)
  (hvl:0<=value/\value<=11200000) (hL:List.modify v14 (v13).toNat (fun r=>r.set 0 (AV.int ((cI v10 0 0)+1)))=iL L) (h14:(v14.length:Int)=14) (hw:Dial.Flo.Way M L a b ps) (hn:1000<n):
  sO n go0 go1 go2 (edL es) (a:Int) (b:Int) value 0 (iL M) v10 v13 v14=KV go0 M b value ps:=by
 have hps:=N4 ha hw;obtain⟨g1,g2⟩:=zb hw uL (by decide)
 have hnz:¬cI (iL L) (b:Int) 0=0:=by
  rw[cg,Int.toNat_natCast];cases hw with
  |here=>exact absurd rfl hab
  |step _ p ps' h hLx hMx hx hnn hax=>omega
 unfold sO;rw[hL,kF hnz,m21 n go0 go2 M L a b value 0 v13 v10 v14 ha hM.1 hL h14 ps b uL n hw (by omega)]
 have g3:fo M b ps uL<=4611686018427387903:=g2
 exact m22 n go0 go2 M L a value 0 v13 (fo M b ps uL) v10 v14 ha (by omega) (by omega) hL h14 ps b uL M n hw (by omega) (by decide) (Int.le_refl _) hM (fun _ _ _ _=>rfl)
def Nx(go0:aG->Option aa)(go1:bO->Option aa)(M:List Int)(a b u:Nat)(value:Int)(q:List Nat)(L:List Int)(r:Option aa):Prop:=
 (∃q' L',BIn M L' a b q' u 14/\2*js L'+q'.length<=2*js L+q.length/\r=go1 (nL q',iL L'))\/(∃L' ps,Dial.Flo.Way M L' a b ps/\r=KV go0 M b value ps)
theorem m11(n:Nat)(go0:aG->Option aa)(go1:bO->Option aa)(es:List Ed)(M:List Int)(a b u:Nat)(value:Int)(v10:Lv)(ha:a<14)(hb:b<14)(hu:u<14)(hM:Bd2 M)(hab:a≠b)
  (hvl:0<=value/\value<=11200000) (hq:cI v10 0 0=(u:Int)) (hn:1000<n):∀(m n' k:Nat) (q:List Nat) (L:List Int),m<n'->k+m=14->BIn M L a b q u k->0<L.getD u 0->2*js L+q.length<=100 →
  Nx go0 go1 M a b u value q L (ab (fun go2 s=>dM n go0 go1 go2 (edL es) (a:Int) (b:Int) value 0 (iL M) v10 s.1 s.2.1 s.2.2) n' ((nL q,(k:Int),iL L):aK)):=by
 intro m;induction m with
 | zero=>
  intro n' k q L hm hk hB hup hz;cases n' with
  |zero=>omega
  |succ n'=>
   rw[am];generalize (ab (fun go2 s=>dM n go0 go1 go2 (edL es) (a:Int) (b:Int) value 0 (iL M) v10 s.1 s.2.1 s.2.2) n':aK->Option aa)=go
   show Nx go0 go1 M a b u value q L (dM n go0 go1 go (edL es) (a:Int) (b:Int) value 0 (iL M) v10 (nL q) (k:Int) (iL L))
   unfold dM;have hk14:k=14:=by omega
   subst hk14;rw[kF (show ¬((14:Nat):Int)<14 by omega)]
   exact .inl ⟨q,L,hB,Nat.le_refl _,rfl⟩
 | succ m ih=>
  intro n' k q L hm hk hB hup hz;cases n' with
  |zero=>omega
  | succ n'=>
   rw[am];have hih:=ih n' (k+1);rw[show((k+1:Nat):Int)=(k:Int)+1 by omega]at hih
   generalize hgo:(ab (fun go2 s=>dM n go0 go1 go2 (edL es) (a:Int) (b:Int) value 0 (iL M) v10 s.1 s.2.1 s.2.2) n':aK->Option aa)=go
   rw[hgo]at hih;show Nx go0 go1 M a b u value q L (dM n go0 go1 go (edL es) (a:Int) (b:Int) value 0 (iL M) v10 (nL q) (k:Int) (iL L))
   have hll:((iL L).length:Int)=14:=by rw[aq,hB.len];rfl
   have hck:cI (iL L) (k:Int) 0=L.getD k 0:=by rw[cg,Int.toNat_natCast]
   have hcm:cI (iL M) ((cI v10 0 0)*14+(k:Int)) 0=gM M u k:=by rw[hq,vz]
   have hmm:=hM.2 u k hu (by omega)
   unfold dM;rw[kT (show(k:Int)<14 by omega),kT (show(0:Int)<=(k:Int) by omega),hll,kT (show(k:Int)<14 by omega)]
   unfold Ac;rw[hck];by_cases hpk:0<L.getD k 0
   ·rw[kT hpk,kG (by omega)]
    exact hih q L (by omega) (by omega) (Io hB (.inl hpk)) hup hz
   ·have hk0:L.getD k 0=0:=by have:=hB.nn k (by omega);omega
    rw[kF hpk,hq,kT (show(0:Int)<=(u:Int) by omega),kT (show(u:Int)<14 by omega),kT (show(u:Int)*14<((iL M).length:Int) by rw[aq,hM.1];omega),kT (show(u:Int)*14+(k:Int)<((iL M).length:Int) by rw[aq,hM.1];omega)]
    unfold zL;rw[hcm,hq];by_cases hg0:gM M u k=0
    ·rw[kT hg0,kG (by omega)]
     exact hih q L (by omega) (by omega) (Io hB (.inr hg0)) hup hz
    ·rw[kF hg0,kG (by omega)]
     unfold Al;have hmod:List.modify (iL L) ((k:Int)).toNat (fun r=>r.set 0 (AV.int ((cI v10 0 0)+1)))=iL (L.set k ((u:Int)+1)):=by rw[ni,hq,Int.toNat_natCast]
     by_cases hkb:k=b
     ·subst hkb
      obtain⟨ps,hw,_⟩:=DY hB ha hu hup hb hk0 (by omega)
      rw[kT rfl,kT (show(k:Int)<14 by omega),hll,kT (show(k:Int)<14 by omega),m15 n go0 go1 go es M _ a k value (k:Int) v10 (iL L) _ ha hM hab hvl hmod hll hw hn]
      exact .inr ⟨_,_,hw,rfl⟩
     ·have hzz:=xM L k ((u:Int)+1) (by rw[hB.len];omega) hk0 (by omega)
      have hqz:(q++[k]).length=q.length+1:=by rw[List.length_append];rfl
      rw[kF (show ¬(k:Int)=(b:Int) by omega),xN,kT (show((q.length:Int)+1)*8<=140737488355328 by omega),kG (by omega),hmod,N5]
      have hun:(L.set k ((u:Int)+1)).getD u 0=L.getD u 0:=by
       rw[dg _ _ _ _ (by rw[hB.len];omega),if_neg (fun e=>by rw[e]at hup;omega)]
      rcases hih (q++[k]) (L.set k ((u:Int)+1)) (by omega) (by omega) (OF hB ha hu hup (by omega) hk0 (by omega) hkb) (by rw[hun];exact hup) (by rw[hqz];omega)with⟨q',L',h1,h2,h3⟩|h
      ·exact .inl ⟨q',L',h1,by rw[hqz]at h2;omega,h3⟩
      ·exact .inr h
def HH(go0:aG->Option aa)(es:List Ed)(M:List Int)(a b:Nat)(value:Int)(r:Option aa):Prop:=
 (∃L' u,BIn M L' a b [] u 14/\r=some (iL (lp (d9 (bw es) M) es),fU 14 L',0))\/(∃L' ps,Dial.Flo.Way M L' a b ps/\r=KV go0 M b value ps)
theorem DS{M L:List Int}{a b u k:Nat}{q:List Nat}(h:BIn M L a b q u k)(ha:a<8)(hz:∀c d,c<14->d<14->(8<=c\/8<=d)->gM M c d=0):∀x,8<=x->x<14->L.getD x 0=0:=by
 intro x h8 hx;have hnn:=h.nn x hx;by_cases hp:0<L.getD x 0
 ·exfalso
  obtain⟨ps,hw,_⟩:=h.way x hx hp;cases hw with
  |here=>omega
  |step _ p ps' hw' hLx hMx hx' hn' hax=>
   have hpl:p<14:=nR (by omega) hw' p (List.mem_cons_self ..)
   have:=hz p x hpl hx (.inr h8)
   omega
 ·omega
theorem m10(n:Nat)(go0:aG->Option aa)(es:List Ed)(M:List Int)(a b:Nat)(value:Int)(hv:NetV 8 es)(ha:a<8)(hb:b<8)(hM:Bd2 M)(hab:a≠b)(hz:∀c d,c<14->d<14->(8<=c\/8<=d)->gM M c d=0)
  (hvl:0<=value/\value<=11200000) (hn:1000<n):∀(m n':Nat) (q:List Nat) (L:List Int) (u:Nat),m<n'->2*js L+q.length<=m->m<=100->BIn M L a b q u 14 →
  HH go0 es M a b value (ab (fun go1 s=>dP n go0 go1 (edL es) (a:Int) (b:Int) value 0 (iL M) s.1 s.2) n' ((nL q,iL L):bO)):=by
 intro m;induction m with
 | zero=>
  intro n' q L u hm hle hm1 hB;cases n' with
  |zero=>omega
  |succ n'=>
   rw[am];generalize (ab (fun go1 s=>dP n go0 go1 (edL es) (a:Int) (b:Int) value 0 (iL M) s.1 s.2) n':bO->Option aa)=go
   show HH go0 es M a b value (dP n go0 go (edL es) (a:Int) (b:Int) value 0 (iL M) (nL q) (iL L))
   have:q=[]:=List.length_eq_zero_iff.1 (by omega)
   subst this;have hll:((iL L).length:Int)=14:=by rw[aq,hB.len];rfl
   have hcb:cI (iL L) (b:Int) 0=0:=by rw[cg,Int.toNat_natCast];exact hB.lb
   unfold dP;rw[kF (show ¬(0:Int)<((nL []).length:Int) by rw[xN];simp),kT (show(b:Int)<14 by omega),hll,kT (show(b:Int)<14 by omega)]
   unfold tu;rw[kT hcb,hll,kT (show(14:Int)<=14 by omega)]
   exact .inl ⟨L,u,hB,m24 n go0 es M L hv (K0 hM) hB.len (DS hB ha hz) hn 14 n 0 (by omega) rfl⟩
 | succ m ih=>
  intro n' q L u hm hle hm1 hB;cases n' with
  |zero=>omega
  | succ n'=>
   rw[am];have hih:=ih n';generalize (ab (fun go1 s=>dP n go0 go1 (edL es) (a:Int) (b:Int) value 0 (iL M) s.1 s.2) n':bO->Option aa)=go at hih
   show HH go0 es M a b value (dP n go0 go (edL es) (a:Int) (b:Int) value 0 (iL M) (nL q) (iL L))
   have hll:((iL L).length:Int)=14:=by rw[aq,hB.len];rfl
   cases q with
   |nil=>
    have hcb:cI (iL L) (b:Int) 0=0:=by rw[cg,Int.toNat_natCast];exact hB.lb
    unfold dP;rw[kF (show ¬(0:Int)<((nL []).length:Int) by rw[xN];simp),kT (show(b:Int)<14 by omega),hll,kT (show(b:Int)<14 by omega)]
    unfold tu;rw[kT hcb,hll,kT (show(14:Int)<=14 by omega)]
    exact .inl ⟨L,u,hB,m24 n go0 es M L hv (K0 hM) hB.len (DS hB ha hz) hn 14 n 0 (by omega) rfl⟩
   | cons w q=>
    obtain⟨hw14,hwp⟩:=hB.que w (List.mem_cons_self ..);have hlc:((w::q).length:Int)=(q.length:Int)+1:=by rw[List.length_cons];omega
    have hlq:(w::q).length=q.length+1:=rfl
    have hB':BIn M L a b q w 0:=⟨hB.len,hB.nn,hB.la,hB.lb,hB.way,fun x hx=>hB.que x (List.mem_cons_of_mem _ hx),fun x hx hp hq y hy hyk hg=>by
     by_cases e:x=w
     ·have:=hyk e;omega
     ·exact hB.clo x hx hp (fun h=>(List.mem_cons.1 h).elim (fun h=>e h) (fun h=>hq h)) y hy (fun _=>hy) hg⟩
    unfold dP;rw[kT (show(0:Int)<((nL (w::q)).length:Int) by rw[xN];omega),kT (show(1:Int)<=((nL (w::q)).length:Int) by rw[xN];omega)]
    have hin:=m11 n go0 go es M a b w value (nL (w::q)) (by omega) (by omega) hw14 hM hab hvl (N2 w q) hn 14 n 0 q L (by omega) rfl hB' hwp (by omega)
    show HH go0 es M a b value (ab (fun go2 s=>dM n go0 go go2 (edL es) (a:Int) (b:Int) value 0 (iL M) (nL (w::q)) s.1 s.2.1 s.2.2) n ((nL q,0,iL L):aK))
    rcases hin with⟨q',L',h1,h2,h3⟩|h
    ·have h4:=hih q' L' w (by omega) (by omega) (by omega) h1
     rw[<-h3]at h4;exact h4
    ·exact .inr h
theorem m9(n:Nat)(go0:aG->Option aa)(es:List Ed)(M:List Int)(a b:Nat)(value:Int)(hv:NetV 8 es)(ha:a<8)(hb:b<8)(hM:Bd2 M)(hab:a≠b)(hz:∀c d,c<14->d<14->(8<=c\/8<=d)->gM M c d=0)
  (hvl:0<=value/\value<=11200000) (hn:1000<n):HH go0 es M a b value (jG n go0 (edL es) (a:Int) (b:Int) value 0 (iL M)):=by
 unfold jG;have e0:List.replicate ((14:Int)).toNat [(AV.int 0)]=iL (List.replicate 14 0):=by
  show _=(List.replicate 14 (0:Int)).map _
  rw[List.map_replicate];rfl
 have hg:∀x,((List.replicate 14 (0:Int)).set a ((a:Int)+1)).getD x 0=if x=a then(a:Int)+1 else 0:=fun x=>by
  rw[dg _ _ _ _ (by rw[List.length_replicate];omega)]
  split
  ·rfl
  ·rw[List.getD_eq_getElem?_getD,List.getElem?_replicate];split<;>rfl
 have hB:BIn M ((List.replicate 14 (0:Int)).set a ((a:Int)+1)) a b [a] 0 14:=by
  refine⟨by rw[List.length_set,List.length_replicate],fun x hx=>?_,?_,?_,fun x hx hp=>?_,fun x hx=>?_,fun x hx hp hq=>?_⟩
  ·rw[hg];split<;>omega
  ·rw[hg,if_pos rfl]
  ·rw[hg,if_neg (fun e=>hab e.symm)]
  ·rw[hg]at hp
   split at hp
   ·rename_i e;subst e
    exact⟨[],.here,fun y hy=>absurd hy (List.not_mem_nil)⟩
   ·omega
  ·rw[List.mem_singleton]at hx
   subst hx;exact⟨by omega,by rw[hg,if_pos rfl];omega⟩
  ·rw[hg]at hp
   split at hp
   ·rename_i e;subst e
    exact absurd (List.mem_singleton.2 rfl) hq
   ·omega
 have hzz:=xM (List.replicate 14 (0:Int)) a ((a:Int)+1) (by rw[List.length_replicate];omega) (by rw[List.getD_eq_getElem?_getD,List.getElem?_replicate];split<;>rfl) (by omega)
 have hz0:js (List.replicate 14 (0:Int))=14:=by decide
 rw[kG (by omega),kT (show(a:Int)<14 by omega),kT (show(a:Int)<14 by omega),e0,ni,Int.toNat_natCast]
 exact m10 n go0 es M a b value hv ha hb hM hab hz hvl hn 100 n [a] _ 0 (by omega) (by have:[a].length=1:=rfl;omega) (Nat.le_refl _) hB
theorem An{es:List Ed}(hv:NetV 8 es){a b:Nat}{M:List Int}{value:Int}(h:PInv es a b M value):∀c d,c<14->d<14->(8<=c\/8<=d)->gM M c d=0:=by
 intro c d hc hd h8;have h1:=h.kept.pos c d hc hd;have h2:=h.kept.pos d c hd hc;have h3:=h.kept.two c d hc hd;rw[jo (by decide) hv.2.2.2 c d hd,jo (by decide) hv.2.2.2 d c hc,JI hv.2.2.2 c d (by omega),JI hv.2.2.2 d c (by omega)]at h3
 omega
theorem AI{es:List Ed}(hv:NetV 8 es){a b:Nat}{M:List Int}{value:Int}(h:PInv es a b M value):Bd2 M:=
 ⟨h.kept.len,fun c d hc hd=>DM (by decide) hv.2.2.2 hv.2.2.1 h c d hc hd⟩
structure MaxR (es:List Ed) (a b:Nat) (M:List Int) (value s:Int):Prop where
 inv:PInv es a b M value
 cut:C4 (a:Int) (b:Int) s
 isr:value=0->IsR es (a:Int) s
theorem JZ{es:List Ed}(hv:NetV 8 es){a b u:Nat}(ha:a<8)(hb:b<8){M L:List Int}{value:Int}(h:PInv es a b M value)(hB:BIn M L a b [] u 14):MaxR es a b M value (fU 14 L):=by
 have hz:=DS hB ha (An hv h);obtain⟨s0,s1,s2⟩:=C5 hz 14 (Nat.le_refl _);refine⟨h,⟨s0,s1,?_,?_⟩,fun h0=>⟨s0,s1,fun v v0 v7=>?_⟩⟩
 ·rw[s2 a,decide_eq_true ⟨by omega,by rw[hB.la];omega⟩]
 ·rw[s2 b,decide_eq_false (by rw[hB.lb];omega)]
 ·have hMo:M=bw es:=by
   rcases h.val with⟨_,h5⟩|⟨h5,_⟩
   ·exact h5
   ·omega
  have hvn:v=((v.toNat:Nat):Int):=by omega
  rw[hvn,s2 v.toNat,decide_eq_true_eq];constructor
  ·rintro ⟨_,hp⟩
   obtain⟨ps,hw,_⟩:=hB.way v.toNat (by omega) hp
   rw[hMo]at hw;exact D4 (by decide) hv.2.2.2 hw
  ·intro hr
   refine⟨by omega,?_⟩
   have key:∀x:Int,Dial.Flo.Reach es (a:Int) x->0<L.getD x.toNat 0:=by
    intro x hx;induction hx with
    |here=>rw[Int.toNat_natCast,hB.la];omega
    |step w e hw he hf hc ih=>
     obtain⟨f0,f1,t0,t1,_,_,_⟩:=hv.2.2.2 e he;refine hB.clo w.toNat (by omega) ih (List.not_mem_nil) e.t.toNat (by omega) (fun _=>by omega) ?_
     rw[hMo,jo (by decide) hv.2.2.2 _ _ (by omega)]
     have:=(CY hv.2.2.2 w.toNat e.t.toNat).2 ⟨e,he,by omega,by omega,hc⟩
     omega
   have:=key _ hr
   rwa [Int.toNat_natCast]at this
theorem m8b(n:Nat)(es:List Ed)(a b:Nat)(hv:NetV 8 es)(ha:a<8)(hb:b<8)(hab:a≠b)(hn:1000<n):∀(m n':Nat) (M:List Int) (value:Int),m<n'->(rs M a).toNat<=m->PInv es a b M value →
  ∃M' value' s,MaxR es a b M' value' s/\ab (fun go0 s=>jG n go0 (edL es) (a:Int) (b:Int) s.1 s.2.1 s.2.2) n' ((value,0,iL M):aG)=some (iL (lp (d9 (bw es) M') es),s,0):=by
 intro m;induction m with
 | zero=>
  intro n' M value hm hle h;cases n' with
  |zero=>omega
  | succ n'=>
   rw[am];generalize (ab (fun go0 s=>jG n go0 (edL es) (a:Int) (b:Int) s.1 s.2.1 s.2.2) n':aG->Option aa)=go
   have hrs:=tR (by decide) hv.2.2.2 hv.2.2.1 (show a<14 by omega) hab h
   rcases m9 n go es M a b value hv ha hb (AI hv h) hab (An hv h) (by omega) hn with⟨L,u,hB,hr⟩|⟨L,ps,hw,hr⟩
   ·exact⟨M,value,fU 14 L,JZ hv ha hb h hB,hr⟩
   ·exfalso
    obtain⟨h1,h2⟩:=DV (by decide) hv.2.2.2 (show a<14 by omega) hab h hw (show(0:Int)<uL by decide)
    have:=tR (by decide) hv.2.2.2 hv.2.2.1 (show a<14 by omega) hab h1
    omega
 | succ m ih=>
  intro n' M value hm hle h;cases n' with
  |zero=>omega
  | succ n'=>
   rw[am];have hih:=ih n';generalize (ab (fun go0 s=>jG n go0 (edL es) (a:Int) (b:Int) s.1 s.2.1 s.2.2) n':aG->Option aa)=go at hih
   have hrs:=tR (by decide) hv.2.2.2 hv.2.2.1 (show a<14 by omega) hab h
   rcases m9 n go es M a b value hv ha hb (AI hv h) hab (An hv h) (by omega) hn with⟨L,u,hB,hr⟩|⟨L,ps,hw,hr⟩
   ·exact⟨M,value,fU 14 L,JZ hv ha hb h hB,hr⟩
   ·obtain⟨h1,h2⟩:=DV (by decide) hv.2.2.2 (show a<14 by omega) hab h hw (show(0:Int)<uL by decide)
    have h3:=tR (by decide) hv.2.2.2 hv.2.2.1 (show a<14 by omega) hab h1
    obtain⟨M',value',s,h4,h5⟩:=hih _ _ (by omega) (by omega) h1
    exact⟨M',value',s,h4,hr.trans h5⟩
theorem m8(n:Nat)(es:List Ed)(a b:Nat)(hv:NetV 8 es)(ha:a<8)(hb:b<8)(hab:a≠b)(hn:20000000<n):∀(m n' i:Nat),m<n'->i+m=es.length →
  ∃M' value' s,MaxR es a b M' value' s/\ab (fun go0 s=>fx n go0 (edL es) (a:Int) (b:Int) s.1 s.2) n' (((i:Int),iL (bw (es.take i))):ay)=some (iL (lp (d9 (bw es) M') es),s,0):=by
 have h40:=hv.2.2.1;intro m;induction m with
 | zero=>
  intro n' i hm hi;cases n' with
  |zero=>omega
  |succ n'=>
   rw[am];generalize (ab (fun go0 s=>fx n go0 (edL es) (a:Int) (b:Int) s.1 s.2) n':ay->Option aa)=go
   have hin:=vL (by decide) hv.2.2.2 a b
   have hrs:=tR (by decide) hv.2.2.2 hv.2.2.1 (show a<14 by omega) hab hin
   obtain⟨M',value',s,h4,h5⟩:=m8b n es a b hv ha hb hab (by omega) 11200000 n (bw es) 0 (by omega) (by omega) hin
   refine⟨M',value',s,h4,?_⟩
   show fx n go (edL es) (a:Int) (b:Int) (i:Int) _=_
   unfold fx;rw[kF (show ¬(i:Int)<((edL es).length:Int) by rw[gC];omega),List.take_of_length_le (by omega)]
   exact h5
 | succ m ih=>
  intro n' i hm hi;cases n' with
  |zero=>omega
  | succ n'=>
   rw[am];have hih:=ih n' (i+1) (by omega) (by omega)
   generalize (ab (fun go0 s=>fx n go0 (edL es) (a:Int) (b:Int) s.1 s.2) n':ay->Option aa)=go at hih
   obtain⟨e,he⟩:=aV (show i<es.length by omega)
   obtain⟨k0,k1,k2⟩:=pi he;obtain⟨f0,f1,t0,t1,_,c0,c1⟩:=hv.2.2.2 e (List.mem_of_getElem? he);have hb':=B4 (Ew hv i);have hg:=hb'.2 e.f.toNat e.t.toNat (by omega) (by omega)
   have ht:es.take (i+1)=es.take i++[e]:=by rw[List.take_add_one,he];rfl
   obtain⟨M',value',s,h4,h5⟩:=hih;refine⟨M',value',s,h4,?_⟩
   show fx n go (edL es) (a:Int) (b:Int) (i:Int) _=_
   unfold fx;have hgg:cI (iL (bw (es.take i))) ((e.f*14)+e.t) 0=gM (bw (es.take i)) e.f.toNat e.t.toNat:=by rw[<-vz];congr 1;omega
   rw[k0,k1,k2,hgg];rw[kT (show(i:Int)<((edL es).length:Int) by rw[gC];omega),kT (show(0:Int)<=(i:Int) by omega),kT f0,kT (show e.f<14 by omega),kT (show e.f*14<((iL (bw (es.take i))).length:Int) by rw[aq,hb'.1];omega),kT t0,kT (show e.t<14 by omega),kT (show e.f*14+e.t<((iL (bw (es.take i))).length:Int) by rw[aq,hb'.1];omega),
    kG (by omega),kG (by omega)]
   rw[show(e.f*14+e.t).toNat=(((e.f.toNat:Nat):Int)*14+((e.t.toNat:Nat):Int)).toNat by omega,ua]
   rw[show((i+1:Nat):Int)=(i:Int)+1 by omega,ht,H9]at h5
   exact h5
theorem Bx(n:Nat)(es:List Ed)(a b:Int)(hv:NetV 8 es)(a0:0<=a)(a1:a<=7)(b0:0<=b)(b1:b<=7)(hab:a≠b)(hn:20000000<n):
  ∃M value s,MaxR es a.toNat b.toNat M value s/\fY n 8 (edL es) a b=some (iL (lp (d9 (bw es) M) es),s,0):=by
 obtain⟨M,value,s,h4,h5⟩:=m8 n es a.toNat b.toNat hv (by omega) (by omega) (by omega) hn es.length n 0 (by have:=hv.2.2.1;omega) (by omega)
 refine⟨M,value,s,h4,?_⟩
 rw[show((a.toNat:Nat):Int)=a by omega,show((b.toNat:Nat):Int)=b by omega]at h5
 unfold fY Bl;rw[ld n 8 es (by have:=hv.2.2.1;omega) (by omega),Option.bind_some,decide_eq_true hv]
 unfold BM Bs BE BX Cn CC;rw[cond_true,kG (by omega),kT a0,kT (show a<=8-1 by omega),kT b0,kT (show b<=8-1 by omega),decide_eq_false hab,J3]
 exact h5
end Go.Proofs.YtbfkkigbedmhgaaGreat
namespace Go.Proofs.YtbfkkigbedmhgaaGreat
open Go Go.Sx Go.Dial.Rou
theorem F9(M:List Int)(i:Int):cI (iL M) i 0=at_ M i:=cg M i
theorem dR(M:List Int)(i:Nat):cI (iL M) (i:Int) 0=M.getD i 0:=by rw[cg,Int.toNat_natCast]
theorem gO{h:List Int}{v:Nat}(hv:v<h.length):h.getD v 0∈h:=by
 rw[List.getD_eq_getElem?_getD,List.getElem?_eq_getElem hv];exact List.getElem_mem _
theorem PB{h:List Int}{v:Nat}(h1:1<=v)(hv:v<h.length):List.drop (((v:Int)-1)).toNat (List.take (((v:Int)+1)).toNat (iL h))=iL [h.getD (v-1) 0,h.getD v 0]:=by
 rw[show(((v:Int)-1)).toNat=v-1 by omega,show(((v:Int)+1)).toNat=v+1 by omega,<-List.map_take,<-List.map_drop]
 congr 1
 refine List.ext_getElem? (fun i=>?_)
 rw[List.getElem?_drop,List.getElem?_take];match i with
 |0=>rw[if_pos (by omega),show v-1+0=v-1 by omega,List.getD_eq_getElem?_getD,List.getElem?_eq_getElem (show v-1<h.length by omega)];rfl
 |1=>rw[if_pos (by omega),show v-1+1=v by omega,List.getD_eq_getElem?_getD (i:=v),List.getElem?_eq_getElem hv];rfl
 |i+2=>rw[if_neg (by omega)];rfl
theorem rv7(n:Nat)(go0 go1:aP->Option aC)(h A:List Int)(v:Nat)(i c:Int)(S:Lv)(hS:List.drop (((v:Int)-1)).toNat (List.take (((v:Int)+1)).toNat (iL h))=S)(h1:1<=v)(hv:v<h.length)(hi0:0<=i)(hi1:i<(S.length:Int))(hi:i<=1)(hc:cI S i 0=c)(hcb:c<=7)(hA:A.length=8):
  dA n go0 go1 (iL h) (v:Int) i (iL A)=go1 (i+1,iL (st1 A c (h.getD (v-1) 0) (h.getD v 0) v)):=by
 have e1:cI (iL h) (v:Int) 0=h.getD v 0:=dR h v
 have e2:cI (iL h) ((v:Int)-1) 0=h.getD (v-1) 0:=by rw[cg];congr 1;omega
 unfold dA;rw[hS,kT hi1,kT hi0,hc];unfold st1;by_cases c0:0<=c
 ·rw[kT c0,kT (show(0:Int)<=(v:Int) by omega),kT (show(v:Int)<((iL h).length:Int) by rw[aq];omega),kT (show(v:Int)-1<((iL h).length:Int) by rw[aq];omega),e1,e2]
  by_cases hpq:h.getD v 0=h.getD (v-1) 0
  ·rw[kNT hpq,kG (by omega),if_neg (fun e=>e.2 hpq)]
  ·rw[kNF hpq,kT (show c<8 by omega),kT (show c<((iL A).length:Int) by rw[aq];omega),kG (by omega),ni,cg,pr,if_pos ⟨c0,hpq⟩]
 ·rw[kF c0,kG (by omega),if_neg (fun e=>c0 e.1)]
theorem OD(n:Nat)(go0:aP->Option aC)(h:List Int)(lag:Int)(v n':Nat)(hh:HoV h)(h1:1<=v)(hv:v<h.length)(hn:3<n'):
  ab (fun go1 s=>dA n go0 go1 (iL h) (v:Int) s.1 s.2) n' ((0,iL (lk h lag v)):aP)=go0 ((v:Int)+1,iL (lk h lag (v+1))):=by
 have hl:=hh.2.1;obtain⟨m,rfl⟩:∃m,n'=m+3:=⟨n'-3,by omega⟩
 have b1:=hh.2.2 _ (gO (h:=h) (v:=v) hv);have b2:=hh.2.2 _ (gO (h:=h) (v:=v-1) (by omega))
 have hS:=PB (h:=h) h1 hv;rw[am];have s1:=rv7 n go0 (ab (fun go1 s=>dA n go0 go1 (iL h) (v:Int) s.1 s.2) (m+2)) h (lk h lag v) v 0 (h.getD (v-1) 0) _ hS h1 hv (by decide) (by show(0:Int)<2;decide) (by decide) rfl b2.2 (jd ..)
 refine s1.trans ?_
 rw[am];have s2:=rv7 n go0 (ab (fun go1 s=>dA n go0 go1 (iL h) (v:Int) s.1 s.2) (m+1)) h (st1 (lk h lag v) (h.getD (v-1) 0) (h.getD (v-1) 0) (h.getD v 0) v) v 1 (h.getD v 0) _ hS h1 hv (by decide) (by show(1:Int)<2;decide) (by decide) rfl b1.2 (by rw[zl,jd])
 refine s2.trans ?_
 rw[Ms hh h1 hv,am];show dA n go0 _ (iL h) (v:Int) 2 _=_
 unfold dA;rw[hS,kF (show ¬(2:Int)<((iL [h.getD (v-1) 0,h.getD v 0]).length:Int)from(by show ¬(2:Int)<2;decide))]
theorem rv8(n:Nat)(h k:List Int)(lag:Int)(hh:HoV h)(hk:k.length=8)(hn:1000<n):
  ab (fun go0 s=>kB n go0 (iL h) (iL k) (iL (lk h lag h.length)) s) n (0:dh)=some (decide (∀c:Nat,c<8->(k.getD c 0= -1\/(cz h lag (c:Int) h.length<=k.getD c 0/\k.getD c 0<=(h.length:Int)-1)))):=by
 rw[kO (len:=8) (f:=fun i=>if(k.getD i 0= -1\/(cz h lag (i:Int) h.length<=k.getD i 0/\k.getD i 0<=(h.length:Int)-1))then none else some false) (e:=true) ?_ ?_ (by omega),AQ]
 ·intro i go hi
  unfold kB;rw[kT (show(i:Int)<((iL k).length:Int) by rw[aq];omega),kT (show(0:Int)<=(i:Int) by omega),dR,dR,vF _ _ _ hi]
  by_cases e1:k.getD i 0= -1
  ·rw[kNT e1,kG (by omega),if_pos (.inl e1)]
  ·rw[kNF e1,kT (show(i:Int)<8 by omega),kT (show(i:Int)<((iL (lk h lag h.length)).length:Int) by rw[aq,jd];omega)]
   by_cases e2:cz h lag (i:Int) h.length<=k.getD i 0
   ·rw[kT e2,aq]
    by_cases e3:k.getD i 0<=(h.length:Int)-1
    ·rw[kNT e3,kG (by omega),if_pos (.inr ⟨e2,e3⟩)]
    ·rw[kNF e3,if_neg (fun e=>(e).elim (fun e=>e1 e) (fun e=>e3 e.2))]
   ·rw[kF e2,if_neg (fun e=>(e).elim (fun e=>e1 e) (fun e=>e2 e.1))]
 ·intro go
  unfold kB;rw[kF (show ¬((8:Nat):Int)<((iL k).length:Int) by rw[aq,hk];omega)]
theorem rv6(n:Nat)(h k:List Int)(lag:Int)(hh:HoV h)(hk:k.length=8)(hn:1000<n):∀(m n' v:Nat),m<n'->v+m=h.length->1<=v →
  ab (fun go0 s=>ee n go0 (iL h) (iL k) s.1 s.2) n' (((v:Int),iL (lk h lag v)):aP)=some (decide (∀c:Nat,c<8->(k.getD c 0= -1\/(cz h lag (c:Int) h.length<=k.getD c 0/\k.getD c 0<=(h.length:Int)-1)))):=by
 have hl:=hh.2.1;intro m;induction m with
 | zero=>
  intro n' v hm hv h1;cases n' with
  |zero=>omega
  |succ n'=>
   rw[am];show ee n _ (iL h) (iL k) (v:Int) _=_
   unfold ee;have hv':v=h.length:=by omega
   subst hv';rw[kF (show ¬(h.length:Int)<=((iL h).length:Int)-1 by rw[aq];omega)]
   exact rv8 n h k lag hh hk hn
 | succ m ih=>
  intro n' v hm hv h1;cases n' with
  |zero=>omega
  |succ n'=>
   rw[am];have hih:=ih n' (v+1) (by omega) (by omega) (by omega)
   generalize (ab (fun go0 s=>ee n go0 (iL h) (iL k) s.1 s.2) n':aP->Option aC)=go at hih
   show ee n go (iL h) (iL k) (v:Int) _=_
   unfold ee;rw[kT (show(v:Int)<=((iL h).length:Int)-1 by rw[aq];omega),kG (by omega),kG (by omega),kT (show(0:Int)<=(v:Int)-1 by omega),kT (show(v:Int)-1<=(v:Int)+1 by omega),kT (show(v:Int)+1<=((iL h).length:Int) by rw[aq];omega)]
   have e:=OD n go h lag v n hh h1 (by omega) (by omega)
   refine e.trans ?_
   rw[show((v+1:Nat):Int)=(v:Int)+1 by omega]at hih
   exact hih
theorem rv5(n:Nat)(h k:List Int)(lag:Int)(hh:HoV h)(hk:k.length=8)(h0:0<=lag)(h10:lag<=10)(hn:1000<n):∀(m n' c:Nat),m<n'->c+m=8 →
  ab (fun go0 s=>cw n go0 (iL h) (iL k) lag s.1 s.2) n' (((c:Int),iL (List.replicate c (max 0 ((h.length:Int)-1-lag))++List.replicate m 0)):aP)=some (decide (RoV h k lag)):=by
 have hl:=hh.2.1;intro m;induction m with
 | zero=>
  intro n' c hm hc;cases n' with
  |zero=>omega
  |succ n'=>
   rw[am];show cw n _ (iL h) (iL k) lag (c:Int) _=_
   unfold cw;have hc':c=8:=by omega
   subst hc';rw[kF (show ¬((8:Nat):Int)<8 by omega),List.replicate_zero,List.append_nil,<-Pe]
   refine(rv6 n h k lag hh hk hn (h.length-1) n 1 (by omega) (by have:=hh.1;omega) (Nat.le_refl _)).trans ?_
   congr 1
   rw[decide_eq_decide];constructor
   ·exact fun hx=>LN hh hk h0 h10 hx
   ·exact fun hx c hc=>(JN hh.1).1 (hx.2.2.2.2 c (List.mem_range.2 hc))
 | succ m ih=>
  intro n' c hm hc;cases n' with
  |zero=>omega
  | succ n'=>
   rw[am];have hih:=ih n' (c+1) (by omega) (by omega)
   generalize (ab (fun go0 s=>cw n go0 (iL h) (iL k) lag s.1 s.2) n':aP->Option aC)=go at hih
   show cw n go (iL h) (iL k) lag (c:Int) _=_
   unfold cw;have hlen:((iL (List.replicate c (max 0 ((h.length:Int)-1-lag))++List.replicate (m+1) 0)).length:Int)=8:=by
    rw[aq,List.length_append,List.length_replicate,List.length_replicate];omega
   rw[kT (show(c:Int)<8 by omega),aq h,kG (by omega),kT (show(0:Int)<=(c:Int) by omega),hlen,kT (show(c:Int)<8 by omega),kG (by omega),ni,Int.toNat_natCast,pr]
   have e:(List.replicate c (max 0 ((h.length:Int)-1-lag))++List.replicate (m+1) 0).set c (max 0 ((h.length:Int)-1-lag))=List.replicate (c+1) (max 0 ((h.length:Int)-1-lag))++List.replicate m 0:=by
    rw[List.set_append_right _ _ (by rw[List.length_replicate];omega),List.length_replicate,Nat.sub_self,List.replicate_succ (n:=m),List.set_cons_zero,List.replicate_succ',List.append_assoc]
    rfl
   rw[e];rw[show((c+1:Nat):Int)=(c:Int)+1 by omega]at hih
   exact hih
theorem Qy:List.replicate ((8:Int)).toNat [(AV.int 0)]=iL (List.replicate 8 0):=by
 show _=(List.replicate 8 (0:Int)).map _
 rw[List.map_replicate];rfl
theorem Pb(n:Nat)(h k:List Int)(lag:Int)(hh:HoV h)(hn:1000<n)(f:(aP->Option aC)->aP->Option aC)(hf:f=fun go0 s=>cw n go0 (iL h) (iL k) lag s.1 s.2):
  (bif !(((iL k).length:Int)=8)then some false else(bif 0<=lag then(bif !(lag<=10)then some false else bif(-9223372036854775808<=(((iL h).length:Int)-1))&&((((iL h).length:Int)-1)<=9223372036854775807)then ab f n ((0,(List.replicate ((8:Int)).toNat [(AV.int 0)])):aP)else none)else some false))=some (decide (RoV h k lag)):=by
 have hl:=hh.2.1;rw[hf];by_cases e1:k.length=8
 ·rw[kNT (show((iL k).length:Int)=8 by rw[aq];omega)]
  by_cases e2:0<=lag
  ·rw[kT e2]
   by_cases e3:lag<=10
   ·rw[kNT e3,aq h,kG (by omega),Qy]
    exact rv5 n h k lag hh e1 e2 e3 hn 8 n 0 (by omega) rfl
   ·rw[kNF e3,decide_eq_false (fun hx:RoV h k lag=>e3 hx.2.2.2.1)]
  ·rw[kF e2,decide_eq_false (fun hx:RoV h k lag=>e2 hx.2.2.1)]
 ·rw[kNF (show ¬((iL k).length:Int)=8 by rw[aq];omega),decide_eq_false (fun hx:RoV h k lag=>e1 hx.2.1)]
theorem vV(n:Nat)(h k:List Int)(lag:Int)(hn:1000<n):jQ n (iL h) (iL k) lag=some (decide (RoV h k lag)):=by
 unfold jQ wz;rw[aq];by_cases h1:1<=(h.length:Int)
 ·rw [kT h1]
  unfold wt;rw[aq];by_cases h30:(h.length:Int)<=30
  ·rw[kT h30]
   have hok:∀(i:Nat) (go:dh->Option aC),i<h.length-> -1<=h.getD i 0/\h.getD i 0<=7->cr n go (iL h) (iL k) lag (i:Int)=go ((i:Int)+1):=by
    intro i go hi e;unfold cr;rw[kT (show(i:Int)<((iL h).length:Int) by rw[aq];omega),kT (show(0:Int)<=(i:Int) by omega)]
    unfold oh;rw[dR,show decide ((0:Int)<=(i:Int))=true from decide_eq_true (by omega),kT e.1,kNT e.2,kG (by omega)]
   have hbad:∀(i:Nat) (go:dh->Option aC),i<h.length->¬(-1<=h.getD i 0/\h.getD i 0<=7)->cr n go (iL h) (iL k) lag (i:Int)=some false:=by
    intro i go hi e;unfold cr;rw[kT (show(i:Int)<((iL h).length:Int) by rw[aq];omega),kT (show(0:Int)<=(i:Int) by omega)]
    unfold oh;rw[dR,show decide ((0:Int)<=(i:Int))=true from decide_eq_true (by omega)]
    by_cases e1: -1<=h.getD i 0
    ·rw[kT e1,kNF (fun e2=>e ⟨e1,e2⟩)];rfl
    ·rw[kF e1];rfl
   by_cases hh:HoV h
   ·rw[fM (len:=h.length) (f:=fun i=>if(-1<=h.getD i 0/\h.getD i 0<=7)then none else some (some false)) (e:=some (decide (RoV h k lag))) ?_ ?_ (by omega),iB]
    ·intro i hi
     rw[if_pos (hh.2.2 _ (gO hi))]
    ·intro i go hi
     by_cases e: -1<=h.getD i 0/\h.getD i 0<=7
     ·rw[if_pos e];exact hok i go hi e
     ·rw[if_neg e];exact hbad i go hi e
    ·intro go
     show cr n go (iL h) (iL k) lag (h.length:Int)=_
     unfold cr;rw[kF (show ¬(h.length:Int)<((iL h).length:Int) by rw[aq];omega)]
     exact Pb n h k lag hh hn _ rfl
   ·rw[fM (len:=h.length) (f:=fun i=>if(-1<=h.getD i 0/\h.getD i 0<=7)then none else some (some false)) (e:=cr n (fun _=>none) (iL h) (iL k) lag (h.length:Int)) ?_ ?_ (by omega),uI (r:=some false)]
    ·rw[decide_eq_false (fun hx:RoV h k lag=>hh hx.1)]
    ·intro i _
     by_cases e: -1<=h.getD i 0/\h.getD i 0<=7
     ·rw[if_pos e];exact .inl rfl
     ·rw[if_neg e];exact .inr rfl
    ·refine Classical.byContradiction (fun hx=>hh ⟨by omega,by omega,fun x hm=>?_⟩)
     obtain⟨i,hi,rfl⟩:=List.getElem_of_mem hm;refine Classical.byContradiction (fun hb=>hx ⟨i,hi,?_⟩)
     have:h.getD i 0=h[i]:=by rw[List.getD_eq_getElem?_getD,List.getElem?_eq_getElem hi];rfl
     rw[this,if_neg hb];simp
    ·intro i go hi
     by_cases e: -1<=h.getD i 0/\h.getD i 0<=7
     ·rw[if_pos e];exact hok i go hi e
     ·rw[if_neg e];exact hbad i go hi e
    ·intro go
     show cr n go (iL h) (iL k) lag (h.length:Int)=_
     unfold cr;rw[kF (show ¬(h.length:Int)<((iL h).length:Int) by rw[aq];omega),kF (show ¬(h.length:Int)<((iL h).length:Int) by rw[aq];omega)]
  ·rw[kF h30,decide_eq_false (fun hx:RoV h k lag=>h30 (by have:=hx.1.2.1;omega))]
 ·rw[kF h1,decide_eq_false (fun hx:RoV h k lag=>h1 (by have:=hx.1.1;omega))]
abbrev hpR(x:Int×Int):List AV:=[.int x.1,.int x.2]
abbrev hpL(l:List (Int×Int)):Lv:=l.map hpR
theorem iE(l:List (Int×Int)):((hpL l).length:Int)=(l.length:Int):=by rw[List.length_map]
theorem vE(l:List (Int×Int))(c w:Int):hpL l++[[AV.int c,AV.int w]]=hpL (l++[(c,w)]):=by show _=List.map _ _;rw[List.map_append];rfl
theorem ze{h:List Int}{i:Int}:cI (iL h) i 0=at_ h i:=cg h i
theorem rp2(n:Nat)(h k:List Int)(lag:Int)(hv:RoV h k lag):∀(m n':Nat) (c u:Int) (out:List (Int×Int)),m<n'->0<=c->c<=7->0<=at_ k c-> -1<=u->u<=h.length-1->(0<=u->at_ h u=c)->(h.length:Int)-u<m->out.length+m<=1000 →
  ab (fun go0 s=>i8 n go0 (iL h) (iL k) s.1 s.2.1 s.2.2.2) n' ((u,hpL out,0,c):ki)=some (hpL (out++(kg h k m c u).1),(kg h k m c u).2,0):=by
 have h30:=hv.1.2.1;have hk8:=hv.2.1;intro m;induction m with
 |zero=>intro n' c u out _ _ _ _ _ _ _ hm;omega
 | succ m ih=>
  intro n' c u out hn hc0 hc7 hk hu0 hu1 hhu hm ho;cases n' with
  |zero=>omega
  | succ n'=>
   rw[am];have hih:=ih n';generalize (ab (fun go0 s=>i8 n go0 (iL h) (iL k) s.1 s.2.1 s.2.2.2) n':ki->Option ji)=go at hih
   show i8 n go (iL h) (iL k) u (hpL out) c=_
   obtain⟨r1,r2,r3,r4,r5⟩:=EA hv ⟨hc0,hc7⟩ hk hu1;have hw:aL (cI (iL k) c 0) u=max (at_ k c) u:=by rw[pr,ze]
   rw[r5]at r1 r2 r3 r4;have hmem:=hv.1.2.2 _ (Lf (h:=h) r1 (by omega))
   unfold i8;rw[hw,ze,ze,kT hc0,kT (show c<((iL k).length:Int) by rw[aq];omega),kT r1,kT (show max (at_ k c) u<((iL h).length:Int) by rw[aq];omega),iE]
   simp only[kg];rcases D8 h k c u with⟨h1,hd⟩|⟨h1,h2,hd⟩|⟨h1,h2,h3,hd⟩|⟨h1,h2,h3,hd⟩
   ·rw[hd,kT h1,kT (by omega),vE]
    rfl
   ·rw[hd,kF h1,kT h2,kT (by omega),vE]
    rfl
   ·rw[hd,kF h1,kF (by omega),kT h2,kT (show at_ h (max (at_ k c) u)<((iL k).length:Int) by rw[aq];omega),kT h3,kT (by omega),vE]
    rfl
   ·rw[hd,kF h1,kF (by omega),kT h2,kT (show at_ h (max (at_ k c) u)<((iL k).length:Int) by rw[aq];omega),kF (by omega),kT (by omega),vE]
    dsimp only;rw[if_neg (show ¬(0:Int)≠0 by decide)]
    have hlt:u<max (at_ k c) u:=by
     by_cases e:0<=u
     ·have:=hhu e
      by_cases e2:max (at_ k c) u=u
      ·rw[e2]at h1;exact absurd this h1
      ·omega
     ·omega
    have:=hih (at_ h (max (at_ k c) u)) (max (at_ k c) u) (out++[(c,max (at_ k c) u)]) (by omega) h2 hmem.2 h3 (by omega) r2 (fun _=>rfl) (by omega) (by rw[List.length_append,List.length_singleton];omega)
    rw[List.append_assoc]at this;exact this
theorem Ik(n:Nat)(h k:List Int)(lag c:Int)(hn:1000<n):oX n (iL h) (iL k) lag c=some (hpL (CM h k lag c).1.1,(CM h k lag c).1.2,(CM h k lag c).2):=by
 unfold oX yk CM;rw[vV n h k lag hn,Option.bind_some];by_cases hv:RoV h k lag
 ·have hk8:=hv.2.1
  have h30:=hv.1.2.1;have h1:=hv.1.1;rw[kT hv];by_cases c0:0<=c
  ·rw[kT c0]
   by_cases c7:c<=7
   ·rw[kT c7,kT (show c<((iL k).length:Int) by rw[aq];omega),ze]
    by_cases hk:0<=at_ k c
    ·rw[kNT hk,if_pos ⟨hv,c0,c7,hk⟩]
     exact rp2 n h k lag hv 40 n c (-1) [] (by omega) c0 c7 hk (by omega) (by omega) (fun h=>by omega) (by omega) (by simp)
    ·rw[kNF hk,if_neg (fun hx=>hk hx.2.2.2)];rfl
   ·rw[kF c7,if_neg (fun hx=>c7 hx.2.2.1)];rfl
  ·rw[kF c0,if_neg (fun hx=>c0 hx.2.1)];rfl
 ·rw[kF hv,if_neg (fun hx=>hv hx.1)];rfl
theorem Qo{v k:Int}(hk:0<k)(h:ax v):ax (Int.tdiv v k):=by
 unfold ax at h⊢
 by_cases h0:0<=v
 ·rw[Int.tdiv_eq_ediv_of_nonneg h0]
  have h1:=Int.ediv_nonneg h0 (Int.le_of_lt hk);have h2:=Int.ediv_le_self k h0;omega
 ·have e:Int.tdiv v k= -((-v) / k):=by
   rw[<-Int.tdiv_eq_ediv_of_nonneg (show 0<= -v by omega),Int.neg_tdiv,Int.neg_neg]
  rw[e];have h1:=Int.ediv_nonneg (show 0<= -v by omega) (Int.le_of_lt hk)
  have h2:=Int.ediv_le_self k (show 0<= -v by omega)
  omega
theorem eZ(n:Nat){c k:Int}(hc:ax c)(hk:0<k):cV n c k=some (pk c k):=by
 unfold ax at hc;unfold cV xG pk;by_cases h:c<0
 ·rw[kT h,kG (by omega),kG (by omega),kNF (show ¬k=0 by omega),if_pos h]
 ·rw[kF h,kNF (show ¬k=0 by omega),if_neg h]
theorem FZ(n:Nat)(h:List Int)(lag c:Int)(h1:1<=h.length)(h30:h.length<=30)(l0:0<=lag)(l1:lag<=10)(hn:100<n):mU n (iL h) lag c=some (cz h lag c h.length):=by
 have key:∀(m n' v:Nat),m<n'->v+m=h.length->1<=v->ab (fun go0 s=>d7 n go0 (iL h) c s.1 s.2) n' ((cz h lag c v,(v:Int)):jF)=some (cz h lag c h.length):=by
  intro m;induction m with
  | zero=>
   intro n' v hm hv hv1;cases n' with
   |zero=>omega
   |succ n'=>
    rw[am];show d7 n _ (iL h) c (cz h lag c v) (v:Int)=_
    unfold d7;have hv':v=h.length:=by omega
    subst hv';rw[kF (show ¬(h.length:Int)<=((iL h).length:Int)-1 by rw[aq];omega)]
  | succ m ih=>
   intro n' v hm hv hv1;cases n' with
   |zero=>omega
   | succ n'=>
    rw[am];have hih:=ih n' (v+1) (by omega) (by omega) (by omega)
    generalize (ab (fun go0 s=>d7 n go0 (iL h) c s.1 s.2) n':jF->Option ig)=go at hih
    show d7 n go (iL h) c (cz h lag c v) (v:Int)=_
    have e1:cI (iL h) (v:Int) 0=h.getD v 0:=dR h v
    have e2:cI (iL h) ((v:Int)-1) 0=h.getD (v-1) 0:=by rw[cg];congr 1;omega
    rw[show((v+1:Nat):Int)=(v:Int)+1 by omega]at hih
    unfold d7;rw[kT (show(v:Int)<=((iL h).length:Int)-1 by rw[aq];omega),kT (show(0:Int)<=(v:Int) by omega),kT (show(v:Int)<((iL h).length:Int) by rw[aq];omega),kG (by omega),kT (show(0:Int)<=(v:Int)-1 by omega),kT (show(v:Int)-1<((iL h).length:Int) by rw[aq];omega),e1,e2]
    simp only[cz]at hih;unfold Dial.Rou.Con at hih;by_cases hpq:h.getD v 0=h.getD (v-1) 0
    ·rw[if_neg (fun e=>e.2.1 hpq)]at hih
     rw[kNT hpq,kG (by omega)]
     exact hih
    ·rw[kNF hpq]
     by_cases hq:h.getD v 0=c
     ·rw[if_pos ⟨hv1,hpq,.inl hq⟩,<-pr]at hih
      rw[kT hq,kG (by omega)]
      exact hih
     ·rw[kF hq]
      by_cases hp:h.getD (v-1) 0=c
      ·rw[if_pos ⟨hv1,hpq,.inr hp⟩,<-pr]at hih
       rw[kT hp,kG (by omega)]
       exact hih
      ·rw[if_neg (fun e=>(e.2.2).elim (fun e=>hq e) (fun e=>hp e))]at hih
       rw[kF hp,kG (by omega)]
       exact hih
 unfold mU wg;rw[aq,kG (by omega),kG (by omega)]
 have:=key (h.length-1) n 1 (by omega) (by omega) (Nat.le_refl _)
 have e:cz h lag c 1=aL 0 ((h.length:Int)-1-lag):=by
  simp only[cz];rw[if_neg (fun e=>by omega),pr]
 rw[e]at this;exact this
theorem OC{h:List Int}{lag c:Int}(h1:1<=h.length)(l0:0<=lag):cz h lag c h.length<=(h.length:Int)-1:=
 (CN _).2 ⟨by omega,by omega,fun j hj _ _=>by omega⟩
theorem Fm(n:Nat)(h ys:List Int)(lag:Int)(hh:HoV h)(l0:0<=lag)(l1:lag<=10)(hy:∀x∈ys,ax x)(hn:100<n):∃k,fX n (iL h) lag (iL ys)=some (iL k)/\RoV h k lag:=by
 have h1:=hh.1;have h30:=hh.2.1;have main:∃r,fX n (iL h) lag (iL ys)=some r/\∃k,r=iL k/\RoV h k lag:=by
  unfold fX wB;refine eW (fun s=>∃(k:List Int),s=(iL k,(k.length:Int))/\k.length<=8/\∀c:Nat,c<k.length->(k.getD c 0= -1\/(cz h lag (c:Int) h.length<=k.getD c 0/\k.getD c 0<=(h.length:Int)-1))) (fun s=>8-s.2.toNat) (fun r=>∃k,r=iL k/\RoV h k lag) ?_ n _ ⟨[],rfl,by simp,fun c hc=>by simp at hc⟩ (by simp;omega)
  rintro _ go ⟨k,rfl,hk,hx⟩ ih;show ∃r,oc n go (iL h) lag (iL ys) (iL k) (k.length:Int)=some r/\_
  unfold oc;by_cases h7:(k.length:Int)<=7
  ·have htop:=OC (c:=(k.length:Int)) (lag:=lag) h1 l0
   have hge:=Pr (h:=h) (lag:=lag) (c:=(k.length:Int)) h.length;have hnext:∀v:Int,(v= -1\/(cz h lag (k.length:Int) h.length<=v/\v<=(h.length:Int)-1))->∃r,go (iL k++[[AV.int v]],(k.length:Int)+1)=some r/\∃k,r=iL k/\RoV h k lag:=by
    intro v hv;rw[mJ];refine ih _ ⟨k++[v],by rw[List.length_append,List.length_singleton];simp,by rw[List.length_append,List.length_singleton];omega,fun c hc=>?_⟩ (by simp only;omega)
    rw[List.length_append,List.length_singleton]at hc;by_cases e:c=k.length
    ·subst e
     rw[List.getD_eq_getElem?_getD,List.getElem?_append_right (Nat.le_refl _),Nat.sub_self];exact hv
    ·have:=hx c (by omega)
     rw[List.getD_eq_getElem?_getD,List.getElem?_append_left (show c<k.length by omega),<-List.getD_eq_getElem?_getD]
     exact this
   have fin:∀p15 q:Int,0<=q->q<(h.length:Int)-cz h lag (k.length:Int) h.length->∃r,(bif p15=15 then bif ((((iL k).length:Int)+1)*8)<=140737488355328 then bif(-9223372036854775808<=((k.length:Int)+1))&&(((k.length:Int)+1)<=9223372036854775807)then go ((iL k++[[(AV.int (-1))]]),((k.length:Int)+1))else none else none else bif ((((iL k).length:Int)+1)*8)<=140737488355328 then bif(-9223372036854775808<=((k.length:Int)+1))&&(((k.length:Int)+1)<=9223372036854775807)then go ((iL k++[[(AV.int (cz h lag (k.length:Int) h.length+q))]]),((k.length:Int)+1))else none else none)=some r/\∃k,r=iL k/\RoV h k lag:=by
    intro p15 q hq0 hq1;rw[aq];by_cases e:p15=15
    ·rw[kT e,kT (by omega),kG (by omega)]
     exact hnext _ (.inl rfl)
    ·rw[kF e,kT (by omega),kG (by omega)]
     exact hnext _ (.inr ⟨by omega,by omega⟩)
   rw[kT h7,FZ n h lag _ h1 h30 l0 l1 hn,Option.bind_some];by_cases hc:(k.length:Int)<((iL ys).length:Int)
   ·have hcl:k.length<ys.length:=by rw[aq]at hc;omega
    have hin:=hy _ (gO hcl);have hin':=hin;unfold ax at hin';have hd:=Qo (k:=16) (by decide) hin
    have hd':=hd;unfold ax at hd';have hb:=aX (Int.tdiv (ys.getD k.length 0) 16) (k:=(h.length:Int)-cz h lag (k.length:Int) h.length) (by omega)
    rw[kT hc,kT (show(0:Int)<=(k.length:Int) by omega),dR,kG hd',aq h,kG (by omega),eZ n hd (by omega),Option.bind_some,kG (by omega),eZ n hin (by decide),Option.bind_some]
    exact fin _ _ hb.1 hb.2
   ·have hb:=aX 0 (k:=(h.length:Int)-cz h lag (k.length:Int) h.length) (by omega)
    have h00:ax 0:=by unfold ax;omega
    rw[kF hc,aq h,kG (by omega),eZ n h00 (by omega),Option.bind_some,kG (by omega),eZ n h00 (by decide),Option.bind_some]
    exact fin _ _ hb.1 hb.2
  ·rw[kF h7]
   have hk8:k.length=8:=by omega
   exact⟨_,rfl,k,rfl,LN hh hk8 l0 l1 (fun c hc=>hx c (by omega))⟩
 obtain⟨r,h1,k,rfl,h2⟩:=main;exact⟨k,h1,h2⟩
theorem GF(n:Nat)(xs ys:List Int)(lag:Int)(hx:∀x∈xs,ax x)(hy:∀x∈ys,ax x)(hl:ax lag)(hn:100<n):∃h k lg,o8 n (iL xs) (iL ys) lag=some (iL h,iL k,lg)/\RoV h k lg/\h.length<=12:=by
 have bl:=aX lag (k:=11) (by decide)
 have key:∀(z:Int),-1<=z->z<=7->∃r,ab (fun go0 s=>gu n go0 (iL xs) (iL ys) lag s.1 s.2) n ((iL [z],1):ir)=some r/\∃h k lg,r=(iL h,iL k,lg)/\RoV h k lg/\h.length<=12:=by
  intro z hz0 hz1;refine eW (fun s=>∃(h:List Int),s=(iL h,(h.length:Int))/\1<=h.length/\h.length<=12/\∀x∈h,-1<=x/\x<=7) (fun s=>12-s.2.toNat) (fun r=>∃h k lg,r=(iL h,iL k,lg)/\RoV h k lg/\h.length<=12) ?_ n _ ⟨[z],rfl,by simp,by simp,fun x hx=>by rw[List.mem_singleton]at hx;subst hx;exact⟨hz0,hz1⟩⟩ (by simp;omega)
  rintro _ go ⟨h,rfl,h1,h12,hb⟩ ih;show ∃r,gu n go (iL xs) (iL ys) lag (iL h) (h.length:Int)=some r/\_
  have done:∃r,((cV n lag 11).bind fun y6=>(fX n (iL h) y6 (iL ys)).bind fun y7=>some (iL h,y7,y6))=some r/\∃h k lg,r=(iL h,iL k,lg)/\RoV h k lg/\h.length<=12:=by
   obtain⟨k,hk,hv⟩:=Fm n h ys (pk lag 11) ⟨h1,by omega,hb⟩ bl.1 (by omega) hy hn
   rw[eZ n hl (by decide),Option.bind_some,hk,Option.bind_some]
   exact⟨_,rfl,h,k,_,rfl,hv,h12⟩
  unfold gu;by_cases e1:(h.length:Int)<((iL xs).length:Int)
  ·rw[kT e1]
   by_cases e2:(h.length:Int)<12
   ·have hlt:h.length<xs.length:=by rw[aq]at e1;omega
    have b9:=aX (xs.getD h.length 0) (k:=9) (by decide)
    rw[kT e2,kT (show(0:Int)<=(h.length:Int) by omega),dR,eZ n (hx _ (gO hlt)) (by decide),Option.bind_some,kG (by omega),aq,kT (by omega),kG (by omega),mJ]
    refine ih _ ⟨h++[pk (xs.getD h.length 0) 9-1],by rw[List.length_append,List.length_singleton];simp,by rw[List.length_append,List.length_singleton];omega,by rw[List.length_append,List.length_singleton];omega,fun x hx'=>?_⟩ (by simp only;omega)
    rcases List.mem_append.1 hx' with hx'|hx'
    ·exact hb x hx'
    ·rw[List.mem_singleton]at hx';subst hx';omega
   ·rw[kF e2];exact done
  ·rw[kF e1];exact done
 have fin:∀z:Int,-1<=z->z<=7->∃h k lg,ab (fun go0 s=>gu n go0 (iL xs) (iL ys) lag s.1 s.2) n ((iL [z],1):ir)=some (iL h,iL k,lg)/\RoV h k lg/\h.length<=12:=by
  intro z h0 h1;obtain⟨r,e,h,k,lg,rfl,e2,e3⟩:=key z h0 h1;exact⟨h,k,lg,e,e2,e3⟩
 unfold o8 yC;by_cases e0:(0:Int)<((iL xs).length:Int)
 ·have hlt:0<xs.length:=by rw[aq]at e0;omega
  have b9:=aX (xs.getD 0 0) (k:=9) (by decide)
  have e1:cI (iL xs) 0 0=xs.getD 0 0:=dR xs 0
  rw[kT e0,e1,eZ n (hx _ (gO hlt)) (by decide),Option.bind_some,kG (by omega)]
  exact fin (pk (xs.getD 0 0) 9-1) (by omega) (by omega)
 ·rw[kF e0]
  exact fin 0 (by decide) (by decide)
theorem yU{l:List (Int×Int)}{i:Nat}{e:Int×Int}(h:l[i]?=some e):cI (hpL l) (i:Int) 0=e.1/\cI (hpL l) (i:Int) 1=e.2:=by
 have hc:∀k,cA (hpL l) (i:Int) k=(hpR e).getD k (.int 0):=fun k=>cD (by simpa using h)
 simp only[cI,hc];exact⟨rfl,rfl⟩
end Go.Proofs.YtbfkkigbedmhgaaGreat
namespace Go.Proofs.YtbfkkigbedmhgaaGreat
open Go Go.Sx Go.Dial.Fwd
theorem gw(n:Nat){c k:Int}(hc:ax c)(hk:0<k):bG n c k=some (pk c k):=by
 unfold ax at hc;unfold bG yf pk;by_cases h:c<0
 ·rw[kT h,kG (by omega),kG (by omega),kNF (show ¬k=0 by omega),if_pos h]
 ·rw[kF h,kNF (show ¬k=0 by omega),if_neg h]
abbrev gK(x:Int×Int×Int×Int×Int):List AV:=[.int x.1,.int x.2.1,.int x.2.2.1,.int x.2.2.2.1,.int x.2.2.2.2]
def uJ(x:Int×Int×Int×Int×Int):Se:=⟨10+pk x.1 8,if 4<pk x.2.1 8 then pk x.2.1 8-3 else 1,10+Int.tmod (pk x.1 8+1+pk x.2.2.1 7) 8,pk x.2.2.2.1 50,pk x.2.2.2.1 50+1+pk x.2.2.2.2 60⟩
abbrev In5(x:Int×Int×Int×Int×Int):Prop:=ax x.1/\ax x.2.1/\ax x.2.2.1/\ax x.2.2.2.1/\ax x.2.2.2.2
theorem Je(n:Nat)(x:Int×Int×Int×Int×Int)(hx:In5 x):sD n x.1 x.2.1 x.2.2.1 x.2.2.2.1 x.2.2.2.2=some ((uJ x).n,(uJ x).k,(uJ x).t,(uJ x).f,(uJ x).u):=by
 obtain⟨h0,h1,h2,h3,h4⟩:=hx;have b0:=aX x.1 (k:=8) (by decide)
 have b1:=aX x.2.1 (k:=8) (by decide)
 have b2:=aX x.2.2.1 (k:=7) (by decide)
 have b3:=aX x.2.2.2.1 (k:=50) (by decide)
 have b4:=aX x.2.2.2.2 (k:=60) (by decide)
 have bt:=pm (a:=pk x.1 8+1+pk x.2.2.1 7) (k:=8) (by omega) (by decide)
 unfold sD Ad uJ;rw[gw n h0 (by decide),Option.bind_some,kG (by omega),kG (by omega),gw n h2 (by decide),Option.bind_some,kG (by omega),kG (by omega),gw n h3 (by decide),Option.bind_some,kG (by omega),gw n h4 (by decide),Option.bind_some,kG (by omega),gw n h1 (by decide),Option.bind_some,Option.bind_some]
 by_cases h:4<pk x.2.1 8
 ·rw[kT h,kG (by omega),if_pos h]
 ·rw[kF h,if_neg h]
theorem Nq(l:List Se)(s:Se):seL l++[[AV.int s.n,AV.int s.k,AV.int s.t,AV.int s.f,AV.int s.u]]=seL (l++[s]):=by show _=List.map _ _;rw[List.map_append];rfl
theorem OM(l:List Se):((seL l).length:Int)=(l.length:Int):=by rw[List.length_map]
theorem Iv(n:Nat)(xs:List (Int×Int×Int×Int×Int))(hx:∀x∈xs,In5 x)(hn:1000<n):∃l,lH n (xs.map gK)=some (seL l)/\pB l/\l.length<=16/\∀s∈l,s.t<=17:=by
 have main:∃r,lH n (xs.map gK)=some r/\∃l,r=seL l/\pB l/\l.length<=16/\∀s∈l,s.t<=17:=by
  unfold lH xU;refine eW (fun s=>∃(l:List Se) (i:Nat),s=(seL l,(i:Int))/\pB l/\l.length<=i/\i<=16/\∀s∈l,s.t<=17) (fun s=>16-s.2.toNat) (fun r=>∃l,r=seL l/\pB l/\l.length<=16/\∀s∈l,s.t<=17) ?_ n _ ⟨[],0,rfl,⟨by simp,trivial⟩,by simp,by omega,fun s hs=>by cases hs⟩ (by simp;omega)
  rintro _ go ⟨l,i,rfl,hv,hl,hi,ht⟩ ih;show ∃r,py n go (xs.map gK) (seL l) (i:Int)=some r/\_
  have done:∃r,some (seL l)=some r/\∃l,r=seL l/\pB l/\l.length<=16/\∀s∈l,s.t<=17:=⟨_,rfl,l,rfl,hv,by omega,ht⟩
  unfold py;by_cases e1:(i:Int)<((xs.map gK).length:Int)
  ·rw [kT e1]
   by_cases e2:(i:Int)<16
   ·have hil:i<xs.length:=by rw[List.length_map]at e1;omega
    obtain⟨x,hxe⟩:=aV hil;have hc:∀k,cA (xs.map gK) (i:Int) k=(gK x).getD k (.int 0):=fun k=>cD (by simpa using hxe)
    have g0:cI (xs.map gK) i 0=x.1:=by simp only[cI,hc];rfl
    have g1:cI (xs.map gK) i 1=x.2.1:=by simp only[cI,hc];rfl
    have g2:cI (xs.map gK) i 2=x.2.2.1:=by simp only[cI,hc];rfl
    have g3:cI (xs.map gK) i 3=x.2.2.2.1:=by simp only[cI,hc];rfl
    have g4:cI (xs.map gK) i 4=x.2.2.2.2:=by simp only[cI,hc];rfl
    rw[kT e2,OM,kT (by omega),kT (by omega),g0,g1,g2,g3,g4,Je n x (hx x (List.mem_of_getElem? hxe)),Option.bind_some,kT (by omega)]
    dsimp only;rw[Nq,AF n _ (by rw[List.length_append,List.length_singleton];omega) hn,Option.bind_some]
    by_cases hs:pB (l++[uJ x])
    ·rw[kT hs,kG (by omega)]
     refine ih _ ⟨l++[uJ x],i+1,by simp,hs,by rw[List.length_append,List.length_singleton];omega,by omega,fun s hs=>?_⟩ (by simp only;omega)
     rcases List.mem_append.1 hs with hs|hs
     ·exact ht s hs
     ·rw[List.mem_singleton]at hs;subst hs
      have b0:=aX x.1 (k:=8) (by decide)
      have b2:=aX x.2.2.1 (k:=7) (by decide)
      have bt:=pm (a:=pk x.1 8+1+pk x.2.2.1 7) (k:=8) (by omega) (by decide)
      unfold uJ;dsimp only;omega
    ·rw[kF hs,kG (by omega)]
     exact ih _ ⟨l,i+1,by simp,hv,by omega,by omega,ht⟩ (by simp only;omega)
   ·rw[kF e2];exact done
  ·rw[kF e1];exact done
 obtain⟨r,h1,l,rfl,h2,h3,h4⟩:=main;exact⟨l,h1,h2,h3,h4⟩
theorem Eh{y:Co}:∀(c:List Co) (last:Int),gP last c->(∀x∈c,x.n<y.n)->last<y.n->y.n<=99999999->2<=y.k->y.k<=4->gP last (c++[y])
 |[],last,_,_,h1,h2,h3,h4=>⟨h1,h2,h3,h4,trivial⟩
 |x::c,last,⟨a1,a2,a3,a4,a5⟩,hx,h1,h2,h3,h4=>
  ⟨a1,a2,a3,a4,Eh c x.n a5 (fun z hz=>hx z (List.mem_cons_of_mem _ hz)) (hx x (List.mem_cons_self ..)) h2 h3 h4⟩
theorem ME(l:List Co)(a b:Int):coL l++[[AV.int a,AV.int b]]=coL (l++[⟨a,b⟩]):=by show _=List.map _ _;rw[List.map_append];rfl
theorem OR(l:List Co):((coL l).length:Int)=(l.length:Int):=by rw[List.length_map]
theorem OG{a b:Int}(h:0<=a):0<=IOp.f .shr a b:=by
 show 0<=a.fdiv (2 ^ (Nat.min b.toNat 64))
 refine Int.fdiv_nonneg h ?_
 exact Int.le_of_lt (Int.pow_pos (by decide))
theorem wZ(n:Nat)(x:Int)(hx:ax x)(hn:100<n):∃c,eM n x=some (coL c)/\c.length<=8/\gP (-1) c:=by
 have b:=aX x (k:=65536) (by decide)
 have main:∃r,eM n x=some r/\∃c,r=coL c/\c.length<=8/\gP (-1) c:=by
  unfold eM np;rw[gw n hx (by decide),Option.bind_some]
  refine eW (fun s=>∃(c:List Co) (i:Nat),s=(coL c,(i:Int))/\c.length<=i/\i<=8/\gP (-1) c/\∀y∈c,y.n<10+i) (fun s=>8-s.2.toNat) (fun r=>∃c,r=coL c/\c.length<=8/\gP (-1) c) ?_ n _ ⟨[],0,rfl,by simp,by omega,trivial,fun y hy=>by cases hy⟩ (by simp;omega)
  rintro _ go ⟨c,i,rfl,hl,hi,hc,hy⟩ ih;show ∃r,iV n go (pk x 65536) (coL c) (i:Int)=some r/\_
  unfold iV;by_cases e1:(i:Int)<8
  ·have hs:=OG (a:=pk x 65536) (b:=2*(i:Int)) b.1
   generalize IOp.f .shr (pk x 65536) (2*(i:Int))=w at hs
   have hw:=pm hs (show(0:Int)<4 by decide)
   rw[kT e1,kG (by omega),kT (by omega)]
   by_cases e2:0<Int.tmod w 4
   ·rw[kT e2,kG (by omega),kG (by omega),OR,kT (by omega),kG (by omega),ME]
    refine ih _ ⟨c++[⟨10+(i:Int),1+Int.tmod w 4⟩],i+1,by simp,by rw[List.length_append,List.length_singleton];omega,by omega,Eh c (-1) hc hy (by dsimp only;omega) (by dsimp only;omega) (by dsimp only;omega) (by dsimp only;omega),fun y hy'=>?_⟩ (by simp only;omega)
    rcases List.mem_append.1 hy' with hy'|hy'
    ·have:=hy y hy';omega
    ·rw[List.mem_singleton]at hy';subst hy';dsimp only;omega
   ·rw[kF e2,kG (by omega)]
    exact ih _ ⟨c,i+1,by simp,by omega,by omega,hc,fun y hy'=>by have:=hy y hy';omega⟩ (by simp only;omega)
  ·rw[kF e1]
   exact⟨_,rfl,c,rfl,by omega,hc⟩
 obtain⟨r,h1,c,rfl,h2,h3⟩:=main;exact⟨c,h1,h2,h3⟩
end Go.Proofs.YtbfkkigbedmhgaaGreat
namespace Go.Proofs.YtbfkkigbedmhgaaGreat
open Go Go.Sx Go.Dial.Lif
theorem FV(n:Nat)(l:Ln):mR n l.s l.h l.e l.t=some (pY l):=by
 unfold mR wF pY Vld;grind
theorem GT(n:Nat)(l:Ln):oM n l.s l.h l.e l.t=some (pY l):=by
 unfold oM yx pY Vld;grind
theorem Dm(n:Nat)(e:Ev):k8 n e.k e.a e.h=some (sU e):=by
 unfold k8 tO sU Frm l3;grind
theorem AS(n:Nat)(l:Ln)(e:Ev)(hl:Vld l)(he:Frm e):jn n l.s l.h l.e l.t e.k e.a e.h=some (decide (Pos l e)):=by
 unfold Vld at hl;unfold Frm l3 at he;by_cases hp:Pos l e<;>simp only[hp,decide_true,decide_false]<;>unfold Pos at hp<;>unfold jn qq<;>grind
abbrev ku(l:Ln)(e:Ev):Int×Int×Int×Int×Int:=((qZ l e).1.s,(qZ l e).1.h,(qZ l e).1.e,(qZ l e).1.t,(qZ l e).2)
theorem xi(n:Nat)(l:Ln)(e:Ev):hY n l.s l.h l.e l.t e.k e.a e.h=some (ku l e):=by
 unfold hY xd ku;rw[FV,Dm];by_cases h1:Vld l
 ·by_cases h2:Frm e
  ·rw[AS n l e h1 h2]
   by_cases h3:Pos l e
   ·rw[uK ⟨h1,h2,h3⟩]
    simp only[pY,sU,h1,h2,h3,decide_true,Option.bind_some,Bool.not_true,cond_false];unfold nxt;unfold Vld at h1;unfold Frm l3 at h2;unfold Pos at h3;grind
   ·rw[jg (fun h=>h3 h.2.2)]
    simp[pY,sU,h1,h2,h3,zero]
  ·rw[jg (fun h=>h2 h.2.1)]
   simp[pY,sU,h1,h2,zero]
 ·rw[jg (fun h=>h1 h.1)]
  simp[pY,h1,zero]
theorem kinds{k:Int}(h1:1<=k)(h2:k<=7):k=1\/k=2\/k=3\/k=4\/k=5\/k=6\/k=7:=by omega
theorem PT{s:Int}(h1:0<=s)(h2:s<=3):s=0\/s=1\/s=2\/s=3:=by omega
theorem Fe(n:Nat)(e:Ev):jZ n e.k e.a e.h=some (sU e):=by
 obtain⟨k,a,h⟩:=e;by_cases hk:1<=k/\k<=7
 ·unfold jZ og sU Frm l3
  rcases kinds hk.1 hk.2 with rfl|rfl|rfl|rfl|rfl|rfl|rfl<;>simp[cB,cA]<;>grind
 ·unfold jZ og sU Frm l3
  grind
theorem PM:IOp.f .and (IOp.f .shr 1 0) 1=1:=by decide +kernel
theorem PK:IOp.f .and (IOp.f .shr 1 1) 1=0:=by decide +kernel
theorem PC:IOp.f .and (IOp.f .shr 1 2) 1=0:=by decide +kernel
theorem PJ:IOp.f .and (IOp.f .shr 1 3) 1=0:=by decide +kernel
theorem O9:IOp.f .and (IOp.f .shr 2 0) 1=0:=by decide +kernel
theorem PX:IOp.f .and (IOp.f .shr 2 1) 1=1:=by decide +kernel
theorem O5:IOp.f .and (IOp.f .shr 2 2) 1=0:=by decide +kernel
theorem OY:IOp.f .and (IOp.f .shr 2 3) 1=0:=by decide +kernel
theorem PQ:IOp.f .and (IOp.f .shr 4 0) 1=0:=by decide +kernel
theorem PH:IOp.f .and (IOp.f .shr 4 1) 1=0:=by decide +kernel
theorem Pv:IOp.f .and (IOp.f .shr 4 2) 1=1:=by decide +kernel
theorem Pz:IOp.f .and (IOp.f .shr 4 3) 1=0:=by decide +kernel
theorem O3:IOp.f .and (IOp.f .shr 6 0) 1=0:=by decide +kernel
theorem PY:IOp.f .and (IOp.f .shr 6 1) 1=1:=by decide +kernel
theorem PO:IOp.f .and (IOp.f .shr 6 2) 1=1:=by decide +kernel
theorem PW:IOp.f .and (IOp.f .shr 6 3) 1=0:=by decide +kernel
theorem Ph:IOp.f .and (IOp.f .shr 8 0) 1=0:=by decide +kernel
theorem PD:IOp.f .and (IOp.f .shr 8 1) 1=0:=by decide +kernel
theorem Pq:IOp.f .and (IOp.f .shr 8 2) 1=0:=by decide +kernel
theorem PL:IOp.f .and (IOp.f .shr 8 3) 1=1:=by decide +kernel
theorem E2(n:Nat)(l:Ln)(e:Ev)(h1:Vld l)(h2:Frm e):tj n l.s l.h l.e l.t e.k e.a e.h=some (ku l e):=by
 obtain⟨k,a,h⟩:=e;obtain⟨s,g,p,t⟩:=l;unfold ku qZ Ok Pos;simp only[h1,h2,true_and];unfold Vld at h1;unfold Frm l3 at h2;unfold nxt zero tj zY Ag;simp only at h1 h2⊢
 rcases kinds h2.1 h2.2.1 with rfl|rfl|rfl|rfl|rfl|rfl|rfl<;>rcases PT h1.1 h1.2.1 with rfl|rfl|rfl|rfl <;>
  simp[cI,cB,cA,PM,PK,PC,PJ,O9,PX,O5,OY,PQ,PH,Pv,Pz,O3,PY,PO,PW,Ph,PD,Pq,PL]<;>grind
theorem Jg(n:Nat)(l:Ln)(e:Ev):nA n l.s l.h l.e l.t e.k e.a e.h=some (ku l e):=by
 unfold nA Am Ae zP;rw[GT,Fe];by_cases h1:Vld l
 ·by_cases h2:Frm e
  ·simp only[pY,sU,h1,h2,decide_true,Option.bind_some,Bool.not_true,cond_false]
   exact E2 n l e h1 h2
  ·unfold ku
   rw[jg (fun h=>h2 h.2.1)]
   simp[pY,sU,h1,h2,zero]
 ·unfold ku
  rw[jg (fun h=>h1 h.1)]
  simp[pY,h1,zero]
abbrev evR(e:Ev):List AV:=[.int e.k,.int e.a,.int e.h]
abbrev evL(es:List Ev):Lv:=es.map evR
abbrev oi(es:List Ev):Int×Int×Int×Int×Int×Int:=((lX es).1.1.s,(lX es).1.1.h,(lX es).1.1.e,(lX es).1.1.t,((lX es).1.2:Int),(lX es).2)
theorem mX{es:List Ev}{i:Nat}{e:Ev}(hA:All first (es.take i))(h40:i<=40)(he:es[i]?=some e)(hs:i=40\/¬Ok (fin first (es.take i)) e):lX es=((zero,i),140):=by
 have hi:i<es.length:=(List.getElem?_eq_some_iff.1 he).1
 have e1:es.take 40=es.take i++(es.drop i).take (40-i):=by
  rw[<-List.take_append_drop i (es.take 40),List.take_take,List.drop_take];congr 2
  omega
 have e2:(dS first (es.take 40)).2=i:=by
  rw[e1,Ng hA];have hl:(es.take i).length=i:=by simp;omega
  have:(dS (fin first (es.take i)) ((es.drop i).take (40-i))).2=0:=by
   rcases hs with hs|hs
   ·subst hs;simp[dS]
   ·cases hk:40-i with
    |zero=>simp[dS]
    | succ k=>
     have:es.drop i=e::es.drop (i+1):=by
      rw[List.drop_eq_getElem_cons hi];congr 1
      exact(List.getElem?_eq_some_iff.1 he).2
     rw[this,List.take_succ_cons,dS,if_neg hs]
  simp[hl,this]
 rw[DJ (fun h=>?_),e2]
 have:=life_iff.2 h
 omega
theorem DX{es:List Ev}{i:Nat}(hA:All first (es.take i))(h40:i<=40)(he:i=es.length):lX es=((fin first (es.take i),i),0):=by
 subst he;rw[List.take_length]at hA⊢
 exact m5 ⟨hA,h40⟩
theorem P2(n:Nat)(es:List Ev)(hn:es.length<n):rd n (evL es)=some (oi es):=by
 unfold rd zW;refine eE (fun s=>∃(i:Nat) (l:Ln),s=((i:Int),l.s,l.h,l.e,l.t)/\i<=es.length/\i<=40/\All first (es.take i)/\l=fin first (es.take i)) (fun s=>es.length-s.1.toNat) _ ?_ n _ ⟨0,first,rfl,by omega,by omega,trivial,rfl⟩ (by simp;omega)
 rintro _ go ⟨i,l,rfl,hi,h40,hA,hl⟩ ih;simp only
 unfold zV;have c2:(0:Int)<=(i:Int):=by omega
 have c4:(-9223372036854775808:Int)<=(i:Int)+1:=by omega
 have c5:(i:Int)+1<=(9223372036854775807:Int):=by omega
 by_cases hlt:i<es.length
 ·obtain⟨e,he⟩:=aV hlt
  have hc:∀k,cA (evL es) (i:Int) k=(evR e).getD k (.int 0):=fun k=>cD (by simpa using he)
  have hs:hY n l.s l.h l.e l.t (cI (evL es) i 0) (cI (evL es) i 1) (cI (evL es) i 2)=some (ku l e):=by
   simp only[cI,hc];exact xi n l e
  have c1:(i:Int)<(es.length:Int):=by omega
  simp only[hs,List.length_map,Option.bind_some,c1,c2,c4,c5,decide_true,cond_true,Bool.and_self,ku];by_cases hok:Ok l e
  ·simp only[uK hok,decide_true,Bool.not_true,cond_false]
   by_cases h4:i=40
   ·have h4':(i:Int)=40:=by omega
    simp only[h4',decide_true,cond_true];unfold oi;rw[mX hA h40 he (.inl h4),h4];rfl
   ·have h4':¬(i:Int)=40:=by omega
    simp only[h4',decide_false,cond_false];exact ih _ ⟨i+1,nxt l e,rfl,by omega,by omega,by rw[rX he,uh];exact⟨hA,by rw[<-hl];exact⟨hok,trivial⟩⟩,by rw[rX he,yO,<-hl];rfl⟩ (by simp only;omega)
  ·have e140:decide ((140:Int)=0)=false:=rfl
   simp only[jg hok,e140,Bool.not_false,cond_true];unfold oi;rw[mX hA h40 he (.inr (by rw[<-hl];exact hok))];rfl
 ·have h0:i=es.length:=by omega
  have c1:¬(i:Int)<(es.length:Int):=by omega
  simp only[List.length_map,c1,decide_false,cond_false];unfold oi;rw[DX hA h40 h0,<-hl,h0]
theorem uP(n:Nat)(es:List Ev)(hn:es.length<n):mv n (evL es)=some (oi es):=by
 unfold mv BZ;have c1:0<=aB ((evL es).length:Int) 40:=by unfold aB;split<;>omega
 have c2:aB ((evL es).length:Int) 40<=((evL es).length:Int):=by unfold aB;split<;>omega
 have hT:List.take (aB ((evL es).length:Int) 40).toNat (evL es)=evL (es.take 40):=by
  unfold evL aB;rw[<-List.map_take];congr 1
  split
  ·rfl
  ·rw[List.take_of_length_le (by simp),List.take_of_length_le (by simp at *;omega)]
 simp only[c1,c2,decide_true,cond_true];refine eE (fun s=>∃(i:Nat) (l:Ln),s=((i:Int),(i:Int),l.s,l.h,l.e,l.t,l.s,l.h,l.e,l.t)/\i<=es.length/\i<=40/\All first (es.take i)/\l=fin first (es.take i)) (fun s=>es.length-s.1.toNat) _ ?_ n _ ⟨0,first,rfl,by omega,by omega,trivial,rfl⟩ (by simp;omega)
 rintro _ go ⟨i,l,rfl,hi,h40,hA,hl⟩ ih;simp only
 unfold Cm;rw[hT];have c2:(0:Int)<=(i:Int):=by omega
 have c4:(-9223372036854775808:Int)<=(i:Int)+1:=by omega
 have c5:(i:Int)+1<=(9223372036854775807:Int):=by omega
 by_cases hlt:i<es.length
 ·obtain⟨e,he⟩:=aV hlt
  have c3:(i:Int)<(es.length:Int):=by omega
  by_cases h4:i=40
  ·have c1:¬(i:Int)<((es.take 40).length:Int):=by rw[List.length_take];omega
   simp only[List.length_map,c1,decide_false,cond_false,c3,decide_true,cond_true];unfold oi;rw[mX hA h40 he (.inl h4)];rfl
  ·have hc:∀k,cA (evL (es.take 40)) (i:Int) k=(evR e).getD k (.int 0):=fun k=>cD (by
    rw[show(i:Int).toNat=i by simp,List.getElem?_take,if_pos (by omega)];exact he)
   have hs:nA n l.s l.h l.e l.t (cI (evL (es.take 40)) i 0) (cI (evL (es.take 40)) i 1) (cI (evL (es.take 40)) i 2)=some (ku l e):=by
    simp only[cI,hc];exact Jg n l e
   have c1:(i:Int)<((es.take 40).length:Int):=by rw[List.length_take];omega
   simp only[hs,List.length_map,c1,c2,c4,c5,decide_true,cond_true,Bool.and_self,Option.bind_some,ku];by_cases hok:Ok l e
   ·simp only[uK hok,decide_true,Bool.not_true,cond_false]
    exact ih _ ⟨i+1,nxt l e,rfl,by omega,by omega,by rw[rX he,uh];exact⟨hA,by rw[<-hl];exact⟨hok,trivial⟩⟩,by rw[rX he,yO,<-hl];rfl⟩ (by simp only;omega)
   ·have e140:decide ((140:Int)=0)=false:=rfl
    simp only[jg hok,e140,Bool.not_false,cond_true,List.length_map,c3,decide_true];unfold oi;rw[mX hA h40 he (.inr (by rw[<-hl];exact hok))];rfl
 ·have h0:i=es.length:=by omega
  have c1:¬(i:Int)<((es.take 40).length:Int):=by rw[List.length_take];omega
  have c3:¬(i:Int)<(es.length:Int):=by omega
  simp only[List.length_map,c1,c3,decide_false,cond_false];unfold oi;rw[DX hA h40 h0,<-hl]
theorem gE(n:Nat){c k:Int}(hc:ax c)(hk:0<k):bp n c k=some (pk c k):=by
 unfold bp xQ pk;unfold ax at hc;grind
abbrev atT(es:List Ev)(t:Int):Int×Int×Int×Int×Int:=((atR es t).1.s,(atR es t).1.h,(atR es t).1.e,(atR es t).1.t,(atR es t).2)
theorem QB{a b:Int}(ha:0<=a)(hb:0<=b)(h:a+b<=9223372036854775807):IntKind.wrap .i64 (jh .shr .u64 (IntKind.wrap .u64 (a+b)) 1)=(a+b) / 2:=by
 have h1:IntKind.wrap .u64 (a+b)=a+b:=by
  unfold IntKind.wrap;simp only[IntKind.bits,IntKind.signed,Bool.false_and];simp
  omega
 rw[h1];have h2:jh .shr .u64 (a+b) 1=(a+b) / 2:=by
  unfold jh;simp only[IntKind.bits];rw[Int.fdiv_eq_ediv_of_nonneg _ (by decide)]
  rfl
 rw[h2];unfold IntKind.wrap;simp only[IntKind.bits,IntKind.signed,Bool.true_and];have h3:(a+b) / 2 % 2 ^ 64=(a+b) / 2:=Int.emod_eq_of_lt (by omega) (by omega)
 simp only[h3];rw[if_neg (by simp;omega)]
end Go.Proofs.YtbfkkigbedmhgaaGreat
namespace Go.Proofs.YtbfkkigbedmhgaaGreat
open Go Go.Sx Go.Dial.Clm
abbrev ceR(e:Ce):List AV:=[.int e.k,.int e.a,.int e.r]
abbrev ceL(es:List Ce):Lv:=es.map ceR
abbrev csR(x:Cs):List AV:=[.int x.s,.int x.f,.int x.n]
abbrev csL(l:List Cs):Lv:=l.map csR
theorem aM(n:Nat){c k:Int}(hc:ax c)(hk:0<k):ai n c k=some (pk c k):=by
 unfold ai xY pk;unfold ax at hc;grind
theorem EK(n:Nat)(r:Rl):mW n r.a r.c r.s r.r=some (decide (RlV r)):=by
 by_cases h:RlV r<;>simp only[h,decide_true,decide_false]<;>unfold RlV at h<;>unfold mW wj<;>grind
theorem E5(n:Nat)(c:Cl):mN n c.n c.f c.t c.h c.a c.b=some (decide (ClV c)):=by
 by_cases h:ClV c<;>simp only[h,decide_true,decide_false]<;>unfold ClV at h<;>unfold mN vY<;>grind
theorem fK{α:Type}{l:List α}{i:Nat}{x:α}(h:l[i]?=some x):l.drop i=x::l.drop (i+1):=by
 obtain⟨hl,rfl⟩:=List.getElem?_eq_some_iff.1 h;exact List.drop_eq_getElem_cons hl
theorem FH(n:Nat)(r:Rl)(c:Cl)(es:List Ce)(hn:25<n):jU n r.a r.c r.s r.r c.n c.f c.t c.h c.a c.b (ceL es)=some (decide (f9 r c es)):=by
 unfold jU wH f9;rw[EK,E5];by_cases h1:RlV r
 ·by_cases h2:ClV c
  ·by_cases h3:es.length<=20
   ·have c3:¬(20:Int)<(es.length:Int):=by omega
    simp only[h1,h2,h3,decide_true,Option.bind_some,Bool.not_true,cond_false,List.length_map,c3,decide_false,true_and];refine eE (fun s=>∃(i:Nat) (last:Int),s=(last,(i:Int))/\i<=es.length/\(EvV c.a es↔EvV last (es.drop i))) (fun s=>es.length-s.2.toNat) _ ?_ n _ ⟨0,c.a,rfl,by omega,by simp⟩ (by simp;omega)
    rintro _ go ⟨i,last,rfl,hi,hE⟩ ih;simp only
    unfold vQ;by_cases hlt:i<es.length
    ·obtain⟨e,he⟩:=aV hlt
     have hc:∀k,cA (ceL es) (i:Int) k=(ceR e).getD k (.int 0):=fun k=>cD (by simpa using he)
     have g0:cI (ceL es) i 0=e.k:=by simp only[cI,hc];rfl
     have g1:cI (ceL es) i 1=e.a:=by simp only[cI,hc];rfl
     have g2:cI (ceL es) i 2=e.r:=by simp only[cI,hc];rfl
     have c1:(i:Int)<(es.length:Int):=by omega
     have c2:(0:Int)<=(i:Int):=by omega
     have c4:(-9223372036854775808:Int)<=(i:Int)+1:=by omega
     have c5:(i:Int)+1<=(9223372036854775807:Int):=by omega
     simp only[g0,g1,g2,List.length_map,c1,c2,c4,c5,decide_true,cond_true,Bool.and_self];rw[fK he]at hE;have hgo:CeV last e->go (e.a,(i:Int)+1)=some (decide (EvV c.a es)):=fun hv=>ih _ ⟨i+1,e.a,by simp,by omega,by rw[hE];exact⟨fun h=>h.2,fun h=>⟨hv,h⟩⟩⟩ (by simp only;omega)
     by_cases hv:CeV last e
     ·rw[hgo hv]
      unfold CeV at hv;grind
     ·have:¬EvV c.a es:=fun h=>hv (hE.1 h).1
      simp only[this,decide_false];unfold CeV at hv;grind
    ·have h0:i=es.length:=by omega
     have c1:¬(i:Int)<(es.length:Int):=by omega
     simp only[List.length_map,c1,decide_false,cond_false];subst h0;rw[List.drop_length]at hE;have:EvV c.a es:=hE.2 trivial
     simp[this]
   ·have c3:(20:Int)<(es.length:Int):=by omega
    simp only[h1,h2,h3,decide_true,Option.bind_some,Bool.not_true,cond_false,List.length_map,c3,cond_true,true_and,false_and,decide_false]
  ·simp[h1,h2]
 ·simp[h1]
abbrev stT(x:Cs):Int×Int×Int:=(x.s,x.f,x.n)
theorem jw(n:Nat)(r:Rl)(hr:RlV r)(s f:Int)(h1:0<=f)(h2:f<=100000000):ck n r.a r.c r.s r.r s f=some (stT (st r s f)):=by
 unfold ck uo stT st dur;unfold RlV at hr;grind
theorem wP(n:Nat)(s:Int):jY n s=some (aft s):=by
 unfold jY wN aft;grind
theorem CJ(n:Nat)(c:Cl)(s:Int)(e:Ce):ec n c.n c.f c.t c.h c.a c.b s e.k e.a e.r=some (bec c.b s e):=by
 unfold ec rj bec;grind
theorem kU{out:List Cs}{now:Cs}(h:out.getLast?=some now)(k:Nat):cA (csL out) ((out.length:Int)-1) k=(csR now).getD k (.int 0):=by
 refine cD ?_
 rw[List.getLast?_eq_getElem?]at h;rw[show((out.length:Int)-1).toNat=out.length-1 by omega]
 exact h
theorem Gz{out:List Cs}{now:Cs}(h:out.getLast?=some now):1<=out.length:=by
 cases out with
 |nil=>cases h
 |cons x l=>simp
structure RunI (r:Rl) (c:Cl) (es:List Ce) (u:Int) (out:List Cs) (now:Cs) (i:Nat):Prop where
 le:i<=es.length
 last:out.getLast?=some now
 form:∃s f,now=st r s f/\0<=f/\f<=40000000
 rest:db u (aF r c es)=out++db u (tl r c.b now (es.drop i))
 evs:∃l,0<=l/\EvV l (es.drop i)
theorem RunI.len{r:Rl}{c:Cl}{es:List Ce}{u:Int}{out:List Cs}{now:Cs}{i:Nat}(h:RunI r c es u out now i)(hl:es.length<=20):out.length<=110:=by
 have h1:(db u (aF r c es)).length<=(aF r c es).length:=by unfold db;exact List.Sublist.length_le (List.takeWhile_sublist _)
 have h2:=IL (r:=r) (b:=c.b) _ (x0 r c) es (Nat.le_refl _);have h3:=gW (x0 r c).s;have h4:=congrArg List.length h.rest;unfold aF at h1 h4;simp only[List.length_cons,List.length_append]at h1 h4;omega
theorem Gd{r:Rl}(hr:RlV r){s f:Int}(h0:0<=f):0<=(st r s f).n↔act (st r s f):=by
 unfold act;by_cases h:1<=s/\s<=4
 ·have:=(sQ hr (f:=f) h).1
  exact⟨fun _=>h,fun _=>by omega⟩
 ·simp only[st]
  rw[if_neg h];exact⟨fun h'=>by omega,fun h'=>absurd h' h⟩
theorem LI{u:Int}{l:List Cs}(h:∀x∈l,u<x.f):db u l=[]:=by
 cases l with
 |nil=>rfl
 |cons x l=>
  have:=h x (List.mem_cons_self ..)
  unfold db;rw[List.takeWhile_cons];simp;omega
theorem tG{u:Int}{x:Cs}{l:List Cs}(h:x.f<=u):db u (x::l)=x::db u l:=by
 unfold db;rw[List.takeWhile_cons];simp[h]
theorem RunI.auto{r:Rl}{c:Cl}{es:List Ce}{u:Int}{out:List Cs}{now:Cs}{i:Nat}(hr:RlV r)(hu:u<=40000000)(h:RunI r c es u out now i)(ha:act now)(h1:∀e,es[i]?=some e->now.n<=e.a)(h2:now.n<=u):
  RunI r c es u (out++[st r (aft now.s) now.n]) (st r (aft now.s) now.n) i:=by
 obtain⟨s,f,hf,f0,f1⟩:=h.form;have h0:0<=now.n:=by rw[hf];exact(Gd hr f0).2 (hf▸ha)
 refine⟨h.le,by simp,⟨_,_,rfl,h0,by omega⟩,?_,h.evs⟩
 rw[h.rest];have:tl r c.b now (es.drop i)=st r (aft now.s) now.n::tl r c.b (st r (aft now.s) now.n) (es.drop i):=by
  cases hd:es.drop i with
  |nil=>exact xA ha
  | cons e rest=>
   have he:es[i]?=some e:=by
    have:=congrArg (fun l=>l[0]?) hd
    simpa using this
   exact uq ⟨ha,h1 e he⟩
 rw[this,tG (by exact h2)]
 simp
theorem RunI.done{r:Rl}{c:Cl}{es:List Ce}{u:Int}{out:List Cs}{now:Cs}{i:Nat}(hr:RlV r)(h:RunI r c es u out now i)(h1:act now->u<now.n)(h2:∀e,es[i]?=some e->u<e.a):db u (aF r c es)=out:=by
 rw[h.rest];obtain⟨l,l0,hE⟩:=h.evs;have:db u (tl r c.b now (es.drop i))=[]:=by
  refine LI fun x hx=>?_
  have:=NO hr (b:=c.b) (now:=now) (es:=es.drop i) (m:=u+1) (fun ha=>by have:=h1 ha;omega) (fun e he=>?_) x hx
  ·omega
  ·cases hd:es.drop i with
   |nil=>rw[hd]at he;cases he
   | cons y rest=>
    have hy:es[i]?=some y:=by
     have:=congrArg (fun l=>l[0]?) hd
     simpa using this
    have h3:=h2 y hy;rw[hd]at he hE;rcases List.mem_cons.1 he with rfl|he
    ·omega
    ·have:=(G4 hE.2 e he).1;omega
 rw[this];simp
theorem RunI.event{r:Rl}{c:Cl}{es:List Ce}{u:Int}{out:List Cs}{now:Cs}{i:Nat}{e:Ce}(h:RunI r c es u out now i)(he:es[i]?=some e)(h1:¬(act now/\now.n<=e.a))(hb:¬bec c.b now.s e<0)(h2:e.a<=u):
  RunI r c es u (out++[st r (bec c.b now.s e) e.a]) (st r (bec c.b now.s e) e.a) (i+1):=by
 obtain⟨l,l0,hE⟩:=h.evs;have hd:=fK he;rw[hd]at hE;have hlt:=(List.getElem?_eq_some_iff.1 he).1;refine⟨hlt,by simp,⟨_,_,rfl,by have:=hE.1.2.2.1;omega,by have:=hE.1.2.2.2.1;omega⟩,?_,⟨e.a,by have:=hE.1.2.2.1;omega,hE.2⟩⟩
 rw[h.rest,hd,BI h1 hb,tG (by exact h2)]
 simp
theorem RunI.void{r:Rl}{c:Cl}{es:List Ce}{u:Int}{out:List Cs}{now:Cs}{i:Nat}{e:Ce}(h:RunI r c es u out now i)(he:es[i]?=some e)(h1:¬(act now/\now.n<=e.a))(hb:bec c.b now.s e<0):RunI r c es u out now (i+1):=by
 obtain⟨l,l0,hE⟩:=h.evs;have hd:=fK he;rw[hd]at hE;have hlt:=(List.getElem?_eq_some_iff.1 he).1;refine⟨hlt,h.last,h.form,?_,⟨e.a,by have:=hE.1.2.2.1;omega,hE.2⟩⟩
 rw[h.rest,hd,zk h1 hb]
theorem OB{n:Nat}{r:Rl}{c:Cl}{es:List Ce}{u:Int}{out:List Cs}{now:Cs}{i:Nat}{go:gh->Option bX}(hr:RlV r)(hu2:u<=40000000)(hlen:es.length<=20)(hI:RunI r c es u out now i)(h0:i=es.length)(hn:rk now.s<n)(vd:Lv)(hv:True):
  ∃q:Lv×Lv,(bif decide ((i:Int)<(es.length:Int))then none else ab (fun go1 s=>sW n go go1 r.a r.c r.s r.r c.n c.f c.t c.h c.a c.b (ceL es) u vd (i:Int) s.1 s.2.1 s.2.2.2) n (csL out,now.s,now.f,now.n))=some q/\q.1=csL (db u (aF r c es)):=by
 have c7:¬(i:Int)<(es.length:Int):=by omega
 have hnone:∀e,¬es[i]?=some e:=fun e he=>by have:=(List.getElem?_eq_some_iff.1 he).1;omega
 simp only[c7,decide_false,cond_false];refine eW (fun s=>∃(out:List Cs) (now:Cs),s=(csL out,now.s,now.f,now.n)/\RunI r c es u out now i) (fun s=>rk s.2.1) (fun q:Lv×Lv=>q.1=csL (db u (aF r c es))) ?_ n _ ⟨out,now,rfl,hI⟩ hn
 rintro _ go1 ⟨out,now,rfl,hI⟩ ih1;simp only
 unfold sW;have hol:=hI.len hlen;obtain⟨s,f,hf,f0,f1⟩:=hI.form;have hact:=Gd hr (s:=s) f0;rw[<-hf]at hact;have c11:((out.length:Int)+1)*24<=140737488355328:=by omega
 have hne:(i:Int)=((ceL es).length:Int):=by simp;omega
 rw[show decide ((i:Int)=((ceL es).length:Int))=true from decide_eq_true hne]
 simp only[List.length_map,c11,decide_true];simp only[cond_true,wP,Option.bind_some];by_cases hn0:0<=now.n
 ·simp only[hn0,decide_true,cond_true]
  by_cases hnm:now.n<=u
  ·simp only[hnm,decide_true,cond_true,jw n r hr (aft now.s) now.n hn0 (by omega),Option.bind_some,stT]
   exact ih1 _ ⟨out++[st r (aft now.s) now.n],_,by simp,hI.auto hr hu2 (hact.1 hn0) (fun e' he'=>absurd he' (hnone e')) hnm⟩ (fq (hact.1 hn0))
  ·simp only[hnm,decide_false,cond_false]
   exact⟨_,rfl,by rw[hI.done hr (fun _=>by omega) (fun e' he'=>absurd he' (hnone e'))]⟩
 ·simp only[hn0,decide_false,cond_false]
  exact⟨_,rfl,by rw[hI.done hr (fun h=>absurd (hact.2 h) hn0) (fun e' he'=>absurd he' (hnone e'))]⟩
theorem Jn(n:Nat)(r:Rl)(c:Cl)(es:List Ce)(u:Int)(h:f9 r c es)(hn:200<n)(hu1:c.a<=u)(hu2:u<=40000000):
  ∃vd,nP n r.a r.c r.s r.r c.n c.f c.t c.h c.a c.b (ceL es) u=some (csL (db u (aF r c es)),vd):=by
 obtain⟨hr,hcl,hlen,hE⟩:=h;have ha0:0<=c.a/\c.a<=10000000:=by unfold ClV at hcl;omega
 have main:∃q:Lv×Lv,nP n r.a r.c r.s r.r c.n c.f c.t c.h c.a c.b (ceL es) u=some q/\q.1=csL (db u (aF r c es)):=by
  unfold nP Ah;rw[jw n r hr 1 c.a (by omega) (by omega)]
  simp only[Option.bind_some];refine eW (fun s=>∃(out:List Cs) (vd:Lv) (i:Nat) (now:Cs),s=(csL out,vd,(i:Int))/\vd.length<=i/\RunI r c es u out now i) (fun s=>es.length+1-s.2.2.toNat) (fun q:Lv×Lv=>q.1=csL (db u (aF r c es))) ?_ n _
   ⟨[x0 r c],[],0,x0 r c,rfl,by simp,by omega,rfl,⟨1,c.a,rfl,by omega,by omega⟩,by unfold aF;rw[tG (by exact hu1)];simp,⟨c.a,by omega,by simpa using hE⟩⟩ (by simp;omega)
  rintro _ go ⟨out,vd,i,now,rfl,hvd,hI⟩ ih;simp only
  unfold zT Ak;have hpos:=Gz hI.last;have hol:=hI.len hlen;have hle:=hI.le;have c1:(i:Int)<=(es.length:Int):=by omega
  have c2:(-9223372036854775808:Int)<=(out.length:Int)-1:=by omega
  have c3:(out.length:Int)-1<=(9223372036854775807:Int):=by omega
  have c4:(0:Int)<=(out.length:Int)-1:=by omega
  have c5:(out.length:Int)-1<(out.length:Int):=by omega
  have l0:cI (csL out) ((out.length:Int)-1) 0=now.s:=by simp only[cI,kU hI.last];rfl
  have l1:cI (csL out) ((out.length:Int)-1) 1=now.f:=by simp only[cI,kU hI.last];rfl
  have l2:cI (csL out) ((out.length:Int)-1) 2=now.n:=by simp only[cI,kU hI.last];rfl
  have c6:(0:Int)<=(i:Int):=by omega
  have c8:(-9223372036854775808:Int)<=(i:Int)+1:=by omega
  have c9:(i:Int)+1<=(9223372036854775807:Int):=by omega
  have c10:((vd.length:Int)+1)*8<=140737488355328:=by omega
  simp only[List.length_map,c1,c2,c3,c4,c5,c6,l0,l1,l2,decide_true,cond_true,Bool.and_self];have stat:∀(out:List Cs) (now:Cs),RunI r c es u out now i->∃s f,now=st r s f/\0<=f/\f<=40000000:=fun _ _ h=>h.form
  by_cases hlt:i<es.length
  ·as_aux_lemma=>
   have c7:(i:Int)<(es.length:Int):=by omega
   obtain⟨e,he⟩:=aV hlt;have hc:∀k,cA (ceL es) (i:Int) k=(ceR e).getD k (.int 0):=fun k=>cD (by simpa using he)
   have g0:cI (ceL es) i 0=e.k:=by simp only[cI,hc];rfl
   have g1:cI (ceL es) i 1=e.a:=by simp only[cI,hc];rfl
   have g2:cI (ceL es) i 2=e.r:=by simp only[cI,hc];rfl
   simp only[c7,decide_true,cond_true];refine eW (fun s=>∃(out:List Cs) (now:Cs),s=(csL out,now.s,now.f,now.n)/\RunI r c es u out now i) (fun s=>rk s.2.1) (fun q:Lv×Lv=>q.1=csL (db u (aF r c es))) ?_ n _ ⟨out,now,rfl,hI⟩ (by have:=gW now.s;simp only;omega)
   rintro _ go1 ⟨out,now,rfl,hI⟩ ih1;simp only
   unfold zM;have hol:=hI.len hlen;obtain⟨s,f,hf,f0,f1⟩:=hI.form;have hact:=Gd hr (s:=s) f0;rw[<-hf]at hact;have e0:0<=e.a/\e.a<=20000000:=by
    obtain⟨l,l0,hE'⟩:=hI.evs;rw[fK he]at hE';have:=hE'.1.2.2
    omega
   have c11:((out.length:Int)+1)*24<=140737488355328:=by omega
   have hne:¬(i:Int)=(es.length:Int):=by omega
   simp only[g0,g1,g2,List.length_map,c8,c9,c10,c11,hne,decide_true,decide_false,cond_true,cond_false,Bool.and_self,wP,CJ,Option.bind_some];have tail:¬(act now/\now.n<=aB e.a u)->∃q:Lv×Lv,(bif decide (u<e.a)then some (csL out,vd)else bif decide (bec c.b now.s e<0)then go (csL out,vd++[[AV.int (i:Int)]],(i:Int)+1)else
     (ck n r.a r.c r.s r.r (bec c.b now.s e) e.a).bind fun y23=>go (csL out++[[AV.int y23.1,AV.int y23.2.1,AV.int y23.2.2]],vd,(i:Int)+1))=some q/\q.1=csL (db u (aF r c es)):=fun hna=>by
    by_cases hue:u<e.a
    ·simp only[hue,decide_true,cond_true]
     refine⟨_,rfl,?_⟩
     have hm:aB e.a u=u:=by unfold aB;rw[if_pos hue]
     rw[hm]at hna;rw[hI.done hr (fun ha=>by have:¬now.n<=u:=fun h=>hna ⟨ha,h⟩;omega) (fun e' he'=>by rw[he]at he';cases he';exact hue)]
    ·have hm:aB e.a u=e.a:=by unfold aB;rw[if_neg hue]
     rw[hm]at hna;simp only[hue,decide_false,cond_false];by_cases hb:bec c.b now.s e<0
     ·simp only[hb,decide_true,cond_true]
      exact ih _ ⟨out,vd++[[AV.int (i:Int)]],i+1,now,by simp,by simp;omega,hI.void he hna hb⟩ (by simp only;omega)
     ·simp only[hb,decide_false,cond_false,jw n r hr (bec c.b now.s e) e.a e0.1 (by omega),Option.bind_some,stT]
      exact ih _ ⟨out++[st r (bec c.b now.s e) e.a],vd,i+1,_,by simp,by omega,hI.event he hna hb (by omega)⟩ (by simp only;omega)
   by_cases hn0:0<=now.n
   ·simp only[hn0,decide_true,cond_true]
    by_cases hnm:now.n<=aB e.a u
    ·have hle:now.n<=e.a/\now.n<=u:=by unfold aB at hnm;split at hnm<;>omega
     simp only[hnm,decide_true,cond_true,jw n r hr (aft now.s) now.n hn0 (by omega),Option.bind_some,stT]
     exact ih1 _ ⟨out++[st r (aft now.s) now.n],_,by simp,hI.auto hr hu2 (hact.1 hn0) (fun e' he'=>by rw[he]at he';cases he';exact hle.1) hle.2⟩ (fq (hact.1 hn0))
    ·simp only[hnm,decide_false,cond_false]
     exact tail fun h=>hnm h.2
   ·simp only[hn0,decide_false,cond_false]
    exact tail fun h=>hn0 (hact.2 h.1)
  ·have c7:¬(i:Int)<(es.length:Int):=by omega
   have:=OB (n:=n) (go:=go) hr hu2 hlen hI (by omega) (by have:=gW now.s;omega) vd trivial
   simp only[c7,decide_false,cond_false]at this⊢;exact this
 obtain⟨⟨q1,q2⟩,h1,h2⟩:=main;exact⟨q2,by rw[h1];simp only at h2;rw[h2]⟩
theorem B8(n:Nat)(r:Rl)(c:Cl)(es:List Ce)(t:Int)(hn:200<n):ic n r.a r.c r.s r.r c.n c.f c.t c.h c.a c.b (ceL es) t=some ((outR r c es t).1.s,(outR r c es t).1.f,(outR r c es t).1.n,(outR r c es t).2):=by
 unfold ic sx outR rB;rw[FH n r c es (by omega)]
 by_cases hv:f9 r c es
 ·simp only[hv,decide_true,Option.bind_some,Bool.not_true,cond_false,true_and]
  by_cases h0:0<=t
  ·by_cases h1:t<=20000000
   ·by_cases h2:t<c.a
    ·simp only[h0,h1,h2,decide_true,Bool.not_true,cond_false,cond_true,and_self,if_true]
     have:db t (aF r c es)=[]:=by
      unfold aF db;rw[List.takeWhile_cons];simp[x0,st];omega
     unfold jL;rw[this];rfl
    ·obtain⟨vd,hrun⟩:=Jn n r c es t hv hn (by omega) (by omega)
     simp only[h0,h1,h2,hrun,decide_true,decide_false,Bool.not_true,cond_false,cond_true,and_self,if_true,Option.bind_some];unfold jL;obtain⟨out,hout⟩:∃out,out=db t (aF r c es):=⟨_,rfl⟩
     rw[<-hout];have hne:out≠[]:=by
      rw[hout];unfold aF;rw[tG (by simp[x0,st];omega)]
      simp
     obtain⟨now,hl⟩:∃now,out.getLast?=some now:=⟨_,List.getLast?_eq_some_getLast hne⟩
     have hpos:=Gz hl;have hlen:out.length<=110:=by
      have k1:(db t (aF r c es)).length<=(aF r c es).length:=by unfold db;exact List.Sublist.length_le (List.takeWhile_sublist _)
      have k2:=IL (r:=r) (b:=c.b) _ (x0 r c) es (Nat.le_refl _);have k3:=gW (x0 r c).s;have k4:=hv.2.2.1;rw[<-hout]at k1;unfold aF at k1;simp only[List.length_cons]at k1;omega
     have c2:(-9223372036854775808:Int)<=(out.length:Int)-1:=by omega
     have c3:(out.length:Int)-1<=(9223372036854775807:Int):=by omega
     have c4:(0:Int)<=(out.length:Int)-1:=by omega
     have c5:(out.length:Int)-1<(out.length:Int):=by omega
     have l0:cI (csL out) ((out.length:Int)-1) 0=now.s:=by simp only[cI,kU hl];rfl
     have l1:cI (csL out) ((out.length:Int)-1) 1=now.f:=by simp only[cI,kU hl];rfl
     have l2:cI (csL out) ((out.length:Int)-1) 2=now.n:=by simp only[cI,kU hl];rfl
     simp only[List.length_map,c2,c3,c4,c5,l0,l1,l2,decide_true,Bool.and_self];simp only[cond_true,hl,Option.getD_some]
   ·have:¬(0<=t/\t<=20000000):=fun h=>h1 h.2
    simp[h0,h1]
  ·simp[h0]
 ·simp[hv]
def mr(v:Int):Int:=if pk (Int.tdiv v 16) 4=3 then 1+pk v 86400 else 1+pk v 12
theorem rV(v:Int):1<=mr v/\mr v<=86400:=by
 have h1:=aX v (k:=86400) (by decide)
 have h2:=aX v (k:=12) (by decide)
 unfold mr;split<;>omega
theorem Bp{v:Int}(h:ax v):ax (Int.tdiv v 16):=by
 unfold ax at h⊢
 rcases Int.le_total 0 v with h0|h0
 ·rw[Int.tdiv_eq_ediv_of_nonneg h0];omega
 ·obtain⟨w,rfl⟩:∃w,v= -w:=⟨-v,by omega⟩
  rw[Int.neg_tdiv,Int.tdiv_eq_ediv_of_nonneg (by omega)];omega
theorem zy(n:Nat)(a b c d:Int)(ha:ax a)(hb:ax b)(hc:ax c)(hd:ax d):iO n a b c d=some (mr a,mr b,mr c,mr d):=by
 have key:∀v,(0<=pk v 12/\pk v 12<12)/\0<=pk v 86400/\pk v 86400<86400:=fun v=>⟨aX v (by decide),aX v (by decide)⟩
 have ta:=Bp ha;have tb:=Bp hb;have tc:=Bp hc;have td:=Bp hd;unfold iO oK ou mr;have p4:(0:Int)<4:=by decide
 have p12:(0:Int)<12:=by decide
 have pd:(0:Int)<86400:=by decide
 simp only[aM n ha p12,aM n hb p12,aM n hc p12,aM n hd p12,aM n ha pd,aM n hb pd,aM n hc pd,aM n hd pd,
  aM n ta p4,aM n tb p4,aM n tc p4,aM n td p4,Option.bind_some]
 have ka:=key a;have kb:=key b;have kc:=key c;have kd:=key d;unfold ax at ta tb tc td;generalize pk (Int.tdiv a 16) 4=x1
 generalize pk (Int.tdiv b 16) 4=x2
 generalize pk (Int.tdiv c 16) 4=x3
 generalize pk (Int.tdiv d 16) 4=x4
 generalize Int.tdiv a 16=y1 at *
 generalize Int.tdiv b 16=y2 at *
 generalize Int.tdiv c 16=y3 at *
 generalize Int.tdiv d 16=y4 at *
 generalize pk a 12=a1 at *
 generalize pk b 12=b1 at *
 generalize pk c 12=c1 at *
 generalize pk d 12=d1 at *
 generalize pk a 86400=a2 at *
 generalize pk b 86400=b2 at *
 generalize pk c 86400=c2 at *
 generalize pk d 86400=d2 at *
 have r1:∀z:Int,0<=z->z<86400->(decide ((-9223372036854775808:Int)<=1+z)&&decide (1+z<=9223372036854775807))=true:=fun z h1 h2=>by simp;omega
 simp only[r1 a1 ka.1.1 (by omega),r1 b1 kb.1.1 (by omega),r1 c1 kc.1.1 (by omega),r1 d1 kd.1.1 (by omega),r1 a2 ka.2.1 (by omega),r1 b2 kb.2.1 (by omega),r1 c2 kc.2.1 (by omega),r1 d2 kd.2.1 (by omega),ta,tb,tc,td,decide_true,Bool.and_self]
 simp only[cond_true];by_cases h1:x1=3<;>by_cases h2:x2=3<;>by_cases h3:x3=3<;>by_cases h4:x4=3<;>simp only[h1,h2,h3,h4,decide_true,decide_false,if_true,if_false]<;>rfl
end Go.Proofs.YtbfkkigbedmhgaaGreat
namespace Go.Proofs.YtbfkkigbedmhgaaGreat
open Go Go.Sx Go.Dial.Lif
theorem I6{es:List Ev}(h:All first es){t:Int}{i:Nat}{e:Ev}(he:es[i]?=some e):i<cc es t↔e.a<=t:=by
 obtain⟨hl,rfl⟩:=List.getElem?_eq_some_iff.1 he;constructor
 ·intro h;exact OS h
 ·intro ht
  rcases Nat.lt_or_ge i (cc es t)with h1|h1
  ·exact h1
  ·have h2:=Oh (es:=es) (t:=t) (by omega)
   have h3:=KS h h1 hl;omega
theorem xg(n:Nat)(es:List Ev)(t:Int)(hn:es.length<n):pq n (evL es) t=some (if kI es t then((atL es t).s,(atL es t).h,(atL es t).e,(atL es t).t,true)else(0,0,0,0,false)):=by
 unfold pq En;rw[uP n es hn];simp only[Option.bind_some,oi];by_cases hL:gk es
 ·by_cases ht:0<=t/\t<=10000000
  ·have hA:kI es t:=⟨hL,ht⟩
   simp only[m5 hL,hA,ht.1,ht.2,decide_true,Bool.not_true,cond_false,cond_true,if_true];have hle:=Db es t;have h40:=hL.2;refine eE (fun s=>∃i j:Nat,s=((i:Int),(j:Int))/\i<=cc es t/\cc es t<=j/\j<=es.length) (fun s=>(s.2-s.1).toNat) _ ?_ n _ ⟨0,es.length,by simp,by omega,by omega,by omega⟩ (by simp;omega)
   rintro _ go ⟨i,j,rfl,h1,h2,h3⟩ ih;simp only
   unfold Eu;by_cases hij:i<j
   ·have c1:(i:Int)<(j:Int):=by omega
    have c2:(-9223372036854775808:Int)<=(i:Int)+j:=by omega
    have c3:(i:Int)+j<=(9223372036854775807:Int):=by omega
    obtain⟨k,hk⟩:∃k,k=(i+j) / 2:=⟨_,rfl⟩
    have hh:IntKind.wrap .i64 (jh .shr .u64 (IntKind.wrap .u64 ((i:Int)+j)) 1)=(k:Int):=by
     rw[QB (by omega) (by omega) (by omega)];omega
    have c4:(0:Int)<=(k:Int):=by omega
    have c5:(k:Int)<(es.length:Int):=by omega
    have c6:(-9223372036854775808:Int)<=(k:Int)+1:=by omega
    have c7:(k:Int)+1<=(9223372036854775807:Int):=by omega
    have c8:(0:Int)<=1:=by omega
    obtain⟨e,he⟩:=aV (show k<es.length by omega)
    have hc:cI (evL es) k 1=e.a:=by simp only[cI];rw[cD (by simpa using he)];rfl
    have hu:=I6 hL.1 (t:=t) he;simp only[c1,c2,c3,hh,c4,c5,c6,c7,c8,hc,List.length_map,decide_true,cond_true,Bool.and_self];by_cases hlt:t<e.a
    ·simp only[hlt,decide_true,Bool.not_true,cond_false]
     refine ih _ ⟨i,k,rfl,h1,?_,by omega⟩ (by simp only;omega)
     have:¬k<cc es t:=fun h=>by have:=hu.1 h;omega
     omega
    ·simp only[hlt,decide_false,Bool.not_false,cond_true]
     refine ih _ ⟨k+1,j,rfl,?_,h2,h3⟩ (by simp only;omega)
     have:=hu.2 (by omega)
     omega
   ·have c1:¬(i:Int)<(j:Int):=by omega
    have c2:(0:Int)<=(i:Int):=by omega
    have c3:(i:Int)<=(es.length:Int):=by omega
    have hi:i=cc es t:=by omega
    have hT:List.take (i:Int).toNat (evL es)=evL (es.take i):=by
     rw[<-List.map_take];rfl
    simp only[c1,c2,c3,List.length_map,decide_true,decide_false,cond_true,cond_false,hT];rw[uP n (es.take i) (by simp;omega)]
    simp only[Option.bind_some,oi,m5 (L2 hL i)];unfold atL;rw[<-hi]
  ·have hA:¬kI es t:=fun h=>ht h.2
   simp only[m5 hL,hA,decide_true,Bool.not_true,cond_false,if_false];grind
 ·have hA:¬kI es t:=fun h=>hL h.1
  simp[DJ hL,hA]
theorem xc(n:Nat)(es:List Ev)(t:Int)(hn:es.length<n):ph n (evL es) t=some (atT es t):=by
 unfold ph Ej;rw[xg n es t hn];unfold atT atR;by_cases h:kI es t<;>simp[h,zero]
theorem Fq(n:Nat)(l:Ln)(x:Int×Int×Int)(hl:Vld l)(h1:ax x.1)(h2:ax x.2.1)(h3:ax x.2.2):∃e:Ev,jV n l.s l.h l.e l.t x.1 x.2.1 x.2.2=some (e.k,e.a,e.h):=by
 obtain⟨s,g,p,t⟩:=l;obtain⟨x,y,z⟩:=x;unfold Vld at hl;simp only at hl h1 h2 h3⊢
 have q5:=aX x (k:=5) (by decide)
 have q3:=aX x (k:=3) (by decide)
 have q2:=aX x (k:=2) (by decide)
 have q1:=aX x (k:=1) (by decide)
 have r6:=aX y (k:=6) (by decide)
 have w5:=aX z (k:=5) (by decide)
 have key:∃w:Int×Int×Int,jV n s g p t x y z=some w:=by
  unfold jV wK wl;simp only[gE n h1 (show(0:Int)<5 by decide),gE n h1 (show(0:Int)<3 by decide),gE n h1 (show(0:Int)<2 by decide),gE n h1 (show(0:Int)<1 by decide),
   gE n h2 (show(0:Int)<6 by decide),gE n h3 (show(0:Int)<5 by decide),Option.bind_some]
  generalize pk x 5=a5 at *
  generalize pk x 3=a3 at *
  generalize pk x 2=a2 at *
  generalize pk x 1=a1 at *
  generalize pk y 6=b at *
  generalize pk z 5=c at *
  have n1:(-9223372036854775808:Int)<=b+2592000:=by omega
  have n2:b+2592000<=(9223372036854775807:Int):=by omega
  have n3:(-9223372036854775808:Int)<=t+(b+2592000):=by omega
  have n4:t+(b+2592000)<=(9223372036854775807:Int):=by omega
  have n5:(-9223372036854775808:Int)<=t+b:=by omega
  have n6:t+b<=(9223372036854775807:Int):=by omega
  have n7:(-9223372036854775808:Int)<=c+1:=by omega
  have n8:c+1<=(9223372036854775807:Int):=by omega
  simp only[q5,q3,q2,q1,n1,n2,n3,n4,n5,n6,n7,n8,decide_true,Bool.and_self,cond_true];cases decide (s=1)<;>cases decide (s=2)<;>cases decide (s=3)<;>simp only[cond_true,cond_false]<;>(repeat' (split<;>try exact⟨_,rfl⟩))<;>first|exact⟨_,rfl⟩|(simp only[Bool.cond_eq_ite];repeat' (split<;>try exact⟨_,rfl⟩))
 obtain⟨w,hw⟩:=key;exact⟨⟨w.1,w.2.1,w.2.2⟩,hw⟩
theorem Hf(n:Nat)(xs:List (Int×Int×Int))(hx:∀x∈xs,ax x.1/\ax x.2.1/\ax x.2.2)(hn:16<n):∃es,lq n (xs.map bx)=some (evL es)/\All first es/\es.length<=16:=by
 have main:∃r,lq n (xs.map bx)=some r/\∃es,r=evL es/\All first es/\es.length<=16:=by
  unfold lq xK;refine eW (fun s=>∃(i:Nat) (es:List Ev) (l:Ln),s=(evL es,(i:Int),l.s,l.h,l.e,l.t)/\All first es/\es.length<=i/\i<=16/\l=fin first es) (fun s=>16-s.2.1.toNat) (fun r=>∃es,r=evL es/\All first es/\es.length<=16) ?_ n _ ⟨0,[],first,rfl,trivial,by simp,by omega,rfl⟩ (by simp;omega)
  rintro _ go ⟨i,es,l,rfl,hA,hle,hi,hl⟩ ih;simp only
  unfold xx;have done:∃r,some (evL es)=some r/\∃es,r=evL es/\All first es/\es.length<=16:=⟨_,rfl,es,rfl,hA,by omega⟩
  by_cases h1:i<xs.length
  ·by_cases h2:i<16
   ·obtain⟨x,hxe⟩:=aV h1
    have hc:∀k,cA (xs.map bx) (i:Int) k=(bx x).getD k (.int 0):=fun k=>cD (by simpa using hxe)
    have g0:cI (xs.map bx) i 0=x.1:=by simp only[cI,hc];rfl
    have g1:cI (xs.map bx) i 1=x.2.1:=by simp only[cI,hc];rfl
    have g2:cI (xs.map bx) i 2=x.2.2:=by simp only[cI,hc];rfl
    obtain⟨b1,b2,b3⟩:=hx x (List.mem_of_getElem? hxe);have hv:Vld l:=by rw[hl];exact OJ Lm hA
    obtain⟨e,he⟩:=Fq n l x hv b1 b2 b3;have c1:(i:Int)<(xs.length:Int):=by omega
    have c2:(i:Int)<16:=by omega
    have c3:(0:Int)<=(i:Int):=by omega
    have c4:(-9223372036854775808:Int)<=(i:Int)+1:=by omega
    have c5:(i:Int)+1<=(9223372036854775807:Int):=by omega
    have c6:((es.length:Int)+1)*24<=140737488355328:=by omega
    simp only[g0,g1,g2,he,xi n l e,List.length_map,c1,c2,c3,c4,c5,c6,decide_true,cond_true,Bool.and_self,Option.bind_some,ku];by_cases hok:Ok l e
    ·simp only[uK hok,decide_true,cond_true]
     exact ih _ ⟨i+1,es++[e],nxt l e,by simp,by rw[uh];exact⟨hA,by rw[<-hl];exact⟨hok,trivial⟩⟩,by simp;omega,by omega,by rw[yO,<-hl];rfl⟩ (by simp only;omega)
    ·have e140:decide ((140:Int)=0)=false:=rfl
     simp only[jg hok,e140,cond_false];exact ih _ ⟨i+1,es,l,by simp,hA,by omega,by omega,hl⟩ (by simp only;omega)
   ·have c1:(i:Int)<(xs.length:Int):=by omega
    have c2:¬(i:Int)<16:=by omega
    simp only[List.length_map,c1,c2,decide_true,decide_false,cond_true,cond_false];exact done
  ·have c1:¬(i:Int)<(xs.length:Int):=by omega
   simp only[List.length_map,c1,decide_false,cond_false];exact done
 obtain⟨r,h1,es,rfl,h2,h3⟩:=main;exact⟨es,h1,h2,h3⟩
end Go.Proofs.YtbfkkigbedmhgaaGreat
namespace Go.Proofs.YtbfkkigbedmhgaaGreat
open Go Go.Sx Go.Dial.Clm
theorem Qb{v:Int}(h:ax v):ax (Int.tdiv v 4):=by
 unfold ax at h⊢
 rcases Int.le_total 0 v with h0|h0
 ·rw[Int.tdiv_eq_ediv_of_nonneg h0];omega
 ·obtain⟨w,rfl⟩:∃w,v= -w:=⟨-v,by omega⟩
  rw[Int.neg_tdiv,Int.tdiv_eq_ediv_of_nonneg (by omega)];omega
theorem MC{l:Int}{es:List Ce}{e:Ce}:EvV l (es++[e])↔EvV l es/\CeV ((es.getLast?.map (·.a)).getD l) e:=by
 induction es generalizing l with
 |nil=>simp[EvV]
 | cons x es ih=>
  simp only[List.cons_append,EvV,ih,and_assoc];cases es with
  |nil=>simp
  | cons y es=>
   have:((y::es).getLast?.map (·.a)).getD x.a=((x::y::es).getLast?.map (·.a)).getD l:=by
    rw[List.getLast?_cons_cons];cases h:(y::es).getLast? with
    |none=>simp at h
    |some z=>rfl
   rw[this]
theorem Qg{r:Rl}(hr:r.a<=86400/\r.c<=86400/\r.s<=86400/\r.r<=86400){c:Cl}{es:List Ce}{t:Int}(h0:c.a<=t)(ht:0<=t):(jL r c es t).n<=t+86400:=by
 have hd:∀s,dur r s<=86400:=fun s=>by unfold dur;split;omega;split;omega;split<;>omega
 have hst:∀s f,f<=t->0<=t->(st r s f).n<=t+86400:=fun s f hf ht=>by
  simp only[st];split
  ·have:=hd s;omega
  ·omega
 have hall:∀x∈aF r c es,∃s f,x=st r s f:=by
  intro x hx;unfold aF at hx;rcases List.mem_cons.1 hx with rfl|hx
  ·exact⟨_,_,rfl⟩
  ·exact Br (r:=r) (b:=c.b) (fun x=>∃s f,x=st r s f) (fun _ _=>True) (fun _ _ _ _ _ _=>⟨⟨_,_,rfl⟩,trivial⟩) (fun _ _ _ _ _ _=>trivial) (fun _ _ _ _ _ _=>⟨⟨_,_,rfl⟩,trivial⟩) (fun _ _ _=>⟨⟨_,_,rfl⟩,trivial⟩) _ _ _ (Nat.le_refl _) trivial x hx
 unfold jL;cases hl:(db t (aF r c es)).getLast? with
 |none=>simp only[Option.getD_none];omega
 | some x=>
  have hm:=List.mem_of_getLast? hl;have h1:x.f<=t:=by
   unfold db at hm;have:=List.all_eq_true.1 List.all_takeWhile x hm
   simpa using this
  have h2:x∈aF r c es:=by unfold db at hm;exact(List.takeWhile_sublist _).subset hm
  obtain⟨s,f,rfl⟩:=hall x h2;simp only[Option.getD_some];have:f<=t:=h1
  simp only[st];split
  ·have:=hd s;omega
  ·omega
def mrR(a b c d:Int):Rl:=⟨mr a,mr b,mr c,mr d⟩
theorem D1(a b c d:Int):(mrR a b c d).a<=86400/\(mrR a b c d).c<=86400/\(mrR a b c d).s<=86400/\(mrR a b c d).r<=86400:=by
 have:=rV a;have:=rV b;have:=rV c;have:=rV d
 unfold mrR;simp only;omega
theorem NW(a b c d:Int):RlV (mrR a b c d):=by
 have:=rV a;have:=rV b;have:=rV c;have:=rV d
 unfold RlV mrR;simp only;omega
theorem IH(n:Nat)(a b c d e0 e1 e2 e3 e4 e5:Int)(xs:List (Int×Int×Int))(ha:ax a)(hb:ax b)(hc:ax c)(hd:ax d)(h0:ax e0)(h1:ax e1)(h2:ax e2)(h3:ax e3)(h4:ax e4)(h5:ax e5)
  (hx:∀x∈xs,ax x.1/\ax x.2.1/\ax x.2.2) (hn:200<n):
  ∃(C:Cl) (es:List Ce),kZ n a b c d e0 e1 e2 e3 e4 e5 (xs.map bx)=some (mr a,mr b,mr c,mr d,C.n,C.f,C.t,C.h,C.a,C.b,ceL es)/\f9 (mrR a b c d) C es/\C.a<1000/\es.length<=10/\∀e∈es,e.a<=900000:=by
 obtain⟨y4,hy4⟩:∃y,y=pk e0 100000000:=⟨_,rfl⟩
 obtain⟨y5,hy5⟩:∃y,y=pk e1 8:=⟨_,rfl⟩
 obtain⟨y7,hy7⟩:∃y,y=pk e3 64:=⟨_,rfl⟩
 obtain⟨y8,hy8⟩:∃y,y=pk e4 1000:=⟨_,rfl⟩
 obtain⟨y9,hy9⟩:∃y,y=pk e5 2:=⟨_,rfl⟩
 obtain⟨y6,hy6⟩:∃y,y=pk e2 7:=⟨_,rfl⟩
 have b4:=aX e0 (k:=100000000) (by decide)
 have b5:=aX e1 (k:=8) (by decide)
 have b7:=aX e3 (k:=64) (by decide)
 have b8:=aX e4 (k:=1000) (by decide)
 have b6:=aX e2 (k:=7) (by decide)
 rw[<-hy4]at b4;rw[<-hy5]at b5;rw[<-hy7]at b7;rw[<-hy8]at b8;rw[<-hy6]at b6;obtain⟨C,hC⟩:∃C:Cl,C=⟨y4,y5,Int.tmod ((y5+1)+y6) 8,y7,y8,decide (y9=0)⟩:=⟨_,rfl⟩
 have hT:Int.tmod ((y5+1)+y6) 8=((y5+1)+y6) % 8:=Int.tmod_eq_emod_of_nonneg (by omega)
 have hCV:ClV C:=by rw[hC];unfold ClV;simp only[hT];omega
 have hCa:C.a=y8:=by rw[hC]
 have main:∃q:cP,kZ n a b c d e0 e1 e2 e3 e4 e5 (xs.map bx)=some q/\∃es,q=(mr a,mr b,mr c,mr d,C.n,C.f,C.t,C.h,C.a,C.b,ceL es)/\EvV C.a es/\es.length<=10/\∀e∈es,e.a<=900000:=by
  unfold kZ xo;have n1:(-9223372036854775808:Int)<=y5+1:=by omega
  have n2:y5+1<=(9223372036854775807:Int):=by omega
  have n3:(-9223372036854775808:Int)<=y5+1+y6:=by omega
  have n4:y5+1+y6<=(9223372036854775807:Int):=by omega
  simp only[zy n a b c d ha hb hc hd,aM n h0 (show(0:Int)<100000000 by decide),aM n h1 (show(0:Int)<8 by decide),aM n h3 (show(0:Int)<64 by decide),aM n h4 (show(0:Int)<1000 by decide),aM n h5 (show(0:Int)<2 by decide),aM n h2 (show(0:Int)<7 by decide),Option.bind_some,<-hy4,<-hy5,<-hy6,<-hy7,<-hy8,<-hy9,n1,n2,n3,n4,decide_true,Bool.and_self]
  simp only[cond_true];refine eW (fun s=>∃(es:List Ce) (last:Int) (i:Nat),s=(ceL es,last,(i:Int))/\es.length=i/\i<=10/\EvV C.a es/\last=(es.getLast?.map (·.a)).getD C.a/\C.a<=last/\last<=1000+86402*i/\∀e∈es,e.a<=900000) (fun s=>10-s.2.2.toNat) (fun q=>∃es,q=(mr a,mr b,mr c,mr d,C.n,C.f,C.t,C.h,C.a,C.b,ceL es)/\EvV C.a es/\es.length<=10/\∀e∈es,e.a<=900000) ?_ n _
   ⟨[],y8,0,rfl,rfl,by omega,trivial,by rw[hCa];rfl,by omega,by omega,fun e he=>by cases he⟩ (by simp;omega)
  rintro _ go ⟨es,last,i,rfl,hl,hi,hE,hlast,hl0,hl1,hea⟩ ih;simp only
  unfold yE xh;have done:∃q:cP,some (mr a,mr b,mr c,mr d,y4,y5,Int.tmod ((y5+1)+y6) 8,y7,y8,decide (y9=0),ceL es)=some q/\∃es,q=(mr a,mr b,mr c,mr d,C.n,C.f,C.t,C.h,C.a,C.b,ceL es)/\EvV C.a es/\es.length<=10/\∀e∈es,e.a<=900000:=
   ⟨_,rfl,es,by rw[hC],hE,by omega,hea⟩
  by_cases g1:i<xs.length
  ·have c1:(i:Int)<(xs.length:Int):=by omega
   by_cases g2:i<10
   ·obtain⟨x,hxe⟩:=aV g1
    have hcell:∀k,cA (xs.map bx) (i:Int) k=(bx x).getD k (.int 0):=fun k=>cD (by simpa using hxe)
    have z0:cI (xs.map bx) i 0=x.1:=by simp only[cI,hcell];rfl
    have z1:cI (xs.map bx) i 1=x.2.1:=by simp only[cI,hcell];rfl
    have z2:cI (xs.map bx) i 2=x.2.2:=by simp only[cI,hcell];rfl
    obtain⟨q1,q2,q3⟩:=hx x (List.mem_of_getElem? hxe);have q4:=Qb q2;obtain⟨w0,hw0⟩:∃y,y=pk x.1 6:=⟨_,rfl⟩
    obtain⟨w1,hw1⟩:∃y,y=pk x.2.1 4:=⟨_,rfl⟩
    obtain⟨w2,hw2⟩:∃y,y=pk x.2.1 3:=⟨_,rfl⟩
    obtain⟨w3,hw3⟩:∃y,y=pk x.2.2 4:=⟨_,rfl⟩
    obtain⟨w4,hw4⟩:∃y,y=pk (Int.tdiv x.2.1 4) 3:=⟨_,rfl⟩
    have v0:=aX x.1 (k:=6) (by decide)
    have v1:=aX x.2.1 (k:=4) (by decide)
    have v2:=aX x.2.1 (k:=3) (by decide)
    have v3:=aX x.2.2 (k:=4) (by decide)
    rw[<-hw0]at v0;rw[<-hw1]at v1;rw[<-hw2]at v2;rw[<-hw3]at v3;have hout:=B8 n (mrR a b c d) C es last hn;have hOk:rB (mrR a b c d) C es last:=⟨⟨NW a b c d,hCV,by omega,hE⟩,by omega,by omega⟩
    have hN:=Qg (D1 a b c d) (c:=C) (es:=es) hl0 (by omega)
    unfold outR at hout;rw[if_pos hOk]at hout;obtain⟨O,hO⟩:∃O,O=jL (mrR a b c d) C es last:=⟨_,rfl⟩
    rw[<-hO]at hout hN;rw[hC]at hout;simp only[mrR]at hout;have c2:(i:Int)<10:=by omega
    have c3:(0:Int)<=(i:Int):=by omega
    have c4:(-9223372036854775808:Int)<=1+w0:=by omega
    have c5:1+w0<=(9223372036854775807:Int):=by omega
    have c6:(-9223372036854775808:Int)<=last+w1:=by omega
    have c7:last+w1<=(9223372036854775807:Int):=by omega
    have c8:(-9223372036854775808:Int)<=(i:Int)+1:=by omega
    have c9:(i:Int)+1<=(9223372036854775807:Int):=by omega
    have c10:(-9223372036854775808:Int)<=1+w3:=by omega
    have c11:1+w3<=(9223372036854775807:Int):=by omega
    have c12:((es.length:Int)+1)*24<=140737488355328:=by omega
    have hgo:∀A rr:Int,last<=A->A<=last+86402->(1+w0=2\/1+w0=6->1<=rr/\rr<=9)->(¬(1+w0=2\/1+w0=6)->rr=0)->∃q,go (ceL es++[[AV.int (1+w0),AV.int A,AV.int rr]],A,(i:Int)+1)=some q/\∃es,q=(mr a,mr b,mr c,mr d,C.n,C.f,C.t,C.h,C.a,C.b,ceL es)/\EvV C.a es/\es.length<=10/\∀e∈es,e.a<=900000:=fun A rr k1 k2 k3 k4=>
     ih _ ⟨es++[⟨1+w0,A,rr⟩],A,i+1,by simp,by simp;omega,by omega,by rw[MC,<-hlast];exact⟨hE,⟨by simp only;omega,by simp only;omega,k1,by simp only;omega,k3,k4⟩⟩,by simp,by omega,by omega,fun e he=>by
      rcases List.mem_append.1 he with he|he
      ·exact hea e he
      ·rw[List.mem_singleton.1 he];simp only;omega⟩ (by simp only;omega)
    unfold yj;simp only[z0,z1,z2,List.length_map,c1,c2,c3,aM n q1 (show(0:Int)<6 by decide),aM n q2 (show(0:Int)<4 by decide),aM n q2 (show(0:Int)<3 by decide),aM n q3 (show(0:Int)<4 by decide),aM n q4 (show(0:Int)<3 by decide),<-hw0,<-hw1,<-hw2,<-hw3,<-hw4,Option.bind_some,c4,c5,c6,c7,c8,c9,c10,c11,c12,hout,decide_true,Bool.and_self]
    simp only[cond_true];unfold ax at q4;by_cases k0:0<O.n
    ·have c13:(-9223372036854775808:Int)<=O.n-1:=by omega
     have c14:O.n-1<=(9223372036854775807:Int):=by omega
     have c15:(-9223372036854775808:Int)<=O.n-1+w2:=by omega
     have c16:O.n-1+w2<=(9223372036854775807:Int):=by omega
     have m1:last<=aL last (O.n-1+w2):=by unfold aL;split<;>omega
     have m2:aL last (O.n-1+w2)<=last+86402:=by unfold aL;split<;>omega
     simp only[k0,q4.1,q4.2,c13,c14,c15,c16,decide_true,Bool.and_self];simp only[cond_true];by_cases k1:0<w4<;>by_cases k2:1+w0=2<;>by_cases k3:1+w0=6<;>simp only[k1,k2,k3,decide_true,decide_false]<;>simp only[cond_true,cond_false] <;>
      (try rw[k2]at hgo)<;>(try rw[k3]at hgo)<;>first|exact hgo _ _ m1 m2 (fun _=>by omega) (fun h=>by omega)|exact hgo _ _ (by omega) (by omega) (fun _=>by omega) (fun h=>by omega)
    ·by_cases k2:1+w0=2<;>by_cases k3:1+w0=6<;>simp only[k0,k2,k3,decide_true,decide_false]<;>simp only[cond_true,cond_false] <;>
      (try rw[k2]at hgo)<;>(try rw[k3]at hgo)<;>exact hgo _ _ (by omega) (by omega) (fun _=>by omega) (fun h=>by omega)
   ·have c2:¬(i:Int)<10:=by omega
    simp only[List.length_map,c1,c2,decide_true,decide_false];simp only[cond_true,cond_false];exact done
  ·have c1:¬(i:Int)<(xs.length:Int):=by omega
   simp only[List.length_map,c1,decide_false];simp only[cond_false];exact done
 obtain⟨q,g1,es,rfl,g2,g3,g4⟩:=main;exact⟨C,es,g1,⟨NW a b c d,hCV,by omega,g2⟩,by omega,g3,g4⟩
theorem qM(n:Nat)(c:Cl):ik n c.n c.f c.t c.h c.a c.b=some (decide (ClV c)):=by
 by_cases h:ClV c<;>simp only[h,decide_true,decide_false]<;>unfold ClV at h<;>unfold ik sF<;>grind
def gr(r:Rl)(i:Nat):Int:=if i=0 then r.a else if i=1 then r.s else if i=2 then r.c else r.r
theorem Ec(r:Rl){i:Nat}(h:i<4):cI ((((([]:Lv)++[[(AV.int r.a)]])++[[(AV.int r.s)]])++[[(AV.int r.c)]])++[[(AV.int r.r)]]) (i:Int) 0=gr r i:=by
 match i,h with
 |0,_=>rfl
 |1,_=>rfl
 |2,_=>rfl
 |3,_=>rfl
theorem rules_all{r:Rl}:RlV r↔∀i,i<4->1<=gr r i/\gr r i<=1000000:=by
 constructor
 ·intro h i hi
  unfold RlV at h;unfold gr;split;omega;split;omega;split<;>omega
 ·intro h
  have h0:=h 0 (by omega)
  have h1:=h 1 (by omega)
  have h2:=h 2 (by omega)
  have h3:=h 3 (by omega)
  simp[gr]at h0 h1 h2 h3
  unfold RlV;omega
theorem Pc(n:Nat)(r:Rl)(c:Cl)(hn:10<n):vK n r.a r.c r.s r.r c.n c.f c.t c.h c.a c.b=some (if RlV r/\ClV c then(NP r c,0)else(0,160)):=by
 unfold vK xF;refine eE (fun s=>∃i:Nat,s=(i:Int)/\i<=4/\∀j,j<i->1<=gr r j/\gr r j<=1000000) (fun s=>4-s.toNat) _ ?_ n _ ⟨0,rfl,by omega,fun j hj=>by omega⟩ (by simp;omega)
 rintro _ go ⟨i,rfl,hi,hj⟩ ih;unfold xT;have c2:(0:Int)<=(i:Int):=by omega
 have c8:(-9223372036854775808:Int)<=(i:Int)+1:=by omega
 have c9:(i:Int)+1<=(9223372036854775807:Int):=by omega
 by_cases h4:i<4
 ·have c1:(i:Int)<4:=by omega
  simp only[c1,c2,c8,c9,Ec r h4,decide_true,Bool.and_self];simp only[cond_true];by_cases k1:1<=gr r i
  ·by_cases k2:gr r i<=1000000
   ·simp only[k1,k2,decide_true,Bool.not_true]
    simp only[cond_true,cond_false];exact ih _ ⟨i+1,by simp,by omega,fun j hj'=>by
     rcases Nat.lt_or_ge j i with h|h
     ·exact hj j h
     ·have:j=i:=by omega
      subst this;exact⟨k1,k2⟩⟩ (by simp;omega)
   ·have:¬(RlV r/\ClV c):=fun h=>k2 (rules_all.1 h.1 i h4).2
    simp[k1,k2,this]
  ·have:¬(RlV r/\ClV c):=fun h=>k1 (rules_all.1 h.1 i h4).1
   simp[k1,this]
 ·have hr:RlV r:=rules_all.2 fun j hj'=>hj j (by omega)
  have c1:¬(i:Int)<4:=by omega
  rw[qM];by_cases hc:ClV c
  ·simp only[c1,hr,hc,decide_true,decide_false,Option.bind_some,Bool.not_true,and_self,if_true]
   simp only[cond_false];unfold NP;unfold RlV at hr;unfold ClV at hc;have n1:(-9223372036854775808:Int)<=c.a+r.a/\c.a+r.a<=9223372036854775807:=by omega
   have n2:(-9223372036854775808:Int)<=c.a+r.a-1/\c.a+r.a-1<=9223372036854775807:=by omega
   have n3:(-9223372036854775808:Int)<=c.a+r.a-1+r.s/\c.a+r.a-1+r.s<=9223372036854775807:=by omega
   have n4:(-9223372036854775808:Int)<=c.a+r.a-1+r.s+r.c/\c.a+r.a-1+r.s+r.c<=9223372036854775807:=by omega
   have n5:(-9223372036854775808:Int)<=c.a+r.a-1+r.s+r.c+r.r/\c.a+r.a-1+r.s+r.c+r.r<=9223372036854775807:=by omega
   simp only[n1,n2,n3,n4,n5,decide_true,Bool.and_self];simp only[cond_true]
  ·simp[c1,hc]
theorem wh(n:Nat)(r:Rl)(c:Cl)(es:List Ce)(hn:25<n):j4 n r.a r.c r.s r.r c.n c.f c.t c.h c.a c.b (ceL es)=some (decide (f9 r c es)):=by
 unfold j4 wu;refine eE (fun s=>∃i:Nat,s=(i:Int)/\i<=4/\∀j,j<i->1<=gr r j/\gr r j<=1000000) (fun s=>4-s.toNat) _ ?_ n _ ⟨0,rfl,by omega,fun j hj=>by omega⟩ (by simp;omega)
 rintro _ go ⟨i,rfl,hi,hj⟩ ih;unfold vX;have c2:(0:Int)<=(i:Int):=by omega
 have c8:(-9223372036854775808:Int)<=(i:Int)+1:=by omega
 have c9:(i:Int)+1<=(9223372036854775807:Int):=by omega
 by_cases h4:i<4
 ·have c1:(i:Int)<4:=by omega
  simp only[c1,c2,c8,c9,Ec r h4,decide_true,Bool.and_self];simp only[cond_true];by_cases k1:1<=gr r i
  ·by_cases k2:gr r i<=1000000
   ·simp only[k1,k2,decide_true,Bool.not_true]
    simp only[cond_true,cond_false];exact ih _ ⟨i+1,by simp,by omega,fun j hj'=>by
     rcases Nat.lt_or_ge j i with h|h
     ·exact hj j h
     ·have:j=i:=by omega
      subst this;exact⟨k1,k2⟩⟩ (by simp;omega)
   ·have:¬f9 r c es:=fun h=>k2 (rules_all.1 h.1 i h4).2
    simp[k1,k2,this]
  ·have:¬f9 r c es:=fun h=>k1 (rules_all.1 h.1 i h4).1
   simp[k1,this]
 ·have hr:RlV r:=rules_all.2 fun j hj'=>hj j (by omega)
  have c1:¬(i:Int)<4:=by omega
  clear ih
  rw[qM];unfold f9;by_cases h2:ClV c
  ·by_cases h3:es.length<=20
   ·have c3:¬(20:Int)<(es.length:Int):=by omega
    simp only[c1,hr,h2,h3,decide_true,decide_false,Option.bind_some,Bool.not_true,List.length_map,c3,true_and];simp only[cond_false];refine eE (fun s=>∃(i:Nat) (last:Int),s=((i:Int),last)/\i<=es.length/\(EvV c.a es↔EvV last (es.drop i))) (fun s=>es.length-s.1.toNat) _ ?_ n _ ⟨0,c.a,rfl,by omega,by simp⟩ (by simp;omega)
    rintro _ go ⟨i,last,rfl,hi,hE⟩ ih;simp only
    unfold ws;by_cases hlt:i<es.length
    ·obtain⟨e,he⟩:=aV hlt
     have hc:∀k,cA (ceL es) (i:Int) k=(ceR e).getD k (.int 0):=fun k=>cD (by simpa using he)
     have g0:cI (ceL es) i 0=e.k:=by simp only[cI,hc];rfl
     have g1:cI (ceL es) i 1=e.a:=by simp only[cI,hc];rfl
     have g2:cI (ceL es) i 2=e.r:=by simp only[cI,hc];rfl
     have c1:(i:Int)<(es.length:Int):=by omega
     have c2:(0:Int)<=(i:Int):=by omega
     have c4:(-9223372036854775808:Int)<=(i:Int)+1:=by omega
     have c5:(i:Int)+1<=(9223372036854775807:Int):=by omega
     simp only[g0,g1,g2,List.length_map,c1,c2,c4,c5,decide_true,Bool.and_self,Bool.not_true];simp only[cond_true];rw[fK he]at hE;have hgo:CeV last e->go ((i:Int)+1,e.a)=some (decide (EvV c.a es)):=fun hv=>ih _ ⟨i+1,e.a,by simp,by omega,by rw[hE];exact⟨fun h=>h.2,fun h=>⟨hv,h⟩⟩⟩ (by simp only;omega)
     by_cases hv:CeV last e
     ·rw[hgo hv]
      unfold CeV at hv;grind
     ·have:¬EvV c.a es:=fun h=>hv (hE.1 h).1
      simp only[this,decide_false];unfold CeV at hv;grind
    ·have h0:i=es.length:=by omega
     have c1:¬(i:Int)<(es.length:Int):=by omega
     simp only[List.length_map,c1,decide_false];simp only[cond_false];subst h0;rw[List.drop_length]at hE;have:EvV c.a es:=hE.2 trivial
     simp[this]
   ·have c3:(20:Int)<(es.length:Int):=by omega
    simp only[c1,h2,h3,decide_true,decide_false,Option.bind_some,Bool.not_true,List.length_map,c3,false_and,and_false];simp only[cond_true,cond_false]
  ·simp[c1,h2]
theorem IT{r:Rl}{c:Cl}{es:List Ce}(h:f9 r c es):∀x∈aF r c es,x.f<=23000000:=by
 obtain⟨hr,hc,hl,hE⟩:=h;unfold ClV at hc;intro x hx;unfold aF at hx;have h0:(x0 r c).f=c.a:=rfl
 rcases List.mem_cons.1 hx with rfl|hx
 ·omega
 ·exact P3 hr (b:=c.b) (now:=x0 r c) (es:=es) (by rw[h0];have:=gW (x0 r c).s;omega) (fun _=>(sQ hr (s:=1) (f:=c.a) (by omega)).2) (fun e he=>(G4 hE e he).2) x hx
theorem Jk{r:Rl}{c:Cl}{es:List Ce}(h:f9 r c es):∀x∈aF r c es,c.a<=x.f:=by
 obtain⟨hr,hc,hl,hE⟩:=h;intro x hx;unfold aF at hx;rcases List.mem_cons.1 hx with rfl|hx
 ·exact Int.le_refl _
 ·exact NO hr (b:=c.b) (now:=x0 r c) (es:=es) (fun ha=>by have:=(sQ hr (s:=1) (f:=c.a) (by omega)).1;unfold x0;omega) (fun e he=>(G4 hE e he).1) x hx
theorem Ja{r:Rl}{c:Cl}{es:List Ce}:∀x∈aF r c es,∃s f,x=st r s f:=by
 intro x hx;unfold aF at hx;rcases List.mem_cons.1 hx with rfl|hx
 ·exact⟨_,_,rfl⟩
 ·exact Br (r:=r) (b:=c.b) (fun x=>∃s f,x=st r s f) (fun _ _=>True) (fun _ _ _ _ _ _=>⟨⟨_,_,rfl⟩,trivial⟩) (fun _ _ _ _ _ _=>trivial) (fun _ _ _ _ _ _=>⟨⟨_,_,rfl⟩,trivial⟩) (fun _ _ _=>⟨⟨_,_,rfl⟩,trivial⟩) _ _ _ (Nat.le_refl _) trivial x hx
theorem Hg{r:Rl}{c:Cl}{es:List Ce}(hl:es.length<=20):(aF r c es).length<=110:=by
 have h2:=IL (r:=r) (b:=c.b) _ (x0 r c) es (Nat.le_refl _);have h3:=gW (x0 r c).s;unfold aF;simp only[List.length_cons];omega
structure RunJ (r:Rl) (c:Cl) (es:List Ce) (out:List Cs) (now:Cs) (i:Nat):Prop where
 le:i<=es.length
 last:out.getLast?=some now
 rest:aF r c es=out++tl r c.b now (es.drop i)
section
variable {r:Rl} {c:Cl} {es:List Ce} {out:List Cs} {now:Cs} {i:Nat}
theorem RunJ.mem(h:RunJ r c es out now i):now∈aF r c es:=by
 rw[h.rest];exact List.mem_append_left _ (List.mem_of_getLast? h.last)
theorem RunJ.len(h:RunJ r c es out now i)(hl:es.length<=20):out.length<=110:=by
 have h1:=Hg (r:=r) (c:=c) hl;rw[h.rest,List.length_append]at h1;omega
theorem RunJ.auto(h:RunJ r c es out now i)(ha:act now)(h1:∀e,es[i]?=some e->now.n<=e.a):RunJ r c es (out++[st r (aft now.s) now.n]) (st r (aft now.s) now.n) i:=by
 refine⟨h.le,by simp,?_⟩
 rw[h.rest];have:tl r c.b now (es.drop i)=st r (aft now.s) now.n::tl r c.b (st r (aft now.s) now.n) (es.drop i):=by
  cases hd:es.drop i with
  |nil=>exact xA ha
  | cons e rest=>
   have he:es[i]?=some e:=by
    have:=congrArg (fun l=>l[0]?) hd
    simpa using this
   exact uq ⟨ha,h1 e he⟩
 rw[this];simp
theorem RunJ.event{e:Ce}(h:RunJ r c es out now i)(he:es[i]?=some e)(h1:¬(act now/\now.n<=e.a))(hb:¬bec c.b now.s e<0):RunJ r c es (out++[st r (bec c.b now.s e) e.a]) (st r (bec c.b now.s e) e.a) (i+1):=by
 refine⟨(List.getElem?_eq_some_iff.1 he).1,by simp,?_⟩
 rw[h.rest,fK he,BI h1 hb];simp
theorem RunJ.void{e:Ce}(h:RunJ r c es out now i)(he:es[i]?=some e)(h1:¬(act now/\now.n<=e.a))(hb:bec c.b now.s e<0):RunJ r c es out now (i+1):=
 ⟨(List.getElem?_eq_some_iff.1 he).1,h.last,by rw[h.rest,fK he,zk h1 hb]⟩
theorem RunJ.done(h:RunJ r c es out now i)(h0:i=es.length)(h1:¬act now):aF r c es=out:=by
 rw[h.rest,h0,List.drop_length,tC h1];simp
end
theorem Qx: @pV= @dZ:=rfl
theorem MB(n:Nat)(go0:bj->Option ap)(go1:aY->Option ap)(r:Rl)(hr:RlV r)(b:Bool)(es:List Ce)(t:Int)(i:Nat)(e:Ce)(he:es[i]?=some e)(vd:Lv)(s f m s' f' m' l:Int)
  (hce:CeV l e) (hl:0<=l) (h1:vd.length<=20) (h3:i<=20):
  dZ n go0 go1 r.c r.s b (ceL es) t (i:Int) vd s' f' m' s f m=if bec b s e<0 then go0 ((i:Int)+1,vd++[[AV.int (i:Int)]],s',f',m',s,f,m)else if t<e.a then some (s',f',m',0)else
   go0 ((i:Int)+1,vd,(st r (bec b s e) e.a).s,(st r (bec b s e) e.a).f,(st r (bec b s e) e.a).n,(st r (bec b s e) e.a).s,(st r (bec b s e) e.a).f,(st r (bec b s e) e.a).n):=by
 have hc:∀k,cA (ceL es) (i:Int) k=(ceR e).getD k (.int 0):=fun k=>cD (by simpa using he)
 have g0:cI (ceL es) i 0=e.k:=by simp only[cI,hc];rfl
 have g1:cI (ceL es) i 1=e.a:=by simp only[cI,hc];rfl
 have g2:cI (ceL es) i 2=e.r:=by simp only[cI,hc];rfl
 have c4:(-9223372036854775808:Int)<=(i:Int)+1:=by omega
 have c5:(i:Int)+1<=(9223372036854775807:Int):=by omega
 have c10:((vd.length:Int)+1)*8<=140737488355328:=by omega
 have hrr:=hr;unfold RlV at hr;unfold CeV at hce;have c6:(-9223372036854775808:Int)<=e.a+r.c:=by omega
 have c7:e.a+r.c<=(9223372036854775807:Int):=by omega
 have c8:(-9223372036854775808:Int)<=e.a+r.s:=by omega
 have c9:e.a+r.s<=(9223372036854775807:Int):=by omega
 unfold dZ pz qu qi pG qB;simp only[g0,g1,g2,c4,c5,c6,c7,c8,c9,c10,decide_true,Bool.and_self];simp only[cond_true];clear g0 g1 g2 hc c4 c5 c6 c7 c8 c9 c10
 unfold bec st dur;have hk:e.k=1\/e.k=2\/e.k=3\/e.k=4\/e.k=5\/e.k=6:=by omega
 have hs:s=1\/s=2\/s=3\/s=4\/(s≠1/\s≠2/\s≠3/\s≠4):=by omega
 by_cases ht:t<e.a<;>cases b<;>by_cases hq:e.r=1<;>rcases hk with hk|hk|hk|hk|hk|hk<;>rcases hs with hs|hs|hs|hs|⟨q1,q2,q3,q4⟩<;>simp_all
theorem Nb(n:Nat)(go0:bj->Option ap)(go1:aY->Option ap)(r:Rl)(hr:RlV r)(b:Bool)(L:Lv)(t i:Int)(vd:Lv)(s f m s' f' m':Int)(ha:1<=s/\s<=4)(hm:m<=cI L i 1)(h1: -100000000<=m)(h2:m<=100000000):
  iR n go0 go1 r.c r.s r.r b L t i vd s' f' m' s f m=if t<m then some (s',f',m',0)else go1 ((st r (aft s) m).s,(st r (aft s) m).f,(st r (aft s) m).n,(st r (aft s) m).s,(st r (aft s) m).f,(st r (aft s) m).n):=by
 have hs:s=1\/s=2\/s=3\/s=4:=by omega
 unfold RlV at hr;unfold iR;rcases hs with hs|hs|hs|hs<;>subst hs<;>simp only[aft,st,dur]<;>grind
theorem Lj(n:Nat)(go1:aY->Option ap)(r:Rl)(hr:RlV r)(t s m s' f' m':Int)(ha:1<=s/\s<=4)(h1:0<=m)(h2:m<=100000000):
  gV n go1 r.c r.r t s' f' m' s m=if t<m then some (s',f',m',0)else go1 ((st r (aft s) m).s,(st r (aft s) m).f,(st r (aft s) m).n,(st r (aft s) m).s,(st r (aft s) m).f,(st r (aft s) m).n):=by
 have hs:s=1\/s=2\/s=3\/s=4:=by omega
 unfold RlV at hr;unfold gV;rcases hs with hs|hs|hs|hs<;>subst hs<;>simp only[aft,st,dur]<;>grind
theorem IN{t:Int}:∀ {out rest:List Cs},(∀x∈out,x.f<=t)->(∀x,rest.head?=some x->t<x.f)->db t (out++rest)=out
 |[],[],_,_=>rfl
 |[],x::rest,_,h=>by
  have:=h x rfl
  unfold db;rw[List.nil_append,List.takeWhile_cons];simp;omega
 |y::out,rest,h1,h2=>by
  rw[List.cons_append,tG (h1 y (List.mem_cons_self ..)),IN (fun x hx=>h1 x (List.mem_cons_of_mem _ hx)) h2]
structure RunO (r:Rl) (c:Cl) (es:List Ce) (t:Int) (out:List Cs) (now:Cs) (i:Nat):Prop where
 j:RunJ r c es out now i
 up:∀x∈out,x.f<=t
section
variable {r:Rl} {c:Cl} {es:List Ce} {t:Int} {out:List Cs} {now x:Cs} {i:Nat} {rest:List Cs}
theorem RunO.stop(h:RunO r c es t out now i)(hr:tl r c.b now (es.drop i)=rest)(hx:∀x,rest.head?=some x->t<x.f):jL r c es t=now:=by
 unfold jL;rw[h.j.rest,hr,IN h.up hx,h.j.last];rfl
theorem RunO.go(h:RunO r c es t out now i){k:Nat}(hj:RunJ r c es (out++[x]) x k)(hx:x.f<=t):RunO r c es t (out++[x]) x k:=
 ⟨hj,fun y hy=>by
  rcases List.mem_append.1 hy with hy|hy
  ·exact h.up y hy
  ·rw[List.mem_singleton.1 hy];exact hx⟩
end
theorem CP(n:Nat)(r:Rl)(c:Cl)(es:List Ce)(t:Int)(hn:200<n):kw n r.a r.c r.s r.r c.n c.f c.t c.h c.a c.b (ceL es) t=some ((outR r c es t).1.s,(outR r c es t).1.f,(outR r c es t).1.n,(outR r c es t).2):=by
 unfold kw r8;rw[wh n r c es (by omega)]
 unfold outR rB;by_cases hv:f9 r c es
 ·obtain ⟨hr,hcl,hlen,hE⟩:=id hv
  have hrb:=hr;unfold RlV at hrb;have hca:0<=c.a/\c.a<=10000000:=by unfold ClV at hcl;omega
  have n1:(-9223372036854775808:Int)<=c.a+r.a:=by omega
  have n2:c.a+r.a<=(9223372036854775807:Int):=by omega
  unfold ll sn sy r7;by_cases h0:0<=t
  ·by_cases h1:t<=20000000
   ·simp only[hv,h0,h1,decide_true,Option.bind_some,Bool.not_true,n1,n2,Bool.and_self,and_self,if_true]
    simp only[cond_true,cond_false];by_cases h2:t<c.a
    ·rw[decide_eq_true h2,cond_true]
     have:db t (aF r c es)=[]:=by
      unfold aF db;rw[List.takeWhile_cons];simp[x0,st];omega
     unfold jL;rw[this];rfl
    ·rw [decide_eq_false h2,cond_false]
     have facts:∀out now i,RunJ r c es out now i->(0<=now.n↔act now)/\now.f<=23000000/\now.n<=24000000/\out.length<=110:=fun out now i h=>by
      have h1:=IT hv now h.mem;have h2:=Jk hv now h.mem;obtain⟨s,f,hf⟩:=Ja now h.mem;have h3:(st r s f).f=f:=rfl
      refine⟨by rw[hf];exact Gd hr (by rw[hf,h3]at h2;omega),h1,?_,h.len hlen⟩
      rw[hf]at h1⊢
      have h1:f<=23000000:=h1
      by_cases ha:1<=s/\s<=4
      ·have:=(sQ hr (f:=f) ha).2;omega
      ·simp only[st];rw[if_neg ha];omega
     refine eE (fun s=>∃(i:Nat) (vd:Lv) (out:List Cs) (now:Cs),s=((i:Int),vd,now.s,now.f,now.n,now.s,now.f,now.n)/\vd.length<=i/\RunO r c es t out now i) (fun s=>es.length+1-s.1.toNat) _ ?_ n _
      ⟨0,[],[x0 r c],x0 r c,rfl,by simp,⟨⟨by omega,rfl,by unfold aF;simp⟩,fun x hx=>by rw[List.mem_singleton.1 hx];simp only[x0,st];omega⟩⟩ (by simp;omega)
     rintro _ go ⟨i,vd,out,now,rfl,hvd,hO⟩ ih;simp only
     unfold ry;have hle:=hO.j.le;have c6:(0:Int)<=(i:Int):=by omega
     by_cases hlt:i<es.length
     ·have c7:(i:Int)<((ceL es).length:Int):=by rw[List.length_map];omega
      obtain⟨e,he⟩:=aV hlt;have hce:∃l,0<=l/\CeV l e:=by
       have key:∀(es:List Ce) (l:Int) (i:Nat) (e:Ce),0<=l->EvV l es->es[i]?=some e->∃l,0<=l/\CeV l e:=by
        intro es;induction es with
        |nil=>intro l i e _ _ h;simp at h
        |cons x es ih=>
         intro l i e hl hE h;cases i with
         |zero=>simp at h;subst h;exact⟨l,hl,hE.1⟩
         |succ i=>exact ih x.a i e (by have:=hE.1.2.2.1;omega) hE.2 (by simpa using h)
       exact key es c.a i e hca.1 hE he
      obtain⟨l,hl0,hce⟩:=hce;rw[decide_eq_true c7,cond_true,decide_eq_true c6,cond_true];refine eE (fun s=>∃(out:List Cs) (now:Cs),s=(now.s,now.f,now.n,now.s,now.f,now.n)/\RunO r c es t out now i) (fun s=>rk s.1) _ ?_ n _ ⟨out,now,rfl,hO⟩ (by have:=gW now.s;simp only;omega)
      rintro _ go1 ⟨out,now,rfl,hO⟩ ih1;simp only
      obtain⟨f1,f2,f3,f4⟩:=facts out now i hO.j;have g1:cI (ceL es) i 1=e.a:=by simp only[cI];rw[cD (by simpa using he)];rfl
      have tail:¬(act now/\now.n<=e.a)->dZ n go go1 r.c r.s c.b (ceL es) t (i:Int) vd now.s now.f now.n now.s now.f now.n=some ((jL r c es t).s,(jL r c es t).f,(jL r c es t).n,0):=fun hna=>by
       rw[MB n go go1 r hr c.b es t i e he vd now.s now.f now.n now.s now.f now.n l hce hl0 (by omega) (by omega)]
       by_cases hb:bec c.b now.s e<0
       ·rw[if_pos hb]
        exact ih _ ⟨i+1,vd++[[AV.int (i:Int)]],out,now,by simp,by simp;omega,⟨hO.j.void he hna hb,hO.up⟩⟩ (by simp only;omega)
       ·rw[if_neg hb]
        by_cases hte:t<e.a
        ·rw[if_pos hte,hO.stop (by rw[fK he,BI hna hb]) (fun x hx=>by simp at hx;subst hx;exact hte)]
        ·rw[if_neg hte]
         exact ih _ ⟨i+1,vd,out++[st r (bec c.b now.s e) e.a],_,by simp,by omega,hO.go (hO.j.event he hna hb) (by simp only[st];omega)⟩ (by simp only;omega)
      unfold rN;rw[Qx];by_cases hn0:0<=now.n
      ·have ha:=f1.1 hn0
       rw[decide_eq_true hn0,cond_true];by_cases hnm:now.n<=e.a
       ·rw[Nb n go go1 r hr c.b (ceL es) t i vd now.s now.f now.n now.s now.f now.n ha (by rw[g1];exact hnm) (by omega) (by omega)]
        by_cases htn:t<now.n
        ·rw[if_pos htn,hO.stop (by rw[fK he,uq ⟨ha,hnm⟩]) (fun x hx=>by simp at hx;subst hx;exact htn)]
        ·rw[if_neg htn]
         exact ih1 _ ⟨out++[st r (aft now.s) now.n],_,rfl,hO.go (hO.j.auto ha (fun e' he'=>by rw[he]at he';cases he';exact hnm)) (by simp only[st];omega)⟩ (fq ha)
       ·unfold iR
        rw[g1,decide_eq_false hnm,cond_false];exact tail fun h=>hnm h.2
      ·rw[decide_eq_false hn0,cond_false]
       exact tail fun h=>hn0 (f1.2 h.1)
     ·have h00:i=es.length:=by omega
      have c7:¬(i:Int)<((ceL es).length:Int):=by rw[List.length_map];omega
      have hnone:∀e,¬es[i]?=some e:=fun e he=>by have:=(List.getElem?_eq_some_iff.1 he).1;omega
      have hdr:es.drop i=[]:=by rw[h00,List.drop_length]
      rw[decide_eq_false c7,cond_false];refine eE (fun s=>∃(out:List Cs) (now:Cs),s=(now.s,now.f,now.n,now.s,now.f,now.n)/\RunO r c es t out now i) (fun s=>rk s.1) _ ?_ n _ ⟨out,now,rfl,hO⟩ (by have:=gW now.s;simp only;omega)
      rintro _ go1 ⟨out,now,rfl,hO⟩ ih1;simp only
      obtain⟨f1,f2,f3,f4⟩:=facts out now i hO.j;by_cases hn0:0<=now.n
      ·have ha:=f1.1 hn0
       rw[Lj n go1 r hr t now.s now.n now.s now.f now.n ha hn0 (by omega)]
       by_cases htn:t<now.n
       ·rw[if_pos htn,hO.stop (by rw[hdr,xA ha]) (fun x hx=>by simp at hx;subst hx;exact htn)]
       ·rw[if_neg htn]
        exact ih1 _ ⟨out++[st r (aft now.s) now.n],_,rfl,hO.go (hO.j.auto ha (fun e' he'=>absurd he' (hnone e'))) (by simp only[st];omega)⟩ (fq ha)
      ·unfold gV
       rw[decide_eq_false hn0,cond_false,hO.stop (by rw[hdr,tC (fun ha=>hn0 (f1.2 ha))]) (fun x hx=>by cases hx)]
   ·have:¬(f9 r c es/\0<=t/\t<=20000000):=fun h=>h1 h.2.2
    simp[hv,h0,h1]
  ·simp[hv,h0]
 ·unfold ll
  simp[hv]
open Go.Dial.Ref Go.Dial.Lif Go.Dial.Fwd Go.Dial.Rou Go.Dial.Flo
theorem Gy(n:Nat)(r:Rl)(c:Cl)(es:List Ce)(t:Int)(hn:200<n):l8 n r.a r.c r.s r.r c.n c.f c.t c.h c.a c.b (ceL es) t=some (if rB r c es t then(if(jL r c es t).s=4\/(jL r c es t).s=5 then c.t else c.f,0)else(0,160)):=by
 unfold l8 yB;rw[CP n r c es t hn];unfold Go.Dial.Clm.outR;by_cases h:rB r c es t
 ·simp only[h,if_true,Option.bind_some]
  grind
 ·simp[h]
abbrev lnR(x:Int×List Ev):List AV:=[.int x.1,.sl (.cons .int (.cons .int (.cons .int .nil))) (evL x.2)]
abbrev lnL(l:List (Int×List Ev)):Lv:=l.map lnR
theorem iD(l:List (Int×List Ev)):((lnL l).length:Int)=(l.length:Int):=by rw[List.length_map]
theorem zn{l:List (Int×List Ev)}{i:Nat}{x:Int×List Ev}(h:l[i]?=some x):cI (lnL l) (i:Int) 0=x.1/\cL (lnL l) (i:Int) 1=evL x.2:=by
 have hc:∀k,cA (lnL l) (i:Int) k=(lnR x).getD k (.int 0):=fun k=>cD (by simpa using h)
 simp only[cI,cL,hc];exact⟨rfl,rfl⟩
theorem In(n:Nat)(g:Gr)(hs:Small g)(hn:1000<n):∀(m n' i:Nat) (last:Int),m<n'->i+m=g.ls.length-> -1<=last->last<=99999999 →
  ab (fun go0 s=>cN n go0 (lnL g.ls) (seL g.ss) (coL g.cs) (iL g.h) (iL g.k) g.lag g.r.a g.r.c g.r.s g.r.r g.c.n g.c.f g.c.t g.c.h g.c.a g.c.b (ceL g.ce) g.nn (edL g.es) s.1 s.2) n' ((last,(i:Int)):dF)=some (decide (LsV last (g.ls.drop i)/\g.ls.length<=10/\FwV g.ss g.cs/\RoV g.h g.k g.lag/\f9 g.r g.c g.ce/\NetV g.nn g.es/\g.nn=8)):=by
 have hl:=hs.ls;intro m;induction m with
 | zero =>
  intro n' i last hm hi h0 h1;cases n' with
  |zero=>omega
  | succ n'=>
   rw[am];generalize (ab (fun go0 s=>cN n go0 (lnL g.ls) (seL g.ss) (coL g.cs) (iL g.h) (iL g.k) g.lag g.r.a g.r.c g.r.s g.r.r g.c.n g.c.f g.c.t g.c.h g.c.a g.c.b (ceL g.ce) g.nn (edL g.es) s.1 s.2) n':dF->Option dX)=go
   show cN n go (lnL g.ls) (seL g.ss) (coL g.cs) (iL g.h) (iL g.k) g.lag g.r.a g.r.c g.r.s g.r.r g.c.n g.c.f g.c.t g.c.h g.c.a g.c.b (ceL g.ce) g.nn (edL g.es) last (i:Int)=_
   unfold cN;have hi':i=g.ls.length:=by omega
   subst hi';rw[List.drop_length,iD,kF (Int.lt_irrefl _)];by_cases e0:(10:Int)<(g.ls.length:Int)
   ·rw[kT e0,decide_eq_false (fun h=>by omega)]
   ·rw [kF e0,sH n g.ss g.cs hs.ss hs.cs hn,Option.bind_some]
    by_cases e1:FwV g.ss g.cs
    ·rw [kNT e1,vV n g.h g.k g.lag hn,Option.bind_some]
     by_cases e2:RoV g.h g.k g.lag
     ·rw[kNT e2,wh n g.r g.c g.ce (by omega),Option.bind_some]
      by_cases e3:f9 g.r g.c g.ce
      ·rw[kT e3,ld n g.nn g.es hs.es hn,Option.bind_some]
       by_cases e4:NetV g.nn g.es
       ·rw[kT e4]
        congr 1
        rw[decide_eq_decide];exact⟨fun h=>⟨trivial,by omega,e1,e2,e3,e4,h⟩,fun h=>h.2.2.2.2.2.2⟩
       ·rw[kF e4,decide_eq_false (fun h=>e4 h.2.2.2.2.2.1)]
      ·rw[kF e3,decide_eq_false (fun h=>e3 h.2.2.2.2.1)]
     ·rw[kNF e2,decide_eq_false (fun h=>e2 h.2.2.2.1)]
    ·rw[kNF e1,decide_eq_false (fun h=>e1 h.2.2.1)]
 | succ m ih=>
  intro n' i last hm hi h0 h1;cases n' with
  |zero=>omega
  | succ n'=>
   rw[am];have hih:=ih n' (i+1);generalize (ab (fun go0 s=>cN n go0 (lnL g.ls) (seL g.ss) (coL g.cs) (iL g.h) (iL g.k) g.lag g.r.a g.r.c g.r.s g.r.r g.c.n g.c.f g.c.t g.c.h g.c.a g.c.b (ceL g.ce) g.nn (edL g.es) s.1 s.2) n':dF->Option dX)=go at hih
   show cN n go (lnL g.ls) (seL g.ss) (coL g.cs) (iL g.h) (iL g.k) g.lag g.r.a g.r.c g.r.s g.r.r g.c.n g.c.f g.c.t g.c.h g.c.a g.c.b (ceL g.ce) g.nn (edL g.es) last (i:Int)=_
   obtain⟨x,hx⟩:=aV (show i<g.ls.length by omega)
   obtain⟨k0,k1⟩:=zn hx;have hd:g.ls.drop i=x::g.ls.drop (i+1):=by
    rw[List.drop_eq_getElem_cons (List.getElem?_eq_some_iff.1 hx).1,(List.getElem?_eq_some_iff.1 hx).2]
   have hev:=hs.ev x (List.mem_of_getElem? hx);unfold cN;rw[k0,k1,iD,kT (show(i:Int)<(g.ls.length:Int) by omega),kT (show(0:Int)<=(i:Int) by omega),uP n x.2 (by omega),Option.bind_some,hd]
   by_cases e1:gk x.2
   ·have:(lX x.2).2=0:=by rw[m5 e1]
    dsimp only[oi]
    rw[this,kNT rfl,kG (by omega)]
    by_cases e2:last+1<=x.1
    ·rw[kT e2]
     by_cases e3:x.1<=99999999
     ·rw[kNT e3,kG (by omega)]
      have:=hih x.1 (by omega) (by omega) (by omega) e3
      rw[show((i+1:Nat):Int)=(i:Int)+1 by omega]at this
      rw[this];congr 1
      rw[decide_eq_decide];constructor
      ·rintro ⟨a,b⟩;exact⟨⟨e1,by omega,e3,a⟩,b⟩
      ·rintro ⟨a,b⟩;exact⟨a.2.2.2,b⟩
     ·rw[kNF e3,decide_eq_false (fun h=>e3 h.1.2.2.1)]
    ·rw[kF e2,decide_eq_false (fun h=>by have:=h.1.2.1;omega)]
   ·have:(lX x.2).2=140:=by rw[DJ e1]
    dsimp only[oi]
    rw[this,kNF (by decide),decide_eq_false (fun h=>e1 h.1.1)]
theorem BF(n:Nat)(g:Gr)(hs:Small g)(hn:1001<n):fh n (lnL g.ls) (seL g.ss) (coL g.cs) (iL g.h) (iL g.k) g.lag g.r.a g.r.c g.r.s g.r.r g.c.n g.c.f g.c.t g.c.h g.c.a g.c.b (ceL g.ce) g.nn (edL g.es)=some (decide (GrV g)):=by
 unfold fh rq;rw[show((-1,0):dF)=(-1,((0:Nat):Int))from rfl,In n g hs (by omega) g.ls.length n 0 (-1) (by have:=hs.ls;omega) (by omega) (by omega) (by omega),List.drop_zero]
 congr 1
 rw[decide_eq_decide];unfold GrV;constructor
 ·rintro ⟨a,b,c⟩;exact⟨b,a,c⟩
 ·rintro ⟨b,a,c⟩;exact⟨a,b,c⟩
theorem MW(n:Nat)(g:Gr)(hs:Small g)(num t c:Int)(w:Int×List Int×List Int)(p:List (Int×Int)×Int)(hn:1001<n):cx n (lnL g.ls) (seL g.ss) (coL g.cs) (iL g.h) (iL g.k) g.lag g.r.a g.r.c g.r.s g.r.r g.c.n g.c.f g.c.t g.c.h g.c.a g.c.b (ceL g.ce) g.nn (edL g.es) t c w.1 (iL w.2.1) (iL w.2.2) (hpL p.1) p.2 num=some (dn g.ls num t):=by
 have hl:=hs.ls;unfold cx jP;have key:∀(m n' i:Nat),m<n'->i+m=g.ls.length->ab (fun go0 s=>bJ n go0 (lnL g.ls) t num s) n' ((i:Int):dC)=some (dn (g.ls.drop i) num t):=by
  intro m;induction m with
  | zero=>
   intro n' i hm hi;cases n' with
   |zero=>omega
   |succ n'=>
    rw[am];show bJ n _ (lnL g.ls) t num (i:Int)=_
    unfold bJ;have hi':i=g.ls.length:=by omega
    subst hi';rw[List.drop_length,iD,kF (Int.lt_irrefl _)];rfl
  | succ m ih=>
   intro n' i hm hi;cases n' with
   |zero=>omega
   | succ n'=>
    rw[am];have hih:=ih n' (i+1) (by omega) (by omega)
    generalize (ab (fun go0 s=>bJ n go0 (lnL g.ls) t num s) n':dC->Option cQ)=go at hih
    obtain⟨x,hx⟩:=aV (show i<g.ls.length by omega)
    obtain⟨k0,k1⟩:=zn hx;have hd:g.ls.drop i=x::g.ls.drop (i+1):=by
     rw[List.drop_eq_getElem_cons (List.getElem?_eq_some_iff.1 hx).1,(List.getElem?_eq_some_iff.1 hx).2]
    have hev:=hs.ev x (List.mem_of_getElem? hx);show bJ n go (lnL g.ls) t num (i:Int)=_
    unfold bJ;rw[k0,k1,iD,kT (show(i:Int)<(g.ls.length:Int) by omega),kT (show(0:Int)<=(i:Int) by omega),hd]
    unfold dn;by_cases e1:x.1=num
    ·rw[kT e1,kF (show ¬(i:Int)<0 by omega),xc n x.2 t (by omega),Option.bind_some,if_pos e1]
    ·rw[kF e1,kG (by omega),if_neg e1]
     rw[show((i+1:Nat):Int)=(i:Int)+1 by omega]at hih
     exact hih
 have:=key g.ls.length n 0 (by omega) (by omega)
 rw[List.drop_zero]at this;exact this
theorem DK(p:List Int)(h:p≠[]):cI (iL p) (((iL p).length:Int)-1) 0=sI p:=by
 have hl:0<p.length:=List.length_pos_iff.2 h
 rw[cg,aq];unfold sI;rw[List.getLast?_eq_getElem?,List.getD_eq_getElem?_getD];congr 2
 omega
theorem vl(p:List (Int×Int))(h:p≠[]):cI (hpL p) (((hpL p).length:Int)-1) 0=bF p:=by
 have hl:0<p.length:=List.length_pos_iff.2 h
 have hx:p[p.length-1]?=some (p[p.length-1]'(by omega)):=List.getElem?_eq_getElem (by omega)
 have:=(yU hx).1
 rw[iE,show((p.length:Int)-1)=((p.length-1:Nat):Int) by omega,this]
 unfold bF;rw[List.getLast?_eq_getElem?,hx];rfl
theorem kP{α:Type}{p:List α}(h:p≠[]):0<(p.length:Int):=by
 have:=List.length_pos_iff.2 h
 omega
theorem Hy(n:Nat)(g:Gr)(t c:Int)(w:Int×List Int×List Int)(p:List (Int×Int)×Int)(hw:w.2.1≠[])(hp:p.1≠[])(hwl:w.2.1.length<=1000)(hpl:p.1.length<=1000)(hv:f9 g.r g.c g.ce)(t0:0<=t)(t1:t<=10000000)(hn:1001<n):
  bb n (lnL g.ls) (seL g.ss) (coL g.cs) (iL g.h) (iL g.k) g.lag g.r.a g.r.c g.r.s g.r.r g.c.n g.c.f g.c.t g.c.h g.c.a g.c.b (ceL g.ce) g.nn (edL g.es) t c w.1 (iL w.2.1) (iL w.2.2) (hpL p.1) p.2=some (decide (Unp g t w.2.1 p.1)):=by
 have l1:=kP hw;have l2:=kP hp;have hW:l8 n g.r.a g.r.c g.r.s g.r.r g.c.n g.c.f g.c.t g.c.h g.c.a g.c.b (ceL g.ce) t=some (NY g t,0):=by
  rw[Gy n g.r g.c g.ce t (by omega),if_pos ⟨hv,t0,by omega⟩]
  rfl
 unfold bb iz;rw[hW,Option.bind_some,vl _ hp,DK _ hw,iE,aq,kG (by omega),kT (by omega),kT (by omega)]
 dsimp only;by_cases e2:bF p.1=g.c.f
 ·rw[kT e2,kG (by omega),kT (by omega),kT (by omega)]
  by_cases e1:g.c.n=sI w.2.1
  ·rw[kT e1]
   congr 1
   rw[<-decide_not,decide_eq_decide];exact⟨fun h=>⟨e1,.inl e2,h⟩,fun h=>h.2.2⟩
  ·rw[kF e1,decide_eq_false (fun h:Unp g t w.2.1 p.1=>e1 h.1)]
 ·rw[kF e2,kG (by omega),kT (by omega),kT (by omega)]
  by_cases e1:g.c.n=sI w.2.1
  ·rw[kT e1]
   by_cases e3:bF p.1=g.c.t
   ·rw[kT e3]
    congr 1
    rw[<-decide_not,decide_eq_decide];exact⟨fun h=>⟨e1,.inr e3,h⟩,fun h=>h.2.2⟩
   ·rw[kF e3,decide_eq_false (fun h:Unp g t w.2.1 p.1=>(h.2.1).elim (fun h=>e2 h) (fun h=>e3 h))]
  ·rw[kF e1,decide_eq_false (fun h:Unp g t w.2.1 p.1=>e1 h.1)]
abbrev Ke(g:Gr)(t c:Int)(w:Int×List Int×List Int)(p:List (Int×Int)×Int):bW:=
 (lnL g.ls,seL g.ss,coL g.cs,iL g.h,iL g.k,g.lag,g.r.a,g.r.c,g.r.s,g.r.r,g.c.n,g.c.f,g.c.t,g.c.h,g.c.a,g.c.b,ceL g.ce,g.nn,edL g.es,t,c,w.1,iL w.2.1,iL w.2.2,hpL p.1,p.2,true)
abbrev P6:bW:=(([]:Lv),([]:Lv),([]:Lv),([]:Lv),([]:Lv),0,0,0,0,0,0,0,0,0,0,false,([]:Lv),0,([]:Lv),0,0,0,([]:Lv),([]:Lv),([]:Lv),0,false)
theorem If(n:Nat)(g:Gr)(hs:Small g)(num t c:Int)(hn:1001<n):eH n (lnL g.ls) (seL g.ss) (coL g.cs) (iL g.h) (iL g.k) g.lag g.r.a g.r.c g.r.s g.r.r g.c.n g.c.f g.c.t g.c.h g.c.a g.c.b (ceL g.ce) g.nn (edL g.es) num t c=some (if i9 g num t c then Ke g t c (wy g num t) (hp g c)else P6):=by
 unfold eH qf;rw[BF n g hs hn,Option.bind_some];unfold qk;by_cases hv:GrV g
 ·have hk8:=hv.2.2.2.1.2.1
  rw[kNT hv];unfold pA;by_cases n0:0<=num
  ·rw [kT n0]
   unfold qw;by_cases n1:num<=99999999
   ·rw [kNT n1]
    unfold pR;by_cases t0:0<=t
    ·rw [kT t0]
     unfold qx;by_cases t1:t<=10000000
     ·rw [kNT t1]
      by_cases c0:0<=c
      ·rw[kT c0]
       by_cases c1:c<=7
       ·rw[kNT c1,kT (show c<((iL g.k).length:Int) by rw[aq];omega),F9]
        by_cases c2:at_ g.k c<0
        ·rw[kT c2,if_neg (fun h=>by have:=h.2.2.2.2.2.2.2;omega)]
        ·have hR:=ot n g.ss g.cs num t hs.ss hs.cs (by omega)
         have hP:=Ik n g.h g.k g.lag c (by omega)
         have o1:zr g.ss g.cs num t:=⟨hv.2.2.1,n0,n1,t0,t1⟩
         have o2:ya g.h g.k g.lag c:=⟨hv.2.2.2.1,c0,c1,by omega⟩
         unfold yr at hR;unfold CM at hP;rw[if_pos o1]at hR;rw[if_pos o2]at hP;rw[kF c2,hR,Option.bind_some,hP,Option.bind_some,if_pos ⟨hv,n0,n1,t0,t1,c0,c1,by omega⟩]
       ·rw[kNF c1,if_neg (fun h=>c1 h.2.2.2.2.2.2.1)]
      ·rw[kF c0,if_neg (fun h=>c0 h.2.2.2.2.2.1)]
     ·rw[kNF t1,if_neg (fun h=>t1 h.2.2.2.2.1)]
    ·rw[kF t0,if_neg (fun h=>t0 h.2.2.2.1)]
   ·rw[kNF n1,if_neg (fun h=>n1 h.2.2.1)]
  ·rw[kF n0,if_neg (fun h=>n0 h.2.1)]
 ·rw[kNF hv,if_neg (fun h=>hv h.1)]
end Go.Proofs.YtbfkkigbedmhgaaGreat
namespace Go.Dial.Ref
open Go.Sx Go.Dial.Flo Go.Dial.Rou Go.Dial.Fwd Go.Dial.Lif Go.Dial.Clm
theorem Na{c:List Co}(h:gP (-1) c)(n:Int):e8 c n=0\/(2<=e8 c n/\e8 c n<=4):=by
 rcases vw c n with⟨x,hx,_,h2⟩|⟨_,h2⟩
 ·obtain⟨j,hj⟩:=List.getElem?_of_mem hx
  have:=CV h j x hj
  exact .inr (by omega)
 ·exact .inl h2
theorem JG{l:List Se}{c:List Co}(hc:gP (-1) c)(t:Int):∀(m:Nat) (n:Int) (p u:List Int),p≠[] →
  (jN l c t m n p u).2.1≠[]/\(jN l c t m n p u).2.1.length<=p.length+m/\(jN l c t m n p u).2.2.length<=u.length+m/\(jN l c t m n p u).2.1.head?=p.head?/\1<=(jN l c t m n p u).1/\(jN l c t m n p u).1<=6
 |0,n,p,u,hp=>⟨hp,by simp only[jN];omega,by simp only[jN];omega,rfl,by simp only[jN];omega,by simp only[jN];omega⟩
 | m + 1,n,p,u,hp=>by
  have hsn:∀x:Int,p++[x]≠[]/\(p++[x]).length=p.length+1/\(p++[x]).head?=p.head?:=fun x=>by
   refine⟨by simp,by simp,?_⟩
   cases p with
   |nil=>exact absurd rfl hp
   |cons y p=>rfl
  have hun:∀x:Int,(u++[x]).length=u.length+1:=fun x=>by simp
  simp only[jN];cases cnt l c n t with
  |none=>
   have:=Na hc n
   refine⟨hp,by dsimp only;omega,by dsimp only;omega,rfl,?_,?_⟩<;>dsimp only<;>split<;>omega
  | some i=>
   dsimp only;by_cases h5:u.length=5
   ·rw[if_pos h5]
    exact⟨hp,by dsimp only;omega,by dsimp only;omega,rfl,by dsimp only;omega,by dsimp only;omega⟩
   ·rw[if_neg h5]
    obtain⟨s1,s2,s3⟩:=hsn (sL l i).t;have s4:=hun (i:Int);by_cases hm:(sL l i).t∈p
    ·rw[if_pos hm]
     exact⟨s1,by dsimp only;omega,by dsimp only;omega,s3,by dsimp only;omega,by dsimp only;omega⟩
    ·rw[if_neg hm]
     obtain⟨a1,a2,a3,a4,a5⟩:=JG hc t m (sL l i).t (p++[(sL l i).t]) (u++[(i:Int)]) s1;exact⟨a1,by omega,by omega,a4.trans s3,a5⟩
structure CallV (g:Gr) (num t c:Int):Prop where
 wne:(wy g num t).2.1≠[]
 wlen:(wy g num t).2.1.length<=8
 ulen:(wy g num t).2.2.length<=8
 whead:(wy g num t).2.1.head?=some num
 kind:1<=(wy g num t).1/\(wy g num t).1<=6
 pth:PthV g.h g.k c (hp g c).1 (hp g c).2
 plen:(hp g c).1.length<=31
 c0:0<=c/\c<=7
 t0:0<=t/\t<=10000000
 last:0<=bF (hp g c).1/\bF (hp g c).1<=7
theorem zf{g:Gr}{num t c:Int}(h:i9 g num t c):CallV g num t c:=by
 obtain⟨hv,n0,n1,t0,t1,c0,c1,hk⟩:=h;obtain⟨a1,a2,a3,a4,a5,a6⟩:=JG (l:=g.ss) (c:=g.cs) hv.2.2.1.2.2 t 7 num [num] [] (by simp)
 obtain⟨p1,p2⟩:=NH (h:=g.h) (k:=g.k) (lag:=g.lag) (c:=c) ⟨hv.2.2.2.1,c0,c1,hk⟩
 obtain⟨_,_,_,_,hl⟩:=G9 p1;exact⟨a1,by have:(wy g num t).2.1.length<=1+7:=a2;omega,by have:(wy g num t).2.2.length<=0+7:=a3;omega,a4,⟨a5,a6⟩,p1,p2,⟨c0,c1⟩,⟨t0,t1⟩,hl⟩
open Classical in
noncomputable def BO (g:Gr) (t c:Int) (w:Int×List Int×List Int) (p:List (Int×Int)×Int):Rf×Bool:=
 if w.1=5\/w.1=6 then(⟨2,0,w.1,w.2.1,w.2.2,[],0⟩,true)else if 2<=w.1/\w.1<=4 then(⟨3,0,w.1,w.2.1,w.2.2,[],0⟩,true)else if p.2=2 then(⟨4,0,0,[],[],p.1,0⟩,true)else if p.2=3 then(⟨5,0,0,[],[],p.1,0⟩,true)else if p.2=1 then
  (if Unp g t w.2.1 p.1 then(⟨6,0,0,[],[],p.1,0⟩,true)else if bF p.1=c then(vf,false)else if Flo.Reach g.es c (bF p.1)then(vf,false)else(⟨7,0,0,[],[],p.1,rS g.es c⟩,true))else(vf,false)
theorem Em{g:Gr}{t c:Int}{w:Int×List Int×List Int}{p:List (Int×Int)×Int}{x:Int}(h:w.2.1.find? (fun x=> !dn g.ls x t)=some x):sP g t c w p=(⟨1,x,0,[],[],[],0⟩,true):=by
 unfold sP;rw[h]
theorem LX{g:Gr}{t c:Int}{w:Int×List Int×List Int}{p:List (Int×Int)×Int}(h:w.2.1.find? (fun x=> !dn g.ls x t)=none):sP g t c w p=BO g t c w p:=by
 unfold sP BO;rw[h]
end Go.Dial.Ref
namespace Go.Proofs.YtbfkkigbedmhgaaGreat
open Go Go.Sx Go.Dial.Ref Go.Dial.Lif Go.Dial.Clm Go.Dial.Fwd Go.Dial.Rou Go.Dial.Flo
theorem Qz{α:Type}{p q:Prop}[Decidable p][Decidable q]{X Y:α}:(bif decide p then(bif decide q then X else Y)else Y)=if p/\q then X else Y:=by
 by_cases hp:p<;>by_cases hq:q<;>simp[hp,hq]
abbrev rfT(x:Rf×Bool):ae:=(x.1.k,x.1.n,x.1.rk,iL x.1.rp,iL x.1.ru,hpL x.1.hs,x.1.s,x.2)
theorem On{es:List Ed}{a b M:_}{value s:Int}(hv:NetV 8 es)(h:MaxR es a b M value s):(lvs s es=0↔¬Dial.Flo.Reach es (a:Int) (b:Int))/\(¬Dial.Flo.Reach es (a:Int) (b:Int)->rS es (a:Int)=s)/\(Dial.Flo.Reach es (a:Int) (b:Int)↔0<value):=by
 have hval:=h.inv.val;have hz:value=0->¬Dial.Flo.Reach es (a:Int) (b:Int):=fun h0 hr=>by
  have:=Hu hv.2.2.2 (Iw hv.2.2.2 (h.isr h0)) h.cut.2.2.1 hr
  rw[h.cut.2.2.2]at this;cases this
 have hn:¬Dial.Flo.Reach es (a:Int) (b:Int)->value=0:=fun hr=>by
  rcases hval with⟨h1,_⟩|⟨_,h1⟩
  ·exact h1
  ·exact absurd h1 hr
 refine⟨⟨fun h0 hr=>?_,fun hr=>Iw hv.2.2.2 (h.isr (hn hr))⟩,fun hr=>P5 (h.isr (hn hr)),⟨fun hr=>?_,fun hp=>?_⟩⟩
 ·have:=Hu hv.2.2.2 h0 h.cut.2.2.1 hr
  rw[h.cut.2.2.2]at this;cases this
 ·rcases hval with⟨h1,_⟩|⟨h1,_⟩
  ·exact absurd hr (hz h1)
  ·exact h1
 ·rcases hval with⟨h1,_⟩|⟨_,h1⟩
  ·omega
  ·exact h1
theorem Hs{es:List Ed}{a b:Int}{M:List Int}{value s:Int}(a0:0<=a)(b0:0<=b)(hv:NetV 8 es)(h:MaxR es a.toNat b.toNat M value s):(lvs s es=0↔¬Dial.Flo.Reach es a b)/\(¬Dial.Flo.Reach es a b->rS es a=s)/\(Dial.Flo.Reach es a b↔0<value)/\C4 a b s:=by
 have h1:=On hv h;have h2:=h.cut;rw[show((a.toNat:Nat):Int)=a by omega,show((b.toNat:Nat):Int)=b by omega]at h1 h2
 exact⟨h1.1,h1.2.1,h1.2.2,h2⟩
theorem Jq(n:Nat)(go0:ak->Option ae)(g:Gr)(t c:Int)(w:Int×List Int×List Int)(p:List (Int×Int)×Int)(hw:w.2.1≠[])(hp:p.1≠[])(hwl:w.2.1.length<=1000)(hpl:p.1.length<=1000)(hv:GrV g)(t0:0<=t)(t1:t<=10000000)(c0:0<=c)(c1:c<=7)(q0:0<=bF p.1)(q1:bF p.1<=7)(hn:20001000<n):
  e9 n go0 (lnL g.ls) (seL g.ss) (coL g.cs) (iL g.h) (iL g.k) g.lag g.r.a g.r.c g.r.s g.r.r g.c.n g.c.f g.c.t g.c.h g.c.a g.c.b (ceL g.ce) g.nn (edL g.es) t c w.1 (iL w.2.1) (iL w.2.2) (hpL p.1) p.2=some (rfT (BO g t c w p)):=by
 have l2:=kP hp;have hnet:NetV 8 g.es:=by have:=hv.2.2.2.2.2.1;rw[hv.2.2.2.2.2.2]at this;exact this
 have hnn:g.nn=8:=hv.2.2.2.2.2.2
 unfold e9 BO;by_cases k5:w.1=5
 ·rw[kT k5,if_pos (.inl k5)];rfl
 ·rw [kF k5]
  unfold jI;by_cases k6:w.1=6
  ·rw[kT k6,if_pos (.inr k6)];rfl
  ·rw [kF k6,if_neg (fun h=>(h).elim (fun h=>k5 h) (fun h=>k6 h))]
   unfold jH;rw[Qz];by_cases k2:2<=w.1/\w.1<=4
   ·rw[if_pos k2,if_pos k2];rfl
   ·rw [if_neg k2,if_neg k2]
    by_cases e2:p.2=2
    ·rw[kT e2,if_pos e2];rfl
    ·rw [kF e2,if_neg e2]
     by_cases e3:p.2=3
     ·rw[kT e3,if_pos e3];rfl
     ·rw [kF e3,if_neg e3]
      by_cases e1:p.2=1
      ·rw[kT e1,if_pos e1,Hy n g t c w p hw hp hwl hpl hv.2.2.2.2.1 t0 t1 (by omega),Option.bind_some]
       by_cases u:Unp g t w.2.1 p.1
       ·rw[kT u,if_pos u];rfl
       ·rw[kF u,if_neg u,vl _ hp,iE,kG (by omega),kT (by omega),kT (by omega)]
        by_cases e4:bF p.1=c
        ·rw[kT e4,if_pos e4];rfl
        ·obtain⟨M,value,s,hM,hF⟩:=Bx n g.es c (bF p.1) hnet c0 c1 q0 q1 (fun e=>e4 e.symm) (by omega)
         obtain⟨m1,m2,_,m4⟩:=Hs c0 q0 hnet hM;have hC:=BC n g.es c (bF p.1) s hnet (by omega)
         unfold Ny at hC;rw[if_pos ⟨c0,c1,q0,q1,fun e=>e4 e.symm,m4⟩]at hC
         rw[kF e4,if_neg e4,hnn,hF,Option.bind_some,hC,Option.bind_some];by_cases r:Dial.Flo.Reach g.es c (bF p.1)
         ·rw[kF (fun h=>(m1.1 h) r),if_pos r];rfl
         ·rw[kT (m1.2 r),if_neg r,m2 r];rfl
      ·rw[kF e1,if_neg e1];rfl
theorem IV(n:Nat)(go0:ak->Option ae)(g:Gr)(hs:Small g)(t c:Int)(w:Int×List Int×List Int)(p:List (Int×Int)×Int)(hwl:w.2.1.length<=1000)(hn:20001000<n)(i:Nat)(x:Int)(hx:w.2.1[i]?=some x):∀(m n' j:Nat),m<n'->j+m=i →
  ab (fun go1 s=>bI n go0 go1 (lnL g.ls) (seL g.ss) (coL g.cs) (iL g.h) (iL g.k) g.lag g.r.a g.r.c g.r.s g.r.r g.c.n g.c.f g.c.t g.c.h g.c.a g.c.b (ceL g.ce) g.nn (edL g.es) t c w.1 (iL w.2.1) (iL w.2.2) (hpL p.1) p.2 (i:Int) s) n' ((j:Int):ak)=bif dn g.ls x t then go0 ((i:Int)+1)else some (1,x,0,([]:Lv),([]:Lv),([]:Lv),0,true):=by
 have hil:=(List.getElem?_eq_some_iff.1 hx).1;have k0:cI (iL w.2.1) (i:Int) 0=x:=by rw[dR,List.getD_eq_getElem?_getD,hx];rfl
 have hit:∀go1:ak->Option ae,∀j:Nat,j<=i->cI (iL w.2.1) (j:Int) 0=x->bI n go0 go1 (lnL g.ls) (seL g.ss) (coL g.cs) (iL g.h) (iL g.k) g.lag g.r.a g.r.c g.r.s g.r.r g.c.n g.c.f g.c.t g.c.h g.c.a g.c.b (ceL g.ce) g.nn (edL g.es) t c w.1 (iL w.2.1) (iL w.2.2) (hpL p.1) p.2 (i:Int) (j:Int)=bif dn g.ls x t then go0 ((i:Int)+1)else some (1,x,0,([]:Lv),([]:Lv),([]:Lv),0,true):=by
  intro go1 j hj kj;unfold bI;rw[aq,kT (show(j:Int)<(w.2.1.length:Int) by omega),kT (show(0:Int)<=(j:Int) by omega)]
  unfold fQ;rw[k0,kj,kT rfl,MW n g hs x t c w p (by omega),Option.bind_some]
  unfold jS;cases dn g.ls x t with
  |true=>rw[Bool.not_true,cond_false,kG (by omega),cond_true]
  |false=>
   rw[Bool.not_false,cond_true,cond_false];unfold j6;rw[kF (show ¬(i:Int)<0 by omega),k0]
 intro m;induction m with
 | zero=>
  intro n' j hm hj;cases n' with
  |zero=>omega
  |succ n'=>
   rw[am];have hji:j=i:=by omega
   subst hji;exact hit _ j (Nat.le_refl _) k0
 | succ m ih=>
  intro n' j hm hj;cases n' with
  |zero=>omega
  | succ n'=>
   rw[am];by_cases kj:cI (iL w.2.1) (j:Int) 0=x
   ·exact hit _ j (by omega) kj
   ·have hih:=ih n' (j+1) (by omega) (by omega)
    generalize (ab (fun go1 s=>bI n go0 go1 (lnL g.ls) (seL g.ss) (coL g.cs) (iL g.h) (iL g.k) g.lag g.r.a g.r.c g.r.s g.r.r g.c.n g.c.f g.c.t g.c.h g.c.a g.c.b (ceL g.ce) g.nn (edL g.es) t c w.1 (iL w.2.1) (iL w.2.2) (hpL p.1) p.2 (i:Int) s) n':ak->Option ae)=go1 at hih
    show bI n go0 go1 (lnL g.ls) (seL g.ss) (coL g.cs) (iL g.h) (iL g.k) g.lag g.r.a g.r.c g.r.s g.r.r g.c.n g.c.f g.c.t g.c.h g.c.a g.c.b (ceL g.ce) g.nn (edL g.es) t c w.1 (iL w.2.1) (iL w.2.2) (hpL p.1) p.2 (i:Int) (j:Int)=_
    unfold bI;rw[aq,kT (show(j:Int)<(w.2.1.length:Int) by omega),kT (show(0:Int)<=(j:Int) by omega)]
    unfold fQ;rw[k0,kF (fun e=>kj e.symm),kG (by omega)]
    rw[show((j+1:Nat):Int)=(j:Int)+1 by omega]at hih
    exact hih
theorem IC(n:Nat)(g:Gr)(hs:Small g)(t c:Int)(w:Int×List Int×List Int)(p:List (Int×Int)×Int)(hw:w.2.1≠[])(hp:p.1≠[])(hwl:w.2.1.length<=1000)(hpl:p.1.length<=1000)(hv:GrV g)(t0:0<=t)(t1:t<=10000000)(c0:0<=c)(c1:c<=7)(q0:0<=bF p.1)(q1:bF p.1<=7)(hn:20001000<n):
  dt n (lnL g.ls) (seL g.ss) (coL g.cs) (iL g.h) (iL g.k) g.lag g.r.a g.r.c g.r.s g.r.r g.c.n g.c.f g.c.t g.c.h g.c.a g.c.b (ceL g.ce) g.nn (edL g.es) t c w.1 (iL w.2.1) (iL w.2.2) (hpL p.1) p.2=some (rfT (sP g t c w p)):=by
 unfold dt jR;have key:∀(m n' i:Nat),m<n'->i+m=w.2.1.length->ab (fun go0 s=>bH n go0 (lnL g.ls) (seL g.ss) (coL g.cs) (iL g.h) (iL g.k) g.lag g.r.a g.r.c g.r.s g.r.r g.c.n g.c.f g.c.t g.c.h g.c.a g.c.b (ceL g.ce) g.nn (edL g.es) t c w.1 (iL w.2.1) (iL w.2.2) (hpL p.1) p.2 s) n' ((i:Int):ak)=match (w.2.1.drop i).find? (fun x=> !dn g.ls x t)with
   |some x=>some (1,x,0,([]:Lv),([]:Lv),([]:Lv),0,true)
   |none=>some (rfT (BO g t c w p)):=by
  intro m;induction m with
  | zero=>
   intro n' i hm hi;cases n' with
   |zero=>omega
   |succ n'=>
    rw[am];show bH n _ (lnL g.ls) (seL g.ss) (coL g.cs) (iL g.h) (iL g.k) g.lag g.r.a g.r.c g.r.s g.r.r g.c.n g.c.f g.c.t g.c.h g.c.a g.c.b (ceL g.ce) g.nn (edL g.es) t c w.1 (iL w.2.1) (iL w.2.2) (hpL p.1) p.2 (i:Int)=_
    unfold bH;have hi':i=w.2.1.length:=by omega
    subst hi';rw[List.drop_length,aq,kF (Int.lt_irrefl _)];exact Jq n _ g t c w p hw hp hwl hpl hv t0 t1 c0 c1 q0 q1 hn
  | succ m ih=>
   intro n' i hm hi;cases n' with
   |zero=>omega
   | succ n'=>
    rw[am];have hih:=ih n' (i+1) (by omega) (by omega)
    generalize (ab (fun go0 s=>bH n go0 (lnL g.ls) (seL g.ss) (coL g.cs) (iL g.h) (iL g.k) g.lag g.r.a g.r.c g.r.s g.r.r g.c.n g.c.f g.c.t g.c.h g.c.a g.c.b (ceL g.ce) g.nn (edL g.es) t c w.1 (iL w.2.1) (iL w.2.2) (hpL p.1) p.2 s) n':ak->Option ae)=go at hih
    obtain⟨x,hx⟩:=aV (show i<w.2.1.length by omega)
    have hd:w.2.1.drop i=x::w.2.1.drop (i+1):=by
     rw[List.drop_eq_getElem_cons (List.getElem?_eq_some_iff.1 hx).1,(List.getElem?_eq_some_iff.1 hx).2]
    show bH n go (lnL g.ls) (seL g.ss) (coL g.cs) (iL g.h) (iL g.k) g.lag g.r.a g.r.c g.r.s g.r.r g.c.n g.c.f g.c.t g.c.h g.c.a g.c.b (ceL g.ce) g.nn (edL g.es) t c w.1 (iL w.2.1) (iL w.2.2) (hpL p.1) p.2 (i:Int)=_
    unfold bH;rw[aq,kT (show(i:Int)<(w.2.1.length:Int) by omega),kT (show(0:Int)<=(i:Int) by omega),hd,List.find?_cons]
    have hf:=IV n go g hs t c w p hwl hn i x hx i n 0 (by omega) (by omega)
    refine hf.trans ?_
    rw[show((i+1:Nat):Int)=(i:Int)+1 by omega]at hih
    cases dn g.ls x t with
    |true=>exact hih
    |false=>rfl
 have:=key w.2.1.length n 0 (by omega) (by omega)
 rw[List.drop_zero]at this;refine this.trans ?_
 cases hf:w.2.1.find? (fun x=> !dn g.ls x t)with
 |some x=>rw[Em hf];rfl
 |none=>rw[LX hf]
abbrev PI(x:Rf×Bool)(e:Int):kD:=(x.1.k,x.1.n,x.1.rk,iL x.1.rp,iL x.1.ru,hpL x.1.hs,x.1.s,x.2,e)
theorem A7(n:Nat)(g:Gr)(hs:Small g)(num t c:Int)(hn:20001000<n):eK n (lnL g.ls) (seL g.ss) (coL g.cs) (iL g.h) (iL g.k) g.lag g.r.a g.r.c g.r.s g.r.r g.c.n g.c.f g.c.t g.c.h g.c.a g.c.b (ceL g.ce) g.nn (edL g.es) num t c=some (if i9 g num t c then PI (yt g num t c) 0 else PI (vf,false) 280):=by
 unfold eK qn;rw[If n g hs num t c (by omega),Option.bind_some]
 by_cases h:i9 g num t c
 ·have hc:=zf h
  have hR:=IC n g hs t c (wy g num t) (hp g c) hc.wne hc.pth.ne (by have:=hc.wlen;omega) (by have:=hc.plen;omega) h.1 hc.t0.1 hc.t0.2 hc.c0.1 hc.c0.2 hc.last.1 hc.last.2 hn
  rw[if_pos h,if_pos h];dsimp only[Ke]
  rw[Bool.not_true,cond_false,hR,Option.bind_some];rfl
 ·rw[if_neg h,if_neg h]
  rfl
abbrev Ki(w:Int×List Int×List Int)(p:List (Int×Int)×Int):jq:=(sI w.2.1,bF p.1,w.1,iL w.2.1,iL w.2.2,hpL p.1,true,0)
abbrev Md(e:Int):jq:=(0,0,0,([]:Lv),([]:Lv),([]:Lv),false,e)
theorem uc(n:Nat)(g:Gr)(hs:Small g)(num t c:Int)(hn:20001000<n):eY n (lnL g.ls) (seL g.ss) (coL g.cs) (iL g.h) (iL g.k) g.lag g.r.a g.r.c g.r.s g.r.r g.c.n g.c.f g.c.t g.c.h g.c.a g.c.b (ceL g.ce) g.nn (edL g.es) num t c=some (if i9 g num t c then(if(yt g num t c).2=true then Md 0 else Ki (wy g num t) (hp g c))else Md 280):=by
 unfold eY uD;rw[If n g hs num t c (by omega),Option.bind_some]
 by_cases h:i9 g num t c
 ·have hc:=zf h
  have l1:=kP hc.wne;have l2:=kP hc.pth.ne;have b1:=hc.wlen;have b2:=hc.plen;have hR:=IC n g hs t c (wy g num t) (hp g c) hc.wne hc.pth.ne (by omega) (by omega) h.1 hc.t0.1 hc.t0.2 hc.c0.1 hc.c0.2 hc.last.1 hc.last.2 hn
  rw[if_pos h,if_pos h];dsimp only[Ke]
  rw[Bool.not_true,cond_false,hR,Option.bind_some];unfold yt;dsimp only[rfT]
  cases hb:(sP g t c (wy g num t) (hp g c)).2 with
  |true=>rw[cond_true,if_pos rfl]
  |false=>
   rw[cond_false,if_neg (by decide),DK _ hc.wne,vl _ hc.pth.ne,aq,iE,kG (by omega),kT (by omega),kT (by omega),kG (by omega),kT (by omega),kT (by omega)]
 ·rw[if_neg h,if_neg h]
  rfl
end Go.Proofs.YtbfkkigbedmhgaaGreat
