/-
  Texts of this claim, joined (part JNSProof11).
-/
import Derived.Test.YtbfkkigbedmhgaaGreatJN7
set_option linter.unusedVariables false
set_option linter.unusedSimpArgs false
set_option linter.unusedSectionVars false
set_option linter.constructorNameAsVariable false
set_option maxRecDepth 100000
namespace Go.Dial.Flo
open Go.Sx
def ams:List Int->List Ed->List Int
 |_,[]=>[]
 |U,e::es=>aB e.c (gM U e.f.toNat e.t.toNat)::ams (lY U e.f.toNat e.t.toNat (gM U e.f.toNat e.t.toNat-aB e.c (gM U e.f.toNat e.t.toNat))) es
theorem JX:∀(es:List Ed) (U:List Int),(ams U es).length=es.length
 |[],_=>rfl
 |e::es,U=>by simp only[ams,List.length_cons,JX es]
def fl(c d:Nat):List Ed->List Int->Int
 |e::es,k::l=>(if e.f=(c:Int)/\e.t=(d:Int)then k else 0)+fl c d es l
 |_,_=>0
def gvs(v:Nat):List Ed->List Int->Int
 |e::es,k::l=>((if e.f=(v:Int)then k else 0)-(if e.t=(v:Int)then k else 0))+gvs v es l
 |_,_=>0
def NnM(U:List Int):Prop:=U.length=196/\∀c d,c<14->d<14->0<=gM U c d
theorem Mh{U:List Int}{a b:Nat}{y:Int}(h:NnM U)(ha:a<14)(hb:b<14)(hy:0<=y):NnM (lY U a b y):=by
 refine⟨by rw[gI];exact h.1,fun c d hc hd=>?_⟩
 rw[qC h.1 ha hb hd];split
 ·exact hy
 ·exact h.2 c d hc hd
theorem Ld{N:Int}(hN:N<=14):∀(es:List Ed) (U:List Int),(∀e∈es,EdV N e)->NnM U->∀(i:Nat) e,es[i]?=some e->∃k,(ams U es)[i]?=some k/\0<=k/\k<=e.c
 |[],_,_,_,i,e,h=>by simp at h
 |x::es,U,hv,hU,i,e,h=>by
  obtain⟨f0,f1,t0,t1,_,c0,c1⟩:=hv x (List.mem_cons_self ..);have hg:=hU.2 x.f.toNat x.t.toNat (by omega) (by omega)
  have hk:0<=aB x.c (gM U x.f.toNat x.t.toNat)/\aB x.c (gM U x.f.toNat x.t.toNat)<=x.c/\aB x.c (gM U x.f.toNat x.t.toNat)<=gM U x.f.toNat x.t.toNat:=by unfold aB;split<;>omega
  cases i with
  |zero=>cases h;exact⟨_,rfl,hk.1,hk.2.1⟩
  |succ i=>exact Ld hN es _ (fun y hy=>hv y (List.mem_cons_of_mem _ hy)) (Mh hU (by omega) (by omega) (by omega)) i e h
theorem LT{N:Int}(hN:N<=14)(c d:Nat)(hc:c<14)(hd:d<14):∀(es:List Ed) (U:List Int),(∀e∈es,EdV N e)->NnM U->fl c d es (ams U es)=aB (ia c d es) (gM U c d)
 |[],U,_,hU=>by
  have:=hU.2 c d hc hd
  simp only[ams,fl,ia];unfold aB;split<;>omega
 | x::es,U,hv,hU=>by
  obtain⟨f0,f1,t0,t1,_,c0,c1⟩:=hv x (List.mem_cons_self ..);have hv':∀e∈es,EdV N e:=fun y hy=>hv y (List.mem_cons_of_mem _ hy)
  have hg:=hU.2 x.f.toNat x.t.toNat (by omega) (by omega)
  have hgc:=hU.2 c d hc hd;have hcap:=nk hv' c d;have hk:0<=gM U x.f.toNat x.t.toNat-aB x.c (gM U x.f.toNat x.t.toNat):=by unfold aB;split<;>omega
  simp only[ams,fl,ia];rw[LT hN c d hc hd es _ hv' (Mh hU (by omega) (by omega) hk),qC hU.1 (by omega) (by omega) hd]
  by_cases h:x.f=(c:Int)/\x.t=(d:Int)
  ·have e1:c=x.f.toNat/\d=x.t.toNat:=⟨by omega,by omega⟩
   rw[if_pos h,if_pos h,if_pos e1,<-e1.1,<-e1.2];unfold aB;repeat' split
   all_goals omega
  ·rw[if_neg h,if_neg h,if_neg (fun e=>h ⟨by omega,by omega⟩)]
   rw[show(0:Int)+ia c d es=ia c d es by omega]
   omega
theorem Gg{f g:Nat->Int}:∀(k:Nat),dq k (fun i=>f i+g i)=dq k f+dq k g
 |0=>rfl
 |k+1=>by simp only[dq,Gg k];omega
theorem A3{f g:Nat->Int}:∀(k:Nat),dq k (fun i=>f i-g i)=dq k f-dq k g
 |0=>rfl
 |k+1=>by simp only[dq,A3 k];omega
theorem qW:∀(k:Nat),dq k (fun _=>0)=0
 |0=>rfl
 |k+1=>by simp only[dq,qW k];rfl
theorem GE{x y:Int}(P:Prop)[Decidable P](hx:0<=x/\x<14):dq 14 (fun d=>if P/\x=(d:Int)then y else 0)=if P then y else 0:=by
 have:=vN (f:=fun d=>if P/\x=(d:Int)then y else 0) (g:=fun _=>0) (j:=x.toNat) (d:=if P then y else 0) 14 (by omega) (fun i _ hne=>by
  show(if P/\x=(i:Int)then y else 0)=0
  rw[if_neg (fun e=>hne (by omega))]) (by
  show(if P/\x=(x.toNat:Int)then y else 0)=0+if P then y else 0
  by_cases hp:P
  ·rw[if_pos hp,if_pos ⟨hp,by omega⟩];omega
  ·rw[if_neg hp,if_neg (fun e=>hp e.1)];rfl)
 rw[this,qW];omega
theorem Ly{N:Int}(hN:N<=14)(v:Nat):∀(es:List Ed) (l:List Int),(∀e∈es,EdV N e)->gvs v es l=dq 14 (fun d=>fl v d es l)-dq 14 (fun d=>fl d v es l)
 |[],l,_=>by simp only[gvs,fl,qW];rfl
 |e::es,[],_=>by simp only[gvs,fl,qW];rfl
 | e::es,k::l,hv=>by
  obtain⟨f0,f1,t0,t1,_,c0,c1⟩:=hv e (List.mem_cons_self ..);have h1:=GE (x:=e.t) (y:=k) (e.f=(v:Int)) ⟨t0,by omega⟩
  have h2:=GE (x:=e.f) (y:=k) (e.t=(v:Int)) ⟨f0,by omega⟩
  simp only[gvs,fl,Gg];rw[Ly hN v es l (fun x hx=>hv x (List.mem_cons_of_mem _ hx)),h1]
  have h3:dq 14 (fun d=>if e.f=(d:Int)/\e.t=(v:Int)then k else 0)=if e.t=(v:Int)then k else 0:=by
   rw[<-h2];refine jl 14 (fun i _=>?_)
   by_cases hh:e.f=(i:Int)/\e.t=(v:Int)
   ·rw[if_pos hh,if_pos ⟨hh.2,hh.1⟩]
   ·rw[if_neg hh,if_neg (fun x=>hh ⟨x.2,x.1⟩)]
  rw[h3];omega
theorem Oj{es:List Ed}{a b:Nat}{M U:List Int}{value:Int}(hv:∀e∈es,EdV 8 e)(h:PInv es a b M value)(hU:NnM U)(hUd:∀c d,c<14->d<14->gM U c d=aL (gM (bw es) c d-gM M c d) 0)(v:Nat)(hv14:v<14):
  gvs v es (ams U es)=(if v=a then value else 0)-(if v=b then value else 0):=by
 have hfl:∀c d,c<14->d<14->fl c d es (ams U es)=aL (gM (bw es) c d-gM M c d) 0:=fun c d hc hd=>by
  rw[LT (by decide) c d hc hd es U hv hU,hUd c d hc hd,jo (by decide) hv c d hd]
  have h1:=h.kept.pos c d hc hd;have h2:=nk hv c d;unfold aB aL;repeat' split
  all_goals omega
 rw[Ly (by decide) v es _ hv,jl (g:=fun d=>aL (gM (bw es) v d-gM M v d) 0) 14 (fun d hd=>hfl v d hv14 hd),jl (g:=fun d=>aL (gM (bw es) d v-gM M d v) 0) 14 (fun d hd=>hfl d v hd hv14),<-A3]
 rw[jl (g:=fun d=>gM (bw es) v d-gM M v d) 14 (fun d hd=>by
  have:=h.kept.two v d hv14 hd
  show aL (gM (bw es) v d-gM M v d) 0-aL (gM (bw es) d v-gM M d v) 0=gM (bw es) v d-gM M v d
  unfold aL;split<;>split<;>omega),A3]
 have hs:=h.sums v hv14;have e1:rs M v=dq 14 (fun d=>gM M v d):=rfl
 have e2:rs (bw es) v=dq 14 (fun d=>gM (bw es) v d):=rfl
 rw[<-e1,<-e2];omega
end Go.Dial.Flo
namespace Go.Proofs.YtbfkkigbedmhgaaGreat
open Go Go.Sx Go.Dial.Ref Go.Dial.Rou Go.Dial.Fwd Go.Dial.Flo
theorem zH(n:Nat)(l:List Se)(c:List Co)(a t:Int)(hl:l.length<=1000)(hc:c.length<=1000)(ok:zr l c a t)(hp:(oe l c a t).2.1.length<=1000)(hu:(oe l c a t).2.2.length<=1000)(hn:1000<n):j7 n (seL l) (coL c) a t (oe l c a t).1 (iL (oe l c a t).2.1) (iL (oe l c a t).2.2)=some true:=by
 have hR:=ot n l c a t hl hc hn;unfold yr at hR;rw[if_pos ok]at hR;unfold j7 qX;rw[hR,Option.bind_some];dsimp only;rw[kT rfl,kT rfl,kNT rfl];generalize (oe l c a t).2.1=p at hp
 generalize (oe l c a t).2.2=u at hu
 rw[fM (len:=p.length) (f:=fun _=>none) (e:=some true) ?_ ?_ (by omega),iB (fun _ _=>rfl)]
 ·intro i go hi
  obtain⟨x,hx⟩:=aV hi;have k0:cI (iL p) (i:Int) 0=x:=by rw[dR,List.getD_eq_getElem?_getD,hx];rfl
  show fG n go (iL p) (iL u) (iL p) (iL u) (i:Int)=_
  unfold fG;rw[k0,aq p,kT (show(i:Int)<(p.length:Int) by omega),kT (show(0:Int)<=(i:Int) by omega),kT (show(i:Int)<(p.length:Int) by omega),kNT rfl,kG (by omega)]
 ·intro go
  show fG n go (iL p) (iL u) (iL p) (iL u) (p.length:Int)=_
  unfold fG;rw[aq p,kF (Int.lt_irrefl _),kNT rfl,kO (len:=u.length) (f:=fun _=>none) (e:=true) ?_ ?_ (by omega),iB (fun _ _=>rfl)]
  ·intro i go hi
   obtain⟨x,hx⟩:=aV hi;have k0:cI (iL u) (i:Int) 0=x:=by rw[dR,List.getD_eq_getElem?_getD,hx];rfl
   show fm n go (iL u) (iL u) (i:Int)=_
   unfold fm;rw[k0,aq u,kT (show(i:Int)<(u.length:Int) by omega),kT (show(0:Int)<=(i:Int) by omega),kT (show(i:Int)<(u.length:Int) by omega),kNT rfl,kG (by omega)]
  ·intro go
   show fm n go (iL u) (iL u) (u.length:Int)=_
   unfold fm;rw[aq u,kF (Int.lt_irrefl _)]
theorem Pn(n:Nat)(h k:List Int)(c0:Int)(l:List (Int×Int))(e:Int)(hh:HoV h)(hp:PthV h k c0 l e)(hl:l.length<=1000)(hn:1001<n):ab (fun go0 s=>dx n go0 (iL h) (hpL l) s) n (0:dl)=some true:=by
 have h1:=hh.1;have h30:=hh.2.1;rw[kO (len:=l.length) (f:=fun _=>none) (e:=true) ?_ ?_ (by omega),iB (fun _ _=>rfl)]
 ·intro i go hi
  obtain⟨x,hx⟩:=aV hi;obtain⟨k0,k1⟩:=yU hx;obtain⟨b1,b2,b3,b4,b5,b6⟩:=hp.bd x (List.mem_of_getElem? hx);have more:((bif (i:Int)<((l.length:Int)-1) then bif x.2<((iL h).length:Int) then(bif (cI (iL h) x.2 0)=x.1 then some (decide ((i:Int)=(-1)))else(bif (cI (iL h) x.2 0)=(-1) then some (decide ((i:Int)=(-1)))else bif(-9223372036854775808<=((i:Int)+1))&&(((i:Int)+1)<=9223372036854775807)then go ((i:Int)+1)else none))else none else bif(-9223372036854775808<=((i:Int)+1))&&(((i:Int)+1)<=9223372036854775807)then go ((i:Int)+1)else none):Option Bool)=go ((i:Int)+1):=by
   by_cases e1:(i:Int)<(l.length:Int)-1
   ·obtain⟨y,hy⟩:=aV (show i+1<l.length by omega)
    obtain⟨_,_,c3,c4⟩:=hp.two i x y hx hy;rw[kT e1,kT (show x.2<((iL h).length:Int) by rw[aq];omega),F9,kF c3,kF c4,kG (by omega)]
   ·rw[kF e1,kG (by omega)]
  show dx n go (iL h) (hpL l) (i:Int)=_
  unfold dx;rw[k0,k1,iE,aq h,kT (by omega),kT (by omega),kT b1,kNT b2,kG (by omega),kT b3,kNT b4]
  by_cases e0:(0:Int)<(i:Int)
  ·obtain⟨w,hw⟩:=aV (show i-1<l.length by omega)
   obtain⟨j0,j1⟩:=yU hw;have hpos:1<=i:=by omega
   rw[show((i-1:Nat):Int)=(i:Int)-1 by omega]at j0 j1
   obtain⟨a1,a2,a3,a4⟩:=hp.two (i-1) w x hw (by rw[show i-1+1=i by omega];exact hx)
   obtain⟨d1,d2,d3,d4,d5,d6⟩:=hp.bd w (List.mem_of_getElem? hw);have m2:=more;rw[aq h]at m2;rw[kT e0,kG (by omega),kT (by omega),kT (by omega),j1,kT d3,kT (by omega),F9 (i:=w.2),kNT a1,kF (by omega),kG (by omega)]
   exact m2
  ·have m2:=more
   rw[aq h]at m2;rw[kF e0,kG (by omega)]
   exact m2
 ·intro go
  show dx n go (iL h) (hpL l) (l.length:Int)=_
  unfold dx;rw[iE,kF (Int.lt_irrefl _)]
theorem FQ(n:Nat)(h k:List Int)(c0:Int)(l:List (Int×Int))(e:Int)(hh:HoV h)(hp:PthV h k c0 l e)(hl:l.length<=1000)(hn:1001<n):mM n (iL h) (hpL l)=some true:=by
 have h1:=hh.1;have h30:=hh.2.1;have hne:=kP hp.ne;have h5:=Pn n h k c0 l e hh hp hl hn;unfold mM wG;rw[aq,kT (by omega)]
 unfold vW;rw[aq,kT (by omega),fM (len:=h.length) (f:=fun _=>none) (e:=some true) ?_ ?_ (by omega),iB (fun _ _=>rfl)]
 ·intro i go hi
  have hb:=hh.2.2 _ (gO hi);show ib n go (iL h) (hpL l) (i:Int)=_
  unfold ib;rw[aq,kT (by omega),kT (by omega)]
  unfold we;rw[dR,kT hb.1,kNT hb.2,kG (by omega)]
 ·intro go
  show ib n go (iL h) (hpL l) (h.length:Int)=_
  unfold ib;rw[aq,kF (Int.lt_irrefl _),iE,kF (by omega)]
  exact h5
theorem Ih:∀(es:List Ed) (U:List Int),lp U es=ams U es
 |[],_=>rfl
 |e::es,U=>by simp only[lp,ams,Ih es]
def gA(es:List Ed)(l:List Int):List Int:=(List.range 8).map (fun v:Nat=>gvs v es l)
theorem l9(es:List Ed)(l:List Int):(gA es l).length=8:=by unfold gA;rw[List.length_map,List.length_range]
theorem tB(es:List Ed)(l:List Int){v:Nat}(hv:v<8):(gA es l).getD v 0=gvs v es l:=by
 unfold gA;rw[List.getD_eq_getElem?_getD,List.getElem?_map,List.getElem?_range hv];rfl
theorem Iy(v:Nat)(e:Ed)(k:Int):∀(es:List Ed) (l:List Int),es.length=l.length->gvs v (es++[e]) (l++[k])=gvs v es l+((if e.f=(v:Int)then k else 0)-(if e.t=(v:Int)then k else 0))
 |[],[],_=>by simp only[List.nil_append,gvs];omega
 |x::es,y::l,h=>by
  simp only[List.cons_append,gvs];rw[Iy v e k es l (by simpa using h)]
  omega
 |[],_::_,h=>by simp at h
 |_::_,[],h=>by simp at h
theorem Hd(v:Nat):∀(es:List Ed) (l:List Int),(∀x∈l,0<=x/\x<=10000)-> -(10000*(l.length:Int))<=gvs v es l/\gvs v es l<=10000*(l.length:Int)
 |[],l,_=>by simp only[gvs];omega
 |e::es,[],_=>by simp only[gvs,List.length_nil];omega
 |e::es,k::l,h=>by
  have h1:=Hd v es l (fun x hx=>h x (List.mem_cons_of_mem _ hx))
  have h2:=h k (List.mem_cons_self ..);simp only[gvs,List.length_cons];repeat' split
  all_goals omega
theorem N1(es:List Ed)(l:List Int)(e:Ed)(k:Int)(hl:es.length=l.length)(hv:EdV 8 e):((gA es l).set e.f.toNat (gvs e.f.toNat es l+k)).set e.t.toNat (gvs e.t.toNat es l-k)=gA (es++[e]) (l++[k]):=by
 obtain⟨f0,f1,t0,t1,hne,_,_⟩:=hv;refine Nv (by rw[List.length_set,List.length_set,l9]) (l9 ..) (fun v hv=>?_)
 rw[dg _ _ _ _ (by rw[List.length_set,l9];omega),dg _ _ _ _ (by rw[l9];omega),tB _ _ hv,tB _ _ hv,Iy v e k es l hl]
 by_cases e1:v=e.t.toNat
 ·rw[if_pos e1,if_neg (show ¬e.f=(v:Int) by omega),if_pos (show e.t=(v:Int) by omega),e1];omega
 ·rw[if_neg e1,if_neg (show ¬e.t=(v:Int) by omega)]
  by_cases e2:v=e.f.toNat
  ·rw[if_pos e2,if_pos (show e.f=(v:Int) by omega),e2];omega
  ·rw[if_neg e2,if_neg (show ¬e.f=(v:Int) by omega)];omega
theorem Pu:List.replicate ((8:Int)).toNat [(AV.int 0)]=iL (gA [] []):=rfl
theorem AH(n:Nat)(es:List Ed)(l:List Int)(a b value:Int)(hv:NetV 8 es)(hll:l.length=es.length)(hb:∀(i:Nat) e,es[i]?=some e->∃k,l[i]?=some k/\0<=k/\k<=e.c)(a0:0<=a)(a1:a<=7)(b0:0<=b)(b1:b<=7)(hab:a≠b)(hval:0<=value)
  (hg:∀v:Nat,v<8->gvs v es l=(if v=a.toNat then value else 0)-(if v=b.toNat then value else 0)) (hn:1001<n):gf n 8 (edL es) a b (iL l)=some (value,true):=by
 have h40:=hv.2.2.1;have hlb:∀x∈l,0<=x/\x<=10000:=fun x hx=>by
  obtain⟨i,hi,he⟩:=List.getElem_of_mem hx;obtain⟨e,hee⟩:=aV (show i<es.length by omega)
  obtain⟨k,h1,h2,h3⟩:=hb i e hee;rw[List.getElem?_eq_getElem hi,he]at h1;cases h1
  have:=hv.2.2.2 e (List.mem_of_getElem? hee)
  unfold EdV at this;omega
 unfold gf pN;rw[ld n 8 es (by omega) (by omega),Option.bind_some,kT hv,kG (by omega),kT a0,kT (by omega),kT b0,kT (by omega),decide_eq_false hab,aq,gC,kNT (by omega),kT (by omega),kT (by omega),Pu]
 show ab (fun go0 s=>cq n go0 (edL es) a b (iL l) s.1 s.2) n (((0:Nat):Int),iL (gA [] []))=_
 have key:∀(m n' i:Nat),m<n'->i+m=es.length->ab (fun go0 s=>cq n go0 (edL es) a b (iL l) s.1 s.2) n' (((i:Int),iL (gA (es.take i) (l.take i))):gb)=some (value,true):=by
  intro m;induction m with
  | zero=>
   intro n' i hm hi;cases n' with
   |zero=>omega
   | succ n'=>
    rw[am];show cq n _ (edL es) a b (iL l) (i:Int) _=_
    unfold cq;rw[List.take_of_length_le (show es.length<=i by omega),List.take_of_length_le (show l.length<=i by omega),gC,kF (by omega),aq (gA es l),l9]
    have hca:cI (iL (gA es l)) a 0=value:=by
     rw[cg,tB _ _ (by omega),hg _ (by omega),if_pos rfl,if_neg (by omega)];omega
    rw[kT (by omega),hca,kF (by omega),kO (len:=8) (f:=fun _=>none) (e:=(value,true)) ?_ ?_ (by omega),iB (fun _ _=>rfl)]
    ·intro v go hv8
     have hcv:cI (iL (gA es l)) (v:Int) 0=(if v=a.toNat then value else 0)-(if v=b.toNat then value else 0):=by
      rw[dR,tB _ _ hv8,hg _ hv8]
     show eL n go a b (iL (gA es l)) (v:Int)=_
     unfold eL;rw[aq (gA es l),l9,kT (by omega),kT (by omega)]
     by_cases z:cI (iL (gA es l)) (v:Int) 0=0
     ·rw[kNT z,kG (by omega)]
     ·rw[kNF z]
      by_cases z1:(v:Int)=a
      ·rw[kNT z1,kG (by omega)]
      ·rw[kNF z1]
       by_cases z2:(v:Int)=b
       ·rw[kNT z2,kG (by omega)]
       ·exfalso
        rw[hcv,if_neg (by omega),if_neg (by omega)]at z
        exact z rfl
    ·intro go
     show eL n go a b (iL (gA es l)) ((8:Nat):Int)=_
     unfold eL;rw[aq (gA es l),l9,kF (Int.lt_irrefl _),hca]
  | succ m ih=>
   intro n' i hm hi;cases n' with
   |zero=>omega
   | succ n'=>
    rw[am];have hih:=ih n' (i+1) (by omega) (by omega)
    generalize (ab (fun go0 s=>cq n go0 (edL es) a b (iL l) s.1 s.2) n':gb->Option de)=go at hih
    obtain⟨e,he⟩:=aV (show i<es.length by omega)
    obtain⟨k,hk,hk0,hk1⟩:=hb i e he;obtain⟨k0,k1,k2⟩:=pi he;have hev:=hv.2.2.2 e (List.mem_of_getElem? he);obtain⟨f0,f1,t0,t1,hne,c0,c1⟩:=hev;have hkc:cI (iL l) (i:Int) 0=k:=by rw[dR,List.getD_eq_getElem?_getD,hk];rfl
    have hte:es.take (i+1)=es.take i++[e]:=by rw[List.take_add_one,he];rfl
    have htl:l.take (i+1)=l.take i++[k]:=by rw[List.take_add_one,hk];rfl
    have hlt:(l.take i).length=i:=by rw[List.length_take];omega
    have het:(es.take i).length=(l.take i).length:=by rw[List.length_take,List.length_take];omega
    have bf:=Hd e.f.toNat (es.take i) (l.take i) (fun x hx=>hlb x (List.mem_of_mem_take hx))
    have bt:=Hd e.t.toNat (es.take i) (l.take i) (fun x hx=>hlb x (List.mem_of_mem_take hx))
    rw[hlt]at bf bt;have cf:cI (iL (gA (es.take i) (l.take i))) e.f 0=gvs e.f.toNat (es.take i) (l.take i):=by rw[cg,tB _ _ (by omega)]
    have ct:cI (iL ((gA (es.take i) (l.take i)).set e.f.toNat (gvs e.f.toNat (es.take i) (l.take i)+k))) e.t 0=gvs e.t.toNat (es.take i) (l.take i):=by
     rw[cg,dg _ _ _ _ (by rw[l9];omega),if_neg (by omega),tB _ _ (by omega)]
    show cq n go (edL es) a b (iL l) (i:Int) _=_
    unfold cq;rw[k0,k1,k2,hkc,gC,aq l,aq (gA _ _),l9,kT (by omega),kT (by omega),kT (by omega),kT hk0,kNT hk1,kT f0,kT (by omega),cf,kG (by omega),kT t0,kT (by omega),ni,ct,kG (by omega),kG (by omega),ni,N1 _ _ e k het ⟨f0,f1,t0,t1,hne,c0,c1⟩]
    rw[hte,htl,show((i+1:Nat):Int)=(i:Int)+1 by omega]at hih
    exact hih
 exact key es.length n 0 (by omega) (by omega)
theorem M4(n:Nat){es:List Ed}{a b:Int}(hv:NetV 8 es)(a0:0<=a)(a1:a<=7)(b0:0<=b)(b1:b<=7)(hab:a≠b)(hr:Dial.Flo.Reach es a b)(hn:20001000<n):
  ∃A s value,fY n 8 (edL es) a b=some (iL A,s,0)/\0<=s/\gf n 8 (edL es) a b (iL A)=some (value,true)/\0<value:=by
 obtain⟨M,value,s,hM,hF⟩:=Bx n es a b hv a0 a1 b0 b1 hab (by omega)
 have hpos:=(Hs a0 b0 hv hM).2.2.1.1 hr;have hcut:=hM.cut;have hbd:=Lq (B4 hv) (K0 (AI hv hM.inv));have hU:NnM (d9 (bw es) M):=⟨hbd.1,fun c d hc hd=>(hbd.2 c d hc hd).1⟩
 have hUd:∀c d,c<14->d<14->gM (d9 (bw es) M) c d=aL (gM (bw es) c d-gM M c d) 0:=fun c d hc hd=>Dn (DI es) hM.inv.kept.len (by omega)
 refine⟨lp (d9 (bw es) M) es,s,value,hF,hcut.1,?_,hpos⟩
 rw[Ih];exact AH n es _ a b value hv (JX ..) (fun i e he=>Ld (by decide) es _ hv.2.2.2 hU i e he) a0 a1 b0 b1 hab (by omega) (fun v hv8=>Oj hv.2.2.2 hM.inv hU hUd v (by omega)) (by omega)
end Go.Proofs.YtbfkkigbedmhgaaGreat
namespace Go.Proofs.YtbfkkigbedmhgaaGreat
open Go Go.Sx
noncomputable section
def CK:List Nat:=[12,13,14,15,16,17,18,19,20,21,22,23,24,25,26,27,28,29,30,31,32,33,34,35,36,37,38,39,40,41,42,43,44,45,46,47,48,49,50,51,52,53,54,55,56,57,58,59,62,65,66,67,68,69,70,71,72,73,74,75,76,77,78,84,85,86,87,89,95,105,106,107,108,109,110,111,112,114,115,116,117,120,122,130,132,149,150,152,153,159,176,178,179,180,182,183,184,186,187,193,202,203,204,210,211,1000015,1000016,1000017,1000018,1000019,1000022,1000049,1000050,1000051,1000052,1000053,1000062,2000151,2000152,2000217,2000247,2000248,2000249]
abbrev bh:=Bool
abbrev eu:=Int
abbrev er:=Bool×Int
def cb(n:Nat)(go0:eu->Option bh)(go1:er->Option bh)(v22:Lv)(v42:Int)(v47:Lv)(v52:Int)(v53:Bool)(v54:Int):Option bh:=
 (bif v54<(v22.length:Int) then bif 0<=v54 then bif 0<=v52 then(bif (cI v22 v54 0)=(cI v47 v52 0) then(ph n (cL v22 v54 1) v42).bind fun y55=>
 (bif y55.2.2.2.2=0 then bif(-9223372036854775808<=(v54+1))&&((v54+1)<=9223372036854775807)then go1 ((decide (y55.1=1)),(v54+1))else none else bif(-9223372036854775808<=(v54+1))&&((v54+1)<=9223372036854775807)then go1 (false,(v54+1))else none)else bif(-9223372036854775808<=(v54+1))&&((v54+1)<=9223372036854775807)then go1 (v53,(v54+1))else none)else none else none else(bif(!v53)then some false else bif(-9223372036854775808<=(v52+1))&&((v52+1)<=9223372036854775807)then go0 (v52+1)else none))
def iH(n:Nat)(go0:eu->Option bh)(v21:Bool)(v22 v23 v24 v25:Lv)(v27 v39:Int)(v40:Lv)(v41 v42 v43 v44 v45 v46:Int)(v47 v48 v49:Lv)(v52:Int):Option bh:=
 (bif v52<(v47.length:Int) then(ab (fun go1 s=>cb n go0 go1 v22 v42 v47 v52 s.1 s.2) n ((false,0):er))else(bif (v47.length:Int)=0 then some false else bif 0<(v47.length:Int) then(bif !((cI v47 0 0)=(10+v41))then some false else bif(-9223372036854775808<=((v47.length:Int)-1))&&(((v47.length:Int)-1)<=9223372036854775807)then bif 0<=((v47.length:Int)-1) then bif ((v47.length:Int)-1)<(v47.length:Int) then(bif !(v44=(cI v47 ((v47.length:Int)-1) 0))then some false else(bif !(v46=1)then some false else(j7 n v23 v24 (10+v41) v42 v46 v47 v48).bind fun y53=>
 (bif(!y53)then some false else(bif (v49.length:Int)=0 then some false else(mM n v25 v49).bind fun y54=>
 (bif(!y54)then some false else bif 0<(v49.length:Int) then(bif !((cI v49 0 0)=v43)then some false else bif(-9223372036854775808<=((v49.length:Int)-1))&&(((v49.length:Int)-1)<=9223372036854775807)then bif 0<=((v49.length:Int)-1) then bif ((v49.length:Int)-1)<(v49.length:Int) then(bif !((cI v49 ((v49.length:Int)-1) 0)=v45)then some false else bif 0<=(cI v49 ((v49.length:Int)-1) 1) then bif (cI v49 ((v49.length:Int)-1) 1)<(v25.length:Int) then(bif !((cI v25 (cI v49 ((v49.length:Int)-1) 1) 0)=v45)then some false else bif(-9223372036854775808<=((v25.length:Int)-1))&&(((v25.length:Int)-1)<=9223372036854775807)then bif(-9223372036854775808<=(((v25.length:Int)-1)-v27))&&((((v25.length:Int)-1)-v27)<=9223372036854775807)then(bif (cI v49 ((v49.length:Int)-1) 1)<(((v25.length:Int)-1)-v27) then some false else(bif v45=v43 then some v21 else(fY n v39 v40 v43 v45).bind fun y55=>
 (gf n v39 v40 v43 v45 y55.1).bind fun y58=>
 (bif y55.2.2=0 then(bif 0<=y55.2.1 then(bif y58.2 then some (decide (0<y58.1))else some false)else some false)else some false)))else none else none)else none else none)else none else none else none)else none)))))else none else none else none)else none))
def mo(n:Nat)(v0 v1:Lv)(v2:Int)(v3 v4:Lv)(v5 v6 v7 v8 v9 v10 v11 v12 v13 v14 v15:Int)(v16 v17:Lv)(v18 v19 v20:Int)(v21:Bool):Option bh:=
 (bif(!v21)then some false else(jB n v0 v1 v2 v3 v4 v5 v6 v7 v8 v9 v10 v11 v12 v13 v14 v15 v16 v17).bind fun y22=>
 (dJ n v18 8).bind fun y41=>
 bif(-9223372036854775808<=(10+y41))&&((10+y41)<=9223372036854775807)then(dJ n v19 100).bind fun y42=>
 (dJ n v20 8).bind fun y43=>
 (eY n y22.1 y22.2.1 y22.2.2.1 y22.2.2.2.1 y22.2.2.2.2.1 y22.2.2.2.2.2.1 y22.2.2.2.2.2.2.1 y22.2.2.2.2.2.2.2.1 y22.2.2.2.2.2.2.2.2.1 y22.2.2.2.2.2.2.2.2.2.1 y22.2.2.2.2.2.2.2.2.2.2.1 y22.2.2.2.2.2.2.2.2.2.2.2.1 y22.2.2.2.2.2.2.2.2.2.2.2.2.1 y22.2.2.2.2.2.2.2.2.2.2.2.2.2.1 y22.2.2.2.2.2.2.2.2.2.2.2.2.2.2.1 y22.2.2.2.2.2.2.2.2.2.2.2.2.2.2.2.1 y22.2.2.2.2.2.2.2.2.2.2.2.2.2.2.2.2.1 y22.2.2.2.2.2.2.2.2.2.2.2.2.2.2.2.2.2.1 y22.2.2.2.2.2.2.2.2.2.2.2.2.2.2.2.2.2.2 (10+y41) y42 y43).bind fun y44=>
 (bif(!y44.2.2.2.2.2.2.1)then some v21 else(ab (fun go0 s=>iH n go0 v21 y22.1 y22.2.1 y22.2.2.1 y22.2.2.2.1 y22.2.2.2.2.2.1 y22.2.2.2.2.2.2.2.2.2.2.2.2.2.2.2.2.2.1 y22.2.2.2.2.2.2.2.2.2.2.2.2.2.2.2.2.2.2 y41 y42 y43 y44.1 y44.2.1 y44.2.2.1 y44.2.2.2.1 y44.2.2.2.2.1 y44.2.2.2.2.2.1 s) n (0:eu)))else none)
def mj(n:Nat)(v0 v1:Lv)(v2:Int)(v3 v4:Lv)(v5 v6 v7 v8 v9 v10 v11 v12 v13 v14 v15:Int)(v16 v17:Lv)(v18 v19 v20:Int):Option bh:=
 (oY n ).bind fun y21=>
 mo n v0 v1 v2 v3 v4 v5 v6 v7 v8 v9 v10 v11 v12 v13 v14 v15 v16 v17 v18 v19 v20 y21
def jM(n:Nat)(v0 v1:Lv)(v2:Int)(v3 v4:Lv)(v5 v6 v7 v8 v9 v10 v11 v12 v13 v14 v15:Int)(v16 v17:Lv)(v18 v19 v20:Int):Option bh:=mj n v0 v1 v2 v3 v4 v5 v6 v7 v8 v9 v10 v11 v12 v13 v14 v15 v16 v17 v18 v19 v20
def law28_RefusalWays_t:FnT:=⟨[(true,[(.sl (.cons tSc .nil)),(.sl (.cons .int (.cons .int (.cons .int (.cons .int (.cons .int .nil)))))),.int,tSa,tSa,.int,.int,.int,.int,.int,.int,.int,.int,.int,.int,.int,tSc,tSc]),(false,[.int]),(false,[.int]),(false,[.int])],.b,fun n (s:Lv×Lv×Int×Lv×Lv×Int×Int×Int×Int×Int×Int×Int×Int×Int×Int×Int×Lv×Lv×Int×Int×Int)=>jM n s.1 s.2.1 s.2.2.1 s.2.2.2.1 s.2.2.2.2.1 s.2.2.2.2.2.1 s.2.2.2.2.2.2.1 s.2.2.2.2.2.2.2.1 s.2.2.2.2.2.2.2.2.1 s.2.2.2.2.2.2.2.2.2.1 s.2.2.2.2.2.2.2.2.2.2.1 s.2.2.2.2.2.2.2.2.2.2.2.1 s.2.2.2.2.2.2.2.2.2.2.2.2.1 s.2.2.2.2.2.2.2.2.2.2.2.2.2.1 s.2.2.2.2.2.2.2.2.2.2.2.2.2.2.1 s.2.2.2.2.2.2.2.2.2.2.2.2.2.2.2.1 s.2.2.2.2.2.2.2.2.2.2.2.2.2.2.2.2.1 s.2.2.2.2.2.2.2.2.2.2.2.2.2.2.2.2.2.1 s.2.2.2.2.2.2.2.2.2.2.2.2.2.2.2.2.2.2.1 s.2.2.2.2.2.2.2.2.2.2.2.2.2.2.2.2.2.2.2.1 s.2.2.2.2.2.2.2.2.2.2.2.2.2.2.2.2.2.2.2.2⟩
theorem uG:law28_RefusalWays_t.ok Tryz.prog 11:=FnT.ok_of (cfg:=⟨[((11,12,12),.inv [(.tmp 17 .int)]),((11,16,13),.inv [(.tmp 18 .bool),(.tmp 19 .int)])],CK,[],aj⟩) aw l7 av (fun s fn hf=>by rw[Tryz.func11]at hf;cases hf;kernel_rfl) (fun n s=>by kernel_rfl)
end
open Go.Dial.Ref Go.Dial.Rou Go.Dial.Fwd Go.Dial.Lif
def sd:List (Int×List Ev)->Int->Int->Bool->Bool
 |[],_,_,acc=>acc
 |y::l,x,t,acc=>sd l x t (if y.1=x then decide ((atR y.2 t).1.s=1)else acc)
theorem GH{x t:Int}:∀ {l:List (Int×List Ev)} {last:Int} {acc:Bool},LsV last l->x<=last->sd l x t acc=acc
 |[],_,_,_,_=>rfl
 |y::l,last,acc,⟨_,h2,_,h4⟩,hx=>by
  unfold sd;rw[if_neg (show ¬y.1=x by omega)]
  exact GH h4 (by omega)
theorem Hx{x t:Int}:∀ {l:List (Int×List Ev)} {last:Int},LsV last l->sd l x t false=dn l x t
 |[],_,_=>rfl
 | y::l,last,⟨_,h2,_,h4⟩=>by
  unfold sd dn;by_cases e:y.1=x
  ·rw[if_pos e,if_pos e]
   exact GH h4 (by omega)
  ·rw[if_neg e,if_neg e]
   exact Hx h4
theorem Ht:∀ {l:List (Int×List Ev)} {last:Int},LsV last l->∀y∈l,gk y.2
 |[],_,_,y,hy=>by cases hy
 |z::l,last,⟨h1,_,_,h4⟩,y,hy=>by
  rcases List.mem_cons.1 hy with rfl|hy
  ·exact h1
  ·exact Ht h4 y hy
theorem Kg(g:Gr)(hs:Small g)(hv:LsV (-1) g.ls)(p:List Int)(i:Nat)(x t:Int)(hx:p[i]?=some x)(hi:i<=1000)(t0:0<=t)(t1:t<=10000000)(go0:eu->Option bh):∀(m n' k:Nat) (acc:Bool),m<n'->k+m=g.ls.length →
  ab (fun go1 s=>cb N0 go0 go1 (lnL g.ls) t (iL p) (i:Int) s.1 s.2) n' ((acc,(k:Int)):er)=bif !(sd (g.ls.drop k) x t acc)then some false else go0 ((i:Int)+1):=by
 have hl:=hs.ls;have kx:cI (iL p) (i:Int) 0=x:=by rw[dR,List.getD_eq_getElem?_getD,hx];rfl
 intro m;induction m with
 | zero=>
  intro n' k acc hm hk;cases n' with
  |zero=>omega
  |succ n'=>
   rw[am];show cb N0 go0 _ (lnL g.ls) t (iL p) (i:Int) acc (k:Int)=_
   unfold cb;rw[iD,kF (by omega),List.drop_eq_nil_of_le (by omega)]
   unfold sd;cases acc with
   |false=>rw[Bool.not_false,cond_true,cond_true]
   |true=>rw[Bool.not_true,cond_false,cond_false,kG (by omega)]
 | succ m ih=>
  intro n' k acc hm hk;cases n' with
  |zero=>omega
  | succ n'=>
   rw[am];have hih:=ih n' (k+1);generalize (ab (fun go1 s=>cb N0 go0 go1 (lnL g.ls) t (iL p) (i:Int) s.1 s.2) n':er->Option bh)=go1 at hih
   obtain⟨y,hy⟩:=aV (show k<g.ls.length by omega)
   obtain⟨k0,k1⟩:=zn hy;have hym:=List.mem_of_getElem? hy;have hd:g.ls.drop k=y::g.ls.drop (k+1):=by
    rw[List.drop_eq_getElem_cons (List.getElem?_eq_some_iff.1 hy).1,(List.getElem?_eq_some_iff.1 hy).2]
   have hok:kI y.2 t:=⟨Ht hv y hym,t0,t1⟩
   have hev:=hs.ev y hym;rw[show((k+1:Nat):Int)=(k:Int)+1 by omega]at hih
   show cb N0 go0 go1 (lnL g.ls) t (iL p) (i:Int) acc (k:Int)=_
   unfold cb;rw[k0,k1,kx,iD,kT (by omega),kT (by omega),kT (by omega),hd]
   unfold sd;by_cases e:y.1=x
   ·have herr:(atR y.2 t).2=0:=by unfold atR;rw[if_pos hok]
    rw[kT e,xc N0 y.2 t (Nat.lt_of_le_of_lt hev (by decide)),Option.bind_some,if_pos e]
    dsimp only[atT]
    rw[kT herr,kG (by omega)]
    exact hih _ (by omega) (by omega)
   ·rw[kF e,kG (by omega),if_neg e]
    exact hih _ (by omega) (by omega)
theorem wQ(X:Nm)(hX:X.ok)(a b d:Int)(ha:ax a)(hb:ax b)(hd:ax d):jM N0 (X.lives.map od) (X.sets.map gK) X.cond (iL X.hol) (iL X.kn) X.lag X.r0 X.r1 X.r2 X.r3 X.c0 X.c1 X.c2 X.c3 X.c4 X.c5 (X.evs.map bx) (X.net.map bx) a b d=some true:=by
 obtain⟨g,hG,hM⟩:=yo N0 X hX (by decide)
 have b8a:=aX a (k:=8) (by decide)
 have b100:=aX b (k:=100) (by decide)
 have b8:=aX d (k:=8) (by decide)
 have hv:=hM.val;have hs:=hM.small;have hL:=uc N0 g hs (10+pk a 8) (pk b 100) (pk d 8) Ga;unfold jM mj;rw[yH,Option.bind_some];unfold mo;rw[Bool.not_true,cond_false,hG,Option.bind_some,eN N0 ha (by decide),Option.bind_some,kG (by omega),eN N0 hb (by decide),Option.bind_some,eN N0 hd (by decide),Option.bind_some]
 dsimp only[grT]
 rw[hL,Option.bind_some];generalize ht:pk b 100=t at b100
 generalize hc:pk d 8=c at b8
 by_cases hok:i9 g (10+pk a 8) t c
 ·rw [if_pos hok]
  cases hbb:(yt g (10+pk a 8) t c).2 with
  |true=>rw[if_pos rfl];rfl
  | false=>
   rw[if_neg (by decide)]
   dsimp only[Ki]
   rw[Bool.not_true,cond_false];have hled:=(O1 hbb).1;have hcv:=zf hok;have hpth:=hcv.pth;obtain⟨x,x1,x2,x3,x4,x5⟩:=G9 hpth;have hp1:(hp g c).2=1:=by
    have h1:=hpth.ends;have h2:=hled.ends;omega
   have hk1:(wy g (10+pk a 8) t).1=1:=by
    have h1:=hcv.kind;have h2:=hled.kind;omega
   have hxl:=(hpth.last x x1).1.1 hp1;obtain⟨b1,b2,b3,b4,b5,b6⟩:=hpth.bd x x2;have hcut:=hled.cut hp1;have hF:=zH N0 g.ss g.cs (10+pk a 8) t hs.ss hs.cs ⟨hv.2.2.1,by omega,by omega,by omega,by omega⟩ (Nat.le_trans hcv.wlen (by decide)) (Nat.le_trans hcv.ulen (by decide)) (by decide)
   have hRt:=FQ N0 g.h g.k c (hp g c).1 (hp g c).2 hv.2.2.2.1.1 hpth (by have:=hcv.plen;omega) (by decide)
   have l1:=kP hcv.wne;have l2:=kP hpth.ne;have w8:=hcv.wlen;have p31:=hcv.plen;have hh1:=hv.2.2.2.1.1.1;have hh30:=hv.2.2.2.1.1.2.1;have hlag0:=hv.2.2.2.1.2.2.1;have hlag1:=hv.2.2.2.1.2.2.2.1;have hkn:(g.h.length:Int)-1-g.lag<=at_ g.k x.1:=by
    have:=hv.2.2.2.1.2.2.2.2 x.1.toNat (List.mem_range.2 (by omega))
    exact(this.2.2 b6).1
   have hx0:cI (hpL (hp g c).1) (((hp g c).1.length:Int)-1) 0=bF (hp g c).1:=by
    have:=vl (hp g c).1 hpth.ne
    rw[iE]at this;exact this
   have hx1:cI (hpL (hp g c).1) (((hp g c).1.length:Int)-1) 1=x.2:=by
    have hx:(hp g c).1[(hp g c).1.length-1]?=some x:=by rw[<-List.getLast?_eq_getElem?];exact x1
    have:=(yU hx).2
    rw[show(((hp g c).1.length-1:Nat):Int)=((hp g c).1.length:Int)-1 by omega]at this
    exact this
   have hw0:cI (iL (wy g (10+pk a 8) t).2.1) 0 0=10+pk a 8:=by
    have h:=hcv.whead;have:cI (iL (wy g (10+pk a 8) t).2.1) 0 0=(wy g (10+pk a 8) t).2.1.getD 0 0:=dR _ 0
    rw[this,List.getD_eq_getElem?_getD,<-List.head?_eq_getElem?,h];rfl
   have hwl:cI (iL (wy g (10+pk a 8) t).2.1) (((wy g (10+pk a 8) t).2.1.length:Int)-1) 0=sI (wy g (10+pk a 8) t).2.1:=by
    have:=DK _ hcv.wne
    rw[aq]at this;exact this
   have hc0:cI (hpL (hp g c).1) 0 0=c:=by
    cases hq:(hp g c).1 with
    |nil=>exact absurd hq hpth.ne
    |cons z l=>
     have:=hpth.first z (by rw[hq];rfl)
     show z.1=c
     exact this
   rw[fM (len:=(wy g (10+pk a 8) t).2.1.length) (f:=fun _=>none) (e:=some true) ?_ ?_ (Nat.lt_of_le_of_lt w8 (by decide)),iB (fun _ _=>rfl)]
   ·intro i go hi
    obtain⟨y,hy⟩:=aV hi;have hheld:=hled.held y (List.mem_of_getElem? hy);unfold iH;rw[aq,kT (by omega)]
    have hin:=Kg g hs hv.2.1 (wy g (10+pk a 8) t).2.1 i y t hy (by omega) b100.1 (by omega) go g.ls.length N0 0 false (Nat.lt_of_le_of_lt hs.ls (by decide)) (by omega)
    refine hin.trans ?_
    rw[List.drop_zero,Hx hv.2.1,hheld];rfl
   ·intro go
    unfold iH;rw[aq (wy g (10+pk a 8) t).2.1,kF (Int.lt_irrefl _),kF (by omega),kT (by omega),hw0,kNT rfl,kG (by omega),kT (by omega),kT (by omega),hwl,kNT rfl,kNT hk1,hF,Option.bind_some,Bool.not_true,cond_false,iE,kF (by omega),hRt,Option.bind_some,Bool.not_true,cond_false,kT (by omega),hc0,kNT rfl,kG (by omega),kT (by omega),kT (by omega),hx0,kNT rfl,hx1,kT b3,aq g.h,kT (by omega),F9 (i:=x.2),kNT (hxl.trans x3.symm),kG (by omega),kG (by omega),kF (by omega)]
    by_cases e:bF (hp g c).1=c
    ·rw[kT e]
    ·obtain⟨A,s,value,m1,m2,m3,m4⟩:=M4 N0 (QG hv) b8.1 (show c<=7 by omega) x4 x5 (fun h=>e h.symm) (hcut.resolve_left e) Ga
     rw[kF e,hv.2.2.2.2.2.2,m1,Option.bind_some];dsimp only;rw[m3,Option.bind_some,kT rfl,kT m2];dsimp only;rw[cond_true,decide_eq_true m4]
 ·rw[if_neg hok];rfl
theorem tN:∀s:be (Ps.tys law28_RefusalWays_t.ps),KE (Ps.tys law28_RefusalWays_t.ps) s->∃n z,law28_RefusalWays_t.fn n s=some z/\nU law28_RefusalWays_t.sh z=.b true:=by
 rintro ⟨v0,v1,v2,v3,v4,v5,v6,v7,v8,v9,v10,v11,v12,v13,v14,v15,v16,v17,a,b,d⟩ hs;obtain⟨⟨X,hX,rfl,rfl,rfl,rfl,rfl,rfl,rfl,rfl,rfl,rfl,rfl,rfl,rfl,rfl,rfl,rfl,rfl,rfl⟩,hr⟩:=JJ (rest:=[.int a,.int b,.int d]) hs
 exact⟨N0,true,wQ X hX a b d (nC (hr _ (by simp))) (nC (hr _ (by simp))) (nC (hr _ (by simp))),rfl⟩
end Go.Proofs.YtbfkkigbedmhgaaGreat
