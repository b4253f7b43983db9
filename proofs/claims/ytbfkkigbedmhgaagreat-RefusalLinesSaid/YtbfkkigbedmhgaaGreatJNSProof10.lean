/-
  Texts of this claim, joined (part JNSProof10).
-/
import Derived.Test.YtbfkkigbedmhgaaGreatJN7
set_option linter.unusedVariables false
set_option linter.unusedSimpArgs false
set_option linter.unusedSectionVars false
set_option linter.constructorNameAsVariable false
set_option maxRecDepth 100000
namespace Go.Proofs.YtbfkkigbedmhgaaGreat
open Go Go.Sx Go.Dial.Ref
end Go.Proofs.YtbfkkigbedmhgaaGreat
namespace Go.Proofs.YtbfkkigbedmhgaaGreat
open Go Go.Sx
noncomputable section
abbrev zX:=Int×Int×Int
def Ab(n:Nat)(v0:Lv)(v1:Int):Option zX:=
 (pq n v0 v1).bind fun y2=>
 (bif(!y2.2.2.2.2)then some (0,0,140)else(bif y2.1=1 then some (y2.2.2.1,v1,0)else(bif !(y2.1=2)then some (0,0,140)else some (y2.2.2.1,v1,0))))
def nK(n:Nat)(v0:Lv)(v1:Int):Option zX:=Ab n v0 v1
def life_Keep_t:FnT:=⟨[(false,[tSc]),(false,[.int])],(.tup (.cons (.agg (.cons .i (.cons .i .nil))) (.cons .i .nil))),fun n (s:Lv×Int)=>nK n s.1 s.2⟩
def CK:List Nat:=[12,13,14,15,16,17,18,19,20,21,22,23,24,25,26,27,28,29,30,31,32,33,34,35,36,37,38,39,40,41,42,43,44,45,46,47,48,49,50,51,52,53,54,55,56,57,58,59,62,65,66,67,68,69,70,71,72,73,74,75,76,77,78,84,85,86,87,89,95,105,106,107,108,109,110,111,112,114,115,116,117,120,122,130,132,149,150,152,153,159,176,178,179,180,182,183,184,186,187,193,202,203,204,210,211,1000015,1000016,1000017,1000018,1000019,1000022,1000049,1000050,1000051,1000052,1000053,1000062,2000151,2000152,2000217,2000247,2000248,2000249]
theorem Ha:life_Keep_t.ok Tryz.prog 35:=FnT.ok_of (cfg:=⟨[],CK,[],aj⟩) aw l7 av (fun s fn hf=>by rw[Tryz.func35]at hf;cases hf;kernel_rfl) (fun n s=>by kernel_rfl)
def life_Keep_T:Tab:=(35,life_Keep_t)::law28_sane_T
theorem uy:life_Keep_T.ok Tryz.prog:=Tab.ok_cons Ha l7
abbrev zQ:=Int×Int×Int
def z9(n:Nat)(v0:Lv)(v1 v2 v3:Int):Option zQ:=
 (nK n v0 v2).bind fun y4=>
 (pq n v0 v3).bind fun y7=>
 (bif !(y4.2.2=0)then some (0,0,140)else(bif !(y4.1=v1)then some (0,0,140)else(bif(!y7.2.2.2.2)then some (0,0,140)else(bif v3<v2 then some (0,0,140)else(bif y7.1=0 then some (3,(-1),0)else(bif !(y7.2.2.1=v1)then some (3,(-1),0)else(bif y7.1=1 then some (1,y7.2.1,0)else some (2,(-1),0))))))))
def so(n:Nat)(v0:Lv)(v1 v2 v3:Int):Option zQ:=z9 n v0 v1 v2 v3
def life_Fate_t:FnT:=⟨[(false,[tSc]),(true,[.int,.int]),(false,[.int])],(.tup (.cons .i (.cons .i (.cons .i .nil)))),fun n (s:Lv×Int×Int×Int)=>so n s.1 s.2.1 s.2.2.1 s.2.2.2⟩
theorem HI:life_Fate_t.ok Tryz.prog 36:=FnT.ok_of (cfg:=⟨[],CK,[],aj⟩) aw uy av (fun s fn hf=>by rw[Tryz.func36]at hf;cases hf;kernel_rfl) (fun n s=>by kernel_rfl)
def life_Fate_T:Tab:=(36,life_Fate_t)::life_Keep_T
theorem Do:life_Fate_T.ok Tryz.prog:=Tab.ok_cons HI uy
abbrev bV:=Bool
abbrev dk:=Lv×Int
def bU(n:Nat)(go0:dk->Option bV)(v21:Int)(v23 v24 v25 v26 v27:Lv)(v28 v29 v30 v31 v32 v33 v34 v35 v36 v37:Int)(v38:Bool)(v39:Lv)(v40:Int)(v41:Lv)(v42 v43 v44:Int)(v45:Lv)(v46:Int):Option bV:=
 (bif v46<(v23.length:Int) then bif 0<=v46 then(bif (cI v23 v46 0)=(10+v42) then bif(-9223372036854775808<=(v46+1))&&((v46+1)<=9223372036854775807)then go0 ((cL v23 v46 1),(v46+1))else none else bif(-9223372036854775808<=(v46+1))&&((v46+1)<=9223372036854775807)then go0 (v45,(v46+1))else none)else none else(ph n v45 v43).bind fun y47=>
 (eK n v23 v24 v25 v26 v27 v28 v29 v30 v31 v32 v33 v34 v35 v36 v37 v38 v39 v40 v41 (10+v42) v43 v44).bind fun y52=>
 (bif !(y47.2.2.2.2=0)then some false else(bif !(y52.2.2.2.2.2.2.2.2=0)then some (decide (y52.2.2.2.2.2.2.2.2=280))else(bif !(y47.1=1)then(bif y52.2.2.2.2.2.2.2.1 then(bif y52.1=1 then some (decide (y52.2.1=(10+v42)))else some false)else some false)else(eY n v23 v24 v25 v26 v27 v28 v29 v30 v31 v32 v33 v34 v35 v36 v37 v38 v39 v40 v41 (10+v42) v43 v44).bind fun y61=>
 (bif(!y61.2.2.2.2.2.2.1)then some y52.2.2.2.2.2.2.2.1 else(bif !(y61.1=(10+v42))then some true else(nK n v45 v43).bind fun y69=>
 (dJ n v21 3000000).bind fun y72=>
 bif(-9223372036854775808<=(v43+y72))&&((v43+y72)<=9223372036854775807)then(so n v45 y69.1 y69.2.1 (v43+y72)).bind fun y73=>
 (bif y69.2.2=0 then(bif y73.2.2=0 then(bif !(y73.1=1)then some true else some (decide (y73.2.1=y47.2.1)))else some false)else some false)else none))))))
def lC(n:Nat)(v0 v1:Lv)(v2:Int)(v3 v4:Lv)(v5 v6 v7 v8 v9 v10 v11 v12 v13 v14 v15:Int)(v16 v17:Lv)(v18 v19 v20 v21:Int)(v22:Bool):Option bV:=
 (bif(!v22)then some false else(jB n v0 v1 v2 v3 v4 v5 v6 v7 v8 v9 v10 v11 v12 v13 v14 v15 v16 v17).bind fun y23=>
 (dJ n v18 9).bind fun y42=>
 bif(-9223372036854775808<=(10+y42))&&((10+y42)<=9223372036854775807)then(dJ n v19 100).bind fun y43=>
 (dJ n v20 8).bind fun y44=>
 (ab (fun go0 s=>bU n go0 v21 y23.1 y23.2.1 y23.2.2.1 y23.2.2.2.1 y23.2.2.2.2.1 y23.2.2.2.2.2.1 y23.2.2.2.2.2.2.1 y23.2.2.2.2.2.2.2.1 y23.2.2.2.2.2.2.2.2.1 y23.2.2.2.2.2.2.2.2.2.1 y23.2.2.2.2.2.2.2.2.2.2.1 y23.2.2.2.2.2.2.2.2.2.2.2.1 y23.2.2.2.2.2.2.2.2.2.2.2.2.1 y23.2.2.2.2.2.2.2.2.2.2.2.2.2.1 y23.2.2.2.2.2.2.2.2.2.2.2.2.2.2.1 y23.2.2.2.2.2.2.2.2.2.2.2.2.2.2.2.1 y23.2.2.2.2.2.2.2.2.2.2.2.2.2.2.2.2.1 y23.2.2.2.2.2.2.2.2.2.2.2.2.2.2.2.2.2.1 y23.2.2.2.2.2.2.2.2.2.2.2.2.2.2.2.2.2.2 y42 y43 y44 s.1 s.2) n ((([]:Lv),0):dk))else none)
def lu(n:Nat)(v0 v1:Lv)(v2:Int)(v3 v4:Lv)(v5 v6 v7 v8 v9 v10 v11 v12 v13 v14 v15:Int)(v16 v17:Lv)(v18 v19 v20 v21:Int):Option bV:=
 (oY n ).bind fun y22=>
 lC n v0 v1 v2 v3 v4 v5 v6 v7 v8 v9 v10 v11 v12 v13 v14 v15 v16 v17 v18 v19 v20 v21 y22
def jf(n:Nat)(v0 v1:Lv)(v2:Int)(v3 v4:Lv)(v5 v6 v7 v8 v9 v10 v11 v12 v13 v14 v15:Int)(v16 v17:Lv)(v18 v19 v20 v21:Int):Option bV:=lu n v0 v1 v2 v3 v4 v5 v6 v7 v8 v9 v10 v11 v12 v13 v14 v15 v16 v17 v18 v19 v20 v21
def law28_RefusalLines_t:FnT:=⟨[(true,[(.sl (.cons tSc .nil)),(.sl (.cons .int (.cons .int (.cons .int (.cons .int (.cons .int .nil)))))),.int,tSa,tSa,.int,.int,.int,.int,.int,.int,.int,.int,.int,.int,.int,tSc,tSc]),(false,[.int]),(false,[.int]),(false,[.int]),(false,[.int])],.b,fun n (s:Lv×Lv×Int×Lv×Lv×Int×Int×Int×Int×Int×Int×Int×Int×Int×Int×Int×Lv×Lv×Int×Int×Int×Int)=>jf n s.1 s.2.1 s.2.2.1 s.2.2.2.1 s.2.2.2.2.1 s.2.2.2.2.2.1 s.2.2.2.2.2.2.1 s.2.2.2.2.2.2.2.1 s.2.2.2.2.2.2.2.2.1 s.2.2.2.2.2.2.2.2.2.1 s.2.2.2.2.2.2.2.2.2.2.1 s.2.2.2.2.2.2.2.2.2.2.2.1 s.2.2.2.2.2.2.2.2.2.2.2.2.1 s.2.2.2.2.2.2.2.2.2.2.2.2.2.1 s.2.2.2.2.2.2.2.2.2.2.2.2.2.2.1 s.2.2.2.2.2.2.2.2.2.2.2.2.2.2.2.1 s.2.2.2.2.2.2.2.2.2.2.2.2.2.2.2.2.1 s.2.2.2.2.2.2.2.2.2.2.2.2.2.2.2.2.2.1 s.2.2.2.2.2.2.2.2.2.2.2.2.2.2.2.2.2.2.1 s.2.2.2.2.2.2.2.2.2.2.2.2.2.2.2.2.2.2.2.1 s.2.2.2.2.2.2.2.2.2.2.2.2.2.2.2.2.2.2.2.2.1 s.2.2.2.2.2.2.2.2.2.2.2.2.2.2.2.2.2.2.2.2.2⟩
theorem uB:law28_RefusalLines_t.ok Tryz.prog 10:=FnT.ok_of (cfg:=⟨[((10,10,10),.inv [(.tmp 16 tSc),(.tmp 17 .int)])],CK,[],aj⟩) aw Do av (fun s fn hf=>by rw[Tryz.func10]at hf;cases hf;kernel_rfl) (fun n s=>by kernel_rfl)
end
open Go.Dial.Ref Go.Dial.Rou Go.Dial.Fwd Go.Dial.Lif
def kH(x:Int)(acc:List Ev):List (Int×List Ev)->List Ev
 |[]=>acc
 |y::l=>kH x (if y.1=x then y.2 else acc) l
theorem Ep(x:Int)(y:Int×List Ev):∀(l:List (Int×List Ev)) (acc:List Ev),kH x acc (l++[y])=if y.1=x then y.2 else kH x acc l
 |[],acc=>rfl
 |z::l,acc=>by
  show kH x (if z.1=x then z.2 else acc) (l++[y])=_
  rw[Ep x y l];rfl
theorem JM{x:Int}:∀ {l:List (Int×List Ev)} {last:Int} {acc:List Ev},LsV last l->x<=last->kH x acc l=acc
 |[],_,_,_,_=>rfl
 |y::l,last,acc,⟨_,h2,_,h4⟩,hx=>by
  unfold kH;rw[if_neg (show ¬y.1=x by omega)]
  exact JM h4 (by omega)
theorem ON(t:Int):(atR [] t).1.s=0:=by
 unfold atR;split<;>rfl
theorem Nk:gk []:=⟨trivial,by simp⟩
theorem HE{x t:Int}:∀ {l:List (Int×List Ev)} {last:Int},LsV last l->dn l x t=decide ((atR (kH x [] l) t).1.s=1)
 |[],_,_=>by
  unfold kH dn;rw[ON];rfl
 | y::l,last,⟨_,h2,_,h4⟩=>by
  unfold kH dn;by_cases e:y.1=x
  ·rw[if_pos e,if_pos e,JM h4 (by omega)]
  ·rw[if_neg e,if_neg e]
   exact HE h4
theorem HM{x:Int}:∀ {l:List (Int×List Ev)} {last:Int} {acc:List Ev},LsV last l->gk acc->gk (kH x acc l)
 |[],_,_,_,ha=>ha
 |y::l,last,acc,⟨h1,_,_,h4⟩,ha=>by
  unfold kH;refine HM h4 ?_
  split
  ·exact h1
  ·exact ha
theorem BA:∀(es:List Ev) (l:Ln),All l es->l.e<=(fin l es).e/\((fin l es).e=l.e->(l.s=0->(fin l es).s=0)/\(l.s≠0->(fin l es).s≠0->(fin l es).h=l.h))
 |[],l,_=>⟨Int.le_refl _,fun _=>⟨fun h=>h,fun _ _=>rfl⟩⟩
 | e :: es,l,⟨hok,hA⟩=>by
  obtain⟨i1,i2⟩:=BA es (nxt l e) hA;have hf:fin l (e::es)=fin (nxt l e) es:=rfl
  rw[hf];obtain⟨hv,hfr,hp1,hp2⟩:=hok;by_cases c1:e.k=1\/e.k=2
  ·have hn:(nxt l e).e=l.e+1:=by unfold nxt;rw[if_pos c1]
   exact⟨by omega,fun h=>by omega⟩
  ·have hs:l.s≠0:=by omega
   by_cases c7:e.k=7
   ·have hn:nxt l e=⟨0,-1,l.e,e.a⟩:=by
     unfold nxt;rw[if_neg c1,if_neg (by omega),if_neg (by omega),if_neg (by omega)]
    have he:(nxt l e).e=l.e:=by rw[hn]
    have h0:(nxt l e).s=0:=by rw[hn]
    exact⟨by omega,fun h=>⟨fun h'=>absurd h' hs,fun _ h'=>absurd ((i2 (by omega)).1 h0) h'⟩⟩
   ·have hn:(nxt l e).e=l.e/\(nxt l e).h=l.h/\(nxt l e).s≠0:=by
     unfold nxt;rw[if_neg c1];have hk:=hfr.2.1;have hk1:=hfr.1;split
     ·exact⟨rfl,rfl,by dsimp only;omega⟩
     ·split
      ·exact⟨rfl,rfl,by dsimp only;omega⟩
      ·split
       ·exact⟨rfl,rfl,by dsimp only;omega⟩
       ·exfalso;omega
    exact⟨by omega,fun h=>⟨fun h'=>absurd h' hs,fun _ h'=>((i2 (by omega)).2 hn.2.2 h').trans hn.2.1⟩⟩
theorem Eq{t u:Int}(h:t<=u):∀es:List Ev,cc es t<=cc es u
 |[]=>Nat.le_refl _
 | e::es=>by
  have ih:=Eq h es;unfold cc at ih⊢
  rw[List.takeWhile_cons,List.takeWhile_cons];by_cases h1:e.a<=t
  ·rw[if_pos (decide_eq_true h1),if_pos (decide_eq_true (show e.a<=u by omega))]
   simp only[List.length_cons];omega
  ·rw[if_neg (by simpa using h1)]
   exact Nat.zero_le _
theorem Mr{es:List Ev}(h:gk es){t u:Int}(htu:t<=u)(h1:(atL es t).s=1)(h2:(atL es u).e=(atL es t).e)(h3:(atL es u).s=1):(atL es u).h=(atL es t).h:=by
 have hm:=Eq htu es;have hsp:es.take (cc es u)=es.take (cc es t)++(es.take (cc es u)).drop (cc es t):=by
  have:=(List.take_append_drop (cc es t) (es.take (cc es u))).symm
  rw[List.take_take,Nat.min_eq_left hm]at this;exact this
 have hA:=GI h.1 (cc es u);rw[hsp,uh]at hA;have hf:atL es u=fin (atL es t) ((es.take (cc es u)).drop (cc es t)):=by
  show fin first (es.take (cc es u))=_
  rw[hsp,yO];have:(es.take (cc es u)).drop (cc es t)=((es.take (cc es t)++(es.take (cc es u)).drop (cc es t))).drop (cc es t):=by rw[<-hsp]
  rw[<-this];rfl
 have hk:=(BA _ (atL es t) hA.2).2;rw[<-hf]at hk;exact(hk h2).2 (by omega) (by omega)
theorem z8(n:Nat)(es:List Ev)(t:Int)(h:kI es t)(h1:(atL es t).s=1)(hn:es.length<n):nK n (evL es) t=some ((atL es t).e,t,0):=by
 unfold nK Ab;rw[xg n es t hn,if_pos h,Option.bind_some];dsimp only;rw[Bool.not_true,cond_false,kT h1]
theorem IO(n:Nat)(es:List Ev)(t u:Int)(h:kI es t)(hu:kI es u)(htu:t<=u)(h1:(atL es t).s=1)(hn:es.length<n):∃f w,so n (evL es) (atL es t).e t u=some (f,w,0)/\(f=1->w=(atL es t).h):=by
 unfold so z9;rw[z8 n es t h h1 hn,Option.bind_some,xg n es u hn,if_pos hu,Option.bind_some];dsimp only;rw[kNT rfl,kNT rfl,Bool.not_true,cond_false,kF (show ¬u<t by omega)]
 by_cases c0:(atL es u).s=0
 ·rw[kT c0];exact⟨_,_,rfl,fun h=>by omega⟩
 ·rw[kF c0]
  by_cases c1:(atL es u).e=(atL es t).e
  ·rw[kNT c1]
   by_cases c2:(atL es u).s=1
   ·rw[kT c2];exact⟨_,_,rfl,fun _=>Mr h.1 htu h1 c1 c2⟩
   ·rw[kF c2];exact⟨_,_,rfl,fun h=>by omega⟩
  ·rw[kNF c1];exact⟨_,_,rfl,fun h=>by omega⟩
theorem uV(X:Nm)(hX:X.ok)(a b d z:Int)(ha:ax a)(hb:ax b)(hd:ax d)(hz:ax z):jf N0 (X.lives.map od) (X.sets.map gK) X.cond (iL X.hol) (iL X.kn) X.lag X.r0 X.r1 X.r2 X.r3 X.c0 X.c1 X.c2 X.c3 X.c4 X.c5 (X.evs.map bx) (X.net.map bx) a b d z=some true:=by
 obtain⟨g,hG,hM⟩:=yo N0 X hX (by decide)
 have b9:=aX a (k:=9) (by decide)
 have b100:=aX b (k:=100) (by decide)
 have b8:=aX d (k:=8) (by decide)
 have bz:=aX z (k:=3000000) (by decide)
 have hv:=hM.val;have hs:=hM.small;have hls:=hv.1;unfold jf lu;rw[yH,Option.bind_some];unfold lC;rw[Bool.not_true,cond_false,hG,Option.bind_some,eN N0 ha (by decide),Option.bind_some,kG (by omega),eN N0 hb (by decide),Option.bind_some,eN N0 hd (by decide),Option.bind_some]
 dsimp only[grT]
 have fin:∀go0:dk->Option bV,bU N0 go0 z (lnL g.ls) (seL g.ss) (coL g.cs) (iL g.h) (iL g.k) g.lag g.r.a g.r.c g.r.s g.r.r g.c.n g.c.f g.c.t g.c.h g.c.a g.c.b (ceL g.ce) g.nn (edL g.es) (pk a 9) (pk b 100) (pk d 8) (evL (kH (10+pk a 9) [] g.ls)) (g.ls.length:Int)=some true:=by
  intro go0;have hlife:gk (kH (10+pk a 9) [] g.ls):=HM hv.2.1 Nk
  have hheld:=HE (x:=10+pk a 9) (t:=pk b 100) hv.2.1;generalize kH (10+pk a 9) [] g.ls=es at hlife hheld
  have hlen:es.length<N0:=Nat.lt_of_le_of_lt hlife.2 (by decide)
  have ok1:kI es (pk b 100):=⟨hlife,b100.1,by omega⟩
  have hR:=A7 N0 g hs (10+pk a 9) (pk b 100) (pk d 8) Ga;have hL:=uc N0 g hs (10+pk a 9) (pk b 100) (pk d 8) Ga;have hat:atT es (pk b 100)=((atL es (pk b 100)).s,(atL es (pk b 100)).h,(atL es (pk b 100)).e,(atL es (pk b 100)).t,0):=by
   unfold atT atR;rw[if_pos ok1]
  have hs1:(atR es (pk b 100)).1.s=(atL es (pk b 100)).s:=by unfold atR;rw[if_pos ok1]
  rw[hs1]at hheld;unfold bU;rw[iD,kF (Int.lt_irrefl _),xc N0 es (pk b 100) hlen,hat,Option.bind_some,hR,Option.bind_some];dsimp only;rw[kNT rfl];by_cases hok:i9 g (10+pk a 9) (pk b 100) (pk d 8)
  ·have hcv:=zf hok
   rw[if_pos hok]at hL;rw[if_pos hok];dsimp only;rw[kNT rfl];by_cases h1:(atL es (pk b 100)).s=1
   ·rw[kNT h1,hL,Option.bind_some]
    cases hbb:(yt g (10+pk a 9) (pk b 100) (pk d 8)).2 with
    |true=>rw[if_pos rfl];rfl
    | false=>
     rw[if_neg (by decide)]
     dsimp only[Ki]
     rw[Bool.not_true,cond_false];by_cases h2:sI (wy g (10+pk a 9) (pk b 100)).2.1=10+pk a 9
     ·have ok2:kI es (pk b 100+pk z 3000000):=⟨hlife,by omega,by omega⟩
      obtain⟨f,w,hF,hFw⟩:=IO N0 es (pk b 100) (pk b 100+pk z 3000000) ok1 ok2 (by omega) h1 hlen
      rw[kNT h2,z8 N0 es (pk b 100) ok1 h1 hlen,Option.bind_some,eN N0 hz (by decide),Option.bind_some,kG (by omega)]
      dsimp only;rw[hF,Option.bind_some];dsimp only;rw[kT rfl,kT rfl];by_cases h3:f=1
      ·rw[kNT h3,decide_eq_true (hFw h3)]
      ·rw[kNF h3]
     ·rw[kNF h2]
   ·rw[kNF h1]
    have hnh:dn g.ls (10+pk a 9) (pk b 100)=false:=by rw[hheld,decide_eq_false h1]
    have hfd:(wy g (10+pk a 9) (pk b 100)).2.1.find? (fun x=> !dn g.ls x (pk b 100))=some (10+pk a 9):=by
     have hh:=hcv.whead;cases hq:(wy g (10+pk a 9) (pk b 100)).2.1 with
     |nil=>exact absurd hq hcv.wne
     |cons y l=>
      rw[hq]at hh;cases hh
      rw[List.find?_cons,hnh];rfl
    have hrf:yt g (10+pk a 9) (pk b 100) (pk d 8)=(⟨1,10+pk a 9,0,[],[],[],0⟩,true):=Em hfd
    rw[hrf];dsimp only;rw[cond_true,kT rfl,decide_eq_true rfl]
  ·rw[if_neg hok];rfl
 have outer:∀(m n' i:Nat),m<n'->i+m=g.ls.length->ab (fun go0 s=>bU N0 go0 z (lnL g.ls) (seL g.ss) (coL g.cs) (iL g.h) (iL g.k) g.lag g.r.a g.r.c g.r.s g.r.r g.c.n g.c.f g.c.t g.c.h g.c.a g.c.b (ceL g.ce) g.nn (edL g.es) (pk a 9) (pk b 100) (pk d 8) s.1 s.2) n' ((evL (kH (10+pk a 9) [] (g.ls.take i)),(i:Int)):dk)=some true:=by
  intro m;induction m with
  | zero=>
   intro n' i hm hi;cases n' with
   |zero=>omega
   |succ n'=>
    rw[am];have hi':i=g.ls.length:=by omega
    subst hi';rw[List.take_length];exact fin _
  | succ m ih=>
   intro n' i hm hi;cases n' with
   |zero=>omega
   | succ n'=>
    rw[am];have hih:=ih n' (i+1) (by omega) (by omega)
    generalize (ab (fun go0 s=>bU N0 go0 z (lnL g.ls) (seL g.ss) (coL g.cs) (iL g.h) (iL g.k) g.lag g.r.a g.r.c g.r.s g.r.r g.c.n g.c.f g.c.t g.c.h g.c.a g.c.b (ceL g.ce) g.nn (edL g.es) (pk a 9) (pk b 100) (pk d 8) s.1 s.2) n':dk->Option bV)=go at hih
    obtain⟨y,hy⟩:=aV (show i<g.ls.length by omega)
    obtain⟨k0,k1⟩:=zn hy;have ht:g.ls.take (i+1)=g.ls.take i++[y]:=by rw[List.take_add_one,hy];rfl
    rw[ht,Ep,show((i+1:Nat):Int)=(i:Int)+1 by omega]at hih
    show bU N0 go z (lnL g.ls) (seL g.ss) (coL g.cs) (iL g.h) (iL g.k) g.lag g.r.a g.r.c g.r.s g.r.r g.c.n g.c.f g.c.t g.c.h g.c.a g.c.b (ceL g.ce) g.nn (edL g.es) (pk a 9) (pk b 100) (pk d 8) _ (i:Int)=_
    unfold bU;rw[k0,k1,iD,kT (by omega),kT (by omega)]
    by_cases e:y.1=10+pk a 9
    ·rw[kT e,kG (by omega)]
     rw[if_pos e]at hih;exact hih
    ·rw[kF e,kG (by omega)]
     rw[if_neg e]at hih;exact hih
 have:=outer g.ls.length N0 0 (Nat.lt_of_le_of_lt hls (by decide)) (by omega)
 rw[List.take_zero]at this;exact this
theorem sT:∀s:be (Ps.tys law28_RefusalLines_t.ps),KE (Ps.tys law28_RefusalLines_t.ps) s->∃n z,law28_RefusalLines_t.fn n s=some z/\nU law28_RefusalLines_t.sh z=.b true:=by
 rintro ⟨v0,v1,v2,v3,v4,v5,v6,v7,v8,v9,v10,v11,v12,v13,v14,v15,v16,v17,a,b,d,z⟩ hs;obtain⟨⟨X,hX,rfl,rfl,rfl,rfl,rfl,rfl,rfl,rfl,rfl,rfl,rfl,rfl,rfl,rfl,rfl,rfl,rfl,rfl⟩,hr⟩:=JJ (rest:=[.int a,.int b,.int d,.int z]) hs
 exact⟨N0,true,uV X hX a b d z (nC (hr _ (by simp))) (nC (hr _ (by simp))) (nC (hr _ (by simp))) (nC (hr _ (by simp))),rfl⟩
end Go.Proofs.YtbfkkigbedmhgaaGreat
