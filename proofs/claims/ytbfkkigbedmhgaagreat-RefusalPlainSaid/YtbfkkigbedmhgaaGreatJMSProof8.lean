/-
  Texts of this claim, joined (part JMSProof8).
-/
import Derived.Test.YtbfkkigbedmhgaaGreatJM7
set_option linter.unusedVariables false
set_option linter.unusedSimpArgs false
set_option linter.unusedSectionVars false
set_option linter.constructorNameAsVariable false
set_option maxRecDepth 100000
namespace Go.Proofs.YtbfkkigbedmhgaaGreat
open Go Go.Sx
noncomputable section
abbrev ml:=Bool
def mL(n:Nat)(v0 v1:Lv)(v2:Int)(v3 v4:Lv)(v5 v6 v7 v8 v9 v10 v11 v12 v13 v14 v15:Int)(v16 v17:Lv)(v18 v19 v20:Int):Option ml:=
 (ik n ).bind fun y21=>
 (bif(!y21)then some false else(d9 n v0 v1 v2 v3 v4 v5 v6 v7 v8 v9 v10 v11 v12 v13 v14 v15 v16 v17).bind fun y22=>
 (aN n v18 9).bind fun y41=>
 bif(-9223372036854775808<=(10+y41))&&((10+y41)<=9223372036854775807)then(aN n v19 100).bind fun y42=>
 (aN n v20 8).bind fun y43=>
 (az n y22.1 ([]:Lv) ([]:Lv) y22.2.2.2.1 y22.2.2.2.2.1 y22.2.2.2.2.2.1 y22.2.2.2.2.2.2.1 y22.2.2.2.2.2.2.2.1 y22.2.2.2.2.2.2.2.2.1 y22.2.2.2.2.2.2.2.2.2.1 y22.2.2.2.2.2.2.2.2.2.2.1 y22.2.2.2.2.2.2.2.2.2.2.2.1 y22.2.2.2.2.2.2.2.2.2.2.2.2.1 y22.2.2.2.2.2.2.2.2.2.2.2.2.2.1 y22.2.2.2.2.2.2.2.2.2.2.2.2.2.2.1 y22.2.2.2.2.2.2.2.2.2.2.2.2.2.2.2.1 y22.2.2.2.2.2.2.2.2.2.2.2.2.2.2.2.2.1 y22.2.2.2.2.2.2.2.2.2.2.2.2.2.2.2.2.2.1 y22.2.2.2.2.2.2.2.2.2.2.2.2.2.2.2.2.2.2 (10+y41) y42 y43).bind fun y44=>
 (aG n y22.1 ([]:Lv) ([]:Lv) y22.2.2.2.1 y22.2.2.2.2.1 y22.2.2.2.2.2.1 y22.2.2.2.2.2.2.1 y22.2.2.2.2.2.2.2.1 y22.2.2.2.2.2.2.2.2.1 y22.2.2.2.2.2.2.2.2.2.1 y22.2.2.2.2.2.2.2.2.2.2.1 y22.2.2.2.2.2.2.2.2.2.2.2.1 y22.2.2.2.2.2.2.2.2.2.2.2.2.1 y22.2.2.2.2.2.2.2.2.2.2.2.2.2.1 y22.2.2.2.2.2.2.2.2.2.2.2.2.2.2.1 y22.2.2.2.2.2.2.2.2.2.2.2.2.2.2.2.1 y22.2.2.2.2.2.2.2.2.2.2.2.2.2.2.2.2.1 y22.2.2.2.2.2.2.2.2.2.2.2.2.2.2.2.2.2.1 y22.2.2.2.2.2.2.2.2.2.2.2.2.2.2.2.2.2.2 (10+y41) y42 y43).bind fun y53=>
 (bif !(y44.2.2.2.2.2.2.2.2=y53.2.2.2.2.2.2.2)then some false else(bif y44.2.2.2.2.2.2.2.1 then(bif y44.1=2 then some false else(bif y44.1=3 then some false else(bif y44.1=1 then(bif !(y44.2.1=(10+y41))then some false else(bif(!y53.2.2.2.2.2.2.1)then some true else(bif y53.1=(10+y41) then(eS n y53.2.2.1 y53.2.2.2.1 y53.2.2.2.2.1 1 (([]:Lv)++[[(AV.int (10+y41))]]) ([]:Lv)).bind fun y61=>
 some y61 else some false)))else(bif(!y53.2.2.2.2.2.2.1)then some true else(bif y53.1=(10+y41) then(eS n y53.2.2.1 y53.2.2.2.1 y53.2.2.2.2.1 1 (([]:Lv)++[[(AV.int (10+y41))]]) ([]:Lv)).bind fun y61=>
 some y61 else some false)))))else(bif(!y53.2.2.2.2.2.2.1)then some true else(bif y53.1=(10+y41) then(eS n y53.2.2.1 y53.2.2.2.1 y53.2.2.2.2.1 1 (([]:Lv)++[[(AV.int (10+y41))]]) ([]:Lv)).bind fun y61=>
 some y61 else some false))))else none)
def jJ(n:Nat)(v0 v1:Lv)(v2:Int)(v3 v4:Lv)(v5 v6 v7 v8 v9 v10 v11 v12 v13 v14 v15:Int)(v16 v17:Lv)(v18 v19 v20:Int):Option ml:=mL n v0 v1 v2 v3 v4 v5 v6 v7 v8 v9 v10 v11 v12 v13 v14 v15 v16 v17 v18 v19 v20
def law28_RefusalPlain_t:FnT:=⟨[(true,[(.sl (.cons tSc .nil)),(.sl (.cons .int (.cons .int (.cons .int (.cons .int (.cons .int .nil)))))),.int,tSa,tSa,.int,.int,.int,.int,.int,.int,.int,.int,.int,.int,.int,tSc,tSc]),(false,[.int]),(false,[.int]),(false,[.int])],.b,fun n (s:Lv×Lv×Int×Lv×Lv×Int×Int×Int×Int×Int×Int×Int×Int×Int×Int×Int×Lv×Lv×Int×Int×Int)=>jJ n s.1 s.2.1 s.2.2.1 s.2.2.2.1 s.2.2.2.2.1 s.2.2.2.2.2.1 s.2.2.2.2.2.2.1 s.2.2.2.2.2.2.2.1 s.2.2.2.2.2.2.2.2.1 s.2.2.2.2.2.2.2.2.2.1 s.2.2.2.2.2.2.2.2.2.2.1 s.2.2.2.2.2.2.2.2.2.2.2.1 s.2.2.2.2.2.2.2.2.2.2.2.2.1 s.2.2.2.2.2.2.2.2.2.2.2.2.2.1 s.2.2.2.2.2.2.2.2.2.2.2.2.2.2.1 s.2.2.2.2.2.2.2.2.2.2.2.2.2.2.2.1 s.2.2.2.2.2.2.2.2.2.2.2.2.2.2.2.2.1 s.2.2.2.2.2.2.2.2.2.2.2.2.2.2.2.2.2.1 s.2.2.2.2.2.2.2.2.2.2.2.2.2.2.2.2.2.2.1 s.2.2.2.2.2.2.2.2.2.2.2.2.2.2.2.2.2.2.2.1 s.2.2.2.2.2.2.2.2.2.2.2.2.2.2.2.2.2.2.2.2⟩
def yB:List Nat:=[12,13,14,15,16,17,18,19,20,21,22,23,24,25,26,27,28,29,30,31,32,33,34,35,36,37,38,39,40,41,42,43,44,45,46,47,48,49,50,51,52,53,54,55,56,57,58,59,62,65,66,67,68,69,70,71,72,73,74,75,76,77,78,84,85,86,87,89,95,105,106,107,108,109,110,111,112,114,115,116,117,120,122,130,132,149,150,152,153,159,176,178,179,180,182,183,184,186,187,193,202,203,204,210,211,1000015,1000016,1000017,1000018,1000019,1000022,1000049,1000050,1000051,1000052,1000053,1000062,2000151,2000152,2000217,2000247,2000248,2000249]
theorem vB:law28_RefusalPlain_t.ok Tryz.prog 8:=FnT.ok_of (cfg:=⟨[],yB,[],aj⟩) ay gh ax (fun s fn hf=>by rw[Tryz.func8]at hf;cases hf;kernel_rfl) (fun n s=>by kernel_rfl)
end
open Go.Dial.Ref Go.Dial.Rou Go.Dial.Fwd
abbrev mR(g:Gr):Gr:={ g with ss:=[],cs:=[] }
theorem Qn{g:Gr}(h:MadeV g):GrV (mR g)/\Small (mR g):=by
 obtain⟨a1,a2,a3,a4,a5⟩:=h.val;refine⟨⟨a1,a2,⟨⟨by simp,trivial⟩,by simp,trivial⟩,a4,a5⟩,⟨h.small.ls,h.small.ev,by simp,by simp,h.small.ce,h.small.es⟩⟩
theorem Iq(g:Gr)(m t:Int):wy (mR g) m t=(1,[m],[]):=rfl
theorem xr(X:Nm)(hX:X.ok)(a b d:Int)(ha:av a)(hb:av b)(hd:av d):jJ N0 (X.lives.map kA) (X.sets.map fg) X.cond (iL X.hol) (iL X.kn) X.lag X.r0 X.r1 X.r2 X.r3 X.c0 X.c1 X.c2 X.c3 X.c4 X.c5 (X.evs.map bb) (X.net.map bb) a b d=some true:=by
 obtain⟨g,hG,hM⟩:=gV N0 X hX (by decide)
 have b9:=aO a (k:=9) (by decide)
 have b100:=aO b (k:=100) (by decide)
 have b8:=aO d (k:=8) (by decide)
 obtain⟨hv,hs⟩:=Qn hM;unfold jJ mL;rw[jV,Option.bind_some,Bool.not_true,cond_false,hG,Option.bind_some,aJ N0 ha (by decide),Option.bind_some,kG (by omega),aJ N0 hb (by decide),Option.bind_some,aJ N0 hd (by decide),Option.bind_some]
 dsimp only[grT]
 generalize hm:10+pk a 9=m
 generalize ht:pk b 100=t at b100
 generalize hc:pk d 8=c at b8
 have hR:az N0 (lnL g.ls) ([]:Lv) ([]:Lv) (iL g.h) (iL g.k) g.lag g.r.a g.r.c g.r.s g.r.r g.c.n g.c.f g.c.t g.c.h g.c.a g.c.b (ceL g.ce) g.nn (edL g.es) m t c=_:=cC N0 (mR g) hs m t c fZ
 have hL:aG N0 (lnL g.ls) ([]:Lv) ([]:Lv) (iL g.h) (iL g.k) g.lag g.r.a g.r.c g.r.s g.r.r g.c.n g.c.f g.c.t g.c.h g.c.a g.c.b (ceL g.ce) g.nn (edL g.es) m t c=_:=dY N0 (mR g) hs m t c fZ
 by_cases h0:0<=at_ g.k c
 ·have hok:bL (mR g) m t c:=⟨hv,by omega,by omega,b100.1,by omega,b8.1,by omega,h0⟩
  rw[if_pos hok]at hR hL;rw[hR,Option.bind_some,hL,Option.bind_some];cases hbb:(cT (mR g) m t c).2 with
  | true=>
   rw[if_pos rfl];obtain⟨⟨_,c1⟩,_⟩:=K9 hok hbb;rw[Iq]at c1;dsimp only;have k2:¬(cT (mR g) m t c).1.k=2:=fun e=>by
    have:=((DO e).1 c1).1
    dsimp only at this
    omega
   have k3:¬(cT (mR g) m t c).1.k=3:=fun e=>by
    have:=((CZ e).1 c1).1
    dsimp only at this
    omega
   rw[kNT rfl,hbb,cond_true,kF k2,kF k3];by_cases k1:(cT (mR g) m t c).1.k=1
   ·have hn:(cT (mR g) m t c).1.n=m:=by
     have:=((Mz k1).1 c1).1
     simpa using this
    rw[kT k1,kNT hn];rfl
   ·rw[kF k1];rfl
  |false=>
   rw[if_neg (by decide),Iq]
   have hS:eS N0 1 (iL [m]) (iL []) 1 (([]:Lv)++[[AV.int m]]) ([]:Lv)=some true:=(sq N0 1 1 [m] [m] [] [] (by simp) (by simp) (by decide)).trans (by rw[decide_eq_true rfl])
   dsimp only;rw[kNT rfl,hbb,cond_false,hS];have hl:jn [m]=m:=rfl
   rw[kT hl];rfl
 ·have hok:¬bL (mR g) m t c:=fun h=>h0 h.2.2.2.2.2.2.2
  rw[if_neg hok]at hR hL;rw[hR,Option.bind_some,hL,Option.bind_some];rfl
theorem uP:∀s:bi (Ps.tys law28_RefusalPlain_t.ps),A6 (Ps.tys law28_RefusalPlain_t.ps) s->∃n z,law28_RefusalPlain_t.fn n s=some z/\lz law28_RefusalPlain_t.sh z=.b true:=by
 rintro ⟨v0,v1,v2,v3,v4,v5,v6,v7,v8,v9,v10,v11,v12,v13,v14,v15,v16,v17,a,b,d⟩ hs;obtain⟨⟨X,hX,rfl,rfl,rfl,rfl,rfl,rfl,rfl,rfl,rfl,rfl,rfl,rfl,rfl,rfl,rfl,rfl,rfl,rfl⟩,hr⟩:=qx (rest:=[.int a,.int b,.int d]) hs
 exact⟨N0,true,xr X hX a b d (bD (hr _ (by simp))) (bD (hr _ (by simp))) (bD (hr _ (by simp))),rfl⟩
end Go.Proofs.YtbfkkigbedmhgaaGreat
