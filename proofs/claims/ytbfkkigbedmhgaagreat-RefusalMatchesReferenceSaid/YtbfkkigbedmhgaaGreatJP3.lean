/-
  Texts of this claim, joined (part 3).
-/
import Derived.Test.YtbfkkigbedmhgaaGreatJP2
import Derived.OrdersIn
import Derived.LoopNIn
import Derived.RangeFuncNested
import Derived.Orders
import Derived.RangeFuncLeaves
open Bool renaming and_eq_true → v0, or_eq_true → v9, not_eq_true' → RP, or_false → RW, false_eq_true → RX, not_true → Sr, false_or → Ss
open List renaming append_assoc → v1, append_nil → v2, all_eq_true → v4, mem_cons_self → v5, mem_of_getElem? → v6, mem_cons_of_mem → v7, mem_append_right → y1, getElem?_append_left → y2, mem_append_left → y8, getElem?_map → y9, range → RJ, getElem?_append_right → RK, contains_eq_mem → RL, getElem?_eq_getElem → RN, getElem?_cons_zero → RO, mem_zipIdx_iff_getElem? → RR, getD → RU, range'_succ → RV, getElem?_eq_none → R1, mem_filter → R2, length_append → R4, range' → R6, range_eq_range' → R8, map_cons → R9, getElem?_take → Sc, filter_append → Sd, mem_range'_1 → Sg, reverse_cons → Sh, mem_append → Sm, map_append → Sn, nodup_cons → Sp, any_cons → Su
open Nat renaming le_refl → v3, zero_add → y3, add_zero → RQ, lt_trichotomy → RY, lt_succ_self → R0, eq_of_beq_eq_true → R7, lt_or_ge → Sa, le_trans → Sb, lt_of_not_le → Si, strongRecOn → So, testBit_or → Sq
open Array renaming replicate → v8, getElem?_eq_getElem → y0, getD → y7, getElem?_toList → RT, eq_empty_of_size_eq_zero → R3, all_eq_true' → Sf, toList_map → Sj
open Option renaming getD_some → RM, bind_some → RZ, map_some → R5, getD_none → Sk
set_option linter.unusedVariables false
set_option linter.unusedSimpArgs false
set_option linter.unusedSectionVars false
set_option linter.constructorNameAsVariable false
namespace Go.Sx
open Go Go.RowKit Go.Dial
variable {env:List AV} {κ κ':Nat->Value} {F F':Nat->Prop} {w w' w0:World} {U:Nat->Prop} {tmp:Nat->SV} {blk:Nat->Option SB} {L:Nat} {a:Act} {P:Program}
def LQ(P:Program)(f:Nat)(ks vs:SV):Prop:=∀w:World,Calls P f #[] w fun e w'=>∃r es clock,e=.returned (.map (some r))/\w.heap.size<=r/\w'.heap[r]?=some (.map es clock)/\ks.proper=true/\vs.proper=true/\ks.len=vs.len ∧
 MapDen [] (fun _=>undef) (fun _=>False) w' ks vs es.toList/\Below w.heap.size w w'
def gm(ts:List Ty)(xs:List AV):List AV:=List.zipWith co ts xs
theorem xq:∀(ts:List Ty) (xs:List AV),xs.map AV.ty=ts->gm ts xs=xs
 |[],xs,h=>by
  cases xs with
  |nil=>rfl
  |cons=>simp at h
 | t::ts,xs,h=>by
  cases xs with
  |nil=>simp at h
  |cons x xs=>
   simp only[R9,List.cons.injEq]at h;show co t x::gm ts xs=_
   rw[OO h.1,xq ts xs h.2]
def T.den(P:Program)(Post:R->Prop):T->List AV->(Nat->List AV->Prop)->Prop
 |.stop _ _,_,_=>False
 |.ret x,env,_=>Post (x.den env)
 |.need e t,env,K=>(Sx.den env e).b=true/\t.den P Post env K
 |.br e a b,env,K=>((Sx.den env e).b=true->a.den P Post env K)/\((Sx.den env e).b=false->b.den P Post env K)
 |.call f args sh t,env,K=>∃r:R,r.shape=sh/\Con P f (Sx.den env args).g r/\t.den P Post (env++r.leaves) K
 |.loop lvl inits sorts _ _ t,env,K=>∃(I:List AV->Prop) (μ:List AV->Nat),I (gm sorts (Sx.den env inits).g) ∧
  ∀vs,vs.map AV.ty=sorts->I vs->t.den P Post (env++vs) (upd K lvl (fun us=>I (gm sorts us)/\μ (gm sorts us)<μ vs))
 |.again lvl es,env,K=>K lvl (Sx.den env es).g
 |.ext f ks vs t,env,K=>LQ P f ks vs/\t.den P Post env K
theorem kR{n:Nat}{rs:List AV}(hn:env.length=n){e:E}(h:e.sc n=true):den (env++rs) e=den env e:=by
 induction e with
 |v i=>
  simp only[E.sc,decide_eq_true_eq]at h;simp[den,RU,y2 (show i<env.length by omega)]
 |ii o x y ih1 ih2=>simp only[E.sc,v0]at h;simp only[den,ih1 h.1,ih2 h.2]
 |cmp o x y ih1 ih2=>simp only[E.sc,v0]at h;simp only[den,ih1 h.1,ih2 h.2]
 |beq x y ih1 ih2=>simp only[E.sc,v0]at h;simp only[den,ih1 h.1,ih2 h.2]
 |and x y ih1 ih2=>simp only[E.sc,v0]at h;simp only[den,ih1 h.1,ih2 h.2]
 |seq x y ih1 ih2=>simp only[E.sc,v0]at h;simp only[den,ih1 h.1,ih2 h.2]
 |rcons x y ih1 ih2=>simp only[E.sc,v0]at h;simp only[den,ih1 h.1,ih2 h.2]
 |snoc x y ih1 ih2=>simp only[E.sc,v0]at h;simp only[den,ih1 h.1,ih2 h.2]
 |app x y ih1 ih2=>simp only[E.sc,v0]at h;simp only[den,ih1 h.1,ih2 h.2]
 |take x y ih1 ih2=>simp only[E.sc,v0]at h;simp only[den,ih1 h.1,ih2 h.2]
 |drop x y ih1 ih2=>simp only[E.sc,v0]at h;simp only[den,ih1 h.1,ih2 h.2]
 |rep x y ih1 ih2=>simp only[E.sc,v0]at h;simp only[den,ih1 h.1,ih2 h.2]
 |cpy x y ih1 ih2=>simp only[E.sc,v0]at h;simp only[den,ih1 h.1,ih2 h.2]
 |not x ih=>simp only[E.sc]at h;simp only[den,ih h]
 |len x ih=>simp only[E.sc]at h;simp only[den,ih h]
 |slen x ih=>simp only[E.sc]at h;simp only[den,ih h]
 |typed t x ih=>simp only[E.sc]at h;simp only[den,ih h]
 |co t x ih=>simp only[E.sc]at h;simp only[den,ih h]
 |kin t x ih=>simp only[E.sc]at h;simp only[den,ih h]
 |kout x ih=>simp only[E.sc]at h;simp only[den,ih h]
 |kop o k x y ih1 ih2=>simp only[E.sc,v0]at h;simp only[den,ih1 h.1,ih2 h.2]
 |kcmp o x y ih1 ih2=>simp only[E.sc,v0]at h;simp only[den,ih1 h.1,ih2 h.2]
 |mget x y ih1 ih2=>simp only[E.sc,v0]at h;simp only[den,ih1 h.1,ih2 h.2]
 |mhas x y ih1 ih2=>simp only[E.sc,v0]at h;simp only[den,ih1 h.1,ih2 h.2]
 |mput x y z ih1 ih2 ih3=>simp only[E.sc,v0]at h;simp only[den,ih1 h.1.1,ih2 h.1.2,ih3 h.2]
 |cell x y k ih1 ih2=>simp only[E.sc,v0]at h;simp only[den,ih1 h.1,ih2 h.2]
 |set x y k z ih1 ih2 ih3=>simp only[E.sc,v0]at h;simp only[den,ih1 h.1.1,ih2 h.1.2,ih3 h.2]
 |_=>rfl
def Agree(n:Nat)(env env':List AV):Prop:=∀e:E,e.sc n=true->den env' e=den env e
theorem Agree.symm{n:Nat}{env':List AV}(h:Agree n env env'):Agree n env' env:=fun e he=>(h e he).symm
theorem Agree.trans{n:Nat}{env' env'':List AV}(h:Agree n env env')(k:Agree n env' env''):Agree n env env'':=fun e he=>(k e he).trans (h e he)
theorem oV{n:Nat}{rs:List AV}(hn:env.length=n):Agree n env (env++rs):=fun _ he=>kR hn he
theorem SVden.re{n:Nat}{env':List AV}(hn:Agree n env env'){x:SV}{u:Value}(hs:x.sc n=true)(h:SVden env κ F w x u):SVden env' κ F w x u:=by
 induction x generalizing u with
 |vi e=>simp only[SV.sc]at hs;simp only[SVden,hn e hs]at h⊢;exact h
 |vb e=>simp only[SV.sc]at hs;simp only[SVden,hn e hs]at h⊢;exact h
 |vr e=>simp only[SV.sc]at hs;simp only[SVden,hn e hs]at h⊢;exact h
 |vs t e=>simp only[SV.sc]at hs;simp only[SVden,hn e hs]at h⊢;exact h
 |eptr t l i k=>simp only[SV.sc,v0]at hs;simp only[SVden,hn l hs.1,hn i hs.2]at h⊢;exact h
 |rptr b t i k=>simp only[SV.sc]at hs;simp only[SVden,hn i hs]at h⊢;exact h
 |rtail b t i=>simp only[SV.sc]at hs;simp only[SVden,hn i hs]at h⊢;exact h
 |agg xs ih=>obtain⟨cs,h1,hp,h2⟩:=h;exact⟨cs,h1,hp,ih hs h2⟩
 |tup xs ih=>obtain⟨cs,h1,hp,h2⟩:=h;exact⟨cs,h1,hp,ih hs h2⟩
 |iface t x ih=>obtain⟨v,h1,h2⟩:=h;exact⟨v,h1,ih hs h2⟩
 |fn f fs xs ih1 ih2=>
  simp only[SV.sc,v0]at hs;obtain⟨ds,cs,h1,hp,hq,h2,h3⟩:=h;exact⟨ds,cs,h1,hp,hq,ih1 hs.1 h2,ih2 hs.2 h3⟩
 |cons x xs ih1 ih2=>
  simp only[SV.sc,v0]at hs;obtain⟨p,q,h1,h2,h3⟩:=h;exact⟨p,q,h1,ih1 hs.1 h2,ih2 hs.2 h3⟩
 |_=>exact h
theorem BA{n:Nat}(x:SV)(h:x.sc n=true):∀y∈x.list,y.sc n=true:=by
 induction x with
 |cons x y _ ih=>
  intro z hz;simp only[SV.sc,v0]at h;simp only[SV.list,List.mem_cons]at hz;rcases hz with rfl|hz
  ·exact h.1
  ·exact ih h.2 z hz
 |_=>intro z hz;simp[SV.list]at hz
theorem MapDen.re{n:Nat}{env':List AV}(hn:Agree n env env'){ks vs:SV}{es:List MapEntry}(hk:ks.sc n=true)(hv:vs.sc n=true)(h:MapDen env κ F w ks vs es):MapDen env' κ F w ks vs es:=by
 obtain⟨h1,h2,h3⟩:=h;refine⟨fun i k v q1 q2=>?_,fun e he=>?_,h3⟩
 ·obtain⟨e,he,d1,d2⟩:=h1 i k v q1 q2
  exact⟨e,he,d1.re hn (BA ks hk k (v6 q1)),d2.re hn (BA vs hv v (v6 q2))⟩
 ·obtain⟨i,k,v,q1,q2,d1,d2⟩:=h2 e he
  exact⟨i,k,v,q1,q2,d1.re hn (BA ks hk k (v6 q1)),d2.re hn (BA vs hv v (v6 q2))⟩
theorem SBden.re{n:Nat}{env':List AV}(hn:Agree n env env'){base b:Nat}{x:SB}(hs:x.sc n=true)(h:SBden env κ F base w b x):SBden env' κ F base w b x:=by
 cases x with
 |cells ty xs=>
  obtain⟨g,cs,h1,h2,h3,h4,h5⟩:=h;exact⟨g,cs,h1,h2,h3,h4.re hn hs,h5⟩
 |row ety t l=>
  obtain⟨us,h1,h2⟩:=h;simp only[SB.sc]at hs;exact⟨us,by rw[hn l hs];exact h1,by rw[hn l hs];exact h2⟩
 |dead l=>
  obtain⟨A,c,h1⟩:=h;simp only[SB.sc]at hs;exact⟨A,c,by rw[hn l hs];exact h1⟩
 |ice ety t l=>
  simp only[SB.sc]at hs;obtain⟨h1,h2⟩:=h;exact⟨by rw[hn l hs];exact h1,by rw[hn l hs];exact h2⟩
 |loop i st p=>
  obtain⟨l,r,h1,h2,h3,h4,h5,h6,h7,h8,h9,h10⟩:=h;exact⟨l,r,h1,h2,h3,h4,h5,h6,h7,h8,h9,fun t=>(h10 t).re hn (Ov.all_spec hs rfl t)⟩
 |map ks vs=>
  simp only[SB.sc,v0]at hs;obtain⟨r,es,cl,h1,h2,h3,h4,h5,h6,h7⟩:=h;exact⟨r,es,cl,h1,h2,h3,h4,h5,h6,h7.re hn hs.1 hs.2⟩
 |qrow ety t l=>
  obtain⟨us,h1,h2⟩:=h;simp only[SB.sc]at hs;exact⟨us,by rw[hn l hs];exact h1,by rw[hn l hs];exact h2⟩
 |amap t l=>
  simp only[SB.sc]at hs;obtain⟨r,es,cl,h1,h2,h3,h4⟩:=h;exact⟨r,es,cl,h1,h2,h3,by rw[hn l hs];exact h4⟩
def KnownOK(env:List AV)(n:Nat)(known:List (E×Bool)):Prop:=∀x∈known,x.1.sc n=true/\(den env x.1).b=x.2
theorem wd{n:Nat}{known:List (E×Bool)}(h:KnownOK env n known){e:E}{b:Bool}(hl:EI known e=some b):(den env e).b=b:=by
 induction known with
 |nil=>cases hl
 | cons x l ih=>
  obtain⟨y,c⟩:=x;have hl:Bool.rec (motive:=fun _=>Option Bool) (EI l e) (some c) (E.eqb y e)=some b:=hl
  cases hy:E.eqb y e with
  |true=>
   rw[hy]at hl;cases hl
   have:=E.eqb_spec _ _ hy
   subst this;exact(h _ (v5 ..)).2
  |false=>
   rw[hy]at hl;exact ih (fun x hx=>h x (v7 _ hx)) hl
theorem Od{n:Nat}{known:List (E×Bool)}(h:KnownOK env n known){e:E}{m:Int}(hl:LP known e=some m):(den env e).i=m:=by
 induction known with
 |nil=>cases hl
 | cons x l ih=>
  have ih:=ih (fun x hx=>h x (v7 _ hx))
  unfold LP at hl;simp only at hl
  split at hl
  ·rename_i b k
   cases hy:E.eqb b e with
   |true=>
    rw[hy]at hl;cases hl
    have:=E.eqb_spec _ _ hy
    subst this;have:=(h _ (v5 ..)).2
    exact of_decide_eq_true this
   |false=>rw[hy]at hl;exact ih hl
  ·exact ih hl
theorem oa{n:Nat}{known:List (E×Bool)}(h:KnownOK env n known){e:E}{b:Bool}(hl:nu known e=some b):(den env e).b=b:=by
 induction e generalizing b with
 |bool c=>simp only[nu]at hl;cases hl;rfl
 |not x ih=>
  simp only[nu]at hl;obtain⟨c,hc,rfl⟩:=Option.map_eq_some_iff.1 hl;simp[den,ih hc]
 |and x y ih1 ih2=>
  simp only[nu]at hl;split at hl
  ·rename_i h1 h2;cases hl;simp[den,ih1 h1,ih2 h2]
  ·rename_i h1;cases hl;simp[den,ih1 h1]
  ·rename_i h1 _;cases hl;simp[den,ih2 h1]
  ·exact wd h hl
 | cmp o x y ih1 ih2=>
  unfold nu at hl;split at hl
  ·rename_i heq;cases heq
  ·rename_i a k heq
   cases heq
   split at hl
   ·rename_i c hc;cases hl;exact wd h hc
   ·obtain⟨m,hm,rfl⟩:=Option.map_eq_some_iff.1 hl
    simp[den,COp.f,Od h hm]
  ·rename_i heq
   cases heq
   split at hl
   ·rename_i he
    cases hl
    rw[E.eqb_spec _ _ he];simp[den,COp.f]
   ·exact wd h hl
  ·rename_i heq;cases heq
  ·rename_i heq;cases heq
  ·exact wd h hl
 |_=>exact wd h hl
theorem iM{n:Nat}{known:List (E×Bool)}(h:KnownOK env n known){e:E}{b:Bool}(hs:e.sc n=true)(hb:(den env e).b=b):KnownOK env n (kh known e b):=by
 have base:∀ {known e b},KnownOK env n known->e.sc n=true->(den env e).b=b->KnownOK env n ((e,b)::known):=fun h hs hb x hx=>by
  rcases List.mem_cons.1 hx with rfl|hx
  ·exact⟨hs,hb⟩
  ·exact h x hx
 induction e generalizing known b with
 |not x ih=>
  simp only[kh];exact ih h hs (by simp only[den,AV.b_bool]at hb;rw[<-hb];simp)
 | and x y ih1 ih2=>
  simp only[E.sc,v0]at hs;cases b with
  |true=>
   simp only[kh];simp only[den,AV.b_bool,v0]at hb;exact ih2 (ih1 h hs.1 hb.1) hs.2 hb.2
  |false=>exact base h (by simp only[E.sc,v0];exact hs) hb
 |_=>cases b<;>exact base h hs hb
theorem KnownOK.ext{n m:Nat}{rs:List AV}{known:List (E×Bool)}(h:KnownOK env n known)(hn:env.length=n)(hm:n<=m):KnownOK (env++rs) m known:=fun x hx=>by
 obtain⟨h1,h2⟩:=h x hx;refine⟨?_,by rw[kR hn h1];exact h2⟩
 clear h2
 have key:∀e:E,e.sc n=true->e.sc m=true:=by
  intro e;induction e with
  |v i=>intro h;simp only[E.sc,decide_eq_true_eq]at h⊢;omega
  |ii o x y ih1 ih2=>intro h;simp only[E.sc,v0]at h⊢;exact⟨ih1 h.1,ih2 h.2⟩
  |cmp o x y ih1 ih2=>intro h;simp only[E.sc,v0]at h⊢;exact⟨ih1 h.1,ih2 h.2⟩
  |beq x y ih1 ih2=>intro h;simp only[E.sc,v0]at h⊢;exact⟨ih1 h.1,ih2 h.2⟩
  |and x y ih1 ih2=>intro h;simp only[E.sc,v0]at h⊢;exact⟨ih1 h.1,ih2 h.2⟩
  |seq x y ih1 ih2=>intro h;simp only[E.sc,v0]at h⊢;exact⟨ih1 h.1,ih2 h.2⟩
  |rcons x y ih1 ih2=>intro h;simp only[E.sc,v0]at h⊢;exact⟨ih1 h.1,ih2 h.2⟩
  |snoc x y ih1 ih2=>intro h;simp only[E.sc,v0]at h⊢;exact⟨ih1 h.1,ih2 h.2⟩
  |app x y ih1 ih2=>intro h;simp only[E.sc,v0]at h⊢;exact⟨ih1 h.1,ih2 h.2⟩
  |take x y ih1 ih2=>intro h;simp only[E.sc,v0]at h⊢;exact⟨ih1 h.1,ih2 h.2⟩
  |drop x y ih1 ih2=>intro h;simp only[E.sc,v0]at h⊢;exact⟨ih1 h.1,ih2 h.2⟩
  |rep x y ih1 ih2=>intro h;simp only[E.sc,v0]at h⊢;exact⟨ih1 h.1,ih2 h.2⟩
  |cpy x y ih1 ih2=>intro h;simp only[E.sc,v0]at h⊢;exact⟨ih1 h.1,ih2 h.2⟩
  |not x ih=>intro h;exact ih h
  |len x ih=>intro h;exact ih h
  |slen x ih=>intro h;exact ih h
  |typed t x ih=>intro h;exact ih h
  |co t x ih=>intro h;exact ih h
  |kin t x ih=>intro h;exact ih h
  |kout x ih=>intro h;exact ih h
  |kop o k x y ih1 ih2=>intro h;simp only[E.sc,v0]at h⊢;exact⟨ih1 h.1,ih2 h.2⟩
  |kcmp o x y ih1 ih2=>intro h;simp only[E.sc,v0]at h⊢;exact⟨ih1 h.1,ih2 h.2⟩
  |mget x y ih1 ih2=>intro h;simp only[E.sc,v0]at h⊢;exact⟨ih1 h.1,ih2 h.2⟩
  |mhas x y ih1 ih2=>intro h;simp only[E.sc,v0]at h⊢;exact⟨ih1 h.1,ih2 h.2⟩
  |mput x y z ih1 ih2 ih3=>intro h;simp only[E.sc,v0]at h⊢;exact⟨⟨ih1 h.1.1,ih2 h.1.2⟩,ih3 h.2⟩
  |cell x y k ih1 ih2=>intro h;simp only[E.sc,v0]at h⊢;exact⟨ih1 h.1,ih2 h.2⟩
  |set x y k z ih1 ih2 ih3=>intro h;simp only[E.sc,v0]at h⊢;exact⟨⟨ih1 h.1.1,ih2 h.1.2⟩,ih3 h.2⟩
  |_=>intro _;rfl
 exact key _ h1
def ku:Nat->List (Nat×Option SB)->Prop
 |_,[]=>True
 |N,x::l=>x.1<=N/\ku (max N (x.1+1)) l
def cE:Nat->List (Nat×Option SB)->Nat
 |N,[]=>N
 |N,x::l=>cE (max N (x.1+1)) l
theorem HJ(a b:Nat):mx a b=max a b:=by have:=vH a b;omega
theorem Cx:∀(wr:List (Nat×Option SB)) (N:Nat),N<=cE N wr/\∀x∈wr,x.1<cE N wr
 |[],N=>⟨v3 _,fun x hx=>by cases hx⟩
 |y::wr,N=>by
  obtain⟨h1,h2⟩:=Cx wr (max N (y.1+1));refine⟨by simp only[cE];omega,fun x hx=>?_⟩
  rcases List.mem_cons.1 hx with rfl|hx
  ·simp only[cE];omega
  ·exact h2 x hx
theorem cU(σ:SS)(wr:List (Nat×Option SB))(hw:ku σ.N wr):(σ.write wr).blk=aH σ.blk wr/\(σ.write wr).N=cE σ.N wr/\(σ.write wr).tmp=σ.tmp/\(σ.write wr).L=σ.L/\(σ.write wr).n=σ.n/\(σ.write wr).known=σ.known/\(σ.write wr).dep=σ.dep:=by
 have key:∀(wr:List (Nat×Option SB)) (h:Ov (Option SB)),ku h.len wr->(fun b=>(List.rec (motive:=fun _=>Ov (Option SB)->Ov (Option SB)) (fun h=>h) (fun x _ ih h=>ih (h.set x.1 x.2)) wr h:Ov (Option SB)).get none b)=aH (fun b=>h.get none b) wr ∧
   (List.rec (motive:=fun _=>Ov (Option SB)->Ov (Option SB)) (fun h=>h) (fun x _ ih h=>ih (h.set x.1 x.2)) wr h:Ov (Option SB)).len=cE h.len wr:=by
  intro wr;induction wr with
  |nil=>intro h _;exact⟨rfl,rfl⟩
  |cons y wr ih=>
   intro h hw;have hl:(h.set y.1 y.2).len=max h.len (y.1+1):=HJ _ _
   obtain⟨h1,h2⟩:=ih (h.set y.1 y.2) (by rw[hl];exact hw.2)
   refine⟨?_,by rw[hl]at h2;exact h2⟩
   refine h1.trans ?_
   show aH _ wr=aH (upd (fun b=>h.get none b) y.1 y.2) wr
   congr 1
   funext b
   rw[Ov.get_set (fun i h1 h2=>by have:=hw.1;omega)]
   rfl
 obtain⟨h1,h2⟩:=key wr σ.hp hw;exact⟨h1,h2,rfl,rfl,rfl,rfl,rfl⟩
theorem eZ(σ:SS){dst:Option Nat}{v:SV}(hd:∀d,dst=some d->d<σ.L):(σ.put dst v).tmp=fP σ.tmp dst v/\(σ.put dst v).blk=σ.blk/\(σ.put dst v).N=σ.N/\(σ.put dst v).n=σ.n/\(σ.put dst v).known=σ.known/\(σ.put dst v).L=σ.L/\(σ.put dst v).dep=σ.dep:=by
 cases dst with
 |none=>exact⟨rfl,rfl,rfl,rfl,rfl,rfl,rfl⟩
 |some d=>
  refine⟨?_,rfl,rfl,rfl,rfl,rfl,rfl⟩
  funext t
  exact Ov.get_put (hd d rfl) t
theorem jD(σ:SS):σ.ev=ai σ.tmp:=by
 funext x;cases x<;>rfl
theorem fH{σ:SS}{b:Nat}{x:SB}(h:σ.blk b=some x):b<σ.N:=by
 rcases Sa b σ.N with h1|h1
 ·exact h1
 ·have:σ.blk b=none:=Ov.get_out h1
  rw[h]at this;cases this
def FR(ro:Option Nat):Fence:={ Fence.wide with round:=ro }
def dY(κ:Nat->Value)(ro:Option Nat):Option Nat:=ro.bind fun b=>ak (κ b)
theorem ew{ro:Option Nat}(h:∀b,ro=some b->κ' b=κ b):dY κ' ro=dY κ ro:=by
 cases ro with
 |none=>rfl
 |some b=>simp only[dY,RZ,h b rfl]
theorem E2{ro:Option Nat}{f:Nat}{vs:Array Value}{R:Ending->World->Prop}{n:Nat}(h:Calls P f vs w R):CallsIn (FR ro) n P f vs w R:=callsIn_wide.2 h
theorem pe{ro:Option Nat}{f:Nat}{vs:Array Value}{R:Ending->World->Prop}{n:Nat}(h:CallsIn (FR ro) n P f vs w R):Calls P f vs w R:=callsIn_wide.1 h
theorem xw{ro:Option Nat}{o:Oper}{u:Value}{K:Act->World->Prop}{Q:Exit->Act->World->Prop}(hd:∀c,o.op≠.defer c)(hr:cZ P o a w u w')(hK:K (a.put o.dst u) w'):o.wpIn (FR ro) 0 P a w K Q:=by
 refine⟨fun _ _=>trivial,?_⟩
 rw[Oper.semAt_eq _ _ _ hd];rcases hr with hr|⟨rfl,hr⟩<;>rw[hr]<;>exact hK
theorem zO{ro:Option Nat}{o:Oper}{f:Nat}{vs:Array Value}{R:Ending->World->Prop}{K:Act->World->Prop}{Q:Exit->Act->World->Prop}(hd:∀c,o.op≠.defer c)(hr:(execOp a.eval o).run P w=.ok (.enter f vs) w)(hc:Calls P f vs w R)
  (hR:∀e w',R e w'->∃u,e=.returned u/\K (a.put o.dst u) w'):o.wpIn (FR ro) 0 P a w K Q:=by
 refine⟨fun _ _=>trivial,?_⟩
 rw[Oper.semAt_eq _ _ _ hd,hr,Oper.uponIn_enter];refine⟨fun h=>(by cases h),(E2 hc).mono fun e w' he=>?_⟩
 obtain⟨u,rfl,hK⟩:=hR e w' he;exact hK
def ij(v:Value):List PanicEntry:=[{ v,recovered:=false }]
theorem Ll{ro:Option Nat}{o:Oper}{v:Value}{K:Act->World->Prop}{Q:Exit->Act->World->Prop}(hd:∀c,o.op≠.defer c)(hr:(execOp a.eval o).run P w=.halt (.panic v) w')(hQ:Q (.panic (ij v)) a w'):o.wpIn (FR ro) 0 P a w K Q:=by
 refine⟨fun _ _=>trivial,?_⟩
 rw[Oper.semAt_eq _ _ _ hd,hr,Oper.uponIn_panic];exact hQ
theorem KT{ro:Option Nat}{o:Oper}{f:Nat}{vs:Array Value}{R:Ending->World->Prop}{K:Act->World->Prop}{Q:Exit->Act->World->Prop}(hd:∀c,o.op≠.defer c)(hr:(execOp a.eval o).run P w=.ok (.enter f vs) w)(hc:Calls P f vs w R)
  (hR:∀e w',R e w'->∃chain,e=.panicked chain/\Q (.panic chain) a w'):o.wpIn (FR ro) 0 P a w K Q:=by
 refine⟨fun _ _=>trivial,?_⟩
 rw[Oper.semAt_eq _ _ _ hd,hr,Oper.uponIn_enter];refine⟨fun h=>(by cases h),(E2 hc).mono fun e w' he=>?_⟩
 obtain⟨chain,rfl,hQ⟩:=hR e w' he;exact hQ
structure Stp where
 v:SV
 wr:List (Nat×Option SB)
 seen:Seen
def K5(κ:Nat->Value)(env:List AV)(x:Nat×E):Prop:=0<(den env x.2).i->∃g n c,κ x.1=.slice (some ⟨g,0,none⟩) n c/\(n:Int)=(den env x.2).i
theorem uw(h:Rel w0 env κ F U tmp blk L a w){b e:Nat}{t:Ty}{l:E}(hb:blk b=some (.row e t l)):K5 κ env (b,l.len'):=by
 intro h0;simp only[bV,AV.i_int]at h0⊢;obtain⟨us,hown,hpos,hrow⟩:=h.blks b _ hb;rcases hown.2 with⟨e1,e2⟩|⟨g,cap,cur,e1,_⟩
 ·omega
 ·exact⟨g,_,cap,e1,rfl⟩
structure StepSem (P:Program) (w0:World) (env:List AV) (ro:Option Nat) (L:Nat) (ops:Array Oper) (N N' i:Nat) (s:Stp) (tmp:Nat->SV) (blk:Nat->Option SB):Prop where
 wb:s.seen.wb=s.wr.map (·.1)
 lt:∀b∈s.seen.wb,b<N'
 le:N<=N'
 foot:∀b∈s.seen.wb,b∈s.seen.rb\/N<=b
 all:∀b,N<=b->b<N'->b∈s.seen.wb
 dst:∀d,s.seen.dst=some d->d<L
 run:∀(κ:Nat->Value) (F U:Nat->Prop) (tmp':Nat->SV) (blk':Nat->Option SB) (a:Act) (w:World) (K:Act->World->Prop) (Q:Exit->Act->World->Prop),Rel w0 env κ F U tmp' blk' L a w →
  (∀t∈s.seen.rt,tmp' t=tmp t)->(∀b∈s.seen.rb,blk' b=blk b)->(∀b,N<=b->b<N'->¬U b)->(∀b,ro=some b->U b)->(∀x∈s.seen.rh,K5 κ env x) →
  (∀κ' F' a' w',Rel w0 env κ' F' (fun b=>U b\/(N<=b/\b<N')) (fP tmp' s.seen.dst s.v) (aH blk' s.wr) L a' w'->Kept U blk' κ F w (aH blk' s.wr) κ' F' w'->a'.defers=a.defers->K a' w')->wpOpIn (FR (dY κ ro)) 0 P ops Q i K a w
 hdr:∀x∈s.seen.rh,(x.1∈s.seen.fb/\s.seen.rb=[]/\s.seen.wb=[])/\∃e t l,blk x.1=some (.row e t l)/\l.len'=x.2
theorem StepSem.fix{ro:Option Nat}{ops:Array Oper}{N N' i:Nat}{s:Stp}(h:StepSem P w0 env ro L ops N N' i s tmp blk)(h0:Ov (Option SB)):
  StepSem P w0 env ro L ops N N' i { s with seen:=s.seen.fix h0 } tmp blk:=by
 unfold Seen.fix;split
 ·exact h
 ·rename_i hk
  have hr:s.seen.rh≠[]:=fun hr=>hk (by unfold pK;simp[hr])
  obtain⟨y,ys,hy⟩:=List.exists_cons_of_ne_nil hr;obtain⟨⟨_,hb,hw⟩,_⟩:=h.hdr y (by rw[hy];exact v5 ..)
  refine⟨h.wb,h.lt,h.le,fun b hb'=>?_,h.all,h.dst,fun κ F U tmp' blk' a w K Q q1 q2 q3 q4 q5 _ q6=>?_,fun x hx=>(by cases hx)⟩
  ·have hb':b∈s.seen.wb:=hb'
   rw[hw]at hb';cases hb'
  ·refine h.run κ F U tmp' blk' a w K Q q1 q2 (fun b hb'=>?_) q4 q5 (fun x hx=>?_) q6
   ·rw[hb]at hb';cases hb'
   ·obtain⟨⟨hx1,_⟩,e,t,l,hx2,hx3⟩:=h.hdr x hx
    have:=uw q1 ((q3 x.1 hx1).trans hx2)
    rw[hx3]at this;exact this
def sI(P:Program)(w0:World)(env:List AV)(ro:Option Nat)(L:Nat)(ops:Array Oper)(N N' i:Nat)(v:Value)(tmp:Nat->SV)(blk blk':Nat->Option SB):Prop:=
 ∀(κ:Nat->Value) (F U:Nat->Prop) (a:Act) (w:World) (K:Act->World->Prop) (Q:Exit->Act->World->Prop),Rel w0 env κ F U tmp blk L a w->(∀b,N<=b->b<N'->¬U b)->(∀b,ro=some b->U b) →
  (∀κ' F' w',Rel w0 env κ' F' (fun b=>U b\/(N<=b/\b<N')) tmp blk' L a w'->Kept U blk κ F w blk' κ' F' w'->Q (.panic (ij v)) a w')->wpOpIn (FR (dY κ ro)) 0 P ops Q i K a w
inductive Chain (P:Program) (w0:World) (env:List AV) (ro:Option Nat) (L:Nat) (ops:Array Oper):Nat->Nat->(Nat->SV)->(Nat->Option SB)->List Stp->Nat->(Nat->SV)->(Nat->Option SB)->Prop
 |nil (N i:Nat) (tmp:Nat->SV) (blk:Nat->Option SB):Chain P w0 env ro L ops N i tmp blk [] N tmp blk
 |cons {N N' N'' i:Nat} {tmp tmp'':Nat->SV} {blk blk'':Nat->Option SB} {s:Stp} {ss:List Stp} (h:StepSem P w0 env ro L ops N N' i s tmp blk) (r:Chain P w0 env ro L ops N' (i+1) (fP tmp s.seen.dst s.v) (aH blk s.wr) ss N'' tmp'' blk''):
  Chain P w0 env ro L ops N i tmp blk (s::ss) N'' tmp'' blk''
theorem Chain.le{ro:Option Nat}{ops:Array Oper}{N i N'':Nat}{tmp tmp'':Nat->SV}{blk blk'':Nat->Option SB}{ss:List Stp}(h:Chain P w0 env ro L ops N i tmp blk ss N'' tmp'' blk''):N<=N'':=by
 induction h with
 |nil=>exact v3 _
 |cons h _ ih=>exact Sb h.le ih
theorem Chain.ops{ro:Option Nat}{ops:Array Oper}{N i N'':Nat}{tmp tmp'':Nat->SV}{blk blk'':Nat->Option SB}{ss:List Stp}(h:Chain P w0 env ro L ops N i tmp blk ss N'' tmp'' blk''):
  ∀ {κ:Nat->Value} {F U:Nat->Prop} {a:Act} {w:World} {Q:Exit->Act->World->Prop},Rel w0 env κ F U tmp blk L a w->(∀b,N<=b->b<N''->¬U b)->(∀b,ro=some b->U b) →
   (∀κ' F' a' w',Rel w0 env κ' F' (fun b=>U b\/(N<=b/\b<N'')) tmp'' blk'' L a' w'->Kept U blk κ F w blk'' κ' F' w'->a'.defers=a.defers->Q .normal a' w')->wpOpsIn (FR (dY κ ro)) 0 P ops Q (R6 i ss.length) a w:=by
 induction h with
 |nil N i tmp blk=>intro κ F U a w Q hr _ _ hQ;exact hQ _ _ _ _ (hr.monoU (fun b hb=>.inl hb)) Kept.refl rfl
 | cons h r ih=>
  rename_i N N' N'' i tmp tmp'' blk blk'' s ss
  intro κ F U a w Q hr hU hro hQ;have hle:=h.le;have hle2:=r.le;rw[List.length_cons,RV,wpOpsIn_cons];refine h.run κ F U tmp blk a w _ Q hr (fun _ _=>rfl) (fun _ _=>rfl) (fun b h1 h2=>hU b h1 (by omega)) hro (fun x hx=>by
   obtain⟨_,e,t,l,h1,h2⟩:=h.hdr x hx;have:=uw hr h1
   rw[h2]at this;exact this) (fun κ' F' a' w' hr' k' hd'=>?_)
  rw[<-ew (κ:=κ) (κ':=κ') (ro:=ro) (fun b hb=>k'.kap b (hro b hb))]
  refine ih hr' (fun b h1 h2 hb=>?_) (fun b hb=>.inl (hro b hb)) (fun κ2 F2 a2 w2 h2 k2 d2=>hQ κ2 F2 a2 w2 (h2.monoU (fun b hb=>?_)) (k'.trans k2 (fun b hb=>.inl hb)) (d2.trans hd'))
  ·rcases hb with hb|hb
   ·exact hU b (by omega) h2 hb
   ·omega
  ·rcases hb with(hb|hb)|hb
   ·exact .inl hb
   ·exact .inr ⟨hb.1,by omega⟩
   ·exact .inr ⟨by omega,hb.2⟩
theorem yK{σ:SS}{o:Oper}{v:SV}{wr:List (Nat×Option SB)}(h:A4 σ o v wr=true)(hU:∀x∈o.op.operands,∀b∈(σ.ev x).names,U b)(hB:∀x∈o.op.operands,∀b∈(σ.ev x).names,∀y,σ.blk b=some y->∀c∈y.names,U c):
  (∀b∈v.names,U b\/b∈wr.map (·.1))/\∀x∈wr,((x.1∈bu σ.ev o/\U x.1/\x.1<σ.N)\/x.1=σ.N)/\oc x.2=true:=by
 have hft:∀b∈bu σ.ev o,U b:=fun b hb=>by
  unfold bu at hb;obtain⟨x,hx,hb⟩:=List.mem_flatMap.1 hb;exact hU x (by simpa using hx) b hb
 unfold A4 at h;simp only[v0,v4]at h;obtain⟨h1,h2⟩:=h;refine⟨fun b hb=>?_,fun x hx=>?_⟩
 ·have:=h1 b hb
  simp only[RL,Sm,decide_eq_true_eq]at this;rcases this with(h3|h3)|h3
  ·exact .inl (hft b h3)
  ·obtain⟨c,hc,hb⟩:=List.mem_flatMap.1 h3
   unfold bu at hc;obtain⟨x,hx,hc⟩:=List.mem_flatMap.1 hc;split at hb
   ·rename_i y hy
    exact .inl (hB x (by simpa using hx) c hc y hy b hb)
   ·cases hb
  ·exact .inr h3
 ·obtain⟨⟨h3,h4⟩,_⟩:=h2 x hx
  simp only[v9,v0,RL,decide_eq_true_eq,beq_iff_eq]at h3;refine⟨?_,h4⟩
  rcases h3 with h3|h3
  ·exact .inl ⟨h3.1,hft _ h3.1,h3.2⟩
  ·exact .inr h3
def cq(ops:Array Oper)(o:Oper)(tmp:Nat->SV)(env:List AV)(b:Bool):Prop:=
 match o.guard with
 |none=>b=true
 |some (j,want)=>∃d,(ops[j]?).bind (·.dst)=some d/\((∃e,tmp d=.vb e/\b=decide ((den env e).b=want))\/(tmp d=.nil/\b=false))
theorem fk{ops:Array Oper}{o:Oper}{b:Bool}(h:Rel w0 env κ F U tmp blk L a w){tmp₀:Nat->SV}(hw:cq ops o tmp₀ env b)(ht:∀t∈bo ops o,tmp t=tmp₀ t):Region.wanted o (yielded ops a.tmps)=b:=by
 unfold cq at hw;unfold Region.wanted;split at hw
 ·rename_i hg;rw[hg];exact hw.symm
 ·rename_i j want hg
  obtain⟨d,h1,⟨e,h2,rfl⟩|⟨h2,rfl⟩⟩:=hw
  rotate_left
  ·rw[hg]
   have h3:tmp d=.nil:=by rw[ht d (by unfold bo;rw[hg];refine y1 _ ?_;simp only[h1];simp),h2]
   have h4:=h.tmps d;rw[h3]at h4;have h5:∀c,a.tmps[d]?≠some (.bool c):=fun c hc=>by
    have h6:a.tmps.getD d undef=_:=h4
    obtain⟨hlt,h7⟩:=Array.getElem?_eq_some_iff.1 hc;simp[y7,hlt,h7]at h6
   have h7:yielded ops a.tmps j=none:=by
    unfold yielded;rw[h1];show(match a.tmps[d]? with|some (.bool b)=>some b|_=>none)=none
    cases hq:a.tmps[d]? with
    |none=>rfl
    |some v=>
     cases v with
     |bool c=>exact absurd hq (h5 c)
     |_=>rfl
   show(yielded ops a.tmps j==some want)=false
   rw[h7];rfl
  rw[hg];have h3:tmp d=.vb e:=by rw[ht d (by unfold bo;rw[hg];refine y1 _ ?_;simp only[h1];simp),h2]
  have h4:=h.tmps d;rw[h3]at h4;have h5:a.tmps[d]?=some (.bool (den env e).b):=by
   have h6:=h4.1;unfold y7 at h6;split at h6
   ·rename_i hlt
    rw[y0 hlt];congr 1
   ·cases h6
  simp only[yielded,h1,RZ,h5];cases(den env e).b<;>cases want<;>rfl
theorem fo{ops:Array Oper}{o:Oper}{tmp₀:Nat->SV}(ht:∀t∈bo ops o,tmp t=tmp₀ t):∀x∈o.op.operands,ai tmp x=ai tmp₀ x:=by
 intro x hx;cases x with
 |tmp t=>exact ht t (by unfold bo;refine y8 _ (List.mem_filterMap.2 ⟨.tmp t,by simpa using hx,rfl⟩))
 |_=>rfl
theorem fU{con:Nat->Bool}{own:Bool}{tr:E->Option Bool}{nm:Nat}{ev:Operand->SV}{bk:Nat->Option SB}{o:Oper}{x:Out}(h:dj P con own tr nm ev bk o=x)(hx:∀m,x≠.no m):∀c,o.op≠.defer c:=fun c hc=>by
 subst h;have e:ga P own nm ev bk o=none:=by unfold ga;rw[hc]
 unfold dj at hx;rw[e]at hx;unfold iT at hx;rw[hc]at hx;exact hx _ rfl
theorem Chain.opsP{ro:Option Nat}{ops:Array Oper}{N i N'' N3:Nat}{tmp tmp'':Nat->SV}{blk blk'' blk3:Nat->Option SB}{ss:List Stp}{v:Value}(h:Chain P w0 env ro L ops N i tmp blk ss N'' tmp'' blk'')(hp:sI P w0 env ro L ops N'' N3 (i+ss.length) v tmp'' blk'' blk3)(hN3:N''<=N3):
  ∀ {κ:Nat->Value} {F U:Nat->Prop} {a:Act} {w:World} {Q:Exit->Act->World->Prop},Rel w0 env κ F U tmp blk L a w->(∀b,N<=b->b<N3->¬U b)->(∀b,ro=some b->U b) →
   (∀κ' F' a' w',Rel w0 env κ' F' (fun b=>U b\/(N<=b/\b<N3)) tmp'' blk3 L a' w'->Kept U blk κ F w blk3 κ' F' w'->a'.defers=a.defers->Q (.panic (ij v)) a' w')->∀rest,wpOpsIn (FR (dY κ ro)) 0 P ops Q (R6 i (ss.length+1+rest)) a w:=by
 induction h with
 |nil N i tmp blk=>
  intro κ F U a w Q hr hU hro hQ rest;rw[show([]:List Stp).length+1+rest=rest+1 by simp;omega,RV,wpOpsIn_cons]
  exact hp κ F U a w _ Q hr hU hro (fun κ' F' w' r k=>hQ κ' F' a w' r k rfl)
 | cons h r ih=>
  rename_i N N' N'' i tmp tmp'' blk blk'' s ss
  intro κ F U a w Q hr hU hro hQ rest;have hle:=h.le;have hle2:=r.le;rw[show(s::ss).length+1+rest=(ss.length+1+rest)+1 by simp;omega,RV,wpOpsIn_cons]
  refine h.run κ F U tmp blk a w _ Q hr (fun _ _=>rfl) (fun _ _=>rfl) (fun b h1 h2=>hU b h1 (by omega)) hro (fun x hx=>by
   obtain⟨_,e,t,l,h1,h2⟩:=h.hdr x hx;have:=uw hr h1
   rw[h2]at this;exact this) (fun κ' F' a' w' hr' k' hd'=>?_)
  rw[<-ew (κ:=κ) (κ':=κ') (ro:=ro) (fun b hb=>k'.kap b (hro b hb))]
  refine ih (by rw[show i+1+ss.length=i+(s::ss).length by simp;omega];exact hp) hN3 hr' (fun b h1 h2 hb=>?_) (fun b hb=>.inl (hro b hb)) (fun κ2 F2 a2 w2 h2 k2 d2=>hQ κ2 F2 a2 w2 (h2.monoU (fun b hb=>?_)) (k'.trans k2 (fun b hb=>.inl hb)) (d2.trans hd')) rest
  ·rcases hb with hb|hb
   ·exact hU b (by omega) h2 hb
   ·omega
  ·rcases hb with(hb|hb)|hb
   ·exact .inl hb
   ·exact .inr ⟨hb.1,by omega⟩
   ·exact .inr ⟨by omega,hb.2⟩
theorem PH{cons:Nat->Bool}{own:Bool}{ro:Option Nat}{ops:Array Oper}{i:Nat}{o:Oper}(ho:ops[i]?=some o){σ σ₁:SS}{n:Nat}(hk:KnownOK env n σ₁.known){needs:List E}{v:SV}{wr:List (Nat×Option SB)}(hc:dj P cons own σ₁.tr σ.N σ.ev σ.blk o=.ok needs v wr)
  (hn:∀e∈needs,(den env e).b=true) (hok:A4 σ o v wr=true) (hd:∀d,o.dst=some d->d<σ.L) (hw:cq ops o σ.tmp env true):
  ku σ.N (gq σ.N wr)/\StepSem P w0 env ro σ.L ops σ.N (cE σ.N (gq σ.N wr)) i ⟨v,gq σ.N wr,{ rt:=bo ops o,rb:=bu σ.ev o,dst:=o.dst,wb:=(gq σ.N wr).map (·.1) }⟩ σ.tmp σ.blk:=by
 obtain⟨_,o2⟩:=yK (U:=fun _=>True) hok (fun _ _ _ _=>trivial) (fun _ _ _ _ _ _ _ _=>trivial)
 have key:∀(wr:List (Nat×Option SB)),(∀x∈wr,x.1<=σ.N)->ku (σ.N+1) wr/\cE (σ.N+1) wr=σ.N+1:=by
  intro wr;induction wr with
  |nil=>intro _;exact⟨trivial,rfl⟩
  |cons x wr ih=>
   intro h;have hx:=h x (v5 ..);have e:max (σ.N+1) (x.1+1)=σ.N+1:=by omega
   obtain⟨h1,h2⟩:=ih (fun y hy=>h y (v7 _ hy))
   exact⟨⟨by omega,by rw[e];exact h1⟩,by simp only[cE,e];exact h2⟩
 have hle:∀x∈wr,x.1<=σ.N:=fun x hx=>by rcases(o2 x hx).1 with h|h<;>omega
 obtain⟨k1,k2⟩:=key wr hle;have hpad:ku σ.N (gq σ.N wr)/\(wr≠[]->cE σ.N (gq σ.N wr)=σ.N+1)/\(wr=[]->cE σ.N (gq σ.N wr)=σ.N)/\(∀x∈gq σ.N wr,x∈wr\/x=(σ.N,none)):=by
  cases wr with
  |nil=>exact⟨trivial,fun h=>absurd rfl h,fun _=>rfl,fun x hx=>by cases hx⟩
  | cons y wr=>
   have e:max σ.N (σ.N+1)=σ.N+1:=by omega
   refine⟨⟨v3 _,?_⟩,fun _=>?_,(fun h=>by cases h),fun x hx=>?_⟩
   ·show ku (max σ.N (σ.N+1)) _
    rw[e];exact k1
   ·show cE (max σ.N (σ.N+1)) _=_
    rw[e];exact k2
   ·rcases List.mem_cons.1 hx with hx|hx
    ·exact .inr hx
    ·exact .inl hx
 obtain⟨p1,p2,p3,p4⟩:=hpad;obtain⟨w2,w3⟩:=Cx (gq σ.N wr) σ.N;refine⟨p1,rfl,fun b hb=>?_,w2,fun b hb=>?_,fun b h1 h2=>?_,hd,fun κ F U tmp' blk' a w K Q h ht hb hf hro _ hK=>?_,fun x hx=>(by cases hx)⟩
 ·obtain⟨x,hx,rfl⟩:=List.mem_map.1 hb
  exact w3 x hx
 ·obtain⟨x,hx,rfl⟩:=List.mem_map.1 hb
  rcases p4 x hx with h1|h1
  ·rcases(o2 x h1).1 with h2|h2
   ·exact .inl h2.1
   ·exact .inr (by omega)
  ·rw[h1];exact .inr (v3 _)
 ·by_cases hne:wr=[]
  ·rw[p3 hne]at h2;omega
  ·rw[p2 hne]at h2
   have:b=σ.N:=by omega
   subst this;cases wr with
   |nil=>exact absurd rfl hne
   |cons y wr=>exact v5 ..
 ·have hev:∀x∈o.op.operands,ai tmp' x=σ.ev x:=fun x hx=>by rw[jD];exact fo ht x hx
  have hbk:∀x∈o.op.operands,∀b∈(σ.ev x).names,blk' b=σ.blk b:=fun x hx b hb'=>hb b (by unfold bu;exact List.mem_flatMap.2 ⟨x,by simpa using hx,hb'⟩)
  have hc':dj P cons own σ₁.tr σ.N (ai tmp') blk' o=.ok needs v wr:=by rw[nD hev hbk];exact hc
  have hU:wr≠[]->¬U σ.N:=fun hne=>hf _ (v3 _) (by rw[p2 hne];omega)
  obtain⟨u,w',κ',F',hr,hrel,hv,kp⟩:=MV h (fun e b hb=>oa hk hb) hU hc' hn
  obtain⟨q1,q2⟩:=yK (U:=U) hok (fun x hx b hb=>by rw[<-hev x hx]at hb;exact h.evNames x b hb) (fun x hx b hb' y hy c hc=>by
   rw[<-hbk x hx b hb']at hy;exact(h.bnames b y hy).2 c hc)
  have hUN:∀b,(U b\/∃x∈wr,x.1=b)->(U b\/(σ.N<=b/\b<cE σ.N (gq σ.N wr))):=fun b hb=>by
   rcases hb with hb|⟨x,hx,rfl⟩
   ·exact .inl hb
   ·rcases(q2 x hx).1 with h1|h1
    ·exact .inl h1.2.1
    ·refine .inr ⟨by omega,?_⟩
     rw[p2 (fun e=>by rw[e]at hx;cases hx)];omega
  have hput:=hrel.put (dst:=o.dst) (v:=v) (u:=u) hd hv (fun b hb'=>by
   rcases q1 b hb' with h1|h1
   ·exact .inl h1
   ·obtain⟨x,hx,rfl⟩:=List.mem_map.1 h1
    exact .inr ⟨x,hx,rfl⟩)
  have hsame:aH blk' (gq σ.N wr)=aH blk' wr:=by
   cases wr with
   |nil=>rfl
   | cons y wr=>
    have:upd blk' σ.N none=blk':=by
     funext b
     by_cases e:b=σ.N
     ·subst e
      rw[au];cases hh:blk' σ.N with
      |none=>rfl
      |some y=>exact absurd (h.bnames _ y hh).1 (hU (by simp))
     ·rw[ag e]
    show aH (upd blk' σ.N none) _=_
    rw[this]
  have hgo:=hK κ' F' (a.put o.dst u) w' (by rw[hsame];exact hput.monoU hUN) (by rw[hsame];exact kp) (by cases o.dst<;>rfl)
  unfold wpOpIn;rw[ho];simp only
  rw[if_pos (fk h hw ht)];exact xw (fU hc' (fun m hm=>by cases hm)) hr hgo
theorem Mk{cons:Nat->Bool}{own:Bool}{ro:Option Nat}{ops:Array Oper}{i:Nat}{o:Oper}(ho:ops[i]?=some o){σ σ₁:SS}{needs:List E}{v:SV}{wr:List (Nat×Option SB)}{rh:List (Nat×E)}(hc:dj P cons own σ₁.tr σ.N σ.ev σ.blk o=.ok needs v wr)
  (hn:∀e∈needs,(den env e).b=true) (hl:Eb σ o v wr=some rh) (hd:∀d,o.dst=some d->d<σ.L) (hw:cq ops o σ.tmp env true):
  wr=[]/\StepSem P w0 env ro σ.L ops σ.N σ.N i ⟨v,[],{ rt:=bo ops o,rb:=[],dst:=o.dst,wb:=[],rh:=rh,fb:=bu σ.ev o }⟩ σ.tmp σ.blk:=by
 unfold Eb at hl;split at hl
 rotate_left
 ·cases hl
 refine⟨rfl,?_⟩
 split at hl
 ·
  rename_i x hop
  split at hl
  ·rename_i b c hx
   split at hl
   ·rename_i hbc
    cases hl
    have hbc:b=c:=R7 hbc
    subst hbc;refine⟨rfl,fun b hb=>(by cases hb),v3 _,fun b hb=>(by cases hb),fun b h1 h2=>(by omega),hd,fun κ F U tmp' blk' a w K Q h ht hb hf hro _ hK=>?_,fun x hx=>(by cases hx)⟩
    have hev:=fo ht x (by rw[hop];simp[Op.operands])
    rw[<-jD,hx]at hev;have hv:=h.ev x;have hnm:=h.evNames x;rw[hev]at hv hnm;have hput:=h.put (dst:=o.dst) (v:=.row b) (u:=a.eval x) hd hv hnm;have hgo:=hK κ F (a.put o.dst (a.eval x)) w (hput.monoU fun b hb=>.inl hb) Kept.refl (by cases o.dst<;>rfl)
    unfold wpOpIn;rw[ho];simp only
    rw[if_pos (fk h hw ht)];exact xw (fU hc (fun m hm=>by cases hm)) (.inl (by simp[execOp,hop])) hgo
   ·cases hl
  ·cases hl
 ·
  rename_i t x ix hop
  split at hl
  ·rename_i b c ty i' k hx
   have hxx:=hx;split at hl
   ·rename_i e ty' l hb
    split at hl
    ·rename_i hbc
     cases hl
     have hbc:b=c:=R7 hbc
     subst hbc;have hfz:bi σ.blk (frz P cons own σ.ev σ.blk o)=[]:=by unfold frz;rw[hop];rfl
     have hnod:=fU hc (fun m hm=>by cases hm)
     have hc0:∃wr0,iT P cons σ₁.tr σ.N (fun x=>nz σ.blk (σ.ev x)) σ.blk o=.ok needs (.rptr b ty i' k) wr0:=by
      have hfo:ga P own σ.N σ.ev σ.blk o=none:=by unfold ga;rw[hop]
      unfold dj at hc;rw[hfo]at hc;simp only[hfz,aH,List.foldl_nil]at hc;split at hc
      ·rename_i h0
       simp only[Out.ok.injEq]at hc;obtain⟨rfl,rfl,_⟩:=hc;exact⟨_,h0⟩
      ·cases hc
      ·exact⟨_,hc⟩
     clear hc
     obtain⟨wr0,hc⟩:=hc0;unfold iT at hc;rw[hop]at hc;simp only[hx,nz,hb]at hc;unfold iy at hc;split at hc
     rotate_left
     ·cases hc
     rename_i j hj
     have hj':σ.ev ix=.vi j:=by
      cases hh:σ.ev ix with
      |row q=>
       rw[hh]at hj;simp only[nz]at hj;split at hj<;>cases hj
      |_=>rw[hh]at hj;simp only[nz]at hj<;>first|exact hj|cases hj
     obtain⟨et,hu⟩:∃et,P.underlying t=some (.slice et):=by
      cases hu:P.underlying t with
      |none=>rw[hu]at hc;cases hc
      |some d=>cases d with
       |slice et=>exact⟨et,rfl⟩
       |_=>rw[hu]at hc;cases hc
     rw[hu]at hc;simp only[hb]at hc;split at hc
     ·rename_i e2 ty2 l2 et2 r2 hh1 hh2
      cases hh1
      split at hc
      ·rename_i hr2
       subst hr2;simp only[Out.ok.injEq,SV.rptr.injEq]at hc;obtain⟨rfl,⟨-,rfl,rfl,rfl⟩,-⟩:=hc;refine⟨rfl,fun b hb=>(by cases hb),v3 _,fun b hb=>(by cases hb),fun b h1 h2=>(by omega),hd,fun κ F U tmp' blk' a w K Q h ht hb' hf hro hsl hK=>?_,fun z hz=>?_⟩
       ·have ex:=fo ht x (by rw[hop];simp[Op.operands])
        have ei:=fo ht ix (by rw[hop];simp[Op.operands])
        rw[<-jD,hx]at ex;rw[<-jD,hj']at ei;have vx:=h.ev x;have vi:=h.ev ix;have hnm:=h.evNames x;rw[ex]at vx hnm;rw[ei]at vi;have n1:=bz (aO fun e he=>hn e (y8 _ he))
        have n2:=bz (aO fun e he=>hn e (y1 _ he))
        have n1:0<=(den env j).i:=of_decide_eq_true n1
        have n2:(den env j).i<(den env l.len').i:=of_decide_eq_true n2
        obtain⟨g,m,cp,s1,s2⟩:=hsl _ (List.mem_singleton.2 rfl) (by show 0<(den env l.len').i;omega)
        have s2:(m:Int)=(den env l.len').i:=s2
        obtain⟨u1,u2,u3,_,u5,_,_⟩:=bL hh2;have hlt:(den env j).i<(m:Int):=by omega
        have hsz:=bO (w:=w) u5;have vx1:a.eval x=.slice (some ⟨g,0,none⟩) m cp:=vx.1.trans s1
        have run:cZ P o a w (.pointer (some ((⟨g,0,none⟩:Addr).add ((den env j).i.toNat*r2.len)))) w:=.inl (by
         simp only[execOp,hop,vx1,vi.1,Instr.indexAt,asIntOf,run_underlying u1,Sem.run_bind,Sem.run_pure,Result.andThen_ok];simp[n1,hlt,hsz,u2])
        have hput:=h.put (dst:=o.dst) (v:=.rptr b r2 j 0) (u:=.pointer (some ((⟨g,0,none⟩:Addr).add ((den env j).i.toNat*r2.len)))) hd ⟨g,0,m,cp,s1,n1,hlt,rfl⟩ (fun c hc=>hnm c hc)
        have hgo:=hK κ F _ w (hput.monoU fun b hb=>.inl hb) Kept.refl (by cases o.dst<;>rfl)
        unfold wpOpIn;rw[ho];simp only
        rw[if_pos (fk h hw ht)];refine xw (fun c hc=>?_) run hgo
        rw[hop]at hc;cases hc
       ·rw[List.mem_singleton.1 hz]
        refine⟨⟨?_,rfl,rfl⟩,_,_,_,hb,rfl⟩
        unfold bu;rw[hop];exact List.mem_flatMap.2 ⟨x,by simp[Op.operands],by rw[hxx];simp[SV.names]⟩
      ·cases hc
     ·rename_i hh1 _
      cases hh1
     ·cases hc
    ·cases hl
   ·cases hl
  ·cases hl
 ·cases hl
theorem Mx{ro:Option Nat}{ops:Array Oper}{i:Nat}{o:Oper}(ho:ops[i]?=some o){σ:SS}(hd:∀d,o.dst=some d->d<σ.L)(hw:cq ops o σ.tmp env false):
  StepSem P w0 env ro σ.L ops σ.N σ.N i ⟨.nil,[],{ rt:=bo ops o,rb:=[],dst:=o.dst,wb:=[] }⟩ σ.tmp σ.blk:=by
 refine⟨rfl,fun b hb=>(by cases hb),v3 _,fun b hb=>(by cases hb),fun b h1 h2=>(by omega),hd,fun κ F U tmp' blk' a w K Q h ht hb hf hro _ hK=>?_,fun x hx=>(by cases hx)⟩
 unfold wpOpIn;rw[ho];simp only
 rw[if_neg (by rw[fk h hw ht];simp)]
 exact⟨fun _ _=>trivial,hK κ F _ w ((h.put (dst:=o.dst) (v:=.nil) (u:=undef) hd rfl (fun b hb=>by cases hb)).monoU (fun b hb=>.inl hb)) Kept.refl (by cases o.dst<;>rfl)⟩
theorem JZ:∀(sh:RS) (n m:Nat),(mkRes sh n m).2.map (·.1)=R6 m (mkRes.RS.cnt sh).2/\∀b∈(mkRes sh n m).1.names,m<=b/\b<m+(mkRes.RS.cnt sh).2:=by
 intro sh;induction sh with
 |i=>intro n m;exact⟨rfl,fun b hb=>(by cases hb)⟩
 |b=>intro n m;exact⟨rfl,fun b hb=>(by cases hb)⟩
 |r=>intro n m;exact⟨rfl,fun b hb=>(by cases hb)⟩
 | row e t=>
  intro n m;by_cases hg:given e=true
  ·simp only[mkRes,mkRes.RS.cnt,if_pos hg]
   exact⟨rfl,fun b hb=>by cases hb⟩
  ·simp only[mkRes,mkRes.RS.cnt,if_neg hg]
   exact⟨rfl,fun b hb=>by simp[SV.names]at hb;subst hb;simp⟩
 |nil=>intro n m;exact⟨rfl,fun b hb=>(by cases hb)⟩
 | cons x y ih1 ih2=>
  intro n m;obtain⟨a1,a2⟩:=ih1 n m;obtain⟨c1,c2⟩:=ih2 (n+(mkRes.RS.cnt x).1) (m+(mkRes.RS.cnt x).2);refine⟨?_,fun b hb=>?_⟩
  ·simp only[mkRes,Sn,a1,c1,mkRes.RS.cnt]
   rw[List.range'_append_1]
  ·simp only[mkRes,SV.names,Sm]at hb
   simp only[mkRes.RS.cnt];rcases hb with hb|hb
   ·have:=a2 b hb;omega
   ·have:=c2 b hb;omega
 |agg x ih=>intro n m;exact ih n m
 |tup x ih=>intro n m;exact ih n m
theorem HS:∀(l:List (Nat×Option SB)) (N c:Nat),l.map (·.1)=R6 N c->ku N l/\cE N l=N+c
 |[],N,c,h=>by
  cases c with
  |zero=>exact⟨trivial,rfl⟩
  |succ c=>simp[RV]at h
 | x::l,N,c,h=>by
  cases c with
  |zero=>simp at h
  |succ c=>
   rw[RV]at h;simp only[R9,List.cons.injEq]at h;obtain⟨h1,h2⟩:=HS l (N+1) c h.2;have e:max N (x.1+1)=N+1:=by omega
   refine⟨⟨by omega,by rw[e];exact h1⟩,?_⟩
   simp only[cE,e,h2];omega
theorem Hy:∀(l m:List (Nat×Option SB)) (N:Nat),(∀x∈l,x.1<N)->ku N m->ku N (l++m)/\cE N (l++m)=cE N m
 |[],m,N,_,h=>⟨h,rfl⟩
 |x::l,m,N,hl,h=>by
  have hx:=hl x (v5 ..);have e:max N (x.1+1)=N:=by omega
  obtain⟨h1,h2⟩:=Hy l m N (fun y hy=>hl y (v7 _ hy)) h
  exact⟨⟨by omega,by rw[e];exact h1⟩,by simp only[List.cons_append,cE,e];exact h2⟩
theorem L5{cons:Nat->Bool}{own:Bool}{ro:Option Nat}(hfit:PFit P){ops:Array Oper}{i:Nat}{o:Oper}(ho:ops[i]?=some o){σ σ₁:SS}{f:Nat}{args:E}{sh:RS}{wr:List (Nat×Option SB)}(hc:dj P cons own σ₁.tr σ.N σ.ev σ.blk o=.call f args sh wr){r:R}(hr:r.shape=sh)(hcon:Con P f (den env args).g r)
  {n:Nat} (henv:∀(j:Nat) x,r.leaves[j]?=some x->env[n+j]?=some x) (hd:∀d,o.dst=some d->d<σ.L) (hwr:∀x∈wr,x.1∈bu σ.ev o/\x.1<σ.N) (hw:cq ops o σ.tmp env true):
  ku σ.N (wr++(mkRes sh n σ.N).2)/\StepSem P w0 env ro σ.L ops σ.N (cE σ.N (wr++(mkRes sh n σ.N).2)) i ⟨(mkRes sh n σ.N).1,wr++(mkRes sh n σ.N).2,{ rt:=bo ops o,rb:=bu σ.ev o,dst:=o.dst,wb:=(wr++(mkRes sh n σ.N).2).map (·.1) }⟩ σ.tmp σ.blk:=by
 obtain⟨n1,n2⟩:=JZ sh n σ.N;obtain⟨r1,r2⟩:=HS _ _ _ n1;obtain⟨l1,l2⟩:=Hy wr (mkRes sh n σ.N).2 σ.N (fun x hx=>(hwr x hx).2) r1
 obtain⟨w2,w3⟩:=Cx (wr++(mkRes sh n σ.N).2) σ.N;have hN:cE σ.N (wr++(mkRes sh n σ.N).2)=σ.N+(mkRes.RS.cnt sh).2:=l2.trans r2
 have hmem:∀x∈(mkRes sh n σ.N).2,σ.N<=x.1/\x.1<σ.N+(mkRes.RS.cnt sh).2:=fun x hx=>by
  have:x.1∈(mkRes sh n σ.N).2.map (·.1):=List.mem_map.2 ⟨x,hx,rfl⟩
  rw[n1,Sg]at this;exact this
 refine⟨l1,rfl,fun b hb=>?_,w2,fun b hb=>?_,fun b h1 h2=>?_,hd,fun κ F U tmp' blk' a w K Q h ht hb hf hro _ hK=>?_,fun x hx=>(by cases hx)⟩
 ·obtain⟨x,hx,rfl⟩:=List.mem_map.1 hb
  exact w3 x hx
 ·obtain⟨x,hx,rfl⟩:=List.mem_map.1 hb
  rcases List.mem_append.1 hx with hx|hx
  ·exact .inl (hwr x hx).1
  ·exact .inr (hmem x hx).1
 ·rw[hN]at h2
  show b∈(wr++(mkRes sh n σ.N).2).map (·.1)
  rw[Sn,n1];exact y1 _ (List.mem_range'_1.2 ⟨h1,h2⟩)
 ·have hev:∀x∈o.op.operands,ai tmp' x=σ.ev x:=fun x hx=>by rw[jD];exact fo ht x hx
  have hbk:∀x∈o.op.operands,∀b∈(σ.ev x).names,blk' b=σ.blk b:=fun x hx b hb'=>hb b (by unfold bu;exact List.mem_flatMap.2 ⟨x,by simpa using hx,hb'⟩)
  have hc':dj P cons own σ₁.tr σ.N (ai tmp') blk' o=.call f args sh wr:=by rw[nD hev hbk];exact hc
  obtain⟨vs,hrun,hnd,hcall⟩:=Lj hfit h hc' hr hcon (nm:=σ.N) henv (fun b h1 h2=>hf b h1 (by rw[hN];exact h2))
  unfold wpOpIn;rw[ho];simp only
  rw[if_pos (fk h hw ht)];refine zO hnd hrun hcall ?_
  rintro e w' ⟨u,κ',F',rfl,hrel,hv,kp⟩;refine⟨u,rfl,hK κ' F' _ w' ?_ kp (by cases o.dst<;>rfl)⟩
  have hput:=hrel.put (dst:=o.dst) (v:=(mkRes sh n σ.N).1) (u:=u) hd hv (fun b hb'=>by
   right
   have:b∈(mkRes sh n σ.N).2.map (·.1):=by rw[n1,Sg];exact n2 b hb'
   obtain⟨x,hx,rfl⟩:=List.mem_map.1 this;exact⟨x,y1 _ hx,rfl⟩)
  refine hput.monoU (fun b hb'=>?_)
  rcases hb' with h1|⟨x,hx,rfl⟩
  ·exact .inl h1
  ·rcases List.mem_append.1 hx with hx|hx
   ·left
    have:=(hwr x hx).1
    unfold bu at this;obtain⟨y,hy,hb⟩:=List.mem_flatMap.1 this;rw[<-hev y (by simpa using hy)]at hb
    exact h.evNames y _ hb
   ·exact .inr ⟨(hmem x hx).1,by rw[hN];exact(hmem x hx).2⟩
def ey(S:Nat->Bool):Nat->List Stp->(Nat->SV)->(Nat->SV)
 |_,[],t=>t
 |i,s::ss,t=>ey S (i+1) ss (if S i then fP t s.seen.dst s.v else t)
def db(S:Nat->Bool):Nat->List Stp->(Nat->Option SB)->(Nat->Option SB)
 |_,[],t=>t
 |i,s::ss,t=>db S (i+1) ss (if S i then aH t s.wr else t)
theorem K3{f:Nat->SV}{d:Option Nat}{x:SV}{t:Nat}(h:d≠some t):fP f d x t=f t:=by
 cases d with
 |none=>rfl
 |some d=>exact ag (fun e=>h (by rw[e]))
theorem FU{f:Nat->SV}{d:Nat}{x:SV}:fP f (some d) x d=x:=au f d x
theorem gw(l:List (Nat×Option SB)):∀(f g:Nat->Option SB) (b:Nat),(b∈l.map (·.1)->aH f l b=aH g l b)/\(b∉l.map (·.1)->aH f l b=f b):=by
 induction l with
 |nil=>intro f g b;exact⟨fun h=>(by cases h),fun _=>rfl⟩
 | cons y l ih=>
  intro f g b;refine⟨fun h=>?_,fun h=>?_⟩
  ·show aH (upd f y.1 y.2) l b=aH (upd g y.1 y.2) l b
   by_cases hb:b∈l.map (·.1)
   ·exact(ih _ _ b).1 hb
   ·have hy:b=y.1:=by
     rcases List.mem_cons.1 h with h|h
     ·exact h
     ·exact absurd h hb
    rw[(ih _ g b).2 hb,(ih _ g b).2 hb,hy,au,au]
  ·show aH (upd f y.1 y.2) l b=f b
   rw[(ih _ g b).2 (fun hb=>h (v7 _ hb)),ag (fun e=>h (by rw[e];exact v5 ..))]
theorem vp{S S':Nat->Bool}{t:Nat}:∀(ss:List Stp) (i:Nat) (f g:Nat->SV),f t=g t->(∀(j:Nat) s,ss[j]?=some s->s.seen.dst=some t->S (i+j)=S' (i+j))->ey S i ss f t=ey S' i ss g t
 |[],_,f,g,h,_=>h
 | s::ss,i,f,g,h,hs=>by
  refine vp ss (i+1) _ _ ?_ (fun j s' h1 h2=>by have:=hs (j+1) s' (by simpa using h1) h2;rw[show i+(j+1)=i+1+j by omega]at this;exact this)
  by_cases hd:s.seen.dst=some t
  ·have:=hs 0 s rfl hd
   rw[RQ]at this;rw[this];split
   ·rw[hd,FU,FU]
   ·exact h
  ·split<;>split<;>simp only[K3 hd,h]
theorem vn{S S':Nat->Bool}{b:Nat}:∀(ss:List Stp) (i:Nat) (f g:Nat->Option SB),f b=g b->(∀(j:Nat) s,ss[j]?=some s->b∈s.wr.map (·.1)->S (i+j)=S' (i+j))->db S i ss f b=db S' i ss g b
 |[],_,f,g,h,_=>h
 | s::ss,i,f,g,h,hs=>by
  refine vn ss (i+1) _ _ ?_ (fun j s' h1 h2=>by have:=hs (j+1) s' (by simpa using h1) h2;rw[show i+(j+1)=i+1+j by omega]at this;exact this)
  by_cases hd:b∈s.wr.map (·.1)
  ·have:=hs 0 s rfl hd
   rw[RQ]at this;rw[this];split
   ·exact(gw s.wr f g b).1 hd
   ·exact h
  ·split<;>split<;>simp only[(gw s.wr _ f b).2 hd,h]
theorem FO{S:Nat->Bool}{k:Nat}{sk:Stp}:∀(ss:List Stp) (i:Nat) (f:Nat->SV),i<=k->ss[k-i]?=some sk->S k=false->(∀(j:Nat) s,ss[j]?=some s->i+j≠k->s.seen.dst=none\/s.seen.dst≠sk.seen.dst) →
  ey (fun j=>S j||decide (j=k)) i ss f=fP (ey S i ss f) sk.seen.dst sk.v
 |[],i,f,hi,hk,_,_=>by simp at hk
 | s :: ss,i,f,hi,hk,hS,hd=>by
  by_cases hik:i=k
  ·subst hik
   simp at hk;subst hk
   simp only[ey,hS,decide_true,Bool.or_true,if_true,RX,if_false];have key:∀(ss:List Stp) (i':Nat) (f:Nat->SV),i<i'->(∀(j:Nat) s',ss[j]?=some s'->s'.seen.dst=none\/s'.seen.dst≠s.seen.dst) →
     ey (fun j=>S j||decide (j=i)) i' ss (fP f s.seen.dst s.v)=fP (ey S i' ss f) s.seen.dst s.v:=by
    intro ss;induction ss with
    |nil=>intro i' f _ _;rfl
    | cons x ss ih=>
     intro i' f hi' hx;simp only[ey];have e:decide (i'=i)=false:=by simp;omega
     simp only[e,RW];have hx0:=hx 0 x rfl;have comm:fP (fP f s.seen.dst s.v) x.seen.dst x.v=fP (fP f x.seen.dst x.v) s.seen.dst s.v:=by
      funext t
      cases hxd:x.seen.dst with
      |none=>rfl
      | some d=>
       cases hsd:s.seen.dst with
       |none=>rfl
       | some e=>
        have hne:d≠e:=by
         rcases hx0 with h|h
         ·rw[hxd]at h;cases h
         ·rw[hxd,hsd]at h;exact fun hh=>h (by rw[hh])
        simp only[fP,upd];by_cases h1:t=d<;>by_cases h2:t=e<;>simp[h1,h2]
        ·exact absurd (h1▸h2) hne
        ·exact fun hh=>absurd hh hne
        ·exact fun hh=>absurd hh.symm hne
     split
     ·rw[comm];exact ih (i'+1) _ (by omega) (fun j s' h=>hx (j+1) s' (by simpa using h))
     ·exact ih (i'+1) _ (by omega) (fun j s' h=>hx (j+1) s' (by simpa using h))
   exact key ss (i+1) f (by omega) (fun j s' h=>hd (j+1) s' (by simpa using h) (by omega))
  ·simp only[ey]
   have e:decide (i=k)=false:=by simp[hik]
   simp only[e,RW];exact FO ss (i+1) _ (by omega) (by rw[show k-i=(k-(i+1))+1 by omega]at hk;simpa using hk) hS (fun j s h1 h2=>hd (j+1) s (by simpa using h1) (by omega))
theorem Fy{S:Nat->Bool}{k:Nat}{sk:Stp}:∀(ss:List Stp) (i:Nat) (f:Nat->Option SB),i<=k->ss[k-i]?=some sk->S k=false->(∀(j:Nat) s,ss[j]?=some s->k<i+j->S (i+j)=true->∀b∈sk.wr.map (·.1),b∉s.wr.map (·.1)) →
  db (fun j=>S j||decide (j=k)) i ss f=aH (db S i ss f) sk.wr
 |[],i,f,hi,hk,_,_=>by simp at hk
 | s :: ss,i,f,hi,hk,hS,hd=>by
  by_cases hik:i=k
  ·subst hik
   simp at hk;subst hk
   simp only[db,hS,decide_true,Bool.or_true,if_true,RX,if_false];have key:∀(ss:List Stp) (i':Nat) (f g:Nat->Option SB),i<i'->(∀b,g b=aH f s.wr b)->(∀(j:Nat) s',ss[j]?=some s'->S (i'+j)=true->∀b∈s.wr.map (·.1),b∉s'.wr.map (·.1)) →
     ∀b,db (fun j=>S j||decide (j=i)) i' ss g b=aH (db S i' ss f) s.wr b:=by
    intro ss;induction ss with
    |nil=>intro i' f g _ h _;exact h
    | cons x ss ih=>
     intro i' f g hi' h hx;simp only[db];have e:decide (i'=i)=false:=by simp;omega
     simp only[e,RW];refine ih (i'+1) _ _ (by omega) (fun b=>?_) (fun j s' h1 h2=>hx (j+1) s' (by simpa using h1) (by rw[show i'+(j+1)=i'+1+j by omega];exact h2))
     split
     ·rename_i hSi
      have hx0:=hx 0 x rfl (by rw[RQ];exact hSi)
      by_cases hb:b∈s.wr.map (·.1)
      ·rw[(gw x.wr g g b).2 (hx0 b hb),h b]
       exact(gw s.wr f _ b).1 hb
      ·rw[(gw s.wr _ f b).2 hb]
       by_cases hb2:b∈x.wr.map (·.1)
       ·exact(gw x.wr g f b).1 hb2
       ·rw[(gw x.wr g f b).2 hb2,(gw x.wr f f b).2 hb2,h b,(gw s.wr f f b).2 hb]
     ·exact h b
   funext b
   exact key ss (i+1) f _ (by omega) (fun _=>rfl) (fun j s' h1 h2=>hd (j+1) s' (by simpa using h1) (by omega) (by rw[show i+(j+1)=i+1+j by omega];exact h2)) b
  ·simp only[db]
   have e:decide (i=k)=false:=by simp[hik]
   simp only[e,RW];exact Fy ss (i+1) _ (by omega) (by rw[show k-i=(k-(i+1))+1 by omega]at hk;simpa using hk) hS (fun j s h1 h2 h3=>hd (j+1) s (by simpa using h1) (by omega) (by rw[show i+(j+1)=i+1+j by omega];exact h3))
theorem Mu{acc:List Nat}{o:Oper}{i:Nat}(h:(Ch acc o).testBit i=true):∃e∈o.after.toList,Region.binds .any e=true/\(e.on=i\/(acc.getD e.on 0).testBit i=true):=by
 unfold Ch at h;have key:∀(l:List Edge) (s:Nat),(l.foldl (fun s e=>if Region.binds .any e then s ||| 2 ^ e.on ||| acc.getD e.on 0 else s) s).testBit i=true->s.testBit i=true\/∃e∈l,Region.binds .any e=true/\(e.on=i\/(acc.getD e.on 0).testBit i=true):=by
  intro l;induction l with
  |nil=>intro s h;exact .inl h
  | cons e l ih=>
   intro s h;rw[List.foldl_cons]at h;rcases ih _ h with h1|⟨e',he,h1⟩
   ·split at h1
    ·rename_i hb
     rw[Sq,Sq,v9,v9]at h1;rcases h1 with(h1|h1)|h1
     ·exact .inl h1
     ·exact .inr ⟨e,v5 ..,hb,.inl (by rw[Nat.testBit_two_pow]at h1;simpa using h1)⟩
     ·exact .inr ⟨e,v5 ..,hb,.inr h1⟩
    ·exact .inl h1
   ·exact .inr ⟨e',v7 _ he,h1⟩
 rcases key _ 0 h with h1|h1
 ·simp at h1
 ·exact h1
theorem F0:∀(os:List Oper) (acc:List Nat) (j:Nat),j<acc.length->(dv os acc).getD j 0=acc.getD j 0
 |[],acc,j,h=>rfl
 |o::os,acc,j,h=>by
  rw[dv,F0 os _ j (by simp;omega)]
  simp[RU,y2 h]
theorem DC:∀(os:List Oper) (acc:List Nat) (j:Nat) (o:Oper),os[j]?=some o->(dv os acc).getD (acc.length+j) 0=Ch ((dv os acc).take (acc.length+j)) o
 |[],acc,j,o,h=>by simp at h
 | x::os,acc,0,o,h=>by
  simp at h;subst h
  have hlen:∀(os:List Oper) (acc:List Nat),(dv os acc).take acc.length=acc:=by
   intro os;induction os with
   |nil=>intro acc;simp[dv]
   |cons y os ih=>
    intro acc;rw[dv];have:=ih (acc++[Ch acc y])
    have h2:=congrArg (List.take acc.length) this;rw[List.take_take]at h2;simpa using h2
  rw[RQ,hlen];rw[dv,F0 os _ _ (by simp)]
  simp[RU]
 |x::os,acc,j+1,o,h=>by
  have:=DC os (acc++[Ch acc x]) j o (by simpa using h)
  rw[dv];rw[show(acc++[Ch acc x]).length+j=acc.length+(j+1) by simp;omega]at this
  exact this
def M6(ops:Array Oper)(S:Nat->Bool):Prop:=∀j o,ops[j]?=some o->S j=true->∀e∈o.after.toList,Region.binds .any e=true->S e.on=true
theorem vj{ops:Array Oper}{S:Nat->Bool}(hS:M6 ops S){i:Nat}:∀(j:Nat) (o:Oper),ops[j]?=some o->(∀e∈o.after.toList,Region.binds .any e=true->S e.on=true)->((dv ops.toList []).getD j 0).testBit i=true->S i=true:=by
 intro j;induction j using So with
 | _ j ih=>
  intro o ho he hm;have h1:=DC ops.toList [] j o (by simpa using ho)
  simp only[List.length_nil,y3]at h1;rw[h1]at hm;obtain⟨e,h2,h3,h4⟩:=Mu hm;rcases h4 with h4|h4
  ·rw[<-h4];exact he e h2 h3
  ·have hlt:e.on<j:=by
    rcases Sa e.on j with h|h
    ·exact h
    ·rw[RU,R1 (by simp;omega)]at h4;simp at h4
   have h5:((dv ops.toList []).getD e.on 0).testBit i=true:=by
    rw[RU,Sc,if_pos hlt]at h4;exact h4
   have hse:=he e h2 h3;cases hoe:ops[e.on]? with
   |some o'=>exact ih e.on hlt o' hoe (hS e.on o' hoe hse) h5
   |none=>
    have hl:ops.size<=e.on:=Array.getElem?_eq_none_iff.1 hoe
    have hjl:j<ops.size:=(Array.getElem?_eq_some_iff.1 ho).1
    omega
theorem Chain.get{ro:Option Nat}{ops:Array Oper}{N i N'':Nat}{tmp tmp'':Nat->SV}{blk blk'':Nat->Option SB}{ss:List Stp}(h:Chain P w0 env ro L ops N i tmp blk ss N'' tmp'' blk''):
  N<=N''/\tmp''=ey (fun _=>true) i ss tmp/\blk''=db (fun _=>true) i ss blk/\∀(j:Nat) s,ss[j]?=some s->∃Nj Nj',StepSem P w0 env ro L ops Nj Nj' (i+j) s (ey (fun k=>decide (k<i+j)) i ss tmp) (db (fun k=>decide (k<i+j)) i ss blk)/\N<=Nj/\Nj'<=N'' ∧
   (∀(k:Nat) s',k<j->ss[k]?=some s'->∀b∈s'.seen.wb,b<Nj):=by
 induction h with
 |nil N i tmp blk=>exact⟨v3 _,rfl,rfl,fun j s hs=>by simp at hs⟩
 | cons h r ih=>
  rename_i N N' N'' i tmp tmp'' blk blk'' s ss
  obtain⟨h1,h2,h3,h4⟩:=ih;have hle:=h.le;have pre:∀(ss:List Stp) (i0 i:Nat) (f:Nat->SV),i0<=i->ey (fun k=>decide (k<i0)) i ss f=f:=by
   intro ss;induction ss with
   |nil=>intro i0 i f _;rfl
   |cons x ss ih=>intro i0 i f hi;simp only[ey];rw[if_neg (by simp;omega)];exact ih _ _ _ (by omega)
  have preB:∀(ss:List Stp) (i0 i:Nat) (f:Nat->Option SB),i0<=i->db (fun k=>decide (k<i0)) i ss f=f:=by
   intro ss;induction ss with
   |nil=>intro i0 i f _;rfl
   |cons x ss ih=>intro i0 i f hi;simp only[db];rw[if_neg (by simp;omega)];exact ih _ _ _ (by omega)
  refine⟨by omega,by rw[h2];rfl,by rw[h3];rfl,fun j x hx=>?_⟩
  cases j with
  |zero=>
   simp at hx;subst hx
   refine⟨N,N',?_,v3 _,h1,fun k s' hk=>by omega⟩
   rw[RQ,pre _ _ _ _ (v3 _),preB _ _ _ _ (v3 _)];exact h
  | succ j=>
   obtain⟨Nj,Nj',g1,g2,g3,g4⟩:=h4 j x (by simpa using hx)
   refine⟨Nj,Nj',?_,by omega,g3,fun k s' hk hs=>?_⟩
   ·simp only[ey,db]
    rw[if_pos (by simp),if_pos (by simp),show i+(j+1)=i+1+j by omega]
    exact g1
   ·cases k with
    |zero=>simp at hs;subst hs;intro b hb;have:=h.lt b hb;omega
    |succ k=>exact g4 k s' (by omega) (by simpa using hs)
theorem qw{ms:List Nat}{l:List Seen}(h:oL ms l=true){i j:Nat}{x y:Seen}(hij:i<j)(hx:l[i]?=some x)(hy:l[j]?=some y):(x.dst=none\/x.dst≠y.dst)/\((ms.getD j 0).testBit i=true\/x.apart y=true):=by
 unfold oL at h;rw[v4]at h;have h1:=h (y,j) (by rw[RR];exact hy)
 simp only at h1
 rw[v4]at h1;have h2:=h1 (x,i) (by rw[RR];exact hx)
 simp only[v9,RP,decide_eq_false_iff_not,v0,Option.isNone_iff_eq_none,bne_iff_ne,ne_eq]at h2;rcases h2 with h2|h2
 ·exact absurd hij h2
 ·exact h2
theorem kM{x y:Seen}(h:x.apart y=true):(∀d,x.dst=some d->d∉y.rt)/\(∀d,y.dst=some d->d∉x.rt)/\(∀b∈x.wb,b∉y.rb/\b∉y.wb)/\∀b∈x.rb,b∉y.wb:=by
 unfold Seen.apart at h;simp only[v0,v4,RP,RL,decide_eq_false_iff_not]at h;obtain⟨⟨⟨h1,h2⟩,h3⟩,h4⟩:=h;refine⟨fun d hd=>?_,fun d hd=>?_,fun b hb=>h3 b hb,fun b hb=>h4 b hb⟩
 ·rw[hd]at h1;simpa using h1
 ·rw[hd]at h2;simpa using h2
theorem L7{S:Nat->Bool}{i:Nat}(hS:S i=false):∀n,i<n->((RJ n).filter (fun k=> !(S k||decide (k=i)))).length+1=((RJ n).filter (fun k=> !S k)).length:=by
 intro n;induction n with
 |zero=>intro h;omega
 | succ n ih=>
  intro h;rw[List.range_succ,Sd,Sd,R4,R4];by_cases hin:i=n
  ·subst hin
   have:(RJ i).filter (fun k=> !(S k||decide (k=i)))=(RJ i).filter (fun k=> !S k):=List.filter_congr (fun k hk=>by
    have:k≠i:=by have:=List.mem_range.1 hk;omega
    simp[this])
   rw[this];simp[hS]
  ·have:=ih (by omega)
   have e:(decide (n=i))=false:=by simp;omega
   simp only[List.filter_cons,List.filter_nil,e,RW];omega
def aM(listed:Array Bool)(k:Nat):Bool:=listed.getD k false
theorem Dv{ops:Array Oper}{listed:Array Bool}(hl:listed.size=ops.size){i:Nat}(h:i∈Region.ready .any ops listed):i<ops.size/\aM listed i=false/\∃o,ops[i]?=some o/\∀e∈o.after.toList,Region.binds .any e=true->aM listed e.on=true:=by
 unfold Region.ready at h;rw[R2]at h;obtain⟨h1,h2⟩:=h;have hi:=List.mem_range.1 h1;rw[v0]at h2;refine⟨hi,?_,ops[i],y0 hi,fun e he hb=>?_⟩
 ·have h3:=h2.1
  unfold aM;unfold y7 at h3⊢
  rw[dif_pos (by omega)]at h3⊢
  simpa using h3
 ·have h3:=h2.2
  rw[y0 hi]at h3;simp only[R5,RM]at h3;rw[Sf]at h3;have:=h3 e (by simpa using he)
  rw[hb]at this;simpa[aM]using this
theorem Mi{ops:Array Oper}{listed:Array Bool}(hl:listed.size=ops.size)(hE:jq ops.toList=true)(h:Region.ready .any ops listed=[]):∀k,k<ops.size->aM listed k=true:=by
 intro k;induction k using So with
 | _ k ih=>
  intro hk;cases hd:aM listed k with
  |true=>rfl
  | false=>
   exfalso
   have hmem:k∈Region.ready .any ops listed:=by
    unfold Region.ready;rw[R2];refine⟨List.mem_range.2 hk,?_⟩
    rw[v0];refine⟨?_,?_⟩
    ·unfold aM at hd
     unfold y7 at hd⊢
     rw[dif_pos (by omega)]at hd⊢
     simp;exact hd
    ·rw[y0 hk]
     simp only[R5,RM];rw[Sf];intro e he;unfold jq at hE;rw[v4]at hE;have h1:=hE (ops[k],k) (by rw[RR];simp[hk])
     simp only at h1
     rw[v4]at h1;have h2:=h1 e (by simpa using he)
     cases hb:Region.binds .any e with
     |false=>simp
     |true=>
      rw[hb]at h2;have h3:e.on<k:=by simpa using h2
      have:=ih e.on h3 (by omega)
      simpa[aM]using this
   rw[h]at hmem;cases hmem
theorem Chain.draw{ro:Option Nat}{ops:Array Oper}{Q:Exit->Act->World->Prop}{N N'':Nat}{tmp'':Nat->SV}{blk'':Nat->Option SB}{ss:List Stp}(h:Chain P w0 env ro L ops N 0 tmp blk ss N'' tmp'' blk''){κ₀:Nat->Value}{F₀ U₀:Nat->Prop}{wI:World}{dI:List Deferred}(hU0:∀b,N<=b->b<N''->¬U₀ b)(hro:∀b,ro=some b->U₀ b)(hlen:ss.length<=ops.size)(hlast:∀i,ss.length<=i->i<ops.size->(∀j,j<ss.length->((dv ops.toList []).getD i 0).testBit j=true)/\∀(κ:Nat->Value) (F:Nat->Prop) (a:Act) (w:World) (K:Act->World->Prop),Rel w0 env κ F (fun b=>U₀ b\/(N<=b/\b<N'')) tmp'' blk'' L a w->Kept U₀ blk κ₀ F₀ wI blk'' κ F w->a.defers=dI->wpOpIn (FR (dY κ₀ ro)) 0 P ops Q i K a w)(hind:oL (dv ops.toList []) (ss.map (·.seen))=true)(hE:jq ops.toList=true)(hsl:∀(j:Nat) s,ss[j]?=some s->∀x∈s.seen.rh,U₀ x.1/\K5 κ₀ env x)
  (hQ:ss.length=ops.size->∀κ F a w,Rel w0 env κ F (fun b=>U₀ b\/(N<=b/\b<N'')) tmp'' blk'' L a w->Kept U₀ blk κ₀ F₀ wI blk'' κ F w->a.defers=dI->Q .normal a w):∀(fuel:Nat) (listed:Array Bool) {κ:Nat->Value} {F:Nat->Prop} {a:Act} {w:World},listed.size=ops.size->M6 ops (aM listed) →
  ((RJ ops.size).filter (fun k=> !aM listed k)).length<=fuel →
  (∀k,ss.length<=k->k<ops.size->aM listed k=false) →
  Rel w0 env κ F (fun b=>U₀ b\/∃(j:Nat) (s:Stp),aM listed j=true/\ss[j]?=some s/\b∈s.seen.wb/\N<=b) (ey (aM listed) 0 ss tmp) (db (aM listed) 0 ss blk) L a w->Kept U₀ blk κ₀ F₀ wI (db (aM listed) 0 ss blk) κ F w->a.defers=dI->wpAnyIn (FR (dY κ₀ ro)) 0 P .any ops Q fuel listed a w:=by
 obtain⟨hN,ht,hb,hget⟩:=h.get;have hmid:∀(listed:Array Bool) {κ:Nat->Value} {F:Nat->Prop} {a:Act} {w:World},(∀k,k<ss.length->aM listed k=true) →
   Rel w0 env κ F (fun b=>U₀ b\/∃(j:Nat) (s:Stp),aM listed j=true/\ss[j]?=some s/\b∈s.seen.wb/\N<=b) (ey (aM listed) 0 ss tmp) (db (aM listed) 0 ss blk) L a w->Kept U₀ blk κ₀ F₀ wI (db (aM listed) 0 ss blk) κ F w →
   Rel w0 env κ F (fun b=>U₀ b\/(N<=b/\b<N'')) tmp'' blk'' L a w/\Kept U₀ blk κ₀ F₀ wI blk'' κ F w:=by
  intro listed κ F a w hd hr hk;have e1:ey (aM listed) 0 ss tmp=tmp'':=by
   rw[ht];funext t
   refine vp ss 0 _ _ rfl (fun j s hs _=>?_)
   rw[hd (0+j) (by have:=(List.getElem?_eq_some_iff.1 hs).1;omega)]
  have e2:db (aM listed) 0 ss blk=blk'':=by
   rw[hb];funext t
   refine vn ss 0 _ _ rfl (fun j s hs _=>?_)
   rw[hd (0+j) (by have:=(List.getElem?_eq_some_iff.1 hs).1;omega)]
  rw[e1,e2]at hr;rw[e2]at hk;refine⟨hr.monoU (fun b hb=>?_),hk⟩
  rcases hb with hb|⟨j,s,_,hs,hb,hbN⟩
  ·exact .inl hb
  ·right
   obtain⟨Nj,Nj',g1,_,g3,_⟩:=hget j s hs;have:=g1.lt b hb
   omega
 have hall:∀(listed:Array Bool) {κ:Nat->Value} {F:Nat->Prop} {a:Act} {w:World},(∀k,k<ops.size->aM listed k=true)->(∀k,ss.length<=k->k<ops.size->aM listed k=false) →
   Rel w0 env κ F (fun b=>U₀ b\/∃(j:Nat) (s:Stp),aM listed j=true/\ss[j]?=some s/\b∈s.seen.wb/\N<=b) (ey (aM listed) 0 ss tmp) (db (aM listed) 0 ss blk) L a w->Kept U₀ blk κ₀ F₀ wI (db (aM listed) 0 ss blk) κ F w->a.defers=dI->Q .normal a w:=by
  intro listed κ F a w hd hout hr hk hdf;have hq:ss.length=ops.size:=by
   rcases Sa ss.length ops.size with h|h
   ·have:=hd ss.length h
    rw[hout _ (v3 _) h]at this;cases this
   ·omega
  obtain⟨r1,k1⟩:=hmid listed (fun k hk=>hd k (by omega)) hr hk
  exact hQ hq κ F a w r1 k1 hdf
 intro fuel;induction fuel with
 | zero=>
  intro listed κ F a w hl hcl hcnt hout hr hk hdf;have hd:∀k,k<ops.size->aM listed k=true:=fun k hk=>by
   cases hd:aM listed k with
   |true=>rfl
   |false=>
    have:k∈(RJ ops.size).filter (fun k=> !aM listed k):=by rw[R2];exact⟨List.mem_range.2 hk,by simp[hd]⟩
    have:=List.length_pos_of_mem this
    omega
  refine⟨?_,hall listed hd hout hr hk hdf⟩
  refine List.eq_nil_iff_forall_not_mem.2 (fun i hi=>?_)
  obtain⟨h1,h2,_⟩:=Dv hl hi;rw[hd i h1]at h2;cases h2
 | succ fuel ih=>
  intro listed κ F a w hl hcl hcnt hout hr hk hdf;refine⟨fun hnil=>hall listed (Mi hl hE hnil) hout hr hk hdf,fun i hi=>?_⟩
  obtain⟨h1,h2,o,ho,hedges⟩:=Dv hl hi;by_cases hil:ss.length<=i
  ·obtain⟨m1,m2⟩:=hlast i hil h1
   obtain⟨r1,k1⟩:=hmid listed (fun j hj=>vj hcl i o ho hedges (m1 j hj)) hr hk
   exact m2 κ F a w _ r1 k1 hdf
  obtain⟨s,hs⟩:∃s,ss[i]?=some s:=⟨_,RN (by omega)⟩
  obtain⟨Ni,Ni',g1,g2,g3,g4⟩:=hget i s hs;rw[y3]at g1;have hmap:∀(j:Nat) s',ss[j]?=some s'->(ss.map (·.seen))[j]?=some s'.seen:=fun j s' hj=>by rw[y9,hj];rfl
  have before:∀(j:Nat) (s':Stp),j<i->ss[j]?=some s'->s'.seen.apart s.seen=true\/aM listed j=true:=fun j s' hji hj=>by
   rcases(qw hind hji (hmap j s' hj) (hmap i s hs)).2 with hm|hm
   ·exact .inr (vj hcl i o ho hedges hm)
   ·exact .inl hm
  have after:∀(j:Nat) (s':Stp),i<j->ss[j]?=some s'->aM listed j=true->s.seen.apart s'.seen=true:=fun j s' hij hj hd=>by
   rcases(qw hind hij (hmap i s hs) (hmap j s' hj)).2 with hm|hm
   ·have hjl:j<ops.size:=by have:=(List.getElem?_eq_some_iff.1 hj).1;omega
    have:=vj hcl j ops[j] (y0 hjl) (fun e he hb=>hcl j _ (y0 hjl) hd e he hb) hm
    rw[h2]at this;cases this
   ·exact hm
  rw[<-ew (κ:=κ₀) (κ':=κ) (ro:=ro) (fun b hb=>hk.kap b (hro b hb))]
  refine g1.run κ F _ _ _ a w _ Q hr (fun t ht'=>?_) (fun b hb'=>?_) (fun b hb1 hb2 hU=>?_) (fun b hb=>.inl (hro b hb)) (fun x hx=>by
   obtain⟨h1,h2⟩:=hsl i s hs x hx;intro h0;rw[hk.kap _ h1];exact h2 h0) (fun κ' F' a' w' hr' hk' hdf'=>?_)
  ·refine vp ss 0 _ _ rfl (fun j s' hj hd=>?_)
   rw[y3];rcases RY j i with hlt|heq|hgt
   ·rw[decide_eq_true hlt]
    rcases before j s' hlt hj with hm|hm
    ·exact absurd ht' ((kM hm).1 t hd)
    ·exact hm
   ·subst heq;rw[h2];simp
   ·rw[decide_eq_false (by omega)]
    cases hdj:aM listed j with
    |false=>rfl
    |true=>exact absurd ht' ((kM (after j s' hgt hj hdj)).2.1 t hd)
  ·refine vn ss 0 _ _ rfl (fun j s' hj hd=>?_)
   rw[y3];have hwb:b∈s'.seen.wb:=by
    obtain⟨Nj,Nj',q1,_⟩:=hget j s' hj;rw[q1.wb];exact hd
   rcases RY j i with hlt|heq|hgt
   ·rw[decide_eq_true hlt]
    rcases before j s' hlt hj with hm|hm
    ·exact absurd hb' ((kM hm).2.2.1 b hwb).1
    ·exact hm
   ·subst heq;rw[h2];simp
   ·rw[decide_eq_false (by omega)]
    cases hdj:aM listed j with
    |false=>rfl
    |true=>exact absurd hwb ((kM (after j s' hgt hj hdj)).2.2.2 b hb')
  ·rcases hU with hU|⟨j,s',hd,hj,hwb,_⟩
   ·exact hU0 b (by omega) (by omega) hU
   ·rcases RY j i with hlt|heq|hgt
    ·have:=g4 j s' hlt hj b hwb;omega
    ·subst heq;rw[h2]at hd;cases hd
    ·obtain⟨Nj,Nj',q1,_,_,q4⟩:=hget j s' hj
     have hwi:=g1.all b hb1 hb2;have hlt:=q4 i s hgt hs b hwi;rcases q1.foot b hwb with hf|hf
     ·exact((kM (after j s' hgt hj hd)).2.2.1 b hwi).1 hf
     ·omega
  ·have hset:∀k,aM (listed.setIfInBounds i true) k=(aM listed k||decide (k=i)):=fun k=>by
    unfold aM;by_cases hk:k=i
    ·subst hk;simp[y7,hl,h1]
    ·by_cases hk2:k<listed.size
     ·simp[y7,hk2,hk,Array.getElem_setIfInBounds,Ne.symm hk]
     ·simp[y7,hk2,hk]
   have hfun:aM (listed.setIfInBounds i true)=fun k=>aM listed k||decide (k=i):=funext hset
   have hfB:db (fun k=>aM listed k||decide (k=i)) 0 ss blk=aH (db (aM listed) 0 ss blk) s.wr:=
    Fy ss 0 blk (Nat.zero_le _) (by simpa using hs) h2 (fun j s' hj hlt hd b hb1 hb2=>by
     rw[y3]at hlt hd;obtain⟨Nj,Nj',q1,_⟩:=hget j s' hj;exact((kM (after j s' hlt hj hd)).2.2.1 b (by rw[g1.wb];exact hb1)).2 (by rw[q1.wb];exact hb2))
   rw[ew (κ:=κ₀) (κ':=κ) (ro:=ro) (fun b hb=>hk.kap b (hro b hb))]
   refine ih (listed.setIfInBounds i true) (κ:=κ') (F:=F') (by simp[hl]) (fun j o' ho' hd e he hb'=>?_) ?_ (fun k hk1 hk2=>by rw[hset,hout k hk1 hk2];simp;omega) ?_ ?_ (hdf'.trans hdf)
   ·rw[hset]at hd⊢
    rw[v9]at hd⊢
    left
    rcases hd with hd|hd
    ·exact hcl j o' ho' hd e he hb'
    ·have:j=i:=by simpa using hd
     subst this;rw[ho]at ho';cases ho'
     exact hedges e he hb'
   ·rw[hfun]
    have:=L7 h2 ops.size h1
    show((RJ ops.size).filter (fun k=> !(aM listed k||decide (k=i)))).length<=fuel
    omega
   ·rw [hfun]
    rw [FO ss 0 tmp (Nat.zero_le _) (by simpa using hs) h2 (fun j s' hj hne=>by
     rw[y3]at hne;rcases RY j i with hlt|heq|hgt
     ·exact(qw hind hlt (hmap j s' hj) (hmap i s hs)).1
     ·exact absurd heq hne
     ·rcases(qw hind hgt (hmap i s hs) (hmap j s' hj)).1 with hm|hm
      ·by_cases hh:s'.seen.dst=none
       ·exact .inl hh
       ·exact .inr (by rw[hm];exact hh)
      ·exact .inr (Ne.symm hm)),hfB]
    refine hr'.monoU (fun b hb'=>?_)
    rcases hb' with(hb'|⟨j,s',hd,hj,hwb,hbN⟩)|hb'
    ·exact .inl hb'
    ·exact .inr ⟨j,s',by show(aM listed j||decide (j=i))=true;rw[hd];rfl,hj,hwb,hbN⟩
    ·exact .inr ⟨i,s,by simp,hs,g1.all b hb'.1 hb'.2,by omega⟩
   ·rw[hfun,hfB]
    exact hk.trans hk' (fun b hb=>.inl hb)
def Ex.exit':Ex->Exit
 |.normal=>.normal
 |.exit id=>.exit id
 |.ret=>.ret
 |.panic v=>.panic (ij v)
def Ex.out:Ex->Bool
 |.normal|.ret=>true
 |_=>false
def jh(D:Nat):Deferred:={ target:=.collected D,args:=#[] }
def Marks(w:World)(ds:List Deferred)(F':Nat->Prop)(w':World)(ds':List Deferred):Prop:=
 ∃Ds:List Nat,ds'=Ds.map jh++ds/\Ds.Nodup/\∀D∈Ds,w.heap.size<=D/\w'.heap[D]?=some (.deferred (some []))/\¬F' D
theorem Marks.nil{ds:List Deferred}:Marks w ds F' w' ds:=⟨[],rfl,List.nodup_nil,fun D hD=>by cases hD⟩
theorem Marks.next{U':Nat->Prop}{blk':Nat->Option SB}{ds ds':List Deferred}{tmp':Nat->SV}{L':Nat}{a':Act}{w'':World}{κ'':Nat->Value}{F'':Nat->Prop}{blk'':Nat->Option SB}{U'':Nat->Prop}(m:Marks w ds F' w' ds')(h:Rel w0 env κ' F' U' tmp' blk' L' a' w')(k:Kept U'' blk' κ' F' w' blk'' κ'' F'' w''):Marks w ds F'' w'' ds':=by
 obtain⟨Ds,h1,h2,h3⟩:=m;refine⟨Ds,h1,h2,fun D hD=>?_⟩
 obtain⟨g1,g2,g3⟩:=h3 D hD;have hlt:=ec g2;have hne:∀b,aD (blk' b)=true->ak (κ' b)≠some D:=fun b hb e=>by
  obtain⟨y,hy,hl⟩:=bF hb;exact(h.blks b y hy).noDefer hl e _ g2
 refine⟨g1,(k.frame D hlt hne).trans g2,fun hF=>?_⟩
 rcases k.new D hF with h4|h4|⟨b,h4,h5⟩
 ·exact g3 h4
 ·omega
 ·exact hne b h4 h5
theorem Marks.trans{U':Nat->Prop}{blk':Nat->Option SB}{ds ds' ds'':List Deferred}{tmp':Nat->SV}{L':Nat}{a':Act}{w'':World}{κ'':Nat->Value}{F'':Nat->Prop}{blk'':Nat->Option SB}{U'':Nat->Prop}(m:Marks w ds F' w' ds')(h:Rel w0 env κ' F' U' tmp' blk' L' a' w')(k:Kept U'' blk' κ' F' w' blk'' κ'' F'' w'')(hsz:w.heap.size<=w'.heap.size)(m':Marks w' ds' F'' w'' ds''):Marks w ds F'' w'' ds'':=by
 obtain⟨Ds,h1,h2,h3⟩:=m.next h k;obtain⟨Es,g1,g2,g3⟩:=m';obtain⟨Ds',q1,q2,q3⟩:=m;have hDs:Ds=Ds':=by
  rw[q1]at h1;have:=List.append_cancel_right h1
  have hinj:∀(x y:List Nat),x.map jh=y.map jh->x=y:=by
   intro x;induction x with
   |nil=>intro y hy;cases y with
    |nil=>rfl
    |cons b y=>cases hy
   | cons c x ih=>intro y hy;cases y with
    |nil=>cases hy
    |cons b y=>
     simp only[R9,List.cons.injEq]at hy;have:c=b:=by have:=hy.1;unfold jh at this;injection this with h1 _;injection h1
     rw[this,ih y hy.2]
  exact(hinj _ _ this).symm
 subst hDs;refine⟨Es++Ds,by rw[g1,h1];simp,List.nodup_append.2 ⟨g2,h2,fun x hx y hy e=>?_⟩,fun D hD=>?_⟩
 ·subst e
  have:=(g3 x hx).1
  have:=ec (q3 x hy).2.1
  omega
 ·rcases List.mem_append.1 hD with hD|hD
  ·obtain⟨i1,i2,i3⟩:=g3 D hD
   exact⟨by omega,i2,i3⟩
  ·exact h3 D hD
def Ends(w0:World)(env:List AV)(κ:Nat->Value)(F U:Nat->Prop)(σ:SS)(a:Act)(w:World)(σ':SS)(a':Act)(w':World):Prop:=
 ∃κ' F',Rel w0 env κ' F' (fun b=>U b\/(σ.N<=b/\b<σ'.N)) σ'.tmp σ'.blk σ'.L a' w'/\Kept U σ.blk κ F w σ'.blk κ' F' w'/\Marks w a.defers F' w' a'.defers
structure Leads (P:Program) (w0:World) (ro:Option Nat) (c:Code) (env:List AV) (σ:SS) (ex:Ex) (σ':SS):Prop where
 le:σ.N<=σ'.N
 go:∀(κ:Nat->Value) (F U:Nat->Prop) (a:Act) (w:World),Rel w0 env κ F U σ.tmp σ.blk σ.L a w->(∀b,σ.N<=b->¬U b)->(∀b,ro=some b->U b) →
  c.wpIn (FR (dY κ ro)) 0 P (fun e a' w'=>e=ex.exit'/\Ends w0 env κ F U σ a w σ' a' w') a w
theorem Ends.trans{σ σ' σ'':SS}{a' a'':Act}{w'':World}(h1:σ.N<=σ'.N)(h2:σ'.N<=σ''.N)(hr:Rel w0 env κ' F' (fun b=>U b\/(σ.N<=b/\b<σ'.N)) σ'.tmp σ'.blk σ'.L a' w')(k:Kept U σ.blk κ F w σ'.blk κ' F' w')(m:Marks w a.defers F' w' a'.defers)
  (h:Ends w0 env κ' F' (fun b=>U b\/(σ.N<=b/\b<σ'.N)) σ' a' w' σ'' a'' w''):Ends w0 env κ F U σ a w σ'' a'' w'':=by
 obtain⟨κ2,F2,r2,k2,m2⟩:=h;refine⟨κ2,F2,r2.monoU (fun b hb=>?_),k.trans k2 (fun b hb=>.inl hb),m.trans hr k2 k.size m2⟩
 rcases hb with(hb|hb)|hb
 ·exact .inl hb
 ·exact .inr ⟨hb.1,by omega⟩
 ·exact .inr ⟨by omega,hb.2⟩
theorem MX{ro:Option Nat}{c:Code}{σ σ' σ'':SS}{Q:Exit->Act->World->Prop}{a':Act}(h1:σ.N<=σ'.N)(he:Ends w0 env κ F U σ a w σ' a' w')(hU:∀b,σ.N<=b->¬U b)(hro:∀b,ro=some b->U b){ex:Ex}
  (h:Leads P w0 ro c env σ' ex σ'') (hQ:∀a'' w'',Ends w0 env κ F U σ a w σ'' a'' w''->Q ex.exit' a'' w''):c.wpIn (FR (dY κ ro)) 0 P Q a' w':=by
 obtain⟨κ1,F1,r1,k1,m1⟩:=he;rw[<-ew (κ:=κ) (κ':=κ1) (ro:=ro) (fun b hb=>k1.kap b (hro b hb))]
 refine wpIn_mono (h.go κ1 F1 _ a' w' r1 (fun b h2 hb=>?_) (fun b hb=>.inl (hro b hb))) ?_
 ·rcases hb with hb|hb
  ·exact hU b (by omega) hb
  ·omega
 ·rintro e a'' w'' ⟨rfl,h4⟩
  exact hQ a'' w'' (Ends.trans h1 h.le r1 k1 m1 h4)
structure Same (σ σ':SS):Prop where
 tmp:σ'.tmp=σ.tmp
 blk:σ'.blk=σ.blk
 L:σ'.L=σ.L
 N:σ'.N=σ.N
theorem Leads.same{ro:Option Nat}{c:Code}{ex:Ex}{σ τ σ' τ':SS}(h:Leads P w0 ro c env σ ex σ')(h1:Same σ τ)(h2:Same σ' τ'):Leads P w0 ro c env τ ex τ':=by
 refine⟨by rw[h1.N,h2.N];exact h.le,fun κ F U a w hr hU hro=>?_⟩
 rw[h1.tmp,h1.blk,h1.L]at hr;rw[h1.N]at hU;refine wpIn_mono (h.go κ F U a w hr hU hro) ?_
 rintro e a' w' ⟨he,κ',F',r,k,m⟩;exact⟨he,κ',F',by rw[h1.N,h2.N,h2.tmp,h2.blk,h2.L];exact r,by rw[h1.blk,h2.blk];exact k,m⟩
theorem M3{x y:Option SB}(h:SB.same x y=true):x=y:=by
 cases x with
 |none=>cases y with
  |none=>rfl
  |some y=>cases y<;>cases h
 | some x=>
  cases y with
  |none=>cases x<;>cases h
  |some y=>
   cases x<;>cases y<;>simp only[SB.same,v0,beq_iff_eq]at h<;>first|(cases h;done)|skip
   ·rw[h.1,h.2]
   ·rw[h.1.1,h.1.2,h.2]
   ·rw[h]
   ·rw[h.1.1,h.1.2,h.2]
   ·rw[h.1,h.2]
   ·rw[h.1,h.2]
   ·rw[h.1.1,h.1.2,h.2]
noncomputable def cC (σ σ':SS):List (Nat×Option SB):=(kH σ σ').map fun b=>(b,σ'.blk b)
theorem changed_mem{σ σ':SS}{b:Nat}:b∈kH σ σ'↔b<σ'.N/\(σ.N<=b\/SB.same (σ.blk b) (σ'.blk b)=false):=by
 unfold kH;simp[R2,List.mem_range]
theorem BX{σ σ':SS}(hN:σ.N<=σ'.N){blk':Nat->Option SB}(hb:∀b,b<σ.N->blk' b=σ.blk b)(b:Nat):aH blk' (cC σ σ') b=if b<σ'.N then σ'.blk b else blk' b:=by
 rcases C2 (cC σ σ') blk' b with⟨x,hx,h1,h2⟩|⟨h1,h2⟩
 ·obtain⟨c,hc,rfl⟩:=List.mem_map.1 hx
  simp only at h1;subst h1
  rw[h2,if_pos (changed_mem.1 hc).1]
 ·rw[h2]
  split
  ·rename_i hlt
   have:¬b∈kH σ σ':=fun hc=>h1 (b,σ'.blk b) (List.mem_map.2 ⟨b,hc,rfl⟩) rfl
   rw[changed_mem]at this;have h3:b<σ.N:=Si fun h=>this ⟨hlt,.inl h⟩
   have h4:SB.same (σ.blk b) (σ'.blk b)=true:=by
    cases hs:SB.same (σ.blk b) (σ'.blk b)with
    |true=>rfl
    |false=>exact absurd ⟨hlt,.inr hs⟩ this
   rw[hb b h3];exact M3 h4
  ·rfl
theorem Rel.callee(h:Rel w0 env κ F U tmp blk L a w){σ:SS}(hb:∀b,b<σ.N->blk b=σ.blk b){tmp':Nat->SV}{L':Nat}{a':Act}(ht:∀t,SVden env κ F w (tmp' t) (a'.tmps.getD t undef))(hL:a'.tmps.size=L')(hn:∀t,∀b∈(tmp' t).names,U b):
  Rel w0 env κ F U tmp' σ.blk L' a' w where
 tmps:=ht
 size:=hL
 blks b x hx:=h.blks b x (by rw[hb b (fH hx)];exact hx)
 inj b c k h1 h2:=by
  obtain⟨x,hx,hxl⟩:=bF h1;obtain⟨y,hy,hyl⟩:=bF h2;exact h.inj b c k (by rw[hb b (fH hx)];exact h1) (by rw[hb c (fH hy)];exact h2)
 nF b k h1:=by
  obtain⟨x,hx,hxl⟩:=bF h1;exact h.nF b k (by rw[hb b (fH hx)];exact h1)
 F:=h.F
 tnames:=hn
 bnames b x hx:=h.bnames b x (by rw[hb b (fH hx)];exact hx)
 below:=h.below
theorem Rel.embed(h:Rel w0 env κ F U tmp blk L a w){σ σ':SS}(hb:∀b,b<σ.N->blk b=σ.blk b)(hN:σ.N<=σ'.N)(hf:∀b,σ.N<=b->b<σ'.N->¬U b){tmp1:Nat->SV}{L1:Nat}{a1:Act}(h':Rel w0 env κ' F' (fun b=>U b\/(σ.N<=b/\b<σ'.N)) tmp1 σ'.blk L1 a1 w')(k:Kept U σ.blk κ F w σ'.blk κ' F' w'):
  Rel w0 env κ' F' (fun b=>U b\/(σ.N<=b/\b<σ'.N)) tmp (aH blk (cC σ σ')) L a w'/\Kept U blk κ F w (aH blk (cC σ σ')) κ' F' w':=by
 obtain⟨blk2,hb2⟩:∃blk2,blk2=aH blk (cC σ σ'):=⟨_,rfl⟩
 have hc:∀b,blk2 b=if b<σ'.N then σ'.blk b else blk b:=fun b=>by rw[hb2];exact BX hN hb b
 rw[<-hb2];have hin:∀b,b<σ'.N->blk2 b=σ'.blk b:=fun b hlt=>by rw[hc,if_pos hlt]
 have hout:∀b,σ'.N<=b->blk2 b=blk b:=fun b hle=>by rw[hc,if_neg (by omega)]
 have hold:∀b,aD (σ.blk b)=true->aD (blk b)=true/\b<σ.N:=fun b hl=>by
  obtain⟨x,hx,_⟩:=bF hl;have:=fH hx
  exact⟨by rw[hb b this];exact hl,this⟩
 have hU:∀b x,blk b=some x->U b:=fun b x hx=>(h.bnames b x hx).1
 have hlt:∀b j,aD (blk b)=true->ak (κ b)=some j->j<w.heap.size:=fun b j hl hj=>by
  obtain⟨x,hx,hxl⟩:=bF hl;exact((h.blks b x hx).lt hxl hj).2
 have hid:∀b j,σ'.N<=b->aD (blk b)=true->ak (κ b)=some j->∀d,aD (σ.blk d)=true->ak (κ d)≠some j:=fun b j hle hl hj d hd e=>by
  obtain⟨h1,h2⟩:=hold d hd;have:=h.inj b d j hl h1 hj e
  omega
 have kap:∀b,aD (blk b)=true->κ' b=κ b:=fun b hl=>by
  obtain⟨x,hx,_⟩:=bF hl;exact k.kap b (hU b x hx)
 refine⟨?_,⟨k.kap,k.mono,fun j hj=>?_,k.size,fun j hj hn=>k.frame j hj (fun b hl=>hn b (hold b hl).1),fun b j hl hj=>?_,k.recs⟩⟩
 ·constructor
  ·intro t
   exact(h.tmps t).keep (fun b hbn=>k.kap b (h.tnames t b hbn)) k.mono (fun j hj=>k.frame j (h.F j hj) (fun b hl e=>h.nF b j (hold b hl).1 e hj))
  ·exact h.size
  ·intro b x hx
   by_cases hlt':b<σ'.N
   ·rw[hin b hlt']at hx;exact h'.blks b x hx
   ·rw[hout b (by omega)]at hx
    refine(h.blks b x hx).keep (fun c hcn=>k.kap c ((h.bnames b x hx).2 c hcn)) (k.kap b (hU b x hx)) k.mono (fun j hj=>k.frame j (h.F j hj) (fun b hl e=>h.nF b j (hold b hl).1 e hj)) (fun hl j hj=>?_)
    exact k.frame j (hlt b j (by rw[hx];exact hl) hj) (hid b j (by omega) (by rw[hx];exact hl) hj)
  ·intro b c j h1 h2 g1 g2
   by_cases hb1:b<σ'.N<;>by_cases hc1:c<σ'.N
   ·rw[hin b hb1]at h1;rw[hin c hc1]at h2;exact h'.inj b c j h1 h2 g1 g2
   ·exfalso
    rw[hin b hb1]at h1;rw[hout c (by omega)]at h2
    rw[kap c h2]at g2;rcases k.prov b j h1 g1 with g3|⟨d,g3,g4⟩
    ·have:=hlt c j h2 g2;omega
    ·exact hid c j (by omega) h2 g2 d g3 g4
   ·exfalso
    rw[hout b (by omega)]at h1;rw[hin c hc1]at h2
    rw[kap b h1]at g1;rcases k.prov c j h2 g2 with g3|⟨d,g3,g4⟩
    ·have:=hlt b j h1 g1;omega
    ·exact hid b j (by omega) h1 g1 d g3 g4
   ·rw[hout b (by omega)]at h1;rw[hout c (by omega)]at h2
    rw[kap b h1]at g1;rw[kap c h2]at g2;exact h.inj b c j h1 h2 g1 g2
  ·intro b j h1 g1 hF
   by_cases hb1:b<σ'.N
   ·rw[hin b hb1]at h1;exact h'.nF b j h1 g1 hF
   ·rw[hout b (by omega)]at h1
    rw[kap b h1]at g1;rcases k.new j hF with h3|h3|⟨d,h3,h4⟩
    ·exact h.nF b j h1 g1 h3
    ·have:=hlt b j h1 g1;omega
    ·exact hid b j (by omega) h1 g1 d h3 h4
  ·exact h'.F
  ·intro t b hbn;exact .inl (h.tnames t b hbn)
  ·intro b x hx
   by_cases hlt':b<σ'.N
   ·rw[hin b hlt']at hx;exact h'.bnames b x hx
   ·rw[hout b (by omega)]at hx
    obtain⟨h1,h2⟩:=h.bnames b x hx;exact⟨.inl h1,fun c hcn=>.inl (h2 c hcn)⟩
  ·exact h'.below
 ·rcases k.new j hj with h3|h3|⟨d,h3,h4⟩
  ·exact .inl h3
  ·exact .inr (.inl h3)
  ·exact .inr (.inr ⟨d,(hold d h3).1,h4⟩)
 ·by_cases hlt':b<σ'.N
  ·rw[hin b hlt']at hl
   rcases k.prov b j hl hj with h3|⟨d,h3,h4⟩
   ·exact .inl h3
   ·exact .inr ⟨d,(hold d h3).1,h4⟩
  ·rw[hout b (by omega)]at hl
   rw[kap b hl]at hj;exact .inr ⟨b,hl,hj⟩
theorem Rel.rekap(h:Rel w0 env κ F U tmp blk L a w)(hκ:∀b,U b->κ' b=κ b):Rel w0 env κ' F U tmp blk L a w:=by
 have hl:∀b,aD (blk b)=true->κ' b=κ b:=fun b hb=>by
  obtain⟨x,hx,_⟩:=bF hb;exact hκ b (h.bnames b x hx).1
 exact h.world (fun _ h=>h) hκ (fun _ h=>h) (fun _ _=>rfl) (fun b x hx=>.inl ⟨hx,fun _ _ _=>rfl⟩) (fun b c k h1 h2 g1 g2=>h.inj b c k h1 h2 (by rw[<-hl b h1];exact g1) (by rw[<-hl c h2];exact g2)) (fun b k h1 g1=>h.nF b k h1 (by rw[<-hl b h1];exact g1)) h.F h.below
theorem Rel.embed'(h:Rel w0 env κ F U tmp blk L a w){σ σ':SS}(hb:∀b,b<σ.N->blk b=σ.blk b)(hN:σ.N<=σ'.N)(hf:∀b,σ.N<=b->b<σ'.N->¬U b){tmp1:Nat->SV}{L1:Nat}{a1:Act}(h':Rel w0 env κ' F' (fun b=>(U b/\b<σ.N)\/(σ.N<=b/\b<σ'.N)) tmp1 σ'.blk L1 a1 w')(k:Kept (fun b=>U b/\b<σ.N) σ.blk κ F w σ'.blk κ' F' w'):
  ∃κ'',(∀b,b<σ'.N->κ'' b=κ' b)/\Rel w0 env κ'' F' (fun b=>U b\/(σ.N<=b/\b<σ'.N)) tmp (aH blk (cC σ σ')) L a w'/\Kept U blk κ F w (aH blk (cC σ σ')) κ'' F' w':=by
 obtain⟨κ'',hκ⟩:∃κ'':Nat->Value,∀b,κ'' b=if b<σ'.N then κ' b else κ b:=⟨_,fun _=>rfl⟩
 have hlt:∀b,b<σ'.N->κ'' b=κ' b:=fun b hb=>by rw[hκ,if_pos hb]
 have r:Rel w0 env κ'' F' (fun b=>U b\/(σ.N<=b/\b<σ'.N)) tmp1 σ'.blk L1 a1 w':=(h'.rekap (κ':=κ'') (fun b hb=>hlt b (by omega))).monoU (fun b hb=>by
  rcases hb with hb|hb
  ·exact .inl hb.1
  ·exact .inr hb)
 have k2:Kept U σ.blk κ F w σ'.blk κ'' F' w':=
  { k with
   kap:=fun b hb=>by
    by_cases h1:b<σ'.N
    ·have h2:b<σ.N:=Si fun h2=>hf b h2 h1 hb
     rw[hlt b h1];exact k.kap b ⟨hb,h2⟩
    ·rw[hκ,if_neg h1]
   prov:=fun b j h1 h2=>by
    obtain⟨x,hx,_⟩:=bF h1;rw[hlt b (fH hx)]at h2;exact k.prov b j h1 h2 }
 obtain⟨r2,k3⟩:=h.embed hb hN hf r k2;exact⟨κ'',hlt,r2,k3⟩
theorem H6{α β:Type}{f:α->Sem β}:∀(xs:List α) (us:List β),us.length=xs.length->(∀(i:Nat) x u,xs[i]?=some x->us[i]?=some u->(f x).run P w=.ok u w)->(xs.mapM f).run P w=.ok us w
 |[],us,hl,_=>by
  have:us=[]:=List.eq_nil_of_length_eq_zero hl
  subst this;simp
 | x::xs,us,hl,h=>by
  cases us with
  |nil=>simp at hl
  |cons u us=>
   rw[List.mapM_cons];simp only[Sem.run_bind,h 0 x u rfl rfl,Result.andThen_ok,H6 xs us (by simpa using hl) (fun i x u a b=>h (i+1) x u (by simpa using a) (by simpa using b)),Sem.run_pure]
theorem IY{σ:SS}(h:Rel w0 env κ F U σ.tmp σ.blk L a w){ty:Nat}{x v:SV}{u:Value}(hx:SVden env κ F w x u)(hv:xz P σ ty x=some v):∃p r,u=.pointer (some p)/\(loadVar ty p).run P w=.ok r w/\SVden env κ F w v r:=by
 unfold xz at hv;split at hv
 ·rename_i hk
  split at hv
  ·rename_i b off
   obtain⟨g,h1,rfl⟩:=hx;split at hv
   ·rename_i ty' xs hb
    obtain⟨g',cs,h3,h4,h5,h6,h7,h8⟩:=h.blks b _ hb;rw[h1]at h3;cases h3
    split at hv
    ·rename_i hle
     obtain⟨t1,t2⟩:=bJ h7 h6;refine⟨⟨g,off,none⟩,?_⟩
     split at hv
     ·rename_i hag
      cases hv
      refine⟨.agg ((cs.toList.drop off).take (P.cellsOf ty)).toArray,rfl,?_,⟨_,rfl,bE _,A7 h7 h6 _ _⟩⟩
      have:=wT (P:=P) (w:=w) (t:=ty) (p:=⟨g,off,none⟩) (us:=(cs.toList.drop off).take (P.cellsOf ty)) hk (by simp;omega) (fun j u hu=>by
       rw[iC];rw[Sc]at hu;split at hu
       ·rw[List.getElem?_drop]at hu
        simp[World.cell?,h4];simpa using hu
       ·cases hu) hag
      simpa[Instr.loadAt,Instr.sureAddr]using this
     ·rename_i hag
      split at hv
      ·rename_i y hy
       cases hv
       obtain⟨r,hr,hd⟩:=wj h7 h6 hy;refine⟨r,rfl,?_,hd⟩
       have:=zJ (P:=P) (w:=w) (t:=ty) (p:=⟨g,off,none⟩) (u:=r) hk (by simp[World.cell?,h4,hr]) (by simpa using hag)
       simpa[Instr.loadAt,Instr.sureAddr]using this
      ·cases hv
    ·cases hv
   ·cases hv
  ·cases hv
 ·cases hv
theorem r8{σ:SS}(h:Rel w0 env κ F U σ.tmp σ.blk L a w):∀(l:List ResultVar) (vs:List SV),bU P σ l=some vs->∃us:List Value,us.length=l.length/\vs.length=l.length ∧
  (∀(i:Nat) x u,l[i]?=some x->us[i]?=some u->((match x with|.tmp t=>pure (a.tmps.getD t undef)|.cell b t=>do loadVar t (<-asAddr (a.tmps.getD b undef)):Sem Value)).run P w=.ok u w)/\∀(i:Nat) x u,vs[i]?=some x->us[i]?=some u->SVden env κ F w x u
 |[],vs,hv=>by
  simp only[bU]at hv;cases hv
  exact⟨[],rfl,rfl,fun i x u h1=>by simp at h1,fun i x u h1=>by simp at h1⟩
 | .tmp t::l,vs,hv=>by
  simp only[bU]at hv;obtain⟨vs',h1,rfl⟩:=Option.map_eq_some_iff.1 hv;obtain⟨us,i1,i2,i3,i4⟩:=r8 h l vs' h1;refine⟨a.tmps.getD t undef::us,by simp[i1],by simp[i2],fun i x u g1 g2=>?_,fun i x u g1 g2=>?_⟩
  ·cases i with
   |zero=>simp only[RO,Option.some.injEq]at g1 g2;subst g1;subst g2;rfl
   |succ i=>simp at g1 g2;exact i3 i x u g1 g2
  ·cases i with
   |zero=>simp only[RO,Option.some.injEq]at g1 g2;subst g1;subst g2;exact h.tmps t
   |succ i=>simp at g1 g2;exact i4 i x u g1 g2
 | .cell b ty::l,vs,hv=>by
  simp only[bU]at hv;split at hv
  ·rename_i v vs' h1 h2
   cases hv
   obtain⟨us,i1,i2,i3,i4⟩:=r8 h l vs' h2;obtain⟨p,r,e1,e2,e3⟩:=IY h (h.tmps b) h1;refine⟨r::us,by simp[i1],by simp[i2],fun i x u g1 g2=>?_,fun i x u g1 g2=>?_⟩
   ·cases i with
    |zero=>
     simp only[RO,Option.some.injEq]at g1 g2;subst g1;subst g2;simp only[e1,asAddr,Sem.run_bind,Sem.run_pure,Result.andThen_ok,e2]
    |succ i=>simp at g1 g2;exact i3 i x u g1 g2
   ·cases i with
    |zero=>simp only[RO,Option.some.injEq]at g1 g2;subst g1;subst g2;exact e3
    |succ i=>simp at g1 g2;exact i4 i x u g1 g2
  ·cases hv
def pack:List Value->Value
 |[u]=>u
 |us=>.tuple us.toArray
theorem uZ{fn:Func}{us:List Value}(hl:us.length=fn.results.size)(h:∀(i:Nat) x u,fn.results.toList[i]?=some x->us[i]?=some u->((match x with|.tmp t=>pure (a.tmps.getD t undef)|.cell b t=>do loadVar t (<-asAddr (a.tmps.getD b undef)):Sem Value)).run P w=.ok u w):
  (results fn a.tmps).run P w=.ok (pack us) w:=by
 have h1:(fn.results.mapM (m:=Sem) fun|.tmp t=>pure (a.tmps.getD t undef)|.cell b t=>do loadVar t (<-asAddr (a.tmps.getD b undef))).run P w=.ok us.toArray w:=by
  rw[Array.mapM_eq_mapM_toList];have:=H6 (P:=P) (w:=w) fn.results.toList us (by simpa using hl) h
  simp only[map_eq_pure_bind,Sem.run_bind];refine(congrArg (Result.andThen · _) this).trans ?_
  rfl
 unfold results;rw[Sem.run_bind];refine(congrArg (Result.andThen · _) h1).trans ?_
 simp only[Result.andThen_ok,Sem.run_pure];congr 1
 match us with
 |[]=>rfl
 |[u]=>rfl
 |u::v::us=>simp[pack]
theorem D7{xs:SV}{off n:Nat}:∀b∈(xs.cut off n).names,b∈xs.names:=by
 intro b hb;obtain⟨y,hy,hb⟩:=(gT _ b).1 hb;exact cr xs y (List.mem_of_mem_drop (List.mem_of_mem_take hy)) b hb
theorem oi{σ:SS}(h:Rel w0 env κ F U σ.tmp σ.blk σ.L a w):∀(l:List ResultVar) (vs:List SV),bU P σ l=some vs->∀x∈vs,∀b∈x.names,U b
 |[],vs,hv=>by simp only[bU]at hv;cases hv;exact fun x hx=>by cases hx
 |.tmp t::l,vs,hv=>by
  simp only[bU]at hv;obtain⟨vs',h1,rfl⟩:=Option.map_eq_some_iff.1 hv;intro x hx b hb;rcases List.mem_cons.1 hx with rfl|hx
  ·exact h.tnames t b hb
  ·exact oi h l vs' h1 x hx b hb
 | .cell c ty::l,vs,hv=>by
  simp only[bU]at hv;split at hv
  ·rename_i v vs' h1 h2
   cases hv
   intro x hx b hb;rcases List.mem_cons.1 hx with rfl|hx
   ·unfold xz at h1
    split at h1
    ·split at h1
     ·rename_i d off hd
      split at h1
      ·rename_i ty' xs hbl
       have hn:∀b∈xs.names,U b:=fun b hb=>(h.bnames d _ hbl).2 b hb
       split at h1
       ·split at h1
        ·cases h1;exact hn b (D7 b hb)
        ·split at h1
         ·rename_i y hy
          cases h1
          refine hn b (D7 (off:=off) (n:=1) b ?_)
          rw[hy];exact y8 _ hb
         ·cases h1
       ·cases h1
      ·cases h1
     ·cases h1
    ·cases h1
   ·exact oi h l vs' h2 x hx b hb
  ·cases hv
theorem Og{vs:List SV}{us:List Value}(hl:us.length=vs.length)(h:∀(i:Nat) x u,vs[i]?=some x->us[i]?=some u->SVden env κ F w x u):SVden env κ F w (gC vs) (pack us):=by
 match vs,us,hl,h with
 |[v],[u],_,h=>exact h 0 v u rfl rfl
 |[],[],_,h=>exact⟨_,rfl,bE _,gu rfl h⟩
 |v::v'::vs,u::u'::us,hl,h=>exact⟨_,rfl,bE _,gu hl h⟩
 |[],_::_,hl,_=>simp at hl
 |_::_,[],hl,_=>simp at hl
 |[_],_::_::_,hl,_=>simp at hl
 |_::_::_,[_],hl,_=>simp at hl
theorem LS{vs:List SV}:∀b∈(gC vs).names,∃x∈vs,b∈x.names:=by
 intro b hb;match vs with
 |[v]=>exact⟨v,List.mem_singleton.2 rfl,hb⟩
 |[]=>cases hb
 |v::v'::vs=>exact(gT _ b).1 hb
theorem Rel.shut(h:Rel w0 env κ F U tmp blk L a w){D:Nat}{ds:Option (List Deferred)}{o:Obj}(hD:w.heap[D]?=some (.deferred ds))(hF:¬F D)(hB:w0.heap.size<=D):Rel w0 env κ F U tmp blk L a (w.putObj D o):=by
 refine h.world (fun _ h=>h) (fun _ _=>rfl) (fun _ h=>h) (fun k hk=>World.putObj_heap_other (fun e=>hF (e▸hk))) (fun b x hx=>.inl ⟨hx,fun hl k hk=>World.putObj_heap_other (fun e=>?_)⟩) h.inj h.nF (fun k hk=>by rw[World.putObj_size];exact h.F k hk) ?_
 ·subst e;exact(h.blks b x hx).noDefer hl hk _ hD
 ·refine h.below.trans ⟨rfl,rfl,rfl,by rw[World.putObj_size];exact v3 _,fun k hk=>World.putObj_heap_other (by omega)⟩
theorem Kept.shut{blk':Nat->Option SB}(k:Kept U blk κ F w blk' κ' F' w'){D:Nat}{o:Obj}(hD:w.heap.size<=D):Kept U blk κ F w blk' κ' F' (w'.putObj D o):=
 { k with recs:=fun j r hr=>by
            obtain⟨r',h1,h2⟩:=k.recs j r hr;have:=ec hr
            exact⟨r',(World.putObj_heap_other (by omega)).trans h1,h2⟩,size:=by rw[World.putObj_size];exact k.size,frame:=fun j hj hn=>(World.putObj_heap_other (by omega)).trans (k.frame j hj hn) }
def Af(w0:World)(env:List AV)(κ:Nat->Value)(F U:Nat->Prop)(blk:Nat->Option SB)(N:Nat)(w:World)(σ':SS)(rs:List SV)(e:Ending)(w':World):Prop:=
 ∃u κ' F' a',e=.returned u/\Rel w0 env κ' F' (fun b=>U b\/(N<=b/\b<σ'.N)) σ'.tmp σ'.blk σ'.L a' w'/\Kept U blk κ F w σ'.blk κ' F' w'/\SVden env κ' F' w' (gC rs) u
theorem uv{fn:Func}{σ':SS}{rs:List SV}(hres:bU P σ' fn.results.toList=some rs){N:Nat}(hB:w0.heap.size<=w.heap.size){F':Nat->Prop}{a':Act}:∀(Ds:List Nat) (w':World),Rel w0 env κ' F' (fun b=>U b\/(N<=b/\b<σ'.N)) σ'.tmp σ'.blk σ'.L a' w'->Kept U blk κ F w σ'.blk κ' F' w' →
  Ds.Nodup->(∀D∈Ds,w.heap.size<=D/\w'.heap[D]?=some (.deferred (some []))/\¬F' D)->LeavesInM (FR none) 0 P fn a'.tmps (Af w0 env κ F U blk N w σ' rs) (Ds.map jh) .returning w'
 |[],w',hr,hk,_,_=>by
  obtain⟨us,i1,i2,i3,i4⟩:=r8 hr _ _ hres;have hrun:=uZ (P:=P) (w:=w') (a:=a') (fn:=fn) (us:=us) (by simpa using i1) i3
  exact⟨pack us,hrun,pack us,κ',F',a',rfl,hr,hk,Og (by rw[i1,i2]) i4⟩
 |D::Ds,w',hr,hk,hnd,hD=>by
  obtain⟨h1,h2,h3⟩:=hD D (v5 ..);rw[Sp]at hnd;refine⟨(fun h=>by cases h),.inl ⟨D,w'.putObj D (.deferred none),rfl,run_takeDeferred h2,?_⟩⟩
  refine uv hres hB Ds _ (hr.shut h2 h3 (by omega)) (hk.shut h1) hnd.2 (fun E hE=>?_)
  obtain⟨g1,g2,g3⟩:=hD E (v7 _ hE);exact⟨g1,(World.putObj_heap_other (fun e:E=D=>hnd.1 (by rw[<-e];exact hE))).trans g2,g3⟩
def Le(w0:World)(env:List AV)(κ:Nat->Value)(F U:Nat->Prop)(blk:Nat->Option SB)(N:Nat)(w:World)(σ':SS)(v:Value)(e:Ending)(w':World):Prop:=
 ∃κ' F' a',e=.panicked (ij v)/\Rel w0 env κ' F' (fun b=>U b\/(N<=b/\b<σ'.N)) σ'.tmp σ'.blk σ'.L a' w'/\Kept U blk κ F w σ'.blk κ' F' w'
theorem Do{fn:Func}{σ':SS}{v:Value}{N:Nat}(hB:w0.heap.size<=w.heap.size){F':Nat->Prop}{a':Act}:∀(Ds:List Nat) (w':World),Rel w0 env κ' F' (fun b=>U b\/(N<=b/\b<σ'.N)) σ'.tmp σ'.blk σ'.L a' w'->Kept U blk κ F w σ'.blk κ' F' w' →
  Ds.Nodup->(∀D∈Ds,w.heap.size<=D/\w'.heap[D]?=some (.deferred (some []))/\¬F' D)->LeavesInM (FR none) 0 P fn a'.tmps (Le w0 env κ F U blk N w σ' v) (Ds.map jh) (.panicking (ij v)) w'
 |[],w',hr,hk,_,_=>⟨κ',F',a',rfl,hr,hk⟩
 |D::Ds,w',hr,hk,hnd,hD=>by
  obtain⟨h1,h2,h3⟩:=hD D (v5 ..);rw[Sp]at hnd;refine⟨(fun h=>by cases h),.inl ⟨D,w'.putObj D (.deferred none),rfl,run_takeDeferred h2,?_⟩⟩
  refine Do hB Ds _ (hr.shut h2 h3 (by omega)) (hk.shut h1) hnd.2 (fun E hE=>?_)
  obtain⟨g1,g2,g3⟩:=hD E (v7 _ hE);exact⟨g1,(World.putObj_heap_other (fun e:E=D=>hnd.1 (by rw[<-e];exact hE))).trans g2,g3⟩
theorem DT{f:Nat}{fn:Func}{c:Code}(hfn:P.funcs[f]?=some fn)(hb:fn.body=some c){σ σ':SS}{v:Value}(hl:Leads P w0 none c env σ (.panic v) σ'){vs:Array Value}
  (hr:Rel w0 env κ F U σ.tmp σ.blk σ.L { tmps:=vs++v8 (fn.ntmps-vs.size) undef,defers:=[] } w) (hU:∀b,σ.N<=b->¬U b):
  Calls P f vs w (Le w0 env κ F U σ.blk σ.N w σ' v):=by
 refine pe (ro:=none) (n:=0) (callsIn_of_wp_marks hfn hb trivial ?_)
 refine wpIn_mono (hl.go κ F U _ w hr hU (fun b hb=>by cases hb)) ?_
 rintro e a' w' ⟨rfl,κ',F',r,k,Ds,m1,m2,m3⟩;have key:LeavesInM (FR none) 0 P fn a'.tmps (Le w0 env κ F U σ.blk σ.N w σ' v) a'.defers (.panicking (ij v)) w':=by
  rw[m1,v2];exact Do hr.below.size Ds w' r k m2 m3
 exact key
theorem ol{f:Nat}{fn:Func}{c:Code}(hfn:P.funcs[f]?=some fn)(hb:fn.body=some c){σ σ':SS}{ex:Ex}(hex:ex.out=true)(hl:Leads P w0 none c env σ ex σ'){vs:Array Value}
  (hr:Rel w0 env κ F U σ.tmp σ.blk σ.L { tmps:=vs++v8 (fn.ntmps-vs.size) undef,defers:=[] } w) (hU:∀b,σ.N<=b->¬U b) {rs:List SV} (hres:bU P σ' fn.results.toList=some rs):
  Calls P f vs w (Af w0 env κ F U σ.blk σ.N w σ' rs):=by
 refine pe (ro:=none) (n:=0) (callsIn_of_wp_marks hfn hb trivial ?_)
 refine wpIn_mono (hl.go κ F U _ w hr hU (fun b hb=>by cases hb)) ?_
 rintro e a' w' ⟨rfl,κ',F',r,k,Ds,m1,m2,m3⟩;have key:LeavesInM (FR none) 0 P fn a'.tmps (Af w0 env κ F U σ.blk σ.N w σ' rs) a'.defers .returning w':=by
  rw[m1,v2];exact uv hres hr.below.size Ds w' r k m2 m3
 cases ex with
 |normal=>exact key
 |ret=>exact key
 |exit id=>cases hex
 |panic v=>cases hex
theorem I5{con:Nat->Bool}{own:Bool}{tr:E->Option Bool}{nm:Nat}{o:Oper}{f:Nat}{vs:List SV}(h:dj P con own tr nm (ai tmp) blk o=.inl f vs):
  ∃g cargs tys fs xs fn,o.op=.call { callee:=.value g,args:=cargs,argTypes:=tys }/\ai tmp g=.fn f fs xs/\P.funcs[f]?=some fn/\fn.body.isSome=true/\vs=fs.list++cargs.toList.map (fun y=>nz blk (ai tmp y))++xs.list:=by
 unfold dj at h;split at h
 ·rename_i x hx
  obtain⟨_,_,_,rfl⟩:=ql hx;cases h
 obtain⟨wr,hwr⟩:∃wr,wr=bi blk (frz P con own (ai tmp) blk o):=⟨_,rfl⟩
 simp only[<-hwr]at h;split at h
 ·cases h
 ·cases h
 ·obtain⟨g,cargs,tys,ho,hcall⟩:=xy h rfl
  unfold mi at hcall;split at hcall
  rotate_left
  ·cases hcall
  ·cases hcall
  rename_i g' fs xs hg
  have hg0:=OP hg;split at hcall
  rotate_left
  ·cases hcall
  rename_i fn hfn
  split at hcall
  rotate_left
  ·cases hcall
  rename_i hbody
  split at hcall
  ·split at hcall<;>cases hcall
  ·rename_i hcon
   cases hcall
   have hfrz:frz P con own (ai tmp) blk o=[]:=by
    unfold frz;simp only[ho,hg0];split
    ·rename_i heq
     cases heq
     split
     ·split
      ·rename_i hc _;exact absurd ⟨hc,rfl,rfl⟩ hcon
      ·rfl
     ·rfl
    ·rfl
   rw[hfrz]at hwr;subst hwr;exact⟨g,cargs,tys,fs,xs,fn,ho,hg0,hfn,hbody,rfl⟩
theorem LV{y:SV}{u v:Value}(hy:DR y=some u)(h:SVden env κ F w y v):v=u:=by
 unfold DR at hy;split at hy
 ·cases hy
  obtain⟨cs,rfl,_,h2⟩:=h;have h2:Value.tuple cs=.tuple #[]:=h2
  injection h2 with h2
  rw[h2]
 ·cases hy
theorem K6{con:Nat->Bool}{own:Bool}{tr:E->Option Bool}{nm:Nat}{o:Oper}{v:Value}(h:dj P con own tr nm (ai tmp) blk o=.panic v):
  ∃x t y u,o.op=.panic x/\nz blk (ai tmp x)=.iface t y/\DR y=some u/\v=.iface t u:=by
 unfold dj at h;split at h
 ·rename_i x hx
  obtain⟨_,_,_,rfl⟩:=ql hx;cases h
 obtain⟨wr,hwr⟩:∃wr,wr=bi blk (frz P con own (ai tmp) blk o):=⟨_,rfl⟩
 simp only[<-hwr]at h;split at h
 ·cases h
 ·cases h
 ·obtain⟨x,hop,hp⟩:=Kl h
  have hfrz:frz P con own (ai tmp) blk o=[]:=by
   unfold frz;simp only[hop]
  rw[hfrz]at hwr;subst hwr;unfold sV at hp;split at hp
  ·rename_i t y hx
   split at hp
   ·rename_i u hy
    cases hp
    exact⟨x,t,y,u,hop,hx,hy,rfl⟩
   ·cases hp
  ·cases hp
theorem NN{con:Nat->Bool}{own:Bool}{tr:E->Option Bool}{nm:Nat}{o:Oper}{b:Nat}{vs:List SV}(h:dj P con own tr nm (ai tmp) blk o=.yld b vs):
  ∃g cargs tys,o.op=.call { callee:=.value g,args:=cargs,argTypes:=tys }/\ai tmp g=.yld b/\vs=cargs.toList.map (fun y=>nz blk (ai tmp y)):=by
 unfold dj at h;split at h
 ·rename_i x hx
  obtain⟨_,_,_,rfl⟩:=ql hx;cases h
 obtain⟨wr,hwr⟩:∃wr,wr=bi blk (frz P con own (ai tmp) blk o):=⟨_,rfl⟩
 simp only[<-hwr]at h;split at h
 ·cases h
 ·cases h
 ·obtain⟨g,cargs,tys,ho,hcall⟩:=xy h rfl
  unfold mi at hcall;split at hcall
  ·split at hcall
   ·split at hcall
    ·split at hcall
     ·split at hcall<;>cases hcall
     ·cases hcall
    ·cases hcall
   ·cases hcall
  ·rename_i c hg
   cases hcall
   have hg0:=Qj hg;have hfrz:frz P con own (ai tmp) blk o=[]:=by
    unfold frz;simp only[ho,hg0]
   rw[hfrz]at hwr;subst hwr;exact⟨g,cargs,tys,ho,hg0,rfl⟩
  ·cases hcall
theorem qc{vs:Array Value}{n t:Nat}:(vs++v8 n undef).getD t undef=vs.getD t undef:=by
 by_cases h:t<vs.size
 ·simp[y7,h];omega
 ·by_cases h2:t<vs.size+n
  ·have:(vs++v8 n undef)[t]'(by simpa using h2)=undef:=by rw[Array.getElem_append_right (by omega)];simp
   simp[y7,h,h2,this]
  ·simp[y7,h,h2]
theorem tC{σ:SS}{vs:List SV}{us:Array Value}{n:Nat}(hl:us.size=vs.length)(h:∀(i:Nat) x u,vs[i]?=some x->us[i]?=some u->SVden env κ F w x u):
  (∀t,SVden env κ F w ((σ.frame vs n).tmp t) ((us++v8 (n-us.size) undef).getD t undef))/\(us++v8 (n-us.size) undef).size=(σ.frame vs n).L:=by
 refine⟨fun t=>?_,?_⟩
 ·rw[qc]
  show SVden env κ F w ((Ov.of vs n).get .any t) _
  rw[Ov.get_of];by_cases ht:t<vs.length
  ·have h1:vs[t]?=some vs[t]:=RN ht
   have h2:us[t]?=some us[t]:=y0 (by omega)
   have:=h t _ _ h1 h2
   rw[RU,h1];simp only[RM];have e:us.getD t undef=us[t]:=by simp[y7,show t<us.size by omega]
   rw[e];exact this
  ·rw[RU,R1 (by omega)]
   trivial
 ·show _=mx vs.length n
  rw[HJ];simp;omega
theorem oI{σ:SS}{vs:List SV}{n:Nat}(h:∀x∈vs,∀b∈x.names,U b):∀t,∀b∈((σ.frame vs n).tmp t).names,U b:=by
 intro t b hb;have hb:b∈((Ov.of vs n).get .any t).names:=hb
 rw[Ov.get_of,RU]at hb;cases hv:vs[t]? with
 |none=>rw[hv]at hb;cases hb
 |some x=>rw[hv]at hb;exact h x (v6 hv) b hb
theorem mg{xs:SV}{cs:Array Value}(hp:xs.proper=true)(h:SVden env κ F w xs (.tuple cs)):cs.toList.length=xs.list.length/\∀(i:Nat) x u,xs.list[i]?=some x->cs.toList[i]?=some u->SVden env κ F w x u:=by
 obtain⟨h1,h2⟩:=bJ hp h;refine⟨by rw[list_len];simpa using h1,fun i x u hx hu=>?_⟩
 obtain⟨u',h3,h4⟩:=h2 i x hx;rw[RT,h3]at hu;cases hu;exact h4
theorem qG{l m:List SV}{us vs:List Value}(h1:us.length=l.length/\∀(i:Nat) x u,l[i]?=some x->us[i]?=some u->SVden env κ F w x u)(h2:vs.length=m.length/\∀(i:Nat) x u,m[i]?=some x->vs[i]?=some u->SVden env κ F w x u):
  (us++vs).length=(l++m).length/\∀(i:Nat) x u,(l++m)[i]?=some x->(us++vs)[i]?=some u->SVden env κ F w x u:=by
 refine⟨by simp[h1.1,h2.1],fun i x u hx hu=>?_⟩
 by_cases hi:i<l.length
 ·rw[y2 hi]at hx
  rw[y2 (by rw[h1.1];exact hi)]at hu
  exact h1.2 i x u hx hu
 ·rw[RK (by omega)]at hx
  rw[RK (by rw[h1.1];omega),h1.1]at hu
  exact h2.2 _ x u hx hu
theorem FN{cons:Nat->Bool}{own:Bool}(hfit:PFit P){o:Oper}{σ σ₁:SS}{f:Nat}{vs:List SV}(hc:dj P cons own σ₁.tr σ.N σ.ev σ.blk o=.inl f vs){fn:Func}{c:Code}(hfn:P.funcs[f]?=some fn)(hb:fn.body=some c)
 (hft:∀b∈bu σ.ev o,b<σ.N) (hvn:∀x∈vs,∀b∈x.names,b<σ.N) (hcl:∀b x,σ.blk b=some x->∀c∈x.names,c<σ.N) {tmp':Nat->SV} {blk':Nat->Option SB} (h:Rel w0 env κ F U tmp' blk' σ.L a w) (hrd:∀x∈o.op.operands,ai tmp' x=σ.ev x) (hbk0:∀b,b<σ.N->blk' b=σ.blk b):
 ∃us,(execOp a.eval o).run P w=.ok (.enter f us) w/\(∀c,o.op≠.defer c) ∧
  Rel w0 env κ F (fun b=>U b/\b<σ.N) (σ.frame vs fn.ntmps).tmp (σ.frame vs fn.ntmps).blk (σ.frame vs fn.ntmps).L { tmps:=us++v8 (fn.ntmps-us.size) undef,defers:=[] } w:=by
 have hev:=hrd;have hbk:∀x∈o.op.operands,∀b∈(σ.ev x).names,blk' b=σ.blk b:=fun x hx b hb=>hbk0 b (hft b (by unfold bu;exact List.mem_flatMap.2 ⟨x,by simpa using hx,hb⟩))
 have hc':dj P cons own σ₁.tr σ.N (ai tmp') blk' o=.inl f vs:=by rw[nD hev hbk];exact hc
 obtain⟨g,cargs,tys,fs,xs,fn',hop,hg,hfn',hbody,hvs⟩:=I5 hc';rw[hfn]at hfn';cases hfn'
 have hevg:=h.ev g;rw[hg]at hevg;obtain⟨ds,cs,e1,hp1,hp2,d1,d2⟩:=hevg;have hrun:(execOp a.eval o).run P w=.ok (.enter f (ds++cargs.map a.eval++cs)) w:=by
  have hn:¬fn.name = "runtime.NumGoroutine" := hfit.name f fn hfn
  have hb0:¬fn.body=none:=by rw[hb];intro hh;cases hh
  simp only[execOp,hop,resolve,e1,Deferred.ofValue,Sem.run_bind,Sem.run_pure,Result.andThen_ok,invoke,callFunc];simp[hfn,hn,hb0]
 have hmid:(cargs.map a.eval).toList.length=(cargs.toList.map fun y=>nz blk' (ai tmp' y)).length/\∀(i:Nat) x u,(cargs.toList.map fun y=>nz blk' (ai tmp' y))[i]?=some x->(cargs.map a.eval).toList[i]?=some u->SVden env κ F w x u:=by
  refine⟨by simp,fun i x u hx hu=>?_⟩
  rw[y9]at hx;rw[Sj,y9]at hu;obtain⟨y,hy,rfl⟩:=Option.map_eq_some_iff.1 hx;rw[hy]at hu;cases hu
  exact wL (fun b e t l hb=>h.blks b _ hb) (h.ev y)
 obtain⟨l1,l2⟩:=qG (qG (mg hp1 d1) hmid) (mg hp2 d2);rw[<-hvs]at l1 l2;have hua:(ds++cargs.map a.eval++cs).toList=ds.toList++(cargs.map a.eval).toList++cs.toList:=by simp
 rw[<-hua]at l1 l2;obtain⟨fr1,fr2⟩:=tC (σ:=σ) (vs:=vs) (us:=ds++cargs.map a.eval++cs) (n:=fn.ntmps) (by simpa using l1) (fun i x u hx hu=>l2 i x u hx (by rw[RT];exact hu))
 have hnm:∀x∈vs,∀b∈x.names,U b:=by
  intro x hx b hbn;rw[hvs]at hx;have hgn:∀b∈(ai tmp' g).names,U b:=h.evNames g
  rw[hg]at hgn;rcases List.mem_append.1 hx with hx|hx
  ·rcases List.mem_append.1 hx with hx|hx
   ·exact hgn b (y8 _ (cr fs x hx b hbn))
   ·obtain⟨y,hy,rfl⟩:=List.mem_map.1 hx
    exact h.evNames y b (xv _ _ b hbn)
  ·exact hgn b (y1 _ (cr xs x hx b hbn))
 have hlow:Rel w0 env κ F (fun b=>U b/\b<σ.N) (fun _=>.any) σ.blk a.tmps.size a w:=by
  have h0:=h.callee (σ:=σ) hbk0 (tmp':=fun _=>.any) (a':=a) (fun _=>trivial) rfl (fun t b hb=>by cases hb)
  exact{ h0 with tnames:=fun t b hb=>(by cases hb),bnames:=fun b x hx=>⟨⟨(h0.bnames b x hx).1,fH hx⟩,fun c hc=>⟨(h0.bnames b x hx).2 c hc,hcl b x hx c hc⟩⟩ }
 have hcr:Rel w0 env κ F (fun b=>U b/\b<σ.N) (σ.frame vs fn.ntmps).tmp (σ.frame vs fn.ntmps).blk (σ.frame vs fn.ntmps).L { tmps:=(ds++cargs.map a.eval++cs)++v8 (fn.ntmps-(ds++cargs.map a.eval++cs).size) undef,defers:=[] } w:=
  hlow.callee (σ:=σ) (fun _ _=>rfl) fr1 fr2 (oI (fun x hx b hbn=>⟨hnm x hx b hbn,hvn x hx b hbn⟩))
 exact⟨_,hrun,fU hc' (fun m hm=>by cases hm),hcr⟩
theorem NY{cons:Nat->Bool}{own:Bool}{ro:Option Nat}(hfit:PFit P){ops:Array Oper}{i:Nat}{o:Oper}(ho:ops[i]?=some o){σ σ₁:SS}{f:Nat}{vs:List SV}(hc:dj P cons own σ₁.tr σ.N σ.ev σ.blk o=.inl f vs){fn:Func}{c:Code}(hfn:P.funcs[f]?=some fn)(hb:fn.body=some c)
  (hft:∀b∈bu σ.ev o,b<σ.N) (hvn:∀x∈vs,∀b∈x.names,b<σ.N) (hcl:∀b x,σ.blk b=some x->∀c∈x.names,c<σ.N) {ex:Ex} {σ':SS} (hex:ex.out=true) (hl:Leads P w0 none c env (σ.frame vs fn.ntmps) ex σ') {rs:List SV} (hres:bU P σ' fn.results.toList=some rs) (hd:∀d,o.dst=some d->d<σ.L) (hw:cq ops o σ.tmp env true):
  StepSem P w0 env ro σ.L ops σ.N σ'.N i ⟨gC rs,cC σ σ',{ rt:=bo ops o,rb:=RJ σ.N,dst:=o.dst,wb:=kH σ σ' }⟩ σ.tmp σ.blk:=by
 have hle:σ.N<=σ'.N:=hl.le
 refine⟨by simp only[cC,List.map_map];exact(List.map_id' _).symm,fun b hb=>(changed_mem.1 hb).1,hle,fun b hb=>?_,fun b h1 h2=>changed_mem.2 ⟨h2,.inl h1⟩,hd,fun κ F U tmp' blk' a w K Q h ht hb' hf hro _ hK=>?_,fun x hx=>(by cases hx)⟩
 ·by_cases hlt:b<σ.N
  ·exact .inl (List.mem_range.2 hlt)
  ·exact .inr (by omega)
 ·have hbk0:∀b,b<σ.N->blk' b=σ.blk b:=fun b hb=>hb' b (List.mem_range.2 hb)
  have hev:∀x∈o.op.operands,ai tmp' x=σ.ev x:=fun x hx=>by rw[jD];exact fo ht x hx
  obtain⟨us,hrun,hnd,hcr⟩:=FN hfit hc hfn hb hft hvn hcl h hev hbk0;have hcall:=ol hfn hb hex hl hcr (fun b h1 h2=>by have h1:σ.N<=b:=h1;omega) hres
  unfold wpOpIn;rw[ho];simp only
  rw[if_pos (fk h hw ht)];refine zO hnd hrun hcall ?_
  rintro e w' ⟨u,κ',F',a',rfl,r,k,hv⟩;obtain⟨κ'',hκ,r2,k2⟩:=h.embed' hbk0 hle hf r k;have hn:∀b∈(gC rs).names,(U b/\b<σ.N)\/(σ.N<=b/\b<σ'.N):=fun b hb'=>by
   obtain⟨x,hx,hb2⟩:=LS b hb';exact oi r _ _ hres x hx b hb2
  have hput:=r2.put (dst:=o.dst) (v:=gC rs) (u:=u) hd (hv.keep (fun b hb'=>hκ b (by have:=hn b hb';omega)) (fun _ h=>h) (fun _ _=>rfl)) (fun b hb'=>by
   rcases hn b hb' with h1|h1
   ·exact .inl h1.1
   ·exact .inr h1)
  exact⟨u,rfl,hK κ'' F' _ w' hput k2 (by cases o.dst<;>rfl)⟩
theorem PF{cons:Nat->Bool}{own:Bool}{ro:Option Nat}(hfit:PFit P){ops:Array Oper}{i:Nat}{o:Oper}(ho:ops[i]?=some o){σ σ₁:SS}{f:Nat}{vs:List SV}(hc:dj P cons own σ₁.tr σ.N σ.ev σ.blk o=.inl f vs){fn:Func}{c:Code}(hfn:P.funcs[f]?=some fn)(hb:fn.body=some c)
  (hft:∀b∈bu σ.ev o,b<σ.N) (hvn:∀x∈vs,∀b∈x.names,b<σ.N) (hcl:∀b x,σ.blk b=some x->∀c∈x.names,c<σ.N) {v:Value} {σ':SS} (hl:Leads P w0 none c env (σ.frame vs fn.ntmps) (.panic v) σ') (hw:cq ops o σ.tmp env true):
  sI P w0 env ro σ.L ops σ.N σ'.N i v σ.tmp σ.blk (aH σ.blk (cC σ σ')):=by
 have hle:σ.N<=σ'.N:=hl.le
 intro κ F U a w K Q h hf hro hQ;obtain⟨us,hrun,hnd,hcr⟩:=FN hfit hc hfn hb hft hvn hcl h (fun x _=>by rw[jD]) (fun b _=>rfl)
 have hcall:=DT hfn hb hl hcr (fun b h1 h2=>by have h1:σ.N<=b:=h1;omega)
 unfold wpOpIn;rw[ho];simp only
 rw[if_pos (fk h hw (fun t _=>rfl))]
 refine KT hnd hrun hcall ?_
 rintro e w' ⟨κ',F',a',rfl,r,k⟩;obtain⟨κ'',hκ,r2,k2⟩:=h.embed' (fun b _=>rfl) hle hf r k
 exact⟨_,rfl,hQ κ'' F' w' r2 k2⟩
theorem Qe{cons:Nat->Bool}{own:Bool}{ro:Option Nat}{ops:Array Oper}{i:Nat}{o:Oper}(ho:ops[i]?=some o){σ σ₁:SS}{v:Value}(hc:dj P cons own σ₁.tr σ.N σ.ev σ.blk o=.panic v)(hw:cq ops o σ.tmp env true):
  sI P w0 env ro σ.L ops σ.N σ.N i v σ.tmp σ.blk σ.blk:=by
 intro κ F U a w K Q h hf hro hQ;rw[jD]at hc;have hnd:=fU hc (fun m hm=>by cases hm)
 obtain⟨x,t,y,u,hop,hx,hy,rfl⟩:=K6 hc;have hrun:(execOp a.eval o).run P w=.halt (.panic (.iface t u)) w:=by
  have hev:=h.ev x;have h2:SVden env κ F w (.iface t y) (a.eval x):=by
   rw[<-hx];exact wL (fun b e t l hb=>h.blks b _ hb) hev
  obtain⟨v',e1,d1⟩:=h2;have:v'=u:=LV hy d1
  subst this;simp only[execOp,hop,e1,Instr.panic];rfl
 unfold wpOpIn;rw[ho];simp only
 rw[if_pos (fk h hw (fun t _=>rfl))]
 refine Ll hnd hrun ?_
 exact hQ κ F w (h.monoU fun b hb=>.inl hb) Kept.refl
theorem Gc{base:Nat}{k:Nat}{o:Obj}(h:base<=k):Below base w (w.putObj k o):=
 ⟨rfl,rfl,rfl,by rw[World.putObj_size];exact v3 _,fun j hj=>World.putObj_heap_other (by omega)⟩
theorem Rel.record(h:Rel w0 env κ F U tmp blk L a w){b:Nat}{i:LoopI}{st:LoopState}{p:Jmp}(hb:blk b=some (.loop i st p)):∃l r,κ b=.pointer (some ⟨l,0,none⟩)/\w.heap[l]?=some (.loop r)/\r.state=st/\r.pending=p.code/\r.params=i.params/\r.assign=i.assign/\r.body=i.body ∧
  r.tmps.size=i.rf.len/\(∀t,SVden env κ F w (i.rf.get .any t) (r.tmps.getD t undef)) ∧
  (∀(st':LoopState) (p':Jmp) (r':Loop),r'.state=st'->r'.pending=p'.code->r'.params=r.params->r'.assign=r.assign->r'.body=r.body->r'.tmps=r.tmps →
   Rel w0 env κ F U tmp (upd blk b (some (.loop i st' p'))) L a (w.putObj l (.loop r'))/\Kept U blk κ F w (upd blk b (some (.loop i st' p'))) κ F (w.putObj l (.loop r'))) ∧
  ∀r':Loop,r'.params=r.params->r'.assign=r.assign->r'.body=r.body->r'.tmps=r.tmps->Rel w0 env κ F U tmp (upd blk b none) L a (w.putObj l (.loop r'))/\Kept U blk κ F w (upd blk b none) κ F (w.putObj l (.loop r')):=by
 obtain⟨l,r,h1,h2,h3,h4,h5,h6,h7,h8,h9,h10⟩:=h.blks b _ hb;have hlive:aD (some (SB.loop i st p))=true:=rfl
 have hbl:ak (κ b)=some l:=by rw[h1];rfl
 have hnF:¬F l:=h.nF b l (by rw[hb];rfl) hbl
 have hFk:∀(o:Obj) k,F k->(w.putObj l o).heap[k]?=w.heap[k]?:=fun o k hk=>World.putObj_heap_other (fun e=>hnF (e▸hk))
 have hrec:∀r':Loop,r'.params=r.params->r'.assign=r.assign->r'.body=r.body->r'.tmps=r.tmps->RecLe w (w.putObj l (.loop r')):=fun r' g3 g4 g5 g6 k r₁ hr=>by
  by_cases e:k=l
  ·subst e
   rw[h2]at hr;have hr:r=r₁:=by injection hr with hr;injection hr
   subst hr;exact⟨r',World.putObj_heap_same (ec h2),g3,g4,g5,g6⟩
  ·exact⟨r₁,(World.putObj_heap_other e).trans hr,rfl,rfl,rfl,rfl⟩
 refine⟨l,r,h1,h2,h4,h5,h6,h7,h8,h9,h10,fun st' p' r' g1 g2 g3 g4 g5 g6=>?_,fun r' g3 g4 g5 g6=>?_⟩
 ·have hw:∀k,ak (κ b)≠some k->(w.putObj l (.loop r')).heap[k]?=w.heap[k]?:=fun k hk=>World.putObj_heap_other (fun e=>hk (by rw[hbl,e]))
  refine⟨h.stored hb hlive hw World.putObj_size ⟨l,r',h1,World.putObj_heap_same (ec h2),h3,g1,g2,g3.trans h6,g4.trans h7,g5.trans h8,by rw[g6];exact h9,fun t=>by rw[g6];exact(h10 t).keep (fun _ _=>rfl) (fun _ h=>h) (hFk _)⟩ (h.bnames b _ hb).2 (h.below.trans (Gc h3)),⟨fun _ _=>rfl,fun _ h=>h,fun _ h=>.inl h,by rw[World.putObj_size];exact v3 _,fun k _ hn=>hw k (hn b (by rw[hb];rfl)),fun c k h1 h2=>?_,hrec r' g3 g4 g5 g6⟩⟩
  by_cases e:c=b
  ·subst e;exact .inr ⟨c,by rw[hb];rfl,h2⟩
  ·rw[ag e]at h1;exact .inr ⟨c,h1,h2⟩
 ·have hlv:∀c,aD (upd blk b none c)=true->c≠b/\aD (blk c)=true:=fun c hc=>by
   by_cases e:c=b
   ·rw[e,au]at hc;cases hc
   ·rw[ag e]at hc;exact⟨e,hc⟩
  have hother:∀c k,c≠b->aD (blk c)=true->ak (κ c)=some k->(w.putObj l (.loop r')).heap[k]?=w.heap[k]?:=fun c k hc hl hk=>World.putObj_heap_other (fun e=>hc (h.inj c b k hl (by rw[hb];rfl) hk (by rw[hbl,e])))
  refine⟨h.world (fun _ h=>h) (fun _ _=>rfl) (fun _ h=>h) (hFk _) (fun c x hx=>?_) (fun c d k hc hd=>h.inj c d k (hlv c hc).2 (hlv d hd).2) (fun c k hc=>h.nF c k (hlv c hc).2) (fun k hk=>by rw[World.putObj_size];exact h.F k hk) (h.below.trans (Gc h3)),
   ⟨fun _ _=>rfl,fun _ h=>h,fun _ h=>.inl h,by rw[World.putObj_size];exact v3 _,fun k _ hn=>World.putObj_heap_other (fun e=>hn b (by rw[hb];rfl) (by rw[hbl,e])),fun c k hc hk=>.inr ⟨c,(hlv c hc).2,hk⟩,hrec r' g3 g4 g5 g6⟩⟩
  by_cases e:c=b
  ·subst e;rw[au]at hx;cases hx
  ·rw[ag e]at hx
   exact .inl ⟨hx,fun hl k hk=>hother c k e (by rw[hx];exact hl) hk⟩
theorem zn(h:Rel w0 env κ F U tmp blk L a w){b:Nat}{i:LoopI}{st:LoopState}{p:Jmp}(hb:blk b=some (.loop i st p)):∀t,∀c∈(i.rf.get .any t).names,U c:=by
 intro t c hc;refine(h.bnames b _ hb).2 c ?_
 by_cases ht:t<i.rf.len
 ·exact List.mem_flatMap.2 ⟨t,List.mem_range.2 ht,hc⟩
 ·rw[Ov.get_out (by omega)]at hc;cases hc
theorem Dy:∀(ts:List Nat) (vs:List SV) (us:List Value) (rf:Ov SV) (tmps:Array Value),ts.length=vs.length->ts.length=us.length->(∀t∈ts,t<rf.len)->tmps.size=rf.len->(∀t,SVden env κ F w (rf.get .any t) (tmps.getD t undef)) →
  (∀(i:Nat) x u,vs[i]?=some x->us[i]?=some u->SVden env κ F w x u) →
  (fu ts vs rf).len=rf.len/\((ts.zip us).foldl (fun(tmps:Array Value) (x:Nat×Value)=>tmps.setIfInBounds x.1 x.2) tmps).size=rf.len ∧
   (∀t,SVden env κ F w ((fu ts vs rf).get .any t) (((ts.zip us).foldl (fun(tmps:Array Value) (x:Nat×Value)=>tmps.setIfInBounds x.1 x.2) tmps).getD t undef)) ∧
   ∀t,∀b∈((fu ts vs rf).get .any t).names,(∃t',b∈(rf.get .any t').names)\/∃x∈vs,b∈x.names
 |[],vs,us,rf,tmps,h1,h2,_,hs,hd,_=>by
  cases vs with
  |nil=>exact⟨rfl,hs,hd,fun t b hb=>.inl ⟨t,hb⟩⟩
  |cons=>simp at h1
 | t :: ts,vs,us,rf,tmps,h1,h2,ht,hs,hd,hv=>by
  cases vs with
  |nil=>simp at h1
  | cons x vs=>
   cases us with
   |nil=>simp at h2
   | cons u us=>
    have htl:=ht t (v5 ..);have hlen:(rf.put t x).len=rf.len:=rfl
    have hx:=hv 0 x u rfl rfl;obtain⟨i1,i2,i3,i4⟩:=Dy ts vs us (rf.put t x) (tmps.setIfInBounds t u) (by simpa using h1) (by simpa using h2) (fun s hs'=>by rw[hlen];exact ht s (v7 _ hs')) (by simp[hs,hlen]) (fun s=>by
     rw[Ov.get_put htl,eT (by omega)]
     split
     ·exact hx
     ·exact hd s) (fun i y v h3 h4=>hv (i+1) y v (by simpa using h3) (by simpa using h4))
    refine⟨i1,i2,i3,fun s b hb=>?_⟩
    rcases i4 s b hb with⟨t',h5⟩|⟨y,hy,h5⟩
    ·rw[Ov.get_put htl]at h5
     split at h5
     ·exact .inr ⟨x,v5 ..,h5⟩
     ·exact .inl ⟨t',h5⟩
    ·exact .inr ⟨y,v7 _ hy,h5⟩
theorem Ap{σ:SS}{b:Nat}{y:Option SB}(hb:b<=σ.N):(σ.write [(b,y)]).blk=upd σ.blk b y/\(σ.write [(b,y)]).N=max σ.N (b+1)/\(σ.write [(b,y)]).tmp=σ.tmp/\(σ.write [(b,y)]).L=σ.L:=by
 obtain⟨h1,h2,h3,h4,_⟩:=cU σ [(b,y)] ⟨hb,trivial⟩;exact⟨h1,h2,h3,h4⟩
theorem oS{σ:SS}{b:Nat}{x:SB}{y:Option SB}(hb:σ.blk b=some x):(σ.write [(b,y)]).blk=upd σ.blk b y/\(σ.write [(b,y)]).N=σ.N/\(σ.write [(b,y)]).tmp=σ.tmp/\(σ.write [(b,y)]).L=σ.L:=by
 have:=fH hb
 obtain⟨h1,h2,h3,h4⟩:=Ap (σ:=σ) (b:=b) (y:=y) (by omega)
 exact⟨h1,by rw[h2];omega,h3,h4⟩
def eX(i:LoopI)(ex:Ex):SB:=.loop i (if ex.jmp==.none then .ready else .done) ex.jmp
theorem NL{cons:Nat->Bool}{own:Bool}{ro:Option Nat}{ops:Array Oper}{i:Nat}{o:Oper}(ho:ops[i]?=some o){σ σt:SS}{b:Nat}{vs:List SV}(hc:dj P cons own σt.tr σ.N σ.ev σ.blk o=.yld b vs)(hft:∀c∈bu σ.ev o,c<σ.N)(hvn:∀x∈vs,∀b∈x.names,b<σ.N)(hcl:∀b x,σ.blk b=some x->∀c∈x.names,c<σ.N)
  {li:LoopI} (hb:σ.blk b=some (.loop li .ready .none)) (hlen:vs.length=li.params.size) (hpar:∀t∈li.params.toList,t<li.rf.len)
  {σ₁:SS} (hl1:Leads P w0 (some b) li.assign env { σ with rf:=fu li.params.toList vs li.rf } .normal σ₁) {i₁:LoopI} (hb1:σ₁.blk b=some (.loop i₁ .ready .none))
  {ex₂:Ex} {σ₂:SS} (hl2:Leads P w0 (some b) li.body env (σ₁.write [(b,some (.loop i₁ .busy .none))]) ex₂ σ₂) {i₂:LoopI} (hb2:σ₂.blk b=some (.loop i₂ .busy .none))
  (hnp:ex₂.isPanic=false) (hd:∀d,o.dst=some d->d<σ.L) (hw:cq ops o σ.tmp env true):
  StepSem P w0 env ro σ.L ops σ.N (σ₂.write [(b,some (eX i₂ ex₂))]).N i ⟨.vb (.bool (ex₂.jmp==.none)),cC σ (σ₂.write [(b,some (eX i₂ ex₂))]),{ rt:=bo ops o,rb:=RJ σ.N,dst:=o.dst,wb:=kH σ (σ₂.write [(b,some (eX i₂ ex₂))]) }⟩ σ.tmp σ.blk:=by
 obtain⟨σ₃,hσ₃⟩:∃σ₃,σ₃=σ₂.write [(b,some (eX i₂ ex₂))]:=⟨_,rfl⟩
 obtain⟨z1,z2,_,_⟩:=oS (σ:=σ₂) (y:=some (eX i₂ ex₂)) hb2
 rw[<-hσ₃]at z1 z2⊢
 obtain⟨j,f,k,y4⟩:=oS (σ:=σ₁) (y:=some (.loop i₁ .busy .none)) hb1
 have hle1:σ.N<=σ₁.N:=hl1.le
 have hle2:σ₁.N<=σ₂.N:=by have:=hl2.le;rw[f]at this;exact this
 have hle:σ.N<=σ₃.N:=by omega
 refine⟨by simp only[cC,List.map_map];exact(List.map_id' _).symm,fun c hc=>(changed_mem.1 hc).1,hle,fun c hc=>?_,fun c h1 h2=>changed_mem.2 ⟨h2,.inl h1⟩,hd,fun κ F U tmp' blk' a w K Q h ht hb' hf hro _ hK=>?_,fun x hx=>(by cases hx)⟩
 ·by_cases hlt:c<σ.N
  ·exact .inl (List.mem_range.2 hlt)
  ·exact .inr (by omega)
 ·have hbk0:∀c,c<σ.N->blk' c=σ.blk c:=fun c hc=>hb' c (List.mem_range.2 hc)
  have hev:∀x∈o.op.operands,ai tmp' x=σ.ev x:=fun x hx=>by rw[jD];exact fo ht x hx
  have hbk:∀x∈o.op.operands,∀c∈(σ.ev x).names,blk' c=σ.blk c:=fun x hx c hc=>hbk0 c (hft c (by unfold bu;exact List.mem_flatMap.2 ⟨x,by simpa using hx,hc⟩))
  have hc':dj P cons own σt.tr σ.N (ai tmp') blk' o=.yld b vs:=by rw[nD hev hbk];exact hc
  obtain⟨g,cargs,tys,hop,hg,hvs⟩:=NN hc';have hbN:=fH hb;have hbb:blk' b=some (.loop li .ready .none):=by rw[hbk0 b hbN];exact hb
  obtain⟨l,r,q1,q2,q3,q4,q5,q6,q7,q8,q9,_,_⟩:=h.record hbb;have hUb:U b:=(h.bnames b _ hbb).1
  have hevg:=h.ev g;rw[hg]at hevg;obtain⟨l',e0,e1⟩:=hevg;rw[q1]at e0;cases e0
  have hmid:(cargs.map a.eval).toList.length=vs.length/\∀(i:Nat) x u,vs[i]?=some x->(cargs.map a.eval).toList[i]?=some u->SVden env κ F w x u:=by
   rw[hvs];refine⟨by simp,fun i x u hx hu=>?_⟩
   rw[y9]at hx;rw[Sj,y9]at hu;obtain⟨y,hy,rfl⟩:=Option.map_eq_some_iff.1 hx;rw[hy]at hu;cases hu
   exact wL (fun b e t l hb=>h.blks b _ hb) (h.ev y)
  have hsz:(cargs.map a.eval).size=r.params.size:=by rw[q5,<-hlen,<-hmid.1];simp
  have hrun:(execOp a.eval o).run P w=.ok (.round l r.fn ((r.params.zip (cargs.map a.eval)).foldl (fun tmps (t,a)=>tmps.setIfInBounds t a) r.tmps) r.assign r.body) w:=by
   have hy:=run_yield (P:=P) (w:=w) (l:=l) (r:=r) (args:=cargs.map a.eval) q2 hsz;simp only[execOp,hop,resolve,e1,Deferred.ofValue,Sem.run_bind,Sem.run_pure,Result.andThen_ok,invoke];simpa using hy
  obtain⟨p1,p2,p3,p4⟩:=Dy (env:=env) (κ:=κ) (F:=F) (w:=w) li.params.toList vs (cargs.map a.eval).toList li.rf r.tmps (by simpa using hlen.symm) (by rw[hmid.1];simpa using hlen.symm) hpar q8 q9 hmid.2
  have hfold:(r.params.zip (cargs.map a.eval)).foldl (fun tmps (t,a)=>tmps.setIfInBounds t a) r.tmps=(li.params.toList.zip (cargs.map a.eval).toList).foldl (fun(tmps:Array Value) (x:Nat×Value)=>tmps.setIfInBounds x.1 x.2) r.tmps:=by
   rw[q5,<-Array.toList_zip,Array.foldl_toList]
  have hnm:∀x∈vs,∀c∈x.names,U c:=by
   intro x hx c hcn;rw[hvs]at hx;obtain⟨y,hy,rfl⟩:=List.mem_map.1 hx;exact h.evNames y c (xv _ _ c hcn)
  have hlow:Rel w0 env κ F (fun b=>U b/\b<σ.N) (fun _=>.any) σ.blk a.tmps.size a w:=by
   have h0:=h.callee (σ:=σ) hbk0 (tmp':=fun _=>.any) (a':=a) (fun _=>trivial) rfl (fun t b hb=>by cases hb)
   exact{ h0 with tnames:=fun t b hb=>(by cases hb),bnames:=fun b x hx=>⟨⟨(h0.bnames b x hx).1,fH hx⟩,fun c hc=>⟨(h0.bnames b x hx).2 c hc,hcl b x hx c hc⟩⟩ }
  have hround:Rel w0 env κ F (fun b=>U b/\b<σ.N) ({ σ with rf:=fu li.params.toList vs li.rf }:SS).tmp ({ σ with rf:=fu li.params.toList vs li.rf }:SS).blk ({ σ with rf:=fu li.params.toList vs li.rf }:SS).L { tmps:=(r.params.zip (cargs.map a.eval)).foldl (fun tmps (t,a)=>tmps.setIfInBounds t a) r.tmps,defers:=[] } w:=by
   rw[hfold];refine hlow.callee (σ:=σ) (fun _ _=>rfl) p3 (by rw[p2];exact p1.symm) (fun t c hcn=>?_)
   rcases p4 t c hcn with⟨t',h5⟩|⟨x,hx,h5⟩
   ·exact zn hlow hb t' c h5
   ·exact⟨hnm x hx c h5,hvn x hx c h5⟩
  have hro1:dY κ (some b)=some l:=by simp[dY,q1,ak]
  have hgo1:=hl1.go κ F _ _ w hround (fun c h1 h2=>by have h1:σ.N<=c:=h1;omega) (fun c hc=>by cases hc;exact⟨hUb,hbN⟩)
  unfold wpOpIn;rw[ho];simp only
  rw[if_pos (fk h hw ht)];refine⟨fun _ _=>trivial,?_⟩
  rw[Oper.semAt_eq _ _ _ (fU hc' (fun m hm=>by cases hm)),hrun,Oper.uponIn_round]
  refine⟨fun h=>(by cases h),roundIn_of_wpIn trivial ?_⟩
  rw[q6,q7];rw[hro1]at hgo1;refine wpIn_mono (F:=FR (some l)) hgo1 ?_
  rintro e a₁ w₁ ⟨rfl,κ₁,F₁,r1,k1,_⟩;obtain⟨l₁,rec₁,s1,s2,s3,s4,s5,s6,s7,s8,s9,s10,_⟩:=r1.record hb1;have:l₁=l:=by have:=k1.kap b ⟨hUb,hbN⟩;rw[s1,q1]at this;injection this with h1;injection h1 with h1;injection h1
  subst this;obtain⟨r2,k2⟩:=s10 .busy .none { rec₁ with state:=.busy } rfl s4 rfl rfl rfl rfl
  refine⟨_,run_beginRound s2 s3,?_⟩
  have hro2:dY κ₁ (some b)=some l₁:=by simp[dY,s1,ak]
  have hgo2:=hl2.go κ₁ F₁ (fun c=>(U c/\c<σ.N)\/(σ.N<=c/\c<σ₁.N)) a₁ _ (by rw[j,k,y4];exact r2) (fun c h1 hc=>by rw[f]at h1;omega) (fun c hc=>by cases hc;exact .inl ⟨hUb,hbN⟩)
  rw[hro2]at hgo2;refine wpIn_mono (F:=FR (some l₁)) hgo2 ?_
  rintro e a₂ w₂ ⟨rfl,κ₂,F₂,r3,k3,_⟩;rw[j]at k3;rw[f]at r3;obtain⟨l₂,rec₂,t1,t2,t3,t4,t5,t6,t7,t8,t9,t10,_⟩:=r3.record hb2;have:l₂=l₁:=by have:=k3.kap b (.inl ⟨hUb,hbN⟩);rw[t1,s1]at this;injection this with h1;injection h1 with h1;injection h1
  subst this;have hjump:∀jump:Option Code,jump=ex₂.jmp.code->jump.isNone=(ex₂.jmp==.none)->∃v w',(Instr.endRound l₂ jump).run P w₂=.ok v w'/\K (a.put o.dst v) w':=by
   intro jump hj hn;refine⟨_,_,run_endRound jump t2,?_⟩
   obtain⟨r4,k4⟩:=t10 (if ex₂.jmp==.none then .ready else .done) ex₂.jmp { rec₂ with state:=if jump.isNone then .ready else .done,pending:=jump } (by rw[hn]) hj rfl rfl rfl rfl
   have hk:Kept (fun c=>U c/\c<σ.N) σ.blk κ F w σ₃.blk κ₂ F₂ (w₂.putObj l₂ (.loop { rec₂ with state:=if jump.isNone then .ready else .done,pending:=jump })):=by
    have k12:=k1.trans k2 (fun c hc=>.inl hc)
    have k13:=k12.trans k3 (fun c hc=>.inl hc)
    have k14:=k13.trans k4 (fun c hc=>.inl (.inl hc))
    rw[z1];exact k14
   obtain⟨κ₃,_,r5,k5⟩:=h.embed' (σ:=σ) (σ':=σ₃) hbk0 hle hf (by
    rw[z1,z2];exact r4.monoU (fun c hc=>by
     rcases hc with(hc|hc)|hc
     ·exact .inl hc
     ·exact .inr ⟨hc.1,by omega⟩
     ·exact .inr ⟨by omega,hc.2⟩)) hk
   have hput:=r5.put (dst:=o.dst) (v:=.vb (.bool (ex₂.jmp==.none))) (u:=.bool jump.isNone) hd ⟨by rw[hn];rfl,rfl⟩ (fun c hc=>by cases hc)
   exact hK κ₃ F₂ _ _ hput k5 (by cases o.dst<;>rfl)
  cases ex₂ with
  |normal=>exact hjump none rfl rfl
  |ret=>exact hjump (some .ret) rfl rfl
  |exit id=>exact hjump (some (.exit id)) rfl rfl
  |panic v=>cases hnp
def Jmp.ex:Jmp->Ex
 |.none=>.normal
 |.ret=>.ret
 |.exit id=>.exit id
theorem Mz(h:Rel w0 env κ F U tmp blk L a w){ro:Option Nat}(hro:∀b,ro=some b->Ir (blk b)=true){N:Nat}(hN:¬U N){rf:Ov SV}(hrf:∀t,rf.get .any t=tmp t)(hL:rf.len=L)(fid fn:Nat)(ps:Array Tmp)(assign body:Code):
  ∃l mark w₁ κ₁,(Instr.enterLoop fn a.tmps ps assign body (dY κ ro)).run P w=.ok (l,mark) w₁/\κ₁ N=.pointer (some ⟨l,0,none⟩)/\Rel w0 env κ₁ F (fun b=>U b\/b=N) tmp (upd blk N (some (.loop ⟨fid,rf,ps,assign,body⟩ .ready .none))) L a w₁ ∧
   Kept U blk κ F w (upd blk N (some (.loop ⟨fid,rf,ps,assign,body⟩ .ready .none))) κ₁ F w₁/\Marks w a.defers F w₁ (mark++a.defers):=by
 have hnames:∀c∈(SB.loop ⟨fid,rf,ps,assign,body⟩ .ready .none).names,U c:=fun c hc=>by
  obtain⟨t,_,hc⟩:=List.mem_flatMap.1 hc;simp only at hc
  rw[hrf]at hc;exact h.tnames t c hc
 have lay:∀(w₁:World),Rel w0 env κ F U tmp blk L a w₁->∀r:Loop,r.state=.ready->r.pending=none->r.tmps=a.tmps->r.params=ps->r.assign=assign->r.body=body →
   Rel w0 env (upd κ N (.pointer (some ⟨w₁.heap.size,0,none⟩))) F (fun b=>U b\/b=N) tmp (upd blk N (some (.loop ⟨fid,rf,ps,assign,body⟩ .ready .none))) L a (w₁.alloc (.loop r)) ∧
   Kept U blk κ F w₁ (upd blk N (some (.loop ⟨fid,rf,ps,assign,body⟩ .ready .none))) (upd κ N (.pointer (some ⟨w₁.heap.size,0,none⟩))) F (w₁.alloc (.loop r)):=by
  intro w₁ h₁ r g1 g2 g3 g4 g5 g6;refine⟨h₁.new hN rfl ⟨w₁.heap.size,r,au ..,World.alloc_heap_new _ _,h₁.below.size,g1,g2,g4,g5,g6,by rw[g3,h₁.size];exact hL.symm,fun t=>?_⟩ hnames,h₁.new_kept hN rfl⟩
  rw[g3];show SVden _ _ _ _ (rf.get .any t) _
  rw[hrf];exact xj h₁ hN (h₁.tnames t) (h₁.tmps t)
 cases ro with
 | none=>
  have h1:Rel w0 env κ F U tmp blk L a (w.alloc (.deferred (some []))):=by
   have hk:∀k,k<w.heap.size->(w.alloc (.deferred (some []))).heap[k]?=w.heap[k]?:=fun k hk=>Below.heap_alloc _ _ _ hk
   refine h.world (fun _ h=>h) (fun _ _=>rfl) (fun _ h=>h) (fun k hF=>hk k (h.F k hF)) (fun b x hx=>.inl ⟨hx,fun hl k hb=>hk k ((h.blks b x hx).lt hl hb).2⟩) h.inj h.nF (fun k hF=>by have:=h.F k hF;simp;omega) (h.below.trans ?_)
   exact⟨rfl,rfl,rfl,by simp,fun k hk'=>hk k (by have:=h.below.size;omega)⟩
  have k1:Kept U blk κ F w blk κ F (w.alloc (.deferred (some []))):=⟨fun _ _=>rfl,fun _ h=>h,fun _ h=>.inl h,by simp,fun k hk _=>Below.heap_alloc _ _ _ hk,fun b k h1 h2=>.inr ⟨b,h1,h2⟩,.of fun k hk=>.inr (Below.heap_alloc _ _ _ hk)⟩
  obtain⟨r2,k2⟩:=lay _ h1 { state:=.ready,pending:=none,fn,tmps:=a.tmps,params:=ps,assign,body,defers:=w.heap.size } rfl rfl rfl rfl rfl rfl
  refine⟨_,_,_,_,run_enterLoop_outer fn a.tmps ps assign body,?_,r2,k1.trans k2 (fun _ h=>h),[w.heap.size],rfl,by simp,fun D hD=>?_⟩
  ·rw[au];simp
  ·have:D=w.heap.size:=by simpa using hD
   subst this;refine⟨v3 _,?_,fun hF=>by have:=h.F _ hF;omega⟩
   rw[Below.heap_alloc _ _ _ (by simp)]
   exact World.alloc_heap_new _ _
 | some b₀=>
  have hlp:=hro b₀ rfl;cases hb:blk b₀ with
  |none=>rw[hb]at hlp;cases hlp
  | some y=>
   rw[hb]at hlp;cases y with
   |loop i st p=>
    obtain⟨l₀,r₀,q1,q2,_⟩:=h.record hb;have hr0:dY κ (some b₀)=some l₀:=by simp[dY,q1,ak]
    rw[hr0];obtain⟨r2,k2⟩:=lay w h { state:=.ready,pending:=none,fn,tmps:=a.tmps,params:=ps,assign,body,defers:=r₀.defers } rfl rfl rfl rfl rfl rfl
    exact⟨_,_,_,_,run_enterLoop_inner q2 fn a.tmps ps assign body,au ..,r2,k2,Marks.nil⟩
   |_=>cases hlp
theorem J2(hfit:PFit P){ro:Option Nat}{fid:Nat}{g:Operand}{ps:Array Tmp}{assign body:Code}{σ:SS}{f:Nat}{fs xs:SV}(hg:σ.ev g=.fn f fs xs){fn:Func}{c:Code}(hfn:P.funcs[f]?=some fn)(hb:fn.body=some c)(hro:∀b,ro=some b->Ir (σ.blk b)=true)
  (hres:fn.results.isEmpty=true) {ex:Ex} {σ':SS} (hex:ex.out=true)
  (hl:Leads P w0 none c env ((σ.write [(σ.N,some (.loop ⟨fid,σ.rf,ps,assign,body⟩ .ready .none))]).frame (fs.list++[.yld σ.N]++xs.list) fn.ntmps) ex σ') {i:LoopI} {st:LoopState} {p:Jmp} (hblk:σ'.blk σ.N=some (.loop i st p)) (hst:st≠.busy):
  Leads P w0 ro (.rangeFunc g ps assign body) env σ p.ex { σ'.write [(σ.N,none)]with rf:=σ.rf }:=by
 obtain⟨d,j,k,y4⟩:=Ap (σ:=σ) (b:=σ.N) (y:=some (.loop ⟨fid,σ.rf,ps,assign,body⟩ .ready .none)) (v3 _)
 obtain⟨z1,z2,_,_⟩:=oS (σ:=σ') (y:=none) hblk
 obtain⟨σ₁,hσ₁⟩:∃σ₁,σ₁=σ.write [(σ.N,some (.loop ⟨fid,σ.rf,ps,assign,body⟩ .ready .none))]:=⟨_,rfl⟩
 rw[<-hσ₁]at d j hl;have hle:σ₁.N<=σ'.N:=hl.le
 have hN1:σ₁.N=σ.N+1:=by rw[j];omega
 refine⟨by show σ.N<=(σ'.write [(σ.N,none)]).N;rw[z2];omega,fun κ F U a w h hU hroU=>?_⟩
 have hUN:∀b,σ.N<=b->¬U b:=hU
 refine wpIn_rangeFunc (fun fnid _=>?_)
 obtain⟨l,mark,w₁,κ₁,he,hκ,r1,k1,m1⟩:=Mz (P:=P) h hro (hUN σ.N (v3 _)) (rf:=σ.rf) (fun t=>rfl) rfl fid fnid ps assign body
 have hevg:=h.ev g;rw[<-jD,hg]at hevg;obtain⟨ds,cs,e1,hp1,hp2,d1,d2⟩:=hevg;have hgn:∀b∈(σ.ev g).names,U b:=fun b hb=>by rw[jD]at hb;exact h.evNames g b hb
 rw[hg]at hgn;have hname:¬fn.name = "runtime.NumGoroutine" := hfit.name f fn hfn
 have hb0:¬fn.body=none:=by rw[hb];intro hh;cases hh
 refine⟨l,mark,w₁,{ target:=.fn (.func f) cs,args:=ds++#[.func (.yield l) #[] #[]] },w₁,f,(ds++#[.func (.yield l) #[] #[]])++cs,w₁,he,?_,fun _ _=>trivial,?_,fun hh=>(by cases hh),?_⟩
 ·simp[rangeCall,resolve,e1,Deferred.ofValue,show ∀v,a.eval (.const v)=v from fun _=>rfl]
 ·simp[invoke,callFunc,hfn,hname,hb0]
 ·have kp:∀ {x:SV} {u:Value},(∀b∈x.names,U b)->SVden env κ F w x u->SVden env κ₁ F w₁ x u:=fun hn hd=>k1.sv h hd hn
  have hyl:SVden env κ₁ F w₁ (.yld σ.N) (.func (.yield l) #[] #[]):=⟨l,hκ,rfl⟩
  have hmid:[Value.func (.yield l) #[] #[]].length=[SV.yld σ.N].length/\∀(i:Nat) x u,[SV.yld σ.N][i]?=some x->[Value.func (.yield l) #[] #[]][i]?=some u->SVden env κ₁ F w₁ x u:=by
   refine⟨rfl,fun i x u hx hu=>?_⟩
   cases i with
   |zero=>simp at hx hu;subst hx;subst hu;exact hyl
   |succ i=>simp at hx
  obtain⟨l1,l2⟩:=qG (qG (mg hp1 (kp (fun b hb=>hgn b (y8 _ hb)) d1)) hmid) (mg hp2 (kp (fun b hb=>hgn b (y1 _ hb)) d2))
  have hua:((ds++#[Value.func (.yield l) #[] #[]])++cs).toList=ds.toList++[Value.func (.yield l) #[] #[]]++cs.toList:=by simp
  rw[<-hua]at l1 l2;obtain⟨fr1,fr2⟩:=tC (σ:=σ₁) (vs:=fs.list++[.yld σ.N]++xs.list) (us:=(ds++#[Value.func (.yield l) #[] #[]])++cs) (n:=fn.ntmps) (by rw[<-l1,Array.length_toList]) (fun i x u hx hu=>l2 i x u hx (by rw[RT];exact hu))
  have hnm:∀x∈fs.list++[SV.yld σ.N]++xs.list,∀b∈x.names,(U b\/b=σ.N):=by
   intro x hx b hbn;rcases List.mem_append.1 hx with hx|hx
   ·rcases List.mem_append.1 hx with hx|hx
    ·exact .inl (hgn b (y8 _ (cr fs x hx b hbn)))
    ·have:x=.yld σ.N:=by simpa using hx
     subst this;exact .inr (by simpa[SV.names]using hbn)
   ·exact .inl (hgn b (y1 _ (cr xs x hx b hbn)))
  have hcr:Rel w0 env κ₁ F (fun b=>U b\/b=σ.N) (σ₁.frame (fs.list++[.yld σ.N]++xs.list) fn.ntmps).tmp (σ₁.frame (fs.list++[.yld σ.N]++xs.list) fn.ntmps).blk (σ₁.frame (fs.list++[.yld σ.N]++xs.list) fn.ntmps).L
    { tmps:=((ds++#[Value.func (.yield l) #[] #[]])++cs)++v8 (fn.ntmps-((ds++#[Value.func (.yield l) #[] #[]])++cs).size) undef,defers:=[] } w₁:=
   r1.callee (σ:=σ₁) (fun b _=>by rw[d]) fr1 fr2 (oI hnm)
  have hrs:bU P σ' fn.results.toList=some []:=by
   have:fn.results.toList=[]:=by simpa using hres
   rw[this];rfl
  have hfr:∀b,(σ₁.frame (fs.list++[.yld σ.N]++xs.list) fn.ntmps).N<=b->¬(U b\/b=σ.N):=fun b h1 hh=>by
   have h1:σ₁.N<=b:=h1
   rcases hh with hh|hh
   ·exact hUN b (by omega) hh
   ·omega
  refine(E2 (ol hfn hb hex hl hcr hfr hrs)).mono ?_
  rintro e w' ⟨u,κ',F',a',rfl,r2,k2,_⟩;obtain⟨l',rec',s1,s2,s3,s4,_,_,_,_,_,_,s5⟩:=r2.record hblk;have:l'=l:=by have:=k2.kap σ.N (.inr rfl);rw[s1,hκ]at this;injection this with h1;injection h1 with h1;injection h1
  subst this;refine⟨_,_,run_endLoop s2 (by rw[s3];exact hst),?_⟩
  obtain⟨r3,k3⟩:=s5 { rec' with state:=.exhausted } rfl rfl rfl rfl
  have hk2:Kept (fun b=>U b\/b=σ.N) (upd σ.blk σ.N (some (.loop ⟨fid,σ.rf,ps,assign,body⟩ .ready .none))) κ₁ F w₁ σ'.blk κ' F' w':=by rw[<-d];exact k2
  have k23:=hk2.trans k3 (fun b hb=>.inl hb)
  have hK:=k1.trans k23 (fun b hb=>.inl hb)
  have hM:=m1.next r1 k23;have hNs:(σ₁.frame (fs.list++[.yld σ.N]++xs.list) fn.ntmps).N=σ.N+1:=hN1
  have hend:Ends w0 env κ F U σ a w { σ'.write [(σ.N,none)]with rf:=σ.rf } { a with defers:=mark++a.defers } (w'.putObj l' (.loop { rec' with state:=.exhausted })):=by
   refine⟨κ',F',?_,by show Kept _ _ _ _ _ (σ'.write [(σ.N,none)]).blk _ _ _;rw[z1];exact hK,hM⟩
   show Rel w0 env κ' F' (fun b=>U b\/(σ.N<=b/\b<(σ'.write [(σ.N,none)]).N)) σ.tmp (σ'.write [(σ.N,none)]).blk σ.L _ _
   rw[z1,z2];have hmem:∀b,((U b\/b=σ.N)\/((σ₁.frame (fs.list++[.yld σ.N]++xs.list) fn.ntmps).N<=b/\b<σ'.N))->(U b\/(σ.N<=b/\b<σ'.N)):=fun b hb=>by
    rcases hb with(hb|hb)|hb
    ·exact .inl hb
    ·exact .inr (by omega)
    ·exact .inr ⟨by rw[hNs]at hb;omega,hb.2⟩
   have r4:=r3.monoU hmem;exact{ r4 with tmps:=fun t=>hK.sv h (h.tmps t) (h.tnames t),size:=h.size,tnames:=fun t b hb=>.inl (h.tnames t b hb) }
  revert hend
  generalize w'.putObj l' (.loop { rec' with state:=.exhausted })=W
  intro hend;rw[s4];cases p with
  |none=>exact⟨rfl,hend⟩
  |ret=>exact wpIn_ret ⟨rfl,hend⟩
  |exit id=>exact wpIn_exit ⟨rfl,hend⟩
variable {env:List AV} {κ κ':Nat->Value} {F F':Nat->Prop} {w w' w0:World} {U:Nat->Prop} {tmp:Nat->SV} {blk:Nat->Option SB} {L:Nat} {a:Act} {P:Program} {Post:R->Prop} {K:Nat->List AV->Prop}
def Path(P:Program)(Post:R->Prop)(w0:World)(ro:Option Nat)(c:Code)(env:List AV)(K:Nat->List AV->Prop)(σ:SS)(k:Ex->SS->T):Prop:=
 ∃(ex:Ex) (σ':SS) (rs:List AV) (K':Nat->List AV->Prop),(k ex σ').den P Post (env++rs) K'/\(∀l,l<σ.dep->K' l=K l)/\σ'.dep=σ.dep/\KnownOK (env++rs) σ'.n σ'.known/\(env++rs).length=σ'.n/\∀us,Leads P w0 ro c (env++rs++us) σ ex σ'
def qL(P:Program)(w0:World)(run:Run):Prop:=
 ∀(Post:R->Prop) (K:Nat->List AV->Prop) (ro:Option Nat) (fid:Nat) (c:Code) (k:Ex->SS->T) (σ:SS) (env:List AV),env.length=σ.n->KnownOK env σ.n σ.known->(run ro fid c k σ).den P Post env K->Path P Post w0 ro c env K σ k
theorem ML(l:List E)(t:T):(T.needs l t).den P Post env K↔(∀e∈l,(den env e).b=true)/\t.den P Post env K:=by
 induction l with
 |nil=>simp[T.needs]
 |cons e l ih=>simp only[T.needs,T.den,ih,List.forall_mem_cons,and_assoc]
theorem KW(r:R):r.leaves.length=(mkRes.RS.cnt r.shape).1:=by
 induction r with
 |cons x y ih1 ih2=>simp[R.leaves,R.shape,mkRes.RS.cnt,ih1,ih2]
 |agg x ih=>exact ih
 |tup x ih=>exact ih
 |_=>rfl
theorem Ny(nd:List E):∀σ:SS,∃kn,nd.foldl (fun σ e=>σ.learn e true) σ={ σ with known:=kn }/\(KnownOK env σ.n σ.known->(∀e∈nd,e.sc σ.n=true/\(den env e).b=true)->KnownOK env σ.n kn):=by
 induction nd with
 |nil=>intro σ;exact⟨σ.known,rfl,fun h _=>h⟩
 |cons e nd ih=>
  intro σ;obtain⟨kn,h1,h2⟩:=ih (σ.learn e true);refine⟨kn,h1,fun h hn=>?_⟩
  exact h2 (iM h (hn e (v5 ..)).1 (hn e (v5 ..)).2) (fun x hx=>hn x (v7 _ hx))
theorem KnownOK.ext'{n:Nat}{rs:List AV}{known:List (E×Bool)}(h:KnownOK env n known)(hn:env.length=n):KnownOK (env++rs) n known:=h.ext hn (v3 _)
def Qu(P:Program)(Post:R->Prop)(K:Nat->List AV->Prop)(w0:World)(ro:Option Nat)(env:List AV)(ops:Array Oper)(i:Nat)(σ:SS)(kp:Value->SS->T):Prop:=
 ∃(v:Value) (r1:List AV) (σ':SS) (K':Nat->List AV->Prop),(kp v σ').den P Post (env++r1) K'/\(∀l,l<σ.dep->K' l=K l)/\KnownOK (env++r1) σ'.n σ'.known/\(env++r1).length=σ'.n ∧
  (∀rs,sI P w0 (env++r1++rs) ro σ.L ops σ.N σ'.N i v σ.tmp σ.blk σ'.blk)/\σ'.tmp=σ.tmp/\σ'.L=σ.L/\σ'.dep=σ.dep/\σ.N<=σ'.N
def Rz(P:Program)(Post:R->Prop)(K:Nat->List AV->Prop)(w0:World)(ro:Option Nat)(env:List AV)(ops:Array Oper)(i:Nat)(σ:SS)(k:SS->Seen->T):Prop:=
 ∃(r1:List AV) (σ':SS) (s:Stp) (K':Nat->List AV->Prop),(k σ' s.seen).den P Post (env++r1) K'/\(∀l,l<σ.dep->K' l=K l)/\KnownOK (env++r1) σ'.n σ'.known/\(env++r1).length=σ'.n ∧
  (∀rs,StepSem P w0 (env++r1++rs) ro σ.L ops σ.N σ'.N i s σ.tmp σ.blk)/\σ'.tmp=fP σ.tmp s.seen.dst s.v/\σ'.blk=aH σ.blk s.wr/\σ'.L=σ.L/\σ'.dep=σ.dep
def D4(P:Program)(Post:R->Prop)(K:Nat->List AV->Prop)(w0:World)(ro:Option Nat)(env:List AV)(ops:Array Oper)(i:Nat)(σ:SS)(k:SS->Seen->T)(kp:Value->SS->T):Prop:=
 Rz P Post K w0 ro env ops i σ k\/Qu P Post K w0 ro env ops i σ kp
theorem Lp{ops:Array Oper}{o:Oper}{b:Bool}{known:List (E×Bool)}{n:Nat}(hg:∀j want,o.guard=some (j,want)->∃d e,(ops[j]?).bind (·.dst)=some d/\tmp d=.vb e/\∃t,nu known e=some t/\b=decide (t=want))(h0:o.guard=none->b=true)
  (hk:KnownOK env n known) (hn:env.length=n) (rs:List AV):cq ops o tmp (env++rs) b:=by
 unfold cq;split
 ·rename_i hh;exact h0 hh
 ·rename_i j want hh
  obtain⟨d,e,h1,h2,t,h3,h4⟩:=hg j want hh;refine⟨d,h1,.inl ⟨e,h2,?_⟩⟩
  rw[h4,oa (hk.ext' hn) h3]
theorem kA{σ:SS}{o:Oper}(h:wX σ o=true):∀d,o.dst=some d->d<σ.L:=fun d hd=>by
 unfold wX at h;rw[hd]at h;exact jj h
theorem CO{σ:SS}{o:Oper}{v:SV}{wr:List (Nat×Option SB)}(hw:ku σ.N wr)(hd:∀d,o.dst=some d->d<σ.L):(σ.eff o v wr).tmp=fP σ.tmp o.dst v/\(σ.eff o v wr).blk=aH σ.blk wr/\(σ.eff o v wr).N=cE σ.N wr/\(σ.eff o v wr).L=σ.L/\(σ.eff o v wr).n=σ.n/\(σ.eff o v wr).known=σ.known/\(σ.eff o v wr).dep=σ.dep:=by
 obtain⟨h1,h2,h3,h4,h5,h6,h7⟩:=cU σ wr hw;obtain⟨g1,g2,g3,g4,g5,g6,g7⟩:=eZ (σ.write wr) (dst:=o.dst) (v:=v) (fun d hd'=>by rw[h4];exact hd d hd')
 exact⟨by rw[<-h3];exact g1,g2.trans h1,g3.trans h2,g6.trans h4,g4.trans h5,g5.trans h6,g7.trans h7⟩
theorem NJ{cons:Nat->Bool}{own:Bool}{ro:Option Nat}(hfit:PFit P){ops:Array Oper}{i:Nat}{o:Oper}(ho:ops[i]?=some o){σ σ₁:SS}{f:Nat}(hc:dj P cons own σ₁.tr σ.N σ.ev σ.blk o=.inl f []){ks vs:SV}(hm:LQ P f ks vs)(hk:ks.names=[])(hv:vs.names=[])(hks:ks.sc 0=true)(hvs:vs.sc 0=true)
  (hd:∀d,o.dst=some d->d<σ.L) (hw:cq ops o σ.tmp env true):
  StepSem P w0 env ro σ.L ops σ.N (σ.N+1) i ⟨.map σ.N,[(σ.N,some (.map ks vs))],{ rt:=bo ops o,rb:=bu σ.ev o,dst:=o.dst,wb:=[σ.N] }⟩ σ.tmp σ.blk:=by
 refine⟨rfl,fun b hb=>by rw[List.mem_singleton.1 hb];exact R0 _,Nat.le_succ _,fun b hb=>.inr (by rw[List.mem_singleton.1 hb];exact v3 _),fun b h1 h2=>List.mem_singleton.2 (by omega),hd,fun κ F U tmp' blk' a w K Q h ht hb' hf hro _ hK=>?_,fun x hx=>(by cases hx)⟩
 have hev:∀x∈o.op.operands,ai tmp' x=σ.ev x:=fun x hx=>by rw[jD];exact fo ht x hx
 have hbk:∀x∈o.op.operands,∀b∈(σ.ev x).names,blk' b=σ.blk b:=fun x hx b hb=>hb' b (by unfold bu;exact List.mem_flatMap.2 ⟨x,by simpa using hx,hb⟩)
 have hc':dj P cons own σ₁.tr σ.N (ai tmp') blk' o=.inl f []:=by rw[nD hev hbk];exact hc
 obtain⟨g,cargs,tys,fs,xs,fn,hop,hg,hfn,hbody,hl⟩:=I5 hc';have hevg:=h.ev g;rw[hg]at hevg;obtain⟨ds,cs,e1,hp1,hp2,d1,d2⟩:=hevg;have hl':(fs.list=[]/\cargs.toList=[])/\xs.list=[]:=by
  have:=hl.symm
  simp only[List.append_eq_nil_iff,List.map_eq_nil_iff]at this;exact this
 have hds:ds=#[]:=by
  have:=(mg hp1 d1).1
  rw[hl'.1.1]at this;exact R3 (by simpa using this)
 have hcs:cs=#[]:=by
  have:=(mg hp2 d2).1
  rw[hl'.2]at this;exact R3 (by simpa using this)
 have hca:cargs=#[]:=by rw[<-Array.toArray_toList (xs:=cargs),hl'.1.2]
 subst hds;subst hcs;subst hca;have hrun:(execOp a.eval o).run P w=.ok (.enter f #[]) w:=by
  have hn:¬fn.name = "runtime.NumGoroutine" := hfit.name f fn hfn
  have hb0:¬fn.body=none:=by intro hh;rw[hh]at hbody;cases hbody
  simp only[execOp,hop,resolve,e1,Deferred.ofValue,Sem.run_bind,Sem.run_pure,Result.andThen_ok,invoke,callFunc];simp[hfn,hn,hb0]
 have hUN:¬U σ.N:=hf σ.N (v3 _) (R0 _)
 unfold wpOpIn;rw[ho];simp only
 rw[if_pos (fk h hw ht)];refine zO (fU hc' (fun m hm=>by cases hm)) hrun (hm w) ?_
 rintro e w' ⟨r,es,clock,rfl,q1,q2,q3,q4,q5,q6,q7⟩;refine⟨_,rfl,?_⟩
 have hmd:MapDen env (upd κ σ.N (.pointer (some ⟨r,0,none⟩))) F w' ks vs es.toList:=by
  have h1:MapDen [] (upd κ σ.N (.pointer (some ⟨r,0,none⟩))) F w' ks vs es.toList:=q6.keep (fun b hb=>by rw[hk,hv]at hb;cases hb) (fun _ h=>h.elim) (fun _ h=>h.elim)
  have hag:Agree 0 [] env:=by
   have:=oV (env:=[]) (rs:=env) (n:=0) rfl
   exact this
  exact h1.re hag hks hvs
 have hold:∀b k,aD (blk' b)=true->ak (κ b)=some k->k<w.heap.size:=fun b k hb hk=>by
  obtain⟨y,hy,hl⟩:=bF hb;exact((h.blks b y hy).lt hl hk).2
 have hne:∀b,U b->b≠σ.N:=fun b hb e=>hUN (e▸hb)
 have hlive:∀b,aD (upd blk' σ.N (some (.map ks vs)) b)=true->b=σ.N\/(aD (blk' b)=true/\b≠σ.N):=fun b hb=>by
  by_cases e:b=σ.N
  ·exact .inl e
  ·rw[ag e]at hb;exact .inr ⟨hb,e⟩
 have hrel:Rel w0 env (upd κ σ.N (.pointer (some ⟨r,0,none⟩))) F (fun b=>U b\/(σ.N<=b/\b<σ.N+1)) tmp' (upd blk' σ.N (some (.map ks vs))) σ.L a w':=by
  refine h.world (fun b hb=>.inl hb) (fun b hb=>ag (hne b hb)) (fun k hk=>hk) (fun k hF=>q7.block k (h.F k hF)) (fun b x hx=>?_) (fun b c k hb hc h1 h2=>?_) (fun b k hb h1=>?_) (fun k hF=>Nat.lt_of_lt_of_le (h.F k hF) q7.size) (h.below.trans (q7.mono h.below.size))
  ·by_cases e:b=σ.N
   ·subst e;rw[au]at hx;cases hx
    exact .inr ⟨⟨r,es,clock,au ..,q2,Sb h.below.size q1,q3,q4,q5,hmd⟩,.inr ⟨v3 _,R0 _⟩,fun c hc=>by simp only[SB.names,hk,hv]at hc;cases hc⟩
   ·rw[ag e]at hx
    exact .inl ⟨hx,fun hl k hk=>q7.block k (hold b k (by rw[hx];exact hl) hk)⟩
  ·rcases hlive b hb with rfl|⟨hb1,hb2⟩<;>rcases hlive c hc with rfl|⟨hc1,hc2⟩
   ·rfl
   ·rw[au]at h1;rw[ag hc2]at h2
    have h1:r=k:=by simpa[ak]using h1
    have:=hold c k hc1 h2;omega
   ·rw[au]at h2;rw[ag hb2]at h1
    have h2:r=k:=by simpa[ak]using h2
    have:=hold b k hb1 h1;omega
   ·rw[ag hb2]at h1;rw[ag hc2]at h2
    exact h.inj b c k hb1 hc1 h1 h2
  ·rcases hlive b hb with rfl|⟨hb1,hb2⟩
   ·rw[au]at h1
    have h1:r=k:=by simpa[ak]using h1
    intro hF;have:=h.F _ hF;omega
   ·rw[ag hb2]at h1;exact h.nF b k hb1 h1
 have hkept:Kept U blk' κ F w (upd blk' σ.N (some (.map ks vs))) (upd κ σ.N (.pointer (some ⟨r,0,none⟩))) F w':=by
  refine⟨fun b hb=>ag (hne b hb),fun _ h=>h,fun _ h=>.inl h,q7.size,fun k hk _=>q7.block k hk,fun b k hb h1=>?_,.of fun k hk=>.inr (q7.block k hk)⟩
  rcases hlive b hb with rfl|⟨hb1,hb2⟩
  ·rw[au]at h1
   have h1:r=k:=by simpa[ak]using h1
   exact .inl (by omega)
  ·rw[ag hb2]at h1;exact .inr ⟨b,hb1,h1⟩
 have hput:=hrel.put (dst:=o.dst) (v:=.map σ.N) (u:=.map (some r)) hd ⟨r,au ..,rfl⟩ (fun b hb=>by rw[show b=σ.N by simpa[SV.names]using hb];exact .inr ⟨v3 _,R0 _⟩)
 exact hK _ F _ w' hput hkept (by cases o.dst<;>rfl)
variable {env:List AV} {κ κ':Nat->Value} {F F':Nat->Prop} {w w' w0:World} {U:Nat->Prop} {tmp:Nat->SV} {blk:Nat->Option SB} {L:Nat} {a:Act} {P:Program} {Post:R->Prop} {K:Nat->List AV->Prop} {cfg:Cfg} {run:Run} {ro:Option Nat}
theorem FJ{σ:SS}{vs:List SV}(h:vs.all σ.okSV=true):∀x∈vs,∀b∈x.names,b<σ.N:=fun x hx b hb=>by
 have:=List.all_eq_true.1 h x hx
 unfold SS.okSV at this;rw[v0,v4]at this;exact jj (this.2 b hb)
theorem AT{σ σ':SS}{dst:Option Nat}{v:SV}(hle:σ.N<=σ'.N)(hd:∀d,dst=some d->d<σ.L):(SS.put { σ' with rf:=σ.rf } dst v).tmp=fP σ.tmp dst v/\(SS.put { σ' with rf:=σ.rf } dst v).blk=aH σ.blk (cC σ σ')/\(SS.put { σ' with rf:=σ.rf } dst v).N=σ'.N/\(SS.put { σ' with rf:=σ.rf } dst v).L=σ.L ∧
  (SS.put { σ' with rf:=σ.rf } dst v).n=σ'.n/\(SS.put { σ' with rf:=σ.rf } dst v).known=σ'.known/\(SS.put { σ' with rf:=σ.rf } dst v).dep=σ'.dep:=by
 obtain⟨g1,g2,g3,g4,g5,g6,g7⟩:=eZ { σ' with rf:=σ.rf } (dst:=dst) (v:=v) hd
 refine⟨g1,?_,g3,g6,g4,g5,g7⟩
 rw[g2];funext b
 rw[BX hle (fun _ _=>rfl)]
 split
 ·rfl
 ·rename_i h
  have h1:σ'.blk b=none:=Ov.get_out (by have:¬b<σ'.N:=h;exact Nat.le_of_not_lt this)
  have h2:σ.blk b=none:=Ov.get_out (by have:¬b<σ'.N:=h;have:σ.hp.len=σ.N:=rfl;omega)
  rw[h2];exact h1
theorem MG(hrun:qL P w0 run)(hfit:PFit P){own:Bool}{id i:Nat}{ops:Array Oper}{o:Oper}(ho:ops[i]?=some o){σ:SS}{kn:List (E×Bool)}{k:SS->Seen->T}{kp:Value->SS->T}(hn:env.length=σ.n)(hk:KnownOK env σ.n kn)
  (hw:∀rs,cq ops o σ.tmp (env++rs) true) {x:Out} (hx:dj P cfg.cons.contains own (nu kn) σ.N σ.ev σ.blk o=x) (h:(fin P cfg run id { σ with known:=kn } o x k kp (bo ops o)).den P Post env K):D4 P Post K w0 ro env ops i σ k kp:=by
 cases x with
 |no m=>exact h.elim
 |br c=>exact h.elim
 |panic v=>
  replace h:(kp v { σ with known:=kn }).den P Post env K:=h
  exact .inr ⟨v,[],{ σ with known:=kn },K,by rw[v2];exact h,fun _ _=>rfl,by rw[v2];exact hk,by rw[v2];exact hn,fun rs=>Qe ho (σ:=σ) (σ₁:={ σ with known:=kn }) hx (by have:=hw rs;rw[<-v2 env]at this;exact this),rfl,rfl,rfl,v3 _⟩
 | ok needs v wr=>
  replace h:(KZ id { σ with known:=kn } o needs v wr k (bo ops o)).den P Post env K:=h
  unfold KZ at h;simp only[kU Bi,j5,MK,SS.go_eq]at h;split at h
  ·rename_i hc
   simp only[v0]at hc;obtain⟨⟨⟨⟨c1,c2⟩,c3⟩,c4⟩,c5⟩:=hc;rw[v4]at c1;rw[ML]at h;obtain⟨hnd,hden⟩:=h;have hd:=kA c5;obtain⟨kn',l1,l2⟩:=Ny (env:=env) (needs.filter (fun e=>SS.tr { σ with known:=kn } e !=some true)) { σ with known:=kn }
   rw[l1]at hden;have hkn:=l2 hk (fun e he=>⟨c1 e he,hnd e he⟩)
   have hns:∀rs,∀e∈needs,(den (env++rs) e).b=true:=fun rs e he=>by
     cases ht:(SS.tr { σ with known:=kn } e !=some true)with
     |true=>
      have hm:e∈needs.filter (fun e=>SS.tr { σ with known:=kn } e !=some true):=List.mem_filter.2 ⟨he,ht⟩
      rw[kR hn (c1 e hm)];exact hnd e hm
     |false=>
      have:SS.tr { σ with known:=kn } e=some true:=by simpa using ht
      exact oa (hk.ext' hn) this
   have hstep:∀rs,ku σ.N (gq σ.N wr)/\StepSem P w0 (env++rs) ro σ.L ops σ.N (cE σ.N (gq σ.N wr)) i ⟨v,gq σ.N wr,sC { σ with known:=kn } o v wr (bo ops o)⟩ σ.tmp σ.blk:=fun rs=>by
    cases hl:Eb { σ with known:=kn } o v wr with
    |some rh=>
     obtain⟨rfl,hs⟩:=Mk (w0:=w0) (env:=env++rs) (ro:=ro) ho (σ:={ σ with known:=kn }) (σ₁:={ σ with known:=kn }) hx (hns rs) hl hd (hw rs)
     unfold sC;rw[hl];exact⟨trivial,hs⟩
    |none=>
     unfold sC;rw[hl];exact PH ho (σ:=σ) (σ₁:={ σ with known:=kn }) (hk.ext' hn) hx (hns rs) c4 hd (hw rs)
   obtain⟨p1,p2,p3,p4,p5,p6,p7⟩:=CO (σ:={ σ with known:=kn' }) (o:=o) (v:=v) (hstep []).1 hd
   have hsd:(sC { σ with known:=kn } o v wr (bo ops o)).dst=o.dst:=by unfold sC;split<;>rfl
   refine .inl ⟨[],_,⟨v,gq σ.N wr,sC { σ with known:=kn } o v wr (bo ops o)⟩,K,by rw[v2];exact hden,fun _ _=>rfl,?_,?_,fun rs=>?_,by rw[hsd];exact p1,p2,p4,p7⟩
   ·rw[v2,p5,p6];exact hkn
   ·rw[v2,p5];exact hn
   ·rw[v2,p3];exact(hstep rs).2
  ·exact h.elim
 | call f args sh wr=>
  replace h:(EP id { σ with known:=kn } o f args sh wr k (bo ops o)).den P Post env K:=h
  unfold EP at h;split at h
  ·rename_i hc
   simp only[v0]at hc;obtain⟨⟨⟨c1,c2⟩,c3⟩,c4⟩:=hc;simp only[Bi,j5,MK,SS.go_eq]at h;obtain⟨r,hr,hcon,hden⟩:=h;have hd:=kA c2;have hwr:∀y∈wr,y.1∈bu σ.ev o/\y.1<σ.N:=fun y hy=>by
    have:=List.all_eq_true.1 c4 y hy
    simp only[v0]at this;exact⟨(show y.1∈bu (SS.ev { σ with known:=kn }) o from by simpa using this.1.1.1),jj this.1.1.2⟩
   have hll:=KW r;rw[hr]at hll;have hstep:∀rs,ku σ.N (wr++(mkRes sh σ.n σ.N).2)/\StepSem P w0 (env++r.leaves++rs) ro σ.L ops σ.N (cE σ.N (wr++(mkRes sh σ.n σ.N).2)) i ⟨(mkRes sh σ.n σ.N).1,wr++(mkRes sh σ.n σ.N).2,{ rt:=bo ops o,rb:=bu σ.ev o,dst:=o.dst,wb:=(wr++(mkRes sh σ.n σ.N).2).map (·.1) }⟩ σ.tmp σ.blk:=fun rs=>
    L5 hfit ho (σ:=σ) (σ₁:={ σ with known:=kn }) hx hr (n:=σ.n) (by rw[v1,kR hn c1];exact hcon) (fun j y hj=>by
     rw[v1,RK (by omega)]
     rw[show σ.n+j-env.length=j by omega,y2 (List.getElem?_eq_some_iff.1 hj).1]
     exact hj) hd hwr (by have:=hw (r.leaves++rs);rw[<-v1]at this;exact this)
   obtain⟨p1,p2,p3,p4,p5,p6,p7⟩:=CO (σ:={ σ with known:=kn,n:=σ.n+(mkRes.RS.cnt sh).1 }) (o:=o) (v:=(mkRes sh σ.n σ.N).1) (hstep []).1 hd
   refine .inl ⟨r.leaves,SS.eff { σ with known:=kn,n:=σ.n+(mkRes.RS.cnt sh).1 } o (mkRes sh σ.n σ.N).1 (wr++(mkRes sh σ.n σ.N).2),⟨(mkRes sh σ.n σ.N).1,wr++(mkRes sh σ.n σ.N).2,{ rt:=bo ops o,rb:=bu σ.ev o,dst:=o.dst,wb:=(wr++(mkRes sh σ.n σ.N).2).map (·.1) }⟩,K,hden,fun _ _=>rfl,?_,?_,fun rs=>?_,p1,p2,p4,p7⟩
   ·rw[p5,p6];exact hk.ext hn (Nat.le_add_right _ _)
   ·rw[p5];show _=σ.n+_;rw[R4,hn,hll]
   ·rw[p3];exact(hstep rs).2
  ·exact h.elim
 | inl f vs=>
  unfold fin at h;simp only at h
  split at h
  ·rename_i fn hfn
   split at h
   ·rename_i ks vs' _
    unfold Mb at h;split at h
    ·rename_i hc
     simp only[v0,List.isEmpty_iff]at hc;obtain⟨⟨⟨⟨⟨c1,c2⟩,c3⟩,c4⟩,c5⟩,c6⟩:=hc;subst c1;simp only[SS.go_eq]at h;obtain⟨hm,hden⟩:=h;have hd:=kA c6;have hwr:ku σ.N [(σ.N,some (.map ks vs'))]:=⟨v3 _,trivial⟩
     obtain⟨p1,p2,p3,p4,p5,p6,p7⟩:=CO (σ:={ σ with known:=kn }) (o:=o) (v:=.map σ.N) hwr hd
     have hN:cE σ.N [(σ.N,some (SB.map ks vs'))]=σ.N+1:=by show max σ.N (σ.N+1)=_;omega
     refine .inl ⟨[],_,⟨.map σ.N,[(σ.N,some (.map ks vs'))],{ rt:=bo ops o,rb:=bu σ.ev o,dst:=o.dst,wb:=[σ.N] }⟩,K,by rw[v2];exact hden,fun _ _=>rfl,?_,?_,fun rs=>?_,p1,p2,p4,p7⟩
     ·rw[v2,p5,p6];exact hk
     ·rw[v2,p5];exact hn
     ·rw[v2,p3]
      show StepSem P w0 (env++rs) ro σ.L ops σ.N (cE σ.N _) i _ σ.tmp σ.blk
      rw[hN];exact NJ hfit ho (σ:=σ) (σ₁:={ σ with known:=kn }) hx hm c2 c3 c4 c5 hd (hw rs)
    ·exact h.elim
   ·rename_i c hmap hb
    unfold MS at h;simp only[kU j5]at h;split at h
    ·rename_i hc
     rw[v0]at hc;obtain⟨c1,c2⟩:=hc;rw[v0]at c1;have hvn:=FJ c1.1;have hcl:∀b x,σ.blk b=some x->∀c∈x.names,c<σ.N:=fun b x hx=>SS.closed_spec (σ:={ σ with known:=kn }) c1.2 hx
     have hft:∀b∈bu σ.ev o,b<σ.N:=fun b hb=>jj (List.all_eq_true.1 c2 b hb)
     obtain⟨ex,σ',rs,K',hden,hK,hdep,hkn,hlen,hl⟩:=hrun Post K none f c _ (SS.frame { σ with known:=kn } vs fn.ntmps) env hn hk h
     by_cases hpan:ex.isPanic=true
     ·cases ex with
      |panic v=>
       simp only[SS.go_eq]at hden;have hle:σ.N<=σ'.N:=(hl []).le
       obtain⟨p1,p2,p3,p4,p5,p6,p7⟩:=AT (σ:={ σ with known:=kn }) (σ':=σ') (dst:=none) (v:=.nil) hle (fun d hd=>by cases hd)
       refine .inr ⟨v,rs,_,K',hden,hK,hkn,hlen,fun ts=>?_,rfl,rfl,hdep,hle⟩
       have h1:=PF (ro:=ro) hfit ho (σ:=σ) (σ₁:={ σ with known:=kn }) hx hfn hb hft hvn hcl ((hl ts).same ⟨rfl,rfl,rfl,rfl⟩ ⟨rfl,rfl,rfl,rfl⟩) (by have:=hw (rs++ts);rw[<-v1]at this;exact this)
       have h2:(SS.mk σ.rf σ'.hp σ'.n σ'.known σ'.dep).blk=aH σ.blk (cC σ σ'):=p2
       show sI P w0 (env++rs++ts) _ σ.L ops σ.N σ'.N i v σ.tmp σ.blk (SS.mk σ.rf σ'.hp σ'.n σ'.known σ'.dep).blk
       rw[h2];exact h1
      |_=>cases hpan
     have hex:ex.out=true/\∃us,bU P σ' fn.results.toList=some us/\(wq id { σ with known:=kn } o k (bo ops o) (gC us) σ').den P Post (env++rs) K':=by
      cases ex with
      |panic v=>exact absurd rfl hpan
      |exit j=>exact hden.elim
      |normal=>
       simp only[j5]at hden;split at hden
       ·rename_i us hus;exact⟨rfl,us,hus,hden⟩
       ·exact hden.elim
      |ret=>
       simp only[j5]at hden;split at hden
       ·rename_i us hus;exact⟨rfl,us,hus,hden⟩
       ·exact hden.elim
     obtain⟨hex,us,hus,hden⟩:=hex;unfold wq at hden;split at hden
     ·rename_i hdo
      simp only[SS.go_eq]at hden;have hd:=kA hdo;have hle:σ.N<=σ'.N:=(hl []).le
      obtain⟨p1,p2,p3,p4,p5,p6,p7⟩:=AT (σ:={ σ with known:=kn }) (σ':=σ') (dst:=o.dst) (v:=gC us) hle hd
      refine .inl ⟨rs,_,⟨gC us,cC σ σ',{ rt:=bo ops o,rb:=RJ σ.N,dst:=o.dst,wb:=kH σ σ' }⟩,K',hden,hK,by rw[p5,p6];exact hkn,by rw[p5];exact hlen,fun ts=>?_,p1,p2,p4,by rw[p7];exact hdep⟩
      rw[p3];exact NY hfit ho (σ:=σ) (σ₁:={ σ with known:=kn }) hx hfn hb hft hvn hcl hex ((hl ts).same ⟨rfl,rfl,rfl,rfl⟩ ⟨rfl,rfl,rfl,rfl⟩) hus hd (by have:=hw (rs++ts);rw[<-v1]at this;exact this)
     ·exact hden.elim
    ·exact h.elim
   ·exact h.elim
  ·exact h.elim
 | yld b vs=>
  replace h:(IX run id { σ with known:=kn } o b vs k (bo ops o)).den P Post env K:=h
  unfold IX at h;split at h
  ·rename_i li hb
   split at h
   ·rename_i hc
    simp only[v0,beq_iff_eq]at hc;obtain⟨⟨⟨⟨c1,c1'⟩,c2⟩,c3⟩,c4⟩:=hc;have hvn:=FJ c1;have hcl:∀b x,σ.blk b=some x->∀c∈x.names,c<σ.N:=fun b x hx=>SS.closed_spec (σ:={ σ with known:=kn }) c1' hx
    have hft:∀b∈bu σ.ev o,b<σ.N:=fun b hb=>jj (List.all_eq_true.1 c2 b hb)
    have hpar:∀t∈li.params.toList,t<li.rf.len:=fun t ht=>jj (List.all_eq_true.1 c4 t ht)
    simp only[kU j5,OE,SS.go_eq,OH]at h;obtain⟨ex,σ₁,rs,K₁,hden,hK1,hdep1,hkn1,hlen1,hl1⟩:=hrun Post K (some b) li.fn li.assign _ { σ with known:=kn,rf:=fu li.params.toList vs li.rf } env hn hk h
    simp only at hden
    split at hden
    ·rename_i i₁ hb1
     obtain⟨p,g,q,y4⟩:=oS (σ:=σ₁) (y:=some (.loop i₁ .busy .none)) hb1
     obtain⟨_,_,_,_,y5,y6,a⟩:=cU σ₁ [(b,some (.loop i₁ .busy .none))] ⟨by have:=fH hb1;omega,trivial⟩
     obtain⟨ex₂,σ₂,rs₂,K₂,hden,hK2,hdep2,hkn2,hlen2,hl2⟩:=hrun Post K₁ (some b) li.fn li.body _ (σ₁.write [(b,some (.loop i₁ .busy .none))]) (env++rs) (by rw[y5];exact hlen1) (by rw[y5,y6];exact hkn1) hden
     simp only at hden
     split at hden
     ·exact hden.elim
     rename_i hnp
     have hnp:ex₂.isPanic=false:=by simpa using hnp
     split at hden
     ·rename_i i₂ hb2
      obtain⟨z1,z2,z3,z4⟩:=oS (σ:=σ₂) (y:=some (eX i₂ ex₂)) hb2
      obtain⟨_,_,_,_,z5,z6,z7⟩:=cU σ₂ [(b,some (eX i₂ ex₂))] ⟨by have:=fH hb2;omega,trivial⟩
      replace hden:(wq id { σ with known:=kn } o k (bo ops o) (.vb (.bool (ex₂.jmp==.none))) (σ₂.write [(b,some (eX i₂ ex₂))])).den P Post (env++rs++rs₂) K₂:=hden
      unfold wq at hden;split at hden
      ·rename_i hdo
       simp only[SS.go_eq]at hden;have hd:=kA hdo;have hle1:σ.N<=σ₁.N:=(hl1 []).le
       have hle2:σ₁.N<=σ₂.N:=by have:=(hl2 []).le;rw[g]at this;exact this
       have hle:σ.N<=(σ₂.write [(b,some (eX i₂ ex₂))]).N:=by rw[z2];omega
       obtain⟨p1,p2,p3,p4,p5,p6,p7⟩:=AT (σ:={ σ with known:=kn }) (σ':=σ₂.write [(b,some (eX i₂ ex₂))]) (dst:=o.dst) (v:=.vb (.bool (ex₂.jmp==.none))) hle hd
       refine .inl ⟨rs++rs₂,_,⟨.vb (.bool (ex₂.jmp==.none)),cC σ (σ₂.write [(b,some (eX i₂ ex₂))]),{ rt:=bo ops o,rb:=RJ σ.N,dst:=o.dst,wb:=kH σ (σ₂.write [(b,some (eX i₂ ex₂))]) }⟩,K₂,by rw[<-v1];exact hden,fun l hlt=>?_,
        by rw[<-v1,p5,p6,z5,z6];exact hkn2,by rw[<-v1,p5,z5];exact hlen2,fun ts=>?_,p1,p2,p4,by rw[p7,z7,hdep2,a];exact hdep1⟩
       ·rw[hK2 l (by rw[a,hdep1];exact hlt),hK1 l hlt]
       ·rw[p3]
        have hl1':=hl1 (rs₂++ts);rw[<-v1]at hl1';rw[<-v1];refine NL ho (σ:=σ) (σt:={ σ with known:=kn }) hx hft hvn hcl hb c3 hpar (hl1'.same ⟨rfl,rfl,rfl,rfl⟩ ⟨rfl,rfl,rfl,rfl⟩) hb1 (hl2 ts) hb2 hnp hd ?_
        have:=hw (rs++(rs₂++ts))
        rw[<-v1,<-v1]at this;exact this
      ·exact hden.elim
     ·exact hden.elim
    ·exact hden.elim
   ·exact h.elim
  ·exact h.elim
theorem qx{i:Nat}{ops:Array Oper}{o:Oper}(ho:ops[i]?=some o){σ:SS}{kn:List (E×Bool)}{k:SS->Seen->T}{kp:Value->SS->T}(hn:env.length=σ.n)(hk:KnownOK env σ.n kn)
  (hw:∀rs,cq ops o σ.tmp (env++rs) false) (h:(vJ { σ with known:=kn } o k (bo ops o)).den P Post env K):D4 P Post K w0 ro env ops i σ k kp:=by
 unfold vJ at h;split at h
 ·rename_i c3
  have hd:=kA c3;obtain⟨p1,p2,p3,p4,p5,p6,p7⟩:=eZ { σ with known:=kn } (dst:=o.dst) (v:=.nil) hd
  refine .inl ⟨[],SS.put { σ with known:=kn } o.dst .nil,⟨.nil,[],{ rt:=bo ops o,rb:=[],dst:=o.dst,wb:=[] }⟩,K,by rw[v2];exact h,fun _ _=>rfl,?_,?_,fun rs=>?_,p1,p2,p6,p7⟩
  ·rw[v2,p4,p5];exact hk
  ·rw[v2,p4];exact hn
  ·rw[v2,p3]
   exact Mx ho (σ:=σ) hd (hw rs)
 ·exact h.elim
theorem nY(hrun:qL P w0 run)(hfit:PFit P){fid id i:Nat}{ops:Array Oper}{o:Oper}(ho:ops[i]?=some o){σ:SS}{k:SS->Seen->T}{kp:Value->SS->T}(hn:env.length=σ.n)
  (hw:∀rs,cq ops o σ.tmp (env++rs) true):∀(n:Nat) (kn:List (E×Bool)),KnownOK env σ.n kn->(Ak P cfg run fid id o k kp (bo ops o) n { σ with known:=kn }).den P Post env K->D4 P Post K w0 ro env ops i σ k kp
 |0,kn,_,h=>h.elim
 | n+1,kn,hk,h=>by
  unfold Ak at h;split at h
  ·rename_i c hc
   split at h
   ·rename_i hs
    obtain⟨h1,h2⟩:=h;cases hb:(den env c).b with
    |true=>exact nY hrun hfit ho hn hw n (kh kn c true) (iM hk hs hb) (h1 hb)
    |false=>exact nY hrun hfit ho hn hw n (kh kn c false) (iM hk hs hb) (h2 hb)
   ·exact h.elim
  ·exact MG hrun hfit ho hn hk hw rfl h
theorem MD(hrun:qL P w0 run)(hfit:PFit P){fid id i:Nat}{ops:Array Oper}{o:Oper}(ho:ops[i]?=some o){σ:SS}{k:SS->Seen->T}{kp:Value->SS->T}(hn:env.length=σ.n)(hk:KnownOK env σ.n σ.known)
  (h:(Lu P cfg run fid id ops o σ k kp).den P Post env K):D4 P Post K w0 ro env ops i σ k kp:=by
 unfold Lu at h;simp only at h
 split at h
 ·rename_i hg
  exact nY hrun hfit ho hn (fun rs=>Lp (fun j want hh=>by rw[hg]at hh;cases hh) (fun _=>rfl) hk hn rs) 16 σ.known hk h
 ·rename_i j want hg
  split at h
  ·rename_i e he
   obtain⟨d,hd,hde⟩:=Option.map_eq_some_iff.1 he;have W:∀(t:Bool),(∀rs,(den (env++rs) e).b=t)->∀rs,cq ops o σ.tmp (env++rs) (decide (t=want)):=fun t q2 rs=>by
    unfold cq;rw[hg];exact⟨d,hd,.inl ⟨e,hde,by rw[q2 rs]⟩⟩
   split at h
   ·rename_i t ht
    have q2:∀rs,(den (env++rs) e).b=t:=fun rs=>oa (hk.ext' hn) ht
    split at h
    ·rename_i hw
     exact nY hrun hfit ho hn (fun rs=>by have:=W t q2 rs;rwa [decide_eq_true hw]at this) 16 σ.known hk h
    ·rename_i hw
     exact qx ho hn hk (fun rs=>by have:=W t q2 rs;rwa [decide_eq_false hw]at this) h
   ·split at h
    ·rename_i hs
     obtain⟨h1,h2⟩:=h;cases hb:(den env e).b with
     | true=>
      have q2:∀rs,(den (env++rs) e).b=true:=fun rs=>by rw[kR hn hs];exact hb
      have h1:=h1 hb;split at h1
      ·rename_i hw
       exact nY hrun hfit ho hn (fun rs=>by have:=W true q2 rs;rwa [hw]at this) 16 (kh σ.known e true) (iM hk hs hb) h1
      ·rename_i hw
       have hw:want=false:=by simpa using hw
       exact qx ho hn (iM hk hs hb) (fun rs=>by have:=W true q2 rs;rwa [hw]at this) h1
     | false=>
      have q2:∀rs,(den (env++rs) e).b=false:=fun rs=>by rw[kR hn hs];exact hb
      have h2:=h2 hb;split at h2
      ·rename_i hw
       exact qx ho hn (iM hk hs hb) (fun rs=>by have:=W false q2 rs;rwa [hw]at this) h2
      ·rename_i hw
       have hw:want=false:=by simpa using hw
       exact nY hrun hfit ho hn (fun rs=>by have:=W false q2 rs;rwa [hw]at this) 16 (kh σ.known e false) (iM hk hs hb) h2
    ·exact h.elim
  ·rename_i he
   obtain⟨d,hd,hde⟩:=Option.map_eq_some_iff.1 he;exact qx ho hn hk (fun rs=>by unfold cq;rw[hg];exact⟨d,hd,.inr ⟨hde,rfl⟩⟩) h
  ·exact h.elim
theorem Gb(hrun:qL P w0 run)(hfit:PFit P){fid id:Nat}{ops:Array Oper}{draw:Bool}{h0:Ov (Option SB)}{k:SS->T}{kp:Value->SS->T}:∀(rest:List Oper) (i:Nat) (σ:SS) (seen:List Seen) (env:List AV) (K:Nat->List AV->Prop),(∀(j:Nat) o,rest[j]?=some o->ops[i+j]?=some o)->env.length=σ.n->KnownOK env σ.n σ.known →
  (sK P cfg run fid id ops draw h0 rest σ seen k kp).den P Post env K →
  (∃(rs:List AV) (ss:List Stp) (σ':SS) (K':Nat->List AV->Prop),ss.length=rest.length/\(∀us,Chain P w0 (env++rs++us) ro σ.L ops σ.N i σ.tmp σ.blk ss σ'.N σ'.tmp σ'.blk) ∧
   (draw=true->oL (dv ops.toList []) (seen.reverse++ss.map (·.seen))=true/\jq ops.toList=true/\pK h0 (seen.reverse++ss.map (·.seen))=true)/\(k σ').den P Post (env++rs) K'/\(∀l,l<σ.dep->K' l=K l)/\KnownOK (env++rs) σ'.n σ'.known/\(env++rs).length=σ'.n/\σ'.L=σ.L/\σ'.dep=σ.dep) ∨
  ∃(v:Value) (rs:List AV) (ss:List Stp) (σm σ':SS) (K':Nat->List AV->Prop),ss.length+1=rest.length/\(∀us,Chain P w0 (env++rs++us) ro σ.L ops σ.N i σ.tmp σ.blk ss σm.N σm.tmp σm.blk)/\(∀us,sI P w0 (env++rs++us) ro σ.L ops σm.N σ'.N (i+ss.length) v σm.tmp σm.blk σ'.blk)/\σm.N<=σ'.N/\σ'.tmp=σm.tmp ∧
   (draw=true->oL (dv ops.toList []) (seen.reverse++ss.map (·.seen))=true/\jq ops.toList=true/\pK h0 (seen.reverse++ss.map (·.seen))=true/\∀j,j<seen.length+ss.length->((dv ops.toList []).getD (seen.length+ss.length) 0).testBit j=true)/\(kp v σ').den P Post (env++rs) K'/\(∀l,l<σ.dep->K' l=K l)/\KnownOK (env++rs) σ'.n σ'.known/\(env++rs).length=σ'.n/\σ'.L=σ.L/\σ'.dep=σ.dep
 | [],i,σ,seen,env,K,_,hn,hk,h=>by
  unfold sK at h;split at h
  ·rename_i hc
   refine .inl ⟨[],[],σ,K,rfl,fun us=>.nil _ _ _ _,fun hd=>?_,by rw[v2];exact h,fun _ _=>rfl,by rw[v2];exact hk,by rw[v2];exact hn,rfl,rfl⟩
   rw[hd]at hc;simp only[Sr,Ss,v0]at hc;obtain⟨⟨c1,c2⟩,c3⟩:=hc;exact⟨by simpa using c1,c2,by unfold pK at c3⊢;simpa using c3⟩
  ·exact h.elim
 | o :: rest,i,σ,seen,env,K,hget,hn,hk,h=>by
  unfold sK at h;have ho:=hget 0 o rfl;rw[RQ]at ho;rcases MD (w0:=w0) (ro:=ro) hrun hfit ho hn hk h with⟨r1,σ₁,s,K1,q1,q2,q3,q4,q5,q6,q7,q8,q9⟩|⟨v,r1,σ₁,K1,q1,q2,q3,q4,q5,q6,q7,q8,q9⟩
  ·have hsd:(s.seen.fix h0).dst=s.seen.dst:=by unfold Seen.fix;split<;>rfl
   have chain:∀ {rs us:List AV} {ss:List Stp} {N':Nat} {tmp':Nat->SV} {blk':Nat->Option SB},Chain P w0 (env++r1++rs++us) ro σ₁.L ops σ₁.N (i+1) σ₁.tmp σ₁.blk ss N' tmp' blk'->Chain P w0 (env++(r1++rs)++us) ro σ.L ops σ.N i σ.tmp σ.blk ({ s with seen:=s.seen.fix h0 }::ss) N' tmp' blk':=fun{rs us ss N' tmp' blk'} c=>by
    rw[q8,q6,q7]at c;rw[<-hsd]at c;rw[<-v1];refine .cons ?_ c
    have:=(q5 (rs++us)).fix h0
    rw[<-v1]at this;exact this
   rcases Gb hrun hfit rest (i+1) σ₁ (s.seen.fix h0::seen) (env++r1) K1 (fun j o' hj=>by have:=hget (j+1) o' (by simpa using hj);rw[show i+(j+1)=i+1+j by omega]at this;exact this) q4 q3 q1 with⟨rs,ss,σ',K',g2,g3,g4,g5,g5k,g6,g7,g8,g9⟩|⟨v,rs,ss,σm,σ',K',g2,g3,gp,gN,gt,g4,g5,g5k,g6,g7,g8,g9⟩
   ·refine .inl ⟨r1++rs,{ s with seen:=s.seen.fix h0 }::ss,σ',K',by simp[g2],fun us=>chain (g3 us),fun hd=>?_,by rw[<-v1];exact g5,fun l hl=>(g5k l (by rw[q9];exact hl)).trans (q2 l hl),by rw[<-v1];exact g6,by rw[<-v1];exact g7,by rw[g8,q8],by rw[g9,q9]⟩
    have:=g4 hd
    rw[Sh,v1]at this;exact this
   ·refine .inr ⟨v,r1++rs,{ s with seen:=s.seen.fix h0 }::ss,σm,σ',K',by simp[g2],fun us=>chain (g3 us),fun us=>?_,gN,gt,fun hd=>?_,by rw[<-v1];exact g5,fun l hl=>(g5k l (by rw[q9];exact hl)).trans (q2 l hl),by rw[<-v1];exact g6,by rw[<-v1];exact g7,by rw[g8,q8],by rw[g9,q9]⟩
    ·have:=gp us
     rw[q8,show i+1+ss.length=i+(ss.length+1) by omega]at this
     rw[<-v1];exact this
    ·obtain⟨i1,i2,i3,i4⟩:=g4 hd
     rw[Sh,v1]at i1 i3;refine⟨i1,i2,i3,?_⟩
     have e:(s.seen.fix h0::seen).length+ss.length=seen.length+({ s with seen:=s.seen.fix h0 }::ss).length:=by simp;omega
     rw[e]at i4;exact i4
  ·split at q1
   rotate_left
   ·exact q1.elim
   rename_i hc
   unfold Ml at hc;rw[v0]at hc;obtain⟨c0,c1⟩:=hc;have hr:rest=[]:=by simpa using c0
   subst hr;refine .inr ⟨v,r1,[],σ,σ₁,K1,rfl,fun us=>.nil _ _ _ _,fun us=>q5 us,q9,q6,fun hd=>?_,q1,q2,q3,q4,q7,q8⟩
   rw[hd]at c1;simp only[Sr,Ss,v0]at c1;obtain⟨⟨⟨c1,c2⟩,c3⟩,c4⟩:=c1;refine⟨by simpa using c1,c2,by unfold pK at c3⊢;simpa using c3,fun j hj=>?_⟩
   have:=List.all_eq_true.1 c4 j (List.mem_range.2 (by simpa using hj))
   simpa using this
theorem MT(ops:Array Oper):(∀k,aM (v8 ops.size false) k=false)/\(∀(ss:List Stp) (i:Nat) (f:Nat->SV),ey (aM (v8 ops.size false)) i ss f=f)/\∀(ss:List Stp) (i:Nat) (f:Nat->Option SB),db (aM (v8 ops.size false)) i ss f=f:=by
 have hdone:∀k,aM (v8 ops.size false) k=false:=fun k=>by
  unfold aM;by_cases hk:k<ops.size
  ·simp[y7,hk]
  ·simp[y7,hk]
 refine⟨hdone,fun ss=>?_,fun ss=>?_⟩
 ·induction ss with
  |nil=>intro i f;rfl
  |cons x ss ih=>intro i f;simp only[ey,hdone];exact ih _ _
 ·induction ss with
  |nil=>intro i f;rfl
  |cons x ss ih=>intro i f;simp only[db,hdone];exact ih _ _
theorem Chain.draw0(hmix:P.follows .mixedOrders=true){id:Nat}{ops:Array Oper}{Q:Exit->Act->World->Prop}{σ:SS}{N'':Nat}{tmp'':Nat->SV}{blk'':Nat->Option SB}{ss:List Stp}(c:Chain P w0 env ro σ.L ops σ.N 0 σ.tmp σ.blk ss N'' tmp'' blk'')(hr:Rel w0 env κ F U σ.tmp σ.blk σ.L a w)(hU:∀b,σ.N<=b->¬U b)(hro:∀b,ro=some b->U b)(hlen:ss.length<=ops.size)
  (hlast:∀i,ss.length<=i->i<ops.size->(∀j,j<ss.length->((dv ops.toList []).getD i 0).testBit j=true)/\∀(κ':Nat->Value) (F':Nat->Prop) (a':Act) (w':World) (K:Act->World->Prop),Rel w0 env κ' F' (fun b=>U b\/(σ.N<=b/\b<N'')) tmp'' blk'' σ.L a' w'->Kept U σ.blk κ F w blk'' κ' F' w'->a'.defers=a.defers->wpOpIn (FR (dY κ ro)) 0 P ops Q i K a' w')
  (hdr:oL (dv ops.toList []) (ss.map (·.seen))=true/\jq ops.toList=true/\pK σ.hp (ss.map (·.seen))=true)
  (hQ:ss.length=ops.size->∀κ' F' a' w',Rel w0 env κ' F' (fun b=>U b\/(σ.N<=b/\b<N'')) tmp'' blk'' σ.L a' w'->Kept U σ.blk κ F w blk'' κ' F' w'->a'.defers=a.defers->Q .normal a' w'):(Code.region id ops true).wpIn (FR (dY κ ro)) 0 P Q a w:=by
 refine wpIn_region_any hmix ?_
 obtain⟨i1,i2,i3⟩:=hdr;have hsl:∀(j:Nat) s,ss[j]?=some s->∀x∈s.seen.rh,U x.1/\K5 κ env x:=fun j s hs x hx=>by
  unfold pK at i3;rw[v4]at i3;have h1:=i3 s.seen (List.mem_map.2 ⟨s,v6 hs,rfl⟩);rw[v4]at h1;have h2:=h1 x hx;split at h2
  ·rename_i e t l hb
   have hb:σ.blk x.1=some (.row e t l):=hb
   refine⟨(hr.bnames _ _ hb).1,?_⟩
   have:=uw hr hb
   rw[E.eqb_spec _ _ h2]at this;exact this
  ·cases h2
 obtain⟨hdone,hT,hB⟩:=MT ops;refine c.draw (κ₀:=κ) (F₀:=F) (U₀:=U) (wI:=w) (dI:=a.defers) (fun b h1 _=>hU b h1) hro hlen hlast i1 i2 hsl hQ ops.size _ (κ:=κ) (F:=F) (by simp) (fun j o _ hd=>by rw[hdone]at hd;cases hd) ?_ (fun k _ _=>hdone k) ?_ ?_ rfl
 ·exact Sb (List.length_filter_le _ _) (by simp)
 ·rw[hT,hB]
  have:Rel w0 env κ F U σ.tmp σ.blk σ.L a { w with drawn:=w.drawn+1 }:=
   hr.world (κ':=κ) (F':=F) (fun _ h=>h) (fun _ _=>rfl) (fun _ h=>h) (fun _ _=>rfl) (fun b x hx=>.inl ⟨hx,fun _ _ _=>rfl⟩) hr.inj hr.nF hr.F (hr.below.trans ⟨rfl,rfl,rfl,v3 _,fun _ _=>rfl⟩)
  exact this.monoU (fun b hb=>.inl hb)
 ·rw[hB]
  exact⟨fun _ _=>rfl,fun _ h=>h,fun _ h=>.inl h,v3 _,fun _ _ _=>rfl,fun b _ h1 h2=>.inr ⟨b,h1,h2⟩,.of fun _ _=>.inr rfl⟩
theorem Jc(hfit:PFit P){id:Nat}{ops:Array Oper}{draw:Bool}{σ σ':SS}{ss:List Stp}(hlen:ss.length=ops.size)(c:Chain P w0 env ro σ.L ops σ.N 0 σ.tmp σ.blk ss σ'.N σ'.tmp σ'.blk)(hL:σ'.L=σ.L)
  (hdr:draw=true->oL (dv ops.toList []) (ss.map (·.seen))=true/\jq ops.toList=true/\pK σ.hp (ss.map (·.seen))=true):Leads P w0 ro (.region id ops draw) env σ .normal σ':=by
 refine⟨c.le,fun κ F U a w hr hU hro=>?_⟩
 cases draw with
 |false=>
  refine wpIn_region ?_
  rw[R8];have:=c.ops (Q:=fun e a' w'=>e=Ex.normal.exit'/\Ends w0 env κ F U σ a w σ' a' w') hr (fun b h1 _=>hU b h1) hro (fun κ' F' a' w' h1 h2 h3=>⟨rfl,κ',F',by rw[hL];exact h1,h2,by rw[h3];exact Marks.nil⟩)
  rw[hlen]at this;exact this
 |true=>
  exact c.draw0 hfit.mix hr hU hro (by omega) (fun i h1 h2=>by omega) (hdr rfl) (fun _ κ' F' a' w' h1 h2 h3=>⟨rfl,κ',F',by rw[hL];exact h1,h2,by rw[h3];exact Marks.nil⟩)
theorem Gq(hfit:PFit P){id:Nat}{ops:Array Oper}{draw:Bool}{σ σm σ':SS}{ss:List Stp}{v:Value}(hlen:ss.length+1=ops.size)(c:Chain P w0 env ro σ.L ops σ.N 0 σ.tmp σ.blk ss σm.N σm.tmp σm.blk)(hp:sI P w0 env ro σ.L ops σm.N σ'.N (0+ss.length) v σm.tmp σm.blk σ'.blk)(hN:σm.N<=σ'.N)(ht:σ'.tmp=σm.tmp)(hL:σ'.L=σ.L)
  (hdr:draw=true->oL (dv ops.toList []) (ss.map (·.seen))=true/\jq ops.toList=true/\pK σ.hp (ss.map (·.seen))=true/\∀j,j<ss.length->((dv ops.toList []).getD ss.length 0).testBit j=true):Leads P w0 ro (.region id ops draw) env σ (.panic v) σ':=by
 have hle:=c.le;refine⟨by omega,fun κ F U a w hr hU hro=>?_⟩
 have fin:∀κ' F' a' w',Rel w0 env κ' F' (fun b=>U b\/(σ.N<=b/\b<σ'.N)) σm.tmp σ'.blk σ.L a' w'->Kept U σ.blk κ F w σ'.blk κ' F' w'->a'.defers=a.defers->Exit.panic (ij v)=(Ex.panic v).exit'/\Ends w0 env κ F U σ a w σ' a' w':=fun κ' F' a' w' h1 h2 h3=>⟨rfl,κ',F',by rw[hL,ht];exact h1,h2,by rw[h3];exact Marks.nil⟩
 cases draw with
 |false=>
  refine wpIn_region ?_
  rw[R8];have:=c.opsP hp hN (Q:=fun e a' w'=>e=(Ex.panic v).exit'/\Ends w0 env κ F U σ a w σ' a' w') hr (fun b h1 _=>hU b h1) hro fin 0
  rw[RQ,hlen]at this;exact this
 | true=>
  obtain⟨d1,d2,d3,d4⟩:=hdr rfl;refine c.draw0 hfit.mix hr hU hro (by omega) (fun i h1 h2=>?_) ⟨d1,d2,d3⟩ (fun h=>by omega)
  ·have hi:i=ss.length:=by omega
   subst hi;refine⟨d4,fun κ' F' a' w' K r k hd=>?_⟩
   have hp':=hp κ' F' (fun b=>U b\/(σ.N<=b/\b<σm.N)) a' w' K (fun e a' w'=>e=(Ex.panic v).exit'/\Ends w0 env κ F U σ a w σ' a' w') r (fun b h1 h2 hb=>by
    rcases hb with hb|hb
    ·exact hU b (by omega) hb
    ·omega) (fun b hb=>.inl (hro b hb)) (fun κ2 F2 w2 r2 k2=>fin κ2 F2 a' w2 (r2.monoU (fun b hb=>by
     rcases hb with(hb|hb)|hb
     ·exact .inl hb
     ·exact .inr ⟨hb.1,by omega⟩
     ·exact .inr ⟨by omega,hb.2⟩)) (k.trans k2 (fun b hb=>.inl hb)) hd)
   rw[y3,ew (κ:=κ) (κ':=κ') (ro:=ro) (fun b hb=>k.kap b (hro b hb))]at hp'
   exact hp'
theorem B1(hrun:qL P w0 run)(hfit:PFit P){fid id:Nat}{ops:Array Oper}{draw:Bool}{σ:SS}{k:Ex->SS->T}(hn:env.length=σ.n)(hk:KnownOK env σ.n σ.known)(h:(sK P cfg run fid id ops draw σ.hp ops.toList σ [] (fun σ'=>σ'.pack (k .normal)) (fun v σ'=>k (.panic v) σ')).den P Post env K):Path P Post w0 ro (.region id ops draw) env K σ k:=by
 rcases Gb (w0:=w0) (ro:=ro) hrun hfit ops.toList 0 σ [] env K (fun j o hj=>by rw[y3];simpa using hj) hn hk h with⟨rs,ss,σ',K',g2,g3,g4,g5,g5k,g6,g7,g8,g9⟩|⟨v,rs,ss,σm,σ',K',g2,g3,gp,gN,gt,g4,g5,g5k,g6,g7,g8,g9⟩
 ·obtain⟨τ,t1,t2,t3,t4,t5,t6,t7,t8⟩:=σ'.pack_spec (k .normal)
  rw[t1]at g5;refine⟨.normal,τ,rs,K',g5,g5k,by rw[t6,g9],by rw[t4,t5];exact g6,by rw[t4];exact g7,fun us=>?_⟩
  exact(Jc hfit (by rw[g2];simp) (g3 us) g8 (fun hd=>by have:=g4 hd;simpa using this)).same ⟨rfl,rfl,rfl,rfl⟩ ⟨t7,t8,t2,t3⟩
 ·exact⟨.panic v,σ',rs,K',g5,g5k,g9,g6,g7,fun us=>Gq hfit (by rw[g2];simp) (g3 us) (gp us) gN gt g8 (fun hd=>by have:=g4 hd;simpa using this)⟩
theorem z8{σ:SS}{bs:List Nat}{c:Code}{ex:Ex}{σ':SS}(hw:ku σ.N (bi σ.blk bs)/\cE σ.N (bi σ.blk bs)=σ.N)(h:Leads P w0 ro c env (σ.write (bi σ.blk bs)) ex σ'):Leads P w0 ro c env σ ex σ':=by
 obtain⟨d,b,f,y4,_⟩:=cU σ _ hw.1;rw[hw.2]at b;refine⟨by rw[<-b];exact h.le,fun κ F U a w hr hU hro=>?_⟩
 obtain⟨F1,r1,k1⟩:=hr.freeze bs;rw[<-d]at r1 k1;rw[<-f,<-y4]at r1;refine wpIn_mono (h.go κ F1 U a w r1 (by rw[b];exact hU) hro) ?_
 rintro e a' w' ⟨he,κ',F',r,k,m⟩;exact⟨he,κ',F',by rw[<-b];exact r,k1.trans k (fun _ h=>h),m⟩
theorem mp(σ:SS)(bs:List Nat):ku σ.N (bi σ.blk bs)/\cE σ.N (bi σ.blk bs)=σ.N:=by
 have h:=Hy (bi σ.blk bs) [] σ.N (fun x hx=>by
  obtain⟨b,_,h1⟩:=List.mem_filterMap.1 hx;split at h1
  ·rename_i e t l hb
   cases h1
   exact fH hb
  ·cases h1) trivial
 rw[v2]at h;exact h
theorem HG(hrun:qL P w0 run)(hfit:PFit P){fid id:Nat}{ops:Array Oper}{draw:Bool}{σ:SS}{k:Ex->SS->T}(hn:env.length=σ.n)(hk:KnownOK env σ.n σ.known)(h:(zP P cfg run fid id ops draw k σ).den P Post env K):Path P Post w0 ro (.region id ops draw) env K σ k:=by
 unfold zP at h;split at h
 ·exact B1 hrun hfit hn hk h
 ·rename_i b bs _
  rw[SS.go_eq]at h;obtain⟨c,d,e,y4,y5,y6,a⟩:=cU σ _ (mp σ (b::bs)).1;obtain⟨ex,σ',rs,K',q1,q2,q3,q4,q5,q6⟩:=B1 (w0:=w0) (ro:=ro) hrun hfit (by rw[y5];exact hn) (by rw[y5,y6];exact hk) h
  exact⟨ex,σ',rs,K',q1,fun l hl=>q2 l (by rw[a];exact hl),by rw[q3,a],q4,q5,fun us=>z8 (mp σ (b::bs)) (q6 us)⟩
variable {env:List AV} {κ κ':Nat->Value} {F F':Nat->Prop} {w w' w0:World} {U:Nat->Prop} {tmp:Nat->SV} {blk:Nat->Option SB} {L:Nat} {a:Act} {P:Program} {Post:R->Prop} {K:Nat->List AV->Prop}
theorem uV{x:SV}{e:E}{s:Ty}{u:Value}(hx:rU x s=some e)(h:SVden env κ F w x u):Den F w u (den env e)/\(den env e).ty=s/\aT u=true:=by
 unfold rU at hx;split at hx
 ·cases hx;rw[show u=_ from h];exact⟨vO _,rfl,rfl⟩
 ·split at hx
  ·rename_i e' u' hl
   split at hx
   ·rename_i hs;cases hx;subst hs;exact tk hl h
   ·cases hx
  ·cases hx
theorem jg{p:Loc->Bool}:∀(l:List Loc) (n m:Nat) {sv:SV},ej p l n m=some sv->∃i x,l[i]?=some x/\p x=true/\sv=x.letter (n+i) (m+i)
 |[],n,m,sv,h=>by cases h
 | x::l,n,m,sv,h=>by
  unfold ej at h;split at h
  ·rename_i hp;cases h;exact⟨0,x,rfl,hp,rfl⟩
  ·obtain⟨i,y,h1,h2,h3⟩:=jg l (n+1) (m+1) h
   exact⟨i+1,y,h1,h2,by rw[h3];congr 1<;>omega⟩
theorem je{p:Loc->Bool}:∀(l:List Loc) (n m:Nat),ej p l n m=none↔l.any p=false
 |[],n,m=>by simp[ej]
 |x::l,n,m=>by
  unfold ej;cases hp:p x with
  |true=>simp[hp]
  |false=>simp[hp,je l]
theorem pG(locs:List Loc)(σ:SS)(b:Nat):∀(l:List SV) (off i:Nat),(iF locs σ b off l)[i]?=(l[i]?).map fun x=>(ej (·.isCell b (off+i)) locs σ.n σ.N).getD x
 |[],off,i=>by simp[iF]
 |x::l,off,0=>by simp[iF]
 |x::l,off,i+1=>by
  have:=pG locs σ b l (off+1) i
  simp only[iF,List.getElem?_cons_succ,this];rw[show off+1+i=off+(i+1) by omega]
theorem wV(locs:List Loc)(taken:List (Option Nat))(σ:SS)(t:Nat):(fQ locs taken σ).tmp t=if t<σ.L then wC locs σ t else .any:=by
 show(Ov.fn σ.L (wC locs σ)).get .any t=_
 by_cases h:t<σ.L
 ·rw[if_pos h,Ov.get_fn h]
 ·rw[if_neg h];exact Ov.get_out (by show σ.L<=t;omega)
theorem Cf(locs:List Loc)(taken:List (Option Nat))(σ:SS)(b:Nat):(fQ locs taken σ).blk b=if b<σ.N+locs.length then wl locs taken σ b else none:=by
 show(Ov.fn (σ.N+locs.length) (wl locs taken σ)).get none b=_
 by_cases h:b<σ.N+locs.length
 ·rw[if_pos h,Ov.get_fn h]
 ·rw[if_neg h];exact Ov.get_out (by show σ.N+locs.length<=b;omega)
theorem nB{b:Nat}:∀(l:List Loc) (n:Nat) {y:SB},ib b l n=some y->∃i e r,l[i]?=some (.inrow b e r)/\y=if e=4000000 then .amap r (.v (n+i))else .row e r (.v (n+i))
 |[],n,y,h=>by cases h
 | x::l,n,y,h=>by
  cases x with
  | inrow c e r=>
   simp only[ib]at h;split at h
   ·rename_i hc;subst hc;cases h;exact⟨0,e,r,rfl,rfl⟩
   ·obtain⟨i,e,r,h1,h2⟩:=nB l (n+1) h
    exact⟨i+1,e,r,h1,by rw[h2,show n+1+i=n+(i+1) by omega]⟩
  |_=>
   simp only[ib]at h;obtain⟨i,e,r,h1,h2⟩:=nB l (n+1) h;exact⟨i+1,e,r,h1,by rw[h2,show n+1+i=n+(i+1) by omega]⟩
theorem rK{b:Nat}:∀(l:List Loc) (n:Nat),ib b l n=none->l.any (·.isIn b)=false
 |[],n,_=>rfl
 | x::l,n,h=>by
  cases x with
  | inrow c e r=>
   simp only[ib]at h;split at h
   ·cases h
   ·rename_i hc
    have:=rK l (n+1) h
    rw[Su,this,RW];simpa[Loc.isIn]using hc
  |_=>
   simp only[ib]at h;have:=rK l (n+1) h
   rw[Su,this];rfl
theorem qi{σ:SS}:∀(locs:List Loc) (rows:List (Option Nat)) (es:E),nh σ locs=some (rows,es) →
  rows.length=locs.length/\(den env es).g.length=locs.length/\∀(i:Nat) x,locs[i]?=some x->∃b e,rows[i]?=some b/\(den env es).g[i]?=some (den env e)/\da σ x=some (b,e)
 |[],rows,es,h=>by
  simp only[nh]at h;cases h
  exact⟨rfl,rfl,fun i x hx=>by simp at hx⟩
 | x::l,rows,es,h=>by
  simp only[nh]at h;split at h
  ·rename_i b e bs es' h1 h2
   cases h
   obtain⟨i1,i2,i3⟩:=qi l bs es' h2;refine⟨by simp[i1],by simp[den,i2],fun i y hy=>?_⟩
   cases i with
   |zero=>simp at hy;subst hy;exact⟨b,e,rfl,by simp[den],h1⟩
   |succ i=>
    simp at hy
    obtain⟨b',e',q1,q2,q3⟩:=i3 i y hy;exact⟨b',e',by simpa using q1,by simpa[den]using q2,q3⟩
  ·cases h
theorem pz:∀(l:List (Option Nat)),lY l=true->∀(i j b:Nat),l[i]?=some (some b)->l[j]?=some (some b)->i=j
 |[],_,i,j,b,h,_=>by simp at h
 | x::l,hd,i,j,b,h1,h2=>by
  have tl:∀(i j:Nat),l[i]?=some (some b)->l[j]?=some (some b)->i=j:=fun i j q1 q2=>by
   cases x with
   |none=>exact pz l hd i j b q1 q2
   |some c=>
    simp only[lY,v0]at hd;exact pz l hd.2 i j b q1 q2
  cases i with
  | zero=>
   cases j with
   |zero=>rfl
   |succ j=>
    simp at h1 h2
    subst h1;simp only[lY,v0,RP,RL,decide_eq_false_iff_not]at hd;exact absurd (v6 h2) hd.1
  | succ i=>
   cases j with
   |zero=>
    simp at h1 h2
    subst h2;simp only[lY,v0,RP,RL,decide_eq_false_iff_not]at hd;exact absurd (v6 h1) hd.1
   |succ j=>simp at h1 h2;rw[tl i j h1 h2]
theorem pC{locs:List Loc}{n N b:Nat}:∀(l m:List SV) (off:Nat),xu locs n N b off l m=true->l.length=m.length/\∀(i:Nat) x y,l[i]?=some x->m[i]?=some y->locs.any (·.isCell b (off+i))=true\/(x=y/\x.sc n=true/\∀c∈x.names,c<N)
 |[],[],off,_=>⟨rfl,fun i x y h=>by simp at h⟩
 |[],_::_,off,h=>by cases h
 |_::_,[],off,h=>by cases h
 | x::l,y::m,off,h=>by
  simp only[xu,v0]at h;obtain⟨h1,h2⟩:=h;obtain⟨i1,i2⟩:=pC l m (off+1) h2;refine⟨by simp[i1],fun i x' y' g1 g2=>?_⟩
  cases i with
  | zero=>
   simp at g1 g2;subst g1;subst g2
   rw[v9]at h1;rcases h1 with h1|h1
   ·exact .inl h1
   ·simp only[v0,beq_iff_eq,v4,decide_eq_true_eq]at h1
    exact .inr ⟨h1.1.1,h1.1.2,h1.2⟩
  |succ i=>
   simp at g1 g2
   have:=i2 i x' y' g1 g2
   rw[show off+1+i=off+(i+1) by omega]at this
   exact this
def qM(w:World)(base e size:Nat)(v:Value)(n:Nat)(xs:List Value):Prop:=
 (e<5000000->w.ownsRow base e size v n xs)/\(5000000<=e->jV w base (e-5000000) size v n xs)
theorem Dx{w:World}{base a size:Nat}{v:Value}{n:Nat}{xs:List Value}(h:jV w base a size v n xs):qM w base (a+5000000) size v n xs:=
 ⟨fun h1=>by omega,fun _=>by rw[Nat.add_sub_cancel];exact h⟩
theorem AU{e e':Nat}{r r':Ty}{l l':E}(h:kN e r l=kN e' r' l'):e=e'/\r=r'/\l=l':=by
 unfold kN at h;split at h<;>split at h
 ·injection h with h1 h2 h3
  exact⟨by omega,h2,h3⟩
 ·cases h
 ·cases h
 ·injection h with h1 h2 h3
  exact⟨h1,h2,h3⟩
theorem JT{e:Nat}{r:Ty}{l:E}:(kN e r l).names=[]:=by unfold kN;split<;>rfl
theorem L9{base b e:Nat}{r:Ty}{l:E}(h:∃us,qM w base e r.len (κ b) (den env l).l.length us/\0<r.len/\RowsDen F w us r (den env l).l):SBden env κ F base w b (kN e r l):=by
 obtain⟨us,h1,h2,h3⟩:=h;unfold kN;split
 ·rename_i he;exact⟨us,h1.2 he,h2,h3⟩
 ·rename_i he;exact⟨us,h1.1 (by omega),h2,h3⟩
theorem oy(h:Rel w0 env κ F U tmp blk L a w){σ:SS}(hb:σ.blk=blk){x:SV}{ety:Nat}{r:Ty}{b:Option Nat}{e:E}(hr:wD σ x ety r=some (b,e)){u:Value}(hu:SVden env κ F w x u):
  aT u=true/\(den env e)=.sl r (den env e).l/\(∃us,qM w w0.heap.size ety r.len u (den env e).l.length us/\0<r.len/\RowsDen F w us r (den env e).l)/\((b=none/\u=.slice none 0 0)\/∃c y,b=some c/\(blk c=some y/\aD (some y)=true)/\u=κ c):=by
 unfold wD at hr;split at hr
 ·split at hr
  ·rename_i hp
   cases hr
   rw[show u=_ from hu]
   refine⟨rfl,rfl,⟨[],⟨fun _=>World.ownsRow_nil _ _ _ _,fun _=>pv (World.ownsRow_nil _ _ _ _)⟩,hp,⟨fun i r hr=>by simp[den]at hr,fun i r k x hr=>by simp[den]at hr⟩⟩,.inl ⟨rfl,rfl⟩⟩
  ·cases hr
 ·rename_i c
  split at hr
  ·rename_i a' t l hc
   split at hr
   ·rename_i hh
    obtain⟨hea,rfl⟩:=hh;cases hr
    rw[hb]at hc;obtain⟨us,h1,h2,h3⟩:=h.blks c _ hc;have h1':qM w w0.heap.size ety t.len (κ c) (den env l).l.length us:=by
     rcases hea with⟨rfl,hlt⟩|rfl
     ·exact⟨fun _=>h1,fun hge=>by omega⟩
     ·exact Dx (pv h1)
    refine⟨hu.2,rfl,⟨us,by rw[hu.1];exact h1',h2,h3⟩,.inr ⟨c,_,rfl,⟨hc,rfl⟩,hu.1⟩⟩
   ·cases hr
  ·rename_i a' t l hc
   split at hr
   ·rename_i hh
    obtain⟨rfl,rfl⟩:=hh;cases hr
    rw[hb]at hc;obtain⟨us,h1,h2,h3⟩:=h.blks c _ hc;refine⟨hu.2,rfl,⟨us,by rw[hu.1];exact Dx h1,h2,h3⟩,.inr ⟨c,_,rfl,⟨hc,rfl⟩,hu.1⟩⟩
   ·cases hr
  ·cases hr
 ·cases hr
theorem Ai{e:E}{s:Ty}:∀b∈((fh e s).getD .any).names,False:=by
 intro b hb;cases s<;>simp[fh,SV.names]at hb
theorem I2{locs:List Loc}{taken rows:List (Option Nat)}{σ₀ σ:SS}{es:E}{rs:List AV}(hn:env.length=σ₀.n)(h:Rel w0 (env++rs) κ F U σ.tmp σ.blk σ.L a w)(ht:nh σ locs=some (rows,es))
  (hf:In locs σ₀.n σ₀.N (fQ locs taken σ₀) σ rows=true) {U₀:Nat->Prop} (hU:∀b,U b->b<σ₀.N->U₀ b)
  {rsE:List AV} (hloop:∀b i st p i',σ₀.blk b=some (.loop i st p)->σ.blk b=some (.loop i' st p)->SBden (env++rsE) κ F w0.heap.size w b (.loop i st p)/\∀c∈(SB.loop i st p).names,U₀ c):
  (den (env++rs) es).g.map AV.ty=locs.map Loc.sort/\∃κ',(∀b,¬(σ₀.N<=b/\b<σ₀.N+locs.length)->κ' b=κ b) ∧
   (∀us,Rel w0 (env++((den (env++rs) es).g++us)) κ' F (fun b=>U₀ b\/(σ₀.N<=b/\b<σ₀.N+locs.length)) (fQ locs taken σ₀).tmp (fQ locs taken σ₀).blk (fQ locs taken σ₀).L a w) ∧
   ∀b k,aD ((fQ locs taken σ₀).blk b)=true->ak (κ' b)=some k->∃c,aD (σ.blk c)=true/\ak (κ c)=some k:=by
 obtain⟨vs,hvs⟩:∃vs,vs=(den (env++rs) es).g:=⟨_,rfl⟩
 obtain⟨t1,t2,t3⟩:=qi (env:=env++rs) locs rows es ht
 rw[<-hvs]at t2 t3⊢
 obtain⟨N,hN⟩:∃N,N=σ₀.N:=⟨_,rfl⟩
 obtain⟨n,hn'⟩:∃n,n=σ₀.n:=⟨_,rfl⟩
 rw[<-hn']at hn;rw[<-hN]at hU;unfold In at hf;simp only[v0,beq_iff_eq]at hf;obtain⟨⟨⟨f1,f2⟩,f3⟩,f4⟩:=hf;rw[v4]at f3 f4;rw[<-hN]at f3 f4;rw[<-hn']at f3 f4;rw[<-hN];obtain⟨κ',hκ⟩:∃κ':Nat->Value,∀b,κ' b=if N<=b/\b<N+locs.length then(match rows[b-N]? with|some (some c)=>κ c|_=>.slice none 0 0)else κ b:=⟨_,fun _=>rfl⟩
 have hκ0:∀b,¬(N<=b/\b<N+locs.length)->κ' b=κ b:=fun b hb=>by rw[hκ,if_neg hb]
 have hκ1:∀b,b<N->κ' b=κ b:=fun b hb=>hκ0 b (by omega)
 have hκ2:∀i,i<locs.length->κ' (N+i)=(match rows[i]? with|some (some c)=>κ c|_=>.slice none 0 0):=fun i hi=>by rw[hκ,if_pos (by omega),show N+i-N=i by omega]
 have cellU:∀c o sv,oU σ c o=some sv->∃u,SVden (env++rs) κ F w sv u:=fun c o sv hs=>by
  unfold oU at hs;split at hs
  ·rename_i ty xs hb
   obtain⟨g,cs,_,_,_,q1,q2,_⟩:=h.blks c _ hb;obtain⟨_,q3⟩:=bJ q2 q1;obtain⟨u,_,hu⟩:=q3 o sv hs;exact⟨u,hu⟩
  ·cases hs
 have nzd:∀ {sv:SV} {u:Value},SVden (env++rs) κ F w sv u->SVden (env++rs) κ F w (nz σ.blk sv) u:=fun hd=>wL (fun b e t l hb=>h.blks b _ hb) hd
 have hsorts:vs.map AV.ty=locs.map Loc.sort:=by
  refine List.ext_getElem? (fun i=>?_)
  rw[y9,y9];cases hx:locs[i]? with
  |none=>rw[R1 (by rw[t2];exact List.getElem?_eq_none_iff.1 hx)];rfl
  | some x=>
   obtain⟨b,e,h1,h2,h3⟩:=t3 i x hx;rw[h2];simp only[R5,Option.some.injEq];cases x with
   |tmp t s=>
    simp only[da]at h3;split at h3
    ·rename_i e' hl;cases h3;exact(uV hl (nzd (h.tmps t))).2.1
    ·cases h3
   |tmprow t ety r=>
    simp only[da]at h3;rw[(oy h rfl h3 (h.tmps t)).2.1];rfl
   | cell c o s=>
    simp only[da]at h3;split at h3
    ·rename_i e' hl;cases h3
     obtain⟨sv,q1,q2⟩:=Option.bind_eq_some_iff.1 hl;obtain⟨u,hu⟩:=cellU c o sv q1;exact(uV q2 (nzd hu)).2.1
    ·cases h3
   |cellrow c o ety r=>
    simp only[da]at h3;obtain⟨sv,q1,q2⟩:=Option.bind_eq_some_iff.1 h3;obtain⟨u,hu⟩:=cellU c o sv q1;rw[(oy h rfl q2 hu).2.1];rfl
   | inrow c ety r=>
    simp only[da]at h3;split at h3
    ·split at h3
     ·cases h3;rfl
     ·cases h3
    ·split at h3
     ·cases h3;rfl
     ·cases h3
    ·cases h3
 have rowOfI:∀i,i<locs.length->(∃x ety r,locs[i]?=some x/\x.block (n+i)=some (kN ety r (.v (n+i))))->∃x ety r b e u,locs[i]?=some x/\x.block (n+i)=some (kN ety r (.v (n+i)))/\rows[i]?=some b/\vs[i]?=some (den (env++rs) e)/\u=κ' (N+i) ∧
   (den (env++rs) e)=.sl r (den (env++rs) e).l/\(∃us,qM w w0.heap.size ety r.len u (den (env++rs) e).l.length us/\0<r.len/\RowsDen F w us r (den (env++rs) e).l)/\((b=none/\u=.slice none 0 0)\/∃c y,b=some c/\(σ.blk c=some y/\aD (some y)=true)/\u=κ c):=by
  rintro i hi ⟨x,ety,r,hx,hbk⟩;obtain⟨b,e,h1,h2,h3⟩:=t3 i x hx;have key:∀sv u,SVden (env++rs) κ F w sv u->wD σ sv ety r=some (b,e)->∃x ety r b e u,locs[i]?=some x/\x.block (n+i)=some (kN ety r (.v (n+i)))/\rows[i]?=some b/\vs[i]?=some (den (env++rs) e)/\u=κ' (N+i) ∧
    (den (env++rs) e)=.sl r (den (env++rs) e).l/\(∃us,qM w w0.heap.size ety r.len u (den (env++rs) e).l.length us/\0<r.len/\RowsDen F w us r (den (env++rs) e).l)/\((b=none/\u=.slice none 0 0)\/∃c y,b=some c/\(σ.blk c=some y/\aD (some y)=true)/\u=κ c):=by
   intro sv u hu hr;obtain⟨_,d2,d3,d4⟩:=oy h rfl hr hu;refine⟨x,ety,r,b,e,u,hx,hbk,h1,h2,?_,d2,d3,d4⟩
   rw[hκ2 i hi,h1];rcases d4 with⟨rfl,d5⟩|⟨c,y,rfl,_,d5⟩
   ·exact d5
   ·exact d5
  cases x with
  |tmp t s=>simp[Loc.block]at hbk
  |cell c o s=>simp[Loc.block]at hbk
  |inrow c e r=>simp[Loc.block]at hbk
  |tmprow t ety' r'=>
   simp only[Loc.block]at hbk;obtain⟨rfl,rfl,_⟩:=AU (Option.some.inj hbk);simp only[da]at h3;exact key _ _ (h.tmps t) h3
  |cellrow c o ety' r'=>
   simp only[Loc.block]at hbk;obtain⟨rfl,rfl,_⟩:=AU (Option.some.inj hbk);simp only[da]at h3;obtain⟨sv,q1,q2⟩:=Option.bind_eq_some_iff.1 h3;obtain⟨u,hu⟩:=cellU c o sv q1;exact key sv u hu q2
 have hblkN:∀i x,i<locs.length->(fQ locs taken σ₀).blk (N+i)=some x->∃ety r,x=kN ety r (.v (n+i))/\∃y,locs[i]?=some y/\y.block (n+i)=some (kN ety r (.v (n+i))):=fun i x hi hx=>by
  rw[Cf,<-hN,if_pos (by omega)]at hx
  unfold wl at hx;rw[<-hN,if_neg (by omega),show N+i-N=i by omega,<-hn']at hx
  obtain⟨y,hy,hyb⟩:=Option.bind_eq_some_iff.1 hx;cases y with
  |tmp t s=>simp[Loc.block]at hyb
  |cell c o s=>simp[Loc.block]at hyb
  |inrow c e r=>simp[Loc.block]at hyb
  |tmprow t ety r=>simp only[Loc.block]at hyb;cases hyb;exact⟨ety,r,rfl,_,hy,rfl⟩
  |cellrow c o ety r=>simp only[Loc.block]at hyb;cases hyb;exact⟨ety,r,rfl,_,hy,rfl⟩
 have from0:∀b x,(fQ locs taken σ₀).blk b=some x->(b<N/\rows.contains (some b)=false/\bB locs n N b x (σ.blk b)=true/\(ib b locs n=some x\/(ib b locs n=none/\((∃ty xs,σ₀.blk b=some (.cells ty xs)/\x=.cells ty (.of (iF locs σ₀ b 0 xs.list)))\/(σ₀.blk b=some x/\∀ty xs,x≠.cells ty xs)))))\/∃i,b=N+i/\i<locs.length:=fun b x hx=>by
  by_cases hb:b<N
  ·left
   have h4:=f4 b (List.mem_range.2 hb);rw[hx]at h4;simp only[v0,RP]at h4;refine⟨hb,h4.1,h4.2,?_⟩
   rw[Cf,<-hN,if_pos (by omega)]at hx
   unfold wl at hx;rw[<-hN,if_pos hb,<-hn']at hx;split at hx
   ·cases hx
   ·split at hx
    ·rename_i y hy;cases hx;exact .inl hy
    ·rename_i hy
     refine .inr ⟨hy,?_⟩
     split at hx
     ·rename_i ty xs hb0;cases hx;exact .inl ⟨ty,xs,hb0,rfl⟩
     ·cases hx
     ·rename_i hne _
      exact .inr ⟨hx,fun ty xs e=>by subst e;exact hne ty xs hx⟩
  ·right
   rw[Cf,<-hN]at hx;split at hx
   ·exact⟨b-N,by omega,by omega⟩
   ·cases hx
 have fitsLive:∀b x,bB locs n N b x (σ.blk b)=true->∃y,σ.blk b=some y/\aD (some y)=aD (some x):=fun b x hx=>by
  cases hy:σ.blk b with
  |none=>rw[hy]at hx;cases x<;>simp[bB]at hx
  |some y=>
   rw[hy]at hx;refine⟨y,rfl,?_⟩
   cases x<;>cases y<;>first|rfl|(simp[bB]at hx)
 have whose:∀b k,aD ((fQ locs taken σ₀).blk b)=true->ak (κ' b)=some k->∃c,aD (σ.blk c)=true/\ak (κ c)=some k/\((b<N/\c=b/\rows.contains (some b)=false)\/∃i,b=N+i/\rows[i]?=some (some c)):=fun b k hl hk=>by
  obtain⟨x,hx,hxl⟩:=bF hl;rcases from0 b x hx with⟨h1,h2,h3,_⟩|⟨i,rfl,hi⟩
  ·obtain⟨y,hy,hyl⟩:=fitsLive b x h3
   exact⟨b,by rw[hy,hyl];exact hxl,by rw[<-hκ1 b h1];exact hk,.inl ⟨h1,rfl,h2⟩⟩
  ·obtain⟨ety,r,rfl,y,hy,hyb⟩:=hblkN i x hi hx
   obtain⟨x',ety',r',b,e,u,g1,g2,g3,g4,g5,g6,g7,g8⟩:=rowOfI i hi ⟨y,ety,r,hy,hyb⟩;rw[<-g5]at hk;rcases g8 with⟨rfl,g9⟩|⟨c,z,rfl,g9,g10⟩
   ·rw[g9]at hk;cases hk
   ·rw[g10]at hk
    exact⟨c,by rw[g9.1];exact g9.2,hk,.inr ⟨i,rfl,g3⟩⟩
 refine⟨hsorts,κ',hκ0,fun us=>?_,fun b k hb hk=>by obtain⟨c,h1,h2,_⟩:=whose b k hb hk;exact⟨c,h1,h2⟩⟩
 obtain⟨env2,henv2⟩:∃env2,env2=env++(vs++us):=⟨_,rfl⟩
 rw[<-henv2];have hag:Agree n (env++rs) env2:=by rw[henv2];exact(oV hn).symm.trans (oV hn)
 have hagE:Agree n (env++rsE) env2:=by rw[henv2];exact(oV hn).symm.trans (oV hn)
 have hvar:∀i x,locs[i]?=some x->∀v,vs[i]?=some v->den env2 (.v (n+i))=v:=fun i x _ v hv=>by
  rw[henv2];simp only[den,RU];rw[RK (by omega),show n+i-env.length=i by omega,y2 (List.getElem?_eq_some_iff.1 hv).1,hv];rfl
 have letter:∀i x,locs[i]?=some x->∀(sv:SV) (u:Value),SVden (env++rs) κ F w sv u →
   ((∃s e,x.sort=s/\rU sv s=some e/\vs[i]?=some (den (env++rs) e)/\x.letter (n+i) (N+i)=(fh (.v (n+i)) s).getD .any)\/∃ety r b e,x.sort=.sl r/\wD σ sv ety r=some (b,e)/\rows[i]?=some b/\vs[i]?=some (den (env++rs) e)/\x.letter (n+i) (N+i)=.row (N+i)) →
   SVden env2 κ' F w (x.letter (n+i) (N+i)) u:=fun i x hx sv u hu hh=>by
  rcases hh with⟨s,e,_,h2,h3,h4⟩|⟨ety,r,b,e,_,h2,h3,h4,h5⟩
  ·rw[h4]
   obtain⟨d1,d2,_⟩:=uV h2 hu;have hv:=hvar i x hx _ h3;cases hl:fh (.v (n+i)) s with
   |none=>trivial
   |some y=>
    have:=se (env:=env2) (κ:=κ') (F:=F) (w:=w) hl (by rw[hv];exact d2) (by rw[hv];exact d1)
    exact this
  ·rw[h5]
   obtain⟨d1,_,_,d4⟩:=oy h rfl h2 hu;refine⟨?_,d1⟩
   rw[hκ2 i (by have:=(List.getElem?_eq_some_iff.1 hx).1;exact this),h3]
   rcases d4 with⟨rfl,d5⟩|⟨c,y,rfl,_,d5⟩
   ·exact d5
   ·exact d5
 have same:∀(x:SV) (u:Value),x.sc n=true->(∀c∈x.names,c<N)->SVden (env++rs) κ F w x u->SVden env2 κ' F w x u:=fun x u hs hnames hd=>
  (hd.re hag hs).keep (fun b hb=>hκ1 b (hnames b hb)) (fun _ h=>h) (fun _ _=>rfl)
 have letter_names:∀(i:Nat) (x:Loc),locs[i]?=some x->∀c∈(x.letter (n+i) (N+i)).names,(∃e r,x=Loc.inrow c e r)\/(N<=c/\c<N+locs.length):=fun i x hx c hc=>by
  have hi:=(List.getElem?_eq_some_iff.1 hx).1;cases x with
  |tmp t s=>exact(Ai c hc).elim
  |cell b o s=>exact(Ai c hc).elim
  |tmprow t e r=>right;simp[Loc.letter,SV.names]at hc;omega
  |cellrow b o e r=>right;simp[Loc.letter,SV.names]at hc;omega
  |inrow b e r=>left;simp[Loc.letter,SV.names]at hc;subst hc;exact⟨e,r,rfl⟩
 constructor
 case tmps=>
  intro t;rw[wV];split
  ·rename_i htl
   have h3:=f3 t (List.mem_range.2 (show t<(fQ locs taken σ₀).L from htl))
   rw[v9,v9]at h3;rw[wV,if_pos htl]at h3;unfold wC at h3⊢
   rw[<-hN,<-hn']at h3⊢
   cases hlt:ej (·.isTmp t) locs n N with
   | some sv=>
    obtain⟨i,x,hx,hp,rfl⟩:=jg locs n N hlt;simp only[RM];obtain⟨b,e,g1,g2,g3⟩:=t3 i x hx;cases x with
    |tmp t' s=>
     have:t'=t:=by simpa[Loc.isTmp]using hp
     subst this;refine letter i _ hx (nz σ.blk (σ.tmp t')) _ (nzd (h.tmps t')) ?_
     simp only[da]at g3;split at g3
     ·rename_i e' hl;cases g3;exact .inl ⟨_,_,rfl,hl,g2,rfl⟩
     ·cases g3
    |tmprow t' ety r=>
     have:t'=t:=by simpa[Loc.isTmp]using hp
     subst this;exact letter i _ hx (σ.tmp t') _ (h.tmps t') (.inr ⟨ety,r,b,e,rfl,g3,g1,g2,rfl⟩)
    |cell _ _ _=>simp[Loc.isTmp]at hp
    |cellrow _ _ _ _=>simp[Loc.isTmp]at hp
    |inrow _ _ _=>simp[Loc.isTmp]at hp
   | none=>
    rw[hlt]at h3;simp only[Sk]at h3⊢;rcases h3 with(h3|h3)|h3
    ·rw[(je locs n N).1 hlt]at h3;cases h3
    ·have:σ₀.tmp t=.any:=by simpa using h3
     rw[this];trivial
    ·simp only[v0,beq_iff_eq,v4,decide_eq_true_eq]at h3
     exact same _ _ h3.1.2 h3.2 (by rw[h3.1.1];exact h.tmps t)
  ·trivial
 case size=>rw[f1];exact h.size
 case blks=>
  intro b x hx;rcases from0 b x hx with⟨h1,h2,h3,h4⟩|⟨i,rfl,hi⟩
  ·rcases h4 with h4|⟨h4n,h4⟩
   ·
    obtain⟨i,e,r,hx',rfl⟩:=nB locs n h4;obtain⟨b',e',g1,g2,g3⟩:=t3 i _ hx';simp only[da]at g3;split at g3
    ·rename_i a' t' l' hb'
     split at g3
     ·rename_i hh
      obtain⟨rfl,rfl,hne⟩:=hh;cases g3
      obtain⟨us',q1,q2,q3⟩:=h.blks b _ hb';have hv:=hvar i _ hx' _ g2;rw[if_neg hne];refine⟨us',?_,q2,?_⟩
      ·rw[hv,hκ1 b h1];exact q1
      ·rw[hv];exact q3
     ·cases g3
    ·rename_i t' l' hb'
     split at g3
     ·rename_i hh
      obtain⟨rfl,rfl⟩:=hh;cases g3
      obtain⟨rm,es',cl,q1,q2,q3,q4⟩:=h.blks b _ hb';have hv:=hvar i _ hx' _ g2;rw[if_pos rfl];exact⟨rm,es',cl,by rw[hκ1 b h1];exact q1,q2,q3,by rw[hv];exact q4⟩
     ·cases g3
    ·cases g3
   ·rcases h4 with⟨ty,xs₀,hb₀,rfl⟩|⟨h4,hnc⟩
    ·
     cases hy:σ.blk b with
     |none=>rw[hy]at h3;simp[bB]at h3
     | some y=>
      rw[hy]at h3;cases y with
      | cells ty' ys=>
       simp only[bB,v0,beq_iff_eq]at h3;obtain⟨⟨rfl,hp⟩,hc⟩:=h3;obtain⟨g,cs,q1,q2,q3,q4,q5,q6⟩:=h.blks b _ hy;obtain⟨s1,s2⟩:=bJ q5 q4;obtain⟨c1,c2⟩:=pC _ _ 0 hc;refine⟨g,cs,by rw[hκ1 b h1];exact q1,q2,q3,?_,hp,q6⟩
       rw[fz]at c1 c2;have:=gu (env:=env2) (κ:=κ') (F:=F) (w:=w) (l:=iF locs σ₀ b 0 xs₀.list) (cs:=cs.toList) (by rw[c1,list_len];simpa using s1) (fun o x u g1 g2=>by
        have hy':∃y,ys.list[o]?=some y:=⟨_,RN (by rw[<-c1];exact(List.getElem?_eq_some_iff.1 g1).1)⟩
        obtain⟨y,hy'⟩:=hy';obtain⟨u',hu',hd⟩:=s2 o y hy';rw[RT,hu']at g2;cases g2
        have g3:=pG locs σ₀ b xs₀.list 0 o;rw[g1]at g3;obtain⟨x₀,_,g4⟩:=Option.map_eq_some_iff.1 g3.symm;rw[y3,<-hN,<-hn']at g4;cases hlt:ej (·.isCell b o) locs n N with
        | some sv=>
         rw[hlt,RM]at g4;subst g4;obtain⟨i,z,hz,hp',rfl⟩:=jg locs n N hlt;obtain⟨b',e,k1,k2,k3⟩:=t3 i z hz;have hcell:oU σ b o=some y:=by unfold oU;rw[hy];exact hy'
         cases z with
         |tmp _ _=>simp[Loc.isCell]at hp'
         |tmprow _ _ _=>simp[Loc.isCell]at hp'
         |inrow _ _ _=>simp[Loc.isCell]at hp'
         |cell c o' s=>
          have hco:c=b/\o'=o:=by simpa[Loc.isCell]using hp'
          obtain⟨rfl,rfl⟩:=hco;refine letter i _ hz (nz σ.blk y) _ (nzd hd) ?_
          simp only[da,hcell,RZ]at k3;split at k3
          ·rename_i e' hl;cases k3;exact .inl ⟨_,_,rfl,hl,k2,rfl⟩
          ·cases k3
         |cellrow c o' ety r=>
          have hco:c=b/\o'=o:=by simpa[Loc.isCell]using hp'
          obtain⟨rfl,rfl⟩:=hco;simp only[da,hcell,RZ]at k3;exact letter i _ hz y _ hd (.inr ⟨ety,r,b',e,rfl,k3,k1,k2,rfl⟩)
        |none=>
         rcases c2 o x y g1 hy' with h6|⟨h6,h7,h8⟩
         ·rw[y3,(je locs n N).1 hlt]at h6;cases h6
         ·subst h6;exact same x _ h7 h8 hd)
       simpa using this
      |_=>simp[bB]at h3
    ·cases hy:σ.blk b with
     |none=>rw[hy]at h3;cases x<;>simp[bB]at h3
     | some y=>
      rw[hy]at h3;have hsb:=h.blks b y hy;have hin:=rK locs n h4n;cases x with
      |cells ty xs=>exact absurd rfl (hnc ty xs)
      |dead l=>cases y<;>simp[bB]at h3
      | row e t l=>
       cases y with
       |row e' t' l'=>
        simp only[bB,v0,beq_iff_eq,v9,hin,RX,false_or]at h3;obtain⟨⟨rfl,rfl⟩,rfl,hs⟩:=h3;obtain⟨us',q1,q2,q3⟩:=hsb;refine⟨us',?_,q2,?_⟩
        ·rw[hag l hs,hκ1 b h1];exact q1
        ·rw[hag l hs];exact q3
       |_=>simp[bB]at h3
      | ice e t l=>
       cases y with
       |ice e' t' l'=>
        simp only[bB,v0,beq_iff_eq]at h3;obtain⟨⟨⟨rfl,rfl⟩,rfl⟩,hs⟩:=h3;obtain⟨q1,q2⟩:=hsb;exact⟨by rw[hag l hs,hκ1 b h1];exact q1,by rw[hag l hs,hκ1 b h1];exact q2⟩
       |_=>simp[bB]at h3
      | map ks vs'=>
       cases y with
       |map ks' vs''=>
        simp only[bB,v0,beq_iff_eq,v4,decide_eq_true_eq]at h3;obtain⟨⟨⟨⟨rfl,rfl⟩,hs1⟩,hs2⟩,hnm⟩:=h3;obtain⟨r,es',cl,q1,q2,q3,q4,q5,q6,q7⟩:=hsb;exact⟨r,es',cl,by rw[hκ1 b h1];exact q1,q2,q3,q4,q5,q6,(q7.re hag hs1 hs2).keep (fun c hc=>hκ1 c (hnm c hc)) (fun _ h=>h) (fun _ _=>rfl)⟩
       |_=>simp[bB]at h3
      | qrow e t l=>
       cases y with
       |qrow e' t' l'=>
        simp only[bB,v0,beq_iff_eq]at h3;obtain⟨⟨⟨rfl,rfl⟩,rfl⟩,hs⟩:=h3;obtain⟨us',q1,q2,q3⟩:=hsb;refine⟨us',?_,q2,?_⟩
        ·rw[hag l hs,hκ1 b h1];exact q1
        ·rw[hag l hs];exact q3
       |_=>simp[bB]at h3
      | amap t l=>
       cases y with
       |amap t' l'=>
        simp only[bB,v0,beq_iff_eq,v9,hin,RX,false_or]at h3;obtain⟨rfl,rfl,hs⟩:=h3;obtain⟨rm,es',cl,q1,q2,q3,q4⟩:=hsb;exact⟨rm,es',cl,by rw[hκ1 b h1];exact q1,q2,q3,by rw[hag l hs];exact q4⟩
       |_=>simp[bB]at h3
      | loop i st p=>
       cases y with
       |loop i' st' p'=>
        simp only[bB,v0,beq_iff_eq,v4]at h3;obtain⟨⟨⟨rfl,rfl⟩,hs⟩,hnm⟩:=h3;obtain⟨q,_⟩:=hloop b i st p i' h4 hy;refine SBden.keep (SBden.re (x:=.loop i st p) hagE hs q) (fun c hc=>hκ1 c ?_) (hκ1 b h1) (fun _ h=>h) (fun _ _=>rfl) (fun _ _ _=>rfl)
        obtain⟨t,_,hc⟩:=List.mem_flatMap.1 hc;exact jj (hnm c (Ov.mem_flat (d:=SV.any) rfl hc))
       |_=>simp[bB]at h3
  ·obtain⟨ety,r,rfl,y,hy,hyb⟩:=hblkN i x hi hx
   obtain⟨x',ety',r',b,e,u,g1,g2,g3,g4,g5,g6,⟨us',g7,g8,g9⟩,_⟩:=rowOfI i hi ⟨y,ety,r,hy,hyb⟩;rw[hy]at g1;cases g1
   rw[hyb]at g2;obtain⟨rfl,rfl,_⟩:=AU (Option.some.inj g2);have hv:=hvar i y hy _ g4;refine L9 ⟨us',?_,g8,?_⟩
   ·rw[hv,<-g5];exact g7
   ·rw[hv];exact g9
 case inj=>
  intro b c k hb hc g1 g2;obtain⟨b',p1,p2,p3⟩:=whose b k hb g1;obtain⟨c',q1,q2,q3⟩:=whose c k hc g2;have hbc:=h.inj b' c' k p1 q1 p2 q2;subst hbc;rcases p3 with⟨_,p4,p5⟩|⟨i,p4,p5⟩<;>rcases q3 with⟨_,q4,q5⟩|⟨j,q4,q5⟩
  ·rw[<-p4,<-q4]
  ·exfalso
   rw[<-p4]at p5;have:rows.contains (some b')=true:=by simpa using v6 q5
   rw[p5]at this;cases this
  ·exfalso
   rw[<-q4]at q5;have:rows.contains (some b')=true:=by simpa using v6 p5
   rw[q5]at this;cases this
  ·rw[p4,q4,pz rows f2 i j b' p5 q5]
 case nF=>
  intro b k hb g1;obtain⟨b',p1,p2,_⟩:=whose b k hb g1;exact h.nF b' k p1 p2
 case F=>exact h.F
 case tnames=>
  intro t b hb;rw[wV]at hb;split at hb
  ·rename_i htl
   have h3:=f3 t (List.mem_range.2 (show t<(fQ locs taken σ₀).L from htl))
   rw[v9,v9]at h3;rw[wV,if_pos htl]at h3;unfold wC at h3 hb;rw[<-hN,<-hn']at h3 hb;cases hlt:ej (·.isTmp t) locs n N with
   |some sv=>
    rw[hlt]at hb;obtain⟨i,x,hx,hp,rfl⟩:=jg locs n N hlt;rcases letter_names i x hx b hb with⟨e,r,rfl⟩|h4
    ·simp[Loc.isTmp]at hp
    ·exact .inr h4
   | none=>
    rw[hlt]at h3 hb;simp only[Sk]at h3 hb;rcases h3 with(h3|h3)|h3
    ·rw[(je locs n N).1 hlt]at h3;cases h3
    ·have:σ₀.tmp t=.any:=by simpa using h3
     rw[this]at hb;cases hb
    ·simp only[v0,beq_iff_eq,v4,decide_eq_true_eq]at h3
     left
     refine hU b ?_ (h3.2 b hb)
     rw[h3.1.1]at hb;exact h.tnames t b hb
  ·cases hb
 case bnames=>
  intro b x hx;rcases from0 b x hx with⟨h1,h2,h3,h4⟩|⟨i,rfl,hi⟩
  ·obtain⟨y,hy,_⟩:=fitsLive b x h3
   obtain⟨hUb,hUn⟩:=h.bnames b y hy;refine⟨.inl (hU b hUb h1),fun c hc=>?_⟩
   rcases h4 with h4|⟨h4n,h4⟩
   ·obtain⟨i,e,r,_,rfl⟩:=nB locs n h4
    split at hc<;>cases hc
   ·rcases h4 with⟨ty,xs₀,hb₀,rfl⟩|⟨h4,hnc⟩
    ·rw [hy]at h3
     cases y with
     | cells ty' ys=>
      simp only[bB,v0,beq_iff_eq]at h3;obtain⟨⟨rfl,hp⟩,hcf⟩:=h3;obtain⟨c1,c2⟩:=pC _ _ 0 hcf;rw[fz]at c1 c2;obtain⟨z,hz,hcz⟩:=(gT _ c).1 hc;obtain⟨o,ho⟩:=List.getElem?_of_mem hz;have g3:=pG locs σ₀ b xs₀.list 0 o;rw[ho]at g3;obtain⟨x₀,_,g4⟩:=Option.map_eq_some_iff.1 g3.symm;rw[y3,<-hN,<-hn']at g4;cases hlt:ej (·.isCell b o) locs n N with
      |some sv=>
       rw[hlt,RM]at g4;subst g4;obtain⟨i,z',hz',hp',rfl⟩:=jg locs n N hlt;rcases letter_names i z' hz' c hcz with⟨e,r,rfl⟩|h5
       ·simp[Loc.isCell]at hp'
       ·exact .inr h5
      | none=>
       have hy':∃y,ys.list[o]?=some y:=⟨_,RN (by rw[<-c1];exact(List.getElem?_eq_some_iff.1 ho).1)⟩
       obtain⟨y,hy'⟩:=hy';rcases c2 o z y ho hy' with h6|⟨h6,h7,h8⟩
       ·rw[y3,(je locs n N).1 hlt]at h6;cases h6
       ·subst h6
        exact .inl (hU c (hUn c (cr ys z (v6 hy') c hcz)) (h8 c hcz))
     |_=>simp[bB]at h3
    ·rw[hy]at h3
     cases x with
     |cells ty xs=>exact absurd rfl (hnc ty xs)
     |dead l=>cases hc
     |row e t l=>cases hc
     |ice e t l=>cases hc
     |amap t l=>cases hc
     |qrow e t l=>cases hc
     | map ks vs'=>
      cases y with
      |map ks' vs''=>
       simp only[bB,v0,beq_iff_eq,v4,decide_eq_true_eq]at h3;obtain⟨⟨⟨⟨rfl,rfl⟩,hs1⟩,hs2⟩,hnm⟩:=h3;exact .inl (hU c (hUn c hc) (hnm c hc))
      |_=>simp[bB]at h3
     | loop i st p=>
      cases y with
      |loop i' st' p'=>
       simp only[bB,v0,beq_iff_eq,v4]at h3;obtain⟨⟨⟨rfl,rfl⟩,hs⟩,hnm⟩:=h3;exact .inl ((hloop b i st p i' h4 hy).2 c hc)
      |_=>simp[bB]at h3
  ·obtain⟨ety,r,rfl,y,hy,hyb⟩:=hblkN i x hi hx
   exact⟨.inr ⟨by omega,by omega⟩,fun c hc=>by rw[JT]at hc;cases hc⟩
 case below=>exact h.below
end Go.Sx
