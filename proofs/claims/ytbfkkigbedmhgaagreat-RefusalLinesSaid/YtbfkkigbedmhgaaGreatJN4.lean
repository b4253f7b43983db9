/-
  Texts of this claim, joined (part JN4).
-/
import Derived.Test.YtbfkkigbedmhgaaGreatJN3
import Derived.RecoverIn
import Derived.Test.YtbfkkigbedmhgaaGreatProg
set_option linter.unusedVariables false
set_option linter.unusedSimpArgs false
set_option linter.unusedSectionVars false
set_option linter.constructorNameAsVariable false
namespace Go.Sx
open Go Go.RowKit Go.Dial
variable {env:List AV} {κ κ':Nat->Value} {F F':Nat->Prop} {w w' w0:World} {U:Nat->Prop} {tmp:Nat->SV} {blk:Nat->Option SB} {L:Nat} {a:Act} {P:Program} {Post:R->Prop} {K:Nat->List AV->Prop} {cfg:Cfg} {run:Run} {ro:Option Nat}
theorem Ends.refl{σ:SS}(h:Rel w0 env κ F U σ.tmp σ.blk σ.L a w):Ends w0 env κ F U σ a w σ a w:=⟨κ,F,h.monoU (fun b hb=>.inl hb),Kept.refl,Marks.nil⟩
theorem KZ{σ:SS}:Leads P w0 ro .skip env σ .normal σ:=⟨Nat.le_refl _,fun _ _ _ _ _ h _ _=>wpIn_skip ⟨rfl,Ends.refl h⟩⟩
theorem KO{σ:SS}{id:Nat}:Leads P w0 ro (.exit id) env σ (.exit id) σ:=⟨Nat.le_refl _,fun _ _ _ _ _ h _ _=>wpIn_exit ⟨rfl,Ends.refl h⟩⟩
theorem LE{σ:SS}:Leads P w0 ro .ret env σ .ret σ:=⟨Nat.le_refl _,fun _ _ _ _ _ h _ _=>wpIn_ret ⟨rfl,Ends.refl h⟩⟩
theorem Jy{σ:SS}{l:Nat}:Leads P w0 ro (.label l) env σ .normal σ:=⟨Nat.le_refl _,fun _ _ _ _ _ h _ _=>wpIn_label ⟨rfl,Ends.refl h⟩⟩
theorem iC{b:Frame}{a:Act}{k:List Item}{cs:List Frame}{w:World}{c:Code}:step P (lone (b.atR a (.code (.scope c)::k)) cs w)=.next (lone (b.atR a (.code c::.inScope c::k)) cs w):=
 step_lone_go (by simp[stepG,stepG.exec,Frame.atR])
theorem Fu{b:Frame}{a:Act}{k:List Item}{cs:List Frame}{w:World}{c:Code}:step P (lone (b.atR a (.inScope c::k)) cs w)=.next (lone (b.atR a k) cs w):=
 step_lone_go (by simp[stepG,stepG.exec,Frame.atR])
theorem KC{F:Fence}{n:Nat}{c:Code}{Q:Exit->Act->World->Prop}{a:Act}{w:World}(hQ:∀l a w,¬Q (.goto l) a w)(h:c.wpIn F n P Q a w):(Code.scope c).wpIn F n P Q a w:=by
 intro b k cs hro hb hr;have h0:(lone (b.atR a (.code (.scope c)::k)) cs w).fenced P F:=fenced_calm hb hr rfl
 obtain⟨e,a₁,w₁,hq,harr⟩:=h b (.inScope c::k) cs hro hb hr;cases e with
 |normal=>exact⟨.normal,a₁,w₁,hq,.head h0 iC (StepsIn.trans harr (.one (fenced_calm hb hr rfl) Fu))⟩
 | exit id=>
  have hx:exitTo id (.inScope c::k)=exitTo id k:=by simp[exitTo]
  exact⟨.exit id,a₁,w₁,hq,fun k' hk=>.head h0 iC (harr.1 k' (by rw[hx];exact hk)),
   fun hr' hk=>let ⟨k₁,h1,h2⟩:=harr.2 hr' (by rw[hx];exact hk);⟨k₁,h1,.head h0 iC h2⟩⟩
 |goto l=>exact absurd hq (hQ l a₁ w₁)
 |ret=>exact⟨_,a₁,w₁,hq,.of_steps (.one h0 iC) harr⟩
 |panic ch=>exact⟨_,a₁,w₁,hq,.of_steps (.one h0 iC) harr⟩
 |outgrown=>exact⟨_,a₁,w₁,hq,.of_steps (.one h0 iC) harr⟩
theorem Jd{c:Code}{σ σ':SS}{ex:Ex}(h1:Leads P w0 ro c env σ ex σ'):Leads P w0 ro (.scope c) env σ ex σ':=by
 refine⟨h1.le,fun κ F U a w h hU hro=>KC (fun l a w hq=>?_) (h1.go κ F U a w h hU hro)⟩
 have:=hq.1
 cases ex<;>cases this
theorem Le{x y:Code}{σ σ₁ σ₂:SS}{ex:Ex}(h1:Leads P w0 ro x env σ .normal σ₁)(h2:Leads P w0 ro y env σ₁ ex σ₂):Leads P w0 ro (.seq x y) env σ ex σ₂:=by
 have l1:=h1.le;have l2:=h2.le;refine⟨by omega,fun κ F U a w h hU hro=>wpIn_seq (wpIn_mono (h1.go κ F U a w h hU hro) ?_)⟩
 rintro e a' w' ⟨rfl,hE⟩;show y.wpIn (FR (dE κ ro)) 0 P _ a' w'
 exact Mi l1 hE hU hro h2 (fun a'' w'' hE=>⟨rfl,hE⟩)
theorem oj{x y:Code}{σ σ₁:SS}{ex:Ex}(hex:ex≠.normal)(h1:Leads P w0 ro x env σ ex σ₁):Leads P w0 ro (.seq x y) env σ ex σ₁:=by
 refine⟨h1.le,fun κ F U a w h hU hro=>wpIn_seq (wpIn_mono (h1.go κ F U a w h hU hro) ?_)⟩
 rintro e a' w' ⟨rfl,hE⟩;cases ex with
 |normal=>exact absurd rfl hex
 |exit id=>exact⟨rfl,hE⟩
 |ret=>exact⟨rfl,hE⟩
 |panic v=>exact⟨rfl,hE⟩
theorem oU{c:Operand}{x y:Code}{σ σ':SS}{ex:Ex}{e:E}{b:Bool}(he:σ.ev c=.vb e)(hb:(den env e).b=b)(h1:Leads P w0 ro (if b then x else y) env σ ex σ'):Leads P w0 ro (.cond c x y) env σ ex σ':=by
 refine⟨h1.le,fun κ F U a w h hU hro=>?_⟩
 have hv:=h.ev c;rw[<-iP,he]at hv;exact wpIn_cond (hv.1.trans (by rw[hb])) (h1.go κ F U a w h hU hro)
theorem j5{id:Nat}{c:Code}{σ σ':SS}{ex ex':Ex}(hex:ex'=match ex with|.exit i=>if i=id then .normal else .exit i|e=>e)(h1:Leads P w0 ro c env σ ex σ'):Leads P w0 ro (.block id c) env σ ex' σ':=by
 refine⟨h1.le,fun κ F U a w h hU hro=>wpIn_block (wpIn_mono (h1.go κ F U a w h hU hro) ?_)⟩
 rintro e a' w' ⟨rfl,hE⟩;subst hex;cases ex with
 |normal=>exact⟨rfl,hE⟩
 |ret=>exact⟨rfl,hE⟩
 |panic v=>exact⟨rfl,hE⟩
 |exit i=>
  show Exit.inBlock id _ (.exit i) a' w'
  unfold Exit.inBlock;simp only
  split
  ·exact⟨rfl,hE⟩
  ·exact⟨rfl,hE⟩
structure LeadsR (P:Program) (w0:World) (ro:Option Nat) (c:Code) (m:Nat) (env:List AV) (σ:SS) (ex:Ex) (σ':SS):Prop where
 le:σ.N<=σ'.N
 go:∀(κ:Nat->Value) (F U:Nat->Prop) (a:Act) (w:World),Rel w0 env κ F U σ.tmp σ.blk σ.L a w->(∀b,σ.N<=b->¬U b)->(∀b,ro=some b->U b) →
  Code.roundsIn (FR (dE κ ro)) 0 P c (fun e a' w'=>e=ex.exit'/\Ends w0 env κ F U σ a w σ' a' w') m a w
theorem LeadsR.loop{c:Code}{m:Nat}{σ σ':SS}{ex:Ex}(h:LeadsR P w0 ro c m env σ ex σ'):Leads P w0 ro (.loop c) env σ ex σ':=
 ⟨h.le,fun κ F U a w hr hU hro=>wpIn_loop_rounds m (h.go κ F U a w hr hU hro)⟩
theorem kf{Fc:Fence}{c:Code}{Q Q':Exit->Act->World->Prop}(hq:∀e a w,Q e a w->Q' e a w):∀(m:Nat) (a:Act) (w:World),Code.roundsIn Fc 0 P c Q m a w->Code.roundsIn Fc 0 P c Q' m a w
 |0,_,_,h=>h
 |m+1,a,w,h=>by
  rw[roundsIn_succ]at h⊢
  refine wpIn_mono h (fun e a' w' he=>?_)
  cases e with
  |normal=>exact kf hq m a' w' he
  |_=>exact hq _ _ _ he
theorem zO{c:Code}{m:Nat}{σ σ₁ σ₂:SS}{ex:Ex}(h1:Leads P w0 ro c env σ .normal σ₁)(h2:LeadsR P w0 ro c m env σ₁ ex σ₂):LeadsR P w0 ro c (m+1) env σ ex σ₂:=by
 have l1:=h1.le;have l2:=h2.le;refine⟨by omega,fun κ F U a w h hU hro=>?_⟩
 rw[roundsIn_succ];refine wpIn_mono (h1.go κ F U a w h hU hro) ?_
 rintro e a' w' ⟨rfl,κ1,F1,r1,k1,m1⟩;show Code.roundsIn _ 0 P c _ m a' w'
 rw[<-dQ (κ:=κ) (κ':=κ1) (ro:=ro) (fun b hb=>k1.kap b (hro b hb))]
 refine kf ?_ m a' w' (h2.go κ1 F1 _ a' w' r1 (fun b h2 hb=>?_) (fun b hb=>.inl (hro b hb)))
 ·rintro e a'' w'' ⟨rfl,h4⟩
  exact⟨rfl,Ends.trans l1 l2 r1 k1 m1 h4⟩
 ·rcases hb with hb|hb
  ·exact hU b (by omega) hb
  ·omega
theorem lD{c:Code}{σ σ':SS}{ex:Ex}(hex:ex≠.normal)(h1:Leads P w0 ro c env σ ex σ'):LeadsR P w0 ro c 1 env σ ex σ':=by
 refine⟨h1.le,fun κ F U a w h hU hro=>?_⟩
 rw[roundsIn_succ];refine wpIn_mono (h1.go κ F U a w h hU hro) ?_
 rintro e a' w' ⟨rfl,hE⟩;cases ex with
 |normal=>exact absurd rfl hex
 |exit id=>exact⟨rfl,hE⟩
 |ret=>exact⟨rfl,hE⟩
 |panic v=>exact⟨rfl,hE⟩
theorem Rel.forget(h:Rel w0 env κ F U tmp blk L a w){tmp':Nat->SV}(ht:∀t,tmp' t=.any\/tmp' t=tmp t):Rel w0 env κ F U tmp' blk L a w:=
 { h with
  tmps:=fun t=>by rcases ht t with e|e;rw[e];trivial;rw[e];exact h.tmps t
  tnames:=fun t b hb=>by rcases ht t with e|e;rw[e]at hb;cases hb;rw[e]at hb;exact h.tnames t b hb }
theorem Jv(ds:List Nat)(locs:List Loc):∀σ:SS,(∀t,(forget ds locs σ).tmp t=.any\/(forget ds locs σ).tmp t=σ.tmp t)/\(forget ds locs σ).L=σ.L/\(forget ds locs σ).N=σ.N/\(forget ds locs σ).blk=σ.blk/\(forget ds locs σ).n=σ.n/\(forget ds locs σ).known=σ.known/\(forget ds locs σ).dep=σ.dep:=by
 unfold forget;induction ds with
 |nil=>intro σ;exact⟨fun t=>.inr rfl,rfl,rfl,rfl,rfl,rfl,rfl⟩
 | cons d ds ih=>
  intro σ;simp only[List.foldl_cons];split
  ·exact ih σ
  ·obtain⟨h1,h2,h3,h4,h5,h6,h7⟩:=ih (σ.put (some d) .any)
   refine⟨fun t=>?_,h2,h3,h4,h5,h6,h7⟩
   rcases h1 t with e|e
   ·exact .inl e
   ·rw[e]
    by_cases hd:d<σ.L
    ·obtain⟨g1,_⟩:=ej σ (dst:=some d) (v:=.any) (fun x hx=>by cases hx;exact hd)
     rw[g1];simp only[eP,upd];split
     ·exact .inl rfl
     ·exact .inr rfl
    ·by_cases ht:t<σ.L
     ·right
      have:Nat.beq d t=false:=by rw[<-Bool.not_eq_true,Nat.beq_eq];omega
      show(Ov.put σ.rf d .any).get .any t=σ.rf.get .any t
      unfold Ov.get Ov.put;simp only[this]
     ·left;exact Ov.get_out (by show σ.L<=t;omega)
theorem Bf{rsE:List AV}{σ₀ σ:SS}{κE:Nat->Value}{FE U₀:Nat->Prop}{aE:Act}{wE:World}{env':List AV}(hE:Rel w0 (env++rsE) κE FE U₀ σ₀.tmp σ₀.blk σ₀.L aE wE)(k:Kept U₀ σ₀.blk κE FE wE σ.blk κ F w)(h:Rel w0 env' κ F U σ.tmp σ.blk σ.L a w):
  ∀b i st p i',σ₀.blk b=some (.loop i st p)->σ.blk b=some (.loop i' st p)->SBden (env++rsE) κ F w0.heap.size w b (.loop i st p)/\∀c∈(SB.loop i st p).names,U₀ c:=by
 intro b i st p i' h0 h1;obtain⟨hUb,hnm⟩:=hE.bnames b _ h0;refine⟨?_,hnm⟩
 obtain⟨l,r,q1,q2,q3,q4,q5,q6,q7,q8,q9,q10⟩:=hE.blks b _ h0;obtain⟨l',r',p1,p2,p3,p4,p5,_⟩:=h.blks b _ h1;have hk:=k.kap b hUb;rw[p1,q1]at hk;have:l'=l:=by injection hk with h1;injection h1 with h1;injection h1
 subst this;obtain⟨r2,s1,s2,s3,s4,s5⟩:=k.recs l' r q2;rw[p2]at s1;have:r'=r2:=by injection s1 with s1;injection s1
 subst this;exact⟨l',r',p1,p2,p3,p4,p5,s2.trans q6,s3.trans q7,s4.trans q8,by rw[s5];exact q9,fun t=>by rw[s5];exact k.sv hE (q10 t) (xB hE h0 t)⟩
theorem Mb{U₀:Nat->Prop}{blk0 blk1 blkh:Nat->Option SB}{κE κ1:Nat->Value}{FE F1:Nat->Prop}{wE w1:World}{N M:Nat}(k:Kept U₀ blk0 κE FE wE blk1 κ1 F1 w1)(hκ:∀b,¬(N<=b/\b<M)->κ' b=κ1 b)(hU:∀b,N<=b->b<M->¬U₀ b)
  (hw:∀b j,aA (blkh b)=true->ah (κ' b)=some j->∃c,aA (blk1 c)=true/\ah (κ1 c)=some j):Kept U₀ blk0 κE FE wE blkh κ' F1 w1:=
 { k with
  kap:=fun b hb=>(hκ b (fun hh=>hU b hh.1 hh.2 hb)).trans (k.kap b hb)
  prov:=fun b j h1 h2=>by obtain⟨c,h3,h4⟩:=hw b j h1 h2;exact k.prov c j h3 h4 }
theorem AJ{σ:SS}:∀ {locs:List Loc} {rows:List (Option Nat)} {es:E} {xs:List AV},lW σ locs=some (rows,es)->xs.length=locs.length->(fk (locs.map Loc.sort) xs).map AV.ty=locs.map Loc.sort
 |[],_,_,xs,_,_=>rfl
 |x::l,rows,es,[],_,hl=>by simp at hl
 | x :: l,rows,es,y::xs,h,hl=>by
  simp only[lW]at h;split at h
  ·rename_i b e bs es' h1 h2
   show(co x.sort y).ty::(fk (l.map Loc.sort) xs).map AV.ty=x.sort::l.map Loc.sort
   rw[AJ h2 (by simpa using hl)]
   congr 1
   have leafs:∀ {sv:SV} {e:E} {u:Ty},p9 sv u=some e->(co u y).ty=u:=fun{sv} {e} {u} hh=>by
    unfold p9 at hh;split at hh
    ·rfl
    ·split at hh
     ·rename_i e' u' hl
      split at hh
      ·rename_i hu;subst hu
       cases sv<;>simp only[SV.leaf]at hl<;>cases hl<;>rfl
      ·cases hh
     ·cases hh
   cases x with
   |tmp t s=>
    simp only[cG]at h1;split at h1
    ·rename_i e' hlf;exact leafs hlf
    ·cases h1
   | cell c o s=>
    simp only[cG]at h1;split at h1
    ·rename_i e' hlf
     obtain⟨sv,_,q2⟩:=Option.bind_eq_some_iff.1 hlf;exact leafs q2
    ·cases h1
   |tmprow _ _ _=>rfl
   |cellrow _ _ _ _=>rfl
   |inrow _ _ _=>rfl
  ·cases h
theorem Hn{α:Type}(l:List Loc)(k:List Loc->α):fL G8 l k=k l:=jz OO l k
theorem Ek{fid id N₀:Nat}{c:Code}{locs:List Loc}{ds:List Nat}{body:(Ex->SS->T)->SS->T}(ih:∀(Post:R->Prop) (K:Nat->List AV->Prop) (k:Ex->SS->T) (σ:SS) (env:List AV),env.length=σ.n->KnownOK env σ.n σ.known->(body k σ).den P Post env K->Path P Post w0 ro c env K σ k)
  {k:Ex->SS->T} {σ:SS} (hn:env.length=σ.n) (hk:KnownOK env σ.n σ.known) (h:(zd fid id N₀ locs ds body k σ).den P Post env K):Path P Post w0 ro (.loop c) env K σ k:=by
 unfold zd at h;simp only[Hn,SS.go_eq,zg,SS.all_eq]at h;obtain⟨g1,g2,g3,g4,g5,g6,g7⟩:=Jv ds locs σ;obtain⟨σ₀,hσ₀⟩:∃σ₀,σ₀=forget ds locs σ:=⟨_,rfl⟩
 rw[<-hσ₀]at h g1 g2 g3 g4 g5 g6 g7;split at h
 ·exact h.elim
 rename_i taken es htails
 split at h
 rotate_left
 ·exact h.elim
 rename_i hc
 rw[Bool.and_eq_true]at hc;obtain⟨c1,c2⟩:=hc;obtain⟨I,μ,h0,hround⟩:=h;have hn0:env.length=σ₀.n:=by rw[g5];exact hn
 obtain⟨hd,hhd⟩:∃hd,hd=eS locs taken σ₀:=⟨_,rfl⟩
 rw[<-hhd]at c2 hround;have hhN:hd.N=σ₀.N+locs.length:=by rw[hhd];rfl
 have hhn:hd.n=σ₀.n+locs.length:=by rw[hhd];rfl
 have hhk:hd.known=σ₀.known:=by rw[hhd];rfl
 have key:∀(v:Nat) (vs:List AV),μ vs=v->vs.map AV.ty=locs.map Loc.sort->I vs->∃(m:Nat) (ex:Ex) (σ':SS) (rsT:List AV) (K':Nat->List AV->Prop),(k ex σ').den P Post (env++rsT) K'/\(∀l,l<σ.dep->K' l=K l)/\σ'.dep=σ.dep/\KnownOK (env++rsT) σ'.n σ'.known/\(env++rsT).length=σ'.n/\hd.N<=σ'.N ∧
   ∀ (us rsE:List AV) (κE:Nat->Value) (FE U₀:Nat->Prop) (aE:Act) (wE:World),Rel w0 (env++rsE) κE FE U₀ σ₀.tmp σ₀.blk σ₀.L aE wE->(∀b,σ₀.N<=b->¬U₀ b)->(∀b,ro=some b->U₀ b) →
    ∀(κ:Nat->Value) (F:Nat->Prop) (a:Act) (w:World),(∀x,Rel w0 (env++(vs++x)) κ F (fun b=>U₀ b\/(σ₀.N<=b/\b<hd.N)) hd.tmp hd.blk hd.L a w)->Kept U₀ σ₀.blk κE FE wE hd.blk κ F w->Marks wE aE.defers F w a.defers →
     Code.roundsIn (FR (dE κE ro)) 0 P c (fun e a' w'=>e=ex.exit'/\Ends w0 (env++rsT++us) κE FE U₀ σ₀ aE wE σ' a' w') m a w:=by
  intro v;induction v using Nat.strongRecOn with
  | _ v ihv=>
   intro vs hv hty hI;have hvl:vs.length=locs.length:=by have:=congrArg List.length hty;simpa using this
   obtain⟨ex₁,σ₁,rs₁,K₁,q1,q2,q3,q4,q5,q6⟩:=ih Post _ _ { hd with dep:=σ.dep+1 } (env++vs) (by rw[List.length_append,hn0,hvl];exact hhn.symm) (by show KnownOK (env++vs) hd.n hd.known;rw[hhn,hhk,g6];exact(by rw[<-g5]at hk;exact hk.ext hn0 (Nat.le_add_right _ _))) (hround vs hty hI)
   have hle1:hd.N<=σ₁.N:=(q6 []).le
   have fin:∀(m₂:Nat) (ex₂:Ex) (σ₂:SS) (rs₂:List AV) (K₂:Nat->List AV->Prop),(k ex₂ { σ₂ with dep:=σ.dep }).den P Post (env++vs++rs₂) K₂->(∀l,l<σ.dep->K₂ l=K l)->KnownOK (env++vs++rs₂) σ₂.n σ₂.known->(env++vs++rs₂).length=σ₂.n->(∀us,LeadsR P w0 ro c m₂ (env++vs++rs₂++us) { hd with dep:=σ.dep+1 } ex₂ σ₂)->∃(m:Nat) (ex:Ex) (σ':SS) (rsT:List AV) (K':Nat->List AV->Prop),(k ex σ').den P Post (env++rsT) K'/\(∀l,l<σ.dep->K' l=K l)/\σ'.dep=σ.dep/\KnownOK (env++rsT) σ'.n σ'.known/\(env++rsT).length=σ'.n/\hd.N<=σ'.N ∧
     ∀ (us rsE:List AV) (κE:Nat->Value) (FE U₀:Nat->Prop) (aE:Act) (wE:World),Rel w0 (env++rsE) κE FE U₀ σ₀.tmp σ₀.blk σ₀.L aE wE->(∀b,σ₀.N<=b->¬U₀ b)->(∀b,ro=some b->U₀ b) →
      ∀(κ:Nat->Value) (F:Nat->Prop) (a:Act) (w:World),(∀x,Rel w0 (env++(vs++x)) κ F (fun b=>U₀ b\/(σ₀.N<=b/\b<hd.N)) hd.tmp hd.blk hd.L a w)->Kept U₀ σ₀.blk κE FE wE hd.blk κ F w->Marks wE aE.defers F w a.defers →
       Code.roundsIn (FR (dE κE ro)) 0 P c (fun e a' w'=>e=ex.exit'/\Ends w0 (env++rsT++us) κE FE U₀ σ₀ aE wE σ' a' w') m a w:=by
    intro m₂ ex₂ σ₂ rs₂ K₂ r1 r2 r3 r4 r5;have hle2:hd.N<=σ₂.N:=(r5 []).le
    refine⟨m₂,ex₂,{ σ₂ with dep:=σ.dep },vs++rs₂,K₂,by rw[<-List.append_assoc];exact r1,r2,rfl,by rw[<-List.append_assoc];exact r3,by rw[<-List.append_assoc];exact r4,hle2,?_⟩
    intro us rsE κE FE U₀ aE wE hE hfr hro κ F a w hH hK hM;rw[<-dQ (κ:=κE) (κ':=κ) (ro:=ro) (fun b hb=>hK.kap b (hro b hb))]
    have hr:=hH (rs₂++us);have e1:env++vs++rs₂++us=env++(vs++(rs₂++us)):=by simp
    have e2:env++(vs++rs₂)++us=env++(vs++(rs₂++us)):=by simp
    have hl:=r5 us;rw[e1]at hl;refine kf ?_ m₂ a w (hl.go κ F _ a w hr (fun b h1 hb=>?_) (fun b hb=>.inl (hro b hb)))
    ·rintro e a' w' ⟨rfl,κ1,F1,r1,k1,m1⟩
     refine⟨rfl,?_⟩
     rw[e2];refine⟨κ1,F1,?_,hK.trans k1 (fun b hb=>.inl hb),hM.trans hr k1 hK.size m1⟩
     refine r1.monoU (fun b hb=>?_)
     rcases hb with(hb|hb)|hb
     ·exact .inl hb
     ·exact .inr ⟨hb.1,by show b<σ₂.N;omega⟩
     ·exact .inr ⟨by have:hd.N<=b:=hb.1;omega,hb.2⟩
    ·have h1:hd.N<=b:=h1
     rcases hb with hb|hb
     ·exact hfr b (by omega) hb
     ·omega
   have out:ex₁≠.normal->(AX id locs σ₀ hd σ.dep body k ex₁ σ₁)=k ex₁ { σ₁ with dep:=σ.dep }->∃(m:Nat) (ex:Ex) (σ':SS) (rsT:List AV) (K':Nat->List AV->Prop),(k ex σ').den P Post (env++rsT) K'/\(∀l,l<σ.dep->K' l=K l)/\σ'.dep=σ.dep/\KnownOK (env++rsT) σ'.n σ'.known/\(env++rsT).length=σ'.n/\hd.N<=σ'.N ∧
     ∀ (us rsE:List AV) (κE:Nat->Value) (FE U₀:Nat->Prop) (aE:Act) (wE:World),Rel w0 (env++rsE) κE FE U₀ σ₀.tmp σ₀.blk σ₀.L aE wE->(∀b,σ₀.N<=b->¬U₀ b)->(∀b,ro=some b->U₀ b) →
      ∀(κ:Nat->Value) (F:Nat->Prop) (a:Act) (w:World),(∀x,Rel w0 (env++(vs++x)) κ F (fun b=>U₀ b\/(σ₀.N<=b/\b<hd.N)) hd.tmp hd.blk hd.L a w)->Kept U₀ σ₀.blk κE FE wE hd.blk κ F w->Marks wE aE.defers F w a.defers →
       Code.roundsIn (FR (dE κE ro)) 0 P c (fun e a' w'=>e=ex.exit'/\Ends w0 (env++rsT++us) κE FE U₀ σ₀ aE wE σ' a' w') m a w:=by
    intro hne heq;rw[heq]at q1;exact fin 1 ex₁ σ₁ rs₁ K₁ q1 (fun l hl=>by rw[q2 l (by show l<σ.dep+1;omega),af (by omega)]) q4 q5 (fun us=>lD hne (q6 us))
   have more:ex₁=.normal->(body (fun e σ'=>match e with|.normal=>T.stop id "the loop turns more" | e=>k e { σ' with dep:=σ.dep }) σ₁).den P Post (env++vs++rs₁) K₁->∃(m:Nat) (ex:Ex) (σ':SS) (rsT:List AV) (K':Nat->List AV->Prop),(k ex σ').den P Post (env++rsT) K'/\(∀l,l<σ.dep->K' l=K l)/\σ'.dep=σ.dep/\KnownOK (env++rsT) σ'.n σ'.known/\(env++rsT).length=σ'.n/\hd.N<=σ'.N ∧
     ∀ (us rsE:List AV) (κE:Nat->Value) (FE U₀:Nat->Prop) (aE:Act) (wE:World),Rel w0 (env++rsE) κE FE U₀ σ₀.tmp σ₀.blk σ₀.L aE wE->(∀b,σ₀.N<=b->¬U₀ b)->(∀b,ro=some b->U₀ b) →
      ∀(κ:Nat->Value) (F:Nat->Prop) (a:Act) (w:World),(∀x,Rel w0 (env++(vs++x)) κ F (fun b=>U₀ b\/(σ₀.N<=b/\b<hd.N)) hd.tmp hd.blk hd.L a w)->Kept U₀ σ₀.blk κE FE wE hd.blk κ F w->Marks wE aE.defers F w a.defers →
       Code.roundsIn (FR (dE κE ro)) 0 P c (fun e a' w'=>e=ex.exit'/\Ends w0 (env++rsT++us) κE FE U₀ σ₀ aE wE σ' a' w') m a w:=by
    intro he hmore;obtain⟨ex₂,σ₂,rs₂,K₂,r1,r2,r3,r4,r5,r6⟩:=ih Post _ _ σ₁ (env++vs++rs₁) q5 q4 hmore;have hne:ex₂≠.normal:=by rintro rfl;exact r1.elim
    have r1':(k ex₂ { σ₂ with dep:=σ.dep }).den P Post (env++vs++rs₁++rs₂) K₂:=by
     cases ex₂ with
     |normal=>exact r1.elim
     |exit j=>exact r1
     |ret=>exact r1
     |panic v=>exact r1
    have e3:env++vs++rs₁++rs₂=env++vs++(rs₁++rs₂):=by simp
    refine fin 2 ex₂ σ₂ (rs₁++rs₂) K₂ (by rw[<-e3];exact r1') (fun l hl=>?_) (by rw[<-e3];exact r4) (by rw[<-e3];exact r5) (fun us=>?_)
    ·rw[r2 l (by rw[q3];show l<σ.dep+1;omega),q2 l (by show l<σ.dep+1;omega),af (by omega)]
    ·have h1:=q6 (rs₂++us)
     have h2:=r6 us;rw[<-List.append_assoc]at h1;rw[<-e3];subst he;exact zO h1 (lD hne h2)
   cases ex₁ with
   |exit j=>exact out (fun h=>by cases h) rfl
   |ret=>exact out (fun h=>by cases h) rfl
   |panic v=>exact out (fun h=>by cases h) rfl
   | normal=>
    unfold AX at q1;simp only[zg]at q1;split at q1
    rotate_left
    ·exact more rfl q1
    rename_i rows es' htl
    split at q1
    rotate_left
    ·exact more rfl q1
    rename_i hfc
    rw[Bool.and_eq_true]at hfc;have hag:K₁ σ.dep (den (env++vs++rs₁) es').g:=q1
    rw[q2 σ.dep (Nat.lt_succ_self _),ao]at hag;have hty':=AJ (xs:=(den (env++vs++rs₁) es').g) htl (oP (env:=env++vs++rs₁) locs rows es' htl).2.1;obtain⟨m,ex,σ',rsT,K',p1,p2,p3,p4,p5,p6,p7⟩:=ihv (μ (fk (locs.map Loc.sort) (den (env++vs++rs₁) es').g)) (by rw[<-hv];exact hag.2) _ rfl hty' hag.1
    refine⟨m+1,ex,σ',rsT,K',p1,p2,p3,p4,p5,p6,?_⟩
    intro us rsE κE FE U₀ aE wE hE hfr hro κ F a w hH hK hM;rw[roundsIn_succ];have hr:=hH rs₁;have hl:=q6 [];have e0:env++vs++rs₁++[]=env++(vs++rs₁):=by simp
    rw[e0]at hl;rw[<-dQ (κ:=κE) (κ':=κ) (ro:=ro) (fun b hb=>hK.kap b (hro b hb))]
    refine wpIn_mono (hl.go κ F _ a w hr (fun b h1 hb=>?_) (fun b hb=>.inl (hro b hb))) ?_
    ·have h1:hd.N<=b:=h1
     rcases hb with hb|hb
     ·exact hfr b (by omega) hb
     ·omega
    rintro e a' w' ⟨rfl,κ1,F1,r1,k1,m1⟩;show Code.roundsIn (FR (dE κ ro)) 0 P c _ m a' w'
    rw[dQ (κ:=κE) (κ':=κ) (ro:=ro) (fun b hb=>hK.kap b (hro b hb))]
    have K1:=hK.trans k1 (fun b hb=>.inl hb)
    have M1:=hM.trans hr k1 hK.size m1;obtain⟨f1,κ',f2,f3,f4⟩:=GD (taken:=taken) (rows:=rows) (es:=es') hn0 r1 htl (by rw[<-hhd];exact hfc.1) (U₀:=U₀) (fun b hb hlt=>by
     rcases hb with(hb|hb)|hb
     ·exact hb
     ·omega
     ·have:hd.N<=b:=hb.1;omega) (rsE:=rsE) (Bf hE K1 r1)
    rw[<-hhd]at f3 f4;have hvs:fk (locs.map Loc.sort) (den (env++vs++rs₁) es').g=(den (env++(vs++rs₁)) es').g:=by
     rw[List.append_assoc];exact vJ _ _ f1
    refine p7 us rsE κE FE U₀ aE wE hE hfr hro κ' F1 a' w' (fun x=>?_) (Mb K1 f2 (fun b h1 _=>hfr b h1) f4) M1
    rw[hvs,hhN];exact f3 x
 obtain⟨m,ex,σ',rsT,K',p1,p2,p3,p4,p5,p6,p7⟩:=key _ _ rfl (AJ (xs:=(den env es).g) htails (oP (env:=env) locs taken es htails).2.1) h0
 refine⟨ex,σ',rsT,K',p1,p2,p3,p4,p5,fun us=>LeadsR.loop (m:=m) ⟨by omega,fun κ F U a w hr hU hro=>?_⟩⟩
 have hE:Rel w0 (env++(rsT++us)) κ F U σ₀.tmp σ₀.blk σ₀.L a w:=by
  rw[g4,g2,<-List.append_assoc];exact hr.forget g1
 obtain⟨f1,κ',f2,f3,f4⟩:=GD (taken:=taken) (rows:=taken) (es:=es) hn0 hE htails (by rw[<-hhd];exact c2) (U₀:=U) (fun b hb _=>hb) (rsE:=rsT++us) (Bf hE Kept.refl hE)
 rw[<-hhd]at f3 f4;have hes:(den (env++(rsT++us)) es).g=(den env es).g:=by rw[ju hn0 c1]
 rw[hes]at f1 f3;have:=p7 us (rsT++us) κ F U a w hE (fun b h1=>hU b (by omega)) hro κ' F a w (fun x=>by rw[vJ _ _ f1,hhN];exact f3 x) (Mb Kept.refl f2 (fun b h1 _=>hU b (by omega)) f4) Marks.nil
 refine kf ?_ m a w this
 rintro e a' w' ⟨he,hEnd⟩;refine⟨he,?_⟩
 unfold Ends at hEnd⊢
 rw[g3,g4]at hEnd;exact hEnd
theorem Af{id:Nat}{c:Code}{body:(Ex->SS->T)->SS->T}(ih:∀(Post:R->Prop) (K:Nat->List AV->Prop) (k:Ex->SS->T) (σ:SS) (env:List AV),env.length=σ.n->KnownOK env σ.n σ.known->(body k σ).den P Post env K->Path P Post w0 ro c env K σ k)
  {k:Ex->SS->T}:∀(n:Nat) (σ:SS) (env:List AV) (K:Nat->List AV->Prop),env.length=σ.n->KnownOK env σ.n σ.known->(unroll id body k n σ).den P Post env K →
  ∃(m:Nat) (ex:Ex) (σ':SS) (rs:List AV) (K':Nat->List AV->Prop),(k ex σ').den P Post (env++rs) K'/\(∀l,l<σ.dep->K' l=K l)/\σ'.dep=σ.dep/\KnownOK (env++rs) σ'.n σ'.known/\(env++rs).length=σ'.n/\∀us,LeadsR P w0 ro c m (env++rs++us) σ ex σ'
 |0,σ,env,K,_,_,h=>h.elim
 | n+1,σ,env,K,hn,hk,h=>by
  have h:(body (fun e σ'=>match e with|.normal=>unroll id body k n σ'|e=>k e σ') σ).den P Post env K:=h
  obtain⟨ex,σ₁,rs,K₁,q1,q2,q3,q4,q5,q6⟩:=ih Post K _ σ env hn hk h;cases ex with
  |normal=>
   obtain⟨m,ex,σ',rs',K',p1,p2,p3,p4,p5,p6⟩:=Af ih n σ₁ (env++rs) K₁ q5 q4 q1;refine⟨m+1,ex,σ',rs++rs',K',by rw[<-List.append_assoc];exact p1,fun l hl=>(p2 l (by rw[q3];exact hl)).trans (q2 l hl),p3.trans q3,by rw[<-List.append_assoc];exact p4,by rw[<-List.append_assoc];exact p5,fun us=>?_⟩
   have h1:=q6 (rs'++us);have h2:=p6 us;rw[<-List.append_assoc]at h1;rw[<-List.append_assoc];exact zO h1 h2
  |panic v=>exact⟨1,.panic v,σ₁,rs,K₁,q1,q2,q3,q4,q5,fun us=>lD (fun h=>by cases h) (q6 us)⟩
  |exit j=>exact⟨1,.exit j,σ₁,rs,K₁,q1,q2,q3,q4,q5,fun us=>lD (fun h=>by cases h) (q6 us)⟩
  |ret=>exact⟨1,.ret,σ₁,rs,K₁,q1,q2,q3,q4,q5,fun us=>lD (fun h=>by cases h) (q6 us)⟩
theorem HA(locs:List Loc)(k:SS->T)(σ:SS):zt locs k σ=k σ\/∃bs,zt locs k σ=k (σ.write (aZ σ.blk bs)):=by
 unfold zt;split
 ·exact .inl rfl
 ·rename_i b bs _;exact .inr ⟨b::bs,SS.go_eq _ _⟩
theorem Kh{σ σ':SS}{bs:List Nat}{c:Code}{ex:Ex}(h:Leads P w0 ro c env σ ex σ'):Leads P w0 ro c env σ ex (σ'.write (aZ σ'.blk bs)):=by
 have hw:=kS σ' bs;obtain⟨y1,y2,y3,y4,_⟩:=cy σ' _ hw.1;rw[hw.2]at y2;refine⟨by rw[y2];exact h.le,fun κ F U a w hr hU hro=>wpIn_mono (h.go κ F U a w hr hU hro) ?_⟩
 rintro e a' w' ⟨he,κ',F',r,k,m⟩;obtain⟨F1,r1,k1⟩:=r.freeze bs;have m1:=m.next r k1;rw[<-y1]at r1 k1;rw[<-y3,<-y4]at r1;exact⟨he,κ',F1,by rw[y2];exact r1,k.trans k1 (fun b hb=>.inl hb),m1⟩
theorem Path.iced{c:Code}{σ:SS}{k:Ex->SS->T}{bs:List Nat}(h:Path P Post w0 ro c env K (σ.write (aZ σ.blk bs)) k):Path P Post w0 ro c env K σ k:=by
 obtain⟨y1,y2,y3,y4,y5,y6,y7⟩:=cy σ _ (kS σ bs).1;obtain⟨ex,σ',rs,K',q1,q2,q3,q4,q5,q6⟩:=h;exact⟨ex,σ',rs,K',q1,fun l hl=>q2 l (by rw[y7];exact hl),by rw[q3,y7],q4,q5,fun us=>yL (kS σ bs) (q6 us)⟩
theorem D3{c:Code}{locs:List Loc}{body:(Ex->SS->T)->SS->T}(ih:∀(Post:R->Prop) (K:Nat->List AV->Prop) (k:Ex->SS->T) (σ:SS) (env:List AV),env.length=σ.n->KnownOK env σ.n σ.known->(body k σ).den P Post env K->Path P Post w0 ro c env K σ k)
  (Post:R->Prop) (K:Nat->List AV->Prop) (k:Ex->SS->T) (σ:SS) (env:List AV) (hn:env.length=σ.n) (hk:KnownOK env σ.n σ.known) (h:(body (px locs k) σ).den P Post env K):Path P Post w0 ro c env K σ k:=by
 obtain⟨ex,σ',rs,K',q1,q2,q3,q4,q5,q6⟩:=ih Post K _ σ env hn hk h;cases ex with
 |exit j=>exact⟨.exit j,σ',rs,K',q1,q2,q3,q4,q5,q6⟩
 |ret=>exact⟨.ret,σ',rs,K',q1,q2,q3,q4,q5,q6⟩
 |panic v=>exact⟨.panic v,σ',rs,K',q1,q2,q3,q4,q5,q6⟩
 | normal=>
  unfold px at q1;simp only at q1
  rcases HA locs (k .normal) σ' with e|⟨bs,e⟩
  ·rw[e]at q1;exact⟨.normal,σ',rs,K',q1,q2,q3,q4,q5,q6⟩
  ·rw[e]at q1
   obtain⟨y1,y2,y3,y4,y5,y6,y7⟩:=cy σ' _ (kS σ' bs).1;exact⟨.normal,_,rs,K',q1,q2,y7.trans q3,by rw[y5,y6];exact q4,by rw[y5];exact q5,fun us=>Kh (q6 us)⟩
theorem IG{fid id:Nat}{c:Code}{locs:List Loc}{ds:List Nat}{body:(Ex->SS->T)->SS->T}(ih:∀(Post:R->Prop) (K:Nat->List AV->Prop) (k:Ex->SS->T) (σ:SS) (env:List AV),env.length=σ.n->KnownOK env σ.n σ.known->(body k σ).den P Post env K->Path P Post w0 ro c env K σ k)
  {k:Ex->SS->T} {σ:SS} (hn:env.length=σ.n) (hk:KnownOK env σ.n σ.known) (h:(yT fid id locs ds body k σ).den P Post env K):Path P Post w0 ro (.loop c) env K σ k:=by
 unfold yT at h;simp only[Hn]at h;rcases HA locs (zd fid id σ.N locs ds (fun k=>body (px locs k)) k) σ with e|⟨bs,e⟩
 ·rw[e]at h
  exact Ek (body:=fun k=>body (px locs k)) (fun Post K k σ env=>D3 ih Post K k σ env) hn hk h
 ·rw[e]at h
  obtain⟨y1,y2,y3,y4,y5,y6,y7⟩:=cy σ _ (kS σ bs).1;exact Path.iced (Ek (body:=fun k=>body (px locs k)) (fun Post K k σ env=>D3 ih Post K k σ env) (by rw[y5];exact hn) (by rw[y5,y6];exact hk) h)
theorem Path.stay{c:Code}{σ:SS}{k:Ex->SS->T}{ex:Ex}(hn:env.length=σ.n)(hk:KnownOK env σ.n σ.known)(h:(k ex σ).den P Post env K)(hl:∀env,Leads P w0 ro c env σ ex σ):Path P Post w0 ro c env K σ k:=
 ⟨ex,σ,[],K,by rw[List.append_nil];exact h,fun _ _=>rfl,rfl,by rw[List.append_nil];exact hk,by rw[List.append_nil];exact hn,fun _=>hl _⟩
theorem K8(hrun:oN P w0 run)(hfit:PFit P){fid:Nat}{g:Operand}{ps:Array Tmp}{assign body:Code}{k:Ex->SS->T}{σ:SS}(hn:env.length=σ.n)(hk:KnownOK env σ.n σ.known)(h:(A5 P run ro fid (σ.ev g) ps assign body k σ).den P Post env K):Path P Post w0 ro (.rangeFunc g ps assign body) env K σ k:=by
 unfold A5 at h;split at h
 rotate_left
 ·exact h.elim
 rename_i f fs xs hg
 split at h
 rotate_left
 ·exact h.elim
 rename_i fn hfn
 split at h
 rotate_left
 ·exact h.elim
 rename_i c hb
 simp only[jz iT,SS.go_eq]at h;split at h
 rotate_left
 ·exact h.elim
 rename_i hc
 simp only[Bool.and_eq_true]at hc;obtain⟨⟨_,c2⟩,c3⟩:=hc;obtain⟨y1,y2,y3,y4⟩:=xE (σ:=σ) (b:=σ.N) (y:=some (.loop ⟨fid,σ.rf,ps,assign,body⟩ .ready .none)) (Nat.le_refl _)
 obtain⟨_,_,_,_,y5,y6,y7⟩:=cy σ [(σ.N,some (.loop ⟨fid,σ.rf,ps,assign,body⟩ .ready .none))] ⟨Nat.le_refl _,trivial⟩;obtain⟨ex,σ',rs,K',q1,q2,q3,q4,q5,q6⟩:=hrun Post K none f c _ ((σ.write [(σ.N,some (.loop ⟨fid,σ.rf,ps,assign,body⟩ .ready .none))]).frame (fs.list++[.yld σ.N]++xs.list) fn.ntmps) env (hn.trans y5.symm) (by have hk':=hk;rw[<-y5,<-y6]at hk';exact hk') h
 have hdep:((σ.write [(σ.N,some (.loop ⟨fid,σ.rf,ps,assign,body⟩ .ready .none))]).frame (fs.list++[.yld σ.N]++xs.list) fn.ntmps).dep=σ.dep:=y7
 rw[hdep]at q2 q3;have hout:ex.out=true:=by
  cases ex with
  |normal=>rfl
  |ret=>rfl
  |exit id=>exact False.elim q1
  |panic v=>exact False.elim q1
 have hfin:ex.out=true/\∃i st p,σ'.blk σ.N=some (.loop i st p)/\st≠.busy/\(k p.ex { σ'.write [(σ.N,none)]with rf:=σ.rf }).den P Post (env++rs) K':=by
  unfold GQ at q1;split at q1
  ·exact q1.elim
  ·exact q1.elim
  ·rename_i i st p hnx hnp hblk
   simp only[SS.go_eq]at q1;split at q1
   ·rename_i hst
    refine⟨hout,i,st,p,hblk,by simpa using hst,?_⟩
    cases p<;>exact q1
   ·exact q1.elim
  ·exact q1.elim
 obtain⟨hex,i,st,p,hblk,hst,hden⟩:=hfin;obtain⟨_,_,_,_,z5,z6,z7⟩:=cy σ' [(σ.N,none)] ⟨by have:=eO hblk;omega,trivial⟩
 refine⟨p.ex,{ σ'.write [(σ.N,none)]with rf:=σ.rf },rs,K',hden,q2,z7.trans q3,by have q4':=q4;rw[<-z5,<-z6]at q4';exact q4',q5.trans z5.symm,fun us=>?_⟩
 exact Jz hfit hg hfn hb (fun b hb'=>by subst hb';simpa using c3) c2 hex (q6 us) hblk hst
theorem Nd(hrun:oN P w0 run)(hfit:PFit P){fid:Nat}(c:Code):∀(Post:R->Prop) (K:Nat->List AV->Prop) (k:Ex->SS->T) (σ:SS) (env:List AV),env.length=σ.n->KnownOK env σ.n σ.known->(sym P cfg run ro fid c k σ).den P Post env K->Path P Post w0 ro c env K σ k:=by
 induction c with
 |skip=>intro Post K k σ env hn hk h;exact Path.stay hn hk h (fun _=>KZ)
 |exit id=>intro Post K k σ env hn hk h;exact Path.stay hn hk h (fun _=>KO)
 |ret=>intro Post K k σ env hn hk h;exact Path.stay hn hk h (fun _=>LE)
 |region id ops draw=>intro Post K k σ env hn hk h;exact Hc hrun hfit hn hk h
 |rangeFunc g ps x y ih1 ih2=>intro Post K k σ env hn hk h;exact K8 hrun hfit hn hk h
 | seq x y ih1 ih2=>
  intro Post K k σ env hn hk h;simp only[sym]at h;obtain⟨ex,σ₁,rs,K₁,q1,q2,q3,q4,q5,q6⟩:=ih1 Post K _ σ env hn hk h;cases ex with
  |normal=>
   obtain⟨ex,σ',rs',K',p1,p2,p3,p4,p5,p6⟩:=ih2 Post K₁ k σ₁ (env++rs) q5 q4 q1;refine⟨ex,σ',rs++rs',K',by rw[<-List.append_assoc];exact p1,fun l hl=>(p2 l (by rw[q3];exact hl)).trans (q2 l hl),p3.trans q3,by rw[<-List.append_assoc];exact p4,by rw[<-List.append_assoc];exact p5,fun us=>?_⟩
   have h1:=q6 (rs'++us);have h2:=p6 us;rw[<-List.append_assoc]at h1;rw[<-List.append_assoc];exact Le h1 h2
  |panic v=>exact⟨.panic v,σ₁,rs,K₁,q1,q2,q3,q4,q5,fun us=>oj (fun h=>by cases h) (q6 us)⟩
  |exit j=>exact⟨.exit j,σ₁,rs,K₁,q1,q2,q3,q4,q5,fun us=>oj (fun h=>by cases h) (q6 us)⟩
  |ret=>exact⟨.ret,σ₁,rs,K₁,q1,q2,q3,q4,q5,fun us=>oj (fun h=>by cases h) (q6 us)⟩
 | cond c x y ih1 ih2=>
  intro Post K k σ env hn hk h;simp only[sym]at h;unfold J1 at h;split at h
  ·rename_i e he
   split at h
   ·rename_i ht
    obtain⟨ex,σ',rs,K',q1,q2,q3,q4,q5,q6⟩:=ih1 Post K k σ env hn hk h;exact⟨ex,σ',rs,K',q1,q2,q3,q4,q5,fun us=>oU (b:=true) he (by rw[List.append_assoc];exact mD (hk.ext' hn) ht) (q6 us)⟩
   ·rename_i ht
    obtain⟨ex,σ',rs,K',q1,q2,q3,q4,q5,q6⟩:=ih2 Post K k σ env hn hk h;exact⟨ex,σ',rs,K',q1,q2,q3,q4,q5,fun us=>oU (b:=false) he (by rw[List.append_assoc];exact mD (hk.ext' hn) ht) (q6 us)⟩
   ·split at h
    ·rename_i hs
     obtain⟨h1,h2⟩:=h;cases hb:(den env e).b with
     |true=>
      obtain⟨ex,σ',rs,K',q1,q2,q3,q4,q5,q6⟩:=ih1 Post K k (σ.learn e true) env hn (gS hk hs hb) (h1 hb);exact⟨ex,σ',rs,K',q1,q2,q3,q4,q5,fun us=>oU (b:=true) he (by rw[List.append_assoc,ju hn hs];exact hb) ((q6 us).same ⟨rfl,rfl,rfl,rfl⟩ ⟨rfl,rfl,rfl,rfl⟩)⟩
     |false=>
      obtain⟨ex,σ',rs,K',q1,q2,q3,q4,q5,q6⟩:=ih2 Post K k (σ.learn e false) env hn (gS hk hs hb) (h2 hb);exact⟨ex,σ',rs,K',q1,q2,q3,q4,q5,fun us=>oU (b:=false) he (by rw[List.append_assoc,ju hn hs];exact hb) ((q6 us).same ⟨rfl,rfl,rfl,rfl⟩ ⟨rfl,rfl,rfl,rfl⟩)⟩
    ·exact h.elim
  ·exact h.elim
 | block id c ih=>
  intro Post K k σ env hn hk h;simp only[sym]at h;obtain⟨ex,σ',rs,K',q1,q2,q3,q4,q5,q6⟩:=ih Post K _ σ env hn hk h;unfold JO at q1;cases ex with
  |normal=>exact⟨.normal,σ',rs,K',q1,q2,q3,q4,q5,fun us=>j5 rfl (q6 us)⟩
  |ret=>exact⟨.ret,σ',rs,K',q1,q2,q3,q4,q5,fun us=>j5 rfl (q6 us)⟩
  |panic v=>exact⟨.panic v,σ',rs,K',q1,q2,q3,q4,q5,fun us=>j5 rfl (q6 us)⟩
  |exit i=>
   simp only at q1
   split at q1
   ·rename_i hi;exact⟨.normal,σ',rs,K',q1,q2,q3,q4,q5,fun us=>j5 (by simp only;rw[if_pos hi]) (q6 us)⟩
   ·rename_i hi;exact⟨.exit i,σ',rs,K',q1,q2,q3,q4,q5,fun us=>j5 (by simp only;rw[if_neg hi]) (q6 us)⟩
 | loop c ih=>
  intro Post K k σ env hn hk h;simp only[sym]at h;unfold J6 at h;simp only at h
  split at h
  ·obtain⟨m,ex,σ',rs,K',p1,p2,p3,p4,p5,p6⟩:=Af ih _ σ env K hn hk h
   exact⟨ex,σ',rs,K',p1,p2,p3,p4,p5,fun us=>(p6 us).loop⟩
  ·exact IG ih hn hk h
  ·exact IG ih hn hk h
 |label l=>intro Post K k σ env hn hk h;exact Path.stay hn hk h (fun _=>Jy)
 |scope c ih=>
  intro Post K k σ env hn hk h;simp only[sym]at h;obtain⟨ex,σ',rs,K',q1,q2,q3,q4,q5,q6⟩:=ih Post K k σ env hn hk h;exact⟨ex,σ',rs,K',q1,q2,q3,q4,q5,fun us=>Jd (q6 us)⟩
 |_=>intro Post K k σ env hn hk h;exact h.elim
theorem pj(hfit:PFit P):∀n,oN P w0 (Ao P cfg n)
 |0=>fun _ _ _ _ _ _ _ _ _ _ h=>h.elim
 |n+1=>fun Post K ro fid c k σ env hn hk h=>Nd (pj hfit n) hfit c Post K k σ env hn hk h
variable {env:List AV} {κ κ':Nat->Value} {F F':Nat->Prop} {w w' w0:World} {U:Nat->Prop} {tmp:Nat->SV} {blk:Nat->Option SB} {L:Nat} {a:Act} {P:Program}
def jD:List Nat->World->World
 |[],w=>w
 |D::Ds,w=>jD Ds (w.putObj D (.deferred none))
theorem sZ:∀(Ds:List Nat) (w:World),Rel w0 env κ F U tmp blk L a w->Ds.Nodup->(∀D∈Ds,w0.heap.size<=D/\w.heap[D]?=some (.deferred (some []))/\¬F D)->Rel w0 env κ F U tmp blk L a (jD Ds w)
 |[],_,h,_,_=>h
 |D::Ds,w,h,hnd,hD=>by
  rw[List.nodup_cons]at hnd;obtain⟨h1,h2,h3⟩:=hD D List.mem_cons_self;refine sZ Ds _ (h.shut h2 h3 h1) hnd.2 (fun E hE=>?_)
  obtain⟨g1,g2,g3⟩:=hD E (List.mem_cons_of_mem _ hE);exact⟨g1,(World.putObj_heap_other (fun e:E=D=>hnd.1 (by rw[<-e];exact hE))).trans g2,g3⟩
theorem qH{blk':Nat->Option SB}:∀(Ds:List Nat) (v:World),Kept U blk κ F w blk' κ' F' v->(∀D∈Ds,w.heap.size<=D)->Kept U blk κ F w blk' κ' F' (jD Ds v)
 |[],_,h,_=>h
 |D::Ds,_,h,hD=>qH Ds _ (h.shut (hD D List.mem_cons_self)) (fun E hE=>hD E (List.mem_cons_of_mem _ hE))
theorem x9{Fc:Fence}{n:Nat}{R:Ending->World->Prop}{fn:Func}{tm:Array Value}{u:FrameMode}{ds:List Deferred}(hu:u≠.run):∀(Ds:List Nat) (w':World),Ds.Nodup->(∀D∈Ds,w'.heap[D]?=some (.deferred (some [])))->LeavesInM Fc n P fn tm R ds u (jD Ds w')->LeavesInM Fc n P fn tm R (Ds.map ij++ds) u w'
 |[],_,_,_,h=>h
 |D::Ds,w',hnd,hD,h=>by
  rw[List.nodup_cons]at hnd;refine⟨hu,.inl ⟨D,w'.putObj D (.deferred none),rfl,run_takeDeferred (hD D List.mem_cons_self),?_⟩⟩
  exact x9 hu Ds _ hnd.2 (fun E hE=>(World.putObj_heap_other (fun e:E=D=>hnd.1 (by rw[<-e];exact hE))).trans (hD E (List.mem_cons_of_mem _ hE))) h
theorem tt{Fc:Fence}{n:Nat}{cs:List Frame}:∀(Ds:List Nat) (fr:Frame) (w:World),fr.mode≠.run->fr.defers=Ds.map ij->Fc.fn fr.fn->Fc.room (cs.length+1+n)->Ds.Nodup->(∀D∈Ds,w.heap[D]?=some (.deferred (some []))) →
  StepsIn (Machine.fenced P Fc) P (lone fr cs w) (lone { fr with defers:=[] } cs (jD Ds w))
 |[],fr,w,_,hd,_,_,_,_=>by
  have:({ fr with defers:=[] }:Frame)=fr:=by cases fr;simp only[List.map_nil]at hd;subst hd;rfl
  rw[this];exact StepsIn.refl _
 |D::Ds,fr,w,hm,hd,hF,hr,hnd,hD=>by
  rw[List.nodup_cons]at hnd;have h1:=step_collected (P:=P) (cs:=cs) hm hd (r:=D) rfl (run_takeDeferred (P:=P) (hD D List.mem_cons_self));have i1:(lone fr cs w).fenced P Fc:=fenced_out hF hr hm hd (fun g hg=>by simp[ij,Target.leads]at hg)
  refine .head i1 h1 ?_
  exact tt (cs:=cs) (n:=n) Ds { fr with defers:=[]++Ds.map ij } _ hm rfl hF hr hnd.2 (fun E hE=>(World.putObj_heap_other (fun e:E=D=>hnd.1 (by rw[<-e];exact hE))).trans (hD E (List.mem_cons_of_mem _ hE)))
def za(P:Program)(fn:Func)(c₀:Frame)(cs:List Frame)(R:Ending->FrameMode->World->Prop):Exit->Act->List Frame->World->Prop
 |.normal,a,cs',w|.ret,a,cs',w=>∃Ds u',a.defers=Ds.map ij/\Ds.Nodup/\(∀D∈Ds,w.heap[D]?=some (.deferred (some [])))/\cs'={ c₀ with mode:=u' }::cs/\∃v,(results fn a.tmps).run P (jD Ds w)=.ok v (jD Ds w)/\R (.returned v) u' (jD Ds w)
 |_,_,_,_=>False
theorem CX{Fc:Fence}{n:Nat}{f:FuncId}{fn:Func}{c:Code}{args:Array Value}{u:FrameMode}{R:Ending->FrameMode->World->Prop}
  (hf:P.funcs[f]?=some fn) (hb:fn.body=some c) (hF:Fc.fn f)
  (h:∀(c₀:Frame) (cs:List Frame),c₀.mode=u->c.wpSIn Fc n P (za P fn c₀ cs R) { tmps:=args++Array.replicate (fn.ntmps-args.size) undef,defers:=[] } (c₀::cs) w):CallsDIn Fc n P f args u w R:=by
 refine⟨hF,fun c₀ cs hu hroom=>?_⟩
 let b:Frame:={ (default:Frame)with fn:=f,kind:=.deferred,roundOf:=none }
 have henter:Frame.enter P f args .deferred=b.atR { tmps:=args++Array.replicate (fn.ntmps-args.size) undef,defers:=[] } [.code c]:=by
  simp[Frame.enter,Frame.atR,hf,hb,b]
 obtain⟨e,a',cs',w',hl,hq,harr⟩:=h c₀ cs hu b [] rfl rfl hF hroom;rw[<-henter]at harr;cases e with
 |normal=>
  obtain⟨Ds,u',hd,hnd,hD,rfl,v,hr,hR⟩:=hq;have s2:=tt (P:=P) (cs:={ c₀ with mode:=u' }::cs) (n:=n) Ds { b.atR a' []with mode:=.returning } w' (by simp) hd hF hroom hnd hD
  exact⟨.returned v,u',_,_,hR,StepsIn.trans harr (StepsIn.trans (.one (fenced_calm (fr:=b.atR a' []) hF hroom rfl) (stepR_end rfl)) s2),rfl,rfl,rfl,rfl,fn,hf,hr⟩
 |ret=>
  obtain⟨Ds,u',hd,hnd,hD,rfl,v,hr,hR⟩:=hq;obtain⟨todo,hs⟩:=harr.1 rfl;have s2:=tt (P:=P) (cs:={ c₀ with mode:=u' }::cs) (n:=n) Ds { b.atR a' todo with mode:=.returning } w' (by simp) hd hF hroom hnd hD
  exact⟨.returned v,u',_,_,hR,StepsIn.trans hs s2,rfl,rfl,rfl,rfl,fn,hf,hr⟩
 |panic chain=>exact hq.elim
 |exit id=>exact hq.elim
 |goto l=>exact hq.elim
 |outgrown=>exact hq.elim
theorem Ij{l:List Oper}{r q:Nat}(h:yM l=some (r,q)):∃o o',l=[o,o']/\o.dst=some r/\(∃c,o.op=.call c/\c.callee=.builtin .recover)/\o.guard=none/\o'.dst=some q/\o'.op=.assign (.tmp r)/\o'.guard=none:=by
 unfold yM at h;split at h
 ·split at h
  ·rename_i e
   cases h
   exact⟨_,_,rfl,rfl,⟨_,rfl,rfl⟩,rfl,rfl,by rw[e],rfl⟩
  ·cases h
 ·cases h
theorem Lt{c:Code}{rg:RecG}(h:C6 c=some rg):c=.seq (.region rg.id rg.ops false) rg.rest/\yM rg.ops.toList=some (rg.r,rg.q):=by
 unfold C6 at h;split at h
 ·obtain⟨x,hx,rfl⟩:=Option.map_eq_some_iff.1 h
  exact⟨rfl,hx⟩
 ·cases h
theorem uQ(v:Value):SVden env κ F w (cd v) v/\(cd v).names=[]:=by
 unfold cd;split
 ·exact⟨rfl,rfl⟩
 ·split
  ·rename_i t cs h
   refine⟨⟨_,rfl,cs,rfl,rfl,?_⟩,rfl⟩
   have:cs=#[]:=Array.eq_empty_of_size_eq_zero h
   subst this;rfl
  ·exact⟨trivial,rfl⟩
 ·exact⟨trivial,rfl⟩
theorem Gv{n:Nat}{ops:Array Oper}{Q:Exit->Act->List Frame->World->Prop}{i:Nat}{rest:List Nat}{o:Oper}{u:Value}{cs:List Frame}(ho:ops[i]?=some o)(hg:o.guard=none)(hr:(execOp a.eval o).run P w=.ok (.value u) w)
  (h:wpOpsSIn (FR none) n P ops Q rest (a.put o.dst u) cs w):wpOpsSIn (FR none) n P ops Q (i::rest) a cs w:=by
 simp only[wpOpsSIn,ho];refine⟨fun _ _=>trivial,?_⟩
 rw[show Region.wanted o (yielded ops a.tmps)=true by simp[Region.wanted,hg],if_pos rfl,hr]
 exact h
theorem C1{n:Nat}{ops:Array Oper}{Q:Exit->Act->List Frame->World->Prop}{i:Nat}{rest:List Nat}{o:Oper}{cs:List Frame}(ho:ops[i]?=some o)(hg:o.guard=none)(hr:(execOp a.eval o).run P w=.ok .recover w)
  (h:match recoverD cs with
   |some (v,cs')=>wpOpsSIn (FR none) n P ops Q rest (a.put o.dst v) cs' w
   |none=>wpOpsSIn (FR none) n P ops Q rest (a.put o.dst .nilIface) cs w):wpOpsSIn (FR none) n P ops Q (i::rest) a cs w:=by
 simp only[wpOpsSIn,ho];refine⟨fun _ _=>trivial,?_⟩
 rw[show Region.wanted o (yielded ops a.tmps)=true by simp[Region.wanted,hg],if_pos rfl,hr]
 exact h
theorem EG{g:Nat}{gfn:Func}{gc:Code}{rg:RecG}(hg:P.funcs[g]?=some gfn)(hgb:gfn.body=some gc)(hrg:C6 gc=some rg)(hres:gfn.results.size=0){xs:List SV}{σ2 σ4:SS}{v:Value}{u:FrameMode}
  (hu:u=.returning/\v=.nilIface\/u=.panicking (gD v)) (hr1:rg.r<(σ2.frame xs gfn.ntmps).L) (hr2:rg.q<(σ2.frame xs gfn.ntmps).L) {ex4:Ex} (hex4:ex4.out=true)
  (l4:Leads P w0 none rg.rest env (((σ2.frame xs gfn.ntmps).put (some rg.r) (cd v)).put (some rg.q) (cd v)) ex4 σ4) {cs:Array Value}
  (hfr:Rel w0 env κ F U (σ2.frame xs gfn.ntmps).tmp (σ2.frame xs gfn.ntmps).blk (σ2.frame xs gfn.ntmps).L { tmps:=cs++Array.replicate (gfn.ntmps-cs.size) undef,defers:=[] } w) (hU:∀b,σ2.N<=b->¬U b) (hB:w0.heap.size<=w.heap.size):
  CallsDIn (FR none) 0 P g cs u w fun e u' w'=>∃val,e=.returned val/\settle u'=.returning/\∃κ' F' a',Rel w0 env κ' F' (fun b=>U b\/(σ2.N<=b/\b<σ4.N)) σ4.tmp σ4.blk σ4.L a' w'/\Kept U σ2.blk κ F w σ4.blk κ' F' w':=by
 obtain⟨hgc,hops⟩:=Lt hrg;obtain⟨o,o',hl,d1,⟨c,op1,ce1⟩,gd1,d2,op2,gd2⟩:=Ij hops;have hsz:rg.ops.size=2:=by rw[<-Array.length_toList,hl];rfl
 have e0:rg.ops[0]?=some o:=by rw[<-Array.getElem?_toList,hl];rfl
 have e1:rg.ops[1]?=some o':=by rw[<-Array.getElem?_toList,hl];rfl
 subst hgc;refine CX hg hgb trivial (fun c₀ rest hmode=>wpSIn_seq (wpSIn_region ?_))
 rw[hsz];show wpOpsSIn _ _ _ _ _ [0,1] _ _ _
 obtain⟨a0,ha0⟩:∃a0:Act,a0={ tmps:=cs++Array.replicate (gfn.ntmps-cs.size) undef,defers:=[] }:=⟨_,rfl⟩
 rw[<-ha0]at hfr⊢
 have hrec:(execOp a0.eval o).run P w=.ok .recover w:=by
  simp only[execOp,op1,resolve,ce1,Sem.run_bind,Sem.run_pure,Result.andThen_ok,invoke,builtin]
 obtain⟨a1,ha1⟩:∃a1:Act,a1=(a0.put (some rg.r) v).put (some rg.q) v:=⟨_,rfl⟩
 have hev:(a0.put (some rg.r) v).eval (.tmp rg.r)=v:=by
  simp only[Act.eval,Act.put];rw[dg (by rw[hfr.size];exact hr1),if_pos rfl]
 obtain⟨p1,p2,p3,_,_,p4,_⟩:=ej (σ2.frame xs gfn.ntmps) (dst:=some rg.r) (v:=cd v) (fun d hd=>by cases hd;exact hr1)
 obtain⟨q1,q2,q3,_,_,q4,_⟩:=ej ((σ2.frame xs gfn.ntmps).put (some rg.r) (cd v)) (dst:=some rg.q) (v:=cd v) (fun d hd=>by cases hd;rw[p4];exact hr2)
 have hrel:Rel w0 env κ F U (((σ2.frame xs gfn.ntmps).put (some rg.r) (cd v)).put (some rg.q) (cd v)).tmp (((σ2.frame xs gfn.ntmps).put (some rg.r) (cd v)).put (some rg.q) (cd v)).blk (((σ2.frame xs gfn.ntmps).put (some rg.r) (cd v)).put (some rg.q) (cd v)).L a1 w:=by
  rw[q1,q2,q4,p1,p2,p4,ha1];have h1:=hfr.put (dst:=some rg.r) (v:=cd v) (u:=v) (fun d hd=>by cases hd;exact hr1) (uQ v).1 (fun b hb=>by rw[(uQ (env:=env) (κ:=κ) (F:=F) (w:=w) v).2]at hb;cases hb)
  exact h1.put (dst:=some rg.q) (v:=cd v) (u:=v) (fun d hd=>by cases hd;exact hr2) (uQ v).1 (fun b hb=>by rw[(uQ (env:=env) (κ:=κ) (F:=F) (w:=w) v).2]at hb;cases hb)
 have hN:(((σ2.frame xs gfn.ntmps).put (some rg.r) (cd v)).put (some rg.q) (cd v)).N=σ2.N:=by rw[q3,p3];rfl
 have hblk:(((σ2.frame xs gfn.ntmps).put (some rg.r) (cd v)).put (some rg.q) (cd v)).blk=σ2.blk:=by rw[q2,p2];rfl
 have hdef:a1.defers=[]:=by rw[ha1,ha0];rfl
 have fin:∀(u':FrameMode),settle u'=.returning->rg.rest.wpSIn (FR none) 0 P (za P gfn c₀ rest fun e u' w'=>∃val,e=.returned val/\settle u'=.returning/\∃κ' F' a',Rel w0 env κ' F' (fun b=>U b\/(σ2.N<=b/\b<σ4.N)) σ4.tmp σ4.blk σ4.L a' w'/\Kept U σ2.blk κ F w σ4.blk κ' F' w') a1 ({ c₀ with mode:=u' }::rest) w:=by
  intro u' hu';refine wpSIn_of_wpIn rfl (wpIn_mono (l4.go κ F U a1 w hrel (by rw[hN];exact hU) (fun b hb=>by cases hb)) ?_)
  rintro e a' w' ⟨rfl,κ',F',r,k,Ds,m1,m2,m3⟩;rw[hN]at r;rw[hblk]at k;have key:za P gfn c₀ rest (fun e u' w'=>∃val,e=.returned val/\settle u'=.returning/\∃κ' F' a',Rel w0 env κ' F' (fun b=>U b\/(σ2.N<=b/\b<σ4.N)) σ4.tmp σ4.blk σ4.L a' w'/\Kept U σ2.blk κ F w σ4.blk κ' F' w') .normal a' ({ c₀ with mode:=u' }::rest) w':=by
   refine⟨Ds,u',by rw[m1,hdef,List.append_nil],m2,fun D hD=>(m3 D hD).2.1,rfl,pack [],sV (us:=[]) (by simp[hres]) (fun i x u hx hu=>by simp at hu),pack [],rfl,hu',κ',F',a',?_,?_⟩
   ·exact sZ Ds w' r m2 (fun D hD=>⟨by have:=(m3 D hD).1;omega,(m3 D hD).2⟩)
   ·exact qH Ds w' k (fun D hD=>(m3 D hD).1)
  cases ex4 with
  |normal=>exact key
  |ret=>exact key
  |exit id=>cases hex4
  |panic v=>cases hex4
 have tail:∀cs',rg.rest.wpSIn (FR none) 0 P (za P gfn c₀ rest fun e u' w'=>∃val,e=.returned val/\settle u'=.returning/\∃κ' F' a',Rel w0 env κ' F' (fun b=>U b\/(σ2.N<=b/\b<σ4.N)) σ4.tmp σ4.blk σ4.L a' w'/\Kept U σ2.blk κ F w σ4.blk κ' F' w') a1 cs' w->wpOpsSIn (FR none) 0 P rg.ops (Exit.thenS (rg.rest.wpSIn (FR none) 0 P (za P gfn c₀ rest fun e u' w'=>∃val,e=.returned val/\settle u'=.returning/\∃κ' F' a',Rel w0 env κ' F' (fun b=>U b\/(σ2.N<=b/\b<σ4.N)) σ4.tmp σ4.blk σ4.L a' w'/\Kept U σ2.blk κ F w σ4.blk κ' F' w')) (za P gfn c₀ rest fun e u' w'=>∃val,e=.returned val/\settle u'=.returning/\∃κ' F' a',Rel w0 env κ' F' (fun b=>U b\/(σ2.N<=b/\b<σ4.N)) σ4.tmp σ4.blk σ4.L a' w'/\Kept U σ2.blk κ F w σ4.blk κ' F' w')) [1] (a0.put o.dst v) cs' w:=fun cs' h=>by
  refine Gv e1 gd2 (u:=v) (by rw[d1];simp only[execOp,op2,hev,Sem.run_pure]) ?_
  rw[d1,d2,<-ha1];exact h
 refine C1 e0 gd1 hrec ?_
 rcases hu with⟨rfl,rfl⟩|rfl
 ·have:recoverD (c₀::rest)=none:=by simp only[recoverD,hmode]
  rw[this];refine tail _ ?_
  have hc:({ c₀ with mode:=FrameMode.returning }:Frame)=c₀:=by rw[<-hmode]
  have:=fin .returning rfl
  rw[hc]at this;exact this
 ·have:recoverD (c₀::rest)=some (v,{ c₀ with mode:=.panicking ({ v,recovered:=true }::[]) }::rest):=by simp only[recoverD,hmode,gD]
  rw[this];exact tail _ (fin _ rfl)
theorem I7{l:List Oper}{d g:Nat}{cap:Array Operand}(h:BJ l=some (d,g,cap)):∃o o' first c,l=[o,o']/\o.dst=some d/\o.op=.makeFunc (.func g) first cap/\first.size=0/\o.guard=none/\o'.dst=none/\o'.op=.defer c/\c.callee=.value (.tmp d)/\c.args.size=0/\o'.guard=none:=by
 unfold BJ at h;split at h
 ·split at h
  ·rename_i hh
   obtain⟨e,h1,h2⟩:=hh;cases h
   exact⟨_,_,_,_,rfl,rfl,rfl,h1,rfl,rfl,rfl,by rw[e],h2,rfl⟩
  ·cases h
 ·cases h
theorem Mc{c:Code}{ri:RecI}(h:Kq c=some ri):c=.seq ri.c0 (.seq (.region ri.id ri.ops false) ri.rest)/\BJ ri.ops.toList=some (ri.d,ri.g,ri.cap):=by
 unfold Kq at h;split at h
 ·obtain⟨x,hx,rfl⟩:=Option.map_eq_some_iff.1 h
  exact⟨rfl,hx⟩
 ·cases h
theorem jT{n:Nat}{ops:Array Oper}{Q:Exit->Act->World->Prop}{i:Nat}{rest:List Nat}{o:Oper}{u:Value}(ho:ops[i]?=some o)(hg:o.guard=none)(hd:∀c,o.op≠.defer c)(hr:(execOp a.eval o).run P w=.ok (.value u) w)
  (h:wpOpsIn (FR none) n P ops Q rest (a.put o.dst u) w):wpOpsIn (FR none) n P ops Q (i::rest) a w:=by
 simp only[wpOpsIn,ho];rw[show Region.wanted o (yielded ops a.tmps)=true by simp[Region.wanted,hg],if_pos rfl]
 refine⟨fun _ _=>trivial,?_⟩
 rw[Oper.semAt_eq _ _ _ hd,hr,Oper.uponIn_value];exact h
theorem JC{n:Nat}{ops:Array Oper}{Q:Exit->Act->World->Prop}{i:Nat}{rest:List Nat}{o:Oper}{d:Deferred}(ho:ops[i]?=some o)(hg:o.guard=none)(hr:(execOp a.eval o).run P w=.ok (.defer d) w)
  (h:wpOpsIn (FR none) n P ops Q rest ({ a with defers:=d::a.defers }.put o.dst undef) w):wpOpsIn (FR none) n P ops Q (i::rest) a w:=by
 simp only[wpOpsIn,ho];rw[show Region.wanted o (yielded ops a.tmps)=true by simp[Region.wanted,hg],if_pos rfl]
 refine⟨fun _ _=>trivial,?_⟩
 rw[show(FR none).round=none from rfl,Oper.semAt_none,hr,Oper.uponIn_defer]
 exact h
theorem IM(hfit:PFit P){f:Nat}{fn:Func}{c:Code}(hfn:P.funcs[f]?=some fn)(hb:fn.body=some c){ri:RecI}(hri:Kq c=some ri){gfn:Func}{gc:Code}{rg:RecG}(hg:P.funcs[ri.g]?=some gfn)(hgb:gfn.body=some gc)(hrg:C6 gc=some rg)(hres0:gfn.results.size=0)
  {σ σ1 σ2 σ4:SS} {xs:List SV} (hxs:xs=ri.cap.toList.map σ1.ev) (hd:ri.d<σ1.L) (l1:Leads P w0 none ri.c0 env σ .normal σ1) {ex2:Ex} {v:Value} (l2:Leads P w0 none ri.rest env (σ1.put (some ri.d) (.fn ri.g .nil (.of xs))) ex2 σ2)
  (h2:(ex2.out=true/\v=.nilIface)\/ex2=.panic v) (hr1:rg.r<(σ2.frame xs gfn.ntmps).L) (hr2:rg.q<(σ2.frame xs gfn.ntmps).L) {ex4:Ex} (hex4:ex4.out=true)
  (l4:Leads P w0 none rg.rest env (((σ2.frame xs gfn.ntmps).put (some rg.r) (cd v)).put (some rg.q) (cd v)) ex4 σ4) {vs:Array Value}
  (hr:Rel w0 env κ F U σ.tmp σ.blk σ.L { tmps:=vs++Array.replicate (fn.ntmps-vs.size) undef,defers:=[] } w) (hU:∀b,σ.N<=b->¬U b) {rs:List SV} (hres:bK P { σ4 with rf:=σ2.rf } fn.results.toList=some rs):
  Calls P f vs w (xm w0 env κ F U σ.blk σ.N w { σ4 with rf:=σ2.rf } rs):=by
 obtain⟨hc,hops⟩:=Mc hri;obtain⟨o,o',first,dc,hl,d1,op1,hfirst,gd1,d2,op2,cal,hargs,gd2⟩:=I7 hops;have hfirst:first=#[]:=Array.eq_empty_of_size_eq_zero hfirst
 have hargs:dc.args=#[]:=Array.eq_empty_of_size_eq_zero hargs
 subst hfirst;have hsz:ri.ops.size=2:=by rw[<-Array.length_toList,hl];rfl
 have e0:ri.ops[0]?=some o:=by rw[<-Array.getElem?_toList,hl];rfl
 have e1:ri.ops[1]?=some o':=by rw[<-Array.getElem?_toList,hl];rfl
 obtain⟨p1,p2,p3,_,_,p4,_⟩:=ej σ1 (dst:=some ri.d) (v:=.fn ri.g .nil (.of xs)) (fun d hd'=>by cases hd';exact hd)
 have n1:=l1.le;have n2:=l2.le;rw[p3]at n2;have n4:σ2.N<=σ4.N:=by
  have:=l4.le
  have q1:=(ej (σ2.frame xs gfn.ntmps) (dst:=some rg.r) (v:=cd v) (fun d hd'=>by cases hd';exact hr1))
  have q2:=(ej ((σ2.frame xs gfn.ntmps).put (some rg.r) (cd v)) (dst:=some rg.q) (v:=cd v) (fun d hd'=>by cases hd';rw[q1.2.2.2.2.2.1];exact hr2))
  rw[q2.2.2.1,q1.2.2.1]at this;exact this
 refine nl (ro:=none) (n:=0) (callsIn_of_wp_marks hfn hb trivial ?_)
 rw[hc];refine wpIn_seq (wpIn_mono (l1.go κ F U _ w hr hU (fun b hb=>by cases hb)) ?_)
 rintro e a1 w1 ⟨rfl,κ1,F1,r1,k1,m1⟩;show Code.wpIn (FR none) 0 P _ _ a1 w1
 refine wpIn_seq (wpIn_region ?_)
 rw[hsz];show wpOpsIn _ _ _ _ _ [0,1] _ _
 obtain⟨fv,hfv⟩:∃fv:Value,fv=.func (.func ri.g) #[] (ri.cap.map a1.eval):=⟨_,rfl⟩
 refine jT e0 gd1 (fun c hc'=>by rw[op1]at hc';cases hc') (u:=fv) (by simp[execOp,op1,Instr.makeFunc,hfv]) ?_
 have hev:(a1.put o.dst fv).eval (.tmp ri.d)=fv:=by
  rw[d1];simp only[Act.eval,Act.put];rw[dg (by rw[r1.size];exact hd),if_pos rfl]
 refine JC e1 gd2 (d:={ target:=.fn (.func ri.g) (ri.cap.map a1.eval),args:=#[] }) (by
  rw[hfv]at hev⊢
  simp only[execOp,op2,resolve,cal,hev,Deferred.ofValue,hargs,Sem.run_bind,Sem.run_pure,Result.andThen_ok,Array.map_empty,Array.append_empty]) ?_
 rw[d1,d2];show Code.wpIn (FR none) 0 P _ _ _ w1
 obtain⟨a2,ha2⟩:∃a2:Act,a2={ (a1.put (some ri.d) fv)with defers:={ target:=.fn (.func ri.g) (ri.cap.map a1.eval),args:=#[] }::a1.defers }:=⟨_,rfl⟩
 have hxe:xs=ri.cap.toList.map (ag σ1.tmp):=by rw[hxs];exact List.map_congr_left fun x _=>by rw[iP]
 have hcaps:SVden env κ1 F1 w1 (.of xs) (.tuple (ri.cap.map a1.eval)):=by rw[hxe];exact CU r1 ri.cap
 have hxn:∀x∈xs,∀b∈x.names,U b\/(σ.N<=b/\b<σ1.N):=by
  intro x hx b hbn;rw[hxe]at hx;obtain⟨y,hy,rfl⟩:=List.mem_map.1 hx;exact r1.evNames y b hbn
 have hrel1:Rel w0 env κ1 F1 (fun b=>U b\/(σ.N<=b/\b<σ1.N)) (σ1.put (some ri.d) (.fn ri.g .nil (.of xs))).tmp (σ1.put (some ri.d) (.fn ri.g .nil (.of xs))).blk (σ1.put (some ri.d) (.fn ri.g .nil (.of xs))).L a2 w1:=by
  rw[p1,p2,p4,ha2];have h:=r1.put (dst:=some ri.d) (v:=.fn ri.g .nil (.of xs)) (u:=fv) (fun d hd'=>by cases hd';exact hd) ⟨#[],_,hfv,rfl,bq _,rfl,hcaps⟩ (fun b hb=>by
   rcases List.mem_append.1 hb with hb|hb
   ·cases hb
   ·obtain⟨y,hy,hby⟩:=(fV _ b).1 hb
    exact hxn y hy b hby)
  exact⟨h.tmps,h.size,h.blks,h.inj,h.nF,h.F,h.tnames,h.bnames,h.below⟩
 have hU1:∀b,σ1.N<=b->¬(U b\/(σ.N<=b/\b<σ1.N)):=fun b h1 h3=>by
  rcases h3 with h3|h3
  ·exact hU b (by omega) h3
  ·omega
 show Code.wpIn (FR none) 0 P _ _ { (a1.put (some ri.d) fv)with defers:=_::a1.defers } w1
 rw[<-ha2];refine wpIn_mono (l2.go κ1 F1 _ a2 w1 hrel1 (by rw[p3];exact hU1) (fun b hb=>by cases hb)) ?_
 rintro e a3 w2 ⟨rfl,κ2,F2,r2,k2,Ds,dm1,dm2,dm3⟩;rw[p3]at r2;rw[p2]at k2;have hB1:w0.heap.size<=w1.heap.size:=r1.below.size
 have r3:=sZ Ds w2 r2 dm2 (fun D hD=>⟨by have:=(dm3 D hD).1;omega,(dm3 D hD).2⟩)
 have k3:=qH Ds w2 k2 (fun D hD=>(dm3 D hD).1)
 obtain⟨w3,hw3⟩:∃w3,w3=jD Ds w2:=⟨_,rfl⟩
 rw[<-hw3]at r3 k3;have key:∀u,(u=.returning/\v=.nilIface\/u=.panicking (gD v))->LeavesInM (FR none) 0 P fn a3.tmps (xm w0 env κ F U σ.blk σ.N w { σ4 with rf:=σ2.rf } rs) a3.defers u w2:=by
  intro u hu;have hrun:u≠.run:=by rcases hu with⟨rfl,_⟩|rfl<;>simp
  rw[dm1,ha2];refine x9 hrun Ds w2 dm2 (fun D hD=>(dm3 D hD).2.1) ?_
  rw[<-hw3];have hgn:¬gfn.name = "runtime.NumGoroutine" := hfit.name ri.g gfn hg
  have hgb0:¬gfn.body=none:=by rw[hgb];intro hh;cases hh
  refine⟨hrun,.inr ⟨fun h=>(by cases h),.func ri.g,ri.cap.map a1.eval,ri.g,ri.cap.map a1.eval,rfl,?_,fun _ _=>trivial,?_⟩⟩
  ·simp only[invoke,callFunc]
   simp[hg,hgn,hgb0]
  obtain⟨t1,t2⟩:=kE (bq xs) hcaps;rw[eI]at t1 t2;obtain⟨fr1,fr2⟩:=rU (env:=env) (κ:=κ2) (F:=F2) (w:=w3) (σ:=σ2) (vs:=xs) (us:=ri.cap.map a1.eval) (n:=gfn.ntmps) (by simpa using t1) (fun i x u' hx hu'=>(t2 i x u' hx (by rw[Array.getElem?_toList];exact hu')).keep (fun b hb=>k3.kap b (hxn x (List.mem_of_getElem? hx) b hb)) k3.mono (fun j hj=>k3.frame j (r1.F j hj) (fun b hl' e=>r1.nF b j hl' e hj)))
  have hfr:=r3.callee (σ:=σ2) (fun _ _=>rfl) (a':={ tmps:=ri.cap.map a1.eval++Array.replicate (gfn.ntmps-(ri.cap.map a1.eval).size) undef,defers:=[] }) fr1 fr2 (mZ (fun x hx b hb=>.inl (hxn x hx b hb)))
  have hU2:∀b,σ2.N<=b->¬((U b\/(σ.N<=b/\b<σ1.N))\/(σ1.N<=b/\b<σ2.N)):=fun b h1 h3=>by
   rcases h3 with h3|h3
   ·exact hU1 b (by omega) h3
   ·omega
  refine(EG hg hgb hrg hres0 hu hr1 hr2 hex4 l4 hfr hU2 r3.below.size).mono ?_
  rintro e u' w4 ⟨val,rfl,hset,κ4,F4,a4,r4,k4⟩;show LeavesInM (FR none) 0 P fn a3.tmps _ a1.defers (settle u') w4
  rw[hset];obtain⟨Es,g1,g2,g3⟩:=(m1.next r1 k3).next r3 k4;rw[g1,List.append_nil];refine rz hres (hr.below.size) Es w4 (a':=a3) ?_ ((k1.trans k3 (fun b hb=>.inl hb)).trans k4 (fun b hb=>.inl (.inl hb))) g2 g3
  have hback:Rel w0 env κ4 F4 (fun b=>((U b\/(σ.N<=b/\b<σ1.N))\/(σ1.N<=b/\b<σ2.N))\/(σ2.N<=b/\b<σ4.N)) σ2.tmp σ4.blk σ2.L a3 w4:=
   ⟨fun t=>(r3.tmps t).keep (fun b hb=>k4.kap b (r3.tnames t b hb)) k4.mono (fun j hj=>k4.frame j (r3.F j hj) (fun b hl' e=>r3.nF b j hl' e hj)),r3.size,r4.blks,r4.inj,r4.nF,r4.F,fun t b hb=>.inl (r3.tnames t b hb),r4.bnames,r4.below⟩
  refine hback.monoU (fun b hb=>?_)
  show U b\/(σ.N<=b/\b<σ4.N)
  rcases hb with((hb|hb)|hb)|hb
  ·exact .inl hb
  ·exact .inr ⟨hb.1,by omega⟩
  ·exact .inr ⟨by omega,by omega⟩
  ·exact .inr ⟨by omega,hb.2⟩
 rcases h2 with⟨hex,hv⟩|rfl
 ·cases ex2 with
  |normal=>exact key .returning (.inl ⟨rfl,hv⟩)
  |ret=>exact key .returning (.inl ⟨rfl,hv⟩)
  |exit id=>cases hex
  |panic v=>cases hex
 ·exact key _ (.inr rfl)
theorem Nt{cfg:Cfg}(hfit:PFit P){g:Bool}{fn:Func}{f:Nat}{ri:RecI}{σ:SS}{Post:R->Prop}{K:Nat->List AV->Prop}(hn:env.length=σ.n)(hk:KnownOK env σ.n σ.known)(h:(Hb P cfg g fn f ri σ).den P Post env K):
  ∃gfn gc rg σ1 σ2 σ4 ex2 v ex4 rs K',P.funcs[ri.g]?=some gfn/\gfn.body=some gc/\C6 gc=some rg/\gfn.results.size=0/\ri.d<SS.L σ1/\Leads P w0 none ri.c0 (env++rs) σ .normal σ1 ∧
   Leads P w0 none ri.rest (env++rs) (σ1.put (some ri.d) (.fn ri.g .nil (.of (ri.cap.toList.map σ1.ev)))) ex2 σ2/\((ex2.out=true/\v=.nilIface)\/ex2=.panic v)/\rg.r<(σ2.frame (ri.cap.toList.map σ1.ev) gfn.ntmps).L/\rg.q<(σ2.frame (ri.cap.toList.map σ1.ev) gfn.ntmps).L/\Ex.out ex4=true ∧
   Leads P w0 none rg.rest (env++rs) (((σ2.frame (ri.cap.toList.map σ1.ev) gfn.ntmps).put (some rg.r) (cd v)).put (some rg.q) (cd v)) ex4 σ4/\(lm P g fn { σ4 with rf:=σ2.rf }).den P Post (env++rs) K':=by
 unfold Hb at h;obtain⟨ex1,σ1,rs1,K1,h1,_,_,hk1,hn1,l1⟩:=pj (w0:=w0) (cfg:=cfg) hfit 12 Post K none f ri.c0 _ σ env hn hk h
 unfold H5 at h1;split at h1
 rotate_left
 ·exact h1.elim
 split at h1
 rotate_left
 ·exact h1.elim
 rename_i hd
 rw[jz iT]at h1;obtain⟨xs,hxs⟩:∃xs,xs=ri.cap.toList.map σ1.ev:=⟨_,rfl⟩
 rw[<-hxs]at h1;obtain⟨p1,p2,p3,p4,p5,p6,_⟩:=ej σ1 (dst:=some ri.d) (v:=.fn ri.g .nil (.of xs)) (fun d hd'=>by cases hd';exact hd)
 obtain⟨ex2,σ2,rs2,K2,h2,_,_,hk2,hn2,l2⟩:=pj (w0:=w0) (cfg:=cfg) hfit 12 Post K1 none f ri.rest _ _ (env++rs1) (by rw[p4];exact hn1) (by rw[p4,p5];exact hk1) h1
 obtain⟨v,hv,h3⟩:∃v,((ex2.out=true/\v=.nilIface)\/ex2=.panic v)/\(vk P cfg g fn ri xs σ2 v).den P Post (env++rs1++rs2) K2:=by
  cases ex2 with
  |exit id=>exact h2.elim
  |panic v=>exact⟨v,.inr rfl,h2⟩
  |normal=>exact⟨_,.inl ⟨rfl,rfl⟩,h2⟩
  |ret=>exact⟨_,.inl ⟨rfl,rfl⟩,h2⟩
 unfold vk at h3;split at h3
 ·exact h3.elim
 rename_i gfn hg
 split at h3
 ·exact h3.elim
 rename_i gc hgb
 split at h3
 ·exact h3.elim
 rename_i rg hrg
 split at h3
 rotate_left
 ·exact h3.elim
 rename_i hh
 obtain⟨hres,hr1,hr2⟩:=hh;have q1:=ej (σ2.frame xs gfn.ntmps) (dst:=some rg.r) (v:=cd v) (fun d hd'=>by cases hd';exact hr1)
 have q2:=ej ((σ2.frame xs gfn.ntmps).put (some rg.r) (cd v)) (dst:=some rg.q) (v:=cd v) (fun d hd'=>by cases hd';rw[q1.2.2.2.2.2.1];exact hr2)
 have en:(((σ2.frame xs gfn.ntmps).put (some rg.r) (cd v)).put (some rg.q) (cd v)).n=σ2.n:=q2.2.2.2.1.trans q1.2.2.2.1
 have ek:(((σ2.frame xs gfn.ntmps).put (some rg.r) (cd v)).put (some rg.q) (cd v)).known=σ2.known:=q2.2.2.2.2.1.trans q1.2.2.2.2.1
 obtain⟨ex4,σ4,rs4,K4,h4,_,_,_,_,l4⟩:=pj (w0:=w0) (cfg:=cfg) hfit 12 Post K2 none ri.g rg.rest _ _ (env++rs1++rs2) (by rw[en];exact hn2) (by rw[en,ek];exact hk2) h3
 have hE:env++(rs1++(rs2++rs4))=env++rs1++rs2++rs4:=by simp
 have h5:ex4.out=true/\(lm P g fn { σ4 with rf:=σ2.rf }).den P Post (env++rs1++rs2++rs4) K4:=by
  cases ex4 with
  |exit id=>exact h4.elim
  |panic v=>exact h4.elim
  |normal=>exact⟨rfl,h4⟩
  |ret=>exact⟨rfl,h4⟩
 refine⟨gfn,gc,rg,σ1,σ2,σ4,ex2,v,ex4,rs1++(rs2++rs4),K4,hg,hgb,hrg,hres,hd,?_,?_,hv,hxs▸hr1,hxs▸hr2,h5.1,?_,by rw[hE];exact h5.2⟩
 ·rw[hE];have:=l1 (rs2++rs4);simpa using this
 ·rw[hE,<-hxs];have:=l2 rs4;simpa using this
 ·rw[hE,<-hxs];have:=l4 [];simpa using this
theorem Bt{l:List Oper}{r:Nat}(h:yZ l=some r):∃o,l=[o]/\o.dst=some r/\o.op=.assign (.const (.slice none 0 0))/\o.guard=none:=by
 unfold yZ at h;split at h
 ·cases h;exact⟨_,rfl,rfl,rfl,rfl⟩
 ·cases h
theorem Jc{l:List Oper}{p q t:Nat}(h:Cy l=some (p,q,t)):∃o o' ty,l=[o,o']/\o.dst=some p/\o.op=.move (.tmp 0)/\o.guard=none/\o'.dst=some q/\o'.op=.binOp .eql t (.tmp p) (.const (.slice none 0 0)) ty/\o'.guard=none:=by
 unfold Cy at h;split at h
 ·split at h
  ·rename_i e
   cases h
   exact⟨_,_,_,rfl,rfl,rfl,rfl,rfl,by rw[e],rfl⟩
  ·cases h
 ·cases h
theorem tn{c:Code}{ci:CloneI}(h:tJ c=some ci):c=.seq (.region ci.i0 ci.ops0 false) (.seq (.seq (.region ci.i1 ci.ops1 false) (.cond (.tmp ci.q) (.seq (.region ci.i2 ci.ops2 false) .ret) .skip)) ci.rest)/\yZ ci.ops0.toList=some ci.r/\Cy ci.ops1.toList=some (ci.p,ci.q,ci.t)/\yZ ci.ops2.toList=some ci.r/\ci.r≠0/\ci.p≠0/\ci.q≠0/\ci.r≠ci.p/\ci.r≠ci.q:=by
 unfold tJ at h;split at h
 ·split at h
  ·rename_i h1 h2 h3
   split at h
   ·rename_i hh
    obtain⟨e1,e2,n1,n2,n3,n4,n5⟩:=hh;cases h
    refine⟨by rw[e2],h1,?_,?_,n1,n2,?_,n4,?_⟩
    ·rw[h2,e2]
    ·rw[h3,e1]
    ·exact e2▸n3
    ·exact e2▸n5
   ·cases h
  ·cases h
 ·cases h
theorem Nh(d:Nat){t e:Nat}(hu:P.underlying t=some (.slice e))(A:Option Addr)(n c:Nat):(Op.equalIn (d+1) t (.slice A n c) (.slice none 0 0)).run P w=.ok A.isNone w:=by
 cases A<;>simp only[Op.equalIn,Sem.run_bind,run_underlying hu,Result.andThen_ok,Sem.run_pure,Option.isNone]
theorem vA{d t:Nat}{v:Value}(h:d<a.tmps.size):(a.put (some d) v).eval (.tmp t)=if t=d then v else a.eval (.tmp t):=by
 simp only[Act.eval,Act.put];exact dg h
theorem mE{d:Option Nat}{v:Value}:(a.put d v).tmps.size=a.tmps.size:=by cases d<;>simp[Act.put]
theorem BU{c:Code}{ci:CloneI}(hc:tJ c=some ci){e:Nat}(ht:P.underlying ci.t=some (.slice e)){A:Option Addr}{n cap:Nat}(ha:a.eval (.tmp 0)=.slice A n cap)(hr:ci.r<a.tmps.size)(hp:ci.p<a.tmps.size)(hq:ci.q<a.tmps.size){Q:Exit->Act->World->Prop}
  (h:((if A.isNone then Code.seq (.region ci.i2 ci.ops2 false) .ret else .skip):Code).wpIn (FR none) 0 P (Exit.then (ci.rest.wpIn (FR none) 0 P Q) Q) (((a.put (some ci.r) (.slice none 0 0)).put (some ci.p) (.slice A n cap)).put (some ci.q) (.bool A.isNone)) w):c.wpIn (FR none) 0 P Q a w:=by
 obtain⟨hcc,s0,s1,_,n1,n2,n3,n4,n5⟩:=tn hc;obtain⟨o,l0,d0,op0,g0⟩:=Bt s0;obtain⟨o1,o2,ty,l1,d1,op1,g1,d2,op2,g2⟩:=Jc s1;have z0:ci.ops0.size=1:=by rw[<-Array.length_toList,l0];rfl
 have z1:ci.ops1.size=2:=by rw[<-Array.length_toList,l1];rfl
 have e0:ci.ops0[0]?=some o:=by rw[<-Array.getElem?_toList,l0];rfl
 have e1:ci.ops1[0]?=some o1:=by rw[<-Array.getElem?_toList,l1];rfl
 have e2:ci.ops1[1]?=some o2:=by rw[<-Array.getElem?_toList,l1];rfl
 rw[hcc];refine wpIn_seq (wpIn_region ?_)
 rw[z0];show wpOpsIn _ _ _ _ _ [0] _ _
 refine jT e0 g0 (fun c hc'=>by rw[op0]at hc';cases hc') (u:=.slice none 0 0) (by simp only[execOp,op0,Sem.run_pure];rfl) ?_
 rw[d0];show Code.wpIn (FR none) 0 P _ _ _ w
 refine wpIn_seq (wpIn_seq (wpIn_region ?_))
 rw[z1];show wpOpsIn _ _ _ _ _ [0,1] _ _
 have v1:(a.put (some ci.r) (.slice none 0 0)).eval (.tmp 0)=.slice A n cap:=by rw[vA hr,if_neg (fun h=>n1 h.symm),ha]
 refine jT e1 g1 (fun c hc'=>by rw[op1]at hc';cases hc') (u:=.slice A n cap) (by simp only[execOp,op1,v1,Sem.run_pure]) ?_
 rw[d1];have v2:((a.put (some ci.r) (.slice none 0 0)).put (some ci.p) (.slice A n cap)).eval (.tmp ci.p)=.slice A n cap:=by rw[vA (by rw[mE];exact hp),if_pos rfl]
 have v3:((a.put (some ci.r) (.slice none 0 0)).put (some ci.p) (.slice A n cap)).eval (.const (.slice none 0 0))=.slice none 0 0:=rfl
 have heq:(Op.equal ci.t (.slice A n cap) (.slice none 0 0)).run P w=.ok A.isNone w:=Nh 9999 ht A n cap
 refine jT e2 g2 (fun c hc'=>by rw[op2]at hc';cases hc') (u:=.bool A.isNone) (by
  simp only[execOp,op2,v2,v3,Sem.run_bind];have hg:(eqGuard .eql ci.t (.tmp ci.p) (.const (.slice none 0 0)) (.slice A n cap) (.slice none 0 0)).run P w=.ok () w:=iA (.inl (by simp)) (by simp)
  rw[hg,Result.andThen_ok];simp only[binOp];simp[heq]) ?_
 rw[d2];show Code.wpIn (FR none) 0 P _ _ _ w
 exact wpIn_cond (t:=A.isNone) (by rw[vA (by rw[mE,mE];exact hq),if_pos rfl]) h
theorem Rel.putAny(h:Rel w0 env κ F U tmp blk L a w){d:Nat}(hd:d<L)(ht:tmp d=.any)(u:Value):Rel w0 env κ F U tmp blk L (a.put (some d) u) w:=by
 have:=h.put (dst:=some d) (v:=.any) (u:=u) (fun d' hd'=>by cases hd';exact hd) trivial (fun b hb=>by cases hb)
 have e:eP tmp (some d) .any=tmp:=by
  funext i
  simp only[eP,upd];split
  ·rename_i hi;rw[hi,ht]
  ·rfl
 rw[e]at this;exact this
theorem Ax{f:Nat}{fn:Func}{c:Code}{ci:CloneI}(hfn:P.funcs[f]?=some fn)(hb:fn.body=some c)(hc:tJ c=some ci){e:Nat}(ht:P.underlying ci.t=some (.slice e)){σ σ':SS}{ex:Ex}(hex:ex.out=true)(hl:Leads P w0 none ci.rest env σ ex σ')
  {vs:Array Value} (hr:Rel w0 env κ F U σ.tmp σ.blk σ.L { tmps:=vs++Array.replicate (fn.ntmps-vs.size) undef,defers:=[] } w) (hU:∀b,σ.N<=b->¬U b) {A:Addr} {n cap:Nat} (ha:(vs++Array.replicate (fn.ntmps-vs.size) undef).getD 0 undef=.slice (some A) n cap)
  (hr1:ci.r<σ.L) (hp1:ci.p<σ.L) (hq1:ci.q<σ.L) (hrt:σ.tmp ci.r=.any) (hpt:σ.tmp ci.p=.any) (hqt:σ.tmp ci.q=.any) {rs:List SV} (hres:bK P σ' fn.results.toList=some rs):
  Calls P f vs w (xm w0 env κ F U σ.blk σ.N w σ' rs):=by
 refine nl (ro:=none) (n:=0) (callsIn_of_wp_marks hfn hb trivial ?_)
 have hsz:=hr.size;refine BU (a:={ tmps:=vs++Array.replicate (fn.ntmps-vs.size) undef,defers:=[] }) hc ht (A:=some A) (n:=n) (cap:=cap) ha (by rw[hsz];exact hr1) (by rw[hsz];exact hp1) (by rw[hsz];exact hq1) ?_
 simp only[Option.isNone,Bool.false_eq_true,if_false];refine wpIn_skip ?_
 show Code.wpIn (FR none) 0 P _ _ _ w
 refine wpIn_mono (hl.go κ F U _ w (((hr.putAny hr1 hrt _).putAny hp1 hpt _).putAny hq1 hqt _) hU (fun b hb=>by cases hb)) ?_
 rintro e' a' w' ⟨rfl,κ',F',r,k,Ds,m1,m2,m3⟩;have key:LeavesInM (FR none) 0 P fn a'.tmps (xm w0 env κ F U σ.blk σ.N w σ' rs) a'.defers .returning w':=by
  rw[m1];show LeavesInM (FR none) 0 P fn a'.tmps _ (Ds.map ij++[]) .returning w'
  rw[List.append_nil];exact rz hres hr.below.size Ds w' r k m2 m3
 cases ex with
 |normal=>exact key
 |ret=>exact key
 |exit id=>cases hex
 |panic v=>cases hex
theorem By{f:Nat}{fn:Func}{c:Code}{ci:CloneI}(hfn:P.funcs[f]?=some fn)(hb:fn.body=some c)(hc:tJ c=some ci){e:Nat}(ht:P.underlying ci.t=some (.slice e))(hres:fn.results.toList=[.tmp ci.r])
  {vs:Array Value} {n cap:Nat} (ha:(vs++Array.replicate (fn.ntmps-vs.size) undef).getD 0 undef=.slice none n cap) {L:Nat} (hsz:(vs++Array.replicate (fn.ntmps-vs.size) undef).size=L) (hr1:ci.r<L) (hp1:ci.p<L) (hq1:ci.q<L):
  Calls P f vs w (fun e w'=>e=.returned (.slice none 0 0)/\w'=w):=by
 refine nl (ro:=none) (n:=0) (callsIn_of_wp_marks hfn hb trivial ?_)
 refine BU (a:={ tmps:=vs++Array.replicate (fn.ntmps-vs.size) undef,defers:=[] }) hc ht (A:=none) (n:=n) (cap:=cap) ha (by show _<Array.size _;rw[hsz];exact hr1) (by show _<Array.size _;rw[hsz];exact hp1) (by show _<Array.size _;rw[hsz];exact hq1) ?_
 simp only[Option.isNone,if_true];obtain⟨_,_,_,s2,_⟩:=tn hc;obtain⟨o,l0,d0,op0,g0⟩:=Bt s2;have z0:ci.ops2.size=1:=by rw[<-Array.length_toList,l0];rfl
 have e0:ci.ops2[0]?=some o:=by rw[<-Array.getElem?_toList,l0];rfl
 refine wpIn_seq (wpIn_region ?_)
 rw[z0];show wpOpsIn _ _ _ _ _ [0] _ _
 refine jT e0 g0 (fun c hc'=>by rw[op0]at hc';cases hc') (u:=.slice none 0 0) (by simp only[execOp,op0,Sem.run_pure];rfl) ?_
 rw[d0];show Code.wpIn (FR none) 0 P .ret _ _ w
 refine wpIn_ret ?_
 refine⟨pack [.slice none 0 0],sV (us:=[.slice none 0 0]) (by rw[<-Array.length_toList,hres];rfl) (fun i x u hx hu=>?_),rfl,rfl⟩
 rw[hres]at hx;cases i with
 | zero=>
  simp at hx hu
  subst hx;subst hu;have:∀b:Act,ci.r<b.tmps.size->(b.put (some ci.r) (Value.slice none 0 0)).tmps.getD ci.r undef=.slice none 0 0:=fun b hb=>by
   have:=vA (a:=b) (d:=ci.r) (t:=ci.r) (v:=.slice none 0 0) hb
   rw[if_pos rfl]at this;exact this
  dsimp only;rw[this _ (by rw[mE,mE,mE];show _<Array.size _;rw[hsz];exact hr1)]
  rfl
 |succ i=>simp at hx
theorem JB(h:(den env (.v 0)).l=[]):∀e:E,fg e=true->(den env e).l=[]:=by
 intro e;induction e with
 |v i=>
  intro hn;cases i with
  |zero=>exact h
  |succ i=>simp[fg]at hn
 |lnil=>intro _;rfl
 |app a b ih1 ih2=>
  intro hn;simp only[fg,Bool.and_eq_true]at hn;simp[den,ih1 hn.1,ih2 hn.2]
 |typed t a ih=>intro hn;simp only[fg]at hn;simp[den,ih hn]
 |take a b ih _=>intro hn;simp only[fg]at hn;simp[den,ih hn]
 |drop a b ih _=>intro hn;simp only[fg]at hn;simp[den,ih hn]
 |_=>intro hn;simp[fg]at hn
theorem Gq{t:T}{Post:R->Prop}{K:Nat->List AV->Prop}(h:(qA t).den P Post env K):∃a ty e,t=.ret (.row a ty e)/\given a=false/\fg e=true/\0<ty.len:=by
 unfold qA at h;split at h
 ·split at h
  ·rename_i hh
   exact⟨_,_,_,rfl,hh.1,hh.2.1,hh.2.2⟩
  ·exact h.elim
 ·exact h.elim
variable {env:List AV} {κ κ':Nat->Value} {F F':Nat->Prop} {w w' w0:World} {U:Nat->Prop} {tmp:Nat->SV} {blk:Nat->Option SB} {L:Nat} {a:Act} {P:Program} {Post:R->Prop} {K:Nat->List AV->Prop}
theorem zS:∀(l:List Nat),tK l=true->l.Nodup
 |[],_=>List.nodup_nil
 |x::l,h=>by
  simp only[tK,Bool.and_eq_true,Bool.not_eq_true',List.contains_eq_mem,decide_eq_false_iff_not]at h;exact List.nodup_cons.2 ⟨h.1,zS l h.2⟩
theorem B7{σ:SS}:∀(x:SV) (s:RS) (re:RE),dB σ x s=some re->x.proper=true->(re.den env).proper=true:=by
 intro x;induction x with
 |nil=>intro s re h _;cases s<;>simp only[dB]at h<;>cases h;rfl
 | cons x y _ ih2=>
  intro s re h hp;cases s<;>simp only[dB]at h<;>try (cases h;done)
  split at h
  ·rename_i u v h1 h2
   cases h
   show(v.den env).proper=true
   exact ih2 _ _ h2 hp
  ·cases h
 |_=>intro s re h hp;cases hp
theorem KL{σ:SS}(h:Rel w0 env κ F U σ.tmp σ.blk L a w):∀(x:SV) (s:RS) (re:RE) (u:Value),dB σ x s=some re->SVden env κ F w x u →
  iI F w0.heap.size w (re.den env) u (x.names.flatMap fun b=>(ah (κ b)).toList)/\∀b∈x.names,aA (σ.blk b)=true:=by
 intro x;induction x with
 |vi e=>intro s re u hr hd;cases s<;>simp only[dB]at hr<;>cases hr;exact⟨⟨hd.1,rfl⟩,fun b hb=>by cases hb⟩
 |vb e=>intro s re u hr hd;cases s<;>simp only[dB]at hr<;>cases hr;exact⟨⟨hd.1,rfl⟩,fun b hb=>by cases hb⟩
 |vr e=>intro s re u hr hd;cases s<;>simp only[dB]at hr<;>cases hr;exact⟨⟨hd.1,by rw[<-hd.1];exact hd.2.1,rfl⟩,fun b hb=>by cases hb⟩
 | nilsl=>
  intro s re u hr hd;cases s<;>simp only[dB]at hr<;>try (cases hr;done)
  split at hr
  ·rename_i hp
   cases hr
   rw[show u=_ from hd]
   refine⟨?_,fun b hb=>by cases hb⟩
   simp only[RE.den];unfold iI;split
   ·exact⟨uk _,rfl⟩
   ·exact⟨[],World.ownsRow_nil _ _ _ _,hp,⟨fun i r hr=>by simp[den]at hr,fun i r k x hr=>by simp[den]at hr⟩,rfl⟩
  ·cases hr
 | vs t e=>
  intro s re u hr hd;cases s<;>simp only[dB]at hr<;>try (cases hr;done)
  split at hr
  ·rename_i hh
   obtain⟨hg,rfl⟩:=hh;cases hr
   refine⟨?_,fun b hb=>by cases hb⟩
   simp only[RE.den];unfold iI;rw[if_pos hg];exact⟨hd,rfl⟩
  ·cases hr
 | row b=>
  intro s re u hr hd;cases s<;>simp only[dB]at hr<;>try (cases hr;done)
  split at hr
  ·rename_i a' t' e hb
   split at hr
   ·rename_i hh
    obtain⟨rfl,rfl,hg⟩:=hh;cases hr
    obtain⟨us,h1,h2,h3⟩:=h.blks b _ hb;rw[hd.1];refine⟨?_,fun c hc=>?_⟩
    ·simp only[RE.den]
     unfold iI;rw[if_neg (by rw[hg];simp)]
     exact⟨us,h1,h2,h3,by simp[SV.names]⟩
    simp[SV.names]at hc;subst hc;rw[hb];rfl
   ·cases hr
  ·cases hr
 |nil=>intro s re u hr hd;cases s<;>simp only[dB]at hr<;>cases hr;exact⟨⟨hd,rfl⟩,fun b hb=>by cases hb⟩
 | cons x y ih1 ih2=>
  intro s re u hr hd;cases s<;>simp only[dB]at hr<;>try (cases hr;done)
  split at hr
  ·rename_i u1 u2 h1 h2
   cases hr
   obtain⟨p,q,rfl,d1,d2⟩:=hd;obtain⟨r1,n1⟩:=ih1 _ _ _ h1 d1;obtain⟨r2,n2⟩:=ih2 _ _ _ h2 d2;refine⟨⟨p,q,_,_,rfl,r1,r2,by simp[SV.names,List.flatMap_append]⟩,fun b hb=>?_⟩
   simp only[SV.names,List.mem_append]at hb;rcases hb with hb|hb
   ·exact n1 b hb
   ·exact n2 b hb
  ·cases hr
 | agg x ih=>
  intro s re u hr hd;cases s<;>simp only[dB]at hr<;>try (cases hr;done)
  split at hr
  ·rename_i hp
   obtain⟨re',h1,rfl⟩:=Option.map_eq_some_iff.1 hr;obtain⟨cs,rfl,_,d⟩:=hd;obtain⟨r1,n1⟩:=ih _ _ _ h1 d;exact⟨⟨cs,rfl,B7 _ _ _ h1 hp,r1⟩,n1⟩
  ·cases hr
 | tup x ih=>
  intro s re u hr hd;cases s<;>simp only[dB]at hr<;>try (cases hr;done)
  split at hr
  ·rename_i hp
   obtain⟨re',h1,rfl⟩:=Option.map_eq_some_iff.1 hr;obtain⟨cs,rfl,_,d⟩:=hd;obtain⟨r1,n1⟩:=ih _ _ _ h1 d;exact⟨⟨cs,rfl,B7 _ _ _ h1 hp,r1⟩,n1⟩
  ·cases hr
 |_=>intro s re u hr hd;cases s<;>simp only[dB]at hr<;>cases hr
theorem Ci{f:Nat->List Nat}:∀ns:List Nat,ns.Nodup->(∀b,(f b).Nodup)->(∀b c k,b∈ns->c∈ns->k∈f b->k∈f c->b=c)->(ns.flatMap f).Nodup
 |[],_,_,_=>List.nodup_nil
 |n::ns,h,hf,hi=>by
  rw[List.nodup_cons]at h;rw[List.flatMap_cons,List.nodup_append];refine⟨hf n,Ci ns h.2 hf (fun b c k hb hc=>hi b c k (List.mem_cons_of_mem _ hb) (List.mem_cons_of_mem _ hc)),fun x hx y hy e=>?_⟩
  subst e;obtain⟨c,hc,hx2⟩:=List.mem_flatMap.1 hy;have:=hi n c x List.mem_cons_self (List.mem_cons_of_mem _ hc) hx hx2
  exact h.1 (this▸hc)
def AV.cells:AV->List AV
 |.agg l=>l
 |x=>[x]
def Kx(P:Program)(t:Nat)(x:AV):Bool:=
 match flat P 12 t with
 |none=>false
 |some ts=>if bE P t then(match x with|.agg l=>decide (l.map AV.ty=ts)|_=>false)else decide ([x.ty]=ts)
def yG(P:Program):List Nat->List AV->Bool
 |[],[]=>true
 |t::ts,x::xs=>Kx P t x&&yG P ts xs
 |_,_=>false
theorem LW{t n m:Nat}{s:SV}{x:AV}{u:Value}(hm:Kn P t n=some (s,m))(ho:Kx P t x=true)(hd:Den F w u x)(henv:∀(j:Nat) y,x.cells[j]?=some y->env[n+j]?=some y):
  SVden env κ F w s u/\s.names=[]/\m=n+x.cells.length:=by
 unfold Kn at hm;unfold Kx at ho;split at hm
 ·cases hm
 rename_i ts hts
 rw[hts]at ho;dsimp only at hm ho
 have hv:∀(j:Nat) y,x.cells[j]?=some y->den env (.v (n+j))=y:=fun j y hy=>by simp only[den];simp[List.getD,henv j y hy]
 by_cases hag:bE P t=true
 ·simp only[hag,if_true]at hm ho
  split at hm
  ·rename_i hall
   split at ho
   ·rename_i l
    have ho:=of_decide_eq_true ho;have hlen:ts.length=l.length:=by rw[<-ho];simp
    cases hm
    obtain⟨cs,rfl,hl,hcs⟩:=hd.agg_view;have hxs:∀(i:Nat) y,(List.map (fun x=>x.getD SV.any) (ts.zipIdx.map fun(x:Ty×Nat)=>eo (.v (n+x.2)) x.1))[i]?=some y->∃z,l[i]?=some z/\eo (.v (n+i)) z.ty=some y:=by
     intro i y hy;simp only[List.getElem?_map,List.getElem?_zipIdx,Option.map_map]at hy;obtain⟨s,hs,rfl⟩:=Option.map_eq_some_iff.1 hy;have hs':=hs;rw[<-ho,List.getElem?_map]at hs';obtain⟨z,hz,rfl⟩:=Option.map_eq_some_iff.1 hs';refine⟨z,hz,?_⟩
     have:=List.all_eq_true.1 hall (eo (.v (n+i)) z.ty) (List.mem_map.2 ⟨(z.ty,i),List.mem_of_getElem? (by rw[List.getElem?_zipIdx,hs];simp),rfl⟩)
     obtain⟨v,hv⟩:=Option.isSome_iff_exists.1 this;simp only[Function.comp,Nat.zero_add,hv,Option.getD_some]
    refine⟨⟨_,rfl,bq _,fz (by simp;omega) (fun i y v hy hu=>?_)⟩,?_,by simp[AV.cells,hlen]⟩
    ·obtain⟨z,hz,hle⟩:=hxs i y hy
     have:=hv i z (by simpa[AV.cells]using hz)
     exact pL hle (by rw[this]) (by rw[this];exact hcs i v z hu hz)
    ·refine List.eq_nil_iff_forall_not_mem.2 fun b hb=>?_
     obtain⟨y,hy,hby⟩:=(fV _ b).1 hb;obtain⟨i,hi⟩:=List.getElem?_of_mem hy;obtain⟨z,hz,hle⟩:=hxs i y hi;rw[o0 hle]at hby;cases hby
   ·cases ho
  ·cases hm
 ·simp only[hag]at hm ho
  have ho:=of_decide_eq_true ho;subst ho;cases hle:eo (.v n) x.ty with
  |none=>simp[hle]at hm
  |some v=>
   simp[hle]at hm
   obtain⟨rfl,rfl⟩:=hm;have hc:x.cells=[x]:=by cases x<;>first|rfl|cases hle
   have:=hv 0 x (by rw[hc];rfl)
   rw[Nat.add_zero]at this;exact⟨pL hle (by rw[this]) (by rw[this];exact hd),o0 hle,by rw[hc];rfl⟩
theorem o6:∀(ts:List Nat) (n k:Nat) (xs:List SV) (args:List AV) (us:List Value),yu P ts n=some (xs,k)->yG P ts args=true->us.length=args.length->(∀(i:Nat) u x,us[i]?=some u->args[i]?=some x->Den F w u x) →
  (∀(j:Nat) y,(args.flatMap AV.cells)[j]?=some y->env[n+j]?=some y)->xs.length=us.length/\k=n+(args.flatMap AV.cells).length/\∀(i:Nat) s u,xs[i]?=some s->us[i]?=some u->SVden env κ F w s u/\s.names=[]
 | [],n,k,xs,args,us,hm,ho,hl,_,_=>by
  cases args with
  |nil=>
   simp only[yu]at hm;cases hm
   exact⟨hl.symm,rfl,fun i s u h=>by simp at h⟩
  |cons=>cases ho
 | t :: ts,n,k,xs,args,us,hm,ho,hl,hd,henv=>by
  cases args with
  |nil=>cases ho
  | cons x args=>
   cases us with
   |nil=>simp at hl
   | cons u us=>
    simp only[yG,Bool.and_eq_true]at ho;simp only[yu]at hm;split at hm
    ·rename_i s m h1
     split at hm
     ·rename_i l k' h2
      cases hm
      rw[List.flatMap_cons]at henv;obtain⟨a1,a2,a3⟩:=LW (κ:=κ) h1 ho.1 (hd 0 u x rfl rfl) (fun j y hy=>henv j y (by rw[List.getElem?_append_left (List.getElem?_eq_some_iff.1 hy).1];exact hy))
      obtain⟨b1,b2,b3⟩:=o6 ts m k l args us h2 ho.2 (by simpa using hl) (fun i u x h1 h2=>hd (i+1) u x (by simpa using h1) (by simpa using h2)) (fun j y hy=>by
       have:=henv (x.cells.length+j) y (by rw[List.getElem?_append_right (by omega)];rw[<-hy];congr 1;omega)
       rw[<-this,a3];congr 1;omega)
      refine⟨by simp[b1],by rw[b2,a3];simp;omega,fun i s' u' h3 h4=>?_⟩
      cases i with
      |zero=>simp at h3 h4;subst h3;subst h4;exact⟨a1,a2⟩
      |succ i=>exact b3 i s' u' (by simpa using h3) (by simpa using h4)
     ·cases hm
    ·cases hm
theorem Ol{g:Bool}{fn:Func}{σ:SS}{r:R}(h:(lm P g fn σ).den P (·=r) env K):∃sh rv σ' v re,bK P σ fn.results.toList=some rv/\tK v.names=true/\dB σ' v sh=some re/\re.den env=r ∧
  ((σ'=σ/\v=fy rv)\/(σ'=σ.write (aZ σ.blk (rv.flatMap (aS σ.blk)))/\v=nz σ'.blk (fy rv))):=by
 have key:∀(σ':SS) sh v,(yQ σ' sh v).den P (·=r) env K->∃re,tK v.names=true/\dB σ' v sh=some re/\re.den env=r:=by
  intro σ' sh v h;unfold yQ at h;split at h
  rotate_left
  ·exact h.elim
  rename_i hnd
  split at h
  rotate_left
  ·exact h.elim
  rename_i re hre
  exact⟨re,hnd,hre,h⟩
 unfold lm at h;split at h
 rotate_left
 ·exact h.elim
 ·exact h.elim
 rename_i sh rv hsh hrv
 split at h
 ·obtain⟨re,h1,h2,h3⟩:=key _ _ _ h
  exact⟨sh,rv,_,_,re,hrv,h1,h2,h3,.inr ⟨rfl,rfl⟩⟩
 ·obtain⟨re,h1,h2,h3⟩:=key _ _ _ h
  exact⟨sh,rv,_,_,re,hrv,h1,h2,h3,.inl ⟨rfl,rfl⟩⟩
theorem KU{cfg:Cfg}{f:Nat}{args:List AV}{r:R}(hfit:PFit P)(ho:∀fn,P.funcs[f]?=some fn->yG P fn.params.toList args=true)(h:(Kj P cfg f).den P (·=r) (args.flatMap AV.cells) K):Con P f args r:=by
 intro S vs w hS hvs;unfold Kj at h;split at h
 ·exact h.elim
 rename_i fn hf
 split at h
 rotate_left
 ·exact h.elim
 rename_i c xs n hb hm
 simp only[jz iT,oW]at h;obtain⟨m1,m2,_⟩:=o6 (P:=P) (w:=w) (env:=args.flatMap AV.cells) (κ:=fun _=>undef) (F:=S) _ 0 n xs args vs.toList hm (ho fn hf) (by simpa using hvs.1) (fun i u x h1 h2=>hvs.2 i u x (by simpa using h1) h2) (fun j y hy=>by rw[Nat.zero_add];exact hy)
 have m1':xs.length=vs.size:=by simpa using m1
 obtain⟨σ,hσ⟩:∃σ:SS,σ={ rf:=Ov.of xs fn.ntmps,hp:=⟨[],[],0⟩,n,known:=[],dep:=0 }:=⟨_,rfl⟩
 rw[<-hσ]at h;have hn0:(args.flatMap AV.cells).length=σ.n:=by rw[hσ];simpa using m2.symm
 have hk0:KnownOK (args.flatMap AV.cells) σ.n σ.known:=by rw[hσ];exact fun x hx=>by cases hx
 obtain⟨g,σ',rs,K',hret,hgo⟩|hdone:(∃g σ' rs K',(lm P g fn σ').den P (·=r) (args.flatMap AV.cells++rs) K'/\∀rv,bK P σ' fn.results.toList=some rv->Rel w (args.flatMap AV.cells++rs) (fun _=>undef) S (fun _=>False) σ.tmp σ.blk σ.L { tmps:=vs++Array.replicate (fn.ntmps-vs.size) undef,defers:=[] } w->Calls P f vs w (xm w (args.flatMap AV.cells++rs) (fun _=>undef) S (fun _=>False) σ.blk σ.N w σ' rv))\/Calls P f vs w (JP S r w):=by
  split at h
  ·rename_i ri hri
   obtain⟨gfn,gc,rg,σ1,σ2,σ4,ex2,v,ex4,rs,K',y1,y2,y3,y4,y5,y6,y7,y8,y9,y10,y11,y12,y13⟩:=Nt (w0:=w) hfit hn0 hk0 h
   exact .inl ⟨_,_,rs,K',y13,fun rv hrv hrel=>IM hfit hf hb hri y1 y2 y3 y4 rfl y5 y6 y7 y8 y9 y10 y11 y12 hrel (fun _ _ h=>h) hrv⟩
  split at h
  ·rename_i ci hci
   unfold Gt at h;split at h
   rotate_left
   ·exact h.elim
   rename_i row r' ety hres ht _
   split at h
   rotate_left
   ·exact h.elim
   rename_i hh
   obtain⟨rfl,hr1,hp1,hq1⟩:=hh;obtain⟨ex,σ',rs,K',q1,_,_,_,_,q6⟩:=pj (w0:=w) (cfg:=cfg) hfit 12 (·=r) K none f ci.rest _ σ (args.flatMap AV.cells) hn0 hk0 h
   have hex:ex.out=true/\(qA (lm P false fn σ')).den P (·=r) (args.flatMap AV.cells++rs) K':=by
    cases ex with
    |exit id=>exact q1.elim
    |panic v=>exact q1.elim
    |normal=>exact⟨rfl,q1⟩
    |ret=>exact⟨rfl,q1⟩
   obtain⟨hex,hcr⟩:=hex;obtain⟨ra,rt,re,hT,hg,hnp,hlen⟩:=Gq hcr;have hret:(lm P false fn σ').den P (·=r) (args.flatMap AV.cells++rs) K':=by
    rw[hT]at hcr⊢
    unfold qA at hcr;dsimp only at hcr
    rw[if_pos ⟨hg,hnp,hlen⟩]at hcr;exact hcr
   have hl:=q6 [];rw[List.append_nil]at hl;obtain⟨_,_,m3⟩:=o6 (P:=P) (w:=w) (env:=args.flatMap AV.cells++rs) (κ:=fun _=>undef) (F:=S) _ 0 n _ args vs.toList hm (ho fn hf) (by simpa using hvs.1) (fun i u x h1 h2=>hvs.2 i u x (by simpa using h1) h2) (fun j y hy=>by
    rw[Nat.zero_add,List.getElem?_append_left (List.getElem?_eq_some_iff.1 hy).1];exact hy)
   have hv1:vs.size=1:=by simpa using m1'.symm
   have hden:Den S w vs[0] (.sl row (den (args.flatMap AV.cells++rs) (.v 0)).l):=(m3 0 (.vs row (.v 0)) vs[0] rfl (by simp)).1
   obtain⟨A,cap,hv,_,_,_,hA⟩:=hden.view;have ha:(vs++Array.replicate (fn.ntmps-vs.size) undef).getD 0 undef=.slice A (den (args.flatMap AV.cells++rs) (.v 0)).l.length cap:=by
    rw[oH,<-hv];simp[Array.getD,hv1]
   have htm:∀t,t≠0->σ.tmp t=.any:=fun t ht=>by
    rw[hσ];show(Ov.of [SV.vs row (.v 0)] fn.ntmps).get SV.any t=SV.any
    rw[Ov.get_of];cases t with
    |zero=>exact absurd rfl ht
    |succ t=>rfl
   obtain⟨_,_,_,_,z1,z2,z3,_⟩:=tn hci;cases A with
   | none=>
    refine .inr ((By hf hb hci ht hres ha (L:=σ.L) ?_ hr1 hp1 hq1).mono ?_)
    ·rw[hσ]
     show _=mx _ _
     rw[He];simp[hv1];omega
    rintro e w' ⟨rfl,rfl⟩;have hnil:(den (args.flatMap AV.cells++rs) (.v 0)).l=[]:=by
     cases hl0:(den (args.flatMap AV.cells++rs) (.v 0)).l with
     |nil=>rfl
     |cons x l=>
      obtain⟨a,h1,_⟩:=hA 0 x (by rw[hl0];rfl)
      cases h1
    rw[hT]at hret;have hret:R.row ra rt (den (args.flatMap AV.cells++rs) re).l=r:=hret
    refine⟨_,S,[],rfl,?_,List.nodup_nil,fun k hk=>(by cases hk),fun k hk=>⟨.inl hk,hS k hk⟩,Below.refl _ _⟩
    rw[<-hret,JB hnil re hnp];unfold iI;rw[if_neg (by rw[hg];simp)]
    exact⟨[],World.ownsRow_nil _ _ _ _,hlen,⟨fun i r hr=>by simp at hr,fun i r k x hr=>by simp at hr⟩,rfl⟩
   |some A=>
    exact .inl ⟨false,σ',rs,K',hret,fun rv hrv hrel=>Ax hf hb hci ht hex hl hrel (fun _ _ h=>h) ha hr1 hp1 hq1 (htm _ z1) (htm _ z2) (htm _ z3) hrv⟩
  obtain⟨ex,σ',rs,K',q1,_,_,_,_,q6⟩:=pj (w0:=w) (cfg:=cfg) hfit 12 (·=r) K none f c _ σ (args.flatMap AV.cells) hn0 hk0 h
  have hex:ex.out=true/\(lm P (cfg.cons.contains (f+1000000)) fn σ').den P (·=r) (args.flatMap AV.cells++rs) K':=by
   cases ex with
   |exit id=>exact q1.elim
   |panic v=>exact q1.elim
   |normal=>exact⟨rfl,q1⟩
   |ret=>exact⟨rfl,q1⟩
  obtain⟨hex,hret⟩:=hex;have hl:=q6 [];rw[List.append_nil]at hl;exact .inl ⟨_,σ',rs,K',hret,fun rv hrv hrel=>mG hf hb hex hl hrel (fun _ _ h=>h) hrv⟩
 rotate_left
 ·exact hdone
 obtain⟨sh,rv,σ2,v2,re,hrv,hnd,hre,hret,hcase⟩:=Ol hret;obtain⟨_,_,m3⟩:=o6 (P:=P) (w:=w) (env:=args.flatMap AV.cells++rs) (κ:=fun _=>undef) (F:=S) _ 0 n xs args vs.toList hm (ho fn hf) (by simpa using hvs.1) (fun i u x h1 h2=>hvs.2 i u x (by simpa using h1) h2) (fun j y hy=>by
  rw[Nat.zero_add,List.getElem?_append_left (List.getElem?_eq_some_iff.1 hy).1];exact hy)
 have hblk:∀b,σ.blk b=none:=fun b=>by rw[hσ];exact Ov.get_out (Nat.zero_le _)
 have hN:σ.N=0:=by rw[hσ];rfl
 have hfr:σ=SS.frame { rf:=⟨[],[],0⟩,hp:=⟨[],[],0⟩,n,known:=[],dep:=0 } xs fn.ntmps:=hσ
 obtain⟨fr1,fr2⟩:=rU (σ:={ rf:=⟨[],[],0⟩,hp:=⟨[],[],0⟩,n,known:=[],dep:=0 }) (env:=args.flatMap AV.cells++rs) (κ:=fun _=>undef) (F:=S) (w:=w) (vs:=xs) (us:=vs) (n:=fn.ntmps) m1'.symm (fun i x u hx hu=>(m3 i x u hx (by simpa using hu)).1)
 rw[<-hfr]at fr1 fr2;have hrel:Rel w (args.flatMap AV.cells++rs) (fun _=>undef) S (fun _=>False) σ.tmp σ.blk σ.L { tmps:=vs++Array.replicate (fn.ntmps-vs.size) undef,defers:=[] } w:=by
  refine⟨fr1,fr2,fun b x hx=>?_,fun b c k hb=>?_,fun b k hb=>?_,hS,fun t b hb=>?_,fun b x hx=>?_,Below.refl _ _⟩
  ·rw[hblk]at hx;cases hx
  ·rw[hblk]at hb;cases hb
  ·rw[hblk]at hb;cases hb
  ·rw[hfr]at hb
   exact mZ (U:=fun _=>False) (fun x hx b hb=>by
    obtain⟨i,hi⟩:=List.getElem?_of_mem hx;have hv:i<vs.size:=by rw[<-m1'];exact(List.getElem?_eq_some_iff.1 hi).1
    have:=(m3 i x vs[i] hi (by simp[hv])).2
    rw[this]at hb;cases hb) t b hb
  ·rw[hblk]at hx;cases hx
 refine(hgo rv hrv hrel).mono ?_
 rintro e w' ⟨u,κ',F',a',rfl,hr,k,hv⟩;have hfin:∃F2,Rel w (args.flatMap AV.cells++rs) κ' F2 (fun b=>False\/(σ.N<=b/\b<σ'.N)) σ2.tmp σ2.blk σ2.L a' w'/\Kept (fun _=>False) σ.blk (fun _=>undef) S w σ2.blk κ' F2 w'/\SVden (args.flatMap AV.cells++rs) κ' F2 w' v2 u:=by
  rcases hcase with⟨rfl,rfl⟩|⟨rfl,rfl⟩
  ·exact⟨F',hr,k,hv⟩
  ·obtain⟨y1,y2,y3,y4,_⟩:=cy σ' _ (kS σ' (rv.flatMap (aS σ'.blk))).1
   obtain⟨F1,r1,k1⟩:=hr.freeze (rv.flatMap (aS σ'.blk));rw[<-y1]at r1 k1;have r1':=r1;rw[<-y3,<-y4]at r1';refine⟨F1,r1',k.trans k1 (fun _ h=>h.elim),ug (b0:=w.heap.size) (fun b e t l hb=>r1.blks b _ hb) (hv.keep (fun _ _=>rfl) k1.mono (fun _ _=>rfl))⟩
 obtain⟨F2,hr,k,hv⟩:=hfin;obtain⟨d1,d2⟩:=KL hr v2 sh re u hre hv;rw[hret]at d1;refine⟨u,F2,_,rfl,d1,Ci _ (zS _ hnd) (fun b=>?_) (fun b c j hb hc h1 h2=>hr.inj b c j (d2 b hb) (d2 c hc) (by simpa using h1) (by simpa using h2)),fun j hj hF=>?_,fun j hj=>⟨?_,hr.F j hj⟩,hr.below⟩
 ·cases ah (κ' b)<;>simp
 ·obtain⟨b,hb,hj⟩:=List.mem_flatMap.1 hj
  exact hr.nF b j (d2 b hb) (by simpa using hj) hF
 ·rcases k.new j hj with h1|h1|⟨b,h1,_⟩
  ·exact .inl h1
  ·exact .inr h1
  ·rw[hblk]at h1;cases h1
variable {α:Type} {g:α->List Int} {f:α->List Value} {k B:Nat} {w w':World} {v:Value} {l:List α} {P:Program} {A:Option Addr} {c:Nat}
def DQ:Value->Array Value
 |.tuple cs=>cs
 |_=>#[]
def R.val:R->Value
 |.i n=>.int .i64 n
 |.b x=>.bool x
 |.r v=>v
 |.row _ _ _=>undef
 |.nil=>.tuple #[]
 |.cons x y=>.tuple (x.val::(DQ y.val).toList).toArray
 |.agg x=>.agg (DQ x.val)
 |.tup x=>.tuple (DQ x.val)
def R.flatB:R->Bool
 |.i _|.b _|.nil=>true
 |.r v=>aQ v
 |.row _ _ _=>false
 |.cons x y=>x.flatB&&y.flatB&&y.proper
 |.agg x|.tup x=>x.flatB&&x.proper
theorem nN{F:Nat->Prop}{base:Nat}:∀(r:R) (u:Value) (bs:List Nat),r.flatB=true->iI F base w r u bs->u=r.val
 |.i _,u,bs,_,h=>h.1
 |.b _,u,bs,_,h=>h.1
 |.nil,u,bs,_,h=>h.1
 |.r v,u,bs,_,h=>h.1
 |.row _ _ _,u,bs,hf,_=>by cases hf
 |.cons x y,u,bs,hf,h=>by
  simp only[R.flatB,Bool.and_eq_true]at hf;obtain⟨p,q,b1,b2,rfl,h1,h2,rfl⟩:=h;have e1:=nN x p b1 hf.1.1 h1;have e2:=nN y _ b2 hf.1.2 h2;simp only[R.val,e1,<-e2,DQ]
 |.agg x,u,bs,hf,h=>by
  simp only[R.flatB,Bool.and_eq_true]at hf;obtain⟨cs,rfl,_,h2⟩:=h;have e2:=nN x _ bs hf.1 h2;simp only[R.val,<-e2,DQ]
 |.tup x,u,bs,hf,h=>by
  simp only[R.flatB,Bool.and_eq_true]at hf;obtain⟨cs,rfl,_,h2⟩:=h;have e2:=nN x _ bs hf.1 h2;simp only[R.val,<-e2,DQ]
theorem Mg{fn:Nat}{args:List AV}{r:R}(hc:Con P fn args r)(hr:r.flatB=true){vs:Array Value}(hvs:CS (fun k=>k<w.heap.size) w vs args):Calls P fn vs w fun e w'=>e=.returned r.val/\Below w.heap.size w w':=
 (hc _ vs w (fun _ h=>h) hvs).mono fun _ _ ⟨u,_,bs,he,hd,_,_,_,hb⟩=>⟨by rw[he,nN r u bs hr hd],hb⟩
end Go.Sx
namespace Go.Sx
open Go
variable {P:Program}
variable {env:List AV}
theorem NZ{p:Nat->Prop}(h:∃n,p n):∃n,p n/\∀k,p k->n<=k:=by
 obtain⟨n,hn⟩:=h;induction n using Nat.strongRecOn with
 | _ n ih=>
  by_cases h:∃m,m<n/\p m
  ·obtain⟨m,hm,hp⟩:=h
   exact ih m hm hp
  ·exact⟨n,hn,fun k hk=>Nat.not_lt.1 fun hl=>h ⟨k,hl,hk⟩⟩
open Classical in
noncomputable def mp (p:Nat->Prop):Nat:=if h:∃n,p n then(NZ h).choose else 0
theorem lS{p:Nat->Prop}(h:∃n,p n):p (mp p)/\∀k,p k->mp p<=k:=by
 unfold mp;rw[dif_pos h];exact(NZ h).choose_spec
theorem T.den_mono{Post:R->Prop}:∀(t:T) {env:List AV} {K K':Nat->List AV->Prop},t.den P Post env K->(∀l us,K l us->K' l us)->t.den P Post env K':=by
 intro t;induction t with
 |stop _ _=>intro env K K' h _;exact h
 |ret x=>intro env K K' h _;exact h
 |need e t ih=>intro env K K' h hK;exact⟨h.1,ih h.2 hK⟩
 |br e a b iha ihb=>intro env K K' h hK;exact⟨fun hb=>iha (h.1 hb) hK,fun hb=>ihb (h.2 hb) hK⟩
 |call f args sh t ih=>intro env K K' h hK;obtain⟨r,h1,h2,h3⟩:=h;exact⟨r,h1,h2,ih h3 hK⟩
 |loop lvl inits sorts key locs t ih=>
  intro env K K' h hK;obtain⟨I,μ,h1,h2⟩:=h;refine⟨I,μ,h1,fun vs hv hI=>ih (h2 vs hv hI) fun l us hu=>?_⟩
  unfold upd at hu⊢
  by_cases e:l=lvl
  ·rw[if_pos e]at hu⊢;exact hu
  ·rw[if_neg e]at hu⊢;exact hK _ _ hu
 |again lvl es=>intro env K K' h hK;exact hK _ _ h
 |ext f ks vs t ih=>intro env K K' h hK;exact⟨h.1,ih h.2 hK⟩
theorem T.den_loop{Post:R->Prop}{σ:Type}{K:Nat->List AV->Prop}{lvl:Nat}{inits:E}{sorts:List Ty}{key:Nat×Nat×Nat}{locs:List Loc}{t:T}(enc:σ->List AV)(Inv:σ->Prop)(m:σ->Nat)(s0:σ)
  (h0:fk sorts (Sx.den env inits).g=enc s0) (hI:Inv s0)
  (hr:∀s,Inv s->t.den P Post (env++enc s) (upd K lvl fun us=>∃s',fk sorts us=enc s'/\Inv s'/\m s'<m s)):(T.loop lvl inits sorts key locs t).den P Post env K:=by
 refine⟨fun vs=>∃s,vs=enc s/\Inv s,fun vs=>mp fun k=>∃s,vs=enc s/\Inv s/\m s=k,⟨s0,h0,hI⟩,fun vs _ ⟨s,hs,hi⟩=>?_⟩
 obtain⟨⟨s1,e1,i1,k1⟩,_⟩:=lS (p:=fun k=>∃s,vs=enc s/\Inv s/\m s=k) ⟨m s,s,hs,hi,rfl⟩
 obtain⟨L,hL⟩:∃L,L=mp fun k=>∃s,vs=enc s/\Inv s/\m s=k:=⟨_,rfl⟩
 dsimp only;rw[<-hL]at k1⊢
 subst e1;refine T.den_mono t (hr s1 i1) fun l us h=>?_
 unfold upd at h⊢
 by_cases e:l=lvl
 ·rw[if_pos e]at h⊢
  obtain⟨s',a,b,c⟩:=h;refine⟨⟨s',a,b⟩,?_⟩
  exact Nat.lt_of_le_of_lt ((lS (p:=fun k=>∃s,fk sorts us=enc s/\Inv s/\m s=k) ⟨m s',s',a,b,rfl⟩).2 _ ⟨s',a,b,rfl⟩) (Nat.lt_of_lt_of_eq c k1)
 ·rw[if_neg e]at h⊢;exact h
abbrev Lv:=List (List AV)
abbrev cA(l:Lv)(i:Int)(k:Nat):AV:=(l.getD i.toNat []).getD k (.int 0)
abbrev cI(l:Lv)(i:Int)(k:Nat):Int:=(cA l i k).i
abbrev cB(l:Lv)(i:Int)(k:Nat):Bool:=(cA l i k).b
abbrev cR(l:Lv)(i:Int)(k:Nat):Value:=(cA l i k).r
abbrev cL(l:Lv)(i:Int)(k:Nat):Lv:=(cA l i k).l
def aB(a b:Int):Int:=if b<a then b else a
def aL(a b:Int):Int:=if a<b then b else a
def ab{σ α:Type}(step:(σ->Option α)->σ->Option α):Nat->σ->Option α
 |0,_=>none
 |n+1,s=>step (ab step n) s
variable {P:Program}
noncomputable section
def Ty.sem(t:Ty):Type:=Ty.rec (motive:=fun _=>Type) Int Bool Value (fun _ _=>List (List AV)) AV (fun _ _ _ _=>AV) t
def Ty.enc(t:Ty):AV->t.sem:=Ty.rec (motive:=fun t=>AV->Ty.sem t) AV.i AV.b AV.r (fun _ _=>AV.l) (fun x=>x) (fun _ _ _ _ x=>x) t
def Ty.dec(t:Ty):t.sem->AV:=Ty.rec (motive:=fun t=>Ty.sem t->AV) AV.int AV.bool AV.raw (fun r _=>AV.sl r) (fun x=>x) (fun _ _ _ _ x=>x) t
theorem JR(t:Ty)(x:AV):t.dec (t.enc x)=co t x:=by cases t<;>rfl
def be(ts:List Ty):Type:=List.rec (motive:=fun _=>Type) Unit (fun a l ih=>List.rec (motive:=fun _=>Type) a.sem (fun _ _ _=>a.sem×ih) l) ts
def hdX(xs:List AV):AV:=List.rec (motive:=fun _=>AV) (.int 0) (fun x _ _=>x) xs
def tlX(xs:List AV):List AV:=List.rec (motive:=fun _=>List AV) [] (fun _ l _=>l) xs
def eV(ts:List Ty):List AV->be ts:=
 List.rec (motive:=fun ts=>List AV->be ts) (fun _=>()) (fun a l=>List.rec (motive:=fun l=>(List AV->be l)->List AV->be (a::l)) (fun _ xs=>a.enc (hdX xs)) (fun _ _ _ ih xs=>(a.enc (hdX xs),ih (tlX xs))) l) ts
def gT(ts:List Ty):be ts->List AV:=
 List.rec (motive:=fun ts=>be ts->List AV) (fun _=>[]) (fun a l=>List.rec (motive:=fun l=>(be l->List AV)->be (a::l)->List AV) (fun _ s=>[a.dec s]) (fun _ _ _ ih s=>a.dec s.1::ih s.2) l) ts
theorem uY:∀(ts:List Ty) (xs:List AV),xs.length=ts.length->gT ts (eV ts xs)=fk ts xs
 |[],[],_=>rfl
 |[],_::_,h=>by simp at h
 |_::_,[],h=>by simp at h
 |[t],[x],_=>by show[t.dec (t.enc x)]=[co t x];rw[JR]
 |[_],_::_::_,h=>by simp at h
 |t::b::ts,x::xs,h=>by
  show t.dec (t.enc x)::gT (b::ts) (eV (b::ts) xs)=co t x::fk (b::ts) xs
  rw[JR,uY (b::ts) xs (by simpa using h)]
theorem DL{ts:List Ty}{xs:List AV}(h:xs.map AV.ty=ts):gT ts (eV ts xs)=xs:=by
 rw[uY ts xs (by rw[<-h,List.length_map]),vJ ts xs h]
def RS.tys(sh:RS):List Ty:=RS.rec (motive:=fun _=>List Ty) [.int] [.bool] [.raw] (fun _ t=>[.sl t]) [] (fun _ _ a b=>a++b) (fun _ a=>a) (fun _ a=>a) sh
theorem LO(r:R):r.leaves.map AV.ty=r.shape.tys:=by
 induction r with
 |cons x y a b=>show(x.leaves++y.leaves).map AV.ty=x.shape.tys++y.shape.tys;rw[List.map_append,a,b]
 |agg x a=>exact a
 |tup x a=>exact a
 |_=>rfl
def rmk(sh:RS):List AV->R×List AV:=
 RS.rec (motive:=fun _=>List AV->R×List AV) (fun xs=>(.i (hdX xs).i,tlX xs)) (fun xs=>(.b (hdX xs).b,tlX xs)) (fun xs=>(.r (hdX xs).r,tlX xs)) (fun e t xs=>(.row e t (hdX xs).l,tlX xs)) (fun xs=>(.nil,xs))
  (fun _ _ a b xs=>(.cons (a xs).1 (b (a xs).2).1,(b (a xs).2).2)) (fun _ a xs=>(.agg (a xs).1,(a xs).2)) (fun _ a xs=>(.tup (a xs).1,(a xs).2)) sh
theorem KK(r:R):∀rest,rmk r.shape (r.leaves++rest)=(r,rest):=by
 induction r with
 |cons x y a b=>
  intro rest;have h1:=a (y.leaves++rest);have h2:=b rest;show((R.cons (rmk x.shape (x.leaves++y.leaves++rest)).1 (rmk y.shape (rmk x.shape (x.leaves++y.leaves++rest)).2).1,(rmk y.shape (rmk x.shape (x.leaves++y.leaves++rest)).2).2):R×List AV)=_
  rw[List.append_assoc,h1,h2]
 |agg x a=>intro rest;show((R.agg (rmk x.shape (x.leaves++rest)).1,(rmk x.shape (x.leaves++rest)).2):R×List AV)=_;rw[a]
 |tup x a=>intro rest;show((R.tup (rmk x.shape (x.leaves++rest)).1,(rmk x.shape (x.leaves++rest)).2):R×List AV)=_;rw[a]
 |_=>intro rest;rfl
theorem GJ(sh:RS):∀xs:List AV,sh.tys.length<=xs.length->(rmk sh xs).1.shape=sh/\(rmk sh xs).2=xs.drop sh.tys.length/\(rmk sh xs).1.leaves=fk sh.tys xs:=by
 induction sh with
 | cons x y a b=>
  intro xs h;have hl:(RS.cons x y).tys=x.tys++y.tys:=rfl
  rw[hl,List.length_append]at h;obtain⟨a1,a2,a3⟩:=a xs (by omega)
  obtain⟨b1,b2,b3⟩:=b (xs.drop x.tys.length) (by rw[List.length_drop];omega)
  have e:rmk (.cons x y) xs=(R.cons (rmk x xs).1 (rmk y (rmk x xs).2).1,(rmk y (rmk x xs).2).2):=rfl
  rw[e,a2,hl];refine⟨by show RS.cons _ _=_;rw[a1,b1],by rw[b2,List.drop_drop,List.length_append],?_⟩
  show(rmk x xs).1.leaves++(rmk y (xs.drop x.tys.length)).1.leaves=_
  rw[a3,b3];unfold fk;conv=>rhs;rw[<-List.take_append_drop x.tys.length xs]
  rw[List.zipWith_append (by rw[List.length_take];omega)]
  congr 1
  have:∀(ts:List Ty) (xs:List AV),List.zipWith co ts xs=List.zipWith co ts (xs.take ts.length):=by
   intro ts;induction ts with
   |nil=>intro xs;rfl
   |cons t ts ih=>intro xs;cases xs with
    |nil=>rfl
    |cons z zs=>simp[ih zs]
  exact this _ _
 |agg x a=>intro xs h;obtain⟨a1,a2,a3⟩:=a xs h;exact⟨congrArg RS.agg a1,a2,a3⟩
 |tup x a=>intro xs h;obtain⟨a1,a2,a3⟩:=a xs h;exact⟨congrArg RS.tup a1,a2,a3⟩
 |nil=>intro xs _;exact⟨rfl,rfl,by cases xs<;>rfl⟩
 |_=>
  intro xs h;cases xs with
  |nil=>exact absurd h (by simp[RS.tys])
  |cons x xs=>exact⟨rfl,rfl,rfl⟩
def nU(sh:RS)(z:be sh.tys):R:=(rmk sh (gT sh.tys z)).1
theorem AO:∀(ts:List Ty) (z:be ts),(gT ts z).length=ts.length
 |[],_=>rfl
 |[_],_=>rfl
 |_::b::ts,z=>by show(_::gT (b::ts) z.2).length=_;rw[List.length_cons,AO (b::ts) z.2];rfl
theorem LD(t:Ty)(s:t.sem):co t (t.dec s)=t.dec s:=by cases t<;>rfl
theorem cg2{α β γ:Type}(f:α->β->γ){a a':α}{b b':β}(h1:a=a')(h2:b=b'):f a b=f a' b':=by subst h1 h2;rfl
theorem Er:∀(ts:List Ty) (z:be ts),fk ts (gT ts z)=gT ts z
 |[],_=>rfl
 |[t],z=>congrArg (fun x=>[x]) (LD t z)
 |t::b::ts,z=>cg2 List.cons (LD t z.1) (Er (b::ts) z.2)
theorem Kd(sh:RS)(z:be sh.tys):(nU sh z).shape=sh:=(GJ sh _ (by rw[AO];exact Nat.le_refl _)).1
theorem Jt(sh:RS)(z:be sh.tys):(nU sh z).leaves=gT sh.tys z:=by
 unfold nU;rw[(GJ sh _ (by rw[AO];exact Nat.le_refl _)).2.2,Er]
theorem M2{r:R}{sh:RS}(h:r.shape=sh):nU sh (eV sh.tys r.leaves)=r:=by
 subst h;unfold nU;rw[DL (LO r)];have:=KK r []
 rw[List.append_nil]at this;rw[this]
def Ty.eqb(t:Ty):Ty->Bool:=
 Ty.rec (motive:=fun _=>Ty->Bool) (fun u=>Ty.rec (motive:=fun _=>Bool) true false false (fun _ _=>false) false (fun _ _ _ _=>false) u) (fun u=>Ty.rec (motive:=fun _=>Bool) false true false (fun _ _=>false) false (fun _ _ _ _=>false) u)
  (fun u=>Ty.rec (motive:=fun _=>Bool) false false true (fun _ _=>false) false (fun _ _ _ _=>false) u) (fun _ ih u=>Ty.rec (motive:=fun _=>Bool) false false false (fun r _=>ih r) false (fun _ _ _ _=>false) u)
  (fun u=>Ty.rec (motive:=fun _=>Bool) false false false (fun _ _=>false) true (fun _ _ _ _=>false) u) (fun _ _ ih1 ih2 u=>Ty.rec (motive:=fun _=>Bool) false false false (fun _ _=>false) false (fun a b _ _=>and (ih1 a) (ih2 b)) u) t
theorem Ty.eqb_eq{t:Ty}:∀ {u:Ty},t.eqb u=true->t=u:=by
 induction t with
 |sl r ih=>intro u h;cases u<;>first|exact absurd h (by decide)|(rw[ih (show Ty.eqb r _=true from h)])|cases h
 | cons a b ih1 ih2=>
  intro u h;cases u with
  |cons c d=>
   have h:(Ty.eqb a c&&Ty.eqb b d)=true:=h
   rw[Bool.and_eq_true]at h;rw[ih1 h.1,ih2 h.2]
  |_=>cases h
 |_=>intro u h;cases u<;>first|rfl|cases h
def te(ts:List Ty):List Ty->Bool:=
 List.rec (motive:=fun _=>List Ty->Bool) (fun us=>List.rec (motive:=fun _=>Bool) true (fun _ _ _=>false) us) (fun t _ ih us=>List.rec (motive:=fun _=>Bool) false (fun u us _=>and (t.eqb u) (ih us)) us) ts
theorem DU:∀ {ts us:List Ty},te ts us=true->ts=us
 |[],[],_=>rfl
 |[],_::_,h=>by cases h
 |_::_,[],h=>by cases h
 |t::ts,u::us,h=>by
  have h:(Ty.eqb t u&&te ts us)=true:=h
  rw[Bool.and_eq_true]at h;rw[Ty.eqb_eq h.1,DU h.2]
def RS.eqb(t:RS):RS->Bool:=
 RS.rec (motive:=fun _=>RS->Bool)
  (fun u=>RS.rec (motive:=fun _=>Bool) true false false (fun _ _=>false) false (fun _ _ _ _=>false) (fun _ _=>false) (fun _ _=>false) u)
  (fun u=>RS.rec (motive:=fun _=>Bool) false true false (fun _ _=>false) false (fun _ _ _ _=>false) (fun _ _=>false) (fun _ _=>false) u)
  (fun u=>RS.rec (motive:=fun _=>Bool) false false true (fun _ _=>false) false (fun _ _ _ _=>false) (fun _ _=>false) (fun _ _=>false) u)
  (fun e t u=>RS.rec (motive:=fun _=>Bool) false false false (fun e' t'=>and (Nat.beq e e') (t.eqb t')) false (fun _ _ _ _=>false) (fun _ _=>false) (fun _ _=>false) u)
  (fun u=>RS.rec (motive:=fun _=>Bool) false false false (fun _ _=>false) true (fun _ _ _ _=>false) (fun _ _=>false) (fun _ _=>false) u)
  (fun _ _ ih1 ih2 u=>RS.rec (motive:=fun _=>Bool) false false false (fun _ _=>false) false (fun a b _ _=>and (ih1 a) (ih2 b)) (fun _ _=>false) (fun _ _=>false) u)
  (fun _ ih u=>RS.rec (motive:=fun _=>Bool) false false false (fun _ _=>false) false (fun _ _ _ _=>false) (fun a _=>ih a) (fun _ _=>false) u)
  (fun _ ih u=>RS.rec (motive:=fun _=>Bool) false false false (fun _ _=>false) false (fun _ _ _ _=>false) (fun _ _=>false) (fun a _=>ih a) u) t
theorem RS.eqb_eq{t:RS}:∀ {u:RS},t.eqb u=true->t=u:=by
 induction t with
 | row e t=>
  intro u h;cases u with
  |row e' t'=>
   have h:(Nat.beq e e'&&Ty.eqb t t')=true:=h
   rw[Bool.and_eq_true]at h;rw[Nat.eq_of_beq_eq_true h.1,Ty.eqb_eq h.2]
  |_=>cases h
 | cons a b ih1 ih2=>
  intro u h;cases u with
  |cons c d=>
   have h:(RS.eqb a c&&RS.eqb b d)=true:=h
   rw[Bool.and_eq_true]at h;rw[ih1 h.1,ih2 h.2]
  |_=>cases h
 |agg a ih=>intro u h;cases u with
  |agg b=>rw[ih (show RS.eqb a b=true from h)]
  |_=>cases h
 |tup a ih=>intro u h;cases u with
  |tup b=>rw[ih (show RS.eqb a b=true from h)]
  |_=>cases h
 |_=>intro u h;cases u<;>first|rfl|cases h
structure EvX where
 a:AV
 i:Int
 b:Bool
 r:Value
 l:List (List AV)
 g:List AV
 n:Int
def evX(env:List AV)(e:E):EvX:=
 E.rec (motive:=fun _=>EvX)
  (fun i=>⟨iG (.int 0) env i,(iG (.int 0) env i).i,(iG (.int 0) env i).b,(iG (.int 0) env i).r,(iG (.int 0) env i).l,(iG (.int 0) env i).g,(iG (.int 0) env i).num⟩)
  (fun n=>⟨.int n,n,false,undef,[],[],n⟩)
  (fun b=>⟨.bool b,0,b,undef,[],[],0⟩)
  (fun s=>⟨.raw (Gc s),0,false,Gc s,[],[],0⟩)
  (fun k n=>⟨.raw (.int k n),0,false,.int k n,[],[],n⟩)
  (fun o _ _ x y=>IOp.rec (motive:=fun _=>EvX) ⟨.int (x.i+y.i),x.i+y.i,false,undef,[],[],x.i+y.i⟩ ⟨.int (x.i-y.i),x.i-y.i,false,undef,[],[],x.i-y.i⟩ ⟨.int (x.i*y.i),x.i*y.i,false,undef,[],[],x.i*y.i⟩
   ⟨.int (Int.tdiv x.i y.i),Int.tdiv x.i y.i,false,undef,[],[],Int.tdiv x.i y.i⟩ ⟨.int (Int.tmod x.i y.i),Int.tmod x.i y.i,false,undef,[],[],Int.tmod x.i y.i⟩ ⟨.int (aB x.i y.i),aB x.i y.i,false,undef,[],[],aB x.i y.i⟩ ⟨.int (aL x.i y.i),aL x.i y.i,false,undef,[],[],aL x.i y.i⟩
   ⟨.int (IOp.f .and x.i y.i),IOp.f .and x.i y.i,false,undef,[],[],IOp.f .and x.i y.i⟩ ⟨.int (IOp.f .or x.i y.i),IOp.f .or x.i y.i,false,undef,[],[],IOp.f .or x.i y.i⟩ ⟨.int (IOp.f .xor x.i y.i),IOp.f .xor x.i y.i,false,undef,[],[],IOp.f .xor x.i y.i⟩
   ⟨.int (IOp.f .andNot x.i y.i),IOp.f .andNot x.i y.i,false,undef,[],[],IOp.f .andNot x.i y.i⟩ ⟨.int (IOp.f .shl x.i y.i),IOp.f .shl x.i y.i,false,undef,[],[],IOp.f .shl x.i y.i⟩ ⟨.int (IOp.f .shr x.i y.i),IOp.f .shr x.i y.i,false,undef,[],[],IOp.f .shr x.i y.i⟩ o)
  (fun o _ _ x y=>COp.rec (motive:=fun _=>EvX) ⟨.bool (decide (x.i<y.i)),0,decide (x.i<y.i),undef,[],[],0⟩ ⟨.bool (decide (x.i<=y.i)),0,decide (x.i<=y.i),undef,[],[],0⟩ ⟨.bool (decide (x.i=y.i)),0,decide (x.i=y.i),undef,[],[],0⟩ o)
  (fun _ x=>⟨.bool (!x.b),0,!x.b,undef,[],[],0⟩)
  (fun _ _ x y=>⟨.bool (x.b==y.b),0,x.b==y.b,undef,[],[],0⟩)
  (fun _ _ x y=>⟨.bool (x.b&&y.b),0,x.b&&y.b,undef,[],[],0⟩)
  (fun _ _ x y=>⟨.bool ((AV.raw x.r).s==(AV.raw y.r).s),0,(AV.raw x.r).s==(AV.raw y.r).s,undef,[],[],0⟩)
  (fun _ x=>⟨.int (x.l.length:Int),(x.l.length:Int),false,undef,[],[],(x.l.length:Int)⟩)
  (fun _ x=>⟨.int ((AV.raw x.r).s.length:Int),((AV.raw x.r).s.length:Int),false,undef,[],[],((AV.raw x.r).s.length:Int)⟩)
  (fun _ _ k x y=>⟨cA x.l y.i k,cI x.l y.i k,cB x.l y.i k,cR x.l y.i k,cL x.l y.i k,(cA x.l y.i k).g,(cA x.l y.i k).num⟩)
  ⟨.agg [],0,false,undef,[],[],0⟩
  (fun _ _ x y=>⟨.agg (x.a::y.g),0,false,undef,[],x.a::y.g,0⟩)
  ⟨.sl .nil [],0,false,undef,[],[],0⟩
  (fun _ _ x y=>⟨.sl .nil (x.l++[y.g]),0,false,undef,x.l++[y.g],[],0⟩)
  (fun _ _ x y=>⟨.sl .nil (x.l++y.l),0,false,undef,x.l++y.l,[],0⟩)
  (fun _ _ x y=>⟨.sl .nil (List.take y.i.toNat x.l),0,false,undef,List.take y.i.toNat x.l,[],0⟩)
  (fun _ _ x y=>⟨.sl .nil (List.drop y.i.toNat x.l),0,false,undef,List.drop y.i.toNat x.l,[],0⟩)
  (fun _ _ k _ x y z=>⟨.sl .nil (List.modify x.l y.i.toNat (fun r=>r.set k z.a)),0,false,undef,List.modify x.l y.i.toNat (fun r=>r.set k z.a),[],0⟩)
  (fun _ _ x y=>⟨.sl .nil (List.replicate x.i.toNat y.g),0,false,undef,List.replicate x.i.toNat y.g,[],0⟩)
  (fun t _ x=>⟨.sl t x.l,0,false,undef,x.l,[],0⟩)
  (fun _ _ x y=>⟨.sl .nil (List.take x.l.length y.l++List.drop y.l.length x.l),0,false,undef,List.take x.l.length y.l++List.drop y.l.length x.l,[],0⟩)
  (fun t _ x=>Ty.rec (motive:=fun _=>EvX) ⟨.int x.i,x.i,false,undef,[],[],x.i⟩ ⟨.bool x.b,0,x.b,undef,[],[],0⟩ ⟨.raw x.r,0,false,x.r,[],[],(AV.raw x.r).num⟩ (fun r _=>⟨.sl r x.l,0,false,undef,x.l,[],0⟩) x (fun _ _ _ _=>x) t)
  (fun k _ x=>⟨.raw (.int k (k.wrap x.n)),0,false,.int k (k.wrap x.n),[],[],k.wrap x.n⟩)
  (fun _ x=>⟨.int (IntKind.wrap .i64 x.n),IntKind.wrap .i64 x.n,false,undef,[],[],IntKind.wrap .i64 x.n⟩)
  (fun o k _ _ x y=>⟨.raw (.int k (jh o k x.n y.n)),0,false,.int k (jh o k x.n y.n),[],[],jh o k x.n y.n⟩)
  (fun o _ _ x y=>COp.rec (motive:=fun _=>EvX) ⟨.bool (decide (x.n<y.n)),0,decide (x.n<y.n),undef,[],[],0⟩ ⟨.bool (decide (x.n<=y.n)),0,decide (x.n<=y.n),undef,[],[],0⟩ ⟨.bool (decide (x.n=y.n)),0,decide (x.n=y.n),undef,[],[],0⟩ o)
  (fun _ _ x y=>⟨.int (bP y.g x.l),bP y.g x.l,false,undef,[],[],bP y.g x.l⟩)
  (fun _ _ x y=>⟨.bool (du y.g x.l),0,du y.g x.l,undef,[],[],0⟩)
  (fun _ _ _ x y z=>⟨.sl .nil (ew y.g z.a x.l),0,false,undef,ew y.g z.a x.l,[],0⟩) e
def EvX.ok(x:EvX)(y:AV):Prop:=x.a=y/\x.i=y.i/\x.b=y.b/\x.r=y.r/\x.l=y.l/\x.g=y.g/\x.n=y.num
theorem dr{a b:Int}(h:a=b):EvX.ok ⟨.int a,a,false,undef,[],[],a⟩ (.int b):=by subst h;exact⟨rfl,rfl,rfl,rfl,rfl,rfl,rfl⟩
theorem Pm{a b:AV}(h:a=b):EvX.ok ⟨a,a.i,a.b,a.r,a.l,a.g,a.num⟩ b:=by subst h;exact⟨rfl,rfl,rfl,rfl,rfl,rfl,rfl⟩
theorem eF{a b:Bool}(h:a=b):EvX.ok ⟨.bool a,0,a,undef,[],[],0⟩ (.bool b):=by subst h;exact⟨rfl,rfl,rfl,rfl,rfl,rfl,rfl⟩
theorem xH{a b:Value}(h:a=b):EvX.ok ⟨.raw a,0,false,a,[],[],(AV.raw a).num⟩ (.raw b):=by subst h;exact⟨rfl,rfl,rfl,rfl,rfl,rfl,rfl⟩
theorem lf{t:Ty}{a b:List (List AV)}(h:a=b):EvX.ok ⟨.sl t a,0,false,undef,a,[],0⟩ (.sl t b):=by subst h;exact⟨rfl,rfl,rfl,rfl,rfl,rfl,rfl⟩
theorem Lr{a b:List AV}(h:a=b):EvX.ok ⟨.agg a,0,false,undef,[],a,0⟩ (.agg b):=by subst h;exact⟨rfl,rfl,rfl,rfl,rfl,rfl,rfl⟩
section
variable {x:EvX} {y:AV} (h:x.ok y)
include h
theorem EvX.ok.A:x.a=y:=h.1
theorem EvX.ok.I:x.i=y.i:=h.2.1
theorem EvX.ok.B:x.b=y.b:=h.2.2.1
theorem EvX.ok.R:x.r=y.r:=h.2.2.2.1
theorem EvX.ok.L:x.l=y.l:=h.2.2.2.2.1
theorem EvX.ok.G:x.g=y.g:=h.2.2.2.2.2.1
theorem EvX.ok.N:x.n=y.num:=h.2.2.2.2.2.2
end
theorem lc(env:List AV)(e:E):(evX env e).ok (den env e):=by
 induction e with
 |v i=>refine⟨?_,?_,?_,?_,?_,?_,?_⟩<;>simp only[evX,den,jr]
 |int n=>exact dr rfl
 |bool n=>exact eF rfl
 |str n=>exact xH rfl
 |oint k n=>exact xH rfl
 |ii o a b iha ihb=>
  have h:=fun o=>cg2 (IOp.f o) iha.I ihb.I
  cases o with
  |add=>exact dr (h .add)
  |sub=>exact dr (h .sub)
  |mul=>exact dr (h .mul)
  |quo=>exact dr (h .quo)
  |rem=>exact dr (h .rem)
  |min=>exact dr (h .min)
  |max=>exact dr (h .max)
  |and=>exact dr (h .and)
  |or=>exact dr (h .or)
  |xor=>exact dr (h .xor)
  |andNot=>exact dr (h .andNot)
  |shl=>exact dr (h .shl)
  |shr=>exact dr (h .shr)
 |cmp o a b iha ihb=>
  have h:=fun o=>cg2 (COp.f o) iha.I ihb.I
  cases o with
  |lt=>exact eF (h .lt)
  |le=>exact eF (h .le)
  |eq=>exact eF (h .eq)
 |not a ih=>have h:=congrArg not ih.B;exact eF h
 |beq a b iha ihb=>have h:=cg2 BEq.beq iha.B ihb.B;exact eF h
 |and a b iha ihb=>have h:=cg2 and iha.B ihb.B;exact eF h
 |seq a b iha ihb=>have h:=cg2 (fun x y=>(AV.raw x).s==(AV.raw y).s) iha.R ihb.R;exact eF h
 |len a ih=>have h:=congrArg (fun l=>((List.length l:Nat):Int)) ih.L;exact dr h
 |slen a ih=>have h:=congrArg (fun x=>(((AV.raw x).s.length:Nat):Int)) ih.R;exact dr h
 |cell a b k iha ihb=>have h:=cg2 (fun x y=>cA x y k) iha.L ihb.I;exact Pm h
 |rnil=>exact Lr rfl
 |rcons a b iha ihb=>have h:=cg2 List.cons iha.A ihb.G;exact Lr h
 |lnil=>exact lf rfl
 |snoc a b iha ihb=>have h:=cg2 (fun x y=>x++[y]) iha.L ihb.G;exact lf h
 |app a b iha ihb=>have h:=cg2 (fun x y=>x++y) iha.L ihb.L;exact lf h
 |take a b iha ihb=>have h:=cg2 (fun x y=>List.take (Int.toNat y) x) iha.L ihb.I;exact lf h
 |drop a b iha ihb=>have h:=cg2 (fun x y=>List.drop (Int.toNat y) x) iha.L ihb.I;exact lf h
 |set a b k c iha ihb ihc=>have h:=cg2 (fun(p:List (List AV)×Int) z=>List.modify p.1 (Int.toNat p.2) fun r=>List.set r k z) (cg2 Prod.mk iha.L ihb.I) ihc.A;exact lf h
 |rep a b iha ihb=>have h:=cg2 (fun x y=>List.replicate (Int.toNat x) y) iha.I ihb.G;exact lf h
 |typed t a ih=>exact lf ih.L
 |cpy a b iha ihb=>have h:=cg2 (fun x y=>List.take (List.length x) y++List.drop (List.length y) x) iha.L ihb.L;exact lf h
 |co t a ih=>
  cases t with
  |int=>exact dr ih.I
  |bool=>exact eF ih.B
  |raw=>exact xH ih.R
  |sl r=>exact lf ih.L
  |nil=>exact ih
  |cons x y=>exact ih
 |kin k a ih=>have h:=congrArg (fun x=>Value.int k (k.wrap x)) ih.N;exact xH h
 |kout a ih=>have h:=congrArg (IntKind.wrap .i64) ih.N;exact dr h
 |kop o k a b iha ihb=>have h:=cg2 (fun x y=>Value.int k (jh o k x y)) iha.N ihb.N;exact xH h
 |kcmp o a b iha ihb=>
  have h:=fun o=>cg2 (COp.f o) iha.N ihb.N
  cases o with
  |lt=>exact eF (h .lt)
  |le=>exact eF (h .le)
  |eq=>exact eF (h .eq)
 |mget a b iha ihb=>have h:=cg2 bP ihb.G iha.L;exact dr h
 |mhas a b iha ihb=>have h:=cg2 du ihb.G iha.L;exact eF h
 |mput a b c iha ihb ihc=>have h:=cg2 (fun(p:List AV×AV) z=>ew p.1 p.2 z) (cg2 Prod.mk ihb.G ihc.A) iha.L;exact lf h
def reL(env:List AV)(x:RE):List AV:=RE.rec (motive:=fun _=>List AV) (fun e=>[.int (evX env e).i]) (fun e=>[.bool (evX env e).b]) (fun e=>[.raw (evX env e).r]) (fun _ t e=>[.sl t (evX env e).l]) [] (fun _ _ a b=>a++b) (fun _ a=>a) (fun _ a=>a) x
def reS(x:RE):RS:=RE.rec (motive:=fun _=>RS) (fun _=>.i) (fun _=>.b) (fun _=>.r) (fun e t _=>.row e t) .nil (fun _ _ a b=>.cons a b) (fun _ a=>.agg a) (fun _ a=>.tup a) x
theorem O2(env:List AV)(x:RE):reL env x=(x.den env).leaves:=by
 induction x with
 |i e=>show[AV.int _]=[AV.int _];rw[(lc env e).2.1]
 |b e=>show[AV.bool _]=[AV.bool _];rw[(lc env e).2.2.1]
 |r e=>show[AV.raw _]=[AV.raw _];rw[(lc env e).2.2.2.1]
 |row a t e=>show[AV.sl _ _]=[AV.sl _ _];rw[(lc env e).2.2.2.2.1]
 |nil=>rfl
 |cons x y a b=>show reL env x++reL env y=_++_;rw[a,b]
 |agg x a=>exact a
 |tup x a=>exact a
theorem O7(env:List AV)(x:RE):reS x=(x.den env).shape:=by
 induction x with
 |cons x y a b=>show RS.cons (reS x) (reS y)=.cons _ _;rw[a,b]
 |agg x a=>show RS.agg (reS x)=.agg _;rw[a]
 |tup x a=>show RS.tup (reS x)=.tup _;rw[a]
 |_=>rfl
abbrev Ps:=List (Bool×List Ty)
def Ps.tys(ps:Ps):List Ty:=List.rec (motive:=fun _=>List Ty) [] (fun p _ ih=>p.2++ih) ps
def AV.aggB(ts:List Ty):AV->Bool
 |.agg l=>te (l.map AV.ty) ts
 |_=>false
def AV.oneB(ts:List Ty):AV->Bool
 |.agg _=>false
 |.int _=>te [.int] ts
 |.bool _=>te [.bool] ts
 |.raw _=>te [.raw] ts
 |.sl t _=>te [.sl t] ts
def pD(ps:Ps):List AV->Bool:=
 List.rec (motive:=fun _=>List AV->Bool) (fun xs=>List.rec (motive:=fun _=>Bool) true (fun _ _ _=>false) xs)
  (fun p _ ih xs=>List.rec (motive:=fun _=>Bool) false (fun x xs _=>and (Bool.rec (motive:=fun _=>Bool) (x.oneB p.2) (x.aggB p.2) p.1) (ih xs)) xs) ps
def dT(xs:List AV):List AV:=List.rec (motive:=fun _=>List AV) [] (fun x _ ih=>AV.cells x++ih) xs
def Kt(ps:Ps):List AV->List AV:=List.rec (motive:=fun _=>List AV->List AV) (fun _=>[]) (fun p _ ih xs=>Bool.rec (motive:=fun _=>AV) (hdX xs) (.agg (xs.take p.2.length)) p.1::ih (xs.drop p.2.length)) ps
def Ir(ps:Ps)(s:be (Ps.tys ps)):List AV:=Kt ps (gT (Ps.tys ps) s)
theorem yV:∀(ps:Ps) (xs:List AV),pD ps xs=true->Kt ps (dT xs)=xs/\(dT xs).map AV.ty=Ps.tys ps
 |[],[],_=>⟨rfl,rfl⟩
 |[],_::_,h=>by cases h
 |_::_,[],h=>by cases h
 | (true,ts)::ps,x::xs,h=>by
  have h:(x.aggB ts&&pD ps xs)=true:=h
  rw[Bool.and_eq_true]at h;obtain⟨h1,h2⟩:=yV ps xs h.2;cases x with
  | agg l=>
   have hl:=DU h.1;have hlen:ts.length=l.length:=by rw[<-hl,List.length_map]
   constructor
   ·show AV.agg ((l++dT xs).take ts.length)::Kt ps ((l++dT xs).drop ts.length)=_
    rw[hlen,List.take_left,List.drop_left,h1]
   ·show(l++dT xs).map AV.ty=ts++Ps.tys ps
    rw[List.map_append,hl,h2]
  |_=>cases h.1
 | (false,ts)::ps,x::xs,h=>by
  have h:(x.oneB ts&&pD ps xs)=true:=h
  rw[Bool.and_eq_true]at h;obtain⟨h1,h2⟩:=yV ps xs h.2;cases x with
  |agg l=>cases h.1
  | _=>
   have hx:=DU (us:=ts) (ts:=[_]) h.1;subst hx;constructor
   ·show hdX (_::dT xs)::Kt ps (dT xs)=_
    rw[h1];rfl
   ·show _::(dT xs).map AV.ty=_::Ps.tys ps
    rw[h2];rfl
theorem HY{ps:Ps}{xs:List AV}(h:pD ps xs=true):Ir ps (eV (Ps.tys ps) (dT xs))=xs:=by
 obtain⟨h1,h2⟩:=yV ps xs h;unfold Ir;rw[DL h2,h1]
theorem El(xs:List AV):dT xs=xs.flatMap AV.cells:=by
 induction xs with
 |nil=>rfl
 |cons x xs ih=>show AV.cells x++dT xs=_;rw[ih,List.flatMap_cons]
structure FnT where
 ps:Ps
 sh:RS
 fn:Nat->be (Ps.tys ps)->Option (be sh.tys)
def FnT.ok(P:Program)(f:Nat)(F:FnT):Prop:=∀(n:Nat) (s:be (Ps.tys F.ps)) (z:be F.sh.tys),F.fn n s=some z->Con P f (Ir F.ps s) (nU F.sh z)
abbrev Tab:=List (Nat×FnT)
def Tab.ok(P:Program)(tab:Tab):Prop:=∀x∈tab,x.2.ok P x.1
abbrev MTab:=List (Nat×SV×SV)
def MTab.ok(P:Program)(mt:MTab):Prop:=∀x∈mt,Kv P x.1 x.2.1 x.2.2
def Ge{β:Type}(tab:Tab)(f:Nat)(k:FnT->Option β):Option β:=List.rec (motive:=fun _=>Option β) none (fun x _ ih=>Bool.rec (motive:=fun _=>Option β) ih (k x.2) (Nat.beq x.1 f)) tab
theorem MQ{β:Type}{tab:Tab}{f:Nat}{k:FnT->Option β}{z:β}(h:Ge tab f k=some z):∃F,(f,F)∈tab/\k F=some z:=by
 induction tab with
 |nil=>cases h
 | cons x tab ih=>
  have h:Bool.rec (motive:=fun _=>Option β) (Ge tab f k) (k x.2) (Nat.beq x.1 f)=some z:=h
  cases hb:Nat.beq x.1 f with
  |true=>
   rw[hb]at h;have:=Nat.eq_of_beq_eq_true hb
   subst this;exact⟨x.2,List.mem_cons_self ..,h⟩
  |false=>
   rw[hb]at h;obtain⟨F,h1,h2⟩:=ih h;exact⟨F,List.mem_cons_of_mem _ h1,h2⟩
def Ig(mt:MTab)(f:Nat)(ks vs:SV):Bool:=List.rec (motive:=fun _=>Bool) false (fun x _ ih=>or (and (Nat.beq x.1 f) (and (decide (x.2.1=ks)) (decide (x.2.2=vs)))) ih) mt
theorem Oq{mt:MTab}{f:Nat}{ks vs:SV}(h:Ig mt f ks vs=true):(f,ks,vs)∈mt:=by
 induction mt with
 |nil=>cases h
 | cons x mt ih=>
  have h:((Nat.beq x.1 f&&(decide (x.2.1=ks)&&decide (x.2.2=vs)))||Ig mt f ks vs)=true:=h
  rw[Bool.or_eq_true,Bool.and_eq_true,Bool.and_eq_true,decide_eq_true_iff,decide_eq_true_iff]at h;rcases h with⟨h1,h2,h3⟩|h
  ·have:=Nat.eq_of_beq_eq_true h1
   obtain⟨a,b,c⟩:=x;dsimp only at this h2 h3
   subst this h2 h3;exact List.mem_cons_self ..
  ·exact List.mem_cons_of_mem _ (ih h)
def T.fn(tab:Tab)(mt:MTab)(n:Nat)(sh:RS)(t:T):List AV->(Nat->List AV->Option (be sh.tys))->Option (be sh.tys):=
 T.rec (motive:=fun _=>List AV->(Nat->List AV->Option (be sh.tys))->Option (be sh.tys))
  (fun _ _ _ _=>none)
  (fun x env _=>Bool.rec (motive:=fun _=>Option (be sh.tys)) none (some (eV sh.tys (reL env x))) ((reS x).eqb sh))
  (fun e _ t env K=>cond (evX env e).b (t env K) none)
  (fun e _ _ a b env K=>cond (evX env e).b (a env K) (b env K))
  (fun f args sh' _ t env K=>Ge tab f fun F=>Bool.rec (motive:=fun _=>Option (be sh.tys)) none (Option.bind (F.fn n (eV (Ps.tys F.ps) (dT (evX env args).g))) fun y=>t (env++gT F.sh.tys y) K) (and (F.sh.eqb sh') (pD F.ps (evX env args).g)))
  (fun lvl inits sorts _ _ _ t env K=>Bool.rec (motive:=fun _=>Option (be sh.tys)) none (ab (σ:=be sorts) (fun go s=>t (env++gT sorts s) fun l us=>Bool.rec (motive:=fun _=>Option (be sh.tys)) (K l us) (Bool.rec (motive:=fun _=>Option (be sh.tys)) none (go (eV sorts us)) (Nat.beq us.length sorts.length)) (Nat.beq l lvl)) n (eV sorts (evX env inits).g)) (Nat.beq (evX env inits).g.length sorts.length))
  (fun lvl es env K=>K lvl (evX env es).g)
  (fun f ks vs _ t env K=>Bool.rec (motive:=fun _=>Option (be sh.tys)) none (t env K) (Ig mt f ks vs)) t
theorem T.fn_den{tab:Tab}{mt:MTab}{n:Nat}{sh:RS}(hC:tab.ok P)(hM:mt.ok P){z:be sh.tys}:∀(t:T) (env:List AV) (K:Nat->List AV->Option (be sh.tys)) (K':Nat->List AV->Prop),t.fn tab mt n sh env K=some z->(∀l us,K l us=some z->K' l us)->t.den P (·=nU sh z) env K':=by
 intro t;induction t with
 |stop _ _=>intro env K K' h _;cases h
 | ret x=>
  intro env K K' h _;have h:Bool.rec (motive:=fun _=>Option (be sh.tys)) none (some (eV sh.tys (reL env x))) ((reS x).eqb sh)=some z:=h
  cases hb:(reS x).eqb sh with
  |false=>rw[hb]at h;cases h
  |true=>
   rw[hb]at h;have h:some (eV sh.tys (reL env x))=some z:=h
   have hs:=RS.eqb_eq hb;rw[O7 env x]at hs;show x.den env=nU sh z
   rw[<-Option.some.inj h,O2,M2 hs]
 |need e t ih=>
  intro env K K' h hK;have h:cond (evX env e).b (t.fn tab mt n sh env K) none=some z:=h
  rw[(lc env e).2.2.1]at h;cases hb:(Sx.den env e).b with
  |false=>rw[hb]at h;cases h
  |true=>rw[hb]at h;exact⟨hb,ih env K K' h hK⟩
 |br e a b iha ihb=>
  intro env K K' h hK;have h:cond (evX env e).b (a.fn tab mt n sh env K) (b.fn tab mt n sh env K)=some z:=h
  rw[(lc env e).2.2.1]at h;refine⟨fun hb=>?_,fun hb=>?_⟩
  ·rw[hb]at h;exact iha env K K' h hK
  ·rw[hb]at h;exact ihb env K K' h hK
 | call f args sh' t ih=>
  intro env K K' h hK;have h:(Ge tab f fun F=>Bool.rec (motive:=fun _=>Option (be sh.tys)) none (Option.bind (F.fn n (eV (Ps.tys F.ps) (dT (evX env args).g))) fun y=>t.fn tab mt n sh (env++gT F.sh.tys y) K) (and (F.sh.eqb sh') (pD F.ps (evX env args).g)))=some z:=h
  obtain⟨F,h1,h2⟩:=MQ h;cases hb:(F.sh.eqb sh'&&pD F.ps (evX env args).g)with
  |false=>rw[show(and (F.sh.eqb sh') (pD F.ps (evX env args).g))=false from hb]at h2;cases h2
  |true=>
   rw[show(and (F.sh.eqb sh') (pD F.ps (evX env args).g))=true from hb]at h2
   obtain⟨y,hy,hz⟩:=Option.bind_eq_some_iff.1 (show Option.bind (F.fn n (eV (Ps.tys F.ps) (dT (evX env args).g))) _=some z from h2)
   rw[Bool.and_eq_true]at hb;have hs:=RS.eqb_eq hb.1;have hc:=hC _ h1 n _ y hy;dsimp only at hc
   rw[HY hb.2,(lc env args).2.2.2.2.2.1]at hc;refine⟨nU F.sh y,by rw[Kd,hs],hc,?_⟩
   rw[Jt];exact ih _ K K' hz hK
 | loop lvl inits sorts key locs t ih=>
  intro env K K' h hK;have h:Bool.rec (motive:=fun _=>Option (be sh.tys)) none (ab (σ:=be sorts) (fun go s=>t.fn tab mt n sh (env++gT sorts s) fun l us=>Bool.rec (motive:=fun _=>Option (be sh.tys)) (K l us) (Bool.rec (motive:=fun _=>Option (be sh.tys)) none (go (eV sorts us)) (Nat.beq us.length sorts.length)) (Nat.beq l lvl)) n (eV sorts (evX env inits).g)) (Nat.beq (evX env inits).g.length sorts.length)=some z:=h
  cases hl:Nat.beq (evX env inits).g.length sorts.length with
  |false=>rw[hl]at h;cases h
  | true=>
   rw[hl]at h;have h:ab (σ:=be sorts) (fun go s=>t.fn tab mt n sh (env++gT sorts s) fun l us=>Bool.rec (motive:=fun _=>Option (be sh.tys)) (K l us) (Bool.rec (motive:=fun _=>Option (be sh.tys)) none (go (eV sorts us)) (Nat.beq us.length sorts.length)) (Nat.beq l lvl)) n (eV sorts (evX env inits).g)=some z:=h
   obtain⟨step,hstep⟩:∃step,step=fun(go:be sorts->Option (be sh.tys)) (s:be sorts)=>t.fn tab mt n sh (env++gT sorts s) fun l us=>Bool.rec (motive:=fun _=>Option (be sh.tys)) (K l us) (Bool.rec (motive:=fun _=>Option (be sh.tys)) none (go (eV sorts us)) (Nat.beq us.length sorts.length)) (Nat.beq l lvl):=⟨_,rfl⟩
   rw[<-hstep]at h;refine T.den_loop (gT sorts) (fun s=>∃m,ab step m s=some z) (fun s=>mp fun m=>ab step m s=some z) (eV sorts (evX env inits).g) ?_ ⟨n,h⟩ fun s hI=>?_
   ·rw[uY _ _ (Nat.eq_of_beq_eq_true hl),(lc env inits).2.2.2.2.2.1]
   obtain⟨h1,h2⟩:=lS hI;obtain⟨m,hm⟩:∃m,m=mp fun m=>ab step m s=some z:=⟨_,rfl⟩
   rw[<-hm]at h1 h2⊢
   cases m with
   |zero=>cases h1
   | succ m=>
    have h1:step (ab step m) s=some z:=h1
    have hst:step (ab step m) s=t.fn tab mt n sh (env++gT sorts s) fun l us=>Bool.rec (motive:=fun _=>Option (be sh.tys)) (K l us) (Bool.rec (motive:=fun _=>Option (be sh.tys)) none (ab step m (eV sorts us)) (Nat.beq us.length sorts.length)) (Nat.beq l lvl):=by rw[hstep]
    rw[hst]at h1;refine ih _ _ _ h1 fun l us hu=>?_
    unfold upd;cases hb:Nat.beq l lvl with
    | true=>
     rw[hb]at hu;have:=Nat.eq_of_beq_eq_true hb
     rw[if_pos this];cases hc:Nat.beq us.length sorts.length with
     |false=>rw[hc]at hu;cases hu
     |true=>
      rw[hc]at hu;have hu:ab step m (eV sorts us)=some z:=hu
      exact⟨eV sorts us,(uY _ _ (Nat.eq_of_beq_eq_true hc)).symm,⟨m,hu⟩,Nat.lt_succ_of_le ((lS ⟨m,hu⟩).2 m hu)⟩
    |false=>
     rw[hb]at hu;have:l≠lvl:=fun e=>by subst e;rw[show Nat.beq l l=true from Nat.beq_refl l]at hb;cases hb
     rw[if_neg this];exact hK _ _ hu
 |again lvl es=>
  intro env K K' h hK;have h:K lvl (evX env es).g=some z:=h
  rw[(lc env es).2.2.2.2.2.1]at h;exact hK _ _ h
 |ext f ks vs t ih=>
  intro env K K' h hK;have h:Bool.rec (motive:=fun _=>Option (be sh.tys)) none (t.fn tab mt n sh env K) (Ig mt f ks vs)=some z:=h
  cases hb:Ig mt f ks vs with
  |false=>rw[hb]at h;cases h
  |true=>rw[hb]at h;exact⟨hM _ (Oq hb),ih env K K' h hK⟩
theorem FnT.ok_of{cfg:Cfg}{f:Nat}{F:FnT}{tab:Tab}{mt:MTab}(hfit:PFit P)(hC:tab.ok P)(hM:mt.ok P)(ho:∀s fn,P.funcs[f]?=some fn->yG P fn.params.toList (Ir F.ps s)=true)
  (h:∀n s,(Kj P cfg f).fn tab mt n F.sh (dT (Ir F.ps s)) (fun _ _=>none)=F.fn n s):F.ok P f:=fun n s z hz=>by
 rw[<-h n s]at hz;exact KU (cfg:=cfg) (K:=fun _ _=>False) hfit (ho s) (by rw[<-El];exact T.fn_den hC hM _ _ _ _ hz fun _ _ h=>by cases h)
theorem Tab.ok_nil:Tab.ok P []:=fun _ h=>by cases h
theorem Tab.ok_cons{f:Nat}{F:FnT}{tab:Tab}(h:F.ok P f)(ht:tab.ok P):Tab.ok P ((f,F)::tab):=fun x hx=>by
 rcases List.mem_cons.1 hx with rfl|hx
 ·exact h
 ·exact ht x hx
end
end Go.Sx
namespace Go.Proofs.YtbfkkigbedmhgaaGreat
open Go Go.Sx
theorem Mf:Tryz.prog.funcs.toList.all (fun fn=>fn.name != "runtime.NumGoroutine")=true:=by kernel_rfl
theorem JW:Tryz.prog.follows .mixedOrders=true:=by kernel_rfl
theorem aw:PFit Tryz.prog:=⟨JW,fun f fn h=>by
 have h1:fn∈Tryz.prog.funcs.toList:=by rw[Array.mem_toList_iff];exact Array.mem_of_getElem? h
 have h2:=List.all_eq_true.1 Mf fn h1;simpa using h2⟩
end Go.Proofs.YtbfkkigbedmhgaaGreat
set_option maxRecDepth 100000
namespace Go.Proofs.YtbfkkigbedmhgaaGreat
open Go Go.Sx
noncomputable section
def bc:List Nat:=[12,13,14,15,16,17,18,19,20,21,22,23,24,25,26,27,28,29,30,31,32,33,34,37,38,39,40,43,44,45,46,47,48,49,50,51,54,55,56,57,58,59,62,66,68,69,70,71,72,73,74,75,76,77,78,84,85,86,87,89,95,105,106,107,108,109,110,111,112,114,115,116,117,120,122,149,150,152,153,159,176,178,179,180,182,183,184,186,187,193,202,203,204,210,211,1000015,1000022,1000049,1000050,1000051,1000062,2000151,2000152,2000217,2000247,2000248,2000249]
def aj:List (Nat×SV×SV):=[(161,SV.of [.agg (SV.of [.vi (.int 1),.vi (.int 1)]),.agg (SV.of [.vi (.int 2),.vi (.int 1)]),.agg (SV.of [.vi (.int 3),.vi (.int 2)]),.agg (SV.of [.vi (.int 4),.vi (.int 2)]),.agg (SV.of [.vi (.int 5),.vi (.int 1)]),.agg (SV.of [.vi (.int 5),.vi (.int 2)]),.agg (SV.of [.vi (.int 5),.vi (.int 3)]),.agg (SV.of [.vi (.int 6),.vi (.int 4)])],SV.of [.vi (.int 3),.vi (.int 2),.vi (.int 3),.vi (.int 6),.vi (.int 7),.vi (.int 7),.vi (.int 7),.vi (.int 8)])]
def Tab0:Tab:=[]
theorem JY:Tab0.ok Tryz.prog:=Tab.ok_nil
def mt0:MTab:=[]
theorem bm:mt0.ok Tryz.prog:=fun _ h=>by cases h
abbrev xr:=Int
def xQ(n:Nat)(v0 v1:Int):Option xr:=
 (bif v0<0 then bif(-9223372036854775808<=(v0+1))&&((v0+1)<=9223372036854775807)then bif(-9223372036854775808<=(0-(v0+1)))&&((0-(v0+1))<=9223372036854775807)then bif !(v1=0)then some (Int.tmod (0-(v0+1)) v1)else none else none else none else bif !(v1=0)then some (Int.tmod v0 v1)else none)
def bp(n:Nat)(v0 v1:Int):Option xr:=xQ n v0 v1
abbrev tSh:Ty:=.sl (.cons .int (.cons .int (.cons .int (.cons .int (.cons .int (.cons .int (.cons .int (.cons .int .nil))))))))
abbrev tSg:Ty:=.sl (.cons .int (.cons .int (.cons .int (.cons .int (.cons .int (.cons .int (.cons .int .nil)))))))
abbrev tSc:Ty:=.sl (.cons .int (.cons .int (.cons .int .nil)))
abbrev tSa:Ty:=.sl (.cons .int .nil)
def ref14_pick_t:FnT:=⟨[(false,[.int]),(false,[.int])],.i,fun n (s:Int×Int)=>bp n s.1 s.2⟩
theorem ET:ref14_pick_t.ok Tryz.prog 176:=FnT.ok_of (cfg:=⟨[],bc,[],aj⟩) aw JY bm (fun s fn hf=>by rw[Tryz.func176]at hf;cases hf;kernel_rfl) (fun n s=>by kernel_rfl)
def ref14_pick_T:Tab:=(176,ref14_pick_t)::Tab0
theorem rA:ref14_pick_T.ok Tryz.prog:=Tab.ok_cons ET JY
abbrev vZ:=Bool
def wF(n:Nat)(v0 v1 v2 v3:Int):Option vZ:=
 (bif 0<=v0 then(bif !(v0<=3)then some false else(bif 0<=v2 then(bif !(v2<=1000)then some false else(bif 0<=v3 then(bif !(v3<=10000000)then some false else(bif v0=0 then some (decide (v1=(-1)))else(bif 0<=v1 then(bif v1<=63 then some (decide (0<v2))else some false)else some false)))else some false))else some false))else some false)
def mR(n:Nat)(v0 v1 v2 v3:Int):Option vZ:=wF n v0 v1 v2 v3
def ref14_Valid_t:FnT:=⟨[(true,[.int,.int,.int,.int])],.b,fun n (s:Int×Int×Int×Int)=>mR n s.1 s.2.1 s.2.2.1 s.2.2.2⟩
theorem DB:ref14_Valid_t.ok Tryz.prog 178:=FnT.ok_of (cfg:=⟨[],bc,[],aj⟩) aw rA bm (fun s fn hf=>by rw[Tryz.func178]at hf;cases hf;kernel_rfl) (fun n s=>by kernel_rfl)
def ref14_Valid_T:Tab:=(178,ref14_Valid_t)::ref14_pick_T
theorem pO:ref14_Valid_T.ok Tryz.prog:=Tab.ok_cons DB rA
abbrev tL:=Bool
def tO(n:Nat)(v0 v1 v2:Int):Option tL:=
 (bif 1<=v0 then(bif !(v0<=7)then some false else(bif 0<=v1 then(bif !(v1<=10000000)then some false else(bif v0=1 then(bif 0<=v2 then some (decide (v2<=63))else some false)else(bif v0=2 then(bif 0<=v2 then some (decide (v2<=63))else some false)else some (decide (v2=(-1))))))else some false))else some false)
def k8(n:Nat)(v0 v1 v2:Int):Option tL:=tO n v0 v1 v2
def ref14_Formed_t:FnT:=⟨[(true,[.int,.int,.int])],.b,fun n (s:Int×Int×Int)=>k8 n s.1 s.2.1 s.2.2⟩
theorem CH:ref14_Formed_t.ok Tryz.prog 179:=FnT.ok_of (cfg:=⟨[],bc,[],aj⟩) aw pO bm (fun s fn hf=>by rw[Tryz.func179]at hf;cases hf;kernel_rfl) (fun n s=>by kernel_rfl)
def ref14_Formed_T:Tab:=(179,ref14_Formed_t)::ref14_Valid_T
theorem oI:ref14_Formed_T.ok Tryz.prog:=Tab.ok_cons CH pO
abbrev qE:=Bool
def qq(n:Nat)(v0 v1 v2 v3 v4 v5 v6:Int):Option qE:=
 (bif v5<v3 then some false else(bif v4=1 then(bif v0=0 then some (decide (v2<1000))else some false)else(bif v4=2 then(bif v0=1 then(bif !(v1=v6)then some (decide (v2<1000))else some false)else some false)else(bif v4=3 then some (decide (v0=1))else(bif v4=4 then some (decide (v0=2))else(bif v4=5 then(bif v0=1 then some true else some (decide (v0=2)))else(bif v4=6 then some (decide (v0=3))else(bif v0=3 then bif(-9223372036854775808<=(v3+2592000))&&((v3+2592000)<=9223372036854775807)then some (decide ((v3+2592000)<=v5))else none else some false))))))))
def jn(n:Nat)(v0 v1 v2 v3 v4 v5 v6:Int):Option qE:=qq n v0 v1 v2 v3 v4 v5 v6
def ref14_possible_t:FnT:=⟨[(true,[.int,.int,.int,.int]),(true,[.int,.int,.int])],.b,fun n (s:Int×Int×Int×Int×Int×Int×Int)=>jn n s.1 s.2.1 s.2.2.1 s.2.2.2.1 s.2.2.2.2.1 s.2.2.2.2.2.1 s.2.2.2.2.2.2⟩
theorem zz:ref14_possible_t.ok Tryz.prog 180:=FnT.ok_of (cfg:=⟨[],bc,[],aj⟩) aw oI bm (fun s fn hf=>by rw[Tryz.func180]at hf;cases hf;kernel_rfl) (fun n s=>by kernel_rfl)
def ref14_possible_T:Tab:=(180,ref14_possible_t)::ref14_Formed_T
theorem mn:ref14_possible_T.ok Tryz.prog:=Tab.ok_cons zz oI
abbrev xy:=Int×Int×Int×Int×Int
def xd(n:Nat)(v0 v1 v2 v3 v4 v5 v6:Int):Option xy:=
 (mR n v0 v1 v2 v3).bind fun y7=>
 (bif(!y7)then some (0,0,0,0,140)else(k8 n v4 v5 v6).bind fun y8=>
 (bif(!y8)then some (0,0,0,0,140)else(jn n v0 v1 v2 v3 v4 v5 v6).bind fun y9=>
 (bif(!y9)then some (0,0,0,0,140)else(bif v4=1 then bif(-9223372036854775808<=(v2+1))&&((v2+1)<=9223372036854775807)then some (1,v6,(v2+1),v5,0)else none else(bif v4=2 then bif(-9223372036854775808<=(v2+1))&&((v2+1)<=9223372036854775807)then some (1,v6,(v2+1),v5,0)else none else(bif v4=3 then some (2,v1,v2,v5,0)else(bif v4=4 then some (1,v1,v2,v5,0)else(bif v4=6 then some (1,v1,v2,v5,0)else(bif v4=5 then some (3,v1,v2,v5,0)else some (0,(-1),v2,v5,0))))))))))
def hY(n:Nat)(v0 v1 v2 v3 v4 v5 v6:Int):Option xy:=xd n v0 v1 v2 v3 v4 v5 v6
def ref14_Step_t:FnT:=⟨[(true,[.int,.int,.int,.int]),(true,[.int,.int,.int])],(.tup (.cons (.agg (.cons .i (.cons .i (.cons .i (.cons .i .nil))))) (.cons .i .nil))),fun n (s:Int×Int×Int×Int×Int×Int×Int)=>hY n s.1 s.2.1 s.2.2.1 s.2.2.2.1 s.2.2.2.2.1 s.2.2.2.2.2.1 s.2.2.2.2.2.2⟩
theorem EM:ref14_Step_t.ok Tryz.prog 106:=FnT.ok_of (cfg:=⟨[],bc,[],aj⟩) aw mn bm (fun s fn hf=>by rw[Tryz.func106]at hf;cases hf;kernel_rfl) (fun n s=>by kernel_rfl)
def ref14_Step_T:Tab:=(106,ref14_Step_t)::ref14_possible_T
theorem rK:ref14_Step_T.ok Tryz.prog:=Tab.ok_cons EM mn
abbrev mP:=Int×Int×Int×Int×Int×Int
abbrev xC:=Int×Int×Int×Int×Int
def zV(n:Nat)(go0:xC->Option mP)(v0:Lv)(v1 v2 v3 v4 v5:Int):Option mP:=
 (bif v1<(v0.length:Int) then bif 0<=v1 then(hY n v2 v3 v4 v5 (cI v0 v1 0) (cI v0 v1 1) (cI v0 v1 2)).bind fun y6=>
 (bif !(y6.2.2.2.2=0)then some (0,0,0,0,v1,140)else(bif v1=40 then some (0,0,0,0,v1,140)else bif(-9223372036854775808<=(v1+1))&&((v1+1)<=9223372036854775807)then go0 ((v1+1),y6.1,y6.2.1,y6.2.2.1,y6.2.2.2.1)else none))else none else some (v2,v3,v4,v5,(v0.length:Int),0))
def zW(n:Nat)(v0:Lv):Option mP:=
 (ab (fun go0 s=>zV n go0 v0 s.1 s.2.1 s.2.2.1 s.2.2.2.1 s.2.2.2.2) n ((0,0,(-1),0,0):xC))
def rd(n:Nat)(v0:Lv):Option mP:=zW n v0
def ref14_Run_t:FnT:=⟨[(false,[tSc])],(.tup (.cons (.agg (.cons .i (.cons .i (.cons .i (.cons .i .nil))))) (.cons .i (.cons .i .nil)))),fun n (s:Lv)=>rd n s⟩
theorem Hp:ref14_Run_t.ok Tryz.prog 149:=FnT.ok_of (cfg:=⟨[((149,3,5),.inv [(.tmp 6 .int),(.cell 3 0 .int),(.cell 3 1 .int),(.cell 3 2 .int),(.cell 3 3 .int)])],bc,[],aj⟩) aw rK bm (fun s fn hf=>by rw[Tryz.func149]at hf;cases hf;kernel_rfl) (fun n s=>by kernel_rfl)
def ref14_Run_T:Tab:=(149,ref14_Run_t)::ref14_Step_T
theorem tQ:ref14_Run_T.ok Tryz.prog:=Tab.ok_cons Hp rK
abbrev Ca:=Bool
def Kz(n:Nat)(v0:Lv):Option Ca:=
 (rd n v0).bind fun y1=>
 some (decide (y1.2.2.2.2.2=0))
def uM(n:Nat)(v0:Lv):Option Ca:=Kz n v0
def ref14_Is_t:FnT:=⟨[(false,[tSc])],.b,fun n (s:Lv)=>uM n s⟩
theorem I3:ref14_Is_t.ok Tryz.prog 74:=FnT.ok_of (cfg:=⟨[],bc,[],aj⟩) aw tQ bm (fun s fn hf=>by rw[Tryz.func74]at hf;cases hf;kernel_rfl) (fun n s=>by kernel_rfl)
def ref14_Is_T:Tab:=(74,ref14_Is_t)::ref14_Run_T
theorem wi:ref14_Is_T.ok Tryz.prog:=Tab.ok_cons I3 tQ
abbrev pa:=Int×Int×Int×Int
abbrev zN:=Int×Int×Int×Int×Int
def Ks(n:Nat)(go0:zN->Option pa)(v0:Lv)(v1 v2 v3 v4 v5 v6:Int):Option pa:=
 (bif v2<(v0.length:Int) then bif 0<=v2 then(bif (cI v0 v2 1)<=v1 then(hY n v3 v4 v5 v6 (cI v0 v2 0) (cI v0 v2 1) (cI v0 v2 2)).bind fun y7=>
 bif(-9223372036854775808<=(v2+1))&&((v2+1)<=9223372036854775807)then go0 ((v2+1),y7.1,y7.2.1,y7.2.2.1,y7.2.2.2.1)else none else some (v3,v4,v5,v6))else none else some (v3,v4,v5,v6))
def Ku(n:Nat)(v0:Lv)(v1:Int):Option pa:=
 (ab (fun go0 s=>Ks n go0 v0 v1 s.1 s.2.1 s.2.2.1 s.2.2.2.1 s.2.2.2.2) n ((0,0,(-1),0,0):zN))
def Is(n:Nat)(v0:Lv)(v1:Int):Option pa:=Ku n v0 v1
def ref14_at_t:FnT:=⟨[(false,[tSc]),(false,[.int])],(.agg (.cons .i (.cons .i (.cons .i (.cons .i .nil))))),fun n (s:Lv×Int)=>Is n s.1 s.2⟩
theorem I8:ref14_at_t.ok Tryz.prog 186:=FnT.ok_of (cfg:=⟨[((186,3,5),.inv [(.tmp 6 .int),(.cell 3 0 .int),(.cell 3 1 .int),(.cell 3 2 .int),(.cell 3 3 .int)])],bc,[],aj⟩) aw wi bm (fun s fn hf=>by rw[Tryz.func186]at hf;cases hf;kernel_rfl) (fun n s=>by kernel_rfl)
def ref14_at_T:Tab:=(186,ref14_at_t)::ref14_Is_T
theorem vP:ref14_at_T.ok Tryz.prog:=Tab.ok_cons I8 wi
abbrev Bz:=Int×Int×Int×Int×Int
def Kb(n:Nat)(v0:Lv)(v1:Int):Option Bz:=
 (uM n v0).bind fun y2=>
 (bif(!y2)then some (0,0,0,0,140)else(bif 0<=v1 then(bif !(v1<=10000000)then some (0,0,0,0,140)else(Is n v0 v1).bind fun y3=>
 some (y3.1,y3.2.1,y3.2.2.1,y3.2.2.2,0))else some (0,0,0,0,140)))
def IK(n:Nat)(v0:Lv)(v1:Int):Option Bz:=Kb n v0 v1
def ref14_At_t:FnT:=⟨[(false,[tSc]),(false,[.int])],(.tup (.cons (.agg (.cons .i (.cons .i (.cons .i (.cons .i .nil))))) (.cons .i .nil))),fun n (s:Lv×Int)=>IK n s.1 s.2⟩
theorem JA:ref14_At_t.ok Tryz.prog 117:=FnT.ok_of (cfg:=⟨[],bc,[],aj⟩) aw vP bm (fun s fn hf=>by rw[Tryz.func117]at hf;cases hf;kernel_rfl) (fun n s=>by kernel_rfl)
def ref14_At_T:Tab:=(117,ref14_At_t)::ref14_at_T
theorem vS:ref14_At_T.ok Tryz.prog:=Tab.ok_cons JA vP
abbrev nV:=Int×Int×Int
def wl(n:Nat)(v0 v1 v3 v4 v5 v6:Int):Option nV:=
 (bif v0=2 then(bp n v4 2).bind fun y7=>
 bif 0<=y7 then bif y7<2 then(bp n v5 6).bind fun y8=>
 (bif (cI ((([]:Lv)++[[(AV.int 4)]])++[[(AV.int 5)]]) y7 0)=7 then bif(-9223372036854775808<=(y8+2592000))&&((y8+2592000)<=9223372036854775807)then bif(-9223372036854775808<=(v3+(y8+2592000)))&&((v3+(y8+2592000))<=9223372036854775807)then some ((cI ((([]:Lv)++[[(AV.int 4)]])++[[(AV.int 5)]]) y7 0),(aB (v3+(y8+2592000)) 10000000),(-1))else none else none else bif(-9223372036854775808<=(v3+y8))&&((v3+y8)<=9223372036854775807)then(bif (cI ((([]:Lv)++[[(AV.int 4)]])++[[(AV.int 5)]]) y7 0)=1 then(bp n v6 5).bind fun y9=>
 some ((cI ((([]:Lv)++[[(AV.int 4)]])++[[(AV.int 5)]]) y7 0),(aB (v3+y8) 10000000),y9)else(bif (cI ((([]:Lv)++[[(AV.int 4)]])++[[(AV.int 5)]]) y7 0)=2 then(bp n v6 5).bind fun y9=>
 (bif y9=v1 then bif(-9223372036854775808<=(y9+1))&&((y9+1)<=9223372036854775807)then some ((cI ((([]:Lv)++[[(AV.int 4)]])++[[(AV.int 5)]]) y7 0),(aB (v3+y8) 10000000),(y9+1))else none else some ((cI ((([]:Lv)++[[(AV.int 4)]])++[[(AV.int 5)]]) y7 0),(aB (v3+y8) 10000000),y9))else some ((cI ((([]:Lv)++[[(AV.int 4)]])++[[(AV.int 5)]]) y7 0),(aB (v3+y8) 10000000),(-1))))else none)else none else none else(bif v0=3 then(bp n v4 3).bind fun y7=>
 bif 0<=y7 then bif y7<3 then(bp n v5 6).bind fun y8=>
 (bif (cI (((([]:Lv)++[[(AV.int 7)]])++[[(AV.int 6)]])++[[(AV.int 7)]]) y7 0)=7 then bif(-9223372036854775808<=(y8+2592000))&&((y8+2592000)<=9223372036854775807)then bif(-9223372036854775808<=(v3+(y8+2592000)))&&((v3+(y8+2592000))<=9223372036854775807)then some ((cI (((([]:Lv)++[[(AV.int 7)]])++[[(AV.int 6)]])++[[(AV.int 7)]]) y7 0),(aB (v3+(y8+2592000)) 10000000),(-1))else none else none else bif(-9223372036854775808<=(v3+y8))&&((v3+y8)<=9223372036854775807)then(bif (cI (((([]:Lv)++[[(AV.int 7)]])++[[(AV.int 6)]])++[[(AV.int 7)]]) y7 0)=1 then(bp n v6 5).bind fun y9=>
 some ((cI (((([]:Lv)++[[(AV.int 7)]])++[[(AV.int 6)]])++[[(AV.int 7)]]) y7 0),(aB (v3+y8) 10000000),y9)else(bif (cI (((([]:Lv)++[[(AV.int 7)]])++[[(AV.int 6)]])++[[(AV.int 7)]]) y7 0)=2 then(bp n v6 5).bind fun y9=>
 (bif y9=v1 then bif(-9223372036854775808<=(y9+1))&&((y9+1)<=9223372036854775807)then some ((cI (((([]:Lv)++[[(AV.int 7)]])++[[(AV.int 6)]])++[[(AV.int 7)]]) y7 0),(aB (v3+y8) 10000000),(y9+1))else none else some ((cI (((([]:Lv)++[[(AV.int 7)]])++[[(AV.int 6)]])++[[(AV.int 7)]]) y7 0),(aB (v3+y8) 10000000),y9))else some ((cI (((([]:Lv)++[[(AV.int 7)]])++[[(AV.int 6)]])++[[(AV.int 7)]]) y7 0),(aB (v3+y8) 10000000),(-1))))else none)else none else none else(bp n v4 1).bind fun y7=>
 bif 0<=y7 then bif y7<1 then(bp n v5 6).bind fun y8=>
 (bif (cI (([]:Lv)++[[(AV.int 1)]]) y7 0)=7 then bif(-9223372036854775808<=(y8+2592000))&&((y8+2592000)<=9223372036854775807)then bif(-9223372036854775808<=(v3+(y8+2592000)))&&((v3+(y8+2592000))<=9223372036854775807)then some ((cI (([]:Lv)++[[(AV.int 1)]]) y7 0),(aB (v3+(y8+2592000)) 10000000),(-1))else none else none else bif(-9223372036854775808<=(v3+y8))&&((v3+y8)<=9223372036854775807)then(bif (cI (([]:Lv)++[[(AV.int 1)]]) y7 0)=1 then(bp n v6 5).bind fun y9=>
 some ((cI (([]:Lv)++[[(AV.int 1)]]) y7 0),(aB (v3+y8) 10000000),y9)else(bif (cI (([]:Lv)++[[(AV.int 1)]]) y7 0)=2 then(bp n v6 5).bind fun y9=>
 (bif y9=v1 then bif(-9223372036854775808<=(y9+1))&&((y9+1)<=9223372036854775807)then some ((cI (([]:Lv)++[[(AV.int 1)]]) y7 0),(aB (v3+y8) 10000000),(y9+1))else none else some ((cI (([]:Lv)++[[(AV.int 1)]]) y7 0),(aB (v3+y8) 10000000),y9))else some ((cI (([]:Lv)++[[(AV.int 1)]]) y7 0),(aB (v3+y8) 10000000),(-1))))else none)else none else none))
def wK(n:Nat)(v0 v1 v3 v4 v5 v6:Int):Option nV:=
 (bif v0=1 then(bp n v4 5).bind fun y7=>
 bif 0<=y7 then bif y7<5 then(bp n v5 6).bind fun y8=>
 (bif (cI (((((([]:Lv)++[[(AV.int 2)]])++[[(AV.int 3)]])++[[(AV.int 5)]])++[[(AV.int 3)]])++[[(AV.int 5)]]) y7 0)=7 then bif(-9223372036854775808<=(y8+2592000))&&((y8+2592000)<=9223372036854775807)then bif(-9223372036854775808<=(v3+(y8+2592000)))&&((v3+(y8+2592000))<=9223372036854775807)then some ((cI (((((([]:Lv)++[[(AV.int 2)]])++[[(AV.int 3)]])++[[(AV.int 5)]])++[[(AV.int 3)]])++[[(AV.int 5)]]) y7 0),(aB (v3+(y8+2592000)) 10000000),(-1))else none else none else bif(-9223372036854775808<=(v3+y8))&&((v3+y8)<=9223372036854775807)then(bif (cI (((((([]:Lv)++[[(AV.int 2)]])++[[(AV.int 3)]])++[[(AV.int 5)]])++[[(AV.int 3)]])++[[(AV.int 5)]]) y7 0)=1 then(bp n v6 5).bind fun y9=>
 some ((cI (((((([]:Lv)++[[(AV.int 2)]])++[[(AV.int 3)]])++[[(AV.int 5)]])++[[(AV.int 3)]])++[[(AV.int 5)]]) y7 0),(aB (v3+y8) 10000000),y9)else(bif (cI (((((([]:Lv)++[[(AV.int 2)]])++[[(AV.int 3)]])++[[(AV.int 5)]])++[[(AV.int 3)]])++[[(AV.int 5)]]) y7 0)=2 then(bp n v6 5).bind fun y9=>
 (bif y9=v1 then bif(-9223372036854775808<=(y9+1))&&((y9+1)<=9223372036854775807)then some ((cI (((((([]:Lv)++[[(AV.int 2)]])++[[(AV.int 3)]])++[[(AV.int 5)]])++[[(AV.int 3)]])++[[(AV.int 5)]]) y7 0),(aB (v3+y8) 10000000),(y9+1))else none else some ((cI (((((([]:Lv)++[[(AV.int 2)]])++[[(AV.int 3)]])++[[(AV.int 5)]])++[[(AV.int 3)]])++[[(AV.int 5)]]) y7 0),(aB (v3+y8) 10000000),y9))else some ((cI (((((([]:Lv)++[[(AV.int 2)]])++[[(AV.int 3)]])++[[(AV.int 5)]])++[[(AV.int 3)]])++[[(AV.int 5)]]) y7 0),(aB (v3+y8) 10000000),(-1))))else none)else none else none else wl n v0 v1 v3 v4 v5 v6)
def jV(n:Nat)(v0 v1 v2 v3 v4 v5 v6:Int):Option nV:=wK n v0 v1 v3 v4 v5 v6
def ref14_After_t:FnT:=⟨[(true,[.int,.int,.int,.int]),(true,[.int,.int,.int])],(.agg (.cons .i (.cons .i (.cons .i .nil)))),fun n (s:Int×Int×Int×Int×Int×Int×Int)=>jV n s.1 s.2.1 s.2.2.1 s.2.2.2.1 s.2.2.2.2.1 s.2.2.2.2.2.1 s.2.2.2.2.2.2⟩
theorem CR:ref14_After_t.ok Tryz.prog 105:=FnT.ok_of (cfg:=⟨[],bc,[],aj⟩) aw vS bm (fun s fn hf=>by rw[Tryz.func105]at hf;cases hf;kernel_rfl) (fun n s=>by kernel_rfl)
def ref14_After_T:Tab:=(105,ref14_After_t)::ref14_At_T
theorem qo:ref14_After_T.ok Tryz.prog:=Tab.ok_cons CR vS
abbrev l6:=Lv
abbrev wA:=Lv×Int×Int×Int×Int×Int
def xx(n:Nat)(go0:wA->Option l6)(v0 v1:Lv)(v2 v3 v4 v5 v6:Int):Option l6:=
 (bif v2<(v0.length:Int) then(bif v2<16 then bif 0<=v2 then(jV n v3 v4 v5 v6 (cI v0 v2 0) (cI v0 v2 1) (cI v0 v2 2)).bind fun y7=>
 (hY n v3 v4 v5 v6 y7.1 y7.2.1 y7.2.2).bind fun y10=>
 (bif y10.2.2.2.2=0 then bif (((v1.length:Int)+1)*24)<=140737488355328 then bif(-9223372036854775808<=(v2+1))&&((v2+1)<=9223372036854775807)then go0 ((v1++[[(AV.int y7.1),(AV.int y7.2.1),(AV.int y7.2.2)]]),(v2+1),y10.1,y10.2.1,y10.2.2.1,y10.2.2.2.1)else none else none else bif(-9223372036854775808<=(v2+1))&&((v2+1)<=9223372036854775807)then go0 (v1,(v2+1),v3,v4,v5,v6)else none)else none else some v1)else some v1)
def xK(n:Nat)(v0:Lv):Option l6:=
 (ab (fun go0 s=>xx n go0 v0 s.1 s.2.1 s.2.2.1 s.2.2.2.1 s.2.2.2.2.1 s.2.2.2.2.2) n ((([]:Lv),0,0,(-1),0,0):wA))
def lq(n:Nat)(v0:Lv):Option l6:=xK n v0
def ref14_Made_t:FnT:=⟨[(false,[tSc])],(.row 116 (.cons .int (.cons .int (.cons .int .nil)))),fun n (s:Lv)=>lq n s⟩
theorem FP:ref14_Made_t.ok Tryz.prog 44:=FnT.ok_of (cfg:=⟨[((44,4,4),.inv [(.tmprow 4 116 (.cons .int (.cons .int (.cons .int .nil)))),(.tmp 5 .int),(.cell 2 0 .int),(.cell 2 1 .int),(.cell 2 2 .int),(.cell 2 3 .int)])],bc,[],aj⟩) aw qo bm (fun s fn hf=>by rw[Tryz.func44]at hf;cases hf;kernel_rfl) (fun n s=>by kernel_rfl)
def ref14_Made_T:Tab:=(44,ref14_Made_t)::ref14_After_T
theorem rM:ref14_Made_T.ok Tryz.prog:=Tab.ok_cons FP qo
abbrev x8:=Bool
def yx(n:Nat)(v0 v1 v2 v3:Int):Option x8:=
 (bif 0<=v0 then(bif !(v0<=3)then some false else(bif 0<=v2 then(bif !(v2<=1000)then some false else(bif 0<=v3 then(bif !(v3<=10000000)then some false else(bif v0=0 then some (decide (v1=(-1)))else(bif 0<=v1 then(bif v1<=63 then some (decide (1<=v2))else some false)else some false)))else some false))else some false))else some false)
def oM(n:Nat)(v0 v1 v2 v3:Int):Option x8:=yx n v0 v1 v2 v3
def life_Valid_t:FnT:=⟨[(true,[.int,.int,.int,.int])],.b,fun n (s:Int×Int×Int×Int)=>oM n s.1 s.2.1 s.2.2.1 s.2.2.2⟩
theorem Fy:life_Valid_t.ok Tryz.prog 210:=FnT.ok_of (cfg:=⟨[],bc,[],aj⟩) aw rM bm (fun s fn hf=>by rw[Tryz.func210]at hf;cases hf;kernel_rfl) (fun n s=>by kernel_rfl)
def life_Valid_T:Tab:=(210,life_Valid_t)::ref14_Made_T
theorem rF:life_Valid_T.ok Tryz.prog:=Tab.ok_cons Fy rM
abbrev wo:=Bool
def og(n:Nat)(v0 v1 v2:Int):Option wo:=
 (bif 1<=v0 then(bif !(v0<=7)then some false else(bif 0<=v1 then(bif !(v1<=10000000)then some false else bif 0<=v0 then bif v0<8 then(bif(cB ((((((((([]:Lv)++[[(AV.int 0),(AV.int 0),(AV.bool false)]])++[[(AV.int 1),(AV.int 1),(AV.bool true)]])++[[(AV.int 2),(AV.int 1),(AV.bool true)]])++[[(AV.int 2),(AV.int 2),(AV.bool false)]])++[[(AV.int 4),(AV.int 1),(AV.bool false)]])++[[(AV.int 6),(AV.int 3),(AV.bool false)]])++[[(AV.int 8),(AV.int 1),(AV.bool false)]])++[[(AV.int 8),(AV.int 0),(AV.bool false)]]) v0 2)then(bif 0<=v2 then some (decide (v2<=63))else some false)else some (decide (v2=(-1))))else none else none)else some false))else some false)
def jZ(n:Nat)(v0 v1 v2:Int):Option wo:=og n v0 v1 v2
def life_Formed_t:FnT:=⟨[(true,[.int,.int,.int])],.b,fun n (s:Int×Int×Int)=>jZ n s.1 s.2.1 s.2.2⟩
theorem Df:life_Formed_t.ok Tryz.prog 211:=FnT.ok_of (cfg:=⟨[],bc,[],aj⟩) aw rF bm (fun s fn hf=>by rw[Tryz.func211]at hf;cases hf;kernel_rfl) (fun n s=>by kernel_rfl)
def life_Formed_T:Tab:=(211,life_Formed_t)::life_Valid_T
theorem qa:life_Formed_T.ok Tryz.prog:=Tab.ok_cons Df rF
abbrev fR:=Int×Int×Int×Int×Int
def Ag(n:Nat)(v1 v2 v3 v4 v5 v6:Int):Option fR:=
 (bif(cB ((((((((([]:Lv)++[[(AV.int 0),(AV.int 0),(AV.bool false)]])++[[(AV.int 1),(AV.int 1),(AV.bool true)]])++[[(AV.int 2),(AV.int 1),(AV.bool true)]])++[[(AV.int 2),(AV.int 2),(AV.bool false)]])++[[(AV.int 4),(AV.int 1),(AV.bool false)]])++[[(AV.int 6),(AV.int 3),(AV.bool false)]])++[[(AV.int 8),(AV.int 1),(AV.bool false)]])++[[(AV.int 8),(AV.int 0),(AV.bool false)]]) v4 2)then(bif v2=1000 then some (0,0,0,0,140)else(bif v1=v6 then some (0,0,0,0,140)else(bif v4=7 then bif(-9223372036854775808<=(v5-v3))&&((v5-v3)<=9223372036854775807)then(bif (v5-v3)<2592000 then some (0,0,0,0,140)else bif(-9223372036854775808<=(v2+1))&&((v2+1)<=9223372036854775807)then(bif (cI ((((((((([]:Lv)++[[(AV.int 0),(AV.int 0),(AV.bool false)]])++[[(AV.int 1),(AV.int 1),(AV.bool true)]])++[[(AV.int 2),(AV.int 1),(AV.bool true)]])++[[(AV.int 2),(AV.int 2),(AV.bool false)]])++[[(AV.int 4),(AV.int 1),(AV.bool false)]])++[[(AV.int 6),(AV.int 3),(AV.bool false)]])++[[(AV.int 8),(AV.int 1),(AV.bool false)]])++[[(AV.int 8),(AV.int 0),(AV.bool false)]]) v4 1)=0 then some ((cI ((((((((([]:Lv)++[[(AV.int 0),(AV.int 0),(AV.bool false)]])++[[(AV.int 1),(AV.int 1),(AV.bool true)]])++[[(AV.int 2),(AV.int 1),(AV.bool true)]])++[[(AV.int 2),(AV.int 2),(AV.bool false)]])++[[(AV.int 4),(AV.int 1),(AV.bool false)]])++[[(AV.int 6),(AV.int 3),(AV.bool false)]])++[[(AV.int 8),(AV.int 1),(AV.bool false)]])++[[(AV.int 8),(AV.int 0),(AV.bool false)]]) v4 1),(-1),(v2+1),v5,0)else some ((cI ((((((((([]:Lv)++[[(AV.int 0),(AV.int 0),(AV.bool false)]])++[[(AV.int 1),(AV.int 1),(AV.bool true)]])++[[(AV.int 2),(AV.int 1),(AV.bool true)]])++[[(AV.int 2),(AV.int 2),(AV.bool false)]])++[[(AV.int 4),(AV.int 1),(AV.bool false)]])++[[(AV.int 6),(AV.int 3),(AV.bool false)]])++[[(AV.int 8),(AV.int 1),(AV.bool false)]])++[[(AV.int 8),(AV.int 0),(AV.bool false)]]) v4 1),v6,(v2+1),v5,0))else none)else none else bif(-9223372036854775808<=(v2+1))&&((v2+1)<=9223372036854775807)then(bif (cI ((((((((([]:Lv)++[[(AV.int 0),(AV.int 0),(AV.bool false)]])++[[(AV.int 1),(AV.int 1),(AV.bool true)]])++[[(AV.int 2),(AV.int 1),(AV.bool true)]])++[[(AV.int 2),(AV.int 2),(AV.bool false)]])++[[(AV.int 4),(AV.int 1),(AV.bool false)]])++[[(AV.int 6),(AV.int 3),(AV.bool false)]])++[[(AV.int 8),(AV.int 1),(AV.bool false)]])++[[(AV.int 8),(AV.int 0),(AV.bool false)]]) v4 1)=0 then some ((cI ((((((((([]:Lv)++[[(AV.int 0),(AV.int 0),(AV.bool false)]])++[[(AV.int 1),(AV.int 1),(AV.bool true)]])++[[(AV.int 2),(AV.int 1),(AV.bool true)]])++[[(AV.int 2),(AV.int 2),(AV.bool false)]])++[[(AV.int 4),(AV.int 1),(AV.bool false)]])++[[(AV.int 6),(AV.int 3),(AV.bool false)]])++[[(AV.int 8),(AV.int 1),(AV.bool false)]])++[[(AV.int 8),(AV.int 0),(AV.bool false)]]) v4 1),(-1),(v2+1),v5,0)else some ((cI ((((((((([]:Lv)++[[(AV.int 0),(AV.int 0),(AV.bool false)]])++[[(AV.int 1),(AV.int 1),(AV.bool true)]])++[[(AV.int 2),(AV.int 1),(AV.bool true)]])++[[(AV.int 2),(AV.int 2),(AV.bool false)]])++[[(AV.int 4),(AV.int 1),(AV.bool false)]])++[[(AV.int 6),(AV.int 3),(AV.bool false)]])++[[(AV.int 8),(AV.int 1),(AV.bool false)]])++[[(AV.int 8),(AV.int 0),(AV.bool false)]]) v4 1),v6,(v2+1),v5,0))else none)))else(bif v4=7 then bif(-9223372036854775808<=(v5-v3))&&((v5-v3)<=9223372036854775807)then(bif (v5-v3)<2592000 then some (0,0,0,0,140)else(bif (cI ((((((((([]:Lv)++[[(AV.int 0),(AV.int 0),(AV.bool false)]])++[[(AV.int 1),(AV.int 1),(AV.bool true)]])++[[(AV.int 2),(AV.int 1),(AV.bool true)]])++[[(AV.int 2),(AV.int 2),(AV.bool false)]])++[[(AV.int 4),(AV.int 1),(AV.bool false)]])++[[(AV.int 6),(AV.int 3),(AV.bool false)]])++[[(AV.int 8),(AV.int 1),(AV.bool false)]])++[[(AV.int 8),(AV.int 0),(AV.bool false)]]) v4 1)=0 then some ((cI ((((((((([]:Lv)++[[(AV.int 0),(AV.int 0),(AV.bool false)]])++[[(AV.int 1),(AV.int 1),(AV.bool true)]])++[[(AV.int 2),(AV.int 1),(AV.bool true)]])++[[(AV.int 2),(AV.int 2),(AV.bool false)]])++[[(AV.int 4),(AV.int 1),(AV.bool false)]])++[[(AV.int 6),(AV.int 3),(AV.bool false)]])++[[(AV.int 8),(AV.int 1),(AV.bool false)]])++[[(AV.int 8),(AV.int 0),(AV.bool false)]]) v4 1),(-1),v2,v5,0)else some ((cI ((((((((([]:Lv)++[[(AV.int 0),(AV.int 0),(AV.bool false)]])++[[(AV.int 1),(AV.int 1),(AV.bool true)]])++[[(AV.int 2),(AV.int 1),(AV.bool true)]])++[[(AV.int 2),(AV.int 2),(AV.bool false)]])++[[(AV.int 4),(AV.int 1),(AV.bool false)]])++[[(AV.int 6),(AV.int 3),(AV.bool false)]])++[[(AV.int 8),(AV.int 1),(AV.bool false)]])++[[(AV.int 8),(AV.int 0),(AV.bool false)]]) v4 1),v1,v2,v5,0)))else none else(bif (cI ((((((((([]:Lv)++[[(AV.int 0),(AV.int 0),(AV.bool false)]])++[[(AV.int 1),(AV.int 1),(AV.bool true)]])++[[(AV.int 2),(AV.int 1),(AV.bool true)]])++[[(AV.int 2),(AV.int 2),(AV.bool false)]])++[[(AV.int 4),(AV.int 1),(AV.bool false)]])++[[(AV.int 6),(AV.int 3),(AV.bool false)]])++[[(AV.int 8),(AV.int 1),(AV.bool false)]])++[[(AV.int 8),(AV.int 0),(AV.bool false)]]) v4 1)=0 then some ((cI ((((((((([]:Lv)++[[(AV.int 0),(AV.int 0),(AV.bool false)]])++[[(AV.int 1),(AV.int 1),(AV.bool true)]])++[[(AV.int 2),(AV.int 1),(AV.bool true)]])++[[(AV.int 2),(AV.int 2),(AV.bool false)]])++[[(AV.int 4),(AV.int 1),(AV.bool false)]])++[[(AV.int 6),(AV.int 3),(AV.bool false)]])++[[(AV.int 8),(AV.int 1),(AV.bool false)]])++[[(AV.int 8),(AV.int 0),(AV.bool false)]]) v4 1),(-1),v2,v5,0)else some ((cI ((((((((([]:Lv)++[[(AV.int 0),(AV.int 0),(AV.bool false)]])++[[(AV.int 1),(AV.int 1),(AV.bool true)]])++[[(AV.int 2),(AV.int 1),(AV.bool true)]])++[[(AV.int 2),(AV.int 2),(AV.bool false)]])++[[(AV.int 4),(AV.int 1),(AV.bool false)]])++[[(AV.int 6),(AV.int 3),(AV.bool false)]])++[[(AV.int 8),(AV.int 1),(AV.bool false)]])++[[(AV.int 8),(AV.int 0),(AV.bool false)]]) v4 1),v1,v2,v5,0))))
def zY(n:Nat)(v0 v1 v2 v3 v4 v5 v6:Int):Option fR:=
 (bif (IOp.f .and (IOp.f .shr (cI ((((((((([]:Lv)++[[(AV.int 0),(AV.int 0),(AV.bool false)]])++[[(AV.int 1),(AV.int 1),(AV.bool true)]])++[[(AV.int 2),(AV.int 1),(AV.bool true)]])++[[(AV.int 2),(AV.int 2),(AV.bool false)]])++[[(AV.int 4),(AV.int 1),(AV.bool false)]])++[[(AV.int 6),(AV.int 3),(AV.bool false)]])++[[(AV.int 8),(AV.int 1),(AV.bool false)]])++[[(AV.int 8),(AV.int 0),(AV.bool false)]]) v4 0) v0) 1)=0 then some (0,0,0,0,140)else Ag n v1 v2 v3 v4 v5 v6)
def tj(n:Nat)(v0 v1 v2 v3 v4 v5 v6:Int):Option fR:=
 (bif v5<v3 then some (0,0,0,0,140)else bif 0<=v4 then bif v4<8 then bif 0<=v0 then zY n v0 v1 v2 v3 v4 v5 v6 else none else none else none)
def zP(n:Nat)(v0 v1 v2 v3 v4 v5 v6:Int)(v8:Bool):Option fR:=
 (bif(!v8)then some (0,0,0,0,140)else tj n v0 v1 v2 v3 v4 v5 v6)
def Ae(n:Nat)(v0 v1 v2 v3 v4 v5 v6:Int)(v7:Bool):Option fR:=
 (bif(!v7)then some (0,0,0,0,140)else(jZ n v4 v5 v6).bind fun y8=>
 zP n v0 v1 v2 v3 v4 v5 v6 y8)
def Am(n:Nat)(v0 v1 v2 v3 v4 v5 v6:Int):Option fR:=
 (oM n v0 v1 v2 v3).bind fun y7=>
 Ae n v0 v1 v2 v3 v4 v5 v6 y7
def nA(n:Nat)(v0 v1 v2 v3 v4 v5 v6:Int):Option fR:=Am n v0 v1 v2 v3 v4 v5 v6
def life_Step_t:FnT:=⟨[(true,[.int,.int,.int,.int]),(true,[.int,.int,.int])],(.tup (.cons (.agg (.cons .i (.cons .i (.cons .i (.cons .i .nil))))) (.cons .i .nil))),fun n (s:Int×Int×Int×Int×Int×Int×Int)=>nA n s.1 s.2.1 s.2.2.1 s.2.2.2.1 s.2.2.2.2.1 s.2.2.2.2.2.1 s.2.2.2.2.2.2⟩
theorem IJ:life_Step_t.ok Tryz.prog 193:=FnT.ok_of (cfg:=⟨[],bc,[],aj⟩) aw qa bm (fun s fn hf=>by rw[Tryz.func193]at hf;cases hf;kernel_rfl) (fun n s=>by kernel_rfl)
def life_Step_T:Tab:=(193,life_Step_t)::life_Formed_T
theorem tM:life_Step_T.ok Tryz.prog:=Tab.ok_cons IJ qa
abbrev oO:=Int×Int×Int×Int×Int×Int
abbrev Aj:=Int×Int×Int×Int×Int×Int×Int×Int×Int×Int
def Cm(n:Nat)(go0:Aj->Option oO)(v0:Lv)(v1 v2 v3 v4 v5 v6 v7 v8 v9 v10:Int):Option oO:=
 (bif v1<((List.take ((aB (v0.length:Int) 40)).toNat v0).length:Int) then bif 0<=v1 then(nA n v7 v8 v9 v10 (cI (List.take ((aB (v0.length:Int) 40)).toNat v0) v1 0) (cI (List.take ((aB (v0.length:Int) 40)).toNat v0) v1 1) (cI (List.take ((aB (v0.length:Int) 40)).toNat v0) v1 2)).bind fun y11=>
 (bif !(y11.2.2.2.2=0)then(bif v2<(v0.length:Int) then some (0,0,0,0,v2,140)else some (v3,v4,v5,v6,v2,0))else bif(-9223372036854775808<=(v1+1))&&((v1+1)<=9223372036854775807)then go0 ((v1+1),(v1+1),y11.1,y11.2.1,y11.2.2.1,y11.2.2.2.1,y11.1,y11.2.1,y11.2.2.1,y11.2.2.2.1)else none)else none else(bif v2<(v0.length:Int) then some (0,0,0,0,v2,140)else some (v3,v4,v5,v6,v2,0)))
def BZ(n:Nat)(v0:Lv):Option oO:=
 bif 0<=(aB (v0.length:Int) 40) then bif (aB (v0.length:Int) 40)<=(v0.length:Int) then(ab (fun go0 s=>Cm n go0 v0 s.1 s.2.1 s.2.2.1 s.2.2.2.1 s.2.2.2.2.1 s.2.2.2.2.2.1 s.2.2.2.2.2.2.1 s.2.2.2.2.2.2.2.1 s.2.2.2.2.2.2.2.2.1 s.2.2.2.2.2.2.2.2.2) n ((0,0,0,(-1),0,0,0,(-1),0,0):Aj))else none else none
def mv(n:Nat)(v0:Lv):Option oO:=BZ n v0
def life_Run_t:FnT:=⟨[(false,[tSc])],(.tup (.cons (.agg (.cons .i (.cons .i (.cons .i (.cons .i .nil))))) (.cons .i (.cons .i .nil)))),fun n (s:Lv)=>mv n s⟩
theorem Jh:life_Run_t.ok Tryz.prog 69:=FnT.ok_of (cfg:=⟨[((192,3,13),.inv [(.tmp 15 .int),(.cell 1 0 .int),(.cell 2 0 .int),(.cell 2 1 .int),(.cell 2 2 .int),(.cell 2 3 .int),(.cell 7 0 .int),(.cell 7 1 .int),(.cell 7 2 .int),(.cell 7 3 .int)])],bc,[],aj⟩) aw tM bm (fun s fn hf=>by rw[Tryz.func69]at hf;cases hf;kernel_rfl) (fun n s=>by kernel_rfl)
def life_Run_T:Tab:=(69,life_Run_t)::life_Step_T
theorem ww:life_Run_T.ok Tryz.prog:=Tab.ok_cons Jh tM
abbrev su:=Int×Int×Int×Int×Bool
abbrev Bh:=Int×Int
def Eu(n:Nat)(go0:Bh->Option su)(v0:Lv)(v1 v8 v9:Int):Option su:=
 (bif v8<v9 then bif(-9223372036854775808<=(v8+v9))&&((v8+v9)<=9223372036854775807)then bif 0<=1 then bif 0<=(IntKind.wrap .i64 (jh .shr .u64 (IntKind.wrap .u64 (v8+v9)) 1)) then bif (IntKind.wrap .i64 (jh .shr .u64 (IntKind.wrap .u64 (v8+v9)) 1))<(v0.length:Int) then(bif !(v1<(cI v0 (IntKind.wrap .i64 (jh .shr .u64 (IntKind.wrap .u64 (v8+v9)) 1)) 1))then bif(-9223372036854775808<=((IntKind.wrap .i64 (jh .shr .u64 (IntKind.wrap .u64 (v8+v9)) 1))+1))&&(((IntKind.wrap .i64 (jh .shr .u64 (IntKind.wrap .u64 (v8+v9)) 1))+1)<=9223372036854775807)then go0 (((IntKind.wrap .i64 (jh .shr .u64 (IntKind.wrap .u64 (v8+v9)) 1))+1),v9)else none else go0 (v8,(IntKind.wrap .i64 (jh .shr .u64 (IntKind.wrap .u64 (v8+v9)) 1))))else none else none else none else none else bif 0<=v8 then bif v8<=(v0.length:Int) then(mv n (List.take (v8).toNat v0)).bind fun y10=>
 some (y10.1,y10.2.1,y10.2.2.1,y10.2.2.2.1,true)else none else none)
def En(n:Nat)(v0:Lv)(v1:Int):Option su:=
 (mv n v0).bind fun y2=>
 (bif !(y2.2.2.2.2.2=0)then some (0,0,0,0,false)else(bif 0<=v1 then(bif !(v1<=10000000)then some (0,0,0,0,false)else(ab (fun go0 s=>Eu n go0 v0 v1 s.1 s.2) n ((0,(v0.length:Int)):Bh)))else some (0,0,0,0,false)))
def pq(n:Nat)(v0:Lv)(v1:Int):Option su:=En n v0 v1
def life_at_t:FnT:=⟨[(false,[tSc]),(false,[.int])],(.tup (.cons (.agg (.cons .i (.cons .i (.cons .i (.cons .i .nil))))) (.cons .b .nil))),fun n (s:Lv×Int)=>pq n s.1 s.2⟩
theorem Kr:life_at_t.ok Tryz.prog 95:=FnT.ok_of (cfg:=⟨[((169,2,5),.inv [(.tmp 5 .int),(.tmp 6 .int)])],bc,[],aj⟩) aw ww bm (fun s fn hf=>by rw[Tryz.func95]at hf;cases hf;kernel_rfl) (fun n s=>by kernel_rfl)
def life_at_T:Tab:=(95,life_at_t)::life_Run_T
theorem xD:life_at_T.ok Tryz.prog:=Tab.ok_cons Kr ww
abbrev D6:=Int×Int×Int×Int×Int
def Ej(n:Nat)(v0:Lv)(v1:Int):Option D6:=
 (pq n v0 v1).bind fun y2=>
 (bif(!y2.2.2.2.2)then some (0,0,0,0,140)else some (y2.1,y2.2.1,y2.2.2.1,y2.2.2.2.1,0))
def ph(n:Nat)(v0:Lv)(v1:Int):Option D6:=Ej n v0 v1
def life_At_t:FnT:=⟨[(false,[tSc]),(false,[.int])],(.tup (.cons (.agg (.cons .i (.cons .i (.cons .i (.cons .i .nil))))) (.cons .i .nil))),fun n (s:Lv×Int)=>ph n s.1 s.2⟩
theorem KX:life_At_t.ok Tryz.prog 34:=FnT.ok_of (cfg:=⟨[],bc,[],aj⟩) aw xD bm (fun s fn hf=>by rw[Tryz.func34]at hf;cases hf;kernel_rfl) (fun n s=>by kernel_rfl)
def life_At_T:Tab:=(34,life_At_t)::life_at_T
theorem xu:life_At_T.ok Tryz.prog:=Tab.ok_cons KX xD
abbrev xb:=Int
def xY(n:Nat)(v0 v1:Int):Option xb:=
 (bif v0<0 then bif(-9223372036854775808<=(v0+1))&&((v0+1)<=9223372036854775807)then bif(-9223372036854775808<=(0-(v0+1)))&&((0-(v0+1))<=9223372036854775807)then bif !(v1=0)then some (Int.tmod (0-(v0+1)) v1)else none else none else none else bif !(v1=0)then some (Int.tmod v0 v1)else none)
def ai(n:Nat)(v0 v1:Int):Option xb:=xY n v0 v1
def ref16_pick_t:FnT:=⟨[(false,[.int]),(false,[.int])],.i,fun n (s:Int×Int)=>ai n s.1 s.2⟩
theorem FW:ref16_pick_t.ok Tryz.prog 85:=FnT.ok_of (cfg:=⟨[],bc,[],aj⟩) aw xu bm (fun s fn hf=>by rw[Tryz.func85]at hf;cases hf;kernel_rfl) (fun n s=>by kernel_rfl)
def ref16_pick_T:Tab:=(85,ref16_pick_t)::life_At_T
theorem rQ:ref16_pick_T.ok Tryz.prog:=Tab.ok_cons FW xu
abbrev jK:=Int×Int×Int×Int
def ou(n:Nat)(v0 v1 v2 v3 v4 v5:Int):Option jK:=
 (bif v5=3 then(ai n v0 86400).bind fun y6=>
 bif(-9223372036854775808<=(1+y6))&&((1+y6)<=9223372036854775807)then(ai n v1 12).bind fun y7=>
 bif(-9223372036854775808<=(1+y7))&&((1+y7)<=9223372036854775807)then bif(-9223372036854775808<=(Int.tdiv v1 16))&&((Int.tdiv v1 16)<=9223372036854775807)then(ai n (Int.tdiv v1 16) 4).bind fun y8=>
 (bif y8=3 then(ai n v1 86400).bind fun y9=>
 bif(-9223372036854775808<=(1+y9))&&((1+y9)<=9223372036854775807)then(ai n v2 12).bind fun y10=>
 bif(-9223372036854775808<=(1+y10))&&((1+y10)<=9223372036854775807)then bif(-9223372036854775808<=(Int.tdiv v2 16))&&((Int.tdiv v2 16)<=9223372036854775807)then(ai n (Int.tdiv v2 16) 4).bind fun y11=>
 (bif y11=3 then(ai n v2 86400).bind fun y12=>
 bif(-9223372036854775808<=(1+y12))&&((1+y12)<=9223372036854775807)then(ai n v3 12).bind fun y13=>
 bif(-9223372036854775808<=(1+y13))&&((1+y13)<=9223372036854775807)then bif(-9223372036854775808<=(Int.tdiv v3 16))&&((Int.tdiv v3 16)<=9223372036854775807)then(ai n (Int.tdiv v3 16) 4).bind fun y14=>
 (bif y14=3 then(ai n v3 86400).bind fun y15=>
 bif(-9223372036854775808<=(1+y15))&&((1+y15)<=9223372036854775807)then some ((1+y6),(1+y9),(1+y12),(1+y15))else none else some ((1+y6),(1+y9),(1+y12),(1+y13)))else none else none else none else(ai n v3 12).bind fun y12=>
 bif(-9223372036854775808<=(1+y12))&&((1+y12)<=9223372036854775807)then bif(-9223372036854775808<=(Int.tdiv v3 16))&&((Int.tdiv v3 16)<=9223372036854775807)then(ai n (Int.tdiv v3 16) 4).bind fun y13=>
 (bif y13=3 then(ai n v3 86400).bind fun y14=>
 bif(-9223372036854775808<=(1+y14))&&((1+y14)<=9223372036854775807)then some ((1+y6),(1+y9),(1+y10),(1+y14))else none else some ((1+y6),(1+y9),(1+y10),(1+y12)))else none else none)else none else none else none else(ai n v2 12).bind fun y9=>
 bif(-9223372036854775808<=(1+y9))&&((1+y9)<=9223372036854775807)then bif(-9223372036854775808<=(Int.tdiv v2 16))&&((Int.tdiv v2 16)<=9223372036854775807)then(ai n (Int.tdiv v2 16) 4).bind fun y10=>
 (bif y10=3 then(ai n v2 86400).bind fun y11=>
 bif(-9223372036854775808<=(1+y11))&&((1+y11)<=9223372036854775807)then(ai n v3 12).bind fun y12=>
 bif(-9223372036854775808<=(1+y12))&&((1+y12)<=9223372036854775807)then bif(-9223372036854775808<=(Int.tdiv v3 16))&&((Int.tdiv v3 16)<=9223372036854775807)then(ai n (Int.tdiv v3 16) 4).bind fun y13=>
 (bif y13=3 then(ai n v3 86400).bind fun y14=>
 bif(-9223372036854775808<=(1+y14))&&((1+y14)<=9223372036854775807)then some ((1+y6),(1+y7),(1+y11),(1+y14))else none else some ((1+y6),(1+y7),(1+y11),(1+y12)))else none else none else none else(ai n v3 12).bind fun y11=>
 bif(-9223372036854775808<=(1+y11))&&((1+y11)<=9223372036854775807)then bif(-9223372036854775808<=(Int.tdiv v3 16))&&((Int.tdiv v3 16)<=9223372036854775807)then(ai n (Int.tdiv v3 16) 4).bind fun y12=>
 (bif y12=3 then(ai n v3 86400).bind fun y13=>
 bif(-9223372036854775808<=(1+y13))&&((1+y13)<=9223372036854775807)then some ((1+y6),(1+y7),(1+y9),(1+y13))else none else some ((1+y6),(1+y7),(1+y9),(1+y11)))else none else none)else none else none)else none else none else none else(ai n v1 12).bind fun y6=>
 bif(-9223372036854775808<=(1+y6))&&((1+y6)<=9223372036854775807)then bif(-9223372036854775808<=(Int.tdiv v1 16))&&((Int.tdiv v1 16)<=9223372036854775807)then(ai n (Int.tdiv v1 16) 4).bind fun y7=>
 (bif y7=3 then(ai n v1 86400).bind fun y8=>
 bif(-9223372036854775808<=(1+y8))&&((1+y8)<=9223372036854775807)then(ai n v2 12).bind fun y9=>
 bif(-9223372036854775808<=(1+y9))&&((1+y9)<=9223372036854775807)then bif(-9223372036854775808<=(Int.tdiv v2 16))&&((Int.tdiv v2 16)<=9223372036854775807)then(ai n (Int.tdiv v2 16) 4).bind fun y10=>
 (bif y10=3 then(ai n v2 86400).bind fun y11=>
 bif(-9223372036854775808<=(1+y11))&&((1+y11)<=9223372036854775807)then(ai n v3 12).bind fun y12=>
 bif(-9223372036854775808<=(1+y12))&&((1+y12)<=9223372036854775807)then bif(-9223372036854775808<=(Int.tdiv v3 16))&&((Int.tdiv v3 16)<=9223372036854775807)then(ai n (Int.tdiv v3 16) 4).bind fun y13=>
 (bif y13=3 then(ai n v3 86400).bind fun y14=>
 bif(-9223372036854775808<=(1+y14))&&((1+y14)<=9223372036854775807)then some ((1+v4),(1+y8),(1+y11),(1+y14))else none else some ((1+v4),(1+y8),(1+y11),(1+y12)))else none else none else none else(ai n v3 12).bind fun y11=>
 bif(-9223372036854775808<=(1+y11))&&((1+y11)<=9223372036854775807)then bif(-9223372036854775808<=(Int.tdiv v3 16))&&((Int.tdiv v3 16)<=9223372036854775807)then(ai n (Int.tdiv v3 16) 4).bind fun y12=>
 (bif y12=3 then(ai n v3 86400).bind fun y13=>
 bif(-9223372036854775808<=(1+y13))&&((1+y13)<=9223372036854775807)then some ((1+v4),(1+y8),(1+y9),(1+y13))else none else some ((1+v4),(1+y8),(1+y9),(1+y11)))else none else none)else none else none else none else(ai n v2 12).bind fun y8=>
 bif(-9223372036854775808<=(1+y8))&&((1+y8)<=9223372036854775807)then bif(-9223372036854775808<=(Int.tdiv v2 16))&&((Int.tdiv v2 16)<=9223372036854775807)then(ai n (Int.tdiv v2 16) 4).bind fun y9=>
 (bif y9=3 then(ai n v2 86400).bind fun y10=>
 bif(-9223372036854775808<=(1+y10))&&((1+y10)<=9223372036854775807)then(ai n v3 12).bind fun y11=>
 bif(-9223372036854775808<=(1+y11))&&((1+y11)<=9223372036854775807)then bif(-9223372036854775808<=(Int.tdiv v3 16))&&((Int.tdiv v3 16)<=9223372036854775807)then(ai n (Int.tdiv v3 16) 4).bind fun y12=>
 (bif y12=3 then(ai n v3 86400).bind fun y13=>
 bif(-9223372036854775808<=(1+y13))&&((1+y13)<=9223372036854775807)then some ((1+v4),(1+y6),(1+y10),(1+y13))else none else some ((1+v4),(1+y6),(1+y10),(1+y11)))else none else none else none else(ai n v3 12).bind fun y10=>
 bif(-9223372036854775808<=(1+y10))&&((1+y10)<=9223372036854775807)then bif(-9223372036854775808<=(Int.tdiv v3 16))&&((Int.tdiv v3 16)<=9223372036854775807)then(ai n (Int.tdiv v3 16) 4).bind fun y11=>
 (bif y11=3 then(ai n v3 86400).bind fun y12=>
 bif(-9223372036854775808<=(1+y12))&&((1+y12)<=9223372036854775807)then some ((1+v4),(1+y6),(1+y8),(1+y12))else none else some ((1+v4),(1+y6),(1+y8),(1+y10)))else none else none)else none else none)else none else none)
def oK(n:Nat)(v0 v1 v2 v3:Int):Option jK:=
 (ai n v0 12).bind fun y4=>
 bif(-9223372036854775808<=(1+y4))&&((1+y4)<=9223372036854775807)then bif(-9223372036854775808<=(Int.tdiv v0 16))&&((Int.tdiv v0 16)<=9223372036854775807)then(ai n (Int.tdiv v0 16) 4).bind fun y5=>
 ou n v0 v1 v2 v3 y4 y5 else none else none
def iO(n:Nat)(v0 v1 v2 v3:Int):Option jK:=oK n v0 v1 v2 v3
def ref16_MadeRules_t:FnT:=⟨[(true,[.int,.int,.int,.int])],(.agg (.cons .i (.cons .i (.cons .i (.cons .i .nil))))),fun n (s:Int×Int×Int×Int)=>iO n s.1 s.2.1 s.2.2.1 s.2.2.2⟩
theorem xP:ref16_MadeRules_t.ok Tryz.prog 84:=FnT.ok_of (cfg:=⟨[((84,3,0),.unroll 5)],bc,[],aj⟩) aw rQ bm (fun s fn hf=>by rw[Tryz.func84]at hf;cases hf;kernel_rfl) (fun n s=>by kernel_rfl)
def ref16_MadeRules_T:Tab:=(84,ref16_MadeRules_t)::ref16_pick_T
theorem kY:ref16_MadeRules_T.ok Tryz.prog:=Tab.ok_cons xP rQ
abbrev wC:=Bool
def wj(n:Nat)(v0 v1 v2 v3:Int):Option wC:=
 (bif 1<=v0 then(bif v0<=1000000 then(bif 1<=v1 then(bif v1<=1000000 then(bif 1<=v2 then(bif v2<=1000000 then(bif 1<=v3 then some (decide (v3<=1000000))else some false)else some false)else some false)else some false)else some false)else some false)else some false)
def mW(n:Nat)(v0 v1 v2 v3:Int):Option wC:=wj n v0 v1 v2 v3
def ref16_Rules_t:FnT:=⟨[(true,[.int,.int,.int,.int])],.b,fun n (s:Int×Int×Int×Int)=>mW n s.1 s.2.1 s.2.2.1 s.2.2.2⟩
theorem C9:ref16_Rules_t.ok Tryz.prog 152:=FnT.ok_of (cfg:=⟨[],bc,[],aj⟩) aw kY bm (fun s fn hf=>by rw[Tryz.func152]at hf;cases hf;kernel_rfl) (fun n s=>by kernel_rfl)
def ref16_Rules_T:Tab:=(152,ref16_Rules_t)::ref16_MadeRules_T
theorem qz:ref16_Rules_T.ok Tryz.prog:=Tab.ok_cons C9 kY
abbrev wm:=Bool
def vY(n:Nat)(v0 v1 v2 v3 v4:Int):Option wm:=
 (bif 0<=v0 then(bif v0<=99999999 then(bif 0<=v1 then(bif v1<=7 then(bif 0<=v2 then(bif v2<=7 then(bif !(v1=v2)then(bif 0<=v3 then(bif v3<=63 then(bif 0<=v4 then some (decide (v4<=10000000))else some false)else some false)else some false)else some false)else some false)else some false)else some false)else some false)else some false)else some false)
def mN(n:Nat)(v0 v1 v2 v3 v4:Int)(v5:Bool):Option wm:=vY n v0 v1 v2 v3 v4
def ref16_Claim_t:FnT:=⟨[(true,[.int,.int,.int,.int,.int,.bool])],.b,fun n (s:Int×Int×Int×Int×Int×Bool)=>mN n s.1 s.2.1 s.2.2.1 s.2.2.2.1 s.2.2.2.2.1 s.2.2.2.2.2⟩
theorem DF:ref16_Claim_t.ok Tryz.prog 153:=FnT.ok_of (cfg:=⟨[],bc,[],aj⟩) aw qz bm (fun s fn hf=>by rw[Tryz.func153]at hf;cases hf;kernel_rfl) (fun n s=>by kernel_rfl)
def ref16_Claim_T:Tab:=(153,ref16_Claim_t)::ref16_Rules_T
theorem qj:ref16_Claim_T.ok Tryz.prog:=Tab.ok_cons DF qz
abbrev kq:=Bool
abbrev ux:=Int×Int
def vQ(n:Nat)(go0:ux->Option kq)(v10:Lv)(v13 v14:Int):Option kq:=
 (bif v14<(v10.length:Int) then bif 0<=v14 then(bif 1<=(cI v10 v14 0) then(bif !((cI v10 v14 0)<=6)then some false else(bif v13<=(cI v10 v14 1) then(bif !((cI v10 v14 1)<=20000000)then some false else(bif (cI v10 v14 0)=2 then(bif 1<=(cI v10 v14 2) then(bif !((cI v10 v14 2)<=9)then some false else bif(-9223372036854775808<=(v14+1))&&((v14+1)<=9223372036854775807)then go0 ((cI v10 v14 1),(v14+1))else none)else some false)else(bif (cI v10 v14 0)=6 then(bif 1<=(cI v10 v14 2) then(bif !((cI v10 v14 2)<=9)then some false else bif(-9223372036854775808<=(v14+1))&&((v14+1)<=9223372036854775807)then go0 ((cI v10 v14 1),(v14+1))else none)else some false)else(bif !((cI v10 v14 2)=0)then some false else bif(-9223372036854775808<=(v14+1))&&((v14+1)<=9223372036854775807)then go0 ((cI v10 v14 1),(v14+1))else none))))else some false))else some false)else none else some true)
def wH(n:Nat)(v0 v1 v2 v3 v4 v5 v6 v7 v8:Int)(v9:Bool)(v10:Lv):Option kq:=
 (mW n v0 v1 v2 v3).bind fun y11=>
 (bif(!y11)then some false else(mN n v4 v5 v6 v7 v8 v9).bind fun y12=>
 (bif(!y12)then some false else(bif 20<(v10.length:Int) then some false else(ab (fun go0 s=>vQ n go0 v10 s.1 s.2) n ((v8,0):ux)))))
def jU(n:Nat)(v0 v1 v2 v3 v4 v5 v6 v7 v8:Int)(v9:Bool)(v10:Lv):Option kq:=wH n v0 v1 v2 v3 v4 v5 v6 v7 v8 v9 v10
def ref16_Valid_t:FnT:=⟨[(true,[.int,.int,.int,.int]),(true,[.int,.int,.int,.int,.int,.bool]),(false,[tSc])],.b,fun n (s:Int×Int×Int×Int×Int×Int×Int×Int×Int×Bool×Lv)=>jU n s.1 s.2.1 s.2.2.1 s.2.2.2.1 s.2.2.2.2.1 s.2.2.2.2.2.1 s.2.2.2.2.2.2.1 s.2.2.2.2.2.2.2.1 s.2.2.2.2.2.2.2.2.1 s.2.2.2.2.2.2.2.2.2.1 s.2.2.2.2.2.2.2.2.2.2⟩
theorem Di:ref16_Valid_t.ok Tryz.prog 77:=FnT.ok_of (cfg:=⟨[((77,5,2),.inv [(.tmp 7 .int),(.tmp 8 .int)])],bc,[],aj⟩) aw qj bm (fun s fn hf=>by rw[Tryz.func77]at hf;cases hf;kernel_rfl) (fun n s=>by kernel_rfl)
def ref16_Valid_T:Tab:=(77,ref16_Valid_t)::ref16_Claim_T
theorem qy:ref16_Valid_T.ok Tryz.prog:=Tab.ok_cons Di qj
abbrev uz:=Int×Int×Int
def uo(n:Nat)(v0 v1 v2 v3 v4 v5:Int):Option uz:=
 (bif v4=1 then bif(-9223372036854775808<=(v5+v0))&&((v5+v0)<=9223372036854775807)then some (v4,v5,(v5+v0))else none else(bif v4=2 then bif(-9223372036854775808<=(v5+v2))&&((v5+v2)<=9223372036854775807)then some (v4,v5,(v5+v2))else none else(bif v4=3 then bif(-9223372036854775808<=(v5+v1))&&((v5+v1)<=9223372036854775807)then some (v4,v5,(v5+v1))else none else(bif v4=4 then bif(-9223372036854775808<=(v5+v3))&&((v5+v3)<=9223372036854775807)then some (v4,v5,(v5+v3))else none else some (v4,v5,(-1))))))
def ck(n:Nat)(v0 v1 v2 v3 v4 v5:Int):Option uz:=uo n v0 v1 v2 v3 v4 v5
def ref16_status_t:FnT:=⟨[(true,[.int,.int,.int,.int]),(false,[.int]),(false,[.int])],(.agg (.cons .i (.cons .i (.cons .i .nil)))),fun n (s:Int×Int×Int×Int×Int×Int)=>ck n s.1 s.2.1 s.2.2.1 s.2.2.2.1 s.2.2.2.2.1 s.2.2.2.2.2⟩
theorem CL:ref16_status_t.ok Tryz.prog 202:=FnT.ok_of (cfg:=⟨[],bc,[],aj⟩) aw qy bm (fun s fn hf=>by rw[Tryz.func202]at hf;cases hf;kernel_rfl) (fun n s=>by kernel_rfl)
def ref16_status_T:Tab:=(202,ref16_status_t)::ref16_Valid_T
theorem oD:ref16_status_T.ok Tryz.prog:=Tab.ok_cons CL qy
abbrev wO:=Int
def wN(n:Nat)(v0:Int):Option wO:=
 (bif v0=3 then some 4 else(bif v0=4 then some 5 else some 3))
def jY(n:Nat)(v0:Int):Option wO:=wN n v0
def ref16_after_t:FnT:=⟨[(false,[.int])],.i,fun n (s:Int)=>jY n s⟩
theorem Dv:ref16_after_t.ok Tryz.prog 203:=FnT.ok_of (cfg:=⟨[],bc,[],aj⟩) aw oD bm (fun s fn hf=>by rw[Tryz.func203]at hf;cases hf;kernel_rfl) (fun n s=>by kernel_rfl)
def ref16_after_T:Tab:=(203,ref16_after_t)::ref16_status_T
theorem pX:ref16_after_T.ok Tryz.prog:=Tab.ok_cons Dv oD
abbrev qO:=Int
def rj(n:Nat)(v5:Bool)(v6 v7 v9:Int):Option qO:=
 (bif v7=1 then(bif v6=1 then some 3 else some (-1))else(bif v7=2 then(bif v6=1 then(bif v9=1 then(bif(!v5)then some 6 else some (-1))else some 2)else some (-1))else(bif v7=3 then(bif v6=2 then some 3 else some (-1))else(bif v7=4 then(bif v6=2 then some 6 else some (-1))else(bif v7=5 then(bif v6=1 then some 7 else(bif v6=2 then some 7 else(bif v6=3 then some 7 else some (-1))))else(bif v7=6 then(bif v6=4 then(bif !(v9=1)then some 8 else(bif(!v5)then some 8 else some (-1)))else some (-1))else some (-1)))))))
def ec(n:Nat)(v0 v1 v2 v3 v4:Int)(v5:Bool)(v6 v7 v8 v9:Int):Option qO:=rj n v5 v6 v7 v9
def ref16_becomes_t:FnT:=⟨[(true,[.int,.int,.int,.int,.int,.bool]),(false,[.int]),(true,[.int,.int,.int])],.i,fun n (s:Int×Int×Int×Int×Int×Bool×Int×Int×Int×Int)=>ec n s.1 s.2.1 s.2.2.1 s.2.2.2.1 s.2.2.2.2.1 s.2.2.2.2.2.1 s.2.2.2.2.2.2.1 s.2.2.2.2.2.2.2.1 s.2.2.2.2.2.2.2.2.1 s.2.2.2.2.2.2.2.2.2⟩
theorem Ay:ref16_becomes_t.ok Tryz.prog 204:=FnT.ok_of (cfg:=⟨[],bc,[],aj⟩) aw pX bm (fun s fn hf=>by rw[Tryz.func204]at hf;cases hf;kernel_rfl) (fun n s=>by kernel_rfl)
def ref16_becomes_T:Tab:=(204,ref16_becomes_t)::ref16_after_T
theorem nr:ref16_becomes_T.ok Tryz.prog:=Tab.ok_cons Ay pX
abbrev bX:=Lv×Lv
abbrev gh:=Lv×Lv×Int
abbrev lB:=Lv×Int×Int×Int
def zM(n:Nat)(go0:gh->Option bX)(go1:lB->Option bX)(v0 v1 v2 v3 v4 v5 v6 v7 v8:Int)(v9:Bool)(v10:Lv)(v11:Int)(v16:Lv)(v17:Int)(v18:Lv)(v19 v21:Int):Option bX:=
 (bif 0<=v21 then(bif v21<=(aB (cI v10 v17 1) v11) then(jY n v19).bind fun y22=>
 (ck n v0 v1 v2 v3 y22 v21).bind fun y23=>
 bif (((v18.length:Int)+1)*24)<=140737488355328 then go1 ((v18++[[(AV.int y23.1),(AV.int y23.2.1),(AV.int y23.2.2)]]),y23.1,y23.2.1,y23.2.2)else none else(bif v17=(v10.length:Int) then some (v18,v16)else(bif v11<(cI v10 v17 1) then some (v18,v16)else(ec n v4 v5 v6 v7 v8 v9 v19 (cI v10 v17 0) (cI v10 v17 1) (cI v10 v17 2)).bind fun y22=>
 (bif y22<0 then bif (((v16.length:Int)+1)*8)<=140737488355328 then bif(-9223372036854775808<=(v17+1))&&((v17+1)<=9223372036854775807)then go0 (v18,(v16++[[(AV.int v17)]]),(v17+1))else none else none else(ck n v0 v1 v2 v3 y22 (cI v10 v17 1)).bind fun y23=>
 bif (((v18.length:Int)+1)*24)<=140737488355328 then bif(-9223372036854775808<=(v17+1))&&((v17+1)<=9223372036854775807)then go0 ((v18++[[(AV.int y23.1),(AV.int y23.2.1),(AV.int y23.2.2)]]),v16,(v17+1))else none else none))))else(bif v17=(v10.length:Int) then some (v18,v16)else(bif v11<(cI v10 v17 1) then some (v18,v16)else(ec n v4 v5 v6 v7 v8 v9 v19 (cI v10 v17 0) (cI v10 v17 1) (cI v10 v17 2)).bind fun y22=>
 (bif y22<0 then bif (((v16.length:Int)+1)*8)<=140737488355328 then bif(-9223372036854775808<=(v17+1))&&((v17+1)<=9223372036854775807)then go0 (v18,(v16++[[(AV.int v17)]]),(v17+1))else none else none else(ck n v0 v1 v2 v3 y22 (cI v10 v17 1)).bind fun y23=>
 bif (((v18.length:Int)+1)*24)<=140737488355328 then bif(-9223372036854775808<=(v17+1))&&((v17+1)<=9223372036854775807)then go0 ((v18++[[(AV.int y23.1),(AV.int y23.2.1),(AV.int y23.2.2)]]),v16,(v17+1))else none else none))))
def sW(n:Nat)(go0:gh->Option bX)(go1:lB->Option bX)(v0 v1 v2 v3 v4 v5 v6 v7 v8:Int)(v9:Bool)(v10:Lv)(v11:Int)(v16:Lv)(v17:Int)(v18:Lv)(v19 v21:Int):Option bX:=
 (bif 0<=v21 then(bif v21<=v11 then(jY n v19).bind fun y22=>
 (ck n v0 v1 v2 v3 y22 v21).bind fun y23=>
 bif (((v18.length:Int)+1)*24)<=140737488355328 then go1 ((v18++[[(AV.int y23.1),(AV.int y23.2.1),(AV.int y23.2.2)]]),y23.1,y23.2.1,y23.2.2)else none else(bif v17=(v10.length:Int) then some (v18,v16)else bif 0<=v17 then bif v17<(v10.length:Int) then(bif v11<(cI v10 v17 1) then some (v18,v16)else(ec n v4 v5 v6 v7 v8 v9 v19 (cI v10 v17 0) (cI v10 v17 1) (cI v10 v17 2)).bind fun y22=>
 (bif y22<0 then bif (((v16.length:Int)+1)*8)<=140737488355328 then bif(-9223372036854775808<=(v17+1))&&((v17+1)<=9223372036854775807)then go0 (v18,(v16++[[(AV.int v17)]]),(v17+1))else none else none else(ck n v0 v1 v2 v3 y22 (cI v10 v17 1)).bind fun y23=>
 bif (((v18.length:Int)+1)*24)<=140737488355328 then bif(-9223372036854775808<=(v17+1))&&((v17+1)<=9223372036854775807)then go0 ((v18++[[(AV.int y23.1),(AV.int y23.2.1),(AV.int y23.2.2)]]),v16,(v17+1))else none else none))else none else none))else(bif v17=(v10.length:Int) then some (v18,v16)else bif 0<=v17 then bif v17<(v10.length:Int) then(bif v11<(cI v10 v17 1) then some (v18,v16)else(ec n v4 v5 v6 v7 v8 v9 v19 (cI v10 v17 0) (cI v10 v17 1) (cI v10 v17 2)).bind fun y22=>
 (bif y22<0 then bif (((v16.length:Int)+1)*8)<=140737488355328 then bif(-9223372036854775808<=(v17+1))&&((v17+1)<=9223372036854775807)then go0 (v18,(v16++[[(AV.int v17)]]),(v17+1))else none else none else(ck n v0 v1 v2 v3 y22 (cI v10 v17 1)).bind fun y23=>
 bif (((v18.length:Int)+1)*24)<=140737488355328 then bif(-9223372036854775808<=(v17+1))&&((v17+1)<=9223372036854775807)then go0 ((v18++[[(AV.int y23.1),(AV.int y23.2.1),(AV.int y23.2.2)]]),v16,(v17+1))else none else none))else none else none))
def Ak(n:Nat)(go0:gh->Option bX)(v0 v1 v2 v3 v4 v5 v6 v7 v8:Int)(v9:Bool)(v10:Lv)(v11:Int)(v15 v16:Lv)(v17:Int):Option bX:=
 (bif v17<(v10.length:Int) then bif 0<=v17 then bif(-9223372036854775808<=((v15.length:Int)-1))&&(((v15.length:Int)-1)<=9223372036854775807)then bif 0<=((v15.length:Int)-1) then bif ((v15.length:Int)-1)<(v15.length:Int) then(ab (fun go1 s=>zM n go0 go1 v0 v1 v2 v3 v4 v5 v6 v7 v8 v9 v10 v11 v16 v17 s.1 s.2.1 s.2.2.2) n ((v15,(cI v15 ((v15.length:Int)-1) 0),(cI v15 ((v15.length:Int)-1) 1),(cI v15 ((v15.length:Int)-1) 2)):lB))else none else none else none else none else bif(-9223372036854775808<=((v15.length:Int)-1))&&(((v15.length:Int)-1)<=9223372036854775807)then bif 0<=((v15.length:Int)-1) then bif ((v15.length:Int)-1)<(v15.length:Int) then(ab (fun go1 s=>sW n go0 go1 v0 v1 v2 v3 v4 v5 v6 v7 v8 v9 v10 v11 v16 v17 s.1 s.2.1 s.2.2.2) n ((v15,(cI v15 ((v15.length:Int)-1) 0),(cI v15 ((v15.length:Int)-1) 1),(cI v15 ((v15.length:Int)-1) 2)):lB))else none else none else none)
def zT(n:Nat)(go0:gh->Option bX)(v0 v1 v2 v3 v4 v5 v6 v7 v8:Int)(v9:Bool)(v10:Lv)(v11:Int)(v15 v16:Lv)(v17:Int):Option bX:=
 (bif v17<=(v10.length:Int) then Ak n go0 v0 v1 v2 v3 v4 v5 v6 v7 v8 v9 v10 v11 v15 v16 v17 else some (v15,v16))
def Ah(n:Nat)(v0 v1 v2 v3 v4 v5 v6 v7 v8:Int)(v9:Bool)(v10:Lv)(v11:Int):Option bX:=
 (ck n v0 v1 v2 v3 1 v8).bind fun y12=>
 (ab (fun go0 s=>zT n go0 v0 v1 v2 v3 v4 v5 v6 v7 v8 v9 v10 v11 s.1 s.2.1 s.2.2) n (((([]:Lv)++[[(AV.int y12.1),(AV.int y12.2.1),(AV.int y12.2.2)]]),([]:Lv),0):gh))
def nP(n:Nat)(v0 v1 v2 v3 v4 v5 v6 v7 v8:Int)(v9:Bool)(v10:Lv)(v11:Int):Option bX:=Ah n v0 v1 v2 v3 v4 v5 v6 v7 v8 v9 v10 v11
def ref16_run_t:FnT:=⟨[(true,[.int,.int,.int,.int]),(true,[.int,.int,.int,.int,.int,.bool]),(false,[tSc]),(false,[.int])],(.tup (.cons (.row 88 (.cons .int (.cons .int (.cons .int .nil)))) (.cons (.row 3 (.cons .int .nil)) .nil))),fun n (s:Int×Int×Int×Int×Int×Int×Int×Int×Int×Bool×Lv×Int)=>nP n s.1 s.2.1 s.2.2.1 s.2.2.2.1 s.2.2.2.2.1 s.2.2.2.2.2.1 s.2.2.2.2.2.2.1 s.2.2.2.2.2.2.2.1 s.2.2.2.2.2.2.2.2.1 s.2.2.2.2.2.2.2.2.2.1 s.2.2.2.2.2.2.2.2.2.2.1 s.2.2.2.2.2.2.2.2.2.2.2⟩
theorem Gu:ref16_run_t.ok Tryz.prog 159:=FnT.ok_of (cfg:=⟨[((159,4,3),.inv [(.tmprow 10 88 (.cons .int (.cons .int (.cons .int .nil)))),(.tmprow 11 3 (.cons .int .nil)),(.tmp 12 .int)]),((159,10,8),.inv [(.tmprow 10 88 (.cons .int (.cons .int (.cons .int .nil)))),(.cell 6 0 .int),(.cell 6 1 .int),(.cell 6 2 .int)])],bc,[],aj⟩) aw nr bm (fun s fn hf=>by rw[Tryz.func159]at hf;cases hf;kernel_rfl) (fun n s=>by kernel_rfl)
def ref16_run_T:Tab:=(159,ref16_run_t)::ref16_becomes_T
theorem tP:ref16_run_T.ok Tryz.prog:=Tab.ok_cons Gu nr
abbrev sw:=Int×Int×Int×Int
def sx(n:Nat)(v0 v1 v2 v3 v4 v5 v6 v7 v8:Int)(v9:Bool)(v10:Lv)(v11:Int):Option sw:=
 (jU n v0 v1 v2 v3 v4 v5 v6 v7 v8 v9 v10).bind fun y12=>
 (bif(!y12)then some (0,0,0,160)else(bif 0<=v11 then(bif !(v11<=20000000)then some (0,0,0,160)else(bif v11<v8 then some (0,0,v8,0)else(nP n v0 v1 v2 v3 v4 v5 v6 v7 v8 v9 v10 v11).bind fun y13=>
 bif(-9223372036854775808<=((y13.1.length:Int)-1))&&(((y13.1.length:Int)-1)<=9223372036854775807)then bif 0<=((y13.1.length:Int)-1) then bif ((y13.1.length:Int)-1)<(y13.1.length:Int) then some ((cI y13.1 ((y13.1.length:Int)-1) 0),(cI y13.1 ((y13.1.length:Int)-1) 1),(cI y13.1 ((y13.1.length:Int)-1) 2),0)else none else none else none))else some (0,0,0,160)))
def ic(n:Nat)(v0 v1 v2 v3 v4 v5 v6 v7 v8:Int)(v9:Bool)(v10:Lv)(v11:Int):Option sw:=sx n v0 v1 v2 v3 v4 v5 v6 v7 v8 v9 v10 v11
def ref16_Outcome_t:FnT:=⟨[(true,[.int,.int,.int,.int]),(true,[.int,.int,.int,.int,.int,.bool]),(false,[tSc]),(false,[.int])],(.tup (.cons (.agg (.cons .i (.cons .i (.cons .i .nil)))) (.cons .i .nil))),fun n (s:Int×Int×Int×Int×Int×Int×Int×Int×Int×Bool×Lv×Int)=>ic n s.1 s.2.1 s.2.2.1 s.2.2.2.1 s.2.2.2.2.1 s.2.2.2.2.2.1 s.2.2.2.2.2.2.1 s.2.2.2.2.2.2.2.1 s.2.2.2.2.2.2.2.2.1 s.2.2.2.2.2.2.2.2.2.1 s.2.2.2.2.2.2.2.2.2.2.1 s.2.2.2.2.2.2.2.2.2.2.2⟩
theorem Av:ref16_Outcome_t.ok Tryz.prog 86:=FnT.ok_of (cfg:=⟨[],bc,[],aj⟩) aw tP bm (fun s fn hf=>by rw[Tryz.func86]at hf;cases hf;kernel_rfl) (fun n s=>by kernel_rfl)
def ref16_Outcome_T:Tab:=(86,ref16_Outcome_t)::ref16_run_T
theorem nu:ref16_Outcome_T.ok Tryz.prog:=Tab.ok_cons Av tP
abbrev xS:=Int×Int
def HF(n:Nat)(v0 v1 v2 v3 v4 v5 v6 v7 v8:Int)(v9:Bool)(v10:Lv)(v11:Int):Option xS:=
 (ic n v0 v1 v2 v3 v4 v5 v6 v7 v8 v9 v10 v11).bind fun y12=>
 (bif !(y12.2.2.2=0)then some (0,160)else(bif y12.1=4 then some (v6,0)else(bif y12.1=5 then some (v6,0)else some (v5,0))))
def Cw(n:Nat)(v0 v1 v2 v3 v4 v5 v6 v7 v8:Int)(v9:Bool)(v10:Lv)(v11:Int):Option xS:=HF n v0 v1 v2 v3 v4 v5 v6 v7 v8 v9 v10 v11
def ref16_With_t:FnT:=⟨[(true,[.int,.int,.int,.int]),(true,[.int,.int,.int,.int,.int,.bool]),(false,[tSc]),(false,[.int])],(.tup (.cons .i (.cons .i .nil))),fun n (s:Int×Int×Int×Int×Int×Int×Int×Int×Int×Bool×Lv×Int)=>Cw n s.1 s.2.1 s.2.2.1 s.2.2.2.1 s.2.2.2.2.1 s.2.2.2.2.2.1 s.2.2.2.2.2.2.1 s.2.2.2.2.2.2.2.1 s.2.2.2.2.2.2.2.2.1 s.2.2.2.2.2.2.2.2.2.1 s.2.2.2.2.2.2.2.2.2.2.1 s.2.2.2.2.2.2.2.2.2.2.2⟩
theorem FX:ref16_With_t.ok Tryz.prog 120:=FnT.ok_of (cfg:=⟨[],bc,[],aj⟩) aw nu bm (fun s fn hf=>by rw[Tryz.func120]at hf;cases hf;kernel_rfl) (fun n s=>by kernel_rfl)
def ref16_With_T:Tab:=(120,ref16_With_t)::ref16_Outcome_T
theorem rE:ref16_With_T.ok Tryz.prog:=Tab.ok_cons FX nu
abbrev cP:=Int×Int×Int×Int×Int×Int×Int×Int×Int×Bool×Lv
abbrev km:=Lv×Int×Int
def yj(n:Nat)(go0:km->Option cP)(v10 v21:Lv)(v22 v23 v24 v25 v28:Int):Option cP:=
 (bif 0<v28 then bif(-9223372036854775808<=(Int.tdiv (cI v10 v23 1) 4))&&((Int.tdiv (cI v10 v23 1) 4)<=9223372036854775807)then(ai n (Int.tdiv (cI v10 v23 1) 4) 3).bind fun y30=>
 (bif 0<y30 then bif(-9223372036854775808<=(v28-1))&&((v28-1)<=9223372036854775807)then(ai n (cI v10 v23 1) 3).bind fun y31=>
 bif(-9223372036854775808<=((v28-1)+y31))&&(((v28-1)+y31)<=9223372036854775807)then(bif (1+v24)=2 then(ai n (cI v10 v23 2) 4).bind fun y32=>
 bif(-9223372036854775808<=(1+y32))&&((1+y32)<=9223372036854775807)then bif (((v21.length:Int)+1)*24)<=140737488355328 then bif(-9223372036854775808<=(v23+1))&&((v23+1)<=9223372036854775807)then go0 ((v21++[[(AV.int (1+v24)),(AV.int (aL v22 ((v28-1)+y31))),(AV.int (1+y32))]]),(aL v22 ((v28-1)+y31)),(v23+1))else none else none else none else(bif (1+v24)=6 then(ai n (cI v10 v23 2) 4).bind fun y32=>
 bif(-9223372036854775808<=(1+y32))&&((1+y32)<=9223372036854775807)then bif (((v21.length:Int)+1)*24)<=140737488355328 then bif(-9223372036854775808<=(v23+1))&&((v23+1)<=9223372036854775807)then go0 ((v21++[[(AV.int (1+v24)),(AV.int (aL v22 ((v28-1)+y31))),(AV.int (1+y32))]]),(aL v22 ((v28-1)+y31)),(v23+1))else none else none else none else bif (((v21.length:Int)+1)*24)<=140737488355328 then bif(-9223372036854775808<=(v23+1))&&((v23+1)<=9223372036854775807)then go0 ((v21++[[(AV.int (1+v24)),(AV.int (aL v22 ((v28-1)+y31))),(AV.int 0)]]),(aL v22 ((v28-1)+y31)),(v23+1))else none else none))else none else none else(bif (1+v24)=2 then(ai n (cI v10 v23 2) 4).bind fun y31=>
 bif(-9223372036854775808<=(1+y31))&&((1+y31)<=9223372036854775807)then bif (((v21.length:Int)+1)*24)<=140737488355328 then bif(-9223372036854775808<=(v23+1))&&((v23+1)<=9223372036854775807)then go0 ((v21++[[(AV.int (1+v24)),(AV.int (v22+v25)),(AV.int (1+y31))]]),(v22+v25),(v23+1))else none else none else none else(bif (1+v24)=6 then(ai n (cI v10 v23 2) 4).bind fun y31=>
 bif(-9223372036854775808<=(1+y31))&&((1+y31)<=9223372036854775807)then bif (((v21.length:Int)+1)*24)<=140737488355328 then bif(-9223372036854775808<=(v23+1))&&((v23+1)<=9223372036854775807)then go0 ((v21++[[(AV.int (1+v24)),(AV.int (v22+v25)),(AV.int (1+y31))]]),(v22+v25),(v23+1))else none else none else none else bif (((v21.length:Int)+1)*24)<=140737488355328 then bif(-9223372036854775808<=(v23+1))&&((v23+1)<=9223372036854775807)then go0 ((v21++[[(AV.int (1+v24)),(AV.int (v22+v25)),(AV.int 0)]]),(v22+v25),(v23+1))else none else none)))else none else(bif (1+v24)=2 then(ai n (cI v10 v23 2) 4).bind fun y30=>
 bif(-9223372036854775808<=(1+y30))&&((1+y30)<=9223372036854775807)then bif (((v21.length:Int)+1)*24)<=140737488355328 then bif(-9223372036854775808<=(v23+1))&&((v23+1)<=9223372036854775807)then go0 ((v21++[[(AV.int (1+v24)),(AV.int (v22+v25)),(AV.int (1+y30))]]),(v22+v25),(v23+1))else none else none else none else(bif (1+v24)=6 then(ai n (cI v10 v23 2) 4).bind fun y30=>
 bif(-9223372036854775808<=(1+y30))&&((1+y30)<=9223372036854775807)then bif (((v21.length:Int)+1)*24)<=140737488355328 then bif(-9223372036854775808<=(v23+1))&&((v23+1)<=9223372036854775807)then go0 ((v21++[[(AV.int (1+v24)),(AV.int (v22+v25)),(AV.int (1+y30))]]),(v22+v25),(v23+1))else none else none else none else bif (((v21.length:Int)+1)*24)<=140737488355328 then bif(-9223372036854775808<=(v23+1))&&((v23+1)<=9223372036854775807)then go0 ((v21++[[(AV.int (1+v24)),(AV.int (v22+v25)),(AV.int 0)]]),(v22+v25),(v23+1))else none else none)))
def xh(n:Nat)(go0:km->Option cP)(v10:Lv)(v11 v12 v13 v14 v15 v16 v17 v18 v19 v20:Int)(v21:Lv)(v22 v23:Int):Option cP:=
 (bif v23<10 then bif 0<=v23 then(ai n (cI v10 v23 0) 6).bind fun y24=>
 bif(-9223372036854775808<=(1+y24))&&((1+y24)<=9223372036854775807)then(ai n (cI v10 v23 1) 4).bind fun y25=>
 bif(-9223372036854775808<=(v22+y25))&&((v22+y25)<=9223372036854775807)then(ic n v11 v12 v13 v14 v15 v16 (Int.tmod ((v16+1)+v20) 8) v17 v18 (decide (v19=0)) v21 v22).bind fun y26=>
 yj n go0 v10 v21 v22 v23 y24 y25 y26.2.2.1 else none else none else none else some (v11,v12,v13,v14,v15,v16,(Int.tmod ((v16+1)+v20) 8),v17,v18,(decide (v19=0)),v21))
def yE(n:Nat)(go0:km->Option cP)(v10:Lv)(v11 v12 v13 v14 v15 v16 v17 v18 v19 v20:Int)(v21:Lv)(v22 v23:Int):Option cP:=
 (bif v23<(v10.length:Int) then xh n go0 v10 v11 v12 v13 v14 v15 v16 v17 v18 v19 v20 v21 v22 v23 else some (v11,v12,v13,v14,v15,v16,(Int.tmod ((v16+1)+v20) 8),v17,v18,(decide (v19=0)),v21))
def xo(n:Nat)(v0 v1 v2 v3 v4 v5 v6 v7 v8 v9:Int)(v10:Lv):Option cP:=
 (iO n v0 v1 v2 v3).bind fun y11=>
 (ai n v4 100000000).bind fun y15=>
 (ai n v5 8).bind fun y16=>
 (ai n v7 64).bind fun y17=>
 (ai n v8 1000).bind fun y18=>
 (ai n v9 2).bind fun y19=>
 bif(-9223372036854775808<=(y16+1))&&((y16+1)<=9223372036854775807)then(ai n v6 7).bind fun y20=>
 bif(-9223372036854775808<=((y16+1)+y20))&&(((y16+1)+y20)<=9223372036854775807)then(ab (fun go0 s=>yE n go0 v10 y11.1 y11.2.1 y11.2.2.1 y11.2.2.2 y15 y16 y17 y18 y19 y20 s.1 s.2.1 s.2.2) n ((([]:Lv),y18,0):km))else none else none
def kZ(n:Nat)(v0 v1 v2 v3 v4 v5 v6 v7 v8 v9:Int)(v10:Lv):Option cP:=xo n v0 v1 v2 v3 v4 v5 v6 v7 v8 v9 v10
def ref16_Made_t:FnT:=⟨[(true,[.int,.int,.int,.int,.int,.int,.int,.int,.int,.int,tSc])],(.tup (.cons (.agg (.cons .i (.cons .i (.cons .i (.cons .i .nil))))) (.cons (.agg (.cons .i (.cons .i (.cons .i (.cons .i (.cons .i (.cons .b .nil))))))) (.cons (.row 166 (.cons .int (.cons .int (.cons .int .nil)))) .nil)))),fun n (s:Int×Int×Int×Int×Int×Int×Int×Int×Int×Int×Lv)=>kZ n s.1 s.2.1 s.2.2.1 s.2.2.2.1 s.2.2.2.2.1 s.2.2.2.2.2.1 s.2.2.2.2.2.2.1 s.2.2.2.2.2.2.2.1 s.2.2.2.2.2.2.2.2.1 s.2.2.2.2.2.2.2.2.2.1 s.2.2.2.2.2.2.2.2.2.2⟩
theorem F6:ref16_Made_t.ok Tryz.prog 29:=FnT.ok_of (cfg:=⟨[((29,8,10),.inv [(.tmprow 8 166 (.cons .int (.cons .int (.cons .int .nil)))),(.tmp 9 .int),(.tmp 10 .int)])],bc,[],aj⟩) aw rE bm (fun s fn hf=>by rw[Tryz.func29]at hf;cases hf;kernel_rfl) (fun n s=>by kernel_rfl)
def ref16_Made_T:Tab:=(29,ref16_Made_t)::ref16_With_T
theorem r9:ref16_Made_T.ok Tryz.prog:=Tab.ok_cons F6 rE
abbrev gg:=Int×Int×Int×Int×Int×Int×Int×Int×Int×Bool×Lv
abbrev n9:=Lv
def yD(n:Nat)(go0:n9->Option gg)(v0 v1 v2 v3 v4 v5 v6 v7 v8:Int)(v9:Bool)(v12:Int)(v15:Lv):Option gg:=
 (ai n v12 2).bind fun y16=>
 bif(-9223372036854775808<=(20+y16))&&((20+y16)<=9223372036854775807)then(bif (v15.length:Int)<(20+y16) then bif (((v15.length:Int)+1)*24)<=140737488355328 then go0 (v15++[[(AV.int 1),(AV.int 20000000),(AV.int 0)]])else none else some (v0,v1,v2,v3,v4,v5,v6,v7,v8,v9,v15))else none
def GV(n:Nat)(v0 v1 v2 v3 v4 v5 v6 v7 v8:Int)(v9:Bool)(v10:Lv)(v12 v13 v14:Int):Option gg:=
 (bif 0<(v10.length:Int) then(ai n v13 (v10.length:Int)).bind fun y15=>
 bif 0<=y15 then bif y15<(v10.length:Int) then(bif v14=11 then some (v0,v1,v2,v3,v4,v5,v6,v7,v8,v9,(List.modify v10 (y15).toNat (fun r=>r.set 0 (AV.int v12))))else(bif v14=12 then some (v0,v1,v2,v3,v4,v5,v6,v7,v8,v9,(List.modify v10 (y15).toNat (fun r=>r.set 1 (AV.int v12))))else some (v0,v1,v2,v3,v4,v5,v6,v7,v8,v9,(List.modify v10 (y15).toNat (fun r=>r.set 2 (AV.int v12))))))else none else none else(bif v14=0 then some (v12,v1,v2,v3,v4,v5,v6,v7,v8,v9,v10)else(bif v14=1 then some (v0,v12,v2,v3,v4,v5,v6,v7,v8,v9,v10)else(bif v14=2 then some (v0,v1,v12,v3,v4,v5,v6,v7,v8,v9,v10)else(bif v14=3 then some (v0,v1,v2,v12,v4,v5,v6,v7,v8,v9,v10)else(bif v14=4 then some (v0,v1,v2,v3,v12,v5,v6,v7,v8,v9,v10)else(bif v14=5 then some (v0,v1,v2,v3,v4,v12,v6,v7,v8,v9,v10)else(bif v14=6 then some (v0,v1,v2,v3,v4,v5,v12,v7,v8,v9,v10)else(bif v14=7 then some (v0,v1,v2,v3,v4,v5,v6,v12,v8,v9,v10)else(bif v14=8 then some (v0,v1,v2,v3,v4,v5,v6,v7,v12,v9,v10)else(bif v14=9 then some (v0,v1,v2,v3,v4,v5,v5,v7,v8,v9,v10)else(ab (fun go0 s=>yD n go0 v0 v1 v2 v3 v4 v5 v6 v7 v8 v9 v12 s) n (v10:n9)))))))))))))
abbrev H6:= @yD
def Im(n:Nat)(v0 v1 v2 v3 v4 v5 v6 v7 v8:Int)(v9:Bool)(v10:Lv)(v12 v13 v14:Int):Option gg:=
 (bif 11<=v14 then GV n v0 v1 v2 v3 v4 v5 v6 v7 v8 v9 v10 v12 v13 v14 else(bif v14=0 then some (v12,v1,v2,v3,v4,v5,v6,v7,v8,v9,v10)else(bif v14=1 then some (v0,v12,v2,v3,v4,v5,v6,v7,v8,v9,v10)else(bif v14=2 then some (v0,v1,v12,v3,v4,v5,v6,v7,v8,v9,v10)else(bif v14=3 then some (v0,v1,v2,v12,v4,v5,v6,v7,v8,v9,v10)else(bif v14=4 then some (v0,v1,v2,v3,v12,v5,v6,v7,v8,v9,v10)else(bif v14=5 then some (v0,v1,v2,v3,v4,v12,v6,v7,v8,v9,v10)else(bif v14=6 then some (v0,v1,v2,v3,v4,v5,v12,v7,v8,v9,v10)else(bif v14=7 then some (v0,v1,v2,v3,v4,v5,v6,v12,v8,v9,v10)else(bif v14=8 then some (v0,v1,v2,v3,v4,v5,v6,v7,v12,v9,v10)else(bif v14=9 then some (v0,v1,v2,v3,v4,v5,v5,v7,v8,v9,v10)else(ab (fun go0 s=>H6 n go0 v0 v1 v2 v3 v4 v5 v6 v7 v8 v9 v12 s) n (v10:n9)))))))))))))
def GX(n:Nat)(v0 v1 v2 v3 v4 v5 v6 v7 v8:Int)(v9:Bool)(v10:Lv)(v11 v12 v13:Int):Option gg:=
 bif ((v10.length:Int)*24)<=140737488355328 then(ai n v11 14).bind fun y14=>
 Im n v0 v1 v2 v3 v4 v5 v6 v7 v8 v9 v10 v12 v13 y14 else none
def Bq(n:Nat)(v0 v1 v2 v3 v4 v5 v6 v7 v8:Int)(v9:Bool)(v10:Lv)(v11 v12 v13:Int):Option gg:=GX n v0 v1 v2 v3 v4 v5 v6 v7 v8 v9 v10 v11 v12 v13
def ref16_Bent_t:FnT:=⟨[(true,[.int,.int,.int,.int]),(true,[.int,.int,.int,.int,.int,.bool]),(false,[tSc]),(false,[.int]),(false,[.int]),(false,[.int])],(.tup (.cons (.agg (.cons .i (.cons .i (.cons .i (.cons .i .nil))))) (.cons (.agg (.cons .i (.cons .i (.cons .i (.cons .i (.cons .i (.cons .b .nil))))))) (.cons (.row 1000166 (.cons .int (.cons .int (.cons .int .nil)))) .nil)))),fun n (s:Int×Int×Int×Int×Int×Int×Int×Int×Int×Bool×Lv×Int×Int×Int)=>Bq n s.1 s.2.1 s.2.2.1 s.2.2.2.1 s.2.2.2.2.1 s.2.2.2.2.2.1 s.2.2.2.2.2.2.1 s.2.2.2.2.2.2.2.1 s.2.2.2.2.2.2.2.2.1 s.2.2.2.2.2.2.2.2.2.1 s.2.2.2.2.2.2.2.2.2.2.1 s.2.2.2.2.2.2.2.2.2.2.2.1 s.2.2.2.2.2.2.2.2.2.2.2.2.1 s.2.2.2.2.2.2.2.2.2.2.2.2.2⟩
theorem EY:ref16_Bent_t.ok Tryz.prog 50:=FnT.ok_of (cfg:=⟨[((50,13,6),.inv [(.tmprow 15 166 (.cons .int (.cons .int (.cons .int .nil))))])],bc,[],aj⟩) aw r9 bm (fun s fn hf=>by rw[Tryz.func50]at hf;cases hf;kernel_rfl) (fun n s=>by kernel_rfl)
def ref16_Bent_T:Tab:=(50,ref16_Bent_t)::ref16_Made_T
theorem rH:ref16_Bent_T.ok Tryz.prog:=Tab.ok_cons EY r9
abbrev rW:=Bool
def sF(n:Nat)(v0 v1 v2 v3 v4:Int):Option rW:=
 (bif 0<=v0 then(bif v0<=99999999 then(bif 0<=v1 then(bif v1<=7 then(bif 0<=v2 then(bif v2<=7 then(bif !(v1=v2)then(bif 0<=v3 then(bif v3<=63 then(bif 0<=v4 then some (decide (v4<=10000000))else some false)else some false)else some false)else some false)else some false)else some false)else some false)else some false)else some false)else some false)
def ik(n:Nat)(v0 v1 v2 v3 v4:Int)(v5:Bool):Option rW:=sF n v0 v1 v2 v3 v4
def claim_isClaim_t:FnT:=⟨[(true,[.int,.int,.int,.int,.int,.bool])],.b,fun n (s:Int×Int×Int×Int×Int×Bool)=>ik n s.1 s.2.1 s.2.2.1 s.2.2.2.1 s.2.2.2.2.1 s.2.2.2.2.2⟩
theorem A8:claim_isClaim_t.ok Tryz.prog 89:=FnT.ok_of (cfg:=⟨[],bc,[],aj⟩) aw rH bm (fun s fn hf=>by rw[Tryz.func89]at hf;cases hf;kernel_rfl) (fun n s=>by kernel_rfl)
def claim_isClaim_T:Tab:=(89,claim_isClaim_t)::ref16_Bent_T
theorem nb:claim_isClaim_T.ok Tryz.prog:=Tab.ok_cons A8 rH
abbrev fe:=Bool
abbrev ul:=Int×Int
abbrev tA:=Int
def ws(n:Nat)(go0:ul->Option fe)(v10:Lv)(v13 v14:Int):Option fe:=
 (bif v13<(v10.length:Int) then bif 0<=v13 then(bif (cI v10 v13 0)=2 then(bif 1<=(cI v10 v13 0) then(bif !((cI v10 v13 0)<=6)then some (!(decide (0<=v13)))else(bif v14<=(cI v10 v13 1) then(bif !((cI v10 v13 1)<=20000000)then some (!(decide (0<=v13)))else(bif 1<=(cI v10 v13 2) then(bif !((cI v10 v13 2)<=9)then some (!(decide (0<=v13)))else bif(-9223372036854775808<=(v13+1))&&((v13+1)<=9223372036854775807)then go0 ((v13+1),(cI v10 v13 1))else none)else some (!(decide (0<=v13)))))else some (!(decide (0<=v13)))))else some (!(decide (0<=v13))))else(bif (cI v10 v13 0)=6 then(bif 1<=(cI v10 v13 0) then(bif !((cI v10 v13 0)<=6)then some (!(decide (0<=v13)))else(bif v14<=(cI v10 v13 1) then(bif !((cI v10 v13 1)<=20000000)then some (!(decide (0<=v13)))else(bif 1<=(cI v10 v13 2) then(bif !((cI v10 v13 2)<=9)then some (!(decide (0<=v13)))else bif(-9223372036854775808<=(v13+1))&&((v13+1)<=9223372036854775807)then go0 ((v13+1),(cI v10 v13 1))else none)else some (!(decide (0<=v13)))))else some (!(decide (0<=v13)))))else some (!(decide (0<=v13))))else(bif 1<=(cI v10 v13 0) then(bif !((cI v10 v13 0)<=6)then some (!(decide (0<=v13)))else(bif v14<=(cI v10 v13 1) then(bif !((cI v10 v13 1)<=20000000)then some (!(decide (0<=v13)))else(bif 0<=(cI v10 v13 2) then(bif !((cI v10 v13 2)<=0)then some (!(decide (0<=v13)))else bif(-9223372036854775808<=(v13+1))&&((v13+1)<=9223372036854775807)then go0 ((v13+1),(cI v10 v13 1))else none)else some (!(decide (0<=v13)))))else some (!(decide (0<=v13)))))else some (!(decide (0<=v13))))))else none else some true)
def vX(n:Nat)(go0:tA->Option fe)(v0 v1 v2 v3 v4 v5 v6 v7 v8:Int)(v9:Bool)(v10:Lv)(v11:Int):Option fe:=
 (bif v11<4 then bif 0<=v11 then(bif 1<=(cI ((((([]:Lv)++[[(AV.int v0)]])++[[(AV.int v2)]])++[[(AV.int v1)]])++[[(AV.int v3)]]) v11 0) then(bif !((cI ((((([]:Lv)++[[(AV.int v0)]])++[[(AV.int v2)]])++[[(AV.int v1)]])++[[(AV.int v3)]]) v11 0)<=1000000)then some false else bif(-9223372036854775808<=(v11+1))&&((v11+1)<=9223372036854775807)then go0 (v11+1)else none)else some false)else none else(ik n v4 v5 v6 v7 v8 v9).bind fun y12=>
 (bif(!y12)then some false else(bif 20<(v10.length:Int) then some false else(ab (fun go0 s=>ws n go0 v10 s.1 s.2) n ((0,v8):ul)))))
def wu(n:Nat)(v0 v1 v2 v3 v4 v5 v6 v7 v8:Int)(v9:Bool)(v10:Lv):Option fe:=
 (ab (fun go0 s=>vX n go0 v0 v1 v2 v3 v4 v5 v6 v7 v8 v9 v10 s) n (0:tA))
def j4(n:Nat)(v0 v1 v2 v3 v4 v5 v6 v7 v8:Int)(v9:Bool)(v10:Lv):Option fe:=wu n v0 v1 v2 v3 v4 v5 v6 v7 v8 v9 v10
def claim_Valid_t:FnT:=⟨[(true,[.int,.int,.int,.int]),(true,[.int,.int,.int,.int,.int,.bool]),(false,[tSc])],.b,fun n (s:Int×Int×Int×Int×Int×Int×Int×Int×Int×Bool×Lv)=>j4 n s.1 s.2.1 s.2.2.1 s.2.2.2.1 s.2.2.2.2.1 s.2.2.2.2.2.1 s.2.2.2.2.2.2.1 s.2.2.2.2.2.2.2.1 s.2.2.2.2.2.2.2.2.1 s.2.2.2.2.2.2.2.2.2.1 s.2.2.2.2.2.2.2.2.2.2⟩
theorem C0:claim_Valid_t.ok Tryz.prog 72:=FnT.ok_of (cfg:=⟨[((88,2,4),.inv [(.tmp 15 .int)]),((200,2,7),.inv [(.tmp 8 .int),(.cell 5 0 .int)])],bc,[],aj⟩) aw nb bm (fun s fn hf=>by rw[Tryz.func72]at hf;cases hf;kernel_rfl) (fun n s=>by kernel_rfl)
def claim_Valid_T:Tab:=(72,claim_Valid_t)::claim_isClaim_T
theorem qp:claim_Valid_T.ok Tryz.prog:=Tab.ok_cons C0 nb
abbrev l5:=Int×Int
abbrev vU:=Int
def xT(n:Nat)(go0:vU->Option l5)(v0 v1 v2 v3 v4 v5 v6 v7 v8:Int)(v9:Bool)(v10:Int):Option l5:=
 (bif v10<4 then bif 0<=v10 then(bif 1<=(cI ((((([]:Lv)++[[(AV.int v0)]])++[[(AV.int v2)]])++[[(AV.int v1)]])++[[(AV.int v3)]]) v10 0) then(bif !((cI ((((([]:Lv)++[[(AV.int v0)]])++[[(AV.int v2)]])++[[(AV.int v1)]])++[[(AV.int v3)]]) v10 0)<=1000000)then some (0,160)else bif(-9223372036854775808<=(v10+1))&&((v10+1)<=9223372036854775807)then go0 (v10+1)else none)else some (0,160))else none else(ik n v4 v5 v6 v7 v8 v9).bind fun y11=>
 (bif(!y11)then some (0,160)else bif(-9223372036854775808<=(v8+v0))&&((v8+v0)<=9223372036854775807)then bif(-9223372036854775808<=((v8+v0)-1))&&(((v8+v0)-1)<=9223372036854775807)then bif(-9223372036854775808<=(((v8+v0)-1)+v2))&&((((v8+v0)-1)+v2)<=9223372036854775807)then bif(-9223372036854775808<=((((v8+v0)-1)+v2)+v1))&&(((((v8+v0)-1)+v2)+v1)<=9223372036854775807)then bif(-9223372036854775808<=(((((v8+v0)-1)+v2)+v1)+v3))&&((((((v8+v0)-1)+v2)+v1)+v3)<=9223372036854775807)then some ((((((v8+v0)-1)+v2)+v1)+v3),0)else none else none else none else none else none))
def xF(n:Nat)(v0 v1 v2 v3 v4 v5 v6 v7 v8:Int)(v9:Bool):Option l5:=
 (ab (fun go0 s=>xT n go0 v0 v1 v2 v3 v4 v5 v6 v7 v8 v9 s) n (0:vU))
def vK(n:Nat)(v0 v1 v2 v3 v4 v5 v6 v7 v8:Int)(v9:Bool):Option l5:=xF n v0 v1 v2 v3 v4 v5 v6 v7 v8 v9
def claim_Ends_t:FnT:=⟨[(true,[.int,.int,.int,.int]),(true,[.int,.int,.int,.int,.int,.bool])],(.tup (.cons .i (.cons .i .nil))),fun n (s:Int×Int×Int×Int×Int×Int×Int×Int×Int×Bool)=>vK n s.1 s.2.1 s.2.2.1 s.2.2.2.1 s.2.2.2.2.1 s.2.2.2.2.2.1 s.2.2.2.2.2.2.1 s.2.2.2.2.2.2.2.1 s.2.2.2.2.2.2.2.2.1 s.2.2.2.2.2.2.2.2.2⟩
theorem FY:claim_Ends_t.ok Tryz.prog 31:=FnT.ok_of (cfg:=⟨[((88,2,4),.inv [(.tmp 15 .int)])],bc,[],aj⟩) aw qp bm (fun s fn hf=>by rw[Tryz.func31]at hf;cases hf;kernel_rfl) (fun n s=>by kernel_rfl)
def claim_Ends_T:Tab:=(31,claim_Ends_t)::claim_Valid_T
theorem rP:claim_Ends_T.ok Tryz.prog:=Tab.ok_cons FY qp
end
open Go.RowKit Go.Dial
def mtE:MTab:=[(161,SV.of [.agg (SV.of [.vi (.int 1),.vi (.int 1)]),.agg (SV.of [.vi (.int 2),.vi (.int 1)]),.agg (SV.of [.vi (.int 3),.vi (.int 2)]),.agg (SV.of [.vi (.int 4),.vi (.int 2)]),.agg (SV.of [.vi (.int 5),.vi (.int 1)]),.agg (SV.of [.vi (.int 5),.vi (.int 2)]),.agg (SV.of [.vi (.int 5),.vi (.int 3)]),.agg (SV.of [.vi (.int 6),.vi (.int 4)])],SV.of [.vi (.int 3),.vi (.int 2),.vi (.int 3),.vi (.int 6),.vi (.int 7),.vi (.int 7),.vi (.int 7),.vi (.int 8)])]
def effTbl:List (Int×Int×Int):=[(1,1,3),(2,1,2),(3,2,3),(4,2,6),(5,1,7),(5,2,7),(5,3,7),(6,4,8)]
def f8(k s:Int):Value:=.agg #[.int .i64 k,.int .i64 s]
theorem Lx{P:Program}{md:Region.Mode}{ops:Array Oper}{Q:Exit->Act->World->Prop}(J:Array Bool->Act->World->Prop)
  (hz:∀l a w,J l a w->l.size=ops.size)
  (hs:∀l a w i,J l a w->i∈Region.ready md ops l->wpOp P ops Q i (J (l.setIfInBounds i true)) a w)
  (he:∀l a w,J l a w->Region.ready md ops l=[]->Q .normal a w):
  ∀(fuel:Nat) (l:Array Bool) (a:Act) (w:World),J l a w->(l.toList.filter fun b=> !b).length<=fuel->wpAny P md ops Q fuel l a w:=by
 have none_left:∀l:Array Bool,(l.toList.filter fun b=> !b).length=0->Region.ready md ops l=[]:=fun l hl=>by
  unfold Region.ready;rw[List.filter_eq_nil_iff];intro i _ hi;rw[Bool.and_eq_true]at hi;have h1:=hi.1;cases hc:l[i]? with
  |none=>simp[hc]at h1
  |some b=>
   have:b=false:=by simpa[hc]using h1
   subst this;have hm:false∈l.toList.filter fun b=> !b:=List.mem_filter.2 ⟨by simpa using Array.mem_of_getElem? hc,rfl⟩
   rw[List.length_eq_zero_iff.1 hl]at hm;cases hm
 have less:∀(l:List Bool) (i:Nat),l[i]?=some false->((l.set i true).filter fun b=> !b).length+1=(l.filter fun b=> !b).length:=by
  intro l;induction l with
  |nil=>intro i h;simp at h
  | cons b l ih=>
   intro i h;cases i with
   |zero=>cases h;simp
   |succ i=>
    have:=ih i h
    cases b<;>simp[List.filter_cons]at this⊢<;>omega
 intro fuel;induction fuel with
 |zero=>
  intro l a w hJ hl;exact⟨none_left l (by omega),he l a w hJ (none_left l (by omega))⟩
 | succ fuel ih=>
  intro l a w hJ hl;refine⟨fun h=>he l a w hJ h,fun i hi=>?_⟩
  have h1:l[i]?=some false:=by
   unfold Region.ready at hi;rw[List.mem_filter,Bool.and_eq_true]at hi;have h1:=hi.2.1;cases hc:l[i]? with
   |none=>simp[hc]at h1
   |some b=>cases b<;>simp[hc]at h1⊢
  have hf:((l.setIfInBounds i true).toList.filter fun b=> !b).length<=fuel:=by
   have:=less l.toList i (by simpa using h1)
   rw[Array.toList_setIfInBounds];omega
  exact wpOp_mono (fun a w h=>ih _ a w h hf) (hs l a w i hJ hi)
structure JE (w0:World) (l:Array Bool) (a:Act) (w:World):Prop where
 sz:l.size=19
 ts:a.tmps.size=11
 df:a.defers=[]
 below:Below w0.heap.size w0 w
 m:l[0]?=some true->∃r es c,a.tmps[1]?=some (.map (some r))/\w0.heap.size<=r/\w.heap[r]?=some (.map es c) ∧
  (∀(j:Nat) k s v,effTbl[j]?=some (k,s,v)->l[2*j+2]?=some true->∃e∈es.toList,e.key=f8 k s/\e.val=.int .i64 v) ∧
  (∀e∈es.toList,∃(j:Nat) (k s v:Int),effTbl[j]?=some (k,s,v)/\l[2*j+2]?=some true/\e.key=f8 k s/\e.val=.int .i64 v)
 b:∀(j:Nat) k s v,effTbl[j]?=some (k,s,v)->l[2*j+1]?=some true->a.tmps[j+2]?=some (f8 k s)
 n:∀(j:Nat),j<8->l[2*j+2]?=some true->l[0]?=some true
 o17:l[17]?=some true->l[0]?=some true/\a.tmps[10]?=a.tmps[1]?
 o18:l[18]?=some true->l[17]?=some true/\a.tmps[0]?=a.tmps[10]?
noncomputable def opsE:Array Oper:=match Tryz.f161.body with
 |some (.seq _ (.seq (.region _ ops _) _))=>ops
 |_=>#[]
theorem Qh:Tryz.f161.body=some (.seq (.region 0 #[{ dst:=some 0,op:=.assign (.const (.map none)),type:=233,pos := "claim.go:76",after:=#[],guard:=none }] false) (.seq (.region 1 opsE true) .ret)):=by kernel_rfl
theorem CD:opsE.size=19:=by kernel_rfl
theorem tyE:Tryz.prog.underlying 233=some (.map 272 ((Tryz.prog.underlying 233).elim 0 fun|.map _ e=>e|_=>0)):=by kernel_rfl
theorem Nw(k s:Int):fa Tryz.prog 272 (f8 k s):=by
 have h:mY Tryz.prog 272 (.agg (SV.of [.vi (.int k),.vi (.int s)]))=true:=by kernel_rfl
 exact mA (env:=[]) (κ:=fun _=>undef) (F:=fun _=>False) (w:=default) h ⟨#[.int .i64 k,.int .i64 s],rfl,rfl,⟨_,[.int .i64 s],rfl,⟨rfl,rfl⟩,⟨_,[],rfl,⟨rfl,rfl⟩,rfl⟩⟩⟩
theorem Bg(l:Array Bool)(i:Nat)(h:i∈Region.ready .any opsE l):i<19/\l[i]?=some false/\∀o,opsE[i]?=some o->∀e∈o.after,Region.binds .any e=true->l[e.on]?=some true:=by
 unfold Region.ready at h;rw[List.mem_filter,Bool.and_eq_true,List.mem_range,CD]at h;obtain⟨h1,h2,h3⟩:=h;refine⟨h1,?_,fun o ho e he hb=>?_⟩
 ·cases hc:l[i]? with
  |none=>simp[hc]at h2
  |some b=>cases b<;>simp[hc]at h2⊢
 ·rw[ho]at h3
  simp only[Option.map_some,Option.getD_some,Array.all_eq_true_iff_forall_mem]at h3;have:=h3 e he
  rw[hb]at this;cases hc:l[e.on]? with
  |none=>simp[hc]at this
  |some b=>cases b<;>simp[hc]at this⊢
theorem B0{i:Nat}{x:Op×Option Tmp×Option (Nat×Bool)×List Edge}{q:Nat}(h:(opsE[i]?).map (fun o=>(o.op,o.dst,o.guard,o.after.toList.take q))=some x):∃o,opsE[i]?=some o/\o.op=x.1/\o.dst=x.2.1/\o.guard=x.2.2.1/\∀e∈x.2.2.2,e∈o.after:=by
 obtain⟨o,h1,rfl⟩:=Option.map_eq_some_iff.1 h;exact⟨o,h1,rfl,rfl,rfl,fun e he=>by simpa using List.mem_of_mem_take he⟩
theorem op0:(opsE[0]?).map (fun o=>(o.op,o.dst,o.guard,o.after.toList.take 0))=some (.makeMap 233 none,some 1,none,[]):=by kernel_rfl
theorem opB(j:Nat)(k s v:Int)(h:effTbl[j]?=some (k,s,v)):(opsE[2*j+1]?).map (fun o=>(o.op,o.dst,o.guard,o.after.toList.take 0))=some (.build 272 #[(0,.const (.int .i64 k)),(1,.const (.int .i64 s))],some (j+2),none,[]):=by
 have hj:j<8:=(List.getElem?_eq_some_iff.1 h).1
 have:j=0\/j=1\/j=2\/j=3\/j=4\/j=5\/j=6\/j=7:=by omega
 rcases this with rfl|rfl|rfl|rfl|rfl|rfl|rfl|rfl<;>(simp only[effTbl,List.getElem?_cons_zero,List.getElem?_cons_succ,Option.some.injEq,Prod.mk.injEq]at h;obtain⟨rfl,rfl,rfl⟩:=h)
 all_goals (show _=_;kernel_rfl)
theorem opI(j:Nat)(k s v:Int)(h:effTbl[j]?=some (k,s,v)):(opsE[2*j+2]?).map (fun o=>(o.op,o.dst,o.guard,o.after.toList.take 2))=some (.insert 233 (.tmp 1) (.tmp (j+2)) (.const (.int .i64 v)),none,none,[{ on:=0,ground:=.data },{ on:=2*j+1,ground:=.data }]):=by
 have hj:j<8:=(List.getElem?_eq_some_iff.1 h).1
 have:j=0\/j=1\/j=2\/j=3\/j=4\/j=5\/j=6\/j=7:=by omega
 rcases this with rfl|rfl|rfl|rfl|rfl|rfl|rfl|rfl<;>(simp only[effTbl,List.getElem?_cons_zero,List.getElem?_cons_succ,Option.some.injEq,Prod.mk.injEq]at h;obtain⟨rfl,rfl,rfl⟩:=h)
 all_goals (show _=_;kernel_rfl)
theorem QA:(opsE[17]?).map (fun o=>(o.op,o.dst,o.guard,o.after.toList.take 1))=some (.move (.tmp 1),some 10,none,[{ on:=0,ground:=.data }]):=by kernel_rfl
theorem QC:(opsE[18]?).map (fun o=>(o.op,o.dst,o.guard,o.after.toList.take 1))=some (.assign (.tmp 10),some 0,none,[{ on:=17,ground:=.data }]):=by kernel_rfl
theorem PS(k s:Int):Tryz.prog.built 272 [(0,.int .i64 k),(1,.int .i64 s)]=some #[.int .i64 k,.int .i64 s]:=by kernel_rfl
theorem mK{P:Program}{ops:Array Oper}{Q:Exit->Act->World->Prop}{i:Nat}{o:Oper}{a:Act}{w w':World}{u:Value}{K:Act->World->Prop}(ho:ops[i]?=some o)(hg:o.guard=none)(hr:cJ P o a w u w')(hk:K (a.put o.dst u) w'):wpOp P ops Q i K a w:=by
 unfold wpOp;rw[ho];simp only
 have hw:Region.wanted o (yielded ops a.tmps)=true:=by unfold Region.wanted;rw[hg]
 rw[if_pos hw];left
 unfold Oper.wp;rcases hr with h|⟨rfl,h⟩<;>rw[h]<;>exact hk
theorem Bi{a:Act}{d:Nat}{v:Value}(hd:d<a.tmps.size):(a.put (some d) v).tmps[d]?=some v:=by
 simp[Act.put,hd]
theorem eT{a:Act}{d x:Nat}{v:Value}(h:d≠x):(a.put (some d) v).tmps[x]?=a.tmps[x]?:=by
 simp[Act.put,Array.getElem?_setIfInBounds,h]
theorem yw{a:Act}{d:Option Nat}{v:Value}:(a.put d v).tmps.size=a.tmps.size:=by
 cases d<;>simp[Act.put]
theorem yn{a:Act}{d:Option Nat}{v:Value}:(a.put d v).defers=a.defers:=by
 cases d<;>simp[Act.put]
theorem ML{l:Array Bool}{i:Nat}(h:i<l.size):(l.setIfInBounds i true)[i]?=some true:=by simp[h]
theorem bv{l:Array Bool}{i x:Nat}(h:i≠x):(l.setIfInBounds i true)[x]?=l[x]?:=by simp[Array.getElem?_setIfInBounds,h]
theorem vD{a:Act}{d:Nat}{v:Value}(h:a.tmps[d]?=some v):a.eval (.tmp d)=v:=by
 simp[Act.eval,h]
theorem lt8{j:Nat}{x:Int×Int×Int}(h:effTbl[j]?=some x):j<8:=(List.getElem?_eq_some_iff.1 h).1
section
variable {w0:World} {l:Array Bool} {a:Act} {w:World} {Q:Exit->Act->World->Prop}
theorem P7(h:JE w0 l a w){j:Nat}{k s v:Int}(hj:effTbl[j]?=some (k,s,v))(hi:2*j+1∈Region.ready .any opsE l):wpOp Tryz.prog opsE Q (2*j+1) (JE w0 (l.setIfInBounds (2*j+1) true)) a w:=by
 obtain⟨o,ho,h1,h2,h3,_⟩:=B0 (opB j k s v hj);have hj8:j<8:=(List.getElem?_eq_some_iff.1 hj).1
 refine mK (u:=f8 k s) (w':=w) ho h3 (.inl ?_) ?_
 ·have hrun:=run_build (P:=Tryz.prog) w 272 [(0,.int .i64 k),(1,.int .i64 s)].toArray _ (PS k s)
  simp only[execOp,h1];rw[Sem.run_bind];have hmap:Array.map (fun x=>(x.fst,a.eval x.snd)) #[(0,Operand.const (Value.int .i64 k)),(1,Operand.const (Value.int .i64 s))]=#[(0,Value.int .i64 k),(1,Value.int .i64 s)]:=by simp[Act.eval]
  have hrun':Sem.run Tryz.prog (Instr.build 272 #[(0,Value.int .i64 k),(1,Value.int .i64 s)]) w=.ok (f8 k s) w:=hrun
  rw[hmap,hrun',Result.andThen_ok,Sem.run_pure]
 ·rw[h2]
  have hs:=h.sz;have ht:=h.ts;refine⟨by simpa using hs,by rw[yw];exact ht,by rw[yn];exact h.df,h.below,fun h0=>?_,fun j' k' s' v' hj' hl=>?_,fun j' hj' hl=>?_,fun h17=>?_,fun h18=>?_⟩
  ·rw[bv (by omega)]at h0
   obtain⟨r,es,c,q1,q2,q3,q4,q5⟩:=h.m h0;refine⟨r,es,c,by rw[eT (by omega)];exact q1,q2,q3,fun j' k' s' v' hj' hl=>?_,fun e he=>?_⟩
   ·rw[bv (by omega)]at hl;exact q4 j' k' s' v' hj' hl
   ·obtain⟨j',k',s',v',e1,e2,e3⟩:=q5 e he
    exact⟨j',k',s',v',e1,by rw[bv (by omega)];exact e2,e3⟩
  ·by_cases e:j'=j
   ·subst e
    rw[hj]at hj';cases hj'
    exact Bi (by omega)
   ·rw[bv (by omega)]at hl
    rw[eT (by omega)]
    exact h.b j' k' s' v' hj' hl
  ·rw[bv (by omega)]at hl⊢;exact h.n j' hj' hl
  ·rw[bv (by omega)]at h17
   rw[bv (by omega),eT (by omega),eT (by omega)];exact h.o17 h17
  ·rw[bv (by omega)]at h18
   rw[bv (by omega),eT (by omega),eT (by omega)];exact h.o18 h18
theorem Qa(h:JE w0 l a w)(hi:0∈Region.ready .any opsE l):wpOp Tryz.prog opsE Q 0 (JE w0 (l.setIfInBounds 0 true)) a w:=by
 obtain⟨o,ho,h1,h2,h3,_⟩:=B0 op0;obtain⟨_,hl0,_⟩:=Bg l 0 hi;refine mK (u:=.map (some w.heap.size)) (w':=w.alloc (.map #[] 0)) ho h3 (.inl ?_) ?_
 ·simp[execOp,h1,Instr.makeMap]
 ·rw[h2]
  have hs:=h.sz;have ht:=h.ts;have no:∀j,j<8->l[2*j+2]?≠some true:=fun j hj hl=>by
   have:=h.n j hj hl
   rw[hl0]at this;cases this
  refine⟨by simpa using hs,by rw[yw];exact ht,by rw[yn];exact h.df,h.below.alloc h.below.size _,fun h0=>?_,fun j' k' s' v' hj' hl=>?_,fun j' hj' hl=>?_,fun h17=>?_,fun h18=>?_⟩
  ·refine⟨w.heap.size,#[],0,Bi (by omega),h.below.size,World.alloc_heap_new _ _,fun j' k' s' v' hj' hl=>?_,fun e he=>by simp at he⟩
   rw[bv (by omega)]at hl
   exact absurd hl (no j' (List.getElem?_eq_some_iff.1 hj').1)
  ·rw[bv (by omega)]at hl
   rw[eT (by omega)]
   exact h.b j' k' s' v' hj' hl
  ·rw[bv (by omega)]at hl
   exact absurd hl (no j' hj')
  ·rw[bv (by omega)]at h17
   have:=(h.o17 h17).1
   rw[hl0]at this;cases this
  ·rw[bv (by omega)]at h18
   have:=(h.o17 (h.o18 h18).1).1
   rw[hl0]at this;cases this
theorem Pk(h:JE w0 l a w)(hi:17∈Region.ready .any opsE l):wpOp Tryz.prog opsE Q 17 (JE w0 (l.setIfInBounds 17 true)) a w:=by
 obtain⟨o,ho,h1,h2,h3,h4⟩:=B0 QA;obtain⟨_,hl0,hd⟩:=Bg l 17 hi;have h0:l[0]?=some true:=hd o ho _ (h4 _ (List.mem_cons_self ..)) rfl
 obtain⟨r,es,c,q1,q2,q3,q4,q5⟩:=h.m h0;refine mK (u:=.map (some r)) (w':=w) ho h3 (.inl ?_) ?_
 ·simp[execOp,h1,vD q1]
 ·rw[h2]
  have hs:=h.sz;have ht:=h.ts;refine⟨by simpa using hs,by rw[yw];exact ht,by rw[yn];exact h.df,h.below,fun _=>?_,fun j' k' s' v' hj' hl=>?_,fun j' hj' hl=>?_,fun h17=>?_,fun h18=>?_⟩
  ·refine⟨r,es,c,by rw[eT (by omega)];exact q1,q2,q3,fun j' k' s' v' hj' hl=>?_,fun e he=>?_⟩
   ·have:=lt8 hj'
    rw[bv (by omega)]at hl;exact q4 j' k' s' v' hj' hl
   ·obtain⟨j',k',s',v',e1,e2,e3⟩:=q5 e he
    exact⟨j',k',s',v',e1,by rw[bv (by omega)];exact e2,e3⟩
  ·have hj8:j'<8:=(List.getElem?_eq_some_iff.1 hj').1
   rw[bv (by omega)]at hl
   rw[eT (by omega)]
   exact h.b j' k' s' v' hj' hl
  ·rw[bv (by omega)]at hl⊢;exact h.n j' hj' hl
  ·exact⟨by rw[bv (by omega)];exact h0,by rw[Bi (by omega),eT (by omega)];exact q1.symm⟩
  ·rw[bv (by omega)]at h18
   have:=(h.o18 h18).1
   rw[hl0]at this;cases this
theorem O0(h:JE w0 l a w)(hi:18∈Region.ready .any opsE l):wpOp Tryz.prog opsE Q 18 (JE w0 (l.setIfInBounds 18 true)) a w:=by
 obtain⟨o,ho,h1,h2,h3,h4⟩:=B0 QC;obtain⟨_,hl0,hd⟩:=Bg l 18 hi;have h17:l[17]?=some true:=hd o ho _ (h4 _ (List.mem_cons_self ..)) rfl
 obtain⟨h0,h10⟩:=h.o17 h17;obtain⟨r,es,c,q1,q2,q3,q4,q5⟩:=h.m h0;refine mK (u:=.map (some r)) (w':=w) ho h3 (.inl ?_) ?_
 ·simp[execOp,h1,vD (h10.trans q1)]
 ·rw[h2]
  have hs:=h.sz;have ht:=h.ts;refine⟨by simpa using hs,by rw[yw];exact ht,by rw[yn];exact h.df,h.below,fun _=>?_,fun j' k' s' v' hj' hl=>?_,fun j' hj' hl=>?_,fun h17=>?_,fun h18=>?_⟩
  ·refine⟨r,es,c,by rw[eT (by omega)];exact q1,q2,q3,fun j' k' s' v' hj' hl=>?_,fun e he=>?_⟩
   ·have:=lt8 hj'
    rw[bv (by omega)]at hl;exact q4 j' k' s' v' hj' hl
   ·obtain⟨j',k',s',v',e1,e2,e3⟩:=q5 e he
    have:=lt8 e1
    exact⟨j',k',s',v',e1,by rw[bv (by omega)];exact e2,e3⟩
  ·have hj8:j'<8:=(List.getElem?_eq_some_iff.1 hj').1
   rw[bv (by omega)]at hl
   rw[eT (by omega)]
   exact h.b j' k' s' v' hj' hl
  ·rw[bv (by omega)]at hl⊢;exact h.n j' hj' hl
  ·exact⟨by rw[bv (by omega)];exact h0,by rw[eT (by omega),eT (by omega)];exact h10⟩
  ·exact⟨by rw[bv (by omega)];exact h17,by rw[Bi (by omega),eT (by omega),h10];exact q1.symm⟩
theorem JK{j j':Nat}{k s v v':Int}(h:effTbl[j]?=some (k,s,v))(h':effTbl[j']?=some (k,s,v')):j=j':=by
 have e:∀i:Nat,i<8->∀i':Nat,i'<8->(effTbl[i]?).map (fun x=>(x.1,x.2.1))=(effTbl[i']?).map (fun x=>(x.1,x.2.1))->i=i':=by decide
 exact e j (List.getElem?_eq_some_iff.1 h).1 j' (List.getElem?_eq_some_iff.1 h').1 (by rw[h,h'];rfl)
theorem GS{k s k' s':Int}(h:f8 k s=f8 k' s'):k=k'/\s=s':=by
 unfold f8 at h;simpa using h
theorem Qs(h:JE w0 l a w){j:Nat}{k s v:Int}(hj:effTbl[j]?=some (k,s,v))(hi:2*j+2∈Region.ready .any opsE l):wpOp Tryz.prog opsE Q (2*j+2) (JE w0 (l.setIfInBounds (2*j+2) true)) a w:=by
 obtain⟨o,ho,h1,h2,h3,h4⟩:=B0 (opI j k s v hj);have hj8:j<8:=(List.getElem?_eq_some_iff.1 hj).1
 obtain⟨_,hl0,hd⟩:=Bg l _ hi;have h0:l[0]?=some true:=hd o ho _ (h4 _ (List.mem_cons_self ..)) rfl
 have hb:l[2*j+1]?=some true:=hd o ho _ (h4 _ (List.mem_cons_of_mem _ (List.mem_cons_self ..))) rfl
 obtain⟨r,es,c,q1,q2,q3,q4,q5⟩:=h.m h0;have hk:=h.b j k s v hj hb;have hkes:∀e∈es.toList,fa Tryz.prog 272 e.key:=fun e he=>by
  obtain⟨j',k',s',v',_,_,e3,_⟩:=q5 e he;rw[e3];exact Nw _ _
 obtain⟨fr,f1,f2⟩:=Az (w:=w) (Nw k s) es.toList hkes
 have hno:∀e∈es.toList,e.key≠f8 k s:=fun e he hh=>by
  obtain⟨j',k',s',v',e1,e2,e3,_⟩:=q5 e he;rw[e3]at hh;obtain⟨rfl,rfl⟩:=GS hh;have:=JK hj e1
  subst this;rw[hl0]at e2;cases e2
 have hfr:fr=none:=by
  rcases f2 with⟨f2,_⟩|⟨i,e,he,f3,_⟩
  ·exact f2
  ·exact absurd f3 (hno e he)
 subst hfr;obtain⟨W,hW⟩:∃W,W={ w with heap:=w.heap.setIfInBounds r (.map (es.push { key:=f8 k s,val:=.int .i64 v,born:=c }) (c+1)) }:=⟨_,rfl⟩
 have hlt:=dG q3;have hrun:(Instr.mapUpdate 233 (.map (some r)) (f8 k s) (.int .i64 v)).run Tryz.prog w=.ok () W:=by
  rw[hW];simp only[Instr.mapUpdate,run_underlying tyE,Sem.run_bind,Result.andThen_ok,run_getObj_map w r es c q3,gG (Nw k s),f1,jx _ q3]
 have hR:cJ Tryz.prog o a w undef W:=.inr ⟨rfl,by
  simp only[execOp,h1,vD q1,vD hk];show Sem.run Tryz.prog (Instr.mapUpdate 233 (.map (some r)) (f8 k s) (.int .i64 v) >>= fun _=>pure Next.skip) w=_
  rw[Sem.run_bind,hrun,Result.andThen_ok,Sem.run_pure]⟩
 refine mK ho h3 hR ?_
 rw[h2];have hs:=h.sz;have ht:=h.ts;have hBW:Below w0.heap.size w0 W:=by
  have hB:=h.below;rw[hW];exact⟨hB.os,hB.tape,hB.output,by simpa using hB.size,fun k hk=>by
   have:r≠k:=by omega
   simp[this]
   exact hB.block k hk⟩
 refine⟨by simpa using hs,ht,h.df,hBW,fun _=>?_,fun j' k' s' v' hj' hl=>?_,fun j' hj' hl=>?_,fun h17=>?_,fun h18=>?_⟩
 ·refine⟨r,es.push { key:=f8 k s,val:=.int .i64 v,born:=c },c+1,q1,q2,by rw[hW];simp[hlt],fun j' k' s' v' hj' hl=>?_,fun e he=>?_⟩
  ·by_cases e:j'=j
   ·subst e
    rw[hj]at hj';cases hj'
    exact⟨{ key:=f8 k s,val:=.int .i64 v,born:=c },by simp,rfl,rfl⟩
   ·rw[bv (by omega)]at hl
    obtain⟨e,he,e1⟩:=q4 j' k' s' v' hj' hl;exact⟨e,by simp at he⊢;exact .inl he,e1⟩
  ·simp only[Array.toList_push,List.mem_append,List.mem_singleton]at he
   rcases he with he|rfl
   ·obtain⟨j',k',s',v',e1,e2,e3⟩:=q5 e he
    by_cases e:j'=j
    ·subst e
     rw[hl0]at e2;cases e2
    ·exact⟨j',k',s',v',e1,by rw[bv (by omega)];exact e2,e3⟩
   ·exact⟨j,k,s,v,hj,ML (by omega),rfl,rfl⟩
 ·rw[bv (by omega)]at hl;exact h.b j' k' s' v' hj' hl
 ·rw[bv (by omega)];exact h0
 ·rw[bv (by omega)]at h17⊢;exact h.o17 h17
 ·by_cases e:2*j+2=18
  ·omega
  ·rw[bv (by omega)]at h18⊢;exact h.o18 h18
end
theorem Qv:(opsE.toList.zipIdx.all fun x=>x.1.after.toList.all fun e=>decide (e.on<x.2))=true:=by kernel_rfl
theorem QF{l:Array Bool}(hs:l.size=19)(h:Region.ready .any opsE l=[]):∀i,i<19->l[i]?=some true:=by
 intro i;induction i using Nat.strongRecOn with
 | _ i ih=>
  intro hi;cases hc:l[i]? with
  |none=>rw[Array.getElem?_eq_none_iff]at hc;omega
  | some b=>
   cases b with
   |true=>rfl
   | false=>
    exfalso
    have hsz:=CD;have hm:i∈Region.ready .any opsE l:=by
     unfold Region.ready;rw[List.mem_filter,Bool.and_eq_true,List.mem_range];refine⟨by omega,by simp[hc],?_⟩
     have ho:opsE[i]?=some opsE[i]:=Array.getElem?_eq_getElem (by omega)
     rw[ho];simp only[Option.map_some,Option.getD_some,Array.all_eq_true_iff_forall_mem];intro e he;have hb:=List.all_eq_true.1 Qv (opsE[i],i) (by
      rw[List.mem_iff_getElem?];exact⟨i,by rw[List.getElem?_zipIdx,Array.getElem?_toList,ho];simp⟩)
     have hlt:=List.all_eq_true.1 hb e (by simpa using he)
     have hlt:e.on<i:=by simpa using hlt
     have:=ih e.on hlt (by omega)
     rw[Bool.or_eq_true];right
     simp[this]
    rw[h]at hm;cases hm
theorem listE:((SV.of [.agg (SV.of [.vi (.int 1),.vi (.int 1)]),.agg (SV.of [.vi (.int 2),.vi (.int 1)]),.agg (SV.of [.vi (.int 3),.vi (.int 2)]),.agg (SV.of [.vi (.int 4),.vi (.int 2)]),.agg (SV.of [.vi (.int 5),.vi (.int 1)]),.agg (SV.of [.vi (.int 5),.vi (.int 2)]),.agg (SV.of [.vi (.int 5),.vi (.int 3)]),.agg (SV.of [.vi (.int 6),.vi (.int 4)])]).list=effTbl.map fun x=>.agg (SV.of [.vi (.int x.1),.vi (.int x.2.1)])) ∧
 (SV.of [.vi (.int 3),.vi (.int 2),.vi (.int 3),.vi (.int 6),.vi (.int 7),.vi (.int 7),.vi (.int 7),.vi (.int 8)]).list=effTbl.map fun x=>.vi (.int x.2.2):=⟨rfl,rfl⟩
theorem LR(w:World)(k s:Int):SVden [] (fun _=>undef) (fun _=>False) w (.agg (SV.of [.vi (.int k),.vi (.int s)])) (f8 k s):=
 ⟨#[.int .i64 k,.int .i64 s],rfl,rfl,⟨_,[.int .i64 s],rfl,⟨rfl,rfl⟩,⟨_,[],rfl,⟨rfl,rfl⟩,rfl⟩⟩⟩
theorem av:mtE.ok Tryz.prog:=by
 intro x hx;unfold mtE at hx;rw[List.mem_singleton]at hx;subst hx;intro w;refine calls_of_wp Tryz.func161 Qh ?_
 refine wp_seq (wp_region ?_)
 show wpOps _ _ _ [0] _ _
 rw[wpOps_cons];refine mK (o:={ dst:=some 0,op:=.assign (.const (.map none)),type:=233,pos := "claim.go:76",after:=#[],guard:=none }) (u:=.map none) (w':=w) rfl rfl (.inl (by simp[execOp,Act.eval])) ?_
 show Code.wp _ _ _ _ _
 refine wp_seq (wp_region_any JW ?_)
 refine Lx (JE w) (fun l a w h=>by rw[h.sz,CD]) (fun l a w' i h hi=>?_) (fun l a w' h hr=>?_) _ _ _ _ ?_ ?_
 ·have hlt:=(Bg l i hi).1
  rcases Nat.lt_or_ge i 17 with h17|h17
  ·rcases Nat.eq_zero_or_pos i with rfl|hp
   ·exact Qa h hi
   ·obtain⟨j,hj⟩:∃j,i=2*j+1\/i=2*j+2:=⟨(i-1) / 2,by omega⟩
    have hj8:j<effTbl.length:=by show j<8;omega
    obtain⟨⟨k,s,v⟩,hx⟩:∃x,effTbl[j]?=some x:=⟨_,List.getElem?_eq_getElem hj8⟩
    rcases hj with rfl|rfl
    ·exact P7 h hx hi
    ·exact Qs h hx hi
  ·have:i=17\/i=18:=by omega
   rcases this with rfl|rfl
   ·exact Pk h hi
   ·exact O0 h hi
 ·have hall:=QF h.sz hr
  obtain⟨r,es,c,q1,q2,q3,q4,q5⟩:=h.m (hall 0 (by omega))
  have h10:=(h.o17 (hall 17 (by omega))).2
  have h0:=(h.o18 (hall 18 (by omega))).2
  have hv:a.tmps[0]?=some (.map (some r)):=by rw[h0,h10,q1]
  refine wp_ret ⟨h.df,.map (some r),?_,r,es,c,rfl,q2,q3,rfl,rfl,rfl,⟨fun i k v hk hv=>?_,fun e he=>?_,fun e he e' he' hee=>?_⟩,h.below⟩
  ·simp[results,Tryz.f161,hv]
  ·rw[listE.1,List.getElem?_map]at hk
   rw[listE.2,List.getElem?_map]at hv;obtain⟨⟨k1,s1,v1⟩,e1,rfl⟩:=Option.map_eq_some_iff.1 hk;rw[e1]at hv;cases hv
   obtain⟨e,he,e2,e3⟩:=q4 i k1 s1 v1 e1 (hall _ (by have:=lt8 e1;omega))
   exact⟨e,he,by rw[e2];exact LR _ _ _,by rw[e3];exact⟨rfl,rfl⟩⟩
  ·obtain⟨j,k,s,v,e1,_,e2,e3⟩:=q5 e he
   exact⟨j,_,_,by rw[listE.1,List.getElem?_map,e1];rfl,by rw[listE.2,List.getElem?_map,e1];rfl,by rw[e2];exact LR _ _ _,by rw[e3];exact⟨rfl,rfl⟩⟩
  ·obtain⟨j,k,s,v,e1,_,e2,e3⟩:=q5 e he
   obtain⟨j',k',s',v',e1',_,e2',e3'⟩:=q5 e' he';rw[e2,e2']at hee;obtain⟨rfl,rfl⟩:=GS hee;have:=JK e1 e1'
   subst this;rw[e1]at e1';cases e1'
   rw[e3,e3']
 ·refine⟨by rw[Array.size_replicate,CD],by rw[yw];rfl,by rw[yn],⟨rfl,rfl,rfl,Nat.le_refl _,fun _ _=>rfl⟩,fun h=>?_,fun j k s v _ h=>?_,fun j _ h=>?_,fun h=>?_,fun h=>?_⟩<;>(rw[Array.getElem?_replicate]at h;split at h<;>cases h)
 ·rw[CD];exact Nat.le_of_eq rfl
end Go.Proofs.YtbfkkigbedmhgaaGreat
namespace Go.Proofs.YtbfkkigbedmhgaaGreat
open Go Go.Sx
noncomputable section
abbrev ap:=Int×Int×Int×Int
abbrev bj:=Int×Lv×Int×Int×Int×Int×Int×Int
abbrev aY:=Int×Int×Int×Int×Int×Int
def qB(n:Nat)(go0:bj->Option ap)(go1:aY->Option ap)(v9:Bool)(v10:Lv)(v11 v13:Int)(v14:Lv)(v21 v22 v23 v24 v25 v26:Int):Option ap:=
 (bif((cI v10 v13 0)=5)&&(v24=2)then(bif (cI v10 v13 2)=1 then(bif(v9==true)then bif (((v14.length:Int)+1)*8)<=140737488355328 then bif(-9223372036854775808<=(v13+1))&&((v13+1)<=9223372036854775807)then go0 ((v13+1),(v14++[[(AV.int v13)]]),v21,v22,v23,v24,v25,v26)else none else none else(bif v11<(cI v10 v13 1) then some (v21,v22,v23,0)else bif(-9223372036854775808<=(v13+1))&&((v13+1)<=9223372036854775807)then go0 ((v13+1),v14,7,(cI v10 v13 1),(-1),7,(cI v10 v13 1),(-1))else none))else(bif v11<(cI v10 v13 1) then some (v21,v22,v23,0)else bif(-9223372036854775808<=(v13+1))&&((v13+1)<=9223372036854775807)then go0 ((v13+1),v14,7,(cI v10 v13 1),(-1),7,(cI v10 v13 1),(-1))else none))else(bif((cI v10 v13 0)=5)&&(v24=3)then(bif (cI v10 v13 2)=1 then(bif(v9==true)then bif (((v14.length:Int)+1)*8)<=140737488355328 then bif(-9223372036854775808<=(v13+1))&&((v13+1)<=9223372036854775807)then go0 ((v13+1),(v14++[[(AV.int v13)]]),v21,v22,v23,v24,v25,v26)else none else none else(bif v11<(cI v10 v13 1) then some (v21,v22,v23,0)else bif(-9223372036854775808<=(v13+1))&&((v13+1)<=9223372036854775807)then go0 ((v13+1),v14,7,(cI v10 v13 1),(-1),7,(cI v10 v13 1),(-1))else none))else(bif v11<(cI v10 v13 1) then some (v21,v22,v23,0)else bif(-9223372036854775808<=(v13+1))&&((v13+1)<=9223372036854775807)then go0 ((v13+1),v14,7,(cI v10 v13 1),(-1),7,(cI v10 v13 1),(-1))else none))else(bif((cI v10 v13 0)=6)&&(v24=4)then(bif (cI v10 v13 2)=1 then(bif(v9==true)then bif (((v14.length:Int)+1)*8)<=140737488355328 then bif(-9223372036854775808<=(v13+1))&&((v13+1)<=9223372036854775807)then go0 ((v13+1),(v14++[[(AV.int v13)]]),v21,v22,v23,v24,v25,v26)else none else none else(bif v11<(cI v10 v13 1) then some (v21,v22,v23,0)else bif(-9223372036854775808<=(v13+1))&&((v13+1)<=9223372036854775807)then go0 ((v13+1),v14,8,(cI v10 v13 1),(-1),8,(cI v10 v13 1),(-1))else none))else(bif v11<(cI v10 v13 1) then some (v21,v22,v23,0)else bif(-9223372036854775808<=(v13+1))&&((v13+1)<=9223372036854775807)then go0 ((v13+1),v14,8,(cI v10 v13 1),(-1),8,(cI v10 v13 1),(-1))else none))else(bif (cI v10 v13 2)=1 then(bif (cI v10 v13 0)=2 then bif (((v14.length:Int)+1)*8)<=140737488355328 then bif(-9223372036854775808<=(v13+1))&&((v13+1)<=9223372036854775807)then go0 ((v13+1),(v14++[[(AV.int v13)]]),v21,v22,v23,v24,v25,v26)else none else none else bif (((v14.length:Int)+1)*8)<=140737488355328 then bif(-9223372036854775808<=(v13+1))&&((v13+1)<=9223372036854775807)then go0 ((v13+1),(v14++[[(AV.int v13)]]),v21,v22,v23,v24,v25,v26)else none else none)else bif (((v14.length:Int)+1)*8)<=140737488355328 then bif(-9223372036854775808<=(v13+1))&&((v13+1)<=9223372036854775807)then go0 ((v13+1),(v14++[[(AV.int v13)]]),v21,v22,v23,v24,v25,v26)else none else none))))
def pG(n:Nat)(go0:bj->Option ap)(go1:aY->Option ap)(v9:Bool)(v10:Lv)(v11 v13:Int)(v14:Lv)(v21 v22 v23 v24 v25 v26:Int):Option ap:=
 (bif((cI v10 v13 0)=5)&&(v24=1)then(bif (cI v10 v13 2)=1 then(bif(v9==true)then bif (((v14.length:Int)+1)*8)<=140737488355328 then bif(-9223372036854775808<=(v13+1))&&((v13+1)<=9223372036854775807)then go0 ((v13+1),(v14++[[(AV.int v13)]]),v21,v22,v23,v24,v25,v26)else none else none else(bif v11<(cI v10 v13 1) then some (v21,v22,v23,0)else bif(-9223372036854775808<=(v13+1))&&((v13+1)<=9223372036854775807)then go0 ((v13+1),v14,7,(cI v10 v13 1),(-1),7,(cI v10 v13 1),(-1))else none))else(bif v11<(cI v10 v13 1) then some (v21,v22,v23,0)else bif(-9223372036854775808<=(v13+1))&&((v13+1)<=9223372036854775807)then go0 ((v13+1),v14,7,(cI v10 v13 1),(-1),7,(cI v10 v13 1),(-1))else none))else qB n go0 go1 v9 v10 v11 v13 v14 v21 v22 v23 v24 v25 v26)
def qi(n:Nat)(go0:bj->Option ap)(go1:aY->Option ap)(v9:Bool)(v10:Lv)(v11 v13:Int)(v14:Lv)(v21 v22 v23 v24 v25 v26:Int):Option ap:=
 (bif((cI v10 v13 0)=4)&&(v24=2)then(bif (cI v10 v13 2)=1 then(bif(v9==true)then bif (((v14.length:Int)+1)*8)<=140737488355328 then bif(-9223372036854775808<=(v13+1))&&((v13+1)<=9223372036854775807)then go0 ((v13+1),(v14++[[(AV.int v13)]]),v21,v22,v23,v24,v25,v26)else none else none else(bif v11<(cI v10 v13 1) then some (v21,v22,v23,0)else bif(-9223372036854775808<=(v13+1))&&((v13+1)<=9223372036854775807)then go0 ((v13+1),v14,6,(cI v10 v13 1),(-1),6,(cI v10 v13 1),(-1))else none))else(bif v11<(cI v10 v13 1) then some (v21,v22,v23,0)else bif(-9223372036854775808<=(v13+1))&&((v13+1)<=9223372036854775807)then go0 ((v13+1),v14,6,(cI v10 v13 1),(-1),6,(cI v10 v13 1),(-1))else none))else pG n go0 go1 v9 v10 v11 v13 v14 v21 v22 v23 v24 v25 v26)
def qu(n:Nat)(go0:bj->Option ap)(go1:aY->Option ap)(v1:Int)(v9:Bool)(v10:Lv)(v11 v13:Int)(v14:Lv)(v21 v22 v23 v24 v25 v26:Int):Option ap:=
 (bif((cI v10 v13 0)=3)&&(v24=2)then(bif (cI v10 v13 2)=1 then(bif(v9==true)then bif (((v14.length:Int)+1)*8)<=140737488355328 then bif(-9223372036854775808<=(v13+1))&&((v13+1)<=9223372036854775807)then go0 ((v13+1),(v14++[[(AV.int v13)]]),v21,v22,v23,v24,v25,v26)else none else none else bif(-9223372036854775808<=((cI v10 v13 1)+v1))&&(((cI v10 v13 1)+v1)<=9223372036854775807)then(bif v11<(cI v10 v13 1) then some (v21,v22,v23,0)else bif(-9223372036854775808<=(v13+1))&&((v13+1)<=9223372036854775807)then go0 ((v13+1),v14,3,(cI v10 v13 1),((cI v10 v13 1)+v1),3,(cI v10 v13 1),((cI v10 v13 1)+v1))else none)else none)else bif(-9223372036854775808<=((cI v10 v13 1)+v1))&&(((cI v10 v13 1)+v1)<=9223372036854775807)then(bif v11<(cI v10 v13 1) then some (v21,v22,v23,0)else bif(-9223372036854775808<=(v13+1))&&((v13+1)<=9223372036854775807)then go0 ((v13+1),v14,3,(cI v10 v13 1),((cI v10 v13 1)+v1),3,(cI v10 v13 1),((cI v10 v13 1)+v1))else none)else none)else qi n go0 go1 v9 v10 v11 v13 v14 v21 v22 v23 v24 v25 v26)
def pz(n:Nat)(go0:bj->Option ap)(go1:aY->Option ap)(v1 v2:Int)(v9:Bool)(v10:Lv)(v11 v13:Int)(v14:Lv)(v21 v22 v23 v24 v25 v26:Int):Option ap:=
 (bif((cI v10 v13 0)=2)&&(v24=1)then(bif (cI v10 v13 2)=1 then(bif(v9==true)then bif (((v14.length:Int)+1)*8)<=140737488355328 then bif(-9223372036854775808<=(v13+1))&&((v13+1)<=9223372036854775807)then go0 ((v13+1),(v14++[[(AV.int v13)]]),v21,v22,v23,v24,v25,v26)else none else none else(bif v11<(cI v10 v13 1) then some (v21,v22,v23,0)else bif(-9223372036854775808<=(v13+1))&&((v13+1)<=9223372036854775807)then go0 ((v13+1),v14,6,(cI v10 v13 1),(-1),6,(cI v10 v13 1),(-1))else none))else bif(-9223372036854775808<=((cI v10 v13 1)+v2))&&(((cI v10 v13 1)+v2)<=9223372036854775807)then(bif v11<(cI v10 v13 1) then some (v21,v22,v23,0)else bif(-9223372036854775808<=(v13+1))&&((v13+1)<=9223372036854775807)then go0 ((v13+1),v14,2,(cI v10 v13 1),((cI v10 v13 1)+v2),2,(cI v10 v13 1),((cI v10 v13 1)+v2))else none)else none)else qu n go0 go1 v1 v9 v10 v11 v13 v14 v21 v22 v23 v24 v25 v26)
def dZ(n:Nat)(go0:bj->Option ap)(go1:aY->Option ap)(v1 v2:Int)(v9:Bool)(v10:Lv)(v11 v13:Int)(v14:Lv)(v21 v22 v23 v24 v25 v26:Int):Option ap:=
 (bif((cI v10 v13 0)=1)&&(v24=1)then(bif (cI v10 v13 2)=1 then(bif(v9==true)then bif (((v14.length:Int)+1)*8)<=140737488355328 then bif(-9223372036854775808<=(v13+1))&&((v13+1)<=9223372036854775807)then go0 ((v13+1),(v14++[[(AV.int v13)]]),v21,v22,v23,v24,v25,v26)else none else none else bif(-9223372036854775808<=((cI v10 v13 1)+v1))&&(((cI v10 v13 1)+v1)<=9223372036854775807)then(bif v11<(cI v10 v13 1) then some (v21,v22,v23,0)else bif(-9223372036854775808<=(v13+1))&&((v13+1)<=9223372036854775807)then go0 ((v13+1),v14,3,(cI v10 v13 1),((cI v10 v13 1)+v1),3,(cI v10 v13 1),((cI v10 v13 1)+v1))else none)else none)else bif(-9223372036854775808<=((cI v10 v13 1)+v1))&&(((cI v10 v13 1)+v1)<=9223372036854775807)then(bif v11<(cI v10 v13 1) then some (v21,v22,v23,0)else bif(-9223372036854775808<=(v13+1))&&((v13+1)<=9223372036854775807)then go0 ((v13+1),v14,3,(cI v10 v13 1),((cI v10 v13 1)+v1),3,(cI v10 v13 1),((cI v10 v13 1)+v1))else none)else none)else pz n go0 go1 v1 v2 v9 v10 v11 v13 v14 v21 v22 v23 v24 v25 v26)
def iR(n:Nat)(go0:bj->Option ap)(go1:aY->Option ap)(v1 v2 v3:Int)(v9:Bool)(v10:Lv)(v11 v13:Int)(v14:Lv)(v21 v22 v23 v24 v25 v26:Int):Option ap:=
 (bif v26<=(cI v10 v13 1) then(bif v24=1 then bif(-9223372036854775808<=(v26+v1))&&((v26+v1)<=9223372036854775807)then(bif v11<v26 then some (v21,v22,v23,0)else go1 (3,v26,(v26+v1),3,v26,(v26+v1)))else none else(bif v24=2 then bif(-9223372036854775808<=(v26+v1))&&((v26+v1)<=9223372036854775807)then(bif v11<v26 then some (v21,v22,v23,0)else go1 (3,v26,(v26+v1),3,v26,(v26+v1)))else none else(bif v24=3 then bif(-9223372036854775808<=(v26+v3))&&((v26+v3)<=9223372036854775807)then(bif v11<v26 then some (v21,v22,v23,0)else go1 (4,v26,(v26+v3),4,v26,(v26+v3)))else none else(bif v24=4 then(bif v11<v26 then some (v21,v22,v23,0)else go1 (5,v26,(-1),5,v26,(-1)))else(bif v11<v26 then some (v21,v22,v23,0)else go1 (0,v26,(-1),0,v26,(-1)))))))else dZ n go0 go1 v1 v2 v9 v10 v11 v13 v14 v21 v22 v23 v24 v25 v26)
abbrev pV:= @dZ
def rN(n:Nat)(go0:bj->Option ap)(go1:aY->Option ap)(v1 v2 v3:Int)(v9:Bool)(v10:Lv)(v11 v13:Int)(v14:Lv)(v21 v22 v23 v24 v25 v26:Int):Option ap:=
 (bif 0<=v26 then iR n go0 go1 v1 v2 v3 v9 v10 v11 v13 v14 v21 v22 v23 v24 v25 v26 else pV n go0 go1 v1 v2 v9 v10 v11 v13 v14 v21 v22 v23 v24 v25 v26)
def gV(n:Nat)(go0:aY->Option ap)(v1 v3 v11 v21 v22 v23 v24 v26:Int):Option ap:=
 (bif 0<=v26 then(bif v26<=4611686018427387904 then(bif v24=1 then bif(-9223372036854775808<=(v26+v1))&&((v26+v1)<=9223372036854775807)then(bif v11<v26 then some (v21,v22,v23,0)else go0 (3,v26,(v26+v1),3,v26,(v26+v1)))else none else(bif v24=2 then bif(-9223372036854775808<=(v26+v1))&&((v26+v1)<=9223372036854775807)then(bif v11<v26 then some (v21,v22,v23,0)else go0 (3,v26,(v26+v1),3,v26,(v26+v1)))else none else(bif v24=3 then bif(-9223372036854775808<=(v26+v3))&&((v26+v3)<=9223372036854775807)then(bif v11<v26 then some (v21,v22,v23,0)else go0 (4,v26,(v26+v3),4,v26,(v26+v3)))else none else(bif v24=4 then(bif v11<v26 then some (v21,v22,v23,0)else go0 (5,v26,(-1),5,v26,(-1)))else(bif v11<v26 then some (v21,v22,v23,0)else go0 (0,v26,(-1),0,v26,(-1)))))))else some (v21,v22,v23,0))else some (v21,v22,v23,0))
def ry(n:Nat)(go0:bj->Option ap)(v1 v2 v3:Int)(v9:Bool)(v10:Lv)(v11 v13:Int)(v14:Lv)(v15 v16 v17 v18 v19 v20:Int):Option ap:=
 (bif v13<(v10.length:Int) then bif 0<=v13 then(ab (fun go1 s=>rN n go0 go1 v1 v2 v3 v9 v10 v11 v13 v14 s.1 s.2.1 s.2.2.1 s.2.2.2.1 s.2.2.2.2.1 s.2.2.2.2.2) n ((v15,v16,v17,v18,v19,v20):aY))else none else(ab (fun go0 s=>gV n go0 v1 v3 v11 s.1 s.2.1 s.2.2.1 s.2.2.2.1 s.2.2.2.2.2) n ((v15,v16,v17,v18,v19,v20):aY)))
def r7(n:Nat)(v0 v1 v2 v3 v8:Int)(v9:Bool)(v10:Lv)(v11:Int):Option ap:=
 (bif v11<v8 then some (0,0,v8,0)else(ab (fun go0 s=>ry n go0 v1 v2 v3 v9 v10 v11 s.1 s.2.1 s.2.2.1 s.2.2.2.1 s.2.2.2.2.1 s.2.2.2.2.2.1 s.2.2.2.2.2.2.1 s.2.2.2.2.2.2.2) n ((0,([]:Lv),1,v8,(v8+v0),1,v8,(v8+v0)):bj)))
def sy(n:Nat)(v0 v1 v2 v3 v8:Int)(v9:Bool)(v10:Lv)(v11:Int):Option ap:=
 (bif !(v11<=20000000)then some (0,0,0,160)else bif(-9223372036854775808<=(v8+v0))&&((v8+v0)<=9223372036854775807)then r7 n v0 v1 v2 v3 v8 v9 v10 v11 else none)
def sn(n:Nat)(v0 v1 v2 v3 v8:Int)(v9:Bool)(v10:Lv)(v11:Int):Option ap:=
 (bif 0<=v11 then sy n v0 v1 v2 v3 v8 v9 v10 v11 else some (0,0,0,160))
def ll(n:Nat)(v0 v1 v2 v3 v8:Int)(v9:Bool)(v10:Lv)(v11:Int)(v12:Bool):Option ap:=
 (bif(!v12)then some (0,0,0,160)else sn n v0 v1 v2 v3 v8 v9 v10 v11)
def r8(n:Nat)(v0 v1 v2 v3 v4 v5 v6 v7 v8:Int)(v9:Bool)(v10:Lv)(v11:Int):Option ap:=
 (j4 n v0 v1 v2 v3 v4 v5 v6 v7 v8 v9 v10).bind fun y12=>
 ll n v0 v1 v2 v3 v8 v9 v10 v11 y12
def kw(n:Nat)(v0 v1 v2 v3 v4 v5 v6 v7 v8:Int)(v9:Bool)(v10:Lv)(v11:Int):Option ap:=r8 n v0 v1 v2 v3 v4 v5 v6 v7 v8 v9 v10 v11
def claim_Outcome_t:FnT:=⟨[(true,[.int,.int,.int,.int]),(true,[.int,.int,.int,.int,.int,.bool]),(false,[tSc]),(false,[.int])],(.tup (.cons (.agg (.cons .i (.cons .i (.cons .i .nil)))) (.cons .i .nil))),fun n (s:Int×Int×Int×Int×Int×Int×Int×Int×Int×Bool×Lv×Int)=>kw n s.1 s.2.1 s.2.2.1 s.2.2.2.1 s.2.2.2.2.1 s.2.2.2.2.2.1 s.2.2.2.2.2.2.1 s.2.2.2.2.2.2.2.1 s.2.2.2.2.2.2.2.2.1 s.2.2.2.2.2.2.2.2.2.1 s.2.2.2.2.2.2.2.2.2.2.1 s.2.2.2.2.2.2.2.2.2.2.2⟩
theorem Ap:claim_Outcome_t.ok Tryz.prog 32:=FnT.ok_of (cfg:=⟨[((162,5,32),.inv [(.tmp 24 .int),(.cellrow 12 12 3 (.cons .int .nil)),(.cell 13 0 .int),(.cell 13 1 .int),(.cell 13 2 .int),(.cell 27 0 .int),(.cell 27 1 .int),(.cell 27 2 .int)]),((164,1,42),.inv [(.cell 13 0 .int),(.cell 13 1 .int),(.cell 13 2 .int),(.cell 27 0 .int),(.cell 27 1 .int),(.cell 27 2 .int)]),((164,1,40),.inv [(.cell 13 0 .int),(.cell 13 1 .int),(.cell 13 2 .int),(.cell 27 0 .int),(.cell 27 1 .int),(.cell 27 2 .int)])],bc,[],aj⟩) aw rP av (fun s fn hf=>by rw[Tryz.func32]at hf;cases hf;kernel_rfl) (fun n s=>by kernel_rfl)
def claim_Outcome_T:Tab:=(32,claim_Outcome_t)::claim_Ends_T
theorem m7:claim_Outcome_T.ok Tryz.prog:=Tab.ok_cons Ap rP
abbrev ye:=Int×Int
def yB(n:Nat)(v0 v1 v2 v3 v4 v5 v6 v7 v8:Int)(v9:Bool)(v10:Lv)(v11:Int):Option ye:=
 (kw n v0 v1 v2 v3 v4 v5 v6 v7 v8 v9 v10 v11).bind fun y12=>
 (bif !(y12.2.2.2=0)then some (0,y12.2.2.2)else(bif y12.1=4 then some (v6,0)else(bif y12.1=5 then some (v6,0)else some (v5,0))))
def l8(n:Nat)(v0 v1 v2 v3 v4 v5 v6 v7 v8:Int)(v9:Bool)(v10:Lv)(v11:Int):Option ye:=yB n v0 v1 v2 v3 v4 v5 v6 v7 v8 v9 v10 v11
def claim_With_t:FnT:=⟨[(true,[.int,.int,.int,.int]),(true,[.int,.int,.int,.int,.int,.bool]),(false,[tSc]),(false,[.int])],(.tup (.cons .i (.cons .i .nil))),fun n (s:Int×Int×Int×Int×Int×Int×Int×Int×Int×Bool×Lv×Int)=>l8 n s.1 s.2.1 s.2.2.1 s.2.2.2.1 s.2.2.2.2.1 s.2.2.2.2.2.1 s.2.2.2.2.2.2.1 s.2.2.2.2.2.2.2.1 s.2.2.2.2.2.2.2.2.1 s.2.2.2.2.2.2.2.2.2.1 s.2.2.2.2.2.2.2.2.2.2.1 s.2.2.2.2.2.2.2.2.2.2.2⟩
theorem EV:claim_With_t.ok Tryz.prog 187:=FnT.ok_of (cfg:=⟨[],bc,[],aj⟩) aw m7 av (fun s fn hf=>by rw[Tryz.func187]at hf;cases hf;kernel_rfl) (fun n s=>by kernel_rfl)
def claim_With_T:Tab:=(187,claim_With_t)::claim_Outcome_T
theorem qV:claim_With_T.ok Tryz.prog:=Tab.ok_cons EV m7
end
end Go.Proofs.YtbfkkigbedmhgaaGreat
