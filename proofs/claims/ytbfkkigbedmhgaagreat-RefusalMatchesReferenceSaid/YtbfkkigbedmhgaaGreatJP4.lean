/-
  Texts of this claim, joined (part 4).
-/
import Derived.Test.YtbfkkigbedmhgaaGreatJP3
import Derived.RecoverIn
import Derived.Test.YtbfkkigbedmhgaaGreatProg
open Int renaming tdiv → v0, tmod → RJ, toNat → R8
open List renaming append_assoc → v1, mem_cons_of_mem → v5, mem_cons_self → v6, rec → v9, append_nil → y0, getElem?_map → y3, take → y8, getElem?_append_left → RK, modify → RL, nodup_cons → RN, getElem?_zipIdx → RO, length_append → RQ, drop → RR, flatMap_cons → RT, getElem?_cons_zero → RW, getElem?_cons_succ → RX, mem_filter → RZ, length → R0, nodup_nil → R1, replicate → R2, mem_of_getElem? → R4, getElem?_of_mem → R6, mem_singleton → R9, mem_append → Sb, length_map → Sc, map_append → Sd, mem_range → Sh
open Bool renaming and_eq_true → v2, rec → v7, or_eq_true → Sf
open Array renaming replicate → v3, getElem?_toList → v4, length_toList → y2, eq_empty_of_size_eq_zero → y9, all_eq_true_iff_forall_mem → RM, getElem?_setIfInBounds → RP, mem_of_getElem? → R3, size → R5
open Nat renaming beq → v8, eq_of_beq_eq_true → y1, le_refl → y7, zero_add → RU, strongRecOn → RY
open Option renaming getD_some → RV, isNone → R7, bind → Sa, map_some → Sg
set_option linter.unusedVariables false
set_option linter.unusedSimpArgs false
set_option linter.unusedSectionVars false
set_option linter.constructorNameAsVariable false
namespace Go.Sx
open Go Go.RowKit Go.Dial
variable {env:List AV} {κ κ':Nat->Value} {F F':Nat->Prop} {w w' w0:World} {U:Nat->Prop} {tmp:Nat->SV} {blk:Nat->Option SB} {L:Nat} {a:Act} {P:Program} {Post:R->Prop} {K:Nat->List AV->Prop} {cfg:Cfg} {run:Run} {ro:Option Nat}
theorem Ends.refl{σ:SS}(h:Rel w0 env κ F U σ.tmp σ.blk σ.L a w):Ends w0 env κ F U σ a w σ a w:=⟨κ,F,h.monoU (fun b hb=>.inl hb),Kept.refl,Marks.nil⟩
theorem Lg{σ:SS}:Leads P w0 ro .skip env σ .normal σ:=⟨y7 _,fun _ _ _ _ _ h _ _=>wpIn_skip ⟨rfl,Ends.refl h⟩⟩
theorem Lh{σ:SS}{id:Nat}:Leads P w0 ro (.exit id) env σ (.exit id) σ:=⟨y7 _,fun _ _ _ _ _ h _ _=>wpIn_exit ⟨rfl,Ends.refl h⟩⟩
theorem MC{σ:SS}:Leads P w0 ro .ret env σ .ret σ:=⟨y7 _,fun _ _ _ _ _ h _ _=>wpIn_ret ⟨rfl,Ends.refl h⟩⟩
theorem J1{σ:SS}{l:Nat}:Leads P w0 ro (.label l) env σ .normal σ:=⟨y7 _,fun _ _ _ _ _ h _ _=>wpIn_label ⟨rfl,Ends.refl h⟩⟩
theorem jr{b:Frame}{a:Act}{k:List Item}{cs:List Frame}{w:World}{c:Code}:step P (lone (b.atR a (.code (.scope c)::k)) cs w)=.next (lone (b.atR a (.code c::.inScope c::k)) cs w):=
 step_lone_go (by simp[stepG,stepG.exec,Frame.atR])
theorem Hg{b:Frame}{a:Act}{k:List Item}{cs:List Frame}{w:World}{c:Code}:step P (lone (b.atR a (.inScope c::k)) cs w)=.next (lone (b.atR a k) cs w):=
 step_lone_go (by simp[stepG,stepG.exec,Frame.atR])
theorem Li{F:Fence}{n:Nat}{c:Code}{Q:Exit->Act->World->Prop}{a:Act}{w:World}(hQ:∀l a w,¬Q (.goto l) a w)(h:c.wpIn F n P Q a w):(Code.scope c).wpIn F n P Q a w:=by
 intro b k cs hro hb hr;have h0:(lone (b.atR a (.code (.scope c)::k)) cs w).fenced P F:=fenced_calm hb hr rfl
 obtain⟨e,a₁,w₁,hq,harr⟩:=h b (.inScope c::k) cs hro hb hr;cases e with
 |normal=>exact⟨.normal,a₁,w₁,hq,.head h0 jr (StepsIn.trans harr (.one (fenced_calm hb hr rfl) Hg))⟩
 | exit id=>
  have hx:exitTo id (.inScope c::k)=exitTo id k:=by simp[exitTo]
  exact⟨.exit id,a₁,w₁,hq,fun k' hk=>.head h0 jr (harr.1 k' (by rw[hx];exact hk)),
   fun hr' hk=>let ⟨k₁,h1,h2⟩:=harr.2 hr' (by rw[hx];exact hk);⟨k₁,h1,.head h0 jr h2⟩⟩
 |goto l=>exact absurd hq (hQ l a₁ w₁)
 |ret=>exact⟨_,a₁,w₁,hq,.of_steps (.one h0 jr) harr⟩
 |panic ch=>exact⟨_,a₁,w₁,hq,.of_steps (.one h0 jr) harr⟩
 |outgrown=>exact⟨_,a₁,w₁,hq,.of_steps (.one h0 jr) harr⟩
theorem JV{c:Code}{σ σ':SS}{ex:Ex}(h1:Leads P w0 ro c env σ ex σ'):Leads P w0 ro (.scope c) env σ ex σ':=by
 refine⟨h1.le,fun κ F U a w h hU hro=>Li (fun l a w hq=>?_) (h1.go κ F U a w h hU hro)⟩
 have:=hq.1
 cases ex<;>cases this
theorem M9{x y:Code}{σ σ₁ σ₂:SS}{ex:Ex}(h1:Leads P w0 ro x env σ .normal σ₁)(h2:Leads P w0 ro y env σ₁ ex σ₂):Leads P w0 ro (.seq x y) env σ ex σ₂:=by
 have l1:=h1.le;have l2:=h2.le;refine⟨by omega,fun κ F U a w h hU hro=>wpIn_seq (wpIn_mono (h1.go κ F U a w h hU hro) ?_)⟩
 rintro e a' w' ⟨rfl,hE⟩;show y.wpIn (FR (dY κ ro)) 0 P _ a' w'
 exact MX l1 hE hU hro h2 (fun a'' w'' hE=>⟨rfl,hE⟩)
theorem pJ{x y:Code}{σ σ₁:SS}{ex:Ex}(hex:ex≠.normal)(h1:Leads P w0 ro x env σ ex σ₁):Leads P w0 ro (.seq x y) env σ ex σ₁:=by
 refine⟨h1.le,fun κ F U a w h hU hro=>wpIn_seq (wpIn_mono (h1.go κ F U a w h hU hro) ?_)⟩
 rintro e a' w' ⟨rfl,hE⟩;cases ex with
 |normal=>exact absurd rfl hex
 |exit id=>exact⟨rfl,hE⟩
 |ret=>exact⟨rfl,hE⟩
 |panic v=>exact⟨rfl,hE⟩
theorem qn{c:Operand}{x y:Code}{σ σ':SS}{ex:Ex}{e:E}{b:Bool}(he:σ.ev c=.vb e)(hb:(den env e).b=b)(h1:Leads P w0 ro (if b then x else y) env σ ex σ'):Leads P w0 ro (.cond c x y) env σ ex σ':=by
 refine⟨h1.le,fun κ F U a w h hU hro=>?_⟩
 have hv:=h.ev c;rw[<-jD,he]at hv;exact wpIn_cond (hv.1.trans (by rw[hb])) (h1.go κ F U a w h hU hro)
theorem lp{id:Nat}{c:Code}{σ σ':SS}{ex ex':Ex}(hex:ex'=match ex with|.exit i=>if i=id then .normal else .exit i|e=>e)(h1:Leads P w0 ro c env σ ex σ'):Leads P w0 ro (.block id c) env σ ex' σ':=by
 refine⟨h1.le,fun κ F U a w h hU hro=>wpIn_block (wpIn_mono (h1.go κ F U a w h hU hro) ?_)⟩
 rintro e a' w' ⟨rfl,hE⟩;subst hex;cases ex with
 |normal=>exact⟨rfl,hE⟩
 |ret=>exact⟨rfl,hE⟩
 |panic v=>exact⟨rfl,hE⟩
 |exit i=>
  show Exit.inBlock id _ (.exit i) a' w'
  unfold Exit.inBlock;simp only
  split
  ·exact⟨rfl,hE⟩
  ·exact⟨rfl,hE⟩
structure LeadsR (P:Program) (w0:World) (ro:Option Nat) (c:Code) (m:Nat) (env:List AV) (σ:SS) (ex:Ex) (σ':SS):Prop where
 le:σ.N<=σ'.N
 go:∀(κ:Nat->Value) (F U:Nat->Prop) (a:Act) (w:World),Rel w0 env κ F U σ.tmp σ.blk σ.L a w->(∀b,σ.N<=b->¬U b)->(∀b,ro=some b->U b) →
  Code.roundsIn (FR (dY κ ro)) 0 P c (fun e a' w'=>e=ex.exit'/\Ends w0 env κ F U σ a w σ' a' w') m a w
theorem LeadsR.loop{c:Code}{m:Nat}{σ σ':SS}{ex:Ex}(h:LeadsR P w0 ro c m env σ ex σ'):Leads P w0 ro (.loop c) env σ ex σ':=
 ⟨h.le,fun κ F U a w hr hU hro=>wpIn_loop_rounds m (h.go κ F U a w hr hU hro)⟩
theorem lR{Fc:Fence}{c:Code}{Q Q':Exit->Act->World->Prop}(hq:∀e a w,Q e a w->Q' e a w):∀(m:Nat) (a:Act) (w:World),Code.roundsIn Fc 0 P c Q m a w->Code.roundsIn Fc 0 P c Q' m a w
 |0,_,_,h=>h
 |m+1,a,w,h=>by
  rw[roundsIn_succ]at h⊢
  refine wpIn_mono h (fun e a' w' he=>?_)
  cases e with
  |normal=>exact lR hq m a' w' he
  |_=>exact hq _ _ _ he
theorem B8{c:Code}{m:Nat}{σ σ₁ σ₂:SS}{ex:Ex}(h1:Leads P w0 ro c env σ .normal σ₁)(h2:LeadsR P w0 ro c m env σ₁ ex σ₂):LeadsR P w0 ro c (m+1) env σ ex σ₂:=by
 have l1:=h1.le;have l2:=h2.le;refine⟨by omega,fun κ F U a w h hU hro=>?_⟩
 rw[roundsIn_succ];refine wpIn_mono (h1.go κ F U a w h hU hro) ?_
 rintro e a' w' ⟨rfl,κ1,F1,r1,k1,m1⟩;show Code.roundsIn _ 0 P c _ m a' w'
 rw[<-ew (κ:=κ) (κ':=κ1) (ro:=ro) (fun b hb=>k1.kap b (hro b hb))]
 refine lR ?_ m a' w' (h2.go κ1 F1 _ a' w' r1 (fun b h2 hb=>?_) (fun b hb=>.inl (hro b hb)))
 ·rintro e a'' w'' ⟨rfl,h4⟩
  exact⟨rfl,Ends.trans l1 l2 r1 k1 m1 h4⟩
 ·rcases hb with hb|hb
  ·exact hU b (by omega) hb
  ·omega
theorem m0{c:Code}{σ σ':SS}{ex:Ex}(hex:ex≠.normal)(h1:Leads P w0 ro c env σ ex σ'):LeadsR P w0 ro c 1 env σ ex σ':=by
 refine⟨h1.le,fun κ F U a w h hU hro=>?_⟩
 rw[roundsIn_succ];refine wpIn_mono (h1.go κ F U a w h hU hro) ?_
 rintro e a' w' ⟨rfl,hE⟩;cases ex with
 |normal=>exact absurd rfl hex
 |exit id=>exact⟨rfl,hE⟩
 |ret=>exact⟨rfl,hE⟩
 |panic v=>exact⟨rfl,hE⟩
theorem Rel.forget(h:Rel w0 env κ F U tmp blk L a w){tmp':Nat->SV}(ht:∀t,tmp' t=.any\/tmp' t=tmp t):Rel w0 env κ F U tmp' blk L a w:=
 { h with
  tmps:=fun t=>by rcases ht t with e|e;rw[e];trivial;rw[e];exact h.tmps t
  tnames:=fun t b hb=>by rcases ht t with e|e;rw[e]at hb;cases hb;rw[e]at hb;exact h.tnames t b hb }
theorem J3(ds:List Nat)(locs:List Loc):∀σ:SS,(∀t,(forget ds locs σ).tmp t=.any\/(forget ds locs σ).tmp t=σ.tmp t)/\(forget ds locs σ).L=σ.L/\(forget ds locs σ).N=σ.N/\(forget ds locs σ).blk=σ.blk/\(forget ds locs σ).n=σ.n/\(forget ds locs σ).known=σ.known/\(forget ds locs σ).dep=σ.dep:=by
 unfold forget;induction ds with
 |nil=>intro σ;exact⟨fun t=>.inr rfl,rfl,rfl,rfl,rfl,rfl,rfl⟩
 | cons d ds ih=>
  intro σ;simp only[List.foldl_cons];split
  ·exact ih σ
  ·obtain⟨h1,h2,h3,h4,h5,h6,h7⟩:=ih (σ.put (some d) .any)
   refine⟨fun t=>?_,h2,h3,h4,h5,h6,h7⟩
   rcases h1 t with e|e
   ·exact .inl e
   ·rw[e]
    by_cases hd:d<σ.L
    ·obtain⟨g1,_⟩:=eZ σ (dst:=some d) (v:=.any) (fun x hx=>by cases hx;exact hd)
     rw[g1];simp only[fP,upd];split
     ·exact .inl rfl
     ·exact .inr rfl
    ·by_cases ht:t<σ.L
     ·right
      have:v8 d t=false:=by rw[<-Bool.not_eq_true,Nat.beq_eq];omega
      show(Ov.put σ.rf d .any).get .any t=σ.rf.get .any t
      unfold Ov.get Ov.put;simp only[this]
     ·left;exact Ov.get_out (by show σ.L<=t;omega)
theorem C9{rsE:List AV}{σ₀ σ:SS}{κE:Nat->Value}{FE U₀:Nat->Prop}{aE:Act}{wE:World}{env':List AV}(hE:Rel w0 (env++rsE) κE FE U₀ σ₀.tmp σ₀.blk σ₀.L aE wE)(k:Kept U₀ σ₀.blk κE FE wE σ.blk κ F w)(h:Rel w0 env' κ F U σ.tmp σ.blk σ.L a w):
  ∀b i st p i',σ₀.blk b=some (.loop i st p)->σ.blk b=some (.loop i' st p)->SBden (env++rsE) κ F w0.heap.size w b (.loop i st p)/\∀c∈(SB.loop i st p).names,U₀ c:=by
 intro b i st p i' h0 h1;obtain⟨hUb,hnm⟩:=hE.bnames b _ h0;refine⟨?_,hnm⟩
 obtain⟨l,r,q1,q2,q3,q4,q5,q6,q7,q8,q9,q10⟩:=hE.blks b _ h0;obtain⟨l',r',p1,p2,p3,p4,p5,_⟩:=h.blks b _ h1;have hk:=k.kap b hUb;rw[p1,q1]at hk;have:l'=l:=by injection hk with h1;injection h1 with h1;injection h1
 subst this;obtain⟨r2,s1,s2,s3,s4,s5⟩:=k.recs l' r q2;rw[p2]at s1;have:r'=r2:=by injection s1 with s1;injection s1
 subst this;exact⟨l',r',p1,p2,p3,p4,p5,s2.trans q6,s3.trans q7,s4.trans q8,by rw[s5];exact q9,fun t=>by rw[s5];exact k.sv hE (q10 t) (zn hE h0 t)⟩
theorem M8{U₀:Nat->Prop}{blk0 blk1 blkh:Nat->Option SB}{κE κ1:Nat->Value}{FE F1:Nat->Prop}{wE w1:World}{N M:Nat}(k:Kept U₀ blk0 κE FE wE blk1 κ1 F1 w1)(hκ:∀b,¬(N<=b/\b<M)->κ' b=κ1 b)(hU:∀b,N<=b->b<M->¬U₀ b)
  (hw:∀b j,aD (blkh b)=true->ak (κ' b)=some j->∃c,aD (blk1 c)=true/\ak (κ1 c)=some j):Kept U₀ blk0 κE FE wE blkh κ' F1 w1:=
 { k with
  kap:=fun b hb=>(hκ b (fun hh=>hU b hh.1 hh.2 hb)).trans (k.kap b hb)
  prov:=fun b j h1 h2=>by obtain⟨c,h3,h4⟩:=hw b j h1 h2;exact k.prov c j h3 h4 }
theorem CV{σ:SS}:∀ {locs:List Loc} {rows:List (Option Nat)} {es:E} {xs:List AV},nh σ locs=some (rows,es)->xs.length=locs.length->(gm (locs.map Loc.sort) xs).map AV.ty=locs.map Loc.sort
 |[],_,_,xs,_,_=>rfl
 |x::l,rows,es,[],_,hl=>by simp at hl
 | x :: l,rows,es,y::xs,h,hl=>by
  simp only[nh]at h;split at h
  ·rename_i b e bs es' h1 h2
   show(co x.sort y).ty::(gm (l.map Loc.sort) xs).map AV.ty=x.sort::l.map Loc.sort
   rw[CV h2 (by simpa using hl)]
   congr 1
   have leafs:∀ {sv:SV} {e:E} {u:Ty},rU sv u=some e->(co u y).ty=u:=fun{sv} {e} {u} hh=>by
    unfold rU at hh;split at hh
    ·rfl
    ·split at hh
     ·rename_i e' u' hl
      split at hh
      ·rename_i hu;subst hu
       cases sv<;>simp only[SV.leaf]at hl<;>cases hl<;>rfl
      ·cases hh
     ·cases hh
   cases x with
   |tmp t s=>
    simp only[da]at h1;split at h1
    ·rename_i e' hlf;exact leafs hlf
    ·cases h1
   | cell c o s=>
    simp only[da]at h1;split at h1
    ·rename_i e' hlf
     obtain⟨sv,_,q2⟩:=Option.bind_eq_some_iff.1 hlf;exact leafs q2
    ·cases h1
   |tmprow _ _ _=>rfl
   |cellrow _ _ _ _=>rfl
   |inrow _ _ _=>rfl
  ·cases h
theorem Is{α:Type}(l:List Loc)(k:List Loc->α):fL IA l k=k l:=kU Pv l k
theorem FA{fid id N₀:Nat}{c:Code}{locs:List Loc}{ds:List Nat}{body:(Ex->SS->T)->SS->T}(ih:∀(Post:R->Prop) (K:Nat->List AV->Prop) (k:Ex->SS->T) (σ:SS) (env:List AV),env.length=σ.n->KnownOK env σ.n σ.known->(body k σ).den P Post env K->Path P Post w0 ro c env K σ k)
  {k:Ex->SS->T} {σ:SS} (hn:env.length=σ.n) (hk:KnownOK env σ.n σ.known) (h:(A6 fid id N₀ locs ds body k σ).den P Post env K):Path P Post w0 ro (.loop c) env K σ k:=by
 unfold A6 at h;simp only[Is,SS.go_eq,Bi,SS.all_eq]at h;obtain⟨g1,g2,g3,g4,g5,g6,g7⟩:=J3 ds locs σ;obtain⟨σ₀,hσ₀⟩:∃σ₀,σ₀=forget ds locs σ:=⟨_,rfl⟩
 rw[<-hσ₀]at h g1 g2 g3 g4 g5 g6 g7;split at h
 ·exact h.elim
 rename_i taken es htails
 split at h
 rotate_left
 ·exact h.elim
 rename_i hc
 rw[v2]at hc;obtain⟨c1,c2⟩:=hc;obtain⟨I,μ,h0,hround⟩:=h;have hn0:env.length=σ₀.n:=by rw[g5];exact hn
 obtain⟨hd,hhd⟩:∃hd,hd=fQ locs taken σ₀:=⟨_,rfl⟩
 rw[<-hhd]at c2 hround;have hhN:hd.N=σ₀.N+locs.length:=by rw[hhd];rfl
 have hhn:hd.n=σ₀.n+locs.length:=by rw[hhd];rfl
 have hhk:hd.known=σ₀.known:=by rw[hhd];rfl
 have key:∀(v:Nat) (vs:List AV),μ vs=v->vs.map AV.ty=locs.map Loc.sort->I vs->∃(m:Nat) (ex:Ex) (σ':SS) (rsT:List AV) (K':Nat->List AV->Prop),(k ex σ').den P Post (env++rsT) K'/\(∀l,l<σ.dep->K' l=K l)/\σ'.dep=σ.dep/\KnownOK (env++rsT) σ'.n σ'.known/\(env++rsT).length=σ'.n/\hd.N<=σ'.N ∧
   ∀ (us rsE:List AV) (κE:Nat->Value) (FE U₀:Nat->Prop) (aE:Act) (wE:World),Rel w0 (env++rsE) κE FE U₀ σ₀.tmp σ₀.blk σ₀.L aE wE->(∀b,σ₀.N<=b->¬U₀ b)->(∀b,ro=some b->U₀ b) →
    ∀(κ:Nat->Value) (F:Nat->Prop) (a:Act) (w:World),(∀x,Rel w0 (env++(vs++x)) κ F (fun b=>U₀ b\/(σ₀.N<=b/\b<hd.N)) hd.tmp hd.blk hd.L a w)->Kept U₀ σ₀.blk κE FE wE hd.blk κ F w->Marks wE aE.defers F w a.defers →
     Code.roundsIn (FR (dY κE ro)) 0 P c (fun e a' w'=>e=ex.exit'/\Ends w0 (env++rsT++us) κE FE U₀ σ₀ aE wE σ' a' w') m a w:=by
  intro v;induction v using RY with
  | _ v ihv=>
   intro vs hv hty hI;have hvl:vs.length=locs.length:=by have:=congrArg R0 hty;simpa using this
   obtain⟨ex₁,σ₁,rs₁,K₁,q1,q2,q3,q4,q5,q6⟩:=ih Post _ _ { hd with dep:=σ.dep+1 } (env++vs) (by rw[RQ,hn0,hvl];exact hhn.symm) (by show KnownOK (env++vs) hd.n hd.known;rw[hhn,hhk,g6];exact(by rw[<-g5]at hk;exact hk.ext hn0 (Nat.le_add_right _ _))) (hround vs hty hI)
   have hle1:hd.N<=σ₁.N:=(q6 []).le
   have fin:∀(m₂:Nat) (ex₂:Ex) (σ₂:SS) (rs₂:List AV) (K₂:Nat->List AV->Prop),(k ex₂ { σ₂ with dep:=σ.dep }).den P Post (env++vs++rs₂) K₂->(∀l,l<σ.dep->K₂ l=K l)->KnownOK (env++vs++rs₂) σ₂.n σ₂.known->(env++vs++rs₂).length=σ₂.n->(∀us,LeadsR P w0 ro c m₂ (env++vs++rs₂++us) { hd with dep:=σ.dep+1 } ex₂ σ₂)->∃(m:Nat) (ex:Ex) (σ':SS) (rsT:List AV) (K':Nat->List AV->Prop),(k ex σ').den P Post (env++rsT) K'/\(∀l,l<σ.dep->K' l=K l)/\σ'.dep=σ.dep/\KnownOK (env++rsT) σ'.n σ'.known/\(env++rsT).length=σ'.n/\hd.N<=σ'.N ∧
     ∀ (us rsE:List AV) (κE:Nat->Value) (FE U₀:Nat->Prop) (aE:Act) (wE:World),Rel w0 (env++rsE) κE FE U₀ σ₀.tmp σ₀.blk σ₀.L aE wE->(∀b,σ₀.N<=b->¬U₀ b)->(∀b,ro=some b->U₀ b) →
      ∀(κ:Nat->Value) (F:Nat->Prop) (a:Act) (w:World),(∀x,Rel w0 (env++(vs++x)) κ F (fun b=>U₀ b\/(σ₀.N<=b/\b<hd.N)) hd.tmp hd.blk hd.L a w)->Kept U₀ σ₀.blk κE FE wE hd.blk κ F w->Marks wE aE.defers F w a.defers →
       Code.roundsIn (FR (dY κE ro)) 0 P c (fun e a' w'=>e=ex.exit'/\Ends w0 (env++rsT++us) κE FE U₀ σ₀ aE wE σ' a' w') m a w:=by
    intro m₂ ex₂ σ₂ rs₂ K₂ r1 r2 r3 r4 r5;have hle2:hd.N<=σ₂.N:=(r5 []).le
    refine⟨m₂,ex₂,{ σ₂ with dep:=σ.dep },vs++rs₂,K₂,by rw[<-v1];exact r1,r2,rfl,by rw[<-v1];exact r3,by rw[<-v1];exact r4,hle2,?_⟩
    intro us rsE κE FE U₀ aE wE hE hfr hro κ F a w hH hK hM;rw[<-ew (κ:=κE) (κ':=κ) (ro:=ro) (fun b hb=>hK.kap b (hro b hb))]
    have hr:=hH (rs₂++us);have e1:env++vs++rs₂++us=env++(vs++(rs₂++us)):=by simp
    have e2:env++(vs++rs₂)++us=env++(vs++(rs₂++us)):=by simp
    have hl:=r5 us;rw[e1]at hl;refine lR ?_ m₂ a w (hl.go κ F _ a w hr (fun b h1 hb=>?_) (fun b hb=>.inl (hro b hb)))
    ·rintro e a' w' ⟨rfl,κ1,F1,r1,k1,m1⟩
     refine⟨rfl,?_⟩
     rw[e2];refine⟨κ1,F1,?_,hK.trans k1 (fun b hb=>.inl hb),hM.trans hr k1 hK.size m1⟩
     refine r1.monoU (fun b hb=>?_)
     rcases hb with(hb|hb)|hb
     ·exact .inl hb
     ·exact .inr ⟨hb.1,by show b<σ₂.N;omega⟩
     ·exact .inr ⟨by have:hd.N<=b:=hb.1;omega,hb.2⟩
    ·have h1:hd.N<=b:=h1
     rcases hb with hb|hb
     ·exact hfr b (by omega) hb
     ·omega
   have out:ex₁≠.normal->(Cc id locs σ₀ hd σ.dep body k ex₁ σ₁)=k ex₁ { σ₁ with dep:=σ.dep }->∃(m:Nat) (ex:Ex) (σ':SS) (rsT:List AV) (K':Nat->List AV->Prop),(k ex σ').den P Post (env++rsT) K'/\(∀l,l<σ.dep->K' l=K l)/\σ'.dep=σ.dep/\KnownOK (env++rsT) σ'.n σ'.known/\(env++rsT).length=σ'.n/\hd.N<=σ'.N ∧
     ∀ (us rsE:List AV) (κE:Nat->Value) (FE U₀:Nat->Prop) (aE:Act) (wE:World),Rel w0 (env++rsE) κE FE U₀ σ₀.tmp σ₀.blk σ₀.L aE wE->(∀b,σ₀.N<=b->¬U₀ b)->(∀b,ro=some b->U₀ b) →
      ∀(κ:Nat->Value) (F:Nat->Prop) (a:Act) (w:World),(∀x,Rel w0 (env++(vs++x)) κ F (fun b=>U₀ b\/(σ₀.N<=b/\b<hd.N)) hd.tmp hd.blk hd.L a w)->Kept U₀ σ₀.blk κE FE wE hd.blk κ F w->Marks wE aE.defers F w a.defers →
       Code.roundsIn (FR (dY κE ro)) 0 P c (fun e a' w'=>e=ex.exit'/\Ends w0 (env++rsT++us) κE FE U₀ σ₀ aE wE σ' a' w') m a w:=by
    intro hne heq;rw[heq]at q1;exact fin 1 ex₁ σ₁ rs₁ K₁ q1 (fun l hl=>by rw[q2 l (by show l<σ.dep+1;omega),ag (by omega)]) q4 q5 (fun us=>m0 hne (q6 us))
   have more:ex₁=.normal->(body (fun e σ'=>match e with|.normal=>T.stop id "the loop turns more" | e=>k e { σ' with dep:=σ.dep }) σ₁).den P Post (env++vs++rs₁) K₁->∃(m:Nat) (ex:Ex) (σ':SS) (rsT:List AV) (K':Nat->List AV->Prop),(k ex σ').den P Post (env++rsT) K'/\(∀l,l<σ.dep->K' l=K l)/\σ'.dep=σ.dep/\KnownOK (env++rsT) σ'.n σ'.known/\(env++rsT).length=σ'.n/\hd.N<=σ'.N ∧
     ∀ (us rsE:List AV) (κE:Nat->Value) (FE U₀:Nat->Prop) (aE:Act) (wE:World),Rel w0 (env++rsE) κE FE U₀ σ₀.tmp σ₀.blk σ₀.L aE wE->(∀b,σ₀.N<=b->¬U₀ b)->(∀b,ro=some b->U₀ b) →
      ∀(κ:Nat->Value) (F:Nat->Prop) (a:Act) (w:World),(∀x,Rel w0 (env++(vs++x)) κ F (fun b=>U₀ b\/(σ₀.N<=b/\b<hd.N)) hd.tmp hd.blk hd.L a w)->Kept U₀ σ₀.blk κE FE wE hd.blk κ F w->Marks wE aE.defers F w a.defers →
       Code.roundsIn (FR (dY κE ro)) 0 P c (fun e a' w'=>e=ex.exit'/\Ends w0 (env++rsT++us) κE FE U₀ σ₀ aE wE σ' a' w') m a w:=by
    intro he hmore;obtain⟨ex₂,σ₂,rs₂,K₂,r1,r2,r3,r4,r5,r6⟩:=ih Post _ _ σ₁ (env++vs++rs₁) q5 q4 hmore;have hne:ex₂≠.normal:=by rintro rfl;exact r1.elim
    have r1':(k ex₂ { σ₂ with dep:=σ.dep }).den P Post (env++vs++rs₁++rs₂) K₂:=by
     cases ex₂ with
     |normal=>exact r1.elim
     |exit j=>exact r1
     |ret=>exact r1
     |panic v=>exact r1
    have e3:env++vs++rs₁++rs₂=env++vs++(rs₁++rs₂):=by simp
    refine fin 2 ex₂ σ₂ (rs₁++rs₂) K₂ (by rw[<-e3];exact r1') (fun l hl=>?_) (by rw[<-e3];exact r4) (by rw[<-e3];exact r5) (fun us=>?_)
    ·rw[r2 l (by rw[q3];show l<σ.dep+1;omega),q2 l (by show l<σ.dep+1;omega),ag (by omega)]
    ·have h1:=q6 (rs₂++us)
     have h2:=r6 us;rw[<-v1]at h1;rw[<-e3];subst he;exact B8 h1 (m0 hne h2)
   cases ex₁ with
   |exit j=>exact out (fun h=>by cases h) rfl
   |ret=>exact out (fun h=>by cases h) rfl
   |panic v=>exact out (fun h=>by cases h) rfl
   | normal=>
    unfold Cc at q1;simp only[Bi]at q1;split at q1
    rotate_left
    ·exact more rfl q1
    rename_i rows es' htl
    split at q1
    rotate_left
    ·exact more rfl q1
    rename_i hfc
    rw[v2]at hfc;have hag:K₁ σ.dep (den (env++vs++rs₁) es').g:=q1
    rw[q2 σ.dep (Nat.lt_succ_self _),au]at hag;have hty':=CV (xs:=(den (env++vs++rs₁) es').g) htl (qi (env:=env++vs++rs₁) locs rows es' htl).2.1;obtain⟨m,ex,σ',rsT,K',p1,p2,p3,p4,p5,p6,p7⟩:=ihv (μ (gm (locs.map Loc.sort) (den (env++vs++rs₁) es').g)) (by rw[<-hv];exact hag.2) _ rfl hty' hag.1
    refine⟨m+1,ex,σ',rsT,K',p1,p2,p3,p4,p5,p6,?_⟩
    intro us rsE κE FE U₀ aE wE hE hfr hro κ F a w hH hK hM;rw[roundsIn_succ];have hr:=hH rs₁;have hl:=q6 [];have e0:env++vs++rs₁++[]=env++(vs++rs₁):=by simp
    rw[e0]at hl;rw[<-ew (κ:=κE) (κ':=κ) (ro:=ro) (fun b hb=>hK.kap b (hro b hb))]
    refine wpIn_mono (hl.go κ F _ a w hr (fun b h1 hb=>?_) (fun b hb=>.inl (hro b hb))) ?_
    ·have h1:hd.N<=b:=h1
     rcases hb with hb|hb
     ·exact hfr b (by omega) hb
     ·omega
    rintro e a' w' ⟨rfl,κ1,F1,r1,k1,m1⟩;show Code.roundsIn (FR (dY κ ro)) 0 P c _ m a' w'
    rw[ew (κ:=κE) (κ':=κ) (ro:=ro) (fun b hb=>hK.kap b (hro b hb))]
    have K1:=hK.trans k1 (fun b hb=>.inl hb)
    have M1:=hM.trans hr k1 hK.size m1;obtain⟨f1,κ',f2,f3,f4⟩:=I2 (taken:=taken) (rows:=rows) (es:=es') hn0 r1 htl (by rw[<-hhd];exact hfc.1) (U₀:=U₀) (fun b hb hlt=>by
     rcases hb with(hb|hb)|hb
     ·exact hb
     ·omega
     ·have:hd.N<=b:=hb.1;omega) (rsE:=rsE) (C9 hE K1 r1)
    rw[<-hhd]at f3 f4;have hvs:gm (locs.map Loc.sort) (den (env++vs++rs₁) es').g=(den (env++(vs++rs₁)) es').g:=by
     rw[v1];exact xq _ _ f1
    refine p7 us rsE κE FE U₀ aE wE hE hfr hro κ' F1 a' w' (fun x=>?_) (M8 K1 f2 (fun b h1 _=>hfr b h1) f4) M1
    rw[hvs,hhN];exact f3 x
 obtain⟨m,ex,σ',rsT,K',p1,p2,p3,p4,p5,p6,p7⟩:=key _ _ rfl (CV (xs:=(den env es).g) htails (qi (env:=env) locs taken es htails).2.1) h0
 refine⟨ex,σ',rsT,K',p1,p2,p3,p4,p5,fun us=>LeadsR.loop (m:=m) ⟨by omega,fun κ F U a w hr hU hro=>?_⟩⟩
 have hE:Rel w0 (env++(rsT++us)) κ F U σ₀.tmp σ₀.blk σ₀.L a w:=by
  rw[g4,g2,<-v1];exact hr.forget g1
 obtain⟨f1,κ',f2,f3,f4⟩:=I2 (taken:=taken) (rows:=taken) (es:=es) hn0 hE htails (by rw[<-hhd];exact c2) (U₀:=U) (fun b hb _=>hb) (rsE:=rsT++us) (C9 hE Kept.refl hE)
 rw[<-hhd]at f3 f4;have hes:(den (env++(rsT++us)) es).g=(den env es).g:=by rw[kR hn0 c1]
 rw[hes]at f1 f3;have:=p7 us (rsT++us) κ F U a w hE (fun b h1=>hU b (by omega)) hro κ' F a w (fun x=>by rw[xq _ _ f1,hhN];exact f3 x) (M8 Kept.refl f2 (fun b h1 _=>hU b (by omega)) f4) Marks.nil
 refine lR ?_ m a w this
 rintro e a' w' ⟨he,hEnd⟩;refine⟨he,?_⟩
 unfold Ends at hEnd⊢
 rw[g3,g4]at hEnd;exact hEnd
theorem B6{id:Nat}{c:Code}{body:(Ex->SS->T)->SS->T}(ih:∀(Post:R->Prop) (K:Nat->List AV->Prop) (k:Ex->SS->T) (σ:SS) (env:List AV),env.length=σ.n->KnownOK env σ.n σ.known->(body k σ).den P Post env K->Path P Post w0 ro c env K σ k)
  {k:Ex->SS->T}:∀(n:Nat) (σ:SS) (env:List AV) (K:Nat->List AV->Prop),env.length=σ.n->KnownOK env σ.n σ.known->(unroll id body k n σ).den P Post env K →
  ∃(m:Nat) (ex:Ex) (σ':SS) (rs:List AV) (K':Nat->List AV->Prop),(k ex σ').den P Post (env++rs) K'/\(∀l,l<σ.dep->K' l=K l)/\σ'.dep=σ.dep/\KnownOK (env++rs) σ'.n σ'.known/\(env++rs).length=σ'.n/\∀us,LeadsR P w0 ro c m (env++rs++us) σ ex σ'
 |0,σ,env,K,_,_,h=>h.elim
 | n+1,σ,env,K,hn,hk,h=>by
  have h:(body (fun e σ'=>match e with|.normal=>unroll id body k n σ'|e=>k e σ') σ).den P Post env K:=h
  obtain⟨ex,σ₁,rs,K₁,q1,q2,q3,q4,q5,q6⟩:=ih Post K _ σ env hn hk h;cases ex with
  |normal=>
   obtain⟨m,ex,σ',rs',K',p1,p2,p3,p4,p5,p6⟩:=B6 ih n σ₁ (env++rs) K₁ q5 q4 q1;refine⟨m+1,ex,σ',rs++rs',K',by rw[<-v1];exact p1,fun l hl=>(p2 l (by rw[q3];exact hl)).trans (q2 l hl),p3.trans q3,by rw[<-v1];exact p4,by rw[<-v1];exact p5,fun us=>?_⟩
   have h1:=q6 (rs'++us);have h2:=p6 us;rw[<-v1]at h1;rw[<-v1];exact B8 h1 h2
  |panic v=>exact⟨1,.panic v,σ₁,rs,K₁,q1,q2,q3,q4,q5,fun us=>m0 (fun h=>by cases h) (q6 us)⟩
  |exit j=>exact⟨1,.exit j,σ₁,rs,K₁,q1,q2,q3,q4,q5,fun us=>m0 (fun h=>by cases h) (q6 us)⟩
  |ret=>exact⟨1,.ret,σ₁,rs,K₁,q1,q2,q3,q4,q5,fun us=>m0 (fun h=>by cases h) (q6 us)⟩
theorem Jt(locs:List Loc)(k:SS->T)(σ:SS):Bh locs k σ=k σ\/∃bs,Bh locs k σ=k (σ.write (bi σ.blk bs)):=by
 unfold Bh;split
 ·exact .inl rfl
 ·rename_i b bs _;exact .inr ⟨b::bs,SS.go_eq _ _⟩
theorem LW{σ σ':SS}{bs:List Nat}{c:Code}{ex:Ex}(h:Leads P w0 ro c env σ ex σ'):Leads P w0 ro c env σ ex (σ'.write (bi σ'.blk bs)):=by
 have hw:=mp σ' bs;obtain⟨f,d,g,y4,_⟩:=cU σ' _ hw.1;rw[hw.2]at d;refine⟨by rw[d];exact h.le,fun κ F U a w hr hU hro=>wpIn_mono (h.go κ F U a w hr hU hro) ?_⟩
 rintro e a' w' ⟨he,κ',F',r,k,m⟩;obtain⟨F1,r1,k1⟩:=r.freeze bs;have m1:=m.next r k1;rw[<-f]at r1 k1;rw[<-g,<-y4]at r1;exact⟨he,κ',F1,by rw[d];exact r1,k.trans k1 (fun b hb=>.inl hb),m1⟩
theorem Path.iced{c:Code}{σ:SS}{k:Ex->SS->T}{bs:List Nat}(h:Path P Post w0 ro c env K (σ.write (bi σ.blk bs)) k):Path P Post w0 ro c env K σ k:=by
 obtain⟨b,d,e,y4,y5,y6,a⟩:=cU σ _ (mp σ bs).1;obtain⟨ex,σ',rs,K',q1,q2,q3,q4,q5,q6⟩:=h;exact⟨ex,σ',rs,K',q1,fun l hl=>q2 l (by rw[a];exact hl),by rw[q3,a],q4,q5,fun us=>z8 (mp σ bs) (q6 us)⟩
theorem F8{c:Code}{locs:List Loc}{body:(Ex->SS->T)->SS->T}(ih:∀(Post:R->Prop) (K:Nat->List AV->Prop) (k:Ex->SS->T) (σ:SS) (env:List AV),env.length=σ.n->KnownOK env σ.n σ.known->(body k σ).den P Post env K->Path P Post w0 ro c env K σ k)
  (Post:R->Prop) (K:Nat->List AV->Prop) (k:Ex->SS->T) (σ:SS) (env:List AV) (hn:env.length=σ.n) (hk:KnownOK env σ.n σ.known) (h:(body (rx locs k) σ).den P Post env K):Path P Post w0 ro c env K σ k:=by
 obtain⟨ex,σ',rs,K',q1,q2,q3,q4,q5,q6⟩:=ih Post K _ σ env hn hk h;cases ex with
 |exit j=>exact⟨.exit j,σ',rs,K',q1,q2,q3,q4,q5,q6⟩
 |ret=>exact⟨.ret,σ',rs,K',q1,q2,q3,q4,q5,q6⟩
 |panic v=>exact⟨.panic v,σ',rs,K',q1,q2,q3,q4,q5,q6⟩
 | normal=>
  unfold rx at q1;simp only at q1
  rcases Jt locs (k .normal) σ' with e|⟨bs,e⟩
  ·rw[e]at q1;exact⟨.normal,σ',rs,K',q1,q2,q3,q4,q5,q6⟩
  ·rw[e]at q1
   obtain⟨b,d,f,y4,y5,y6,a⟩:=cU σ' _ (mp σ' bs).1;exact⟨.normal,_,rs,K',q1,q2,a.trans q3,by rw[y5,y6];exact q4,by rw[y5];exact q5,fun us=>LW (q6 us)⟩
theorem Ih{fid id:Nat}{c:Code}{locs:List Loc}{ds:List Nat}{body:(Ex->SS->T)->SS->T}(ih:∀(Post:R->Prop) (K:Nat->List AV->Prop) (k:Ex->SS->T) (σ:SS) (env:List AV),env.length=σ.n->KnownOK env σ.n σ.known->(body k σ).den P Post env K->Path P Post w0 ro c env K σ k)
  {k:Ex->SS->T} {σ:SS} (hn:env.length=σ.n) (hk:KnownOK env σ.n σ.known) (h:(Bo fid id locs ds body k σ).den P Post env K):Path P Post w0 ro (.loop c) env K σ k:=by
 unfold Bo at h;simp only[Is]at h;rcases Jt locs (A6 fid id σ.N locs ds (fun k=>body (rx locs k)) k) σ with e|⟨bs,e⟩
 ·rw[e]at h
  exact FA (body:=fun k=>body (rx locs k)) (fun Post K k σ env=>F8 ih Post K k σ env) hn hk h
 ·rw[e]at h
  obtain⟨a,b,d,y4,y5,y6,f⟩:=cU σ _ (mp σ bs).1;exact Path.iced (FA (body:=fun k=>body (rx locs k)) (fun Post K k σ env=>F8 ih Post K k σ env) (by rw[y5];exact hn) (by rw[y5,y6];exact hk) h)
theorem Path.stay{c:Code}{σ:SS}{k:Ex->SS->T}{ex:Ex}(hn:env.length=σ.n)(hk:KnownOK env σ.n σ.known)(h:(k ex σ).den P Post env K)(hl:∀env,Leads P w0 ro c env σ ex σ):Path P Post w0 ro c env K σ k:=
 ⟨ex,σ,[],K,by rw[y0];exact h,fun _ _=>rfl,rfl,by rw[y0];exact hk,by rw[y0];exact hn,fun _=>hl _⟩
theorem Lt(hrun:qL P w0 run)(hfit:PFit P){fid:Nat}{g:Operand}{ps:Array Tmp}{assign body:Code}{k:Ex->SS->T}{σ:SS}(hn:env.length=σ.n)(hk:KnownOK env σ.n σ.known)(h:(CY P run ro fid (σ.ev g) ps assign body k σ).den P Post env K):Path P Post w0 ro (.rangeFunc g ps assign body) env K σ k:=by
 unfold CY at h;split at h
 rotate_left
 ·exact h.elim
 rename_i f fs xs hg
 split at h
 rotate_left
 ·exact h.elim
 rename_i fn hfn
 split at h
 rotate_left
 ·exact h.elim
 rename_i c hb
 simp only[kU j5,SS.go_eq]at h;split at h
 rotate_left
 ·exact h.elim
 rename_i hc
 simp only[v2]at hc;obtain⟨⟨_,c2⟩,c3⟩:=hc;obtain⟨d,e,j,y4⟩:=Ap (σ:=σ) (b:=σ.N) (y:=some (.loop ⟨fid,σ.rf,ps,assign,body⟩ .ready .none)) (y7 _)
 obtain⟨_,_,_,_,y5,y6,a⟩:=cU σ [(σ.N,some (.loop ⟨fid,σ.rf,ps,assign,body⟩ .ready .none))] ⟨y7 _,trivial⟩;obtain⟨ex,σ',rs,K',q1,q2,q3,q4,q5,q6⟩:=hrun Post K none f c _ ((σ.write [(σ.N,some (.loop ⟨fid,σ.rf,ps,assign,body⟩ .ready .none))]).frame (fs.list++[.yld σ.N]++xs.list) fn.ntmps) env (hn.trans y5.symm) (by have hk':=hk;rw[<-y5,<-y6]at hk';exact hk') h
 have hdep:((σ.write [(σ.N,some (.loop ⟨fid,σ.rf,ps,assign,body⟩ .ready .none))]).frame (fs.list++[.yld σ.N]++xs.list) fn.ntmps).dep=σ.dep:=a
 rw[hdep]at q2 q3;have hout:ex.out=true:=by
  cases ex with
  |normal=>rfl
  |ret=>rfl
  |exit id=>exact False.elim q1
  |panic v=>exact False.elim q1
 have hfin:ex.out=true/\∃i st p,σ'.blk σ.N=some (.loop i st p)/\st≠.busy/\(k p.ex { σ'.write [(σ.N,none)]with rf:=σ.rf }).den P Post (env++rs) K':=by
  unfold Jg at q1;split at q1
  ·exact q1.elim
  ·exact q1.elim
  ·rename_i i st p hnx hnp hblk
   simp only[SS.go_eq]at q1;split at q1
   ·rename_i hst
    refine⟨hout,i,st,p,hblk,by simpa using hst,?_⟩
    cases p<;>exact q1
   ·exact q1.elim
  ·exact q1.elim
 obtain⟨hex,i,st,p,hblk,hst,hden⟩:=hfin;obtain⟨_,_,_,_,z5,z6,z7⟩:=cU σ' [(σ.N,none)] ⟨by have:=fH hblk;omega,trivial⟩
 refine⟨p.ex,{ σ'.write [(σ.N,none)]with rf:=σ.rf },rs,K',hden,q2,z7.trans q3,by have q4':=q4;rw[<-z5,<-z6]at q4';exact q4',q5.trans z5.symm,fun us=>?_⟩
 exact J2 hfit hg hfn hb (fun b hb'=>by subst hb';simpa using c3) c2 hex (q6 us) hblk hst
theorem N6(hrun:qL P w0 run)(hfit:PFit P){fid:Nat}(c:Code):∀(Post:R->Prop) (K:Nat->List AV->Prop) (k:Ex->SS->T) (σ:SS) (env:List AV),env.length=σ.n->KnownOK env σ.n σ.known->(sym P cfg run ro fid c k σ).den P Post env K->Path P Post w0 ro c env K σ k:=by
 induction c with
 |skip=>intro Post K k σ env hn hk h;exact Path.stay hn hk h (fun _=>Lg)
 |exit id=>intro Post K k σ env hn hk h;exact Path.stay hn hk h (fun _=>Lh)
 |ret=>intro Post K k σ env hn hk h;exact Path.stay hn hk h (fun _=>MC)
 |region id ops draw=>intro Post K k σ env hn hk h;exact HG hrun hfit hn hk h
 |rangeFunc g ps x y ih1 ih2=>intro Post K k σ env hn hk h;exact Lt hrun hfit hn hk h
 | seq x y ih1 ih2=>
  intro Post K k σ env hn hk h;simp only[sym]at h;obtain⟨ex,σ₁,rs,K₁,q1,q2,q3,q4,q5,q6⟩:=ih1 Post K _ σ env hn hk h;cases ex with
  |normal=>
   obtain⟨ex,σ',rs',K',p1,p2,p3,p4,p5,p6⟩:=ih2 Post K₁ k σ₁ (env++rs) q5 q4 q1;refine⟨ex,σ',rs++rs',K',by rw[<-v1];exact p1,fun l hl=>(p2 l (by rw[q3];exact hl)).trans (q2 l hl),p3.trans q3,by rw[<-v1];exact p4,by rw[<-v1];exact p5,fun us=>?_⟩
   have h1:=q6 (rs'++us);have h2:=p6 us;rw[<-v1]at h1;rw[<-v1];exact M9 h1 h2
  |panic v=>exact⟨.panic v,σ₁,rs,K₁,q1,q2,q3,q4,q5,fun us=>pJ (fun h=>by cases h) (q6 us)⟩
  |exit j=>exact⟨.exit j,σ₁,rs,K₁,q1,q2,q3,q4,q5,fun us=>pJ (fun h=>by cases h) (q6 us)⟩
  |ret=>exact⟨.ret,σ₁,rs,K₁,q1,q2,q3,q4,q5,fun us=>pJ (fun h=>by cases h) (q6 us)⟩
 | cond c x y ih1 ih2=>
  intro Post K k σ env hn hk h;simp only[sym]at h;unfold KI at h;split at h
  ·rename_i e he
   split at h
   ·rename_i ht
    obtain⟨ex,σ',rs,K',q1,q2,q3,q4,q5,q6⟩:=ih1 Post K k σ env hn hk h;exact⟨ex,σ',rs,K',q1,q2,q3,q4,q5,fun us=>qn (b:=true) he (by rw[v1];exact oa (hk.ext' hn) ht) (q6 us)⟩
   ·rename_i ht
    obtain⟨ex,σ',rs,K',q1,q2,q3,q4,q5,q6⟩:=ih2 Post K k σ env hn hk h;exact⟨ex,σ',rs,K',q1,q2,q3,q4,q5,fun us=>qn (b:=false) he (by rw[v1];exact oa (hk.ext' hn) ht) (q6 us)⟩
   ·split at h
    ·rename_i hs
     obtain⟨h1,h2⟩:=h;cases hb:(den env e).b with
     |true=>
      obtain⟨ex,σ',rs,K',q1,q2,q3,q4,q5,q6⟩:=ih1 Post K k (σ.learn e true) env hn (iM hk hs hb) (h1 hb);exact⟨ex,σ',rs,K',q1,q2,q3,q4,q5,fun us=>qn (b:=true) he (by rw[v1,kR hn hs];exact hb) ((q6 us).same ⟨rfl,rfl,rfl,rfl⟩ ⟨rfl,rfl,rfl,rfl⟩)⟩
     |false=>
      obtain⟨ex,σ',rs,K',q1,q2,q3,q4,q5,q6⟩:=ih2 Post K k (σ.learn e false) env hn (iM hk hs hb) (h2 hb);exact⟨ex,σ',rs,K',q1,q2,q3,q4,q5,fun us=>qn (b:=false) he (by rw[v1,kR hn hs];exact hb) ((q6 us).same ⟨rfl,rfl,rfl,rfl⟩ ⟨rfl,rfl,rfl,rfl⟩)⟩
    ·exact h.elim
  ·exact h.elim
 | block id c ih=>
  intro Post K k σ env hn hk h;simp only[sym]at h;obtain⟨ex,σ',rs,K',q1,q2,q3,q4,q5,q6⟩:=ih Post K _ σ env hn hk h;unfold Ku at q1;cases ex with
  |normal=>exact⟨.normal,σ',rs,K',q1,q2,q3,q4,q5,fun us=>lp rfl (q6 us)⟩
  |ret=>exact⟨.ret,σ',rs,K',q1,q2,q3,q4,q5,fun us=>lp rfl (q6 us)⟩
  |panic v=>exact⟨.panic v,σ',rs,K',q1,q2,q3,q4,q5,fun us=>lp rfl (q6 us)⟩
  |exit i=>
   simp only at q1
   split at q1
   ·rename_i hi;exact⟨.normal,σ',rs,K',q1,q2,q3,q4,q5,fun us=>lp (by simp only;rw[if_pos hi]) (q6 us)⟩
   ·rename_i hi;exact⟨.exit i,σ',rs,K',q1,q2,q3,q4,q5,fun us=>lp (by simp only;rw[if_neg hi]) (q6 us)⟩
 | loop c ih=>
  intro Post K k σ env hn hk h;simp only[sym]at h;unfold Kt at h;simp only at h
  split at h
  ·obtain⟨m,ex,σ',rs,K',p1,p2,p3,p4,p5,p6⟩:=B6 ih _ σ env K hn hk h
   exact⟨ex,σ',rs,K',p1,p2,p3,p4,p5,fun us=>(p6 us).loop⟩
  ·exact Ih ih hn hk h
  ·exact Ih ih hn hk h
 |label l=>intro Post K k σ env hn hk h;exact Path.stay hn hk h (fun _=>J1)
 |scope c ih=>
  intro Post K k σ env hn hk h;simp only[sym]at h;obtain⟨ex,σ',rs,K',q1,q2,q3,q4,q5,q6⟩:=ih Post K k σ env hn hk h;exact⟨ex,σ',rs,K',q1,q2,q3,q4,q5,fun us=>JV (q6 us)⟩
 |_=>intro Post K k σ env hn hk h;exact h.elim
theorem qQ(hfit:PFit P):∀n,qL P w0 (Cn P cfg n)
 |0=>fun _ _ _ _ _ _ _ _ _ _ h=>h.elim
 |n+1=>fun Post K ro fid c k σ env hn hk h=>N6 (qQ hfit n) hfit c Post K k σ env hn hk h
variable {env:List AV} {κ κ':Nat->Value} {F F':Nat->Prop} {w w' w0:World} {U:Nat->Prop} {tmp:Nat->SV} {blk:Nat->Option SB} {L:Nat} {a:Act} {P:Program}
def kI:List Nat->World->World
 |[],w=>w
 |D::Ds,w=>kI Ds (w.putObj D (.deferred none))
theorem u4:∀(Ds:List Nat) (w:World),Rel w0 env κ F U tmp blk L a w->Ds.Nodup->(∀D∈Ds,w0.heap.size<=D/\w.heap[D]?=some (.deferred (some []))/\¬F D)->Rel w0 env κ F U tmp blk L a (kI Ds w)
 |[],_,h,_,_=>h
 |D::Ds,w,h,hnd,hD=>by
  rw[RN]at hnd;obtain⟨h1,h2,h3⟩:=hD D v6;refine u4 Ds _ (h.shut h2 h3 h1) hnd.2 (fun E hE=>?_)
  obtain⟨g1,g2,g3⟩:=hD E (v5 _ hE);exact⟨g1,(World.putObj_heap_other (fun e:E=D=>hnd.1 (by rw[<-e];exact hE))).trans g2,g3⟩
theorem sp{blk':Nat->Option SB}:∀(Ds:List Nat) (v:World),Kept U blk κ F w blk' κ' F' v->(∀D∈Ds,w.heap.size<=D)->Kept U blk κ F w blk' κ' F' (kI Ds v)
 |[],_,h,_=>h
 |D::Ds,_,h,hD=>sp Ds _ (h.shut (hD D v6)) (fun E hE=>hD E (v5 _ hE))
theorem yX{Fc:Fence}{n:Nat}{R:Ending->World->Prop}{fn:Func}{tm:Array Value}{u:FrameMode}{ds:List Deferred}(hu:u≠.run):∀(Ds:List Nat) (w':World),Ds.Nodup->(∀D∈Ds,w'.heap[D]?=some (.deferred (some [])))->LeavesInM Fc n P fn tm R ds u (kI Ds w')->LeavesInM Fc n P fn tm R (Ds.map jh++ds) u w'
 |[],_,_,_,h=>h
 |D::Ds,w',hnd,hD,h=>by
  rw[RN]at hnd;refine⟨hu,.inl ⟨D,w'.putObj D (.deferred none),rfl,run_takeDeferred (hD D v6),?_⟩⟩
  exact yX hu Ds _ hnd.2 (fun E hE=>(World.putObj_heap_other (fun e:E=D=>hnd.1 (by rw[<-e];exact hE))).trans (hD E (v5 _ hE))) h
theorem uY{Fc:Fence}{n:Nat}{cs:List Frame}:∀(Ds:List Nat) (fr:Frame) (w:World),fr.mode≠.run->fr.defers=Ds.map jh->Fc.fn fr.fn->Fc.room (cs.length+1+n)->Ds.Nodup->(∀D∈Ds,w.heap[D]?=some (.deferred (some []))) →
  StepsIn (Machine.fenced P Fc) P (lone fr cs w) (lone { fr with defers:=[] } cs (kI Ds w))
 |[],fr,w,_,hd,_,_,_,_=>by
  have:({ fr with defers:=[] }:Frame)=fr:=by cases fr;simp only[List.map_nil]at hd;subst hd;rfl
  rw[this];exact StepsIn.refl _
 |D::Ds,fr,w,hm,hd,hF,hr,hnd,hD=>by
  rw[RN]at hnd;have h1:=step_collected (P:=P) (cs:=cs) hm hd (r:=D) rfl (run_takeDeferred (P:=P) (hD D v6));have i1:(lone fr cs w).fenced P Fc:=fenced_out hF hr hm hd (fun g hg=>by simp[jh,Target.leads]at hg)
  refine .head i1 h1 ?_
  exact uY (cs:=cs) (n:=n) Ds { fr with defers:=[]++Ds.map jh } _ hm rfl hF hr hnd.2 (fun E hE=>(World.putObj_heap_other (fun e:E=D=>hnd.1 (by rw[<-e];exact hE))).trans (hD E (v5 _ hE)))
def Bx(P:Program)(fn:Func)(c₀:Frame)(cs:List Frame)(R:Ending->FrameMode->World->Prop):Exit->Act->List Frame->World->Prop
 |.normal,a,cs',w|.ret,a,cs',w=>∃Ds u',a.defers=Ds.map jh/\Ds.Nodup/\(∀D∈Ds,w.heap[D]?=some (.deferred (some [])))/\cs'={ c₀ with mode:=u' }::cs/\∃v,(results fn a.tmps).run P (kI Ds w)=.ok v (kI Ds w)/\R (.returned v) u' (kI Ds w)
 |_,_,_,_=>False
theorem Fu{Fc:Fence}{n:Nat}{f:FuncId}{fn:Func}{c:Code}{args:Array Value}{u:FrameMode}{R:Ending->FrameMode->World->Prop}
  (hf:P.funcs[f]?=some fn) (hb:fn.body=some c) (hF:Fc.fn f)
  (h:∀(c₀:Frame) (cs:List Frame),c₀.mode=u->c.wpSIn Fc n P (Bx P fn c₀ cs R) { tmps:=args++v3 (fn.ntmps-args.size) undef,defers:=[] } (c₀::cs) w):CallsDIn Fc n P f args u w R:=by
 refine⟨hF,fun c₀ cs hu hroom=>?_⟩
 let b:Frame:={ (default:Frame)with fn:=f,kind:=.deferred,roundOf:=none }
 have henter:Frame.enter P f args .deferred=b.atR { tmps:=args++v3 (fn.ntmps-args.size) undef,defers:=[] } [.code c]:=by
  simp[Frame.enter,Frame.atR,hf,hb,b]
 obtain⟨e,a',cs',w',hl,hq,harr⟩:=h c₀ cs hu b [] rfl rfl hF hroom;rw[<-henter]at harr;cases e with
 |normal=>
  obtain⟨Ds,u',hd,hnd,hD,rfl,v,hr,hR⟩:=hq;have s2:=uY (P:=P) (cs:={ c₀ with mode:=u' }::cs) (n:=n) Ds { b.atR a' []with mode:=.returning } w' (by simp) hd hF hroom hnd hD
  exact⟨.returned v,u',_,_,hR,StepsIn.trans harr (StepsIn.trans (.one (fenced_calm (fr:=b.atR a' []) hF hroom rfl) (stepR_end rfl)) s2),rfl,rfl,rfl,rfl,fn,hf,hr⟩
 |ret=>
  obtain⟨Ds,u',hd,hnd,hD,rfl,v,hr,hR⟩:=hq;obtain⟨todo,hs⟩:=harr.1 rfl;have s2:=uY (P:=P) (cs:={ c₀ with mode:=u' }::cs) (n:=n) Ds { b.atR a' todo with mode:=.returning } w' (by simp) hd hF hroom hnd hD
  exact⟨.returned v,u',_,_,hR,StepsIn.trans hs s2,rfl,rfl,rfl,rfl,fn,hf,hr⟩
 |panic chain=>exact hq.elim
 |exit id=>exact hq.elim
 |goto l=>exact hq.elim
 |outgrown=>exact hq.elim
theorem H8{l:List Oper}{r q:Nat}(h:Bf l=some (r,q)):∃o o',l=[o,o']/\o.dst=some r/\(∃c,o.op=.call c/\c.callee=.builtin .recover)/\o.guard=none/\o'.dst=some q/\o'.op=.assign (.tmp r)/\o'.guard=none:=by
 unfold Bf at h;split at h
 ·split at h
  ·rename_i e
   cases h
   exact⟨_,_,rfl,rfl,⟨_,rfl,rfl⟩,rfl,rfl,by rw[e],rfl⟩
  ·cases h
 ·cases h
theorem Nf{c:Code}{rg:RecG}(h:E7 c=some rg):c=.seq (.region rg.id rg.ops false) rg.rest/\Bf rg.ops.toList=some (rg.r,rg.q):=by
 unfold E7 at h;split at h
 ·obtain⟨x,hx,rfl⟩:=Option.map_eq_some_iff.1 h
  exact⟨rfl,hx⟩
 ·cases h
theorem xB(v:Value):SVden env κ F w (cD v) v/\(cD v).names=[]:=by
 unfold cD;split
 ·exact⟨rfl,rfl⟩
 ·split
  ·rename_i t cs h
   refine⟨⟨_,rfl,cs,rfl,rfl,?_⟩,rfl⟩
   have:cs=#[]:=y9 h
   subst this;rfl
  ·exact⟨trivial,rfl⟩
 ·exact⟨trivial,rfl⟩
theorem Je{n:Nat}{ops:Array Oper}{Q:Exit->Act->List Frame->World->Prop}{i:Nat}{rest:List Nat}{o:Oper}{u:Value}{cs:List Frame}(ho:ops[i]?=some o)(hg:o.guard=none)(hr:(execOp a.eval o).run P w=.ok (.value u) w)
  (h:wpOpsSIn (FR none) n P ops Q rest (a.put o.dst u) cs w):wpOpsSIn (FR none) n P ops Q (i::rest) a cs w:=by
 simp only[wpOpsSIn,ho];refine⟨fun _ _=>trivial,?_⟩
 rw[show Region.wanted o (yielded ops a.tmps)=true by simp[Region.wanted,hg],if_pos rfl,hr]
 exact h
theorem EJ{n:Nat}{ops:Array Oper}{Q:Exit->Act->List Frame->World->Prop}{i:Nat}{rest:List Nat}{o:Oper}{cs:List Frame}(ho:ops[i]?=some o)(hg:o.guard=none)(hr:(execOp a.eval o).run P w=.ok .recover w)
  (h:match recoverD cs with
   |some (v,cs')=>wpOpsSIn (FR none) n P ops Q rest (a.put o.dst v) cs' w
   |none=>wpOpsSIn (FR none) n P ops Q rest (a.put o.dst .nilIface) cs w):wpOpsSIn (FR none) n P ops Q (i::rest) a cs w:=by
 simp only[wpOpsSIn,ho];refine⟨fun _ _=>trivial,?_⟩
 rw[show Region.wanted o (yielded ops a.tmps)=true by simp[Region.wanted,hg],if_pos rfl,hr]
 exact h
theorem Gf{g:Nat}{gfn:Func}{gc:Code}{rg:RecG}(hg:P.funcs[g]?=some gfn)(hgb:gfn.body=some gc)(hrg:E7 gc=some rg)(hres:gfn.results.size=0){xs:List SV}{σ2 σ4:SS}{v:Value}{u:FrameMode}
  (hu:u=.returning/\v=.nilIface\/u=.panicking (ij v)) (hr1:rg.r<(σ2.frame xs gfn.ntmps).L) (hr2:rg.q<(σ2.frame xs gfn.ntmps).L) {ex4:Ex} (hex4:ex4.out=true)
  (l4:Leads P w0 none rg.rest env (((σ2.frame xs gfn.ntmps).put (some rg.r) (cD v)).put (some rg.q) (cD v)) ex4 σ4) {cs:Array Value}
  (hfr:Rel w0 env κ F U (σ2.frame xs gfn.ntmps).tmp (σ2.frame xs gfn.ntmps).blk (σ2.frame xs gfn.ntmps).L { tmps:=cs++v3 (gfn.ntmps-cs.size) undef,defers:=[] } w) (hU:∀b,σ2.N<=b->¬U b) (hB:w0.heap.size<=w.heap.size):
  CallsDIn (FR none) 0 P g cs u w fun e u' w'=>∃val,e=.returned val/\settle u'=.returning/\∃κ' F' a',Rel w0 env κ' F' (fun b=>U b\/(σ2.N<=b/\b<σ4.N)) σ4.tmp σ4.blk σ4.L a' w'/\Kept U σ2.blk κ F w σ4.blk κ' F' w':=by
 obtain⟨hgc,hops⟩:=Nf hrg;obtain⟨o,o',hl,d1,⟨c,op1,ce1⟩,gd1,d2,op2,gd2⟩:=H8 hops;have hsz:rg.ops.size=2:=by rw[<-y2,hl];rfl
 have e0:rg.ops[0]?=some o:=by rw[<-v4,hl];rfl
 have e1:rg.ops[1]?=some o':=by rw[<-v4,hl];rfl
 subst hgc;refine Fu hg hgb trivial (fun c₀ rest hmode=>wpSIn_seq (wpSIn_region ?_))
 rw[hsz];show wpOpsSIn _ _ _ _ _ [0,1] _ _ _
 obtain⟨a0,ha0⟩:∃a0:Act,a0={ tmps:=cs++v3 (gfn.ntmps-cs.size) undef,defers:=[] }:=⟨_,rfl⟩
 rw[<-ha0]at hfr⊢
 have hrec:(execOp a0.eval o).run P w=.ok .recover w:=by
  simp only[execOp,op1,resolve,ce1,Sem.run_bind,Sem.run_pure,Result.andThen_ok,invoke,builtin]
 obtain⟨a1,ha1⟩:∃a1:Act,a1=(a0.put (some rg.r) v).put (some rg.q) v:=⟨_,rfl⟩
 have hev:(a0.put (some rg.r) v).eval (.tmp rg.r)=v:=by
  simp only[Act.eval,Act.put];rw[eT (by rw[hfr.size];exact hr1),if_pos rfl]
 obtain⟨p1,p2,p3,_,_,p4,_⟩:=eZ (σ2.frame xs gfn.ntmps) (dst:=some rg.r) (v:=cD v) (fun d hd=>by cases hd;exact hr1)
 obtain⟨q1,q2,q3,_,_,q4,_⟩:=eZ ((σ2.frame xs gfn.ntmps).put (some rg.r) (cD v)) (dst:=some rg.q) (v:=cD v) (fun d hd=>by cases hd;rw[p4];exact hr2)
 have hrel:Rel w0 env κ F U (((σ2.frame xs gfn.ntmps).put (some rg.r) (cD v)).put (some rg.q) (cD v)).tmp (((σ2.frame xs gfn.ntmps).put (some rg.r) (cD v)).put (some rg.q) (cD v)).blk (((σ2.frame xs gfn.ntmps).put (some rg.r) (cD v)).put (some rg.q) (cD v)).L a1 w:=by
  rw[q1,q2,q4,p1,p2,p4,ha1];have h1:=hfr.put (dst:=some rg.r) (v:=cD v) (u:=v) (fun d hd=>by cases hd;exact hr1) (xB v).1 (fun b hb=>by rw[(xB (env:=env) (κ:=κ) (F:=F) (w:=w) v).2]at hb;cases hb)
  exact h1.put (dst:=some rg.q) (v:=cD v) (u:=v) (fun d hd=>by cases hd;exact hr2) (xB v).1 (fun b hb=>by rw[(xB (env:=env) (κ:=κ) (F:=F) (w:=w) v).2]at hb;cases hb)
 have hN:(((σ2.frame xs gfn.ntmps).put (some rg.r) (cD v)).put (some rg.q) (cD v)).N=σ2.N:=by rw[q3,p3];rfl
 have hblk:(((σ2.frame xs gfn.ntmps).put (some rg.r) (cD v)).put (some rg.q) (cD v)).blk=σ2.blk:=by rw[q2,p2];rfl
 have hdef:a1.defers=[]:=by rw[ha1,ha0];rfl
 have fin:∀(u':FrameMode),settle u'=.returning->rg.rest.wpSIn (FR none) 0 P (Bx P gfn c₀ rest fun e u' w'=>∃val,e=.returned val/\settle u'=.returning/\∃κ' F' a',Rel w0 env κ' F' (fun b=>U b\/(σ2.N<=b/\b<σ4.N)) σ4.tmp σ4.blk σ4.L a' w'/\Kept U σ2.blk κ F w σ4.blk κ' F' w') a1 ({ c₀ with mode:=u' }::rest) w:=by
  intro u' hu';refine wpSIn_of_wpIn rfl (wpIn_mono (l4.go κ F U a1 w hrel (by rw[hN];exact hU) (fun b hb=>by cases hb)) ?_)
  rintro e a' w' ⟨rfl,κ',F',r,k,Ds,m1,m2,m3⟩;rw[hN]at r;rw[hblk]at k;have key:Bx P gfn c₀ rest (fun e u' w'=>∃val,e=.returned val/\settle u'=.returning/\∃κ' F' a',Rel w0 env κ' F' (fun b=>U b\/(σ2.N<=b/\b<σ4.N)) σ4.tmp σ4.blk σ4.L a' w'/\Kept U σ2.blk κ F w σ4.blk κ' F' w') .normal a' ({ c₀ with mode:=u' }::rest) w':=by
   refine⟨Ds,u',by rw[m1,hdef,y0],m2,fun D hD=>(m3 D hD).2.1,rfl,pack [],uZ (us:=[]) (by simp[hres]) (fun i x u hx hu=>by simp at hu),pack [],rfl,hu',κ',F',a',?_,?_⟩
   ·exact u4 Ds w' r m2 (fun D hD=>⟨by have:=(m3 D hD).1;omega,(m3 D hD).2⟩)
   ·exact sp Ds w' k (fun D hD=>(m3 D hD).1)
  cases ex4 with
  |normal=>exact key
  |ret=>exact key
  |exit id=>cases hex4
  |panic v=>cases hex4
 have tail:∀cs',rg.rest.wpSIn (FR none) 0 P (Bx P gfn c₀ rest fun e u' w'=>∃val,e=.returned val/\settle u'=.returning/\∃κ' F' a',Rel w0 env κ' F' (fun b=>U b\/(σ2.N<=b/\b<σ4.N)) σ4.tmp σ4.blk σ4.L a' w'/\Kept U σ2.blk κ F w σ4.blk κ' F' w') a1 cs' w->wpOpsSIn (FR none) 0 P rg.ops (Exit.thenS (rg.rest.wpSIn (FR none) 0 P (Bx P gfn c₀ rest fun e u' w'=>∃val,e=.returned val/\settle u'=.returning/\∃κ' F' a',Rel w0 env κ' F' (fun b=>U b\/(σ2.N<=b/\b<σ4.N)) σ4.tmp σ4.blk σ4.L a' w'/\Kept U σ2.blk κ F w σ4.blk κ' F' w')) (Bx P gfn c₀ rest fun e u' w'=>∃val,e=.returned val/\settle u'=.returning/\∃κ' F' a',Rel w0 env κ' F' (fun b=>U b\/(σ2.N<=b/\b<σ4.N)) σ4.tmp σ4.blk σ4.L a' w'/\Kept U σ2.blk κ F w σ4.blk κ' F' w')) [1] (a0.put o.dst v) cs' w:=fun cs' h=>by
  refine Je e1 gd2 (u:=v) (by rw[d1];simp only[execOp,op2,hev,Sem.run_pure]) ?_
  rw[d1,d2,<-ha1];exact h
 refine EJ e0 gd1 hrec ?_
 rcases hu with⟨rfl,rfl⟩|rfl
 ·have:recoverD (c₀::rest)=none:=by simp only[recoverD,hmode]
  rw[this];refine tail _ ?_
  have hc:({ c₀ with mode:=FrameMode.returning }:Frame)=c₀:=by rw[<-hmode]
  have:=fin .returning rfl
  rw[hc]at this;exact this
 ·have:recoverD (c₀::rest)=some (v,{ c₀ with mode:=.panicking ({ v,recovered:=true }::[]) }::rest):=by simp only[recoverD,hmode,ij]
  rw[this];exact tail _ (fin _ rfl)
theorem J4{l:List Oper}{d g:Nat}{cap:Array Operand}(h:Er l=some (d,g,cap)):∃o o' first c,l=[o,o']/\o.dst=some d/\o.op=.makeFunc (.func g) first cap/\first.size=0/\o.guard=none/\o'.dst=none/\o'.op=.defer c/\c.callee=.value (.tmp d)/\c.args.size=0/\o'.guard=none:=by
 unfold Er at h;split at h
 ·split at h
  ·rename_i hh
   obtain⟨e,h1,h2⟩:=hh;cases h
   exact⟨_,_,_,_,rfl,rfl,rfl,h1,rfl,rfl,rfl,by rw[e],h2,rfl⟩
  ·cases h
 ·cases h
theorem MP{c:Code}{ri:RecI}(h:LL c=some ri):c=.seq ri.c0 (.seq (.region ri.id ri.ops false) ri.rest)/\Er ri.ops.toList=some (ri.d,ri.g,ri.cap):=by
 unfold LL at h;split at h
 ·obtain⟨x,hx,rfl⟩:=Option.map_eq_some_iff.1 h
  exact⟨rfl,hx⟩
 ·cases h
theorem k9{n:Nat}{ops:Array Oper}{Q:Exit->Act->World->Prop}{i:Nat}{rest:List Nat}{o:Oper}{u:Value}(ho:ops[i]?=some o)(hg:o.guard=none)(hd:∀c,o.op≠.defer c)(hr:(execOp a.eval o).run P w=.ok (.value u) w)
  (h:wpOpsIn (FR none) n P ops Q rest (a.put o.dst u) w):wpOpsIn (FR none) n P ops Q (i::rest) a w:=by
 simp only[wpOpsIn,ho];rw[show Region.wanted o (yielded ops a.tmps)=true by simp[Region.wanted,hg],if_pos rfl]
 refine⟨fun _ _=>trivial,?_⟩
 rw[Oper.semAt_eq _ _ _ hd,hr,Oper.uponIn_value];exact h
theorem Kn{n:Nat}{ops:Array Oper}{Q:Exit->Act->World->Prop}{i:Nat}{rest:List Nat}{o:Oper}{d:Deferred}(ho:ops[i]?=some o)(hg:o.guard=none)(hr:(execOp a.eval o).run P w=.ok (.defer d) w)
  (h:wpOpsIn (FR none) n P ops Q rest ({ a with defers:=d::a.defers }.put o.dst undef) w):wpOpsIn (FR none) n P ops Q (i::rest) a w:=by
 simp only[wpOpsIn,ho];rw[show Region.wanted o (yielded ops a.tmps)=true by simp[Region.wanted,hg],if_pos rfl]
 refine⟨fun _ _=>trivial,?_⟩
 rw[show(FR none).round=none from rfl,Oper.semAt_none,hr,Oper.uponIn_defer]
 exact h
theorem HR(hfit:PFit P){f:Nat}{fn:Func}{c:Code}(hfn:P.funcs[f]?=some fn)(hb:fn.body=some c){ri:RecI}(hri:LL c=some ri){gfn:Func}{gc:Code}{rg:RecG}(hg:P.funcs[ri.g]?=some gfn)(hgb:gfn.body=some gc)(hrg:E7 gc=some rg)(hres0:gfn.results.size=0)
  {σ σ1 σ2 σ4:SS} {xs:List SV} (hxs:xs=ri.cap.toList.map σ1.ev) (hd:ri.d<σ1.L) (l1:Leads P w0 none ri.c0 env σ .normal σ1) {ex2:Ex} {v:Value} (l2:Leads P w0 none ri.rest env (σ1.put (some ri.d) (.fn ri.g .nil (.of xs))) ex2 σ2)
  (h2:(ex2.out=true/\v=.nilIface)\/ex2=.panic v) (hr1:rg.r<(σ2.frame xs gfn.ntmps).L) (hr2:rg.q<(σ2.frame xs gfn.ntmps).L) {ex4:Ex} (hex4:ex4.out=true)
  (l4:Leads P w0 none rg.rest env (((σ2.frame xs gfn.ntmps).put (some rg.r) (cD v)).put (some rg.q) (cD v)) ex4 σ4) {vs:Array Value}
  (hr:Rel w0 env κ F U σ.tmp σ.blk σ.L { tmps:=vs++v3 (fn.ntmps-vs.size) undef,defers:=[] } w) (hU:∀b,σ.N<=b->¬U b) {rs:List SV} (hres:bU P { σ4 with rf:=σ2.rf } fn.results.toList=some rs):
  Calls P f vs w (Af w0 env κ F U σ.blk σ.N w { σ4 with rf:=σ2.rf } rs):=by
 obtain⟨hc,hops⟩:=MP hri;obtain⟨o,o',first,dc,hl,d1,op1,hfirst,gd1,d2,op2,cal,hargs,gd2⟩:=J4 hops;have hfirst:first=#[]:=y9 hfirst
 have hargs:dc.args=#[]:=y9 hargs
 subst hfirst;have hsz:ri.ops.size=2:=by rw[<-y2,hl];rfl
 have e0:ri.ops[0]?=some o:=by rw[<-v4,hl];rfl
 have e1:ri.ops[1]?=some o':=by rw[<-v4,hl];rfl
 obtain⟨p1,p2,p3,_,_,p4,_⟩:=eZ σ1 (dst:=some ri.d) (v:=.fn ri.g .nil (.of xs)) (fun d hd'=>by cases hd';exact hd)
 have n1:=l1.le;have n2:=l2.le;rw[p3]at n2;have n4:σ2.N<=σ4.N:=by
  have:=l4.le
  have q1:=(eZ (σ2.frame xs gfn.ntmps) (dst:=some rg.r) (v:=cD v) (fun d hd'=>by cases hd';exact hr1))
  have q2:=(eZ ((σ2.frame xs gfn.ntmps).put (some rg.r) (cD v)) (dst:=some rg.q) (v:=cD v) (fun d hd'=>by cases hd';rw[q1.2.2.2.2.2.1];exact hr2))
  rw[q2.2.2.1,q1.2.2.1]at this;exact this
 refine pe (ro:=none) (n:=0) (callsIn_of_wp_marks hfn hb trivial ?_)
 rw[hc];refine wpIn_seq (wpIn_mono (l1.go κ F U _ w hr hU (fun b hb=>by cases hb)) ?_)
 rintro e a1 w1 ⟨rfl,κ1,F1,r1,k1,m1⟩;show Code.wpIn (FR none) 0 P _ _ a1 w1
 refine wpIn_seq (wpIn_region ?_)
 rw[hsz];show wpOpsIn _ _ _ _ _ [0,1] _ _
 obtain⟨fv,hfv⟩:∃fv:Value,fv=.func (.func ri.g) #[] (ri.cap.map a1.eval):=⟨_,rfl⟩
 refine k9 e0 gd1 (fun c hc'=>by rw[op1]at hc';cases hc') (u:=fv) (by simp[execOp,op1,Instr.makeFunc,hfv]) ?_
 have hev:(a1.put o.dst fv).eval (.tmp ri.d)=fv:=by
  rw[d1];simp only[Act.eval,Act.put];rw[eT (by rw[r1.size];exact hd),if_pos rfl]
 refine Kn e1 gd2 (d:={ target:=.fn (.func ri.g) (ri.cap.map a1.eval),args:=#[] }) (by
  rw[hfv]at hev⊢
  simp only[execOp,op2,resolve,cal,hev,Deferred.ofValue,hargs,Sem.run_bind,Sem.run_pure,Result.andThen_ok,Array.map_empty,Array.append_empty]) ?_
 rw[d1,d2];show Code.wpIn (FR none) 0 P _ _ _ w1
 obtain⟨a2,ha2⟩:∃a2:Act,a2={ (a1.put (some ri.d) fv)with defers:={ target:=.fn (.func ri.g) (ri.cap.map a1.eval),args:=#[] }::a1.defers }:=⟨_,rfl⟩
 have hxe:xs=ri.cap.toList.map (ai σ1.tmp):=by rw[hxs];exact List.map_congr_left fun x _=>by rw[jD]
 have hcaps:SVden env κ1 F1 w1 (.of xs) (.tuple (ri.cap.map a1.eval)):=by rw[hxe];exact Fg r1 ri.cap
 have hxn:∀x∈xs,∀b∈x.names,U b\/(σ.N<=b/\b<σ1.N):=by
  intro x hx b hbn;rw[hxe]at hx;obtain⟨y,hy,rfl⟩:=List.mem_map.1 hx;exact r1.evNames y b hbn
 have hrel1:Rel w0 env κ1 F1 (fun b=>U b\/(σ.N<=b/\b<σ1.N)) (σ1.put (some ri.d) (.fn ri.g .nil (.of xs))).tmp (σ1.put (some ri.d) (.fn ri.g .nil (.of xs))).blk (σ1.put (some ri.d) (.fn ri.g .nil (.of xs))).L a2 w1:=by
  rw[p1,p2,p4,ha2];have h:=r1.put (dst:=some ri.d) (v:=.fn ri.g .nil (.of xs)) (u:=fv) (fun d hd'=>by cases hd';exact hd) ⟨#[],_,hfv,rfl,bE _,rfl,hcaps⟩ (fun b hb=>by
   rcases List.mem_append.1 hb with hb|hb
   ·cases hb
   ·obtain⟨y,hy,hby⟩:=(gT _ b).1 hb
    exact hxn y hy b hby)
  exact⟨h.tmps,h.size,h.blks,h.inj,h.nF,h.F,h.tnames,h.bnames,h.below⟩
 have hU1:∀b,σ1.N<=b->¬(U b\/(σ.N<=b/\b<σ1.N)):=fun b h1 h3=>by
  rcases h3 with h3|h3
  ·exact hU b (by omega) h3
  ·omega
 show Code.wpIn (FR none) 0 P _ _ { (a1.put (some ri.d) fv)with defers:=_::a1.defers } w1
 rw[<-ha2];refine wpIn_mono (l2.go κ1 F1 _ a2 w1 hrel1 (by rw[p3];exact hU1) (fun b hb=>by cases hb)) ?_
 rintro e a3 w2 ⟨rfl,κ2,F2,r2,k2,Ds,dm1,dm2,dm3⟩;rw[p3]at r2;rw[p2]at k2;have hB1:w0.heap.size<=w1.heap.size:=r1.below.size
 have r3:=u4 Ds w2 r2 dm2 (fun D hD=>⟨by have:=(dm3 D hD).1;omega,(dm3 D hD).2⟩)
 have k3:=sp Ds w2 k2 (fun D hD=>(dm3 D hD).1)
 obtain⟨w3,hw3⟩:∃w3,w3=kI Ds w2:=⟨_,rfl⟩
 rw[<-hw3]at r3 k3;have key:∀u,(u=.returning/\v=.nilIface\/u=.panicking (ij v))->LeavesInM (FR none) 0 P fn a3.tmps (Af w0 env κ F U σ.blk σ.N w { σ4 with rf:=σ2.rf } rs) a3.defers u w2:=by
  intro u hu;have hrun:u≠.run:=by rcases hu with⟨rfl,_⟩|rfl<;>simp
  rw[dm1,ha2];refine yX hrun Ds w2 dm2 (fun D hD=>(dm3 D hD).2.1) ?_
  rw[<-hw3];have hgn:¬gfn.name = "runtime.NumGoroutine" := hfit.name ri.g gfn hg
  have hgb0:¬gfn.body=none:=by rw[hgb];intro hh;cases hh
  refine⟨hrun,.inr ⟨fun h=>(by cases h),.func ri.g,ri.cap.map a1.eval,ri.g,ri.cap.map a1.eval,rfl,?_,fun _ _=>trivial,?_⟩⟩
  ·simp only[invoke,callFunc]
   simp[hg,hgn,hgb0]
  obtain⟨t1,t2⟩:=mg (bE xs) hcaps;rw[fz]at t1 t2;obtain⟨fr1,fr2⟩:=tC (env:=env) (κ:=κ2) (F:=F2) (w:=w3) (σ:=σ2) (vs:=xs) (us:=ri.cap.map a1.eval) (n:=gfn.ntmps) (by simpa using t1) (fun i x u' hx hu'=>(t2 i x u' hx (by rw[v4];exact hu')).keep (fun b hb=>k3.kap b (hxn x (R4 hx) b hb)) k3.mono (fun j hj=>k3.frame j (r1.F j hj) (fun b hl' e=>r1.nF b j hl' e hj)))
  have hfr:=r3.callee (σ:=σ2) (fun _ _=>rfl) (a':={ tmps:=ri.cap.map a1.eval++v3 (gfn.ntmps-(ri.cap.map a1.eval).size) undef,defers:=[] }) fr1 fr2 (oI (fun x hx b hb=>.inl (hxn x hx b hb)))
  have hU2:∀b,σ2.N<=b->¬((U b\/(σ.N<=b/\b<σ1.N))\/(σ1.N<=b/\b<σ2.N)):=fun b h1 h3=>by
   rcases h3 with h3|h3
   ·exact hU1 b (by omega) h3
   ·omega
  refine(Gf hg hgb hrg hres0 hu hr1 hr2 hex4 l4 hfr hU2 r3.below.size).mono ?_
  rintro e u' w4 ⟨val,rfl,hset,κ4,F4,a4,r4,k4⟩;show LeavesInM (FR none) 0 P fn a3.tmps _ a1.defers (settle u') w4
  rw[hset];obtain⟨Es,g1,g2,g3⟩:=(m1.next r1 k3).next r3 k4;rw[g1,y0];refine uv hres (hr.below.size) Es w4 (a':=a3) ?_ ((k1.trans k3 (fun b hb=>.inl hb)).trans k4 (fun b hb=>.inl (.inl hb))) g2 g3
  have hback:Rel w0 env κ4 F4 (fun b=>((U b\/(σ.N<=b/\b<σ1.N))\/(σ1.N<=b/\b<σ2.N))\/(σ2.N<=b/\b<σ4.N)) σ2.tmp σ4.blk σ2.L a3 w4:=
   ⟨fun t=>(r3.tmps t).keep (fun b hb=>k4.kap b (r3.tnames t b hb)) k4.mono (fun j hj=>k4.frame j (r3.F j hj) (fun b hl' e=>r3.nF b j hl' e hj)),r3.size,r4.blks,r4.inj,r4.nF,r4.F,fun t b hb=>.inl (r3.tnames t b hb),r4.bnames,r4.below⟩
  refine hback.monoU (fun b hb=>?_)
  show U b\/(σ.N<=b/\b<σ4.N)
  rcases hb with((hb|hb)|hb)|hb
  ·exact .inl hb
  ·exact .inr ⟨hb.1,by omega⟩
  ·exact .inr ⟨by omega,by omega⟩
  ·exact .inr ⟨by omega,hb.2⟩
 rcases h2 with⟨hex,hv⟩|rfl
 ·cases ex2 with
  |normal=>exact key .returning (.inl ⟨rfl,hv⟩)
  |ret=>exact key .returning (.inl ⟨rfl,hv⟩)
  |exit id=>cases hex
  |panic v=>cases hex
 ·exact key _ (.inr rfl)
theorem NB{cfg:Cfg}(hfit:PFit P){g:Bool}{fn:Func}{f:Nat}{ri:RecI}{σ:SS}{Post:R->Prop}{K:Nat->List AV->Prop}(hn:env.length=σ.n)(hk:KnownOK env σ.n σ.known)(h:(IP P cfg g fn f ri σ).den P Post env K):
  ∃gfn gc rg σ1 σ2 σ4 ex2 v ex4 rs K',P.funcs[ri.g]?=some gfn/\gfn.body=some gc/\E7 gc=some rg/\gfn.results.size=0/\ri.d<SS.L σ1/\Leads P w0 none ri.c0 (env++rs) σ .normal σ1 ∧
   Leads P w0 none ri.rest (env++rs) (σ1.put (some ri.d) (.fn ri.g .nil (.of (ri.cap.toList.map σ1.ev)))) ex2 σ2/\((ex2.out=true/\v=.nilIface)\/ex2=.panic v)/\rg.r<(σ2.frame (ri.cap.toList.map σ1.ev) gfn.ntmps).L/\rg.q<(σ2.frame (ri.cap.toList.map σ1.ev) gfn.ntmps).L/\Ex.out ex4=true ∧
   Leads P w0 none rg.rest (env++rs) (((σ2.frame (ri.cap.toList.map σ1.ev) gfn.ntmps).put (some rg.r) (cD v)).put (some rg.q) (cD v)) ex4 σ4/\(nb P g fn { σ4 with rf:=σ2.rf }).den P Post (env++rs) K':=by
 unfold IP at h;obtain⟨ex1,σ1,rs1,K1,h1,_,_,hk1,hn1,l1⟩:=qQ (w0:=w0) (cfg:=cfg) hfit 12 Post K none f ri.c0 _ σ env hn hk h
 unfold Jy at h1;split at h1
 rotate_left
 ·exact h1.elim
 split at h1
 rotate_left
 ·exact h1.elim
 rename_i hd
 rw[kU j5]at h1;obtain⟨xs,hxs⟩:∃xs,xs=ri.cap.toList.map σ1.ev:=⟨_,rfl⟩
 rw[<-hxs]at h1;obtain⟨p1,p2,p3,p4,p5,p6,_⟩:=eZ σ1 (dst:=some ri.d) (v:=.fn ri.g .nil (.of xs)) (fun d hd'=>by cases hd';exact hd)
 obtain⟨ex2,σ2,rs2,K2,h2,_,_,hk2,hn2,l2⟩:=qQ (w0:=w0) (cfg:=cfg) hfit 12 Post K1 none f ri.rest _ _ (env++rs1) (by rw[p4];exact hn1) (by rw[p4,p5];exact hk1) h1
 obtain⟨v,hv,h3⟩:∃v,((ex2.out=true/\v=.nilIface)\/ex2=.panic v)/\(xi P cfg g fn ri xs σ2 v).den P Post (env++rs1++rs2) K2:=by
  cases ex2 with
  |exit id=>exact h2.elim
  |panic v=>exact⟨v,.inr rfl,h2⟩
  |normal=>exact⟨_,.inl ⟨rfl,rfl⟩,h2⟩
  |ret=>exact⟨_,.inl ⟨rfl,rfl⟩,h2⟩
 unfold xi at h3;split at h3
 ·exact h3.elim
 rename_i gfn hg
 split at h3
 ·exact h3.elim
 rename_i gc hgb
 split at h3
 ·exact h3.elim
 rename_i rg hrg
 split at h3
 rotate_left
 ·exact h3.elim
 rename_i hh
 obtain⟨hres,hr1,hr2⟩:=hh;have q1:=eZ (σ2.frame xs gfn.ntmps) (dst:=some rg.r) (v:=cD v) (fun d hd'=>by cases hd';exact hr1)
 have q2:=eZ ((σ2.frame xs gfn.ntmps).put (some rg.r) (cD v)) (dst:=some rg.q) (v:=cD v) (fun d hd'=>by cases hd';rw[q1.2.2.2.2.2.1];exact hr2)
 have en:(((σ2.frame xs gfn.ntmps).put (some rg.r) (cD v)).put (some rg.q) (cD v)).n=σ2.n:=q2.2.2.2.1.trans q1.2.2.2.1
 have ek:(((σ2.frame xs gfn.ntmps).put (some rg.r) (cD v)).put (some rg.q) (cD v)).known=σ2.known:=q2.2.2.2.2.1.trans q1.2.2.2.2.1
 obtain⟨ex4,σ4,rs4,K4,h4,_,_,_,_,l4⟩:=qQ (w0:=w0) (cfg:=cfg) hfit 12 Post K2 none ri.g rg.rest _ _ (env++rs1++rs2) (by rw[en];exact hn2) (by rw[en,ek];exact hk2) h3
 have hE:env++(rs1++(rs2++rs4))=env++rs1++rs2++rs4:=by simp
 have h5:ex4.out=true/\(nb P g fn { σ4 with rf:=σ2.rf }).den P Post (env++rs1++rs2++rs4) K4:=by
  cases ex4 with
  |exit id=>exact h4.elim
  |panic v=>exact h4.elim
  |normal=>exact⟨rfl,h4⟩
  |ret=>exact⟨rfl,h4⟩
 refine⟨gfn,gc,rg,σ1,σ2,σ4,ex2,v,ex4,rs1++(rs2++rs4),K4,hg,hgb,hrg,hres,hd,?_,?_,hv,hxs▸hr1,hxs▸hr2,h5.1,?_,by rw[hE];exact h5.2⟩
 ·rw[hE];have:=l1 (rs2++rs4);simpa using this
 ·rw[hE,<-hxs];have:=l2 rs4;simpa using this
 ·rw[hE,<-hxs];have:=l4 [];simpa using this
theorem D8{l:List Oper}{r:Nat}(h:Bw l=some r):∃o,l=[o]/\o.dst=some r/\o.op=.assign (.const (.slice none 0 0))/\o.guard=none:=by
 unfold Bw at h;split at h
 ·cases h;exact⟨_,rfl,rfl,rfl,rfl⟩
 ·cases h
theorem JW{l:List Oper}{p q t:Nat}(h:DD l=some (p,q,t)):∃o o' ty,l=[o,o']/\o.dst=some p/\o.op=.move (.tmp 0)/\o.guard=none/\o'.dst=some q/\o'.op=.binOp .eql t (.tmp p) (.const (.slice none 0 0)) ty/\o'.guard=none:=by
 unfold DD at h;split at h
 ·split at h
  ·rename_i e
   cases h
   exact⟨_,_,_,rfl,rfl,rfl,rfl,rfl,by rw[e],rfl⟩
  ·cases h
 ·cases h
theorem uU{c:Code}{ci:CloneI}(h:wM c=some ci):c=.seq (.region ci.i0 ci.ops0 false) (.seq (.seq (.region ci.i1 ci.ops1 false) (.cond (.tmp ci.q) (.seq (.region ci.i2 ci.ops2 false) .ret) .skip)) ci.rest)/\Bw ci.ops0.toList=some ci.r/\DD ci.ops1.toList=some (ci.p,ci.q,ci.t)/\Bw ci.ops2.toList=some ci.r/\ci.r≠0/\ci.p≠0/\ci.q≠0/\ci.r≠ci.p/\ci.r≠ci.q:=by
 unfold wM at h;split at h
 ·split at h
  ·rename_i h1 h2 h3
   split at h
   ·rename_i hh
    obtain⟨e1,e2,n1,n2,n3,n4,n5⟩:=hh;cases h
    refine⟨by rw[e2],h1,?_,?_,n1,n2,?_,n4,?_⟩
    ·rw[h2,e2]
    ·rw[h3,e1]
    ·exact e2▸n3
    ·exact e2▸n5
   ·cases h
  ·cases h
 ·cases h
theorem NP(d:Nat){t e:Nat}(hu:P.underlying t=some (.slice e))(A:Option Addr)(n c:Nat):(Op.equalIn (d+1) t (.slice A n c) (.slice none 0 0)).run P w=.ok A.isNone w:=by
 cases A<;>simp only[Op.equalIn,Sem.run_bind,run_underlying hu,Result.andThen_ok,Sem.run_pure,R7]
theorem wP{d t:Nat}{v:Value}(h:d<a.tmps.size):(a.put (some d) v).eval (.tmp t)=if t=d then v else a.eval (.tmp t):=by
 simp only[Act.eval,Act.put];exact eT h
theorem od{d:Option Nat}{v:Value}:(a.put d v).tmps.size=a.tmps.size:=by cases d<;>simp[Act.put]
theorem DO{c:Code}{ci:CloneI}(hc:wM c=some ci){e:Nat}(ht:P.underlying ci.t=some (.slice e)){A:Option Addr}{n cap:Nat}(ha:a.eval (.tmp 0)=.slice A n cap)(hr:ci.r<a.tmps.size)(hp:ci.p<a.tmps.size)(hq:ci.q<a.tmps.size){Q:Exit->Act->World->Prop}
  (h:((if A.isNone then Code.seq (.region ci.i2 ci.ops2 false) .ret else .skip):Code).wpIn (FR none) 0 P (Exit.then (ci.rest.wpIn (FR none) 0 P Q) Q) (((a.put (some ci.r) (.slice none 0 0)).put (some ci.p) (.slice A n cap)).put (some ci.q) (.bool A.isNone)) w):c.wpIn (FR none) 0 P Q a w:=by
 obtain⟨hcc,s0,s1,_,n1,n2,n3,n4,n5⟩:=uU hc;obtain⟨o,l0,d0,op0,g0⟩:=D8 s0;obtain⟨o1,o2,ty,l1,d1,op1,g1,d2,op2,g2⟩:=JW s1;have z0:ci.ops0.size=1:=by rw[<-y2,l0];rfl
 have z1:ci.ops1.size=2:=by rw[<-y2,l1];rfl
 have e0:ci.ops0[0]?=some o:=by rw[<-v4,l0];rfl
 have e1:ci.ops1[0]?=some o1:=by rw[<-v4,l1];rfl
 have e2:ci.ops1[1]?=some o2:=by rw[<-v4,l1];rfl
 rw[hcc];refine wpIn_seq (wpIn_region ?_)
 rw[z0];show wpOpsIn _ _ _ _ _ [0] _ _
 refine k9 e0 g0 (fun c hc'=>by rw[op0]at hc';cases hc') (u:=.slice none 0 0) (by simp only[execOp,op0,Sem.run_pure];rfl) ?_
 rw[d0];show Code.wpIn (FR none) 0 P _ _ _ w
 refine wpIn_seq (wpIn_seq (wpIn_region ?_))
 rw[z1];show wpOpsIn _ _ _ _ _ [0,1] _ _
 have b:(a.put (some ci.r) (.slice none 0 0)).eval (.tmp 0)=.slice A n cap:=by rw[wP hr,if_neg (fun h=>n1 h.symm),ha]
 refine k9 e1 g1 (fun c hc'=>by rw[op1]at hc';cases hc') (u:=.slice A n cap) (by simp only[execOp,op1,b,Sem.run_pure]) ?_
 rw[d1];have d:((a.put (some ci.r) (.slice none 0 0)).put (some ci.p) (.slice A n cap)).eval (.tmp ci.p)=.slice A n cap:=by rw[wP (by rw[od];exact hp),if_pos rfl]
 have f:((a.put (some ci.r) (.slice none 0 0)).put (some ci.p) (.slice A n cap)).eval (.const (.slice none 0 0))=.slice none 0 0:=rfl
 have heq:(Op.equal ci.t (.slice A n cap) (.slice none 0 0)).run P w=.ok A.isNone w:=NP 9999 ht A n cap
 refine k9 e2 g2 (fun c hc'=>by rw[op2]at hc';cases hc') (u:=.bool A.isNone) (by
  simp only[execOp,op2,d,f,Sem.run_bind];have hg:(eqGuard .eql ci.t (.tmp ci.p) (.const (.slice none 0 0)) (.slice A n cap) (.slice none 0 0)).run P w=.ok () w:=jt (.inl (by simp)) (by simp)
  rw[hg,Result.andThen_ok];simp only[binOp];simp[heq]) ?_
 rw[d2];show Code.wpIn (FR none) 0 P _ _ _ w
 exact wpIn_cond (t:=A.isNone) (by rw[wP (by rw[od,od];exact hq),if_pos rfl]) h
theorem Rel.putAny(h:Rel w0 env κ F U tmp blk L a w){d:Nat}(hd:d<L)(ht:tmp d=.any)(u:Value):Rel w0 env κ F U tmp blk L (a.put (some d) u) w:=by
 have:=h.put (dst:=some d) (v:=.any) (u:=u) (fun d' hd'=>by cases hd';exact hd) trivial (fun b hb=>by cases hb)
 have e:fP tmp (some d) .any=tmp:=by
  funext i
  simp only[fP,upd];split
  ·rename_i hi;rw[hi,ht]
  ·rfl
 rw[e]at this;exact this
theorem CE{f:Nat}{fn:Func}{c:Code}{ci:CloneI}(hfn:P.funcs[f]?=some fn)(hb:fn.body=some c)(hc:wM c=some ci){e:Nat}(ht:P.underlying ci.t=some (.slice e)){σ σ':SS}{ex:Ex}(hex:ex.out=true)(hl:Leads P w0 none ci.rest env σ ex σ')
  {vs:Array Value} (hr:Rel w0 env κ F U σ.tmp σ.blk σ.L { tmps:=vs++v3 (fn.ntmps-vs.size) undef,defers:=[] } w) (hU:∀b,σ.N<=b->¬U b) {A:Addr} {n cap:Nat} (ha:(vs++v3 (fn.ntmps-vs.size) undef).getD 0 undef=.slice (some A) n cap)
  (hr1:ci.r<σ.L) (hp1:ci.p<σ.L) (hq1:ci.q<σ.L) (hrt:σ.tmp ci.r=.any) (hpt:σ.tmp ci.p=.any) (hqt:σ.tmp ci.q=.any) {rs:List SV} (hres:bU P σ' fn.results.toList=some rs):
  Calls P f vs w (Af w0 env κ F U σ.blk σ.N w σ' rs):=by
 refine pe (ro:=none) (n:=0) (callsIn_of_wp_marks hfn hb trivial ?_)
 have hsz:=hr.size;refine DO (a:={ tmps:=vs++v3 (fn.ntmps-vs.size) undef,defers:=[] }) hc ht (A:=some A) (n:=n) (cap:=cap) ha (by rw[hsz];exact hr1) (by rw[hsz];exact hp1) (by rw[hsz];exact hq1) ?_
 simp only[R7,Bool.false_eq_true,if_false];refine wpIn_skip ?_
 show Code.wpIn (FR none) 0 P _ _ _ w
 refine wpIn_mono (hl.go κ F U _ w (((hr.putAny hr1 hrt _).putAny hp1 hpt _).putAny hq1 hqt _) hU (fun b hb=>by cases hb)) ?_
 rintro e' a' w' ⟨rfl,κ',F',r,k,Ds,m1,m2,m3⟩;have key:LeavesInM (FR none) 0 P fn a'.tmps (Af w0 env κ F U σ.blk σ.N w σ' rs) a'.defers .returning w':=by
  rw[m1];show LeavesInM (FR none) 0 P fn a'.tmps _ (Ds.map jh++[]) .returning w'
  rw[y0];exact uv hres hr.below.size Ds w' r k m2 m3
 cases ex with
 |normal=>exact key
 |ret=>exact key
 |exit id=>cases hex
 |panic v=>cases hex
theorem DU{f:Nat}{fn:Func}{c:Code}{ci:CloneI}(hfn:P.funcs[f]?=some fn)(hb:fn.body=some c)(hc:wM c=some ci){e:Nat}(ht:P.underlying ci.t=some (.slice e))(hres:fn.results.toList=[.tmp ci.r])
  {vs:Array Value} {n cap:Nat} (ha:(vs++v3 (fn.ntmps-vs.size) undef).getD 0 undef=.slice none n cap) {L:Nat} (hsz:(vs++v3 (fn.ntmps-vs.size) undef).size=L) (hr1:ci.r<L) (hp1:ci.p<L) (hq1:ci.q<L):
  Calls P f vs w (fun e w'=>e=.returned (.slice none 0 0)/\w'=w):=by
 refine pe (ro:=none) (n:=0) (callsIn_of_wp_marks hfn hb trivial ?_)
 refine DO (a:={ tmps:=vs++v3 (fn.ntmps-vs.size) undef,defers:=[] }) hc ht (A:=none) (n:=n) (cap:=cap) ha (by show _<R5 _;rw[hsz];exact hr1) (by show _<R5 _;rw[hsz];exact hp1) (by show _<R5 _;rw[hsz];exact hq1) ?_
 simp only[R7,if_true];obtain⟨_,_,_,s2,_⟩:=uU hc;obtain⟨o,l0,d0,op0,g0⟩:=D8 s2;have z0:ci.ops2.size=1:=by rw[<-y2,l0];rfl
 have e0:ci.ops2[0]?=some o:=by rw[<-v4,l0];rfl
 refine wpIn_seq (wpIn_region ?_)
 rw[z0];show wpOpsIn _ _ _ _ _ [0] _ _
 refine k9 e0 g0 (fun c hc'=>by rw[op0]at hc';cases hc') (u:=.slice none 0 0) (by simp only[execOp,op0,Sem.run_pure];rfl) ?_
 rw[d0];show Code.wpIn (FR none) 0 P .ret _ _ w
 refine wpIn_ret ?_
 refine⟨pack [.slice none 0 0],uZ (us:=[.slice none 0 0]) (by rw[<-y2,hres];rfl) (fun i x u hx hu=>?_),rfl,rfl⟩
 rw[hres]at hx;cases i with
 | zero=>
  simp at hx hu
  subst hx;subst hu;have:∀b:Act,ci.r<b.tmps.size->(b.put (some ci.r) (Value.slice none 0 0)).tmps.getD ci.r undef=.slice none 0 0:=fun b hb=>by
   have:=wP (a:=b) (d:=ci.r) (t:=ci.r) (v:=.slice none 0 0) hb
   rw[if_pos rfl]at this;exact this
  dsimp only;rw[this _ (by rw[od,od,od];show _<R5 _;rw[hsz];exact hr1)]
  rfl
 |succ i=>simp at hx
theorem JM(h:(den env (.v 0)).l=[]):∀e:E,gb e=true->(den env e).l=[]:=by
 intro e;induction e with
 |v i=>
  intro hn;cases i with
  |zero=>exact h
  |succ i=>simp[gb]at hn
 |lnil=>intro _;rfl
 |app a b ih1 ih2=>
  intro hn;simp only[gb,v2]at hn;simp[den,ih1 hn.1,ih2 hn.2]
 |typed t a ih=>intro hn;simp only[gb]at hn;simp[den,ih hn]
 |take a b ih _=>intro hn;simp only[gb]at hn;simp[den,ih hn]
 |drop a b ih _=>intro hn;simp only[gb]at hn;simp[den,ih hn]
 |_=>intro hn;simp[gb]at hn
theorem HQ{t:T}{Post:R->Prop}{K:Nat->List AV->Prop}(h:(rq t).den P Post env K):∃a ty e,t=.ret (.row a ty e)/\given a=false/\gb e=true/\0<ty.len:=by
 unfold rq at h;split at h
 ·split at h
  ·rename_i hh
   exact⟨_,_,_,rfl,hh.1,hh.2.1,hh.2.2⟩
  ·exact h.elim
 ·exact h.elim
variable {env:List AV} {κ κ':Nat->Value} {F F':Nat->Prop} {w w' w0:World} {U:Nat->Prop} {tmp:Nat->SV} {blk:Nat->Option SB} {L:Nat} {a:Act} {P:Program} {Post:R->Prop} {K:Nat->List AV->Prop}
theorem BT:∀(l:List Nat),vD l=true->l.Nodup
 |[],_=>R1
 |x::l,h=>by
  simp only[vD,v2,Bool.not_eq_true',List.contains_eq_mem,decide_eq_false_iff_not]at h;exact List.nodup_cons.2 ⟨h.1,BT l h.2⟩
theorem Dj{σ:SS}:∀(x:SV) (s:RS) (re:RE),dU σ x s=some re->x.proper=true->(re.den env).proper=true:=by
 intro x;induction x with
 |nil=>intro s re h _;cases s<;>simp only[dU]at h<;>cases h;rfl
 | cons x y _ ih2=>
  intro s re h hp;cases s<;>simp only[dU]at h<;>try (cases h;done)
  split at h
  ·rename_i u v h1 h2
   cases h
   show(v.den env).proper=true
   exact ih2 _ _ h2 hp
  ·cases h
 |_=>intro s re h hp;cases hp
theorem Lq{σ:SS}(h:Rel w0 env κ F U σ.tmp σ.blk L a w):∀(x:SV) (s:RS) (re:RE) (u:Value),dU σ x s=some re->SVden env κ F w x u →
  jw F w0.heap.size w (re.den env) u (x.names.flatMap fun b=>(ak (κ b)).toList)/\∀b∈x.names,aD (σ.blk b)=true:=by
 intro x;induction x with
 |vi e=>intro s re u hr hd;cases s<;>simp only[dU]at hr<;>cases hr;exact⟨⟨hd.1,rfl⟩,fun b hb=>by cases hb⟩
 |vb e=>intro s re u hr hd;cases s<;>simp only[dU]at hr<;>cases hr;exact⟨⟨hd.1,rfl⟩,fun b hb=>by cases hb⟩
 |vr e=>intro s re u hr hd;cases s<;>simp only[dU]at hr<;>cases hr;exact⟨⟨hd.1,by rw[<-hd.1];exact hd.2.1,rfl⟩,fun b hb=>by cases hb⟩
 | nilsl=>
  intro s re u hr hd;cases s<;>simp only[dU]at hr<;>try (cases hr;done)
  split at hr
  ·rename_i hp
   cases hr
   rw[show u=_ from hd]
   refine⟨?_,fun b hb=>by cases hb⟩
   simp only[RE.den];unfold jw;split
   ·exact⟨vO _,rfl⟩
   ·exact⟨[],World.ownsRow_nil _ _ _ _,hp,⟨fun i r hr=>by simp[den]at hr,fun i r k x hr=>by simp[den]at hr⟩,rfl⟩
  ·cases hr
 | vs t e=>
  intro s re u hr hd;cases s<;>simp only[dU]at hr<;>try (cases hr;done)
  split at hr
  ·rename_i hh
   obtain⟨hg,rfl⟩:=hh;cases hr
   refine⟨?_,fun b hb=>by cases hb⟩
   simp only[RE.den];unfold jw;rw[if_pos hg];exact⟨hd,rfl⟩
  ·cases hr
 | row b=>
  intro s re u hr hd;cases s<;>simp only[dU]at hr<;>try (cases hr;done)
  split at hr
  ·rename_i a' t' e hb
   split at hr
   ·rename_i hh
    obtain⟨rfl,rfl,hg⟩:=hh;cases hr
    obtain⟨us,h1,h2,h3⟩:=h.blks b _ hb;rw[hd.1];refine⟨?_,fun c hc=>?_⟩
    ·simp only[RE.den]
     unfold jw;rw[if_neg (by rw[hg];simp)]
     exact⟨us,h1,h2,h3,by simp[SV.names]⟩
    simp[SV.names]at hc;subst hc;rw[hb];rfl
   ·cases hr
  ·cases hr
 |nil=>intro s re u hr hd;cases s<;>simp only[dU]at hr<;>cases hr;exact⟨⟨hd,rfl⟩,fun b hb=>by cases hb⟩
 | cons x y ih1 ih2=>
  intro s re u hr hd;cases s<;>simp only[dU]at hr<;>try (cases hr;done)
  split at hr
  ·rename_i u1 u2 h1 h2
   cases hr
   obtain⟨p,q,rfl,d1,d2⟩:=hd;obtain⟨r1,n1⟩:=ih1 _ _ _ h1 d1;obtain⟨r2,n2⟩:=ih2 _ _ _ h2 d2;refine⟨⟨p,q,_,_,rfl,r1,r2,by simp[SV.names,List.flatMap_append]⟩,fun b hb=>?_⟩
   simp only[SV.names,Sb]at hb;rcases hb with hb|hb
   ·exact n1 b hb
   ·exact n2 b hb
  ·cases hr
 | agg x ih=>
  intro s re u hr hd;cases s<;>simp only[dU]at hr<;>try (cases hr;done)
  split at hr
  ·rename_i hp
   obtain⟨re',h1,rfl⟩:=Option.map_eq_some_iff.1 hr;obtain⟨cs,rfl,_,d⟩:=hd;obtain⟨r1,n1⟩:=ih _ _ _ h1 d;exact⟨⟨cs,rfl,Dj _ _ _ h1 hp,r1⟩,n1⟩
  ·cases hr
 | tup x ih=>
  intro s re u hr hd;cases s<;>simp only[dU]at hr<;>try (cases hr;done)
  split at hr
  ·rename_i hp
   obtain⟨re',h1,rfl⟩:=Option.map_eq_some_iff.1 hr;obtain⟨cs,rfl,_,d⟩:=hd;obtain⟨r1,n1⟩:=ih _ _ _ h1 d;exact⟨⟨cs,rfl,Dj _ _ _ h1 hp,r1⟩,n1⟩
  ·cases hr
 |_=>intro s re u hr hd;cases s<;>simp only[dU]at hr<;>cases hr
theorem C8{f:Nat->List Nat}:∀ns:List Nat,ns.Nodup->(∀b,(f b).Nodup)->(∀b c k,b∈ns->c∈ns->k∈f b->k∈f c->b=c)->(ns.flatMap f).Nodup
 |[],_,_,_=>R1
 |n::ns,h,hf,hi=>by
  rw[RN]at h;rw[RT,List.nodup_append];refine⟨hf n,C8 ns h.2 hf (fun b c k hb hc=>hi b c k (v5 _ hb) (v5 _ hc)),fun x hx y hy e=>?_⟩
  subst e;obtain⟨c,hc,hx2⟩:=List.mem_flatMap.1 hy;have:=hi n c x v6 (v5 _ hc) hx hx2
  exact h.1 (this▸hc)
def AV.cells:AV->List AV
 |.agg l=>l
 |x=>[x]
def K9(P:Program)(t:Nat)(x:AV):Bool:=
 match flat P 12 t with
 |none=>false
 |some ts=>if bQ P t then(match x with|.agg l=>decide (l.map AV.ty=ts)|_=>false)else decide ([x.ty]=ts)
def yB(P:Program):List Nat->List AV->Bool
 |[],[]=>true
 |t::ts,x::xs=>K9 P t x&&yB P ts xs
 |_,_=>false
theorem MJ{t n m:Nat}{s:SV}{x:AV}{u:Value}(hm:LK P t n=some (s,m))(ho:K9 P t x=true)(hd:Den F w u x)(henv:∀(j:Nat) y,x.cells[j]?=some y->env[n+j]?=some y):
  SVden env κ F w s u/\s.names=[]/\m=n+x.cells.length:=by
 unfold LK at hm;unfold K9 at ho;split at hm
 ·cases hm
 rename_i ts hts
 rw[hts]at ho;dsimp only at hm ho
 have hv:∀(j:Nat) y,x.cells[j]?=some y->den env (.v (n+j))=y:=fun j y hy=>by simp only[den];simp[List.getD,henv j y hy]
 by_cases hag:bQ P t=true
 ·simp only[hag,if_true]at hm ho
  split at hm
  ·rename_i hall
   split at ho
   ·rename_i l
    have ho:=of_decide_eq_true ho;have hlen:ts.length=l.length:=by rw[<-ho];simp
    cases hm
    obtain⟨cs,rfl,hl,hcs⟩:=hd.agg_view;have hxs:∀(i:Nat) y,(List.map (fun x=>x.getD SV.any) (ts.zipIdx.map fun(x:Ty×Nat)=>fh (.v (n+x.2)) x.1))[i]?=some y->∃z,l[i]?=some z/\fh (.v (n+i)) z.ty=some y:=by
     intro i y hy;simp only[y3,RO,Option.map_map]at hy;obtain⟨s,hs,rfl⟩:=Option.map_eq_some_iff.1 hy;have hs':=hs;rw[<-ho,y3]at hs';obtain⟨z,hz,rfl⟩:=Option.map_eq_some_iff.1 hs';refine⟨z,hz,?_⟩
     have:=List.all_eq_true.1 hall (fh (.v (n+i)) z.ty) (List.mem_map.2 ⟨(z.ty,i),R4 (by rw[RO,hs];simp),rfl⟩)
     obtain⟨v,hv⟩:=Option.isSome_iff_exists.1 this;simp only[Function.comp,RU,hv,RV]
    refine⟨⟨_,rfl,bE _,gu (by simp;omega) (fun i y v hy hu=>?_)⟩,?_,by simp[AV.cells,hlen]⟩
    ·obtain⟨z,hz,hle⟩:=hxs i y hy
     have:=hv i z (by simpa[AV.cells]using hz)
     exact se hle (by rw[this]) (by rw[this];exact hcs i v z hu hz)
    ·refine List.eq_nil_iff_forall_not_mem.2 fun b hb=>?_
     obtain⟨y,hy,hby⟩:=(gT _ b).1 hb;obtain⟨i,hi⟩:=R6 hy;obtain⟨z,hz,hle⟩:=hxs i y hi;rw[qm hle]at hby;cases hby
   ·cases ho
  ·cases hm
 ·simp only[hag]at hm ho
  have ho:=of_decide_eq_true ho;subst ho;cases hle:fh (.v n) x.ty with
  |none=>simp[hle]at hm
  |some v=>
   simp[hle]at hm
   obtain⟨rfl,rfl⟩:=hm;have hc:x.cells=[x]:=by cases x<;>first|rfl|cases hle
   have:=hv 0 x (by rw[hc];rfl)
   rw[Nat.add_zero]at this;exact⟨se hle (by rw[this]) (by rw[this];exact hd),qm hle,by rw[hc];rfl⟩
theorem qJ:∀(ts:List Nat) (n k:Nat) (xs:List SV) (args:List AV) (us:List Value),AR P ts n=some (xs,k)->yB P ts args=true->us.length=args.length->(∀(i:Nat) u x,us[i]?=some u->args[i]?=some x->Den F w u x) →
  (∀(j:Nat) y,(args.flatMap AV.cells)[j]?=some y->env[n+j]?=some y)->xs.length=us.length/\k=n+(args.flatMap AV.cells).length/\∀(i:Nat) s u,xs[i]?=some s->us[i]?=some u->SVden env κ F w s u/\s.names=[]
 | [],n,k,xs,args,us,hm,ho,hl,_,_=>by
  cases args with
  |nil=>
   simp only[AR]at hm;cases hm
   exact⟨hl.symm,rfl,fun i s u h=>by simp at h⟩
  |cons=>cases ho
 | t :: ts,n,k,xs,args,us,hm,ho,hl,hd,henv=>by
  cases args with
  |nil=>cases ho
  | cons x args=>
   cases us with
   |nil=>simp at hl
   | cons u us=>
    simp only[yB,v2]at ho;simp only[AR]at hm;split at hm
    ·rename_i s m h1
     split at hm
     ·rename_i l k' h2
      cases hm
      rw[RT]at henv;obtain⟨a1,a2,a3⟩:=MJ (κ:=κ) h1 ho.1 (hd 0 u x rfl rfl) (fun j y hy=>henv j y (by rw[RK (List.getElem?_eq_some_iff.1 hy).1];exact hy))
      obtain⟨b1,b2,b3⟩:=qJ ts m k l args us h2 ho.2 (by simpa using hl) (fun i u x h1 h2=>hd (i+1) u x (by simpa using h1) (by simpa using h2)) (fun j y hy=>by
       have:=henv (x.cells.length+j) y (by rw[List.getElem?_append_right (by omega)];rw[<-hy];congr 1;omega)
       rw[<-this,a3];congr 1;omega)
      refine⟨by simp[b1],by rw[b2,a3];simp;omega,fun i s' u' h3 h4=>?_⟩
      cases i with
      |zero=>simp at h3 h4;subst h3;subst h4;exact⟨a1,a2⟩
      |succ i=>exact b3 i s' u' (by simpa using h3) (by simpa using h4)
     ·cases hm
    ·cases hm
theorem Pt{g:Bool}{fn:Func}{σ:SS}{r:R}(h:(nb P g fn σ).den P (·=r) env K):∃sh rv σ' v re,bU P σ fn.results.toList=some rv/\vD v.names=true/\dU σ' v sh=some re/\re.den env=r ∧
  ((σ'=σ/\v=gC rv)\/(σ'=σ.write (bi σ.blk (rv.flatMap (aV σ.blk)))/\v=nz σ'.blk (gC rv))):=by
 have key:∀(σ':SS) sh v,(Bj σ' sh v).den P (·=r) env K->∃re,vD v.names=true/\dU σ' v sh=some re/\re.den env=r:=by
  intro σ' sh v h;unfold Bj at h;split at h
  rotate_left
  ·exact h.elim
  rename_i hnd
  split at h
  rotate_left
  ·exact h.elim
  rename_i re hre
  exact⟨re,hnd,hre,h⟩
 unfold nb at h;split at h
 rotate_left
 ·exact h.elim
 ·exact h.elim
 rename_i sh rv hsh hrv
 split at h
 ·obtain⟨re,h1,h2,h3⟩:=key _ _ _ h
  exact⟨sh,rv,_,_,re,hrv,h1,h2,h3,.inr ⟨rfl,rfl⟩⟩
 ·obtain⟨re,h1,h2,h3⟩:=key _ _ _ h
  exact⟨sh,rv,_,_,re,hrv,h1,h2,h3,.inl ⟨rfl,rfl⟩⟩
theorem K0{cfg:Cfg}{f:Nat}{args:List AV}{r:R}(hfit:PFit P)(ho:∀fn,P.funcs[f]?=some fn->yB P fn.params.toList args=true)(h:(K7 P cfg f).den P (·=r) (args.flatMap AV.cells) K):Con P f args r:=by
 intro S vs w hS hvs;unfold K7 at h;split at h
 ·exact h.elim
 rename_i fn hf
 split at h
 rotate_left
 ·exact h.elim
 rename_i c xs n hb hm
 simp only[kU j5,qB]at h;obtain⟨m1,m2,_⟩:=qJ (P:=P) (w:=w) (env:=args.flatMap AV.cells) (κ:=fun _=>undef) (F:=S) _ 0 n xs args vs.toList hm (ho fn hf) (by simpa using hvs.1) (fun i u x h1 h2=>hvs.2 i u x (by simpa using h1) h2) (fun j y hy=>by rw[RU];exact hy)
 have m1':xs.length=vs.size:=by simpa using m1
 obtain⟨σ,hσ⟩:∃σ:SS,σ={ rf:=Ov.of xs fn.ntmps,hp:=⟨[],[],0⟩,n,known:=[],dep:=0 }:=⟨_,rfl⟩
 rw[<-hσ]at h;have hn0:(args.flatMap AV.cells).length=σ.n:=by rw[hσ];simpa using m2.symm
 have hk0:KnownOK (args.flatMap AV.cells) σ.n σ.known:=by rw[hσ];exact fun x hx=>by cases hx
 obtain⟨g,σ',rs,K',hret,hgo⟩|hdone:(∃g σ' rs K',(nb P g fn σ').den P (·=r) (args.flatMap AV.cells++rs) K'/\∀rv,bU P σ' fn.results.toList=some rv->Rel w (args.flatMap AV.cells++rs) (fun _=>undef) S (fun _=>False) σ.tmp σ.blk σ.L { tmps:=vs++v3 (fn.ntmps-vs.size) undef,defers:=[] } w->Calls P f vs w (Af w (args.flatMap AV.cells++rs) (fun _=>undef) S (fun _=>False) σ.blk σ.N w σ' rv))\/Calls P f vs w (KA S r w):=by
  split at h
  ·rename_i ri hri
   obtain⟨gfn,gc,rg,σ1,σ2,σ4,ex2,v,ex4,rs,K',d,z,m,y4,y5,y6,C,D,E,o,p,q,s⟩:=NB (w0:=w) hfit hn0 hk0 h
   exact .inl ⟨_,_,rs,K',s,fun rv hrv hrel=>HR hfit hf hb hri d z m y4 rfl y5 y6 C D E o p q hrel (fun _ _ h=>h) hrv⟩
  split at h
  ·rename_i ci hci
   unfold IE at h;split at h
   rotate_left
   ·exact h.elim
   rename_i row r' ety hres ht _
   split at h
   rotate_left
   ·exact h.elim
   rename_i hh
   obtain⟨rfl,hr1,hp1,hq1⟩:=hh;obtain⟨ex,σ',rs,K',q1,_,_,_,_,q6⟩:=qQ (w0:=w) (cfg:=cfg) hfit 12 (·=r) K none f ci.rest _ σ (args.flatMap AV.cells) hn0 hk0 h
   have hex:ex.out=true/\(rq (nb P false fn σ')).den P (·=r) (args.flatMap AV.cells++rs) K':=by
    cases ex with
    |exit id=>exact q1.elim
    |panic v=>exact q1.elim
    |normal=>exact⟨rfl,q1⟩
    |ret=>exact⟨rfl,q1⟩
   obtain⟨hex,hcr⟩:=hex;obtain⟨ra,rt,re,hT,hg,hnp,hlen⟩:=HQ hcr;have hret:(nb P false fn σ').den P (·=r) (args.flatMap AV.cells++rs) K':=by
    rw[hT]at hcr⊢
    unfold rq at hcr;dsimp only at hcr
    rw[if_pos ⟨hg,hnp,hlen⟩]at hcr;exact hcr
   have hl:=q6 [];rw[y0]at hl;obtain⟨_,_,m3⟩:=qJ (P:=P) (w:=w) (env:=args.flatMap AV.cells++rs) (κ:=fun _=>undef) (F:=S) _ 0 n _ args vs.toList hm (ho fn hf) (by simpa using hvs.1) (fun i u x h1 h2=>hvs.2 i u x (by simpa using h1) h2) (fun j y hy=>by
    rw[RU,RK (List.getElem?_eq_some_iff.1 hy).1];exact hy)
   have hv1:vs.size=1:=by simpa using m1'.symm
   have hden:Den S w vs[0] (.sl row (den (args.flatMap AV.cells++rs) (.v 0)).l):=(m3 0 (.vs row (.v 0)) vs[0] rfl (by simp)).1
   obtain⟨A,cap,hv,_,_,_,hA⟩:=hden.view;have ha:(vs++v3 (fn.ntmps-vs.size) undef).getD 0 undef=.slice A (den (args.flatMap AV.cells++rs) (.v 0)).l.length cap:=by
    rw[qc,<-hv];simp[Array.getD,hv1]
   have htm:∀t,t≠0->σ.tmp t=.any:=fun t ht=>by
    rw[hσ];show(Ov.of [SV.vs row (.v 0)] fn.ntmps).get SV.any t=SV.any
    rw[Ov.get_of];cases t with
    |zero=>exact absurd rfl ht
    |succ t=>rfl
   obtain⟨_,_,_,_,z1,z2,z3,_⟩:=uU hci;cases A with
   | none=>
    refine .inr ((DU hf hb hci ht hres ha (L:=σ.L) ?_ hr1 hp1 hq1).mono ?_)
    ·rw[hσ]
     show _=mx _ _
     rw[HJ];simp[hv1];omega
    rintro e w' ⟨rfl,rfl⟩;have hnil:(den (args.flatMap AV.cells++rs) (.v 0)).l=[]:=by
     cases hl0:(den (args.flatMap AV.cells++rs) (.v 0)).l with
     |nil=>rfl
     |cons x l=>
      obtain⟨a,h1,_⟩:=hA 0 x (by rw[hl0];rfl)
      cases h1
    rw[hT]at hret;have hret:R.row ra rt (den (args.flatMap AV.cells++rs) re).l=r:=hret
    refine⟨_,S,[],rfl,?_,R1,fun k hk=>(by cases hk),fun k hk=>⟨.inl hk,hS k hk⟩,Below.refl _ _⟩
    rw[<-hret,JM hnil re hnp];unfold jw;rw[if_neg (by rw[hg];simp)]
    exact⟨[],World.ownsRow_nil _ _ _ _,hlen,⟨fun i r hr=>by simp at hr,fun i r k x hr=>by simp at hr⟩,rfl⟩
   |some A=>
    exact .inl ⟨false,σ',rs,K',hret,fun rv hrv hrel=>CE hf hb hci ht hex hl hrel (fun _ _ h=>h) ha hr1 hp1 hq1 (htm _ z1) (htm _ z2) (htm _ z3) hrv⟩
  obtain⟨ex,σ',rs,K',q1,_,_,_,_,q6⟩:=qQ (w0:=w) (cfg:=cfg) hfit 12 (·=r) K none f c _ σ (args.flatMap AV.cells) hn0 hk0 h
  have hex:ex.out=true/\(nb P (cfg.cons.contains (f+1000000)) fn σ').den P (·=r) (args.flatMap AV.cells++rs) K':=by
   cases ex with
   |exit id=>exact q1.elim
   |panic v=>exact q1.elim
   |normal=>exact⟨rfl,q1⟩
   |ret=>exact⟨rfl,q1⟩
  obtain⟨hex,hret⟩:=hex;have hl:=q6 [];rw[y0]at hl;exact .inl ⟨_,σ',rs,K',hret,fun rv hrv hrel=>ol hf hb hex hl hrel (fun _ _ h=>h) hrv⟩
 rotate_left
 ·exact hdone
 obtain⟨sh,rv,σ2,B,re,hrv,hnd,hre,hret,hcase⟩:=Pt hret;obtain⟨_,_,m3⟩:=qJ (P:=P) (w:=w) (env:=args.flatMap AV.cells++rs) (κ:=fun _=>undef) (F:=S) _ 0 n xs args vs.toList hm (ho fn hf) (by simpa using hvs.1) (fun i u x h1 h2=>hvs.2 i u x (by simpa using h1) h2) (fun j y hy=>by
  rw[RU,RK (List.getElem?_eq_some_iff.1 hy).1];exact hy)
 have hblk:∀b,σ.blk b=none:=fun b=>by rw[hσ];exact Ov.get_out (Nat.zero_le _)
 have hN:σ.N=0:=by rw[hσ];rfl
 have hfr:σ=SS.frame { rf:=⟨[],[],0⟩,hp:=⟨[],[],0⟩,n,known:=[],dep:=0 } xs fn.ntmps:=hσ
 obtain⟨fr1,fr2⟩:=tC (σ:={ rf:=⟨[],[],0⟩,hp:=⟨[],[],0⟩,n,known:=[],dep:=0 }) (env:=args.flatMap AV.cells++rs) (κ:=fun _=>undef) (F:=S) (w:=w) (vs:=xs) (us:=vs) (n:=fn.ntmps) m1'.symm (fun i x u hx hu=>(m3 i x u hx (by simpa using hu)).1)
 rw[<-hfr]at fr1 fr2;have hrel:Rel w (args.flatMap AV.cells++rs) (fun _=>undef) S (fun _=>False) σ.tmp σ.blk σ.L { tmps:=vs++v3 (fn.ntmps-vs.size) undef,defers:=[] } w:=by
  refine⟨fr1,fr2,fun b x hx=>?_,fun b c k hb=>?_,fun b k hb=>?_,hS,fun t b hb=>?_,fun b x hx=>?_,Below.refl _ _⟩
  ·rw[hblk]at hx;cases hx
  ·rw[hblk]at hb;cases hb
  ·rw[hblk]at hb;cases hb
  ·rw[hfr]at hb
   exact oI (U:=fun _=>False) (fun x hx b hb=>by
    obtain⟨i,hi⟩:=R6 hx;have hv:i<vs.size:=by rw[<-m1'];exact(List.getElem?_eq_some_iff.1 hi).1
    have:=(m3 i x vs[i] hi (by simp[hv])).2
    rw[this]at hb;cases hb) t b hb
  ·rw[hblk]at hx;cases hx
 refine(hgo rv hrv hrel).mono ?_
 rintro e w' ⟨u,κ',F',a',rfl,hr,k,hv⟩;have hfin:∃F2,Rel w (args.flatMap AV.cells++rs) κ' F2 (fun b=>False\/(σ.N<=b/\b<σ'.N)) σ2.tmp σ2.blk σ2.L a' w'/\Kept (fun _=>False) σ.blk (fun _=>undef) S w σ2.blk κ' F2 w'/\SVden (args.flatMap AV.cells++rs) κ' F2 w' B u:=by
  rcases hcase with⟨rfl,rfl⟩|⟨rfl,rfl⟩
  ·exact⟨F',hr,k,hv⟩
  ·obtain⟨d,z,m,y4,_⟩:=cU σ' _ (mp σ' (rv.flatMap (aV σ'.blk))).1
   obtain⟨F1,r1,k1⟩:=hr.freeze (rv.flatMap (aV σ'.blk));rw[<-d]at r1 k1;have r1':=r1;rw[<-m,<-y4]at r1';refine⟨F1,r1',k.trans k1 (fun _ h=>h.elim),wL (b0:=w.heap.size) (fun b e t l hb=>r1.blks b _ hb) (hv.keep (fun _ _=>rfl) k1.mono (fun _ _=>rfl))⟩
 obtain⟨F2,hr,k,hv⟩:=hfin;obtain⟨d1,d2⟩:=Lq hr B sh re u hre hv;rw[hret]at d1;refine⟨u,F2,_,rfl,d1,C8 _ (BT _ hnd) (fun b=>?_) (fun b c j hb hc h1 h2=>hr.inj b c j (d2 b hb) (d2 c hc) (by simpa using h1) (by simpa using h2)),fun j hj hF=>?_,fun j hj=>⟨?_,hr.F j hj⟩,hr.below⟩
 ·cases ak (κ' b)<;>simp
 ·obtain⟨b,hb,hj⟩:=List.mem_flatMap.1 hj
  exact hr.nF b j (d2 b hb) (by simpa using hj) hF
 ·rcases k.new j hj with h1|h1|⟨b,h1,_⟩
  ·exact .inl h1
  ·exact .inr h1
  ·rw[hblk]at h1;cases h1
variable {α:Type} {g:α->List Int} {f:α->List Value} {k B:Nat} {w w':World} {v:Value} {l:List α} {P:Program} {A:Option Addr} {c:Nat}
def E4:Value->Array Value
 |.tuple cs=>cs
 |_=>#[]
def R.val:R->Value
 |.i n=>.int .i64 n
 |.b x=>.bool x
 |.r v=>v
 |.row _ _ _=>undef
 |.nil=>.tuple #[]
 |.cons x y=>.tuple (x.val::(E4 y.val).toList).toArray
 |.agg x=>.agg (E4 x.val)
 |.tup x=>.tuple (E4 x.val)
def R.flatB:R->Bool
 |.i _|.b _|.nil=>true
 |.r v=>aT v
 |.row _ _ _=>false
 |.cons x y=>x.flatB&&y.flatB&&y.proper
 |.agg x|.tup x=>x.flatB&&x.proper
theorem oY{F:Nat->Prop}{base:Nat}:∀(r:R) (u:Value) (bs:List Nat),r.flatB=true->jw F base w r u bs->u=r.val
 |.i _,u,bs,_,h=>h.1
 |.b _,u,bs,_,h=>h.1
 |.nil,u,bs,_,h=>h.1
 |.r v,u,bs,_,h=>h.1
 |.row _ _ _,u,bs,hf,_=>by cases hf
 |.cons x y,u,bs,hf,h=>by
  simp only[R.flatB,v2]at hf;obtain⟨p,q,b1,b2,rfl,h1,h2,rfl⟩:=h;have e1:=oY x p b1 hf.1.1 h1;have e2:=oY y _ b2 hf.1.2 h2;simp only[R.val,e1,<-e2,E4]
 |.agg x,u,bs,hf,h=>by
  simp only[R.flatB,v2]at hf;obtain⟨cs,rfl,_,h2⟩:=h;have e2:=oY x _ bs hf.1 h2;simp only[R.val,<-e2,E4]
 |.tup x,u,bs,hf,h=>by
  simp only[R.flatB,v2]at hf;obtain⟨cs,rfl,_,h2⟩:=h;have e2:=oY x _ bs hf.1 h2;simp only[R.val,<-e2,E4]
theorem Mq{fn:Nat}{args:List AV}{r:R}(hc:Con P fn args r)(hr:r.flatB=true){vs:Array Value}(hvs:ES (fun k=>k<w.heap.size) w vs args):Calls P fn vs w fun e w'=>e=.returned r.val/\Below w.heap.size w w':=
 (hc _ vs w (fun _ h=>h) hvs).mono fun _ _ ⟨u,_,bs,he,hd,_,_,_,hb⟩=>⟨by rw[he,oY r u bs hr hd],hb⟩
end Go.Sx
namespace Go.Sx
open Go
variable {P:Program}
variable {env:List AV}
theorem cF{p:Nat->Prop}(h:∃n,p n):∃n,p n/\∀k,p k->n<=k:=by
 obtain⟨n,hn⟩:=h;induction n using RY with
 | _ n ih=>
  by_cases h:∃m,m<n/\p m
  ·obtain⟨m,hm,hp⟩:=h
   exact ih m hm hp
  ·exact⟨n,hn,fun k hk=>Nat.not_lt.1 fun hl=>h ⟨k,hl,hk⟩⟩
open Classical in
noncomputable def oe (p:Nat->Prop):Nat:=if h:∃n,p n then(cF h).choose else 0
theorem mC{p:Nat->Prop}(h:∃n,p n):p (oe p)/\∀k,p k->oe p<=k:=by
 unfold oe;rw[dif_pos h];exact(cF h).choose_spec
theorem T.den_mono{Post:R->Prop}:∀(t:T) {env:List AV} {K K':Nat->List AV->Prop},t.den P Post env K->(∀l us,K l us->K' l us)->t.den P Post env K':=by
 intro t;induction t with
 |stop _ _=>intro env K K' h _;exact h
 |ret x=>intro env K K' h _;exact h
 |need e t ih=>intro env K K' h hK;exact⟨h.1,ih h.2 hK⟩
 |br e a b iha ihb=>intro env K K' h hK;exact⟨fun hb=>iha (h.1 hb) hK,fun hb=>ihb (h.2 hb) hK⟩
 |call f args sh t ih=>intro env K K' h hK;obtain⟨r,h1,h2,h3⟩:=h;exact⟨r,h1,h2,ih h3 hK⟩
 |loop lvl inits sorts key locs t ih=>
  intro env K K' h hK;obtain⟨I,μ,h1,h2⟩:=h;refine⟨I,μ,h1,fun vs hv hI=>ih (h2 vs hv hI) fun l us hu=>?_⟩
  unfold upd at hu⊢
  by_cases e:l=lvl
  ·rw[if_pos e]at hu⊢;exact hu
  ·rw[if_neg e]at hu⊢;exact hK _ _ hu
 |again lvl es=>intro env K K' h hK;exact hK _ _ h
 |ext f ks vs t ih=>intro env K K' h hK;exact⟨h.1,ih h.2 hK⟩
theorem T.den_loop{Post:R->Prop}{σ:Type}{K:Nat->List AV->Prop}{lvl:Nat}{inits:E}{sorts:List Ty}{key:Nat×Nat×Nat}{locs:List Loc}{t:T}(enc:σ->List AV)(Inv:σ->Prop)(m:σ->Nat)(s0:σ)
  (h0:gm sorts (Sx.den env inits).g=enc s0) (hI:Inv s0)
  (hr:∀s,Inv s->t.den P Post (env++enc s) (upd K lvl fun us=>∃s',gm sorts us=enc s'/\Inv s'/\m s'<m s)):(T.loop lvl inits sorts key locs t).den P Post env K:=by
 refine⟨fun vs=>∃s,vs=enc s/\Inv s,fun vs=>oe fun k=>∃s,vs=enc s/\Inv s/\m s=k,⟨s0,h0,hI⟩,fun vs _ ⟨s,hs,hi⟩=>?_⟩
 obtain⟨⟨s1,e1,i1,k1⟩,_⟩:=mC (p:=fun k=>∃s,vs=enc s/\Inv s/\m s=k) ⟨m s,s,hs,hi,rfl⟩
 obtain⟨L,hL⟩:∃L,L=oe fun k=>∃s,vs=enc s/\Inv s/\m s=k:=⟨_,rfl⟩
 dsimp only;rw[<-hL]at k1⊢
 subst e1;refine T.den_mono t (hr s1 i1) fun l us h=>?_
 unfold upd at h⊢
 by_cases e:l=lvl
 ·rw[if_pos e]at h⊢
  obtain⟨s',a,b,c⟩:=h;refine⟨⟨s',a,b⟩,?_⟩
  exact Nat.lt_of_le_of_lt ((mC (p:=fun k=>∃s,gm sorts us=enc s/\Inv s/\m s=k) ⟨m s',s',a,b,rfl⟩).2 _ ⟨s',a,b,rfl⟩) (Nat.lt_of_lt_of_eq c k1)
 ·rw[if_neg e]at h⊢;exact h
abbrev Lv:=List (List AV)
abbrev cA(l:Lv)(i:Int)(k:Nat):AV:=(l.getD i.toNat []).getD k (.int 0)
abbrev cI(l:Lv)(i:Int)(k:Nat):Int:=(cA l i k).i
abbrev cB(l:Lv)(i:Int)(k:Nat):Bool:=(cA l i k).b
abbrev cR(l:Lv)(i:Int)(k:Nat):Value:=(cA l i k).r
abbrev cL(l:Lv)(i:Int)(k:Nat):Lv:=(cA l i k).l
def aQ(a b:Int):Int:=if b<a then b else a
def aZ(a b:Int):Int:=if a<b then b else a
def ab{σ α:Type}(step:(σ->Option α)->σ->Option α):Nat->σ->Option α
 |0,_=>none
 |n+1,s=>step (ab step n) s
variable {P:Program}
noncomputable section
def Ty.sem(t:Ty):Type:=Ty.rec (motive:=fun _=>Type) Int Bool Value (fun _ _=>List (List AV)) AV (fun _ _ _ _=>AV) t
def Ty.enc(t:Ty):AV->t.sem:=Ty.rec (motive:=fun t=>AV->Ty.sem t) AV.i AV.b AV.r (fun _ _=>AV.l) (fun x=>x) (fun _ _ _ _ x=>x) t
def Ty.dec(t:Ty):t.sem->AV:=Ty.rec (motive:=fun t=>Ty.sem t->AV) AV.int AV.bool AV.raw (fun r _=>AV.sl r) (fun x=>x) (fun _ _ _ _ x=>x) t
theorem KH(t:Ty)(x:AV):t.dec (t.enc x)=co t x:=by cases t<;>rfl
def bx(ts:List Ty):Type:=v9 (motive:=fun _=>Type) Unit (fun a l ih=>v9 (motive:=fun _=>Type) a.sem (fun _ _ _=>a.sem×ih) l) ts
def hdX(xs:List AV):AV:=v9 (motive:=fun _=>AV) (.int 0) (fun x _ _=>x) xs
def tlX(xs:List AV):List AV:=v9 (motive:=fun _=>List AV) [] (fun _ l _=>l) xs
def fK(ts:List Ty):List AV->bx ts:=
 v9 (motive:=fun ts=>List AV->bx ts) (fun _=>()) (fun a l=>v9 (motive:=fun l=>(List AV->bx l)->List AV->bx (a::l)) (fun _ xs=>a.enc (hdX xs)) (fun _ _ _ ih xs=>(a.enc (hdX xs),ih (tlX xs))) l) ts
def iN(ts:List Ty):bx ts->List AV:=
 v9 (motive:=fun ts=>bx ts->List AV) (fun _=>[]) (fun a l=>v9 (motive:=fun l=>(bx l->List AV)->bx (a::l)->List AV) (fun _ s=>[a.dec s]) (fun _ _ _ ih s=>a.dec s.1::ih s.2) l) ts
theorem xx:∀(ts:List Ty) (xs:List AV),xs.length=ts.length->iN ts (fK ts xs)=gm ts xs
 |[],[],_=>rfl
 |[],_::_,h=>by simp at h
 |_::_,[],h=>by simp at h
 |[t],[x],_=>by show[t.dec (t.enc x)]=[co t x];rw[KH]
 |[_],_::_::_,h=>by simp at h
 |t::b::ts,x::xs,h=>by
  show t.dec (t.enc x)::iN (b::ts) (fK (b::ts) xs)=co t x::gm (b::ts) xs
  rw[KH,xx (b::ts) xs (by simpa using h)]
theorem ER{ts:List Ty}{xs:List AV}(h:xs.map AV.ty=ts):iN ts (fK ts xs)=xs:=by
 rw[xx ts xs (by rw[<-h,Sc]),xq ts xs h]
def RS.tys(sh:RS):List Ty:=RS.rec (motive:=fun _=>List Ty) [.int] [.bool] [.raw] (fun _ t=>[.sl t]) [] (fun _ _ a b=>a++b) (fun _ a=>a) (fun _ a=>a) sh
theorem MA(r:R):r.leaves.map AV.ty=r.shape.tys:=by
 induction r with
 |cons x y a b=>show(x.leaves++y.leaves).map AV.ty=x.shape.tys++y.shape.tys;rw[Sd,a,b]
 |agg x a=>exact a
 |tup x a=>exact a
 |_=>rfl
def rmk(sh:RS):List AV->R×List AV:=
 RS.rec (motive:=fun _=>List AV->R×List AV) (fun xs=>(.i (hdX xs).i,tlX xs)) (fun xs=>(.b (hdX xs).b,tlX xs)) (fun xs=>(.r (hdX xs).r,tlX xs)) (fun e t xs=>(.row e t (hdX xs).l,tlX xs)) (fun xs=>(.nil,xs))
  (fun _ _ a b xs=>(.cons (a xs).1 (b (a xs).2).1,(b (a xs).2).2)) (fun _ a xs=>(.agg (a xs).1,(a xs).2)) (fun _ a xs=>(.tup (a xs).1,(a xs).2)) sh
theorem LF(r:R):∀rest,rmk r.shape (r.leaves++rest)=(r,rest):=by
 induction r with
 |cons x y a b=>
  intro rest;have h1:=a (y.leaves++rest);have h2:=b rest;show((R.cons (rmk x.shape (x.leaves++y.leaves++rest)).1 (rmk y.shape (rmk x.shape (x.leaves++y.leaves++rest)).2).1,(rmk y.shape (rmk x.shape (x.leaves++y.leaves++rest)).2).2):R×List AV)=_
  rw[v1,h1,h2]
 |agg x a=>intro rest;show((R.agg (rmk x.shape (x.leaves++rest)).1,(rmk x.shape (x.leaves++rest)).2):R×List AV)=_;rw[a]
 |tup x a=>intro rest;show((R.tup (rmk x.shape (x.leaves++rest)).1,(rmk x.shape (x.leaves++rest)).2):R×List AV)=_;rw[a]
 |_=>intro rest;rfl
theorem H0(sh:RS):∀xs:List AV,sh.tys.length<=xs.length->(rmk sh xs).1.shape=sh/\(rmk sh xs).2=xs.drop sh.tys.length/\(rmk sh xs).1.leaves=gm sh.tys xs:=by
 induction sh with
 | cons x y a b=>
  intro xs h;have hl:(RS.cons x y).tys=x.tys++y.tys:=rfl
  rw[hl,RQ]at h;obtain⟨a1,a2,a3⟩:=a xs (by omega)
  obtain⟨b1,b2,b3⟩:=b (xs.drop x.tys.length) (by rw[List.length_drop];omega)
  have e:rmk (.cons x y) xs=(R.cons (rmk x xs).1 (rmk y (rmk x xs).2).1,(rmk y (rmk x xs).2).2):=rfl
  rw[e,a2,hl];refine⟨by show RS.cons _ _=_;rw[a1,b1],by rw[b2,List.drop_drop,RQ],?_⟩
  show(rmk x xs).1.leaves++(rmk y (xs.drop x.tys.length)).1.leaves=_
  rw[a3,b3];unfold gm;conv=>rhs;rw[<-List.take_append_drop x.tys.length xs]
  rw[List.zipWith_append (by rw[List.length_take];omega)]
  congr 1
  have:∀(ts:List Ty) (xs:List AV),List.zipWith co ts xs=List.zipWith co ts (xs.take ts.length):=by
   intro ts;induction ts with
   |nil=>intro xs;rfl
   |cons t ts ih=>intro xs;cases xs with
    |nil=>rfl
    |cons z zs=>simp[ih zs]
  exact this _ _
 |agg x a=>intro xs h;obtain⟨a1,a2,a3⟩:=a xs h;exact⟨congrArg RS.agg a1,a2,a3⟩
 |tup x a=>intro xs h;obtain⟨a1,a2,a3⟩:=a xs h;exact⟨congrArg RS.tup a1,a2,a3⟩
 |nil=>intro xs _;exact⟨rfl,rfl,by cases xs<;>rfl⟩
 |_=>
  intro xs h;cases xs with
  |nil=>exact absurd h (by simp[RS.tys])
  |cons x xs=>exact⟨rfl,rfl,rfl⟩
def sj(sh:RS)(z:bx sh.tys):R:=(rmk sh (iN sh.tys z)).1
theorem Cu:∀(ts:List Ty) (z:bx ts),(iN ts z).length=ts.length
 |[],_=>rfl
 |[_],_=>rfl
 |_::b::ts,z=>by show(_::iN (b::ts) z.2).length=_;rw[List.length_cons,Cu (b::ts) z.2];rfl
theorem MO(t:Ty)(s:t.sem):co t (t.dec s)=t.dec s:=by cases t<;>rfl
theorem cg2{α β γ:Type}(f:α->β->γ){a a':α}{b b':β}(h1:a=a')(h2:b=b'):f a b=f a' b':=by subst h1 h2;rfl
theorem FK:∀(ts:List Ty) (z:bx ts),gm ts (iN ts z)=iN ts z
 |[],_=>rfl
 |[t],z=>congrArg (fun x=>[x]) (MO t z)
 |t::b::ts,z=>cg2 List.cons (MO t z.1) (FK (b::ts) z.2)
theorem LN(sh:RS)(z:bx sh.tys):(sj sh z).shape=sh:=(H0 sh _ (by rw[Cu];exact y7 _)).1
theorem Kg(sh:RS)(z:bx sh.tys):(sj sh z).leaves=iN sh.tys z:=by
 unfold sj;rw[(H0 sh _ (by rw[Cu];exact y7 _)).2.2,FK]
theorem NK{r:R}{sh:RS}(h:r.shape=sh):sj sh (fK sh.tys r.leaves)=r:=by
 subst h;unfold sj;rw[ER (MA r)];have:=LF r []
 rw[y0]at this;rw[this]
def Ty.eqb(t:Ty):Ty->Bool:=
 Ty.rec (motive:=fun _=>Ty->Bool) (fun u=>Ty.rec (motive:=fun _=>Bool) true false false (fun _ _=>false) false (fun _ _ _ _=>false) u) (fun u=>Ty.rec (motive:=fun _=>Bool) false true false (fun _ _=>false) false (fun _ _ _ _=>false) u)
  (fun u=>Ty.rec (motive:=fun _=>Bool) false false true (fun _ _=>false) false (fun _ _ _ _=>false) u) (fun _ ih u=>Ty.rec (motive:=fun _=>Bool) false false false (fun r _=>ih r) false (fun _ _ _ _=>false) u)
  (fun u=>Ty.rec (motive:=fun _=>Bool) false false false (fun _ _=>false) true (fun _ _ _ _=>false) u) (fun _ _ ih1 ih2 u=>Ty.rec (motive:=fun _=>Bool) false false false (fun _ _=>false) false (fun a b _ _=>and (ih1 a) (ih2 b)) u) t
theorem Ty.eqb_eq{t:Ty}:∀ {u:Ty},t.eqb u=true->t=u:=by
 induction t with
 |sl r ih=>intro u h;cases u<;>first|exact absurd h (by decide)|(rw[ih (show Ty.eqb r _=true from h)])|cases h
 | cons a b ih1 ih2=>
  intro u h;cases u with
  |cons c d=>
   have h:(Ty.eqb a c&&Ty.eqb b d)=true:=h
   rw[v2]at h;rw[ih1 h.1,ih2 h.2]
  |_=>cases h
 |_=>intro u h;cases u<;>first|rfl|cases h
def uT(ts:List Ty):List Ty->Bool:=
 v9 (motive:=fun _=>List Ty->Bool) (fun us=>v9 (motive:=fun _=>Bool) true (fun _ _ _=>false) us) (fun t _ ih us=>v9 (motive:=fun _=>Bool) false (fun u us _=>and (t.eqb u) (ih us)) us) ts
theorem EL:∀ {ts us:List Ty},uT ts us=true->ts=us
 |[],[],_=>rfl
 |[],_::_,h=>by cases h
 |_::_,[],h=>by cases h
 |t::ts,u::us,h=>by
  have h:(Ty.eqb t u&&uT ts us)=true:=h
  rw[v2]at h;rw[Ty.eqb_eq h.1,EL h.2]
def RS.eqb(t:RS):RS->Bool:=
 RS.rec (motive:=fun _=>RS->Bool)
  (fun u=>RS.rec (motive:=fun _=>Bool) true false false (fun _ _=>false) false (fun _ _ _ _=>false) (fun _ _=>false) (fun _ _=>false) u)
  (fun u=>RS.rec (motive:=fun _=>Bool) false true false (fun _ _=>false) false (fun _ _ _ _=>false) (fun _ _=>false) (fun _ _=>false) u)
  (fun u=>RS.rec (motive:=fun _=>Bool) false false true (fun _ _=>false) false (fun _ _ _ _=>false) (fun _ _=>false) (fun _ _=>false) u)
  (fun e t u=>RS.rec (motive:=fun _=>Bool) false false false (fun e' t'=>and (v8 e e') (t.eqb t')) false (fun _ _ _ _=>false) (fun _ _=>false) (fun _ _=>false) u)
  (fun u=>RS.rec (motive:=fun _=>Bool) false false false (fun _ _=>false) true (fun _ _ _ _=>false) (fun _ _=>false) (fun _ _=>false) u)
  (fun _ _ ih1 ih2 u=>RS.rec (motive:=fun _=>Bool) false false false (fun _ _=>false) false (fun a b _ _=>and (ih1 a) (ih2 b)) (fun _ _=>false) (fun _ _=>false) u)
  (fun _ ih u=>RS.rec (motive:=fun _=>Bool) false false false (fun _ _=>false) false (fun _ _ _ _=>false) (fun a _=>ih a) (fun _ _=>false) u)
  (fun _ ih u=>RS.rec (motive:=fun _=>Bool) false false false (fun _ _=>false) false (fun _ _ _ _=>false) (fun _ _=>false) (fun a _=>ih a) u) t
theorem RS.eqb_eq{t:RS}:∀ {u:RS},t.eqb u=true->t=u:=by
 induction t with
 | row e t=>
  intro u h;cases u with
  |row e' t'=>
   have h:(v8 e e'&&Ty.eqb t t')=true:=h
   rw[v2]at h;rw[y1 h.1,Ty.eqb_eq h.2]
  |_=>cases h
 | cons a b ih1 ih2=>
  intro u h;cases u with
  |cons c d=>
   have h:(RS.eqb a c&&RS.eqb b d)=true:=h
   rw[v2]at h;rw[ih1 h.1,ih2 h.2]
  |_=>cases h
 |agg a ih=>intro u h;cases u with
  |agg b=>rw[ih (show RS.eqb a b=true from h)]
  |_=>cases h
 |tup a ih=>intro u h;cases u with
  |tup b=>rw[ih (show RS.eqb a b=true from h)]
  |_=>cases h
 |_=>intro u h;cases u<;>first|rfl|cases h
structure EvX where
 a:AV
 i:Int
 b:Bool
 r:Value
 l:List (List AV)
 g:List AV
 n:Int
def evX(env:List AV)(e:E):EvX:=
 E.rec (motive:=fun _=>EvX)
  (fun i=>⟨jz (.int 0) env i,(jz (.int 0) env i).i,(jz (.int 0) env i).b,(jz (.int 0) env i).r,(jz (.int 0) env i).l,(jz (.int 0) env i).g,(jz (.int 0) env i).num⟩)
  (fun n=>⟨.int n,n,false,undef,[],[],n⟩)
  (fun b=>⟨.bool b,0,b,undef,[],[],0⟩)
  (fun s=>⟨.raw (Hr s),0,false,Hr s,[],[],0⟩)
  (fun k n=>⟨.raw (.int k n),0,false,.int k n,[],[],n⟩)
  (fun o _ _ x y=>IOp.rec (motive:=fun _=>EvX) ⟨.int (x.i+y.i),x.i+y.i,false,undef,[],[],x.i+y.i⟩ ⟨.int (x.i-y.i),x.i-y.i,false,undef,[],[],x.i-y.i⟩ ⟨.int (x.i*y.i),x.i*y.i,false,undef,[],[],x.i*y.i⟩
   ⟨.int (v0 x.i y.i),v0 x.i y.i,false,undef,[],[],v0 x.i y.i⟩ ⟨.int (RJ x.i y.i),RJ x.i y.i,false,undef,[],[],RJ x.i y.i⟩ ⟨.int (aQ x.i y.i),aQ x.i y.i,false,undef,[],[],aQ x.i y.i⟩ ⟨.int (aZ x.i y.i),aZ x.i y.i,false,undef,[],[],aZ x.i y.i⟩
   ⟨.int (IOp.f .and x.i y.i),IOp.f .and x.i y.i,false,undef,[],[],IOp.f .and x.i y.i⟩ ⟨.int (IOp.f .or x.i y.i),IOp.f .or x.i y.i,false,undef,[],[],IOp.f .or x.i y.i⟩ ⟨.int (IOp.f .xor x.i y.i),IOp.f .xor x.i y.i,false,undef,[],[],IOp.f .xor x.i y.i⟩
   ⟨.int (IOp.f .andNot x.i y.i),IOp.f .andNot x.i y.i,false,undef,[],[],IOp.f .andNot x.i y.i⟩ ⟨.int (IOp.f .shl x.i y.i),IOp.f .shl x.i y.i,false,undef,[],[],IOp.f .shl x.i y.i⟩ ⟨.int (IOp.f .shr x.i y.i),IOp.f .shr x.i y.i,false,undef,[],[],IOp.f .shr x.i y.i⟩ o)
  (fun o _ _ x y=>COp.rec (motive:=fun _=>EvX) ⟨.bool (decide (x.i<y.i)),0,decide (x.i<y.i),undef,[],[],0⟩ ⟨.bool (decide (x.i<=y.i)),0,decide (x.i<=y.i),undef,[],[],0⟩ ⟨.bool (decide (x.i=y.i)),0,decide (x.i=y.i),undef,[],[],0⟩ o)
  (fun _ x=>⟨.bool (!x.b),0,!x.b,undef,[],[],0⟩)
  (fun _ _ x y=>⟨.bool (x.b==y.b),0,x.b==y.b,undef,[],[],0⟩)
  (fun _ _ x y=>⟨.bool (x.b&&y.b),0,x.b&&y.b,undef,[],[],0⟩)
  (fun _ _ x y=>⟨.bool ((AV.raw x.r).s==(AV.raw y.r).s),0,(AV.raw x.r).s==(AV.raw y.r).s,undef,[],[],0⟩)
  (fun _ x=>⟨.int (x.l.length:Int),(x.l.length:Int),false,undef,[],[],(x.l.length:Int)⟩)
  (fun _ x=>⟨.int ((AV.raw x.r).s.length:Int),((AV.raw x.r).s.length:Int),false,undef,[],[],((AV.raw x.r).s.length:Int)⟩)
  (fun _ _ k x y=>⟨cA x.l y.i k,cI x.l y.i k,cB x.l y.i k,cR x.l y.i k,cL x.l y.i k,(cA x.l y.i k).g,(cA x.l y.i k).num⟩)
  ⟨.agg [],0,false,undef,[],[],0⟩
  (fun _ _ x y=>⟨.agg (x.a::y.g),0,false,undef,[],x.a::y.g,0⟩)
  ⟨.sl .nil [],0,false,undef,[],[],0⟩
  (fun _ _ x y=>⟨.sl .nil (x.l++[y.g]),0,false,undef,x.l++[y.g],[],0⟩)
  (fun _ _ x y=>⟨.sl .nil (x.l++y.l),0,false,undef,x.l++y.l,[],0⟩)
  (fun _ _ x y=>⟨.sl .nil (y8 y.i.toNat x.l),0,false,undef,y8 y.i.toNat x.l,[],0⟩)
  (fun _ _ x y=>⟨.sl .nil (RR y.i.toNat x.l),0,false,undef,RR y.i.toNat x.l,[],0⟩)
  (fun _ _ k _ x y z=>⟨.sl .nil (RL x.l y.i.toNat (fun r=>r.set k z.a)),0,false,undef,RL x.l y.i.toNat (fun r=>r.set k z.a),[],0⟩)
  (fun _ _ x y=>⟨.sl .nil (R2 x.i.toNat y.g),0,false,undef,R2 x.i.toNat y.g,[],0⟩)
  (fun t _ x=>⟨.sl t x.l,0,false,undef,x.l,[],0⟩)
  (fun _ _ x y=>⟨.sl .nil (y8 x.l.length y.l++RR y.l.length x.l),0,false,undef,y8 x.l.length y.l++RR y.l.length x.l,[],0⟩)
  (fun t _ x=>Ty.rec (motive:=fun _=>EvX) ⟨.int x.i,x.i,false,undef,[],[],x.i⟩ ⟨.bool x.b,0,x.b,undef,[],[],0⟩ ⟨.raw x.r,0,false,x.r,[],[],(AV.raw x.r).num⟩ (fun r _=>⟨.sl r x.l,0,false,undef,x.l,[],0⟩) x (fun _ _ _ _=>x) t)
  (fun k _ x=>⟨.raw (.int k (k.wrap x.n)),0,false,.int k (k.wrap x.n),[],[],k.wrap x.n⟩)
  (fun _ x=>⟨.int (IntKind.wrap .i64 x.n),IntKind.wrap .i64 x.n,false,undef,[],[],IntKind.wrap .i64 x.n⟩)
  (fun o k _ _ x y=>⟨.raw (.int k (jY o k x.n y.n)),0,false,.int k (jY o k x.n y.n),[],[],jY o k x.n y.n⟩)
  (fun o _ _ x y=>COp.rec (motive:=fun _=>EvX) ⟨.bool (decide (x.n<y.n)),0,decide (x.n<y.n),undef,[],[],0⟩ ⟨.bool (decide (x.n<=y.n)),0,decide (x.n<=y.n),undef,[],[],0⟩ ⟨.bool (decide (x.n=y.n)),0,decide (x.n=y.n),undef,[],[],0⟩ o)
  (fun _ _ x y=>⟨.int (cd y.g x.l),cd y.g x.l,false,undef,[],[],cd y.g x.l⟩)
  (fun _ _ x y=>⟨.bool (dD y.g x.l),0,dD y.g x.l,undef,[],[],0⟩)
  (fun _ _ _ x y z=>⟨.sl .nil (fj y.g z.a x.l),0,false,undef,fj y.g z.a x.l,[],0⟩) e
def EvX.ok(x:EvX)(y:AV):Prop:=x.a=y/\x.i=y.i/\x.b=y.b/\x.r=y.r/\x.l=y.l/\x.g=y.g/\x.n=y.num
theorem dH{a b:Int}(h:a=b):EvX.ok ⟨.int a,a,false,undef,[],[],a⟩ (.int b):=by subst h;exact⟨rfl,rfl,rfl,rfl,rfl,rfl,rfl⟩
theorem PQ{a b:AV}(h:a=b):EvX.ok ⟨a,a.i,a.b,a.r,a.l,a.g,a.num⟩ b:=by subst h;exact⟨rfl,rfl,rfl,rfl,rfl,rfl,rfl⟩
theorem fA{a b:Bool}(h:a=b):EvX.ok ⟨.bool a,0,a,undef,[],[],0⟩ (.bool b):=by subst h;exact⟨rfl,rfl,rfl,rfl,rfl,rfl,rfl⟩
theorem zx{a b:Value}(h:a=b):EvX.ok ⟨.raw a,0,false,a,[],[],(AV.raw a).num⟩ (.raw b):=by subst h;exact⟨rfl,rfl,rfl,rfl,rfl,rfl,rfl⟩
theorem nA{t:Ty}{a b:List (List AV)}(h:a=b):EvX.ok ⟨.sl t a,0,false,undef,a,[],0⟩ (.sl t b):=by subst h;exact⟨rfl,rfl,rfl,rfl,rfl,rfl,rfl⟩
theorem MF{a b:List AV}(h:a=b):EvX.ok ⟨.agg a,0,false,undef,[],a,0⟩ (.agg b):=by subst h;exact⟨rfl,rfl,rfl,rfl,rfl,rfl,rfl⟩
section
variable {x:EvX} {y:AV} (h:x.ok y)
include h
theorem EvX.ok.A:x.a=y:=h.1
theorem EvX.ok.I:x.i=y.i:=h.2.1
theorem EvX.ok.B:x.b=y.b:=h.2.2.1
theorem EvX.ok.R:x.r=y.r:=h.2.2.2.1
theorem EvX.ok.L:x.l=y.l:=h.2.2.2.2.1
theorem EvX.ok.G:x.g=y.g:=h.2.2.2.2.2.1
theorem EvX.ok.N:x.n=y.num:=h.2.2.2.2.2.2
end
theorem nf(env:List AV)(e:E):(evX env e).ok (den env e):=by
 induction e with
 |v i=>refine⟨?_,?_,?_,?_,?_,?_,?_⟩<;>simp only[evX,den,kz]
 |int n=>exact dH rfl
 |bool n=>exact fA rfl
 |str n=>exact zx rfl
 |oint k n=>exact zx rfl
 |ii o a b iha ihb=>
  have h:=fun o=>cg2 (IOp.f o) iha.I ihb.I
  cases o with
  |add=>exact dH (h .add)
  |sub=>exact dH (h .sub)
  |mul=>exact dH (h .mul)
  |quo=>exact dH (h .quo)
  |rem=>exact dH (h .rem)
  |min=>exact dH (h .min)
  |max=>exact dH (h .max)
  |and=>exact dH (h .and)
  |or=>exact dH (h .or)
  |xor=>exact dH (h .xor)
  |andNot=>exact dH (h .andNot)
  |shl=>exact dH (h .shl)
  |shr=>exact dH (h .shr)
 |cmp o a b iha ihb=>
  have h:=fun o=>cg2 (COp.f o) iha.I ihb.I
  cases o with
  |lt=>exact fA (h .lt)
  |le=>exact fA (h .le)
  |eq=>exact fA (h .eq)
 |not a ih=>have h:=congrArg not ih.B;exact fA h
 |beq a b iha ihb=>have h:=cg2 BEq.beq iha.B ihb.B;exact fA h
 |and a b iha ihb=>have h:=cg2 and iha.B ihb.B;exact fA h
 |seq a b iha ihb=>have h:=cg2 (fun x y=>(AV.raw x).s==(AV.raw y).s) iha.R ihb.R;exact fA h
 |len a ih=>have h:=congrArg (fun l=>((R0 l:Nat):Int)) ih.L;exact dH h
 |slen a ih=>have h:=congrArg (fun x=>(((AV.raw x).s.length:Nat):Int)) ih.R;exact dH h
 |cell a b k iha ihb=>have h:=cg2 (fun x y=>cA x y k) iha.L ihb.I;exact PQ h
 |rnil=>exact MF rfl
 |rcons a b iha ihb=>have h:=cg2 List.cons iha.A ihb.G;exact MF h
 |lnil=>exact nA rfl
 |snoc a b iha ihb=>have h:=cg2 (fun x y=>x++[y]) iha.L ihb.G;exact nA h
 |app a b iha ihb=>have h:=cg2 (fun x y=>x++y) iha.L ihb.L;exact nA h
 |take a b iha ihb=>have h:=cg2 (fun x y=>y8 (R8 y) x) iha.L ihb.I;exact nA h
 |drop a b iha ihb=>have h:=cg2 (fun x y=>RR (R8 y) x) iha.L ihb.I;exact nA h
 |set a b k c iha ihb ihc=>have h:=cg2 (fun(p:List (List AV)×Int) z=>RL p.1 (R8 p.2) fun r=>List.set r k z) (cg2 Prod.mk iha.L ihb.I) ihc.A;exact nA h
 |rep a b iha ihb=>have h:=cg2 (fun x y=>R2 (R8 x) y) iha.I ihb.G;exact nA h
 |typed t a ih=>exact nA ih.L
 |cpy a b iha ihb=>have h:=cg2 (fun x y=>y8 (R0 x) y++RR (R0 y) x) iha.L ihb.L;exact nA h
 |co t a ih=>
  cases t with
  |int=>exact dH ih.I
  |bool=>exact fA ih.B
  |raw=>exact zx ih.R
  |sl r=>exact nA ih.L
  |nil=>exact ih
  |cons x y=>exact ih
 |kin k a ih=>have h:=congrArg (fun x=>Value.int k (k.wrap x)) ih.N;exact zx h
 |kout a ih=>have h:=congrArg (IntKind.wrap .i64) ih.N;exact dH h
 |kop o k a b iha ihb=>have h:=cg2 (fun x y=>Value.int k (jY o k x y)) iha.N ihb.N;exact zx h
 |kcmp o a b iha ihb=>
  have h:=fun o=>cg2 (COp.f o) iha.N ihb.N
  cases o with
  |lt=>exact fA (h .lt)
  |le=>exact fA (h .le)
  |eq=>exact fA (h .eq)
 |mget a b iha ihb=>have h:=cg2 cd ihb.G iha.L;exact dH h
 |mhas a b iha ihb=>have h:=cg2 dD ihb.G iha.L;exact fA h
 |mput a b c iha ihb ihc=>have h:=cg2 (fun(p:List AV×AV) z=>fj p.1 p.2 z) (cg2 Prod.mk ihb.G ihc.A) iha.L;exact nA h
def reL(env:List AV)(x:RE):List AV:=RE.rec (motive:=fun _=>List AV) (fun e=>[.int (evX env e).i]) (fun e=>[.bool (evX env e).b]) (fun e=>[.raw (evX env e).r]) (fun _ t e=>[.sl t (evX env e).l]) [] (fun _ _ a b=>a++b) (fun _ a=>a) (fun _ a=>a) x
def reS(x:RE):RS:=RE.rec (motive:=fun _=>RS) (fun _=>.i) (fun _=>.b) (fun _=>.r) (fun e t _=>.row e t) .nil (fun _ _ a b=>.cons a b) (fun _ a=>.agg a) (fun _ a=>.tup a) x
theorem QH(env:List AV)(x:RE):reL env x=(x.den env).leaves:=by
 induction x with
 |i e=>show[AV.int _]=[AV.int _];rw[(nf env e).2.1]
 |b e=>show[AV.bool _]=[AV.bool _];rw[(nf env e).2.2.1]
 |r e=>show[AV.raw _]=[AV.raw _];rw[(nf env e).2.2.2.1]
 |row a t e=>show[AV.sl _ _]=[AV.sl _ _];rw[(nf env e).2.2.2.2.1]
 |nil=>rfl
 |cons x y a b=>show reL env x++reL env y=_++_;rw[a,b]
 |agg x a=>exact a
 |tup x a=>exact a
theorem QA(env:List AV)(x:RE):reS x=(x.den env).shape:=by
 induction x with
 |cons x y a b=>show RS.cons (reS x) (reS y)=.cons _ _;rw[a,b]
 |agg x a=>show RS.agg (reS x)=.agg _;rw[a]
 |tup x a=>show RS.tup (reS x)=.tup _;rw[a]
 |_=>rfl
abbrev Ps:=List (Bool×List Ty)
def Ps.tys(ps:Ps):List Ty:=v9 (motive:=fun _=>List Ty) [] (fun p _ ih=>p.2++ih) ps
def AV.aggB(ts:List Ty):AV->Bool
 |.agg l=>uT (l.map AV.ty) ts
 |_=>false
def AV.oneB(ts:List Ty):AV->Bool
 |.agg _=>false
 |.int _=>uT [.int] ts
 |.bool _=>uT [.bool] ts
 |.raw _=>uT [.raw] ts
 |.sl t _=>uT [.sl t] ts
def sQ(ps:Ps):List AV->Bool:=
 v9 (motive:=fun _=>List AV->Bool) (fun xs=>v9 (motive:=fun _=>Bool) true (fun _ _ _=>false) xs)
  (fun p _ ih xs=>v9 (motive:=fun _=>Bool) false (fun x xs _=>and (v7 (motive:=fun _=>Bool) (x.oneB p.2) (x.aggB p.2) p.1) (ih xs)) xs) ps
def eE(xs:List AV):List AV:=v9 (motive:=fun _=>List AV) [] (fun x _ ih=>AV.cells x++ih) xs
def Ls(ps:Ps):List AV->List AV:=v9 (motive:=fun _=>List AV->List AV) (fun _=>[]) (fun p _ ih xs=>v7 (motive:=fun _=>AV) (hdX xs) (.agg (xs.take p.2.length)) p.1::ih (xs.drop p.2.length)) ps
def IT(ps:Ps)(s:bx (Ps.tys ps)):List AV:=Ls ps (iN (Ps.tys ps) s)
theorem Bv:∀(ps:Ps) (xs:List AV),sQ ps xs=true->Ls ps (eE xs)=xs/\(eE xs).map AV.ty=Ps.tys ps
 |[],[],_=>⟨rfl,rfl⟩
 |[],_::_,h=>by cases h
 |_::_,[],h=>by cases h
 | (true,ts)::ps,x::xs,h=>by
  have h:(x.aggB ts&&sQ ps xs)=true:=h
  rw[v2]at h;obtain⟨h1,h2⟩:=Bv ps xs h.2;cases x with
  | agg l=>
   have hl:=EL h.1;have hlen:ts.length=l.length:=by rw[<-hl,Sc]
   constructor
   ·show AV.agg ((l++eE xs).take ts.length)::Ls ps ((l++eE xs).drop ts.length)=_
    rw[hlen,List.take_left,List.drop_left,h1]
   ·show(l++eE xs).map AV.ty=ts++Ps.tys ps
    rw[Sd,hl,h2]
  |_=>cases h.1
 | (false,ts)::ps,x::xs,h=>by
  have h:(x.oneB ts&&sQ ps xs)=true:=h
  rw[v2]at h;obtain⟨h1,h2⟩:=Bv ps xs h.2;cases x with
  |agg l=>cases h.1
  | _=>
   have hx:=EL (us:=ts) (ts:=[_]) h.1;subst hx;constructor
   ·show hdX (_::eE xs)::Ls ps (eE xs)=_
    rw[h1];rfl
   ·show _::(eE xs).map AV.ty=_::Ps.tys ps
    rw[h2];rfl
theorem HH{ps:Ps}{xs:List AV}(h:sQ ps xs=true):IT ps (fK (Ps.tys ps) (eE xs))=xs:=by
 obtain⟨h1,h2⟩:=Bv ps xs h;unfold IT;rw[ER h2,h1]
theorem F7(xs:List AV):eE xs=xs.flatMap AV.cells:=by
 induction xs with
 |nil=>rfl
 |cons x xs ih=>show AV.cells x++eE xs=_;rw[ih,RT]
structure FnT where
 ps:Ps
 sh:RS
 fn:Nat->bx (Ps.tys ps)->Option (bx sh.tys)
def FnT.ok(P:Program)(f:Nat)(F:FnT):Prop:=∀(n:Nat) (s:bx (Ps.tys F.ps)) (z:bx F.sh.tys),F.fn n s=some z->Con P f (IT F.ps s) (sj F.sh z)
abbrev Tab:=List (Nat×FnT)
def Tab.ok(P:Program)(tab:Tab):Prop:=∀x∈tab,x.2.ok P x.1
abbrev MTab:=List (Nat×SV×SV)
def MTab.ok(P:Program)(mt:MTab):Prop:=∀x∈mt,LQ P x.1 x.2.1 x.2.2
def Hu{β:Type}(tab:Tab)(f:Nat)(k:FnT->Option β):Option β:=v9 (motive:=fun _=>Option β) none (fun x _ ih=>v7 (motive:=fun _=>Option β) ih (k x.2) (v8 x.1 f)) tab
theorem NU{β:Type}{tab:Tab}{f:Nat}{k:FnT->Option β}{z:β}(h:Hu tab f k=some z):∃F,(f,F)∈tab/\k F=some z:=by
 induction tab with
 |nil=>cases h
 | cons x tab ih=>
  have h:v7 (motive:=fun _=>Option β) (Hu tab f k) (k x.2) (v8 x.1 f)=some z:=h
  cases hb:v8 x.1 f with
  |true=>
   rw[hb]at h;have:=y1 hb
   subst this;exact⟨x.2,v6 ..,h⟩
  |false=>
   rw[hb]at h;obtain⟨F,h1,h2⟩:=ih h;exact⟨F,v5 _ h1,h2⟩
def II(mt:MTab)(f:Nat)(ks vs:SV):Bool:=v9 (motive:=fun _=>Bool) false (fun x _ ih=>or (and (v8 x.1 f) (and (decide (x.2.1=ks)) (decide (x.2.2=vs)))) ih) mt
theorem Pc{mt:MTab}{f:Nat}{ks vs:SV}(h:II mt f ks vs=true):(f,ks,vs)∈mt:=by
 induction mt with
 |nil=>cases h
 | cons x mt ih=>
  have h:((v8 x.1 f&&(decide (x.2.1=ks)&&decide (x.2.2=vs)))||II mt f ks vs)=true:=h
  rw[Sf,v2,v2,decide_eq_true_iff,decide_eq_true_iff]at h;rcases h with⟨h1,h2,h3⟩|h
  ·have:=y1 h1
   obtain⟨a,b,c⟩:=x;dsimp only at this h2 h3
   subst this h2 h3;exact v6 ..
  ·exact v5 _ (ih h)
def T.fn(tab:Tab)(mt:MTab)(n:Nat)(sh:RS)(t:T):List AV->(Nat->List AV->Option (bx sh.tys))->Option (bx sh.tys):=
 T.rec (motive:=fun _=>List AV->(Nat->List AV->Option (bx sh.tys))->Option (bx sh.tys))
  (fun _ _ _ _=>none)
  (fun x env _=>v7 (motive:=fun _=>Option (bx sh.tys)) none (some (fK sh.tys (reL env x))) ((reS x).eqb sh))
  (fun e _ t env K=>cond (evX env e).b (t env K) none)
  (fun e _ _ a b env K=>cond (evX env e).b (a env K) (b env K))
  (fun f args sh' _ t env K=>Hu tab f fun F=>v7 (motive:=fun _=>Option (bx sh.tys)) none (Sa (F.fn n (fK (Ps.tys F.ps) (eE (evX env args).g))) fun y=>t (env++iN F.sh.tys y) K) (and (F.sh.eqb sh') (sQ F.ps (evX env args).g)))
  (fun lvl inits sorts _ _ _ t env K=>v7 (motive:=fun _=>Option (bx sh.tys)) none (ab (σ:=bx sorts) (fun go s=>t (env++iN sorts s) fun l us=>v7 (motive:=fun _=>Option (bx sh.tys)) (K l us) (v7 (motive:=fun _=>Option (bx sh.tys)) none (go (fK sorts us)) (v8 us.length sorts.length)) (v8 l lvl)) n (fK sorts (evX env inits).g)) (v8 (evX env inits).g.length sorts.length))
  (fun lvl es env K=>K lvl (evX env es).g)
  (fun f ks vs _ t env K=>v7 (motive:=fun _=>Option (bx sh.tys)) none (t env K) (II mt f ks vs)) t
theorem T.fn_den{tab:Tab}{mt:MTab}{n:Nat}{sh:RS}(hC:tab.ok P)(hM:mt.ok P){z:bx sh.tys}:∀(t:T) (env:List AV) (K:Nat->List AV->Option (bx sh.tys)) (K':Nat->List AV->Prop),t.fn tab mt n sh env K=some z->(∀l us,K l us=some z->K' l us)->t.den P (·=sj sh z) env K':=by
 intro t;induction t with
 |stop _ _=>intro env K K' h _;cases h
 | ret x=>
  intro env K K' h _;have h:v7 (motive:=fun _=>Option (bx sh.tys)) none (some (fK sh.tys (reL env x))) ((reS x).eqb sh)=some z:=h
  cases hb:(reS x).eqb sh with
  |false=>rw[hb]at h;cases h
  |true=>
   rw[hb]at h;have h:some (fK sh.tys (reL env x))=some z:=h
   have hs:=RS.eqb_eq hb;rw[QA env x]at hs;show x.den env=sj sh z
   rw[<-Option.some.inj h,QH,NK hs]
 |need e t ih=>
  intro env K K' h hK;have h:cond (evX env e).b (t.fn tab mt n sh env K) none=some z:=h
  rw[(nf env e).2.2.1]at h;cases hb:(Sx.den env e).b with
  |false=>rw[hb]at h;cases h
  |true=>rw[hb]at h;exact⟨hb,ih env K K' h hK⟩
 |br e a b iha ihb=>
  intro env K K' h hK;have h:cond (evX env e).b (a.fn tab mt n sh env K) (b.fn tab mt n sh env K)=some z:=h
  rw[(nf env e).2.2.1]at h;refine⟨fun hb=>?_,fun hb=>?_⟩
  ·rw[hb]at h;exact iha env K K' h hK
  ·rw[hb]at h;exact ihb env K K' h hK
 | call f args sh' t ih=>
  intro env K K' h hK;have h:(Hu tab f fun F=>v7 (motive:=fun _=>Option (bx sh.tys)) none (Sa (F.fn n (fK (Ps.tys F.ps) (eE (evX env args).g))) fun y=>t.fn tab mt n sh (env++iN F.sh.tys y) K) (and (F.sh.eqb sh') (sQ F.ps (evX env args).g)))=some z:=h
  obtain⟨F,h1,h2⟩:=NU h;cases hb:(F.sh.eqb sh'&&sQ F.ps (evX env args).g)with
  |false=>rw[show(and (F.sh.eqb sh') (sQ F.ps (evX env args).g))=false from hb]at h2;cases h2
  |true=>
   rw[show(and (F.sh.eqb sh') (sQ F.ps (evX env args).g))=true from hb]at h2
   obtain⟨y,hy,hz⟩:=Option.bind_eq_some_iff.1 (show Sa (F.fn n (fK (Ps.tys F.ps) (eE (evX env args).g))) _=some z from h2)
   rw[v2]at hb;have hs:=RS.eqb_eq hb.1;have hc:=hC _ h1 n _ y hy;dsimp only at hc
   rw[HH hb.2,(nf env args).2.2.2.2.2.1]at hc;refine⟨sj F.sh y,by rw[LN,hs],hc,?_⟩
   rw[Kg];exact ih _ K K' hz hK
 | loop lvl inits sorts key locs t ih=>
  intro env K K' h hK;have h:v7 (motive:=fun _=>Option (bx sh.tys)) none (ab (σ:=bx sorts) (fun go s=>t.fn tab mt n sh (env++iN sorts s) fun l us=>v7 (motive:=fun _=>Option (bx sh.tys)) (K l us) (v7 (motive:=fun _=>Option (bx sh.tys)) none (go (fK sorts us)) (v8 us.length sorts.length)) (v8 l lvl)) n (fK sorts (evX env inits).g)) (v8 (evX env inits).g.length sorts.length)=some z:=h
  cases hl:v8 (evX env inits).g.length sorts.length with
  |false=>rw[hl]at h;cases h
  | true=>
   rw[hl]at h;have h:ab (σ:=bx sorts) (fun go s=>t.fn tab mt n sh (env++iN sorts s) fun l us=>v7 (motive:=fun _=>Option (bx sh.tys)) (K l us) (v7 (motive:=fun _=>Option (bx sh.tys)) none (go (fK sorts us)) (v8 us.length sorts.length)) (v8 l lvl)) n (fK sorts (evX env inits).g)=some z:=h
   obtain⟨step,hstep⟩:∃step,step=fun(go:bx sorts->Option (bx sh.tys)) (s:bx sorts)=>t.fn tab mt n sh (env++iN sorts s) fun l us=>v7 (motive:=fun _=>Option (bx sh.tys)) (K l us) (v7 (motive:=fun _=>Option (bx sh.tys)) none (go (fK sorts us)) (v8 us.length sorts.length)) (v8 l lvl):=⟨_,rfl⟩
   rw[<-hstep]at h;refine T.den_loop (iN sorts) (fun s=>∃m,ab step m s=some z) (fun s=>oe fun m=>ab step m s=some z) (fK sorts (evX env inits).g) ?_ ⟨n,h⟩ fun s hI=>?_
   ·rw[xx _ _ (y1 hl),(nf env inits).2.2.2.2.2.1]
   obtain⟨h1,h2⟩:=mC hI;obtain⟨m,hm⟩:∃m,m=oe fun m=>ab step m s=some z:=⟨_,rfl⟩
   rw[<-hm]at h1 h2⊢
   cases m with
   |zero=>cases h1
   | succ m=>
    have h1:step (ab step m) s=some z:=h1
    have hst:step (ab step m) s=t.fn tab mt n sh (env++iN sorts s) fun l us=>v7 (motive:=fun _=>Option (bx sh.tys)) (K l us) (v7 (motive:=fun _=>Option (bx sh.tys)) none (ab step m (fK sorts us)) (v8 us.length sorts.length)) (v8 l lvl):=by rw[hstep]
    rw[hst]at h1;refine ih _ _ _ h1 fun l us hu=>?_
    unfold upd;cases hb:v8 l lvl with
    | true=>
     rw[hb]at hu;have:=y1 hb
     rw[if_pos this];cases hc:v8 us.length sorts.length with
     |false=>rw[hc]at hu;cases hu
     |true=>
      rw[hc]at hu;have hu:ab step m (fK sorts us)=some z:=hu
      exact⟨fK sorts us,(xx _ _ (y1 hc)).symm,⟨m,hu⟩,Nat.lt_succ_of_le ((mC ⟨m,hu⟩).2 m hu)⟩
    |false=>
     rw[hb]at hu;have:l≠lvl:=fun e=>by subst e;rw[show v8 l l=true from Nat.beq_refl l]at hb;cases hb
     rw[if_neg this];exact hK _ _ hu
 |again lvl es=>
  intro env K K' h hK;have h:K lvl (evX env es).g=some z:=h
  rw[(nf env es).2.2.2.2.2.1]at h;exact hK _ _ h
 |ext f ks vs t ih=>
  intro env K K' h hK;have h:v7 (motive:=fun _=>Option (bx sh.tys)) none (t.fn tab mt n sh env K) (II mt f ks vs)=some z:=h
  cases hb:II mt f ks vs with
  |false=>rw[hb]at h;cases h
  |true=>rw[hb]at h;exact⟨hM _ (Pc hb),ih env K K' h hK⟩
theorem FnT.ok_of{cfg:Cfg}{f:Nat}{F:FnT}{tab:Tab}{mt:MTab}(hfit:PFit P)(hC:tab.ok P)(hM:mt.ok P)(ho:∀s fn,P.funcs[f]?=some fn->yB P fn.params.toList (IT F.ps s)=true)
  (h:∀n s,(K7 P cfg f).fn tab mt n F.sh (eE (IT F.ps s)) (fun _ _=>none)=F.fn n s):F.ok P f:=fun n s z hz=>by
 rw[<-h n s]at hz;exact K0 (cfg:=cfg) (K:=fun _ _=>False) hfit (ho s) (by rw[<-F7];exact T.fn_den hC hM _ _ _ _ hz fun _ _ h=>by cases h)
theorem Tab.ok_nil:Tab.ok P []:=fun _ h=>by cases h
theorem Tab.ok_cons{f:Nat}{F:FnT}{tab:Tab}(h:F.ok P f)(ht:tab.ok P):Tab.ok P ((f,F)::tab):=fun x hx=>by
 rcases List.mem_cons.1 hx with rfl|hx
 ·exact h
 ·exact ht x hx
end
end Go.Sx
namespace Go.Proofs.YtbfkkigbedmhgaaGreat
open Go Go.Sx
theorem Nh:Tryz.prog.funcs.toList.all (fun fn=>fn.name != "runtime.NumGoroutine")=true:=by kernel_rfl
theorem KS:Tryz.prog.follows .mixedOrders=true:=by kernel_rfl
theorem az:PFit Tryz.prog:=⟨KS,fun f fn h=>by
 have h1:fn∈Tryz.prog.funcs.toList:=by rw[Array.mem_toList_iff];exact R3 h
 have h2:=List.all_eq_true.1 Nh fn h1;simpa using h2⟩
end Go.Proofs.YtbfkkigbedmhgaaGreat
set_option maxRecDepth 100000
namespace Go.Proofs.YtbfkkigbedmhgaaGreat
open Go Go.Sx
noncomputable section
def bp:List Nat:=[12,13,14,15,16,17,18,19,20,21,22,23,24,25,26,27,28,29,30,31,32,33,34,37,38,39,40,43,44,45,46,47,48,49,50,51,54,55,56,57,58,59,62,66,68,69,70,71,72,73,74,75,76,77,78,84,85,86,87,89,95,105,106,107,108,109,110,111,112,114,115,116,117,120,122,149,150,152,153,159,176,178,179,180,182,183,184,186,187,193,202,203,204,210,211,1000015,1000022,1000049,1000050,1000051,1000062,2000151,2000152,2000217,2000247,2000248,2000249]
def aq:List (Nat×SV×SV):=[(161,SV.of [.agg (SV.of [.vi (.int 1),.vi (.int 1)]),.agg (SV.of [.vi (.int 2),.vi (.int 1)]),.agg (SV.of [.vi (.int 3),.vi (.int 2)]),.agg (SV.of [.vi (.int 4),.vi (.int 2)]),.agg (SV.of [.vi (.int 5),.vi (.int 1)]),.agg (SV.of [.vi (.int 5),.vi (.int 2)]),.agg (SV.of [.vi (.int 5),.vi (.int 3)]),.agg (SV.of [.vi (.int 6),.vi (.int 4)])],SV.of [.vi (.int 3),.vi (.int 2),.vi (.int 3),.vi (.int 6),.vi (.int 7),.vi (.int 7),.vi (.int 7),.vi (.int 8)])]
def Tab0:Tab:=[]
theorem KD:Tab0.ok Tryz.prog:=Tab.ok_nil
def mt0:MTab:=[]
theorem bA:mt0.ok Tryz.prog:=fun _ h=>by cases h
abbrev AF:=Int
def yO(n:Nat)(a b:Int):Option AF:=
 (bif a<0 then bif(-9223372036854775808<=(a+1))&&((a+1)<=9223372036854775807)then bif(-9223372036854775808<=(0-(a+1)))&&((0-(a+1))<=9223372036854775807)then bif !(b=0)then some (RJ (0-(a+1)) b)else none else none else none else bif !(b=0)then some (RJ a b)else none)
def bC(n:Nat)(a b:Int):Option AF:=yO n a b
abbrev tSh:Ty:=.sl (.cons .int (.cons .int (.cons .int (.cons .int (.cons .int (.cons .int (.cons .int (.cons .int .nil))))))))
abbrev tSg:Ty:=.sl (.cons .int (.cons .int (.cons .int (.cons .int (.cons .int (.cons .int (.cons .int .nil)))))))
abbrev tSc:Ty:=.sl (.cons .int (.cons .int (.cons .int .nil)))
abbrev tSa:Ty:=.sl (.cons .int .nil)
def ref14_pick_t:FnT:=⟨[(false,[.int]),(false,[.int])],.i,fun n (s:Int×Int)=>bC n s.1 s.2⟩
theorem GK:ref14_pick_t.ok Tryz.prog 176:=FnT.ok_of (cfg:=⟨[],bp,[],aq⟩) az KD bA (fun s fn hf=>by rw[Tryz.func176]at hf;cases hf;kernel_rfl) (fun n s=>by kernel_rfl)
def ref14_pick_T:Tab:=(176,ref14_pick_t)::Tab0
theorem tH:ref14_pick_T.ok Tryz.prog:=Tab.ok_cons GK KD
abbrev yw:=Bool
def ya(n:Nat)(a b c d:Int):Option yw:=
 (bif 0<=a then(bif !(a<=3)then some false else(bif 0<=c then(bif !(c<=1000)then some false else(bif 0<=d then(bif !(d<=10000000)then some false else(bif a=0 then some (decide (b=(-1)))else(bif 0<=b then(bif b<=63 then some (decide (0<c))else some false)else some false)))else some false))else some false))else some false)
def oD(n:Nat)(a b c d:Int):Option yw:=ya n a b c d
def ref14_Valid_t:FnT:=⟨[(true,[.int,.int,.int,.int])],.b,fun n (s:Int×Int×Int×Int)=>oD n s.1 s.2.1 s.2.2.1 s.2.2.2⟩
theorem Fl:ref14_Valid_t.ok Tryz.prog 178:=FnT.ok_of (cfg:=⟨[],bp,[],aq⟩) az tH bA (fun s fn hf=>by rw[Tryz.func178]at hf;cases hf;kernel_rfl) (fun n s=>by kernel_rfl)
def ref14_Valid_T:Tab:=(178,ref14_Valid_t)::ref14_pick_T
theorem rl:ref14_Valid_T.ok Tryz.prog:=Tab.ok_cons Fl tH
abbrev vM:=Bool
def wF(n:Nat)(b c a:Int):Option vM:=
 (bif 1<=b then(bif !(b<=7)then some false else(bif 0<=c then(bif !(c<=10000000)then some false else(bif b=1 then(bif 0<=a then some (decide (a<=63))else some false)else(bif b=2 then(bif 0<=a then some (decide (a<=63))else some false)else some (decide (a=(-1))))))else some false))else some false)
def nI(n:Nat)(a b c:Int):Option vM:=wF n a b c
def ref14_Formed_t:FnT:=⟨[(true,[.int,.int,.int])],.b,fun n (s:Int×Int×Int)=>nI n s.1 s.2.1 s.2.2⟩
theorem C6:ref14_Formed_t.ok Tryz.prog 179:=FnT.ok_of (cfg:=⟨[],bp,[],aq⟩) az rl bA (fun s fn hf=>by rw[Tryz.func179]at hf;cases hf;kernel_rfl) (fun n s=>by kernel_rfl)
def ref14_Formed_T:Tab:=(179,ref14_Formed_t)::ref14_Valid_T
theorem qg:ref14_Formed_T.ok Tryz.prog:=Tab.ok_cons C6 rl
abbrev rW:=Bool
def rJ(n:Nat)(a f d c b e g:Int):Option rW:=
 (bif e<c then some false else(bif b=1 then(bif a=0 then some (decide (d<1000))else some false)else(bif b=2 then(bif a=1 then(bif !(f=g)then some (decide (d<1000))else some false)else some false)else(bif b=3 then some (decide (a=1))else(bif b=4 then some (decide (a=2))else(bif b=5 then(bif a=1 then some true else some (decide (a=2)))else(bif b=6 then some (decide (a=3))else(bif a=3 then bif(-9223372036854775808<=(c+2592000))&&((c+2592000)<=9223372036854775807)then some (decide ((c+2592000)<=e))else none else some false))))))))
def kB(n:Nat)(a b c d e f g:Int):Option rW:=rJ n a b c d e f g
def ref14_possible_t:FnT:=⟨[(true,[.int,.int,.int,.int]),(true,[.int,.int,.int])],.b,fun n (s:Int×Int×Int×Int×Int×Int×Int)=>kB n s.1 s.2.1 s.2.2.1 s.2.2.2.1 s.2.2.2.2.1 s.2.2.2.2.2.1 s.2.2.2.2.2.2⟩
theorem BC:ref14_possible_t.ok Tryz.prog 180:=FnT.ok_of (cfg:=⟨[],bp,[],aq⟩) az qg bA (fun s fn hf=>by rw[Tryz.func180]at hf;cases hf;kernel_rfl) (fun n s=>by kernel_rfl)
def ref14_possible_T:Tab:=(180,ref14_possible_t)::ref14_Formed_T
theorem nO:ref14_possible_T.ok Tryz.prog:=Tab.ok_cons BC qg
abbrev zt:=Int×Int×Int×Int×Int
def yV(n:Nat)(f d a g c b e:Int):Option zt:=
 (oD n f d a g).bind fun h=>
 (bif(!h)then some (0,0,0,0,140)else(nI n c b e).bind fun i=>
 (bif(!i)then some (0,0,0,0,140)else(kB n f d a g c b e).bind fun j=>
 (bif(!j)then some (0,0,0,0,140)else(bif c=1 then bif(-9223372036854775808<=(a+1))&&((a+1)<=9223372036854775807)then some (1,e,(a+1),b,0)else none else(bif c=2 then bif(-9223372036854775808<=(a+1))&&((a+1)<=9223372036854775807)then some (1,e,(a+1),b,0)else none else(bif c=3 then some (2,d,a,b,0)else(bif c=4 then some (1,d,a,b,0)else(bif c=6 then some (1,d,a,b,0)else(bif c=5 then some (3,d,a,b,0)else some (0,(-1),a,b,0))))))))))
def iJ(n:Nat)(a b c d e f g:Int):Option zt:=yV n a b c d e f g
def ref14_Step_t:FnT:=⟨[(true,[.int,.int,.int,.int]),(true,[.int,.int,.int])],(.tup (.cons (.agg (.cons .i (.cons .i (.cons .i (.cons .i .nil))))) (.cons .i .nil))),fun n (s:Int×Int×Int×Int×Int×Int×Int)=>iJ n s.1 s.2.1 s.2.2.1 s.2.2.2.1 s.2.2.2.2.1 s.2.2.2.2.2.1 s.2.2.2.2.2.2⟩
theorem Gn:ref14_Step_t.ok Tryz.prog 106:=FnT.ok_of (cfg:=⟨[],bp,[],aq⟩) az nO bA (fun s fn hf=>by rw[Tryz.func106]at hf;cases hf;kernel_rfl) (fun n s=>by kernel_rfl)
def ref14_Step_T:Tab:=(106,ref14_Step_t)::ref14_possible_T
theorem tE:ref14_Step_T.ok Tryz.prog:=Tab.ok_cons Gn nO
abbrev oG:=Int×Int×Int×Int×Int×Int
abbrev yF:=Int×Int×Int×Int×Int
def B9(n:Nat)(c:yF->Option oG)(b:Lv)(a d e f g:Int):Option oG:=
 (bif a<(b.length:Int) then bif 0<=a then(iJ n d e f g (cI b a 0) (cI b a 1) (cI b a 2)).bind fun y6=>
 (bif !(y6.2.2.2.2=0)then some (0,0,0,0,a,140)else(bif a=40 then some (0,0,0,0,a,140)else bif(-9223372036854775808<=(a+1))&&((a+1)<=9223372036854775807)then c ((a+1),y6.1,y6.2.1,y6.2.2.1,y6.2.2.2.1)else none))else none else some (d,e,f,g,(b.length:Int),0))
def BY(n:Nat)(b:Lv):Option oG:=
 (ab (fun a s=>B9 n a b s.1 s.2.1 s.2.2.1 s.2.2.2.1 s.2.2.2.2) n ((0,0,(-1),0,0):yF))
def tB(n:Nat)(a:Lv):Option oG:=BY n a
def ref14_Run_t:FnT:=⟨[(false,[tSc])],(.tup (.cons (.agg (.cons .i (.cons .i (.cons .i (.cons .i .nil))))) (.cons .i (.cons .i .nil)))),fun n (s:Lv)=>tB n s⟩
theorem HI:ref14_Run_t.ok Tryz.prog 149:=FnT.ok_of (cfg:=⟨[((149,3,5),.inv [(.tmp 6 .int),(.cell 3 0 .int),(.cell 3 1 .int),(.cell 3 2 .int),(.cell 3 3 .int)])],bp,[],aq⟩) az tE bA (fun s fn hf=>by rw[Tryz.func149]at hf;cases hf;kernel_rfl) (fun n s=>by kernel_rfl)
def ref14_Run_T:Tab:=(149,ref14_Run_t)::ref14_Step_T
theorem vE:ref14_Run_T.ok Tryz.prog:=Tab.ok_cons HI tE
abbrev Ee:=Bool
def Db(n:Nat)(a:Lv):Option Ee:=
 (tB n a).bind fun b=>
 some (decide (b.2.2.2.2.2=0))
def mh(n:Nat)(a:Lv):Option Ee:=Db n a
def ref14_Is_t:FnT:=⟨[(false,[tSc])],.b,fun n (s:Lv)=>mh n s⟩
theorem JK:ref14_Is_t.ok Tryz.prog 74:=FnT.ok_of (cfg:=⟨[],bp,[],aq⟩) az vE bA (fun s fn hf=>by rw[Tryz.func74]at hf;cases hf;kernel_rfl) (fun n s=>by kernel_rfl)
def ref14_Is_T:Tab:=(74,ref14_Is_t)::ref14_Run_T
theorem yy:ref14_Is_T.ok Tryz.prog:=Tab.ok_cons JK vE
abbrev qo:=Int×Int×Int×Int
abbrev B4:=Int×Int×Int×Int×Int
def Em(n:Nat)(d:B4->Option qo)(b:Lv)(i a e f g h:Int):Option qo:=
 (bif a<(b.length:Int) then bif 0<=a then(bif (cI b a 1)<=i then(iJ n e f g h (cI b a 0) (cI b a 1) (cI b a 2)).bind fun c=>
 bif(-9223372036854775808<=(a+1))&&((a+1)<=9223372036854775807)then d ((a+1),c.1,c.2.1,c.2.2.1,c.2.2.2.1)else none else some (e,f,g,h))else none else some (e,f,g,h))
def DE(n:Nat)(b:Lv)(c:Int):Option qo:=
 (ab (fun a s=>Em n a b c s.1 s.2.1 s.2.2.1 s.2.2.2.1 s.2.2.2.2) n ((0,0,(-1),0,0):B4))
def wW(n:Nat)(a:Lv)(b:Int):Option qo:=DE n a b
def ref14_at_t:FnT:=⟨[(false,[tSc]),(false,[.int])],(.agg (.cons .i (.cons .i (.cons .i (.cons .i .nil))))),fun n (s:Lv×Int)=>wW n s.1 s.2⟩
theorem Km:ref14_at_t.ok Tryz.prog 186:=FnT.ok_of (cfg:=⟨[((186,3,5),.inv [(.tmp 6 .int),(.cell 3 0 .int),(.cell 3 1 .int),(.cell 3 2 .int),(.cell 3 3 .int)])],bp,[],aq⟩) az yy bA (fun s fn hf=>by rw[Tryz.func186]at hf;cases hf;kernel_rfl) (fun n s=>by kernel_rfl)
def ref14_at_T:Tab:=(186,ref14_at_t)::ref14_Is_T
theorem yj:ref14_at_T.ok Tryz.prog:=Tab.ok_cons Km yy
abbrev Eh:=Int×Int×Int×Int×Int
def Dr(n:Nat)(c:Lv)(b:Int):Option Eh:=
 (mh n c).bind fun d=>
 (bif(!d)then some (0,0,0,0,140)else(bif 0<=b then(bif !(b<=10000000)then some (0,0,0,0,140)else(wW n c b).bind fun a=>
 some (a.1,a.2.1,a.2.2.1,a.2.2.2,0))else some (0,0,0,0,140)))
def wN(n:Nat)(a:Lv)(b:Int):Option Eh:=Dr n a b
def ref14_At_t:FnT:=⟨[(false,[tSc]),(false,[.int])],(.tup (.cons (.agg (.cons .i (.cons .i (.cons .i (.cons .i .nil))))) (.cons .i .nil))),fun n (s:Lv×Int)=>wN n s.1 s.2⟩
theorem JH:ref14_At_t.ok Tryz.prog 117:=FnT.ok_of (cfg:=⟨[],bp,[],aq⟩) az yj bA (fun s fn hf=>by rw[Tryz.func117]at hf;cases hf;kernel_rfl) (fun n s=>by kernel_rfl)
def ref14_At_T:Tab:=(117,ref14_At_t)::ref14_at_T
theorem ye:ref14_At_T.ok Tryz.prog:=Tab.ok_cons JH yj
abbrev pA:=Int×Int×Int
def xK(n:Nat)(i f c g h e:Int):Option pA:=
 (bif i=2 then(bC n g 2).bind fun b=>
 bif 0<=b then bif b<2 then(bC n h 6).bind fun a=>
 (bif (cI ((([]:Lv)++[[(AV.int 4)]])++[[(AV.int 5)]]) b 0)=7 then bif(-9223372036854775808<=(a+2592000))&&((a+2592000)<=9223372036854775807)then bif(-9223372036854775808<=(c+(a+2592000)))&&((c+(a+2592000))<=9223372036854775807)then some ((cI ((([]:Lv)++[[(AV.int 4)]])++[[(AV.int 5)]]) b 0),(aQ (c+(a+2592000)) 10000000),(-1))else none else none else bif(-9223372036854775808<=(c+a))&&((c+a)<=9223372036854775807)then(bif (cI ((([]:Lv)++[[(AV.int 4)]])++[[(AV.int 5)]]) b 0)=1 then(bC n e 5).bind fun d=>
 some ((cI ((([]:Lv)++[[(AV.int 4)]])++[[(AV.int 5)]]) b 0),(aQ (c+a) 10000000),d)else(bif (cI ((([]:Lv)++[[(AV.int 4)]])++[[(AV.int 5)]]) b 0)=2 then(bC n e 5).bind fun d=>
 (bif d=f then bif(-9223372036854775808<=(d+1))&&((d+1)<=9223372036854775807)then some ((cI ((([]:Lv)++[[(AV.int 4)]])++[[(AV.int 5)]]) b 0),(aQ (c+a) 10000000),(d+1))else none else some ((cI ((([]:Lv)++[[(AV.int 4)]])++[[(AV.int 5)]]) b 0),(aQ (c+a) 10000000),d))else some ((cI ((([]:Lv)++[[(AV.int 4)]])++[[(AV.int 5)]]) b 0),(aQ (c+a) 10000000),(-1))))else none)else none else none else(bif i=3 then(bC n g 3).bind fun b=>
 bif 0<=b then bif b<3 then(bC n h 6).bind fun a=>
 (bif (cI (((([]:Lv)++[[(AV.int 7)]])++[[(AV.int 6)]])++[[(AV.int 7)]]) b 0)=7 then bif(-9223372036854775808<=(a+2592000))&&((a+2592000)<=9223372036854775807)then bif(-9223372036854775808<=(c+(a+2592000)))&&((c+(a+2592000))<=9223372036854775807)then some ((cI (((([]:Lv)++[[(AV.int 7)]])++[[(AV.int 6)]])++[[(AV.int 7)]]) b 0),(aQ (c+(a+2592000)) 10000000),(-1))else none else none else bif(-9223372036854775808<=(c+a))&&((c+a)<=9223372036854775807)then(bif (cI (((([]:Lv)++[[(AV.int 7)]])++[[(AV.int 6)]])++[[(AV.int 7)]]) b 0)=1 then(bC n e 5).bind fun d=>
 some ((cI (((([]:Lv)++[[(AV.int 7)]])++[[(AV.int 6)]])++[[(AV.int 7)]]) b 0),(aQ (c+a) 10000000),d)else(bif (cI (((([]:Lv)++[[(AV.int 7)]])++[[(AV.int 6)]])++[[(AV.int 7)]]) b 0)=2 then(bC n e 5).bind fun d=>
 (bif d=f then bif(-9223372036854775808<=(d+1))&&((d+1)<=9223372036854775807)then some ((cI (((([]:Lv)++[[(AV.int 7)]])++[[(AV.int 6)]])++[[(AV.int 7)]]) b 0),(aQ (c+a) 10000000),(d+1))else none else some ((cI (((([]:Lv)++[[(AV.int 7)]])++[[(AV.int 6)]])++[[(AV.int 7)]]) b 0),(aQ (c+a) 10000000),d))else some ((cI (((([]:Lv)++[[(AV.int 7)]])++[[(AV.int 6)]])++[[(AV.int 7)]]) b 0),(aQ (c+a) 10000000),(-1))))else none)else none else none else(bC n g 1).bind fun b=>
 bif 0<=b then bif b<1 then(bC n h 6).bind fun a=>
 (bif (cI (([]:Lv)++[[(AV.int 1)]]) b 0)=7 then bif(-9223372036854775808<=(a+2592000))&&((a+2592000)<=9223372036854775807)then bif(-9223372036854775808<=(c+(a+2592000)))&&((c+(a+2592000))<=9223372036854775807)then some ((cI (([]:Lv)++[[(AV.int 1)]]) b 0),(aQ (c+(a+2592000)) 10000000),(-1))else none else none else bif(-9223372036854775808<=(c+a))&&((c+a)<=9223372036854775807)then(bif (cI (([]:Lv)++[[(AV.int 1)]]) b 0)=1 then(bC n e 5).bind fun d=>
 some ((cI (([]:Lv)++[[(AV.int 1)]]) b 0),(aQ (c+a) 10000000),d)else(bif (cI (([]:Lv)++[[(AV.int 1)]]) b 0)=2 then(bC n e 5).bind fun d=>
 (bif d=f then bif(-9223372036854775808<=(d+1))&&((d+1)<=9223372036854775807)then some ((cI (([]:Lv)++[[(AV.int 1)]]) b 0),(aQ (c+a) 10000000),(d+1))else none else some ((cI (([]:Lv)++[[(AV.int 1)]]) b 0),(aQ (c+a) 10000000),d))else some ((cI (([]:Lv)++[[(AV.int 1)]]) b 0),(aQ (c+a) 10000000),(-1))))else none)else none else none))
def yk(n:Nat)(f g b h i e:Int):Option pA:=
 (bif f=1 then(bC n h 5).bind fun c=>
 bif 0<=c then bif c<5 then(bC n i 6).bind fun a=>
 (bif (cI (((((([]:Lv)++[[(AV.int 2)]])++[[(AV.int 3)]])++[[(AV.int 5)]])++[[(AV.int 3)]])++[[(AV.int 5)]]) c 0)=7 then bif(-9223372036854775808<=(a+2592000))&&((a+2592000)<=9223372036854775807)then bif(-9223372036854775808<=(b+(a+2592000)))&&((b+(a+2592000))<=9223372036854775807)then some ((cI (((((([]:Lv)++[[(AV.int 2)]])++[[(AV.int 3)]])++[[(AV.int 5)]])++[[(AV.int 3)]])++[[(AV.int 5)]]) c 0),(aQ (b+(a+2592000)) 10000000),(-1))else none else none else bif(-9223372036854775808<=(b+a))&&((b+a)<=9223372036854775807)then(bif (cI (((((([]:Lv)++[[(AV.int 2)]])++[[(AV.int 3)]])++[[(AV.int 5)]])++[[(AV.int 3)]])++[[(AV.int 5)]]) c 0)=1 then(bC n e 5).bind fun d=>
 some ((cI (((((([]:Lv)++[[(AV.int 2)]])++[[(AV.int 3)]])++[[(AV.int 5)]])++[[(AV.int 3)]])++[[(AV.int 5)]]) c 0),(aQ (b+a) 10000000),d)else(bif (cI (((((([]:Lv)++[[(AV.int 2)]])++[[(AV.int 3)]])++[[(AV.int 5)]])++[[(AV.int 3)]])++[[(AV.int 5)]]) c 0)=2 then(bC n e 5).bind fun d=>
 (bif d=g then bif(-9223372036854775808<=(d+1))&&((d+1)<=9223372036854775807)then some ((cI (((((([]:Lv)++[[(AV.int 2)]])++[[(AV.int 3)]])++[[(AV.int 5)]])++[[(AV.int 3)]])++[[(AV.int 5)]]) c 0),(aQ (b+a) 10000000),(d+1))else none else some ((cI (((((([]:Lv)++[[(AV.int 2)]])++[[(AV.int 3)]])++[[(AV.int 5)]])++[[(AV.int 3)]])++[[(AV.int 5)]]) c 0),(aQ (b+a) 10000000),d))else some ((cI (((((([]:Lv)++[[(AV.int 2)]])++[[(AV.int 3)]])++[[(AV.int 5)]])++[[(AV.int 3)]])++[[(AV.int 5)]]) c 0),(aQ (b+a) 10000000),(-1))))else none)else none else none else xK n f g b h i e)
def lr(n:Nat)(a b g c d e f:Int):Option pA:=yk n a b c d e f
def ref14_After_t:FnT:=⟨[(true,[.int,.int,.int,.int]),(true,[.int,.int,.int])],(.agg (.cons .i (.cons .i (.cons .i .nil)))),fun n (s:Int×Int×Int×Int×Int×Int×Int)=>lr n s.1 s.2.1 s.2.2.1 s.2.2.2.1 s.2.2.2.2.1 s.2.2.2.2.2.1 s.2.2.2.2.2.2⟩
theorem ET:ref14_After_t.ok Tryz.prog 105:=FnT.ok_of (cfg:=⟨[],bp,[],aq⟩) az ye bA (fun s fn hf=>by rw[Tryz.func105]at hf;cases hf;kernel_rfl) (fun n s=>by kernel_rfl)
def ref14_After_T:Tab:=(105,ref14_After_t)::ref14_At_T
theorem si:ref14_After_T.ok Tryz.prog:=Tab.ok_cons ET ye
abbrev ni:=Lv
abbrev xI:=Lv×Int×Int×Int×Int×Int
def zV(n:Nat)(d:xI->Option ni)(f e:Lv)(a g h i j:Int):Option ni:=
 (bif a<(f.length:Int) then(bif a<16 then bif 0<=a then(lr n g h i j (cI f a 0) (cI f a 1) (cI f a 2)).bind fun c=>
 (iJ n g h i j c.1 c.2.1 c.2.2).bind fun b=>
 (bif b.2.2.2.2=0 then bif (((e.length:Int)+1)*24)<=140737488355328 then bif(-9223372036854775808<=(a+1))&&((a+1)<=9223372036854775807)then d ((e++[[(AV.int c.1),(AV.int c.2.1),(AV.int c.2.2)]]),(a+1),b.1,b.2.1,b.2.2.1,b.2.2.2.1)else none else none else bif(-9223372036854775808<=(a+1))&&((a+1)<=9223372036854775807)then d (e,(a+1),g,h,i,j)else none)else none else some e)else some e)
def AB(n:Nat)(b:Lv):Option ni:=
 (ab (fun a s=>zV n a b s.1 s.2.1 s.2.2.1 s.2.2.2.1 s.2.2.2.2.1 s.2.2.2.2.2) n ((([]:Lv),0,0,(-1),0,0):xI))
def mG(n:Nat)(a:Lv):Option ni:=AB n a
def ref14_Made_t:FnT:=⟨[(false,[tSc])],(.row 116 (.cons .int (.cons .int (.cons .int .nil)))),fun n (s:Lv)=>mG n s⟩
theorem GC:ref14_Made_t.ok Tryz.prog 44:=FnT.ok_of (cfg:=⟨[((44,4,4),.inv [(.tmprow 4 116 (.cons .int (.cons .int (.cons .int .nil)))),(.tmp 5 .int),(.cell 2 0 .int),(.cell 2 1 .int),(.cell 2 2 .int),(.cell 2 3 .int)])],bp,[],aq⟩) az si bA (fun s fn hf=>by rw[Tryz.func44]at hf;cases hf;kernel_rfl) (fun n s=>by kernel_rfl)
def ref14_Made_T:Tab:=(44,ref14_Made_t)::ref14_After_T
theorem tP:ref14_Made_T.ok Tryz.prog:=Tab.ok_cons GC si
abbrev yJ:=Bool
def At(n:Nat)(a b c d:Int):Option yJ:=
 (bif 0<=a then(bif !(a<=3)then some false else(bif 0<=c then(bif !(c<=1000)then some false else(bif 0<=d then(bif !(d<=10000000)then some false else(bif a=0 then some (decide (b=(-1)))else(bif 0<=b then(bif b<=63 then some (decide (1<=c))else some false)else some false)))else some false))else some false))else some false)
def qD(n:Nat)(a b c d:Int):Option yJ:=At n a b c d
def life_Valid_t:FnT:=⟨[(true,[.int,.int,.int,.int])],.b,fun n (s:Int×Int×Int×Int)=>qD n s.1 s.2.1 s.2.2.1 s.2.2.2⟩
theorem Hb:life_Valid_t.ok Tryz.prog 210:=FnT.ok_of (cfg:=⟨[],bp,[],aq⟩) az tP bA (fun s fn hf=>by rw[Tryz.func210]at hf;cases hf;kernel_rfl) (fun n s=>by kernel_rfl)
def life_Valid_T:Tab:=(210,life_Valid_t)::ref14_Made_T
theorem te:life_Valid_T.ok Tryz.prog:=Tab.ok_cons Hb tP
abbrev x9:=Bool
def py(n:Nat)(a c b:Int):Option x9:=
 (bif 1<=a then(bif !(a<=7)then some false else(bif 0<=c then(bif !(c<=10000000)then some false else bif 0<=a then bif a<8 then(bif(cB ((((((((([]:Lv)++[[(AV.int 0),(AV.int 0),(AV.bool false)]])++[[(AV.int 1),(AV.int 1),(AV.bool true)]])++[[(AV.int 2),(AV.int 1),(AV.bool true)]])++[[(AV.int 2),(AV.int 2),(AV.bool false)]])++[[(AV.int 4),(AV.int 1),(AV.bool false)]])++[[(AV.int 6),(AV.int 3),(AV.bool false)]])++[[(AV.int 8),(AV.int 1),(AV.bool false)]])++[[(AV.int 8),(AV.int 0),(AV.bool false)]]) a 2)then(bif 0<=b then some (decide (b<=63))else some false)else some (decide (b=(-1))))else none else none)else some false))else some false)
def lu(n:Nat)(a b c:Int):Option x9:=py n a b c
def life_Formed_t:FnT:=⟨[(true,[.int,.int,.int])],.b,fun n (s:Int×Int×Int)=>lu n s.1 s.2.1 s.2.2⟩
theorem Fh:life_Formed_t.ok Tryz.prog 211:=FnT.ok_of (cfg:=⟨[],bp,[],aq⟩) az te bA (fun s fn hf=>by rw[Tryz.func211]at hf;cases hf;kernel_rfl) (fun n s=>by kernel_rfl)
def life_Formed_T:Tab:=(211,life_Formed_t)::life_Valid_T
theorem qW:life_Formed_T.ok Tryz.prog:=Tab.ok_cons Fh te
abbrev gS:=Int×Int×Int×Int×Int
def BM(n:Nat)(e c d a b f:Int):Option gS:=
 (bif(cB ((((((((([]:Lv)++[[(AV.int 0),(AV.int 0),(AV.bool false)]])++[[(AV.int 1),(AV.int 1),(AV.bool true)]])++[[(AV.int 2),(AV.int 1),(AV.bool true)]])++[[(AV.int 2),(AV.int 2),(AV.bool false)]])++[[(AV.int 4),(AV.int 1),(AV.bool false)]])++[[(AV.int 6),(AV.int 3),(AV.bool false)]])++[[(AV.int 8),(AV.int 1),(AV.bool false)]])++[[(AV.int 8),(AV.int 0),(AV.bool false)]]) a 2)then(bif c=1000 then some (0,0,0,0,140)else(bif e=f then some (0,0,0,0,140)else(bif a=7 then bif(-9223372036854775808<=(b-d))&&((b-d)<=9223372036854775807)then(bif (b-d)<2592000 then some (0,0,0,0,140)else bif(-9223372036854775808<=(c+1))&&((c+1)<=9223372036854775807)then(bif (cI ((((((((([]:Lv)++[[(AV.int 0),(AV.int 0),(AV.bool false)]])++[[(AV.int 1),(AV.int 1),(AV.bool true)]])++[[(AV.int 2),(AV.int 1),(AV.bool true)]])++[[(AV.int 2),(AV.int 2),(AV.bool false)]])++[[(AV.int 4),(AV.int 1),(AV.bool false)]])++[[(AV.int 6),(AV.int 3),(AV.bool false)]])++[[(AV.int 8),(AV.int 1),(AV.bool false)]])++[[(AV.int 8),(AV.int 0),(AV.bool false)]]) a 1)=0 then some ((cI ((((((((([]:Lv)++[[(AV.int 0),(AV.int 0),(AV.bool false)]])++[[(AV.int 1),(AV.int 1),(AV.bool true)]])++[[(AV.int 2),(AV.int 1),(AV.bool true)]])++[[(AV.int 2),(AV.int 2),(AV.bool false)]])++[[(AV.int 4),(AV.int 1),(AV.bool false)]])++[[(AV.int 6),(AV.int 3),(AV.bool false)]])++[[(AV.int 8),(AV.int 1),(AV.bool false)]])++[[(AV.int 8),(AV.int 0),(AV.bool false)]]) a 1),(-1),(c+1),b,0)else some ((cI ((((((((([]:Lv)++[[(AV.int 0),(AV.int 0),(AV.bool false)]])++[[(AV.int 1),(AV.int 1),(AV.bool true)]])++[[(AV.int 2),(AV.int 1),(AV.bool true)]])++[[(AV.int 2),(AV.int 2),(AV.bool false)]])++[[(AV.int 4),(AV.int 1),(AV.bool false)]])++[[(AV.int 6),(AV.int 3),(AV.bool false)]])++[[(AV.int 8),(AV.int 1),(AV.bool false)]])++[[(AV.int 8),(AV.int 0),(AV.bool false)]]) a 1),f,(c+1),b,0))else none)else none else bif(-9223372036854775808<=(c+1))&&((c+1)<=9223372036854775807)then(bif (cI ((((((((([]:Lv)++[[(AV.int 0),(AV.int 0),(AV.bool false)]])++[[(AV.int 1),(AV.int 1),(AV.bool true)]])++[[(AV.int 2),(AV.int 1),(AV.bool true)]])++[[(AV.int 2),(AV.int 2),(AV.bool false)]])++[[(AV.int 4),(AV.int 1),(AV.bool false)]])++[[(AV.int 6),(AV.int 3),(AV.bool false)]])++[[(AV.int 8),(AV.int 1),(AV.bool false)]])++[[(AV.int 8),(AV.int 0),(AV.bool false)]]) a 1)=0 then some ((cI ((((((((([]:Lv)++[[(AV.int 0),(AV.int 0),(AV.bool false)]])++[[(AV.int 1),(AV.int 1),(AV.bool true)]])++[[(AV.int 2),(AV.int 1),(AV.bool true)]])++[[(AV.int 2),(AV.int 2),(AV.bool false)]])++[[(AV.int 4),(AV.int 1),(AV.bool false)]])++[[(AV.int 6),(AV.int 3),(AV.bool false)]])++[[(AV.int 8),(AV.int 1),(AV.bool false)]])++[[(AV.int 8),(AV.int 0),(AV.bool false)]]) a 1),(-1),(c+1),b,0)else some ((cI ((((((((([]:Lv)++[[(AV.int 0),(AV.int 0),(AV.bool false)]])++[[(AV.int 1),(AV.int 1),(AV.bool true)]])++[[(AV.int 2),(AV.int 1),(AV.bool true)]])++[[(AV.int 2),(AV.int 2),(AV.bool false)]])++[[(AV.int 4),(AV.int 1),(AV.bool false)]])++[[(AV.int 6),(AV.int 3),(AV.bool false)]])++[[(AV.int 8),(AV.int 1),(AV.bool false)]])++[[(AV.int 8),(AV.int 0),(AV.bool false)]]) a 1),f,(c+1),b,0))else none)))else(bif a=7 then bif(-9223372036854775808<=(b-d))&&((b-d)<=9223372036854775807)then(bif (b-d)<2592000 then some (0,0,0,0,140)else(bif (cI ((((((((([]:Lv)++[[(AV.int 0),(AV.int 0),(AV.bool false)]])++[[(AV.int 1),(AV.int 1),(AV.bool true)]])++[[(AV.int 2),(AV.int 1),(AV.bool true)]])++[[(AV.int 2),(AV.int 2),(AV.bool false)]])++[[(AV.int 4),(AV.int 1),(AV.bool false)]])++[[(AV.int 6),(AV.int 3),(AV.bool false)]])++[[(AV.int 8),(AV.int 1),(AV.bool false)]])++[[(AV.int 8),(AV.int 0),(AV.bool false)]]) a 1)=0 then some ((cI ((((((((([]:Lv)++[[(AV.int 0),(AV.int 0),(AV.bool false)]])++[[(AV.int 1),(AV.int 1),(AV.bool true)]])++[[(AV.int 2),(AV.int 1),(AV.bool true)]])++[[(AV.int 2),(AV.int 2),(AV.bool false)]])++[[(AV.int 4),(AV.int 1),(AV.bool false)]])++[[(AV.int 6),(AV.int 3),(AV.bool false)]])++[[(AV.int 8),(AV.int 1),(AV.bool false)]])++[[(AV.int 8),(AV.int 0),(AV.bool false)]]) a 1),(-1),c,b,0)else some ((cI ((((((((([]:Lv)++[[(AV.int 0),(AV.int 0),(AV.bool false)]])++[[(AV.int 1),(AV.int 1),(AV.bool true)]])++[[(AV.int 2),(AV.int 1),(AV.bool true)]])++[[(AV.int 2),(AV.int 2),(AV.bool false)]])++[[(AV.int 4),(AV.int 1),(AV.bool false)]])++[[(AV.int 6),(AV.int 3),(AV.bool false)]])++[[(AV.int 8),(AV.int 1),(AV.bool false)]])++[[(AV.int 8),(AV.int 0),(AV.bool false)]]) a 1),e,c,b,0)))else none else(bif (cI ((((((((([]:Lv)++[[(AV.int 0),(AV.int 0),(AV.bool false)]])++[[(AV.int 1),(AV.int 1),(AV.bool true)]])++[[(AV.int 2),(AV.int 1),(AV.bool true)]])++[[(AV.int 2),(AV.int 2),(AV.bool false)]])++[[(AV.int 4),(AV.int 1),(AV.bool false)]])++[[(AV.int 6),(AV.int 3),(AV.bool false)]])++[[(AV.int 8),(AV.int 1),(AV.bool false)]])++[[(AV.int 8),(AV.int 0),(AV.bool false)]]) a 1)=0 then some ((cI ((((((((([]:Lv)++[[(AV.int 0),(AV.int 0),(AV.bool false)]])++[[(AV.int 1),(AV.int 1),(AV.bool true)]])++[[(AV.int 2),(AV.int 1),(AV.bool true)]])++[[(AV.int 2),(AV.int 2),(AV.bool false)]])++[[(AV.int 4),(AV.int 1),(AV.bool false)]])++[[(AV.int 6),(AV.int 3),(AV.bool false)]])++[[(AV.int 8),(AV.int 1),(AV.bool false)]])++[[(AV.int 8),(AV.int 0),(AV.bool false)]]) a 1),(-1),c,b,0)else some ((cI ((((((((([]:Lv)++[[(AV.int 0),(AV.int 0),(AV.bool false)]])++[[(AV.int 1),(AV.int 1),(AV.bool true)]])++[[(AV.int 2),(AV.int 1),(AV.bool true)]])++[[(AV.int 2),(AV.int 2),(AV.bool false)]])++[[(AV.int 4),(AV.int 1),(AV.bool false)]])++[[(AV.int 6),(AV.int 3),(AV.bool false)]])++[[(AV.int 8),(AV.int 1),(AV.bool false)]])++[[(AV.int 8),(AV.int 0),(AV.bool false)]]) a 1),e,c,b,0))))
def BP(n:Nat)(b c d e a f g:Int):Option gS:=
 (bif (IOp.f .and (IOp.f .shr (cI ((((((((([]:Lv)++[[(AV.int 0),(AV.int 0),(AV.bool false)]])++[[(AV.int 1),(AV.int 1),(AV.bool true)]])++[[(AV.int 2),(AV.int 1),(AV.bool true)]])++[[(AV.int 2),(AV.int 2),(AV.bool false)]])++[[(AV.int 4),(AV.int 1),(AV.bool false)]])++[[(AV.int 6),(AV.int 3),(AV.bool false)]])++[[(AV.int 8),(AV.int 1),(AV.bool false)]])++[[(AV.int 8),(AV.int 0),(AV.bool false)]]) a 0) b) 1)=0 then some (0,0,0,0,140)else BM n c d e a f g)
def uS(n:Nat)(b e f c a d g:Int):Option gS:=
 (bif d<c then some (0,0,0,0,140)else bif 0<=a then bif a<8 then bif 0<=b then BP n b e f c a d g else none else none else none)
def BV(n:Nat)(a b c d e f g:Int)(h:Bool):Option gS:=
 (bif(!h)then some (0,0,0,0,140)else uS n a b c d e f g)
def BN(n:Nat)(d e f g a b c:Int)(h:Bool):Option gS:=
 (bif(!h)then some (0,0,0,0,140)else(lu n a b c).bind fun i=>
 BV n d e f g a b c i)
def BL(n:Nat)(a b c d e f g:Int):Option gS:=
 (qD n a b c d).bind fun h=>
 BN n a b c d e f g h
def oT(n:Nat)(a b c d e f g:Int):Option gS:=BL n a b c d e f g
def life_Step_t:FnT:=⟨[(true,[.int,.int,.int,.int]),(true,[.int,.int,.int])],(.tup (.cons (.agg (.cons .i (.cons .i (.cons .i (.cons .i .nil))))) (.cons .i .nil))),fun n (s:Int×Int×Int×Int×Int×Int×Int)=>oT n s.1 s.2.1 s.2.2.1 s.2.2.2.1 s.2.2.2.2.1 s.2.2.2.2.2.1 s.2.2.2.2.2.2⟩
theorem Im:life_Step_t.ok Tryz.prog 193:=FnT.ok_of (cfg:=⟨[],bp,[],aq⟩) az qW bA (fun s fn hf=>by rw[Tryz.func193]at hf;cases hf;kernel_rfl) (fun n s=>by kernel_rfl)
def life_Step_T:Tab:=(193,life_Step_t)::life_Formed_T
theorem wi:life_Step_T.ok Tryz.prog:=Tab.ok_cons Im qW
abbrev qC:=Int×Int×Int×Int×Int×Int
abbrev BO:=Int×Int×Int×Int×Int×Int×Int×Int×Int×Int
def D6(n:Nat)(e:BO->Option qC)(b:Lv)(c d g h i j k l m f:Int):Option qC:=
 (bif c<((y8 ((aQ (b.length:Int) 40)).toNat b).length:Int) then bif 0<=c then(oT n k l m f (cI (y8 ((aQ (b.length:Int) 40)).toNat b) c 0) (cI (y8 ((aQ (b.length:Int) 40)).toNat b) c 1) (cI (y8 ((aQ (b.length:Int) 40)).toNat b) c 2)).bind fun a=>
 (bif !(a.2.2.2.2=0)then(bif d<(b.length:Int) then some (0,0,0,0,d,140)else some (g,h,i,j,d,0))else bif(-9223372036854775808<=(c+1))&&((c+1)<=9223372036854775807)then e ((c+1),(c+1),a.1,a.2.1,a.2.2.1,a.2.2.2.1,a.1,a.2.1,a.2.2.1,a.2.2.2.1)else none)else none else(bif d<(b.length:Int) then some (0,0,0,0,d,140)else some (g,h,i,j,d,0)))
def DS(n:Nat)(a:Lv):Option qC:=
 bif 0<=(aQ (a.length:Int) 40) then bif (aQ (a.length:Int) 40)<=(a.length:Int) then(ab (fun b s=>D6 n b a s.1 s.2.1 s.2.2.1 s.2.2.2.1 s.2.2.2.2.1 s.2.2.2.2.2.1 s.2.2.2.2.2.2.1 s.2.2.2.2.2.2.2.1 s.2.2.2.2.2.2.2.2.1 s.2.2.2.2.2.2.2.2.2) n ((0,0,0,(-1),0,0,0,(-1),0,0):BO))else none else none
def ox(n:Nat)(a:Lv):Option qC:=DS n a
def life_Run_t:FnT:=⟨[(false,[tSc])],(.tup (.cons (.agg (.cons .i (.cons .i (.cons .i (.cons .i .nil))))) (.cons .i (.cons .i .nil)))),fun n (s:Lv)=>ox n s⟩
theorem J9:life_Run_t.ok Tryz.prog 69:=FnT.ok_of (cfg:=⟨[((192,3,13),.inv [(.tmp 15 .int),(.cell 1 0 .int),(.cell 2 0 .int),(.cell 2 1 .int),(.cell 2 2 .int),(.cell 2 3 .int),(.cell 7 0 .int),(.cell 7 1 .int),(.cell 7 2 .int),(.cell 7 3 .int)])],bp,[],aq⟩) az wi bA (fun s fn hf=>by rw[Tryz.func69]at hf;cases hf;kernel_rfl) (fun n s=>by kernel_rfl)
def life_Run_T:Tab:=(69,life_Run_t)::life_Step_T
theorem yf:life_Run_T.ok Tryz.prog:=Tab.ok_cons J9 wi
abbrev uf:=Int×Int×Int×Int×Bool
abbrev DY:=Int×Int
def FF(n:Nat)(d:DY->Option uf)(e:Lv)(f a b:Int):Option uf:=
 (bif a<b then bif(-9223372036854775808<=(a+b))&&((a+b)<=9223372036854775807)then bif 0<=1 then bif 0<=(IntKind.wrap .i64 (jY .shr .u64 (IntKind.wrap .u64 (a+b)) 1)) then bif (IntKind.wrap .i64 (jY .shr .u64 (IntKind.wrap .u64 (a+b)) 1))<(e.length:Int) then(bif !(f<(cI e (IntKind.wrap .i64 (jY .shr .u64 (IntKind.wrap .u64 (a+b)) 1)) 1))then bif(-9223372036854775808<=((IntKind.wrap .i64 (jY .shr .u64 (IntKind.wrap .u64 (a+b)) 1))+1))&&(((IntKind.wrap .i64 (jY .shr .u64 (IntKind.wrap .u64 (a+b)) 1))+1)<=9223372036854775807)then d (((IntKind.wrap .i64 (jY .shr .u64 (IntKind.wrap .u64 (a+b)) 1))+1),b)else none else d (a,(IntKind.wrap .i64 (jY .shr .u64 (IntKind.wrap .u64 (a+b)) 1))))else none else none else none else none else bif 0<=a then bif a<=(e.length:Int) then(ox n (y8 (a).toNat e)).bind fun c=>
 some (c.1,c.2.1,c.2.2.1,c.2.2.2.1,true)else none else none)
def FI(n:Nat)(a:Lv)(b:Int):Option uf:=
 (ox n a).bind fun d=>
 (bif !(d.2.2.2.2.2=0)then some (0,0,0,0,false)else(bif 0<=b then(bif !(b<=10000000)then some (0,0,0,0,false)else(ab (fun c s=>FF n c a b s.1 s.2) n ((0,(a.length:Int)):DY)))else some (0,0,0,0,false)))
def Bl(n:Nat)(a:Lv)(b:Int):Option uf:=FI n a b
def life_at_t:FnT:=⟨[(false,[tSc]),(false,[.int])],(.tup (.cons (.agg (.cons .i (.cons .i (.cons .i (.cons .i .nil))))) (.cons .b .nil))),fun n (s:Lv×Int)=>Bl n s.1 s.2⟩
theorem LX:life_at_t.ok Tryz.prog 95:=FnT.ok_of (cfg:=⟨[((169,2,5),.inv [(.tmp 5 .int),(.tmp 6 .int)])],bp,[],aq⟩) az yf bA (fun s fn hf=>by rw[Tryz.func95]at hf;cases hf;kernel_rfl) (fun n s=>by kernel_rfl)
def life_at_T:Tab:=(95,life_at_t)::life_Run_T
theorem zT:life_at_T.ok Tryz.prog:=Tab.ok_cons LX yf
abbrev FZ:=Int×Int×Int×Int×Int
def F6(n:Nat)(b:Lv)(c:Int):Option FZ:=
 (Bl n b c).bind fun a=>
 (bif(!a.2.2.2.2)then some (0,0,0,0,140)else some (a.1,a.2.1,a.2.2.1,a.2.2.2.1,0))
def Bq(n:Nat)(a:Lv)(b:Int):Option FZ:=F6 n a b
def life_At_t:FnT:=⟨[(false,[tSc]),(false,[.int])],(.tup (.cons (.agg (.cons .i (.cons .i (.cons .i (.cons .i .nil))))) (.cons .i .nil))),fun n (s:Lv×Int)=>Bq n s.1 s.2⟩
theorem Lo:life_At_t.ok Tryz.prog 34:=FnT.ok_of (cfg:=⟨[],bp,[],aq⟩) az zT bA (fun s fn hf=>by rw[Tryz.func34]at hf;cases hf;kernel_rfl) (fun n s=>by kernel_rfl)
def life_At_T:Tab:=(34,life_At_t)::life_at_T
theorem yE:life_At_T.ok Tryz.prog:=Tab.ok_cons Lo zT
abbrev zC:=Int
def AA(n:Nat)(a b:Int):Option zC:=
 (bif a<0 then bif(-9223372036854775808<=(a+1))&&((a+1)<=9223372036854775807)then bif(-9223372036854775808<=(0-(a+1)))&&((0-(a+1))<=9223372036854775807)then bif !(b=0)then some (RJ (0-(a+1)) b)else none else none else none else bif !(b=0)then some (RJ a b)else none)
def am(n:Nat)(a b:Int):Option zC:=AA n a b
def ref16_pick_t:FnT:=⟨[(false,[.int]),(false,[.int])],.i,fun n (s:Int×Int)=>am n s.1 s.2⟩
theorem Gt:ref16_pick_t.ok Tryz.prog 85:=FnT.ok_of (cfg:=⟨[],bp,[],aq⟩) az yE bA (fun s fn hf=>by rw[Tryz.func85]at hf;cases hf;kernel_rfl) (fun n s=>by kernel_rfl)
def ref16_pick_T:Tab:=(85,ref16_pick_t)::life_At_T
theorem tQ:ref16_pick_T.ok Tryz.prog:=Tab.ok_cons Gt yE
abbrev kZ:=Int×Int×Int×Int
def pT(n:Nat)(o j g d k p:Int):Option kZ:=
 (bif p=3 then(am n o 86400).bind fun y6=>
 bif(-9223372036854775808<=(1+y6))&&((1+y6)<=9223372036854775807)then(am n j 12).bind fun l=>
 bif(-9223372036854775808<=(1+l))&&((1+l)<=9223372036854775807)then bif(-9223372036854775808<=(v0 j 16))&&((v0 j 16)<=9223372036854775807)then(am n (v0 j 16) 4).bind fun i=>
 (bif i=3 then(am n j 86400).bind fun h=>
 bif(-9223372036854775808<=(1+h))&&((1+h)<=9223372036854775807)then(am n g 12).bind fun e=>
 bif(-9223372036854775808<=(1+e))&&((1+e)<=9223372036854775807)then bif(-9223372036854775808<=(v0 g 16))&&((v0 g 16)<=9223372036854775807)then(am n (v0 g 16) 4).bind fun b=>
 (bif b=3 then(am n g 86400).bind fun a=>
 bif(-9223372036854775808<=(1+a))&&((1+a)<=9223372036854775807)then(am n d 12).bind fun c=>
 bif(-9223372036854775808<=(1+c))&&((1+c)<=9223372036854775807)then bif(-9223372036854775808<=(v0 d 16))&&((v0 d 16)<=9223372036854775807)then(am n (v0 d 16) 4).bind fun f=>
 (bif f=3 then(am n d 86400).bind fun m=>
 bif(-9223372036854775808<=(1+m))&&((1+m)<=9223372036854775807)then some ((1+y6),(1+h),(1+a),(1+m))else none else some ((1+y6),(1+h),(1+a),(1+c)))else none else none else none else(am n d 12).bind fun a=>
 bif(-9223372036854775808<=(1+a))&&((1+a)<=9223372036854775807)then bif(-9223372036854775808<=(v0 d 16))&&((v0 d 16)<=9223372036854775807)then(am n (v0 d 16) 4).bind fun c=>
 (bif c=3 then(am n d 86400).bind fun f=>
 bif(-9223372036854775808<=(1+f))&&((1+f)<=9223372036854775807)then some ((1+y6),(1+h),(1+e),(1+f))else none else some ((1+y6),(1+h),(1+e),(1+a)))else none else none)else none else none else none else(am n g 12).bind fun h=>
 bif(-9223372036854775808<=(1+h))&&((1+h)<=9223372036854775807)then bif(-9223372036854775808<=(v0 g 16))&&((v0 g 16)<=9223372036854775807)then(am n (v0 g 16) 4).bind fun e=>
 (bif e=3 then(am n g 86400).bind fun b=>
 bif(-9223372036854775808<=(1+b))&&((1+b)<=9223372036854775807)then(am n d 12).bind fun a=>
 bif(-9223372036854775808<=(1+a))&&((1+a)<=9223372036854775807)then bif(-9223372036854775808<=(v0 d 16))&&((v0 d 16)<=9223372036854775807)then(am n (v0 d 16) 4).bind fun c=>
 (bif c=3 then(am n d 86400).bind fun f=>
 bif(-9223372036854775808<=(1+f))&&((1+f)<=9223372036854775807)then some ((1+y6),(1+l),(1+b),(1+f))else none else some ((1+y6),(1+l),(1+b),(1+a)))else none else none else none else(am n d 12).bind fun b=>
 bif(-9223372036854775808<=(1+b))&&((1+b)<=9223372036854775807)then bif(-9223372036854775808<=(v0 d 16))&&((v0 d 16)<=9223372036854775807)then(am n (v0 d 16) 4).bind fun a=>
 (bif a=3 then(am n d 86400).bind fun c=>
 bif(-9223372036854775808<=(1+c))&&((1+c)<=9223372036854775807)then some ((1+y6),(1+l),(1+h),(1+c))else none else some ((1+y6),(1+l),(1+h),(1+b)))else none else none)else none else none)else none else none else none else(am n j 12).bind fun y6=>
 bif(-9223372036854775808<=(1+y6))&&((1+y6)<=9223372036854775807)then bif(-9223372036854775808<=(v0 j 16))&&((v0 j 16)<=9223372036854775807)then(am n (v0 j 16) 4).bind fun l=>
 (bif l=3 then(am n j 86400).bind fun i=>
 bif(-9223372036854775808<=(1+i))&&((1+i)<=9223372036854775807)then(am n g 12).bind fun h=>
 bif(-9223372036854775808<=(1+h))&&((1+h)<=9223372036854775807)then bif(-9223372036854775808<=(v0 g 16))&&((v0 g 16)<=9223372036854775807)then(am n (v0 g 16) 4).bind fun e=>
 (bif e=3 then(am n g 86400).bind fun b=>
 bif(-9223372036854775808<=(1+b))&&((1+b)<=9223372036854775807)then(am n d 12).bind fun a=>
 bif(-9223372036854775808<=(1+a))&&((1+a)<=9223372036854775807)then bif(-9223372036854775808<=(v0 d 16))&&((v0 d 16)<=9223372036854775807)then(am n (v0 d 16) 4).bind fun c=>
 (bif c=3 then(am n d 86400).bind fun f=>
 bif(-9223372036854775808<=(1+f))&&((1+f)<=9223372036854775807)then some ((1+k),(1+i),(1+b),(1+f))else none else some ((1+k),(1+i),(1+b),(1+a)))else none else none else none else(am n d 12).bind fun b=>
 bif(-9223372036854775808<=(1+b))&&((1+b)<=9223372036854775807)then bif(-9223372036854775808<=(v0 d 16))&&((v0 d 16)<=9223372036854775807)then(am n (v0 d 16) 4).bind fun a=>
 (bif a=3 then(am n d 86400).bind fun c=>
 bif(-9223372036854775808<=(1+c))&&((1+c)<=9223372036854775807)then some ((1+k),(1+i),(1+h),(1+c))else none else some ((1+k),(1+i),(1+h),(1+b)))else none else none)else none else none else none else(am n g 12).bind fun i=>
 bif(-9223372036854775808<=(1+i))&&((1+i)<=9223372036854775807)then bif(-9223372036854775808<=(v0 g 16))&&((v0 g 16)<=9223372036854775807)then(am n (v0 g 16) 4).bind fun h=>
 (bif h=3 then(am n g 86400).bind fun e=>
 bif(-9223372036854775808<=(1+e))&&((1+e)<=9223372036854775807)then(am n d 12).bind fun b=>
 bif(-9223372036854775808<=(1+b))&&((1+b)<=9223372036854775807)then bif(-9223372036854775808<=(v0 d 16))&&((v0 d 16)<=9223372036854775807)then(am n (v0 d 16) 4).bind fun a=>
 (bif a=3 then(am n d 86400).bind fun c=>
 bif(-9223372036854775808<=(1+c))&&((1+c)<=9223372036854775807)then some ((1+k),(1+y6),(1+e),(1+c))else none else some ((1+k),(1+y6),(1+e),(1+b)))else none else none else none else(am n d 12).bind fun e=>
 bif(-9223372036854775808<=(1+e))&&((1+e)<=9223372036854775807)then bif(-9223372036854775808<=(v0 d 16))&&((v0 d 16)<=9223372036854775807)then(am n (v0 d 16) 4).bind fun b=>
 (bif b=3 then(am n d 86400).bind fun a=>
 bif(-9223372036854775808<=(1+a))&&((1+a)<=9223372036854775807)then some ((1+k),(1+y6),(1+i),(1+a))else none else some ((1+k),(1+y6),(1+i),(1+e)))else none else none)else none else none)else none else none)
def pZ(n:Nat)(a b c d:Int):Option kZ:=
 (am n a 12).bind fun y4=>
 bif(-9223372036854775808<=(1+y4))&&((1+y4)<=9223372036854775807)then bif(-9223372036854775808<=(v0 a 16))&&((v0 a 16)<=9223372036854775807)then(am n (v0 a 16) 4).bind fun y5=>
 pT n a b c d y4 y5 else none else none
def jE(n:Nat)(a b c d:Int):Option kZ:=pZ n a b c d
def ref16_MadeRules_t:FnT:=⟨[(true,[.int,.int,.int,.int])],(.agg (.cons .i (.cons .i (.cons .i (.cons .i .nil))))),fun n (s:Int×Int×Int×Int)=>jE n s.1 s.2.1 s.2.2.1 s.2.2.2⟩
theorem zD:ref16_MadeRules_t.ok Tryz.prog 84:=FnT.ok_of (cfg:=⟨[((84,3,0),.unroll 5)],bp,[],aq⟩) az tQ bA (fun s fn hf=>by rw[Tryz.func84]at hf;cases hf;kernel_rfl) (fun n s=>by kernel_rfl)
def ref16_MadeRules_T:Tab:=(84,ref16_MadeRules_t)::ref16_pick_T
theorem mV:ref16_MadeRules_T.ok Tryz.prog:=Tab.ok_cons zD tQ
abbrev x6:=Bool
def yt(n:Nat)(a b c d:Int):Option x6:=
 (bif 1<=a then(bif a<=1000000 then(bif 1<=b then(bif b<=1000000 then(bif 1<=c then(bif c<=1000000 then(bif 1<=d then some (decide (d<=1000000))else some false)else some false)else some false)else some false)else some false)else some false)else some false)
def oM(n:Nat)(a b c d:Int):Option x6:=yt n a b c d
def ref16_Rules_t:FnT:=⟨[(true,[.int,.int,.int,.int])],.b,fun n (s:Int×Int×Int×Int)=>oM n s.1 s.2.1 s.2.2.1 s.2.2.2⟩
theorem Fe:ref16_Rules_t.ok Tryz.prog 152:=FnT.ok_of (cfg:=⟨[],bp,[],aq⟩) az mV bA (fun s fn hf=>by rw[Tryz.func152]at hf;cases hf;kernel_rfl) (fun n s=>by kernel_rfl)
def ref16_Rules_T:Tab:=(152,ref16_Rules_t)::ref16_MadeRules_T
theorem rO:ref16_Rules_T.ok Tryz.prog:=Tab.ok_cons Fe mV
abbrev xZ:=Bool
def yg(n:Nat)(c a b d e:Int):Option xZ:=
 (bif 0<=c then(bif c<=99999999 then(bif 0<=a then(bif a<=7 then(bif 0<=b then(bif b<=7 then(bif !(a=b)then(bif 0<=d then(bif d<=63 then(bif 0<=e then some (decide (e<=10000000))else some false)else some false)else some false)else some false)else some false)else some false)else some false)else some false)else some false)else some false)
def oA(n:Nat)(a b c d e:Int)(f:Bool):Option xZ:=yg n a b c d e
def ref16_Claim_t:FnT:=⟨[(true,[.int,.int,.int,.int,.int,.bool])],.b,fun n (s:Int×Int×Int×Int×Int×Bool)=>oA n s.1 s.2.1 s.2.2.1 s.2.2.2.1 s.2.2.2.2.1 s.2.2.2.2.2⟩
theorem EF:ref16_Claim_t.ok Tryz.prog 153:=FnT.ok_of (cfg:=⟨[],bp,[],aq⟩) az rO bA (fun s fn hf=>by rw[Tryz.func153]at hf;cases hf;kernel_rfl) (fun n s=>by kernel_rfl)
def ref16_Claim_T:Tab:=(153,ref16_Claim_t)::ref16_Rules_T
theorem r7:ref16_Claim_T.ok Tryz.prog:=Tab.ok_cons EF rO
abbrev lN:=Bool
abbrev vX:=Int×Int
def xL(n:Nat)(c:vX->Option lN)(b:Lv)(d a:Int):Option lN:=
 (bif a<(b.length:Int) then bif 0<=a then(bif 1<=(cI b a 0) then(bif !((cI b a 0)<=6)then some false else(bif d<=(cI b a 1) then(bif !((cI b a 1)<=20000000)then some false else(bif (cI b a 0)=2 then(bif 1<=(cI b a 2) then(bif !((cI b a 2)<=9)then some false else bif(-9223372036854775808<=(a+1))&&((a+1)<=9223372036854775807)then c ((cI b a 1),(a+1))else none)else some false)else(bif (cI b a 0)=6 then(bif 1<=(cI b a 2) then(bif !((cI b a 2)<=9)then some false else bif(-9223372036854775808<=(a+1))&&((a+1)<=9223372036854775807)then c ((cI b a 1),(a+1))else none)else some false)else(bif !((cI b a 2)=0)then some false else bif(-9223372036854775808<=(a+1))&&((a+1)<=9223372036854775807)then c ((cI b a 1),(a+1))else none))))else some false))else some false)else none else some true)
def yh(n:Nat)(f g h i j k l m e:Int)(o:Bool)(a:Lv):Option lN:=
 (oM n f g h i).bind fun b=>
 (bif(!b)then some false else(oA n j k l m e o).bind fun c=>
 (bif(!c)then some false else(bif 20<(a.length:Int) then some false else(ab (fun d s=>xL n d a s.1 s.2) n ((e,0):vX)))))
def lD(n:Nat)(b c d e f g h i j:Int)(k:Bool)(a:Lv):Option lN:=yh n b c d e f g h i j k a
def ref16_Valid_t:FnT:=⟨[(true,[.int,.int,.int,.int]),(true,[.int,.int,.int,.int,.int,.bool]),(false,[tSc])],.b,fun n (s:Int×Int×Int×Int×Int×Int×Int×Int×Int×Bool×Lv)=>lD n s.1 s.2.1 s.2.2.1 s.2.2.2.1 s.2.2.2.2.1 s.2.2.2.2.2.1 s.2.2.2.2.2.2.1 s.2.2.2.2.2.2.2.1 s.2.2.2.2.2.2.2.2.1 s.2.2.2.2.2.2.2.2.2.1 s.2.2.2.2.2.2.2.2.2.2⟩
theorem EA:ref16_Valid_t.ok Tryz.prog 77:=FnT.ok_of (cfg:=⟨[((77,5,2),.inv [(.tmp 7 .int),(.tmp 8 .int)])],bp,[],aq⟩) az r7 bA (fun s fn hf=>by rw[Tryz.func77]at hf;cases hf;kernel_rfl) (fun n s=>by kernel_rfl)
def ref16_Valid_T:Tab:=(77,ref16_Valid_t)::ref16_Claim_T
theorem sJ:ref16_Valid_T.ok Tryz.prog:=Tab.ok_cons EA r7
abbrev wc:=Int×Int×Int
def vN(n:Nat)(c d e f b a:Int):Option wc:=
 (bif b=1 then bif(-9223372036854775808<=(a+c))&&((a+c)<=9223372036854775807)then some (b,a,(a+c))else none else(bif b=2 then bif(-9223372036854775808<=(a+e))&&((a+e)<=9223372036854775807)then some (b,a,(a+e))else none else(bif b=3 then bif(-9223372036854775808<=(a+d))&&((a+d)<=9223372036854775807)then some (b,a,(a+d))else none else(bif b=4 then bif(-9223372036854775808<=(a+f))&&((a+f)<=9223372036854775807)then some (b,a,(a+f))else none else some (b,a,(-1))))))
def cH(n:Nat)(a b c d e f:Int):Option wc:=vN n a b c d e f
def ref16_status_t:FnT:=⟨[(true,[.int,.int,.int,.int]),(false,[.int]),(false,[.int])],(.agg (.cons .i (.cons .i (.cons .i .nil)))),fun n (s:Int×Int×Int×Int×Int×Int)=>cH n s.1 s.2.1 s.2.2.1 s.2.2.2.1 s.2.2.2.2.1 s.2.2.2.2.2⟩
theorem DW:ref16_status_t.ok Tryz.prog 202:=FnT.ok_of (cfg:=⟨[],bp,[],aq⟩) az sJ bA (fun s fn hf=>by rw[Tryz.func202]at hf;cases hf;kernel_rfl) (fun n s=>by kernel_rfl)
def ref16_status_T:Tab:=(202,ref16_status_t)::ref16_Valid_T
theorem pS:ref16_status_T.ok Tryz.prog:=Tab.ok_cons DW sJ
abbrev xQ:=Int
def yp(n:Nat)(a:Int):Option xQ:=
 (bif a=3 then some 4 else(bif a=4 then some 5 else some 3))
def lq(n:Nat)(a:Int):Option xQ:=yp n a
def ref16_after_t:FnT:=⟨[(false,[.int])],.i,fun n (s:Int)=>lq n s⟩
theorem E3:ref16_after_t.ok Tryz.prog 203:=FnT.ok_of (cfg:=⟨[],bp,[],aq⟩) az pS bA (fun s fn hf=>by rw[Tryz.func203]at hf;cases hf;kernel_rfl) (fun n s=>by kernel_rfl)
def ref16_after_T:Tab:=(203,ref16_after_t)::ref16_status_T
theorem sa:ref16_after_T.ok Tryz.prog:=Tab.ok_cons E3 pS
abbrev tZ:=Int
def uo(n:Nat)(c:Bool)(a b d:Int):Option tZ:=
 (bif b=1 then(bif a=1 then some 3 else some (-1))else(bif b=2 then(bif a=1 then(bif d=1 then(bif(!c)then some 6 else some (-1))else some 2)else some (-1))else(bif b=3 then(bif a=2 then some 3 else some (-1))else(bif b=4 then(bif a=2 then some 6 else some (-1))else(bif b=5 then(bif a=1 then some 7 else(bif a=2 then some 7 else(bif a=3 then some 7 else some (-1))))else(bif b=6 then(bif a=4 then(bif !(d=1)then some 8 else(bif(!c)then some 8 else some (-1)))else some (-1))else some (-1)))))))
def eR(n:Nat)(e f g h i:Int)(a:Bool)(b c j d:Int):Option tZ:=uo n a b c d
def ref16_becomes_t:FnT:=⟨[(true,[.int,.int,.int,.int,.int,.bool]),(false,[.int]),(true,[.int,.int,.int])],.i,fun n (s:Int×Int×Int×Int×Int×Bool×Int×Int×Int×Int)=>eR n s.1 s.2.1 s.2.2.1 s.2.2.2.1 s.2.2.2.2.1 s.2.2.2.2.2.1 s.2.2.2.2.2.2.1 s.2.2.2.2.2.2.2.1 s.2.2.2.2.2.2.2.2.1 s.2.2.2.2.2.2.2.2.2⟩
theorem Cm:ref16_becomes_t.ok Tryz.prog 204:=FnT.ok_of (cfg:=⟨[],bp,[],aq⟩) az sa bA (fun s fn hf=>by rw[Tryz.func204]at hf;cases hf;kernel_rfl) (fun n s=>by kernel_rfl)
def ref16_becomes_T:Tab:=(204,ref16_becomes_t)::ref16_after_T
theorem ph:ref16_becomes_T.ok Tryz.prog:=Tab.ok_cons Cm sa
abbrev cy:=Lv×Lv
abbrev iu:=Lv×Lv×Int
abbrev mY:=Lv×Int×Int×Int
def BZ(n:Nat)(g:iu->Option cy)(k:mY->Option cy)(l m o p q r s t u:Int)(v:Bool)(c:Lv)(h:Int)(e:Lv)(a:Int)(d:Lv)(i j:Int):Option cy:=
 (bif 0<=j then(bif j<=(aQ (cI c a 1) h) then(lq n i).bind fun f=>
 (cH n l m o p f j).bind fun b=>
 bif (((d.length:Int)+1)*24)<=140737488355328 then k ((d++[[(AV.int b.1),(AV.int b.2.1),(AV.int b.2.2)]]),b.1,b.2.1,b.2.2)else none else(bif a=(c.length:Int) then some (d,e)else(bif h<(cI c a 1) then some (d,e)else(eR n q r s t u v i (cI c a 0) (cI c a 1) (cI c a 2)).bind fun f=>
 (bif f<0 then bif (((e.length:Int)+1)*8)<=140737488355328 then bif(-9223372036854775808<=(a+1))&&((a+1)<=9223372036854775807)then g (d,(e++[[(AV.int a)]]),(a+1))else none else none else(cH n l m o p f (cI c a 1)).bind fun b=>
 bif (((d.length:Int)+1)*24)<=140737488355328 then bif(-9223372036854775808<=(a+1))&&((a+1)<=9223372036854775807)then g ((d++[[(AV.int b.1),(AV.int b.2.1),(AV.int b.2.2)]]),e,(a+1))else none else none))))else(bif a=(c.length:Int) then some (d,e)else(bif h<(cI c a 1) then some (d,e)else(eR n q r s t u v i (cI c a 0) (cI c a 1) (cI c a 2)).bind fun f=>
 (bif f<0 then bif (((e.length:Int)+1)*8)<=140737488355328 then bif(-9223372036854775808<=(a+1))&&((a+1)<=9223372036854775807)then g (d,(e++[[(AV.int a)]]),(a+1))else none else none else(cH n l m o p f (cI c a 1)).bind fun b=>
 bif (((d.length:Int)+1)*24)<=140737488355328 then bif(-9223372036854775808<=(a+1))&&((a+1)<=9223372036854775807)then g ((d++[[(AV.int b.1),(AV.int b.2.1),(AV.int b.2.2)]]),e,(a+1))else none else none))))
def vf(n:Nat)(g:iu->Option cy)(k:mY->Option cy)(l m o p q r s t u:Int)(v:Bool)(b:Lv)(h:Int)(e:Lv)(a:Int)(d:Lv)(i j:Int):Option cy:=
 (bif 0<=j then(bif j<=h then(lq n i).bind fun f=>
 (cH n l m o p f j).bind fun c=>
 bif (((d.length:Int)+1)*24)<=140737488355328 then k ((d++[[(AV.int c.1),(AV.int c.2.1),(AV.int c.2.2)]]),c.1,c.2.1,c.2.2)else none else(bif a=(b.length:Int) then some (d,e)else bif 0<=a then bif a<(b.length:Int) then(bif h<(cI b a 1) then some (d,e)else(eR n q r s t u v i (cI b a 0) (cI b a 1) (cI b a 2)).bind fun f=>
 (bif f<0 then bif (((e.length:Int)+1)*8)<=140737488355328 then bif(-9223372036854775808<=(a+1))&&((a+1)<=9223372036854775807)then g (d,(e++[[(AV.int a)]]),(a+1))else none else none else(cH n l m o p f (cI b a 1)).bind fun c=>
 bif (((d.length:Int)+1)*24)<=140737488355328 then bif(-9223372036854775808<=(a+1))&&((a+1)<=9223372036854775807)then g ((d++[[(AV.int c.1),(AV.int c.2.1),(AV.int c.2.2)]]),e,(a+1))else none else none))else none else none))else(bif a=(b.length:Int) then some (d,e)else bif 0<=a then bif a<(b.length:Int) then(bif h<(cI b a 1) then some (d,e)else(eR n q r s t u v i (cI b a 0) (cI b a 1) (cI b a 2)).bind fun f=>
 (bif f<0 then bif (((e.length:Int)+1)*8)<=140737488355328 then bif(-9223372036854775808<=(a+1))&&((a+1)<=9223372036854775807)then g (d,(e++[[(AV.int a)]]),(a+1))else none else none else(cH n l m o p f (cI b a 1)).bind fun c=>
 bif (((d.length:Int)+1)*24)<=140737488355328 then bif(-9223372036854775808<=(a+1))&&((a+1)<=9223372036854775807)then g ((d++[[(AV.int c.1),(AV.int c.2.1),(AV.int c.2.2)]]),e,(a+1))else none else none))else none else none))
def BU(n:Nat)(e:iu->Option cy)(h i j k l m o p q:Int)(r:Bool)(c:Lv)(f:Int)(a g:Lv)(b:Int):Option cy:=
 (bif b<(c.length:Int) then bif 0<=b then bif(-9223372036854775808<=((a.length:Int)-1))&&(((a.length:Int)-1)<=9223372036854775807)then bif 0<=((a.length:Int)-1) then bif ((a.length:Int)-1)<(a.length:Int) then(ab (fun d s=>BZ n e d h i j k l m o p q r c f g b s.1 s.2.1 s.2.2.2) n ((a,(cI a ((a.length:Int)-1) 0),(cI a ((a.length:Int)-1) 1),(cI a ((a.length:Int)-1) 2)):mY))else none else none else none else none else bif(-9223372036854775808<=((a.length:Int)-1))&&(((a.length:Int)-1)<=9223372036854775807)then bif 0<=((a.length:Int)-1) then bif ((a.length:Int)-1)<(a.length:Int) then(ab (fun d s=>vf n e d h i j k l m o p q r c f g b s.1 s.2.1 s.2.2.2) n ((a,(cI a ((a.length:Int)-1) 0),(cI a ((a.length:Int)-1) 1),(cI a ((a.length:Int)-1) 2)):mY))else none else none else none)
def BS(n:Nat)(e:iu->Option cy)(g h i j k l m o p:Int)(q:Bool)(a:Lv)(f:Int)(b c:Lv)(d:Int):Option cy:=
 (bif d<=(a.length:Int) then BU n e g h i j k l m o p q a f b c d else some (b,c))
def BR(n:Nat)(e f g h j k l m i:Int)(o:Bool)(b:Lv)(c:Int):Option cy:=
 (cH n e f g h 1 i).bind fun a=>
 (ab (fun d s=>BS n d e f g h j k l m i o b c s.1 s.2.1 s.2.2) n (((([]:Lv)++[[(AV.int a.1),(AV.int a.2.1),(AV.int a.2.2)]]),([]:Lv),0):iu))
def o8(n:Nat)(c d e f g h i j k:Int)(l:Bool)(a:Lv)(b:Int):Option cy:=BR n c d e f g h i j k l a b
def ref16_run_t:FnT:=⟨[(true,[.int,.int,.int,.int]),(true,[.int,.int,.int,.int,.int,.bool]),(false,[tSc]),(false,[.int])],(.tup (.cons (.row 88 (.cons .int (.cons .int (.cons .int .nil)))) (.cons (.row 3 (.cons .int .nil)) .nil))),fun n (s:Int×Int×Int×Int×Int×Int×Int×Int×Int×Bool×Lv×Int)=>o8 n s.1 s.2.1 s.2.2.1 s.2.2.2.1 s.2.2.2.2.1 s.2.2.2.2.2.1 s.2.2.2.2.2.2.1 s.2.2.2.2.2.2.2.1 s.2.2.2.2.2.2.2.2.1 s.2.2.2.2.2.2.2.2.2.1 s.2.2.2.2.2.2.2.2.2.2.1 s.2.2.2.2.2.2.2.2.2.2.2⟩
theorem Jq:ref16_run_t.ok Tryz.prog 159:=FnT.ok_of (cfg:=⟨[((159,4,3),.inv [(.tmprow 10 88 (.cons .int (.cons .int (.cons .int .nil)))),(.tmprow 11 3 (.cons .int .nil)),(.tmp 12 .int)]),((159,10,8),.inv [(.tmprow 10 88 (.cons .int (.cons .int (.cons .int .nil)))),(.cell 6 0 .int),(.cell 6 1 .int),(.cell 6 2 .int)])],bp,[],aq⟩) az ph bA (fun s fn hf=>by rw[Tryz.func159]at hf;cases hf;kernel_rfl) (fun n s=>by kernel_rfl)
def ref16_run_T:Tab:=(159,ref16_run_t)::ref16_becomes_T
theorem vB:ref16_run_T.ok Tryz.prog:=Tab.ok_cons Jq ph
abbrev tz:=Int×Int×Int×Int
def ua(n:Nat)(f g h i j k l m d:Int)(o:Bool)(c:Lv)(b:Int):Option tz:=
 (lD n f g h i j k l m d o c).bind fun e=>
 (bif(!e)then some (0,0,0,160)else(bif 0<=b then(bif !(b<=20000000)then some (0,0,0,160)else(bif b<d then some (0,0,d,0)else(o8 n f g h i j k l m d o c b).bind fun a=>
 bif(-9223372036854775808<=((a.1.length:Int)-1))&&(((a.1.length:Int)-1)<=9223372036854775807)then bif 0<=((a.1.length:Int)-1) then bif ((a.1.length:Int)-1)<(a.1.length:Int) then some ((cI a.1 ((a.1.length:Int)-1) 0),(cI a.1 ((a.1.length:Int)-1) 1),(cI a.1 ((a.1.length:Int)-1) 2),0)else none else none else none))else some (0,0,0,160)))
def i9(n:Nat)(c d e f g h i j k:Int)(l:Bool)(a:Lv)(b:Int):Option tz:=ua n c d e f g h i j k l a b
def ref16_Outcome_t:FnT:=⟨[(true,[.int,.int,.int,.int]),(true,[.int,.int,.int,.int,.int,.bool]),(false,[tSc]),(false,[.int])],(.tup (.cons (.agg (.cons .i (.cons .i (.cons .i .nil)))) (.cons .i .nil))),fun n (s:Int×Int×Int×Int×Int×Int×Int×Int×Int×Bool×Lv×Int)=>i9 n s.1 s.2.1 s.2.2.1 s.2.2.2.1 s.2.2.2.2.1 s.2.2.2.2.2.1 s.2.2.2.2.2.2.1 s.2.2.2.2.2.2.2.1 s.2.2.2.2.2.2.2.2.1 s.2.2.2.2.2.2.2.2.2.1 s.2.2.2.2.2.2.2.2.2.2.1 s.2.2.2.2.2.2.2.2.2.2.2⟩
theorem CF:ref16_Outcome_t.ok Tryz.prog 86:=FnT.ok_of (cfg:=⟨[],bp,[],aq⟩) az vB bA (fun s fn hf=>by rw[Tryz.func86]at hf;cases hf;kernel_rfl) (fun n s=>by kernel_rfl)
def ref16_Outcome_T:Tab:=(86,ref16_Outcome_t)::ref16_run_T
theorem pm:ref16_Outcome_T.ok Tryz.prog:=Tab.ok_cons CF vB
abbrev yD:=Int×Int
def AC(n:Nat)(f g h i j e b k l:Int)(m:Bool)(c:Lv)(d:Int):Option yD:=
 (i9 n f g h i j e b k l m c d).bind fun a=>
 (bif !(a.2.2.2=0)then some (0,160)else(bif a.1=4 then some (b,0)else(bif a.1=5 then some (b,0)else some (e,0))))
def mE(n:Nat)(c d e f g h i j k:Int)(l:Bool)(a:Lv)(b:Int):Option yD:=AC n c d e f g h i j k l a b
def ref16_With_t:FnT:=⟨[(true,[.int,.int,.int,.int]),(true,[.int,.int,.int,.int,.int,.bool]),(false,[tSc]),(false,[.int])],(.tup (.cons .i (.cons .i .nil))),fun n (s:Int×Int×Int×Int×Int×Int×Int×Int×Int×Bool×Lv×Int)=>mE n s.1 s.2.1 s.2.2.1 s.2.2.2.1 s.2.2.2.2.1 s.2.2.2.2.2.1 s.2.2.2.2.2.2.1 s.2.2.2.2.2.2.2.1 s.2.2.2.2.2.2.2.2.1 s.2.2.2.2.2.2.2.2.2.1 s.2.2.2.2.2.2.2.2.2.2.1 s.2.2.2.2.2.2.2.2.2.2.2⟩
theorem Gw:ref16_With_t.ok Tryz.prog 120:=FnT.ok_of (cfg:=⟨[],bp,[],aq⟩) az pm bA (fun s fn hf=>by rw[Tryz.func120]at hf;cases hf;kernel_rfl) (fun n s=>by kernel_rfl)
def ref16_With_T:Tab:=(120,ref16_With_t)::ref16_Outcome_T
theorem uA:ref16_With_T.ok Tryz.prog:=Tab.ok_cons Gw pm
abbrev dp:=Int×Int×Int×Int×Int×Int×Int×Int×Int×Bool×Lv
abbrev lP:=Lv×Int×Int
def zq(n:Nat)(i:lP->Option dp)(h b:Lv)(c a e f g:Int):Option dp:=
 (bif 0<g then bif(-9223372036854775808<=(v0 (cI h a 1) 4))&&((v0 (cI h a 1) 4)<=9223372036854775807)then(am n (v0 (cI h a 1) 4) 3).bind fun j=>
 (bif 0<j then bif(-9223372036854775808<=(g-1))&&((g-1)<=9223372036854775807)then(am n (cI h a 1) 3).bind fun d=>
 bif(-9223372036854775808<=((g-1)+d))&&(((g-1)+d)<=9223372036854775807)then(bif (1+e)=2 then(am n (cI h a 2) 4).bind fun k=>
 bif(-9223372036854775808<=(1+k))&&((1+k)<=9223372036854775807)then bif (((b.length:Int)+1)*24)<=140737488355328 then bif(-9223372036854775808<=(a+1))&&((a+1)<=9223372036854775807)then i ((b++[[(AV.int (1+e)),(AV.int (aZ c ((g-1)+d))),(AV.int (1+k))]]),(aZ c ((g-1)+d)),(a+1))else none else none else none else(bif (1+e)=6 then(am n (cI h a 2) 4).bind fun k=>
 bif(-9223372036854775808<=(1+k))&&((1+k)<=9223372036854775807)then bif (((b.length:Int)+1)*24)<=140737488355328 then bif(-9223372036854775808<=(a+1))&&((a+1)<=9223372036854775807)then i ((b++[[(AV.int (1+e)),(AV.int (aZ c ((g-1)+d))),(AV.int (1+k))]]),(aZ c ((g-1)+d)),(a+1))else none else none else none else bif (((b.length:Int)+1)*24)<=140737488355328 then bif(-9223372036854775808<=(a+1))&&((a+1)<=9223372036854775807)then i ((b++[[(AV.int (1+e)),(AV.int (aZ c ((g-1)+d))),(AV.int 0)]]),(aZ c ((g-1)+d)),(a+1))else none else none))else none else none else(bif (1+e)=2 then(am n (cI h a 2) 4).bind fun d=>
 bif(-9223372036854775808<=(1+d))&&((1+d)<=9223372036854775807)then bif (((b.length:Int)+1)*24)<=140737488355328 then bif(-9223372036854775808<=(a+1))&&((a+1)<=9223372036854775807)then i ((b++[[(AV.int (1+e)),(AV.int (c+f)),(AV.int (1+d))]]),(c+f),(a+1))else none else none else none else(bif (1+e)=6 then(am n (cI h a 2) 4).bind fun d=>
 bif(-9223372036854775808<=(1+d))&&((1+d)<=9223372036854775807)then bif (((b.length:Int)+1)*24)<=140737488355328 then bif(-9223372036854775808<=(a+1))&&((a+1)<=9223372036854775807)then i ((b++[[(AV.int (1+e)),(AV.int (c+f)),(AV.int (1+d))]]),(c+f),(a+1))else none else none else none else bif (((b.length:Int)+1)*24)<=140737488355328 then bif(-9223372036854775808<=(a+1))&&((a+1)<=9223372036854775807)then i ((b++[[(AV.int (1+e)),(AV.int (c+f)),(AV.int 0)]]),(c+f),(a+1))else none else none)))else none else(bif (1+e)=2 then(am n (cI h a 2) 4).bind fun j=>
 bif(-9223372036854775808<=(1+j))&&((1+j)<=9223372036854775807)then bif (((b.length:Int)+1)*24)<=140737488355328 then bif(-9223372036854775808<=(a+1))&&((a+1)<=9223372036854775807)then i ((b++[[(AV.int (1+e)),(AV.int (c+f)),(AV.int (1+j))]]),(c+f),(a+1))else none else none else none else(bif (1+e)=6 then(am n (cI h a 2) 4).bind fun j=>
 bif(-9223372036854775808<=(1+j))&&((1+j)<=9223372036854775807)then bif (((b.length:Int)+1)*24)<=140737488355328 then bif(-9223372036854775808<=(a+1))&&((a+1)<=9223372036854775807)then i ((b++[[(AV.int (1+e)),(AV.int (c+f)),(AV.int (1+j))]]),(c+f),(a+1))else none else none else none else bif (((b.length:Int)+1)*24)<=140737488355328 then bif(-9223372036854775808<=(a+1))&&((a+1)<=9223372036854775807)then i ((b++[[(AV.int (1+e)),(AV.int (c+f)),(AV.int 0)]]),(c+f),(a+1))else none else none)))
def AE(n:Nat)(r:lP->Option dp)(d:Lv)(h i j k l b m o p q:Int)(e:Lv)(c a:Int):Option dp:=
 (bif a<10 then bif 0<=a then(am n (cI d a 0) 6).bind fun f=>
 bif(-9223372036854775808<=(1+f))&&((1+f)<=9223372036854775807)then(am n (cI d a 1) 4).bind fun g=>
 bif(-9223372036854775808<=(c+g))&&((c+g)<=9223372036854775807)then(i9 n h i j k l b (RJ ((b+1)+q) 8) m o (decide (p=0)) e c).bind fun s=>
 zq n r d e c a f g s.2.2.1 else none else none else none else some (h,i,j,k,l,b,(RJ ((b+1)+q) 8),m,o,(decide (p=0)),e))
def yS(n:Nat)(o:lP->Option dp)(b:Lv)(c d e f g a h i j k:Int)(l:Lv)(p m:Int):Option dp:=
 (bif m<(b.length:Int) then AE n o b c d e f g a h i j k l p m else some (c,d,e,f,g,a,(RJ ((a+1)+k) 8),h,i,(decide (j=0)),l))
def zg(n:Nat)(j k l m o p q r t u:Int)(e:Lv):Option dp:=
 (jE n j k l m).bind fun b=>
 (am n o 100000000).bind fun f=>
 (am n p 8).bind fun a=>
 (am n r 64).bind fun g=>
 (am n t 1000).bind fun d=>
 (am n u 2).bind fun h=>
 bif(-9223372036854775808<=(a+1))&&((a+1)<=9223372036854775807)then(am n q 7).bind fun c=>
 bif(-9223372036854775808<=((a+1)+c))&&(((a+1)+c)<=9223372036854775807)then(ab (fun i s=>yS n i e b.1 b.2.1 b.2.2.1 b.2.2.2 f a g d h c s.1 s.2.1 s.2.2) n ((([]:Lv),d,0):lP))else none else none
def mN(n:Nat)(b c d e f g h i j k:Int)(a:Lv):Option dp:=zg n b c d e f g h i j k a
def ref16_Made_t:FnT:=⟨[(true,[.int,.int,.int,.int,.int,.int,.int,.int,.int,.int,tSc])],(.tup (.cons (.agg (.cons .i (.cons .i (.cons .i (.cons .i .nil))))) (.cons (.agg (.cons .i (.cons .i (.cons .i (.cons .i (.cons .i (.cons .b .nil))))))) (.cons (.row 166 (.cons .int (.cons .int (.cons .int .nil)))) .nil)))),fun n (s:Int×Int×Int×Int×Int×Int×Int×Int×Int×Int×Lv)=>mN n s.1 s.2.1 s.2.2.1 s.2.2.2.1 s.2.2.2.2.1 s.2.2.2.2.2.1 s.2.2.2.2.2.2.1 s.2.2.2.2.2.2.2.1 s.2.2.2.2.2.2.2.2.1 s.2.2.2.2.2.2.2.2.2.1 s.2.2.2.2.2.2.2.2.2.2⟩
theorem GS:ref16_Made_t.ok Tryz.prog 29:=FnT.ok_of (cfg:=⟨[((29,8,10),.inv [(.tmprow 8 166 (.cons .int (.cons .int (.cons .int .nil)))),(.tmp 9 .int),(.tmp 10 .int)])],bp,[],aq⟩) az uA bA (fun s fn hf=>by rw[Tryz.func29]at hf;cases hf;kernel_rfl) (fun n s=>by kernel_rfl)
def ref16_Made_T:Tab:=(29,ref16_Made_t)::ref16_With_T
theorem tq:ref16_Made_T.ok Tryz.prog:=Tab.ok_cons GS uA
abbrev eD:=Int×Int×Int×Int×Int×Int×Int×Int×Int×Bool×Lv
abbrev gh:=Lv
def iD(n:Nat)(c:gh->Option eD)(e f g h i j k l m:Int)(o:Bool)(d:Int)(a:Lv):Option eD:=
 (am n d 2).bind fun b=>
 bif(-9223372036854775808<=(20+b))&&((20+b)<=9223372036854775807)then(bif (a.length:Int)<(20+b) then bif (((a.length:Int)+1)*24)<=140737488355328 then c (a++[[(AV.int 1),(AV.int 20000000),(AV.int 0)]])else none else some (e,f,g,h,i,j,k,l,m,o,a))else none
def zA(n:Nat)(f g h i j d m k l:Int)(e:Bool)(a:Lv)(b p c:Int):Option eD:=
 (bif 0<(a.length:Int) then(am n p (a.length:Int)).bind fun o=>
 bif 0<=o then bif o<(a.length:Int) then(bif c=11 then some (f,g,h,i,j,d,m,k,l,e,(RL a (o).toNat (fun r=>r.set 0 (AV.int b))))else(bif c=12 then some (f,g,h,i,j,d,m,k,l,e,(RL a (o).toNat (fun r=>r.set 1 (AV.int b))))else some (f,g,h,i,j,d,m,k,l,e,(RL a (o).toNat (fun r=>r.set 2 (AV.int b))))))else none else none else(bif c=0 then some (b,g,h,i,j,d,m,k,l,e,a)else(bif c=1 then some (f,b,h,i,j,d,m,k,l,e,a)else(bif c=2 then some (f,g,b,i,j,d,m,k,l,e,a)else(bif c=3 then some (f,g,h,b,j,d,m,k,l,e,a)else(bif c=4 then some (f,g,h,i,b,d,m,k,l,e,a)else(bif c=5 then some (f,g,h,i,j,b,m,k,l,e,a)else(bif c=6 then some (f,g,h,i,j,d,b,k,l,e,a)else(bif c=7 then some (f,g,h,i,j,d,m,b,l,e,a)else(bif c=8 then some (f,g,h,i,j,d,m,k,b,e,a)else(bif c=9 then some (f,g,h,i,j,d,d,k,l,e,a)else(ab (fun q s=>iD n q f g h i j d m k l e b s) n (a:gh)))))))))))))
abbrev Ii:= @iD
def zw(n:Nat)(f g h i j d m k l:Int)(e:Bool)(a:Lv)(c o b:Int):Option eD:=
 (bif 11<=b then zA n f g h i j d m k l e a c o b else(bif b=0 then some (c,g,h,i,j,d,m,k,l,e,a)else(bif b=1 then some (f,c,h,i,j,d,m,k,l,e,a)else(bif b=2 then some (f,g,c,i,j,d,m,k,l,e,a)else(bif b=3 then some (f,g,h,c,j,d,m,k,l,e,a)else(bif b=4 then some (f,g,h,i,c,d,m,k,l,e,a)else(bif b=5 then some (f,g,h,i,j,c,m,k,l,e,a)else(bif b=6 then some (f,g,h,i,j,d,c,k,l,e,a)else(bif b=7 then some (f,g,h,i,j,d,m,c,l,e,a)else(bif b=8 then some (f,g,h,i,j,d,m,k,c,e,a)else(bif b=9 then some (f,g,h,i,j,d,d,k,l,e,a)else(ab (fun p s=>Ii n p f g h i j d m k l e c s) n (a:gh)))))))))))))
def AQ(n:Nat)(f g h i j k l m o:Int)(p:Bool)(a:Lv)(b c d:Int):Option eD:=
 bif ((a.length:Int)*24)<=140737488355328 then(am n b 14).bind fun e=>
 zw n f g h i j k l m o p a c d e else none
def qF(n:Nat)(e f g h i j k l m:Int)(o:Bool)(a:Lv)(b c d:Int):Option eD:=AQ n e f g h i j k l m o a b c d
def ref16_Bent_t:FnT:=⟨[(true,[.int,.int,.int,.int]),(true,[.int,.int,.int,.int,.int,.bool]),(false,[tSc]),(false,[.int]),(false,[.int]),(false,[.int])],(.tup (.cons (.agg (.cons .i (.cons .i (.cons .i (.cons .i .nil))))) (.cons (.agg (.cons .i (.cons .i (.cons .i (.cons .i (.cons .i (.cons .b .nil))))))) (.cons (.row 1000166 (.cons .int (.cons .int (.cons .int .nil)))) .nil)))),fun n (s:Int×Int×Int×Int×Int×Int×Int×Int×Int×Bool×Lv×Int×Int×Int)=>qF n s.1 s.2.1 s.2.2.1 s.2.2.2.1 s.2.2.2.2.1 s.2.2.2.2.2.1 s.2.2.2.2.2.2.1 s.2.2.2.2.2.2.2.1 s.2.2.2.2.2.2.2.2.1 s.2.2.2.2.2.2.2.2.2.1 s.2.2.2.2.2.2.2.2.2.2.1 s.2.2.2.2.2.2.2.2.2.2.2.1 s.2.2.2.2.2.2.2.2.2.2.2.2.1 s.2.2.2.2.2.2.2.2.2.2.2.2.2⟩
theorem Hi:ref16_Bent_t.ok Tryz.prog 50:=FnT.ok_of (cfg:=⟨[((50,13,6),.inv [(.tmprow 15 166 (.cons .int (.cons .int (.cons .int .nil))))])],bp,[],aq⟩) az tq bA (fun s fn hf=>by rw[Tryz.func50]at hf;cases hf;kernel_rfl) (fun n s=>by kernel_rfl)
def ref16_Bent_T:Tab:=(50,ref16_Bent_t)::ref16_Made_T
theorem tT:ref16_Bent_T.ok Tryz.prog:=Tab.ok_cons Hi tq
abbrev tF:=Bool
def tO(n:Nat)(c a b d e:Int):Option tF:=
 (bif 0<=c then(bif c<=99999999 then(bif 0<=a then(bif a<=7 then(bif 0<=b then(bif b<=7 then(bif !(a=b)then(bif 0<=d then(bif d<=63 then(bif 0<=e then some (decide (e<=10000000))else some false)else some false)else some false)else some false)else some false)else some false)else some false)else some false)else some false)else some false)
def ja(n:Nat)(a b c d e:Int)(f:Bool):Option tF:=tO n a b c d e
def claim_isClaim_t:FnT:=⟨[(true,[.int,.int,.int,.int,.int,.bool])],.b,fun n (s:Int×Int×Int×Int×Int×Bool)=>ja n s.1 s.2.1 s.2.2.1 s.2.2.2.1 s.2.2.2.2.1 s.2.2.2.2.2⟩
theorem Cb:claim_isClaim_t.ok Tryz.prog 89:=FnT.ok_of (cfg:=⟨[],bp,[],aq⟩) az tT bA (fun s fn hf=>by rw[Tryz.func89]at hf;cases hf;kernel_rfl) (fun n s=>by kernel_rfl)
def claim_isClaim_T:Tab:=(89,claim_isClaim_t)::ref16_Bent_T
theorem o6:claim_isClaim_T.ok Tryz.prog:=Tab.ok_cons Cb tT
abbrev gj:=Bool
abbrev vA:=Int×Int
abbrev wG:=Int
def yr(n:Nat)(c:vA->Option gj)(b:Lv)(a d:Int):Option gj:=
 (bif a<(b.length:Int) then bif 0<=a then(bif (cI b a 0)=2 then(bif 1<=(cI b a 0) then(bif !((cI b a 0)<=6)then some (!(decide (0<=a)))else(bif d<=(cI b a 1) then(bif !((cI b a 1)<=20000000)then some (!(decide (0<=a)))else(bif 1<=(cI b a 2) then(bif !((cI b a 2)<=9)then some (!(decide (0<=a)))else bif(-9223372036854775808<=(a+1))&&((a+1)<=9223372036854775807)then c ((a+1),(cI b a 1))else none)else some (!(decide (0<=a)))))else some (!(decide (0<=a)))))else some (!(decide (0<=a))))else(bif (cI b a 0)=6 then(bif 1<=(cI b a 0) then(bif !((cI b a 0)<=6)then some (!(decide (0<=a)))else(bif d<=(cI b a 1) then(bif !((cI b a 1)<=20000000)then some (!(decide (0<=a)))else(bif 1<=(cI b a 2) then(bif !((cI b a 2)<=9)then some (!(decide (0<=a)))else bif(-9223372036854775808<=(a+1))&&((a+1)<=9223372036854775807)then c ((a+1),(cI b a 1))else none)else some (!(decide (0<=a)))))else some (!(decide (0<=a)))))else some (!(decide (0<=a))))else(bif 1<=(cI b a 0) then(bif !((cI b a 0)<=6)then some (!(decide (0<=a)))else(bif d<=(cI b a 1) then(bif !((cI b a 1)<=20000000)then some (!(decide (0<=a)))else(bif 0<=(cI b a 2) then(bif !((cI b a 2)<=0)then some (!(decide (0<=a)))else bif(-9223372036854775808<=(a+1))&&((a+1)<=9223372036854775807)then c ((a+1),(cI b a 1))else none)else some (!(decide (0<=a)))))else some (!(decide (0<=a)))))else some (!(decide (0<=a))))))else none else some true)
def ym(n:Nat)(b:wG->Option gj)(e f g h j k l m i:Int)(o:Bool)(c:Lv)(a:Int):Option gj:=
 (bif a<4 then bif 0<=a then(bif 1<=(cI ((((([]:Lv)++[[(AV.int e)]])++[[(AV.int g)]])++[[(AV.int f)]])++[[(AV.int h)]]) a 0) then(bif !((cI ((((([]:Lv)++[[(AV.int e)]])++[[(AV.int g)]])++[[(AV.int f)]])++[[(AV.int h)]]) a 0)<=1000000)then some false else bif(-9223372036854775808<=(a+1))&&((a+1)<=9223372036854775807)then b (a+1)else none)else some false)else none else(ja n j k l m i o).bind fun d=>
 (bif(!d)then some false else(bif 20<(c.length:Int) then some false else(ab (fun b s=>yr n b c s.1 s.2) n ((0,i):vA)))))
def xU(n:Nat)(c d e f g h i j k:Int)(l:Bool)(a:Lv):Option gj:=
 (ab (fun b s=>ym n b c d e f g h i j k l a s) n (0:wG))
def lB(n:Nat)(b c d e f g h i j:Int)(k:Bool)(a:Lv):Option gj:=xU n b c d e f g h i j k a
def claim_Valid_t:FnT:=⟨[(true,[.int,.int,.int,.int]),(true,[.int,.int,.int,.int,.int,.bool]),(false,[tSc])],.b,fun n (s:Int×Int×Int×Int×Int×Int×Int×Int×Int×Bool×Lv)=>lB n s.1 s.2.1 s.2.2.1 s.2.2.2.1 s.2.2.2.2.1 s.2.2.2.2.2.1 s.2.2.2.2.2.2.1 s.2.2.2.2.2.2.2.1 s.2.2.2.2.2.2.2.2.1 s.2.2.2.2.2.2.2.2.2.1 s.2.2.2.2.2.2.2.2.2.2⟩
theorem Fk:claim_Valid_t.ok Tryz.prog 72:=FnT.ok_of (cfg:=⟨[((88,2,4),.inv [(.tmp 15 .int)]),((200,2,7),.inv [(.tmp 8 .int),(.cell 5 0 .int)])],bp,[],aq⟩) az o6 bA (fun s fn hf=>by rw[Tryz.func72]at hf;cases hf;kernel_rfl) (fun n s=>by kernel_rfl)
def claim_Valid_T:Tab:=(72,claim_Valid_t)::claim_isClaim_T
theorem r9:claim_Valid_T.ok Tryz.prog:=Tab.ok_cons Fk o6
abbrev ny:=Int×Int
abbrev xV:=Int
def yI(n:Nat)(g:xV->Option ny)(b e d f i j k l c:Int)(m:Bool)(a:Int):Option ny:=
 (bif a<4 then bif 0<=a then(bif 1<=(cI ((((([]:Lv)++[[(AV.int b)]])++[[(AV.int d)]])++[[(AV.int e)]])++[[(AV.int f)]]) a 0) then(bif !((cI ((((([]:Lv)++[[(AV.int b)]])++[[(AV.int d)]])++[[(AV.int e)]])++[[(AV.int f)]]) a 0)<=1000000)then some (0,160)else bif(-9223372036854775808<=(a+1))&&((a+1)<=9223372036854775807)then g (a+1)else none)else some (0,160))else none else(ja n i j k l c m).bind fun h=>
 (bif(!h)then some (0,160)else bif(-9223372036854775808<=(c+b))&&((c+b)<=9223372036854775807)then bif(-9223372036854775808<=((c+b)-1))&&(((c+b)-1)<=9223372036854775807)then bif(-9223372036854775808<=(((c+b)-1)+d))&&((((c+b)-1)+d)<=9223372036854775807)then bif(-9223372036854775808<=((((c+b)-1)+d)+e))&&(((((c+b)-1)+d)+e)<=9223372036854775807)then bif(-9223372036854775808<=(((((c+b)-1)+d)+e)+f))&&((((((c+b)-1)+d)+e)+f)<=9223372036854775807)then some ((((((c+b)-1)+d)+e)+f),0)else none else none else none else none else none))
def AI(n:Nat)(b c d e f g h i j:Int)(k:Bool):Option ny:=
 (ab (fun a s=>yI n a b c d e f g h i j k s) n (0:xV))
def xC(n:Nat)(a b c d e f g h i:Int)(j:Bool):Option ny:=AI n a b c d e f g h i j
def claim_Ends_t:FnT:=⟨[(true,[.int,.int,.int,.int]),(true,[.int,.int,.int,.int,.int,.bool])],(.tup (.cons .i (.cons .i .nil))),fun n (s:Int×Int×Int×Int×Int×Int×Int×Int×Int×Bool)=>xC n s.1 s.2.1 s.2.2.1 s.2.2.2.1 s.2.2.2.2.1 s.2.2.2.2.2.1 s.2.2.2.2.2.2.1 s.2.2.2.2.2.2.2.1 s.2.2.2.2.2.2.2.2.1 s.2.2.2.2.2.2.2.2.2⟩
theorem Hc:claim_Ends_t.ok Tryz.prog 31:=FnT.ok_of (cfg:=⟨[((88,2,4),.inv [(.tmp 15 .int)])],bp,[],aq⟩) az r9 bA (fun s fn hf=>by rw[Tryz.func31]at hf;cases hf;kernel_rfl) (fun n s=>by kernel_rfl)
def claim_Ends_T:Tab:=(31,claim_Ends_t)::claim_Valid_T
theorem uO:claim_Ends_T.ok Tryz.prog:=Tab.ok_cons Hc r9
end
open Go.RowKit Go.Dial
def mtE:MTab:=[(161,SV.of [.agg (SV.of [.vi (.int 1),.vi (.int 1)]),.agg (SV.of [.vi (.int 2),.vi (.int 1)]),.agg (SV.of [.vi (.int 3),.vi (.int 2)]),.agg (SV.of [.vi (.int 4),.vi (.int 2)]),.agg (SV.of [.vi (.int 5),.vi (.int 1)]),.agg (SV.of [.vi (.int 5),.vi (.int 2)]),.agg (SV.of [.vi (.int 5),.vi (.int 3)]),.agg (SV.of [.vi (.int 6),.vi (.int 4)])],SV.of [.vi (.int 3),.vi (.int 2),.vi (.int 3),.vi (.int 6),.vi (.int 7),.vi (.int 7),.vi (.int 7),.vi (.int 8)])]
def effTbl:List (Int×Int×Int):=[(1,1,3),(2,1,2),(3,2,3),(4,2,6),(5,1,7),(5,2,7),(5,3,7),(6,4,8)]
def gJ(k s:Int):Value:=.agg #[.int .i64 k,.int .i64 s]
theorem Mw{P:Program}{md:Region.Mode}{ops:Array Oper}{Q:Exit->Act->World->Prop}(J:Array Bool->Act->World->Prop)
  (hz:∀l a w,J l a w->l.size=ops.size)
  (hs:∀l a w i,J l a w->i∈Region.ready md ops l->wpOp P ops Q i (J (l.setIfInBounds i true)) a w)
  (he:∀l a w,J l a w->Region.ready md ops l=[]->Q .normal a w):
  ∀(fuel:Nat) (l:Array Bool) (a:Act) (w:World),J l a w->(l.toList.filter fun b=> !b).length<=fuel->wpAny P md ops Q fuel l a w:=by
 have none_left:∀l:Array Bool,(l.toList.filter fun b=> !b).length=0->Region.ready md ops l=[]:=fun l hl=>by
  unfold Region.ready;rw[List.filter_eq_nil_iff];intro i _ hi;rw[v2]at hi;have h1:=hi.1;cases hc:l[i]? with
  |none=>simp[hc]at h1
  |some b=>
   have:b=false:=by simpa[hc]using h1
   subst this;have hm:false∈l.toList.filter fun b=> !b:=List.mem_filter.2 ⟨by simpa using R3 hc,rfl⟩
   rw[List.length_eq_zero_iff.1 hl]at hm;cases hm
 have less:∀(l:List Bool) (i:Nat),l[i]?=some false->((l.set i true).filter fun b=> !b).length+1=(l.filter fun b=> !b).length:=by
  intro l;induction l with
  |nil=>intro i h;simp at h
  | cons b l ih=>
   intro i h;cases i with
   |zero=>cases h;simp
   |succ i=>
    have:=ih i h
    cases b<;>simp[List.filter_cons]at this⊢<;>omega
 intro fuel;induction fuel with
 |zero=>
  intro l a w hJ hl;exact⟨none_left l (by omega),he l a w hJ (none_left l (by omega))⟩
 | succ fuel ih=>
  intro l a w hJ hl;refine⟨fun h=>he l a w hJ h,fun i hi=>?_⟩
  have h1:l[i]?=some false:=by
   unfold Region.ready at hi;rw[RZ,v2]at hi;have h1:=hi.2.1;cases hc:l[i]? with
   |none=>simp[hc]at h1
   |some b=>cases b<;>simp[hc]at h1⊢
  have hf:((l.setIfInBounds i true).toList.filter fun b=> !b).length<=fuel:=by
   have:=less l.toList i (by simpa using h1)
   rw[Array.toList_setIfInBounds];omega
  exact wpOp_mono (fun a w h=>ih _ a w h hf) (hs l a w i hJ hi)
structure JE (w0:World) (l:Array Bool) (a:Act) (w:World):Prop where
 sz:l.size=19
 ts:a.tmps.size=11
 df:a.defers=[]
 below:Below w0.heap.size w0 w
 m:l[0]?=some true->∃r es c,a.tmps[1]?=some (.map (some r))/\w0.heap.size<=r/\w.heap[r]?=some (.map es c) ∧
  (∀(j:Nat) k s v,effTbl[j]?=some (k,s,v)->l[2*j+2]?=some true->∃e∈es.toList,e.key=gJ k s/\e.val=.int .i64 v) ∧
  (∀e∈es.toList,∃(j:Nat) (k s v:Int),effTbl[j]?=some (k,s,v)/\l[2*j+2]?=some true/\e.key=gJ k s/\e.val=.int .i64 v)
 b:∀(j:Nat) k s v,effTbl[j]?=some (k,s,v)->l[2*j+1]?=some true->a.tmps[j+2]?=some (gJ k s)
 n:∀(j:Nat),j<8->l[2*j+2]?=some true->l[0]?=some true
 o17:l[17]?=some true->l[0]?=some true/\a.tmps[10]?=a.tmps[1]?
 o18:l[18]?=some true->l[17]?=some true/\a.tmps[0]?=a.tmps[10]?
noncomputable def opsE:Array Oper:=match Tryz.f161.body with
 |some (.seq _ (.seq (.region _ ops _) _))=>ops
 |_=>#[]
theorem Q7:Tryz.f161.body=some (.seq (.region 0 #[{ dst:=some 0,op:=.assign (.const (.map none)),type:=233,pos := "claim.go:76",after:=#[],guard:=none }] false) (.seq (.region 1 opsE true) .ret)):=by kernel_rfl
theorem D3:opsE.size=19:=by kernel_rfl
theorem tyE:Tryz.prog.underlying 233=some (.map 272 ((Tryz.prog.underlying 233).elim 0 fun|.map _ e=>e|_=>0)):=by kernel_rfl
theorem Nw(k s:Int):f7 Tryz.prog 272 (gJ k s):=by
 have h:oO Tryz.prog 272 (.agg (SV.of [.vi (.int k),.vi (.int s)]))=true:=by kernel_rfl
 exact oj (env:=[]) (κ:=fun _=>undef) (F:=fun _=>False) (w:=default) h ⟨#[.int .i64 k,.int .i64 s],rfl,rfl,⟨_,[.int .i64 s],rfl,⟨rfl,rfl⟩,⟨_,[],rfl,⟨rfl,rfl⟩,rfl⟩⟩⟩
theorem Df(l:Array Bool)(i:Nat)(h:i∈Region.ready .any opsE l):i<19/\l[i]?=some false/\∀o,opsE[i]?=some o->∀e∈o.after,Region.binds .any e=true->l[e.on]?=some true:=by
 unfold Region.ready at h;rw[RZ,v2,Sh,D3]at h;obtain⟨h1,h2,h3⟩:=h;refine⟨h1,?_,fun o ho e he hb=>?_⟩
 ·cases hc:l[i]? with
  |none=>simp[hc]at h2
  |some b=>cases b<;>simp[hc]at h2⊢
 ·rw[ho]at h3
  simp only[Sg,RV,RM]at h3;have:=h3 e he
  rw[hb]at this;cases hc:l[e.on]? with
  |none=>simp[hc]at this
  |some b=>cases b<;>simp[hc]at this⊢
theorem DB{i:Nat}{x:Op×Option Tmp×Option (Nat×Bool)×List Edge}{q:Nat}(h:(opsE[i]?).map (fun o=>(o.op,o.dst,o.guard,o.after.toList.take q))=some x):∃o,opsE[i]?=some o/\o.op=x.1/\o.dst=x.2.1/\o.guard=x.2.2.1/\∀e∈x.2.2.2,e∈o.after:=by
 obtain⟨o,h1,rfl⟩:=Option.map_eq_some_iff.1 h;exact⟨o,h1,rfl,rfl,rfl,fun e he=>by simpa using List.mem_of_mem_take he⟩
theorem op0:(opsE[0]?).map (fun o=>(o.op,o.dst,o.guard,o.after.toList.take 0))=some (.makeMap 233 none,some 1,none,[]):=by kernel_rfl
theorem opB(j:Nat)(k s v:Int)(h:effTbl[j]?=some (k,s,v)):(opsE[2*j+1]?).map (fun o=>(o.op,o.dst,o.guard,o.after.toList.take 0))=some (.build 272 #[(0,.const (.int .i64 k)),(1,.const (.int .i64 s))],some (j+2),none,[]):=by
 have hj:j<8:=(List.getElem?_eq_some_iff.1 h).1
 have:j=0\/j=1\/j=2\/j=3\/j=4\/j=5\/j=6\/j=7:=by omega
 rcases this with rfl|rfl|rfl|rfl|rfl|rfl|rfl|rfl<;>(simp only[effTbl,RW,RX,Option.some.injEq,Prod.mk.injEq]at h;obtain⟨rfl,rfl,rfl⟩:=h)
 all_goals (show _=_;kernel_rfl)
theorem opI(j:Nat)(k s v:Int)(h:effTbl[j]?=some (k,s,v)):(opsE[2*j+2]?).map (fun o=>(o.op,o.dst,o.guard,o.after.toList.take 2))=some (.insert 233 (.tmp 1) (.tmp (j+2)) (.const (.int .i64 v)),none,none,[{ on:=0,ground:=.data },{ on:=2*j+1,ground:=.data }]):=by
 have hj:j<8:=(List.getElem?_eq_some_iff.1 h).1
 have:j=0\/j=1\/j=2\/j=3\/j=4\/j=5\/j=6\/j=7:=by omega
 rcases this with rfl|rfl|rfl|rfl|rfl|rfl|rfl|rfl<;>(simp only[effTbl,RW,RX,Option.some.injEq,Prod.mk.injEq]at h;obtain⟨rfl,rfl,rfl⟩:=h)
 all_goals (show _=_;kernel_rfl)
theorem Ru:(opsE[17]?).map (fun o=>(o.op,o.dst,o.guard,o.after.toList.take 1))=some (.move (.tmp 1),some 10,none,[{ on:=0,ground:=.data }]):=by kernel_rfl
theorem Ry:(opsE[18]?).map (fun o=>(o.op,o.dst,o.guard,o.after.toList.take 1))=some (.assign (.tmp 10),some 0,none,[{ on:=17,ground:=.data }]):=by kernel_rfl
theorem QI(k s:Int):Tryz.prog.built 272 [(0,.int .i64 k),(1,.int .i64 s)]=some #[.int .i64 k,.int .i64 s]:=by kernel_rfl
theorem nV{P:Program}{ops:Array Oper}{Q:Exit->Act->World->Prop}{i:Nat}{o:Oper}{a:Act}{w w':World}{u:Value}{K:Act->World->Prop}(ho:ops[i]?=some o)(hg:o.guard=none)(hr:cZ P o a w u w')(hk:K (a.put o.dst u) w'):wpOp P ops Q i K a w:=by
 unfold wpOp;rw[ho];simp only
 have hw:Region.wanted o (yielded ops a.tmps)=true:=by unfold Region.wanted;rw[hg]
 rw[if_pos hw];left
 unfold Oper.wp;rcases hr with h|⟨rfl,h⟩<;>rw[h]<;>exact hk
theorem Dd{a:Act}{d:Nat}{v:Value}(hd:d<a.tmps.size):(a.put (some d) v).tmps[d]?=some v:=by
 simp[Act.put,hd]
theorem fR{a:Act}{d x:Nat}{v:Value}(h:d≠x):(a.put (some d) v).tmps[x]?=a.tmps[x]?:=by
 simp[Act.put,RP,h]
theorem Al{a:Act}{d:Option Nat}{v:Value}:(a.put d v).tmps.size=a.tmps.size:=by
 cases d<;>simp[Act.put]
theorem AH{a:Act}{d:Option Nat}{v:Value}:(a.put d v).defers=a.defers:=by
 cases d<;>simp[Act.put]
theorem Ns{l:Array Bool}{i:Nat}(h:i<l.size):(l.setIfInBounds i true)[i]?=some true:=by simp[h]
theorem bG{l:Array Bool}{i x:Nat}(h:i≠x):(l.setIfInBounds i true)[x]?=l[x]?:=by simp[RP,h]
theorem xA{a:Act}{d:Nat}{v:Value}(h:a.tmps[d]?=some v):a.eval (.tmp d)=v:=by
 simp[Act.eval,h]
theorem lt8{j:Nat}{x:Int×Int×Int}(h:effTbl[j]?=some x):j<8:=(List.getElem?_eq_some_iff.1 h).1
section
variable {w0:World} {l:Array Bool} {a:Act} {w:World} {Q:Exit->Act->World->Prop}
theorem Rm(h:JE w0 l a w){j:Nat}{k s v:Int}(hj:effTbl[j]?=some (k,s,v))(hi:2*j+1∈Region.ready .any opsE l):wpOp Tryz.prog opsE Q (2*j+1) (JE w0 (l.setIfInBounds (2*j+1) true)) a w:=by
 obtain⟨o,ho,h1,h2,h3,_⟩:=DB (opB j k s v hj);have hj8:j<8:=(List.getElem?_eq_some_iff.1 hj).1
 refine nV (u:=gJ k s) (w':=w) ho h3 (.inl ?_) ?_
 ·have hrun:=run_build (P:=Tryz.prog) w 272 [(0,.int .i64 k),(1,.int .i64 s)].toArray _ (QI k s)
  simp only[execOp,h1];rw[Sem.run_bind];have hmap:Array.map (fun x=>(x.fst,a.eval x.snd)) #[(0,Operand.const (Value.int .i64 k)),(1,Operand.const (Value.int .i64 s))]=#[(0,Value.int .i64 k),(1,Value.int .i64 s)]:=by simp[Act.eval]
  have hrun':Sem.run Tryz.prog (Instr.build 272 #[(0,Value.int .i64 k),(1,Value.int .i64 s)]) w=.ok (gJ k s) w:=hrun
  rw[hmap,hrun',Result.andThen_ok,Sem.run_pure]
 ·rw[h2]
  have hs:=h.sz;have ht:=h.ts;refine⟨by simpa using hs,by rw[Al];exact ht,by rw[AH];exact h.df,h.below,fun h0=>?_,fun j' k' s' v' hj' hl=>?_,fun j' hj' hl=>?_,fun h17=>?_,fun h18=>?_⟩
  ·rw[bG (by omega)]at h0
   obtain⟨r,es,c,q1,q2,q3,q4,q5⟩:=h.m h0;refine⟨r,es,c,by rw[fR (by omega)];exact q1,q2,q3,fun j' k' s' v' hj' hl=>?_,fun e he=>?_⟩
   ·rw[bG (by omega)]at hl;exact q4 j' k' s' v' hj' hl
   ·obtain⟨j',k',s',v',e1,e2,e3⟩:=q5 e he
    exact⟨j',k',s',v',e1,by rw[bG (by omega)];exact e2,e3⟩
  ·by_cases e:j'=j
   ·subst e
    rw[hj]at hj';cases hj'
    exact Dd (by omega)
   ·rw[bG (by omega)]at hl
    rw[fR (by omega)]
    exact h.b j' k' s' v' hj' hl
  ·rw[bG (by omega)]at hl⊢;exact h.n j' hj' hl
  ·rw[bG (by omega)]at h17
   rw[bG (by omega),fR (by omega),fR (by omega)];exact h.o17 h17
  ·rw[bG (by omega)]at h18
   rw[bG (by omega),fR (by omega),fR (by omega)];exact h.o18 h18
theorem Q4(h:JE w0 l a w)(hi:0∈Region.ready .any opsE l):wpOp Tryz.prog opsE Q 0 (JE w0 (l.setIfInBounds 0 true)) a w:=by
 obtain⟨o,ho,h1,h2,h3,_⟩:=DB op0;obtain⟨_,hl0,_⟩:=Df l 0 hi;refine nV (u:=.map (some w.heap.size)) (w':=w.alloc (.map #[] 0)) ho h3 (.inl ?_) ?_
 ·simp[execOp,h1,Instr.makeMap]
 ·rw[h2]
  have hs:=h.sz;have ht:=h.ts;have no:∀j,j<8->l[2*j+2]?≠some true:=fun j hj hl=>by
   have:=h.n j hj hl
   rw[hl0]at this;cases this
  refine⟨by simpa using hs,by rw[Al];exact ht,by rw[AH];exact h.df,h.below.alloc h.below.size _,fun h0=>?_,fun j' k' s' v' hj' hl=>?_,fun j' hj' hl=>?_,fun h17=>?_,fun h18=>?_⟩
  ·refine⟨w.heap.size,#[],0,Dd (by omega),h.below.size,World.alloc_heap_new _ _,fun j' k' s' v' hj' hl=>?_,fun e he=>by simp at he⟩
   rw[bG (by omega)]at hl
   exact absurd hl (no j' (List.getElem?_eq_some_iff.1 hj').1)
  ·rw[bG (by omega)]at hl
   rw[fR (by omega)]
   exact h.b j' k' s' v' hj' hl
  ·rw[bG (by omega)]at hl
   exact absurd hl (no j' hj')
  ·rw[bG (by omega)]at h17
   have:=(h.o17 h17).1
   rw[hl0]at this;cases this
  ·rw[bG (by omega)]at h18
   have:=(h.o17 (h.o18 h18).1).1
   rw[hl0]at this;cases this
theorem Qp(h:JE w0 l a w)(hi:17∈Region.ready .any opsE l):wpOp Tryz.prog opsE Q 17 (JE w0 (l.setIfInBounds 17 true)) a w:=by
 obtain⟨o,ho,h1,h2,h3,h4⟩:=DB Ru;obtain⟨_,hl0,hd⟩:=Df l 17 hi;have h0:l[0]?=some true:=hd o ho _ (h4 _ (v6 ..)) rfl
 obtain⟨r,es,c,q1,q2,q3,q4,q5⟩:=h.m h0;refine nV (u:=.map (some r)) (w':=w) ho h3 (.inl ?_) ?_
 ·simp[execOp,h1,xA q1]
 ·rw[h2]
  have hs:=h.sz;have ht:=h.ts;refine⟨by simpa using hs,by rw[Al];exact ht,by rw[AH];exact h.df,h.below,fun _=>?_,fun j' k' s' v' hj' hl=>?_,fun j' hj' hl=>?_,fun h17=>?_,fun h18=>?_⟩
  ·refine⟨r,es,c,by rw[fR (by omega)];exact q1,q2,q3,fun j' k' s' v' hj' hl=>?_,fun e he=>?_⟩
   ·have:=lt8 hj'
    rw[bG (by omega)]at hl;exact q4 j' k' s' v' hj' hl
   ·obtain⟨j',k',s',v',e1,e2,e3⟩:=q5 e he
    exact⟨j',k',s',v',e1,by rw[bG (by omega)];exact e2,e3⟩
  ·have hj8:j'<8:=(List.getElem?_eq_some_iff.1 hj').1
   rw[bG (by omega)]at hl
   rw[fR (by omega)]
   exact h.b j' k' s' v' hj' hl
  ·rw[bG (by omega)]at hl⊢;exact h.n j' hj' hl
  ·exact⟨by rw[bG (by omega)];exact h0,by rw[Dd (by omega),fR (by omega)];exact q1.symm⟩
  ·rw[bG (by omega)]at h18
   have:=(h.o18 h18).1
   rw[hl0]at this;cases this
theorem Qd(h:JE w0 l a w)(hi:18∈Region.ready .any opsE l):wpOp Tryz.prog opsE Q 18 (JE w0 (l.setIfInBounds 18 true)) a w:=by
 obtain⟨o,ho,h1,h2,h3,h4⟩:=DB Ry;obtain⟨_,hl0,hd⟩:=Df l 18 hi;have h17:l[17]?=some true:=hd o ho _ (h4 _ (v6 ..)) rfl
 obtain⟨h0,h10⟩:=h.o17 h17;obtain⟨r,es,c,q1,q2,q3,q4,q5⟩:=h.m h0;refine nV (u:=.map (some r)) (w':=w) ho h3 (.inl ?_) ?_
 ·simp[execOp,h1,xA (h10.trans q1)]
 ·rw[h2]
  have hs:=h.sz;have ht:=h.ts;refine⟨by simpa using hs,by rw[Al];exact ht,by rw[AH];exact h.df,h.below,fun _=>?_,fun j' k' s' v' hj' hl=>?_,fun j' hj' hl=>?_,fun h17=>?_,fun h18=>?_⟩
  ·refine⟨r,es,c,by rw[fR (by omega)];exact q1,q2,q3,fun j' k' s' v' hj' hl=>?_,fun e he=>?_⟩
   ·have:=lt8 hj'
    rw[bG (by omega)]at hl;exact q4 j' k' s' v' hj' hl
   ·obtain⟨j',k',s',v',e1,e2,e3⟩:=q5 e he
    have:=lt8 e1
    exact⟨j',k',s',v',e1,by rw[bG (by omega)];exact e2,e3⟩
  ·have hj8:j'<8:=(List.getElem?_eq_some_iff.1 hj').1
   rw[bG (by omega)]at hl
   rw[fR (by omega)]
   exact h.b j' k' s' v' hj' hl
  ·rw[bG (by omega)]at hl⊢;exact h.n j' hj' hl
  ·exact⟨by rw[bG (by omega)];exact h0,by rw[fR (by omega),fR (by omega)];exact h10⟩
  ·exact⟨by rw[bG (by omega)];exact h17,by rw[Dd (by omega),fR (by omega),h10];exact q1.symm⟩
theorem KJ{j j':Nat}{k s v v':Int}(h:effTbl[j]?=some (k,s,v))(h':effTbl[j']?=some (k,s,v')):j=j':=by
 have e:∀i:Nat,i<8->∀i':Nat,i'<8->(effTbl[i]?).map (fun x=>(x.1,x.2.1))=(effTbl[i']?).map (fun x=>(x.1,x.2.1))->i=i':=by decide
 exact e j (List.getElem?_eq_some_iff.1 h).1 j' (List.getElem?_eq_some_iff.1 h').1 (by rw[h,h'];rfl)
theorem H3{k s k' s':Int}(h:gJ k s=gJ k' s'):k=k'/\s=s':=by
 unfold gJ at h;simpa using h
theorem Re(h:JE w0 l a w){j:Nat}{k s v:Int}(hj:effTbl[j]?=some (k,s,v))(hi:2*j+2∈Region.ready .any opsE l):wpOp Tryz.prog opsE Q (2*j+2) (JE w0 (l.setIfInBounds (2*j+2) true)) a w:=by
 obtain⟨o,ho,h1,h2,h3,h4⟩:=DB (opI j k s v hj);have hj8:j<8:=(List.getElem?_eq_some_iff.1 hj).1
 obtain⟨_,hl0,hd⟩:=Df l _ hi;have h0:l[0]?=some true:=hd o ho _ (h4 _ (v6 ..)) rfl
 have hb:l[2*j+1]?=some true:=hd o ho _ (h4 _ (v5 _ (v6 ..))) rfl
 obtain⟨r,es,c,q1,q2,q3,q4,q5⟩:=h.m h0;have hk:=h.b j k s v hj hb;have hkes:∀e∈es.toList,f7 Tryz.prog 272 e.key:=fun e he=>by
  obtain⟨j',k',s',v',_,_,e3,_⟩:=q5 e he;rw[e3];exact Nw _ _
 obtain⟨fr,f1,f2⟩:=CG (w:=w) (Nw k s) es.toList hkes
 have hno:∀e∈es.toList,e.key≠gJ k s:=fun e he hh=>by
  obtain⟨j',k',s',v',e1,e2,e3,_⟩:=q5 e he;rw[e3]at hh;obtain⟨rfl,rfl⟩:=H3 hh;have:=KJ hj e1
  subst this;rw[hl0]at e2;cases e2
 have hfr:fr=none:=by
  rcases f2 with⟨f2,_⟩|⟨i,e,he,f3,_⟩
  ·exact f2
  ·exact absurd f3 (hno e he)
 subst hfr;obtain⟨W,hW⟩:∃W,W={ w with heap:=w.heap.setIfInBounds r (.map (es.push { key:=gJ k s,val:=.int .i64 v,born:=c }) (c+1)) }:=⟨_,rfl⟩
 have hlt:=ec q3;have hrun:(Instr.mapUpdate 233 (.map (some r)) (gJ k s) (.int .i64 v)).run Tryz.prog w=.ok () W:=by
  rw[hW];simp only[Instr.mapUpdate,run_underlying tyE,Sem.run_bind,Result.andThen_ok,run_getObj_map w r es c q3,iE (Nw k s),f1,kL _ q3]
 have hR:cZ Tryz.prog o a w undef W:=.inr ⟨rfl,by
  simp only[execOp,h1,xA q1,xA hk];show Sem.run Tryz.prog (Instr.mapUpdate 233 (.map (some r)) (gJ k s) (.int .i64 v) >>= fun _=>pure Next.skip) w=_
  rw[Sem.run_bind,hrun,Result.andThen_ok,Sem.run_pure]⟩
 refine nV ho h3 hR ?_
 rw[h2];have hs:=h.sz;have ht:=h.ts;have hBW:Below w0.heap.size w0 W:=by
  have hB:=h.below;rw[hW];exact⟨hB.os,hB.tape,hB.output,by simpa using hB.size,fun k hk=>by
   have:r≠k:=by omega
   simp[this]
   exact hB.block k hk⟩
 refine⟨by simpa using hs,ht,h.df,hBW,fun _=>?_,fun j' k' s' v' hj' hl=>?_,fun j' hj' hl=>?_,fun h17=>?_,fun h18=>?_⟩
 ·refine⟨r,es.push { key:=gJ k s,val:=.int .i64 v,born:=c },c+1,q1,q2,by rw[hW];simp[hlt],fun j' k' s' v' hj' hl=>?_,fun e he=>?_⟩
  ·by_cases e:j'=j
   ·subst e
    rw[hj]at hj';cases hj'
    exact⟨{ key:=gJ k s,val:=.int .i64 v,born:=c },by simp,rfl,rfl⟩
   ·rw[bG (by omega)]at hl
    obtain⟨e,he,e1⟩:=q4 j' k' s' v' hj' hl;exact⟨e,by simp at he⊢;exact .inl he,e1⟩
  ·simp only[Array.toList_push,Sb,R9]at he
   rcases he with he|rfl
   ·obtain⟨j',k',s',v',e1,e2,e3⟩:=q5 e he
    by_cases e:j'=j
    ·subst e
     rw[hl0]at e2;cases e2
    ·exact⟨j',k',s',v',e1,by rw[bG (by omega)];exact e2,e3⟩
   ·exact⟨j,k,s,v,hj,Ns (by omega),rfl,rfl⟩
 ·rw[bG (by omega)]at hl;exact h.b j' k' s' v' hj' hl
 ·rw[bG (by omega)];exact h0
 ·rw[bG (by omega)]at h17⊢;exact h.o17 h17
 ·by_cases e:2*j+2=18
  ·omega
  ·rw[bG (by omega)]at h18⊢;exact h.o18 h18
end
theorem Q3:(opsE.toList.zipIdx.all fun x=>x.1.after.toList.all fun e=>decide (e.on<x.2))=true:=by kernel_rfl
theorem RH{l:Array Bool}(hs:l.size=19)(h:Region.ready .any opsE l=[]):∀i,i<19->l[i]?=some true:=by
 intro i;induction i using RY with
 | _ i ih=>
  intro hi;cases hc:l[i]? with
  |none=>rw[Array.getElem?_eq_none_iff]at hc;omega
  | some b=>
   cases b with
   |true=>rfl
   | false=>
    exfalso
    have hsz:=D3;have hm:i∈Region.ready .any opsE l:=by
     unfold Region.ready;rw[RZ,v2,Sh];refine⟨by omega,by simp[hc],?_⟩
     have ho:opsE[i]?=some opsE[i]:=Array.getElem?_eq_getElem (by omega)
     rw[ho];simp only[Sg,RV,RM];intro e he;have hb:=List.all_eq_true.1 Q3 (opsE[i],i) (by
      rw[List.mem_iff_getElem?];exact⟨i,by rw[RO,v4,ho];simp⟩)
     have hlt:=List.all_eq_true.1 hb e (by simpa using he)
     have hlt:e.on<i:=by simpa using hlt
     have:=ih e.on hlt (by omega)
     rw[Sf];right
     simp[this]
    rw[h]at hm;cases hm
theorem listE:((SV.of [.agg (SV.of [.vi (.int 1),.vi (.int 1)]),.agg (SV.of [.vi (.int 2),.vi (.int 1)]),.agg (SV.of [.vi (.int 3),.vi (.int 2)]),.agg (SV.of [.vi (.int 4),.vi (.int 2)]),.agg (SV.of [.vi (.int 5),.vi (.int 1)]),.agg (SV.of [.vi (.int 5),.vi (.int 2)]),.agg (SV.of [.vi (.int 5),.vi (.int 3)]),.agg (SV.of [.vi (.int 6),.vi (.int 4)])]).list=effTbl.map fun x=>.agg (SV.of [.vi (.int x.1),.vi (.int x.2.1)])) ∧
 (SV.of [.vi (.int 3),.vi (.int 2),.vi (.int 3),.vi (.int 6),.vi (.int 7),.vi (.int 7),.vi (.int 7),.vi (.int 8)]).list=effTbl.map fun x=>.vi (.int x.2.2):=⟨rfl,rfl⟩
theorem L4(w:World)(k s:Int):SVden [] (fun _=>undef) (fun _=>False) w (.agg (SV.of [.vi (.int k),.vi (.int s)])) (gJ k s):=
 ⟨#[.int .i64 k,.int .i64 s],rfl,rfl,⟨_,[.int .i64 s],rfl,⟨rfl,rfl⟩,⟨_,[],rfl,⟨rfl,rfl⟩,rfl⟩⟩⟩
theorem ay:mtE.ok Tryz.prog:=by
 intro x hx;unfold mtE at hx;rw[R9]at hx;subst hx;intro w;refine calls_of_wp Tryz.func161 Q7 ?_
 refine wp_seq (wp_region ?_)
 show wpOps _ _ _ [0] _ _
 rw[wpOps_cons];refine nV (o:={ dst:=some 0,op:=.assign (.const (.map none)),type:=233,pos := "claim.go:76",after:=#[],guard:=none }) (u:=.map none) (w':=w) rfl rfl (.inl (by simp[execOp,Act.eval])) ?_
 show Code.wp _ _ _ _ _
 refine wp_seq (wp_region_any KS ?_)
 refine Mw (JE w) (fun l a w h=>by rw[h.sz,D3]) (fun l a w' i h hi=>?_) (fun l a w' h hr=>?_) _ _ _ _ ?_ ?_
 ·have hlt:=(Df l i hi).1
  rcases Nat.lt_or_ge i 17 with h17|h17
  ·rcases Nat.eq_zero_or_pos i with rfl|hp
   ·exact Q4 h hi
   ·obtain⟨j,hj⟩:∃j,i=2*j+1\/i=2*j+2:=⟨(i-1) / 2,by omega⟩
    have hj8:j<effTbl.length:=by show j<8;omega
    obtain⟨⟨k,s,v⟩,hx⟩:∃x,effTbl[j]?=some x:=⟨_,List.getElem?_eq_getElem hj8⟩
    rcases hj with rfl|rfl
    ·exact Rm h hx hi
    ·exact Re h hx hi
  ·have:i=17\/i=18:=by omega
   rcases this with rfl|rfl
   ·exact Qp h hi
   ·exact Qd h hi
 ·have hall:=RH h.sz hr
  obtain⟨r,es,c,q1,q2,q3,q4,q5⟩:=h.m (hall 0 (by omega))
  have h10:=(h.o17 (hall 17 (by omega))).2
  have h0:=(h.o18 (hall 18 (by omega))).2
  have hv:a.tmps[0]?=some (.map (some r)):=by rw[h0,h10,q1]
  refine wp_ret ⟨h.df,.map (some r),?_,r,es,c,rfl,q2,q3,rfl,rfl,rfl,⟨fun i k v hk hv=>?_,fun e he=>?_,fun e he e' he' hee=>?_⟩,h.below⟩
  ·simp[results,Tryz.f161,hv]
  ·rw[listE.1,y3]at hk
   rw[listE.2,y3]at hv;obtain⟨⟨k1,s1,b⟩,e1,rfl⟩:=Option.map_eq_some_iff.1 hk;rw[e1]at hv;cases hv
   obtain⟨e,he,e2,e3⟩:=q4 i k1 s1 b e1 (hall _ (by have:=lt8 e1;omega))
   exact⟨e,he,by rw[e2];exact L4 _ _ _,by rw[e3];exact⟨rfl,rfl⟩⟩
  ·obtain⟨j,k,s,v,e1,_,e2,e3⟩:=q5 e he
   exact⟨j,_,_,by rw[listE.1,y3,e1];rfl,by rw[listE.2,y3,e1];rfl,by rw[e2];exact L4 _ _ _,by rw[e3];exact⟨rfl,rfl⟩⟩
  ·obtain⟨j,k,s,v,e1,_,e2,e3⟩:=q5 e he
   obtain⟨j',k',s',v',e1',_,e2',e3'⟩:=q5 e' he';rw[e2,e2']at hee;obtain⟨rfl,rfl⟩:=H3 hee;have:=KJ e1 e1'
   subst this;rw[e1]at e1';cases e1'
   rw[e3,e3']
 ·refine⟨by rw[Array.size_replicate,D3],by rw[Al];rfl,by rw[AH],⟨rfl,rfl,rfl,y7 _,fun _ _=>rfl⟩,fun h=>?_,fun j k s v _ h=>?_,fun j _ h=>?_,fun h=>?_,fun h=>?_⟩<;>(rw[Array.getElem?_replicate]at h;split at h<;>cases h)
 ·rw[D3];exact Nat.le_of_eq rfl
end Go.Proofs.YtbfkkigbedmhgaaGreat
namespace Go.Proofs.YtbfkkigbedmhgaaGreat
open Go Go.Sx
noncomputable section
abbrev av:=Int×Int×Int×Int
abbrev bw:=Int×Lv×Int×Int×Int×Int×Int×Int
abbrev bg:=Int×Int×Int×Int×Int×Int
def rA(n:Nat)(d:bw->Option av)(m:bg->Option av)(l:Bool)(b:Lv)(i a:Int)(c:Lv)(e f g h j k:Int):Option av:=
 (bif((cI b a 0)=5)&&(h=2)then(bif (cI b a 2)=1 then(bif(l==true)then bif (((c.length:Int)+1)*8)<=140737488355328 then bif(-9223372036854775808<=(a+1))&&((a+1)<=9223372036854775807)then d ((a+1),(c++[[(AV.int a)]]),e,f,g,h,j,k)else none else none else(bif i<(cI b a 1) then some (e,f,g,0)else bif(-9223372036854775808<=(a+1))&&((a+1)<=9223372036854775807)then d ((a+1),c,7,(cI b a 1),(-1),7,(cI b a 1),(-1))else none))else(bif i<(cI b a 1) then some (e,f,g,0)else bif(-9223372036854775808<=(a+1))&&((a+1)<=9223372036854775807)then d ((a+1),c,7,(cI b a 1),(-1),7,(cI b a 1),(-1))else none))else(bif((cI b a 0)=5)&&(h=3)then(bif (cI b a 2)=1 then(bif(l==true)then bif (((c.length:Int)+1)*8)<=140737488355328 then bif(-9223372036854775808<=(a+1))&&((a+1)<=9223372036854775807)then d ((a+1),(c++[[(AV.int a)]]),e,f,g,h,j,k)else none else none else(bif i<(cI b a 1) then some (e,f,g,0)else bif(-9223372036854775808<=(a+1))&&((a+1)<=9223372036854775807)then d ((a+1),c,7,(cI b a 1),(-1),7,(cI b a 1),(-1))else none))else(bif i<(cI b a 1) then some (e,f,g,0)else bif(-9223372036854775808<=(a+1))&&((a+1)<=9223372036854775807)then d ((a+1),c,7,(cI b a 1),(-1),7,(cI b a 1),(-1))else none))else(bif((cI b a 0)=6)&&(h=4)then(bif (cI b a 2)=1 then(bif(l==true)then bif (((c.length:Int)+1)*8)<=140737488355328 then bif(-9223372036854775808<=(a+1))&&((a+1)<=9223372036854775807)then d ((a+1),(c++[[(AV.int a)]]),e,f,g,h,j,k)else none else none else(bif i<(cI b a 1) then some (e,f,g,0)else bif(-9223372036854775808<=(a+1))&&((a+1)<=9223372036854775807)then d ((a+1),c,8,(cI b a 1),(-1),8,(cI b a 1),(-1))else none))else(bif i<(cI b a 1) then some (e,f,g,0)else bif(-9223372036854775808<=(a+1))&&((a+1)<=9223372036854775807)then d ((a+1),c,8,(cI b a 1),(-1),8,(cI b a 1),(-1))else none))else(bif (cI b a 2)=1 then(bif (cI b a 0)=2 then bif (((c.length:Int)+1)*8)<=140737488355328 then bif(-9223372036854775808<=(a+1))&&((a+1)<=9223372036854775807)then d ((a+1),(c++[[(AV.int a)]]),e,f,g,h,j,k)else none else none else bif (((c.length:Int)+1)*8)<=140737488355328 then bif(-9223372036854775808<=(a+1))&&((a+1)<=9223372036854775807)then d ((a+1),(c++[[(AV.int a)]]),e,f,g,h,j,k)else none else none)else bif (((c.length:Int)+1)*8)<=140737488355328 then bif(-9223372036854775808<=(a+1))&&((a+1)<=9223372036854775807)then d ((a+1),(c++[[(AV.int a)]]),e,f,g,h,j,k)else none else none))))
def rG(n:Nat)(d:bw->Option av)(l:bg->Option av)(m:Bool)(b:Lv)(h a:Int)(c:Lv)(e f g i j k:Int):Option av:=
 (bif((cI b a 0)=5)&&(i=1)then(bif (cI b a 2)=1 then(bif(m==true)then bif (((c.length:Int)+1)*8)<=140737488355328 then bif(-9223372036854775808<=(a+1))&&((a+1)<=9223372036854775807)then d ((a+1),(c++[[(AV.int a)]]),e,f,g,i,j,k)else none else none else(bif h<(cI b a 1) then some (e,f,g,0)else bif(-9223372036854775808<=(a+1))&&((a+1)<=9223372036854775807)then d ((a+1),c,7,(cI b a 1),(-1),7,(cI b a 1),(-1))else none))else(bif h<(cI b a 1) then some (e,f,g,0)else bif(-9223372036854775808<=(a+1))&&((a+1)<=9223372036854775807)then d ((a+1),c,7,(cI b a 1),(-1),7,(cI b a 1),(-1))else none))else rA n d l m b h a c e f g i j k)
def rP(n:Nat)(d:bw->Option av)(l:bg->Option av)(m:Bool)(b:Lv)(h a:Int)(c:Lv)(e f g i j k:Int):Option av:=
 (bif((cI b a 0)=4)&&(i=2)then(bif (cI b a 2)=1 then(bif(m==true)then bif (((c.length:Int)+1)*8)<=140737488355328 then bif(-9223372036854775808<=(a+1))&&((a+1)<=9223372036854775807)then d ((a+1),(c++[[(AV.int a)]]),e,f,g,i,j,k)else none else none else(bif h<(cI b a 1) then some (e,f,g,0)else bif(-9223372036854775808<=(a+1))&&((a+1)<=9223372036854775807)then d ((a+1),c,6,(cI b a 1),(-1),6,(cI b a 1),(-1))else none))else(bif h<(cI b a 1) then some (e,f,g,0)else bif(-9223372036854775808<=(a+1))&&((a+1)<=9223372036854775807)then d ((a+1),c,6,(cI b a 1),(-1),6,(cI b a 1),(-1))else none))else rG n d l m b h a c e f g i j k)
def sA(n:Nat)(d:bw->Option av)(m:bg->Option av)(h:Int)(o:Bool)(b:Lv)(i a:Int)(c:Lv)(e f g j k l:Int):Option av:=
 (bif((cI b a 0)=3)&&(j=2)then(bif (cI b a 2)=1 then(bif(o==true)then bif (((c.length:Int)+1)*8)<=140737488355328 then bif(-9223372036854775808<=(a+1))&&((a+1)<=9223372036854775807)then d ((a+1),(c++[[(AV.int a)]]),e,f,g,j,k,l)else none else none else bif(-9223372036854775808<=((cI b a 1)+h))&&(((cI b a 1)+h)<=9223372036854775807)then(bif i<(cI b a 1) then some (e,f,g,0)else bif(-9223372036854775808<=(a+1))&&((a+1)<=9223372036854775807)then d ((a+1),c,3,(cI b a 1),((cI b a 1)+h),3,(cI b a 1),((cI b a 1)+h))else none)else none)else bif(-9223372036854775808<=((cI b a 1)+h))&&(((cI b a 1)+h)<=9223372036854775807)then(bif i<(cI b a 1) then some (e,f,g,0)else bif(-9223372036854775808<=(a+1))&&((a+1)<=9223372036854775807)then d ((a+1),c,3,(cI b a 1),((cI b a 1)+h),3,(cI b a 1),((cI b a 1)+h))else none)else none)else rP n d m o b i a c e f g j k l)
def rn(n:Nat)(d:bw->Option av)(m:bg->Option av)(p l:Int)(o:Bool)(b:Lv)(h a:Int)(c:Lv)(e f g i j k:Int):Option av:=
 (bif((cI b a 0)=2)&&(i=1)then(bif (cI b a 2)=1 then(bif(o==true)then bif (((c.length:Int)+1)*8)<=140737488355328 then bif(-9223372036854775808<=(a+1))&&((a+1)<=9223372036854775807)then d ((a+1),(c++[[(AV.int a)]]),e,f,g,i,j,k)else none else none else(bif h<(cI b a 1) then some (e,f,g,0)else bif(-9223372036854775808<=(a+1))&&((a+1)<=9223372036854775807)then d ((a+1),c,6,(cI b a 1),(-1),6,(cI b a 1),(-1))else none))else bif(-9223372036854775808<=((cI b a 1)+l))&&(((cI b a 1)+l)<=9223372036854775807)then(bif h<(cI b a 1) then some (e,f,g,0)else bif(-9223372036854775808<=(a+1))&&((a+1)<=9223372036854775807)then d ((a+1),c,2,(cI b a 1),((cI b a 1)+l),2,(cI b a 1),((cI b a 1)+l))else none)else none)else sA n d m p o b h a c e f g i j k)
def eM(n:Nat)(d:bw->Option av)(m:bg->Option av)(e p:Int)(o:Bool)(b:Lv)(i a:Int)(c:Lv)(f g h j k l:Int):Option av:=
 (bif((cI b a 0)=1)&&(j=1)then(bif (cI b a 2)=1 then(bif(o==true)then bif (((c.length:Int)+1)*8)<=140737488355328 then bif(-9223372036854775808<=(a+1))&&((a+1)<=9223372036854775807)then d ((a+1),(c++[[(AV.int a)]]),f,g,h,j,k,l)else none else none else bif(-9223372036854775808<=((cI b a 1)+e))&&(((cI b a 1)+e)<=9223372036854775807)then(bif i<(cI b a 1) then some (f,g,h,0)else bif(-9223372036854775808<=(a+1))&&((a+1)<=9223372036854775807)then d ((a+1),c,3,(cI b a 1),((cI b a 1)+e),3,(cI b a 1),((cI b a 1)+e))else none)else none)else bif(-9223372036854775808<=((cI b a 1)+e))&&(((cI b a 1)+e)<=9223372036854775807)then(bif i<(cI b a 1) then some (f,g,h,0)else bif(-9223372036854775808<=(a+1))&&((a+1)<=9223372036854775807)then d ((a+1),c,3,(cI b a 1),((cI b a 1)+e),3,(cI b a 1),((cI b a 1)+e))else none)else none)else rn n d m e p o b i a c f g h j k l)
def jL(n:Nat)(l:bw->Option av)(b:bg->Option av)(h p k:Int)(q:Bool)(i:Lv)(c j:Int)(m:Lv)(d e f g o a:Int):Option av:=
 (bif a<=(cI i j 1) then(bif g=1 then bif(-9223372036854775808<=(a+h))&&((a+h)<=9223372036854775807)then(bif c<a then some (d,e,f,0)else b (3,a,(a+h),3,a,(a+h)))else none else(bif g=2 then bif(-9223372036854775808<=(a+h))&&((a+h)<=9223372036854775807)then(bif c<a then some (d,e,f,0)else b (3,a,(a+h),3,a,(a+h)))else none else(bif g=3 then bif(-9223372036854775808<=(a+k))&&((a+k)<=9223372036854775807)then(bif c<a then some (d,e,f,0)else b (4,a,(a+k),4,a,(a+k)))else none else(bif g=4 then(bif c<a then some (d,e,f,0)else b (5,a,(-1),5,a,(-1)))else(bif c<a then some (d,e,f,0)else b (0,a,(-1),0,a,(-1)))))))else eM n l b h p q i c j m d e f g o a)
abbrev rV:= @eM
def th(n:Nat)(b:bw->Option av)(c:bg->Option av)(m o q:Int)(p:Bool)(d:Lv)(e f:Int)(g:Lv)(h i j k l a:Int):Option av:=
 (bif 0<=a then jL n b c m o q p d e f g h i j k l a else rV n b c m o p d e f g h i j k l a)
def iU(n:Nat)(e:bg->Option av)(h i f b c d g a:Int):Option av:=
 (bif 0<=a then(bif a<=4611686018427387904 then(bif g=1 then bif(-9223372036854775808<=(a+h))&&((a+h)<=9223372036854775807)then(bif f<a then some (b,c,d,0)else e (3,a,(a+h),3,a,(a+h)))else none else(bif g=2 then bif(-9223372036854775808<=(a+h))&&((a+h)<=9223372036854775807)then(bif f<a then some (b,c,d,0)else e (3,a,(a+h),3,a,(a+h)))else none else(bif g=3 then bif(-9223372036854775808<=(a+i))&&((a+i)<=9223372036854775807)then(bif f<a then some (b,c,d,0)else e (4,a,(a+i),4,a,(a+i)))else none else(bif g=4 then(bif f<a then some (b,c,d,0)else e (5,a,(-1),5,a,(-1)))else(bif f<a then some (b,c,d,0)else e (0,a,(-1),0,a,(-1)))))))else some (b,c,d,0))else some (b,c,d,0))
def ux(n:Nat)(a:bw->Option av)(m p o:Int)(q:Bool)(c:Lv)(d b:Int)(k:Lv)(e f g h i j:Int):Option av:=
 (bif b<(c.length:Int) then bif 0<=b then(ab (fun l s=>th n a l m p o q c d b k s.1 s.2.1 s.2.2.1 s.2.2.2.1 s.2.2.2.2.1 s.2.2.2.2.2) n ((e,f,g,h,i,j):bg))else none else(ab (fun a s=>iU n a m o d s.1 s.2.1 s.2.2.1 s.2.2.2.1 s.2.2.2.2.2) n ((e,f,g,h,i,j):bg)))
def tM(n:Nat)(e f g h a:Int)(i:Bool)(c:Lv)(b:Int):Option av:=
 (bif b<a then some (0,0,a,0)else(ab (fun d s=>ux n d f g h i c b s.1 s.2.1 s.2.2.1 s.2.2.2.1 s.2.2.2.2.1 s.2.2.2.2.2.1 s.2.2.2.2.2.2.1 s.2.2.2.2.2.2.2) n ((0,([]:Lv),1,a,(a+e),1,a,(a+e)):bw)))
def uG(n:Nat)(b e f g c:Int)(h:Bool)(d:Lv)(a:Int):Option av:=
 (bif !(a<=20000000)then some (0,0,0,160)else bif(-9223372036854775808<=(c+b))&&((c+b)<=9223372036854775807)then tM n b e f g c h d a else none)
def tG(n:Nat)(c d e f g:Int)(h:Bool)(b:Lv)(a:Int):Option av:=
 (bif 0<=a then uG n c d e f g h b a else some (0,0,0,160))
def nx(n:Nat)(d e f g h:Int)(i:Bool)(a:Lv)(b:Int)(c:Bool):Option av:=
 (bif(!c)then some (0,0,0,160)else tG n d e f g h i a b)
def uI(n:Nat)(d e f g j k l m h:Int)(i:Bool)(a:Lv)(b:Int):Option av:=
 (lB n d e f g j k l m h i a).bind fun c=>
 nx n d e f g h i a b c
def lT(n:Nat)(c d e f g h i j k:Int)(l:Bool)(a:Lv)(b:Int):Option av:=uI n c d e f g h i j k l a b
def claim_Outcome_t:FnT:=⟨[(true,[.int,.int,.int,.int]),(true,[.int,.int,.int,.int,.int,.bool]),(false,[tSc]),(false,[.int])],(.tup (.cons (.agg (.cons .i (.cons .i (.cons .i .nil)))) (.cons .i .nil))),fun n (s:Int×Int×Int×Int×Int×Int×Int×Int×Int×Bool×Lv×Int)=>lT n s.1 s.2.1 s.2.2.1 s.2.2.2.1 s.2.2.2.2.1 s.2.2.2.2.2.1 s.2.2.2.2.2.2.1 s.2.2.2.2.2.2.2.1 s.2.2.2.2.2.2.2.2.1 s.2.2.2.2.2.2.2.2.2.1 s.2.2.2.2.2.2.2.2.2.2.1 s.2.2.2.2.2.2.2.2.2.2.2⟩
theorem Ck:claim_Outcome_t.ok Tryz.prog 32:=FnT.ok_of (cfg:=⟨[((162,5,32),.inv [(.tmp 24 .int),(.cellrow 12 12 3 (.cons .int .nil)),(.cell 13 0 .int),(.cell 13 1 .int),(.cell 13 2 .int),(.cell 27 0 .int),(.cell 27 1 .int),(.cell 27 2 .int)]),((164,1,42),.inv [(.cell 13 0 .int),(.cell 13 1 .int),(.cell 13 2 .int),(.cell 27 0 .int),(.cell 27 1 .int),(.cell 27 2 .int)]),((164,1,40),.inv [(.cell 13 0 .int),(.cell 13 1 .int),(.cell 13 2 .int),(.cell 27 0 .int),(.cell 27 1 .int),(.cell 27 2 .int)])],bp,[],aq⟩) az uO ay (fun s fn hf=>by rw[Tryz.func32]at hf;cases hf;kernel_rfl) (fun n s=>by kernel_rfl)
def claim_Outcome_T:Tab:=(32,claim_Outcome_t)::claim_Ends_T
theorem oQ:claim_Outcome_T.ok Tryz.prog:=Tab.ok_cons Ck uO
abbrev zh:=Int×Int
def AN(n:Nat)(f g h i j e b k l:Int)(m:Bool)(c:Lv)(d:Int):Option zh:=
 (lT n f g h i j e b k l m c d).bind fun a=>
 (bif !(a.2.2.2=0)then some (0,a.2.2.2)else(bif a.1=4 then some (b,0)else(bif a.1=5 then some (b,0)else some (e,0))))
def m6(n:Nat)(c d e f g h i j k:Int)(l:Bool)(a:Lv)(b:Int):Option zh:=AN n c d e f g h i j k l a b
def claim_With_t:FnT:=⟨[(true,[.int,.int,.int,.int]),(true,[.int,.int,.int,.int,.int,.bool]),(false,[tSc]),(false,[.int])],(.tup (.cons .i (.cons .i .nil))),fun n (s:Int×Int×Int×Int×Int×Int×Int×Int×Int×Bool×Lv×Int)=>m6 n s.1 s.2.1 s.2.2.1 s.2.2.2.1 s.2.2.2.2.1 s.2.2.2.2.2.1 s.2.2.2.2.2.2.1 s.2.2.2.2.2.2.2.1 s.2.2.2.2.2.2.2.2.1 s.2.2.2.2.2.2.2.2.2.1 s.2.2.2.2.2.2.2.2.2.2.1 s.2.2.2.2.2.2.2.2.2.2.2⟩
theorem Hd:claim_With_t.ok Tryz.prog 187:=FnT.ok_of (cfg:=⟨[],bp,[],aq⟩) az oQ ay (fun s fn hf=>by rw[Tryz.func187]at hf;cases hf;kernel_rfl) (fun n s=>by kernel_rfl)
def claim_With_T:Tab:=(187,claim_With_t)::claim_Outcome_T
theorem uK:claim_With_T.ok Tryz.prog:=Tab.ok_cons Hd oQ
end
end Go.Proofs.YtbfkkigbedmhgaaGreat
