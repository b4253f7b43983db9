/-
  Texts of this claim, joined (part 4).
-/
import Derived.Test.YtkgphkdlbjinmaaGreatDoorJT3
import Derived.RecoverIn
open List renaming append_assoc → M9, append_nil → Nb, mem_cons_of_mem → Ng, mem_cons_self → Nh, all_eq_true → Nk, mem_of_getElem? → Nl, getElem?_append_left → Nm, getElem?_map → No, getElem?_append_right → Nr, getElem?_cons_zero → Nu, nodup_cons → Nv, mem_append_left → Nw, getElem?_eq_getElem → Ny, mem_append_right → NB, contains_eq_mem → NC, getElem?_of_mem → ND, length_append → NE, range → NG, getD → NJ, getElem?_eq_none → NK, nodup_nil → NL, range_eq_range' → NM, getElem?_zipIdx → NO, reverse_cons → NQ, flatMap_cons → NR, mem_append → NV, any_cons → NZ
open Bool renaming and_eq_true → Na, or_eq_true → Ns, not_eq_true' → NA, false_eq_true → NF, not_true → NX, false_or → NY
open Array renaming replicate → Nc, getElem?_toList → Nd, eq_empty_of_size_eq_zero → Nn, length_toList → Np, getD → Nz, size → NN, toList_map → NS
open Nat renaming le_refl → Nf, zero_add → Nq, lt_succ_self → Nt, add_zero → NH, le_add_right → NI, strongRecOn → NW
open Option renaming getD_some → Nx, isNone → NP, getD_none → NT, bind_some → NU
set_option linter.unusedVariables false
set_option linter.unusedSimpArgs false
set_option linter.unusedSectionVars false
set_option linter.constructorNameAsVariable false
namespace Go.Sx
open Go Go.RowKit Go.Dial
variable {env:List AV} {κ κ':Nat->Value} {F F':Nat->Prop} {w w' w0:World} {U:Nat->Prop} {tmp:Nat->SV} {blk:Nat->Option SB} {L:Nat} {a:Act} {P:Program}
theorem Fe{α β:Type}{f:α->Sem β}:∀(xs:List α) (us:List β),us.length=xs.length->(∀(i:Nat) x u,xs[i]?=some x->us[i]?=some u->(f x).run P w=.ok u w)->(xs.mapM f).run P w=.ok us w
 |[],us,hl,_=>by
  have:us=[]:=List.eq_nil_of_length_eq_zero hl
  subst this;simp
 | x::xs,us,hl,h=>by
  cases us with
  |nil=>simp at hl
  |cons u us=>
   rw[List.mapM_cons];simp only[Sem.run_bind,h 0 x u rfl rfl,Result.andThen_ok,Fe xs us (by simpa using hl) (fun i x u a b=>h (i+1) x u (by simpa using a) (by simpa using b)),Sem.run_pure]
def kA(P:Program)(σ:SS)(env:List AV)(l:List ResultVar)(rs:List SV):Prop:=dO P σ l=some rs/\∀e∈fA P σ l,(den env e).b=true
theorem Fw{σ:SS}(h:Rel w0 env κ F U σ.tmp σ.blk L a w){ty b:Nat}{k:IntKind}{v:SV}{u:Value}(hk:aP P ty=true)(hx:SVden env κ F w (.rptr b (.cons (.num k) .nil) (.int (.ofNat 0)) 0) u)(hv:xm P σ ty b k=some v)(hn:∀e∈B4 P σ ty b,(den env e).b=true):∃p r,u=.pointer (some p)/\(loadVar ty p).run P w=.ok r w/\SVden env κ F w v r:=by
 obtain⟨g,go,n,c',h1,h2,h3,h4⟩:=hx;unfold xm at hv;unfold B4 at hn;split at hv
 rotate_left
 ·cases hv
 rename_i e ty' l hb
 rw[hb]at hn;split at hv
 rotate_left
 ·cases hv
 rename_i hh
 obtain⟨rfl,hag⟩:=hh;cases hv
 obtain⟨us,hown,hpos,hty,hrow⟩:=h.blks b _ hb;rw[h1]at hown;have hgo:=jN hown;subst hgo;have n1:=aK (aA hn);rw[aY]at n1;have n1:((P.cellsOf ty:Nat):Int)<=((den env l).l.length:Int):=of_decide_eq_true n1
 have n1:P.cellsOf ty<=(den env l).l.length:=by omega
 have hcell:∀(j:Nat) r m,(den env l).l[j]?=some r->r[0]?=some (.raw (.int k m))->w.cell? ((⟨g,0,none⟩:Addr).add j)=some (.int k m):=fun j r m hr h0=>by
  obtain⟨u,hu,hd⟩:=hrow _ _ _ _ hr h0;have hl1:(cx k).len=1:=rfl
  have hu2:=hown.cells (g:=g) rfl _ _ hu;rw[hl1,Nat.mul_one,NH]at hu2;rw[hu2,(Den.raw_iff.1 hd).1]
 obtain⟨us',hus1,hus2⟩:∃us:List Value,us.length=P.cellsOf ty/\∀q,q<P.cellsOf ty->∃u,us[q]?=some u/\w.cell? ((⟨g,0,none⟩:Addr).add q)=some u/\SVden env κ F w (lm k l (0+q)) u:=by
  refine⟨(NG (P.cellsOf ty)).map (fun j=>(w.cell? ((⟨g,0,none⟩:Addr).add j)).getD undef),by simp,fun q hq=>?_⟩
  obtain⟨m,r,hr,h0,_,hd⟩:=m6 (env:=env) (κ:=κ) (F:=F) (w:=w) (i:=q) (l:=l) (k:=k) (by omega) hty
  have hw:=hcell _ _ _ hr h0;exact⟨.int k m,by simp[hq,hw],hw,by rw[Nq];exact hd⟩
 have h4':u=.pointer (some (⟨g,0,none⟩:Addr)):=by
  rw[h4];have:(den env (.int (Int.ofNat 0))).i.toNat*(Ty.cons (.num k) .nil).len+0=0:=rfl
  rw[this];rfl
 refine⟨⟨g,0,none⟩,.agg us'.toArray,h4',?_,⟨_,rfl,rW _ _ _ _,vI hus1 (fun q hq=>by obtain⟨u,h1,_,h3⟩:=hus2 q hq;exact⟨u,h1,h3⟩)⟩⟩
 have:=run_load (P:=P) (w:=w) (t:=ty) (p:=⟨g,0,none⟩) (us:=us') hk hus1 (fun j u hu=>by
  have hj:j<P.cellsOf ty:=by rw[<-hus1];exact(List.getElem?_eq_some_iff.1 hu).1
  obtain⟨u',h1,h2,_⟩:=hus2 j hj;rw[h1]at hu;cases hu;exact h2) hag
 simpa[Instr.loadAt,Instr.sureAddr]using this
theorem D0{σ:SS}(h:Rel w0 env κ F U σ.tmp σ.blk L a w){ty:Nat}{x v:SV}{u:Value}(hx:SVden env κ F w x u)(hv:uJ P σ ty x=some v)(hn:∀e∈EX P σ ty x,(den env e).b=true):∃p r,u=.pointer (some p)/\(loadVar ty p).run P w=.ok r w/\SVden env κ F w v r:=by
 unfold uJ at hv;split at hv
 ·rename_i hk
  split at hv
  ·rename_i b off
   obtain⟨g,h1,rfl⟩:=hx;split at hv
   ·rename_i ty' xs hb
    obtain⟨g',cs,h3,h4,h5,h6,h7,h8⟩:=h.blks b _ hb;rw[h1]at h3;cases h3
    split at hv
    ·rename_i hle
     obtain⟨t1,t2⟩:=bc h7 h6;refine⟨⟨g,off,none⟩,?_⟩
     split at hv
     ·rename_i hag
      cases hv
      refine⟨.agg ((cs.toList.drop off).take (P.cellsOf ty)).toArray,rfl,?_,⟨_,rfl,bA _,xF h7 h6 _ _⟩⟩
      have:=run_load (P:=P) (w:=w) (t:=ty) (p:=⟨g,off,none⟩) (us:=(cs.toList.drop off).take (P.cellsOf ty)) hk (by simp;omega) (fun j u hu=>by
       rw[du];rw[List.getElem?_take]at hu;split at hu
       ·rw[List.getElem?_drop]at hu
        simp[World.cell?,h4];simpa using hu
       ·cases hu) hag
      simpa[Instr.loadAt,Instr.sureAddr]using this
     ·rename_i hag
      split at hv
      ·rename_i y hy
       cases hv
       obtain⟨r,hr,hd⟩:=th h7 h6 hy;refine⟨r,rfl,?_,hd⟩
       have:=wo (P:=P) (w:=w) (t:=ty) (p:=⟨g,off,none⟩) (u:=r) hk (by simp[World.cell?,h4,hr]) (by simpa using hag)
       simpa[Instr.loadAt,Instr.sureAddr]using this
      ·cases hv
    ·cases hv
   ·cases hv
  ·exact Fw h hk hx hv hn
  ·cases hv
 ·cases hv
theorem qe{σ:SS}(h:Rel w0 env κ F U σ.tmp σ.blk L a w):∀(l:List ResultVar) (vs:List SV),kA P σ env l vs->∃us:List Value,us.length=l.length/\vs.length=l.length ∧
  (∀(i:Nat) x u,l[i]?=some x->us[i]?=some u->((match x with|.tmp t=>pure (a.tmps.getD t undef)|.cell b t=>do loadVar t (<-asAddr (a.tmps.getD b undef)):Sem Value)).run P w=.ok u w)/\∀(i:Nat) x u,vs[i]?=some x->us[i]?=some u->SVden env κ F w x u
 |[],vs,⟨hv,hn⟩=>by
  simp only[dO]at hv;cases hv
  exact⟨[],rfl,rfl,fun i x u h1=>by simp at h1,fun i x u h1=>by simp at h1⟩
 | .tmp t::l,vs,⟨hv,hn⟩=>by
  simp only[dO]at hv;simp only[fA]at hn;obtain⟨vs',h1,rfl⟩:=Option.map_eq_some_iff.1 hv;obtain⟨us,i1,i2,i3,i4⟩:=qe h l vs' ⟨h1,hn⟩;refine⟨a.tmps.getD t undef::us,by simp[i1],by simp[i2],fun i x u g1 g2=>?_,fun i x u g1 g2=>?_⟩
  ·cases i with
   |zero=>simp only[Nu,Option.some.injEq]at g1 g2;subst g1;subst g2;rfl
   |succ i=>simp at g1 g2;exact i3 i x u g1 g2
  ·cases i with
   |zero=>simp only[Nu,Option.some.injEq]at g1 g2;subst g1;subst g2;exact h.tmps t
   |succ i=>simp at g1 g2;exact i4 i x u g1 g2
 | .cell b ty::l,vs,⟨hv,hn⟩=>by
  simp only[dO]at hv;simp only[fA,NV]at hn;split at hv
  ·rename_i v vs' h1 h2
   cases hv
   obtain⟨us,i1,i2,i3,i4⟩:=qe h l vs' ⟨h2,fun e he=>hn e (.inr he)⟩
   obtain⟨p,r,e1,e2,e3⟩:=D0 h (h.tmps b) h1 (fun e he=>hn e (.inl he))
   refine⟨r::us,by simp[i1],by simp[i2],fun i x u g1 g2=>?_,fun i x u g1 g2=>?_⟩
   ·cases i with
    |zero=>
     simp only[Nu,Option.some.injEq]at g1 g2;subst g1;subst g2;simp only[e1,asAddr,Sem.run_bind,Sem.run_pure,Result.andThen_ok,e2]
    |succ i=>simp at g1 g2;exact i3 i x u g1 g2
   ·cases i with
    |zero=>simp only[Nu,Option.some.injEq]at g1 g2;subst g1;subst g2;exact e3
    |succ i=>simp at g1 g2;exact i4 i x u g1 g2
  ·cases hv
def pack:List Value->Value
 |[u]=>u
 |us=>.tuple us.toArray
theorem sW{fn:Func}{us:List Value}(hl:us.length=fn.results.size)(h:∀(i:Nat) x u,fn.results.toList[i]?=some x->us[i]?=some u->((match x with|.tmp t=>pure (a.tmps.getD t undef)|.cell b t=>do loadVar t (<-asAddr (a.tmps.getD b undef)):Sem Value)).run P w=.ok u w):
  (results fn a.tmps).run P w=.ok (pack us) w:=by
 have h1:(fn.results.mapM (m:=Sem) fun|.tmp t=>pure (a.tmps.getD t undef)|.cell b t=>do loadVar t (<-asAddr (a.tmps.getD b undef))).run P w=.ok us.toArray w:=by
  rw[Array.mapM_eq_mapM_toList];have:=Fe (P:=P) (w:=w) fn.results.toList us (by simpa using hl) h
  simp only[map_eq_pure_bind,Sem.run_bind];refine(congrArg (Result.andThen · _) this).trans ?_
  rfl
 unfold results;rw[Sem.run_bind];refine(congrArg (Result.andThen · _) h1).trans ?_
 simp only[Result.andThen_ok,Sem.run_pure];congr 1
 match us with
 |[]=>rfl
 |[u]=>rfl
 |u::v::us=>simp[pack]
theorem AM{xs:SV}{off n:Nat}:∀b∈(xs.cut off n).names,b∈xs.names:=by
 intro b hb;obtain⟨y,hy,hb⟩:=(eH _ b).1 hb;exact bW xs y (List.mem_of_mem_drop (List.mem_of_mem_take hy)) b hb
theorem nf{σ:SS}(h:Rel w0 env κ F U σ.tmp σ.blk σ.L a w):∀(l:List ResultVar) (vs:List SV),dO P σ l=some vs->∀x∈vs,∀b∈x.names,U b
 |[],vs,hv=>by simp only[dO]at hv;cases hv;exact fun x hx=>by cases hx
 |.tmp t::l,vs,hv=>by
  simp only[dO]at hv;obtain⟨vs',h1,rfl⟩:=Option.map_eq_some_iff.1 hv;intro x hx b hb;rcases List.mem_cons.1 hx with rfl|hx
  ·exact h.tnames t b hb
  ·exact nf h l vs' h1 x hx b hb
 | .cell c ty::l,vs,hv=>by
  simp only[dO]at hv;split at hv
  ·rename_i v vs' h1 h2
   cases hv
   intro x hx b hb;rcases List.mem_cons.1 hx with rfl|hx
   ·unfold uJ at h1
    split at h1
    ·split at h1
     ·rename_i d off hd
      split at h1
      ·rename_i ty' xs hbl
       have hn:∀b∈xs.names,U b:=fun b hb=>(h.bnames d _ hbl).2 b hb
       split at h1
       ·split at h1
        ·cases h1;exact hn b (AM b hb)
        ·split at h1
         ·rename_i y hy
          cases h1
          refine hn b (AM (off:=off) (n:=1) b ?_)
          rw[hy];exact Nw _ hb
         ·cases h1
       ·cases h1
      ·cases h1
     ·unfold xm at h1
      split at h1
      ·split at h1
       ·cases h1
        obtain⟨y,hy,hb⟩:=(eH _ b).1 hb;obtain⟨q,_,rfl⟩:=List.mem_map.1 hy;cases hb
       ·cases h1
      ·cases h1
     ·cases h1
    ·cases h1
   ·exact nf h l vs' h2 x hx b hb
  ·cases hv
theorem Ki{vs:List SV}{us:List Value}(hl:us.length=vs.length)(h:∀(i:Nat) x u,vs[i]?=some x->us[i]?=some u->SVden env κ F w x u):SVden env κ F w (eO vs) (pack us):=by
 match vs,us,hl,h with
 |[v],[u],_,h=>exact h 0 v u rfl rfl
 |[],[],_,h=>exact⟨_,rfl,bA _,eM rfl h⟩
 |v::v'::vs,u::u'::us,hl,h=>exact⟨_,rfl,bA _,eM hl h⟩
 |[],_::_,hl,_=>simp at hl
 |_::_,[],hl,_=>simp at hl
 |[_],_::_::_,hl,_=>simp at hl
 |_::_::_,[_],hl,_=>simp at hl
theorem HU{vs:List SV}:∀b∈(eO vs).names,∃x∈vs,b∈x.names:=by
 intro b hb;match vs with
 |[v]=>exact⟨v,List.mem_singleton.2 rfl,hb⟩
 |[]=>cases hb
 |v::v'::vs=>exact(eH _ b).1 hb
theorem Rel.shut(h:Rel w0 env κ F U tmp blk L a w){D:Nat}{ds:Option (List Deferred)}{o:Obj}(hD:w.heap[D]?=some (.deferred ds))(hF:¬F D)(hB:w0.heap.size<=D):Rel w0 env κ F U tmp blk L a (w.putObj D o):=by
 refine h.world (fun _ h=>h) (fun _ _=>rfl) (fun _ h=>h) (fun k hk=>World.putObj_heap_other (fun e=>hF (e▸hk))) (fun b x hx=>.inl ⟨hx,fun hl k hk=>World.putObj_heap_other (fun e=>?_)⟩) h.inj h.nF (fun k hk=>by rw[World.putObj_size];exact h.F k hk) ?_
 ·subst e;exact(h.blks b x hx).noDefer hl hk _ hD
 ·refine h.below.trans ⟨rfl,rfl,rfl,by rw[World.putObj_size];exact Nf _,fun k hk=>World.putObj_heap_other (by omega)⟩
theorem Kept.shut{blk':Nat->Option SB}(k:Kept U blk κ F w blk' κ' F' w'){D:Nat}{o:Obj}(hD:w.heap.size<=D):Kept U blk κ F w blk' κ' F' (w'.putObj D o):=
 { k with recs:=fun j r hr=>by
            obtain⟨r',h1,h2⟩:=k.recs j r hr;have:=dt hr
            exact⟨r',(World.putObj_heap_other (by omega)).trans h1,h2⟩,size:=by rw[World.putObj_size];exact k.size,frame:=fun j hj hn=>(World.putObj_heap_other (by omega)).trans (k.frame j hj hn) }
def wc(w0:World)(env:List AV)(κ:Nat->Value)(F U:Nat->Prop)(blk:Nat->Option SB)(N:Nat)(w:World)(σ':SS)(rs:List SV)(e:Ending)(w':World):Prop:=
 ∃u κ' F' a',e=.returned u/\Rel w0 env κ' F' (fun b=>U b\/(N<=b/\b<σ'.N)) σ'.tmp σ'.blk σ'.L a' w'/\Kept U blk κ F w σ'.blk κ' F' w'/\SVden env κ' F' w' (eO rs) u
theorem sm{fn:Func}{σ':SS}{rs:List SV}(hres:kA P σ' env fn.results.toList rs){N:Nat}(hB:w0.heap.size<=w.heap.size){F':Nat->Prop}{a':Act}:∀(Ds:List Nat) (w':World),Rel w0 env κ' F' (fun b=>U b\/(N<=b/\b<σ'.N)) σ'.tmp σ'.blk σ'.L a' w'->Kept U blk κ F w σ'.blk κ' F' w' →
  Ds.Nodup->(∀D∈Ds,w.heap.size<=D/\w'.heap[D]?=some (.deferred (some []))/\¬F' D)->LeavesInM (FR none) 0 P fn a'.tmps (wc w0 env κ F U blk N w σ' rs) (Ds.map iJ) .returning w'
 |[],w',hr,hk,_,_=>by
  obtain⟨us,i1,i2,i3,i4⟩:=qe hr _ _ hres;have hrun:=sW (P:=P) (w:=w') (a:=a') (fn:=fn) (us:=us) (by simpa using i1) i3
  exact⟨pack us,hrun,pack us,κ',F',a',rfl,hr,hk,Ki (by rw[i1,i2]) i4⟩
 |D::Ds,w',hr,hk,hnd,hD=>by
  obtain⟨h1,h2,h3⟩:=hD D (Nh ..);rw[Nv]at hnd;refine⟨(fun h=>by cases h),.inl ⟨D,w'.putObj D (.deferred none),rfl,run_takeDeferred h2,?_⟩⟩
  refine sm hres hB Ds _ (hr.shut h2 h3 (by omega)) (hk.shut h1) hnd.2 (fun E hE=>?_)
  obtain⟨g1,g2,g3⟩:=hD E (Ng _ hE);exact⟨g1,(World.putObj_heap_other (fun e:E=D=>hnd.1 (by rw[<-e];exact hE))).trans g2,g3⟩
def G3(w0:World)(env:List AV)(κ:Nat->Value)(F U:Nat->Prop)(blk:Nat->Option SB)(N:Nat)(w:World)(σ':SS)(v:Value)(e:Ending)(w':World):Prop:=
 ∃κ' F' a',e=.panicked (gJ v)/\Rel w0 env κ' F' (fun b=>U b\/(N<=b/\b<σ'.N)) σ'.tmp σ'.blk σ'.L a' w'/\Kept U blk κ F w σ'.blk κ' F' w'
theorem AC{fn:Func}{σ':SS}{v:Value}{N:Nat}(hB:w0.heap.size<=w.heap.size){F':Nat->Prop}{a':Act}:∀(Ds:List Nat) (w':World),Rel w0 env κ' F' (fun b=>U b\/(N<=b/\b<σ'.N)) σ'.tmp σ'.blk σ'.L a' w'->Kept U blk κ F w σ'.blk κ' F' w' →
  Ds.Nodup->(∀D∈Ds,w.heap.size<=D/\w'.heap[D]?=some (.deferred (some []))/\¬F' D)->LeavesInM (FR none) 0 P fn a'.tmps (G3 w0 env κ F U blk N w σ' v) (Ds.map iJ) (.panicking (gJ v)) w'
 |[],w',hr,hk,_,_=>⟨κ',F',a',rfl,hr,hk⟩
 |D::Ds,w',hr,hk,hnd,hD=>by
  obtain⟨h1,h2,h3⟩:=hD D (Nh ..);rw[Nv]at hnd;refine⟨(fun h=>by cases h),.inl ⟨D,w'.putObj D (.deferred none),rfl,run_takeDeferred h2,?_⟩⟩
  refine AC hB Ds _ (hr.shut h2 h3 (by omega)) (hk.shut h1) hnd.2 (fun E hE=>?_)
  obtain⟨g1,g2,g3⟩:=hD E (Ng _ hE);exact⟨g1,(World.putObj_heap_other (fun e:E=D=>hnd.1 (by rw[<-e];exact hE))).trans g2,g3⟩
theorem AT{f:Nat}{fn:Func}{c:Code}(hfn:P.funcs[f]?=some fn)(hb:fn.body=some c){σ σ':SS}{v:Value}(hl:Leads P w0 none c env σ (.panic v) σ'){vs:Array Value}
  (hr:Rel w0 env κ F U σ.tmp σ.blk σ.L { tmps:=vs++Nc (fn.ntmps-vs.size) undef,defers:=[] } w) (hU:∀b,σ.N<=b->¬U b):
  Calls P f vs w (G3 w0 env κ F U σ.blk σ.N w σ' v):=by
 refine ox (ro:=none) (n:=0) (callsIn_of_wp_marks hfn hb trivial ?_)
 refine wpIn_mono (hl.go κ F U _ w hr hU (fun b hb=>by cases hb)) ?_
 rintro e a' w' ⟨rfl,κ',F',r,k,Ds,m1,m2,m3⟩;have key:LeavesInM (FR none) 0 P fn a'.tmps (G3 w0 env κ F U σ.blk σ.N w σ' v) a'.defers (.panicking (gJ v)) w':=by
  rw[m1,Nb];exact AC hr.below.size Ds w' r k m2 m3
 exact key
theorem nB{f:Nat}{fn:Func}{c:Code}(hfn:P.funcs[f]?=some fn)(hb:fn.body=some c){σ σ':SS}{ex:Ex}(hex:ex.out=true)(hl:Leads P w0 none c env σ ex σ'){vs:Array Value}
  (hr:Rel w0 env κ F U σ.tmp σ.blk σ.L { tmps:=vs++Nc (fn.ntmps-vs.size) undef,defers:=[] } w) (hU:∀b,σ.N<=b->¬U b) {rs:List SV} (hres:kA P σ' env fn.results.toList rs):
  Calls P f vs w (wc w0 env κ F U σ.blk σ.N w σ' rs):=by
 refine ox (ro:=none) (n:=0) (callsIn_of_wp_marks hfn hb trivial ?_)
 refine wpIn_mono (hl.go κ F U _ w hr hU (fun b hb=>by cases hb)) ?_
 rintro e a' w' ⟨rfl,κ',F',r,k,Ds,m1,m2,m3⟩;have key:LeavesInM (FR none) 0 P fn a'.tmps (wc w0 env κ F U σ.blk σ.N w σ' rs) a'.defers .returning w':=by
  rw[m1,Nb];exact sm hres hr.below.size Ds w' r k m2 m3
 cases ex with
 |normal=>exact key
 |ret=>exact key
 |exit id=>cases hex
 |panic v=>cases hex
theorem Fg{con:Nat->Bool}{own:Bool}{tr:E->Option Bool}{nm:Nat}{o:Oper}{f:Nat}{vs:List SV}(h:cr P con own tr nm (ag tmp) blk o=.inl f vs):
  ∃g cargs tys fs xs fn,o.op=.call { callee:=.value g,args:=cargs,argTypes:=tys }/\ag tmp g=.fn f fs xs/\P.funcs[f]?=some fn/\fn.body.isSome=true/\vs=fs.list++cargs.toList.map (fun y=>nz blk (ag tmp y))++xs.list:=by
 unfold cr at h;split at h
 ·rename_i x hx
  obtain⟨_,_,_,rfl⟩:=pB hx;cases h
 obtain⟨wr,hwr⟩:∃wr,wr=bq blk (frz P con own (ag tmp) blk o):=⟨_,rfl⟩
 simp only[<-hwr]at h;split at h
 ·cases h
 ·cases h
 ·obtain⟨g,cargs,tys,ho,hcall⟩:=uo (uU h (fun _ _ _ e=>by cases e)) rfl
  unfold lF at hcall;split at hcall
  rotate_left
  ·cases hcall
  ·cases hcall
  rename_i g' fs xs hg
  have hg0:=KI hg;split at hcall
  rotate_left
  ·cases hcall
  rename_i fn hfn
  split at hcall
  rotate_left
  ·cases hcall
  rename_i hbody
  split at hcall
  ·split at hcall<;>cases hcall
  ·rename_i hcon
   cases hcall
   have hfrz:frz P con own (ag tmp) blk o=[]:=by
    unfold frz;simp only[ho,hg0];split
    ·rename_i heq
     cases heq
     split
     ·split
      ·rename_i hc _;exact absurd ⟨hc,rfl,rfl⟩ hcon
      ·rfl
     ·rfl
    ·rfl
   rw[hfrz]at hwr;subst hwr;exact⟨g,cargs,tys,fs,xs,fn,ho,hg0,hfn,hbody,rfl⟩
theorem G4{y:SV}{u v:Value}(hy:Ao y=some u)(h:SVden env κ F w y v):v=u:=by
 unfold Ao at hy;split at hy
 ·cases hy
  obtain⟨cs,rfl,_,h2⟩:=h;have h2:Value.tuple cs=.tuple #[]:=h2
  injection h2 with h2
  rw[h2]
 ·cases hy
theorem Hp{con:Nat->Bool}{own:Bool}{tr:E->Option Bool}{nm:Nat}{o:Oper}{v:Value}(h:cr P con own tr nm (ag tmp) blk o=.panic v):
  ∃x t y u,o.op=.panic x/\nz blk (ag tmp x)=.iface t y/\Ao y=some u/\v=.iface t u:=by
 unfold cr at h;split at h
 ·rename_i x hx
  obtain⟨_,_,_,rfl⟩:=pB hx;cases h
 obtain⟨wr,hwr⟩:∃wr,wr=bq blk (frz P con own (ag tmp) blk o):=⟨_,rfl⟩
 simp only[<-hwr]at h;split at h
 ·cases h
 ·cases h
 ·obtain⟨x,hop,hp⟩:=FO (uU h (fun _ _ _ e=>by cases e))
  have hfrz:frz P con own (ag tmp) blk o=[]:=by
   unfold frz;simp only[hop]
  rw[hfrz]at hwr;subst hwr;unfold rj at hp;split at hp
  ·rename_i t y hx
   split at hp
   ·rename_i u hy
    cases hp
    exact⟨x,t,y,u,hop,hx,hy,rfl⟩
   ·cases hp
  ·cases hp
theorem KA{con:Nat->Bool}{own:Bool}{tr:E->Option Bool}{nm:Nat}{o:Oper}{b:Nat}{vs:List SV}(h:cr P con own tr nm (ag tmp) blk o=.yld b vs):
  ∃g cargs tys,o.op=.call { callee:=.value g,args:=cargs,argTypes:=tys }/\ag tmp g=.yld b/\vs=cargs.toList.map (fun y=>nz blk (ag tmp y)):=by
 unfold cr at h;split at h
 ·rename_i x hx
  obtain⟨_,_,_,rfl⟩:=pB hx;cases h
 obtain⟨wr,hwr⟩:∃wr,wr=bq blk (frz P con own (ag tmp) blk o):=⟨_,rfl⟩
 simp only[<-hwr]at h;split at h
 ·cases h
 ·cases h
 ·obtain⟨g,cargs,tys,ho,hcall⟩:=uo (uU h (fun _ _ _ e=>by cases e)) rfl
  unfold lF at hcall;split at hcall
  ·split at hcall
   ·split at hcall
    ·split at hcall
     ·split at hcall<;>cases hcall
     ·cases hcall
    ·cases hcall
   ·cases hcall
  ·rename_i c hg
   cases hcall
   have hg0:=LJ hg;have hfrz:frz P con own (ag tmp) blk o=[]:=by
    unfold frz;simp only[ho,hg0]
   rw[hfrz]at hwr;subst hwr;exact⟨g,cargs,tys,ho,hg0,rfl⟩
  ·cases hcall
theorem pc{vs:Array Value}{n t:Nat}:(vs++Nc n undef).getD t undef=vs.getD t undef:=by
 by_cases h:t<vs.size
 ·simp[Nz,h];omega
 ·by_cases h2:t<vs.size+n
  ·have:(vs++Nc n undef)[t]'(by simpa using h2)=undef:=by rw[Array.getElem_append_right (by omega)];simp
   simp[Nz,h,h2,this]
  ·simp[Nz,h,h2]
theorem sd{σ:SS}{vs:List SV}{us:Array Value}{n:Nat}(hl:us.size=vs.length)(h:∀(i:Nat) x u,vs[i]?=some x->us[i]?=some u->SVden env κ F w x u):
  (∀t,SVden env κ F w ((σ.frame vs n).tmp t) ((us++Nc (n-us.size) undef).getD t undef))/\(us++Nc (n-us.size) undef).size=(σ.frame vs n).L:=by
 refine⟨fun t=>?_,?_⟩
 ·rw[pc]
  show SVden env κ F w ((Ov.of vs n).get .any t) _
  rw[Ov.get_of];by_cases ht:t<vs.length
  ·have h1:vs[t]?=some vs[t]:=Ny ht
   have h2:us[t]?=some us[t]:=Array.getElem?_eq_getElem (by omega)
   have:=h t _ _ h1 h2
   rw[NJ,h1];simp only[Nx];have e:us.getD t undef=us[t]:=by simp[Nz,show t<us.size by omega]
   rw[e];exact this
  ·rw[NJ,NK (by omega)]
   trivial
 ·show _=mx vs.length n
  rw[Ef];simp;omega
theorem nP{σ:SS}{vs:List SV}{n:Nat}(h:∀x∈vs,∀b∈x.names,U b):∀t,∀b∈((σ.frame vs n).tmp t).names,U b:=by
 intro t b hb;have hb:b∈((Ov.of vs n).get .any t).names:=hb
 rw[Ov.get_of,NJ]at hb;cases hv:vs[t]? with
 |none=>rw[hv]at hb;cases hb
 |some x=>rw[hv]at hb;exact h x (Nl hv) b hb
theorem kT{xs:SV}{cs:Array Value}(hp:xs.proper=true)(h:SVden env κ F w xs (.tuple cs)):cs.toList.length=xs.list.length/\∀(i:Nat) x u,xs.list[i]?=some x->cs.toList[i]?=some u->SVden env κ F w x u:=by
 obtain⟨h1,h2⟩:=bc hp h;refine⟨by rw[list_len];simpa using h1,fun i x u hx hu=>?_⟩
 obtain⟨u',h3,h4⟩:=h2 i x hx;rw[Nd,h3]at hu;cases hu;exact h4
theorem pL{l m:List SV}{us vs:List Value}(h1:us.length=l.length/\∀(i:Nat) x u,l[i]?=some x->us[i]?=some u->SVden env κ F w x u)(h2:vs.length=m.length/\∀(i:Nat) x u,m[i]?=some x->vs[i]?=some u->SVden env κ F w x u):
  (us++vs).length=(l++m).length/\∀(i:Nat) x u,(l++m)[i]?=some x->(us++vs)[i]?=some u->SVden env κ F w x u:=by
 refine⟨by simp[h1.1,h2.1],fun i x u hx hu=>?_⟩
 by_cases hi:i<l.length
 ·rw[Nm hi]at hx
  rw[Nm (by rw[h1.1];exact hi)]at hu
  exact h1.2 i x u hx hu
 ·rw[Nr (by omega)]at hx
  rw[Nr (by rw[h1.1];omega),h1.1]at hu
  exact h2.2 _ x u hx hu
theorem Co{cons:Nat->Bool}{own:Bool}(hfit:PFit P){o:Oper}{σ σ₁:SS}{f:Nat}{vs:List SV}(hc:cr P cons own σ₁.tr σ.N σ.ev σ.blk o=.inl f vs){fn:Func}{c:Code}(hfn:P.funcs[f]?=some fn)(hb:fn.body=some c)
 (hft:∀b∈bx σ.ev o,b<σ.N) (hvn:∀x∈vs,∀b∈x.names,b<σ.N) (hcl:∀b x,σ.blk b=some x->∀c∈x.names,c<σ.N) {tmp':Nat->SV} {blk':Nat->Option SB} (h:Rel w0 env κ F U tmp' blk' σ.L a w) (hrd:∀x∈o.op.operands,ag tmp' x=σ.ev x) (hbk0:∀b,b<σ.N->blk' b=σ.blk b):
 ∃us,(execOp a.eval o).run P w=.ok (.enter f us) w/\(∀c,o.op≠.defer c) ∧
  Rel w0 env κ F (fun b=>U b/\b<σ.N) (σ.frame vs fn.ntmps).tmp (σ.frame vs fn.ntmps).blk (σ.frame vs fn.ntmps).L { tmps:=us++Nc (fn.ntmps-us.size) undef,defers:=[] } w:=by
 have hev:=hrd;have hbk:∀x∈o.op.operands,∀b∈(σ.ev x).names,blk' b=σ.blk b:=fun x hx b hb=>hbk0 b (hft b (by unfold bx;exact List.mem_flatMap.2 ⟨x,by simpa using hx,hb⟩))
 have hc':cr P cons own σ₁.tr σ.N (ag tmp') blk' o=.inl f vs:=by rw[lT hev hbk];exact hc
 obtain⟨g,cargs,tys,fs,xs,fn',hop,hg,hfn',hbody,hvs⟩:=Fg hc';rw[hfn]at hfn';cases hfn'
 have hevg:=h.ev g;rw[hg]at hevg;obtain⟨ds,cs,e1,hp1,hp2,d1,d2⟩:=hevg;have hrun:(execOp a.eval o).run P w=.ok (.enter f (ds++cargs.map a.eval++cs)) w:=by
  have hn:¬fn.name = "runtime.NumGoroutine" := hfit.name f fn hfn
  have hb0:¬fn.body=none:=by rw[hb];intro hh;cases hh
  simp only[execOp,hop,resolve,e1,Deferred.ofValue,Sem.run_bind,Sem.run_pure,Result.andThen_ok,invoke,callFunc];simp[hfn,hn,hb0]
 have hmid:(cargs.map a.eval).toList.length=(cargs.toList.map fun y=>nz blk' (ag tmp' y)).length/\∀(i:Nat) x u,(cargs.toList.map fun y=>nz blk' (ag tmp' y))[i]?=some x->(cargs.map a.eval).toList[i]?=some u->SVden env κ F w x u:=by
  refine⟨by simp,fun i x u hx hu=>?_⟩
  rw[No]at hx;rw[NS,No]at hu;obtain⟨y,hy,rfl⟩:=Option.map_eq_some_iff.1 hx;rw[hy]at hu;cases hu
  exact tE (fun b e t l hb=>h.blks b _ hb) (h.ev y)
 obtain⟨l1,l2⟩:=pL (pL (kT hp1 d1) hmid) (kT hp2 d2);rw[<-hvs]at l1 l2;have hua:(ds++cargs.map a.eval++cs).toList=ds.toList++(cargs.map a.eval).toList++cs.toList:=by simp
 rw[<-hua]at l1 l2;obtain⟨fr1,fr2⟩:=sd (σ:=σ) (vs:=vs) (us:=ds++cargs.map a.eval++cs) (n:=fn.ntmps) (by simpa using l1) (fun i x u hx hu=>l2 i x u hx (by rw[Nd];exact hu))
 have hnm:∀x∈vs,∀b∈x.names,U b:=by
  intro x hx b hbn;rw[hvs]at hx;have hgn:∀b∈(ag tmp' g).names,U b:=h.evNames g
  rw[hg]at hgn;rcases List.mem_append.1 hx with hx|hx
  ·rcases List.mem_append.1 hx with hx|hx
   ·exact hgn b (Nw _ (bW fs x hx b hbn))
   ·obtain⟨y,hy,rfl⟩:=List.mem_map.1 hx
    exact h.evNames y b (uZ _ _ b hbn)
  ·exact hgn b (NB _ (bW xs x hx b hbn))
 have hlow:Rel w0 env κ F (fun b=>U b/\b<σ.N) (fun _=>.any) σ.blk a.tmps.size a w:=by
  have h0:=h.callee (σ:=σ) hbk0 (tmp':=fun _=>.any) (a':=a) (fun _=>trivial) rfl (fun t b hb=>by cases hb)
  exact{ h0 with tnames:=fun t b hb=>(by cases hb),bnames:=fun b x hx=>⟨⟨(h0.bnames b x hx).1,eQ hx⟩,fun c hc=>⟨(h0.bnames b x hx).2 c hc,hcl b x hx c hc⟩⟩ }
 have hcr:Rel w0 env κ F (fun b=>U b/\b<σ.N) (σ.frame vs fn.ntmps).tmp (σ.frame vs fn.ntmps).blk (σ.frame vs fn.ntmps).L { tmps:=(ds++cargs.map a.eval++cs)++Nc (fn.ntmps-(ds++cargs.map a.eval++cs).size) undef,defers:=[] } w:=
  hlow.callee (σ:=σ) (fun _ _=>rfl) fr1 fr2 (nP (fun x hx b hbn=>⟨hnm x hx b hbn,hvn x hx b hbn⟩))
 exact⟨_,hrun,fu hc' (fun m hm=>by cases hm),hcr⟩
theorem JJ{cons:Nat->Bool}{own:Bool}{ro:Option Nat}(hfit:PFit P){ops:Array Oper}{i:Nat}{o:Oper}(ho:ops[i]?=some o){σ σ₁:SS}{f:Nat}{vs:List SV}(hc:cr P cons own σ₁.tr σ.N σ.ev σ.blk o=.inl f vs){fn:Func}{c:Code}(hfn:P.funcs[f]?=some fn)(hb:fn.body=some c)
  (hft:∀b∈bx σ.ev o,b<σ.N) (hvn:∀x∈vs,∀b∈x.names,b<σ.N) (hcl:∀b x,σ.blk b=some x->∀c∈x.names,c<σ.N) {ex:Ex} {σ':SS} (hex:ex.out=true) (hl:Leads P w0 none c env (σ.frame vs fn.ntmps) ex σ') {rs:List SV} (hres:kA P σ' env fn.results.toList rs) (hd:∀d,o.dst=some d->d<σ.L) (hw:cc ops o σ.tmp env true):
  StepSem P w0 env ro σ.L ops σ.N σ'.N i ⟨eO rs,cf σ σ',{ rt:=bm ops o,rb:=NG σ.N,dst:=o.dst,wb:=j8 σ σ' }⟩ σ.tmp σ.blk:=by
 have hle:σ.N<=σ'.N:=hl.le
 refine⟨by simp only[cf,List.map_map];exact(List.map_id' _).symm,fun b hb=>(changed_mem.1 hb).1,hle,fun b hb=>?_,fun b h1 h2=>changed_mem.2 ⟨h2,.inl h1⟩,hd,fun κ F U tmp' blk' a w K Q h ht hb' hf hro _ hK=>?_,fun x hx=>(by cases hx)⟩
 ·by_cases hlt:b<σ.N
  ·exact .inl (List.mem_range.2 hlt)
  ·exact .inr (by omega)
 ·have hbk0:∀b,b<σ.N->blk' b=σ.blk b:=fun b hb=>hb' b (List.mem_range.2 hb)
  have hev:∀x∈o.op.operands,ag tmp' x=σ.ev x:=fun x hx=>by rw[jh];exact eZ ht x hx
  obtain⟨us,hrun,hnd,hcr⟩:=Co hfit hc hfn hb hft hvn hcl h hev hbk0;have hcall:=nB hfn hb hex hl hcr (fun b h1 h2=>by have h1:σ.N<=b:=h1;omega) hres
  unfold wpOpIn;rw[ho];simp only
  rw[if_pos (fc h hw ht)];refine wW hnd hrun hcall ?_
  rintro e w' ⟨u,κ',F',a',rfl,r,k,hv⟩;obtain⟨κ'',hκ,r2,k2⟩:=h.embed' hbk0 hle hf r k;have hn:∀b∈(eO rs).names,(U b/\b<σ.N)\/(σ.N<=b/\b<σ'.N):=fun b hb'=>by
   obtain⟨x,hx,hb2⟩:=HU b hb';exact nf r _ _ hres.1 x hx b hb2
  have hput:=r2.put (dst:=o.dst) (v:=eO rs) (u:=u) hd (hv.keep (fun b hb'=>hκ b (by have:=hn b hb';omega)) (fun _ h=>h) (fun _ _=>rfl)) (fun b hb'=>by
   rcases hn b hb' with h1|h1
   ·exact .inl h1.1
   ·exact .inr h1)
  exact⟨u,rfl,hK κ'' F' _ w' hput k2 (by cases o.dst<;>rfl)⟩
theorem Lq{cons:Nat->Bool}{own:Bool}{ro:Option Nat}(hfit:PFit P){ops:Array Oper}{i:Nat}{o:Oper}(ho:ops[i]?=some o){σ σ₁:SS}{f:Nat}{vs:List SV}(hc:cr P cons own σ₁.tr σ.N σ.ev σ.blk o=.inl f vs){fn:Func}{c:Code}(hfn:P.funcs[f]?=some fn)(hb:fn.body=some c)
  (hft:∀b∈bx σ.ev o,b<σ.N) (hvn:∀x∈vs,∀b∈x.names,b<σ.N) (hcl:∀b x,σ.blk b=some x->∀c∈x.names,c<σ.N) {v:Value} {σ':SS} (hl:Leads P w0 none c env (σ.frame vs fn.ntmps) (.panic v) σ') (hw:cc ops o σ.tmp env true):
  qj P w0 env ro σ.L ops σ.N σ'.N i v σ.tmp σ.blk (aL σ.blk (cf σ σ')):=by
 have hle:σ.N<=σ'.N:=hl.le
 intro κ F U a w K Q h hf hro hQ;obtain⟨us,hrun,hnd,hcr⟩:=Co hfit hc hfn hb hft hvn hcl h (fun x _=>by rw[jh]) (fun b _=>rfl)
 have hcall:=AT hfn hb hl hcr (fun b h1 h2=>by have h1:σ.N<=b:=h1;omega)
 unfold wpOpIn;rw[ho];simp only
 rw[if_pos (fc h hw (fun t _=>rfl))]
 refine G1 hnd hrun hcall ?_
 rintro e w' ⟨κ',F',a',rfl,r,k⟩;obtain⟨κ'',hκ,r2,k2⟩:=h.embed' (fun b _=>rfl) hle hf r k
 exact⟨_,rfl,hQ κ'' F' w' r2 k2⟩
theorem Mg{cons:Nat->Bool}{own:Bool}{ro:Option Nat}{ops:Array Oper}{i:Nat}{o:Oper}(ho:ops[i]?=some o){σ σ₁:SS}{v:Value}(hc:cr P cons own σ₁.tr σ.N σ.ev σ.blk o=.panic v)(hw:cc ops o σ.tmp env true):
  qj P w0 env ro σ.L ops σ.N σ.N i v σ.tmp σ.blk σ.blk:=by
 intro κ F U a w K Q h hf hro hQ;rw[jh]at hc;have hnd:=fu hc (fun m hm=>by cases hm)
 obtain⟨x,t,y,u,hop,hx,hy,rfl⟩:=Hp hc;have hrun:(execOp a.eval o).run P w=.halt (.panic (.iface t u)) w:=by
  have hev:=h.ev x;have h2:SVden env κ F w (.iface t y) (a.eval x):=by
   rw[<-hx];exact tE (fun b e t l hb=>h.blks b _ hb) hev
  obtain⟨v',e1,d1⟩:=h2;have:v'=u:=G4 hy d1
  subst this;simp only[execOp,hop,e1,Instr.panic];rfl
 unfold wpOpIn;rw[ho];simp only
 rw[if_pos (fc h hw (fun t _=>rfl))]
 refine HK hnd hrun ?_
 exact hQ κ F w (h.monoU fun b hb=>.inl hb) Kept.refl
theorem Cr{base:Nat}{k:Nat}{o:Obj}(h:base<=k):Below base w (w.putObj k o):=
 ⟨rfl,rfl,rfl,by rw[World.putObj_size];exact Nf _,fun j hj=>World.putObj_heap_other (by omega)⟩
theorem Rel.record(h:Rel w0 env κ F U tmp blk L a w){b:Nat}{i:LoopI}{st:LoopState}{p:Jmp}(hb:blk b=some (.loop i st p)):∃l r,κ b=.pointer (some ⟨l,0,none⟩)/\w.heap[l]?=some (.loop r)/\r.state=st/\r.pending=p.code/\r.params=i.params/\r.assign=i.assign/\r.body=i.body ∧
  r.tmps.size=i.rf.len/\(∀t,SVden env κ F w (i.rf.get .any t) (r.tmps.getD t undef)) ∧
  (∀(st':LoopState) (p':Jmp) (r':Loop),r'.state=st'->r'.pending=p'.code->r'.params=r.params->r'.assign=r.assign->r'.body=r.body->r'.tmps=r.tmps →
   Rel w0 env κ F U tmp (upd blk b (some (.loop i st' p'))) L a (w.putObj l (.loop r'))/\Kept U blk κ F w (upd blk b (some (.loop i st' p'))) κ F (w.putObj l (.loop r'))) ∧
  ∀r':Loop,r'.params=r.params->r'.assign=r.assign->r'.body=r.body->r'.tmps=r.tmps->Rel w0 env κ F U tmp (upd blk b none) L a (w.putObj l (.loop r'))/\Kept U blk κ F w (upd blk b none) κ F (w.putObj l (.loop r')):=by
 obtain⟨l,r,h1,h2,h3,h4,h5,h6,h7,h8,h9,h10⟩:=h.blks b _ hb;have hlive:aF (some (SB.loop i st p))=true:=rfl
 have hbl:ai (κ b)=some l:=by rw[h1];rfl
 have hnF:¬F l:=h.nF b l (by rw[hb];rfl) hbl
 have hFk:∀(o:Obj) k,F k->(w.putObj l o).heap[k]?=w.heap[k]?:=fun o k hk=>World.putObj_heap_other (fun e=>hnF (e▸hk))
 have hrec:∀r':Loop,r'.params=r.params->r'.assign=r.assign->r'.body=r.body->r'.tmps=r.tmps->RecLe w (w.putObj l (.loop r')):=fun r' g3 g4 g5 g6 k r₁ hr=>by
  by_cases e:k=l
  ·subst e
   rw[h2]at hr;have hr:r=r₁:=by injection hr with hr;injection hr
   subst hr;exact⟨r',World.putObj_heap_same (dt h2),g3,g4,g5,g6⟩
  ·exact⟨r₁,(World.putObj_heap_other e).trans hr,rfl,rfl,rfl,rfl⟩
 refine⟨l,r,h1,h2,h4,h5,h6,h7,h8,h9,h10,fun st' p' r' g1 g2 g3 g4 g5 g6=>?_,fun r' g3 g4 g5 g6=>?_⟩
 ·have hw:∀k,ai (κ b)≠some k->(w.putObj l (.loop r')).heap[k]?=w.heap[k]?:=fun k hk=>World.putObj_heap_other (fun e=>hk (by rw[hbl,e]))
  refine⟨h.stored hb hlive hw World.putObj_size ⟨l,r',h1,World.putObj_heap_same (dt h2),h3,g1,g2,g3.trans h6,g4.trans h7,g5.trans h8,by rw[g6];exact h9,fun t=>by rw[g6];exact(h10 t).keep (fun _ _=>rfl) (fun _ h=>h) (hFk _)⟩ (h.bnames b _ hb).2 (h.below.trans (Cr h3)),⟨fun _ _=>rfl,fun _ h=>h,fun _ h=>.inl h,by rw[World.putObj_size];exact Nf _,fun k _ hn=>hw k (hn b (by rw[hb];rfl)),fun c k h1 h2=>?_,hrec r' g3 g4 g5 g6⟩⟩
  by_cases e:c=b
  ·subst e;exact .inr ⟨c,by rw[hb];rfl,h2⟩
  ·rw[ah e]at h1;exact .inr ⟨c,h1,h2⟩
 ·have hlv:∀c,aF (upd blk b none c)=true->c≠b/\aF (blk c)=true:=fun c hc=>by
   by_cases e:c=b
   ·rw[e,ak]at hc;cases hc
   ·rw[ah e]at hc;exact⟨e,hc⟩
  have hother:∀c k,c≠b->aF (blk c)=true->ai (κ c)=some k->(w.putObj l (.loop r')).heap[k]?=w.heap[k]?:=fun c k hc hl hk=>World.putObj_heap_other (fun e=>hc (h.inj c b k hl (by rw[hb];rfl) hk (by rw[hbl,e])))
  refine⟨h.world (fun _ h=>h) (fun _ _=>rfl) (fun _ h=>h) (hFk _) (fun c x hx=>?_) (fun c d k hc hd=>h.inj c d k (hlv c hc).2 (hlv d hd).2) (fun c k hc=>h.nF c k (hlv c hc).2) (fun k hk=>by rw[World.putObj_size];exact h.F k hk) (h.below.trans (Cr h3)),
   ⟨fun _ _=>rfl,fun _ h=>h,fun _ h=>.inl h,by rw[World.putObj_size];exact Nf _,fun k _ hn=>World.putObj_heap_other (fun e=>hn b (by rw[hb];rfl) (by rw[hbl,e])),fun c k hc hk=>.inr ⟨c,(hlv c hc).2,hk⟩,hrec r' g3 g4 g5 g6⟩⟩
  by_cases e:c=b
  ·subst e;rw[ak]at hx;cases hx
  ·rw[ah e]at hx
   exact .inl ⟨hx,fun hl k hk=>hother c k e (by rw[hx];exact hl) hk⟩
theorem vS(h:Rel w0 env κ F U tmp blk L a w){b:Nat}{i:LoopI}{st:LoopState}{p:Jmp}(hb:blk b=some (.loop i st p)):∀t,∀c∈(i.rf.get .any t).names,U c:=by
 intro t c hc;refine(h.bnames b _ hb).2 c ?_
 by_cases ht:t<i.rf.len
 ·exact List.mem_flatMap.2 ⟨t,List.mem_range.2 ht,hc⟩
 ·rw[Ov.get_out (by omega)]at hc;cases hc
theorem AX:∀(ts:List Nat) (vs:List SV) (us:List Value) (rf:Ov SV) (tmps:Array Value),ts.length=vs.length->ts.length=us.length->(∀t∈ts,t<rf.len)->tmps.size=rf.len->(∀t,SVden env κ F w (rf.get .any t) (tmps.getD t undef)) →
  (∀(i:Nat) x u,vs[i]?=some x->us[i]?=some u->SVden env κ F w x u) →
  (e9 ts vs rf).len=rf.len/\((ts.zip us).foldl (fun(tmps:Array Value) (x:Nat×Value)=>tmps.setIfInBounds x.1 x.2) tmps).size=rf.len ∧
   (∀t,SVden env κ F w ((e9 ts vs rf).get .any t) (((ts.zip us).foldl (fun(tmps:Array Value) (x:Nat×Value)=>tmps.setIfInBounds x.1 x.2) tmps).getD t undef)) ∧
   ∀t,∀b∈((e9 ts vs rf).get .any t).names,(∃t',b∈(rf.get .any t').names)\/∃x∈vs,b∈x.names
 |[],vs,us,rf,tmps,h1,h2,_,hs,hd,_=>by
  cases vs with
  |nil=>exact⟨rfl,hs,hd,fun t b hb=>.inl ⟨t,hb⟩⟩
  |cons=>simp at h1
 | t :: ts,vs,us,rf,tmps,h1,h2,ht,hs,hd,hv=>by
  cases vs with
  |nil=>simp at h1
  | cons x vs=>
   cases us with
   |nil=>simp at h2
   | cons u us=>
    have htl:=ht t (Nh ..);have hlen:(rf.put t x).len=rf.len:=rfl
    have hx:=hv 0 x u rfl rfl;obtain⟨i1,i2,i3,i4⟩:=AX ts vs us (rf.put t x) (tmps.setIfInBounds t u) (by simpa using h1) (by simpa using h2) (fun s hs'=>by rw[hlen];exact ht s (Ng _ hs')) (by simp[hs,hlen]) (fun s=>by
     rw[Ov.get_put htl,qu (by omega)]
     split
     ·exact hx
     ·exact hd s) (fun i y v h3 h4=>hv (i+1) y v (by simpa using h3) (by simpa using h4))
    refine⟨i1,i2,i3,fun s b hb=>?_⟩
    rcases i4 s b hb with⟨t',h5⟩|⟨y,hy,h5⟩
    ·rw[Ov.get_put htl]at h5
     split at h5
     ·exact .inr ⟨x,Nh ..,h5⟩
     ·exact .inl ⟨t',h5⟩
    ·exact .inr ⟨y,Ng _ hy,h5⟩
theorem wt{σ:SS}{b:Nat}{y:Option SB}(hb:b<=σ.N):(σ.write [(b,y)]).blk=upd σ.blk b y/\(σ.write [(b,y)]).N=max σ.N (b+1)/\(σ.write [(b,y)]).tmp=σ.tmp/\(σ.write [(b,y)]).L=σ.L:=by
 obtain⟨h1,h2,h3,h4,_⟩:=cM σ [(b,y)] ⟨hb,trivial⟩;exact⟨h1,h2,h3,h4⟩
theorem oq{σ:SS}{b:Nat}{x:SB}{y:Option SB}(hb:σ.blk b=some x):(σ.write [(b,y)]).blk=upd σ.blk b y/\(σ.write [(b,y)]).N=σ.N/\(σ.write [(b,y)]).tmp=σ.tmp/\(σ.write [(b,y)]).L=σ.L:=by
 have:=eQ hb
 obtain⟨h1,h2,h3,h4⟩:=wt (σ:=σ) (b:=b) (y:=y) (by omega)
 exact⟨h1,by rw[h2];omega,h3,h4⟩
def eD(i:LoopI)(ex:Ex):SB:=.loop i (if ex.jmp==.none then .ready else .done) ex.jmp
theorem JL{cons:Nat->Bool}{own:Bool}{ro:Option Nat}{ops:Array Oper}{i:Nat}{o:Oper}(ho:ops[i]?=some o){σ σt:SS}{b:Nat}{vs:List SV}(hc:cr P cons own σt.tr σ.N σ.ev σ.blk o=.yld b vs)(hft:∀c∈bx σ.ev o,c<σ.N)(hvn:∀x∈vs,∀b∈x.names,b<σ.N)(hcl:∀b x,σ.blk b=some x->∀c∈x.names,c<σ.N)
  {li:LoopI} (hb:σ.blk b=some (.loop li .ready .none)) (hlen:vs.length=li.params.size) (hpar:∀t∈li.params.toList,t<li.rf.len)
  {σ₁:SS} (hl1:Leads P w0 (some b) li.assign env { σ with rf:=e9 li.params.toList vs li.rf } .normal σ₁) {i₁:LoopI} (hb1:σ₁.blk b=some (.loop i₁ .ready .none))
  {ex₂:Ex} {σ₂:SS} (hl2:Leads P w0 (some b) li.body env (σ₁.write [(b,some (.loop i₁ .busy .none))]) ex₂ σ₂) {i₂:LoopI} (hb2:σ₂.blk b=some (.loop i₂ .busy .none))
  (hnp:ex₂.isPanic=false) (hd:∀d,o.dst=some d->d<σ.L) (hw:cc ops o σ.tmp env true):
  StepSem P w0 env ro σ.L ops σ.N (σ₂.write [(b,some (eD i₂ ex₂))]).N i ⟨.vb (.bool (ex₂.jmp==.none)),cf σ (σ₂.write [(b,some (eD i₂ ex₂))]),{ rt:=bm ops o,rb:=NG σ.N,dst:=o.dst,wb:=j8 σ (σ₂.write [(b,some (eD i₂ ex₂))]) }⟩ σ.tmp σ.blk:=by
 obtain⟨σ₃,hσ₃⟩:∃σ₃,σ₃=σ₂.write [(b,some (eD i₂ ex₂))]:=⟨_,rfl⟩
 obtain⟨z1,z2,_,_⟩:=oq (σ:=σ₂) (y:=some (eD i₂ ex₂)) hb2
 rw[<-hσ₃]at z1 z2⊢
 obtain⟨y1,y2,y3,y4⟩:=oq (σ:=σ₁) (y:=some (.loop i₁ .busy .none)) hb1
 have hle1:σ.N<=σ₁.N:=hl1.le
 have hle2:σ₁.N<=σ₂.N:=by have:=hl2.le;rw[y2]at this;exact this
 have hle:σ.N<=σ₃.N:=by omega
 refine⟨by simp only[cf,List.map_map];exact(List.map_id' _).symm,fun c hc=>(changed_mem.1 hc).1,hle,fun c hc=>?_,fun c h1 h2=>changed_mem.2 ⟨h2,.inl h1⟩,hd,fun κ F U tmp' blk' a w K Q h ht hb' hf hro _ hK=>?_,fun x hx=>(by cases hx)⟩
 ·by_cases hlt:c<σ.N
  ·exact .inl (List.mem_range.2 hlt)
  ·exact .inr (by omega)
 ·have hbk0:∀c,c<σ.N->blk' c=σ.blk c:=fun c hc=>hb' c (List.mem_range.2 hc)
  have hev:∀x∈o.op.operands,ag tmp' x=σ.ev x:=fun x hx=>by rw[jh];exact eZ ht x hx
  have hbk:∀x∈o.op.operands,∀c∈(σ.ev x).names,blk' c=σ.blk c:=fun x hx c hc=>hbk0 c (hft c (by unfold bx;exact List.mem_flatMap.2 ⟨x,by simpa using hx,hc⟩))
  have hc':cr P cons own σt.tr σ.N (ag tmp') blk' o=.yld b vs:=by rw[lT hev hbk];exact hc
  obtain⟨g,cargs,tys,hop,hg,hvs⟩:=KA hc';have hbN:=eQ hb;have hbb:blk' b=some (.loop li .ready .none):=by rw[hbk0 b hbN];exact hb
  obtain⟨l,r,q1,q2,q3,q4,q5,q6,q7,q8,q9,_,_⟩:=h.record hbb;have hUb:U b:=(h.bnames b _ hbb).1
  have hevg:=h.ev g;rw[hg]at hevg;obtain⟨l',e0,e1⟩:=hevg;rw[q1]at e0;cases e0
  have hmid:(cargs.map a.eval).toList.length=vs.length/\∀(i:Nat) x u,vs[i]?=some x->(cargs.map a.eval).toList[i]?=some u->SVden env κ F w x u:=by
   rw[hvs];refine⟨by simp,fun i x u hx hu=>?_⟩
   rw[No]at hx;rw[NS,No]at hu;obtain⟨y,hy,rfl⟩:=Option.map_eq_some_iff.1 hx;rw[hy]at hu;cases hu
   exact tE (fun b e t l hb=>h.blks b _ hb) (h.ev y)
  have hsz:(cargs.map a.eval).size=r.params.size:=by rw[q5,<-hlen,<-hmid.1];simp
  have hrun:(execOp a.eval o).run P w=.ok (.round l r.fn ((r.params.zip (cargs.map a.eval)).foldl (fun tmps (t,a)=>tmps.setIfInBounds t a) r.tmps) r.assign r.body) w:=by
   have hy:=run_yield (P:=P) (w:=w) (l:=l) (r:=r) (args:=cargs.map a.eval) q2 hsz;simp only[execOp,hop,resolve,e1,Deferred.ofValue,Sem.run_bind,Sem.run_pure,Result.andThen_ok,invoke];simpa using hy
  obtain⟨p1,p2,p3,p4⟩:=AX (env:=env) (κ:=κ) (F:=F) (w:=w) li.params.toList vs (cargs.map a.eval).toList li.rf r.tmps (by simpa using hlen.symm) (by rw[hmid.1];simpa using hlen.symm) hpar q8 q9 hmid.2
  have hfold:(r.params.zip (cargs.map a.eval)).foldl (fun tmps (t,a)=>tmps.setIfInBounds t a) r.tmps=(li.params.toList.zip (cargs.map a.eval).toList).foldl (fun(tmps:Array Value) (x:Nat×Value)=>tmps.setIfInBounds x.1 x.2) r.tmps:=by
   rw[q5,<-Array.toList_zip,Array.foldl_toList]
  have hnm:∀x∈vs,∀c∈x.names,U c:=by
   intro x hx c hcn;rw[hvs]at hx;obtain⟨y,hy,rfl⟩:=List.mem_map.1 hx;exact h.evNames y c (uZ _ _ c hcn)
  have hlow:Rel w0 env κ F (fun b=>U b/\b<σ.N) (fun _=>.any) σ.blk a.tmps.size a w:=by
   have h0:=h.callee (σ:=σ) hbk0 (tmp':=fun _=>.any) (a':=a) (fun _=>trivial) rfl (fun t b hb=>by cases hb)
   exact{ h0 with tnames:=fun t b hb=>(by cases hb),bnames:=fun b x hx=>⟨⟨(h0.bnames b x hx).1,eQ hx⟩,fun c hc=>⟨(h0.bnames b x hx).2 c hc,hcl b x hx c hc⟩⟩ }
  have hround:Rel w0 env κ F (fun b=>U b/\b<σ.N) ({ σ with rf:=e9 li.params.toList vs li.rf }:SS).tmp ({ σ with rf:=e9 li.params.toList vs li.rf }:SS).blk ({ σ with rf:=e9 li.params.toList vs li.rf }:SS).L { tmps:=(r.params.zip (cargs.map a.eval)).foldl (fun tmps (t,a)=>tmps.setIfInBounds t a) r.tmps,defers:=[] } w:=by
   rw[hfold];refine hlow.callee (σ:=σ) (fun _ _=>rfl) p3 (by rw[p2];exact p1.symm) (fun t c hcn=>?_)
   rcases p4 t c hcn with⟨t',h5⟩|⟨x,hx,h5⟩
   ·exact vS hlow hb t' c h5
   ·exact⟨hnm x hx c h5,hvn x hx c h5⟩
  have hro1:dA κ (some b)=some l:=by simp[dA,q1,ai]
  have hgo1:=hl1.go κ F _ _ w hround (fun c h1 h2=>by have h1:σ.N<=c:=h1;omega) (fun c hc=>by cases hc;exact⟨hUb,hbN⟩)
  unfold wpOpIn;rw[ho];simp only
  rw[if_pos (fc h hw ht)];refine⟨fun _ _=>trivial,?_⟩
  rw[Oper.semAt_eq _ _ _ (fu hc' (fun m hm=>by cases hm)),hrun,Oper.uponIn_round]
  refine⟨fun h=>(by cases h),roundIn_of_wpIn trivial ?_⟩
  rw[q6,q7];rw[hro1]at hgo1;refine wpIn_mono (F:=FR (some l)) hgo1 ?_
  rintro e a₁ w₁ ⟨rfl,κ₁,F₁,r1,k1,_⟩;obtain⟨l₁,rec₁,s1,s2,s3,s4,s5,s6,s7,s8,s9,s10,_⟩:=r1.record hb1;have:l₁=l:=by have:=k1.kap b ⟨hUb,hbN⟩;rw[s1,q1]at this;injection this with h1;injection h1 with h1;injection h1
  subst this;obtain⟨r2,k2⟩:=s10 .busy .none { rec₁ with state:=.busy } rfl s4 rfl rfl rfl rfl
  refine⟨_,run_beginRound s2 s3,?_⟩
  have hro2:dA κ₁ (some b)=some l₁:=by simp[dA,s1,ai]
  have hgo2:=hl2.go κ₁ F₁ (fun c=>(U c/\c<σ.N)\/(σ.N<=c/\c<σ₁.N)) a₁ _ (by rw[y1,y3,y4];exact r2) (fun c h1 hc=>by rw[y2]at h1;omega) (fun c hc=>by cases hc;exact .inl ⟨hUb,hbN⟩)
  rw[hro2]at hgo2;refine wpIn_mono (F:=FR (some l₁)) hgo2 ?_
  rintro e a₂ w₂ ⟨rfl,κ₂,F₂,r3,k3,_⟩;rw[y1]at k3;rw[y2]at r3;obtain⟨l₂,rec₂,t1,t2,t3,t4,t5,t6,t7,t8,t9,t10,_⟩:=r3.record hb2;have:l₂=l₁:=by have:=k3.kap b (.inl ⟨hUb,hbN⟩);rw[t1,s1]at this;injection this with h1;injection h1 with h1;injection h1
  subst this;have hjump:∀jump:Option Code,jump=ex₂.jmp.code->jump.isNone=(ex₂.jmp==.none)->∃v w',(Instr.endRound l₂ jump).run P w₂=.ok v w'/\K (a.put o.dst v) w':=by
   intro jump hj hn;refine⟨_,_,run_endRound jump t2,?_⟩
   obtain⟨r4,k4⟩:=t10 (if ex₂.jmp==.none then .ready else .done) ex₂.jmp { rec₂ with state:=if jump.isNone then .ready else .done,pending:=jump } (by rw[hn]) hj rfl rfl rfl rfl
   have hk:Kept (fun c=>U c/\c<σ.N) σ.blk κ F w σ₃.blk κ₂ F₂ (w₂.putObj l₂ (.loop { rec₂ with state:=if jump.isNone then .ready else .done,pending:=jump })):=by
    have k12:=k1.trans k2 (fun c hc=>.inl hc)
    have k13:=k12.trans k3 (fun c hc=>.inl hc)
    have k14:=k13.trans k4 (fun c hc=>.inl (.inl hc))
    rw[z1];exact k14
   obtain⟨κ₃,_,r5,k5⟩:=h.embed' (σ:=σ) (σ':=σ₃) hbk0 hle hf (by
    rw[z1,z2];exact r4.monoU (fun c hc=>by
     rcases hc with(hc|hc)|hc
     ·exact .inl hc
     ·exact .inr ⟨hc.1,by omega⟩
     ·exact .inr ⟨by omega,hc.2⟩)) hk
   have hput:=r5.put (dst:=o.dst) (v:=.vb (.bool (ex₂.jmp==.none))) (u:=.bool jump.isNone) hd ⟨by rw[hn];rfl,rfl⟩ (fun c hc=>by cases hc)
   exact hK κ₃ F₂ _ _ hput k5 (by cases o.dst<;>rfl)
  cases ex₂ with
  |normal=>exact hjump none rfl rfl
  |ret=>exact hjump (some .ret) rfl rfl
  |exit id=>exact hjump (some (.exit id)) rfl rfl
  |panic v=>cases hnp
def Jmp.ex:Jmp->Ex
 |.none=>.normal
 |.ret=>.ret
 |.exit id=>.exit id
theorem H6(h:Rel w0 env κ F U tmp blk L a w){ro:Option Nat}(hro:∀b,ro=some b->DO (blk b)=true){N:Nat}(hN:¬U N){rf:Ov SV}(hrf:∀t,rf.get .any t=tmp t)(hL:rf.len=L)(fid fn:Nat)(ps:Array Tmp)(assign body:Code):
  ∃l mark w₁ κ₁,(Instr.enterLoop fn a.tmps ps assign body (dA κ ro)).run P w=.ok (l,mark) w₁/\κ₁ N=.pointer (some ⟨l,0,none⟩)/\Rel w0 env κ₁ F (fun b=>U b\/b=N) tmp (upd blk N (some (.loop ⟨fid,rf,ps,assign,body⟩ .ready .none))) L a w₁ ∧
   Kept U blk κ F w (upd blk N (some (.loop ⟨fid,rf,ps,assign,body⟩ .ready .none))) κ₁ F w₁/\Marks w a.defers F w₁ (mark++a.defers):=by
 have hnames:∀c∈(SB.loop ⟨fid,rf,ps,assign,body⟩ .ready .none).names,U c:=fun c hc=>by
  obtain⟨t,_,hc⟩:=List.mem_flatMap.1 hc;simp only at hc
  rw[hrf]at hc;exact h.tnames t c hc
 have lay:∀(w₁:World),Rel w0 env κ F U tmp blk L a w₁->∀r:Loop,r.state=.ready->r.pending=none->r.tmps=a.tmps->r.params=ps->r.assign=assign->r.body=body →
   Rel w0 env (upd κ N (.pointer (some ⟨w₁.heap.size,0,none⟩))) F (fun b=>U b\/b=N) tmp (upd blk N (some (.loop ⟨fid,rf,ps,assign,body⟩ .ready .none))) L a (w₁.alloc (.loop r)) ∧
   Kept U blk κ F w₁ (upd blk N (some (.loop ⟨fid,rf,ps,assign,body⟩ .ready .none))) (upd κ N (.pointer (some ⟨w₁.heap.size,0,none⟩))) F (w₁.alloc (.loop r)):=by
  intro w₁ h₁ r g1 g2 g3 g4 g5 g6;refine⟨h₁.new hN rfl ⟨w₁.heap.size,r,ak ..,World.alloc_heap_new _ _,h₁.below.size,g1,g2,g4,g5,g6,by rw[g3,h₁.size];exact hL.symm,fun t=>?_⟩ hnames,h₁.new_kept hN rfl⟩
  rw[g3];show SVden _ _ _ _ (rf.get .any t) _
  rw[hrf];exact tY h₁ hN (h₁.tnames t) (h₁.tmps t)
 cases ro with
 | none=>
  have h1:Rel w0 env κ F U tmp blk L a (w.alloc (.deferred (some []))):=by
   have hk:∀k,k<w.heap.size->(w.alloc (.deferred (some []))).heap[k]?=w.heap[k]?:=fun k hk=>Below.heap_alloc _ _ _ hk
   refine h.world (fun _ h=>h) (fun _ _=>rfl) (fun _ h=>h) (fun k hF=>hk k (h.F k hF)) (fun b x hx=>.inl ⟨hx,fun hl k hb=>hk k ((h.blks b x hx).lt hl hb).2⟩) h.inj h.nF (fun k hF=>by have:=h.F k hF;simp;omega) (h.below.trans ?_)
   exact⟨rfl,rfl,rfl,by simp,fun k hk'=>hk k (by have:=h.below.size;omega)⟩
  have k1:Kept U blk κ F w blk κ F (w.alloc (.deferred (some []))):=⟨fun _ _=>rfl,fun _ h=>h,fun _ h=>.inl h,by simp,fun k hk _=>Below.heap_alloc _ _ _ hk,fun b k h1 h2=>.inr ⟨b,h1,h2⟩,.of fun k hk=>.inr (Below.heap_alloc _ _ _ hk)⟩
  obtain⟨r2,k2⟩:=lay _ h1 { state:=.ready,pending:=none,fn,tmps:=a.tmps,params:=ps,assign,body,defers:=w.heap.size } rfl rfl rfl rfl rfl rfl
  refine⟨_,_,_,_,run_enterLoop_outer fn a.tmps ps assign body,?_,r2,k1.trans k2 (fun _ h=>h),[w.heap.size],rfl,by simp,fun D hD=>?_⟩
  ·rw[ak];simp
  ·have:D=w.heap.size:=by simpa using hD
   subst this;refine⟨Nf _,?_,fun hF=>by have:=h.F _ hF;omega⟩
   rw[Below.heap_alloc _ _ _ (by simp)]
   exact World.alloc_heap_new _ _
 | some b₀=>
  have hlp:=hro b₀ rfl;cases hb:blk b₀ with
  |none=>rw[hb]at hlp;cases hlp
  | some y=>
   rw[hb]at hlp;cases y with
   |loop i st p=>
    obtain⟨l₀,r₀,q1,q2,_⟩:=h.record hb;have hr0:dA κ (some b₀)=some l₀:=by simp[dA,q1,ai]
    rw[hr0];obtain⟨r2,k2⟩:=lay w h { state:=.ready,pending:=none,fn,tmps:=a.tmps,params:=ps,assign,body,defers:=r₀.defers } rfl rfl rfl rfl rfl rfl
    exact⟨_,_,_,_,run_enterLoop_inner q2 fn a.tmps ps assign body,ak ..,r2,k2,Marks.nil⟩
   |_=>cases hlp
theorem Fn(hfit:PFit P){ro:Option Nat}{fid:Nat}{g:Operand}{ps:Array Tmp}{assign body:Code}{σ:SS}{f:Nat}{fs xs:SV}(hg:σ.ev g=.fn f fs xs){fn:Func}{c:Code}(hfn:P.funcs[f]?=some fn)(hb:fn.body=some c)(hro:∀b,ro=some b->DO (σ.blk b)=true)
  (hres:fn.results.isEmpty=true) {ex:Ex} {σ':SS} (hex:ex.out=true)
  (hl:Leads P w0 none c env ((σ.write [(σ.N,some (.loop ⟨fid,σ.rf,ps,assign,body⟩ .ready .none))]).frame (fs.list++[.yld σ.N]++xs.list) fn.ntmps) ex σ') {i:LoopI} {st:LoopState} {p:Jmp} (hblk:σ'.blk σ.N=some (.loop i st p)) (hst:st≠.busy):
  Leads P w0 ro (.rangeFunc g ps assign body) env σ p.ex { σ'.write [(σ.N,none)]with rf:=σ.rf }:=by
 obtain⟨y1,y2,y3,y4⟩:=wt (σ:=σ) (b:=σ.N) (y:=some (.loop ⟨fid,σ.rf,ps,assign,body⟩ .ready .none)) (Nf _)
 obtain⟨z1,z2,_,_⟩:=oq (σ:=σ') (y:=none) hblk
 obtain⟨σ₁,hσ₁⟩:∃σ₁,σ₁=σ.write [(σ.N,some (.loop ⟨fid,σ.rf,ps,assign,body⟩ .ready .none))]:=⟨_,rfl⟩
 rw[<-hσ₁]at y1 y2 hl;have hle:σ₁.N<=σ'.N:=hl.le
 have hN1:σ₁.N=σ.N+1:=by rw[y2];omega
 refine⟨by show σ.N<=(σ'.write [(σ.N,none)]).N;rw[z2];omega,fun κ F U a w h hU hroU=>?_⟩
 have hUN:∀b,σ.N<=b->¬U b:=hU
 refine wpIn_rangeFunc (fun fnid _=>?_)
 obtain⟨l,mark,w₁,κ₁,he,hκ,r1,k1,m1⟩:=H6 (P:=P) h hro (hUN σ.N (Nf _)) (rf:=σ.rf) (fun t=>rfl) rfl fid fnid ps assign body
 have hevg:=h.ev g;rw[<-jh,hg]at hevg;obtain⟨ds,cs,e1,hp1,hp2,d1,d2⟩:=hevg;have hgn:∀b∈(σ.ev g).names,U b:=fun b hb=>by rw[jh]at hb;exact h.evNames g b hb
 rw[hg]at hgn;have hname:¬fn.name = "runtime.NumGoroutine" := hfit.name f fn hfn
 have hb0:¬fn.body=none:=by rw[hb];intro hh;cases hh
 refine⟨l,mark,w₁,{ target:=.fn (.func f) cs,args:=ds++#[.func (.yield l) #[] #[]] },w₁,f,(ds++#[.func (.yield l) #[] #[]])++cs,w₁,he,?_,fun _ _=>trivial,?_,fun hh=>(by cases hh),?_⟩
 ·simp[rangeCall,resolve,e1,Deferred.ofValue,show ∀v,a.eval (.const v)=v from fun _=>rfl]
 ·simp[invoke,callFunc,hfn,hname,hb0]
 ·have kp:∀ {x:SV} {u:Value},(∀b∈x.names,U b)->SVden env κ F w x u->SVden env κ₁ F w₁ x u:=fun hn hd=>k1.sv h hd hn
  have hyl:SVden env κ₁ F w₁ (.yld σ.N) (.func (.yield l) #[] #[]):=⟨l,hκ,rfl⟩
  have hmid:[Value.func (.yield l) #[] #[]].length=[SV.yld σ.N].length/\∀(i:Nat) x u,[SV.yld σ.N][i]?=some x->[Value.func (.yield l) #[] #[]][i]?=some u->SVden env κ₁ F w₁ x u:=by
   refine⟨rfl,fun i x u hx hu=>?_⟩
   cases i with
   |zero=>simp at hx hu;subst hx;subst hu;exact hyl
   |succ i=>simp at hx
  obtain⟨l1,l2⟩:=pL (pL (kT hp1 (kp (fun b hb=>hgn b (Nw _ hb)) d1)) hmid) (kT hp2 (kp (fun b hb=>hgn b (NB _ hb)) d2))
  have hua:((ds++#[Value.func (.yield l) #[] #[]])++cs).toList=ds.toList++[Value.func (.yield l) #[] #[]]++cs.toList:=by simp
  rw[<-hua]at l1 l2;obtain⟨fr1,fr2⟩:=sd (σ:=σ₁) (vs:=fs.list++[.yld σ.N]++xs.list) (us:=(ds++#[Value.func (.yield l) #[] #[]])++cs) (n:=fn.ntmps) (by rw[<-l1,Np]) (fun i x u hx hu=>l2 i x u hx (by rw[Nd];exact hu))
  have hnm:∀x∈fs.list++[SV.yld σ.N]++xs.list,∀b∈x.names,(U b\/b=σ.N):=by
   intro x hx b hbn;rcases List.mem_append.1 hx with hx|hx
   ·rcases List.mem_append.1 hx with hx|hx
    ·exact .inl (hgn b (Nw _ (bW fs x hx b hbn)))
    ·have:x=.yld σ.N:=by simpa using hx
     subst this;exact .inr (by simpa[SV.names]using hbn)
   ·exact .inl (hgn b (NB _ (bW xs x hx b hbn)))
  have hcr:Rel w0 env κ₁ F (fun b=>U b\/b=σ.N) (σ₁.frame (fs.list++[.yld σ.N]++xs.list) fn.ntmps).tmp (σ₁.frame (fs.list++[.yld σ.N]++xs.list) fn.ntmps).blk (σ₁.frame (fs.list++[.yld σ.N]++xs.list) fn.ntmps).L
    { tmps:=((ds++#[Value.func (.yield l) #[] #[]])++cs)++Nc (fn.ntmps-((ds++#[Value.func (.yield l) #[] #[]])++cs).size) undef,defers:=[] } w₁:=
   r1.callee (σ:=σ₁) (fun b _=>by rw[y1]) fr1 fr2 (nP hnm)
  have hrs:kA P σ' env fn.results.toList []:=by
   have:fn.results.toList=[]:=by simpa using hres
   rw[this];exact⟨rfl,fun e he=>by cases he⟩
  have hfr:∀b,(σ₁.frame (fs.list++[.yld σ.N]++xs.list) fn.ntmps).N<=b->¬(U b\/b=σ.N):=fun b h1 hh=>by
   have h1:σ₁.N<=b:=h1
   rcases hh with hh|hh
   ·exact hUN b (by omega) hh
   ·omega
  refine(Bw (nB hfn hb hex hl hcr hfr hrs)).mono ?_
  rintro e w' ⟨u,κ',F',a',rfl,r2,k2,_⟩;obtain⟨l',rec',s1,s2,s3,s4,_,_,_,_,_,_,s5⟩:=r2.record hblk;have:l'=l:=by have:=k2.kap σ.N (.inr rfl);rw[s1,hκ]at this;injection this with h1;injection h1 with h1;injection h1
  subst this;refine⟨_,_,run_endLoop s2 (by rw[s3];exact hst),?_⟩
  obtain⟨r3,k3⟩:=s5 { rec' with state:=.exhausted } rfl rfl rfl rfl
  have hk2:Kept (fun b=>U b\/b=σ.N) (upd σ.blk σ.N (some (.loop ⟨fid,σ.rf,ps,assign,body⟩ .ready .none))) κ₁ F w₁ σ'.blk κ' F' w':=by rw[<-y1];exact k2
  have k23:=hk2.trans k3 (fun b hb=>.inl hb)
  have hK:=k1.trans k23 (fun b hb=>.inl hb)
  have hM:=m1.next r1 k23;have hNs:(σ₁.frame (fs.list++[.yld σ.N]++xs.list) fn.ntmps).N=σ.N+1:=hN1
  have hend:Ends w0 env κ F U σ a w { σ'.write [(σ.N,none)]with rf:=σ.rf } { a with defers:=mark++a.defers } (w'.putObj l' (.loop { rec' with state:=.exhausted })):=by
   refine⟨κ',F',?_,by show Kept _ _ _ _ _ (σ'.write [(σ.N,none)]).blk _ _ _;rw[z1];exact hK,hM⟩
   show Rel w0 env κ' F' (fun b=>U b\/(σ.N<=b/\b<(σ'.write [(σ.N,none)]).N)) σ.tmp (σ'.write [(σ.N,none)]).blk σ.L _ _
   rw[z1,z2];have hmem:∀b,((U b\/b=σ.N)\/((σ₁.frame (fs.list++[.yld σ.N]++xs.list) fn.ntmps).N<=b/\b<σ'.N))->(U b\/(σ.N<=b/\b<σ'.N)):=fun b hb=>by
    rcases hb with(hb|hb)|hb
    ·exact .inl hb
    ·exact .inr (by omega)
    ·exact .inr ⟨by rw[hNs]at hb;omega,hb.2⟩
   have r4:=r3.monoU hmem;exact{ r4 with tmps:=fun t=>hK.sv h (h.tmps t) (h.tnames t),size:=h.size,tnames:=fun t b hb=>.inl (h.tnames t b hb) }
  revert hend
  generalize w'.putObj l' (.loop { rec' with state:=.exhausted })=W
  intro hend;rw[s4];cases p with
  |none=>exact⟨rfl,hend⟩
  |ret=>exact wpIn_ret ⟨rfl,hend⟩
  |exit id=>exact wpIn_exit ⟨rfl,hend⟩
variable {env:List AV} {κ κ':Nat->Value} {F F':Nat->Prop} {w w' w0:World} {U:Nat->Prop} {tmp:Nat->SV} {blk:Nat->Option SB} {L:Nat} {a:Act} {P:Program} {Post:R->Prop} {K:Nat->List AV->Prop}
def Path(P:Program)(Post:R->Prop)(w0:World)(ro:Option Nat)(c:Code)(env:List AV)(K:Nat->List AV->Prop)(σ:SS)(k:Ex->SS->T):Prop:=
 ∃(ex:Ex) (σ':SS) (rs:List AV) (K':Nat->List AV->Prop),(k ex σ').den P Post (env++rs) K'/\(∀l,l<σ.dep->K' l=K l)/\σ'.dep=σ.dep/\KnownOK (env++rs) σ'.n σ'.known/\(env++rs).length=σ'.n/\∀us,Leads P w0 ro c (env++rs++us) σ ex σ'
def pM(P:Program)(w0:World)(run:Run):Prop:=
 ∀(Post:R->Prop) (K:Nat->List AV->Prop) (ro:Option Nat) (fid:Nat) (c:Code) (k:Ex->SS->T) (σ:SS) (env:List AV),env.length=σ.n->KnownOK env σ.n σ.known->(run ro fid c k σ).den P Post env K->Path P Post w0 ro c env K σ k
theorem Cm(l:List E)(t:T):(T.needs l t).den P Post env K↔(∀e∈l,(den env e).b=true)/\t.den P Post env K:=by
 induction l with
 |nil=>simp[T.needs]
 |cons e l ih=>simp only[T.needs,T.den,ih,List.forall_mem_cons,and_assoc]
theorem HP(r:R):r.leaves.length=(mkRes.RS.cnt r.shape).1:=by
 induction r with
 |cons x y ih1 ih2=>simp[R.leaves,R.shape,mkRes.RS.cnt,ih1,ih2]
 |agg x ih=>exact ih
 |tup x ih=>exact ih
 |_=>rfl
theorem JY(nd:List E):∀σ:SS,∃kn,nd.foldl (fun σ e=>σ.learn e true) σ={ σ with known:=kn }/\(KnownOK env σ.n σ.known->(∀e∈nd,e.sc σ.n=true/\(den env e).b=true)->KnownOK env σ.n kn):=by
 induction nd with
 |nil=>intro σ;exact⟨σ.known,rfl,fun h _=>h⟩
 |cons e nd ih=>
  intro σ;obtain⟨kn,h1,h2⟩:=ih (σ.learn e true);refine⟨kn,h1,fun h hn=>?_⟩
  exact h2 (ig h (hn e (Nh ..)).1 (hn e (Nh ..)).2) (fun x hx=>hn x (Ng _ hx))
theorem KnownOK.ext'{n:Nat}{rs:List AV}{known:List (E×Bool)}(h:KnownOK env n known)(hn:env.length=n):KnownOK (env++rs) n known:=h.ext hn (Nf _)
def LQ(P:Program)(Post:R->Prop)(K:Nat->List AV->Prop)(w0:World)(ro:Option Nat)(env:List AV)(ops:Array Oper)(i:Nat)(σ:SS)(kp:Value->SS->T):Prop:=
 ∃(v:Value) (r1:List AV) (σ':SS) (K':Nat->List AV->Prop),(kp v σ').den P Post (env++r1) K'/\(∀l,l<σ.dep->K' l=K l)/\KnownOK (env++r1) σ'.n σ'.known/\(env++r1).length=σ'.n ∧
  (∀rs,qj P w0 (env++r1++rs) ro σ.L ops σ.N σ'.N i v σ.tmp σ.blk σ'.blk)/\σ'.tmp=σ.tmp/\σ'.L=σ.L/\σ'.dep=σ.dep/\σ.N<=σ'.N
def M4(P:Program)(Post:R->Prop)(K:Nat->List AV->Prop)(w0:World)(ro:Option Nat)(env:List AV)(ops:Array Oper)(i:Nat)(σ:SS)(k:SS->Seen->T):Prop:=
 ∃(r1:List AV) (σ':SS) (s:Stp) (K':Nat->List AV->Prop),(k σ' s.seen).den P Post (env++r1) K'/\(∀l,l<σ.dep->K' l=K l)/\KnownOK (env++r1) σ'.n σ'.known/\(env++r1).length=σ'.n ∧
  (∀rs,StepSem P w0 (env++r1++rs) ro σ.L ops σ.N σ'.N i s σ.tmp σ.blk)/\σ'.tmp=fG σ.tmp s.seen.dst s.v/\σ'.blk=aL σ.blk s.wr/\σ'.L=σ.L/\σ'.dep=σ.dep
def AF(P:Program)(Post:R->Prop)(K:Nat->List AV->Prop)(w0:World)(ro:Option Nat)(env:List AV)(ops:Array Oper)(i:Nat)(σ:SS)(k:SS->Seen->T)(kp:Value->SS->T):Prop:=
 M4 P Post K w0 ro env ops i σ k\/LQ P Post K w0 ro env ops i σ kp
theorem GP{ops:Array Oper}{o:Oper}{b:Bool}{known:List (E×Bool)}{n:Nat}(hg:∀j want,o.guard=some (j,want)->∃d e,(ops[j]?).bind (·.dst)=some d/\tmp d=.vb e/\∃t,kE known e=some t/\b=decide (t=want))(h0:o.guard=none->b=true)
  (hk:KnownOK env n known) (hn:env.length=n) (rs:List AV):cc ops o tmp (env++rs) b:=by
 unfold cc;split
 ·rename_i hh;exact h0 hh
 ·rename_i j want hh
  obtain⟨d,e,h1,h2,t,h3,h4⟩:=hg j want hh;refine⟨d,h1,.inl ⟨e,h2,?_⟩⟩
  rw[h4,nI (hk.ext' hn) h3]
theorem jX{σ:SS}{o:Oper}(h:ut σ o=true):∀d,o.dst=some d->d<σ.L:=fun d hd=>by
 unfold ut at h;rw[hd]at h;exact ga h
theorem zg{σ:SS}{o:Oper}{v:SV}{wr:List (Nat×Option SB)}(hw:ji σ.N wr)(hd:∀d,o.dst=some d->d<σ.L):(σ.eff o v wr).tmp=fG σ.tmp o.dst v/\(σ.eff o v wr).blk=aL σ.blk wr/\(σ.eff o v wr).N=cu σ.N wr/\(σ.eff o v wr).L=σ.L/\(σ.eff o v wr).n=σ.n/\(σ.eff o v wr).known=σ.known/\(σ.eff o v wr).dep=σ.dep:=by
 obtain⟨h1,h2,h3,h4,h5,h6,h7⟩:=cM σ wr hw;obtain⟨g1,g2,g3,g4,g5,g6,g7⟩:=eB (σ.write wr) (dst:=o.dst) (v:=v) (fun d hd'=>by rw[h4];exact hd d hd')
 exact⟨by rw[<-h3];exact g1,g2.trans h1,g3.trans h2,g6.trans h4,g4.trans h5,g5.trans h6,g7.trans h7⟩
theorem JD{cons:Nat->Bool}{own:Bool}{ro:Option Nat}(hfit:PFit P){ops:Array Oper}{i:Nat}{o:Oper}(ho:ops[i]?=some o){σ σ₁:SS}{f:Nat}(hc:cr P cons own σ₁.tr σ.N σ.ev σ.blk o=.inl f []){ks vs:SV}(hm:HN P f ks vs)(hk:ks.names=[])(hv:vs.names=[])(hks:ks.sc 0=true)(hvs:vs.sc 0=true)
  (hd:∀d,o.dst=some d->d<σ.L) (hw:cc ops o σ.tmp env true):
  StepSem P w0 env ro σ.L ops σ.N (σ.N+1) i ⟨.map σ.N,[(σ.N,some (.map ks vs))],{ rt:=bm ops o,rb:=bx σ.ev o,dst:=o.dst,wb:=[σ.N] }⟩ σ.tmp σ.blk:=by
 refine⟨rfl,fun b hb=>by rw[List.mem_singleton.1 hb];exact Nt _,Nat.le_succ _,fun b hb=>.inr (by rw[List.mem_singleton.1 hb];exact Nf _),fun b h1 h2=>List.mem_singleton.2 (by omega),hd,fun κ F U tmp' blk' a w K Q h ht hb' hf hro _ hK=>?_,fun x hx=>(by cases hx)⟩
 have hev:∀x∈o.op.operands,ag tmp' x=σ.ev x:=fun x hx=>by rw[jh];exact eZ ht x hx
 have hbk:∀x∈o.op.operands,∀b∈(σ.ev x).names,blk' b=σ.blk b:=fun x hx b hb=>hb' b (by unfold bx;exact List.mem_flatMap.2 ⟨x,by simpa using hx,hb⟩)
 have hc':cr P cons own σ₁.tr σ.N (ag tmp') blk' o=.inl f []:=by rw[lT hev hbk];exact hc
 obtain⟨g,cargs,tys,fs,xs,fn,hop,hg,hfn,hbody,hl⟩:=Fg hc';have hevg:=h.ev g;rw[hg]at hevg;obtain⟨ds,cs,e1,hp1,hp2,d1,d2⟩:=hevg;have hl':(fs.list=[]/\cargs.toList=[])/\xs.list=[]:=by
  have:=hl.symm
  simp only[List.append_eq_nil_iff,List.map_eq_nil_iff]at this;exact this
 have hds:ds=#[]:=by
  have:=(kT hp1 d1).1
  rw[hl'.1.1]at this;exact Nn (by simpa using this)
 have hcs:cs=#[]:=by
  have:=(kT hp2 d2).1
  rw[hl'.2]at this;exact Nn (by simpa using this)
 have hca:cargs=#[]:=by rw[<-Array.toArray_toList (xs:=cargs),hl'.1.2]
 subst hds;subst hcs;subst hca;have hrun:(execOp a.eval o).run P w=.ok (.enter f #[]) w:=by
  have hn:¬fn.name = "runtime.NumGoroutine" := hfit.name f fn hfn
  have hb0:¬fn.body=none:=by intro hh;rw[hh]at hbody;cases hbody
  simp only[execOp,hop,resolve,e1,Deferred.ofValue,Sem.run_bind,Sem.run_pure,Result.andThen_ok,invoke,callFunc];simp[hfn,hn,hb0]
 have hUN:¬U σ.N:=hf σ.N (Nf _) (Nt _)
 unfold wpOpIn;rw[ho];simp only
 rw[if_pos (fc h hw ht)];refine wW (fu hc' (fun m hm=>by cases hm)) hrun (hm w) ?_
 rintro e w' ⟨r,es,clock,rfl,q1,q2,q3,q4,q5,q6,q7⟩;refine⟨_,rfl,?_⟩
 have hmd:MapDen env (upd κ σ.N (.pointer (some ⟨r,0,none⟩))) F w' ks vs es.toList:=by
  have h1:MapDen [] (upd κ σ.N (.pointer (some ⟨r,0,none⟩))) F w' ks vs es.toList:=q6.keep (fun b hb=>by rw[hk,hv]at hb;cases hb) (fun _ h=>h.elim) (fun _ h=>h.elim)
  have hag:Agree 0 [] env:=by
   have:=jj (env:=[]) (rs:=env) (n:=0) rfl
   exact this
  exact h1.re hag hks hvs
 have hold:∀b k,aF (blk' b)=true->ai (κ b)=some k->k<w.heap.size:=fun b k hb hk=>by
  obtain⟨y,hy,hl⟩:=bC hb;exact((h.blks b y hy).lt hl hk).2
 have hne:∀b,U b->b≠σ.N:=fun b hb e=>hUN (e▸hb)
 have hlive:∀b,aF (upd blk' σ.N (some (.map ks vs)) b)=true->b=σ.N\/(aF (blk' b)=true/\b≠σ.N):=fun b hb=>by
  by_cases e:b=σ.N
  ·exact .inl e
  ·rw[ah e]at hb;exact .inr ⟨hb,e⟩
 have hrel:Rel w0 env (upd κ σ.N (.pointer (some ⟨r,0,none⟩))) F (fun b=>U b\/(σ.N<=b/\b<σ.N+1)) tmp' (upd blk' σ.N (some (.map ks vs))) σ.L a w':=by
  refine h.world (fun b hb=>.inl hb) (fun b hb=>ah (hne b hb)) (fun k hk=>hk) (fun k hF=>q7.block k (h.F k hF)) (fun b x hx=>?_) (fun b c k hb hc h1 h2=>?_) (fun b k hb h1=>?_) (fun k hF=>Nat.lt_of_lt_of_le (h.F k hF) q7.size) (h.below.trans (q7.mono h.below.size))
  ·by_cases e:b=σ.N
   ·subst e;rw[ak]at hx;cases hx
    exact .inr ⟨⟨r,es,clock,ak ..,q2,Nat.le_trans h.below.size q1,q3,q4,q5,hmd⟩,.inr ⟨Nf _,Nt _⟩,fun c hc=>by simp only[SB.names,hk,hv]at hc;cases hc⟩
   ·rw[ah e]at hx
    exact .inl ⟨hx,fun hl k hk=>q7.block k (hold b k (by rw[hx];exact hl) hk)⟩
  ·rcases hlive b hb with rfl|⟨hb1,hb2⟩<;>rcases hlive c hc with rfl|⟨hc1,hc2⟩
   ·rfl
   ·rw[ak]at h1;rw[ah hc2]at h2
    have h1:r=k:=by simpa[ai]using h1
    have:=hold c k hc1 h2;omega
   ·rw[ak]at h2;rw[ah hb2]at h1
    have h2:r=k:=by simpa[ai]using h2
    have:=hold b k hb1 h1;omega
   ·rw[ah hb2]at h1;rw[ah hc2]at h2
    exact h.inj b c k hb1 hc1 h1 h2
  ·rcases hlive b hb with rfl|⟨hb1,hb2⟩
   ·rw[ak]at h1
    have h1:r=k:=by simpa[ai]using h1
    intro hF;have:=h.F _ hF;omega
   ·rw[ah hb2]at h1;exact h.nF b k hb1 h1
 have hkept:Kept U blk' κ F w (upd blk' σ.N (some (.map ks vs))) (upd κ σ.N (.pointer (some ⟨r,0,none⟩))) F w':=by
  refine⟨fun b hb=>ah (hne b hb),fun _ h=>h,fun _ h=>.inl h,q7.size,fun k hk _=>q7.block k hk,fun b k hb h1=>?_,.of fun k hk=>.inr (q7.block k hk)⟩
  rcases hlive b hb with rfl|⟨hb1,hb2⟩
  ·rw[ak]at h1
   have h1:r=k:=by simpa[ai]using h1
   exact .inl (by omega)
  ·rw[ah hb2]at h1;exact .inr ⟨b,hb1,h1⟩
 have hput:=hrel.put (dst:=o.dst) (v:=.map σ.N) (u:=.map (some r)) hd ⟨r,ak ..,rfl⟩ (fun b hb=>by rw[show b=σ.N by simpa[SV.names]using hb];exact .inr ⟨Nf _,Nt _⟩)
 exact hK _ F _ w' hput hkept (by cases o.dst<;>rfl)
variable {env:List AV} {κ κ':Nat->Value} {F F':Nat->Prop} {w w' w0:World} {U:Nat->Prop} {tmp:Nat->SV} {blk:Nat->Option SB} {L:Nat} {a:Act} {P:Program} {Post:R->Prop} {K:Nat->List AV->Prop} {cfg:Cfg} {run:Run} {ro:Option Nat}
theorem Cs{σ:SS}{vs:List SV}(h:vs.all σ.okSV=true):∀x∈vs,∀b∈x.names,b<σ.N:=fun x hx b hb=>by
 have:=List.all_eq_true.1 h x hx
 unfold SS.okSV at this;rw[Na,Nk]at this;exact ga (this.2 b hb)
theorem wM{σ σ':SS}{dst:Option Nat}{v:SV}(hle:σ.N<=σ'.N)(hd:∀d,dst=some d->d<σ.L):(SS.put { σ' with rf:=σ.rf } dst v).tmp=fG σ.tmp dst v/\(SS.put { σ' with rf:=σ.rf } dst v).blk=aL σ.blk (cf σ σ')/\(SS.put { σ' with rf:=σ.rf } dst v).N=σ'.N/\(SS.put { σ' with rf:=σ.rf } dst v).L=σ.L ∧
  (SS.put { σ' with rf:=σ.rf } dst v).n=σ'.n/\(SS.put { σ' with rf:=σ.rf } dst v).known=σ'.known/\(SS.put { σ' with rf:=σ.rf } dst v).dep=σ'.dep:=by
 obtain⟨g1,g2,g3,g4,g5,g6,g7⟩:=eB { σ' with rf:=σ.rf } (dst:=dst) (v:=v) hd
 refine⟨g1,?_,g3,g6,g4,g5,g7⟩
 rw[g2];funext b
 rw[yq hle (fun _ _=>rfl)]
 split
 ·rfl
 ·rename_i h
  have h1:σ'.blk b=none:=Ov.get_out (by have:¬b<σ'.N:=h;exact Nat.le_of_not_lt this)
  have h2:σ.blk b=none:=Ov.get_out (by have:¬b<σ'.N:=h;have:σ.hp.len=σ.N:=rfl;omega)
  rw[h2];exact h1
theorem Ia(hrun:pM P w0 run)(hfit:PFit P){own:Bool}{id i:Nat}{ops:Array Oper}{o:Oper}(ho:ops[i]?=some o){σ:SS}{kn:List (E×Bool)}{k:SS->Seen->T}{kp:Value->SS->T}(hn:env.length=σ.n)(hk:KnownOK env σ.n kn)
  (hw:∀rs,cc ops o σ.tmp (env++rs) true) {x:Out} (hx:cr P cfg.cons.contains own (kE kn) σ.N σ.ev σ.blk o=x) (h:(fin P cfg run id { σ with known:=kn } o x k kp (bm ops o)).den P Post env K):AF P Post K w0 ro env ops i σ k kp:=by
 cases x with
 |no m=>exact h.elim
 |br c=>exact h.elim
 |panic v=>
  replace h:(kp v { σ with known:=kn }).den P Post env K:=h
  exact .inr ⟨v,[],{ σ with known:=kn },K,by rw[Nb];exact h,fun _ _=>rfl,by rw[Nb];exact hk,by rw[Nb];exact hn,fun rs=>Mg ho (σ:=σ) (σ₁:={ σ with known:=kn }) hx (by have:=hw rs;rw[<-Nb env]at this;exact this),rfl,rfl,rfl,Nf _⟩
 | ok needs v wr=>
  replace h:(Hm id { σ with known:=kn } o needs v wr k (bm ops o)).den P Post env K:=h
  unfold Hm at h;simp only[jK uP,km,Jt,SS.go_eq]at h;split at h
  ·rename_i hc
   simp only[Na]at hc;obtain⟨⟨⟨⟨c1,c2⟩,c3⟩,c4⟩,c5⟩:=hc;rw[Nk]at c1;rw[Cm]at h;obtain⟨hnd,hden⟩:=h;have hd:=jX c5;obtain⟨kn',l1,l2⟩:=JY (env:=env) (needs.filter (fun e=>SS.tr { σ with known:=kn } e !=some true)) { σ with known:=kn }
   rw[l1]at hden;have hkn:=l2 hk (fun e he=>⟨c1 e he,hnd e he⟩)
   have hns:∀rs,∀e∈needs,(den (env++rs) e).b=true:=fun rs e he=>by
     cases ht:(SS.tr { σ with known:=kn } e !=some true)with
     |true=>
      have hm:e∈needs.filter (fun e=>SS.tr { σ with known:=kn } e !=some true):=List.mem_filter.2 ⟨he,ht⟩
      rw[iO hn (c1 e hm)];exact hnd e hm
     |false=>
      have:SS.tr { σ with known:=kn } e=some true:=by simpa using ht
      exact nI (hk.ext' hn) this
   have hstep:∀rs,ji σ.N (f9 σ.N wr)/\StepSem P w0 (env++rs) ro σ.L ops σ.N (cu σ.N (f9 σ.N wr)) i ⟨v,f9 σ.N wr,rx { σ with known:=kn } o v wr (bm ops o)⟩ σ.tmp σ.blk:=fun rs=>by
    cases hl:Ad { σ with known:=kn } o v wr with
    |some rh=>
     obtain⟨rfl,hs⟩:=IS (w0:=w0) (env:=env++rs) (ro:=ro) ho (σ:={ σ with known:=kn }) (σ₁:={ σ with known:=kn }) hx (hns rs) hl hd (hw rs)
     unfold rx;rw[hl];exact⟨trivial,hs⟩
    |none=>
     unfold rx;rw[hl];exact K6 hfit ho (σ:=σ) (σ₁:={ σ with known:=kn }) (hk.ext' hn) hx (hns rs) c4 hd (hw rs)
   obtain⟨p1,p2,p3,p4,p5,p6,p7⟩:=zg (σ:={ σ with known:=kn' }) (o:=o) (v:=v) (hstep []).1 hd
   have hsd:(rx { σ with known:=kn } o v wr (bm ops o)).dst=o.dst:=by unfold rx;split<;>rfl
   refine .inl ⟨[],_,⟨v,f9 σ.N wr,rx { σ with known:=kn } o v wr (bm ops o)⟩,K,by rw[Nb];exact hden,fun _ _=>rfl,?_,?_,fun rs=>?_,by rw[hsd];exact p1,p2,p4,p7⟩
   ·rw[Nb,p5,p6];exact hkn
   ·rw[Nb,p5];exact hn
   ·rw[Nb,p3];exact(hstep rs).2
  ·exact h.elim
 | call f args sh wr=>
  replace h:(B7 id { σ with known:=kn } o f args sh wr k (bm ops o)).den P Post env K:=h
  unfold B7 at h;split at h
  ·rename_i hc
   simp only[Na]at hc;obtain⟨⟨⟨c1,c2⟩,c3⟩,c4⟩:=hc;simp only[uP,km,Jt,SS.go_eq]at h;obtain⟨r,hr,hcon,hden⟩:=h;have hd:=jX c2;have hwr:∀y∈wr,y.1∈bx σ.ev o/\y.1<σ.N:=fun y hy=>by
    have:=List.all_eq_true.1 c4 y hy
    simp only[Na]at this;exact⟨(show y.1∈bx (SS.ev { σ with known:=kn }) o from by simpa using this.1.1.1),ga this.1.1.2⟩
   have hll:=HP r;rw[hr]at hll;have hstep:∀rs,ji σ.N (wr++(mkRes sh σ.n σ.N).2)/\StepSem P w0 (env++r.leaves++rs) ro σ.L ops σ.N (cu σ.N (wr++(mkRes sh σ.n σ.N).2)) i ⟨(mkRes sh σ.n σ.N).1,wr++(mkRes sh σ.n σ.N).2,{ rt:=bm ops o,rb:=bx σ.ev o,dst:=o.dst,wb:=(wr++(mkRes sh σ.n σ.N).2).map (·.1) }⟩ σ.tmp σ.blk:=fun rs=>
    Jy hfit ho (σ:=σ) (σ₁:={ σ with known:=kn }) hx hr (n:=σ.n) (by rw[M9,iO hn c1];exact hcon) (fun j y hj=>by
     rw[M9,Nr (by omega)]
     rw[show σ.n+j-env.length=j by omega,Nm (List.getElem?_eq_some_iff.1 hj).1]
     exact hj) hd hwr (by have:=hw (r.leaves++rs);rw[<-M9]at this;exact this)
   obtain⟨p1,p2,p3,p4,p5,p6,p7⟩:=zg (σ:={ σ with known:=kn,n:=σ.n+(mkRes.RS.cnt sh).1 }) (o:=o) (v:=(mkRes sh σ.n σ.N).1) (hstep []).1 hd
   refine .inl ⟨r.leaves,SS.eff { σ with known:=kn,n:=σ.n+(mkRes.RS.cnt sh).1 } o (mkRes sh σ.n σ.N).1 (wr++(mkRes sh σ.n σ.N).2),⟨(mkRes sh σ.n σ.N).1,wr++(mkRes sh σ.n σ.N).2,{ rt:=bm ops o,rb:=bx σ.ev o,dst:=o.dst,wb:=(wr++(mkRes sh σ.n σ.N).2).map (·.1) }⟩,K,hden,fun _ _=>rfl,?_,?_,fun rs=>?_,p1,p2,p4,p7⟩
   ·rw[p5,p6];exact hk.ext hn (NI _ _)
   ·rw[p5];show _=σ.n+_;rw[NE,hn,hll]
   ·rw[p3];exact(hstep rs).2
  ·exact h.elim
 | inl f vs=>
  unfold fin at h;simp only at h
  split at h
  ·rename_i fn hfn
   split at h
   ·rename_i ks vs' _
    unfold IA at h;split at h
    ·rename_i hc
     simp only[Na,List.isEmpty_iff]at hc;obtain⟨⟨⟨⟨⟨c1,c2⟩,c3⟩,c4⟩,c5⟩,c6⟩:=hc;subst c1;simp only[SS.go_eq]at h;obtain⟨hm,hden⟩:=h;have hd:=jX c6;have hwr:ji σ.N [(σ.N,some (.map ks vs'))]:=⟨Nf _,trivial⟩
     obtain⟨p1,p2,p3,p4,p5,p6,p7⟩:=zg (σ:={ σ with known:=kn }) (o:=o) (v:=.map σ.N) hwr hd
     have hN:cu σ.N [(σ.N,some (SB.map ks vs'))]=σ.N+1:=by show max σ.N (σ.N+1)=_;omega
     refine .inl ⟨[],_,⟨.map σ.N,[(σ.N,some (.map ks vs'))],{ rt:=bm ops o,rb:=bx σ.ev o,dst:=o.dst,wb:=[σ.N] }⟩,K,by rw[Nb];exact hden,fun _ _=>rfl,?_,?_,fun rs=>?_,p1,p2,p4,p7⟩
     ·rw[Nb,p5,p6];exact hk
     ·rw[Nb,p5];exact hn
     ·rw[Nb,p3]
      show StepSem P w0 (env++rs) ro σ.L ops σ.N (cu σ.N _) i _ σ.tmp σ.blk
      rw[hN];exact JD hfit ho (σ:=σ) (σ₁:={ σ with known:=kn }) hx hm c2 c3 c4 c5 hd (hw rs)
    ·exact h.elim
   ·rename_i c hmap hb
    unfold Iz at h;simp only[jK km]at h;split at h
    ·rename_i hc
     rw[Na]at hc;obtain⟨c1,c2⟩:=hc;rw[Na]at c1;have hvn:=Cs c1.1;have hcl:∀b x,σ.blk b=some x->∀c∈x.names,c<σ.N:=fun b x hx=>SS.closed_spec (σ:={ σ with known:=kn }) c1.2 hx
     have hft:∀b∈bx σ.ev o,b<σ.N:=fun b hb=>ga (List.all_eq_true.1 c2 b hb)
     obtain⟨ex,σ',rs,K',hden,hK,hdep,hkn,hlen,hl⟩:=hrun Post K none f c _ (SS.frame { σ with known:=kn } vs fn.ntmps) env hn hk h
     by_cases hpan:ex.isPanic=true
     ·cases ex with
      |panic v=>
       simp only[SS.go_eq]at hden;have hle:σ.N<=σ'.N:=(hl []).le
       obtain⟨p1,p2,p3,p4,p5,p6,p7⟩:=wM (σ:={ σ with known:=kn }) (σ':=σ') (dst:=none) (v:=.nil) hle (fun d hd=>by cases hd)
       refine .inr ⟨v,rs,_,K',hden,hK,hkn,hlen,fun ts=>?_,rfl,rfl,hdep,hle⟩
       have h1:=Lq (ro:=ro) hfit ho (σ:=σ) (σ₁:={ σ with known:=kn }) hx hfn hb hft hvn hcl ((hl ts).same ⟨rfl,rfl,rfl,rfl⟩ ⟨rfl,rfl,rfl,rfl⟩) (by have:=hw (rs++ts);rw[<-M9]at this;exact this)
       have h2:(SS.mk σ.rf σ'.hp σ'.n σ'.known σ'.dep).blk=aL σ.blk (cf σ σ'):=p2
       show qj P w0 (env++rs++ts) _ σ.L ops σ.N σ'.N i v σ.tmp σ.blk (SS.mk σ.rf σ'.hp σ'.n σ'.known σ'.dep).blk
       rw[h2];exact h1
      |_=>cases hpan
     have fin:((if(fA P σ' fn.results.toList).all (·.sc σ'.n)then T.needs (fA P σ' fn.results.toList) (match dO P σ' fn.results.toList with
    |some us=>fSV (eO us) fun v=>nW id { σ with known:=kn } o k (bm ops o) v σ'
    | none=>.stop id "results")else .stop id "results scope"):T).den P Post (env++rs) K'->∃us,(∀ts,kA P σ' (env++rs++ts) fn.results.toList us)/\(nW id { σ with known:=kn } o k (bm ops o) (eO us) σ').den P Post (env++rs) K':=fun hden=>by
      split at hden
      rotate_left
      ·exact hden.elim
      rename_i hsc
      rw[Cm]at hden;obtain⟨hnd,hden⟩:=hden;split at hden
      ·rename_i us hus
       simp only[km]at hden;exact⟨us,fun ts=>⟨hus,fun e he=>by rw[iO hlen (List.all_eq_true.1 hsc e he)];exact hnd e he⟩,hden⟩
      ·exact hden.elim
     have hex:ex.out=true/\∃us,(∀ts,kA P σ' (env++rs++ts) fn.results.toList us)/\(nW id { σ with known:=kn } o k (bm ops o) (eO us) σ').den P Post (env++rs) K':=by
      cases ex with
      |panic v=>exact absurd rfl hpan
      |exit j=>exact hden.elim
      |normal=>exact⟨rfl,fin hden⟩
      |ret=>exact⟨rfl,fin hden⟩
     obtain⟨hex,us,hus,hden⟩:=hex;unfold nW at hden;split at hden
     ·rename_i hdo
      simp only[SS.go_eq]at hden;have hd:=jX hdo;have hle:σ.N<=σ'.N:=(hl []).le
      obtain⟨p1,p2,p3,p4,p5,p6,p7⟩:=wM (σ:={ σ with known:=kn }) (σ':=σ') (dst:=o.dst) (v:=eO us) hle hd
      refine .inl ⟨rs,_,⟨eO us,cf σ σ',{ rt:=bm ops o,rb:=NG σ.N,dst:=o.dst,wb:=j8 σ σ' }⟩,K',hden,hK,by rw[p5,p6];exact hkn,by rw[p5];exact hlen,fun ts=>?_,p1,p2,p4,by rw[p7];exact hdep⟩
      rw[p3];exact JJ hfit ho (σ:=σ) (σ₁:={ σ with known:=kn }) hx hfn hb hft hvn hcl hex ((hl ts).same ⟨rfl,rfl,rfl,rfl⟩ ⟨rfl,rfl,rfl,rfl⟩) (hus ts) hd (by have:=hw (rs++ts);rw[<-M9]at this;exact this)
     ·exact hden.elim
    ·exact h.elim
   ·exact h.elim
  ·exact h.elim
 | yld b vs=>
  replace h:(DH run id { σ with known:=kn } o b vs k (bm ops o)).den P Post env K:=h
  unfold DH at h;split at h
  ·rename_i li hb
   split at h
   ·rename_i hc
    simp only[Na,beq_iff_eq]at hc;obtain⟨⟨⟨⟨c1,c1'⟩,c2⟩,c3⟩,c4⟩:=hc;have hvn:=Cs c1;have hcl:∀b x,σ.blk b=some x->∀c∈x.names,c<σ.N:=fun b x hx=>SS.closed_spec (σ:={ σ with known:=kn }) c1' hx
    have hft:∀b∈bx σ.ev o,b<σ.N:=fun b hb=>ga (List.all_eq_true.1 c2 b hb)
    have hpar:∀t∈li.params.toList,t<li.rf.len:=fun t ht=>ga (List.all_eq_true.1 c4 t ht)
    simp only[jK km,KJ,SS.go_eq,KG]at h;obtain⟨ex,σ₁,rs,K₁,hden,hK1,hdep1,hkn1,hlen1,hl1⟩:=hrun Post K (some b) li.fn li.assign _ { σ with known:=kn,rf:=e9 li.params.toList vs li.rf } env hn hk h
    simp only at hden
    split at hden
    ·rename_i i₁ hb1
     obtain⟨y1,y2,y3,y4⟩:=oq (σ:=σ₁) (y:=some (.loop i₁ .busy .none)) hb1
     obtain⟨_,_,_,_,y5,y6,y7⟩:=cM σ₁ [(b,some (.loop i₁ .busy .none))] ⟨by have:=eQ hb1;omega,trivial⟩
     obtain⟨ex₂,σ₂,rs₂,K₂,hden,hK2,hdep2,hkn2,hlen2,hl2⟩:=hrun Post K₁ (some b) li.fn li.body _ (σ₁.write [(b,some (.loop i₁ .busy .none))]) (env++rs) (by rw[y5];exact hlen1) (by rw[y5,y6];exact hkn1) hden
     simp only at hden
     split at hden
     ·exact hden.elim
     rename_i hnp
     have hnp:ex₂.isPanic=false:=by simpa using hnp
     split at hden
     ·rename_i i₂ hb2
      obtain⟨z1,z2,z3,z4⟩:=oq (σ:=σ₂) (y:=some (eD i₂ ex₂)) hb2
      obtain⟨_,_,_,_,z5,z6,z7⟩:=cM σ₂ [(b,some (eD i₂ ex₂))] ⟨by have:=eQ hb2;omega,trivial⟩
      replace hden:(nW id { σ with known:=kn } o k (bm ops o) (.vb (.bool (ex₂.jmp==.none))) (σ₂.write [(b,some (eD i₂ ex₂))])).den P Post (env++rs++rs₂) K₂:=hden
      unfold nW at hden;split at hden
      ·rename_i hdo
       simp only[SS.go_eq]at hden;have hd:=jX hdo;have hle1:σ.N<=σ₁.N:=(hl1 []).le
       have hle2:σ₁.N<=σ₂.N:=by have:=(hl2 []).le;rw[y2]at this;exact this
       have hle:σ.N<=(σ₂.write [(b,some (eD i₂ ex₂))]).N:=by rw[z2];omega
       obtain⟨p1,p2,p3,p4,p5,p6,p7⟩:=wM (σ:={ σ with known:=kn }) (σ':=σ₂.write [(b,some (eD i₂ ex₂))]) (dst:=o.dst) (v:=.vb (.bool (ex₂.jmp==.none))) hle hd
       refine .inl ⟨rs++rs₂,_,⟨.vb (.bool (ex₂.jmp==.none)),cf σ (σ₂.write [(b,some (eD i₂ ex₂))]),{ rt:=bm ops o,rb:=NG σ.N,dst:=o.dst,wb:=j8 σ (σ₂.write [(b,some (eD i₂ ex₂))]) }⟩,K₂,by rw[<-M9];exact hden,fun l hlt=>?_,
        by rw[<-M9,p5,p6,z5,z6];exact hkn2,by rw[<-M9,p5,z5];exact hlen2,fun ts=>?_,p1,p2,p4,by rw[p7,z7,hdep2,y7];exact hdep1⟩
       ·rw[hK2 l (by rw[y7,hdep1];exact hlt),hK1 l hlt]
       ·rw[p3]
        have hl1':=hl1 (rs₂++ts);rw[<-M9]at hl1';rw[<-M9];refine JL ho (σ:=σ) (σt:={ σ with known:=kn }) hx hft hvn hcl hb c3 hpar (hl1'.same ⟨rfl,rfl,rfl,rfl⟩ ⟨rfl,rfl,rfl,rfl⟩) hb1 (hl2 ts) hb2 hnp hd ?_
        have:=hw (rs++(rs₂++ts))
        rw[<-M9,<-M9]at this;exact this
      ·exact hden.elim
     ·exact hden.elim
    ·exact hden.elim
   ·exact h.elim
  ·exact h.elim
theorem pA{i:Nat}{ops:Array Oper}{o:Oper}(ho:ops[i]?=some o){σ:SS}{kn:List (E×Bool)}{k:SS->Seen->T}{kp:Value->SS->T}(hn:env.length=σ.n)(hk:KnownOK env σ.n kn)
  (hw:∀rs,cc ops o σ.tmp (env++rs) false) (h:(tB { σ with known:=kn } o k (bm ops o)).den P Post env K):AF P Post K w0 ro env ops i σ k kp:=by
 unfold tB at h;split at h
 ·rename_i c3
  have hd:=jX c3;obtain⟨p1,p2,p3,p4,p5,p6,p7⟩:=eB { σ with known:=kn } (dst:=o.dst) (v:=.nil) hd
  refine .inl ⟨[],SS.put { σ with known:=kn } o.dst .nil,⟨.nil,[],{ rt:=bm ops o,rb:=[],dst:=o.dst,wb:=[] }⟩,K,by rw[Nb];exact h,fun _ _=>rfl,?_,?_,fun rs=>?_,p1,p2,p6,p7⟩
  ·rw[Nb,p4,p5];exact hk
  ·rw[Nb,p4];exact hn
  ·rw[Nb,p3]
   exact ID ho (σ:=σ) hd (hw rs)
 ·exact h.elim
theorem m9(hrun:pM P w0 run)(hfit:PFit P){fid id i:Nat}{ops:Array Oper}{o:Oper}(ho:ops[i]?=some o){σ:SS}{k:SS->Seen->T}{kp:Value->SS->T}(hn:env.length=σ.n)
  (hw:∀rs,cc ops o σ.tmp (env++rs) true):∀(n:Nat) (kn:List (E×Bool)),KnownOK env σ.n kn->(wA P cfg run fid id o k kp (bm ops o) n { σ with known:=kn }).den P Post env K->AF P Post K w0 ro env ops i σ k kp
 |0,kn,_,h=>h.elim
 | n+1,kn,hk,h=>by
  unfold wA at h;split at h
  ·rename_i c hc
   split at h
   ·rename_i hs
    obtain⟨h1,h2⟩:=h;cases hb:(den env c).b with
    |true=>exact m9 hrun hfit ho hn hw n (jr kn c true) (ig hk hs hb) (h1 hb)
    |false=>exact m9 hrun hfit ho hn hw n (jr kn c false) (ig hk hs hb) (h2 hb)
   ·exact h.elim
  ·exact Ia hrun hfit ho hn hk hw rfl h
theorem Ix(hrun:pM P w0 run)(hfit:PFit P){fid id i:Nat}{ops:Array Oper}{o:Oper}(ho:ops[i]?=some o){σ:SS}{k:SS->Seen->T}{kp:Value->SS->T}(hn:env.length=σ.n)(hk:KnownOK env σ.n σ.known)
  (h:(HL P cfg run fid id ops o σ k kp).den P Post env K):AF P Post K w0 ro env ops i σ k kp:=by
 unfold HL at h;simp only at h
 split at h
 ·rename_i hg
  exact m9 hrun hfit ho hn (fun rs=>GP (fun j want hh=>by rw[hg]at hh;cases hh) (fun _=>rfl) hk hn rs) 16 σ.known hk h
 ·rename_i j want hg
  split at h
  ·rename_i e he
   obtain⟨d,hd,hde⟩:=Option.map_eq_some_iff.1 he;have W:∀(t:Bool),(∀rs,(den (env++rs) e).b=t)->∀rs,cc ops o σ.tmp (env++rs) (decide (t=want)):=fun t q2 rs=>by
    unfold cc;rw[hg];exact⟨d,hd,.inl ⟨e,hde,by rw[q2 rs]⟩⟩
   split at h
   ·rename_i t ht
    have q2:∀rs,(den (env++rs) e).b=t:=fun rs=>nI (hk.ext' hn) ht
    split at h
    ·rename_i hw
     exact m9 hrun hfit ho hn (fun rs=>by have:=W t q2 rs;rwa [decide_eq_true hw]at this) 16 σ.known hk h
    ·rename_i hw
     exact pA ho hn hk (fun rs=>by have:=W t q2 rs;rwa [decide_eq_false hw]at this) h
   ·split at h
    ·rename_i hs
     obtain⟨h1,h2⟩:=h;cases hb:(den env e).b with
     | true=>
      have q2:∀rs,(den (env++rs) e).b=true:=fun rs=>by rw[iO hn hs];exact hb
      have h1:=h1 hb;split at h1
      ·rename_i hw
       exact m9 hrun hfit ho hn (fun rs=>by have:=W true q2 rs;rwa [hw]at this) 16 (jr σ.known e true) (ig hk hs hb) h1
      ·rename_i hw
       have hw:want=false:=by simpa using hw
       exact pA ho hn (ig hk hs hb) (fun rs=>by have:=W true q2 rs;rwa [hw]at this) h1
     | false=>
      have q2:∀rs,(den (env++rs) e).b=false:=fun rs=>by rw[iO hn hs];exact hb
      have h2:=h2 hb;split at h2
      ·rename_i hw
       exact pA ho hn (ig hk hs hb) (fun rs=>by have:=W false q2 rs;rwa [hw]at this) h2
      ·rename_i hw
       have hw:want=false:=by simpa using hw
       exact m9 hrun hfit ho hn (fun rs=>by have:=W false q2 rs;rwa [hw]at this) 16 (jr σ.known e false) (ig hk hs hb) h2
    ·exact h.elim
  ·rename_i he
   obtain⟨d,hd,hde⟩:=Option.map_eq_some_iff.1 he;exact pA ho hn hk (fun rs=>by unfold cc;rw[hg];exact⟨d,hd,.inr ⟨hde,rfl⟩⟩) h
  ·exact h.elim
theorem CF(hrun:pM P w0 run)(hfit:PFit P){fid id:Nat}{ops:Array Oper}{draw:Bool}{h0:Ov (Option SB)}{k:SS->T}{kp:Value->SS->T}:∀(rest:List Oper) (i:Nat) (σ:SS) (seen:List Seen) (env:List AV) (K:Nat->List AV->Prop),(∀(j:Nat) o,rest[j]?=some o->ops[i+j]?=some o)->env.length=σ.n->KnownOK env σ.n σ.known →
  (qN P cfg run fid id ops draw h0 rest σ seen k kp).den P Post env K →
  (∃(rs:List AV) (ss:List Stp) (σ':SS) (K':Nat->List AV->Prop),ss.length=rest.length/\(∀us,Chain P w0 (env++rs++us) ro σ.L ops σ.N i σ.tmp σ.blk ss σ'.N σ'.tmp σ'.blk) ∧
   (draw=true->nM (cY ops.toList []) (seen.reverse++ss.map (·.seen))=true/\iU ops.toList=true/\oQ h0 (seen.reverse++ss.map (·.seen))=true)/\(k σ').den P Post (env++rs) K'/\(∀l,l<σ.dep->K' l=K l)/\KnownOK (env++rs) σ'.n σ'.known/\(env++rs).length=σ'.n/\σ'.L=σ.L/\σ'.dep=σ.dep) ∨
  ∃(v:Value) (rs:List AV) (ss:List Stp) (σm σ':SS) (K':Nat->List AV->Prop),ss.length+1=rest.length/\(∀us,Chain P w0 (env++rs++us) ro σ.L ops σ.N i σ.tmp σ.blk ss σm.N σm.tmp σm.blk)/\(∀us,qj P w0 (env++rs++us) ro σ.L ops σm.N σ'.N (i+ss.length) v σm.tmp σm.blk σ'.blk)/\σm.N<=σ'.N/\σ'.tmp=σm.tmp ∧
   (draw=true->nM (cY ops.toList []) (seen.reverse++ss.map (·.seen))=true/\iU ops.toList=true/\oQ h0 (seen.reverse++ss.map (·.seen))=true/\∀j,j<seen.length+ss.length->((cY ops.toList []).getD (seen.length+ss.length) 0).testBit j=true)/\(kp v σ').den P Post (env++rs) K'/\(∀l,l<σ.dep->K' l=K l)/\KnownOK (env++rs) σ'.n σ'.known/\(env++rs).length=σ'.n/\σ'.L=σ.L/\σ'.dep=σ.dep
 | [],i,σ,seen,env,K,_,hn,hk,h=>by
  unfold qN at h;split at h
  ·rename_i hc
   refine .inl ⟨[],[],σ,K,rfl,fun us=>.nil _ _ _ _,fun hd=>?_,by rw[Nb];exact h,fun _ _=>rfl,by rw[Nb];exact hk,by rw[Nb];exact hn,rfl,rfl⟩
   rw[hd]at hc;simp only[NX,NY,Na]at hc;obtain⟨⟨c1,c2⟩,c3⟩:=hc;exact⟨by simpa using c1,c2,by unfold oQ at c3⊢;simpa using c3⟩
  ·exact h.elim
 | o :: rest,i,σ,seen,env,K,hget,hn,hk,h=>by
  unfold qN at h;have ho:=hget 0 o rfl;rw[NH]at ho;rcases Ix (w0:=w0) (ro:=ro) hrun hfit ho hn hk h with⟨r1,σ₁,s,K1,q1,q2,q3,q4,q5,q6,q7,q8,q9⟩|⟨v,r1,σ₁,K1,q1,q2,q3,q4,q5,q6,q7,q8,q9⟩
  ·have hsd:(s.seen.fix h0).dst=s.seen.dst:=by unfold Seen.fix;split<;>rfl
   have chain:∀ {rs us:List AV} {ss:List Stp} {N':Nat} {tmp':Nat->SV} {blk':Nat->Option SB},Chain P w0 (env++r1++rs++us) ro σ₁.L ops σ₁.N (i+1) σ₁.tmp σ₁.blk ss N' tmp' blk'->Chain P w0 (env++(r1++rs)++us) ro σ.L ops σ.N i σ.tmp σ.blk ({ s with seen:=s.seen.fix h0 }::ss) N' tmp' blk':=fun{rs us ss N' tmp' blk'} c=>by
    rw[q8,q6,q7]at c;rw[<-hsd]at c;rw[<-M9];refine .cons ?_ c
    have:=(q5 (rs++us)).fix h0
    rw[<-M9]at this;exact this
   rcases CF hrun hfit rest (i+1) σ₁ (s.seen.fix h0::seen) (env++r1) K1 (fun j o' hj=>by have:=hget (j+1) o' (by simpa using hj);rw[show i+(j+1)=i+1+j by omega]at this;exact this) q4 q3 q1 with⟨rs,ss,σ',K',g2,g3,g4,g5,g5k,g6,g7,g8,g9⟩|⟨v,rs,ss,σm,σ',K',g2,g3,gp,gN,gt,g4,g5,g5k,g6,g7,g8,g9⟩
   ·refine .inl ⟨r1++rs,{ s with seen:=s.seen.fix h0 }::ss,σ',K',by simp[g2],fun us=>chain (g3 us),fun hd=>?_,by rw[<-M9];exact g5,fun l hl=>(g5k l (by rw[q9];exact hl)).trans (q2 l hl),by rw[<-M9];exact g6,by rw[<-M9];exact g7,by rw[g8,q8],by rw[g9,q9]⟩
    have:=g4 hd
    rw[NQ,M9]at this;exact this
   ·refine .inr ⟨v,r1++rs,{ s with seen:=s.seen.fix h0 }::ss,σm,σ',K',by simp[g2],fun us=>chain (g3 us),fun us=>?_,gN,gt,fun hd=>?_,by rw[<-M9];exact g5,fun l hl=>(g5k l (by rw[q9];exact hl)).trans (q2 l hl),by rw[<-M9];exact g6,by rw[<-M9];exact g7,by rw[g8,q8],by rw[g9,q9]⟩
    ·have:=gp us
     rw[q8,show i+1+ss.length=i+(ss.length+1) by omega]at this
     rw[<-M9];exact this
    ·obtain⟨i1,i2,i3,i4⟩:=g4 hd
     rw[NQ,M9]at i1 i3;refine⟨i1,i2,i3,?_⟩
     have e:(s.seen.fix h0::seen).length+ss.length=seen.length+({ s with seen:=s.seen.fix h0 }::ss).length:=by simp;omega
     rw[e]at i4;exact i4
  ·split at q1
   rotate_left
   ·exact q1.elim
   rename_i hc
   unfold Jx at hc;rw[Na]at hc;obtain⟨c0,c1⟩:=hc;have hr:rest=[]:=by simpa using c0
   subst hr;refine .inr ⟨v,r1,[],σ,σ₁,K1,rfl,fun us=>.nil _ _ _ _,fun us=>q5 us,q9,q6,fun hd=>?_,q1,q2,q3,q4,q7,q8⟩
   rw[hd]at c1;simp only[NX,NY,Na]at c1;obtain⟨⟨⟨c1,c2⟩,c3⟩,c4⟩:=c1;refine⟨by simpa using c1,c2,by unfold oQ at c3⊢;simpa using c3,fun j hj=>?_⟩
   have:=List.all_eq_true.1 c4 j (List.mem_range.2 (by simpa using hj))
   simpa using this
theorem IM(ops:Array Oper):(∀k,aS (Nc ops.size false) k=false)/\(∀(ss:List Stp) (i:Nat) (f:Nat->SV),dU (aS (Nc ops.size false)) i ss f=f)/\∀(ss:List Stp) (i:Nat) (f:Nat->Option SB),cQ (aS (Nc ops.size false)) i ss f=f:=by
 have hdone:∀k,aS (Nc ops.size false) k=false:=fun k=>by
  unfold aS;by_cases hk:k<ops.size
  ·simp[Nz,hk]
  ·simp[Nz,hk]
 refine⟨hdone,fun ss=>?_,fun ss=>?_⟩
 ·induction ss with
  |nil=>intro i f;rfl
  |cons x ss ih=>intro i f;simp only[dU,hdone];exact ih _ _
 ·induction ss with
  |nil=>intro i f;rfl
  |cons x ss ih=>intro i f;simp only[cQ,hdone];exact ih _ _
theorem Chain.draw0(hmix:P.follows .mixedOrders=true){id:Nat}{ops:Array Oper}{Q:Exit->Act->World->Prop}{σ:SS}{N'':Nat}{tmp'':Nat->SV}{blk'':Nat->Option SB}{ss:List Stp}(c:Chain P w0 env ro σ.L ops σ.N 0 σ.tmp σ.blk ss N'' tmp'' blk'')(hr:Rel w0 env κ F U σ.tmp σ.blk σ.L a w)(hU:∀b,σ.N<=b->¬U b)(hro:∀b,ro=some b->U b)(hlen:ss.length<=ops.size)
  (hlast:∀i,ss.length<=i->i<ops.size->(∀j,j<ss.length->((cY ops.toList []).getD i 0).testBit j=true)/\∀(κ':Nat->Value) (F':Nat->Prop) (a':Act) (w':World) (K:Act->World->Prop),Rel w0 env κ' F' (fun b=>U b\/(σ.N<=b/\b<N'')) tmp'' blk'' σ.L a' w'->Kept U σ.blk κ F w blk'' κ' F' w'->a'.defers=a.defers->wpOpIn (FR (dA κ ro)) 0 P ops Q i K a' w')
  (hdr:nM (cY ops.toList []) (ss.map (·.seen))=true/\iU ops.toList=true/\oQ σ.hp (ss.map (·.seen))=true)
  (hQ:ss.length=ops.size->∀κ' F' a' w',Rel w0 env κ' F' (fun b=>U b\/(σ.N<=b/\b<N'')) tmp'' blk'' σ.L a' w'->Kept U σ.blk κ F w blk'' κ' F' w'->a'.defers=a.defers->Q .normal a' w'):(Code.region id ops true).wpIn (FR (dA κ ro)) 0 P Q a w:=by
 refine wpIn_region_any hmix ?_
 obtain⟨i1,i2,i3⟩:=hdr;have hsl:∀(j:Nat) s,ss[j]?=some s->∀x∈s.seen.rh,U x.1/\H4 κ env x:=fun j s hs x hx=>by
  unfold oQ at i3;rw[Nk]at i3;have h1:=i3 s.seen (List.mem_map.2 ⟨s,Nl hs,rfl⟩);rw[Nk]at h1;have h2:=h1 x hx;split at h2
  ·rename_i e t l hb
   have hb:σ.blk x.1=some (.row e t l):=hb
   refine⟨(hr.bnames _ _ hb).1,?_⟩
   have:=rU hr hb
   rw[E.eqb_spec _ _ h2]at this;exact this
  ·cases h2
 obtain⟨hdone,hT,hB⟩:=IM ops;refine c.draw (κ₀:=κ) (F₀:=F) (U₀:=U) (wI:=w) (dI:=a.defers) (fun b h1 _=>hU b h1) hro hlen hlast i1 i2 hsl hQ ops.size _ (κ:=κ) (F:=F) (by simp) (fun j o _ hd=>by rw[hdone]at hd;cases hd) ?_ (fun k _ _=>hdone k) ?_ ?_ rfl
 ·exact Nat.le_trans (List.length_filter_le _ _) (by simp)
 ·rw[hT,hB]
  have:Rel w0 env κ F U σ.tmp σ.blk σ.L a { w with drawn:=w.drawn+1 }:=
   hr.world (κ':=κ) (F':=F) (fun _ h=>h) (fun _ _=>rfl) (fun _ h=>h) (fun _ _=>rfl) (fun b x hx=>.inl ⟨hx,fun _ _ _=>rfl⟩) hr.inj hr.nF hr.F (hr.below.trans ⟨rfl,rfl,rfl,Nf _,fun _ _=>rfl⟩)
  exact this.monoU (fun b hb=>.inl hb)
 ·rw[hB]
  exact⟨fun _ _=>rfl,fun _ h=>h,fun _ h=>.inl h,Nf _,fun _ _ _=>rfl,fun b _ h1 h2=>.inr ⟨b,h1,h2⟩,.of fun _ _=>.inr rfl⟩
theorem D2(hfit:PFit P){id:Nat}{ops:Array Oper}{draw:Bool}{σ σ':SS}{ss:List Stp}(hlen:ss.length=ops.size)(c:Chain P w0 env ro σ.L ops σ.N 0 σ.tmp σ.blk ss σ'.N σ'.tmp σ'.blk)(hL:σ'.L=σ.L)
  (hdr:draw=true->nM (cY ops.toList []) (ss.map (·.seen))=true/\iU ops.toList=true/\oQ σ.hp (ss.map (·.seen))=true):Leads P w0 ro (.region id ops draw) env σ .normal σ':=by
 refine⟨c.le,fun κ F U a w hr hU hro=>?_⟩
 cases draw with
 |false=>
  refine wpIn_region ?_
  rw[NM];have:=c.ops (Q:=fun e a' w'=>e=Ex.normal.exit'/\Ends w0 env κ F U σ a w σ' a' w') hr (fun b h1 _=>hU b h1) hro (fun κ' F' a' w' h1 h2 h3=>⟨rfl,κ',F',by rw[hL];exact h1,h2,by rw[h3];exact Marks.nil⟩)
  rw[hlen]at this;exact this
 |true=>
  exact c.draw0 hfit.mix hr hU hro (by omega) (fun i h1 h2=>by omega) (hdr rfl) (fun _ κ' F' a' w' h1 h2 h3=>⟨rfl,κ',F',by rw[hL];exact h1,h2,by rw[h3];exact Marks.nil⟩)
theorem Di(hfit:PFit P){id:Nat}{ops:Array Oper}{draw:Bool}{σ σm σ':SS}{ss:List Stp}{v:Value}(hlen:ss.length+1=ops.size)(c:Chain P w0 env ro σ.L ops σ.N 0 σ.tmp σ.blk ss σm.N σm.tmp σm.blk)(hp:qj P w0 env ro σ.L ops σm.N σ'.N (0+ss.length) v σm.tmp σm.blk σ'.blk)(hN:σm.N<=σ'.N)(ht:σ'.tmp=σm.tmp)(hL:σ'.L=σ.L)
  (hdr:draw=true->nM (cY ops.toList []) (ss.map (·.seen))=true/\iU ops.toList=true/\oQ σ.hp (ss.map (·.seen))=true/\∀j,j<ss.length->((cY ops.toList []).getD ss.length 0).testBit j=true):Leads P w0 ro (.region id ops draw) env σ (.panic v) σ':=by
 have hle:=c.le;refine⟨by omega,fun κ F U a w hr hU hro=>?_⟩
 have fin:∀κ' F' a' w',Rel w0 env κ' F' (fun b=>U b\/(σ.N<=b/\b<σ'.N)) σm.tmp σ'.blk σ.L a' w'->Kept U σ.blk κ F w σ'.blk κ' F' w'->a'.defers=a.defers->Exit.panic (gJ v)=(Ex.panic v).exit'/\Ends w0 env κ F U σ a w σ' a' w':=fun κ' F' a' w' h1 h2 h3=>⟨rfl,κ',F',by rw[hL,ht];exact h1,h2,by rw[h3];exact Marks.nil⟩
 cases draw with
 |false=>
  refine wpIn_region ?_
  rw[NM];have:=c.opsP hp hN (Q:=fun e a' w'=>e=(Ex.panic v).exit'/\Ends w0 env κ F U σ a w σ' a' w') hr (fun b h1 _=>hU b h1) hro fin 0
  rw[NH,hlen]at this;exact this
 | true=>
  obtain⟨d1,d2,d3,d4⟩:=hdr rfl;refine c.draw0 hfit.mix hr hU hro (by omega) (fun i h1 h2=>?_) ⟨d1,d2,d3⟩ (fun h=>by omega)
  ·have hi:i=ss.length:=by omega
   subst hi;refine⟨d4,fun κ' F' a' w' K r k hd=>?_⟩
   have hp':=hp κ' F' (fun b=>U b\/(σ.N<=b/\b<σm.N)) a' w' K (fun e a' w'=>e=(Ex.panic v).exit'/\Ends w0 env κ F U σ a w σ' a' w') r (fun b h1 h2 hb=>by
    rcases hb with hb|hb
    ·exact hU b (by omega) hb
    ·omega) (fun b hb=>.inl (hro b hb)) (fun κ2 F2 w2 r2 k2=>fin κ2 F2 a' w2 (r2.monoU (fun b hb=>by
     rcases hb with(hb|hb)|hb
     ·exact .inl hb
     ·exact .inr ⟨hb.1,by omega⟩
     ·exact .inr ⟨by omega,hb.2⟩)) (k.trans k2 (fun b hb=>.inl hb)) hd)
   rw[Nq,di (κ:=κ) (κ':=κ') (ro:=ro) (fun b hb=>k.kap b (hro b hb))]at hp'
   exact hp'
theorem yb(hrun:pM P w0 run)(hfit:PFit P){fid id:Nat}{ops:Array Oper}{draw:Bool}{σ:SS}{k:Ex->SS->T}(hn:env.length=σ.n)(hk:KnownOK env σ.n σ.known)(h:(qN P cfg run fid id ops draw σ.hp ops.toList σ [] (fun σ'=>σ'.pack (k .normal)) (fun v σ'=>k (.panic v) σ')).den P Post env K):Path P Post w0 ro (.region id ops draw) env K σ k:=by
 rcases CF (w0:=w0) (ro:=ro) hrun hfit ops.toList 0 σ [] env K (fun j o hj=>by rw[Nq];simpa using hj) hn hk h with⟨rs,ss,σ',K',g2,g3,g4,g5,g5k,g6,g7,g8,g9⟩|⟨v,rs,ss,σm,σ',K',g2,g3,gp,gN,gt,g4,g5,g5k,g6,g7,g8,g9⟩
 ·obtain⟨τ,t1,t2,t3,t4,t5,t6,t7,t8⟩:=σ'.pack_spec (k .normal)
  rw[t1]at g5;refine⟨.normal,τ,rs,K',g5,g5k,by rw[t6,g9],by rw[t4,t5];exact g6,by rw[t4];exact g7,fun us=>?_⟩
  exact(D2 hfit (by rw[g2];simp) (g3 us) g8 (fun hd=>by have:=g4 hd;simpa using this)).same ⟨rfl,rfl,rfl,rfl⟩ ⟨t7,t8,t2,t3⟩
 ·exact⟨.panic v,σ',rs,K',g5,g5k,g9,g6,g7,fun us=>Di hfit (by rw[g2];simp) (g3 us) (gp us) gN gt g8 (fun hd=>by have:=g4 hd;simpa using this)⟩
theorem wP{σ:SS}{bs:List Nat}{c:Code}{ex:Ex}{σ':SS}(hw:ji σ.N (bq σ.blk bs)/\cu σ.N (bq σ.blk bs)=σ.N)(h:Leads P w0 ro c env (σ.write (bq σ.blk bs)) ex σ'):Leads P w0 ro c env σ ex σ':=by
 obtain⟨y1,y2,y3,y4,_⟩:=cM σ _ hw.1;rw[hw.2]at y2;refine⟨by rw[<-y2];exact h.le,fun κ F U a w hr hU hro=>?_⟩
 obtain⟨F1,r1,k1⟩:=hr.freeze bs;rw[<-y1]at r1 k1;rw[<-y3,<-y4]at r1;refine wpIn_mono (h.go κ F1 U a w r1 (by rw[y2];exact hU) hro) ?_
 rintro e a' w' ⟨he,κ',F',r,k,m⟩;exact⟨he,κ',F',by rw[<-y2];exact r,k1.trans k (fun _ h=>h),m⟩
theorem lJ(σ:SS)(bs:List Nat):ji σ.N (bq σ.blk bs)/\cu σ.N (bq σ.blk bs)=σ.N:=by
 have h:=E3 (bq σ.blk bs) [] σ.N (fun x hx=>by
  obtain⟨b,_,h1⟩:=List.mem_filterMap.1 hx;split at h1
  ·rename_i e t l hb
   cases h1
   exact eQ hb
  ·rename_i e t l hb
   cases h1
   exact eQ hb
  ·cases h1) trivial
 rw[Nb]at h;exact h
theorem Ee(hrun:pM P w0 run)(hfit:PFit P){fid id:Nat}{ops:Array Oper}{draw:Bool}{σ:SS}{k:Ex->SS->T}(hn:env.length=σ.n)(hk:KnownOK env σ.n σ.known)(h:(wQ P cfg run fid id ops draw k σ).den P Post env K):Path P Post w0 ro (.region id ops draw) env K σ k:=by
 unfold wQ at h;split at h
 ·exact yb hrun hfit hn hk h
 ·rename_i b bs _
  rw[SS.go_eq]at h;obtain⟨y1,y2,y3,y4,y5,y6,y7⟩:=cM σ _ (lJ σ (b::bs)).1;obtain⟨ex,σ',rs,K',q1,q2,q3,q4,q5,q6⟩:=yb (w0:=w0) (ro:=ro) hrun hfit (by rw[y5];exact hn) (by rw[y5,y6];exact hk) h
  exact⟨ex,σ',rs,K',q1,fun l hl=>q2 l (by rw[y7];exact hl),by rw[q3,y7],q4,q5,fun us=>wP (lJ σ (b::bs)) (q6 us)⟩
variable {env:List AV} {κ κ':Nat->Value} {F F':Nat->Prop} {w w' w0:World} {U:Nat->Prop} {tmp:Nat->SV} {blk:Nat->Option SB} {L:Nat} {a:Act} {P:Program} {Post:R->Prop} {K:Nat->List AV->Prop}
theorem tc{x:SV}{e:E}{s:Ty}{u:Value}(hx:rq x s=some e)(h:SVden env κ F w x u):Den F w u (den env e)/\(den env e).ty=s/\aU u=true:=by
 unfold rq at hx;split at hx
 ·cases hx;rw[show u=_ from h];exact⟨pR _,rfl,rfl⟩
 ·split at hx
  ·rename_i e' u' hl
   split at hx
   ·rename_i hs;cases hx;subst hs;exact rN hl h
   ·cases hx
  ·cases hx
theorem iE{p:Loc->Bool}:∀(l:List Loc) (n m:Nat) {sv:SV},dN p l n m=some sv->∃i x,l[i]?=some x/\p x=true/\sv=x.letter (n+i) (m+i)
 |[],n,m,sv,h=>by cases h
 | x::l,n,m,sv,h=>by
  unfold dN at h;split at h
  ·rename_i hp;cases h;exact⟨0,x,rfl,hp,rfl⟩
  ·obtain⟨i,y,h1,h2,h3⟩:=iE l (n+1) (m+1) h
   exact⟨i+1,y,h1,h2,by rw[h3];congr 1<;>omega⟩
theorem iG{p:Loc->Bool}:∀(l:List Loc) (n m:Nat),dN p l n m=none↔l.any p=false
 |[],n,m=>by simp[dN]
 |x::l,n,m=>by
  unfold dN;cases hp:p x with
  |true=>simp[hp]
  |false=>simp[hp,iG l]
theorem oX(locs:List Loc)(σ:SS)(b:Nat):∀(l:List SV) (off i:Nat),(gU locs σ b off l)[i]?=(l[i]?).map fun x=>(dN (·.isCell b (off+i)) locs σ.n σ.N).getD x
 |[],off,i=>by simp[gU]
 |x::l,off,0=>by simp[gU]
 |x::l,off,i+1=>by
  have:=oX locs σ b l (off+1) i
  simp only[gU,List.getElem?_cons_succ,this];rw[show off+1+i=off+(i+1) by omega]
theorem uu(locs:List Loc)(taken:List (Option Nat))(σ:SS)(t:Nat):(eh locs taken σ).tmp t=if t<σ.L then tH locs σ t else .any:=by
 show(Ov.fn σ.L (tH locs σ)).get .any t=_
 by_cases h:t<σ.L
 ·rw[if_pos h,Ov.get_fn h]
 ·rw[if_neg h];exact Ov.get_out (by show σ.L<=t;omega)
theorem zO(locs:List Loc)(taken:List (Option Nat))(σ:SS)(b:Nat):(eh locs taken σ).blk b=if b<σ.N+locs.length then tP locs taken σ b else none:=by
 show(Ov.fn (σ.N+locs.length) (tP locs taken σ)).get none b=_
 by_cases h:b<σ.N+locs.length
 ·rw[if_pos h,Ov.get_fn h]
 ·rw[if_neg h];exact Ov.get_out (by show σ.N+locs.length<=b;omega)
theorem lU{b:Nat}:∀(l:List Loc) (n:Nat) {y:SB},gM b l n=some y->∃i e r,l[i]?=some (.inrow b e r)/\y=if e=4000000 then .amap r (.v (n+i))else .row e r (.v (n+i))
 |[],n,y,h=>by cases h
 | x::l,n,y,h=>by
  cases x with
  | inrow c e r=>
   simp only[gM]at h;split at h
   ·rename_i hc;subst hc;cases h;exact⟨0,e,r,rfl,rfl⟩
   ·obtain⟨i,e,r,h1,h2⟩:=lU l (n+1) h
    exact⟨i+1,e,r,h1,by rw[h2,show n+1+i=n+(i+1) by omega]⟩
  |_=>
   simp only[gM]at h;obtain⟨i,e,r,h1,h2⟩:=lU l (n+1) h;exact⟨i+1,e,r,h1,by rw[h2,show n+1+i=n+(i+1) by omega]⟩
theorem qS{b:Nat}:∀(l:List Loc) (n:Nat),gM b l n=none->l.any (·.isIn b)=false
 |[],n,_=>rfl
 | x::l,n,h=>by
  cases x with
  | inrow c e r=>
   simp only[gM]at h;split at h
   ·cases h
   ·rename_i hc
    have:=qS l (n+1) h
    rw[NZ,this,Bool.or_false];simpa[Loc.isIn]using hc
  |_=>
   simp only[gM]at h;have:=qS l (n+1) h
   rw[NZ,this];rfl
theorem mc{σ:SS}:∀(locs:List Loc) (rows:List (Option Nat)) (es:E),kG σ locs=some (rows,es) →
  rows.length=locs.length/\(den env es).g.length=locs.length/\∀(i:Nat) x,locs[i]?=some x->∃b e,rows[i]?=some b/\(den env es).g[i]?=some (den env e)/\cC σ x=some (b,e)
 |[],rows,es,h=>by
  simp only[kG]at h;cases h
  exact⟨rfl,rfl,fun i x hx=>by simp at hx⟩
 | x::l,rows,es,h=>by
  simp only[kG]at h;split at h
  ·rename_i b e bs es' h1 h2
   cases h
   obtain⟨i1,i2,i3⟩:=mc l bs es' h2;refine⟨by simp[i1],by simp[den,i2],fun i y hy=>?_⟩
   cases i with
   |zero=>simp at hy;subst hy;exact⟨b,e,rfl,by simp[den],h1⟩
   |succ i=>
    simp at hy
    obtain⟨b',e',q1,q2,q3⟩:=i3 i y hy;exact⟨b',e',by simpa using q1,by simpa[den]using q2,q3⟩
  ·cases h
theorem o0:∀(l:List (Option Nat)),kU l=true->∀(i j b:Nat),l[i]?=some (some b)->l[j]?=some (some b)->i=j
 |[],_,i,j,b,h,_=>by simp at h
 | x::l,hd,i,j,b,h1,h2=>by
  have tl:∀(i j:Nat),l[i]?=some (some b)->l[j]?=some (some b)->i=j:=fun i j q1 q2=>by
   cases x with
   |none=>exact o0 l hd i j b q1 q2
   |some c=>
    simp only[kU,Na]at hd;exact o0 l hd.2 i j b q1 q2
  cases i with
  | zero=>
   cases j with
   |zero=>rfl
   |succ j=>
    simp at h1 h2
    subst h1;simp only[kU,Na,NA,NC,decide_eq_false_iff_not]at hd;exact absurd (Nl h2) hd.1
  | succ i=>
   cases j with
   |zero=>
    simp at h1 h2
    subst h2;simp only[kU,Na,NA,NC,decide_eq_false_iff_not]at hd;exact absurd (Nl h1) hd.1
   |succ j=>simp at h1 h2;rw[tl i j h1 h2]
theorem oE{locs:List Loc}{n N b:Nat}:∀(l m:List SV) (off:Nat),uO locs n N b off l m=true->l.length=m.length/\∀(i:Nat) x y,l[i]?=some x->m[i]?=some y->locs.any (·.isCell b (off+i))=true\/(x=y/\x.sc n=true/\∀c∈x.names,c<N)
 |[],[],off,_=>⟨rfl,fun i x y h=>by simp at h⟩
 |[],_::_,off,h=>by cases h
 |_::_,[],off,h=>by cases h
 | x::l,y::m,off,h=>by
  simp only[uO,Na]at h;obtain⟨h1,h2⟩:=h;obtain⟨i1,i2⟩:=oE l m (off+1) h2;refine⟨by simp[i1],fun i x' y' g1 g2=>?_⟩
  cases i with
  | zero=>
   simp at g1 g2;subst g1;subst g2
   rw[Ns]at h1;rcases h1 with h1|h1
   ·exact .inl h1
   ·simp only[Na,beq_iff_eq,Nk,decide_eq_true_eq]at h1
    exact .inr ⟨h1.1.1,h1.1.2,h1.2⟩
  |succ i=>
   simp at g1 g2
   have:=i2 i x' y' g1 g2
   rw[show off+1+i=off+(i+1) by omega]at this
   exact this
def pY(w:World)(base e size:Nat)(v:Value)(n:Nat)(xs:List Value):Prop:=
 (e<5000000->w.ownsRow base e size v n xs)/\(5000000<=e->iK w base (e-5000000) size v n xs)
theorem Ay{w:World}{base a size:Nat}{v:Value}{n:Nat}{xs:List Value}(h:iK w base a size v n xs):pY w base (a+5000000) size v n xs:=
 ⟨fun h1=>by omega,fun _=>by rw[Nat.add_sub_cancel];exact h⟩
theorem xf{e e':Nat}{r r':Ty}{l l':E}(h:jG e r l=jG e' r' l'):e=e'/\r=r'/\l=l':=by
 unfold jG at h;split at h<;>split at h
 ·injection h with h1 h2 h3
  exact⟨by omega,h2,h3⟩
 ·cases h
 ·cases h
 ·injection h with h1 h2 h3
  exact⟨h1,h2,h3⟩
theorem FD{e:Nat}{r:Ty}{l:E}:(jG e r l).names=[]:=by unfold jG;split<;>rfl
theorem I2{base b e:Nat}{r:Ty}{l:E}(h:∃us,pY w base e r.len (κ b) (den env l).l.length us/\0<r.len/\RowsDen F w us r (den env l).l):SBden env κ F base w b (jG e r l):=by
 obtain⟨us,h1,h2,h3⟩:=h;unfold jG;split
 ·rename_i he;exact⟨us,h1.2 he,h2,h3⟩
 ·rename_i he;exact⟨us,h1.1 (by omega),h2,h3⟩
theorem nU(h:Rel w0 env κ F U tmp blk L a w){σ:SS}(hb:σ.blk=blk){x:SV}{ety:Nat}{r:Ty}{b:Option Nat}{e:E}(hr:tu σ x ety r=some (b,e)){u:Value}(hu:SVden env κ F w x u):
  aU u=true/\(den env e)=.sl r (den env e).l/\(∃us,pY w w0.heap.size ety r.len u (den env e).l.length us/\0<r.len/\RowsDen F w us r (den env e).l)/\((b=none/\u=.slice none 0 0)\/∃c y,b=some c/\(blk c=some y/\aF (some y)=true)/\u=κ c):=by
 unfold tu at hr;split at hr
 ·split at hr
  ·rename_i hp
   cases hr
   rw[show u=_ from hu]
   refine⟨rfl,rfl,⟨[],⟨fun _=>World.ownsRow_nil _ _ _ _,fun _=>oc (World.ownsRow_nil _ _ _ _)⟩,hp,⟨fun i r hr=>by simp[den]at hr,fun i r k x hr=>by simp[den]at hr⟩⟩,.inl ⟨rfl,rfl⟩⟩
  ·cases hr
 ·rename_i c
  split at hr
  ·rename_i a' t l hc
   split at hr
   ·rename_i hh
    obtain⟨hea,rfl⟩:=hh;cases hr
    rw[hb]at hc;obtain⟨us,h1,h2,h3⟩:=h.blks c _ hc;have h1':pY w w0.heap.size ety t.len (κ c) (den env l).l.length us:=by
     rcases hea with⟨rfl,hlt⟩|rfl
     ·exact⟨fun _=>h1,fun hge=>by omega⟩
     ·exact Ay (oc h1)
    refine⟨hu.2,rfl,⟨us,by rw[hu.1];exact h1',h2,h3⟩,.inr ⟨c,_,rfl,⟨hc,rfl⟩,hu.1⟩⟩
   ·cases hr
  ·rename_i a' t l hc
   split at hr
   ·rename_i hh
    obtain⟨rfl,rfl⟩:=hh;cases hr
    rw[hb]at hc;obtain⟨us,h1,h2,h3⟩:=h.blks c _ hc;refine⟨hu.2,rfl,⟨us,by rw[hu.1];exact Ay h1,h2,h3⟩,.inr ⟨c,_,rfl,⟨hc,rfl⟩,hu.1⟩⟩
   ·cases hr
  ·cases hr
 ·cases hr
theorem wv{e:E}{s:Ty}:∀b∈((eN e s).getD .any).names,False:=by
 intro b hb;cases s<;>simp[eN,SV.names]at hb
theorem zd{locs:List Loc}{taken rows:List (Option Nat)}{σ₀ σ:SS}{es:E}{rs:List AV}(hn:env.length=σ₀.n)(h:Rel w0 (env++rs) κ F U σ.tmp σ.blk σ.L a w)(ht:kG σ locs=some (rows,es))
  (hf:BT locs σ₀.n σ₀.N (eh locs taken σ₀) σ rows=true) {U₀:Nat->Prop} (hU:∀b,U b->b<σ₀.N->U₀ b)
  {rsE:List AV} (hloop:∀b i st p i',σ₀.blk b=some (.loop i st p)->σ.blk b=some (.loop i' st p)->SBden (env++rsE) κ F w0.heap.size w b (.loop i st p)/\∀c∈(SB.loop i st p).names,U₀ c):
  (den (env++rs) es).g.map AV.ty=locs.map Loc.sort/\∃κ',(∀b,¬(σ₀.N<=b/\b<σ₀.N+locs.length)->κ' b=κ b) ∧
   (∀us,Rel w0 (env++((den (env++rs) es).g++us)) κ' F (fun b=>U₀ b\/(σ₀.N<=b/\b<σ₀.N+locs.length)) (eh locs taken σ₀).tmp (eh locs taken σ₀).blk (eh locs taken σ₀).L a w) ∧
   ∀b k,aF ((eh locs taken σ₀).blk b)=true->ai (κ' b)=some k->∃c,aF (σ.blk c)=true/\ai (κ c)=some k:=by
 obtain⟨vs,hvs⟩:∃vs,vs=(den (env++rs) es).g:=⟨_,rfl⟩
 obtain⟨t1,t2,t3⟩:=mc (env:=env++rs) locs rows es ht
 rw[<-hvs]at t2 t3⊢
 obtain⟨N,hN⟩:∃N,N=σ₀.N:=⟨_,rfl⟩
 obtain⟨n,hn'⟩:∃n,n=σ₀.n:=⟨_,rfl⟩
 rw[<-hn']at hn;rw[<-hN]at hU;unfold BT at hf;simp only[Na,beq_iff_eq]at hf;obtain⟨⟨⟨f1,f2⟩,f3⟩,f4⟩:=hf;rw[Nk]at f3 f4;rw[<-hN]at f3 f4;rw[<-hn']at f3 f4;rw[<-hN];obtain⟨κ',hκ⟩:∃κ':Nat->Value,∀b,κ' b=if N<=b/\b<N+locs.length then(match rows[b-N]? with|some (some c)=>κ c|_=>.slice none 0 0)else κ b:=⟨_,fun _=>rfl⟩
 have hκ0:∀b,¬(N<=b/\b<N+locs.length)->κ' b=κ b:=fun b hb=>by rw[hκ,if_neg hb]
 have hκ1:∀b,b<N->κ' b=κ b:=fun b hb=>hκ0 b (by omega)
 have hκ2:∀i,i<locs.length->κ' (N+i)=(match rows[i]? with|some (some c)=>κ c|_=>.slice none 0 0):=fun i hi=>by rw[hκ,if_pos (by omega),show N+i-N=i by omega]
 have cellU:∀c o sv,oa σ c o=some sv->∃u,SVden (env++rs) κ F w sv u:=fun c o sv hs=>by
  unfold oa at hs;split at hs
  ·rename_i ty xs hb
   obtain⟨g,cs,_,_,_,q1,q2,_⟩:=h.blks c _ hb;obtain⟨_,q3⟩:=bc q2 q1;obtain⟨u,_,hu⟩:=q3 o sv hs;exact⟨u,hu⟩
  ·cases hs
 have nzd:∀ {sv:SV} {u:Value},SVden (env++rs) κ F w sv u->SVden (env++rs) κ F w (nz σ.blk sv) u:=fun hd=>tE (fun b e t l hb=>h.blks b _ hb) hd
 have hsorts:vs.map AV.ty=locs.map Loc.sort:=by
  refine List.ext_getElem? (fun i=>?_)
  rw[No,No];cases hx:locs[i]? with
  |none=>rw[NK (by rw[t2];exact List.getElem?_eq_none_iff.1 hx)];rfl
  | some x=>
   obtain⟨b,e,h1,h2,h3⟩:=t3 i x hx;rw[h2];simp only[Option.map_some,Option.some.injEq];cases x with
   |tmp t s=>
    simp only[cC]at h3;split at h3
    ·rename_i e' hl;cases h3;exact(tc hl (nzd (h.tmps t))).2.1
    ·cases h3
   |tmprow t ety r=>
    simp only[cC]at h3;rw[(nU h rfl h3 (h.tmps t)).2.1];rfl
   | cell c o s=>
    simp only[cC]at h3;split at h3
    ·rename_i e' hl;cases h3
     obtain⟨sv,q1,q2⟩:=Option.bind_eq_some_iff.1 hl;obtain⟨u,hu⟩:=cellU c o sv q1;exact(tc q2 (nzd hu)).2.1
    ·cases h3
   |cellrow c o ety r=>
    simp only[cC]at h3;obtain⟨sv,q1,q2⟩:=Option.bind_eq_some_iff.1 h3;obtain⟨u,hu⟩:=cellU c o sv q1;rw[(nU h rfl q2 hu).2.1];rfl
   | inrow c ety r=>
    simp only[cC]at h3;split at h3
    ·split at h3
     ·cases h3;rfl
     ·cases h3
    ·split at h3
     ·cases h3;rfl
     ·cases h3
    ·cases h3
 have rowOfI:∀i,i<locs.length->(∃x ety r,locs[i]?=some x/\x.block (n+i)=some (jG ety r (.v (n+i))))->∃x ety r b e u,locs[i]?=some x/\x.block (n+i)=some (jG ety r (.v (n+i)))/\rows[i]?=some b/\vs[i]?=some (den (env++rs) e)/\u=κ' (N+i) ∧
   (den (env++rs) e)=.sl r (den (env++rs) e).l/\(∃us,pY w w0.heap.size ety r.len u (den (env++rs) e).l.length us/\0<r.len/\RowsDen F w us r (den (env++rs) e).l)/\((b=none/\u=.slice none 0 0)\/∃c y,b=some c/\(σ.blk c=some y/\aF (some y)=true)/\u=κ c):=by
  rintro i hi ⟨x,ety,r,hx,hbk⟩;obtain⟨b,e,h1,h2,h3⟩:=t3 i x hx;have key:∀sv u,SVden (env++rs) κ F w sv u->tu σ sv ety r=some (b,e)->∃x ety r b e u,locs[i]?=some x/\x.block (n+i)=some (jG ety r (.v (n+i)))/\rows[i]?=some b/\vs[i]?=some (den (env++rs) e)/\u=κ' (N+i) ∧
    (den (env++rs) e)=.sl r (den (env++rs) e).l/\(∃us,pY w w0.heap.size ety r.len u (den (env++rs) e).l.length us/\0<r.len/\RowsDen F w us r (den (env++rs) e).l)/\((b=none/\u=.slice none 0 0)\/∃c y,b=some c/\(σ.blk c=some y/\aF (some y)=true)/\u=κ c):=by
   intro sv u hu hr;obtain⟨_,d2,d3,d4⟩:=nU h rfl hr hu;refine⟨x,ety,r,b,e,u,hx,hbk,h1,h2,?_,d2,d3,d4⟩
   rw[hκ2 i hi,h1];rcases d4 with⟨rfl,d5⟩|⟨c,y,rfl,_,d5⟩
   ·exact d5
   ·exact d5
  cases x with
  |tmp t s=>simp[Loc.block]at hbk
  |cell c o s=>simp[Loc.block]at hbk
  |inrow c e r=>simp[Loc.block]at hbk
  |tmprow t ety' r'=>
   simp only[Loc.block]at hbk;obtain⟨rfl,rfl,_⟩:=xf (Option.some.inj hbk);simp only[cC]at h3;exact key _ _ (h.tmps t) h3
  |cellrow c o ety' r'=>
   simp only[Loc.block]at hbk;obtain⟨rfl,rfl,_⟩:=xf (Option.some.inj hbk);simp only[cC]at h3;obtain⟨sv,q1,q2⟩:=Option.bind_eq_some_iff.1 h3;obtain⟨u,hu⟩:=cellU c o sv q1;exact key sv u hu q2
 have hblkN:∀i x,i<locs.length->(eh locs taken σ₀).blk (N+i)=some x->∃ety r,x=jG ety r (.v (n+i))/\∃y,locs[i]?=some y/\y.block (n+i)=some (jG ety r (.v (n+i))):=fun i x hi hx=>by
  rw[zO,<-hN,if_pos (by omega)]at hx
  unfold tP at hx;rw[<-hN,if_neg (by omega),show N+i-N=i by omega,<-hn']at hx
  obtain⟨y,hy,hyb⟩:=Option.bind_eq_some_iff.1 hx;cases y with
  |tmp t s=>simp[Loc.block]at hyb
  |cell c o s=>simp[Loc.block]at hyb
  |inrow c e r=>simp[Loc.block]at hyb
  |tmprow t ety r=>simp only[Loc.block]at hyb;cases hyb;exact⟨ety,r,rfl,_,hy,rfl⟩
  |cellrow c o ety r=>simp only[Loc.block]at hyb;cases hyb;exact⟨ety,r,rfl,_,hy,rfl⟩
 have from0:∀b x,(eh locs taken σ₀).blk b=some x->(b<N/\rows.contains (some b)=false/\bF locs n N b x (σ.blk b)=true/\(gM b locs n=some x\/(gM b locs n=none/\((∃ty xs,σ₀.blk b=some (.cells ty xs)/\x=.cells ty (.of (gU locs σ₀ b 0 xs.list)))\/(σ₀.blk b=some x/\∀ty xs,x≠.cells ty xs)))))\/∃i,b=N+i/\i<locs.length:=fun b x hx=>by
  by_cases hb:b<N
  ·left
   have h4:=f4 b (List.mem_range.2 hb);rw[hx]at h4;simp only[Na,NA]at h4;refine⟨hb,h4.1,h4.2,?_⟩
   rw[zO,<-hN,if_pos (by omega)]at hx
   unfold tP at hx;rw[<-hN,if_pos hb,<-hn']at hx;split at hx
   ·cases hx
   ·split at hx
    ·rename_i y hy;cases hx;exact .inl hy
    ·rename_i hy
     refine .inr ⟨hy,?_⟩
     split at hx
     ·rename_i ty xs hb0;cases hx;exact .inl ⟨ty,xs,hb0,rfl⟩
     ·cases hx
     ·rename_i hne _
      exact .inr ⟨hx,fun ty xs e=>by subst e;exact hne ty xs hx⟩
  ·right
   rw[zO,<-hN]at hx;split at hx
   ·exact⟨b-N,by omega,by omega⟩
   ·cases hx
 have fitsLive:∀b x,bF locs n N b x (σ.blk b)=true->∃y,σ.blk b=some y/\aF (some y)=aF (some x):=fun b x hx=>by
  cases hy:σ.blk b with
  |none=>rw[hy]at hx;cases x<;>simp[bF]at hx
  |some y=>
   rw[hy]at hx;refine⟨y,rfl,?_⟩
   cases x<;>cases y<;>first|rfl|(simp[bF]at hx)
 have whose:∀b k,aF ((eh locs taken σ₀).blk b)=true->ai (κ' b)=some k->∃c,aF (σ.blk c)=true/\ai (κ c)=some k/\((b<N/\c=b/\rows.contains (some b)=false)\/∃i,b=N+i/\rows[i]?=some (some c)):=fun b k hl hk=>by
  obtain⟨x,hx,hxl⟩:=bC hl;rcases from0 b x hx with⟨h1,h2,h3,_⟩|⟨i,rfl,hi⟩
  ·obtain⟨y,hy,hyl⟩:=fitsLive b x h3
   exact⟨b,by rw[hy,hyl];exact hxl,by rw[<-hκ1 b h1];exact hk,.inl ⟨h1,rfl,h2⟩⟩
  ·obtain⟨ety,r,rfl,y,hy,hyb⟩:=hblkN i x hi hx
   obtain⟨x',ety',r',b,e,u,g1,g2,g3,g4,g5,g6,g7,g8⟩:=rowOfI i hi ⟨y,ety,r,hy,hyb⟩;rw[<-g5]at hk;rcases g8 with⟨rfl,g9⟩|⟨c,z,rfl,g9,g10⟩
   ·rw[g9]at hk;cases hk
   ·rw[g10]at hk
    exact⟨c,by rw[g9.1];exact g9.2,hk,.inr ⟨i,rfl,g3⟩⟩
 refine⟨hsorts,κ',hκ0,fun us=>?_,fun b k hb hk=>by obtain⟨c,h1,h2,_⟩:=whose b k hb hk;exact⟨c,h1,h2⟩⟩
 obtain⟨env2,henv2⟩:∃env2,env2=env++(vs++us):=⟨_,rfl⟩
 rw[<-henv2];have hag:Agree n (env++rs) env2:=by rw[henv2];exact(jj hn).symm.trans (jj hn)
 have hagE:Agree n (env++rsE) env2:=by rw[henv2];exact(jj hn).symm.trans (jj hn)
 have hvar:∀i x,locs[i]?=some x->∀v,vs[i]?=some v->den env2 (.v (n+i))=v:=fun i x _ v hv=>by
  rw[henv2];simp only[den,NJ];rw[Nr (by omega),show n+i-env.length=i by omega,Nm (List.getElem?_eq_some_iff.1 hv).1,hv];rfl
 have letter:∀i x,locs[i]?=some x->∀(sv:SV) (u:Value),SVden (env++rs) κ F w sv u →
   ((∃s e,x.sort=s/\rq sv s=some e/\vs[i]?=some (den (env++rs) e)/\x.letter (n+i) (N+i)=(eN (.v (n+i)) s).getD .any)\/∃ety r b e,x.sort=.sl r/\tu σ sv ety r=some (b,e)/\rows[i]?=some b/\vs[i]?=some (den (env++rs) e)/\x.letter (n+i) (N+i)=.row (N+i)) →
   SVden env2 κ' F w (x.letter (n+i) (N+i)) u:=fun i x hx sv u hu hh=>by
  rcases hh with⟨s,e,_,h2,h3,h4⟩|⟨ety,r,b,e,_,h2,h3,h4,h5⟩
  ·rw[h4]
   obtain⟨d1,d2,_⟩:=tc h2 hu;have hv:=hvar i x hx _ h3;cases hl:eN (.v (n+i)) s with
   |none=>trivial
   |some y=>
    have:=qE (env:=env2) (κ:=κ') (F:=F) (w:=w) hl (by rw[hv];exact d2) (by rw[hv];exact d1)
    exact this
  ·rw[h5]
   obtain⟨d1,_,_,d4⟩:=nU h rfl h2 hu;refine⟨?_,d1⟩
   rw[hκ2 i (by have:=(List.getElem?_eq_some_iff.1 hx).1;exact this),h3]
   rcases d4 with⟨rfl,d5⟩|⟨c,y,rfl,_,d5⟩
   ·exact d5
   ·exact d5
 have same:∀(x:SV) (u:Value),x.sc n=true->(∀c∈x.names,c<N)->SVden (env++rs) κ F w x u->SVden env2 κ' F w x u:=fun x u hs hnames hd=>
  (hd.re hag hs).keep (fun b hb=>hκ1 b (hnames b hb)) (fun _ h=>h) (fun _ _=>rfl)
 have letter_names:∀(i:Nat) (x:Loc),locs[i]?=some x->∀c∈(x.letter (n+i) (N+i)).names,(∃e r,x=Loc.inrow c e r)\/(N<=c/\c<N+locs.length):=fun i x hx c hc=>by
  have hi:=(List.getElem?_eq_some_iff.1 hx).1;cases x with
  |tmp t s=>exact(wv c hc).elim
  |cell b o s=>exact(wv c hc).elim
  |tmprow t e r=>right;simp[Loc.letter,SV.names]at hc;omega
  |cellrow b o e r=>right;simp[Loc.letter,SV.names]at hc;omega
  |inrow b e r=>left;simp[Loc.letter,SV.names]at hc;subst hc;exact⟨e,r,rfl⟩
 constructor
 case tmps=>
  intro t;rw[uu];split
  ·rename_i htl
   have h3:=f3 t (List.mem_range.2 (show t<(eh locs taken σ₀).L from htl))
   rw[Ns,Ns]at h3;rw[uu,if_pos htl]at h3;unfold tH at h3⊢
   rw[<-hN,<-hn']at h3⊢
   cases hlt:dN (·.isTmp t) locs n N with
   | some sv=>
    obtain⟨i,x,hx,hp,rfl⟩:=iE locs n N hlt;simp only[Nx];obtain⟨b,e,g1,g2,g3⟩:=t3 i x hx;cases x with
    |tmp t' s=>
     have:t'=t:=by simpa[Loc.isTmp]using hp
     subst this;refine letter i _ hx (nz σ.blk (σ.tmp t')) _ (nzd (h.tmps t')) ?_
     simp only[cC]at g3;split at g3
     ·rename_i e' hl;cases g3;exact .inl ⟨_,_,rfl,hl,g2,rfl⟩
     ·cases g3
    |tmprow t' ety r=>
     have:t'=t:=by simpa[Loc.isTmp]using hp
     subst this;exact letter i _ hx (σ.tmp t') _ (h.tmps t') (.inr ⟨ety,r,b,e,rfl,g3,g1,g2,rfl⟩)
    |cell _ _ _=>simp[Loc.isTmp]at hp
    |cellrow _ _ _ _=>simp[Loc.isTmp]at hp
    |inrow _ _ _=>simp[Loc.isTmp]at hp
   | none=>
    rw[hlt]at h3;simp only[NT]at h3⊢;rcases h3 with(h3|h3)|h3
    ·rw[(iG locs n N).1 hlt]at h3;cases h3
    ·have:σ₀.tmp t=.any:=by simpa using h3
     rw[this];trivial
    ·simp only[Na,beq_iff_eq,Nk,decide_eq_true_eq]at h3
     exact same _ _ h3.1.2 h3.2 (by rw[h3.1.1];exact h.tmps t)
  ·trivial
 case size=>rw[f1];exact h.size
 case blks=>
  intro b x hx;rcases from0 b x hx with⟨h1,h2,h3,h4⟩|⟨i,rfl,hi⟩
  ·rcases h4 with h4|⟨h4n,h4⟩
   ·
    obtain⟨i,e,r,hx',rfl⟩:=lU locs n h4;obtain⟨b',e',g1,g2,g3⟩:=t3 i _ hx';simp only[cC]at g3;split at g3
    ·rename_i a' t' l' hb'
     split at g3
     ·rename_i hh
      obtain⟨rfl,rfl,hne⟩:=hh;cases g3
      obtain⟨us',q1,q2,q3⟩:=h.blks b _ hb';have hv:=hvar i _ hx' _ g2;rw[if_neg hne];refine⟨us',?_,q2,?_⟩
      ·rw[hv,hκ1 b h1];exact q1
      ·rw[hv];exact q3
     ·cases g3
    ·rename_i t' l' hb'
     split at g3
     ·rename_i hh
      obtain⟨rfl,rfl⟩:=hh;cases g3
      obtain⟨rm,es',cl,q1,q2,q3,q4⟩:=h.blks b _ hb';have hv:=hvar i _ hx' _ g2;rw[if_pos rfl];exact⟨rm,es',cl,by rw[hκ1 b h1];exact q1,q2,q3,by rw[hv];exact q4⟩
     ·cases g3
    ·cases g3
   ·rcases h4 with⟨ty,xs₀,hb₀,rfl⟩|⟨h4,hnc⟩
    ·
     cases hy:σ.blk b with
     |none=>rw[hy]at h3;simp[bF]at h3
     | some y=>
      rw[hy]at h3;cases y with
      | cells ty' ys=>
       simp only[bF,Na,beq_iff_eq]at h3;obtain⟨⟨rfl,hp⟩,hc⟩:=h3;obtain⟨g,cs,q1,q2,q3,q4,q5,q6⟩:=h.blks b _ hy;obtain⟨s1,s2⟩:=bc q5 q4;obtain⟨c1,c2⟩:=oE _ _ 0 hc;refine⟨g,cs,by rw[hκ1 b h1];exact q1,q2,q3,?_,hp,q6⟩
       rw[da]at c1 c2;have:=eM (env:=env2) (κ:=κ') (F:=F) (w:=w) (l:=gU locs σ₀ b 0 xs₀.list) (cs:=cs.toList) (by rw[c1,list_len];simpa using s1) (fun o x u g1 g2=>by
        have hy':∃y,ys.list[o]?=some y:=⟨_,Ny (by rw[<-c1];exact(List.getElem?_eq_some_iff.1 g1).1)⟩
        obtain⟨y,hy'⟩:=hy';obtain⟨u',hu',hd⟩:=s2 o y hy';rw[Nd,hu']at g2;cases g2
        have g3:=oX locs σ₀ b xs₀.list 0 o;rw[g1]at g3;obtain⟨x₀,_,g4⟩:=Option.map_eq_some_iff.1 g3.symm;rw[Nq,<-hN,<-hn']at g4;cases hlt:dN (·.isCell b o) locs n N with
        | some sv=>
         rw[hlt,Nx]at g4;subst g4;obtain⟨i,z,hz,hp',rfl⟩:=iE locs n N hlt;obtain⟨b',e,k1,k2,k3⟩:=t3 i z hz;have hcell:oa σ b o=some y:=by unfold oa;rw[hy];exact hy'
         cases z with
         |tmp _ _=>simp[Loc.isCell]at hp'
         |tmprow _ _ _=>simp[Loc.isCell]at hp'
         |inrow _ _ _=>simp[Loc.isCell]at hp'
         |cell c o' s=>
          have hco:c=b/\o'=o:=by simpa[Loc.isCell]using hp'
          obtain⟨rfl,rfl⟩:=hco;refine letter i _ hz (nz σ.blk y) _ (nzd hd) ?_
          simp only[cC,hcell,NU]at k3;split at k3
          ·rename_i e' hl;cases k3;exact .inl ⟨_,_,rfl,hl,k2,rfl⟩
          ·cases k3
         |cellrow c o' ety r=>
          have hco:c=b/\o'=o:=by simpa[Loc.isCell]using hp'
          obtain⟨rfl,rfl⟩:=hco;simp only[cC,hcell,NU]at k3;exact letter i _ hz y _ hd (.inr ⟨ety,r,b',e,rfl,k3,k1,k2,rfl⟩)
        |none=>
         rcases c2 o x y g1 hy' with h6|⟨h6,h7,h8⟩
         ·rw[Nq,(iG locs n N).1 hlt]at h6;cases h6
         ·subst h6;exact same x _ h7 h8 hd)
       simpa using this
      |_=>simp[bF]at h3
    ·cases hy:σ.blk b with
     |none=>rw[hy]at h3;cases x<;>simp[bF]at h3
     | some y=>
      rw[hy]at h3;have hsb:=h.blks b y hy;have hin:=qS locs n h4n;cases x with
      |cells ty xs=>exact absurd rfl (hnc ty xs)
      |dead l=>cases y<;>simp[bF]at h3
      | row e t l=>
       cases y with
       |row e' t' l'=>
        simp only[bF,Na,beq_iff_eq,Ns,hin,NF,false_or]at h3;obtain⟨⟨rfl,rfl⟩,rfl,hs⟩:=h3;obtain⟨us',q1,q2,q3⟩:=hsb;refine⟨us',?_,q2,?_⟩
        ·rw[hag l hs,hκ1 b h1];exact q1
        ·rw[hag l hs];exact q3
       |_=>simp[bF]at h3
      | ice e t l=>
       cases y with
       |ice e' t' l'=>
        simp only[bF,Na,beq_iff_eq]at h3;obtain⟨⟨⟨rfl,rfl⟩,rfl⟩,hs⟩:=h3;obtain⟨q1,q2⟩:=hsb;exact⟨by rw[hag l hs,hκ1 b h1];exact q1,by rw[hag l hs,hκ1 b h1];exact q2⟩
       |_=>simp[bF]at h3
      | map ks vs'=>
       cases y with
       |map ks' vs''=>
        simp only[bF,Na,beq_iff_eq,Nk,decide_eq_true_eq]at h3;obtain⟨⟨⟨⟨rfl,rfl⟩,hs1⟩,hs2⟩,hnm⟩:=h3;obtain⟨r,es',cl,q1,q2,q3,q4,q5,q6,q7⟩:=hsb;exact⟨r,es',cl,by rw[hκ1 b h1];exact q1,q2,q3,q4,q5,q6,(q7.re hag hs1 hs2).keep (fun c hc=>hκ1 c (hnm c hc)) (fun _ h=>h) (fun _ _=>rfl)⟩
       |_=>simp[bF]at h3
      | qrow e t l=>
       cases y with
       |qrow e' t' l'=>
        simp only[bF,Na,beq_iff_eq]at h3;obtain⟨⟨⟨rfl,rfl⟩,rfl⟩,hs⟩:=h3;obtain⟨us',q1,q2,q3⟩:=hsb;refine⟨us',?_,q2,?_⟩
        ·rw[hag l hs,hκ1 b h1];exact q1
        ·rw[hag l hs];exact q3
       |_=>simp[bF]at h3
      | amap t l=>
       cases y with
       |amap t' l'=>
        simp only[bF,Na,beq_iff_eq,Ns,hin,NF,false_or]at h3;obtain⟨rfl,rfl,hs⟩:=h3;obtain⟨rm,es',cl,q1,q2,q3,q4⟩:=hsb;exact⟨rm,es',cl,by rw[hκ1 b h1];exact q1,q2,q3,by rw[hag l hs];exact q4⟩
       |_=>simp[bF]at h3
      | loop i st p=>
       cases y with
       |loop i' st' p'=>
        simp only[bF,Na,beq_iff_eq,Nk]at h3;obtain⟨⟨⟨rfl,rfl⟩,hs⟩,hnm⟩:=h3;obtain⟨q,_⟩:=hloop b i st p i' h4 hy;refine SBden.keep (SBden.re (x:=.loop i st p) hagE hs q) (fun c hc=>hκ1 c ?_) (hκ1 b h1) (fun _ h=>h) (fun _ _=>rfl) (fun _ _ _=>rfl)
        obtain⟨t,_,hc⟩:=List.mem_flatMap.1 hc;exact ga (hnm c (Ov.mem_flat (d:=SV.any) rfl hc))
       |_=>simp[bF]at h3
  ·obtain⟨ety,r,rfl,y,hy,hyb⟩:=hblkN i x hi hx
   obtain⟨x',ety',r',b,e,u,g1,g2,g3,g4,g5,g6,⟨us',g7,g8,g9⟩,_⟩:=rowOfI i hi ⟨y,ety,r,hy,hyb⟩;rw[hy]at g1;cases g1
   rw[hyb]at g2;obtain⟨rfl,rfl,_⟩:=xf (Option.some.inj g2);have hv:=hvar i y hy _ g4;refine I2 ⟨us',?_,g8,?_⟩
   ·rw[hv,<-g5];exact g7
   ·rw[hv];exact g9
 case inj=>
  intro b c k hb hc g1 g2;obtain⟨b',p1,p2,p3⟩:=whose b k hb g1;obtain⟨c',q1,q2,q3⟩:=whose c k hc g2;have hbc:=h.inj b' c' k p1 q1 p2 q2;subst hbc;rcases p3 with⟨_,p4,p5⟩|⟨i,p4,p5⟩<;>rcases q3 with⟨_,q4,q5⟩|⟨j,q4,q5⟩
  ·rw[<-p4,<-q4]
  ·exfalso
   rw[<-p4]at p5;have:rows.contains (some b')=true:=by simpa using Nl q5
   rw[p5]at this;cases this
  ·exfalso
   rw[<-q4]at q5;have:rows.contains (some b')=true:=by simpa using Nl p5
   rw[q5]at this;cases this
  ·rw[p4,q4,o0 rows f2 i j b' p5 q5]
 case nF=>
  intro b k hb g1;obtain⟨b',p1,p2,_⟩:=whose b k hb g1;exact h.nF b' k p1 p2
 case glob=>exact h.glob
 case F=>exact h.F
 case tnames=>
  intro t b hb;rw[uu]at hb;split at hb
  ·rename_i htl
   have h3:=f3 t (List.mem_range.2 (show t<(eh locs taken σ₀).L from htl))
   rw[Ns,Ns]at h3;rw[uu,if_pos htl]at h3;unfold tH at h3 hb;rw[<-hN,<-hn']at h3 hb;cases hlt:dN (·.isTmp t) locs n N with
   |some sv=>
    rw[hlt]at hb;obtain⟨i,x,hx,hp,rfl⟩:=iE locs n N hlt;rcases letter_names i x hx b hb with⟨e,r,rfl⟩|h4
    ·simp[Loc.isTmp]at hp
    ·exact .inr h4
   | none=>
    rw[hlt]at h3 hb;simp only[NT]at h3 hb;rcases h3 with(h3|h3)|h3
    ·rw[(iG locs n N).1 hlt]at h3;cases h3
    ·have:σ₀.tmp t=.any:=by simpa using h3
     rw[this]at hb;cases hb
    ·simp only[Na,beq_iff_eq,Nk,decide_eq_true_eq]at h3
     left
     refine hU b ?_ (h3.2 b hb)
     rw[h3.1.1]at hb;exact h.tnames t b hb
  ·cases hb
 case bnames=>
  intro b x hx;rcases from0 b x hx with⟨h1,h2,h3,h4⟩|⟨i,rfl,hi⟩
  ·obtain⟨y,hy,_⟩:=fitsLive b x h3
   obtain⟨hUb,hUn⟩:=h.bnames b y hy;refine⟨.inl (hU b hUb h1),fun c hc=>?_⟩
   rcases h4 with h4|⟨h4n,h4⟩
   ·obtain⟨i,e,r,_,rfl⟩:=lU locs n h4
    split at hc<;>cases hc
   ·rcases h4 with⟨ty,xs₀,hb₀,rfl⟩|⟨h4,hnc⟩
    ·rw [hy]at h3
     cases y with
     | cells ty' ys=>
      simp only[bF,Na,beq_iff_eq]at h3;obtain⟨⟨rfl,hp⟩,hcf⟩:=h3;obtain⟨c1,c2⟩:=oE _ _ 0 hcf;rw[da]at c1 c2;obtain⟨z,hz,hcz⟩:=(eH _ c).1 hc;obtain⟨o,ho⟩:=ND hz;have g3:=oX locs σ₀ b xs₀.list 0 o;rw[ho]at g3;obtain⟨x₀,_,g4⟩:=Option.map_eq_some_iff.1 g3.symm;rw[Nq,<-hN,<-hn']at g4;cases hlt:dN (·.isCell b o) locs n N with
      |some sv=>
       rw[hlt,Nx]at g4;subst g4;obtain⟨i,z',hz',hp',rfl⟩:=iE locs n N hlt;rcases letter_names i z' hz' c hcz with⟨e,r,rfl⟩|h5
       ·simp[Loc.isCell]at hp'
       ·exact .inr h5
      | none=>
       have hy':∃y,ys.list[o]?=some y:=⟨_,Ny (by rw[<-c1];exact(List.getElem?_eq_some_iff.1 ho).1)⟩
       obtain⟨y,hy'⟩:=hy';rcases c2 o z y ho hy' with h6|⟨h6,h7,h8⟩
       ·rw[Nq,(iG locs n N).1 hlt]at h6;cases h6
       ·subst h6
        exact .inl (hU c (hUn c (bW ys z (Nl hy') c hcz)) (h8 c hcz))
     |_=>simp[bF]at h3
    ·rw[hy]at h3
     cases x with
     |cells ty xs=>exact absurd rfl (hnc ty xs)
     |dead l=>cases hc
     |row e t l=>cases hc
     |ice e t l=>cases hc
     |amap t l=>cases hc
     |qrow e t l=>cases hc
     | map ks vs'=>
      cases y with
      |map ks' vs''=>
       simp only[bF,Na,beq_iff_eq,Nk,decide_eq_true_eq]at h3;obtain⟨⟨⟨⟨rfl,rfl⟩,hs1⟩,hs2⟩,hnm⟩:=h3;exact .inl (hU c (hUn c hc) (hnm c hc))
      |_=>simp[bF]at h3
     | loop i st p=>
      cases y with
      |loop i' st' p'=>
       simp only[bF,Na,beq_iff_eq,Nk]at h3;obtain⟨⟨⟨rfl,rfl⟩,hs⟩,hnm⟩:=h3;exact .inl ((hloop b i st p i' h4 hy).2 c hc)
      |_=>simp[bF]at h3
  ·obtain⟨ety,r,rfl,y,hy,hyb⟩:=hblkN i x hi hx
   exact⟨.inr ⟨by omega,by omega⟩,fun c hc=>by rw[FD]at hc;cases hc⟩
 case below=>exact h.below
variable {env:List AV} {κ κ':Nat->Value} {F F':Nat->Prop} {w w' w0:World} {U:Nat->Prop} {tmp:Nat->SV} {blk:Nat->Option SB} {L:Nat} {a:Act} {P:Program} {Post:R->Prop} {K:Nat->List AV->Prop} {cfg:Cfg} {run:Run} {ro:Option Nat}
theorem Ends.refl{σ:SS}(h:Rel w0 env κ F U σ.tmp σ.blk σ.L a w):Ends w0 env κ F U σ a w σ a w:=⟨κ,F,h.monoU (fun b hb=>.inl hb),Kept.refl,Marks.nil⟩
theorem GW{σ:SS}:Leads P w0 ro .skip env σ .normal σ:=⟨Nf _,fun _ _ _ _ _ h _ _=>wpIn_skip ⟨rfl,Ends.refl h⟩⟩
theorem HC{σ:SS}{id:Nat}:Leads P w0 ro (.exit id) env σ (.exit id) σ:=⟨Nf _,fun _ _ _ _ _ h _ _=>wpIn_exit ⟨rfl,Ends.refl h⟩⟩
theorem Jw{σ:SS}:Leads P w0 ro .ret env σ .ret σ:=⟨Nf _,fun _ _ _ _ _ h _ _=>wpIn_ret ⟨rfl,Ends.refl h⟩⟩
theorem Fr{σ:SS}{l:Nat}:Leads P w0 ro (.label l) env σ .normal σ:=⟨Nf _,fun _ _ _ _ _ h _ _=>wpIn_label ⟨rfl,Ends.refl h⟩⟩
theorem iT{b:Frame}{a:Act}{k:List Item}{cs:List Frame}{w:World}{c:Code}:step P (lone (b.atR a (.code (.scope c)::k)) cs w)=.next (lone (b.atR a (.code c::.inScope c::k)) cs w):=
 step_lone_go (by simp[stepG,stepG.exec,Frame.atR])
theorem Da{b:Frame}{a:Act}{k:List Item}{cs:List Frame}{w:World}{c:Code}:step P (lone (b.atR a (.inScope c::k)) cs w)=.next (lone (b.atR a k) cs w):=
 step_lone_go (by simp[stepG,stepG.exec,Frame.atR])
theorem Hr{F:Fence}{n:Nat}{c:Code}{Q:Exit->Act->World->Prop}{a:Act}{w:World}(hQ:∀l a w,¬Q (.goto l) a w)(h:c.wpIn F n P Q a w):(Code.scope c).wpIn F n P Q a w:=by
 intro b k cs hro hb hr;have h0:(lone (b.atR a (.code (.scope c)::k)) cs w).fenced P F:=fenced_calm hb hr rfl
 obtain⟨e,a₁,w₁,hq,harr⟩:=h b (.inScope c::k) cs hro hb hr;cases e with
 |normal=>exact⟨.normal,a₁,w₁,hq,.head h0 iT (StepsIn.trans harr (.one (fenced_calm hb hr rfl) Da))⟩
 | exit id=>
  have hx:exitTo id (.inScope c::k)=exitTo id k:=by simp[exitTo]
  exact⟨.exit id,a₁,w₁,hq,fun k' hk=>.head h0 iT (harr.1 k' (by rw[hx];exact hk)),
   fun hr' hk=>let ⟨k₁,h1,h2⟩:=harr.2 hr' (by rw[hx];exact hk);⟨k₁,h1,.head h0 iT h2⟩⟩
 |goto l=>exact absurd hq (hQ l a₁ w₁)
 |ret=>exact⟨_,a₁,w₁,hq,.of_steps (.one h0 iT) harr⟩
 |panic ch=>exact⟨_,a₁,w₁,hq,.of_steps (.one h0 iT) harr⟩
 |outgrown=>exact⟨_,a₁,w₁,hq,.of_steps (.one h0 iT) harr⟩
theorem Fv{c:Code}{σ σ':SS}{ex:Ex}(h1:Leads P w0 ro c env σ ex σ'):Leads P w0 ro (.scope c) env σ ex σ':=by
 refine⟨h1.le,fun κ F U a w h hU hro=>Hr (fun l a w hq=>?_) (h1.go κ F U a w h hU hro)⟩
 have:=hq.1
 cases ex<;>cases this
theorem IH{x y:Code}{σ σ₁ σ₂:SS}{ex:Ex}(h1:Leads P w0 ro x env σ .normal σ₁)(h2:Leads P w0 ro y env σ₁ ex σ₂):Leads P w0 ro (.seq x y) env σ ex σ₂:=by
 have l1:=h1.le;have l2:=h2.le;refine⟨by omega,fun κ F U a w h hU hro=>wpIn_seq (wpIn_mono (h1.go κ F U a w h hU hro) ?_)⟩
 rintro e a' w' ⟨rfl,hE⟩;show y.wpIn (FR (dA κ ro)) 0 P _ a' w'
 exact IQ l1 hE hU hro h2 (fun a'' w'' hE=>⟨rfl,hE⟩)
theorem kD{x y:Code}{σ σ₁:SS}{ex:Ex}(hex:ex≠.normal)(h1:Leads P w0 ro x env σ ex σ₁):Leads P w0 ro (.seq x y) env σ ex σ₁:=by
 refine⟨h1.le,fun κ F U a w h hU hro=>wpIn_seq (wpIn_mono (h1.go κ F U a w h hU hro) ?_)⟩
 rintro e a' w' ⟨rfl,hE⟩;cases ex with
 |normal=>exact absurd rfl hex
 |exit id=>exact⟨rfl,hE⟩
 |ret=>exact⟨rfl,hE⟩
 |panic v=>exact⟨rfl,hE⟩
theorem pE{c:Operand}{x y:Code}{σ σ':SS}{ex:Ex}{e:E}{b:Bool}(he:σ.ev c=.vb e)(hb:(den env e).b=b)(h1:Leads P w0 ro (if b then x else y) env σ ex σ'):Leads P w0 ro (.cond c x y) env σ ex σ':=by
 refine⟨h1.le,fun κ F U a w h hU hro=>?_⟩
 have hv:=h.ev c;rw[<-jh,he]at hv;exact wpIn_cond (hv.1.trans (by rw[hb])) (h1.go κ F U a w h hU hro)
theorem kq{id:Nat}{c:Code}{σ σ':SS}{ex ex':Ex}(hex:ex'=match ex with|.exit i=>if i=id then .normal else .exit i|e=>e)(h1:Leads P w0 ro c env σ ex σ'):Leads P w0 ro (.block id c) env σ ex' σ':=by
 refine⟨h1.le,fun κ F U a w h hU hro=>wpIn_block (wpIn_mono (h1.go κ F U a w h hU hro) ?_)⟩
 rintro e a' w' ⟨rfl,hE⟩;subst hex;cases ex with
 |normal=>exact⟨rfl,hE⟩
 |ret=>exact⟨rfl,hE⟩
 |panic v=>exact⟨rfl,hE⟩
 |exit i=>
  show Exit.inBlock id _ (.exit i) a' w'
  unfold Exit.inBlock;simp only
  split
  ·exact⟨rfl,hE⟩
  ·exact⟨rfl,hE⟩
structure LeadsR (P:Program) (w0:World) (ro:Option Nat) (c:Code) (m:Nat) (env:List AV) (σ:SS) (ex:Ex) (σ':SS):Prop where
 le:σ.N<=σ'.N
 go:∀(κ:Nat->Value) (F U:Nat->Prop) (a:Act) (w:World),Rel w0 env κ F U σ.tmp σ.blk σ.L a w->(∀b,σ.N<=b->¬U b)->(∀b,ro=some b->U b) →
  Code.roundsIn (FR (dA κ ro)) 0 P c (fun e a' w'=>e=ex.exit'/\Ends w0 env κ F U σ a w σ' a' w') m a w
theorem LeadsR.loop{c:Code}{m:Nat}{σ σ':SS}{ex:Ex}(h:LeadsR P w0 ro c m env σ ex σ'):Leads P w0 ro (.loop c) env σ ex σ':=
 ⟨h.le,fun κ F U a w hr hU hro=>wpIn_loop_rounds m (h.go κ F U a w hr hU hro)⟩
theorem kK{Fc:Fence}{c:Code}{Q Q':Exit->Act->World->Prop}(hq:∀e a w,Q e a w->Q' e a w):∀(m:Nat) (a:Act) (w:World),Code.roundsIn Fc 0 P c Q m a w->Code.roundsIn Fc 0 P c Q' m a w
 |0,_,_,h=>h
 |m+1,a,w,h=>by
  rw[roundsIn_succ]at h⊢
  refine wpIn_mono h (fun e a' w' he=>?_)
  cases e with
  |normal=>exact kK hq m a' w' he
  |_=>exact hq _ _ _ he
theorem sF{c:Code}{m:Nat}{σ σ₁ σ₂:SS}{ex:Ex}(h1:Leads P w0 ro c env σ .normal σ₁)(h2:LeadsR P w0 ro c m env σ₁ ex σ₂):LeadsR P w0 ro c (m+1) env σ ex σ₂:=by
 have l1:=h1.le;have l2:=h2.le;refine⟨by omega,fun κ F U a w h hU hro=>?_⟩
 rw[roundsIn_succ];refine wpIn_mono (h1.go κ F U a w h hU hro) ?_
 rintro e a' w' ⟨rfl,κ1,F1,r1,k1,m1⟩;show Code.roundsIn _ 0 P c _ m a' w'
 rw[<-di (κ:=κ) (κ':=κ1) (ro:=ro) (fun b hb=>k1.kap b (hro b hb))]
 refine kK ?_ m a' w' (h2.go κ1 F1 _ a' w' r1 (fun b h2 hb=>?_) (fun b hb=>.inl (hro b hb)))
 ·rintro e a'' w'' ⟨rfl,h4⟩
  exact⟨rfl,Ends.trans l1 l2 r1 k1 m1 h4⟩
 ·rcases hb with hb|hb
  ·exact hU b (by omega) hb
  ·omega
theorem gi{c:Code}{σ σ':SS}{ex:Ex}(hex:ex≠.normal)(h1:Leads P w0 ro c env σ ex σ'):LeadsR P w0 ro c 1 env σ ex σ':=by
 refine⟨h1.le,fun κ F U a w h hU hro=>?_⟩
 rw[roundsIn_succ];refine wpIn_mono (h1.go κ F U a w h hU hro) ?_
 rintro e a' w' ⟨rfl,hE⟩;cases ex with
 |normal=>exact absurd rfl hex
 |exit id=>exact⟨rfl,hE⟩
 |ret=>exact⟨rfl,hE⟩
 |panic v=>exact⟨rfl,hE⟩
theorem Rel.forget(h:Rel w0 env κ F U tmp blk L a w){tmp':Nat->SV}(ht:∀t,tmp' t=.any\/tmp' t=tmp t):Rel w0 env κ F U tmp' blk L a w:=
 { h with
  tmps:=fun t=>by rcases ht t with e|e;rw[e];trivial;rw[e];exact h.tmps t
  tnames:=fun t b hb=>by rcases ht t with e|e;rw[e]at hb;cases hb;rw[e]at hb;exact h.tnames t b hb }
theorem ya(ds:List Nat)(locs:List Loc):∀σ:SS,(∀t,(forget ds locs σ).tmp t=.any\/(forget ds locs σ).tmp t=σ.tmp t)/\(forget ds locs σ).L=σ.L/\(forget ds locs σ).N=σ.N/\(forget ds locs σ).blk=σ.blk/\(forget ds locs σ).n=σ.n/\(forget ds locs σ).known=σ.known/\(forget ds locs σ).dep=σ.dep:=by
 unfold forget;induction ds with
 |nil=>intro σ;exact⟨fun t=>.inr rfl,rfl,rfl,rfl,rfl,rfl,rfl⟩
 | cons d ds ih=>
  intro σ;simp only[List.foldl_cons];split
  ·exact ih σ
  ·obtain⟨h1,h2,h3,h4,h5,h6,h7⟩:=ih (σ.put (some d) .any)
   refine⟨fun t=>?_,h2,h3,h4,h5,h6,h7⟩
   rcases h1 t with e|e
   ·exact .inl e
   ·rw[e]
    by_cases hd:d<σ.L
    ·obtain⟨g1,_⟩:=eB σ (dst:=some d) (v:=.any) (fun x hx=>by cases hx;exact hd)
     rw[g1];simp only[fG,upd];split
     ·exact .inl rfl
     ·exact .inr rfl
    ·by_cases ht:t<σ.L
     ·right
      have:Nat.beq d t=false:=by rw[<-Bool.not_eq_true,Nat.beq_eq];omega
      show(Ov.put σ.rf d .any).get .any t=σ.rf.get .any t
      unfold Ov.get Ov.put;simp only[this]
     ·left;exact Ov.get_out (by show σ.L<=t;omega)
theorem ux{rsE:List AV}{σ₀ σ:SS}{κE:Nat->Value}{FE U₀:Nat->Prop}{aE:Act}{wE:World}{env':List AV}(hE:Rel w0 (env++rsE) κE FE U₀ σ₀.tmp σ₀.blk σ₀.L aE wE)(k:Kept U₀ σ₀.blk κE FE wE σ.blk κ F w)(h:Rel w0 env' κ F U σ.tmp σ.blk σ.L a w):
  ∀b i st p i',σ₀.blk b=some (.loop i st p)->σ.blk b=some (.loop i' st p)->SBden (env++rsE) κ F w0.heap.size w b (.loop i st p)/\∀c∈(SB.loop i st p).names,U₀ c:=by
 intro b i st p i' h0 h1;obtain⟨hUb,hnm⟩:=hE.bnames b _ h0;refine⟨?_,hnm⟩
 obtain⟨l,r,q1,q2,q3,q4,q5,q6,q7,q8,q9,q10⟩:=hE.blks b _ h0;obtain⟨l',r',p1,p2,p3,p4,p5,_⟩:=h.blks b _ h1;have hk:=k.kap b hUb;rw[p1,q1]at hk;have:l'=l:=by injection hk with h1;injection h1 with h1;injection h1
 subst this;obtain⟨r2,s1,s2,s3,s4,s5⟩:=k.recs l' r q2;rw[p2]at s1;have:r'=r2:=by injection s1 with s1;injection s1
 subst this;exact⟨l',r',p1,p2,p3,p4,p5,s2.trans q6,s3.trans q7,s4.trans q8,by rw[s5];exact q9,fun t=>by rw[s5];exact k.sv hE (q10 t) (vS hE h0 t)⟩
theorem DU{U₀:Nat->Prop}{blk0 blk1 blkh:Nat->Option SB}{κE κ1:Nat->Value}{FE F1:Nat->Prop}{wE w1:World}{N M:Nat}(k:Kept U₀ blk0 κE FE wE blk1 κ1 F1 w1)(hκ:∀b,¬(N<=b/\b<M)->κ' b=κ1 b)(hU:∀b,N<=b->b<M->¬U₀ b)
  (hw:∀b j,aF (blkh b)=true->ai (κ' b)=some j->∃c,aF (blk1 c)=true/\ai (κ1 c)=some j):Kept U₀ blk0 κE FE wE blkh κ' F1 w1:=
 { k with
  kap:=fun b hb=>(hκ b (fun hh=>hU b hh.1 hh.2 hb)).trans (k.kap b hb)
  prov:=fun b j h1 h2=>by obtain⟨c,h3,h4⟩:=hw b j h1 h2;exact k.prov c j h3 h4 }
theorem uj{σ:SS}:∀ {locs:List Loc} {rows:List (Option Nat)} {es:E} {xs:List AV},kG σ locs=some (rows,es)->xs.length=locs.length->(eo (locs.map Loc.sort) xs).map AV.ty=locs.map Loc.sort
 |[],_,_,xs,_,_=>rfl
 |x::l,rows,es,[],_,hl=>by simp at hl
 | x :: l,rows,es,y::xs,h,hl=>by
  simp only[kG]at h;split at h
  ·rename_i b e bs es' h1 h2
   show(co x.sort y).ty::(eo (l.map Loc.sort) xs).map AV.ty=x.sort::l.map Loc.sort
   rw[uj h2 (by simpa using hl)]
   congr 1
   have leafs:∀ {sv:SV} {e:E} {u:Ty},rq sv u=some e->(co u y).ty=u:=fun{sv} {e} {u} hh=>by
    unfold rq at hh;split at hh
    ·rfl
    ·split at hh
     ·rename_i e' u' hl
      split at hh
      ·rename_i hu;subst hu
       cases sv<;>simp only[SV.leaf]at hl<;>try (cases hl;done)
       ·cases hl;rfl
       ·cases hl;rfl
       ·obtain⟨t,ht,he⟩:=Option.map_eq_some_iff.1 hl
        cases he
        unfold AB at ht;split at ht
        ·cases ht;rfl
        ·split at ht<;>cases ht;rfl
       ·cases hl;rfl
      ·cases hh
     ·cases hh
   cases x with
   |tmp t s=>
    simp only[cC]at h1;split at h1
    ·rename_i e' hlf;exact leafs hlf
    ·cases h1
   | cell c o s=>
    simp only[cC]at h1;split at h1
    ·rename_i e' hlf
     obtain⟨sv,_,q2⟩:=Option.bind_eq_some_iff.1 hlf;exact leafs q2
    ·cases h1
   |tmprow _ _ _=>rfl
   |cellrow _ _ _ _=>rfl
   |inrow _ _ _=>rfl
  ·cases h
theorem za{α:Type}(l:List Loc)(k:List Loc->α):fL BA l k=k l:=jK Lb l k
theorem zV{fid id N₀:Nat}{c:Code}{locs:List Loc}{ds:List Nat}{body:(Ex->SS->T)->SS->T}(ih:∀(Post:R->Prop) (K:Nat->List AV->Prop) (k:Ex->SS->T) (σ:SS) (env:List AV),env.length=σ.n->KnownOK env σ.n σ.known->(body k σ).den P Post env K->Path P Post w0 ro c env K σ k)
  {k:Ex->SS->T} {σ:SS} (hn:env.length=σ.n) (hk:KnownOK env σ.n σ.known) (h:(pW fid id N₀ locs ds body k σ).den P Post env K):
  ∃(m:Nat) (ex:Ex) (σ':SS) (rs:List AV) (K':Nat->List AV->Prop),(k ex σ').den P Post (env++rs) K'/\(∀l,l<σ.dep->K' l=K l)/\σ'.dep=σ.dep/\KnownOK (env++rs) σ'.n σ'.known/\(env++rs).length=σ'.n/\∀us,LeadsR P w0 ro c m (env++rs++us) σ ex σ':=by
 unfold pW at h;simp only[za,SS.go_eq,uP,SS.all_eq]at h;obtain⟨g1,g2,g3,g4,g5,g6,g7⟩:=ya ds locs σ;obtain⟨σ₀,hσ₀⟩:∃σ₀,σ₀=forget ds locs σ:=⟨_,rfl⟩
 rw[<-hσ₀]at h g1 g2 g3 g4 g5 g6 g7;split at h
 ·exact h.elim
 rename_i taken es htails
 split at h
 rotate_left
 ·exact h.elim
 rename_i hc
 rw[Na]at hc;obtain⟨c1,c2⟩:=hc;obtain⟨I,μ,h0,hround⟩:=h;have hn0:env.length=σ₀.n:=by rw[g5];exact hn
 obtain⟨hd,hhd⟩:∃hd,hd=eh locs taken σ₀:=⟨_,rfl⟩
 rw[<-hhd]at c2 hround;have hhN:hd.N=σ₀.N+locs.length:=by rw[hhd];rfl
 have hhn:hd.n=σ₀.n+locs.length:=by rw[hhd];rfl
 have hhk:hd.known=σ₀.known:=by rw[hhd];rfl
 have key:∀(v:Nat) (vs:List AV),μ vs=v->vs.map AV.ty=locs.map Loc.sort->I vs->∃(m:Nat) (ex:Ex) (σ':SS) (rsT:List AV) (K':Nat->List AV->Prop),(k ex σ').den P Post (env++rsT) K'/\(∀l,l<σ.dep->K' l=K l)/\σ'.dep=σ.dep/\KnownOK (env++rsT) σ'.n σ'.known/\(env++rsT).length=σ'.n/\hd.N<=σ'.N ∧
   ∀ (us rsE:List AV) (κE:Nat->Value) (FE U₀:Nat->Prop) (aE:Act) (wE:World),Rel w0 (env++rsE) κE FE U₀ σ₀.tmp σ₀.blk σ₀.L aE wE->(∀b,σ₀.N<=b->¬U₀ b)->(∀b,ro=some b->U₀ b) →
    ∀(κ:Nat->Value) (F:Nat->Prop) (a:Act) (w:World),(∀x,Rel w0 (env++(vs++x)) κ F (fun b=>U₀ b\/(σ₀.N<=b/\b<hd.N)) hd.tmp hd.blk hd.L a w)->Kept U₀ σ₀.blk κE FE wE hd.blk κ F w->Marks wE aE.defers F w a.defers →
     Code.roundsIn (FR (dA κE ro)) 0 P c (fun e a' w'=>e=ex.exit'/\Ends w0 (env++rsT++us) κE FE U₀ σ₀ aE wE σ' a' w') m a w:=by
  intro v;induction v using NW with
  | _ v ihv=>
   intro vs hv hty hI;have hvl:vs.length=locs.length:=by have:=congrArg List.length hty;simpa using this
   obtain⟨ex₁,σ₁,rs₁,K₁,q1,q2,q3,q4,q5,q6⟩:=ih Post _ _ { hd with dep:=σ.dep+1 } (env++vs) (by rw[NE,hn0,hvl];exact hhn.symm) (by show KnownOK (env++vs) hd.n hd.known;rw[hhn,hhk,g6];exact(by rw[<-g5]at hk;exact hk.ext hn0 (NI _ _))) (hround vs hty hI)
   have hle1:hd.N<=σ₁.N:=(q6 []).le
   have fin:∀(m₂:Nat) (ex₂:Ex) (σ₂:SS) (rs₂:List AV) (K₂:Nat->List AV->Prop),(k ex₂ { σ₂ with dep:=σ.dep }).den P Post (env++vs++rs₂) K₂->(∀l,l<σ.dep->K₂ l=K l)->KnownOK (env++vs++rs₂) σ₂.n σ₂.known->(env++vs++rs₂).length=σ₂.n->(∀us,LeadsR P w0 ro c m₂ (env++vs++rs₂++us) { hd with dep:=σ.dep+1 } ex₂ σ₂)->∃(m:Nat) (ex:Ex) (σ':SS) (rsT:List AV) (K':Nat->List AV->Prop),(k ex σ').den P Post (env++rsT) K'/\(∀l,l<σ.dep->K' l=K l)/\σ'.dep=σ.dep/\KnownOK (env++rsT) σ'.n σ'.known/\(env++rsT).length=σ'.n/\hd.N<=σ'.N ∧
     ∀ (us rsE:List AV) (κE:Nat->Value) (FE U₀:Nat->Prop) (aE:Act) (wE:World),Rel w0 (env++rsE) κE FE U₀ σ₀.tmp σ₀.blk σ₀.L aE wE->(∀b,σ₀.N<=b->¬U₀ b)->(∀b,ro=some b->U₀ b) →
      ∀(κ:Nat->Value) (F:Nat->Prop) (a:Act) (w:World),(∀x,Rel w0 (env++(vs++x)) κ F (fun b=>U₀ b\/(σ₀.N<=b/\b<hd.N)) hd.tmp hd.blk hd.L a w)->Kept U₀ σ₀.blk κE FE wE hd.blk κ F w->Marks wE aE.defers F w a.defers →
       Code.roundsIn (FR (dA κE ro)) 0 P c (fun e a' w'=>e=ex.exit'/\Ends w0 (env++rsT++us) κE FE U₀ σ₀ aE wE σ' a' w') m a w:=by
    intro m₂ ex₂ σ₂ rs₂ K₂ r1 r2 r3 r4 r5;have hle2:hd.N<=σ₂.N:=(r5 []).le
    refine⟨m₂,ex₂,{ σ₂ with dep:=σ.dep },vs++rs₂,K₂,by rw[<-M9];exact r1,r2,rfl,by rw[<-M9];exact r3,by rw[<-M9];exact r4,hle2,?_⟩
    intro us rsE κE FE U₀ aE wE hE hfr hro κ F a w hH hK hM;rw[<-di (κ:=κE) (κ':=κ) (ro:=ro) (fun b hb=>hK.kap b (hro b hb))]
    have hr:=hH (rs₂++us);have e1:env++vs++rs₂++us=env++(vs++(rs₂++us)):=by simp
    have e2:env++(vs++rs₂)++us=env++(vs++(rs₂++us)):=by simp
    have hl:=r5 us;rw[e1]at hl;refine kK ?_ m₂ a w (hl.go κ F _ a w hr (fun b h1 hb=>?_) (fun b hb=>.inl (hro b hb)))
    ·rintro e a' w' ⟨rfl,κ1,F1,r1,k1,m1⟩
     refine⟨rfl,?_⟩
     rw[e2];refine⟨κ1,F1,?_,hK.trans k1 (fun b hb=>.inl hb),hM.trans hr k1 hK.size m1⟩
     refine r1.monoU (fun b hb=>?_)
     rcases hb with(hb|hb)|hb
     ·exact .inl hb
     ·exact .inr ⟨hb.1,by show b<σ₂.N;omega⟩
     ·exact .inr ⟨by have:hd.N<=b:=hb.1;omega,hb.2⟩
    ·have h1:hd.N<=b:=h1
     rcases hb with hb|hb
     ·exact hfr b (by omega) hb
     ·omega
   have out:ex₁≠.normal->(zt id locs σ₀ hd σ.dep body k ex₁ σ₁)=k ex₁ { σ₁ with dep:=σ.dep }->∃(m:Nat) (ex:Ex) (σ':SS) (rsT:List AV) (K':Nat->List AV->Prop),(k ex σ').den P Post (env++rsT) K'/\(∀l,l<σ.dep->K' l=K l)/\σ'.dep=σ.dep/\KnownOK (env++rsT) σ'.n σ'.known/\(env++rsT).length=σ'.n/\hd.N<=σ'.N ∧
     ∀ (us rsE:List AV) (κE:Nat->Value) (FE U₀:Nat->Prop) (aE:Act) (wE:World),Rel w0 (env++rsE) κE FE U₀ σ₀.tmp σ₀.blk σ₀.L aE wE->(∀b,σ₀.N<=b->¬U₀ b)->(∀b,ro=some b->U₀ b) →
      ∀(κ:Nat->Value) (F:Nat->Prop) (a:Act) (w:World),(∀x,Rel w0 (env++(vs++x)) κ F (fun b=>U₀ b\/(σ₀.N<=b/\b<hd.N)) hd.tmp hd.blk hd.L a w)->Kept U₀ σ₀.blk κE FE wE hd.blk κ F w->Marks wE aE.defers F w a.defers →
       Code.roundsIn (FR (dA κE ro)) 0 P c (fun e a' w'=>e=ex.exit'/\Ends w0 (env++rsT++us) κE FE U₀ σ₀ aE wE σ' a' w') m a w:=by
    intro hne heq;rw[heq]at q1;exact fin 1 ex₁ σ₁ rs₁ K₁ q1 (fun l hl=>by rw[q2 l (by show l<σ.dep+1;omega),ah (by omega)]) q4 q5 (fun us=>gi hne (q6 us))
   have more:ex₁=.normal->(body (fun e σ'=>match e with|.normal=>T.stop id "the loop turns more" | e=>k e { σ' with dep:=σ.dep }) σ₁).den P Post (env++vs++rs₁) K₁->∃(m:Nat) (ex:Ex) (σ':SS) (rsT:List AV) (K':Nat->List AV->Prop),(k ex σ').den P Post (env++rsT) K'/\(∀l,l<σ.dep->K' l=K l)/\σ'.dep=σ.dep/\KnownOK (env++rsT) σ'.n σ'.known/\(env++rsT).length=σ'.n/\hd.N<=σ'.N ∧
     ∀ (us rsE:List AV) (κE:Nat->Value) (FE U₀:Nat->Prop) (aE:Act) (wE:World),Rel w0 (env++rsE) κE FE U₀ σ₀.tmp σ₀.blk σ₀.L aE wE->(∀b,σ₀.N<=b->¬U₀ b)->(∀b,ro=some b->U₀ b) →
      ∀(κ:Nat->Value) (F:Nat->Prop) (a:Act) (w:World),(∀x,Rel w0 (env++(vs++x)) κ F (fun b=>U₀ b\/(σ₀.N<=b/\b<hd.N)) hd.tmp hd.blk hd.L a w)->Kept U₀ σ₀.blk κE FE wE hd.blk κ F w->Marks wE aE.defers F w a.defers →
       Code.roundsIn (FR (dA κE ro)) 0 P c (fun e a' w'=>e=ex.exit'/\Ends w0 (env++rsT++us) κE FE U₀ σ₀ aE wE σ' a' w') m a w:=by
    intro he hmore;obtain⟨ex₂,σ₂,rs₂,K₂,r1,r2,r3,r4,r5,r6⟩:=ih Post _ _ σ₁ (env++vs++rs₁) q5 q4 hmore;have hne:ex₂≠.normal:=by rintro rfl;exact r1.elim
    have r1':(k ex₂ { σ₂ with dep:=σ.dep }).den P Post (env++vs++rs₁++rs₂) K₂:=by
     cases ex₂ with
     |normal=>exact r1.elim
     |exit j=>exact r1
     |ret=>exact r1
     |panic v=>exact r1
    have e3:env++vs++rs₁++rs₂=env++vs++(rs₁++rs₂):=by simp
    refine fin 2 ex₂ σ₂ (rs₁++rs₂) K₂ (by rw[<-e3];exact r1') (fun l hl=>?_) (by rw[<-e3];exact r4) (by rw[<-e3];exact r5) (fun us=>?_)
    ·rw[r2 l (by rw[q3];show l<σ.dep+1;omega),q2 l (by show l<σ.dep+1;omega),ah (by omega)]
    ·have h1:=q6 (rs₂++us)
     have h2:=r6 us;rw[<-M9]at h1;rw[<-e3];subst he;exact sF h1 (gi hne h2)
   cases ex₁ with
   |exit j=>exact out (fun h=>by cases h) rfl
   |ret=>exact out (fun h=>by cases h) rfl
   |panic v=>exact out (fun h=>by cases h) rfl
   | normal=>
    unfold zt at q1;simp only[uP]at q1;split at q1
    rotate_left
    ·exact more rfl q1
    rename_i rows es' htl
    split at q1
    rotate_left
    ·exact more rfl q1
    rename_i hfc
    rw[Na]at hfc;have hag:K₁ σ.dep (den (env++vs++rs₁) es').g:=q1
    rw[q2 σ.dep (Nt _),ak]at hag;have hty':=uj (xs:=(den (env++vs++rs₁) es').g) htl (mc (env:=env++vs++rs₁) locs rows es' htl).2.1;obtain⟨m,ex,σ',rsT,K',p1,p2,p3,p4,p5,p6,p7⟩:=ihv (μ (eo (locs.map Loc.sort) (den (env++vs++rs₁) es').g)) (by rw[<-hv];exact hag.2) _ rfl hty' hag.1
    refine⟨m+1,ex,σ',rsT,K',p1,p2,p3,p4,p5,p6,?_⟩
    intro us rsE κE FE U₀ aE wE hE hfr hro κ F a w hH hK hM;rw[roundsIn_succ];have hr:=hH rs₁;have hl:=q6 [];have e0:env++vs++rs₁++[]=env++(vs++rs₁):=by simp
    rw[e0]at hl;rw[<-di (κ:=κE) (κ':=κ) (ro:=ro) (fun b hb=>hK.kap b (hro b hb))]
    refine wpIn_mono (hl.go κ F _ a w hr (fun b h1 hb=>?_) (fun b hb=>.inl (hro b hb))) ?_
    ·have h1:hd.N<=b:=h1
     rcases hb with hb|hb
     ·exact hfr b (by omega) hb
     ·omega
    rintro e a' w' ⟨rfl,κ1,F1,r1,k1,m1⟩;show Code.roundsIn (FR (dA κ ro)) 0 P c _ m a' w'
    rw[di (κ:=κE) (κ':=κ) (ro:=ro) (fun b hb=>hK.kap b (hro b hb))]
    have K1:=hK.trans k1 (fun b hb=>.inl hb)
    have M1:=hM.trans hr k1 hK.size m1;obtain⟨f1,κ',f2,f3,f4⟩:=zd (taken:=taken) (rows:=rows) (es:=es') hn0 r1 htl (by rw[<-hhd];exact hfc.1) (U₀:=U₀) (fun b hb hlt=>by
     rcases hb with(hb|hb)|hb
     ·exact hb
     ·omega
     ·have:hd.N<=b:=hb.1;omega) (rsE:=rsE) (ux hE K1 r1)
    rw[<-hhd]at f3 f4;have hvs:eo (locs.map Loc.sort) (den (env++vs++rs₁) es').g=(den (env++(vs++rs₁)) es').g:=by
     rw[M9];exact qd _ _ f1
    refine p7 us rsE κE FE U₀ aE wE hE hfr hro κ' F1 a' w' (fun x=>?_) (DU K1 f2 (fun b h1 _=>hfr b h1) f4) M1
    rw[hvs,hhN];exact f3 x
 obtain⟨m,ex,σ',rsT,K',p1,p2,p3,p4,p5,p6,p7⟩:=key _ _ rfl (uj (xs:=(den env es).g) htails (mc (env:=env) locs taken es htails).2.1) h0
 refine⟨m,ex,σ',rsT,K',p1,p2,p3,p4,p5,fun us=>⟨by omega,fun κ F U a w hr hU hro=>?_⟩⟩
 have hE:Rel w0 (env++(rsT++us)) κ F U σ₀.tmp σ₀.blk σ₀.L a w:=by
  rw[g4,g2,<-M9];exact hr.forget g1
 obtain⟨f1,κ',f2,f3,f4⟩:=zd (taken:=taken) (rows:=taken) (es:=es) hn0 hE htails (by rw[<-hhd];exact c2) (U₀:=U) (fun b hb _=>hb) (rsE:=rsT++us) (ux hE Kept.refl hE)
 rw[<-hhd]at f3 f4;have hes:(den (env++(rsT++us)) es).g=(den env es).g:=by rw[iO hn0 c1]
 rw[hes]at f1 f3;have:=p7 us (rsT++us) κ F U a w hE (fun b h1=>hU b (by omega)) hro κ' F a w (fun x=>by rw[qd _ _ f1,hhN];exact f3 x) (DU Kept.refl f2 (fun b h1 _=>hU b (by omega)) f4) Marks.nil
 refine kK ?_ m a w this
 rintro e a' w' ⟨he,hEnd⟩;refine⟨he,?_⟩
 unfold Ends at hEnd⊢
 rw[g3,g4]at hEnd;exact hEnd
theorem Cp{fid id N₀:Nat}{c:Code}{locs:List Loc}{ds:List Nat}{body:(Ex->SS->T)->SS->T}(ih:∀(Post:R->Prop) (K:Nat->List AV->Prop) (k:Ex->SS->T) (σ:SS) (env:List AV),env.length=σ.n->KnownOK env σ.n σ.known->(body k σ).den P Post env K->Path P Post w0 ro c env K σ k)
  {k:Ex->SS->T} {σ:SS} (hn:env.length=σ.n) (hk:KnownOK env σ.n σ.known) (h:(pW fid id N₀ locs ds body k σ).den P Post env K):Path P Post w0 ro (.loop c) env K σ k:=by
 obtain⟨m,ex,σ',rs,K',p1,p2,p3,p4,p5,p6⟩:=zV ih hn hk h;exact⟨ex,σ',rs,K',p1,p2,p3,p4,p5,fun us=>(p6 us).loop⟩
theorem Jv{fid id:Nat}{c:Code}{locs:SS->List Loc}{ds:List Nat}{body:(Ex->SS->T)->SS->T}(ih:∀(Post:R->Prop) (K:Nat->List AV->Prop) (k:Ex->SS->T) (σ:SS) (env:List AV),env.length=σ.n->KnownOK env σ.n σ.known->(body k σ).den P Post env K->Path P Post w0 ro c env K σ k)
  {k:Ex->SS->T} {σ:SS} (hn:env.length=σ.n) (hk:KnownOK env σ.n σ.known) (h:(peel fid id locs ds body k σ).den P Post env K):Path P Post w0 ro (.loop c) env K σ k:=by
 unfold peel at h;obtain⟨ex,σ₁,rs,K₁,q1,q2,q3,q4,q5,q6⟩:=ih Post K _ σ env hn hk h;cases ex with
 |normal=>
  obtain⟨m,ex,σ',rs',K',p1,p2,p3,p4,p5,p6⟩:=zV ih q5 q4 q1;refine⟨ex,σ',rs++rs',K',by rw[<-M9];exact p1,fun l hl=>(p2 l (by rw[q3];exact hl)).trans (q2 l hl),p3.trans q3,by rw[<-M9];exact p4,by rw[<-M9];exact p5,fun us=>?_⟩
  have h1:=q6 (rs'++us);have h2:=p6 us;rw[<-M9]at h1;rw[<-M9];exact(sF h1 h2).loop
 |panic v=>exact⟨.panic v,σ₁,rs,K₁,q1,q2,q3,q4,q5,fun us=>(gi (fun h=>by cases h) (q6 us)).loop⟩
 |exit j=>exact⟨.exit j,σ₁,rs,K₁,q1,q2,q3,q4,q5,fun us=>(gi (fun h=>by cases h) (q6 us)).loop⟩
 |ret=>exact⟨.ret,σ₁,rs,K₁,q1,q2,q3,q4,q5,fun us=>(gi (fun h=>by cases h) (q6 us)).loop⟩
theorem SS.sc_spec{σ:SS}(h:σ.sc=true):(∀t,(σ.tmp t).sc σ.n=true)/\∀b x,σ.blk b=some x->x.sc σ.n=true:=by
 unfold SS.sc at h;rw[Na]at h;refine⟨fun t=>Ov.all_spec (f:=fun(x:SV)=>x.sc σ.n) h.1 rfl t,fun b x hx=>?_⟩
 have h1:(σ.blk b).all (·.sc σ.n)=true:=Ov.all_spec (f:=fun(y:Option SB)=>y.all (·.sc σ.n)) h.2 rfl b
 rw[hx]at h1;exact h1
theorem Rel.re{n:Nat}{env':List AV}(hn:Agree n env env')(ht:∀t,(tmp t).sc n=true)(hb:∀b x,blk b=some x->x.sc n=true)(h:Rel w0 env κ F U tmp blk L a w):Rel w0 env' κ F U tmp blk L a w:=
 { h with
  tmps:=fun t=>(h.tmps t).re hn (ht t)
  blks:=fun b x hx=>(h.blks b x hx).re hn (hb b x hx) }
theorem Ih{id:Nat}{x y:Code}{locs:List Loc}{ds:List Nat}{A B:(Ex->SS->T)->SS->T}
  (iha:∀(Post:R->Prop) (K:Nat->List AV->Prop) (k:Ex->SS->T) (σ:SS) (env:List AV),env.length=σ.n->KnownOK env σ.n σ.known->(A k σ).den P Post env K->Path P Post w0 ro x env K σ k)
  (ihb:∀(Post:R->Prop) (K:Nat->List AV->Prop) (k:Ex->SS->T) (σ:SS) (env:List AV),env.length=σ.n->KnownOK env σ.n σ.known->(B k σ).den P Post env K->Path P Post w0 ro y env K σ k)
  {k:Ex->SS->T} {σ:SS} (hn:env.length=σ.n) (hk:KnownOK env σ.n σ.known) (h:(BE id locs ds A B k σ).den P Post env K):Path P Post w0 ro (.seq x y) env K σ k:=by
 unfold BE at h;simp only[za,SS.go_eq,SS.all_eq]at h;obtain⟨g1,g2,g3,g4,g5,g6,g7⟩:=ya ds locs σ;obtain⟨σ₀,hσ₀⟩:∃σ₀,σ₀=forget ds locs σ:=⟨_,rfl⟩
 rw[<-hσ₀]at h g1 g2 g3 g4 g5 g6 g7;obtain⟨taken,htk⟩:∃taken,taken=GI σ₀ locs:=⟨_,rfl⟩
 rw[<-htk]at h;split at h
 rotate_left
 ·exact h.elim
 rename_i hsc
 obtain⟨s1,s2⟩:=SS.sc_spec hsc;have hn0:env.length=σ₀.n:=by rw[g5];exact hn
 obtain⟨hd,hhd⟩:∃hd,hd=eh locs taken σ₀:=⟨_,rfl⟩
 rw[<-hhd]at h;have hhN:hd.N=σ₀.N+locs.length:=by rw[hhd];rfl
 have hhn:hd.n=σ₀.n+locs.length:=by rw[hhd];rfl
 have hhk:hd.known=σ₀.known:=by rw[hhd];rfl
 have hhdep:hd.dep=σ.dep:=by rw[hhd];exact g7
 have h:(A (xp id locs σ₀ hd σ.dep k) { σ with dep:=σ.dep+1 }).den P Post env (upd K σ.dep fun us=>(B k hd).den P Post (env++eo (locs.map Loc.sort) us) K):=h
 obtain⟨ex₁,σ₁,rs₁,K₁,q1,q2,q3,q4,q5,q6⟩:=iha Post _ _ { σ with dep:=σ.dep+1 } env hn hk h
 have hK₁:∀l,l<σ.dep->K₁ l=K l:=fun l hl=>by rw[q2 l (by show l<σ.dep+1;omega),ah (by omega)]
 have out:ex₁≠.normal->(xp id locs σ₀ hd σ.dep k ex₁ σ₁)=k ex₁ { σ₁ with dep:=σ.dep }->Path P Post w0 ro (.seq x y) env K σ k:=fun hne heq=>by
  rw[heq]at q1;refine⟨ex₁,{ σ₁ with dep:=σ.dep },rs₁,K₁,q1,hK₁,rfl,q4,q5,fun us=>?_⟩
  have hl:Leads P w0 ro x (env++rs₁++us) σ ex₁ { σ₁ with dep:=σ.dep }:=⟨(q6 us).le,(q6 us).go⟩
  exact kD hne hl
 cases ex₁ with
 |exit j=>exact out (fun h=>by cases h) rfl
 |ret=>exact out (fun h=>by cases h) rfl
 |panic v=>exact out (fun h=>by cases h) rfl
 | normal=>
  unfold xp at q1;simp only[uP]at q1;split at q1
  rotate_left
  ·exact q1.elim
  rename_i rows es htl
  split at q1
  rotate_left
  ·exact q1.elim
  rename_i hfc
  rw[Na]at hfc;obtain⟨hfit,_⟩:=hfc;have hag:K₁ σ.dep (den (env++rs₁) es).g:=q1
  rw[q2 σ.dep (Nt _),ak]at hag;obtain⟨vs,hvs⟩:∃vs,vs=eo (locs.map Loc.sort) (den (env++rs₁) es).g:=⟨_,rfl⟩
  rw[<-hvs]at hag;have hty:=uj (xs:=(den (env++rs₁) es).g) htl (mc (env:=env++rs₁) locs rows es htl).2.1;rw[<-hvs]at hty;have hvl:vs.length=locs.length:=by have:=congrArg List.length hty;simpa using this
  obtain⟨ex₂,σ₂,rs₂,K₂,r1,r2,r3,r4,r5,r6⟩:=ihb Post K k hd (env++vs) (by rw[NE,hn0,hvl];exact hhn.symm) (by rw[hhn,hhk,g6];exact(by rw[<-g5]at hk;exact hk.ext hn0 (NI _ _))) hag
  have hle1:σ.N<=σ₁.N:=(q6 []).le
  have hle2:hd.N<=σ₂.N:=(r6 []).le
  refine⟨ex₂,σ₂,vs++rs₂,K₂,by rw[<-M9];exact r1,fun l hl=>r2 l (by rw[hhdep];exact hl),r3.trans hhdep,by rw[<-M9];exact r4,by rw[<-M9];exact r5,fun us=>?_⟩
  have e1:env++vs++rs₂++us=env++(vs++(rs₂++us)):=by simp
  have e2:env++(vs++rs₂)++us=env++(vs++(rs₂++us)):=by simp
  rw[e2];have hl2:=r6 us;rw[e1]at hl2;have hl1:=q6 [];rw[Nb]at hl1;refine⟨by rw[g3]at hhN;omega,fun κ F U a w hr hU hro=>wpIn_seq (wpIn_mono (hl1.go κ F U a w ?_ hU hro) ?_)⟩
  ·exact hr.re ((jj hn).symm.trans (jj hn)) s1 s2
  rintro e a' w' ⟨rfl,κ1,F1,t1,k1,m1⟩;show y.wpIn (FR (dA κ ro)) 0 P _ a' w'
  have hE:Rel w0 (env++(vs++(rs₂++us))) κ F U σ₀.tmp σ₀.blk σ₀.L a w:=by
   rw[g4,g2];exact hr.forget g1
  have k1':Kept U σ₀.blk κ F w σ₁.blk κ1 F1 w':=by rw[g4];exact k1
  obtain⟨f1,κ',f2,f3,f4⟩:=zd (taken:=taken) (rows:=rows) (es:=es) hn0 t1 htl (by rw[<-hhd];exact hfit) (U₀:=U) (fun b hb hlt=>by
   rcases hb with hb|hb
   ·exact hb
   ·rw[g3]at hlt
    have:σ.N<=b:=hb.1
    omega) (rsE:=vs++(rs₂++us)) (ux hE k1' t1)
  rw[<-hhd]at f3 f4;have hvs2:(den (env++rs₁) es).g=vs:=by rw[hvs,qd _ _ f1]
  rw[hvs2]at f3;have K2:Kept U σ₀.blk κ F w hd.blk κ' F1 w':=DU k1' f2 (fun b h1 _=>hU b (by omega)) f4
  rw[<-di (κ:=κ) (κ':=κ') (ro:=ro) (fun b hb=>K2.kap b (hro b hb))]
  refine wpIn_mono (hl2.go κ' F1 _ a' w' (f3 (rs₂++us)) (fun b h1 hb=>?_) (fun b hb=>.inl (hro b hb))) ?_
  ·rcases hb with hb|hb
   ·exact hU b (by omega) hb
   ·omega
  rintro e a'' w'' ⟨rfl,κ2,F2,t2,k2,m2⟩;refine⟨rfl,κ2,F2,?_,?_,?_⟩
  ·refine t2.monoU (fun b hb=>?_)
   rcases hb with(hb|hb)|hb
   ·exact .inl hb
   ·exact .inr ⟨by omega,by omega⟩
   ·exact .inr ⟨by have:hd.N<=b:=hb.1;omega,hb.2⟩
  ·have:=K2.trans k2 (fun b hb=>.inl hb)
   rw[g4]at this;exact this
  ·exact m1.trans (f3 []) k2 (by rw[g4]at K2;exact K2.size) m2
theorem x5{id:Nat}{c:Code}{body:(Ex->SS->T)->SS->T}(ih:∀(Post:R->Prop) (K:Nat->List AV->Prop) (k:Ex->SS->T) (σ:SS) (env:List AV),env.length=σ.n->KnownOK env σ.n σ.known->(body k σ).den P Post env K->Path P Post w0 ro c env K σ k)
  {k:Ex->SS->T}:∀(n:Nat) (σ:SS) (env:List AV) (K:Nat->List AV->Prop),env.length=σ.n->KnownOK env σ.n σ.known->(unroll id body k n σ).den P Post env K →
  ∃(m:Nat) (ex:Ex) (σ':SS) (rs:List AV) (K':Nat->List AV->Prop),(k ex σ').den P Post (env++rs) K'/\(∀l,l<σ.dep->K' l=K l)/\σ'.dep=σ.dep/\KnownOK (env++rs) σ'.n σ'.known/\(env++rs).length=σ'.n/\∀us,LeadsR P w0 ro c m (env++rs++us) σ ex σ'
 |0,σ,env,K,_,_,h=>h.elim
 | n+1,σ,env,K,hn,hk,h=>by
  have h:(body (fun e σ'=>match e with|.normal=>unroll id body k n σ'|e=>k e σ') σ).den P Post env K:=h
  obtain⟨ex,σ₁,rs,K₁,q1,q2,q3,q4,q5,q6⟩:=ih Post K _ σ env hn hk h;cases ex with
  |normal=>
   obtain⟨m,ex,σ',rs',K',p1,p2,p3,p4,p5,p6⟩:=x5 ih n σ₁ (env++rs) K₁ q5 q4 q1;refine⟨m+1,ex,σ',rs++rs',K',by rw[<-M9];exact p1,fun l hl=>(p2 l (by rw[q3];exact hl)).trans (q2 l hl),p3.trans q3,by rw[<-M9];exact p4,by rw[<-M9];exact p5,fun us=>?_⟩
   have h1:=q6 (rs'++us);have h2:=p6 us;rw[<-M9]at h1;rw[<-M9];exact sF h1 h2
  |panic v=>exact⟨1,.panic v,σ₁,rs,K₁,q1,q2,q3,q4,q5,fun us=>gi (fun h=>by cases h) (q6 us)⟩
  |exit j=>exact⟨1,.exit j,σ₁,rs,K₁,q1,q2,q3,q4,q5,fun us=>gi (fun h=>by cases h) (q6 us)⟩
  |ret=>exact⟨1,.ret,σ₁,rs,K₁,q1,q2,q3,q4,q5,fun us=>gi (fun h=>by cases h) (q6 us)⟩
theorem Du(locs:List Loc)(k:SS->T)(σ:SS):xK locs k σ=k σ\/∃bs,xK locs k σ=k (σ.write (bq σ.blk bs)):=by
 unfold xK;split
 ·exact .inl rfl
 ·rename_i b bs _;exact .inr ⟨b::bs,SS.go_eq _ _⟩
theorem Hn{σ σ':SS}{bs:List Nat}{c:Code}{ex:Ex}(h:Leads P w0 ro c env σ ex σ'):Leads P w0 ro c env σ ex (σ'.write (bq σ'.blk bs)):=by
 have hw:=lJ σ' bs;obtain⟨y1,y2,y3,y4,_⟩:=cM σ' _ hw.1;rw[hw.2]at y2;refine⟨by rw[y2];exact h.le,fun κ F U a w hr hU hro=>wpIn_mono (h.go κ F U a w hr hU hro) ?_⟩
 rintro e a' w' ⟨he,κ',F',r,k,m⟩;obtain⟨F1,r1,k1⟩:=r.freeze bs;have m1:=m.next r k1;rw[<-y1]at r1 k1;rw[<-y3,<-y4]at r1;exact⟨he,κ',F1,by rw[y2];exact r1,k.trans k1 (fun b hb=>.inl hb),m1⟩
theorem Path.iced{c:Code}{σ:SS}{k:Ex->SS->T}{bs:List Nat}(h:Path P Post w0 ro c env K (σ.write (bq σ.blk bs)) k):Path P Post w0 ro c env K σ k:=by
 obtain⟨y1,y2,y3,y4,y5,y6,y7⟩:=cM σ _ (lJ σ bs).1;obtain⟨ex,σ',rs,K',q1,q2,q3,q4,q5,q6⟩:=h;exact⟨ex,σ',rs,K',q1,fun l hl=>q2 l (by rw[y7];exact hl),by rw[q3,y7],q4,q5,fun us=>wP (lJ σ bs) (q6 us)⟩
theorem Cx{c:Code}{locs:List Loc}{body:(Ex->SS->T)->SS->T}(ih:∀(Post:R->Prop) (K:Nat->List AV->Prop) (k:Ex->SS->T) (σ:SS) (env:List AV),env.length=σ.n->KnownOK env σ.n σ.known->(body k σ).den P Post env K->Path P Post w0 ro c env K σ k)
  (Post:R->Prop) (K:Nat->List AV->Prop) (k:Ex->SS->T) (σ:SS) (env:List AV) (hn:env.length=σ.n) (hk:KnownOK env σ.n σ.known) (h:(body (rD locs k) σ).den P Post env K):Path P Post w0 ro c env K σ k:=by
 obtain⟨ex,σ',rs,K',q1,q2,q3,q4,q5,q6⟩:=ih Post K _ σ env hn hk h;cases ex with
 |exit j=>exact⟨.exit j,σ',rs,K',q1,q2,q3,q4,q5,q6⟩
 |ret=>exact⟨.ret,σ',rs,K',q1,q2,q3,q4,q5,q6⟩
 |panic v=>exact⟨.panic v,σ',rs,K',q1,q2,q3,q4,q5,q6⟩
 | normal=>
  unfold rD at q1;simp only at q1
  rcases Du locs (k .normal) σ' with e|⟨bs,e⟩
  ·rw[e]at q1;exact⟨.normal,σ',rs,K',q1,q2,q3,q4,q5,q6⟩
  ·rw[e]at q1
   obtain⟨y1,y2,y3,y4,y5,y6,y7⟩:=cM σ' _ (lJ σ' bs).1;exact⟨.normal,_,rs,K',q1,q2,y7.trans q3,by rw[y5,y6];exact q4,by rw[y5];exact q5,fun us=>Hn (q6 us)⟩
theorem Ew{fid id:Nat}{c:Code}{locs:List Loc}{ds:List Nat}{body:(Ex->SS->T)->SS->T}(ih:∀(Post:R->Prop) (K:Nat->List AV->Prop) (k:Ex->SS->T) (σ:SS) (env:List AV),env.length=σ.n->KnownOK env σ.n σ.known->(body k σ).den P Post env K->Path P Post w0 ro c env K σ k)
  {k:Ex->SS->T} {σ:SS} (hn:env.length=σ.n) (hk:KnownOK env σ.n σ.known) (h:(xH fid id locs ds body k σ).den P Post env K):Path P Post w0 ro (.loop c) env K σ k:=by
 unfold xH at h;simp only[za]at h;rcases Du locs (pW fid id σ.N locs ds (fun k=>body (rD locs k)) k) σ with e|⟨bs,e⟩
 ·rw[e]at h
  exact Cp (body:=fun k=>body (rD locs k)) (fun Post K k σ env=>Cx ih Post K k σ env) hn hk h
 ·rw[e]at h
  obtain⟨y1,y2,y3,y4,y5,y6,y7⟩:=cM σ _ (lJ σ bs).1;exact Path.iced (Cp (body:=fun k=>body (rD locs k)) (fun Post K k σ env=>Cx ih Post K k σ env) (by rw[y5];exact hn) (by rw[y5,y6];exact hk) h)
theorem Path.stay{c:Code}{σ:SS}{k:Ex->SS->T}{ex:Ex}(hn:env.length=σ.n)(hk:KnownOK env σ.n σ.known)(h:(k ex σ).den P Post env K)(hl:∀env,Leads P w0 ro c env σ ex σ):Path P Post w0 ro c env K σ k:=
 ⟨ex,σ,[],K,by rw[Nb];exact h,fun _ _=>rfl,rfl,by rw[Nb];exact hk,by rw[Nb];exact hn,fun _=>hl _⟩
theorem HJ(hrun:pM P w0 run)(hfit:PFit P){fid:Nat}{g:Operand}{ps:Array Tmp}{assign body:Code}{k:Ex->SS->T}{σ:SS}(hn:env.length=σ.n)(hk:KnownOK env σ.n σ.known)(h:(zM P run ro fid (σ.ev g) ps assign body k σ).den P Post env K):Path P Post w0 ro (.rangeFunc g ps assign body) env K σ k:=by
 unfold zM at h;split at h
 rotate_left
 ·exact h.elim
 rename_i f fs xs hg
 split at h
 rotate_left
 ·exact h.elim
 rename_i fn hfn
 split at h
 rotate_left
 ·exact h.elim
 rename_i c hb
 simp only[jK km,SS.go_eq]at h;split at h
 rotate_left
 ·exact h.elim
 rename_i hc
 simp only[Na]at hc;obtain⟨⟨_,c2⟩,c3⟩:=hc;obtain⟨y1,y2,y3,y4⟩:=wt (σ:=σ) (b:=σ.N) (y:=some (.loop ⟨fid,σ.rf,ps,assign,body⟩ .ready .none)) (Nf _)
 obtain⟨_,_,_,_,y5,y6,y7⟩:=cM σ [(σ.N,some (.loop ⟨fid,σ.rf,ps,assign,body⟩ .ready .none))] ⟨Nf _,trivial⟩;obtain⟨ex,σ',rs,K',q1,q2,q3,q4,q5,q6⟩:=hrun Post K none f c _ ((σ.write [(σ.N,some (.loop ⟨fid,σ.rf,ps,assign,body⟩ .ready .none))]).frame (fs.list++[.yld σ.N]++xs.list) fn.ntmps) env (hn.trans y5.symm) (by have hk':=hk;rw[<-y5,<-y6]at hk';exact hk') h
 have hdep:((σ.write [(σ.N,some (.loop ⟨fid,σ.rf,ps,assign,body⟩ .ready .none))]).frame (fs.list++[.yld σ.N]++xs.list) fn.ntmps).dep=σ.dep:=y7
 rw[hdep]at q2 q3;have hout:ex.out=true:=by
  cases ex with
  |normal=>rfl
  |ret=>rfl
  |exit id=>exact False.elim q1
  |panic v=>exact False.elim q1
 have hfin:ex.out=true/\∃i st p,σ'.blk σ.N=some (.loop i st p)/\st≠.busy/\(k p.ex { σ'.write [(σ.N,none)]with rf:=σ.rf }).den P Post (env++rs) K':=by
  unfold E8 at q1;split at q1
  ·exact q1.elim
  ·exact q1.elim
  ·rename_i i st p hnx hnp hblk
   simp only[SS.go_eq]at q1;split at q1
   ·rename_i hst
    refine⟨hout,i,st,p,hblk,by simpa using hst,?_⟩
    cases p<;>exact q1
   ·exact q1.elim
  ·exact q1.elim
 obtain⟨hex,i,st,p,hblk,hst,hden⟩:=hfin;obtain⟨_,_,_,_,z5,z6,z7⟩:=cM σ' [(σ.N,none)] ⟨by have:=eQ hblk;omega,trivial⟩
 refine⟨p.ex,{ σ'.write [(σ.N,none)]with rf:=σ.rf },rs,K',hden,q2,z7.trans q3,by have q4':=q4;rw[<-z5,<-z6]at q4';exact q4',q5.trans z5.symm,fun us=>?_⟩
 exact Fn hfit hg hfn hb (fun b hb'=>by subst hb';simpa using c3) c2 hex (q6 us) hblk hst
theorem Kq(hrun:pM P w0 run)(hfit:PFit P){fid:Nat}(c:Code):∀(Post:R->Prop) (K:Nat->List AV->Prop) (k:Ex->SS->T) (σ:SS) (env:List AV),env.length=σ.n->KnownOK env σ.n σ.known->(sym P cfg run ro fid c k σ).den P Post env K->Path P Post w0 ro c env K σ k:=by
 induction c with
 |skip=>intro Post K k σ env hn hk h;exact Path.stay hn hk h (fun _=>GW)
 |exit id=>intro Post K k σ env hn hk h;exact Path.stay hn hk h (fun _=>HC)
 |ret=>intro Post K k σ env hn hk h;exact Path.stay hn hk h (fun _=>Jw)
 |region id ops draw=>intro Post K k σ env hn hk h;exact Ee hrun hfit hn hk h
 |rangeFunc g ps x y ih1 ih2=>intro Post K k σ env hn hk h;exact HJ hrun hfit hn hk h
 | seq x y ih1 ih2=>
  intro Post K k σ env hn hk h;simp only[sym]at h;split at h
  ·exact Ih ih1 ih2 hn hk h
  obtain⟨ex,σ₁,rs,K₁,q1,q2,q3,q4,q5,q6⟩:=ih1 Post K _ σ env hn hk h;cases ex with
  |normal=>
   obtain⟨ex,σ',rs',K',p1,p2,p3,p4,p5,p6⟩:=ih2 Post K₁ k σ₁ (env++rs) q5 q4 q1;refine⟨ex,σ',rs++rs',K',by rw[<-M9];exact p1,fun l hl=>(p2 l (by rw[q3];exact hl)).trans (q2 l hl),p3.trans q3,by rw[<-M9];exact p4,by rw[<-M9];exact p5,fun us=>?_⟩
   have h1:=q6 (rs'++us);have h2:=p6 us;rw[<-M9]at h1;rw[<-M9];exact IH h1 h2
  |panic v=>exact⟨.panic v,σ₁,rs,K₁,q1,q2,q3,q4,q5,fun us=>kD (fun h=>by cases h) (q6 us)⟩
  |exit j=>exact⟨.exit j,σ₁,rs,K₁,q1,q2,q3,q4,q5,fun us=>kD (fun h=>by cases h) (q6 us)⟩
  |ret=>exact⟨.ret,σ₁,rs,K₁,q1,q2,q3,q4,q5,fun us=>kD (fun h=>by cases h) (q6 us)⟩
 | cond c x y ih1 ih2=>
  intro Post K k σ env hn hk h;simp only[sym]at h;unfold Gq at h;split at h
  ·rename_i e he
   split at h
   ·rename_i ht
    obtain⟨ex,σ',rs,K',q1,q2,q3,q4,q5,q6⟩:=ih1 Post K k σ env hn hk h;exact⟨ex,σ',rs,K',q1,q2,q3,q4,q5,fun us=>pE (b:=true) he (by rw[M9];exact nI (hk.ext' hn) ht) (q6 us)⟩
   ·rename_i ht
    obtain⟨ex,σ',rs,K',q1,q2,q3,q4,q5,q6⟩:=ih2 Post K k σ env hn hk h;exact⟨ex,σ',rs,K',q1,q2,q3,q4,q5,fun us=>pE (b:=false) he (by rw[M9];exact nI (hk.ext' hn) ht) (q6 us)⟩
   ·split at h
    ·rename_i hs
     obtain⟨h1,h2⟩:=h;cases hb:(den env e).b with
     |true=>
      obtain⟨ex,σ',rs,K',q1,q2,q3,q4,q5,q6⟩:=ih1 Post K k (σ.learn e true) env hn (ig hk hs hb) (h1 hb);exact⟨ex,σ',rs,K',q1,q2,q3,q4,q5,fun us=>pE (b:=true) he (by rw[M9,iO hn hs];exact hb) ((q6 us).same ⟨rfl,rfl,rfl,rfl⟩ ⟨rfl,rfl,rfl,rfl⟩)⟩
     |false=>
      obtain⟨ex,σ',rs,K',q1,q2,q3,q4,q5,q6⟩:=ih2 Post K k (σ.learn e false) env hn (ig hk hs hb) (h2 hb);exact⟨ex,σ',rs,K',q1,q2,q3,q4,q5,fun us=>pE (b:=false) he (by rw[M9,iO hn hs];exact hb) ((q6 us).same ⟨rfl,rfl,rfl,rfl⟩ ⟨rfl,rfl,rfl,rfl⟩)⟩
    ·exact h.elim
  ·exact h.elim
 | block id c ih=>
  intro Post K k σ env hn hk h;simp only[sym]at h;obtain⟨ex,σ',rs,K',q1,q2,q3,q4,q5,q6⟩:=ih Post K _ σ env hn hk h;unfold Gw at q1;cases ex with
  |normal=>exact⟨.normal,σ',rs,K',q1,q2,q3,q4,q5,fun us=>kq rfl (q6 us)⟩
  |ret=>exact⟨.ret,σ',rs,K',q1,q2,q3,q4,q5,fun us=>kq rfl (q6 us)⟩
  |panic v=>exact⟨.panic v,σ',rs,K',q1,q2,q3,q4,q5,fun us=>kq rfl (q6 us)⟩
  |exit i=>
   simp only at q1
   split at q1
   ·rename_i hi;exact⟨.normal,σ',rs,K',q1,q2,q3,q4,q5,fun us=>kq (by simp only;rw[if_pos hi]) (q6 us)⟩
   ·rename_i hi;exact⟨.exit i,σ',rs,K',q1,q2,q3,q4,q5,fun us=>kq (by simp only;rw[if_neg hi]) (q6 us)⟩
 | loop c ih=>
  intro Post K k σ env hn hk h;simp only[sym]at h;unfold GD at h;simp only at h
  split at h
  ·obtain⟨m,ex,σ',rs,K',p1,p2,p3,p4,p5,p6⟩:=x5 ih _ σ env K hn hk h
   exact⟨ex,σ',rs,K',p1,p2,p3,p4,p5,fun us=>(p6 us).loop⟩
  ·exact h.elim
  ·exact Jv ih hn hk h
  ·exact Ew ih hn hk h
  ·exact Ew ih hn hk h
 |label l=>intro Post K k σ env hn hk h;exact Path.stay hn hk h (fun _=>Fr)
 |scope c ih=>
  intro Post K k σ env hn hk h;simp only[sym]at h;obtain⟨ex,σ',rs,K',q1,q2,q3,q4,q5,q6⟩:=ih Post K k σ env hn hk h;exact⟨ex,σ',rs,K',q1,q2,q3,q4,q5,fun us=>Fv (q6 us)⟩
 |_=>intro Post K k σ env hn hk h;exact h.elim
theorem pX(hfit:PFit P):∀n,pM P w0 (yP P cfg n)
 |0=>fun _ _ _ _ _ _ _ _ _ _ h=>h.elim
 |n+1=>fun Post K ro fid c k σ env hn hk h=>Kq (pX hfit n) hfit c Post K k σ env hn hk h
variable {env:List AV} {κ κ':Nat->Value} {F F':Nat->Prop} {w w' w0:World} {U:Nat->Prop} {tmp:Nat->SV} {blk:Nat->Option SB} {L:Nat} {a:Act} {P:Program}
def jP:List Nat->World->World
 |[],w=>w
 |D::Ds,w=>jP Ds (w.putObj D (.deferred none))
theorem sQ:∀(Ds:List Nat) (w:World),Rel w0 env κ F U tmp blk L a w->Ds.Nodup->(∀D∈Ds,w0.heap.size<=D/\w.heap[D]?=some (.deferred (some []))/\¬F D)->Rel w0 env κ F U tmp blk L a (jP Ds w)
 |[],_,h,_,_=>h
 |D::Ds,w,h,hnd,hD=>by
  rw[Nv]at hnd;obtain⟨h1,h2,h3⟩:=hD D Nh;refine sQ Ds _ (h.shut h2 h3 h1) hnd.2 (fun E hE=>?_)
  obtain⟨g1,g2,g3⟩:=hD E (Ng _ hE);exact⟨g1,(World.putObj_heap_other (fun e:E=D=>hnd.1 (by rw[<-e];exact hE))).trans g2,g3⟩
theorem qr{blk':Nat->Option SB}:∀(Ds:List Nat) (v:World),Kept U blk κ F w blk' κ' F' v->(∀D∈Ds,w.heap.size<=D)->Kept U blk κ F w blk' κ' F' (jP Ds v)
 |[],_,h,_=>h
 |D::Ds,_,h,hD=>qr Ds _ (h.shut (hD D Nh)) (fun E hE=>hD E (Ng _ hE))
theorem w9{Fc:Fence}{n:Nat}{R:Ending->World->Prop}{fn:Func}{tm:Array Value}{u:FrameMode}{ds:List Deferred}(hu:u≠.run):∀(Ds:List Nat) (w':World),Ds.Nodup->(∀D∈Ds,w'.heap[D]?=some (.deferred (some [])))->LeavesInM Fc n P fn tm R ds u (jP Ds w')->LeavesInM Fc n P fn tm R (Ds.map iJ++ds) u w'
 |[],_,_,_,h=>h
 |D::Ds,w',hnd,hD,h=>by
  rw[Nv]at hnd;refine⟨hu,.inl ⟨D,w'.putObj D (.deferred none),rfl,run_takeDeferred (hD D Nh),?_⟩⟩
  exact w9 hu Ds _ hnd.2 (fun E hE=>(World.putObj_heap_other (fun e:E=D=>hnd.1 (by rw[<-e];exact hE))).trans (hD E (Ng _ hE))) h
theorem sG{Fc:Fence}{n:Nat}{cs:List Frame}:∀(Ds:List Nat) (fr:Frame) (w:World),fr.mode≠.run->fr.defers=Ds.map iJ->Fc.fn fr.fn->Fc.room (cs.length+1+n)->Ds.Nodup->(∀D∈Ds,w.heap[D]?=some (.deferred (some []))) →
  StepsIn (Machine.fenced P Fc) P (lone fr cs w) (lone { fr with defers:=[] } cs (jP Ds w))
 |[],fr,w,_,hd,_,_,_,_=>by
  have:({ fr with defers:=[] }:Frame)=fr:=by cases fr;simp only[List.map_nil]at hd;subst hd;rfl
  rw[this];exact StepsIn.refl _
 |D::Ds,fr,w,hm,hd,hF,hr,hnd,hD=>by
  rw[Nv]at hnd;have h1:=step_collected (P:=P) (cs:=cs) hm hd (r:=D) rfl (run_takeDeferred (P:=P) (hD D Nh));have i1:(lone fr cs w).fenced P Fc:=fenced_out hF hr hm hd (fun g hg=>by simp[iJ,Target.leads]at hg)
  refine .head i1 h1 ?_
  exact sG (cs:=cs) (n:=n) Ds { fr with defers:=[]++Ds.map iJ } _ hm rfl hF hr hnd.2 (fun E hE=>(World.putObj_heap_other (fun e:E=D=>hnd.1 (by rw[<-e];exact hE))).trans (hD E (Ng _ hE)))
def xw(P:Program)(fn:Func)(c₀:Frame)(cs:List Frame)(R:Ending->FrameMode->World->Prop):Exit->Act->List Frame->World->Prop
 |.normal,a,cs',w|.ret,a,cs',w=>∃Ds u',a.defers=Ds.map iJ/\Ds.Nodup/\(∀D∈Ds,w.heap[D]?=some (.deferred (some [])))/\cs'={ c₀ with mode:=u' }::cs/\∃v,(results fn a.tmps).run P (jP Ds w)=.ok v (jP Ds w)/\R (.returned v) u' (jP Ds w)
 |_,_,_,_=>False
theorem BB{Fc:Fence}{n:Nat}{f:FuncId}{fn:Func}{c:Code}{args:Array Value}{u:FrameMode}{R:Ending->FrameMode->World->Prop}
  (hf:P.funcs[f]?=some fn) (hb:fn.body=some c) (hF:Fc.fn f)
  (h:∀(c₀:Frame) (cs:List Frame),c₀.mode=u->c.wpSIn Fc n P (xw P fn c₀ cs R) { tmps:=args++Nc (fn.ntmps-args.size) undef,defers:=[] } (c₀::cs) w):CallsDIn Fc n P f args u w R:=by
 refine⟨hF,fun c₀ cs hu hroom=>?_⟩
 let b:Frame:={ (default:Frame)with fn:=f,kind:=.deferred,roundOf:=none }
 have henter:Frame.enter P f args .deferred=b.atR { tmps:=args++Nc (fn.ntmps-args.size) undef,defers:=[] } [.code c]:=by
  simp[Frame.enter,Frame.atR,hf,hb,b]
 obtain⟨e,a',cs',w',hl,hq,harr⟩:=h c₀ cs hu b [] rfl rfl hF hroom;rw[<-henter]at harr;cases e with
 |normal=>
  obtain⟨Ds,u',hd,hnd,hD,rfl,v,hr,hR⟩:=hq;have s2:=sG (P:=P) (cs:={ c₀ with mode:=u' }::cs) (n:=n) Ds { b.atR a' []with mode:=.returning } w' (by simp) hd hF hroom hnd hD
  exact⟨.returned v,u',_,_,hR,StepsIn.trans harr (StepsIn.trans (.one (fenced_calm (fr:=b.atR a' []) hF hroom rfl) (stepR_end rfl)) s2),rfl,rfl,rfl,rfl,fn,hf,hr⟩
 |ret=>
  obtain⟨Ds,u',hd,hnd,hD,rfl,v,hr,hR⟩:=hq;obtain⟨todo,hs⟩:=harr.1 rfl;have s2:=sG (P:=P) (cs:={ c₀ with mode:=u' }::cs) (n:=n) Ds { b.atR a' todo with mode:=.returning } w' (by simp) hd hF hroom hnd hD
  exact⟨.returned v,u',_,_,hR,StepsIn.trans hs s2,rfl,rfl,rfl,rfl,fn,hf,hr⟩
 |panic chain=>exact hq.elim
 |exit id=>exact hq.elim
 |goto l=>exact hq.elim
 |outgrown=>exact hq.elim
theorem DZ{l:List Oper}{r q:Nat}(h:xz l=some (r,q)):∃o o',l=[o,o']/\o.dst=some r/\(∃c,o.op=.call c/\c.callee=.builtin .recover)/\o.guard=none/\o'.dst=some q/\o'.op=.assign (.tmp r)/\o'.guard=none:=by
 unfold xz at h;split at h
 ·split at h
  ·rename_i e
   cases h
   exact⟨_,_,rfl,rfl,⟨_,rfl,rfl⟩,rfl,rfl,by rw[e],rfl⟩
  ·cases h
 ·cases h
theorem Jh{c:Code}{rg:RecG}(h:B9 c=some rg):c=.seq (.region rg.id rg.ops false) rg.rest/\xz rg.ops.toList=some (rg.r,rg.q):=by
 unfold B9 at h;split at h
 ·obtain⟨x,hx,rfl⟩:=Option.map_eq_some_iff.1 h
  exact⟨rfl,hx⟩
 ·cases h
theorem tV(v:Value):SVden env κ F w (ct v) v/\(ct v).names=[]:=by
 unfold ct;split
 ·exact⟨rfl,rfl⟩
 ·split
  ·rename_i t cs h
   refine⟨⟨_,rfl,cs,rfl,rfl,?_⟩,rfl⟩
   have:cs=#[]:=Nn h
   subst this;rfl
  ·exact⟨trivial,rfl⟩
 ·exact⟨trivial,rfl⟩
theorem D4{n:Nat}{ops:Array Oper}{Q:Exit->Act->List Frame->World->Prop}{i:Nat}{rest:List Nat}{o:Oper}{u:Value}{cs:List Frame}(ho:ops[i]?=some o)(hg:o.guard=none)(hr:(execOp a.eval o).run P w=.ok (.value u) w)
  (h:wpOpsSIn (FR none) n P ops Q rest (a.put o.dst u) cs w):wpOpsSIn (FR none) n P ops Q (i::rest) a cs w:=by
 simp only[wpOpsSIn,ho];refine⟨fun _ _=>trivial,?_⟩
 rw[show Region.wanted o (yielded ops a.tmps)=true by simp[Region.wanted,hg],if_pos rfl,hr]
 exact h
theorem BQ{n:Nat}{ops:Array Oper}{Q:Exit->Act->List Frame->World->Prop}{i:Nat}{rest:List Nat}{o:Oper}{cs:List Frame}(ho:ops[i]?=some o)(hg:o.guard=none)(hr:(execOp a.eval o).run P w=.ok .recover w)
  (h:match recoverD cs with
   |some (v,cs')=>wpOpsSIn (FR none) n P ops Q rest (a.put o.dst v) cs' w
   |none=>wpOpsSIn (FR none) n P ops Q rest (a.put o.dst .nilIface) cs w):wpOpsSIn (FR none) n P ops Q (i::rest) a cs w:=by
 simp only[wpOpsSIn,ho];refine⟨fun _ _=>trivial,?_⟩
 rw[show Region.wanted o (yielded ops a.tmps)=true by simp[Region.wanted,hg],if_pos rfl,hr]
 exact h
theorem CS{g:Nat}{gfn:Func}{gc:Code}{rg:RecG}(hg:P.funcs[g]?=some gfn)(hgb:gfn.body=some gc)(hrg:B9 gc=some rg)(hres:gfn.results.size=0){xs:List SV}{σ2 σ4:SS}{v:Value}{u:FrameMode}
  (hu:u=.returning/\v=.nilIface\/u=.panicking (gJ v)) (hr1:rg.r<(σ2.frame xs gfn.ntmps).L) (hr2:rg.q<(σ2.frame xs gfn.ntmps).L) {ex4:Ex} (hex4:ex4.out=true)
  (l4:Leads P w0 none rg.rest env (((σ2.frame xs gfn.ntmps).put (some rg.r) (ct v)).put (some rg.q) (ct v)) ex4 σ4) {cs:Array Value}
  (hfr:Rel w0 env κ F U (σ2.frame xs gfn.ntmps).tmp (σ2.frame xs gfn.ntmps).blk (σ2.frame xs gfn.ntmps).L { tmps:=cs++Nc (gfn.ntmps-cs.size) undef,defers:=[] } w) (hU:∀b,σ2.N<=b->¬U b) (hB:w0.heap.size<=w.heap.size):
  CallsDIn (FR none) 0 P g cs u w fun e u' w'=>∃val,e=.returned val/\settle u'=.returning/\∃κ' F' a',Rel w0 env κ' F' (fun b=>U b\/(σ2.N<=b/\b<σ4.N)) σ4.tmp σ4.blk σ4.L a' w'/\Kept U σ2.blk κ F w σ4.blk κ' F' w':=by
 obtain⟨hgc,hops⟩:=Jh hrg;obtain⟨o,o',hl,d1,⟨c,op1,ce1⟩,gd1,d2,op2,gd2⟩:=DZ hops;have hsz:rg.ops.size=2:=by rw[<-Np,hl];rfl
 have e0:rg.ops[0]?=some o:=by rw[<-Nd,hl];rfl
 have e1:rg.ops[1]?=some o':=by rw[<-Nd,hl];rfl
 subst hgc;refine BB hg hgb trivial (fun c₀ rest hmode=>wpSIn_seq (wpSIn_region ?_))
 rw[hsz];show wpOpsSIn _ _ _ _ _ [0,1] _ _ _
 obtain⟨a0,ha0⟩:∃a0:Act,a0={ tmps:=cs++Nc (gfn.ntmps-cs.size) undef,defers:=[] }:=⟨_,rfl⟩
 rw[<-ha0]at hfr⊢
 have hrec:(execOp a0.eval o).run P w=.ok .recover w:=by
  simp only[execOp,op1,resolve,ce1,Sem.run_bind,Sem.run_pure,Result.andThen_ok,invoke,builtin]
 obtain⟨a1,ha1⟩:∃a1:Act,a1=(a0.put (some rg.r) v).put (some rg.q) v:=⟨_,rfl⟩
 have hev:(a0.put (some rg.r) v).eval (.tmp rg.r)=v:=by
  simp only[Act.eval,Act.put];rw[qu (by rw[hfr.size];exact hr1),if_pos rfl]
 obtain⟨p1,p2,p3,_,_,p4,_⟩:=eB (σ2.frame xs gfn.ntmps) (dst:=some rg.r) (v:=ct v) (fun d hd=>by cases hd;exact hr1)
 obtain⟨q1,q2,q3,_,_,q4,_⟩:=eB ((σ2.frame xs gfn.ntmps).put (some rg.r) (ct v)) (dst:=some rg.q) (v:=ct v) (fun d hd=>by cases hd;rw[p4];exact hr2)
 have hrel:Rel w0 env κ F U (((σ2.frame xs gfn.ntmps).put (some rg.r) (ct v)).put (some rg.q) (ct v)).tmp (((σ2.frame xs gfn.ntmps).put (some rg.r) (ct v)).put (some rg.q) (ct v)).blk (((σ2.frame xs gfn.ntmps).put (some rg.r) (ct v)).put (some rg.q) (ct v)).L a1 w:=by
  rw[q1,q2,q4,p1,p2,p4,ha1];have h1:=hfr.put (dst:=some rg.r) (v:=ct v) (u:=v) (fun d hd=>by cases hd;exact hr1) (tV v).1 (fun b hb=>by rw[(tV (env:=env) (κ:=κ) (F:=F) (w:=w) v).2]at hb;cases hb)
  exact h1.put (dst:=some rg.q) (v:=ct v) (u:=v) (fun d hd=>by cases hd;exact hr2) (tV v).1 (fun b hb=>by rw[(tV (env:=env) (κ:=κ) (F:=F) (w:=w) v).2]at hb;cases hb)
 have hN:(((σ2.frame xs gfn.ntmps).put (some rg.r) (ct v)).put (some rg.q) (ct v)).N=σ2.N:=by rw[q3,p3];rfl
 have hblk:(((σ2.frame xs gfn.ntmps).put (some rg.r) (ct v)).put (some rg.q) (ct v)).blk=σ2.blk:=by rw[q2,p2];rfl
 have hdef:a1.defers=[]:=by rw[ha1,ha0];rfl
 have fin:∀(u':FrameMode),settle u'=.returning->rg.rest.wpSIn (FR none) 0 P (xw P gfn c₀ rest fun e u' w'=>∃val,e=.returned val/\settle u'=.returning/\∃κ' F' a',Rel w0 env κ' F' (fun b=>U b\/(σ2.N<=b/\b<σ4.N)) σ4.tmp σ4.blk σ4.L a' w'/\Kept U σ2.blk κ F w σ4.blk κ' F' w') a1 ({ c₀ with mode:=u' }::rest) w:=by
  intro u' hu';refine wpSIn_of_wpIn rfl (wpIn_mono (l4.go κ F U a1 w hrel (by rw[hN];exact hU) (fun b hb=>by cases hb)) ?_)
  rintro e a' w' ⟨rfl,κ',F',r,k,Ds,m1,m2,m3⟩;rw[hN]at r;rw[hblk]at k;have key:xw P gfn c₀ rest (fun e u' w'=>∃val,e=.returned val/\settle u'=.returning/\∃κ' F' a',Rel w0 env κ' F' (fun b=>U b\/(σ2.N<=b/\b<σ4.N)) σ4.tmp σ4.blk σ4.L a' w'/\Kept U σ2.blk κ F w σ4.blk κ' F' w') .normal a' ({ c₀ with mode:=u' }::rest) w':=by
   refine⟨Ds,u',by rw[m1,hdef,Nb],m2,fun D hD=>(m3 D hD).2.1,rfl,pack [],sW (us:=[]) (by simp[hres]) (fun i x u hx hu=>by simp at hu),pack [],rfl,hu',κ',F',a',?_,?_⟩
   ·exact sQ Ds w' r m2 (fun D hD=>⟨by have:=(m3 D hD).1;omega,(m3 D hD).2⟩)
   ·exact qr Ds w' k (fun D hD=>(m3 D hD).1)
  cases ex4 with
  |normal=>exact key
  |ret=>exact key
  |exit id=>cases hex4
  |panic v=>cases hex4
 have tail:∀cs',rg.rest.wpSIn (FR none) 0 P (xw P gfn c₀ rest fun e u' w'=>∃val,e=.returned val/\settle u'=.returning/\∃κ' F' a',Rel w0 env κ' F' (fun b=>U b\/(σ2.N<=b/\b<σ4.N)) σ4.tmp σ4.blk σ4.L a' w'/\Kept U σ2.blk κ F w σ4.blk κ' F' w') a1 cs' w->wpOpsSIn (FR none) 0 P rg.ops (Exit.thenS (rg.rest.wpSIn (FR none) 0 P (xw P gfn c₀ rest fun e u' w'=>∃val,e=.returned val/\settle u'=.returning/\∃κ' F' a',Rel w0 env κ' F' (fun b=>U b\/(σ2.N<=b/\b<σ4.N)) σ4.tmp σ4.blk σ4.L a' w'/\Kept U σ2.blk κ F w σ4.blk κ' F' w')) (xw P gfn c₀ rest fun e u' w'=>∃val,e=.returned val/\settle u'=.returning/\∃κ' F' a',Rel w0 env κ' F' (fun b=>U b\/(σ2.N<=b/\b<σ4.N)) σ4.tmp σ4.blk σ4.L a' w'/\Kept U σ2.blk κ F w σ4.blk κ' F' w')) [1] (a0.put o.dst v) cs' w:=fun cs' h=>by
  refine D4 e1 gd2 (u:=v) (by rw[d1];simp only[execOp,op2,hev,Sem.run_pure]) ?_
  rw[d1,d2,<-ha1];exact h
 refine BQ e0 gd1 hrec ?_
 rcases hu with⟨rfl,rfl⟩|rfl
 ·have:recoverD (c₀::rest)=none:=by simp only[recoverD,hmode]
  rw[this];refine tail _ ?_
  have hc:({ c₀ with mode:=FrameMode.returning }:Frame)=c₀:=by rw[<-hmode]
  have:=fin .returning rfl
  rw[hc]at this;exact this
 ·have:recoverD (c₀::rest)=some (v,{ c₀ with mode:=.panicking ({ v,recovered:=true }::[]) }::rest):=by simp only[recoverD,hmode,gJ]
  rw[this];exact tail _ (fin _ rfl)
theorem Ge{l:List Oper}{d g:Nat}{cap:Array Operand}(h:AD l=some (d,g,cap)):∃o o' first c,l=[o,o']/\o.dst=some d/\o.op=.makeFunc (.func g) first cap/\first.size=0/\o.guard=none/\o'.dst=none/\o'.op=.defer c/\c.callee=.value (.tmp d)/\c.args.size=0/\o'.guard=none:=by
 unfold AD at h;split at h
 ·split at h
  ·rename_i hh
   obtain⟨e,h1,h2⟩:=hh;cases h
   exact⟨_,_,_,_,rfl,rfl,rfl,h1,rfl,rfl,rfl,by rw[e],h2,rfl⟩
  ·cases h
 ·cases h
theorem IB{c:Code}{ri:RecI}(h:Ho c=some ri):c=.seq ri.c0 (.seq (.region ri.id ri.ops false) ri.rest)/\AD ri.ops.toList=some (ri.d,ri.g,ri.cap):=by
 unfold Ho at h;split at h
 ·obtain⟨x,hx,rfl⟩:=Option.map_eq_some_iff.1 h
  exact⟨rfl,hx⟩
 ·cases h
theorem kw{n:Nat}{ops:Array Oper}{Q:Exit->Act->World->Prop}{i:Nat}{rest:List Nat}{o:Oper}{u:Value}(ho:ops[i]?=some o)(hg:o.guard=none)(hd:∀c,o.op≠.defer c)(hr:(execOp a.eval o).run P w=.ok (.value u) w)
  (h:wpOpsIn (FR none) n P ops Q rest (a.put o.dst u) w):wpOpsIn (FR none) n P ops Q (i::rest) a w:=by
 simp only[wpOpsIn,ho];rw[show Region.wanted o (yielded ops a.tmps)=true by simp[Region.wanted,hg],if_pos rfl]
 refine⟨fun _ _=>trivial,?_⟩
 rw[Oper.semAt_eq _ _ _ hd,hr,Oper.uponIn_value];exact h
theorem Fy{n:Nat}{ops:Array Oper}{Q:Exit->Act->World->Prop}{i:Nat}{rest:List Nat}{o:Oper}{d:Deferred}(ho:ops[i]?=some o)(hg:o.guard=none)(hr:(execOp a.eval o).run P w=.ok (.defer d) w)
  (h:wpOpsIn (FR none) n P ops Q rest ({ a with defers:=d::a.defers }.put o.dst undef) w):wpOpsIn (FR none) n P ops Q (i::rest) a w:=by
 simp only[wpOpsIn,ho];rw[show Region.wanted o (yielded ops a.tmps)=true by simp[Region.wanted,hg],if_pos rfl]
 refine⟨fun _ _=>trivial,?_⟩
 rw[show(FR none).round=none from rfl,Oper.semAt_none,hr,Oper.uponIn_defer]
 exact h
theorem Ek(hfit:PFit P){f:Nat}{fn:Func}{c:Code}(hfn:P.funcs[f]?=some fn)(hb:fn.body=some c){ri:RecI}(hri:Ho c=some ri){gfn:Func}{gc:Code}{rg:RecG}(hg:P.funcs[ri.g]?=some gfn)(hgb:gfn.body=some gc)(hrg:B9 gc=some rg)(hres0:gfn.results.size=0)
  {σ σ1 σ2 σ4:SS} {xs:List SV} (hxs:xs=ri.cap.toList.map σ1.ev) (hd:ri.d<σ1.L) (l1:Leads P w0 none ri.c0 env σ .normal σ1) {ex2:Ex} {v:Value} (l2:Leads P w0 none ri.rest env (σ1.put (some ri.d) (.fn ri.g .nil (.of xs))) ex2 σ2)
  (h2:(ex2.out=true/\v=.nilIface)\/ex2=.panic v) (hr1:rg.r<(σ2.frame xs gfn.ntmps).L) (hr2:rg.q<(σ2.frame xs gfn.ntmps).L) {ex4:Ex} (hex4:ex4.out=true)
  (l4:Leads P w0 none rg.rest env (((σ2.frame xs gfn.ntmps).put (some rg.r) (ct v)).put (some rg.q) (ct v)) ex4 σ4) {vs:Array Value}
  (hr:Rel w0 env κ F U σ.tmp σ.blk σ.L { tmps:=vs++Nc (fn.ntmps-vs.size) undef,defers:=[] } w) (hU:∀b,σ.N<=b->¬U b) {rs:List SV} (hres:kA P { σ4 with rf:=σ2.rf } env fn.results.toList rs):
  Calls P f vs w (wc w0 env κ F U σ.blk σ.N w { σ4 with rf:=σ2.rf } rs):=by
 obtain⟨hc,hops⟩:=IB hri;obtain⟨o,o',first,dc,hl,d1,op1,hfirst,gd1,d2,op2,cal,hargs,gd2⟩:=Ge hops;have hfirst:first=#[]:=Nn hfirst
 have hargs:dc.args=#[]:=Nn hargs
 subst hfirst;have hsz:ri.ops.size=2:=by rw[<-Np,hl];rfl
 have e0:ri.ops[0]?=some o:=by rw[<-Nd,hl];rfl
 have e1:ri.ops[1]?=some o':=by rw[<-Nd,hl];rfl
 obtain⟨p1,p2,p3,_,_,p4,_⟩:=eB σ1 (dst:=some ri.d) (v:=.fn ri.g .nil (.of xs)) (fun d hd'=>by cases hd';exact hd)
 have n1:=l1.le;have n2:=l2.le;rw[p3]at n2;have n4:σ2.N<=σ4.N:=by
  have:=l4.le
  have q1:=(eB (σ2.frame xs gfn.ntmps) (dst:=some rg.r) (v:=ct v) (fun d hd'=>by cases hd';exact hr1))
  have q2:=(eB ((σ2.frame xs gfn.ntmps).put (some rg.r) (ct v)) (dst:=some rg.q) (v:=ct v) (fun d hd'=>by cases hd';rw[q1.2.2.2.2.2.1];exact hr2))
  rw[q2.2.2.1,q1.2.2.1]at this;exact this
 refine ox (ro:=none) (n:=0) (callsIn_of_wp_marks hfn hb trivial ?_)
 rw[hc];refine wpIn_seq (wpIn_mono (l1.go κ F U _ w hr hU (fun b hb=>by cases hb)) ?_)
 rintro e a1 w1 ⟨rfl,κ1,F1,r1,k1,m1⟩;show Code.wpIn (FR none) 0 P _ _ a1 w1
 refine wpIn_seq (wpIn_region ?_)
 rw[hsz];show wpOpsIn _ _ _ _ _ [0,1] _ _
 obtain⟨fv,hfv⟩:∃fv:Value,fv=.func (.func ri.g) #[] (ri.cap.map a1.eval):=⟨_,rfl⟩
 refine kw e0 gd1 (fun c hc'=>by rw[op1]at hc';cases hc') (u:=fv) (by simp[execOp,op1,Instr.makeFunc,hfv]) ?_
 have hev:(a1.put o.dst fv).eval (.tmp ri.d)=fv:=by
  rw[d1];simp only[Act.eval,Act.put];rw[qu (by rw[r1.size];exact hd),if_pos rfl]
 refine Fy e1 gd2 (d:={ target:=.fn (.func ri.g) (ri.cap.map a1.eval),args:=#[] }) (by
  rw[hfv]at hev⊢
  simp only[execOp,op2,resolve,cal,hev,Deferred.ofValue,hargs,Sem.run_bind,Sem.run_pure,Result.andThen_ok,Array.map_empty,Array.append_empty]) ?_
 rw[d1,d2];show Code.wpIn (FR none) 0 P _ _ _ w1
 obtain⟨a2,ha2⟩:∃a2:Act,a2={ (a1.put (some ri.d) fv)with defers:={ target:=.fn (.func ri.g) (ri.cap.map a1.eval),args:=#[] }::a1.defers }:=⟨_,rfl⟩
 have hxe:xs=ri.cap.toList.map (ag σ1.tmp):=by rw[hxs];exact List.map_congr_left fun x _=>by rw[jh]
 have hcaps:SVden env κ1 F1 w1 (.of xs) (.tuple (ri.cap.map a1.eval)):=by rw[hxe];exact BI r1 ri.cap
 have hxn:∀x∈xs,∀b∈x.names,U b\/(σ.N<=b/\b<σ1.N):=by
  intro x hx b hbn;rw[hxe]at hx;obtain⟨y,hy,rfl⟩:=List.mem_map.1 hx;exact r1.evNames y b hbn
 have hrel1:Rel w0 env κ1 F1 (fun b=>U b\/(σ.N<=b/\b<σ1.N)) (σ1.put (some ri.d) (.fn ri.g .nil (.of xs))).tmp (σ1.put (some ri.d) (.fn ri.g .nil (.of xs))).blk (σ1.put (some ri.d) (.fn ri.g .nil (.of xs))).L a2 w1:=by
  rw[p1,p2,p4,ha2];have h:=r1.put (dst:=some ri.d) (v:=.fn ri.g .nil (.of xs)) (u:=fv) (fun d hd'=>by cases hd';exact hd) ⟨#[],_,hfv,rfl,bA _,rfl,hcaps⟩ (fun b hb=>by
   rcases List.mem_append.1 hb with hb|hb
   ·cases hb
   ·obtain⟨y,hy,hby⟩:=(eH _ b).1 hb
    exact hxn y hy b hby)
  exact⟨h.tmps,h.size,h.blks,h.inj,h.nF,h.glob,h.F,h.tnames,h.bnames,h.below⟩
 have hU1:∀b,σ1.N<=b->¬(U b\/(σ.N<=b/\b<σ1.N)):=fun b h1 h3=>by
  rcases h3 with h3|h3
  ·exact hU b (by omega) h3
  ·omega
 show Code.wpIn (FR none) 0 P _ _ { (a1.put (some ri.d) fv)with defers:=_::a1.defers } w1
 rw[<-ha2];refine wpIn_mono (l2.go κ1 F1 _ a2 w1 hrel1 (by rw[p3];exact hU1) (fun b hb=>by cases hb)) ?_
 rintro e a3 w2 ⟨rfl,κ2,F2,r2,k2,Ds,dm1,dm2,dm3⟩;rw[p3]at r2;rw[p2]at k2;have hB1:w0.heap.size<=w1.heap.size:=r1.below.size
 have r3:=sQ Ds w2 r2 dm2 (fun D hD=>⟨by have:=(dm3 D hD).1;omega,(dm3 D hD).2⟩)
 have k3:=qr Ds w2 k2 (fun D hD=>(dm3 D hD).1)
 obtain⟨w3,hw3⟩:∃w3,w3=jP Ds w2:=⟨_,rfl⟩
 rw[<-hw3]at r3 k3;have key:∀u,(u=.returning/\v=.nilIface\/u=.panicking (gJ v))->LeavesInM (FR none) 0 P fn a3.tmps (wc w0 env κ F U σ.blk σ.N w { σ4 with rf:=σ2.rf } rs) a3.defers u w2:=by
  intro u hu;have hrun:u≠.run:=by rcases hu with⟨rfl,_⟩|rfl<;>simp
  rw[dm1,ha2];refine w9 hrun Ds w2 dm2 (fun D hD=>(dm3 D hD).2.1) ?_
  rw[<-hw3];have hgn:¬gfn.name = "runtime.NumGoroutine" := hfit.name ri.g gfn hg
  have hgb0:¬gfn.body=none:=by rw[hgb];intro hh;cases hh
  refine⟨hrun,.inr ⟨fun h=>(by cases h),.func ri.g,ri.cap.map a1.eval,ri.g,ri.cap.map a1.eval,rfl,?_,fun _ _=>trivial,?_⟩⟩
  ·simp only[invoke,callFunc]
   simp[hg,hgn,hgb0]
  obtain⟨t1,t2⟩:=kT (bA xs) hcaps;rw[da]at t1 t2;obtain⟨fr1,fr2⟩:=sd (env:=env) (κ:=κ2) (F:=F2) (w:=w3) (σ:=σ2) (vs:=xs) (us:=ri.cap.map a1.eval) (n:=gfn.ntmps) (by simpa using t1) (fun i x u' hx hu'=>(t2 i x u' hx (by rw[Nd];exact hu')).keep (fun b hb=>k3.kap b (hxn x (Nl hx) b hb)) k3.mono (fun j hj=>k3.frame j (r1.F j hj) (fun b hl' e=>r1.nF b j hl' e hj)))
  have hfr:=r3.callee (σ:=σ2) (fun _ _=>rfl) (a':={ tmps:=ri.cap.map a1.eval++Nc (gfn.ntmps-(ri.cap.map a1.eval).size) undef,defers:=[] }) fr1 fr2 (nP (fun x hx b hb=>.inl (hxn x hx b hb)))
  have hU2:∀b,σ2.N<=b->¬((U b\/(σ.N<=b/\b<σ1.N))\/(σ1.N<=b/\b<σ2.N)):=fun b h1 h3=>by
   rcases h3 with h3|h3
   ·exact hU1 b (by omega) h3
   ·omega
  refine(CS hg hgb hrg hres0 hu hr1 hr2 hex4 l4 hfr hU2 r3.below.size).mono ?_
  rintro e u' w4 ⟨val,rfl,hset,κ4,F4,a4,r4,k4⟩;show LeavesInM (FR none) 0 P fn a3.tmps _ a1.defers (settle u') w4
  rw[hset];obtain⟨Es,g1,g2,g3⟩:=(m1.next r1 k3).next r3 k4;rw[g1,Nb];refine sm hres (hr.below.size) Es w4 (a':=a3) ?_ ((k1.trans k3 (fun b hb=>.inl hb)).trans k4 (fun b hb=>.inl (.inl hb))) g2 g3
  have hback:Rel w0 env κ4 F4 (fun b=>((U b\/(σ.N<=b/\b<σ1.N))\/(σ1.N<=b/\b<σ2.N))\/(σ2.N<=b/\b<σ4.N)) σ2.tmp σ4.blk σ2.L a3 w4:=
   ⟨fun t=>(r3.tmps t).keep (fun b hb=>k4.kap b (r3.tnames t b hb)) k4.mono (fun j hj=>k4.frame j (r3.F j hj) (fun b hl' e=>r3.nF b j hl' e hj)),r3.size,r4.blks,r4.inj,r4.nF,r4.glob,r4.F,fun t b hb=>.inl (r3.tnames t b hb),r4.bnames,r4.below⟩
  refine hback.monoU (fun b hb=>?_)
  show U b\/(σ.N<=b/\b<σ4.N)
  rcases hb with((hb|hb)|hb)|hb
  ·exact .inl hb
  ·exact .inr ⟨hb.1,by omega⟩
  ·exact .inr ⟨by omega,by omega⟩
  ·exact .inr ⟨by omega,hb.2⟩
 rcases h2 with⟨hex,hv⟩|rfl
 ·cases ex2 with
  |normal=>exact key .returning (.inl ⟨rfl,hv⟩)
  |ret=>exact key .returning (.inl ⟨rfl,hv⟩)
  |exit id=>cases hex
  |panic v=>cases hex
 ·exact key _ (.inr rfl)
theorem Ku{cfg:Cfg}(hfit:PFit P){g:Bool}{fn:Func}{f:Nat}{ri:RecI}{σ:SS}{Post:R->Prop}{K:Nat->List AV->Prop}(hn:env.length=σ.n)(hk:KnownOK env σ.n σ.known)(h:(Ei P cfg g fn f ri σ).den P Post env K):
  ∃gfn gc rg σ1 σ2 σ4 ex2 v ex4 rs K',P.funcs[ri.g]?=some gfn/\gfn.body=some gc/\B9 gc=some rg/\gfn.results.size=0/\ri.d<SS.L σ1/\Leads P w0 none ri.c0 (env++rs) σ .normal σ1 ∧
   Leads P w0 none ri.rest (env++rs) (σ1.put (some ri.d) (.fn ri.g .nil (.of (ri.cap.toList.map σ1.ev)))) ex2 σ2/\((ex2.out=true/\v=.nilIface)\/ex2=.panic v)/\rg.r<(σ2.frame (ri.cap.toList.map σ1.ev) gfn.ntmps).L/\rg.q<(σ2.frame (ri.cap.toList.map σ1.ev) gfn.ntmps).L/\Ex.out ex4=true ∧
   Leads P w0 none rg.rest (env++rs) (((σ2.frame (ri.cap.toList.map σ1.ev) gfn.ntmps).put (some rg.r) (ct v)).put (some rg.q) (ct v)) ex4 σ4/\(mp P g fn { σ4 with rf:=σ2.rf }).den P Post (env++rs) K':=by
 unfold Ei at h;obtain⟨ex1,σ1,rs1,K1,h1,_,_,hk1,hn1,l1⟩:=pX (w0:=w0) (cfg:=cfg) hfit 12 Post K none f ri.c0 _ σ env hn hk h
 unfold DK at h1;split at h1
 rotate_left
 ·exact h1.elim
 split at h1
 rotate_left
 ·exact h1.elim
 rename_i hd
 rw[jK km]at h1;obtain⟨xs,hxs⟩:∃xs,xs=ri.cap.toList.map σ1.ev:=⟨_,rfl⟩
 rw[<-hxs]at h1;obtain⟨p1,p2,p3,p4,p5,p6,_⟩:=eB σ1 (dst:=some ri.d) (v:=.fn ri.g .nil (.of xs)) (fun d hd'=>by cases hd';exact hd)
 obtain⟨ex2,σ2,rs2,K2,h2,_,_,hk2,hn2,l2⟩:=pX (w0:=w0) (cfg:=cfg) hfit 12 Post K1 none f ri.rest _ _ (env++rs1) (by rw[p4];exact hn1) (by rw[p4,p5];exact hk1) h1
 obtain⟨v,hv,h3⟩:∃v,((ex2.out=true/\v=.nilIface)\/ex2=.panic v)/\(um P cfg g fn ri xs σ2 v).den P Post (env++rs1++rs2) K2:=by
  cases ex2 with
  |exit id=>exact h2.elim
  |panic v=>exact⟨v,.inr rfl,h2⟩
  |normal=>exact⟨_,.inl ⟨rfl,rfl⟩,h2⟩
  |ret=>exact⟨_,.inl ⟨rfl,rfl⟩,h2⟩
 unfold um at h3;split at h3
 ·exact h3.elim
 rename_i gfn hg
 split at h3
 ·exact h3.elim
 rename_i gc hgb
 split at h3
 ·exact h3.elim
 rename_i rg hrg
 split at h3
 rotate_left
 ·exact h3.elim
 rename_i hh
 obtain⟨hres,hr1,hr2⟩:=hh;have q1:=eB (σ2.frame xs gfn.ntmps) (dst:=some rg.r) (v:=ct v) (fun d hd'=>by cases hd';exact hr1)
 have q2:=eB ((σ2.frame xs gfn.ntmps).put (some rg.r) (ct v)) (dst:=some rg.q) (v:=ct v) (fun d hd'=>by cases hd';rw[q1.2.2.2.2.2.1];exact hr2)
 have en:(((σ2.frame xs gfn.ntmps).put (some rg.r) (ct v)).put (some rg.q) (ct v)).n=σ2.n:=q2.2.2.2.1.trans q1.2.2.2.1
 have ek:(((σ2.frame xs gfn.ntmps).put (some rg.r) (ct v)).put (some rg.q) (ct v)).known=σ2.known:=q2.2.2.2.2.1.trans q1.2.2.2.2.1
 obtain⟨ex4,σ4,rs4,K4,h4,_,_,_,_,l4⟩:=pX (w0:=w0) (cfg:=cfg) hfit 12 Post K2 none ri.g rg.rest _ _ (env++rs1++rs2) (by rw[en];exact hn2) (by rw[en,ek];exact hk2) h3
 have hE:env++(rs1++(rs2++rs4))=env++rs1++rs2++rs4:=by simp
 have h5:ex4.out=true/\(mp P g fn { σ4 with rf:=σ2.rf }).den P Post (env++rs1++rs2++rs4) K4:=by
  cases ex4 with
  |exit id=>exact h4.elim
  |panic v=>exact h4.elim
  |normal=>exact⟨rfl,h4⟩
  |ret=>exact⟨rfl,h4⟩
 refine⟨gfn,gc,rg,σ1,σ2,σ4,ex2,v,ex4,rs1++(rs2++rs4),K4,hg,hgb,hrg,hres,hd,?_,?_,hv,hxs▸hr1,hxs▸hr2,h5.1,?_,by rw[hE];exact h5.2⟩
 ·rw[hE];have:=l1 (rs2++rs4);simpa using this
 ·rw[hE,<-hxs];have:=l2 rs4;simpa using this
 ·rw[hE,<-hxs];have:=l4 [];simpa using this
theorem Bn{l:List Oper}{r:Nat}(h:xy l=some r):∃o,l=[o]/\o.dst=some r/\o.op=.assign (.const (.slice none 0 0))/\o.guard=none:=by
 unfold xy at h;split at h
 ·cases h;exact⟨_,rfl,rfl,rfl,rfl⟩
 ·cases h
theorem Gh{l:List Oper}{p q t:Nat}(h:zT l=some (p,q,t)):∃o o' ty,l=[o,o']/\o.dst=some p/\o.op=.move (.tmp 0)/\o.guard=none/\o'.dst=some q/\o'.op=.binOp .eql t (.tmp p) (.const (.slice none 0 0)) ty/\o'.guard=none:=by
 unfold zT at h;split at h
 ·split at h
  ·rename_i e
   cases h
   exact⟨_,_,_,rfl,rfl,rfl,rfl,rfl,by rw[e],rfl⟩
  ·cases h
 ·cases h
theorem sL{c:Code}{ci:CloneI}(h:tG c=some ci):c=.seq (.region ci.i0 ci.ops0 false) (.seq (.seq (.region ci.i1 ci.ops1 false) (.cond (.tmp ci.q) (.seq (.region ci.i2 ci.ops2 false) .ret) .skip)) ci.rest)/\xy ci.ops0.toList=some ci.r/\zT ci.ops1.toList=some (ci.p,ci.q,ci.t)/\xy ci.ops2.toList=some ci.r/\ci.r≠0/\ci.p≠0/\ci.q≠0/\ci.r≠ci.p/\ci.r≠ci.q:=by
 unfold tG at h;split at h
 ·split at h
  ·rename_i h1 h2 h3
   split at h
   ·rename_i hh
    obtain⟨e1,e2,n1,n2,n3,n4,n5⟩:=hh;cases h
    refine⟨by rw[e2],h1,?_,?_,n1,n2,?_,n4,?_⟩
    ·rw[h2,e2]
    ·rw[h3,e1]
    ·exact e2▸n3
    ·exact e2▸n5
   ·cases h
  ·cases h
 ·cases h
theorem JP(d:Nat){t e:Nat}(hu:P.underlying t=some (.slice e))(A:Option Addr)(n c:Nat):(Op.equalIn (d+1) t (.slice A n c) (.slice none 0 0)).run P w=.ok A.isNone w:=by
 cases A<;>simp only[Op.equalIn,Sem.run_bind,run_underlying hu,Result.andThen_ok,Sem.run_pure,NP]
theorem u4{d t:Nat}{v:Value}(h:d<a.tmps.size):(a.put (some d) v).eval (.tmp t)=if t=d then v else a.eval (.tmp t):=by
 simp only[Act.eval,Act.put];exact qu h
theorem nE{d:Option Nat}{v:Value}:(a.put d v).tmps.size=a.tmps.size:=by cases d<;>simp[Act.put]
theorem AJ{c:Code}{ci:CloneI}(hc:tG c=some ci){e:Nat}(ht:P.underlying ci.t=some (.slice e)){A:Option Addr}{n cap:Nat}(ha:a.eval (.tmp 0)=.slice A n cap)(hr:ci.r<a.tmps.size)(hp:ci.p<a.tmps.size)(hq:ci.q<a.tmps.size){Q:Exit->Act->World->Prop}
  (h:((if A.isNone then Code.seq (.region ci.i2 ci.ops2 false) .ret else .skip):Code).wpIn (FR none) 0 P (Exit.then (ci.rest.wpIn (FR none) 0 P Q) Q) (((a.put (some ci.r) (.slice none 0 0)).put (some ci.p) (.slice A n cap)).put (some ci.q) (.bool A.isNone)) w):c.wpIn (FR none) 0 P Q a w:=by
 obtain⟨hcc,s0,s1,_,n1,n2,n3,n4,n5⟩:=sL hc;obtain⟨o,l0,d0,op0,g0⟩:=Bn s0;obtain⟨o1,o2,ty,l1,d1,op1,g1,d2,op2,g2⟩:=Gh s1;have z0:ci.ops0.size=1:=by rw[<-Np,l0];rfl
 have z1:ci.ops1.size=2:=by rw[<-Np,l1];rfl
 have e0:ci.ops0[0]?=some o:=by rw[<-Nd,l0];rfl
 have e1:ci.ops1[0]?=some o1:=by rw[<-Nd,l1];rfl
 have e2:ci.ops1[1]?=some o2:=by rw[<-Nd,l1];rfl
 rw[hcc];refine wpIn_seq (wpIn_region ?_)
 rw[z0];show wpOpsIn _ _ _ _ _ [0] _ _
 refine kw e0 g0 (fun c hc'=>by rw[op0]at hc';cases hc') (u:=.slice none 0 0) (by simp only[execOp,op0,Sem.run_pure];rfl) ?_
 rw[d0];show Code.wpIn (FR none) 0 P _ _ _ w
 refine wpIn_seq (wpIn_seq (wpIn_region ?_))
 rw[z1];show wpOpsIn _ _ _ _ _ [0,1] _ _
 have v1:(a.put (some ci.r) (.slice none 0 0)).eval (.tmp 0)=.slice A n cap:=by rw[u4 hr,if_neg (fun h=>n1 h.symm),ha]
 refine kw e1 g1 (fun c hc'=>by rw[op1]at hc';cases hc') (u:=.slice A n cap) (by simp only[execOp,op1,v1,Sem.run_pure]) ?_
 rw[d1];have v2:((a.put (some ci.r) (.slice none 0 0)).put (some ci.p) (.slice A n cap)).eval (.tmp ci.p)=.slice A n cap:=by rw[u4 (by rw[nE];exact hp),if_pos rfl]
 have v3:((a.put (some ci.r) (.slice none 0 0)).put (some ci.p) (.slice A n cap)).eval (.const (.slice none 0 0))=.slice none 0 0:=rfl
 have heq:(Op.equal ci.t (.slice A n cap) (.slice none 0 0)).run P w=.ok A.isNone w:=JP 9999 ht A n cap
 refine kw e2 g2 (fun c hc'=>by rw[op2]at hc';cases hc') (u:=.bool A.isNone) (by
  simp only[execOp,op2,v2,v3,Sem.run_bind];have hg:(eqGuard .eql ci.t (.tmp ci.p) (.const (.slice none 0 0)) (.slice A n cap) (.slice none 0 0)).run P w=.ok () w:=iS (.inl (by simp)) (by simp)
  rw[hg,Result.andThen_ok];simp only[binOp];simp[heq]) ?_
 rw[d2];show Code.wpIn (FR none) 0 P _ _ _ w
 exact wpIn_cond (t:=A.isNone) (by rw[u4 (by rw[nE,nE];exact hq),if_pos rfl]) h
theorem Rel.putAny(h:Rel w0 env κ F U tmp blk L a w){d:Nat}(hd:d<L)(ht:tmp d=.any)(u:Value):Rel w0 env κ F U tmp blk L (a.put (some d) u) w:=by
 have:=h.put (dst:=some d) (v:=.any) (u:=u) (fun d' hd'=>by cases hd';exact hd) trivial (fun b hb=>by cases hb)
 have e:fG tmp (some d) .any=tmp:=by
  funext i
  simp only[fG,upd];split
  ·rename_i hi;rw[hi,ht]
  ·rfl
 rw[e]at this;exact this
theorem zk{f:Nat}{fn:Func}{c:Code}{ci:CloneI}(hfn:P.funcs[f]?=some fn)(hb:fn.body=some c)(hc:tG c=some ci){e:Nat}(ht:P.underlying ci.t=some (.slice e)){σ σ':SS}{ex:Ex}(hex:ex.out=true)(hl:Leads P w0 none ci.rest env σ ex σ')
  {vs:Array Value} (hr:Rel w0 env κ F U σ.tmp σ.blk σ.L { tmps:=vs++Nc (fn.ntmps-vs.size) undef,defers:=[] } w) (hU:∀b,σ.N<=b->¬U b) {A:Addr} {n cap:Nat} (ha:(vs++Nc (fn.ntmps-vs.size) undef).getD 0 undef=.slice (some A) n cap)
  (hr1:ci.r<σ.L) (hp1:ci.p<σ.L) (hq1:ci.q<σ.L) (hrt:σ.tmp ci.r=.any) (hpt:σ.tmp ci.p=.any) (hqt:σ.tmp ci.q=.any) {rs:List SV} (hres:kA P σ' env fn.results.toList rs):
  Calls P f vs w (wc w0 env κ F U σ.blk σ.N w σ' rs):=by
 refine ox (ro:=none) (n:=0) (callsIn_of_wp_marks hfn hb trivial ?_)
 have hsz:=hr.size;refine AJ (a:={ tmps:=vs++Nc (fn.ntmps-vs.size) undef,defers:=[] }) hc ht (A:=some A) (n:=n) (cap:=cap) ha (by rw[hsz];exact hr1) (by rw[hsz];exact hp1) (by rw[hsz];exact hq1) ?_
 simp only[NP,NF,if_false];refine wpIn_skip ?_
 show Code.wpIn (FR none) 0 P _ _ _ w
 refine wpIn_mono (hl.go κ F U _ w (((hr.putAny hr1 hrt _).putAny hp1 hpt _).putAny hq1 hqt _) hU (fun b hb=>by cases hb)) ?_
 rintro e' a' w' ⟨rfl,κ',F',r,k,Ds,m1,m2,m3⟩;have key:LeavesInM (FR none) 0 P fn a'.tmps (wc w0 env κ F U σ.blk σ.N w σ' rs) a'.defers .returning w':=by
  rw[m1];show LeavesInM (FR none) 0 P fn a'.tmps _ (Ds.map iJ++[]) .returning w'
  rw[Nb];exact sm hres hr.below.size Ds w' r k m2 m3
 cases ex with
 |normal=>exact key
 |ret=>exact key
 |exit id=>cases hex
 |panic v=>cases hex
theorem Bj{f:Nat}{fn:Func}{c:Code}{ci:CloneI}(hfn:P.funcs[f]?=some fn)(hb:fn.body=some c)(hc:tG c=some ci){e:Nat}(ht:P.underlying ci.t=some (.slice e))(hres:fn.results.toList=[.tmp ci.r])
  {vs:Array Value} {n cap:Nat} (ha:(vs++Nc (fn.ntmps-vs.size) undef).getD 0 undef=.slice none n cap) {L:Nat} (hsz:(vs++Nc (fn.ntmps-vs.size) undef).size=L) (hr1:ci.r<L) (hp1:ci.p<L) (hq1:ci.q<L):
  Calls P f vs w (fun e w'=>e=.returned (.slice none 0 0)/\w'=w):=by
 refine ox (ro:=none) (n:=0) (callsIn_of_wp_marks hfn hb trivial ?_)
 refine AJ (a:={ tmps:=vs++Nc (fn.ntmps-vs.size) undef,defers:=[] }) hc ht (A:=none) (n:=n) (cap:=cap) ha (by show _<NN _;rw[hsz];exact hr1) (by show _<NN _;rw[hsz];exact hp1) (by show _<NN _;rw[hsz];exact hq1) ?_
 simp only[NP,if_true];obtain⟨_,_,_,s2,_⟩:=sL hc;obtain⟨o,l0,d0,op0,g0⟩:=Bn s2;have z0:ci.ops2.size=1:=by rw[<-Np,l0];rfl
 have e0:ci.ops2[0]?=some o:=by rw[<-Nd,l0];rfl
 refine wpIn_seq (wpIn_region ?_)
 rw[z0];show wpOpsIn _ _ _ _ _ [0] _ _
 refine kw e0 g0 (fun c hc'=>by rw[op0]at hc';cases hc') (u:=.slice none 0 0) (by simp only[execOp,op0,Sem.run_pure];rfl) ?_
 rw[d0];show Code.wpIn (FR none) 0 P .ret _ _ w
 refine wpIn_ret ?_
 refine⟨pack [.slice none 0 0],sW (us:=[.slice none 0 0]) (by rw[<-Np,hres];rfl) (fun i x u hx hu=>?_),rfl,rfl⟩
 rw[hres]at hx;cases i with
 | zero=>
  simp at hx hu
  subst hx;subst hu;have:∀b:Act,ci.r<b.tmps.size->(b.put (some ci.r) (Value.slice none 0 0)).tmps.getD ci.r undef=.slice none 0 0:=fun b hb=>by
   have:=u4 (a:=b) (d:=ci.r) (t:=ci.r) (v:=.slice none 0 0) hb
   rw[if_pos rfl]at this;exact this
  dsimp only;rw[this _ (by rw[nE,nE,nE];show _<NN _;rw[hsz];exact hr1)]
  rfl
 |succ i=>simp at hx
theorem Fz(h:(den env (.v 0)).l=[]):∀e:E,fZ e=true->(den env e).l=[]:=by
 intro e;induction e with
 |v i=>
  intro hn;cases i with
  |zero=>exact h
  |succ i=>simp[fZ]at hn
 |lnil=>intro _;rfl
 |app a b ih1 ih2=>
  intro hn;simp only[fZ,Na]at hn;simp[den,ih1 hn.1,ih2 hn.2]
 |typed t a ih=>intro hn;simp only[fZ]at hn;simp[den,ih hn]
 |take a b ih _=>intro hn;simp only[fZ]at hn;simp[den,ih hn]
 |drop a b ih _=>intro hn;simp only[fZ]at hn;simp[den,ih hn]
 |_=>intro hn;simp[fZ]at hn
theorem Ea{t:T}{Post:R->Prop}{K:Nat->List AV->Prop}(h:(qB t).den P Post env K):∃a ty e,t=.ret (.row a ty e)/\given a=false/\fZ e=true/\0<ty.len:=by
 unfold qB at h;split at h
 ·split at h
  ·rename_i hh
   exact⟨_,_,_,rfl,hh.1,hh.2.1,hh.2.2⟩
  ·exact h.elim
 ·exact h.elim
variable {env:List AV} {κ κ':Nat->Value} {F F':Nat->Prop} {w w' w0:World} {U:Nat->Prop} {tmp:Nat->SV} {blk:Nat->Option SB} {L:Nat} {a:Act} {P:Program} {Post:R->Prop} {K:Nat->List AV->Prop}
theorem ye:∀(l:List Nat),tN l=true->l.Nodup
 |[],_=>NL
 |x::l,h=>by
  simp only[tN,Na,NA,NC,decide_eq_false_iff_not]at h;exact List.nodup_cons.2 ⟨h.1,ye l h.2⟩
theorem Aw{σ:SS}:∀(x:SV) (s:RS) (re:RE),dC σ x s=some re->x.proper=true->(re.den env).proper=true:=by
 intro x;induction x with
 |nil=>intro s re h _;cases s<;>simp only[dC]at h<;>cases h;rfl
 | cons x y _ ih2=>
  intro s re h hp;cases s<;>simp only[dC]at h<;>try (cases h;done)
  split at h
  ·rename_i u v h1 h2
   cases h
   show(v.den env).proper=true
   exact ih2 _ _ h2 hp
  ·cases h
 |_=>intro s re h hp;cases hp
theorem G2{σ:SS}(h:Rel w0 env κ F U σ.tmp σ.blk L a w):∀(x:SV) (s:RS) (re:RE) (u:Value),dC σ x s=some re->SVden env κ F w x u →
  i9 F w0.heap.size w (re.den env) u (x.names.flatMap fun b=>(ai (κ b)).toList)/\∀b∈x.names,aF (σ.blk b)=true:=by
 intro x;induction x with
 |vi e=>intro s re u hr hd;cases s<;>simp only[dC]at hr<;>cases hr;exact⟨⟨hd.1,rfl⟩,fun b hb=>by cases hb⟩
 |vb e=>intro s re u hr hd;cases s<;>simp only[dC]at hr<;>cases hr;exact⟨⟨hd.1,rfl⟩,fun b hb=>by cases hb⟩
 | vr e=>
  intro s re u hr hd;cases s<;>simp only[dC]at hr<;>try (cases hr;done)
  ·split at hr
   ·rename_i hk
    cases hr
    have e1:=eR (env:=env) hk;exact⟨⟨AV.raw.inj (hd.1.symm.trans e1),rfl⟩,fun b hb=>by cases hb⟩
   ·cases hr
  ·split at hr
   ·rename_i hk
    cases hr
    have e1:=jq (env:=env) hk;exact⟨⟨AV.raw.inj (hd.1.symm.trans e1),rfl⟩,fun b hb=>by cases hb⟩
   ·cases hr
 | nilsl=>
  intro s re u hr hd;cases s<;>simp only[dC]at hr<;>try (cases hr;done)
  split at hr
  ·rename_i hp
   cases hr
   rw[show u=_ from hd]
   refine⟨?_,fun b hb=>by cases hb⟩
   simp only[RE.den];unfold i9;split
   ·exact⟨pR _,rfl⟩
   ·exact⟨[],World.ownsRow_nil _ _ _ _,hp,⟨fun i r hr=>by simp[den]at hr,fun i r k x hr=>by simp[den]at hr⟩,rfl⟩
  ·cases hr
 | vs t e=>
  intro s re u hr hd;cases s<;>simp only[dC]at hr<;>try (cases hr;done)
  split at hr
  ·rename_i hh
   obtain⟨hg,rfl⟩:=hh;cases hr
   refine⟨?_,fun b hb=>by cases hb⟩
   simp only[RE.den];unfold i9;rw[if_pos hg];exact⟨hd,rfl⟩
  ·cases hr
 | row b=>
  intro s re u hr hd;cases s<;>simp only[dC]at hr<;>try (cases hr;done)
  split at hr
  ·rename_i a' t' e hb
   split at hr
   ·rename_i hh
    obtain⟨rfl,rfl,hg⟩:=hh;cases hr
    obtain⟨us,h1,h2,h3⟩:=h.blks b _ hb;rw[hd.1];refine⟨?_,fun c hc=>?_⟩
    ·simp only[RE.den]
     unfold i9;rw[if_neg (by rw[hg];simp)]
     exact⟨us,h1,h2,h3,by simp[SV.names]⟩
    simp[SV.names]at hc;subst hc;rw[hb];rfl
   ·cases hr
  ·cases hr
 |nil=>intro s re u hr hd;cases s<;>simp only[dC]at hr<;>cases hr;exact⟨⟨hd,rfl⟩,fun b hb=>by cases hb⟩
 | cons x y ih1 ih2=>
  intro s re u hr hd;cases s<;>simp only[dC]at hr<;>try (cases hr;done)
  split at hr
  ·rename_i u1 u2 h1 h2
   cases hr
   obtain⟨p,q,rfl,d1,d2⟩:=hd;obtain⟨r1,n1⟩:=ih1 _ _ _ h1 d1;obtain⟨r2,n2⟩:=ih2 _ _ _ h2 d2;refine⟨⟨p,q,_,_,rfl,r1,r2,by simp[SV.names,List.flatMap_append]⟩,fun b hb=>?_⟩
   simp only[SV.names,NV]at hb;rcases hb with hb|hb
   ·exact n1 b hb
   ·exact n2 b hb
  ·cases hr
 | agg x ih=>
  intro s re u hr hd;cases s<;>simp only[dC]at hr<;>try (cases hr;done)
  split at hr
  ·rename_i hp
   obtain⟨re',h1,rfl⟩:=Option.map_eq_some_iff.1 hr;obtain⟨cs,rfl,_,d⟩:=hd;obtain⟨r1,n1⟩:=ih _ _ _ h1 d;exact⟨⟨cs,rfl,Aw _ _ _ h1 hp,r1⟩,n1⟩
  ·cases hr
 | tup x ih=>
  intro s re u hr hd;cases s<;>simp only[dC]at hr<;>try (cases hr;done)
  split at hr
  ·rename_i hp
   obtain⟨re',h1,rfl⟩:=Option.map_eq_some_iff.1 hr;obtain⟨cs,rfl,_,d⟩:=hd;obtain⟨r1,n1⟩:=ih _ _ _ h1 d;exact⟨⟨cs,rfl,Aw _ _ _ h1 hp,r1⟩,n1⟩
  ·cases hr
 |_=>intro s re u hr hd;cases s<;>simp only[dC]at hr<;>cases hr
theorem Aj{f:Nat->List Nat}:∀ns:List Nat,ns.Nodup->(∀b,(f b).Nodup)->(∀b c k,b∈ns->c∈ns->k∈f b->k∈f c->b=c)->(ns.flatMap f).Nodup
 |[],_,_,_=>NL
 |n::ns,h,hf,hi=>by
  rw[Nv]at h;rw[NR,List.nodup_append];refine⟨hf n,Aj ns h.2 hf (fun b c k hb hc=>hi b c k (Ng _ hb) (Ng _ hc)),fun x hx y hy e=>?_⟩
  subst e;obtain⟨c,hc,hx2⟩:=List.mem_flatMap.1 hy;have:=hi n c x Nh (Ng _ hc) hx hx2
  exact h.1 (this▸hc)
def AV.cells:AV->List AV
 |.agg l=>l
 |x=>[x]
def HO(P:Program)(t:Nat)(x:AV):Bool:=
 match flat P 12 t with
 |none=>false
 |some ts=>if bE P t then(match x with|.agg l=>decide (l.map AV.ty=ts)|_=>false)else decide ([x.ty]=ts)
def vO(P:Program):List Nat->List AV->Bool
 |[],[]=>true
 |t::ts,x::xs=>HO P t x&&vO P ts xs
 |_,_=>false
theorem Ju{t n m:Nat}{s:SV}{x:AV}{u:Value}(hm:Hw P t n=some (s,m))(ho:HO P t x=true)(hd:Den F w u x)(henv:∀(j:Nat) y,x.cells[j]?=some y->env[n+j]?=some y):
  SVden env κ F w s u/\s.names=[]/\m=n+x.cells.length:=by
 unfold Hw at hm;unfold HO at ho;split at hm
 ·cases hm
 rename_i ts hts
 rw[hts]at ho;dsimp only at hm ho
 have hv:∀(j:Nat) y,x.cells[j]?=some y->den env (.v (n+j))=y:=fun j y hy=>by simp only[den];simp[NJ,henv j y hy]
 by_cases hag:bE P t=true
 ·simp only[hag,if_true]at hm ho
  split at hm
  ·rename_i hall
   split at ho
   ·rename_i l
    have ho:=of_decide_eq_true ho;have hlen:ts.length=l.length:=by rw[<-ho];simp
    cases hm
    obtain⟨cs,rfl,hl,hcs⟩:=hd.agg_view;have hxs:∀(i:Nat) y,(List.map (fun x=>x.getD SV.any) (ts.zipIdx.map fun(x:Ty×Nat)=>eN (.v (n+x.2)) x.1))[i]?=some y->∃z,l[i]?=some z/\eN (.v (n+i)) z.ty=some y:=by
     intro i y hy;simp only[No,NO,Option.map_map]at hy;obtain⟨s,hs,rfl⟩:=Option.map_eq_some_iff.1 hy;have hs':=hs;rw[<-ho,No]at hs';obtain⟨z,hz,rfl⟩:=Option.map_eq_some_iff.1 hs';refine⟨z,hz,?_⟩
     have:=List.all_eq_true.1 hall (eN (.v (n+i)) z.ty) (List.mem_map.2 ⟨(z.ty,i),Nl (by rw[NO,hs];simp),rfl⟩)
     obtain⟨v,hv⟩:=Option.isSome_iff_exists.1 this;simp only[Function.comp,Nq,hv,Nx]
    refine⟨⟨_,rfl,bA _,eM (by simp;omega) (fun i y v hy hu=>?_)⟩,?_,by simp[AV.cells,hlen]⟩
    ·obtain⟨z,hz,hle⟩:=hxs i y hy
     have:=hv i z (by simpa[AV.cells]using hz)
     exact qE hle (by rw[this]) (by rw[this];exact hcs i v z hu hz)
    ·refine List.eq_nil_iff_forall_not_mem.2 fun b hb=>?_
     obtain⟨y,hy,hby⟩:=(eH _ b).1 hb;obtain⟨i,hi⟩:=ND hy;obtain⟨z,hz,hle⟩:=hxs i y hi;rw[pw hle]at hby;cases hby
   ·cases ho
  ·cases hm
 ·simp only[hag]at hm ho
  have ho:=of_decide_eq_true ho;subst ho;cases hle:eN (.v n) x.ty with
  |none=>simp[hle]at hm
  |some v=>
   simp[hle]at hm
   obtain⟨rfl,rfl⟩:=hm;have hc:x.cells=[x]:=by cases x<;>first|rfl|cases hle
   have:=hv 0 x (by rw[hc];rfl)
   rw[NH]at this;exact⟨qE hle (by rw[this]) (by rw[this];exact hd),pw hle,by rw[hc];rfl⟩
theorem pJ:∀(ts:List Nat) (n k:Nat) (xs:List SV) (args:List AV) (us:List Value),wZ P ts n=some (xs,k)->vO P ts args=true->us.length=args.length->(∀(i:Nat) u x,us[i]?=some u->args[i]?=some x->Den F w u x) →
  (∀(j:Nat) y,(args.flatMap AV.cells)[j]?=some y->env[n+j]?=some y)->xs.length=us.length/\k=n+(args.flatMap AV.cells).length/\∀(i:Nat) s u,xs[i]?=some s->us[i]?=some u->SVden env κ F w s u/\s.names=[]
 | [],n,k,xs,args,us,hm,ho,hl,_,_=>by
  cases args with
  |nil=>
   simp only[wZ]at hm;cases hm
   exact⟨hl.symm,rfl,fun i s u h=>by simp at h⟩
  |cons=>cases ho
 | t :: ts,n,k,xs,args,us,hm,ho,hl,hd,henv=>by
  cases args with
  |nil=>cases ho
  | cons x args=>
   cases us with
   |nil=>simp at hl
   | cons u us=>
    simp only[vO,Na]at ho;simp only[wZ]at hm;split at hm
    ·rename_i s m h1
     split at hm
     ·rename_i l k' h2
      cases hm
      rw[NR]at henv;obtain⟨a1,a2,a3⟩:=Ju (κ:=κ) h1 ho.1 (hd 0 u x rfl rfl) (fun j y hy=>henv j y (by rw[Nm (List.getElem?_eq_some_iff.1 hy).1];exact hy))
      obtain⟨b1,b2,b3⟩:=pJ ts m k l args us h2 ho.2 (by simpa using hl) (fun i u x h1 h2=>hd (i+1) u x (by simpa using h1) (by simpa using h2)) (fun j y hy=>by
       have:=henv (x.cells.length+j) y (by rw[Nr (by omega)];rw[<-hy];congr 1;omega)
       rw[<-this,a3];congr 1;omega)
      refine⟨by simp[b1],by rw[b2,a3];simp;omega,fun i s' u' h3 h4=>?_⟩
      cases i with
      |zero=>simp at h3 h4;subst h3;subst h4;exact⟨a1,a2⟩
      |succ i=>exact b3 i s' u' (by simpa using h3) (by simpa using h4)
     ·cases hm
    ·cases hm
theorem KZ{g:Bool}{fn:Func}{σ:SS}{r:R}(h:(mp P g fn σ).den P (·=r) env K):∃sh rv σ' v re,kA P σ env fn.results.toList rv/\tN v.names=true/\dC σ' v sh=some re/\re.den env=r ∧
  ((σ'=σ/\v=eO rv)\/(σ'=σ.write (bq σ.blk (rv.flatMap (aW σ.blk)))/\v=nz σ'.blk (eO rv))):=by
 have key:∀(σ':SS) sh v,(xu σ' sh v).den P (·=r) env K->∃re,tN v.names=true/\dC σ' v sh=some re/\re.den env=r:=by
  intro σ' sh v h;unfold xu at h;split at h
  rotate_left
  ·exact h.elim
  rename_i hnd
  split at h
  rotate_left
  ·exact h.elim
  rename_i re hre
  exact⟨re,hnd,hre,h⟩
 unfold mp at h;split at h
 rotate_left
 ·exact h.elim
 ·exact h.elim
 rename_i sh rv hsh hrv0
 split at h
 ·exact h.elim
 rename_i hne
 have hne:fA P σ fn.results.toList=[]:=by simpa using hne
 have hrv:kA P σ env fn.results.toList rv:=⟨hrv0,by rw[hne];exact fun e he=>by cases he⟩
 split at h
 ·obtain⟨re,h1,h2,h3⟩:=key _ _ _ h
  exact⟨sh,rv,_,_,re,hrv,h1,h2,h3,.inr ⟨rfl,rfl⟩⟩
 ·obtain⟨re,h1,h2,h3⟩:=key _ _ _ h
  exact⟨sh,rv,_,_,re,hrv,h1,h2,h3,.inl ⟨rfl,rfl⟩⟩
theorem GS{cfg:Cfg}{f:Nat}{args:List AV}{r:R}(hfit:PFit P)(ho:∀fn,P.funcs[f]?=some fn->vO P fn.params.toList args=true)(h:(AA P cfg f).den P (·=r) (args.flatMap AV.cells) K):Con P f args r:=by
 intro S vs w hS hG hvs;unfold AA at h;split at h
 ·exact h.elim
 rename_i fn hf
 split at h
 rotate_left
 ·exact h.elim
 rename_i c xs n hb hm
 simp only[jK km,pC]at h;obtain⟨m1,m2,_⟩:=pJ (P:=P) (w:=w) (env:=args.flatMap AV.cells) (κ:=fun _=>undef) (F:=S) _ 0 n xs args vs.toList hm (ho fn hf) (by simpa using hvs.1) (fun i u x h1 h2=>hvs.2 i u x (by simpa using h1) h2) (fun j y hy=>by rw[Nq];exact hy)
 have m1':xs.length=vs.size:=by simpa using m1
 obtain⟨σ,hσ⟩:∃σ:SS,σ={ rf:=Ov.of xs fn.ntmps,hp:=⟨[],[],0⟩,n,known:=[],dep:=0 }:=⟨_,rfl⟩
 rw[<-hσ]at h;have hn0:(args.flatMap AV.cells).length=σ.n:=by rw[hσ];simpa using m2.symm
 have hk0:KnownOK (args.flatMap AV.cells) σ.n σ.known:=by rw[hσ];exact fun x hx=>by cases hx
 obtain⟨g,σ',rs,K',hret,hgo⟩|hdone:(∃g σ' rs K',(mp P g fn σ').den P (·=r) (args.flatMap AV.cells++rs) K'/\∀rv,kA P σ' (args.flatMap AV.cells++rs) fn.results.toList rv->Rel w (args.flatMap AV.cells++rs) (fun _=>undef) S (fun _=>False) σ.tmp σ.blk σ.L { tmps:=vs++Nc (fn.ntmps-vs.size) undef,defers:=[] } w->Calls P f vs w (wc w (args.flatMap AV.cells++rs) (fun _=>undef) S (fun _=>False) σ.blk σ.N w σ' rv))\/Calls P f vs w (Gj S r w):=by
  split at h
  ·rename_i ri hri
   obtain⟨gfn,gc,rg,σ1,σ2,σ4,ex2,v,ex4,rs,K',y1,y2,y3,y4,y5,y6,y7,y8,y9,y10,y11,y12,y13⟩:=Ku (w0:=w) hfit hn0 hk0 h
   exact .inl ⟨_,_,rs,K',y13,fun rv hrv hrel=>Ek hfit hf hb hri y1 y2 y3 y4 rfl y5 y6 y7 y8 y9 y10 y11 y12 hrel (fun _ _ h=>h) hrv⟩
  split at h
  ·rename_i ci hci
   unfold DE at h;split at h
   rotate_left
   ·exact h.elim
   rename_i row r' ety hres ht _
   split at h
   rotate_left
   ·exact h.elim
   rename_i hh
   obtain⟨rfl,hr1,hp1,hq1⟩:=hh;obtain⟨ex,σ',rs,K',q1,_,_,_,_,q6⟩:=pX (w0:=w) (cfg:=cfg) hfit 12 (·=r) K none f ci.rest _ σ (args.flatMap AV.cells) hn0 hk0 h
   have hex:ex.out=true/\(qB (mp P false fn σ')).den P (·=r) (args.flatMap AV.cells++rs) K':=by
    cases ex with
    |exit id=>exact q1.elim
    |panic v=>exact q1.elim
    |normal=>exact⟨rfl,q1⟩
    |ret=>exact⟨rfl,q1⟩
   obtain⟨hex,hcr⟩:=hex;obtain⟨ra,rt,re,hT,hg,hnp,hlen⟩:=Ea hcr;have hret:(mp P false fn σ').den P (·=r) (args.flatMap AV.cells++rs) K':=by
    rw[hT]at hcr⊢
    unfold qB at hcr;dsimp only at hcr
    rw[if_pos ⟨hg,hnp,hlen⟩]at hcr;exact hcr
   have hl:=q6 [];rw[Nb]at hl;obtain⟨_,_,m3⟩:=pJ (P:=P) (w:=w) (env:=args.flatMap AV.cells++rs) (κ:=fun _=>undef) (F:=S) _ 0 n _ args vs.toList hm (ho fn hf) (by simpa using hvs.1) (fun i u x h1 h2=>hvs.2 i u x (by simpa using h1) h2) (fun j y hy=>by
    rw[Nq,Nm (List.getElem?_eq_some_iff.1 hy).1];exact hy)
   have hv1:vs.size=1:=by simpa using m1'.symm
   have hden:Den S w vs[0] (.sl row (den (args.flatMap AV.cells++rs) (.v 0)).l):=(m3 0 (.vs row (.v 0)) vs[0] rfl (by simp)).1
   obtain⟨A,cap,hv,_,_,_,hA⟩:=hden.view;have ha:(vs++Nc (fn.ntmps-vs.size) undef).getD 0 undef=.slice A (den (args.flatMap AV.cells++rs) (.v 0)).l.length cap:=by
    rw[pc,<-hv];simp[Nz,hv1]
   have htm:∀t,t≠0->σ.tmp t=.any:=fun t ht=>by
    rw[hσ];show(Ov.of [SV.vs row (.v 0)] fn.ntmps).get SV.any t=SV.any
    rw[Ov.get_of];cases t with
    |zero=>exact absurd rfl ht
    |succ t=>rfl
   obtain⟨_,_,_,_,z1,z2,z3,_⟩:=sL hci;cases A with
   | none=>
    refine .inr ((Bj hf hb hci ht hres ha (L:=σ.L) ?_ hr1 hp1 hq1).mono ?_)
    ·rw[hσ]
     show _=mx _ _
     rw[Ef];simp[hv1];omega
    rintro e w' ⟨rfl,rfl⟩;have hnil:(den (args.flatMap AV.cells++rs) (.v 0)).l=[]:=by
     cases hl0:(den (args.flatMap AV.cells++rs) (.v 0)).l with
     |nil=>rfl
     |cons x l=>
      obtain⟨a,h1,_⟩:=hA 0 x (by rw[hl0];rfl)
      cases h1
    rw[hT]at hret;have hret:R.row ra rt (den (args.flatMap AV.cells++rs) re).l=r:=hret
    refine⟨_,S,[],rfl,?_,NL,fun k hk=>(by cases hk),fun k hk=>⟨.inl hk,hS k hk⟩,Below.refl _ _⟩
    rw[<-hret,Fz hnil re hnp];unfold i9;rw[if_neg (by rw[hg];simp)]
    exact⟨[],World.ownsRow_nil _ _ _ _,hlen,⟨fun i r hr=>by simp at hr,fun i r k x hr=>by simp at hr⟩,rfl⟩
   |some A=>
    exact .inl ⟨false,σ',rs,K',hret,fun rv hrv hrel=>zk hf hb hci ht hex hl hrel (fun _ _ h=>h) ha hr1 hp1 hq1 (htm _ z1) (htm _ z2) (htm _ z3) hrv⟩
  obtain⟨ex,σ',rs,K',q1,_,_,_,_,q6⟩:=pX (w0:=w) (cfg:=cfg) hfit 12 (·=r) K none f c _ σ (args.flatMap AV.cells) hn0 hk0 h
  have hex:ex.out=true/\(mp P (cfg.cons.contains (f+1000000)) fn σ').den P (·=r) (args.flatMap AV.cells++rs) K':=by
   cases ex with
   |exit id=>exact q1.elim
   |panic v=>exact q1.elim
   |normal=>exact⟨rfl,q1⟩
   |ret=>exact⟨rfl,q1⟩
  obtain⟨hex,hret⟩:=hex;have hl:=q6 [];rw[Nb]at hl;exact .inl ⟨_,σ',rs,K',hret,fun rv hrv hrel=>nB hf hb hex hl hrel (fun _ _ h=>h) hrv⟩
 rotate_left
 ·exact hdone
 obtain⟨sh,rv,σ2,v2,re,hrv,hnd,hre,hret,hcase⟩:=KZ hret;obtain⟨_,_,m3⟩:=pJ (P:=P) (w:=w) (env:=args.flatMap AV.cells++rs) (κ:=fun _=>undef) (F:=S) _ 0 n xs args vs.toList hm (ho fn hf) (by simpa using hvs.1) (fun i u x h1 h2=>hvs.2 i u x (by simpa using h1) h2) (fun j y hy=>by
  rw[Nq,Nm (List.getElem?_eq_some_iff.1 hy).1];exact hy)
 have hblk:∀b,σ.blk b=none:=fun b=>by rw[hσ];exact Ov.get_out (Nat.zero_le _)
 have hN:σ.N=0:=by rw[hσ];rfl
 have hfr:σ=SS.frame { rf:=⟨[],[],0⟩,hp:=⟨[],[],0⟩,n,known:=[],dep:=0 } xs fn.ntmps:=hσ
 obtain⟨fr1,fr2⟩:=sd (σ:={ rf:=⟨[],[],0⟩,hp:=⟨[],[],0⟩,n,known:=[],dep:=0 }) (env:=args.flatMap AV.cells++rs) (κ:=fun _=>undef) (F:=S) (w:=w) (vs:=xs) (us:=vs) (n:=fn.ntmps) m1'.symm (fun i x u hx hu=>(m3 i x u hx (by simpa using hu)).1)
 rw[<-hfr]at fr1 fr2;have hrel:Rel w (args.flatMap AV.cells++rs) (fun _=>undef) S (fun _=>False) σ.tmp σ.blk σ.L { tmps:=vs++Nc (fn.ntmps-vs.size) undef,defers:=[] } w:=by
  refine⟨fr1,fr2,fun b x hx=>?_,fun b c k hb=>?_,fun b k hb=>?_,hG,hS,fun t b hb=>?_,fun b x hx=>?_,Below.refl _ _⟩
  ·rw[hblk]at hx;cases hx
  ·rw[hblk]at hb;cases hb
  ·rw[hblk]at hb;cases hb
  ·rw[hfr]at hb
   exact nP (U:=fun _=>False) (fun x hx b hb=>by
    obtain⟨i,hi⟩:=ND hx;have hv:i<vs.size:=by rw[<-m1'];exact(List.getElem?_eq_some_iff.1 hi).1
    have:=(m3 i x vs[i] hi (by simp[hv])).2
    rw[this]at hb;cases hb) t b hb
  ·rw[hblk]at hx;cases hx
 refine(hgo rv hrv hrel).mono ?_
 rintro e w' ⟨u,κ',F',a',rfl,hr,k,hv⟩;have hfin:∃F2,Rel w (args.flatMap AV.cells++rs) κ' F2 (fun b=>False\/(σ.N<=b/\b<σ'.N)) σ2.tmp σ2.blk σ2.L a' w'/\Kept (fun _=>False) σ.blk (fun _=>undef) S w σ2.blk κ' F2 w'/\SVden (args.flatMap AV.cells++rs) κ' F2 w' v2 u:=by
  rcases hcase with⟨rfl,rfl⟩|⟨rfl,rfl⟩
  ·exact⟨F',hr,k,hv⟩
  ·obtain⟨y1,y2,y3,y4,_⟩:=cM σ' _ (lJ σ' (rv.flatMap (aW σ'.blk))).1
   obtain⟨F1,r1,k1⟩:=hr.freeze (rv.flatMap (aW σ'.blk));rw[<-y1]at r1 k1;have r1':=r1;rw[<-y3,<-y4]at r1';refine⟨F1,r1',k.trans k1 (fun _ h=>h.elim),tE (b0:=w.heap.size) (fun b e t l hb=>r1.blks b _ hb) (hv.keep (fun _ _=>rfl) k1.mono (fun _ _=>rfl))⟩
 obtain⟨F2,hr,k,hv⟩:=hfin;obtain⟨d1,d2⟩:=G2 hr v2 sh re u hre hv;rw[hret]at d1;refine⟨u,F2,_,rfl,d1,Aj _ (ye _ hnd) (fun b=>?_) (fun b c j hb hc h1 h2=>hr.inj b c j (d2 b hb) (d2 c hc) (by simpa using h1) (by simpa using h2)),fun j hj hF=>?_,fun j hj=>⟨?_,hr.F j hj⟩,hr.below⟩
 ·cases ai (κ' b)<;>simp
 ·obtain⟨b,hb,hj⟩:=List.mem_flatMap.1 hj
  exact hr.nF b j (d2 b hb) (by simpa using hj) hF
 ·rcases k.new j hj with h1|h1|⟨b,h1,_⟩
  ·exact .inl h1
  ·exact .inr h1
  ·rw[hblk]at h1;cases h1
variable {α:Type} {g:α->List Int} {f:α->List Value} {k B:Nat} {w w':World} {v:Value} {l:List α} {P:Program} {A:Option Addr} {c:Nat}
def Bu:Value->Array Value
 |.tuple cs=>cs
 |_=>#[]
def R.val:R->Value
 |.i n=>.int .i64 n
 |.b x=>.bool x
 |.nk k m=>.int k m
 |.st l=>ar l
 |.row _ _ _=>undef
 |.nil=>.tuple #[]
 |.cons x y=>.tuple (x.val::(Bu y.val).toList).toArray
 |.agg x=>.agg (Bu x.val)
 |.tup x=>.tuple (Bu x.val)
def R.flatB:R->Bool
 |.i _|.b _|.nk _ _|.st _|.nil=>true
 |.row _ _ _=>false
 |.cons x y=>x.flatB&&y.flatB&&y.proper
 |.agg x|.tup x=>x.flatB&&x.proper
theorem n7{F:Nat->Prop}{base:Nat}:∀(r:R) (u:Value) (bs:List Nat),r.flatB=true->i9 F base w r u bs->u=r.val
 |.i _,u,bs,_,h=>h.1
 |.b _,u,bs,_,h=>h.1
 |.nil,u,bs,_,h=>h.1
 |.nk _ _,u,bs,_,h=>h.1
 |.st _,u,bs,_,h=>h.1
 |.row _ _ _,u,bs,hf,_=>by cases hf
 |.cons x y,u,bs,hf,h=>by
  simp only[R.flatB,Na]at hf;obtain⟨p,q,b1,b2,rfl,h1,h2,rfl⟩:=h;have e1:=n7 x p b1 hf.1.1 h1;have e2:=n7 y _ b2 hf.1.2 h2;simp only[R.val,e1,<-e2,Bu]
 |.agg x,u,bs,hf,h=>by
  simp only[R.flatB,Na]at hf;obtain⟨cs,rfl,_,h2⟩:=h;have e2:=n7 x _ bs hf.1 h2;simp only[R.val,<-e2,Bu]
 |.tup x,u,bs,hf,h=>by
  simp only[R.flatB,Na]at hf;obtain⟨cs,rfl,_,h2⟩:=h;have e2:=n7 x _ bs hf.1 h2;simp only[R.val,<-e2,Bu]
theorem Ji{fn:Nat}{args:List AV}{r:R}(hc:Con P fn args r)(hr:r.flatB=true){vs:Array Value}(hG:GlobOK (fun k=>k<w.heap.size) w)(hvs:Cg (fun k=>k<w.heap.size) w vs args):Calls P fn vs w fun e w'=>e=.returned r.val/\Below w.heap.size w w':=
 (hc _ vs w (fun _ h=>h) hG hvs).mono fun _ _ ⟨u,_,bs,he,hd,_,_,_,hb⟩=>⟨by rw[he,n7 r u bs hr hd],hb⟩
end Go.Sx
namespace Go.Sx
open Go
variable {P:Program}
variable {env:List AV}
theorem KK{p:Nat->Prop}(h:∃n,p n):∃n,p n/\∀k,p k->n<=k:=by
 obtain⟨n,hn⟩:=h;induction n using NW with
 | _ n ih=>
  by_cases h:∃m,m<n/\p m
  ·obtain⟨m,hm,hp⟩:=h
   exact ih m hm hp
  ·exact⟨n,hn,fun k hk=>Nat.not_lt.1 fun hl=>h ⟨k,hl,hk⟩⟩
open Classical in
noncomputable def nl (p:Nat->Prop):Nat:=if h:∃n,p n then(KK h).choose else 0
theorem ma{p:Nat->Prop}(h:∃n,p n):p (nl p)/\∀k,p k->nl p<=k:=by
 unfold nl;rw[dif_pos h];exact(KK h).choose_spec
theorem T.den_mono{Post:R->Prop}:∀(t:T) {env:List AV} {K K':Nat->List AV->Prop},t.den P Post env K->(∀l us,K l us->K' l us)->t.den P Post env K':=by
 intro t;induction t with
 |stop _ _=>intro env K K' h _;exact h
 |ret x=>intro env K K' h _;exact h
 |need e t ih=>intro env K K' h hK;exact⟨h.1,ih h.2 hK⟩
 |br e a b iha ihb=>intro env K K' h hK;exact⟨fun hb=>iha (h.1 hb) hK,fun hb=>ihb (h.2 hb) hK⟩
 |call f args sh t ih=>intro env K K' h hK;obtain⟨r,h1,h2,h3⟩:=h;exact⟨r,h1,h2,ih h3 hK⟩
 |loop lvl inits sorts key locs t ih=>
  intro env K K' h hK;obtain⟨I,μ,h1,h2⟩:=h;refine⟨I,μ,h1,fun vs hv hI=>ih (h2 vs hv hI) fun l us hu=>?_⟩
  unfold upd at hu⊢
  by_cases e:l=lvl
  ·rw[if_pos e]at hu⊢;exact hu
  ·rw[if_neg e]at hu⊢;exact hK _ _ hu
 |again lvl es=>intro env K K' h hK;exact hK _ _ h
 |ext f ks vs t ih=>intro env K K' h hK;exact⟨h.1,ih h.2 hK⟩
 |join lvl sorts a b iha ihb=>
  intro env K K' h hK;refine iha h fun l us hu=>?_
  unfold upd at hu⊢
  by_cases e:l=lvl
  ·rw[if_pos e]at hu⊢;exact ihb hu hK
  ·rw[if_neg e]at hu⊢;exact hK _ _ hu
theorem T.den_loop{Post:R->Prop}{σ:Type}{K:Nat->List AV->Prop}{lvl:Nat}{inits:E}{sorts:List Ty}{key:Nat×Nat×Nat}{locs:List Loc}{t:T}(enc:σ->List AV)(Inv:σ->Prop)(m:σ->Nat)(s0:σ)
  (h0:eo sorts (Sx.den env inits).g=enc s0) (hI:Inv s0)
  (hr:∀s,Inv s->t.den P Post (env++enc s) (upd K lvl fun us=>∃s',eo sorts us=enc s'/\Inv s'/\m s'<m s)):(T.loop lvl inits sorts key locs t).den P Post env K:=by
 refine⟨fun vs=>∃s,vs=enc s/\Inv s,fun vs=>nl fun k=>∃s,vs=enc s/\Inv s/\m s=k,⟨s0,h0,hI⟩,fun vs _ ⟨s,hs,hi⟩=>?_⟩
 obtain⟨⟨s1,e1,i1,k1⟩,_⟩:=ma (p:=fun k=>∃s,vs=enc s/\Inv s/\m s=k) ⟨m s,s,hs,hi,rfl⟩
 obtain⟨L,hL⟩:∃L,L=nl fun k=>∃s,vs=enc s/\Inv s/\m s=k:=⟨_,rfl⟩
 dsimp only;rw[<-hL]at k1⊢
 subst e1;refine T.den_mono t (hr s1 i1) fun l us h=>?_
 unfold upd at h⊢
 by_cases e:l=lvl
 ·rw[if_pos e]at h⊢
  obtain⟨s',a,b,c⟩:=h;refine⟨⟨s',a,b⟩,?_⟩
  exact Nat.lt_of_le_of_lt ((ma (p:=fun k=>∃s,eo sorts us=enc s/\Inv s/\m s=k) ⟨m s',s',a,b,rfl⟩).2 _ ⟨s',a,b,rfl⟩) (Nat.lt_of_lt_of_eq c k1)
 ·rw[if_neg e]at h⊢;exact h
abbrev Lv:=List (List AV)
abbrev cA(l:Lv)(i:Int)(k:Nat):AV:=(l.getD i.toNat []).getD k (.int 0)
abbrev cI(l:Lv)(i:Int)(k:Nat):Int:=(cA l i k).i
abbrev cB(l:Lv)(i:Int)(k:Nat):Bool:=(cA l i k).b
abbrev cR(l:Lv)(i:Int)(k:Nat):Value:=(cA l i k).r
abbrev cN(l:Lv)(i:Int)(k:Nat):Int:=(cA l i k).num
abbrev cS(l:Lv)(i:Int)(k:Nat):List UInt8:=(cA l i k).s
abbrev cL(l:Lv)(i:Int)(k:Nat):Lv:=(cA l i k).l
def b9(a b:Int):Int:=if b<a then b else a
def yK(a b:Int):Int:=if a<b then b else a
def af{σ α:Type}(step:(σ->Option α)->σ->Option α):Nat->σ->Option α
 |0,_=>none
 |n+1,s=>step (af step n) s
end Go.Sx
