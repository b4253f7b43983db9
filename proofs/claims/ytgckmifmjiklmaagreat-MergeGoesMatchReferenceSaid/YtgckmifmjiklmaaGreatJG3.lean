/-
  Texts of this claim, joined (part 3).
-/
import Derived.Test.YtgckmifmjiklmaaGreatJG2
import Derived.RecoverIn
import Derived.Test.YtgckmifmjiklmaaGreatProg
set_option linter.unusedVariables false
set_option linter.unusedSimpArgs false
set_option linter.unusedSectionVars false
set_option linter.constructorNameAsVariable false
namespace Go.Sx
open Go Go.RowKit Go.Dial
variable {env:List AV} {κ κ':Nat->Value} {F F':Nat->Prop} {w w' w0:World} {U:Nat->Prop} {tmp:Nat->SV} {blk:Nat->Option SB} {L:Nat} {a:Act} {P:Program}
theorem Ix{α β:Type}{f:α->Sem β}:∀(xs:List α) (us:List β),us.length=xs.length->(∀(i:Nat) x u,xs[i]?=some x->us[i]?=some u->(f x).run P w=.ok u w)->(xs.mapM f).run P w=.ok us w
 |[],us,hl,_=>by
  have:us=[]:=List.eq_nil_of_length_eq_zero hl
  subst this;simp
 | x::xs,us,hl,h=>by
  cases us with
  |nil=>simp at hl
  |cons u us=>
   rw[List.mapM_cons];simp only[Sem.run_bind,h 0 x u rfl rfl,Result.andThen_ok,Ix xs us (by simpa using hl) (fun i x u a b=>h (i+1) x u (by simpa using a) (by simpa using b)),Sem.run_pure]
theorem IX{σ:SS}(h:Rel w0 env κ F U σ.tmp σ.blk L a w){ty:Nat}{x v:SV}{u:Value}(hx:SVden env κ F w x u)(hv:uZ P σ ty x=some v):∃p r,u=.pointer (some p)/\(loadVar ty p).run P w=.ok r w/\SVden env κ F w v r:=by
 unfold uZ at hv;split at hv
 ·rename_i hk
  split at hv
  ·rename_i b off
   obtain⟨g,h1,rfl⟩:=hx;split at hv
   ·rename_i ty' xs hb
    obtain⟨g',cs,h3,h4,h5,h6,h7,h8⟩:=h.blks b _ hb;rw[h1]at h3;cases h3
    split at hv
    ·rename_i hle
     obtain⟨t1,t2⟩:=bP h7 h6;refine⟨⟨g,off,none⟩,?_⟩
     split at hv
     ·rename_i hag
      cases hv
      refine⟨.agg ((cs.toList.drop off).take (P.cellsOf ty)).toArray,rfl,?_,⟨_,rfl,bM _,Bb h7 h6 _ _⟩⟩
      have:=Ca (P:=P) (w:=w) (t:=ty) (p:=⟨g,off,none⟩) (us:=(cs.toList.drop off).take (P.cellsOf ty)) hk (by simp;omega) (fun j u hu=>by
       rw[ub];rw[List.getElem?_take]at hu;split at hu
       ·rw[List.getElem?_drop]at hu
        simp[World.cell?,h4];simpa using hu
       ·cases hu) hag
      simpa[Instr.loadAt,Instr.sureAddr]using this
     ·rename_i hag
      split at hv
      ·rename_i y hy
       cases hv
       obtain⟨r,hr,hd⟩:=ug h7 h6 hy;refine⟨r,rfl,?_,hd⟩
       have:=xV (P:=P) (w:=w) (t:=ty) (p:=⟨g,off,none⟩) (u:=r) hk (by simp[World.cell?,h4,hr]) (by simpa using hag)
       simpa[Instr.loadAt,Instr.sureAddr]using this
      ·cases hv
    ·cases hv
   ·cases hv
  ·cases hv
 ·cases hv
theorem pM{σ:SS}(h:Rel w0 env κ F U σ.tmp σ.blk L a w):∀(l:List ResultVar) (vs:List SV),bJ P σ l=some vs->∃us:List Value,us.length=l.length/\vs.length=l.length ∧
  (∀(i:Nat) x u,l[i]?=some x->us[i]?=some u->((match x with|.tmp t=>pure (a.tmps.getD t undef)|.cell b t=>do loadVar t (<-asAddr (a.tmps.getD b undef)):Sem Value)).run P w=.ok u w)/\∀(i:Nat) x u,vs[i]?=some x->us[i]?=some u->SVden env κ F w x u
 |[],vs,hv=>by
  simp only[bJ]at hv;cases hv
  exact⟨[],rfl,rfl,fun i x u h1=>by simp at h1,fun i x u h1=>by simp at h1⟩
 | .tmp t::l,vs,hv=>by
  simp only[bJ]at hv;obtain⟨vs',h1,rfl⟩:=Option.map_eq_some_iff.1 hv;obtain⟨us,i1,i2,i3,i4⟩:=pM h l vs' h1;refine⟨a.tmps.getD t undef::us,by simp[i1],by simp[i2],fun i x u g1 g2=>?_,fun i x u g1 g2=>?_⟩
  ·cases i with
   |zero=>simp only[List.getElem?_cons_zero,Option.some.injEq]at g1 g2;subst g1;subst g2;rfl
   |succ i=>simp at g1 g2;exact i3 i x u g1 g2
  ·cases i with
   |zero=>simp only[List.getElem?_cons_zero,Option.some.injEq]at g1 g2;subst g1;subst g2;exact h.tmps t
   |succ i=>simp at g1 g2;exact i4 i x u g1 g2
 | .cell b ty::l,vs,hv=>by
  simp only[bJ]at hv;split at hv
  ·rename_i v vs' h1 h2
   cases hv
   obtain⟨us,i1,i2,i3,i4⟩:=pM h l vs' h2;obtain⟨p,r,e1,e2,e3⟩:=IX h (h.tmps b) h1;refine⟨r::us,by simp[i1],by simp[i2],fun i x u g1 g2=>?_,fun i x u g1 g2=>?_⟩
   ·cases i with
    |zero=>
     simp only[List.getElem?_cons_zero,Option.some.injEq]at g1 g2;subst g1;subst g2;simp only[e1,asAddr,Sem.run_bind,Sem.run_pure,Result.andThen_ok,e2]
    |succ i=>simp at g1 g2;exact i3 i x u g1 g2
   ·cases i with
    |zero=>simp only[List.getElem?_cons_zero,Option.some.injEq]at g1 g2;subst g1;subst g2;exact e3
    |succ i=>simp at g1 g2;exact i4 i x u g1 g2
  ·cases hv
def pack:List Value->Value
 |[u]=>u
 |us=>.tuple us.toArray
theorem sn{fn:Func}{us:List Value}(hl:us.length=fn.results.size)(h:∀(i:Nat) x u,fn.results.toList[i]?=some x->us[i]?=some u->((match x with|.tmp t=>pure (a.tmps.getD t undef)|.cell b t=>do loadVar t (<-asAddr (a.tmps.getD b undef)):Sem Value)).run P w=.ok u w):
  (results fn a.tmps).run P w=.ok (pack us) w:=by
 have h1:(fn.results.mapM (m:=Sem) fun|.tmp t=>pure (a.tmps.getD t undef)|.cell b t=>do loadVar t (<-asAddr (a.tmps.getD b undef))).run P w=.ok us.toArray w:=by
  rw[Array.mapM_eq_mapM_toList];have:=Ix (P:=P) (w:=w) fn.results.toList us (by simpa using hl) h
  simp only[map_eq_pure_bind,Sem.run_bind];refine(congrArg (Result.andThen · _) this).trans ?_
  rfl
 unfold results;rw[Sem.run_bind];refine(congrArg (Result.andThen · _) h1).trans ?_
 simp only[Result.andThen_ok,Sem.run_pure];congr 1
 match us with
 |[]=>rfl
 |[u]=>rfl
 |u::v::us=>simp[pack]
theorem Em{xs:SV}{off n:Nat}:∀b∈(xs.cut off n).names,b∈xs.names:=by
 intro b hb;obtain⟨y,hy,hb⟩:=(gk _ b).1 hb;exact cj xs y (List.mem_of_mem_drop (List.mem_of_mem_take hy)) b hb
theorem lp{σ:SS}(h:Rel w0 env κ F U σ.tmp σ.blk σ.L a w):∀(l:List ResultVar) (vs:List SV),bJ P σ l=some vs->∀x∈vs,∀b∈x.names,U b
 |[],vs,hv=>by simp only[bJ]at hv;cases hv;exact fun x hx=>by cases hx
 |.tmp t::l,vs,hv=>by
  simp only[bJ]at hv;obtain⟨vs',h1,rfl⟩:=Option.map_eq_some_iff.1 hv;intro x hx b hb;rcases List.mem_cons.1 hx with rfl|hx
  ·exact h.tnames t b hb
  ·exact lp h l vs' h1 x hx b hb
 | .cell c ty::l,vs,hv=>by
  simp only[bJ]at hv;split at hv
  ·rename_i v vs' h1 h2
   cases hv
   intro x hx b hb;rcases List.mem_cons.1 hx with rfl|hx
   ·unfold uZ at h1
    split at h1
    ·split at h1
     ·rename_i d off hd
      split at h1
      ·rename_i ty' xs hbl
       have hn:∀b∈xs.names,U b:=fun b hb=>(h.bnames d _ hbl).2 b hb
       split at h1
       ·split at h1
        ·cases h1;exact hn b (Em b hb)
        ·split at h1
         ·rename_i y hy
          cases h1
          refine hn b (Em (off:=off) (n:=1) b ?_)
          rw[hy];exact List.mem_append_left _ hb
         ·cases h1
       ·cases h1
      ·cases h1
     ·cases h1
    ·cases h1
   ·exact lp h l vs' h2 x hx b hb
  ·cases hv
theorem OE{vs:List SV}{us:List Value}(hl:us.length=vs.length)(h:∀(i:Nat) x u,vs[i]?=some x->us[i]?=some u->SVden env κ F w x u):SVden env κ F w (fi vs) (pack us):=by
 match vs,us,hl,h with
 |[v],[u],_,h=>exact h 0 v u rfl rfl
 |[],[],_,h=>exact⟨_,rfl,bM _,gF rfl h⟩
 |v::v'::vs,u::u'::us,hl,h=>exact⟨_,rfl,bM _,gF hl h⟩
 |[],_::_,hl,_=>simp at hl
 |_::_,[],hl,_=>simp at hl
 |[_],_::_::_,hl,_=>simp at hl
 |_::_::_,[_],hl,_=>simp at hl
theorem LL{vs:List SV}:∀b∈(fi vs).names,∃x∈vs,b∈x.names:=by
 intro b hb;match vs with
 |[v]=>exact⟨v,List.mem_singleton.2 rfl,hb⟩
 |[]=>cases hb
 |v::v'::vs=>exact(gk _ b).1 hb
theorem Rel.shut(h:Rel w0 env κ F U tmp blk L a w){D:Nat}{ds:Option (List Deferred)}{o:Obj}(hD:w.heap[D]?=some (.deferred ds))(hF:¬F D)(hB:w0.heap.size<=D):Rel w0 env κ F U tmp blk L a (w.putObj D o):=by
 refine h.world (fun _ h=>h) (fun _ _=>rfl) (fun _ h=>h) (fun k hk=>World.putObj_heap_other (fun e=>hF (e▸hk))) (fun b x hx=>.inl ⟨hx,fun hl k hk=>World.putObj_heap_other (fun e=>?_)⟩) h.inj h.nF (fun k hk=>by rw[World.putObj_size];exact h.F k hk) ?_
 ·subst e;exact(h.blks b x hx).noDefer hl hk _ hD
 ·refine h.below.trans ⟨rfl,rfl,rfl,by rw[World.putObj_size];exact Nat.le_refl _,fun k hk=>World.putObj_heap_other (by omega)⟩
theorem Kept.shut{blk':Nat->Option SB}(k:Kept U blk κ F w blk' κ' F' w'){D:Nat}{o:Obj}(hD:w.heap.size<=D):Kept U blk κ F w blk' κ' F' (w'.putObj D o):=
 { k with recs:=fun j r hr=>by
            obtain⟨r',h1,h2⟩:=k.recs j r hr;have:=fa hr
            exact⟨r',(World.putObj_heap_other (by omega)).trans h1,h2⟩,size:=by rw[World.putObj_size];exact k.size,frame:=fun j hj hn=>(World.putObj_heap_other (by omega)).trans (k.frame j hj hn) }
def xS(w0:World)(env:List AV)(κ:Nat->Value)(F U:Nat->Prop)(blk:Nat->Option SB)(N:Nat)(w:World)(σ':SS)(rs:List SV)(e:Ending)(w':World):Prop:=
 ∃u κ' F' a',e=.returned u/\Rel w0 env κ' F' (fun b=>U b\/(N<=b/\b<σ'.N)) σ'.tmp σ'.blk σ'.L a' w'/\Kept U blk κ F w σ'.blk κ' F' w'/\SVden env κ' F' w' (fi rs) u
theorem qC{fn:Func}{σ':SS}{rs:List SV}(hres:bJ P σ' fn.results.toList=some rs){N:Nat}(hB:w0.heap.size<=w.heap.size){F':Nat->Prop}{a':Act}:∀(Ds:List Nat) (w':World),Rel w0 env κ' F' (fun b=>U b\/(N<=b/\b<σ'.N)) σ'.tmp σ'.blk σ'.L a' w'->Kept U blk κ F w σ'.blk κ' F' w' →
  Ds.Nodup->(∀D∈Ds,w.heap.size<=D/\w'.heap[D]?=some (.deferred (some []))/\¬F' D)->LeavesInM (FR none) 0 P fn a'.tmps (xS w0 env κ F U blk N w σ' rs) (Ds.map gD) .returning w'
 |[],w',hr,hk,_,_=>by
  obtain⟨us,i1,i2,i3,i4⟩:=pM hr _ _ hres;have hrun:=sn (P:=P) (w:=w') (a:=a') (fn:=fn) (us:=us) (by simpa using i1) i3
  exact⟨pack us,hrun,pack us,κ',F',a',rfl,hr,hk,OE (by rw[i1,i2]) i4⟩
 |D::Ds,w',hr,hk,hnd,hD=>by
  obtain⟨h1,h2,h3⟩:=hD D (List.mem_cons_self ..);rw[List.nodup_cons]at hnd;refine⟨(fun h=>by cases h),.inl ⟨D,w'.putObj D (.deferred none),rfl,run_takeDeferred h2,?_⟩⟩
  refine qC hres hB Ds _ (hr.shut h2 h3 (by omega)) (hk.shut h1) hnd.2 (fun E hE=>?_)
  obtain⟨g1,g2,g3⟩:=hD E (List.mem_cons_of_mem _ hE);exact⟨g1,(World.putObj_heap_other (fun e:E=D=>hnd.1 (by rw[<-e];exact hE))).trans g2,g3⟩
def Ll(w0:World)(env:List AV)(κ:Nat->Value)(F U:Nat->Prop)(blk:Nat->Option SB)(N:Nat)(w:World)(σ':SS)(v:Value)(e:Ending)(w':World):Prop:=
 ∃κ' F' a',e=.panicked (fW v)/\Rel w0 env κ' F' (fun b=>U b\/(N<=b/\b<σ'.N)) σ'.tmp σ'.blk σ'.L a' w'/\Kept U blk κ F w σ'.blk κ' F' w'
theorem El{fn:Func}{σ':SS}{v:Value}{N:Nat}(hB:w0.heap.size<=w.heap.size){F':Nat->Prop}{a':Act}:∀(Ds:List Nat) (w':World),Rel w0 env κ' F' (fun b=>U b\/(N<=b/\b<σ'.N)) σ'.tmp σ'.blk σ'.L a' w'->Kept U blk κ F w σ'.blk κ' F' w' →
  Ds.Nodup->(∀D∈Ds,w.heap.size<=D/\w'.heap[D]?=some (.deferred (some []))/\¬F' D)->LeavesInM (FR none) 0 P fn a'.tmps (Ll w0 env κ F U blk N w σ' v) (Ds.map gD) (.panicking (fW v)) w'
 |[],w',hr,hk,_,_=>⟨κ',F',a',rfl,hr,hk⟩
 |D::Ds,w',hr,hk,hnd,hD=>by
  obtain⟨h1,h2,h3⟩:=hD D (List.mem_cons_self ..);rw[List.nodup_cons]at hnd;refine⟨(fun h=>by cases h),.inl ⟨D,w'.putObj D (.deferred none),rfl,run_takeDeferred h2,?_⟩⟩
  refine El hB Ds _ (hr.shut h2 h3 (by omega)) (hk.shut h1) hnd.2 (fun E hE=>?_)
  obtain⟨g1,g2,g3⟩:=hD E (List.mem_cons_of_mem _ hE);exact⟨g1,(World.putObj_heap_other (fun e:E=D=>hnd.1 (by rw[<-e];exact hE))).trans g2,g3⟩
theorem C2{f:Nat}{fn:Func}{c:Code}(hfn:P.funcs[f]?=some fn)(hb:fn.body=some c){σ σ':SS}{v:Value}(hl:Leads P w0 none c env σ (.panic v) σ'){vs:Array Value}
  (hr:Rel w0 env κ F U σ.tmp σ.blk σ.L { tmps:=vs++Array.replicate (fn.ntmps-vs.size) undef,defers:=[] } w) (hU:∀b,σ.N<=b->¬U b):
  Calls P f vs w (Ll w0 env κ F U σ.blk σ.N w σ' v):=by
 refine mP (ro:=none) (n:=0) (callsIn_of_wp_marks hfn hb trivial ?_)
 refine wpIn_mono (hl.go κ F U _ w hr hU (fun b hb=>by cases hb)) ?_
 rintro e a' w' ⟨rfl,κ',F',r,k,Ds,m1,m2,m3⟩;have key:LeavesInM (FR none) 0 P fn a'.tmps (Ll w0 env κ F U σ.blk σ.N w σ' v) a'.defers (.panicking (fW v)) w':=by
  rw[m1,List.append_nil];exact El hr.below.size Ds w' r k m2 m3
 exact key
theorem lz{f:Nat}{fn:Func}{c:Code}(hfn:P.funcs[f]?=some fn)(hb:fn.body=some c){σ σ':SS}{ex:Ex}(hex:ex.out=true)(hl:Leads P w0 none c env σ ex σ'){vs:Array Value}
  (hr:Rel w0 env κ F U σ.tmp σ.blk σ.L { tmps:=vs++Array.replicate (fn.ntmps-vs.size) undef,defers:=[] } w) (hU:∀b,σ.N<=b->¬U b) {rs:List SV} (hres:bJ P σ' fn.results.toList=some rs):
  Calls P f vs w (xS w0 env κ F U σ.blk σ.N w σ' rs):=by
 refine mP (ro:=none) (n:=0) (callsIn_of_wp_marks hfn hb trivial ?_)
 refine wpIn_mono (hl.go κ F U _ w hr hU (fun b hb=>by cases hb)) ?_
 rintro e a' w' ⟨rfl,κ',F',r,k,Ds,m1,m2,m3⟩;have key:LeavesInM (FR none) 0 P fn a'.tmps (xS w0 env κ F U σ.blk σ.N w σ' rs) a'.defers .returning w':=by
  rw[m1,List.append_nil];exact qC hres hr.below.size Ds w' r k m2 m3
 cases ex with
 |normal=>exact key
 |ret=>exact key
 |exit id=>cases hex
 |panic v=>cases hex
theorem Jy{con:Nat->Bool}{own:Bool}{tr:E->Option Bool}{nm:Nat}{o:Oper}{f:Nat}{vs:List SV}(h:cV P con own tr nm (ah tmp) blk o=.inl f vs):
  ∃g cargs tys fs xs fn,o.op=.call { callee:=.value g,args:=cargs,argTypes:=tys }/\ah tmp g=.fn f fs xs/\P.funcs[f]?=some fn/\fn.body.isSome=true/\vs=fs.list++cargs.toList.map (fun y=>nz blk (ah tmp y))++xs.list:=by
 unfold cV at h;split at h
 ·rename_i x hx
  obtain⟨_,_,_,rfl⟩:=nU hx;cases h
 obtain⟨wr,hwr⟩:∃wr,wr=bb blk (frz P con own (ah tmp) blk o):=⟨_,rfl⟩
 simp only[<-hwr]at h;split at h
 ·cases h
 ·cases h
 ·obtain⟨g,cargs,tys,ho,hcall⟩:=uO h rfl
  unfold jX at hcall;split at hcall
  rotate_left
  ·cases hcall
  ·cases hcall
  rename_i g' fs xs hg
  have hg0:=O4 hg;split at hcall
  rotate_left
  ·cases hcall
  rename_i fn hfn
  split at hcall
  rotate_left
  ·cases hcall
  rename_i hbody
  split at hcall
  ·split at hcall<;>cases hcall
  ·rename_i hcon
   cases hcall
   have hfrz:frz P con own (ah tmp) blk o=[]:=by
    unfold frz;simp only[ho,hg0];split
    ·rename_i heq
     cases heq
     split
     ·split
      ·rename_i hc _;exact absurd ⟨hc,rfl,rfl⟩ hcon
      ·rfl
     ·rfl
    ·rfl
   rw[hfrz]at hwr;subst hwr;exact⟨g,cargs,tys,fs,xs,fn,ho,hg0,hfn,hbody,rfl⟩
theorem Me{y:SV}{u v:Value}(hy:Ec y=some u)(h:SVden env κ F w y v):v=u:=by
 unfold Ec at hy;split at hy
 ·cases hy
  obtain⟨cs,rfl,_,h2⟩:=h;have h2:Value.tuple cs=.tuple #[]:=h2
  injection h2 with h2
  rw[h2]
 ·cases hy
theorem L4{con:Nat->Bool}{own:Bool}{tr:E->Option Bool}{nm:Nat}{o:Oper}{v:Value}(h:cV P con own tr nm (ah tmp) blk o=.panic v):
  ∃x t y u,o.op=.panic x/\nz blk (ah tmp x)=.iface t y/\Ec y=some u/\v=.iface t u:=by
 unfold cV at h;split at h
 ·rename_i x hx
  obtain⟨_,_,_,rfl⟩:=nU hx;cases h
 obtain⟨wr,hwr⟩:∃wr,wr=bb blk (frz P con own (ah tmp) blk o):=⟨_,rfl⟩
 simp only[<-hwr]at h;split at h
 ·cases h
 ·cases h
 ·obtain⟨x,hop,hp⟩:=Kh h
  have hfrz:frz P con own (ah tmp) blk o=[]:=by
   unfold frz;simp only[hop]
  rw[hfrz]at hwr;subst hwr;unfold o0 at hp;split at hp
  ·rename_i t y hx
   split at hp
   ·rename_i u hy
    cases hp
    exact⟨x,t,y,u,hop,hx,hy,rfl⟩
   ·cases hp
  ·cases hp
theorem OH{con:Nat->Bool}{own:Bool}{tr:E->Option Bool}{nm:Nat}{o:Oper}{b:Nat}{vs:List SV}(h:cV P con own tr nm (ah tmp) blk o=.yld b vs):
  ∃g cargs tys,o.op=.call { callee:=.value g,args:=cargs,argTypes:=tys }/\ah tmp g=.yld b/\vs=cargs.toList.map (fun y=>nz blk (ah tmp y)):=by
 unfold cV at h;split at h
 ·rename_i x hx
  obtain⟨_,_,_,rfl⟩:=nU hx;cases h
 obtain⟨wr,hwr⟩:∃wr,wr=bb blk (frz P con own (ah tmp) blk o):=⟨_,rfl⟩
 simp only[<-hwr]at h;split at h
 ·cases h
 ·cases h
 ·obtain⟨g,cargs,tys,ho,hcall⟩:=uO h rfl
  unfold jX at hcall;split at hcall
  ·split at hcall
   ·split at hcall
    ·split at hcall
     ·split at hcall<;>cases hcall
     ·cases hcall
    ·cases hcall
   ·cases hcall
  ·rename_i c hg
   cases hcall
   have hg0:=Qs hg;have hfrz:frz P con own (ah tmp) blk o=[]:=by
    unfold frz;simp only[ho,hg0]
   rw[hfrz]at hwr;subst hwr;exact⟨g,cargs,tys,ho,hg0,rfl⟩
  ·cases hcall
theorem nE{vs:Array Value}{n t:Nat}:(vs++Array.replicate n undef).getD t undef=vs.getD t undef:=by
 by_cases h:t<vs.size
 ·simp[Array.getD,h];omega
 ·by_cases h2:t<vs.size+n
  ·have:(vs++Array.replicate n undef)[t]'(by simpa using h2)=undef:=by rw[Array.getElem_append_right (by omega)];simp
   simp[Array.getD,h,h2,this]
  ·simp[Array.getD,h,h2]
theorem rE{σ:SS}{vs:List SV}{us:Array Value}{n:Nat}(hl:us.size=vs.length)(h:∀(i:Nat) x u,vs[i]?=some x->us[i]?=some u->SVden env κ F w x u):
  (∀t,SVden env κ F w ((σ.frame vs n).tmp t) ((us++Array.replicate (n-us.size) undef).getD t undef))/\(us++Array.replicate (n-us.size) undef).size=(σ.frame vs n).L:=by
 refine⟨fun t=>?_,?_⟩
 ·rw[nE]
  show SVden env κ F w ((Ov.of vs n).get .any t) _
  rw[Ov.get_of];by_cases ht:t<vs.length
  ·have h1:vs[t]?=some vs[t]:=List.getElem?_eq_getElem ht
   have h2:us[t]?=some us[t]:=Array.getElem?_eq_getElem (by omega)
   have:=h t _ _ h1 h2
   rw[List.getD,h1];simp only[Option.getD_some];have e:us.getD t undef=us[t]:=by simp[Array.getD,show t<us.size by omega]
   rw[e];exact this
  ·rw[List.getD,List.getElem?_eq_none (by omega)]
   trivial
 ·show _=mx vs.length n
  rw[Iz];simp;omega
theorem mb{σ:SS}{vs:List SV}{n:Nat}(h:∀x∈vs,∀b∈x.names,U b):∀t,∀b∈((σ.frame vs n).tmp t).names,U b:=by
 intro t b hb;have hb:b∈((Ov.of vs n).get .any t).names:=hb
 rw[Ov.get_of,List.getD]at hb;cases hv:vs[t]? with
 |none=>rw[hv]at hb;cases hb
 |some x=>rw[hv]at hb;exact h x (List.mem_of_getElem? hv) b hb
theorem jT{xs:SV}{cs:Array Value}(hp:xs.proper=true)(h:SVden env κ F w xs (.tuple cs)):cs.toList.length=xs.list.length/\∀(i:Nat) x u,xs.list[i]?=some x->cs.toList[i]?=some u->SVden env κ F w x u:=by
 obtain⟨h1,h2⟩:=bP hp h;refine⟨by rw[list_len];simpa using h1,fun i x u hx hu=>?_⟩
 obtain⟨u',h3,h4⟩:=h2 i x hx;rw[Array.getElem?_toList,h3]at hu;cases hu;exact h4
theorem ot{l m:List SV}{us vs:List Value}(h1:us.length=l.length/\∀(i:Nat) x u,l[i]?=some x->us[i]?=some u->SVden env κ F w x u)(h2:vs.length=m.length/\∀(i:Nat) x u,m[i]?=some x->vs[i]?=some u->SVden env κ F w x u):
  (us++vs).length=(l++m).length/\∀(i:Nat) x u,(l++m)[i]?=some x->(us++vs)[i]?=some u->SVden env κ F w x u:=by
 refine⟨by simp[h1.1,h2.1],fun i x u hx hu=>?_⟩
 by_cases hi:i<l.length
 ·rw[List.getElem?_append_left hi]at hx
  rw[List.getElem?_append_left (by rw[h1.1];exact hi)]at hu
  exact h1.2 i x u hx hu
 ·rw[List.getElem?_append_right (by omega)]at hx
  rw[List.getElem?_append_right (by rw[h1.1];omega),h1.1]at hu
  exact h2.2 _ x u hx hu
theorem FX{cons:Nat->Bool}{own:Bool}(hfit:PFit P){o:Oper}{σ σ₁:SS}{f:Nat}{vs:List SV}(hc:cV P cons own σ₁.tr σ.N σ.ev σ.blk o=.inl f vs){fn:Func}{c:Code}(hfn:P.funcs[f]?=some fn)(hb:fn.body=some c)
 (hft:∀b∈bh σ.ev o,b<σ.N) (hvn:∀x∈vs,∀b∈x.names,b<σ.N) (hcl:∀b x,σ.blk b=some x->∀c∈x.names,c<σ.N) {tmp':Nat->SV} {blk':Nat->Option SB} (h:Rel w0 env κ F U tmp' blk' σ.L a w) (hrd:∀x∈o.op.operands,ah tmp' x=σ.ev x) (hbk0:∀b,b<σ.N->blk' b=σ.blk b):
 ∃us,(execOp a.eval o).run P w=.ok (.enter f us) w/\(∀c,o.op≠.defer c) ∧
  Rel w0 env κ F (fun b=>U b/\b<σ.N) (σ.frame vs fn.ntmps).tmp (σ.frame vs fn.ntmps).blk (σ.frame vs fn.ntmps).L { tmps:=us++Array.replicate (fn.ntmps-us.size) undef,defers:=[] } w:=by
 have hev:=hrd;have hbk:∀x∈o.op.operands,∀b∈(σ.ev x).names,blk' b=σ.blk b:=fun x hx b hb=>hbk0 b (hft b (by unfold bh;exact List.mem_flatMap.2 ⟨x,by simpa using hx,hb⟩))
 have hc':cV P cons own σ₁.tr σ.N (ah tmp') blk' o=.inl f vs:=by rw[kq hev hbk];exact hc
 obtain⟨g,cargs,tys,fs,xs,fn',hop,hg,hfn',hbody,hvs⟩:=Jy hc';rw[hfn]at hfn';cases hfn'
 have hevg:=h.ev g;rw[hg]at hevg;obtain⟨ds,cs,e1,hp1,hp2,d1,d2⟩:=hevg;have hrun:(execOp a.eval o).run P w=.ok (.enter f (ds++cargs.map a.eval++cs)) w:=by
  have hn:¬fn.name = "runtime.NumGoroutine" := hfit.name f fn hfn
  have hb0:¬fn.body=none:=by rw[hb];intro hh;cases hh
  simp only[execOp,hop,resolve,e1,Deferred.ofValue,Sem.run_bind,Sem.run_pure,Result.andThen_ok,invoke,callFunc];simp[hfn,hn,hb0]
 have hmid:(cargs.map a.eval).toList.length=(cargs.toList.map fun y=>nz blk' (ah tmp' y)).length/\∀(i:Nat) x u,(cargs.toList.map fun y=>nz blk' (ah tmp' y))[i]?=some x->(cargs.map a.eval).toList[i]?=some u->SVden env κ F w x u:=by
  refine⟨by simp,fun i x u hx hu=>?_⟩
  rw[List.getElem?_map]at hx;rw[Array.toList_map,List.getElem?_map]at hu;obtain⟨y,hy,rfl⟩:=Option.map_eq_some_iff.1 hx;rw[hy]at hu;cases hu
  exact tK (fun b e t l hb=>h.blks b _ hb) (h.ev y)
 obtain⟨l1,l2⟩:=ot (ot (jT hp1 d1) hmid) (jT hp2 d2);rw[<-hvs]at l1 l2;have hua:(ds++cargs.map a.eval++cs).toList=ds.toList++(cargs.map a.eval).toList++cs.toList:=by simp
 rw[<-hua]at l1 l2;obtain⟨fr1,fr2⟩:=rE (σ:=σ) (vs:=vs) (us:=ds++cargs.map a.eval++cs) (n:=fn.ntmps) (by simpa using l1) (fun i x u hx hu=>l2 i x u hx (by rw[Array.getElem?_toList];exact hu))
 have hnm:∀x∈vs,∀b∈x.names,U b:=by
  intro x hx b hbn;rw[hvs]at hx;have hgn:∀b∈(ah tmp' g).names,U b:=h.evNames g
  rw[hg]at hgn;rcases List.mem_append.1 hx with hx|hx
  ·rcases List.mem_append.1 hx with hx|hx
   ·exact hgn b (List.mem_append_left _ (cj fs x hx b hbn))
   ·obtain⟨y,hy,rfl⟩:=List.mem_map.1 hx
    exact h.evNames y b (uC _ _ b hbn)
  ·exact hgn b (List.mem_append_right _ (cj xs x hx b hbn))
 have hlow:Rel w0 env κ F (fun b=>U b/\b<σ.N) (fun _=>.any) σ.blk a.tmps.size a w:=by
  have h0:=h.callee (σ:=σ) hbk0 (tmp':=fun _=>.any) (a':=a) (fun _=>trivial) rfl (fun t b hb=>by cases hb)
  exact{ h0 with tnames:=fun t b hb=>(by cases hb),bnames:=fun b x hx=>⟨⟨(h0.bnames b x hx).1,eR hx⟩,fun c hc=>⟨(h0.bnames b x hx).2 c hc,hcl b x hx c hc⟩⟩ }
 have hcr:Rel w0 env κ F (fun b=>U b/\b<σ.N) (σ.frame vs fn.ntmps).tmp (σ.frame vs fn.ntmps).blk (σ.frame vs fn.ntmps).L { tmps:=(ds++cargs.map a.eval++cs)++Array.replicate (fn.ntmps-(ds++cargs.map a.eval++cs).size) undef,defers:=[] } w:=
  hlow.callee (σ:=σ) (fun _ _=>rfl) fr1 fr2 (mb (fun x hx b hbn=>⟨hnm x hx b hbn,hvn x hx b hbn⟩))
 exact⟨_,hrun,eM hc' (fun m hm=>by cases hm),hcr⟩
theorem OB{cons:Nat->Bool}{own:Bool}{ro:Option Nat}(hfit:PFit P){ops:Array Oper}{i:Nat}{o:Oper}(ho:ops[i]?=some o){σ σ₁:SS}{f:Nat}{vs:List SV}(hc:cV P cons own σ₁.tr σ.N σ.ev σ.blk o=.inl f vs){fn:Func}{c:Code}(hfn:P.funcs[f]?=some fn)(hb:fn.body=some c)
  (hft:∀b∈bh σ.ev o,b<σ.N) (hvn:∀x∈vs,∀b∈x.names,b<σ.N) (hcl:∀b x,σ.blk b=some x->∀c∈x.names,c<σ.N) {ex:Ex} {σ':SS} (hex:ex.out=true) (hl:Leads P w0 none c env (σ.frame vs fn.ntmps) ex σ') {rs:List SV} (hres:bJ P σ' fn.results.toList=some rs) (hd:∀d,o.dst=some d->d<σ.L) (hw:bX ops o σ.tmp env true):
  StepSem P w0 env ro σ.L ops σ.N σ'.N i ⟨fi rs,ch σ σ',{ rt:=bf ops o,rb:=List.range σ.N,dst:=o.dst,wb:=i8 σ σ' }⟩ σ.tmp σ.blk:=by
 have hle:σ.N<=σ'.N:=hl.le
 refine⟨by simp only[ch,List.map_map];exact(List.map_id' _).symm,fun b hb=>(changed_mem.1 hb).1,hle,fun b hb=>?_,fun b h1 h2=>changed_mem.2 ⟨h2,.inl h1⟩,hd,fun κ F U tmp' blk' a w K Q h ht hb' hf hro _ hK=>?_,fun x hx=>(by cases hx)⟩
 ·by_cases hlt:b<σ.N
  ·exact .inl (List.mem_range.2 hlt)
  ·exact .inr (by omega)
 ·have hbk0:∀b,b<σ.N->blk' b=σ.blk b:=fun b hb=>hb' b (List.mem_range.2 hb)
  have hev:∀x∈o.op.operands,ah tmp' x=σ.ev x:=fun x hx=>by rw[ib];exact eE ht x hx
  obtain⟨us,hrun,hnd,hcr⟩:=FX hfit hc hfn hb hft hvn hcl h hev hbk0;have hcall:=lz hfn hb hex hl hcr (fun b h1 h2=>by have h1:σ.N<=b:=h1;omega) hres
  unfold wpOpIn;rw[ho];simp only
  rw[if_pos (eF h hw ht)];refine yZ hnd hrun hcall ?_
  rintro e w' ⟨u,κ',F',a',rfl,r,k,hv⟩;obtain⟨κ'',hκ,r2,k2⟩:=h.embed' hbk0 hle hf r k;have hn:∀b∈(fi rs).names,(U b/\b<σ.N)\/(σ.N<=b/\b<σ'.N):=fun b hb'=>by
   obtain⟨x,hx,hb2⟩:=LL b hb';exact lp r _ _ hres x hx b hb2
  have hput:=r2.put (dst:=o.dst) (v:=fi rs) (u:=u) hd (hv.keep (fun b hb'=>hκ b (by have:=hn b hb';omega)) (fun _ h=>h) (fun _ _=>rfl)) (fun b hb'=>by
   rcases hn b hb' with h1|h1
   ·exact .inl h1.1
   ·exact .inr h1)
  exact⟨u,rfl,hK κ'' F' _ w' hput k2 (by cases o.dst<;>rfl)⟩
theorem Pu{cons:Nat->Bool}{own:Bool}{ro:Option Nat}(hfit:PFit P){ops:Array Oper}{i:Nat}{o:Oper}(ho:ops[i]?=some o){σ σ₁:SS}{f:Nat}{vs:List SV}(hc:cV P cons own σ₁.tr σ.N σ.ev σ.blk o=.inl f vs){fn:Func}{c:Code}(hfn:P.funcs[f]?=some fn)(hb:fn.body=some c)
  (hft:∀b∈bh σ.ev o,b<σ.N) (hvn:∀x∈vs,∀b∈x.names,b<σ.N) (hcl:∀b x,σ.blk b=some x->∀c∈x.names,c<σ.N) {v:Value} {σ':SS} (hl:Leads P w0 none c env (σ.frame vs fn.ntmps) (.panic v) σ') (hw:bX ops o σ.tmp env true):
  qi P w0 env ro σ.L ops σ.N σ'.N i v σ.tmp σ.blk (aJ σ.blk (ch σ σ')):=by
 have hle:σ.N<=σ'.N:=hl.le
 intro κ F U a w K Q h hf hro hQ;obtain⟨us,hrun,hnd,hcr⟩:=FX hfit hc hfn hb hft hvn hcl h (fun x _=>by rw[ib]) (fun b _=>rfl)
 have hcall:=C2 hfn hb hl hcr (fun b h1 h2=>by have h1:σ.N<=b:=h1;omega)
 unfold wpOpIn;rw[ho];simp only
 rw[if_pos (eF h hw (fun t _=>rfl))]
 refine L5 hnd hrun hcall ?_
 rintro e w' ⟨κ',F',a',rfl,r,k⟩;obtain⟨κ'',hκ,r2,k2⟩:=h.embed' (fun b _=>rfl) hle hf r k
 exact⟨_,rfl,hQ κ'' F' w' r2 k2⟩
theorem QB{cons:Nat->Bool}{own:Bool}{ro:Option Nat}{ops:Array Oper}{i:Nat}{o:Oper}(ho:ops[i]?=some o){σ σ₁:SS}{v:Value}(hc:cV P cons own σ₁.tr σ.N σ.ev σ.blk o=.panic v)(hw:bX ops o σ.tmp env true):
  qi P w0 env ro σ.L ops σ.N σ.N i v σ.tmp σ.blk σ.blk:=by
 intro κ F U a w K Q h hf hro hQ;rw[ib]at hc;have hnd:=eM hc (fun m hm=>by cases hm)
 obtain⟨x,t,y,u,hop,hx,hy,rfl⟩:=L4 hc;have hrun:(execOp a.eval o).run P w=.halt (.panic (.iface t u)) w:=by
  have hev:=h.ev x;have h2:SVden env κ F w (.iface t y) (a.eval x):=by
   rw[<-hx];exact tK (fun b e t l hb=>h.blks b _ hb) hev
  obtain⟨v',e1,d1⟩:=h2;have:v'=u:=Me hy d1
  subst this;simp only[execOp,hop,e1,Instr.panic];rfl
 unfold wpOpIn;rw[ho];simp only
 rw[if_pos (eF h hw (fun t _=>rfl))]
 refine LY hnd hrun ?_
 exact hQ κ F w (h.monoU fun b hb=>.inl hb) Kept.refl
theorem FY{base:Nat}{k:Nat}{o:Obj}(h:base<=k):Below base w (w.putObj k o):=
 ⟨rfl,rfl,rfl,by rw[World.putObj_size];exact Nat.le_refl _,fun j hj=>World.putObj_heap_other (by omega)⟩
theorem Rel.record(h:Rel w0 env κ F U tmp blk L a w){b:Nat}{i:LoopI}{st:LoopState}{p:Jmp}(hb:blk b=some (.loop i st p)):∃l r,κ b=.pointer (some ⟨l,0,none⟩)/\w.heap[l]?=some (.loop r)/\r.state=st/\r.pending=p.code/\r.params=i.params/\r.assign=i.assign/\r.body=i.body ∧
  r.tmps.size=i.rf.len/\(∀t,SVden env κ F w (i.rf.get .any t) (r.tmps.getD t undef)) ∧
  (∀(st':LoopState) (p':Jmp) (r':Loop),r'.state=st'->r'.pending=p'.code->r'.params=r.params->r'.assign=r.assign->r'.body=r.body->r'.tmps=r.tmps →
   Rel w0 env κ F U tmp (upd blk b (some (.loop i st' p'))) L a (w.putObj l (.loop r'))/\Kept U blk κ F w (upd blk b (some (.loop i st' p'))) κ F (w.putObj l (.loop r'))) ∧
  ∀r':Loop,r'.params=r.params->r'.assign=r.assign->r'.body=r.body->r'.tmps=r.tmps->Rel w0 env κ F U tmp (upd blk b none) L a (w.putObj l (.loop r'))/\Kept U blk κ F w (upd blk b none) κ F (w.putObj l (.loop r')):=by
 obtain⟨l,r,h1,h2,h3,h4,h5,h6,h7,h8,h9,h10⟩:=h.blks b _ hb;have hlive:aB (some (SB.loop i st p))=true:=rfl
 have hbl:ai (κ b)=some l:=by rw[h1];rfl
 have hnF:¬F l:=h.nF b l (by rw[hb];rfl) hbl
 have hFk:∀(o:Obj) k,F k->(w.putObj l o).heap[k]?=w.heap[k]?:=fun o k hk=>World.putObj_heap_other (fun e=>hnF (e▸hk))
 have hrec:∀r':Loop,r'.params=r.params->r'.assign=r.assign->r'.body=r.body->r'.tmps=r.tmps->RecLe w (w.putObj l (.loop r')):=fun r' g3 g4 g5 g6 k r₁ hr=>by
  by_cases e:k=l
  ·subst e
   rw[h2]at hr;have hr:r=r₁:=by injection hr with hr;injection hr
   subst hr;exact⟨r',World.putObj_heap_same (fa h2),g3,g4,g5,g6⟩
  ·exact⟨r₁,(World.putObj_heap_other e).trans hr,rfl,rfl,rfl,rfl⟩
 refine⟨l,r,h1,h2,h4,h5,h6,h7,h8,h9,h10,fun st' p' r' g1 g2 g3 g4 g5 g6=>?_,fun r' g3 g4 g5 g6=>?_⟩
 ·have hw:∀k,ai (κ b)≠some k->(w.putObj l (.loop r')).heap[k]?=w.heap[k]?:=fun k hk=>World.putObj_heap_other (fun e=>hk (by rw[hbl,e]))
  refine⟨h.stored hb hlive hw World.putObj_size ⟨l,r',h1,World.putObj_heap_same (fa h2),h3,g1,g2,g3.trans h6,g4.trans h7,g5.trans h8,by rw[g6];exact h9,fun t=>by rw[g6];exact(h10 t).keep (fun _ _=>rfl) (fun _ h=>h) (hFk _)⟩ (h.bnames b _ hb).2 (h.below.trans (FY h3)),⟨fun _ _=>rfl,fun _ h=>h,fun _ h=>.inl h,by rw[World.putObj_size];exact Nat.le_refl _,fun k _ hn=>hw k (hn b (by rw[hb];rfl)),fun c k h1 h2=>?_,hrec r' g3 g4 g5 g6⟩⟩
  by_cases e:c=b
  ·subst e;exact .inr ⟨c,by rw[hb];rfl,h2⟩
  ·rw[ab e]at h1;exact .inr ⟨c,h1,h2⟩
 ·have hlv:∀c,aB (upd blk b none c)=true->c≠b/\aB (blk c)=true:=fun c hc=>by
   by_cases e:c=b
   ·rw[e,ao]at hc;cases hc
   ·rw[ab e]at hc;exact⟨e,hc⟩
  have hother:∀c k,c≠b->aB (blk c)=true->ai (κ c)=some k->(w.putObj l (.loop r')).heap[k]?=w.heap[k]?:=fun c k hc hl hk=>World.putObj_heap_other (fun e=>hc (h.inj c b k hl (by rw[hb];rfl) hk (by rw[hbl,e])))
  refine⟨h.world (fun _ h=>h) (fun _ _=>rfl) (fun _ h=>h) (hFk _) (fun c x hx=>?_) (fun c d k hc hd=>h.inj c d k (hlv c hc).2 (hlv d hd).2) (fun c k hc=>h.nF c k (hlv c hc).2) (fun k hk=>by rw[World.putObj_size];exact h.F k hk) (h.below.trans (FY h3)),
   ⟨fun _ _=>rfl,fun _ h=>h,fun _ h=>.inl h,by rw[World.putObj_size];exact Nat.le_refl _,fun k _ hn=>World.putObj_heap_other (fun e=>hn b (by rw[hb];rfl) (by rw[hbl,e])),fun c k hc hk=>.inr ⟨c,(hlv c hc).2,hk⟩,hrec r' g3 g4 g5 g6⟩⟩
  by_cases e:c=b
  ·subst e;rw[ao]at hx;cases hx
  ·rw[ab e]at hx
   exact .inl ⟨hx,fun hl k hk=>hother c k e (by rw[hx];exact hl) hk⟩
theorem ya(h:Rel w0 env κ F U tmp blk L a w){b:Nat}{i:LoopI}{st:LoopState}{p:Jmp}(hb:blk b=some (.loop i st p)):∀t,∀c∈(i.rf.get .any t).names,U c:=by
 intro t c hc;refine(h.bnames b _ hb).2 c ?_
 by_cases ht:t<i.rf.len
 ·exact List.mem_flatMap.2 ⟨t,List.mem_range.2 ht,hc⟩
 ·rw[Ov.get_out (by omega)]at hc;cases hc
theorem Er:∀(ts:List Nat) (vs:List SV) (us:List Value) (rf:Ov SV) (tmps:Array Value),ts.length=vs.length->ts.length=us.length->(∀t∈ts,t<rf.len)->tmps.size=rf.len->(∀t,SVden env κ F w (rf.get .any t) (tmps.getD t undef)) →
  (∀(i:Nat) x u,vs[i]?=some x->us[i]?=some u->SVden env κ F w x u) →
  (eD ts vs rf).len=rf.len/\((ts.zip us).foldl (fun(tmps:Array Value) (x:Nat×Value)=>tmps.setIfInBounds x.1 x.2) tmps).size=rf.len ∧
   (∀t,SVden env κ F w ((eD ts vs rf).get .any t) (((ts.zip us).foldl (fun(tmps:Array Value) (x:Nat×Value)=>tmps.setIfInBounds x.1 x.2) tmps).getD t undef)) ∧
   ∀t,∀b∈((eD ts vs rf).get .any t).names,(∃t',b∈(rf.get .any t').names)\/∃x∈vs,b∈x.names
 |[],vs,us,rf,tmps,h1,h2,_,hs,hd,_=>by
  cases vs with
  |nil=>exact⟨rfl,hs,hd,fun t b hb=>.inl ⟨t,hb⟩⟩
  |cons=>simp at h1
 | t :: ts,vs,us,rf,tmps,h1,h2,ht,hs,hd,hv=>by
  cases vs with
  |nil=>simp at h1
  | cons x vs=>
   cases us with
   |nil=>simp at h2
   | cons u us=>
    have htl:=ht t (List.mem_cons_self ..);have hlen:(rf.put t x).len=rf.len:=rfl
    have hx:=hv 0 x u rfl rfl;obtain⟨i1,i2,i3,i4⟩:=Er ts vs us (rf.put t x) (tmps.setIfInBounds t u) (by simpa using h1) (by simpa using h2) (fun s hs'=>by rw[hlen];exact ht s (List.mem_cons_of_mem _ hs')) (by simp[hs,hlen]) (fun s=>by
     rw[Ov.get_put htl,pu (by omega)]
     split
     ·exact hx
     ·exact hd s) (fun i y v h3 h4=>hv (i+1) y v (by simpa using h3) (by simpa using h4))
    refine⟨i1,i2,i3,fun s b hb=>?_⟩
    rcases i4 s b hb with⟨t',h5⟩|⟨y,hy,h5⟩
    ·rw[Ov.get_put htl]at h5
     split at h5
     ·exact .inr ⟨x,List.mem_cons_self ..,h5⟩
     ·exact .inl ⟨t',h5⟩
    ·exact .inr ⟨y,List.mem_cons_of_mem _ hy,h5⟩
theorem yp{σ:SS}{b:Nat}{y:Option SB}(hb:b<=σ.N):(σ.write [(b,y)]).blk=upd σ.blk b y/\(σ.write [(b,y)]).N=max σ.N (b+1)/\(σ.write [(b,y)]).tmp=σ.tmp/\(σ.write [(b,y)]).L=σ.L:=by
 obtain⟨h1,h2,h3,h4,_⟩:=cx σ [(b,y)] ⟨hb,trivial⟩;exact⟨h1,h2,h3,h4⟩
theorem mD{σ:SS}{b:Nat}{x:SB}{y:Option SB}(hb:σ.blk b=some x):(σ.write [(b,y)]).blk=upd σ.blk b y/\(σ.write [(b,y)]).N=σ.N/\(σ.write [(b,y)]).tmp=σ.tmp/\(σ.write [(b,y)]).L=σ.L:=by
 have:=eR hb
 obtain⟨h1,h2,h3,h4⟩:=yp (σ:=σ) (b:=b) (y:=y) (by omega)
 exact⟨h1,by rw[h2];omega,h3,h4⟩
def eg(i:LoopI)(ex:Ex):SB:=.loop i (if ex.jmp==.none then .ready else .done) ex.jmp
theorem NK{cons:Nat->Bool}{own:Bool}{ro:Option Nat}{ops:Array Oper}{i:Nat}{o:Oper}(ho:ops[i]?=some o){σ σt:SS}{b:Nat}{vs:List SV}(hc:cV P cons own σt.tr σ.N σ.ev σ.blk o=.yld b vs)(hft:∀c∈bh σ.ev o,c<σ.N)(hvn:∀x∈vs,∀b∈x.names,b<σ.N)(hcl:∀b x,σ.blk b=some x->∀c∈x.names,c<σ.N)
  {li:LoopI} (hb:σ.blk b=some (.loop li .ready .none)) (hlen:vs.length=li.params.size) (hpar:∀t∈li.params.toList,t<li.rf.len)
  {σ₁:SS} (hl1:Leads P w0 (some b) li.assign env { σ with rf:=eD li.params.toList vs li.rf } .normal σ₁) {i₁:LoopI} (hb1:σ₁.blk b=some (.loop i₁ .ready .none))
  {ex₂:Ex} {σ₂:SS} (hl2:Leads P w0 (some b) li.body env (σ₁.write [(b,some (.loop i₁ .busy .none))]) ex₂ σ₂) {i₂:LoopI} (hb2:σ₂.blk b=some (.loop i₂ .busy .none))
  (hnp:ex₂.isPanic=false) (hd:∀d,o.dst=some d->d<σ.L) (hw:bX ops o σ.tmp env true):
  StepSem P w0 env ro σ.L ops σ.N (σ₂.write [(b,some (eg i₂ ex₂))]).N i ⟨.vb (.bool (ex₂.jmp==.none)),ch σ (σ₂.write [(b,some (eg i₂ ex₂))]),{ rt:=bf ops o,rb:=List.range σ.N,dst:=o.dst,wb:=i8 σ (σ₂.write [(b,some (eg i₂ ex₂))]) }⟩ σ.tmp σ.blk:=by
 obtain⟨σ₃,hσ₃⟩:∃σ₃,σ₃=σ₂.write [(b,some (eg i₂ ex₂))]:=⟨_,rfl⟩
 obtain⟨z1,z2,_,_⟩:=mD (σ:=σ₂) (y:=some (eg i₂ ex₂)) hb2
 rw[<-hσ₃]at z1 z2⊢
 obtain⟨y1,y2,y3,y4⟩:=mD (σ:=σ₁) (y:=some (.loop i₁ .busy .none)) hb1
 have hle1:σ.N<=σ₁.N:=hl1.le
 have hle2:σ₁.N<=σ₂.N:=by have:=hl2.le;rw[y2]at this;exact this
 have hle:σ.N<=σ₃.N:=by omega
 refine⟨by simp only[ch,List.map_map];exact(List.map_id' _).symm,fun c hc=>(changed_mem.1 hc).1,hle,fun c hc=>?_,fun c h1 h2=>changed_mem.2 ⟨h2,.inl h1⟩,hd,fun κ F U tmp' blk' a w K Q h ht hb' hf hro _ hK=>?_,fun x hx=>(by cases hx)⟩
 ·by_cases hlt:c<σ.N
  ·exact .inl (List.mem_range.2 hlt)
  ·exact .inr (by omega)
 ·have hbk0:∀c,c<σ.N->blk' c=σ.blk c:=fun c hc=>hb' c (List.mem_range.2 hc)
  have hev:∀x∈o.op.operands,ah tmp' x=σ.ev x:=fun x hx=>by rw[ib];exact eE ht x hx
  have hbk:∀x∈o.op.operands,∀c∈(σ.ev x).names,blk' c=σ.blk c:=fun x hx c hc=>hbk0 c (hft c (by unfold bh;exact List.mem_flatMap.2 ⟨x,by simpa using hx,hc⟩))
  have hc':cV P cons own σt.tr σ.N (ah tmp') blk' o=.yld b vs:=by rw[kq hev hbk];exact hc
  obtain⟨g,cargs,tys,hop,hg,hvs⟩:=OH hc';have hbN:=eR hb;have hbb:blk' b=some (.loop li .ready .none):=by rw[hbk0 b hbN];exact hb
  obtain⟨l,r,q1,q2,q3,q4,q5,q6,q7,q8,q9,_,_⟩:=h.record hbb;have hUb:U b:=(h.bnames b _ hbb).1
  have hevg:=h.ev g;rw[hg]at hevg;obtain⟨l',e0,e1⟩:=hevg;rw[q1]at e0;cases e0
  have hmid:(cargs.map a.eval).toList.length=vs.length/\∀(i:Nat) x u,vs[i]?=some x->(cargs.map a.eval).toList[i]?=some u->SVden env κ F w x u:=by
   rw[hvs];refine⟨by simp,fun i x u hx hu=>?_⟩
   rw[List.getElem?_map]at hx;rw[Array.toList_map,List.getElem?_map]at hu;obtain⟨y,hy,rfl⟩:=Option.map_eq_some_iff.1 hx;rw[hy]at hu;cases hu
   exact tK (fun b e t l hb=>h.blks b _ hb) (h.ev y)
  have hsz:(cargs.map a.eval).size=r.params.size:=by rw[q5,<-hlen,<-hmid.1];simp
  have hrun:(execOp a.eval o).run P w=.ok (.round l r.fn ((r.params.zip (cargs.map a.eval)).foldl (fun tmps (t,a)=>tmps.setIfInBounds t a) r.tmps) r.assign r.body) w:=by
   have hy:=run_yield (P:=P) (w:=w) (l:=l) (r:=r) (args:=cargs.map a.eval) q2 hsz;simp only[execOp,hop,resolve,e1,Deferred.ofValue,Sem.run_bind,Sem.run_pure,Result.andThen_ok,invoke];simpa using hy
  obtain⟨p1,p2,p3,p4⟩:=Er (env:=env) (κ:=κ) (F:=F) (w:=w) li.params.toList vs (cargs.map a.eval).toList li.rf r.tmps (by simpa using hlen.symm) (by rw[hmid.1];simpa using hlen.symm) hpar q8 q9 hmid.2
  have hfold:(r.params.zip (cargs.map a.eval)).foldl (fun tmps (t,a)=>tmps.setIfInBounds t a) r.tmps=(li.params.toList.zip (cargs.map a.eval).toList).foldl (fun(tmps:Array Value) (x:Nat×Value)=>tmps.setIfInBounds x.1 x.2) r.tmps:=by
   rw[q5,<-Array.toList_zip,Array.foldl_toList]
  have hnm:∀x∈vs,∀c∈x.names,U c:=by
   intro x hx c hcn;rw[hvs]at hx;obtain⟨y,hy,rfl⟩:=List.mem_map.1 hx;exact h.evNames y c (uC _ _ c hcn)
  have hlow:Rel w0 env κ F (fun b=>U b/\b<σ.N) (fun _=>.any) σ.blk a.tmps.size a w:=by
   have h0:=h.callee (σ:=σ) hbk0 (tmp':=fun _=>.any) (a':=a) (fun _=>trivial) rfl (fun t b hb=>by cases hb)
   exact{ h0 with tnames:=fun t b hb=>(by cases hb),bnames:=fun b x hx=>⟨⟨(h0.bnames b x hx).1,eR hx⟩,fun c hc=>⟨(h0.bnames b x hx).2 c hc,hcl b x hx c hc⟩⟩ }
  have hround:Rel w0 env κ F (fun b=>U b/\b<σ.N) ({ σ with rf:=eD li.params.toList vs li.rf }:SS).tmp ({ σ with rf:=eD li.params.toList vs li.rf }:SS).blk ({ σ with rf:=eD li.params.toList vs li.rf }:SS).L { tmps:=(r.params.zip (cargs.map a.eval)).foldl (fun tmps (t,a)=>tmps.setIfInBounds t a) r.tmps,defers:=[] } w:=by
   rw[hfold];refine hlow.callee (σ:=σ) (fun _ _=>rfl) p3 (by rw[p2];exact p1.symm) (fun t c hcn=>?_)
   rcases p4 t c hcn with⟨t',h5⟩|⟨x,hx,h5⟩
   ·exact ya hlow hb t' c h5
   ·exact⟨hnm x hx c h5,hvn x hx c h5⟩
  have hro1:dL κ (some b)=some l:=by simp[dL,q1,ai]
  have hgo1:=hl1.go κ F _ _ w hround (fun c h1 h2=>by have h1:σ.N<=c:=h1;omega) (fun c hc=>by cases hc;exact⟨hUb,hbN⟩)
  unfold wpOpIn;rw[ho];simp only
  rw[if_pos (eF h hw ht)];refine⟨fun _ _=>trivial,?_⟩
  rw[Oper.semAt_eq _ _ _ (eM hc' (fun m hm=>by cases hm)),hrun,Oper.uponIn_round]
  refine⟨fun h=>(by cases h),roundIn_of_wpIn trivial ?_⟩
  rw[q6,q7];rw[hro1]at hgo1;refine wpIn_mono (F:=FR (some l)) hgo1 ?_
  rintro e a₁ w₁ ⟨rfl,κ₁,F₁,r1,k1,_⟩;obtain⟨l₁,rec₁,s1,s2,s3,s4,s5,s6,s7,s8,s9,s10,_⟩:=r1.record hb1;have:l₁=l:=by have:=k1.kap b ⟨hUb,hbN⟩;rw[s1,q1]at this;injection this with h1;injection h1 with h1;injection h1
  subst this;obtain⟨r2,k2⟩:=s10 .busy .none { rec₁ with state:=.busy } rfl s4 rfl rfl rfl rfl
  refine⟨_,run_beginRound s2 s3,?_⟩
  have hro2:dL κ₁ (some b)=some l₁:=by simp[dL,s1,ai]
  have hgo2:=hl2.go κ₁ F₁ (fun c=>(U c/\c<σ.N)\/(σ.N<=c/\c<σ₁.N)) a₁ _ (by rw[y1,y3,y4];exact r2) (fun c h1 hc=>by rw[y2]at h1;omega) (fun c hc=>by cases hc;exact .inl ⟨hUb,hbN⟩)
  rw[hro2]at hgo2;refine wpIn_mono (F:=FR (some l₁)) hgo2 ?_
  rintro e a₂ w₂ ⟨rfl,κ₂,F₂,r3,k3,_⟩;rw[y1]at k3;rw[y2]at r3;obtain⟨l₂,rec₂,t1,t2,t3,t4,t5,t6,t7,t8,t9,t10,_⟩:=r3.record hb2;have:l₂=l₁:=by have:=k3.kap b (.inl ⟨hUb,hbN⟩);rw[t1,s1]at this;injection this with h1;injection h1 with h1;injection h1
  subst this;have hjump:∀jump:Option Code,jump=ex₂.jmp.code->jump.isNone=(ex₂.jmp==.none)->∃v w',(Instr.endRound l₂ jump).run P w₂=.ok v w'/\K (a.put o.dst v) w':=by
   intro jump hj hn;refine⟨_,_,run_endRound jump t2,?_⟩
   obtain⟨r4,k4⟩:=t10 (if ex₂.jmp==.none then .ready else .done) ex₂.jmp { rec₂ with state:=if jump.isNone then .ready else .done,pending:=jump } (by rw[hn]) hj rfl rfl rfl rfl
   have hk:Kept (fun c=>U c/\c<σ.N) σ.blk κ F w σ₃.blk κ₂ F₂ (w₂.putObj l₂ (.loop { rec₂ with state:=if jump.isNone then .ready else .done,pending:=jump })):=by
    have k12:=k1.trans k2 (fun c hc=>.inl hc)
    have k13:=k12.trans k3 (fun c hc=>.inl hc)
    have k14:=k13.trans k4 (fun c hc=>.inl (.inl hc))
    rw[z1];exact k14
   obtain⟨κ₃,_,r5,k5⟩:=h.embed' (σ:=σ) (σ':=σ₃) hbk0 hle hf (by
    rw[z1,z2];exact r4.monoU (fun c hc=>by
     rcases hc with(hc|hc)|hc
     ·exact .inl hc
     ·exact .inr ⟨hc.1,by omega⟩
     ·exact .inr ⟨by omega,hc.2⟩)) hk
   have hput:=r5.put (dst:=o.dst) (v:=.vb (.bool (ex₂.jmp==.none))) (u:=.bool jump.isNone) hd ⟨by rw[hn];rfl,rfl⟩ (fun c hc=>by cases hc)
   exact hK κ₃ F₂ _ _ hput k5 (by cases o.dst<;>rfl)
  cases ex₂ with
  |normal=>exact hjump none rfl rfl
  |ret=>exact hjump (some .ret) rfl rfl
  |exit id=>exact hjump (some (.exit id)) rfl rfl
  |panic v=>cases hnp
def Jmp.ex:Jmp->Ex
 |.none=>.normal
 |.ret=>.ret
 |.exit id=>.exit id
theorem Nl(h:Rel w0 env κ F U tmp blk L a w){ro:Option Nat}(hro:∀b,ro=some b->JY (blk b)=true){N:Nat}(hN:¬U N){rf:Ov SV}(hrf:∀t,rf.get .any t=tmp t)(hL:rf.len=L)(fid fn:Nat)(ps:Array Tmp)(assign body:Code):
  ∃l mark w₁ κ₁,(Instr.enterLoop fn a.tmps ps assign body (dL κ ro)).run P w=.ok (l,mark) w₁/\κ₁ N=.pointer (some ⟨l,0,none⟩)/\Rel w0 env κ₁ F (fun b=>U b\/b=N) tmp (upd blk N (some (.loop ⟨fid,rf,ps,assign,body⟩ .ready .none))) L a w₁ ∧
   Kept U blk κ F w (upd blk N (some (.loop ⟨fid,rf,ps,assign,body⟩ .ready .none))) κ₁ F w₁/\Marks w a.defers F w₁ (mark++a.defers):=by
 have hnames:∀c∈(SB.loop ⟨fid,rf,ps,assign,body⟩ .ready .none).names,U c:=fun c hc=>by
  obtain⟨t,_,hc⟩:=List.mem_flatMap.1 hc;simp only at hc
  rw[hrf]at hc;exact h.tnames t c hc
 have lay:∀(w₁:World),Rel w0 env κ F U tmp blk L a w₁->∀r:Loop,r.state=.ready->r.pending=none->r.tmps=a.tmps->r.params=ps->r.assign=assign->r.body=body →
   Rel w0 env (upd κ N (.pointer (some ⟨w₁.heap.size,0,none⟩))) F (fun b=>U b\/b=N) tmp (upd blk N (some (.loop ⟨fid,rf,ps,assign,body⟩ .ready .none))) L a (w₁.alloc (.loop r)) ∧
   Kept U blk κ F w₁ (upd blk N (some (.loop ⟨fid,rf,ps,assign,body⟩ .ready .none))) (upd κ N (.pointer (some ⟨w₁.heap.size,0,none⟩))) F (w₁.alloc (.loop r)):=by
  intro w₁ h₁ r g1 g2 g3 g4 g5 g6;refine⟨h₁.new hN rfl ⟨w₁.heap.size,r,ao ..,World.alloc_heap_new _ _,h₁.below.size,g1,g2,g4,g5,g6,by rw[g3,h₁.size];exact hL.symm,fun t=>?_⟩ hnames,h₁.new_kept hN rfl⟩
  rw[g3];show SVden _ _ _ _ (rf.get .any t) _
  rw[hrf];exact CV h₁ hN (h₁.tnames t) (h₁.tmps t)
 cases ro with
 | none=>
  have h1:Rel w0 env κ F U tmp blk L a (w.alloc (.deferred (some []))):=by
   have hk:∀k,k<w.heap.size->(w.alloc (.deferred (some []))).heap[k]?=w.heap[k]?:=fun k hk=>Below.heap_alloc _ _ _ hk
   refine h.world (fun _ h=>h) (fun _ _=>rfl) (fun _ h=>h) (fun k hF=>hk k (h.F k hF)) (fun b x hx=>.inl ⟨hx,fun hl k hb=>hk k ((h.blks b x hx).lt hl hb).2⟩) h.inj h.nF (fun k hF=>by have:=h.F k hF;simp;omega) (h.below.trans ?_)
   exact⟨rfl,rfl,rfl,by simp,fun k hk'=>hk k (by have:=h.below.size;omega)⟩
  have k1:Kept U blk κ F w blk κ F (w.alloc (.deferred (some []))):=⟨fun _ _=>rfl,fun _ h=>h,fun _ h=>.inl h,by simp,fun k hk _=>Below.heap_alloc _ _ _ hk,fun b k h1 h2=>.inr ⟨b,h1,h2⟩,.of fun k hk=>.inr (Below.heap_alloc _ _ _ hk)⟩
  obtain⟨r2,k2⟩:=lay _ h1 { state:=.ready,pending:=none,fn,tmps:=a.tmps,params:=ps,assign,body,defers:=w.heap.size } rfl rfl rfl rfl rfl rfl
  refine⟨_,_,_,_,run_enterLoop_outer fn a.tmps ps assign body,?_,r2,k1.trans k2 (fun _ h=>h),[w.heap.size],rfl,by simp,fun D hD=>?_⟩
  ·rw[ao];simp
  ·have:D=w.heap.size:=by simpa using hD
   subst this;refine⟨Nat.le_refl _,?_,fun hF=>by have:=h.F _ hF;omega⟩
   rw[Below.heap_alloc _ _ _ (by simp)]
   exact World.alloc_heap_new _ _
 | some b₀=>
  have hlp:=hro b₀ rfl;cases hb:blk b₀ with
  |none=>rw[hb]at hlp;cases hlp
  | some y=>
   rw[hb]at hlp;cases y with
   |loop i st p=>
    obtain⟨l₀,r₀,q1,q2,_⟩:=h.record hb;have hr0:dL κ (some b₀)=some l₀:=by simp[dL,q1,ai]
    rw[hr0];obtain⟨r2,k2⟩:=lay w h { state:=.ready,pending:=none,fn,tmps:=a.tmps,params:=ps,assign,body,defers:=r₀.defers } rfl rfl rfl rfl rfl rfl
    exact⟨_,_,_,_,run_enterLoop_inner q2 fn a.tmps ps assign body,ao ..,r2,k2,Marks.nil⟩
   |_=>cases hlp
theorem Kk(hfit:PFit P){ro:Option Nat}{fid:Nat}{g:Operand}{ps:Array Tmp}{assign body:Code}{σ:SS}{f:Nat}{fs xs:SV}(hg:σ.ev g=.fn f fs xs){fn:Func}{c:Code}(hfn:P.funcs[f]?=some fn)(hb:fn.body=some c)(hro:∀b,ro=some b->JY (σ.blk b)=true)
  (hres:fn.results.isEmpty=true) {ex:Ex} {σ':SS} (hex:ex.out=true)
  (hl:Leads P w0 none c env ((σ.write [(σ.N,some (.loop ⟨fid,σ.rf,ps,assign,body⟩ .ready .none))]).frame (fs.list++[.yld σ.N]++xs.list) fn.ntmps) ex σ') {i:LoopI} {st:LoopState} {p:Jmp} (hblk:σ'.blk σ.N=some (.loop i st p)) (hst:st≠.busy):
  Leads P w0 ro (.rangeFunc g ps assign body) env σ p.ex { σ'.write [(σ.N,none)]with rf:=σ.rf }:=by
 obtain⟨y1,y2,y3,y4⟩:=yp (σ:=σ) (b:=σ.N) (y:=some (.loop ⟨fid,σ.rf,ps,assign,body⟩ .ready .none)) (Nat.le_refl _)
 obtain⟨z1,z2,_,_⟩:=mD (σ:=σ') (y:=none) hblk
 obtain⟨σ₁,hσ₁⟩:∃σ₁,σ₁=σ.write [(σ.N,some (.loop ⟨fid,σ.rf,ps,assign,body⟩ .ready .none))]:=⟨_,rfl⟩
 rw[<-hσ₁]at y1 y2 hl;have hle:σ₁.N<=σ'.N:=hl.le
 have hN1:σ₁.N=σ.N+1:=by rw[y2];omega
 refine⟨by show σ.N<=(σ'.write [(σ.N,none)]).N;rw[z2];omega,fun κ F U a w h hU hroU=>?_⟩
 have hUN:∀b,σ.N<=b->¬U b:=hU
 refine wpIn_rangeFunc (fun fnid _=>?_)
 obtain⟨l,mark,w₁,κ₁,he,hκ,r1,k1,m1⟩:=Nl (P:=P) h hro (hUN σ.N (Nat.le_refl _)) (rf:=σ.rf) (fun t=>rfl) rfl fid fnid ps assign body
 have hevg:=h.ev g;rw[<-ib,hg]at hevg;obtain⟨ds,cs,e1,hp1,hp2,d1,d2⟩:=hevg;have hgn:∀b∈(σ.ev g).names,U b:=fun b hb=>by rw[ib]at hb;exact h.evNames g b hb
 rw[hg]at hgn;have hname:¬fn.name = "runtime.NumGoroutine" := hfit.name f fn hfn
 have hb0:¬fn.body=none:=by rw[hb];intro hh;cases hh
 refine⟨l,mark,w₁,{ target:=.fn (.func f) cs,args:=ds++#[.func (.yield l) #[] #[]] },w₁,f,(ds++#[.func (.yield l) #[] #[]])++cs,w₁,he,?_,fun _ _=>trivial,?_,fun hh=>(by cases hh),?_⟩
 ·simp[rangeCall,resolve,e1,Deferred.ofValue,show ∀v,a.eval (.const v)=v from fun _=>rfl]
 ·simp[invoke,callFunc,hfn,hname,hb0]
 ·have kp:∀ {x:SV} {u:Value},(∀b∈x.names,U b)->SVden env κ F w x u->SVden env κ₁ F w₁ x u:=fun hn hd=>k1.sv h hd hn
  have hyl:SVden env κ₁ F w₁ (.yld σ.N) (.func (.yield l) #[] #[]):=⟨l,hκ,rfl⟩
  have hmid:[Value.func (.yield l) #[] #[]].length=[SV.yld σ.N].length/\∀(i:Nat) x u,[SV.yld σ.N][i]?=some x->[Value.func (.yield l) #[] #[]][i]?=some u->SVden env κ₁ F w₁ x u:=by
   refine⟨rfl,fun i x u hx hu=>?_⟩
   cases i with
   |zero=>simp at hx hu;subst hx;subst hu;exact hyl
   |succ i=>simp at hx
  obtain⟨l1,l2⟩:=ot (ot (jT hp1 (kp (fun b hb=>hgn b (List.mem_append_left _ hb)) d1)) hmid) (jT hp2 (kp (fun b hb=>hgn b (List.mem_append_right _ hb)) d2))
  have hua:((ds++#[Value.func (.yield l) #[] #[]])++cs).toList=ds.toList++[Value.func (.yield l) #[] #[]]++cs.toList:=by simp
  rw[<-hua]at l1 l2;obtain⟨fr1,fr2⟩:=rE (σ:=σ₁) (vs:=fs.list++[.yld σ.N]++xs.list) (us:=(ds++#[Value.func (.yield l) #[] #[]])++cs) (n:=fn.ntmps) (by rw[<-l1,Array.length_toList]) (fun i x u hx hu=>l2 i x u hx (by rw[Array.getElem?_toList];exact hu))
  have hnm:∀x∈fs.list++[SV.yld σ.N]++xs.list,∀b∈x.names,(U b\/b=σ.N):=by
   intro x hx b hbn;rcases List.mem_append.1 hx with hx|hx
   ·rcases List.mem_append.1 hx with hx|hx
    ·exact .inl (hgn b (List.mem_append_left _ (cj fs x hx b hbn)))
    ·have:x=.yld σ.N:=by simpa using hx
     subst this;exact .inr (by simpa[SV.names]using hbn)
   ·exact .inl (hgn b (List.mem_append_right _ (cj xs x hx b hbn)))
  have hcr:Rel w0 env κ₁ F (fun b=>U b\/b=σ.N) (σ₁.frame (fs.list++[.yld σ.N]++xs.list) fn.ntmps).tmp (σ₁.frame (fs.list++[.yld σ.N]++xs.list) fn.ntmps).blk (σ₁.frame (fs.list++[.yld σ.N]++xs.list) fn.ntmps).L
    { tmps:=((ds++#[Value.func (.yield l) #[] #[]])++cs)++Array.replicate (fn.ntmps-((ds++#[Value.func (.yield l) #[] #[]])++cs).size) undef,defers:=[] } w₁:=
   r1.callee (σ:=σ₁) (fun b _=>by rw[y1]) fr1 fr2 (mb hnm)
  have hrs:bJ P σ' fn.results.toList=some []:=by
   have:fn.results.toList=[]:=by simpa using hres
   rw[this];rfl
  have hfr:∀b,(σ₁.frame (fs.list++[.yld σ.N]++xs.list) fn.ntmps).N<=b->¬(U b\/b=σ.N):=fun b h1 hh=>by
   have h1:σ₁.N<=b:=h1
   rcases hh with hh|hh
   ·exact hUN b (by omega) hh
   ·omega
  refine(Fd (lz hfn hb hex hl hcr hfr hrs)).mono ?_
  rintro e w' ⟨u,κ',F',a',rfl,r2,k2,_⟩;obtain⟨l',rec',s1,s2,s3,s4,_,_,_,_,_,_,s5⟩:=r2.record hblk;have:l'=l:=by have:=k2.kap σ.N (.inr rfl);rw[s1,hκ]at this;injection this with h1;injection h1 with h1;injection h1
  subst this;refine⟨_,_,run_endLoop s2 (by rw[s3];exact hst),?_⟩
  obtain⟨r3,k3⟩:=s5 { rec' with state:=.exhausted } rfl rfl rfl rfl
  have hk2:Kept (fun b=>U b\/b=σ.N) (upd σ.blk σ.N (some (.loop ⟨fid,σ.rf,ps,assign,body⟩ .ready .none))) κ₁ F w₁ σ'.blk κ' F' w':=by rw[<-y1];exact k2
  have k23:=hk2.trans k3 (fun b hb=>.inl hb)
  have hK:=k1.trans k23 (fun b hb=>.inl hb)
  have hM:=m1.next r1 k23;have hNs:(σ₁.frame (fs.list++[.yld σ.N]++xs.list) fn.ntmps).N=σ.N+1:=hN1
  have hend:Ends w0 env κ F U σ a w { σ'.write [(σ.N,none)]with rf:=σ.rf } { a with defers:=mark++a.defers } (w'.putObj l' (.loop { rec' with state:=.exhausted })):=by
   refine⟨κ',F',?_,by show Kept _ _ _ _ _ (σ'.write [(σ.N,none)]).blk _ _ _;rw[z1];exact hK,hM⟩
   show Rel w0 env κ' F' (fun b=>U b\/(σ.N<=b/\b<(σ'.write [(σ.N,none)]).N)) σ.tmp (σ'.write [(σ.N,none)]).blk σ.L _ _
   rw[z1,z2];have hmem:∀b,((U b\/b=σ.N)\/((σ₁.frame (fs.list++[.yld σ.N]++xs.list) fn.ntmps).N<=b/\b<σ'.N))->(U b\/(σ.N<=b/\b<σ'.N)):=fun b hb=>by
    rcases hb with(hb|hb)|hb
    ·exact .inl hb
    ·exact .inr (by omega)
    ·exact .inr ⟨by rw[hNs]at hb;omega,hb.2⟩
   have r4:=r3.monoU hmem;exact{ r4 with tmps:=fun t=>hK.sv h (h.tmps t) (h.tnames t),size:=h.size,tnames:=fun t b hb=>.inl (h.tnames t b hb) }
  revert hend
  generalize w'.putObj l' (.loop { rec' with state:=.exhausted })=W
  intro hend;rw[s4];cases p with
  |none=>exact⟨rfl,hend⟩
  |ret=>exact wpIn_ret ⟨rfl,hend⟩
  |exit id=>exact wpIn_exit ⟨rfl,hend⟩
variable {env:List AV} {κ κ':Nat->Value} {F F':Nat->Prop} {w w' w0:World} {U:Nat->Prop} {tmp:Nat->SV} {blk:Nat->Option SB} {L:Nat} {a:Act} {P:Program} {Post:R->Prop} {K:Nat->List AV->Prop}
def Path(P:Program)(Post:R->Prop)(w0:World)(ro:Option Nat)(c:Code)(env:List AV)(K:Nat->List AV->Prop)(σ:SS)(k:Ex->SS->T):Prop:=
 ∃(ex:Ex) (σ':SS) (rs:List AV) (K':Nat->List AV->Prop),(k ex σ').den P Post (env++rs) K'/\(∀l,l<σ.dep->K' l=K l)/\σ'.dep=σ.dep/\KnownOK (env++rs) σ'.n σ'.known/\(env++rs).length=σ'.n/\∀us,Leads P w0 ro c (env++rs++us) σ ex σ'
def nT(P:Program)(w0:World)(run:Run):Prop:=
 ∀(Post:R->Prop) (K:Nat->List AV->Prop) (ro:Option Nat) (fid:Nat) (c:Code) (k:Ex->SS->T) (σ:SS) (env:List AV),env.length=σ.n->KnownOK env σ.n σ.known->(run ro fid c k σ).den P Post env K->Path P Post w0 ro c env K σ k
theorem NG(l:List E)(t:T):(T.needs l t).den P Post env K↔(∀e∈l,(den env e).b=true)/\t.den P Post env K:=by
 induction l with
 |nil=>simp[T.needs]
 |cons e l ih=>simp only[T.needs,T.den,ih,List.forall_mem_cons,and_assoc]
theorem Mb(r:R):r.leaves.length=(mkRes.RS.cnt r.shape).1:=by
 induction r with
 |cons x y ih1 ih2=>simp[R.leaves,R.shape,mkRes.RS.cnt,ih1,ih2]
 |agg x ih=>exact ih
 |tup x ih=>exact ih
 |_=>rfl
theorem NL(nd:List E):∀σ:SS,∃kn,nd.foldl (fun σ e=>σ.learn e true) σ={ σ with known:=kn }/\(KnownOK env σ.n σ.known->(∀e∈nd,e.sc σ.n=true/\(den env e).b=true)->KnownOK env σ.n kn):=by
 induction nd with
 |nil=>intro σ;exact⟨σ.known,rfl,fun h _=>h⟩
 |cons e nd ih=>
  intro σ;obtain⟨kn,h1,h2⟩:=ih (σ.learn e true);refine⟨kn,h1,fun h hn=>?_⟩
  exact h2 (gv h (hn e (List.mem_cons_self ..)).1 (hn e (List.mem_cons_self ..)).2) (fun x hx=>hn x (List.mem_cons_of_mem _ hx))
theorem KnownOK.ext'{n:Nat}{rs:List AV}{known:List (E×Bool)}(h:KnownOK env n known)(hn:env.length=n):KnownOK (env++rs) n known:=h.ext hn (Nat.le_refl _)
def Qu(P:Program)(Post:R->Prop)(K:Nat->List AV->Prop)(w0:World)(ro:Option Nat)(env:List AV)(ops:Array Oper)(i:Nat)(σ:SS)(kp:Value->SS->T):Prop:=
 ∃(v:Value) (r1:List AV) (σ':SS) (K':Nat->List AV->Prop),(kp v σ').den P Post (env++r1) K'/\(∀l,l<σ.dep->K' l=K l)/\KnownOK (env++r1) σ'.n σ'.known/\(env++r1).length=σ'.n ∧
  (∀rs,qi P w0 (env++r1++rs) ro σ.L ops σ.N σ'.N i v σ.tmp σ.blk σ'.blk)/\σ'.tmp=σ.tmp/\σ'.L=σ.L/\σ'.dep=σ.dep/\σ.N<=σ'.N
def Rz(P:Program)(Post:R->Prop)(K:Nat->List AV->Prop)(w0:World)(ro:Option Nat)(env:List AV)(ops:Array Oper)(i:Nat)(σ:SS)(k:SS->Seen->T):Prop:=
 ∃(r1:List AV) (σ':SS) (s:Stp) (K':Nat->List AV->Prop),(k σ' s.seen).den P Post (env++r1) K'/\(∀l,l<σ.dep->K' l=K l)/\KnownOK (env++r1) σ'.n σ'.known/\(env++r1).length=σ'.n ∧
  (∀rs,StepSem P w0 (env++r1++rs) ro σ.L ops σ.N σ'.N i s σ.tmp σ.blk)/\σ'.tmp=eN σ.tmp s.seen.dst s.v/\σ'.blk=aJ σ.blk s.wr/\σ'.L=σ.L/\σ'.dep=σ.dep
def Ew(P:Program)(Post:R->Prop)(K:Nat->List AV->Prop)(w0:World)(ro:Option Nat)(env:List AV)(ops:Array Oper)(i:Nat)(σ:SS)(k:SS->Seen->T)(kp:Value->SS->T):Prop:=
 Rz P Post K w0 ro env ops i σ k\/Qu P Post K w0 ro env ops i σ kp
theorem LM{ops:Array Oper}{o:Oper}{b:Bool}{known:List (E×Bool)}{n:Nat}(hg:∀j want,o.guard=some (j,want)->∃d e,(ops[j]?).bind (·.dst)=some d/\tmp d=.vb e/\∃t,k9 known e=some t/\b=decide (t=want))(h0:o.guard=none->b=true)
  (hk:KnownOK env n known) (hn:env.length=n) (rs:List AV):bX ops o tmp (env++rs) b:=by
 unfold bX;split
 ·rename_i hh;exact h0 hh
 ·rename_i j want hh
  obtain⟨d,e,h1,h2,t,h3,h4⟩:=hg j want hh;refine⟨d,h1,.inl ⟨e,h2,?_⟩⟩
  rw[h4,lD (hk.ext' hn) h3]
theorem i6{σ:SS}{o:Oper}(h:vp σ o=true):∀d,o.dst=some d->d<σ.L:=fun d hd=>by
 unfold vp at h;rw[hd]at h;exact iq h
theorem CG{σ:SS}{o:Oper}{v:SV}{wr:List (Nat×Option SB)}(hw:im σ.N wr)(hd:∀d,o.dst=some d->d<σ.L):(σ.eff o v wr).tmp=eN σ.tmp o.dst v/\(σ.eff o v wr).blk=aJ σ.blk wr/\(σ.eff o v wr).N=cr σ.N wr/\(σ.eff o v wr).L=σ.L/\(σ.eff o v wr).n=σ.n/\(σ.eff o v wr).known=σ.known/\(σ.eff o v wr).dep=σ.dep:=by
 obtain⟨h1,h2,h3,h4,h5,h6,h7⟩:=cx σ wr hw;obtain⟨g1,g2,g3,g4,g5,g6,g7⟩:=ej (σ.write wr) (dst:=o.dst) (v:=v) (fun d hd'=>by rw[h4];exact hd d hd')
 exact⟨by rw[<-h3];exact g1,g2.trans h1,g3.trans h2,g6.trans h4,g4.trans h5,g5.trans h6,g7.trans h7⟩
theorem Od{cons:Nat->Bool}{own:Bool}{ro:Option Nat}(hfit:PFit P){ops:Array Oper}{i:Nat}{o:Oper}(ho:ops[i]?=some o){σ σ₁:SS}{f:Nat}(hc:cV P cons own σ₁.tr σ.N σ.ev σ.blk o=.inl f []){ks vs:SV}(hm:Lo P f ks vs)(hk:ks.names=[])(hv:vs.names=[])(hks:ks.sc 0=true)(hvs:vs.sc 0=true)
  (hd:∀d,o.dst=some d->d<σ.L) (hw:bX ops o σ.tmp env true):
  StepSem P w0 env ro σ.L ops σ.N (σ.N+1) i ⟨.map σ.N,[(σ.N,some (.map ks vs))],{ rt:=bf ops o,rb:=bh σ.ev o,dst:=o.dst,wb:=[σ.N] }⟩ σ.tmp σ.blk:=by
 refine⟨rfl,fun b hb=>by rw[List.mem_singleton.1 hb];exact Nat.lt_succ_self _,Nat.le_succ _,fun b hb=>.inr (by rw[List.mem_singleton.1 hb];exact Nat.le_refl _),fun b h1 h2=>List.mem_singleton.2 (by omega),hd,fun κ F U tmp' blk' a w K Q h ht hb' hf hro _ hK=>?_,fun x hx=>(by cases hx)⟩
 have hev:∀x∈o.op.operands,ah tmp' x=σ.ev x:=fun x hx=>by rw[ib];exact eE ht x hx
 have hbk:∀x∈o.op.operands,∀b∈(σ.ev x).names,blk' b=σ.blk b:=fun x hx b hb=>hb' b (by unfold bh;exact List.mem_flatMap.2 ⟨x,by simpa using hx,hb⟩)
 have hc':cV P cons own σ₁.tr σ.N (ah tmp') blk' o=.inl f []:=by rw[kq hev hbk];exact hc
 obtain⟨g,cargs,tys,fs,xs,fn,hop,hg,hfn,hbody,hl⟩:=Jy hc';have hevg:=h.ev g;rw[hg]at hevg;obtain⟨ds,cs,e1,hp1,hp2,d1,d2⟩:=hevg;have hl':(fs.list=[]/\cargs.toList=[])/\xs.list=[]:=by
  have:=hl.symm
  simp only[List.append_eq_nil_iff,List.map_eq_nil_iff]at this;exact this
 have hds:ds=#[]:=by
  have:=(jT hp1 d1).1
  rw[hl'.1.1]at this;exact Array.eq_empty_of_size_eq_zero (by simpa using this)
 have hcs:cs=#[]:=by
  have:=(jT hp2 d2).1
  rw[hl'.2]at this;exact Array.eq_empty_of_size_eq_zero (by simpa using this)
 have hca:cargs=#[]:=by rw[<-Array.toArray_toList (xs:=cargs),hl'.1.2]
 subst hds;subst hcs;subst hca;have hrun:(execOp a.eval o).run P w=.ok (.enter f #[]) w:=by
  have hn:¬fn.name = "runtime.NumGoroutine" := hfit.name f fn hfn
  have hb0:¬fn.body=none:=by intro hh;rw[hh]at hbody;cases hbody
  simp only[execOp,hop,resolve,e1,Deferred.ofValue,Sem.run_bind,Sem.run_pure,Result.andThen_ok,invoke,callFunc];simp[hfn,hn,hb0]
 have hUN:¬U σ.N:=hf σ.N (Nat.le_refl _) (Nat.lt_succ_self _)
 unfold wpOpIn;rw[ho];simp only
 rw[if_pos (eF h hw ht)];refine yZ (eM hc' (fun m hm=>by cases hm)) hrun (hm w) ?_
 rintro e w' ⟨r,es,clock,rfl,q1,q2,q3,q4,q5,q6,q7⟩;refine⟨_,rfl,?_⟩
 have hmd:MapDen env (upd κ σ.N (.pointer (some ⟨r,0,none⟩))) F w' ks vs es.toList:=by
  have h1:MapDen [] (upd κ σ.N (.pointer (some ⟨r,0,none⟩))) F w' ks vs es.toList:=q6.keep (fun b hb=>by rw[hk,hv]at hb;cases hb) (fun _ h=>h.elim) (fun _ h=>h.elim)
  have hag:Agree 0 [] env:=by
   have:=mw (env:=[]) (rs:=env) (n:=0) rfl
   exact this
  exact h1.re hag hks hvs
 have hold:∀b k,aB (blk' b)=true->ai (κ b)=some k->k<w.heap.size:=fun b k hb hk=>by
  obtain⟨y,hy,hl⟩:=bu hb;exact((h.blks b y hy).lt hl hk).2
 have hne:∀b,U b->b≠σ.N:=fun b hb e=>hUN (e▸hb)
 have hlive:∀b,aB (upd blk' σ.N (some (.map ks vs)) b)=true->b=σ.N\/(aB (blk' b)=true/\b≠σ.N):=fun b hb=>by
  by_cases e:b=σ.N
  ·exact .inl e
  ·rw[ab e]at hb;exact .inr ⟨hb,e⟩
 have hrel:Rel w0 env (upd κ σ.N (.pointer (some ⟨r,0,none⟩))) F (fun b=>U b\/(σ.N<=b/\b<σ.N+1)) tmp' (upd blk' σ.N (some (.map ks vs))) σ.L a w':=by
  refine h.world (fun b hb=>.inl hb) (fun b hb=>ab (hne b hb)) (fun k hk=>hk) (fun k hF=>q7.block k (h.F k hF)) (fun b x hx=>?_) (fun b c k hb hc h1 h2=>?_) (fun b k hb h1=>?_) (fun k hF=>Nat.lt_of_lt_of_le (h.F k hF) q7.size) (h.below.trans (q7.mono h.below.size))
  ·by_cases e:b=σ.N
   ·subst e;rw[ao]at hx;cases hx
    exact .inr ⟨⟨r,es,clock,ao ..,q2,Nat.le_trans h.below.size q1,q3,q4,q5,hmd⟩,.inr ⟨Nat.le_refl _,Nat.lt_succ_self _⟩,fun c hc=>by simp only[SB.names,hk,hv]at hc;cases hc⟩
   ·rw[ab e]at hx
    exact .inl ⟨hx,fun hl k hk=>q7.block k (hold b k (by rw[hx];exact hl) hk)⟩
  ·rcases hlive b hb with rfl|⟨hb1,hb2⟩<;>rcases hlive c hc with rfl|⟨hc1,hc2⟩
   ·rfl
   ·rw[ao]at h1;rw[ab hc2]at h2
    have h1:r=k:=by simpa[ai]using h1
    have:=hold c k hc1 h2;omega
   ·rw[ao]at h2;rw[ab hb2]at h1
    have h2:r=k:=by simpa[ai]using h2
    have:=hold b k hb1 h1;omega
   ·rw[ab hb2]at h1;rw[ab hc2]at h2
    exact h.inj b c k hb1 hc1 h1 h2
  ·rcases hlive b hb with rfl|⟨hb1,hb2⟩
   ·rw[ao]at h1
    have h1:r=k:=by simpa[ai]using h1
    intro hF;have:=h.F _ hF;omega
   ·rw[ab hb2]at h1;exact h.nF b k hb1 h1
 have hkept:Kept U blk' κ F w (upd blk' σ.N (some (.map ks vs))) (upd κ σ.N (.pointer (some ⟨r,0,none⟩))) F w':=by
  refine⟨fun b hb=>ab (hne b hb),fun _ h=>h,fun _ h=>.inl h,q7.size,fun k hk _=>q7.block k hk,fun b k hb h1=>?_,.of fun k hk=>.inr (q7.block k hk)⟩
  rcases hlive b hb with rfl|⟨hb1,hb2⟩
  ·rw[ao]at h1
   have h1:r=k:=by simpa[ai]using h1
   exact .inl (by omega)
  ·rw[ab hb2]at h1;exact .inr ⟨b,hb1,h1⟩
 have hput:=hrel.put (dst:=o.dst) (v:=.map σ.N) (u:=.map (some r)) hd ⟨r,ao ..,rfl⟩ (fun b hb=>by rw[show b=σ.N by simpa[SV.names]using hb];exact .inr ⟨Nat.le_refl _,Nat.lt_succ_self _⟩)
 exact hK _ F _ w' hput hkept (by cases o.dst<;>rfl)
variable {env:List AV} {κ κ':Nat->Value} {F F':Nat->Prop} {w w' w0:World} {U:Nat->Prop} {tmp:Nat->SV} {blk:Nat->Option SB} {L:Nat} {a:Act} {P:Program} {Post:R->Prop} {K:Nat->List AV->Prop} {cfg:Cfg} {run:Run} {ro:Option Nat}
theorem Gl{σ:SS}{vs:List SV}(h:vs.all σ.okSV=true):∀x∈vs,∀b∈x.names,b<σ.N:=fun x hx b hb=>by
 have:=List.all_eq_true.1 h x hx
 unfold SS.okSV at this;rw[Bool.and_eq_true,List.all_eq_true]at this;exact iq (this.2 b hb)
theorem xK{σ σ':SS}{dst:Option Nat}{v:SV}(hle:σ.N<=σ'.N)(hd:∀d,dst=some d->d<σ.L):(SS.put { σ' with rf:=σ.rf } dst v).tmp=eN σ.tmp dst v/\(SS.put { σ' with rf:=σ.rf } dst v).blk=aJ σ.blk (ch σ σ')/\(SS.put { σ' with rf:=σ.rf } dst v).N=σ'.N/\(SS.put { σ' with rf:=σ.rf } dst v).L=σ.L ∧
  (SS.put { σ' with rf:=σ.rf } dst v).n=σ'.n/\(SS.put { σ' with rf:=σ.rf } dst v).known=σ'.known/\(SS.put { σ' with rf:=σ.rf } dst v).dep=σ'.dep:=by
 obtain⟨g1,g2,g3,g4,g5,g6,g7⟩:=ej { σ' with rf:=σ.rf } (dst:=dst) (v:=v) hd
 refine⟨g1,?_,g3,g6,g4,g5,g7⟩
 rw[g2];funext b
 rw[Bt hle (fun _ _=>rfl)]
 split
 ·rfl
 ·rename_i h
  have h1:σ'.blk b=none:=Ov.get_out (by have:¬b<σ'.N:=h;exact Nat.le_of_not_lt this)
  have h2:σ.blk b=none:=Ov.get_out (by have:¬b<σ'.N:=h;have:σ.hp.len=σ.N:=rfl;omega)
  rw[h2];exact h1
theorem MV(hrun:nT P w0 run)(hfit:PFit P){own:Bool}{id i:Nat}{ops:Array Oper}{o:Oper}(ho:ops[i]?=some o){σ:SS}{kn:List (E×Bool)}{k:SS->Seen->T}{kp:Value->SS->T}(hn:env.length=σ.n)(hk:KnownOK env σ.n kn)
  (hw:∀rs,bX ops o σ.tmp (env++rs) true) {x:Out} (hx:cV P cfg.cons.contains own (k9 kn) σ.N σ.ev σ.blk o=x) (h:(fin P cfg run id { σ with known:=kn } o x k kp (bf ops o)).den P Post env K):Ew P Post K w0 ro env ops i σ k kp:=by
 cases x with
 |no m=>exact h.elim
 |br c=>exact h.elim
 |panic v=>
  replace h:(kp v { σ with known:=kn }).den P Post env K:=h
  exact .inr ⟨v,[],{ σ with known:=kn },K,by rw[List.append_nil];exact h,fun _ _=>rfl,by rw[List.append_nil];exact hk,by rw[List.append_nil];exact hn,fun rs=>QB ho (σ:=σ) (σ₁:={ σ with known:=kn }) hx (by have:=hw rs;rw[<-List.append_nil env]at this;exact this),rfl,rfl,rfl,Nat.le_refl _⟩
 | ok needs v wr=>
  replace h:(Mf id { σ with known:=kn } o needs v wr k (bf ops o)).den P Post env K:=h
  unfold Mf at h;simp only[iZ AX,iA,MX,SS.go_eq]at h;split at h
  ·rename_i hc
   simp only[Bool.and_eq_true]at hc;obtain⟨⟨⟨⟨c1,c2⟩,c3⟩,c4⟩,c5⟩:=hc;rw[List.all_eq_true]at c1;rw[NG]at h;obtain⟨hnd,hden⟩:=h;have hd:=i6 c5;obtain⟨kn',l1,l2⟩:=NL (env:=env) (needs.filter (fun e=>SS.tr { σ with known:=kn } e !=some true)) { σ with known:=kn }
   rw[l1]at hden;have hkn:=l2 hk (fun e he=>⟨c1 e he,hnd e he⟩)
   have hns:∀rs,∀e∈needs,(den (env++rs) e).b=true:=fun rs e he=>by
     cases ht:(SS.tr { σ with known:=kn } e !=some true)with
     |true=>
      have hm:e∈needs.filter (fun e=>SS.tr { σ with known:=kn } e !=some true):=List.mem_filter.2 ⟨he,ht⟩
      rw[je hn (c1 e hm)];exact hnd e hm
     |false=>
      have:SS.tr { σ with known:=kn } e=some true:=by simpa using ht
      exact lD (hk.ext' hn) this
   have hstep:∀rs,im σ.N (fj σ.N wr)/\StepSem P w0 (env++rs) ro σ.L ops σ.N (cr σ.N (fj σ.N wr)) i ⟨v,fj σ.N wr,qe { σ with known:=kn } o v wr (bf ops o)⟩ σ.tmp σ.blk:=fun rs=>by
    cases hl:D7 { σ with known:=kn } o v wr with
    |some rh=>
     obtain⟨rfl,hs⟩:=MH (w0:=w0) (env:=env++rs) (ro:=ro) ho (σ:={ σ with known:=kn }) (σ₁:={ σ with known:=kn }) hx (hns rs) hl hd (hw rs)
     unfold qe;rw[hl];exact⟨trivial,hs⟩
    |none=>
     unfold qe;rw[hl];exact Pz ho (σ:=σ) (σ₁:={ σ with known:=kn }) (hk.ext' hn) hx (hns rs) c4 hd (hw rs)
   obtain⟨p1,p2,p3,p4,p5,p6,p7⟩:=CG (σ:={ σ with known:=kn' }) (o:=o) (v:=v) (hstep []).1 hd
   have hsd:(qe { σ with known:=kn } o v wr (bf ops o)).dst=o.dst:=by unfold qe;split<;>rfl
   refine .inl ⟨[],_,⟨v,fj σ.N wr,qe { σ with known:=kn } o v wr (bf ops o)⟩,K,by rw[List.append_nil];exact hden,fun _ _=>rfl,?_,?_,fun rs=>?_,by rw[hsd];exact p1,p2,p4,p7⟩
   ·rw[List.append_nil,p5,p6];exact hkn
   ·rw[List.append_nil,p5];exact hn
   ·rw[List.append_nil,p3];exact(hstep rs).2
  ·exact h.elim
 | call f args sh wr=>
  replace h:(E0 id { σ with known:=kn } o f args sh wr k (bf ops o)).den P Post env K:=h
  unfold E0 at h;split at h
  ·rename_i hc
   simp only[Bool.and_eq_true]at hc;obtain⟨⟨⟨c1,c2⟩,c3⟩,c4⟩:=hc;simp only[AX,iA,MX,SS.go_eq]at h;obtain⟨r,hr,hcon,hden⟩:=h;have hd:=i6 c2;have hwr:∀y∈wr,y.1∈bh σ.ev o/\y.1<σ.N:=fun y hy=>by
    have:=List.all_eq_true.1 c4 y hy
    simp only[Bool.and_eq_true]at this;exact⟨(show y.1∈bh (SS.ev { σ with known:=kn }) o from by simpa using this.1.1.1),iq this.1.1.2⟩
   have hll:=Mb r;rw[hr]at hll;have hstep:∀rs,im σ.N (wr++(mkRes sh σ.n σ.N).2)/\StepSem P w0 (env++r.leaves++rs) ro σ.L ops σ.N (cr σ.N (wr++(mkRes sh σ.n σ.N).2)) i ⟨(mkRes sh σ.n σ.N).1,wr++(mkRes sh σ.n σ.N).2,{ rt:=bf ops o,rb:=bh σ.ev o,dst:=o.dst,wb:=(wr++(mkRes sh σ.n σ.N).2).map (·.1) }⟩ σ.tmp σ.blk:=fun rs=>
    ML hfit ho (σ:=σ) (σ₁:={ σ with known:=kn }) hx hr (n:=σ.n) (by rw[List.append_assoc,je hn c1];exact hcon) (fun j y hj=>by
     rw[List.append_assoc,List.getElem?_append_right (by omega)]
     rw[show σ.n+j-env.length=j by omega,List.getElem?_append_left (List.getElem?_eq_some_iff.1 hj).1]
     exact hj) hd hwr (by have:=hw (r.leaves++rs);rw[<-List.append_assoc]at this;exact this)
   obtain⟨p1,p2,p3,p4,p5,p6,p7⟩:=CG (σ:={ σ with known:=kn,n:=σ.n+(mkRes.RS.cnt sh).1 }) (o:=o) (v:=(mkRes sh σ.n σ.N).1) (hstep []).1 hd
   refine .inl ⟨r.leaves,SS.eff { σ with known:=kn,n:=σ.n+(mkRes.RS.cnt sh).1 } o (mkRes sh σ.n σ.N).1 (wr++(mkRes sh σ.n σ.N).2),⟨(mkRes sh σ.n σ.N).1,wr++(mkRes sh σ.n σ.N).2,{ rt:=bf ops o,rb:=bh σ.ev o,dst:=o.dst,wb:=(wr++(mkRes sh σ.n σ.N).2).map (·.1) }⟩,K,hden,fun _ _=>rfl,?_,?_,fun rs=>?_,p1,p2,p4,p7⟩
   ·rw[p5,p6];exact hk.ext hn (Nat.le_add_right _ _)
   ·rw[p5];show _=σ.n+_;rw[List.length_append,hn,hll]
   ·rw[p3];exact(hstep rs).2
  ·exact h.elim
 | inl f vs=>
  unfold fin at h;simp only at h
  split at h
  ·rename_i fn hfn
   split at h
   ·rename_i ks vs' _
    unfold Np at h;split at h
    ·rename_i hc
     simp only[Bool.and_eq_true,List.isEmpty_iff]at hc;obtain⟨⟨⟨⟨⟨c1,c2⟩,c3⟩,c4⟩,c5⟩,c6⟩:=hc;subst c1;simp only[SS.go_eq]at h;obtain⟨hm,hden⟩:=h;have hd:=i6 c6;have hwr:im σ.N [(σ.N,some (.map ks vs'))]:=⟨Nat.le_refl _,trivial⟩
     obtain⟨p1,p2,p3,p4,p5,p6,p7⟩:=CG (σ:={ σ with known:=kn }) (o:=o) (v:=.map σ.N) hwr hd
     have hN:cr σ.N [(σ.N,some (SB.map ks vs'))]=σ.N+1:=by show max σ.N (σ.N+1)=_;omega
     refine .inl ⟨[],_,⟨.map σ.N,[(σ.N,some (.map ks vs'))],{ rt:=bf ops o,rb:=bh σ.ev o,dst:=o.dst,wb:=[σ.N] }⟩,K,by rw[List.append_nil];exact hden,fun _ _=>rfl,?_,?_,fun rs=>?_,p1,p2,p4,p7⟩
     ·rw[List.append_nil,p5,p6];exact hk
     ·rw[List.append_nil,p5];exact hn
     ·rw[List.append_nil,p3]
      show StepSem P w0 (env++rs) ro σ.L ops σ.N (cr σ.N _) i _ σ.tmp σ.blk
      rw[hN];exact Od hfit ho (σ:=σ) (σ₁:={ σ with known:=kn }) hx hm c2 c3 c4 c5 hd (hw rs)
    ·exact h.elim
   ·rename_i c hmap hb
    unfold Mn at h;simp only[iZ iA]at h;split at h
    ·rename_i hc
     rw[Bool.and_eq_true]at hc;obtain⟨c1,c2⟩:=hc;rw[Bool.and_eq_true]at c1;have hvn:=Gl c1.1;have hcl:∀b x,σ.blk b=some x->∀c∈x.names,c<σ.N:=fun b x hx=>SS.closed_spec (σ:={ σ with known:=kn }) c1.2 hx
     have hft:∀b∈bh σ.ev o,b<σ.N:=fun b hb=>iq (List.all_eq_true.1 c2 b hb)
     obtain⟨ex,σ',rs,K',hden,hK,hdep,hkn,hlen,hl⟩:=hrun Post K none f c _ (SS.frame { σ with known:=kn } vs fn.ntmps) env hn hk h
     by_cases hpan:ex.isPanic=true
     ·cases ex with
      |panic v=>
       simp only[SS.go_eq]at hden;have hle:σ.N<=σ'.N:=(hl []).le
       obtain⟨p1,p2,p3,p4,p5,p6,p7⟩:=xK (σ:={ σ with known:=kn }) (σ':=σ') (dst:=none) (v:=.nil) hle (fun d hd=>by cases hd)
       refine .inr ⟨v,rs,_,K',hden,hK,hkn,hlen,fun ts=>?_,rfl,rfl,hdep,hle⟩
       have h1:=Pu (ro:=ro) hfit ho (σ:=σ) (σ₁:={ σ with known:=kn }) hx hfn hb hft hvn hcl ((hl ts).same ⟨rfl,rfl,rfl,rfl⟩ ⟨rfl,rfl,rfl,rfl⟩) (by have:=hw (rs++ts);rw[<-List.append_assoc]at this;exact this)
       have h2:(SS.mk σ.rf σ'.hp σ'.n σ'.known σ'.dep).blk=aJ σ.blk (ch σ σ'):=p2
       show qi P w0 (env++rs++ts) _ σ.L ops σ.N σ'.N i v σ.tmp σ.blk (SS.mk σ.rf σ'.hp σ'.n σ'.known σ'.dep).blk
       rw[h2];exact h1
      |_=>cases hpan
     have hex:ex.out=true/\∃us,bJ P σ' fn.results.toList=some us/\(th id { σ with known:=kn } o k (bf ops o) (fi us) σ').den P Post (env++rs) K':=by
      cases ex with
      |panic v=>exact absurd rfl hpan
      |exit j=>exact hden.elim
      |normal=>
       simp only[iA]at hden;split at hden
       ·rename_i us hus;exact⟨rfl,us,hus,hden⟩
       ·exact hden.elim
      |ret=>
       simp only[iA]at hden;split at hden
       ·rename_i us hus;exact⟨rfl,us,hus,hden⟩
       ·exact hden.elim
     obtain⟨hex,us,hus,hden⟩:=hex;unfold th at hden;split at hden
     ·rename_i hdo
      simp only[SS.go_eq]at hden;have hd:=i6 hdo;have hle:σ.N<=σ'.N:=(hl []).le
      obtain⟨p1,p2,p3,p4,p5,p6,p7⟩:=xK (σ:={ σ with known:=kn }) (σ':=σ') (dst:=o.dst) (v:=fi us) hle hd
      refine .inl ⟨rs,_,⟨fi us,ch σ σ',{ rt:=bf ops o,rb:=List.range σ.N,dst:=o.dst,wb:=i8 σ σ' }⟩,K',hden,hK,by rw[p5,p6];exact hkn,by rw[p5];exact hlen,fun ts=>?_,p1,p2,p4,by rw[p7];exact hdep⟩
      rw[p3];exact OB hfit ho (σ:=σ) (σ₁:={ σ with known:=kn }) hx hfn hb hft hvn hcl hex ((hl ts).same ⟨rfl,rfl,rfl,rfl⟩ ⟨rfl,rfl,rfl,rfl⟩) hus hd (by have:=hw (rs++ts);rw[<-List.append_assoc]at this;exact this)
     ·exact hden.elim
    ·exact h.elim
   ·exact h.elim
  ·exact h.elim
 | yld b vs=>
  replace h:(IA run id { σ with known:=kn } o b vs k (bf ops o)).den P Post env K:=h
  unfold IA at h;split at h
  ·rename_i li hb
   split at h
   ·rename_i hc
    simp only[Bool.and_eq_true,beq_iff_eq]at hc;obtain⟨⟨⟨⟨c1,c1'⟩,c2⟩,c3⟩,c4⟩:=hc;have hvn:=Gl c1;have hcl:∀b x,σ.blk b=some x->∀c∈x.names,c<σ.N:=fun b x hx=>SS.closed_spec (σ:={ σ with known:=kn }) c1' hx
    have hft:∀b∈bh σ.ev o,b<σ.N:=fun b hb=>iq (List.all_eq_true.1 c2 b hb)
    have hpar:∀t∈li.params.toList,t<li.rf.len:=fun t ht=>iq (List.all_eq_true.1 c4 t ht)
    simp only[iZ iA,Pg,SS.go_eq,Pd]at h;obtain⟨ex,σ₁,rs,K₁,hden,hK1,hdep1,hkn1,hlen1,hl1⟩:=hrun Post K (some b) li.fn li.assign _ { σ with known:=kn,rf:=eD li.params.toList vs li.rf } env hn hk h
    simp only at hden
    split at hden
    ·rename_i i₁ hb1
     obtain⟨y1,y2,y3,y4⟩:=mD (σ:=σ₁) (y:=some (.loop i₁ .busy .none)) hb1
     obtain⟨_,_,_,_,y5,y6,y7⟩:=cx σ₁ [(b,some (.loop i₁ .busy .none))] ⟨by have:=eR hb1;omega,trivial⟩
     obtain⟨ex₂,σ₂,rs₂,K₂,hden,hK2,hdep2,hkn2,hlen2,hl2⟩:=hrun Post K₁ (some b) li.fn li.body _ (σ₁.write [(b,some (.loop i₁ .busy .none))]) (env++rs) (by rw[y5];exact hlen1) (by rw[y5,y6];exact hkn1) hden
     simp only at hden
     split at hden
     ·exact hden.elim
     rename_i hnp
     have hnp:ex₂.isPanic=false:=by simpa using hnp
     split at hden
     ·rename_i i₂ hb2
      obtain⟨z1,z2,z3,z4⟩:=mD (σ:=σ₂) (y:=some (eg i₂ ex₂)) hb2
      obtain⟨_,_,_,_,z5,z6,z7⟩:=cx σ₂ [(b,some (eg i₂ ex₂))] ⟨by have:=eR hb2;omega,trivial⟩
      replace hden:(th id { σ with known:=kn } o k (bf ops o) (.vb (.bool (ex₂.jmp==.none))) (σ₂.write [(b,some (eg i₂ ex₂))])).den P Post (env++rs++rs₂) K₂:=hden
      unfold th at hden;split at hden
      ·rename_i hdo
       simp only[SS.go_eq]at hden;have hd:=i6 hdo;have hle1:σ.N<=σ₁.N:=(hl1 []).le
       have hle2:σ₁.N<=σ₂.N:=by have:=(hl2 []).le;rw[y2]at this;exact this
       have hle:σ.N<=(σ₂.write [(b,some (eg i₂ ex₂))]).N:=by rw[z2];omega
       obtain⟨p1,p2,p3,p4,p5,p6,p7⟩:=xK (σ:={ σ with known:=kn }) (σ':=σ₂.write [(b,some (eg i₂ ex₂))]) (dst:=o.dst) (v:=.vb (.bool (ex₂.jmp==.none))) hle hd
       refine .inl ⟨rs++rs₂,_,⟨.vb (.bool (ex₂.jmp==.none)),ch σ (σ₂.write [(b,some (eg i₂ ex₂))]),{ rt:=bf ops o,rb:=List.range σ.N,dst:=o.dst,wb:=i8 σ (σ₂.write [(b,some (eg i₂ ex₂))]) }⟩,K₂,by rw[<-List.append_assoc];exact hden,fun l hlt=>?_,
        by rw[<-List.append_assoc,p5,p6,z5,z6];exact hkn2,by rw[<-List.append_assoc,p5,z5];exact hlen2,fun ts=>?_,p1,p2,p4,by rw[p7,z7,hdep2,y7];exact hdep1⟩
       ·rw[hK2 l (by rw[y7,hdep1];exact hlt),hK1 l hlt]
       ·rw[p3]
        have hl1':=hl1 (rs₂++ts);rw[<-List.append_assoc]at hl1';rw[<-List.append_assoc];refine NK ho (σ:=σ) (σt:={ σ with known:=kn }) hx hft hvn hcl hb c3 hpar (hl1'.same ⟨rfl,rfl,rfl,rfl⟩ ⟨rfl,rfl,rfl,rfl⟩) hb1 (hl2 ts) hb2 hnp hd ?_
        have:=hw (rs++(rs₂++ts))
        rw[<-List.append_assoc,<-List.append_assoc]at this;exact this
      ·exact hden.elim
     ·exact hden.elim
    ·exact hden.elim
   ·exact h.elim
  ·exact h.elim
theorem oy{i:Nat}{ops:Array Oper}{o:Oper}(ho:ops[i]?=some o){σ:SS}{kn:List (E×Bool)}{k:SS->Seen->T}{kp:Value->SS->T}(hn:env.length=σ.n)(hk:KnownOK env σ.n kn)
  (hw:∀rs,bX ops o σ.tmp (env++rs) false) (h:(sQ { σ with known:=kn } o k (bf ops o)).den P Post env K):Ew P Post K w0 ro env ops i σ k kp:=by
 unfold sQ at h;split at h
 ·rename_i c3
  have hd:=i6 c3;obtain⟨p1,p2,p3,p4,p5,p6,p7⟩:=ej { σ with known:=kn } (dst:=o.dst) (v:=.nil) hd
  refine .inl ⟨[],SS.put { σ with known:=kn } o.dst .nil,⟨.nil,[],{ rt:=bf ops o,rb:=[],dst:=o.dst,wb:=[] }⟩,K,by rw[List.append_nil];exact h,fun _ _=>rfl,?_,?_,fun rs=>?_,p1,p2,p6,p7⟩
  ·rw[List.append_nil,p4,p5];exact hk
  ·rw[List.append_nil,p4];exact hn
  ·rw[List.append_nil,p3]
   exact MO ho (σ:=σ) hd (hw rs)
 ·exact h.elim
theorem lB(hrun:nT P w0 run)(hfit:PFit P){fid id i:Nat}{ops:Array Oper}{o:Oper}(ho:ops[i]?=some o){σ:SS}{k:SS->Seen->T}{kp:Value->SS->T}(hn:env.length=σ.n)
  (hw:∀rs,bX ops o σ.tmp (env++rs) true):∀(n:Nat) (kn:List (E×Bool)),KnownOK env σ.n kn->(zp P cfg run fid id o k kp (bf ops o) n { σ with known:=kn }).den P Post env K->Ew P Post K w0 ro env ops i σ k kp
 |0,kn,_,h=>h.elim
 | n+1,kn,hk,h=>by
  unfold zp at h;split at h
  ·rename_i c hc
   split at h
   ·rename_i hs
    obtain⟨h1,h2⟩:=h;cases hb:(den env c).b with
    |true=>exact lB hrun hfit ho hn hw n (iD kn c true) (gv hk hs hb) (h1 hb)
    |false=>exact lB hrun hfit ho hn hw n (iD kn c false) (gv hk hs hb) (h2 hb)
   ·exact h.elim
  ·exact MV hrun hfit ho hn hk hw rfl h
theorem Nr(hrun:nT P w0 run)(hfit:PFit P){fid id i:Nat}{ops:Array Oper}{o:Oper}(ho:ops[i]?=some o){σ:SS}{k:SS->Seen->T}{kp:Value->SS->T}(hn:env.length=σ.n)(hk:KnownOK env σ.n σ.known)
  (h:(LF P cfg run fid id ops o σ k kp).den P Post env K):Ew P Post K w0 ro env ops i σ k kp:=by
 unfold LF at h;simp only at h
 split at h
 ·rename_i hg
  exact lB hrun hfit ho hn (fun rs=>LM (fun j want hh=>by rw[hg]at hh;cases hh) (fun _=>rfl) hk hn rs) 16 σ.known hk h
 ·rename_i j want hg
  split at h
  ·rename_i e he
   obtain⟨d,hd,hde⟩:=Option.map_eq_some_iff.1 he;have W:∀(t:Bool),(∀rs,(den (env++rs) e).b=t)->∀rs,bX ops o σ.tmp (env++rs) (decide (t=want)):=fun t q2 rs=>by
    unfold bX;rw[hg];exact⟨d,hd,.inl ⟨e,hde,by rw[q2 rs]⟩⟩
   split at h
   ·rename_i t ht
    have q2:∀rs,(den (env++rs) e).b=t:=fun rs=>lD (hk.ext' hn) ht
    split at h
    ·rename_i hw
     exact lB hrun hfit ho hn (fun rs=>by have:=W t q2 rs;rwa [decide_eq_true hw]at this) 16 σ.known hk h
    ·rename_i hw
     exact oy ho hn hk (fun rs=>by have:=W t q2 rs;rwa [decide_eq_false hw]at this) h
   ·split at h
    ·rename_i hs
     obtain⟨h1,h2⟩:=h;cases hb:(den env e).b with
     | true=>
      have q2:∀rs,(den (env++rs) e).b=true:=fun rs=>by rw[je hn hs];exact hb
      have h1:=h1 hb;split at h1
      ·rename_i hw
       exact lB hrun hfit ho hn (fun rs=>by have:=W true q2 rs;rwa [hw]at this) 16 (iD σ.known e true) (gv hk hs hb) h1
      ·rename_i hw
       have hw:want=false:=by simpa using hw
       exact oy ho hn (gv hk hs hb) (fun rs=>by have:=W true q2 rs;rwa [hw]at this) h1
     | false=>
      have q2:∀rs,(den (env++rs) e).b=false:=fun rs=>by rw[je hn hs];exact hb
      have h2:=h2 hb;split at h2
      ·rename_i hw
       exact oy ho hn (gv hk hs hb) (fun rs=>by have:=W false q2 rs;rwa [hw]at this) h2
      ·rename_i hw
       have hw:want=false:=by simpa using hw
       exact lB hrun hfit ho hn (fun rs=>by have:=W false q2 rs;rwa [hw]at this) 16 (iD σ.known e false) (gv hk hs hb) h2
    ·exact h.elim
  ·rename_i he
   obtain⟨d,hd,hde⟩:=Option.map_eq_some_iff.1 he;exact oy ho hn hk (fun rs=>by unfold bX;rw[hg];exact⟨d,hd,.inr ⟨hde,rfl⟩⟩) h
  ·exact h.elim
theorem F6(hrun:nT P w0 run)(hfit:PFit P){fid id:Nat}{ops:Array Oper}{draw:Bool}{h0:Ov (Option SB)}{k:SS->T}{kp:Value->SS->T}:∀(rest:List Oper) (i:Nat) (σ:SS) (seen:List Seen) (env:List AV) (K:Nat->List AV->Prop),(∀(j:Nat) o,rest[j]?=some o->ops[i+j]?=some o)->env.length=σ.n->KnownOK env σ.n σ.known →
  (oS P cfg run fid id ops draw h0 rest σ seen k kp).den P Post env K →
  (∃(rs:List AV) (ss:List Stp) (σ':SS) (K':Nat->List AV->Prop),ss.length=rest.length/\(∀us,Chain P w0 (env++rs++us) ro σ.L ops σ.N i σ.tmp σ.blk ss σ'.N σ'.tmp σ'.blk) ∧
   (draw=true->l8 (cY ops.toList []) (seen.reverse++ss.map (·.seen))=true/\gV ops.toList=true/\mY h0 (seen.reverse++ss.map (·.seen))=true)/\(k σ').den P Post (env++rs) K'/\(∀l,l<σ.dep->K' l=K l)/\KnownOK (env++rs) σ'.n σ'.known/\(env++rs).length=σ'.n/\σ'.L=σ.L/\σ'.dep=σ.dep) ∨
  ∃(v:Value) (rs:List AV) (ss:List Stp) (σm σ':SS) (K':Nat->List AV->Prop),ss.length+1=rest.length/\(∀us,Chain P w0 (env++rs++us) ro σ.L ops σ.N i σ.tmp σ.blk ss σm.N σm.tmp σm.blk)/\(∀us,qi P w0 (env++rs++us) ro σ.L ops σm.N σ'.N (i+ss.length) v σm.tmp σm.blk σ'.blk)/\σm.N<=σ'.N/\σ'.tmp=σm.tmp ∧
   (draw=true->l8 (cY ops.toList []) (seen.reverse++ss.map (·.seen))=true/\gV ops.toList=true/\mY h0 (seen.reverse++ss.map (·.seen))=true/\∀j,j<seen.length+ss.length->((cY ops.toList []).getD (seen.length+ss.length) 0).testBit j=true)/\(kp v σ').den P Post (env++rs) K'/\(∀l,l<σ.dep->K' l=K l)/\KnownOK (env++rs) σ'.n σ'.known/\(env++rs).length=σ'.n/\σ'.L=σ.L/\σ'.dep=σ.dep
 | [],i,σ,seen,env,K,_,hn,hk,h=>by
  unfold oS at h;split at h
  ·rename_i hc
   refine .inl ⟨[],[],σ,K,rfl,fun us=>.nil _ _ _ _,fun hd=>?_,by rw[List.append_nil];exact h,fun _ _=>rfl,by rw[List.append_nil];exact hk,by rw[List.append_nil];exact hn,rfl,rfl⟩
   rw[hd]at hc;simp only[Bool.not_true,Bool.false_or,Bool.and_eq_true]at hc;obtain⟨⟨c1,c2⟩,c3⟩:=hc;exact⟨by simpa using c1,c2,by unfold mY at c3⊢;simpa using c3⟩
  ·exact h.elim
 | o :: rest,i,σ,seen,env,K,hget,hn,hk,h=>by
  unfold oS at h;have ho:=hget 0 o rfl;rw[Nat.add_zero]at ho;rcases Nr (w0:=w0) (ro:=ro) hrun hfit ho hn hk h with⟨r1,σ₁,s,K1,q1,q2,q3,q4,q5,q6,q7,q8,q9⟩|⟨v,r1,σ₁,K1,q1,q2,q3,q4,q5,q6,q7,q8,q9⟩
  ·have hsd:(s.seen.fix h0).dst=s.seen.dst:=by unfold Seen.fix;split<;>rfl
   have chain:∀ {rs us:List AV} {ss:List Stp} {N':Nat} {tmp':Nat->SV} {blk':Nat->Option SB},Chain P w0 (env++r1++rs++us) ro σ₁.L ops σ₁.N (i+1) σ₁.tmp σ₁.blk ss N' tmp' blk'->Chain P w0 (env++(r1++rs)++us) ro σ.L ops σ.N i σ.tmp σ.blk ({ s with seen:=s.seen.fix h0 }::ss) N' tmp' blk':=fun{rs us ss N' tmp' blk'} c=>by
    rw[q8,q6,q7]at c;rw[<-hsd]at c;rw[<-List.append_assoc];refine .cons ?_ c
    have:=(q5 (rs++us)).fix h0
    rw[<-List.append_assoc]at this;exact this
   rcases F6 hrun hfit rest (i+1) σ₁ (s.seen.fix h0::seen) (env++r1) K1 (fun j o' hj=>by have:=hget (j+1) o' (by simpa using hj);rw[show i+(j+1)=i+1+j by omega]at this;exact this) q4 q3 q1 with⟨rs,ss,σ',K',g2,g3,g4,g5,g5k,g6,g7,g8,g9⟩|⟨v,rs,ss,σm,σ',K',g2,g3,gp,gN,gt,g4,g5,g5k,g6,g7,g8,g9⟩
   ·refine .inl ⟨r1++rs,{ s with seen:=s.seen.fix h0 }::ss,σ',K',by simp[g2],fun us=>chain (g3 us),fun hd=>?_,by rw[<-List.append_assoc];exact g5,fun l hl=>(g5k l (by rw[q9];exact hl)).trans (q2 l hl),by rw[<-List.append_assoc];exact g6,by rw[<-List.append_assoc];exact g7,by rw[g8,q8],by rw[g9,q9]⟩
    have:=g4 hd
    rw[List.reverse_cons,List.append_assoc]at this;exact this
   ·refine .inr ⟨v,r1++rs,{ s with seen:=s.seen.fix h0 }::ss,σm,σ',K',by simp[g2],fun us=>chain (g3 us),fun us=>?_,gN,gt,fun hd=>?_,by rw[<-List.append_assoc];exact g5,fun l hl=>(g5k l (by rw[q9];exact hl)).trans (q2 l hl),by rw[<-List.append_assoc];exact g6,by rw[<-List.append_assoc];exact g7,by rw[g8,q8],by rw[g9,q9]⟩
    ·have:=gp us
     rw[q8,show i+1+ss.length=i+(ss.length+1) by omega]at this
     rw[<-List.append_assoc];exact this
    ·obtain⟨i1,i2,i3,i4⟩:=g4 hd
     rw[List.reverse_cons,List.append_assoc]at i1 i3;refine⟨i1,i2,i3,?_⟩
     have e:(s.seen.fix h0::seen).length+ss.length=seen.length+({ s with seen:=s.seen.fix h0 }::ss).length:=by simp;omega
     rw[e]at i4;exact i4
  ·split at q1
   rotate_left
   ·exact q1.elim
   rename_i hc
   unfold Nm at hc;rw[Bool.and_eq_true]at hc;obtain⟨c0,c1⟩:=hc;have hr:rest=[]:=by simpa using c0
   subst hr;refine .inr ⟨v,r1,[],σ,σ₁,K1,rfl,fun us=>.nil _ _ _ _,fun us=>q5 us,q9,q6,fun hd=>?_,q1,q2,q3,q4,q7,q8⟩
   rw[hd]at c1;simp only[Bool.not_true,Bool.false_or,Bool.and_eq_true]at c1;obtain⟨⟨⟨c1,c2⟩,c3⟩,c4⟩:=c1;refine⟨by simpa using c1,c2,by unfold mY at c3⊢;simpa using c3,fun j hj=>?_⟩
   have:=List.all_eq_true.1 c4 j (List.mem_range.2 (by simpa using hj))
   simpa using this
theorem Mm(ops:Array Oper):(∀k,aM (Array.replicate ops.size false) k=false)/\(∀(ss:List Stp) (i:Nat) (f:Nat->SV),dO (aM (Array.replicate ops.size false)) i ss f=f)/\∀(ss:List Stp) (i:Nat) (f:Nat->Option SB),cK (aM (Array.replicate ops.size false)) i ss f=f:=by
 have hdone:∀k,aM (Array.replicate ops.size false) k=false:=fun k=>by
  unfold aM;by_cases hk:k<ops.size
  ·simp[Array.getD,hk]
  ·simp[Array.getD,hk]
 refine⟨hdone,fun ss=>?_,fun ss=>?_⟩
 ·induction ss with
  |nil=>intro i f;rfl
  |cons x ss ih=>intro i f;simp only[dO,hdone];exact ih _ _
 ·induction ss with
  |nil=>intro i f;rfl
  |cons x ss ih=>intro i f;simp only[cK,hdone];exact ih _ _
theorem Chain.draw0(hmix:P.follows .mixedOrders=true){id:Nat}{ops:Array Oper}{Q:Exit->Act->World->Prop}{σ:SS}{N'':Nat}{tmp'':Nat->SV}{blk'':Nat->Option SB}{ss:List Stp}(c:Chain P w0 env ro σ.L ops σ.N 0 σ.tmp σ.blk ss N'' tmp'' blk'')(hr:Rel w0 env κ F U σ.tmp σ.blk σ.L a w)(hU:∀b,σ.N<=b->¬U b)(hro:∀b,ro=some b->U b)(hlen:ss.length<=ops.size)
  (hlast:∀i,ss.length<=i->i<ops.size->(∀j,j<ss.length->((cY ops.toList []).getD i 0).testBit j=true)/\∀(κ':Nat->Value) (F':Nat->Prop) (a':Act) (w':World) (K:Act->World->Prop),Rel w0 env κ' F' (fun b=>U b\/(σ.N<=b/\b<N'')) tmp'' blk'' σ.L a' w'->Kept U σ.blk κ F w blk'' κ' F' w'->a'.defers=a.defers->wpOpIn (FR (dL κ ro)) 0 P ops Q i K a' w')
  (hdr:l8 (cY ops.toList []) (ss.map (·.seen))=true/\gV ops.toList=true/\mY σ.hp (ss.map (·.seen))=true)
  (hQ:ss.length=ops.size->∀κ' F' a' w',Rel w0 env κ' F' (fun b=>U b\/(σ.N<=b/\b<N'')) tmp'' blk'' σ.L a' w'->Kept U σ.blk κ F w blk'' κ' F' w'->a'.defers=a.defers->Q .normal a' w'):(Code.region id ops true).wpIn (FR (dL κ ro)) 0 P Q a w:=by
 refine wpIn_region_any hmix ?_
 obtain⟨i1,i2,i3⟩:=hdr;have hsl:∀(j:Nat) s,ss[j]?=some s->∀x∈s.seen.rh,U x.1/\Lt κ env x:=fun j s hs x hx=>by
  unfold mY at i3;rw[List.all_eq_true]at i3;have h1:=i3 s.seen (List.mem_map.2 ⟨s,List.mem_of_getElem? hs,rfl⟩);rw[List.all_eq_true]at h1;have h2:=h1 x hx;split at h2
  ·rename_i e t l hb
   have hb:σ.blk x.1=some (.row e t l):=hb
   refine⟨(hr.bnames _ _ hb).1,?_⟩
   have:=qu hr hb
   rw[E.eqb_spec _ _ h2]at this;exact this
  ·cases h2
 obtain⟨hdone,hT,hB⟩:=Mm ops;refine c.draw (κ₀:=κ) (F₀:=F) (U₀:=U) (wI:=w) (dI:=a.defers) (fun b h1 _=>hU b h1) hro hlen hlast i1 i2 hsl hQ ops.size _ (κ:=κ) (F:=F) (by simp) (fun j o _ hd=>by rw[hdone]at hd;cases hd) ?_ (fun k _ _=>hdone k) ?_ ?_ rfl
 ·exact Nat.le_trans (List.length_filter_le _ _) (by simp)
 ·rw[hT,hB]
  have:Rel w0 env κ F U σ.tmp σ.blk σ.L a { w with drawn:=w.drawn+1 }:=
   hr.world (κ':=κ) (F':=F) (fun _ h=>h) (fun _ _=>rfl) (fun _ h=>h) (fun _ _=>rfl) (fun b x hx=>.inl ⟨hx,fun _ _ _=>rfl⟩) hr.inj hr.nF hr.F (hr.below.trans ⟨rfl,rfl,rfl,Nat.le_refl _,fun _ _=>rfl⟩)
  exact this.monoU (fun b hb=>.inl hb)
 ·rw[hB]
  exact⟨fun _ _=>rfl,fun _ h=>h,fun _ h=>.inl h,Nat.le_refl _,fun _ _ _=>rfl,fun b _ h1 h2=>.inr ⟨b,h1,h2⟩,.of fun _ _=>.inr rfl⟩
theorem JF(hfit:PFit P){id:Nat}{ops:Array Oper}{draw:Bool}{σ σ':SS}{ss:List Stp}(hlen:ss.length=ops.size)(c:Chain P w0 env ro σ.L ops σ.N 0 σ.tmp σ.blk ss σ'.N σ'.tmp σ'.blk)(hL:σ'.L=σ.L)
  (hdr:draw=true->l8 (cY ops.toList []) (ss.map (·.seen))=true/\gV ops.toList=true/\mY σ.hp (ss.map (·.seen))=true):Leads P w0 ro (.region id ops draw) env σ .normal σ':=by
 refine⟨c.le,fun κ F U a w hr hU hro=>?_⟩
 cases draw with
 |false=>
  refine wpIn_region ?_
  rw[List.range_eq_range'];have:=c.ops (Q:=fun e a' w'=>e=Ex.normal.exit'/\Ends w0 env κ F U σ a w σ' a' w') hr (fun b h1 _=>hU b h1) hro (fun κ' F' a' w' h1 h2 h3=>⟨rfl,κ',F',by rw[hL];exact h1,h2,by rw[h3];exact Marks.nil⟩)
  rw[hlen]at this;exact this
 |true=>
  exact c.draw0 hfit.mix hr hU hro (by omega) (fun i h1 h2=>by omega) (hdr rfl) (fun _ κ' F' a' w' h1 h2 h3=>⟨rfl,κ',F',by rw[hL];exact h1,h2,by rw[h3];exact Marks.nil⟩)
theorem GQ(hfit:PFit P){id:Nat}{ops:Array Oper}{draw:Bool}{σ σm σ':SS}{ss:List Stp}{v:Value}(hlen:ss.length+1=ops.size)(c:Chain P w0 env ro σ.L ops σ.N 0 σ.tmp σ.blk ss σm.N σm.tmp σm.blk)(hp:qi P w0 env ro σ.L ops σm.N σ'.N (0+ss.length) v σm.tmp σm.blk σ'.blk)(hN:σm.N<=σ'.N)(ht:σ'.tmp=σm.tmp)(hL:σ'.L=σ.L)
  (hdr:draw=true->l8 (cY ops.toList []) (ss.map (·.seen))=true/\gV ops.toList=true/\mY σ.hp (ss.map (·.seen))=true/\∀j,j<ss.length->((cY ops.toList []).getD ss.length 0).testBit j=true):Leads P w0 ro (.region id ops draw) env σ (.panic v) σ':=by
 have hle:=c.le;refine⟨by omega,fun κ F U a w hr hU hro=>?_⟩
 have fin:∀κ' F' a' w',Rel w0 env κ' F' (fun b=>U b\/(σ.N<=b/\b<σ'.N)) σm.tmp σ'.blk σ.L a' w'->Kept U σ.blk κ F w σ'.blk κ' F' w'->a'.defers=a.defers->Exit.panic (fW v)=(Ex.panic v).exit'/\Ends w0 env κ F U σ a w σ' a' w':=fun κ' F' a' w' h1 h2 h3=>⟨rfl,κ',F',by rw[hL,ht];exact h1,h2,by rw[h3];exact Marks.nil⟩
 cases draw with
 |false=>
  refine wpIn_region ?_
  rw[List.range_eq_range'];have:=c.opsP hp hN (Q:=fun e a' w'=>e=(Ex.panic v).exit'/\Ends w0 env κ F U σ a w σ' a' w') hr (fun b h1 _=>hU b h1) hro fin 0
  rw[Nat.add_zero,hlen]at this;exact this
 | true=>
  obtain⟨d1,d2,d3,d4⟩:=hdr rfl;refine c.draw0 hfit.mix hr hU hro (by omega) (fun i h1 h2=>?_) ⟨d1,d2,d3⟩ (fun h=>by omega)
  ·have hi:i=ss.length:=by omega
   subst hi;refine⟨d4,fun κ' F' a' w' K r k hd=>?_⟩
   have hp':=hp κ' F' (fun b=>U b\/(σ.N<=b/\b<σm.N)) a' w' K (fun e a' w'=>e=(Ex.panic v).exit'/\Ends w0 env κ F U σ a w σ' a' w') r (fun b h1 h2 hb=>by
    rcases hb with hb|hb
    ·exact hU b (by omega) hb
    ·omega) (fun b hb=>.inl (hro b hb)) (fun κ2 F2 w2 r2 k2=>fin κ2 F2 a' w2 (r2.monoU (fun b hb=>by
     rcases hb with(hb|hb)|hb
     ·exact .inl hb
     ·exact .inr ⟨hb.1,by omega⟩
     ·exact .inr ⟨by omega,hb.2⟩)) (k.trans k2 (fun b hb=>.inl hb)) hd)
   rw[Nat.zero_add,dP (κ:=κ) (κ':=κ') (ro:=ro) (fun b hb=>k.kap b (hro b hb))]at hp'
   exact hp'
theorem B4(hrun:nT P w0 run)(hfit:PFit P){fid id:Nat}{ops:Array Oper}{draw:Bool}{σ:SS}{k:Ex->SS->T}(hn:env.length=σ.n)(hk:KnownOK env σ.n σ.known)(h:(oS P cfg run fid id ops draw σ.hp ops.toList σ [] (fun σ'=>σ'.pack (k .normal)) (fun v σ'=>k (.panic v) σ')).den P Post env K):Path P Post w0 ro (.region id ops draw) env K σ k:=by
 rcases F6 (w0:=w0) (ro:=ro) hrun hfit ops.toList 0 σ [] env K (fun j o hj=>by rw[Nat.zero_add];simpa using hj) hn hk h with⟨rs,ss,σ',K',g2,g3,g4,g5,g5k,g6,g7,g8,g9⟩|⟨v,rs,ss,σm,σ',K',g2,g3,gp,gN,gt,g4,g5,g5k,g6,g7,g8,g9⟩
 ·obtain⟨τ,t1,t2,t3,t4,t5,t6,t7,t8⟩:=σ'.pack_spec (k .normal)
  rw[t1]at g5;refine⟨.normal,τ,rs,K',g5,g5k,by rw[t6,g9],by rw[t4,t5];exact g6,by rw[t4];exact g7,fun us=>?_⟩
  exact(JF hfit (by rw[g2];simp) (g3 us) g8 (fun hd=>by have:=g4 hd;simpa using this)).same ⟨rfl,rfl,rfl,rfl⟩ ⟨t7,t8,t2,t3⟩
 ·exact⟨.panic v,σ',rs,K',g5,g5k,g9,g6,g7,fun us=>GQ hfit (by rw[g2];simp) (g3 us) (gp us) gN gt g8 (fun hd=>by have:=g4 hd;simpa using this)⟩
theorem xA{σ:SS}{bs:List Nat}{c:Code}{ex:Ex}{σ':SS}(hw:im σ.N (bb σ.blk bs)/\cr σ.N (bb σ.blk bs)=σ.N)(h:Leads P w0 ro c env (σ.write (bb σ.blk bs)) ex σ'):Leads P w0 ro c env σ ex σ':=by
 obtain⟨y1,y2,y3,y4,_⟩:=cx σ _ hw.1;rw[hw.2]at y2;refine⟨by rw[<-y2];exact h.le,fun κ F U a w hr hU hro=>?_⟩
 obtain⟨F1,r1,k1⟩:=hr.freeze bs;rw[<-y1]at r1 k1;rw[<-y3,<-y4]at r1;refine wpIn_mono (h.go κ F1 U a w r1 (by rw[y2];exact hU) hro) ?_
 rintro e a' w' ⟨he,κ',F',r,k,m⟩;exact⟨he,κ',F',by rw[<-y2];exact r,k1.trans k (fun _ h=>h),m⟩
theorem j6(σ:SS)(bs:List Nat):im σ.N (bb σ.blk bs)/\cr σ.N (bb σ.blk bs)=σ.N:=by
 have h:=Jp (bb σ.blk bs) [] σ.N (fun x hx=>by
  obtain⟨b,_,h1⟩:=List.mem_filterMap.1 hx;split at h1
  ·rename_i e t l hb
   cases h1
   exact eR hb
  ·cases h1) trivial
 rw[List.append_nil]at h;exact h
theorem Ia(hrun:nT P w0 run)(hfit:PFit P){fid id:Nat}{ops:Array Oper}{draw:Bool}{σ:SS}{k:Ex->SS->T}(hn:env.length=σ.n)(hk:KnownOK env σ.n σ.known)(h:(zB P cfg run fid id ops draw k σ).den P Post env K):Path P Post w0 ro (.region id ops draw) env K σ k:=by
 unfold zB at h;split at h
 ·exact B4 hrun hfit hn hk h
 ·rename_i b bs _
  rw[SS.go_eq]at h;obtain⟨y1,y2,y3,y4,y5,y6,y7⟩:=cx σ _ (j6 σ (b::bs)).1;obtain⟨ex,σ',rs,K',q1,q2,q3,q4,q5,q6⟩:=B4 (w0:=w0) (ro:=ro) hrun hfit (by rw[y5];exact hn) (by rw[y5,y6];exact hk) h
  exact⟨ex,σ',rs,K',q1,fun l hl=>q2 l (by rw[y7];exact hl),by rw[q3,y7],q4,q5,fun us=>xA (j6 σ (b::bs)) (q6 us)⟩
variable {env:List AV} {κ κ':Nat->Value} {F F':Nat->Prop} {w w' w0:World} {U:Nat->Prop} {tmp:Nat->SV} {blk:Nat->Option SB} {L:Nat} {a:Act} {P:Program} {Post:R->Prop} {K:Nat->List AV->Prop}
theorem sA{x:SV}{e:E}{s:Ty}{u:Value}(hx:pW x s=some e)(h:SVden env κ F w x u):Den F w u (den env e)/\(den env e).ty=s/\aW u=true:=by
 unfold pW at hx;split at hx
 ·cases hx;rw[show u=_ from h];exact⟨uc _,rfl,rfl⟩
 ·split at hx
  ·rename_i e' u' hl
   split at hx
   ·rename_i hs;cases hx;subst hs;exact qx hl h
   ·cases hx
  ·cases hx
theorem gM{p:Loc->Bool}:∀(l:List Loc) (n m:Nat) {sv:SV},dJ p l n m=some sv->∃i x,l[i]?=some x/\p x=true/\sv=x.letter (n+i) (m+i)
 |[],n,m,sv,h=>by cases h
 | x::l,n,m,sv,h=>by
  unfold dJ at h;split at h
  ·rename_i hp;cases h;exact⟨0,x,rfl,hp,rfl⟩
  ·obtain⟨i,y,h1,h2,h3⟩:=gM l (n+1) (m+1) h
   exact⟨i+1,y,h1,h2,by rw[h3];congr 1<;>omega⟩
theorem gG{p:Loc->Bool}:∀(l:List Loc) (n m:Nat),dJ p l n m=none↔l.any p=false
 |[],n,m=>by simp[dJ]
 |x::l,n,m=>by
  unfold dJ;cases hp:p x with
  |true=>simp[hp]
  |false=>simp[hp,gG l]
theorem np(locs:List Loc)(σ:SS)(b:Nat):∀(l:List SV) (off i:Nat),(fX locs σ b off l)[i]?=(l[i]?).map fun x=>(dJ (·.isCell b (off+i)) locs σ.n σ.N).getD x
 |[],off,i=>by simp[fX]
 |x::l,off,0=>by simp[fX]
 |x::l,off,i+1=>by
  have:=np locs σ b l (off+1) i
  simp only[fX,List.getElem?_cons_succ,this];rw[show off+1+i=off+(i+1) by omega]
theorem uN(locs:List Loc)(taken:List (Option Nat))(σ:SS)(t:Nat):(eK locs taken σ).tmp t=if t<σ.L then tj locs σ t else .any:=by
 show(Ov.fn σ.L (tj locs σ)).get .any t=_
 by_cases h:t<σ.L
 ·rw[if_pos h,Ov.get_fn h]
 ·rw[if_neg h];exact Ov.get_out (by show σ.L<=t;omega)
theorem Cw(locs:List Loc)(taken:List (Option Nat))(σ:SS)(b:Nat):(eK locs taken σ).blk b=if b<σ.N+locs.length then sU locs taken σ b else none:=by
 show(Ov.fn (σ.N+locs.length) (sU locs taken σ)).get none b=_
 by_cases h:b<σ.N+locs.length
 ·rw[if_pos h,Ov.get_fn h]
 ·rw[if_neg h];exact Ov.get_out (by show σ.N+locs.length<=b;omega)
theorem kv{b:Nat}:∀(l:List Loc) (n:Nat) {y:SB},fT b l n=some y->∃i e r,l[i]?=some (.inrow b e r)/\y=.row e r (.v (n+i))
 |[],n,y,h=>by cases h
 | x::l,n,y,h=>by
  cases x with
  | inrow c e r=>
   simp only[fT]at h;split at h
   ·rename_i hc;subst hc;cases h;exact⟨0,e,r,rfl,rfl⟩
   ·obtain⟨i,e,r,h1,h2⟩:=kv l (n+1) h
    exact⟨i+1,e,r,h1,by rw[h2];congr 2;omega⟩
  |_=>
   simp only[fT]at h;obtain⟨i,e,r,h1,h2⟩:=kv l (n+1) h;exact⟨i+1,e,r,h1,by rw[h2];congr 2;omega⟩
theorem pt{b:Nat}:∀(l:List Loc) (n:Nat),fT b l n=none->l.any (·.isIn b)=false
 |[],n,_=>rfl
 | x::l,n,h=>by
  cases x with
  | inrow c e r=>
   simp only[fT]at h;split at h
   ·cases h
   ·rename_i hc
    have:=pt l (n+1) h
    rw[List.any_cons,this,Bool.or_false];simpa[Loc.isIn]using hc
  |_=>
   simp only[fT]at h;have:=pt l (n+1) h
   rw[List.any_cons,this];rfl
theorem nZ{σ:SS}:∀(locs:List Loc) (rows:List (Option Nat)) (es:E),kX σ locs=some (rows,es) →
  rows.length=locs.length/\(den env es).g.length=locs.length/\∀(i:Nat) x,locs[i]?=some x->∃b e,rows[i]?=some b/\(den env es).g[i]?=some (den env e)/\cH σ x=some (b,e)
 |[],rows,es,h=>by
  simp only[kX]at h;cases h
  exact⟨rfl,rfl,fun i x hx=>by simp at hx⟩
 | x::l,rows,es,h=>by
  simp only[kX]at h;split at h
  ·rename_i b e bs es' h1 h2
   cases h
   obtain⟨i1,i2,i3⟩:=nZ l bs es' h2;refine⟨by simp[i1],by simp[den,i2],fun i y hy=>?_⟩
   cases i with
   |zero=>simp at hy;subst hy;exact⟨b,e,rfl,by simp[den],h1⟩
   |succ i=>
    simp at hy
    obtain⟨b',e',q1,q2,q3⟩:=i3 i y hy;exact⟨b',e',by simpa using q1,by simpa[den]using q2,q3⟩
  ·cases h
theorem nj:∀(l:List (Option Nat)),jU l=true->∀(i j b:Nat),l[i]?=some (some b)->l[j]?=some (some b)->i=j
 |[],_,i,j,b,h,_=>by simp at h
 | x::l,hd,i,j,b,h1,h2=>by
  have tl:∀(i j:Nat),l[i]?=some (some b)->l[j]?=some (some b)->i=j:=fun i j q1 q2=>by
   cases x with
   |none=>exact nj l hd i j b q1 q2
   |some c=>
    simp only[jU,Bool.and_eq_true]at hd;exact nj l hd.2 i j b q1 q2
  cases i with
  | zero=>
   cases j with
   |zero=>rfl
   |succ j=>
    simp at h1 h2
    subst h1;simp only[jU,Bool.and_eq_true,Bool.not_eq_true',List.contains_eq_mem,decide_eq_false_iff_not]at hd;exact absurd (List.mem_of_getElem? h2) hd.1
  | succ i=>
   cases j with
   |zero=>
    simp at h1 h2
    subst h2;simp only[jU,Bool.and_eq_true,Bool.not_eq_true',List.contains_eq_mem,decide_eq_false_iff_not]at hd;exact absurd (List.mem_of_getElem? h1) hd.1
   |succ j=>simp at h1 h2;rw[tl i j h1 h2]
theorem m8{locs:List Loc}{n N b:Nat}:∀(l m:List SV) (off:Nat),uX locs n N b off l m=true->l.length=m.length/\∀(i:Nat) x y,l[i]?=some x->m[i]?=some y->locs.any (·.isCell b (off+i))=true\/(x=y/\x.sc n=true/\∀c∈x.names,c<N)
 |[],[],off,_=>⟨rfl,fun i x y h=>by simp at h⟩
 |[],_::_,off,h=>by cases h
 |_::_,[],off,h=>by cases h
 | x::l,y::m,off,h=>by
  simp only[uX,Bool.and_eq_true]at h;obtain⟨h1,h2⟩:=h;obtain⟨i1,i2⟩:=m8 l m (off+1) h2;refine⟨by simp[i1],fun i x' y' g1 g2=>?_⟩
  cases i with
  | zero=>
   simp at g1 g2;subst g1;subst g2
   rw[Bool.or_eq_true]at h1;rcases h1 with h1|h1
   ·exact .inl h1
   ·simp only[Bool.and_eq_true,beq_iff_eq,List.all_eq_true,decide_eq_true_eq]at h1
    exact .inr ⟨h1.1.1,h1.1.2,h1.2⟩
  |succ i=>
   simp at g1 g2
   have:=i2 i x' y' g1 g2
   rw[show off+1+i=off+(i+1) by omega]at this
   exact this
theorem l5(h:Rel w0 env κ F U tmp blk L a w){σ:SS}(hb:σ.blk=blk){x:SV}{ety:Nat}{r:Ty}{b:Option Nat}{e:E}(hr:tx σ x ety r=some (b,e)){u:Value}(hu:SVden env κ F w x u):
  aW u=true/\(den env e)=.sl r (den env e).l/\(∃us,w.ownsRow w0.heap.size ety r.len u (den env e).l.length us/\0<r.len/\RowsDen F w us r (den env e).l)/\((b=none/\u=.slice none 0 0)\/∃c y,b=some c/\(blk c=some y/\aB (some y)=true)/\u=κ c):=by
 unfold tx at hr;split at hr
 ·split at hr
  ·rename_i hp
   cases hr
   rw[show u=_ from hu]
   refine⟨rfl,rfl,⟨[],World.ownsRow_nil _ _ _ _,hp,⟨fun i r hr=>by simp[den]at hr,fun i r k x hr=>by simp[den]at hr⟩⟩,.inl ⟨rfl,rfl⟩⟩
  ·cases hr
 ·rename_i c
  split at hr
  ·rename_i a' t l hc
   split at hr
   ·rename_i hh
    obtain⟨rfl,rfl⟩:=hh;cases hr
    rw[hb]at hc;obtain⟨us,h1,h2,h3⟩:=h.blks c _ hc;refine⟨hu.2,rfl,⟨us,by rw[hu.1];exact h1,h2,h3⟩,.inr ⟨c,_,rfl,⟨hc,rfl⟩,hu.1⟩⟩
   ·cases hr
  ·cases hr
 ·cases hr
theorem Ad{e:E}{s:Ty}:∀b∈((ep e s).getD .any).names,False:=by
 intro b hb;cases s<;>simp[ep,SV.names]at hb
theorem JH{locs:List Loc}{taken rows:List (Option Nat)}{σ₀ σ:SS}{es:E}{rs:List AV}(hn:env.length=σ₀.n)(h:Rel w0 (env++rs) κ F U σ.tmp σ.blk σ.L a w)(ht:kX σ locs=some (rows,es))
  (hf:JV locs σ₀.n σ₀.N (eK locs taken σ₀) σ rows=true) {U₀:Nat->Prop} (hU:∀b,U b->b<σ₀.N->U₀ b)
  {rsE:List AV} (hloop:∀b i st p i',σ₀.blk b=some (.loop i st p)->σ.blk b=some (.loop i' st p)->SBden (env++rsE) κ F w0.heap.size w b (.loop i st p)/\∀c∈(SB.loop i st p).names,U₀ c):
  (den (env++rs) es).g.map AV.ty=locs.map Loc.sort/\∃κ',(∀b,¬(σ₀.N<=b/\b<σ₀.N+locs.length)->κ' b=κ b) ∧
   (∀us,Rel w0 (env++((den (env++rs) es).g++us)) κ' F (fun b=>U₀ b\/(σ₀.N<=b/\b<σ₀.N+locs.length)) (eK locs taken σ₀).tmp (eK locs taken σ₀).blk (eK locs taken σ₀).L a w) ∧
   ∀b k,aB ((eK locs taken σ₀).blk b)=true->ai (κ' b)=some k->∃c,aB (σ.blk c)=true/\ai (κ c)=some k:=by
 obtain⟨vs,hvs⟩:∃vs,vs=(den (env++rs) es).g:=⟨_,rfl⟩
 obtain⟨t1,t2,t3⟩:=nZ (env:=env++rs) locs rows es ht
 rw[<-hvs]at t2 t3⊢
 obtain⟨N,hN⟩:∃N,N=σ₀.N:=⟨_,rfl⟩
 obtain⟨n,hn'⟩:∃n,n=σ₀.n:=⟨_,rfl⟩
 rw[<-hn']at hn;rw[<-hN]at hU;unfold JV at hf;simp only[Bool.and_eq_true,beq_iff_eq]at hf;obtain⟨⟨⟨f1,f2⟩,f3⟩,f4⟩:=hf;rw[List.all_eq_true]at f3 f4;rw[<-hN]at f3 f4;rw[<-hn']at f3 f4;rw[<-hN];obtain⟨κ',hκ⟩:∃κ':Nat->Value,∀b,κ' b=if N<=b/\b<N+locs.length then(match rows[b-N]? with|some (some c)=>κ c|_=>.slice none 0 0)else κ b:=⟨_,fun _=>rfl⟩
 have hκ0:∀b,¬(N<=b/\b<N+locs.length)->κ' b=κ b:=fun b hb=>by rw[hκ,if_neg hb]
 have hκ1:∀b,b<N->κ' b=κ b:=fun b hb=>hκ0 b (by omega)
 have hκ2:∀i,i<locs.length->κ' (N+i)=(match rows[i]? with|some (some c)=>κ c|_=>.slice none 0 0):=fun i hi=>by rw[hκ,if_pos (by omega),show N+i-N=i by omega]
 have cellU:∀c o sv,mG σ c o=some sv->∃u,SVden (env++rs) κ F w sv u:=fun c o sv hs=>by
  unfold mG at hs;split at hs
  ·rename_i ty xs hb
   obtain⟨g,cs,_,_,_,q1,q2,_⟩:=h.blks c _ hb;obtain⟨_,q3⟩:=bP q2 q1;obtain⟨u,_,hu⟩:=q3 o sv hs;exact⟨u,hu⟩
  ·cases hs
 have nzd:∀ {sv:SV} {u:Value},SVden (env++rs) κ F w sv u->SVden (env++rs) κ F w (nz σ.blk sv) u:=fun hd=>tK (fun b e t l hb=>h.blks b _ hb) hd
 have hsorts:vs.map AV.ty=locs.map Loc.sort:=by
  refine List.ext_getElem? (fun i=>?_)
  rw[List.getElem?_map,List.getElem?_map];cases hx:locs[i]? with
  |none=>rw[List.getElem?_eq_none (by rw[t2];exact List.getElem?_eq_none_iff.1 hx)];rfl
  | some x=>
   obtain⟨b,e,h1,h2,h3⟩:=t3 i x hx;rw[h2];simp only[Option.map_some,Option.some.injEq];cases x with
   |tmp t s=>
    simp only[cH]at h3;split at h3
    ·rename_i e' hl;cases h3;exact(sA hl (nzd (h.tmps t))).2.1
    ·cases h3
   |tmprow t ety r=>
    simp only[cH]at h3;rw[(l5 h rfl h3 (h.tmps t)).2.1];rfl
   | cell c o s=>
    simp only[cH]at h3;split at h3
    ·rename_i e' hl;cases h3
     obtain⟨sv,q1,q2⟩:=Option.bind_eq_some_iff.1 hl;obtain⟨u,hu⟩:=cellU c o sv q1;exact(sA q2 (nzd hu)).2.1
    ·cases h3
   |cellrow c o ety r=>
    simp only[cH]at h3;obtain⟨sv,q1,q2⟩:=Option.bind_eq_some_iff.1 h3;obtain⟨u,hu⟩:=cellU c o sv q1;rw[(l5 h rfl q2 hu).2.1];rfl
   | inrow c ety r=>
    simp only[cH]at h3;split at h3
    ·split at h3
     ·cases h3;rfl
     ·cases h3
    ·cases h3
 have rowOfI:∀i,i<locs.length->(∃x ety r,locs[i]?=some x/\x.block (n+i)=some (.row ety r (.v (n+i))))->∃x ety r b e u,locs[i]?=some x/\x.block (n+i)=some (.row ety r (.v (n+i)))/\rows[i]?=some b/\vs[i]?=some (den (env++rs) e)/\u=κ' (N+i) ∧
   (den (env++rs) e)=.sl r (den (env++rs) e).l/\(∃us,w.ownsRow w0.heap.size ety r.len u (den (env++rs) e).l.length us/\0<r.len/\RowsDen F w us r (den (env++rs) e).l)/\((b=none/\u=.slice none 0 0)\/∃c y,b=some c/\(σ.blk c=some y/\aB (some y)=true)/\u=κ c):=by
  rintro i hi ⟨x,ety,r,hx,hbk⟩;obtain⟨b,e,h1,h2,h3⟩:=t3 i x hx;have key:∀sv u,SVden (env++rs) κ F w sv u->tx σ sv ety r=some (b,e)->∃x ety r b e u,locs[i]?=some x/\x.block (n+i)=some (.row ety r (.v (n+i)))/\rows[i]?=some b/\vs[i]?=some (den (env++rs) e)/\u=κ' (N+i) ∧
    (den (env++rs) e)=.sl r (den (env++rs) e).l/\(∃us,w.ownsRow w0.heap.size ety r.len u (den (env++rs) e).l.length us/\0<r.len/\RowsDen F w us r (den (env++rs) e).l)/\((b=none/\u=.slice none 0 0)\/∃c y,b=some c/\(σ.blk c=some y/\aB (some y)=true)/\u=κ c):=by
   intro sv u hu hr;obtain⟨_,d2,d3,d4⟩:=l5 h rfl hr hu;refine⟨x,ety,r,b,e,u,hx,hbk,h1,h2,?_,d2,d3,d4⟩
   rw[hκ2 i hi,h1];rcases d4 with⟨rfl,d5⟩|⟨c,y,rfl,_,d5⟩
   ·exact d5
   ·exact d5
  cases x with
  |tmp t s=>simp[Loc.block]at hbk
  |cell c o s=>simp[Loc.block]at hbk
  |inrow c e r=>simp[Loc.block]at hbk
  |tmprow t ety' r'=>
   simp only[Loc.block]at hbk;cases hbk
   simp only[cH]at h3;exact key _ _ (h.tmps t) h3
  |cellrow c o ety' r'=>
   simp only[Loc.block]at hbk;cases hbk
   simp only[cH]at h3;obtain⟨sv,q1,q2⟩:=Option.bind_eq_some_iff.1 h3;obtain⟨u,hu⟩:=cellU c o sv q1;exact key sv u hu q2
 have hblkN:∀i x,i<locs.length->(eK locs taken σ₀).blk (N+i)=some x->∃ety r,x=.row ety r (.v (n+i))/\∃y,locs[i]?=some y/\y.block (n+i)=some (.row ety r (.v (n+i))):=fun i x hi hx=>by
  rw[Cw,<-hN,if_pos (by omega)]at hx
  unfold sU at hx;rw[<-hN,if_neg (by omega),show N+i-N=i by omega,<-hn']at hx
  obtain⟨y,hy,hyb⟩:=Option.bind_eq_some_iff.1 hx;cases y with
  |tmp t s=>simp[Loc.block]at hyb
  |cell c o s=>simp[Loc.block]at hyb
  |inrow c e r=>simp[Loc.block]at hyb
  |tmprow t ety r=>simp only[Loc.block]at hyb;cases hyb;exact⟨ety,r,rfl,_,hy,rfl⟩
  |cellrow c o ety r=>simp only[Loc.block]at hyb;cases hyb;exact⟨ety,r,rfl,_,hy,rfl⟩
 have from0:∀b x,(eK locs taken σ₀).blk b=some x->(b<N/\rows.contains (some b)=false/\bK locs n N b x (σ.blk b)=true/\(fT b locs n=some x\/(fT b locs n=none/\((∃ty xs,σ₀.blk b=some (.cells ty xs)/\x=.cells ty (.of (fX locs σ₀ b 0 xs.list)))\/(σ₀.blk b=some x/\∀ty xs,x≠.cells ty xs)))))\/∃i,b=N+i/\i<locs.length:=fun b x hx=>by
  by_cases hb:b<N
  ·left
   have h4:=f4 b (List.mem_range.2 hb);rw[hx]at h4;simp only[Bool.and_eq_true,Bool.not_eq_true']at h4;refine⟨hb,h4.1,h4.2,?_⟩
   rw[Cw,<-hN,if_pos (by omega)]at hx
   unfold sU at hx;rw[<-hN,if_pos hb,<-hn']at hx;split at hx
   ·cases hx
   ·split at hx
    ·rename_i y hy;cases hx;exact .inl hy
    ·rename_i hy
     refine .inr ⟨hy,?_⟩
     split at hx
     ·rename_i ty xs hb0;cases hx;exact .inl ⟨ty,xs,hb0,rfl⟩
     ·cases hx
     ·rename_i hne _
      exact .inr ⟨hx,fun ty xs e=>by subst e;exact hne ty xs hx⟩
  ·right
   rw[Cw,<-hN]at hx;split at hx
   ·exact⟨b-N,by omega,by omega⟩
   ·cases hx
 have fitsLive:∀b x,bK locs n N b x (σ.blk b)=true->∃y,σ.blk b=some y/\aB (some y)=aB (some x):=fun b x hx=>by
  cases hy:σ.blk b with
  |none=>rw[hy]at hx;cases x<;>simp[bK]at hx
  |some y=>
   rw[hy]at hx;refine⟨y,rfl,?_⟩
   cases x<;>cases y<;>first|rfl|(simp[bK]at hx)
 have whose:∀b k,aB ((eK locs taken σ₀).blk b)=true->ai (κ' b)=some k->∃c,aB (σ.blk c)=true/\ai (κ c)=some k/\((b<N/\c=b/\rows.contains (some b)=false)\/∃i,b=N+i/\rows[i]?=some (some c)):=fun b k hl hk=>by
  obtain⟨x,hx,hxl⟩:=bu hl;rcases from0 b x hx with⟨h1,h2,h3,_⟩|⟨i,rfl,hi⟩
  ·obtain⟨y,hy,hyl⟩:=fitsLive b x h3
   exact⟨b,by rw[hy,hyl];exact hxl,by rw[<-hκ1 b h1];exact hk,.inl ⟨h1,rfl,h2⟩⟩
  ·obtain⟨ety,r,rfl,y,hy,hyb⟩:=hblkN i x hi hx
   obtain⟨x',ety',r',b,e,u,g1,g2,g3,g4,g5,g6,g7,g8⟩:=rowOfI i hi ⟨y,ety,r,hy,hyb⟩;rw[<-g5]at hk;rcases g8 with⟨rfl,g9⟩|⟨c,z,rfl,g9,g10⟩
   ·rw[g9]at hk;cases hk
   ·rw[g10]at hk
    exact⟨c,by rw[g9.1];exact g9.2,hk,.inr ⟨i,rfl,g3⟩⟩
 refine⟨hsorts,κ',hκ0,fun us=>?_,fun b k hb hk=>by obtain⟨c,h1,h2,_⟩:=whose b k hb hk;exact⟨c,h1,h2⟩⟩
 obtain⟨env2,henv2⟩:∃env2,env2=env++(vs++us):=⟨_,rfl⟩
 rw[<-henv2];have hag:Agree n (env++rs) env2:=by rw[henv2];exact(mw hn).symm.trans (mw hn)
 have hagE:Agree n (env++rsE) env2:=by rw[henv2];exact(mw hn).symm.trans (mw hn)
 have hvar:∀i x,locs[i]?=some x->∀v,vs[i]?=some v->den env2 (.v (n+i))=v:=fun i x _ v hv=>by
  rw[henv2];simp only[den,List.getD];rw[List.getElem?_append_right (by omega),show n+i-env.length=i by omega,List.getElem?_append_left (List.getElem?_eq_some_iff.1 hv).1,hv];rfl
 have letter:∀i x,locs[i]?=some x->∀(sv:SV) (u:Value),SVden (env++rs) κ F w sv u →
   ((∃s e,x.sort=s/\pW sv s=some e/\vs[i]?=some (den (env++rs) e)/\x.letter (n+i) (N+i)=(ep (.v (n+i)) s).getD .any)\/∃ety r b e,x.sort=.sl r/\tx σ sv ety r=some (b,e)/\rows[i]?=some b/\vs[i]?=some (den (env++rs) e)/\x.letter (n+i) (N+i)=.row (N+i)) →
   SVden env2 κ' F w (x.letter (n+i) (N+i)) u:=fun i x hx sv u hu hh=>by
  rcases hh with⟨s,e,_,h2,h3,h4⟩|⟨ety,r,b,e,_,h2,h3,h4,h5⟩
  ·rw[h4]
   obtain⟨d1,d2,_⟩:=sA h2 hu;have hv:=hvar i x hx _ h3;cases hl:ep (.v (n+i)) s with
   |none=>trivial
   |some y=>
    have:=oL (env:=env2) (κ:=κ') (F:=F) (w:=w) hl (by rw[hv];exact d2) (by rw[hv];exact d1)
    exact this
  ·rw[h5]
   obtain⟨d1,_,_,d4⟩:=l5 h rfl h2 hu;refine⟨?_,d1⟩
   rw[hκ2 i (by have:=(List.getElem?_eq_some_iff.1 hx).1;exact this),h3]
   rcases d4 with⟨rfl,d5⟩|⟨c,y,rfl,_,d5⟩
   ·exact d5
   ·exact d5
 have same:∀(x:SV) (u:Value),x.sc n=true->(∀c∈x.names,c<N)->SVden (env++rs) κ F w x u->SVden env2 κ' F w x u:=fun x u hs hnames hd=>
  (hd.re hag hs).keep (fun b hb=>hκ1 b (hnames b hb)) (fun _ h=>h) (fun _ _=>rfl)
 have letter_names:∀(i:Nat) (x:Loc),locs[i]?=some x->∀c∈(x.letter (n+i) (N+i)).names,(∃e r,x=Loc.inrow c e r)\/(N<=c/\c<N+locs.length):=fun i x hx c hc=>by
  have hi:=(List.getElem?_eq_some_iff.1 hx).1;cases x with
  |tmp t s=>exact(Ad c hc).elim
  |cell b o s=>exact(Ad c hc).elim
  |tmprow t e r=>right;simp[Loc.letter,SV.names]at hc;omega
  |cellrow b o e r=>right;simp[Loc.letter,SV.names]at hc;omega
  |inrow b e r=>left;simp[Loc.letter,SV.names]at hc;subst hc;exact⟨e,r,rfl⟩
 constructor
 case tmps=>
  intro t;rw[uN];split
  ·rename_i htl
   have h3:=f3 t (List.mem_range.2 (show t<(eK locs taken σ₀).L from htl))
   rw[Bool.or_eq_true,Bool.or_eq_true]at h3;rw[uN,if_pos htl]at h3;unfold tj at h3⊢
   rw[<-hN,<-hn']at h3⊢
   cases hlt:dJ (·.isTmp t) locs n N with
   | some sv=>
    obtain⟨i,x,hx,hp,rfl⟩:=gM locs n N hlt;simp only[Option.getD_some];obtain⟨b,e,g1,g2,g3⟩:=t3 i x hx;cases x with
    |tmp t' s=>
     have:t'=t:=by simpa[Loc.isTmp]using hp
     subst this;refine letter i _ hx (nz σ.blk (σ.tmp t')) _ (nzd (h.tmps t')) ?_
     simp only[cH]at g3;split at g3
     ·rename_i e' hl;cases g3;exact .inl ⟨_,_,rfl,hl,g2,rfl⟩
     ·cases g3
    |tmprow t' ety r=>
     have:t'=t:=by simpa[Loc.isTmp]using hp
     subst this;exact letter i _ hx (σ.tmp t') _ (h.tmps t') (.inr ⟨ety,r,b,e,rfl,g3,g1,g2,rfl⟩)
    |cell _ _ _=>simp[Loc.isTmp]at hp
    |cellrow _ _ _ _=>simp[Loc.isTmp]at hp
    |inrow _ _ _=>simp[Loc.isTmp]at hp
   | none=>
    rw[hlt]at h3;simp only[Option.getD_none]at h3⊢;rcases h3 with(h3|h3)|h3
    ·rw[(gG locs n N).1 hlt]at h3;cases h3
    ·have:σ₀.tmp t=.any:=by simpa using h3
     rw[this];trivial
    ·simp only[Bool.and_eq_true,beq_iff_eq,List.all_eq_true,decide_eq_true_eq]at h3
     exact same _ _ h3.1.2 h3.2 (by rw[h3.1.1];exact h.tmps t)
  ·trivial
 case size=>rw[f1];exact h.size
 case blks=>
  intro b x hx;rcases from0 b x hx with⟨h1,h2,h3,h4⟩|⟨i,rfl,hi⟩
  ·rcases h4 with h4|⟨h4n,h4⟩
   ·
    obtain⟨i,e,r,hx',rfl⟩:=kv locs n h4;obtain⟨b',e',g1,g2,g3⟩:=t3 i _ hx';simp only[cH]at g3;split at g3
    ·rename_i a' t' l' hb'
     split at g3
     ·rename_i hh
      obtain⟨rfl,rfl⟩:=hh;cases g3
      obtain⟨us',q1,q2,q3⟩:=h.blks b _ hb';have hv:=hvar i _ hx' _ g2;refine⟨us',?_,q2,?_⟩
      ·rw[hv,hκ1 b h1];exact q1
      ·rw[hv];exact q3
     ·cases g3
    ·cases g3
   ·rcases h4 with⟨ty,xs₀,hb₀,rfl⟩|⟨h4,hnc⟩
    ·
     cases hy:σ.blk b with
     |none=>rw[hy]at h3;simp[bK]at h3
     | some y=>
      rw[hy]at h3;cases y with
      | cells ty' ys=>
       simp only[bK,Bool.and_eq_true,beq_iff_eq]at h3;obtain⟨⟨rfl,hp⟩,hc⟩:=h3;obtain⟨g,cs,q1,q2,q3,q4,q5,q6⟩:=h.blks b _ hy;obtain⟨s1,s2⟩:=bP q5 q4;obtain⟨c1,c2⟩:=m8 _ _ 0 hc;refine⟨g,cs,by rw[hκ1 b h1];exact q1,q2,q3,?_,hp,q6⟩
       rw[fK]at c1 c2;have:=gF (env:=env2) (κ:=κ') (F:=F) (w:=w) (l:=fX locs σ₀ b 0 xs₀.list) (cs:=cs.toList) (by rw[c1,list_len];simpa using s1) (fun o x u g1 g2=>by
        have hy':∃y,ys.list[o]?=some y:=⟨_,List.getElem?_eq_getElem (by rw[<-c1];exact(List.getElem?_eq_some_iff.1 g1).1)⟩
        obtain⟨y,hy'⟩:=hy';obtain⟨u',hu',hd⟩:=s2 o y hy';rw[Array.getElem?_toList,hu']at g2;cases g2
        have g3:=np locs σ₀ b xs₀.list 0 o;rw[g1]at g3;obtain⟨x₀,_,g4⟩:=Option.map_eq_some_iff.1 g3.symm;rw[Nat.zero_add,<-hN,<-hn']at g4;cases hlt:dJ (·.isCell b o) locs n N with
        | some sv=>
         rw[hlt,Option.getD_some]at g4;subst g4;obtain⟨i,z,hz,hp',rfl⟩:=gM locs n N hlt;obtain⟨b',e,k1,k2,k3⟩:=t3 i z hz;have hcell:mG σ b o=some y:=by unfold mG;rw[hy];exact hy'
         cases z with
         |tmp _ _=>simp[Loc.isCell]at hp'
         |tmprow _ _ _=>simp[Loc.isCell]at hp'
         |inrow _ _ _=>simp[Loc.isCell]at hp'
         |cell c o' s=>
          have hco:c=b/\o'=o:=by simpa[Loc.isCell]using hp'
          obtain⟨rfl,rfl⟩:=hco;refine letter i _ hz (nz σ.blk y) _ (nzd hd) ?_
          simp only[cH,hcell,Option.bind_some]at k3;split at k3
          ·rename_i e' hl;cases k3;exact .inl ⟨_,_,rfl,hl,k2,rfl⟩
          ·cases k3
         |cellrow c o' ety r=>
          have hco:c=b/\o'=o:=by simpa[Loc.isCell]using hp'
          obtain⟨rfl,rfl⟩:=hco;simp only[cH,hcell,Option.bind_some]at k3;exact letter i _ hz y _ hd (.inr ⟨ety,r,b',e,rfl,k3,k1,k2,rfl⟩)
        |none=>
         rcases c2 o x y g1 hy' with h6|⟨h6,h7,h8⟩
         ·rw[Nat.zero_add,(gG locs n N).1 hlt]at h6;cases h6
         ·subst h6;exact same x _ h7 h8 hd)
       simpa using this
      |_=>simp[bK]at h3
    ·cases hy:σ.blk b with
     |none=>rw[hy]at h3;cases x<;>simp[bK]at h3
     | some y=>
      rw[hy]at h3;have hsb:=h.blks b y hy;have hin:=pt locs n h4n;cases x with
      |cells ty xs=>exact absurd rfl (hnc ty xs)
      |dead l=>cases y<;>simp[bK]at h3
      | row e t l=>
       cases y with
       |row e' t' l'=>
        simp only[bK,Bool.and_eq_true,beq_iff_eq,Bool.or_eq_true,hin,Bool.false_eq_true,false_or]at h3;obtain⟨⟨rfl,rfl⟩,rfl,hs⟩:=h3;obtain⟨us',q1,q2,q3⟩:=hsb;refine⟨us',?_,q2,?_⟩
        ·rw[hag l hs,hκ1 b h1];exact q1
        ·rw[hag l hs];exact q3
       |_=>simp[bK]at h3
      | ice e t l=>
       cases y with
       |ice e' t' l'=>
        simp only[bK,Bool.and_eq_true,beq_iff_eq]at h3;obtain⟨⟨⟨rfl,rfl⟩,rfl⟩,hs⟩:=h3;obtain⟨q1,q2⟩:=hsb;exact⟨by rw[hag l hs,hκ1 b h1];exact q1,by rw[hag l hs,hκ1 b h1];exact q2⟩
       |_=>simp[bK]at h3
      | map ks vs'=>
       cases y with
       |map ks' vs''=>
        simp only[bK,Bool.and_eq_true,beq_iff_eq,List.all_eq_true,decide_eq_true_eq]at h3;obtain⟨⟨⟨⟨rfl,rfl⟩,hs1⟩,hs2⟩,hnm⟩:=h3;obtain⟨r,es',cl,q1,q2,q3,q4,q5,q6,q7⟩:=hsb;exact⟨r,es',cl,by rw[hκ1 b h1];exact q1,q2,q3,q4,q5,q6,(q7.re hag hs1 hs2).keep (fun c hc=>hκ1 c (hnm c hc)) (fun _ h=>h) (fun _ _=>rfl)⟩
       |_=>simp[bK]at h3
      | loop i st p=>
       cases y with
       |loop i' st' p'=>
        simp only[bK,Bool.and_eq_true,beq_iff_eq,List.all_eq_true]at h3;obtain⟨⟨⟨rfl,rfl⟩,hs⟩,hnm⟩:=h3;obtain⟨q,_⟩:=hloop b i st p i' h4 hy;refine SBden.keep (SBden.re (x:=.loop i st p) hagE hs q) (fun c hc=>hκ1 c ?_) (hκ1 b h1) (fun _ h=>h) (fun _ _=>rfl) (fun _ _ _=>rfl)
        obtain⟨t,_,hc⟩:=List.mem_flatMap.1 hc;exact iq (hnm c (Ov.mem_flat (d:=SV.any) rfl hc))
       |_=>simp[bK]at h3
  ·obtain⟨ety,r,rfl,y,hy,hyb⟩:=hblkN i x hi hx
   obtain⟨x',ety',r',b,e,u,g1,g2,g3,g4,g5,g6,⟨us',g7,g8,g9⟩,_⟩:=rowOfI i hi ⟨y,ety,r,hy,hyb⟩;rw[hy]at g1;cases g1
   rw[hyb]at g2;cases g2
   have hv:=hvar i y hy _ g4;refine⟨us',?_,g8,?_⟩
   ·rw[hv,<-g5];exact g7
   ·rw[hv];exact g9
 case inj=>
  intro b c k hb hc g1 g2;obtain⟨b',p1,p2,p3⟩:=whose b k hb g1;obtain⟨c',q1,q2,q3⟩:=whose c k hc g2;have hbc:=h.inj b' c' k p1 q1 p2 q2;subst hbc;rcases p3 with⟨_,p4,p5⟩|⟨i,p4,p5⟩<;>rcases q3 with⟨_,q4,q5⟩|⟨j,q4,q5⟩
  ·rw[<-p4,<-q4]
  ·exfalso
   rw[<-p4]at p5;have:rows.contains (some b')=true:=by simpa using List.mem_of_getElem? q5
   rw[p5]at this;cases this
  ·exfalso
   rw[<-q4]at q5;have:rows.contains (some b')=true:=by simpa using List.mem_of_getElem? p5
   rw[q5]at this;cases this
  ·rw[p4,q4,nj rows f2 i j b' p5 q5]
 case nF=>
  intro b k hb g1;obtain⟨b',p1,p2,_⟩:=whose b k hb g1;exact h.nF b' k p1 p2
 case F=>exact h.F
 case tnames=>
  intro t b hb;rw[uN]at hb;split at hb
  ·rename_i htl
   have h3:=f3 t (List.mem_range.2 (show t<(eK locs taken σ₀).L from htl))
   rw[Bool.or_eq_true,Bool.or_eq_true]at h3;rw[uN,if_pos htl]at h3;unfold tj at h3 hb;rw[<-hN,<-hn']at h3 hb;cases hlt:dJ (·.isTmp t) locs n N with
   |some sv=>
    rw[hlt]at hb;obtain⟨i,x,hx,hp,rfl⟩:=gM locs n N hlt;rcases letter_names i x hx b hb with⟨e,r,rfl⟩|h4
    ·simp[Loc.isTmp]at hp
    ·exact .inr h4
   | none=>
    rw[hlt]at h3 hb;simp only[Option.getD_none]at h3 hb;rcases h3 with(h3|h3)|h3
    ·rw[(gG locs n N).1 hlt]at h3;cases h3
    ·have:σ₀.tmp t=.any:=by simpa using h3
     rw[this]at hb;cases hb
    ·simp only[Bool.and_eq_true,beq_iff_eq,List.all_eq_true,decide_eq_true_eq]at h3
     left
     refine hU b ?_ (h3.2 b hb)
     rw[h3.1.1]at hb;exact h.tnames t b hb
  ·cases hb
 case bnames=>
  intro b x hx;rcases from0 b x hx with⟨h1,h2,h3,h4⟩|⟨i,rfl,hi⟩
  ·obtain⟨y,hy,_⟩:=fitsLive b x h3
   obtain⟨hUb,hUn⟩:=h.bnames b y hy;refine⟨.inl (hU b hUb h1),fun c hc=>?_⟩
   rcases h4 with h4|⟨h4n,h4⟩
   ·obtain⟨i,e,r,_,rfl⟩:=kv locs n h4
    cases hc
   ·rcases h4 with⟨ty,xs₀,hb₀,rfl⟩|⟨h4,hnc⟩
    ·rw [hy]at h3
     cases y with
     | cells ty' ys=>
      simp only[bK,Bool.and_eq_true,beq_iff_eq]at h3;obtain⟨⟨rfl,hp⟩,hcf⟩:=h3;obtain⟨c1,c2⟩:=m8 _ _ 0 hcf;rw[fK]at c1 c2;obtain⟨z,hz,hcz⟩:=(gk _ c).1 hc;obtain⟨o,ho⟩:=List.getElem?_of_mem hz;have g3:=np locs σ₀ b xs₀.list 0 o;rw[ho]at g3;obtain⟨x₀,_,g4⟩:=Option.map_eq_some_iff.1 g3.symm;rw[Nat.zero_add,<-hN,<-hn']at g4;cases hlt:dJ (·.isCell b o) locs n N with
      |some sv=>
       rw[hlt,Option.getD_some]at g4;subst g4;obtain⟨i,z',hz',hp',rfl⟩:=gM locs n N hlt;rcases letter_names i z' hz' c hcz with⟨e,r,rfl⟩|h5
       ·simp[Loc.isCell]at hp'
       ·exact .inr h5
      | none=>
       have hy':∃y,ys.list[o]?=some y:=⟨_,List.getElem?_eq_getElem (by rw[<-c1];exact(List.getElem?_eq_some_iff.1 ho).1)⟩
       obtain⟨y,hy'⟩:=hy';rcases c2 o z y ho hy' with h6|⟨h6,h7,h8⟩
       ·rw[Nat.zero_add,(gG locs n N).1 hlt]at h6;cases h6
       ·subst h6
        exact .inl (hU c (hUn c (cj ys z (List.mem_of_getElem? hy') c hcz)) (h8 c hcz))
     |_=>simp[bK]at h3
    ·rw[hy]at h3
     cases x with
     |cells ty xs=>exact absurd rfl (hnc ty xs)
     |dead l=>cases hc
     |row e t l=>cases hc
     |ice e t l=>cases hc
     | map ks vs'=>
      cases y with
      |map ks' vs''=>
       simp only[bK,Bool.and_eq_true,beq_iff_eq,List.all_eq_true,decide_eq_true_eq]at h3;obtain⟨⟨⟨⟨rfl,rfl⟩,hs1⟩,hs2⟩,hnm⟩:=h3;exact .inl (hU c (hUn c hc) (hnm c hc))
      |_=>simp[bK]at h3
     | loop i st p=>
      cases y with
      |loop i' st' p'=>
       simp only[bK,Bool.and_eq_true,beq_iff_eq,List.all_eq_true]at h3;obtain⟨⟨⟨rfl,rfl⟩,hs⟩,hnm⟩:=h3;exact .inl ((hloop b i st p i' h4 hy).2 c hc)
      |_=>simp[bK]at h3
  ·obtain⟨ety,r,rfl,y,hy,hyb⟩:=hblkN i x hi hx
   exact⟨.inr ⟨by omega,by omega⟩,fun c hc=>by cases hc⟩
 case below=>exact h.below
variable {env:List AV} {κ κ':Nat->Value} {F F':Nat->Prop} {w w' w0:World} {U:Nat->Prop} {tmp:Nat->SV} {blk:Nat->Option SB} {L:Nat} {a:Act} {P:Program} {Post:R->Prop} {K:Nat->List AV->Prop} {cfg:Cfg} {run:Run} {ro:Option Nat}
theorem Ends.refl{σ:SS}(h:Rel w0 env κ F U σ.tmp σ.blk σ.L a w):Ends w0 env κ F U σ a w σ a w:=⟨κ,F,h.monoU (fun b hb=>.inl hb),Kept.refl,Marks.nil⟩
theorem Ma{σ:SS}:Leads P w0 ro .skip env σ .normal σ:=⟨Nat.le_refl _,fun _ _ _ _ _ h _ _=>wpIn_skip ⟨rfl,Ends.refl h⟩⟩
theorem LH{σ:SS}{id:Nat}:Leads P w0 ro (.exit id) env σ (.exit id) σ:=⟨Nat.le_refl _,fun _ _ _ _ _ h _ _=>wpIn_exit ⟨rfl,Ends.refl h⟩⟩
theorem Ng{σ:SS}:Leads P w0 ro .ret env σ .ret σ:=⟨Nat.le_refl _,fun _ _ _ _ _ h _ _=>wpIn_ret ⟨rfl,Ends.refl h⟩⟩
theorem MG{x y:Code}{σ σ₁ σ₂:SS}{ex:Ex}(h1:Leads P w0 ro x env σ .normal σ₁)(h2:Leads P w0 ro y env σ₁ ex σ₂):Leads P w0 ro (.seq x y) env σ ex σ₂:=by
 have l1:=h1.le;have l2:=h2.le;refine⟨by omega,fun κ F U a w h hU hro=>wpIn_seq (wpIn_mono (h1.go κ F U a w h hU hro) ?_)⟩
 rintro e a' w' ⟨rfl,hE⟩;show y.wpIn (FR (dL κ ro)) 0 P _ a' w'
 exact NB l1 hE hU hro h2 (fun a'' w'' hE=>⟨rfl,hE⟩)
theorem mZ{x y:Code}{σ σ₁:SS}{ex:Ex}(hex:ex≠.normal)(h1:Leads P w0 ro x env σ ex σ₁):Leads P w0 ro (.seq x y) env σ ex σ₁:=by
 refine⟨h1.le,fun κ F U a w h hU hro=>wpIn_seq (wpIn_mono (h1.go κ F U a w h hU hro) ?_)⟩
 rintro e a' w' ⟨rfl,hE⟩;cases ex with
 |normal=>exact absurd rfl hex
 |exit id=>exact⟨rfl,hE⟩
 |ret=>exact⟨rfl,hE⟩
 |panic v=>exact⟨rfl,hE⟩
theorem nV{c:Operand}{x y:Code}{σ σ':SS}{ex:Ex}{e:E}{b:Bool}(he:σ.ev c=.vb e)(hb:(den env e).b=b)(h1:Leads P w0 ro (if b then x else y) env σ ex σ'):Leads P w0 ro (.cond c x y) env σ ex σ':=by
 refine⟨h1.le,fun κ F U a w h hU hro=>?_⟩
 have hv:=h.ev c;rw[<-ib,he]at hv;exact wpIn_cond (hv.1.trans (by rw[hb])) (h1.go κ F U a w h hU hro)
theorem jv{id:Nat}{c:Code}{σ σ':SS}{ex ex':Ex}(hex:ex'=match ex with|.exit i=>if i=id then .normal else .exit i|e=>e)(h1:Leads P w0 ro c env σ ex σ'):Leads P w0 ro (.block id c) env σ ex' σ':=by
 refine⟨h1.le,fun κ F U a w h hU hro=>wpIn_block (wpIn_mono (h1.go κ F U a w h hU hro) ?_)⟩
 rintro e a' w' ⟨rfl,hE⟩;subst hex;cases ex with
 |normal=>exact⟨rfl,hE⟩
 |ret=>exact⟨rfl,hE⟩
 |panic v=>exact⟨rfl,hE⟩
 |exit i=>
  show Exit.inBlock id _ (.exit i) a' w'
  unfold Exit.inBlock;simp only
  split
  ·exact⟨rfl,hE⟩
  ·exact⟨rfl,hE⟩
structure LeadsR (P:Program) (w0:World) (ro:Option Nat) (c:Code) (m:Nat) (env:List AV) (σ:SS) (ex:Ex) (σ':SS):Prop where
 le:σ.N<=σ'.N
 go:∀(κ:Nat->Value) (F U:Nat->Prop) (a:Act) (w:World),Rel w0 env κ F U σ.tmp σ.blk σ.L a w->(∀b,σ.N<=b->¬U b)->(∀b,ro=some b->U b) →
  Code.roundsIn (FR (dL κ ro)) 0 P c (fun e a' w'=>e=ex.exit'/\Ends w0 env κ F U σ a w σ' a' w') m a w
theorem LeadsR.loop{c:Code}{m:Nat}{σ σ':SS}{ex:Ex}(h:LeadsR P w0 ro c m env σ ex σ'):Leads P w0 ro (.loop c) env σ ex σ':=
 ⟨h.le,fun κ F U a w hr hU hro=>wpIn_loop_rounds m (h.go κ F U a w hr hU hro)⟩
theorem jB{Fc:Fence}{c:Code}{Q Q':Exit->Act->World->Prop}(hq:∀e a w,Q e a w->Q' e a w):∀(m:Nat) (a:Act) (w:World),Code.roundsIn Fc 0 P c Q m a w->Code.roundsIn Fc 0 P c Q' m a w
 |0,_,_,h=>h
 |m+1,a,w,h=>by
  rw[roundsIn_succ]at h⊢
  refine wpIn_mono h (fun e a' w' he=>?_)
  cases e with
  |normal=>exact jB hq m a' w' he
  |_=>exact hq _ _ _ he
theorem BG{c:Code}{m:Nat}{σ σ₁ σ₂:SS}{ex:Ex}(h1:Leads P w0 ro c env σ .normal σ₁)(h2:LeadsR P w0 ro c m env σ₁ ex σ₂):LeadsR P w0 ro c (m+1) env σ ex σ₂:=by
 have l1:=h1.le;have l2:=h2.le;refine⟨by omega,fun κ F U a w h hU hro=>?_⟩
 rw[roundsIn_succ];refine wpIn_mono (h1.go κ F U a w h hU hro) ?_
 rintro e a' w' ⟨rfl,κ1,F1,r1,k1,m1⟩;show Code.roundsIn _ 0 P c _ m a' w'
 rw[<-dP (κ:=κ) (κ':=κ1) (ro:=ro) (fun b hb=>k1.kap b (hro b hb))]
 refine jB ?_ m a' w' (h2.go κ1 F1 _ a' w' r1 (fun b h2 hb=>?_) (fun b hb=>.inl (hro b hb)))
 ·rintro e a'' w'' ⟨rfl,h4⟩
  exact⟨rfl,Ends.trans l1 l2 r1 k1 m1 h4⟩
 ·rcases hb with hb|hb
  ·exact hU b (by omega) hb
  ·omega
theorem kf{c:Code}{σ σ':SS}{ex:Ex}(hex:ex≠.normal)(h1:Leads P w0 ro c env σ ex σ'):LeadsR P w0 ro c 1 env σ ex σ':=by
 refine⟨h1.le,fun κ F U a w h hU hro=>?_⟩
 rw[roundsIn_succ];refine wpIn_mono (h1.go κ F U a w h hU hro) ?_
 rintro e a' w' ⟨rfl,hE⟩;cases ex with
 |normal=>exact absurd rfl hex
 |exit id=>exact⟨rfl,hE⟩
 |ret=>exact⟨rfl,hE⟩
 |panic v=>exact⟨rfl,hE⟩
theorem Rel.forget(h:Rel w0 env κ F U tmp blk L a w){tmp':Nat->SV}(ht:∀t,tmp' t=.any\/tmp' t=tmp t):Rel w0 env κ F U tmp' blk L a w:=
 { h with
  tmps:=fun t=>by rcases ht t with e|e;rw[e];trivial;rw[e];exact h.tmps t
  tnames:=fun t b hb=>by rcases ht t with e|e;rw[e]at hb;cases hb;rw[e]at hb;exact h.tnames t b hb }
theorem KB(ds:List Nat)(locs:List Loc):∀σ:SS,(∀t,(forget ds locs σ).tmp t=.any\/(forget ds locs σ).tmp t=σ.tmp t)/\(forget ds locs σ).L=σ.L/\(forget ds locs σ).N=σ.N/\(forget ds locs σ).blk=σ.blk/\(forget ds locs σ).n=σ.n/\(forget ds locs σ).known=σ.known/\(forget ds locs σ).dep=σ.dep:=by
 unfold forget;induction ds with
 |nil=>intro σ;exact⟨fun t=>.inr rfl,rfl,rfl,rfl,rfl,rfl,rfl⟩
 | cons d ds ih=>
  intro σ;simp only[List.foldl_cons];split
  ·exact ih σ
  ·obtain⟨h1,h2,h3,h4,h5,h6,h7⟩:=ih (σ.put (some d) .any)
   refine⟨fun t=>?_,h2,h3,h4,h5,h6,h7⟩
   rcases h1 t with e|e
   ·exact .inl e
   ·rw[e]
    by_cases hd:d<σ.L
    ·obtain⟨g1,_⟩:=ej σ (dst:=some d) (v:=.any) (fun x hx=>by cases hx;exact hd)
     rw[g1];simp only[eN,upd];split
     ·exact .inl rfl
     ·exact .inr rfl
    ·by_cases ht:t<σ.L
     ·right
      have:Nat.beq d t=false:=by rw[<-Bool.not_eq_true,Nat.beq_eq];omega
      show(Ov.put σ.rf d .any).get .any t=σ.rf.get .any t
      unfold Ov.get Ov.put;simp only[this]
     ·left;exact Ov.get_out (by show σ.L<=t;omega)
theorem Ee{rsE:List AV}{σ₀ σ:SS}{κE:Nat->Value}{FE U₀:Nat->Prop}{aE:Act}{wE:World}{env':List AV}(hE:Rel w0 (env++rsE) κE FE U₀ σ₀.tmp σ₀.blk σ₀.L aE wE)(k:Kept U₀ σ₀.blk κE FE wE σ.blk κ F w)(h:Rel w0 env' κ F U σ.tmp σ.blk σ.L a w):
  ∀b i st p i',σ₀.blk b=some (.loop i st p)->σ.blk b=some (.loop i' st p)->SBden (env++rsE) κ F w0.heap.size w b (.loop i st p)/\∀c∈(SB.loop i st p).names,U₀ c:=by
 intro b i st p i' h0 h1;obtain⟨hUb,hnm⟩:=hE.bnames b _ h0;refine⟨?_,hnm⟩
 obtain⟨l,r,q1,q2,q3,q4,q5,q6,q7,q8,q9,q10⟩:=hE.blks b _ h0;obtain⟨l',r',p1,p2,p3,p4,p5,_⟩:=h.blks b _ h1;have hk:=k.kap b hUb;rw[p1,q1]at hk;have:l'=l:=by injection hk with h1;injection h1 with h1;injection h1
 subst this;obtain⟨r2,s1,s2,s3,s4,s5⟩:=k.recs l' r q2;rw[p2]at s1;have:r'=r2:=by injection s1 with s1;injection s1
 subst this;exact⟨l',r',p1,p2,p3,p4,p5,s2.trans q6,s3.trans q7,s4.trans q8,by rw[s5];exact q9,fun t=>by rw[s5];exact k.sv hE (q10 t) (ya hE h0 t)⟩
theorem NC{U₀:Nat->Prop}{blk0 blk1 blkh:Nat->Option SB}{κE κ1:Nat->Value}{FE F1:Nat->Prop}{wE w1:World}{N M:Nat}(k:Kept U₀ blk0 κE FE wE blk1 κ1 F1 w1)(hκ:∀b,¬(N<=b/\b<M)->κ' b=κ1 b)(hU:∀b,N<=b->b<M->¬U₀ b)
  (hw:∀b j,aB (blkh b)=true->ai (κ' b)=some j->∃c,aB (blk1 c)=true/\ai (κ1 c)=some j):Kept U₀ blk0 κE FE wE blkh κ' F1 w1:=
 { k with
  kap:=fun b hb=>(hκ b (fun hh=>hU b hh.1 hh.2 hb)).trans (k.kap b hb)
  prov:=fun b j h1 h2=>by obtain⟨c,h3,h4⟩:=hw b j h1 h2;exact k.prov c j h3 h4 }
theorem CS{σ:SS}:∀ {locs:List Loc} {rows:List (Option Nat)} {es:E} {xs:List AV},kX σ locs=some (rows,es)->xs.length=locs.length->(ff (locs.map Loc.sort) xs).map AV.ty=locs.map Loc.sort
 |[],_,_,xs,_,_=>rfl
 |x::l,rows,es,[],_,hl=>by simp at hl
 | x :: l,rows,es,y::xs,h,hl=>by
  simp only[kX]at h;split at h
  ·rename_i b e bs es' h1 h2
   show(co x.sort y).ty::(ff (l.map Loc.sort) xs).map AV.ty=x.sort::l.map Loc.sort
   rw[CS h2 (by simpa using hl)]
   congr 1
   have leafs:∀ {sv:SV} {e:E} {u:Ty},pW sv u=some e->(co u y).ty=u:=fun{sv} {e} {u} hh=>by
    unfold pW at hh;split at hh
    ·rfl
    ·split at hh
     ·rename_i e' u' hl
      split at hh
      ·rename_i hu;subst hu
       cases sv<;>simp only[SV.leaf]at hl<;>cases hl<;>rfl
      ·cases hh
     ·cases hh
   cases x with
   |tmp t s=>
    simp only[cH]at h1;split at h1
    ·rename_i e' hlf;exact leafs hlf
    ·cases h1
   | cell c o s=>
    simp only[cH]at h1;split at h1
    ·rename_i e' hlf
     obtain⟨sv,_,q2⟩:=Option.bind_eq_some_iff.1 hlf;exact leafs q2
    ·cases h1
   |tmprow _ _ _=>rfl
   |cellrow _ _ _ _=>rfl
   |inrow _ _ _=>rfl
  ·cases h
theorem JO{α:Type}(l:List Loc)(k:List Loc->α):fL Ju l k=k l:=iZ Pl l k
theorem FB{fid id N₀:Nat}{c:Code}{locs:List Loc}{ds:List Nat}{body:(Ex->SS->T)->SS->T}(ih:∀(Post:R->Prop) (K:Nat->List AV->Prop) (k:Ex->SS->T) (σ:SS) (env:List AV),env.length=σ.n->KnownOK env σ.n σ.known->(body k σ).den P Post env K->Path P Post w0 ro c env K σ k)
  {k:Ex->SS->T} {σ:SS} (hn:env.length=σ.n) (hk:KnownOK env σ.n σ.known) (h:(A9 fid id N₀ locs ds body k σ).den P Post env K):Path P Post w0 ro (.loop c) env K σ k:=by
 unfold A9 at h;simp only[JO,SS.go_eq,AX,SS.all_eq]at h;obtain⟨g1,g2,g3,g4,g5,g6,g7⟩:=KB ds locs σ;obtain⟨σ₀,hσ₀⟩:∃σ₀,σ₀=forget ds locs σ:=⟨_,rfl⟩
 rw[<-hσ₀]at h g1 g2 g3 g4 g5 g6 g7;split at h
 ·exact h.elim
 rename_i taken es htails
 split at h
 rotate_left
 ·exact h.elim
 rename_i hc
 rw[Bool.and_eq_true]at hc;obtain⟨c1,c2⟩:=hc;obtain⟨I,μ,h0,hround⟩:=h;have hn0:env.length=σ₀.n:=by rw[g5];exact hn
 obtain⟨hd,hhd⟩:∃hd,hd=eK locs taken σ₀:=⟨_,rfl⟩
 rw[<-hhd]at c2 hround;have hhN:hd.N=σ₀.N+locs.length:=by rw[hhd];rfl
 have hhn:hd.n=σ₀.n+locs.length:=by rw[hhd];rfl
 have hhk:hd.known=σ₀.known:=by rw[hhd];rfl
 have key:∀(v:Nat) (vs:List AV),μ vs=v->vs.map AV.ty=locs.map Loc.sort->I vs->∃(m:Nat) (ex:Ex) (σ':SS) (rsT:List AV) (K':Nat->List AV->Prop),(k ex σ').den P Post (env++rsT) K'/\(∀l,l<σ.dep->K' l=K l)/\σ'.dep=σ.dep/\KnownOK (env++rsT) σ'.n σ'.known/\(env++rsT).length=σ'.n/\hd.N<=σ'.N ∧
   ∀ (us rsE:List AV) (κE:Nat->Value) (FE U₀:Nat->Prop) (aE:Act) (wE:World),Rel w0 (env++rsE) κE FE U₀ σ₀.tmp σ₀.blk σ₀.L aE wE->(∀b,σ₀.N<=b->¬U₀ b)->(∀b,ro=some b->U₀ b) →
    ∀(κ:Nat->Value) (F:Nat->Prop) (a:Act) (w:World),(∀x,Rel w0 (env++(vs++x)) κ F (fun b=>U₀ b\/(σ₀.N<=b/\b<hd.N)) hd.tmp hd.blk hd.L a w)->Kept U₀ σ₀.blk κE FE wE hd.blk κ F w->Marks wE aE.defers F w a.defers →
     Code.roundsIn (FR (dL κE ro)) 0 P c (fun e a' w'=>e=ex.exit'/\Ends w0 (env++rsT++us) κE FE U₀ σ₀ aE wE σ' a' w') m a w:=by
  intro v;induction v using Nat.strongRecOn with
  | _ v ihv=>
   intro vs hv hty hI;have hvl:vs.length=locs.length:=by have:=congrArg List.length hty;simpa using this
   obtain⟨ex₁,σ₁,rs₁,K₁,q1,q2,q3,q4,q5,q6⟩:=ih Post _ _ { hd with dep:=σ.dep+1 } (env++vs) (by rw[List.length_append,hn0,hvl];exact hhn.symm) (by show KnownOK (env++vs) hd.n hd.known;rw[hhn,hhk,g6];exact(by rw[<-g5]at hk;exact hk.ext hn0 (Nat.le_add_right _ _))) (hround vs hty hI)
   have hle1:hd.N<=σ₁.N:=(q6 []).le
   have fin:∀(m₂:Nat) (ex₂:Ex) (σ₂:SS) (rs₂:List AV) (K₂:Nat->List AV->Prop),(k ex₂ { σ₂ with dep:=σ.dep }).den P Post (env++vs++rs₂) K₂->(∀l,l<σ.dep->K₂ l=K l)->KnownOK (env++vs++rs₂) σ₂.n σ₂.known->(env++vs++rs₂).length=σ₂.n->(∀us,LeadsR P w0 ro c m₂ (env++vs++rs₂++us) { hd with dep:=σ.dep+1 } ex₂ σ₂)->∃(m:Nat) (ex:Ex) (σ':SS) (rsT:List AV) (K':Nat->List AV->Prop),(k ex σ').den P Post (env++rsT) K'/\(∀l,l<σ.dep->K' l=K l)/\σ'.dep=σ.dep/\KnownOK (env++rsT) σ'.n σ'.known/\(env++rsT).length=σ'.n/\hd.N<=σ'.N ∧
     ∀ (us rsE:List AV) (κE:Nat->Value) (FE U₀:Nat->Prop) (aE:Act) (wE:World),Rel w0 (env++rsE) κE FE U₀ σ₀.tmp σ₀.blk σ₀.L aE wE->(∀b,σ₀.N<=b->¬U₀ b)->(∀b,ro=some b->U₀ b) →
      ∀(κ:Nat->Value) (F:Nat->Prop) (a:Act) (w:World),(∀x,Rel w0 (env++(vs++x)) κ F (fun b=>U₀ b\/(σ₀.N<=b/\b<hd.N)) hd.tmp hd.blk hd.L a w)->Kept U₀ σ₀.blk κE FE wE hd.blk κ F w->Marks wE aE.defers F w a.defers →
       Code.roundsIn (FR (dL κE ro)) 0 P c (fun e a' w'=>e=ex.exit'/\Ends w0 (env++rsT++us) κE FE U₀ σ₀ aE wE σ' a' w') m a w:=by
    intro m₂ ex₂ σ₂ rs₂ K₂ r1 r2 r3 r4 r5;have hle2:hd.N<=σ₂.N:=(r5 []).le
    refine⟨m₂,ex₂,{ σ₂ with dep:=σ.dep },vs++rs₂,K₂,by rw[<-List.append_assoc];exact r1,r2,rfl,by rw[<-List.append_assoc];exact r3,by rw[<-List.append_assoc];exact r4,hle2,?_⟩
    intro us rsE κE FE U₀ aE wE hE hfr hro κ F a w hH hK hM;rw[<-dP (κ:=κE) (κ':=κ) (ro:=ro) (fun b hb=>hK.kap b (hro b hb))]
    have hr:=hH (rs₂++us);have e1:env++vs++rs₂++us=env++(vs++(rs₂++us)):=by simp
    have e2:env++(vs++rs₂)++us=env++(vs++(rs₂++us)):=by simp
    have hl:=r5 us;rw[e1]at hl;refine jB ?_ m₂ a w (hl.go κ F _ a w hr (fun b h1 hb=>?_) (fun b hb=>.inl (hro b hb)))
    ·rintro e a' w' ⟨rfl,κ1,F1,r1,k1,m1⟩
     refine⟨rfl,?_⟩
     rw[e2];refine⟨κ1,F1,?_,hK.trans k1 (fun b hb=>.inl hb),hM.trans hr k1 hK.size m1⟩
     refine r1.monoU (fun b hb=>?_)
     rcases hb with(hb|hb)|hb
     ·exact .inl hb
     ·exact .inr ⟨hb.1,by show b<σ₂.N;omega⟩
     ·exact .inr ⟨by have:hd.N<=b:=hb.1;omega,hb.2⟩
    ·have h1:hd.N<=b:=h1
     rcases hb with hb|hb
     ·exact hfr b (by omega) hb
     ·omega
   have out:ex₁≠.normal->(CL id locs σ₀ hd σ.dep body k ex₁ σ₁)=k ex₁ { σ₁ with dep:=σ.dep }->∃(m:Nat) (ex:Ex) (σ':SS) (rsT:List AV) (K':Nat->List AV->Prop),(k ex σ').den P Post (env++rsT) K'/\(∀l,l<σ.dep->K' l=K l)/\σ'.dep=σ.dep/\KnownOK (env++rsT) σ'.n σ'.known/\(env++rsT).length=σ'.n/\hd.N<=σ'.N ∧
     ∀ (us rsE:List AV) (κE:Nat->Value) (FE U₀:Nat->Prop) (aE:Act) (wE:World),Rel w0 (env++rsE) κE FE U₀ σ₀.tmp σ₀.blk σ₀.L aE wE->(∀b,σ₀.N<=b->¬U₀ b)->(∀b,ro=some b->U₀ b) →
      ∀(κ:Nat->Value) (F:Nat->Prop) (a:Act) (w:World),(∀x,Rel w0 (env++(vs++x)) κ F (fun b=>U₀ b\/(σ₀.N<=b/\b<hd.N)) hd.tmp hd.blk hd.L a w)->Kept U₀ σ₀.blk κE FE wE hd.blk κ F w->Marks wE aE.defers F w a.defers →
       Code.roundsIn (FR (dL κE ro)) 0 P c (fun e a' w'=>e=ex.exit'/\Ends w0 (env++rsT++us) κE FE U₀ σ₀ aE wE σ' a' w') m a w:=by
    intro hne heq;rw[heq]at q1;exact fin 1 ex₁ σ₁ rs₁ K₁ q1 (fun l hl=>by rw[q2 l (by show l<σ.dep+1;omega),ab (by omega)]) q4 q5 (fun us=>kf hne (q6 us))
   have more:ex₁=.normal->(body (fun e σ'=>match e with|.normal=>T.stop id "the loop turns more" | e=>k e { σ' with dep:=σ.dep }) σ₁).den P Post (env++vs++rs₁) K₁->∃(m:Nat) (ex:Ex) (σ':SS) (rsT:List AV) (K':Nat->List AV->Prop),(k ex σ').den P Post (env++rsT) K'/\(∀l,l<σ.dep->K' l=K l)/\σ'.dep=σ.dep/\KnownOK (env++rsT) σ'.n σ'.known/\(env++rsT).length=σ'.n/\hd.N<=σ'.N ∧
     ∀ (us rsE:List AV) (κE:Nat->Value) (FE U₀:Nat->Prop) (aE:Act) (wE:World),Rel w0 (env++rsE) κE FE U₀ σ₀.tmp σ₀.blk σ₀.L aE wE->(∀b,σ₀.N<=b->¬U₀ b)->(∀b,ro=some b->U₀ b) →
      ∀(κ:Nat->Value) (F:Nat->Prop) (a:Act) (w:World),(∀x,Rel w0 (env++(vs++x)) κ F (fun b=>U₀ b\/(σ₀.N<=b/\b<hd.N)) hd.tmp hd.blk hd.L a w)->Kept U₀ σ₀.blk κE FE wE hd.blk κ F w->Marks wE aE.defers F w a.defers →
       Code.roundsIn (FR (dL κE ro)) 0 P c (fun e a' w'=>e=ex.exit'/\Ends w0 (env++rsT++us) κE FE U₀ σ₀ aE wE σ' a' w') m a w:=by
    intro he hmore;obtain⟨ex₂,σ₂,rs₂,K₂,r1,r2,r3,r4,r5,r6⟩:=ih Post _ _ σ₁ (env++vs++rs₁) q5 q4 hmore;have hne:ex₂≠.normal:=by rintro rfl;exact r1.elim
    have r1':(k ex₂ { σ₂ with dep:=σ.dep }).den P Post (env++vs++rs₁++rs₂) K₂:=by
     cases ex₂ with
     |normal=>exact r1.elim
     |exit j=>exact r1
     |ret=>exact r1
     |panic v=>exact r1
    have e3:env++vs++rs₁++rs₂=env++vs++(rs₁++rs₂):=by simp
    refine fin 2 ex₂ σ₂ (rs₁++rs₂) K₂ (by rw[<-e3];exact r1') (fun l hl=>?_) (by rw[<-e3];exact r4) (by rw[<-e3];exact r5) (fun us=>?_)
    ·rw[r2 l (by rw[q3];show l<σ.dep+1;omega),q2 l (by show l<σ.dep+1;omega),ab (by omega)]
    ·have h1:=q6 (rs₂++us)
     have h2:=r6 us;rw[<-List.append_assoc]at h1;rw[<-e3];subst he;exact BG h1 (kf hne h2)
   cases ex₁ with
   |exit j=>exact out (fun h=>by cases h) rfl
   |ret=>exact out (fun h=>by cases h) rfl
   |panic v=>exact out (fun h=>by cases h) rfl
   | normal=>
    unfold CL at q1;simp only[AX]at q1;split at q1
    rotate_left
    ·exact more rfl q1
    rename_i rows es' htl
    split at q1
    rotate_left
    ·exact more rfl q1
    rename_i hfc
    rw[Bool.and_eq_true]at hfc;have hag:K₁ σ.dep (den (env++vs++rs₁) es').g:=q1
    rw[q2 σ.dep (Nat.lt_succ_self _),ao]at hag;have hty':=CS (xs:=(den (env++vs++rs₁) es').g) htl (nZ (env:=env++vs++rs₁) locs rows es' htl).2.1;obtain⟨m,ex,σ',rsT,K',p1,p2,p3,p4,p5,p6,p7⟩:=ihv (μ (ff (locs.map Loc.sort) (den (env++vs++rs₁) es').g)) (by rw[<-hv];exact hag.2) _ rfl hty' hag.1
    refine⟨m+1,ex,σ',rsT,K',p1,p2,p3,p4,p5,p6,?_⟩
    intro us rsE κE FE U₀ aE wE hE hfr hro κ F a w hH hK hM;rw[roundsIn_succ];have hr:=hH rs₁;have hl:=q6 [];have e0:env++vs++rs₁++[]=env++(vs++rs₁):=by simp
    rw[e0]at hl;rw[<-dP (κ:=κE) (κ':=κ) (ro:=ro) (fun b hb=>hK.kap b (hro b hb))]
    refine wpIn_mono (hl.go κ F _ a w hr (fun b h1 hb=>?_) (fun b hb=>.inl (hro b hb))) ?_
    ·have h1:hd.N<=b:=h1
     rcases hb with hb|hb
     ·exact hfr b (by omega) hb
     ·omega
    rintro e a' w' ⟨rfl,κ1,F1,r1,k1,m1⟩;show Code.roundsIn (FR (dL κ ro)) 0 P c _ m a' w'
    rw[dP (κ:=κE) (κ':=κ) (ro:=ro) (fun b hb=>hK.kap b (hro b hb))]
    have K1:=hK.trans k1 (fun b hb=>.inl hb)
    have M1:=hM.trans hr k1 hK.size m1;obtain⟨f1,κ',f2,f3,f4⟩:=JH (taken:=taken) (rows:=rows) (es:=es') hn0 r1 htl (by rw[<-hhd];exact hfc.1) (U₀:=U₀) (fun b hb hlt=>by
     rcases hb with(hb|hb)|hb
     ·exact hb
     ·omega
     ·have:hd.N<=b:=hb.1;omega) (rsE:=rsE) (Ee hE K1 r1)
    rw[<-hhd]at f3 f4;have hvs:ff (locs.map Loc.sort) (den (env++vs++rs₁) es').g=(den (env++(vs++rs₁)) es').g:=by
     rw[List.append_assoc];exact vq _ _ f1
    refine p7 us rsE κE FE U₀ aE wE hE hfr hro κ' F1 a' w' (fun x=>?_) (NC K1 f2 (fun b h1 _=>hfr b h1) f4) M1
    rw[hvs,hhN];exact f3 x
 obtain⟨m,ex,σ',rsT,K',p1,p2,p3,p4,p5,p6,p7⟩:=key _ _ rfl (CS (xs:=(den env es).g) htails (nZ (env:=env) locs taken es htails).2.1) h0
 refine⟨ex,σ',rsT,K',p1,p2,p3,p4,p5,fun us=>LeadsR.loop (m:=m) ⟨by omega,fun κ F U a w hr hU hro=>?_⟩⟩
 have hE:Rel w0 (env++(rsT++us)) κ F U σ₀.tmp σ₀.blk σ₀.L a w:=by
  rw[g4,g2,<-List.append_assoc];exact hr.forget g1
 obtain⟨f1,κ',f2,f3,f4⟩:=JH (taken:=taken) (rows:=taken) (es:=es) hn0 hE htails (by rw[<-hhd];exact c2) (U₀:=U) (fun b hb _=>hb) (rsE:=rsT++us) (Ee hE Kept.refl hE)
 rw[<-hhd]at f3 f4;have hes:(den (env++(rsT++us)) es).g=(den env es).g:=by rw[je hn0 c1]
 rw[hes]at f1 f3;have:=p7 us (rsT++us) κ F U a w hE (fun b h1=>hU b (by omega)) hro κ' F a w (fun x=>by rw[vq _ _ f1,hhN];exact f3 x) (NC Kept.refl f2 (fun b h1 _=>hU b (by omega)) f4) Marks.nil
 refine jB ?_ m a w this
 rintro e a' w' ⟨he,hEnd⟩;refine⟨he,?_⟩
 unfold Ends at hEnd⊢
 rw[g3,g4]at hEnd;exact hEnd
theorem BK{id:Nat}{c:Code}{body:(Ex->SS->T)->SS->T}(ih:∀(Post:R->Prop) (K:Nat->List AV->Prop) (k:Ex->SS->T) (σ:SS) (env:List AV),env.length=σ.n->KnownOK env σ.n σ.known->(body k σ).den P Post env K->Path P Post w0 ro c env K σ k)
  {k:Ex->SS->T}:∀(n:Nat) (σ:SS) (env:List AV) (K:Nat->List AV->Prop),env.length=σ.n->KnownOK env σ.n σ.known->(unroll id body k n σ).den P Post env K →
  ∃(m:Nat) (ex:Ex) (σ':SS) (rs:List AV) (K':Nat->List AV->Prop),(k ex σ').den P Post (env++rs) K'/\(∀l,l<σ.dep->K' l=K l)/\σ'.dep=σ.dep/\KnownOK (env++rs) σ'.n σ'.known/\(env++rs).length=σ'.n/\∀us,LeadsR P w0 ro c m (env++rs++us) σ ex σ'
 |0,σ,env,K,_,_,h=>h.elim
 | n+1,σ,env,K,hn,hk,h=>by
  have h:(body (fun e σ'=>match e with|.normal=>unroll id body k n σ'|e=>k e σ') σ).den P Post env K:=h
  obtain⟨ex,σ₁,rs,K₁,q1,q2,q3,q4,q5,q6⟩:=ih Post K _ σ env hn hk h;cases ex with
  |normal=>
   obtain⟨m,ex,σ',rs',K',p1,p2,p3,p4,p5,p6⟩:=BK ih n σ₁ (env++rs) K₁ q5 q4 q1;refine⟨m+1,ex,σ',rs++rs',K',by rw[<-List.append_assoc];exact p1,fun l hl=>(p2 l (by rw[q3];exact hl)).trans (q2 l hl),p3.trans q3,by rw[<-List.append_assoc];exact p4,by rw[<-List.append_assoc];exact p5,fun us=>?_⟩
   have h1:=q6 (rs'++us);have h2:=p6 us;rw[<-List.append_assoc]at h1;rw[<-List.append_assoc];exact BG h1 h2
  |panic v=>exact⟨1,.panic v,σ₁,rs,K₁,q1,q2,q3,q4,q5,fun us=>kf (fun h=>by cases h) (q6 us)⟩
  |exit j=>exact⟨1,.exit j,σ₁,rs,K₁,q1,q2,q3,q4,q5,fun us=>kf (fun h=>by cases h) (q6 us)⟩
  |ret=>exact⟨1,.ret,σ₁,rs,K₁,q1,q2,q3,q4,q5,fun us=>kf (fun h=>by cases h) (q6 us)⟩
theorem JL(locs:List Loc)(k:SS->T)(σ:SS):A8 locs k σ=k σ\/∃bs,A8 locs k σ=k (σ.write (bb σ.blk bs)):=by
 unfold A8;split
 ·exact .inl rfl
 ·rename_i b bs _;exact .inr ⟨b::bs,SS.go_eq _ _⟩
theorem LZ{σ σ':SS}{bs:List Nat}{c:Code}{ex:Ex}(h:Leads P w0 ro c env σ ex σ'):Leads P w0 ro c env σ ex (σ'.write (bb σ'.blk bs)):=by
 have hw:=j6 σ' bs;obtain⟨y1,y2,y3,y4,_⟩:=cx σ' _ hw.1;rw[hw.2]at y2;refine⟨by rw[y2];exact h.le,fun κ F U a w hr hU hro=>wpIn_mono (h.go κ F U a w hr hU hro) ?_⟩
 rintro e a' w' ⟨he,κ',F',r,k,m⟩;obtain⟨F1,r1,k1⟩:=r.freeze bs;have m1:=m.next r k1;rw[<-y1]at r1 k1;rw[<-y3,<-y4]at r1;exact⟨he,κ',F1,by rw[y2];exact r1,k.trans k1 (fun b hb=>.inl hb),m1⟩
theorem Path.iced{c:Code}{σ:SS}{k:Ex->SS->T}{bs:List Nat}(h:Path P Post w0 ro c env K (σ.write (bb σ.blk bs)) k):Path P Post w0 ro c env K σ k:=by
 obtain⟨y1,y2,y3,y4,y5,y6,y7⟩:=cx σ _ (j6 σ bs).1;obtain⟨ex,σ',rs,K',q1,q2,q3,q4,q5,q6⟩:=h;exact⟨ex,σ',rs,K',q1,fun l hl=>q2 l (by rw[y7];exact hl),by rw[q3,y7],q4,q5,fun us=>xA (j6 σ bs) (q6 us)⟩
theorem Gi{c:Code}{locs:List Loc}{body:(Ex->SS->T)->SS->T}(ih:∀(Post:R->Prop) (K:Nat->List AV->Prop) (k:Ex->SS->T) (σ:SS) (env:List AV),env.length=σ.n->KnownOK env σ.n σ.known->(body k σ).den P Post env K->Path P Post w0 ro c env K σ k)
  (Post:R->Prop) (K:Nat->List AV->Prop) (k:Ex->SS->T) (σ:SS) (env:List AV) (hn:env.length=σ.n) (hk:KnownOK env σ.n σ.known) (h:(body (py locs k) σ).den P Post env K):Path P Post w0 ro c env K σ k:=by
 obtain⟨ex,σ',rs,K',q1,q2,q3,q4,q5,q6⟩:=ih Post K _ σ env hn hk h;cases ex with
 |exit j=>exact⟨.exit j,σ',rs,K',q1,q2,q3,q4,q5,q6⟩
 |ret=>exact⟨.ret,σ',rs,K',q1,q2,q3,q4,q5,q6⟩
 |panic v=>exact⟨.panic v,σ',rs,K',q1,q2,q3,q4,q5,q6⟩
 | normal=>
  unfold py at q1;simp only at q1
  rcases JL locs (k .normal) σ' with e|⟨bs,e⟩
  ·rw[e]at q1;exact⟨.normal,σ',rs,K',q1,q2,q3,q4,q5,q6⟩
  ·rw[e]at q1
   obtain⟨y1,y2,y3,y4,y5,y6,y7⟩:=cx σ' _ (j6 σ' bs).1;exact⟨.normal,_,rs,K',q1,q2,y7.trans q3,by rw[y5,y6];exact q4,by rw[y5];exact q5,fun us=>LZ (q6 us)⟩
theorem IS{fid id:Nat}{c:Code}{locs:List Loc}{ds:List Nat}{body:(Ex->SS->T)->SS->T}(ih:∀(Post:R->Prop) (K:Nat->List AV->Prop) (k:Ex->SS->T) (σ:SS) (env:List AV),env.length=σ.n->KnownOK env σ.n σ.known->(body k σ).den P Post env K->Path P Post w0 ro c env K σ k)
  {k:Ex->SS->T} {σ:SS} (hn:env.length=σ.n) (hk:KnownOK env σ.n σ.known) (h:(AD fid id locs ds body k σ).den P Post env K):Path P Post w0 ro (.loop c) env K σ k:=by
 unfold AD at h;simp only[JO]at h;rcases JL locs (A9 fid id σ.N locs ds (fun k=>body (py locs k)) k) σ with e|⟨bs,e⟩
 ·rw[e]at h
  exact FB (body:=fun k=>body (py locs k)) (fun Post K k σ env=>Gi ih Post K k σ env) hn hk h
 ·rw[e]at h
  obtain⟨y1,y2,y3,y4,y5,y6,y7⟩:=cx σ _ (j6 σ bs).1;exact Path.iced (FB (body:=fun k=>body (py locs k)) (fun Post K k σ env=>Gi ih Post K k σ env) (by rw[y5];exact hn) (by rw[y5,y6];exact hk) h)
theorem Path.stay{c:Code}{σ:SS}{k:Ex->SS->T}{ex:Ex}(hn:env.length=σ.n)(hk:KnownOK env σ.n σ.known)(h:(k ex σ).den P Post env K)(hl:∀env,Leads P w0 ro c env σ ex σ):Path P Post w0 ro c env K σ k:=
 ⟨ex,σ,[],K,by rw[List.append_nil];exact h,fun _ _=>rfl,rfl,by rw[List.append_nil];exact hk,by rw[List.append_nil];exact hn,fun _=>hl _⟩
theorem Ly(hrun:nT P w0 run)(hfit:PFit P){fid:Nat}{g:Operand}{ps:Array Tmp}{assign body:Code}{k:Ex->SS->T}{σ:SS}(hn:env.length=σ.n)(hk:KnownOK env σ.n σ.known)(h:(Cq P run ro fid (σ.ev g) ps assign body k σ).den P Post env K):Path P Post w0 ro (.rangeFunc g ps assign body) env K σ k:=by
 unfold Cq at h;split at h
 rotate_left
 ·exact h.elim
 rename_i f fs xs hg
 split at h
 rotate_left
 ·exact h.elim
 rename_i fn hfn
 split at h
 rotate_left
 ·exact h.elim
 rename_i c hb
 simp only[iZ iA,SS.go_eq]at h;split at h
 rotate_left
 ·exact h.elim
 rename_i hc
 simp only[Bool.and_eq_true]at hc;obtain⟨⟨_,c2⟩,c3⟩:=hc;obtain⟨y1,y2,y3,y4⟩:=yp (σ:=σ) (b:=σ.N) (y:=some (.loop ⟨fid,σ.rf,ps,assign,body⟩ .ready .none)) (Nat.le_refl _)
 obtain⟨_,_,_,_,y5,y6,y7⟩:=cx σ [(σ.N,some (.loop ⟨fid,σ.rf,ps,assign,body⟩ .ready .none))] ⟨Nat.le_refl _,trivial⟩;obtain⟨ex,σ',rs,K',q1,q2,q3,q4,q5,q6⟩:=hrun Post K none f c _ ((σ.write [(σ.N,some (.loop ⟨fid,σ.rf,ps,assign,body⟩ .ready .none))]).frame (fs.list++[.yld σ.N]++xs.list) fn.ntmps) env (hn.trans y5.symm) (by have hk':=hk;rw[<-y5,<-y6]at hk';exact hk') h
 have hdep:((σ.write [(σ.N,some (.loop ⟨fid,σ.rf,ps,assign,body⟩ .ready .none))]).frame (fs.list++[.yld σ.N]++xs.list) fn.ntmps).dep=σ.dep:=y7
 rw[hdep]at q2 q3;have hout:ex.out=true:=by
  cases ex with
  |normal=>rfl
  |ret=>rfl
  |exit id=>exact False.elim q1
  |panic v=>exact False.elim q1
 have hfin:ex.out=true/\∃i st p,σ'.blk σ.N=some (.loop i st p)/\st≠.busy/\(k p.ex { σ'.write [(σ.N,none)]with rf:=σ.rf }).den P Post (env++rs) K':=by
  unfold I5 at q1;split at q1
  ·exact q1.elim
  ·exact q1.elim
  ·rename_i i st p hnx hnp hblk
   simp only[SS.go_eq]at q1;split at q1
   ·rename_i hst
    refine⟨hout,i,st,p,hblk,by simpa using hst,?_⟩
    cases p<;>exact q1
   ·exact q1.elim
  ·exact q1.elim
 obtain⟨hex,i,st,p,hblk,hst,hden⟩:=hfin;obtain⟨_,_,_,_,z5,z6,z7⟩:=cx σ' [(σ.N,none)] ⟨by have:=eR hblk;omega,trivial⟩
 refine⟨p.ex,{ σ'.write [(σ.N,none)]with rf:=σ.rf },rs,K',hden,q2,z7.trans q3,by have q4':=q4;rw[<-z5,<-z6]at q4';exact q4',q5.trans z5.symm,fun us=>?_⟩
 exact Kk hfit hg hfn hb (fun b hb'=>by subst hb';simpa using c3) c2 hex (q6 us) hblk hst
theorem Om(hrun:nT P w0 run)(hfit:PFit P){fid:Nat}(c:Code):∀(Post:R->Prop) (K:Nat->List AV->Prop) (k:Ex->SS->T) (σ:SS) (env:List AV),env.length=σ.n->KnownOK env σ.n σ.known->(sym P cfg run ro fid c k σ).den P Post env K->Path P Post w0 ro c env K σ k:=by
 induction c with
 |skip=>intro Post K k σ env hn hk h;exact Path.stay hn hk h (fun _=>Ma)
 |exit id=>intro Post K k σ env hn hk h;exact Path.stay hn hk h (fun _=>LH)
 |ret=>intro Post K k σ env hn hk h;exact Path.stay hn hk h (fun _=>Ng)
 |region id ops draw=>intro Post K k σ env hn hk h;exact Ia hrun hfit hn hk h
 |rangeFunc g ps x y ih1 ih2=>intro Post K k σ env hn hk h;exact Ly hrun hfit hn hk h
 | seq x y ih1 ih2=>
  intro Post K k σ env hn hk h;simp only[sym]at h;obtain⟨ex,σ₁,rs,K₁,q1,q2,q3,q4,q5,q6⟩:=ih1 Post K _ σ env hn hk h;cases ex with
  |normal=>
   obtain⟨ex,σ',rs',K',p1,p2,p3,p4,p5,p6⟩:=ih2 Post K₁ k σ₁ (env++rs) q5 q4 q1;refine⟨ex,σ',rs++rs',K',by rw[<-List.append_assoc];exact p1,fun l hl=>(p2 l (by rw[q3];exact hl)).trans (q2 l hl),p3.trans q3,by rw[<-List.append_assoc];exact p4,by rw[<-List.append_assoc];exact p5,fun us=>?_⟩
   have h1:=q6 (rs'++us);have h2:=p6 us;rw[<-List.append_assoc]at h1;rw[<-List.append_assoc];exact MG h1 h2
  |panic v=>exact⟨.panic v,σ₁,rs,K₁,q1,q2,q3,q4,q5,fun us=>mZ (fun h=>by cases h) (q6 us)⟩
  |exit j=>exact⟨.exit j,σ₁,rs,K₁,q1,q2,q3,q4,q5,fun us=>mZ (fun h=>by cases h) (q6 us)⟩
  |ret=>exact⟨.ret,σ₁,rs,K₁,q1,q2,q3,q4,q5,fun us=>mZ (fun h=>by cases h) (q6 us)⟩
 | cond c x y ih1 ih2=>
  intro Post K k σ env hn hk h;simp only[sym]at h;unfold K6 at h;split at h
  ·rename_i e he
   split at h
   ·rename_i ht
    obtain⟨ex,σ',rs,K',q1,q2,q3,q4,q5,q6⟩:=ih1 Post K k σ env hn hk h;exact⟨ex,σ',rs,K',q1,q2,q3,q4,q5,fun us=>nV (b:=true) he (by rw[List.append_assoc];exact lD (hk.ext' hn) ht) (q6 us)⟩
   ·rename_i ht
    obtain⟨ex,σ',rs,K',q1,q2,q3,q4,q5,q6⟩:=ih2 Post K k σ env hn hk h;exact⟨ex,σ',rs,K',q1,q2,q3,q4,q5,fun us=>nV (b:=false) he (by rw[List.append_assoc];exact lD (hk.ext' hn) ht) (q6 us)⟩
   ·split at h
    ·rename_i hs
     obtain⟨h1,h2⟩:=h;cases hb:(den env e).b with
     |true=>
      obtain⟨ex,σ',rs,K',q1,q2,q3,q4,q5,q6⟩:=ih1 Post K k (σ.learn e true) env hn (gv hk hs hb) (h1 hb);exact⟨ex,σ',rs,K',q1,q2,q3,q4,q5,fun us=>nV (b:=true) he (by rw[List.append_assoc,je hn hs];exact hb) ((q6 us).same ⟨rfl,rfl,rfl,rfl⟩ ⟨rfl,rfl,rfl,rfl⟩)⟩
     |false=>
      obtain⟨ex,σ',rs,K',q1,q2,q3,q4,q5,q6⟩:=ih2 Post K k (σ.learn e false) env hn (gv hk hs hb) (h2 hb);exact⟨ex,σ',rs,K',q1,q2,q3,q4,q5,fun us=>nV (b:=false) he (by rw[List.append_assoc,je hn hs];exact hb) ((q6 us).same ⟨rfl,rfl,rfl,rfl⟩ ⟨rfl,rfl,rfl,rfl⟩)⟩
    ·exact h.elim
  ·exact h.elim
 | block id c ih=>
  intro Post K k σ env hn hk h;simp only[sym]at h;obtain⟨ex,σ',rs,K',q1,q2,q3,q4,q5,q6⟩:=ih Post K _ σ env hn hk h;unfold KS at q1;cases ex with
  |normal=>exact⟨.normal,σ',rs,K',q1,q2,q3,q4,q5,fun us=>jv rfl (q6 us)⟩
  |ret=>exact⟨.ret,σ',rs,K',q1,q2,q3,q4,q5,fun us=>jv rfl (q6 us)⟩
  |panic v=>exact⟨.panic v,σ',rs,K',q1,q2,q3,q4,q5,fun us=>jv rfl (q6 us)⟩
  |exit i=>
   simp only at q1
   split at q1
   ·rename_i hi;exact⟨.normal,σ',rs,K',q1,q2,q3,q4,q5,fun us=>jv (by simp only;rw[if_pos hi]) (q6 us)⟩
   ·rename_i hi;exact⟨.exit i,σ',rs,K',q1,q2,q3,q4,q5,fun us=>jv (by simp only;rw[if_neg hi]) (q6 us)⟩
 | loop c ih=>
  intro Post K k σ env hn hk h;simp only[sym]at h;unfold K7 at h;simp only at h
  split at h
  ·obtain⟨m,ex,σ',rs,K',p1,p2,p3,p4,p5,p6⟩:=BK ih _ σ env K hn hk h
   exact⟨ex,σ',rs,K',p1,p2,p3,p4,p5,fun us=>(p6 us).loop⟩
  ·exact IS ih hn hk h
  ·exact IS ih hn hk h
 |_=>intro Post K k σ env hn hk h;exact h.elim
theorem oI(hfit:PFit P):∀n,nT P w0 (Cv P cfg n)
 |0=>fun _ _ _ _ _ _ _ _ _ _ h=>h.elim
 |n+1=>fun Post K ro fid c k σ env hn hk h=>Om (oI hfit n) hfit c Post K k σ env hn hk h
variable {env:List AV} {κ κ':Nat->Value} {F F':Nat->Prop} {w w' w0:World} {U:Nat->Prop} {tmp:Nat->SV} {blk:Nat->Option SB} {L:Nat} {a:Act} {P:Program}
def iU:List Nat->World->World
 |[],w=>w
 |D::Ds,w=>iU Ds (w.putObj D (.deferred none))
theorem sF:∀(Ds:List Nat) (w:World),Rel w0 env κ F U tmp blk L a w->Ds.Nodup->(∀D∈Ds,w0.heap.size<=D/\w.heap[D]?=some (.deferred (some []))/\¬F D)->Rel w0 env κ F U tmp blk L a (iU Ds w)
 |[],_,h,_,_=>h
 |D::Ds,w,h,hnd,hD=>by
  rw[List.nodup_cons]at hnd;obtain⟨h1,h2,h3⟩:=hD D List.mem_cons_self;refine sF Ds _ (h.shut h2 h3 h1) hnd.2 (fun E hE=>?_)
  obtain⟨g1,g2,g3⟩:=hD E (List.mem_cons_of_mem _ hE);exact⟨g1,(World.putObj_heap_other (fun e:E=D=>hnd.1 (by rw[<-e];exact hE))).trans g2,g3⟩
theorem pj{blk':Nat->Option SB}:∀(Ds:List Nat) (v:World),Kept U blk κ F w blk' κ' F' v->(∀D∈Ds,w.heap.size<=D)->Kept U blk κ F w blk' κ' F' (iU Ds v)
 |[],_,h,_=>h
 |D::Ds,_,h,hD=>pj Ds _ (h.shut (hD D List.mem_cons_self)) (fun E hE=>hD E (List.mem_cons_of_mem _ hE))
theorem Ag{Fc:Fence}{n:Nat}{R:Ending->World->Prop}{fn:Func}{tm:Array Value}{u:FrameMode}{ds:List Deferred}(hu:u≠.run):∀(Ds:List Nat) (w':World),Ds.Nodup->(∀D∈Ds,w'.heap[D]?=some (.deferred (some [])))->LeavesInM Fc n P fn tm R ds u (iU Ds w')->LeavesInM Fc n P fn tm R (Ds.map gD++ds) u w'
 |[],_,_,_,h=>h
 |D::Ds,w',hnd,hD,h=>by
  rw[List.nodup_cons]at hnd;refine⟨hu,.inl ⟨D,w'.putObj D (.deferred none),rfl,run_takeDeferred (hD D List.mem_cons_self),?_⟩⟩
  exact Ag hu Ds _ hnd.2 (fun E hE=>(World.putObj_heap_other (fun e:E=D=>hnd.1 (by rw[<-e];exact hE))).trans (hD E (List.mem_cons_of_mem _ hE))) h
theorem sD{Fc:Fence}{n:Nat}{cs:List Frame}:∀(Ds:List Nat) (fr:Frame) (w:World),fr.mode≠.run->fr.defers=Ds.map gD->Fc.fn fr.fn->Fc.room (cs.length+1+n)->Ds.Nodup->(∀D∈Ds,w.heap[D]?=some (.deferred (some []))) →
  StepsIn (Machine.fenced P Fc) P (lone fr cs w) (lone { fr with defers:=[] } cs (iU Ds w))
 |[],fr,w,_,hd,_,_,_,_=>by
  have:({ fr with defers:=[] }:Frame)=fr:=by cases fr;simp only[List.map_nil]at hd;subst hd;rfl
  rw[this];exact StepsIn.refl _
 |D::Ds,fr,w,hm,hd,hF,hr,hnd,hD=>by
  rw[List.nodup_cons]at hnd;have h1:=step_collected (P:=P) (cs:=cs) hm hd (r:=D) rfl (run_takeDeferred (P:=P) (hD D List.mem_cons_self));have i1:(lone fr cs w).fenced P Fc:=fenced_out hF hr hm hd (fun g hg=>by simp[gD,Target.leads]at hg)
  refine .head i1 h1 ?_
  exact sD (cs:=cs) (n:=n) Ds { fr with defers:=[]++Ds.map gD } _ hm rfl hF hr hnd.2 (fun E hE=>(World.putObj_heap_other (fun e:E=D=>hnd.1 (by rw[<-e];exact hE))).trans (hD E (List.mem_cons_of_mem _ hE)))
def AZ(P:Program)(fn:Func)(c₀:Frame)(cs:List Frame)(R:Ending->FrameMode->World->Prop):Exit->Act->List Frame->World->Prop
 |.normal,a,cs',w|.ret,a,cs',w=>∃Ds u',a.defers=Ds.map gD/\Ds.Nodup/\(∀D∈Ds,w.heap[D]?=some (.deferred (some [])))/\cs'={ c₀ with mode:=u' }::cs/\∃v,(results fn a.tmps).run P (iU Ds w)=.ok v (iU Ds w)/\R (.returned v) u' (iU Ds w)
 |_,_,_,_=>False
theorem EJ{Fc:Fence}{n:Nat}{f:FuncId}{fn:Func}{c:Code}{args:Array Value}{u:FrameMode}{R:Ending->FrameMode->World->Prop}
  (hf:P.funcs[f]?=some fn) (hb:fn.body=some c) (hF:Fc.fn f)
  (h:∀(c₀:Frame) (cs:List Frame),c₀.mode=u->c.wpSIn Fc n P (AZ P fn c₀ cs R) { tmps:=args++Array.replicate (fn.ntmps-args.size) undef,defers:=[] } (c₀::cs) w):CallsDIn Fc n P f args u w R:=by
 refine⟨hF,fun c₀ cs hu hroom=>?_⟩
 let b:Frame:={ (default:Frame)with fn:=f,kind:=.deferred,roundOf:=none }
 have henter:Frame.enter P f args .deferred=b.atR { tmps:=args++Array.replicate (fn.ntmps-args.size) undef,defers:=[] } [.code c]:=by
  simp[Frame.enter,Frame.atR,hf,hb,b]
 obtain⟨e,a',cs',w',hl,hq,harr⟩:=h c₀ cs hu b [] rfl rfl hF hroom;rw[<-henter]at harr;cases e with
 |normal=>
  obtain⟨Ds,u',hd,hnd,hD,rfl,v,hr,hR⟩:=hq;have s2:=sD (P:=P) (cs:={ c₀ with mode:=u' }::cs) (n:=n) Ds { b.atR a' []with mode:=.returning } w' (by simp) hd hF hroom hnd hD
  exact⟨.returned v,u',_,_,hR,StepsIn.trans harr (StepsIn.trans (.one (fenced_calm (fr:=b.atR a' []) hF hroom rfl) (stepR_end rfl)) s2),rfl,rfl,rfl,rfl,fn,hf,hr⟩
 |ret=>
  obtain⟨Ds,u',hd,hnd,hD,rfl,v,hr,hR⟩:=hq;obtain⟨todo,hs⟩:=harr.1 rfl;have s2:=sD (P:=P) (cs:={ c₀ with mode:=u' }::cs) (n:=n) Ds { b.atR a' todo with mode:=.returning } w' (by simp) hd hF hroom hnd hD
  exact⟨.returned v,u',_,_,hR,StepsIn.trans hs s2,rfl,rfl,rfl,rfl,fn,hf,hr⟩
 |panic chain=>exact hq.elim
 |exit id=>exact hq.elim
 |goto l=>exact hq.elim
 |outgrown=>exact hq.elim
theorem J6{l:List Oper}{r q:Nat}(h:AO l=some (r,q)):∃o o',l=[o,o']/\o.dst=some r/\(∃c,o.op=.call c/\c.callee=.builtin .recover)/\o.guard=none/\o'.dst=some q/\o'.op=.assign (.tmp r)/\o'.guard=none:=by
 unfold AO at h;split at h
 ·split at h
  ·rename_i e
   cases h
   exact⟨_,_,rfl,rfl,⟨_,rfl,rfl⟩,rfl,rfl,by rw[e],rfl⟩
  ·cases h
 ·cases h
theorem Nz{c:Code}{rg:RecG}(h:EL c=some rg):c=.seq (.region rg.id rg.ops false) rg.rest/\AO rg.ops.toList=some (rg.r,rg.q):=by
 unfold EL at h;split at h
 ·obtain⟨x,hx,rfl⟩:=Option.map_eq_some_iff.1 h
  exact⟨rfl,hx⟩
 ·cases h
theorem uV(v:Value):SVden env κ F w (cm v) v/\(cm v).names=[]:=by
 unfold cm;split
 ·exact⟨rfl,rfl⟩
 ·split
  ·rename_i t cs h
   refine⟨⟨_,rfl,cs,rfl,rfl,?_⟩,rfl⟩
   have:cs=#[]:=Array.eq_empty_of_size_eq_zero h
   subst this;rfl
  ·exact⟨trivial,rfl⟩
 ·exact⟨trivial,rfl⟩
theorem Ji{n:Nat}{ops:Array Oper}{Q:Exit->Act->List Frame->World->Prop}{i:Nat}{rest:List Nat}{o:Oper}{u:Value}{cs:List Frame}(ho:ops[i]?=some o)(hg:o.guard=none)(hr:(execOp a.eval o).run P w=.ok (.value u) w)
  (h:wpOpsSIn (FR none) n P ops Q rest (a.put o.dst u) cs w):wpOpsSIn (FR none) n P ops Q (i::rest) a cs w:=by
 simp only[wpOpsSIn,ho];refine⟨fun _ _=>trivial,?_⟩
 rw[show Region.wanted o (yielded ops a.tmps)=true by simp[Region.wanted,hg],if_pos rfl,hr]
 exact h
theorem Fe{n:Nat}{ops:Array Oper}{Q:Exit->Act->List Frame->World->Prop}{i:Nat}{rest:List Nat}{o:Oper}{cs:List Frame}(ho:ops[i]?=some o)(hg:o.guard=none)(hr:(execOp a.eval o).run P w=.ok .recover w)
  (h:match recoverD cs with
   |some (v,cs')=>wpOpsSIn (FR none) n P ops Q rest (a.put o.dst v) cs' w
   |none=>wpOpsSIn (FR none) n P ops Q rest (a.put o.dst .nilIface) cs w):wpOpsSIn (FR none) n P ops Q (i::rest) a cs w:=by
 simp only[wpOpsSIn,ho];refine⟨fun _ _=>trivial,?_⟩
 rw[show Region.wanted o (yielded ops a.tmps)=true by simp[Region.wanted,hg],if_pos rfl,hr]
 exact h
theorem Gx{g:Nat}{gfn:Func}{gc:Code}{rg:RecG}(hg:P.funcs[g]?=some gfn)(hgb:gfn.body=some gc)(hrg:EL gc=some rg)(hres:gfn.results.size=0){xs:List SV}{σ2 σ4:SS}{v:Value}{u:FrameMode}
  (hu:u=.returning/\v=.nilIface\/u=.panicking (fW v)) (hr1:rg.r<(σ2.frame xs gfn.ntmps).L) (hr2:rg.q<(σ2.frame xs gfn.ntmps).L) {ex4:Ex} (hex4:ex4.out=true)
  (l4:Leads P w0 none rg.rest env (((σ2.frame xs gfn.ntmps).put (some rg.r) (cm v)).put (some rg.q) (cm v)) ex4 σ4) {cs:Array Value}
  (hfr:Rel w0 env κ F U (σ2.frame xs gfn.ntmps).tmp (σ2.frame xs gfn.ntmps).blk (σ2.frame xs gfn.ntmps).L { tmps:=cs++Array.replicate (gfn.ntmps-cs.size) undef,defers:=[] } w) (hU:∀b,σ2.N<=b->¬U b) (hB:w0.heap.size<=w.heap.size):
  CallsDIn (FR none) 0 P g cs u w fun e u' w'=>∃val,e=.returned val/\settle u'=.returning/\∃κ' F' a',Rel w0 env κ' F' (fun b=>U b\/(σ2.N<=b/\b<σ4.N)) σ4.tmp σ4.blk σ4.L a' w'/\Kept U σ2.blk κ F w σ4.blk κ' F' w':=by
 obtain⟨hgc,hops⟩:=Nz hrg;obtain⟨o,o',hl,d1,⟨c,op1,ce1⟩,gd1,d2,op2,gd2⟩:=J6 hops;have hsz:rg.ops.size=2:=by rw[<-Array.length_toList,hl];rfl
 have e0:rg.ops[0]?=some o:=by rw[<-Array.getElem?_toList,hl];rfl
 have e1:rg.ops[1]?=some o':=by rw[<-Array.getElem?_toList,hl];rfl
 subst hgc;refine EJ hg hgb trivial (fun c₀ rest hmode=>wpSIn_seq (wpSIn_region ?_))
 rw[hsz];show wpOpsSIn _ _ _ _ _ [0,1] _ _ _
 obtain⟨a0,ha0⟩:∃a0:Act,a0={ tmps:=cs++Array.replicate (gfn.ntmps-cs.size) undef,defers:=[] }:=⟨_,rfl⟩
 rw[<-ha0]at hfr⊢
 have hrec:(execOp a0.eval o).run P w=.ok .recover w:=by
  simp only[execOp,op1,resolve,ce1,Sem.run_bind,Sem.run_pure,Result.andThen_ok,invoke,builtin]
 obtain⟨a1,ha1⟩:∃a1:Act,a1=(a0.put (some rg.r) v).put (some rg.q) v:=⟨_,rfl⟩
 have hev:(a0.put (some rg.r) v).eval (.tmp rg.r)=v:=by
  simp only[Act.eval,Act.put];rw[pu (by rw[hfr.size];exact hr1),if_pos rfl]
 obtain⟨p1,p2,p3,_,_,p4,_⟩:=ej (σ2.frame xs gfn.ntmps) (dst:=some rg.r) (v:=cm v) (fun d hd=>by cases hd;exact hr1)
 obtain⟨q1,q2,q3,_,_,q4,_⟩:=ej ((σ2.frame xs gfn.ntmps).put (some rg.r) (cm v)) (dst:=some rg.q) (v:=cm v) (fun d hd=>by cases hd;rw[p4];exact hr2)
 have hrel:Rel w0 env κ F U (((σ2.frame xs gfn.ntmps).put (some rg.r) (cm v)).put (some rg.q) (cm v)).tmp (((σ2.frame xs gfn.ntmps).put (some rg.r) (cm v)).put (some rg.q) (cm v)).blk (((σ2.frame xs gfn.ntmps).put (some rg.r) (cm v)).put (some rg.q) (cm v)).L a1 w:=by
  rw[q1,q2,q4,p1,p2,p4,ha1];have h1:=hfr.put (dst:=some rg.r) (v:=cm v) (u:=v) (fun d hd=>by cases hd;exact hr1) (uV v).1 (fun b hb=>by rw[(uV (env:=env) (κ:=κ) (F:=F) (w:=w) v).2]at hb;cases hb)
  exact h1.put (dst:=some rg.q) (v:=cm v) (u:=v) (fun d hd=>by cases hd;exact hr2) (uV v).1 (fun b hb=>by rw[(uV (env:=env) (κ:=κ) (F:=F) (w:=w) v).2]at hb;cases hb)
 have hN:(((σ2.frame xs gfn.ntmps).put (some rg.r) (cm v)).put (some rg.q) (cm v)).N=σ2.N:=by rw[q3,p3];rfl
 have hblk:(((σ2.frame xs gfn.ntmps).put (some rg.r) (cm v)).put (some rg.q) (cm v)).blk=σ2.blk:=by rw[q2,p2];rfl
 have hdef:a1.defers=[]:=by rw[ha1,ha0];rfl
 have fin:∀(u':FrameMode),settle u'=.returning->rg.rest.wpSIn (FR none) 0 P (AZ P gfn c₀ rest fun e u' w'=>∃val,e=.returned val/\settle u'=.returning/\∃κ' F' a',Rel w0 env κ' F' (fun b=>U b\/(σ2.N<=b/\b<σ4.N)) σ4.tmp σ4.blk σ4.L a' w'/\Kept U σ2.blk κ F w σ4.blk κ' F' w') a1 ({ c₀ with mode:=u' }::rest) w:=by
  intro u' hu';refine wpSIn_of_wpIn rfl (wpIn_mono (l4.go κ F U a1 w hrel (by rw[hN];exact hU) (fun b hb=>by cases hb)) ?_)
  rintro e a' w' ⟨rfl,κ',F',r,k,Ds,m1,m2,m3⟩;rw[hN]at r;rw[hblk]at k;have key:AZ P gfn c₀ rest (fun e u' w'=>∃val,e=.returned val/\settle u'=.returning/\∃κ' F' a',Rel w0 env κ' F' (fun b=>U b\/(σ2.N<=b/\b<σ4.N)) σ4.tmp σ4.blk σ4.L a' w'/\Kept U σ2.blk κ F w σ4.blk κ' F' w') .normal a' ({ c₀ with mode:=u' }::rest) w':=by
   refine⟨Ds,u',by rw[m1,hdef,List.append_nil],m2,fun D hD=>(m3 D hD).2.1,rfl,pack [],sn (us:=[]) (by simp[hres]) (fun i x u hx hu=>by simp at hu),pack [],rfl,hu',κ',F',a',?_,?_⟩
   ·exact sF Ds w' r m2 (fun D hD=>⟨by have:=(m3 D hD).1;omega,(m3 D hD).2⟩)
   ·exact pj Ds w' k (fun D hD=>(m3 D hD).1)
  cases ex4 with
  |normal=>exact key
  |ret=>exact key
  |exit id=>cases hex4
  |panic v=>cases hex4
 have tail:∀cs',rg.rest.wpSIn (FR none) 0 P (AZ P gfn c₀ rest fun e u' w'=>∃val,e=.returned val/\settle u'=.returning/\∃κ' F' a',Rel w0 env κ' F' (fun b=>U b\/(σ2.N<=b/\b<σ4.N)) σ4.tmp σ4.blk σ4.L a' w'/\Kept U σ2.blk κ F w σ4.blk κ' F' w') a1 cs' w->wpOpsSIn (FR none) 0 P rg.ops (Exit.thenS (rg.rest.wpSIn (FR none) 0 P (AZ P gfn c₀ rest fun e u' w'=>∃val,e=.returned val/\settle u'=.returning/\∃κ' F' a',Rel w0 env κ' F' (fun b=>U b\/(σ2.N<=b/\b<σ4.N)) σ4.tmp σ4.blk σ4.L a' w'/\Kept U σ2.blk κ F w σ4.blk κ' F' w')) (AZ P gfn c₀ rest fun e u' w'=>∃val,e=.returned val/\settle u'=.returning/\∃κ' F' a',Rel w0 env κ' F' (fun b=>U b\/(σ2.N<=b/\b<σ4.N)) σ4.tmp σ4.blk σ4.L a' w'/\Kept U σ2.blk κ F w σ4.blk κ' F' w')) [1] (a0.put o.dst v) cs' w:=fun cs' h=>by
  refine Ji e1 gd2 (u:=v) (by rw[d1];simp only[execOp,op2,hev,Sem.run_pure]) ?_
  rw[d1,d2,<-ha1];exact h
 refine Fe e0 gd1 hrec ?_
 rcases hu with⟨rfl,rfl⟩|rfl
 ·have:recoverD (c₀::rest)=none:=by simp only[recoverD,hmode]
  rw[this];refine tail _ ?_
  have hc:({ c₀ with mode:=FrameMode.returning }:Frame)=c₀:=by rw[<-hmode]
  have:=fin .returning rfl
  rw[hc]at this;exact this
 ·have:recoverD (c₀::rest)=some (v,{ c₀ with mode:=.panicking ({ v,recovered:=true }::[]) }::rest):=by simp only[recoverD,hmode,fW]
  rw[this];exact tail _ (fin _ rfl)
theorem Kq{l:List Oper}{d g:Nat}{cap:Array Operand}(h:C4 l=some (d,g,cap)):∃o o' first c,l=[o,o']/\o.dst=some d/\o.op=.makeFunc (.func g) first cap/\first.size=0/\o.guard=none/\o'.dst=none/\o'.op=.defer c/\c.callee=.value (.tmp d)/\c.args.size=0/\o'.guard=none:=by
 unfold C4 at h;split at h
 ·split at h
  ·rename_i hh
   obtain⟨e,h1,h2⟩:=hh;cases h
   exact⟨_,_,_,_,rfl,rfl,rfl,h1,rfl,rfl,rfl,by rw[e],h2,rfl⟩
  ·cases h
 ·cases h
theorem ME{c:Code}{ri:RecI}(h:Lf c=some ri):c=.seq ri.c0 (.seq (.region ri.id ri.ops false) ri.rest)/\C4 ri.ops.toList=some (ri.d,ri.g,ri.cap):=by
 unfold Lf at h;split at h
 ·obtain⟨x,hx,rfl⟩:=Option.map_eq_some_iff.1 h
  exact⟨rfl,hx⟩
 ·cases h
theorem js{n:Nat}{ops:Array Oper}{Q:Exit->Act->World->Prop}{i:Nat}{rest:List Nat}{o:Oper}{u:Value}(ho:ops[i]?=some o)(hg:o.guard=none)(hd:∀c,o.op≠.defer c)(hr:(execOp a.eval o).run P w=.ok (.value u) w)
  (h:wpOpsIn (FR none) n P ops Q rest (a.put o.dst u) w):wpOpsIn (FR none) n P ops Q (i::rest) a w:=by
 simp only[wpOpsIn,ho];rw[show Region.wanted o (yielded ops a.tmps)=true by simp[Region.wanted,hg],if_pos rfl]
 refine⟨fun _ _=>trivial,?_⟩
 rw[Oper.semAt_eq _ _ _ hd,hr,Oper.uponIn_value];exact h
theorem Ki{n:Nat}{ops:Array Oper}{Q:Exit->Act->World->Prop}{i:Nat}{rest:List Nat}{o:Oper}{d:Deferred}(ho:ops[i]?=some o)(hg:o.guard=none)(hr:(execOp a.eval o).run P w=.ok (.defer d) w)
  (h:wpOpsIn (FR none) n P ops Q rest ({ a with defers:=d::a.defers }.put o.dst undef) w):wpOpsIn (FR none) n P ops Q (i::rest) a w:=by
 simp only[wpOpsIn,ho];rw[show Region.wanted o (yielded ops a.tmps)=true by simp[Region.wanted,hg],if_pos rfl]
 refine⟨fun _ _=>trivial,?_⟩
 rw[show(FR none).round=none from rfl,Oper.semAt_none,hr,Oper.uponIn_defer]
 exact h
theorem JS(hfit:PFit P){f:Nat}{fn:Func}{c:Code}(hfn:P.funcs[f]?=some fn)(hb:fn.body=some c){ri:RecI}(hri:Lf c=some ri){gfn:Func}{gc:Code}{rg:RecG}(hg:P.funcs[ri.g]?=some gfn)(hgb:gfn.body=some gc)(hrg:EL gc=some rg)(hres0:gfn.results.size=0)
  {σ σ1 σ2 σ4:SS} {xs:List SV} (hxs:xs=ri.cap.toList.map σ1.ev) (hd:ri.d<σ1.L) (l1:Leads P w0 none ri.c0 env σ .normal σ1) {ex2:Ex} {v:Value} (l2:Leads P w0 none ri.rest env (σ1.put (some ri.d) (.fn ri.g .nil (.of xs))) ex2 σ2)
  (h2:(ex2.out=true/\v=.nilIface)\/ex2=.panic v) (hr1:rg.r<(σ2.frame xs gfn.ntmps).L) (hr2:rg.q<(σ2.frame xs gfn.ntmps).L) {ex4:Ex} (hex4:ex4.out=true)
  (l4:Leads P w0 none rg.rest env (((σ2.frame xs gfn.ntmps).put (some rg.r) (cm v)).put (some rg.q) (cm v)) ex4 σ4) {vs:Array Value}
  (hr:Rel w0 env κ F U σ.tmp σ.blk σ.L { tmps:=vs++Array.replicate (fn.ntmps-vs.size) undef,defers:=[] } w) (hU:∀b,σ.N<=b->¬U b) {rs:List SV} (hres:bJ P { σ4 with rf:=σ2.rf } fn.results.toList=some rs):
  Calls P f vs w (xS w0 env κ F U σ.blk σ.N w { σ4 with rf:=σ2.rf } rs):=by
 obtain⟨hc,hops⟩:=ME hri;obtain⟨o,o',first,dc,hl,d1,op1,hfirst,gd1,d2,op2,cal,hargs,gd2⟩:=Kq hops;have hfirst:first=#[]:=Array.eq_empty_of_size_eq_zero hfirst
 have hargs:dc.args=#[]:=Array.eq_empty_of_size_eq_zero hargs
 subst hfirst;have hsz:ri.ops.size=2:=by rw[<-Array.length_toList,hl];rfl
 have e0:ri.ops[0]?=some o:=by rw[<-Array.getElem?_toList,hl];rfl
 have e1:ri.ops[1]?=some o':=by rw[<-Array.getElem?_toList,hl];rfl
 obtain⟨p1,p2,p3,_,_,p4,_⟩:=ej σ1 (dst:=some ri.d) (v:=.fn ri.g .nil (.of xs)) (fun d hd'=>by cases hd';exact hd)
 have n1:=l1.le;have n2:=l2.le;rw[p3]at n2;have n4:σ2.N<=σ4.N:=by
  have:=l4.le
  have q1:=(ej (σ2.frame xs gfn.ntmps) (dst:=some rg.r) (v:=cm v) (fun d hd'=>by cases hd';exact hr1))
  have q2:=(ej ((σ2.frame xs gfn.ntmps).put (some rg.r) (cm v)) (dst:=some rg.q) (v:=cm v) (fun d hd'=>by cases hd';rw[q1.2.2.2.2.2.1];exact hr2))
  rw[q2.2.2.1,q1.2.2.1]at this;exact this
 refine mP (ro:=none) (n:=0) (callsIn_of_wp_marks hfn hb trivial ?_)
 rw[hc];refine wpIn_seq (wpIn_mono (l1.go κ F U _ w hr hU (fun b hb=>by cases hb)) ?_)
 rintro e a1 w1 ⟨rfl,κ1,F1,r1,k1,m1⟩;show Code.wpIn (FR none) 0 P _ _ a1 w1
 refine wpIn_seq (wpIn_region ?_)
 rw[hsz];show wpOpsIn _ _ _ _ _ [0,1] _ _
 obtain⟨fv,hfv⟩:∃fv:Value,fv=.func (.func ri.g) #[] (ri.cap.map a1.eval):=⟨_,rfl⟩
 refine js e0 gd1 (fun c hc'=>by rw[op1]at hc';cases hc') (u:=fv) (by simp[execOp,op1,Instr.makeFunc,hfv]) ?_
 have hev:(a1.put o.dst fv).eval (.tmp ri.d)=fv:=by
  rw[d1];simp only[Act.eval,Act.put];rw[pu (by rw[r1.size];exact hd),if_pos rfl]
 refine Ki e1 gd2 (d:={ target:=.fn (.func ri.g) (ri.cap.map a1.eval),args:=#[] }) (by
  rw[hfv]at hev⊢
  simp only[execOp,op2,resolve,cal,hev,Deferred.ofValue,hargs,Sem.run_bind,Sem.run_pure,Result.andThen_ok,Array.map_empty,Array.append_empty]) ?_
 rw[d1,d2];show Code.wpIn (FR none) 0 P _ _ _ w1
 obtain⟨a2,ha2⟩:∃a2:Act,a2={ (a1.put (some ri.d) fv)with defers:={ target:=.fn (.func ri.g) (ri.cap.map a1.eval),args:=#[] }::a1.defers }:=⟨_,rfl⟩
 have hxe:xs=ri.cap.toList.map (ah σ1.tmp):=by rw[hxs];exact List.map_congr_left fun x _=>by rw[ib]
 have hcaps:SVden env κ1 F1 w1 (.of xs) (.tuple (ri.cap.map a1.eval)):=by rw[hxe];exact E7 r1 ri.cap
 have hxn:∀x∈xs,∀b∈x.names,U b\/(σ.N<=b/\b<σ1.N):=by
  intro x hx b hbn;rw[hxe]at hx;obtain⟨y,hy,rfl⟩:=List.mem_map.1 hx;exact r1.evNames y b hbn
 have hrel1:Rel w0 env κ1 F1 (fun b=>U b\/(σ.N<=b/\b<σ1.N)) (σ1.put (some ri.d) (.fn ri.g .nil (.of xs))).tmp (σ1.put (some ri.d) (.fn ri.g .nil (.of xs))).blk (σ1.put (some ri.d) (.fn ri.g .nil (.of xs))).L a2 w1:=by
  rw[p1,p2,p4,ha2];have h:=r1.put (dst:=some ri.d) (v:=.fn ri.g .nil (.of xs)) (u:=fv) (fun d hd'=>by cases hd';exact hd) ⟨#[],_,hfv,rfl,bM _,rfl,hcaps⟩ (fun b hb=>by
   rcases List.mem_append.1 hb with hb|hb
   ·cases hb
   ·obtain⟨y,hy,hby⟩:=(gk _ b).1 hb
    exact hxn y hy b hby)
  exact⟨h.tmps,h.size,h.blks,h.inj,h.nF,h.F,h.tnames,h.bnames,h.below⟩
 have hU1:∀b,σ1.N<=b->¬(U b\/(σ.N<=b/\b<σ1.N)):=fun b h1 h3=>by
  rcases h3 with h3|h3
  ·exact hU b (by omega) h3
  ·omega
 show Code.wpIn (FR none) 0 P _ _ { (a1.put (some ri.d) fv)with defers:=_::a1.defers } w1
 rw[<-ha2];refine wpIn_mono (l2.go κ1 F1 _ a2 w1 hrel1 (by rw[p3];exact hU1) (fun b hb=>by cases hb)) ?_
 rintro e a3 w2 ⟨rfl,κ2,F2,r2,k2,Ds,dm1,dm2,dm3⟩;rw[p3]at r2;rw[p2]at k2;have hB1:w0.heap.size<=w1.heap.size:=r1.below.size
 have r3:=sF Ds w2 r2 dm2 (fun D hD=>⟨by have:=(dm3 D hD).1;omega,(dm3 D hD).2⟩)
 have k3:=pj Ds w2 k2 (fun D hD=>(dm3 D hD).1)
 obtain⟨w3,hw3⟩:∃w3,w3=iU Ds w2:=⟨_,rfl⟩
 rw[<-hw3]at r3 k3;have key:∀u,(u=.returning/\v=.nilIface\/u=.panicking (fW v))->LeavesInM (FR none) 0 P fn a3.tmps (xS w0 env κ F U σ.blk σ.N w { σ4 with rf:=σ2.rf } rs) a3.defers u w2:=by
  intro u hu;have hrun:u≠.run:=by rcases hu with⟨rfl,_⟩|rfl<;>simp
  rw[dm1,ha2];refine Ag hrun Ds w2 dm2 (fun D hD=>(dm3 D hD).2.1) ?_
  rw[<-hw3];have hgn:¬gfn.name = "runtime.NumGoroutine" := hfit.name ri.g gfn hg
  have hgb0:¬gfn.body=none:=by rw[hgb];intro hh;cases hh
  refine⟨hrun,.inr ⟨fun h=>(by cases h),.func ri.g,ri.cap.map a1.eval,ri.g,ri.cap.map a1.eval,rfl,?_,fun _ _=>trivial,?_⟩⟩
  ·simp only[invoke,callFunc]
   simp[hg,hgn,hgb0]
  obtain⟨t1,t2⟩:=jT (bM xs) hcaps;rw[fK]at t1 t2;obtain⟨fr1,fr2⟩:=rE (env:=env) (κ:=κ2) (F:=F2) (w:=w3) (σ:=σ2) (vs:=xs) (us:=ri.cap.map a1.eval) (n:=gfn.ntmps) (by simpa using t1) (fun i x u' hx hu'=>(t2 i x u' hx (by rw[Array.getElem?_toList];exact hu')).keep (fun b hb=>k3.kap b (hxn x (List.mem_of_getElem? hx) b hb)) k3.mono (fun j hj=>k3.frame j (r1.F j hj) (fun b hl' e=>r1.nF b j hl' e hj)))
  have hfr:=r3.callee (σ:=σ2) (fun _ _=>rfl) (a':={ tmps:=ri.cap.map a1.eval++Array.replicate (gfn.ntmps-(ri.cap.map a1.eval).size) undef,defers:=[] }) fr1 fr2 (mb (fun x hx b hb=>.inl (hxn x hx b hb)))
  have hU2:∀b,σ2.N<=b->¬((U b\/(σ.N<=b/\b<σ1.N))\/(σ1.N<=b/\b<σ2.N)):=fun b h1 h3=>by
   rcases h3 with h3|h3
   ·exact hU1 b (by omega) h3
   ·omega
  refine(Gx hg hgb hrg hres0 hu hr1 hr2 hex4 l4 hfr hU2 r3.below.size).mono ?_
  rintro e u' w4 ⟨val,rfl,hset,κ4,F4,a4,r4,k4⟩;show LeavesInM (FR none) 0 P fn a3.tmps _ a1.defers (settle u') w4
  rw[hset];obtain⟨Es,g1,g2,g3⟩:=(m1.next r1 k3).next r3 k4;rw[g1,List.append_nil];refine qC hres (hr.below.size) Es w4 (a':=a3) ?_ ((k1.trans k3 (fun b hb=>.inl hb)).trans k4 (fun b hb=>.inl (.inl hb))) g2 g3
  have hback:Rel w0 env κ4 F4 (fun b=>((U b\/(σ.N<=b/\b<σ1.N))\/(σ1.N<=b/\b<σ2.N))\/(σ2.N<=b/\b<σ4.N)) σ2.tmp σ4.blk σ2.L a3 w4:=
   ⟨fun t=>(r3.tmps t).keep (fun b hb=>k4.kap b (r3.tnames t b hb)) k4.mono (fun j hj=>k4.frame j (r3.F j hj) (fun b hl' e=>r3.nF b j hl' e hj)),r3.size,r4.blks,r4.inj,r4.nF,r4.F,fun t b hb=>.inl (r3.tnames t b hb),r4.bnames,r4.below⟩
  refine hback.monoU (fun b hb=>?_)
  show U b\/(σ.N<=b/\b<σ4.N)
  rcases hb with((hb|hb)|hb)|hb
  ·exact .inl hb
  ·exact .inr ⟨hb.1,by omega⟩
  ·exact .inr ⟨by omega,by omega⟩
  ·exact .inr ⟨by omega,hb.2⟩
 rcases h2 with⟨hex,hv⟩|rfl
 ·cases ex2 with
  |normal=>exact key .returning (.inl ⟨rfl,hv⟩)
  |ret=>exact key .returning (.inl ⟨rfl,hv⟩)
  |exit id=>cases hex
  |panic v=>cases hex
 ·exact key _ (.inr rfl)
theorem NH{cfg:Cfg}(hfit:PFit P){g:Bool}{fn:Func}{f:Nat}{ri:RecI}{σ:SS}{Post:R->Prop}{K:Nat->List AV->Prop}(hn:env.length=σ.n)(hk:KnownOK env σ.n σ.known)(h:(JU P cfg g fn f ri σ).den P Post env K):
  ∃gfn gc rg σ1 σ2 σ4 ex2 v ex4 rs K',P.funcs[ri.g]?=some gfn/\gfn.body=some gc/\EL gc=some rg/\gfn.results.size=0/\ri.d<SS.L σ1/\Leads P w0 none ri.c0 (env++rs) σ .normal σ1 ∧
   Leads P w0 none ri.rest (env++rs) (σ1.put (some ri.d) (.fn ri.g .nil (.of (ri.cap.toList.map σ1.ev)))) ex2 σ2/\((ex2.out=true/\v=.nilIface)\/ex2=.panic v)/\rg.r<(σ2.frame (ri.cap.toList.map σ1.ev) gfn.ntmps).L/\rg.q<(σ2.frame (ri.cap.toList.map σ1.ev) gfn.ntmps).L/\Ex.out ex4=true ∧
   Leads P w0 none rg.rest (env++rs) (((σ2.frame (ri.cap.toList.map σ1.ev) gfn.ntmps).put (some rg.r) (cm v)).put (some rg.q) (cm v)) ex4 σ4/\(ky P g fn { σ4 with rf:=σ2.rf }).den P Post (env++rs) K':=by
 unfold JU at h;obtain⟨ex1,σ1,rs1,K1,h1,_,_,hk1,hn1,l1⟩:=oI (w0:=w0) (cfg:=cfg) hfit 12 Post K none f ri.c0 _ σ env hn hk h
 unfold Iv at h1;split at h1
 rotate_left
 ·exact h1.elim
 split at h1
 rotate_left
 ·exact h1.elim
 rename_i hd
 rw[iZ iA]at h1;obtain⟨xs,hxs⟩:∃xs,xs=ri.cap.toList.map σ1.ev:=⟨_,rfl⟩
 rw[<-hxs]at h1;obtain⟨p1,p2,p3,p4,p5,p6,_⟩:=ej σ1 (dst:=some ri.d) (v:=.fn ri.g .nil (.of xs)) (fun d hd'=>by cases hd';exact hd)
 obtain⟨ex2,σ2,rs2,K2,h2,_,_,hk2,hn2,l2⟩:=oI (w0:=w0) (cfg:=cfg) hfit 12 Post K1 none f ri.rest _ _ (env++rs1) (by rw[p4];exact hn1) (by rw[p4,p5];exact hk1) h1
 obtain⟨v,hv,h3⟩:∃v,((ex2.out=true/\v=.nilIface)\/ex2=.panic v)/\(ux P cfg g fn ri xs σ2 v).den P Post (env++rs1++rs2) K2:=by
  cases ex2 with
  |exit id=>exact h2.elim
  |panic v=>exact⟨v,.inr rfl,h2⟩
  |normal=>exact⟨_,.inl ⟨rfl,rfl⟩,h2⟩
  |ret=>exact⟨_,.inl ⟨rfl,rfl⟩,h2⟩
 unfold ux at h3;split at h3
 ·exact h3.elim
 rename_i gfn hg
 split at h3
 ·exact h3.elim
 rename_i gc hgb
 split at h3
 ·exact h3.elim
 rename_i rg hrg
 split at h3
 rotate_left
 ·exact h3.elim
 rename_i hh
 obtain⟨hres,hr1,hr2⟩:=hh;have q1:=ej (σ2.frame xs gfn.ntmps) (dst:=some rg.r) (v:=cm v) (fun d hd'=>by cases hd';exact hr1)
 have q2:=ej ((σ2.frame xs gfn.ntmps).put (some rg.r) (cm v)) (dst:=some rg.q) (v:=cm v) (fun d hd'=>by cases hd';rw[q1.2.2.2.2.2.1];exact hr2)
 have en:(((σ2.frame xs gfn.ntmps).put (some rg.r) (cm v)).put (some rg.q) (cm v)).n=σ2.n:=q2.2.2.2.1.trans q1.2.2.2.1
 have ek:(((σ2.frame xs gfn.ntmps).put (some rg.r) (cm v)).put (some rg.q) (cm v)).known=σ2.known:=q2.2.2.2.2.1.trans q1.2.2.2.2.1
 obtain⟨ex4,σ4,rs4,K4,h4,_,_,_,_,l4⟩:=oI (w0:=w0) (cfg:=cfg) hfit 12 Post K2 none ri.g rg.rest _ _ (env++rs1++rs2) (by rw[en];exact hn2) (by rw[en,ek];exact hk2) h3
 have hE:env++(rs1++(rs2++rs4))=env++rs1++rs2++rs4:=by simp
 have h5:ex4.out=true/\(ky P g fn { σ4 with rf:=σ2.rf }).den P Post (env++rs1++rs2++rs4) K4:=by
  cases ex4 with
  |exit id=>exact h4.elim
  |panic v=>exact h4.elim
  |normal=>exact⟨rfl,h4⟩
  |ret=>exact⟨rfl,h4⟩
 refine⟨gfn,gc,rg,σ1,σ2,σ4,ex2,v,ex4,rs1++(rs2++rs4),K4,hg,hgb,hrg,hres,hd,?_,?_,hv,hxs▸hr1,hxs▸hr2,h5.1,?_,by rw[hE];exact h5.2⟩
 ·rw[hE];have:=l1 (rs2++rs4);simpa using this
 ·rw[hE,<-hxs];have:=l2 rs4;simpa using this
 ·rw[hE,<-hxs];have:=l4 [];simpa using this
theorem DY{l:List Oper}{r:Nat}(h:AK l=some r):∃o,l=[o]/\o.dst=some r/\o.op=.assign (.const (.slice none 0 0))/\o.guard=none:=by
 unfold AK at h;split at h
 ·cases h;exact⟨_,rfl,rfl,rfl,rfl⟩
 ·cases h
theorem Kn{l:List Oper}{p q t:Nat}(h:DV l=some (p,q,t)):∃o o' ty,l=[o,o']/\o.dst=some p/\o.op=.move (.tmp 0)/\o.guard=none/\o'.dst=some q/\o'.op=.binOp .eql t (.tmp p) (.const (.slice none 0 0)) ty/\o'.guard=none:=by
 unfold DV at h;split at h
 ·split at h
  ·rename_i e
   cases h
   exact⟨_,_,_,rfl,rfl,rfl,rfl,rfl,by rw[e],rfl⟩
  ·cases h
 ·cases h
theorem sx{c:Code}{ci:CloneI}(h:sS c=some ci):c=.seq (.region ci.i0 ci.ops0 false) (.seq (.seq (.region ci.i1 ci.ops1 false) (.cond (.tmp ci.q) (.seq (.region ci.i2 ci.ops2 false) .ret) .skip)) ci.rest)/\AK ci.ops0.toList=some ci.r/\DV ci.ops1.toList=some (ci.p,ci.q,ci.t)/\AK ci.ops2.toList=some ci.r/\ci.r≠0/\ci.p≠0/\ci.q≠0/\ci.r≠ci.p/\ci.r≠ci.q:=by
 unfold sS at h;split at h
 ·split at h
  ·rename_i h1 h2 h3
   split at h
   ·rename_i hh
    obtain⟨e1,e2,n1,n2,n3,n4,n5⟩:=hh;cases h
    refine⟨by rw[e2],h1,?_,?_,n1,n2,?_,n4,?_⟩
    ·rw[h2,e2]
    ·rw[h3,e1]
    ·exact e2▸n3
    ·exact e2▸n5
   ·cases h
  ·cases h
 ·cases h
theorem NT(d:Nat){t e:Nat}(hu:P.underlying t=some (.slice e))(A:Option Addr)(n c:Nat):(Op.equalIn (d+1) t (.slice A n c) (.slice none 0 0)).run P w=.ok A.isNone w:=by
 cases A<;>simp only[Op.equalIn,Sem.run_bind,run_underlying hu,Result.andThen_ok,Sem.run_pure,Option.isNone]
theorem vn{d t:Nat}{v:Value}(h:d<a.tmps.size):(a.put (some d) v).eval (.tmp t)=if t=d then v else a.eval (.tmp t):=by
 simp only[Act.eval,Act.put];exact pu h
theorem ln{d:Option Nat}{v:Value}:(a.put d v).tmps.size=a.tmps.size:=by cases d<;>simp[Act.put]
theorem DT{c:Code}{ci:CloneI}(hc:sS c=some ci){e:Nat}(ht:P.underlying ci.t=some (.slice e)){A:Option Addr}{n cap:Nat}(ha:a.eval (.tmp 0)=.slice A n cap)(hr:ci.r<a.tmps.size)(hp:ci.p<a.tmps.size)(hq:ci.q<a.tmps.size){Q:Exit->Act->World->Prop}
  (h:((if A.isNone then Code.seq (.region ci.i2 ci.ops2 false) .ret else .skip):Code).wpIn (FR none) 0 P (Exit.then (ci.rest.wpIn (FR none) 0 P Q) Q) (((a.put (some ci.r) (.slice none 0 0)).put (some ci.p) (.slice A n cap)).put (some ci.q) (.bool A.isNone)) w):c.wpIn (FR none) 0 P Q a w:=by
 obtain⟨hcc,s0,s1,_,n1,n2,n3,n4,n5⟩:=sx hc;obtain⟨o,l0,d0,op0,g0⟩:=DY s0;obtain⟨o1,o2,ty,l1,d1,op1,g1,d2,op2,g2⟩:=Kn s1;have z0:ci.ops0.size=1:=by rw[<-Array.length_toList,l0];rfl
 have z1:ci.ops1.size=2:=by rw[<-Array.length_toList,l1];rfl
 have e0:ci.ops0[0]?=some o:=by rw[<-Array.getElem?_toList,l0];rfl
 have e1:ci.ops1[0]?=some o1:=by rw[<-Array.getElem?_toList,l1];rfl
 have e2:ci.ops1[1]?=some o2:=by rw[<-Array.getElem?_toList,l1];rfl
 rw[hcc];refine wpIn_seq (wpIn_region ?_)
 rw[z0];show wpOpsIn _ _ _ _ _ [0] _ _
 refine js e0 g0 (fun c hc'=>by rw[op0]at hc';cases hc') (u:=.slice none 0 0) (by simp only[execOp,op0,Sem.run_pure];rfl) ?_
 rw[d0];show Code.wpIn (FR none) 0 P _ _ _ w
 refine wpIn_seq (wpIn_seq (wpIn_region ?_))
 rw[z1];show wpOpsIn _ _ _ _ _ [0,1] _ _
 have v1:(a.put (some ci.r) (.slice none 0 0)).eval (.tmp 0)=.slice A n cap:=by rw[vn hr,if_neg (fun h=>n1 h.symm),ha]
 refine js e1 g1 (fun c hc'=>by rw[op1]at hc';cases hc') (u:=.slice A n cap) (by simp only[execOp,op1,v1,Sem.run_pure]) ?_
 rw[d1];have v2:((a.put (some ci.r) (.slice none 0 0)).put (some ci.p) (.slice A n cap)).eval (.tmp ci.p)=.slice A n cap:=by rw[vn (by rw[ln];exact hp),if_pos rfl]
 have v3:((a.put (some ci.r) (.slice none 0 0)).put (some ci.p) (.slice A n cap)).eval (.const (.slice none 0 0))=.slice none 0 0:=rfl
 have heq:(Op.equal ci.t (.slice A n cap) (.slice none 0 0)).run P w=.ok A.isNone w:=NT 9999 ht A n cap
 refine js e2 g2 (fun c hc'=>by rw[op2]at hc';cases hc') (u:=.bool A.isNone) (by
  simp only[execOp,op2,v2,v3,Sem.run_bind];have hg:(eqGuard .eql ci.t (.tmp ci.p) (.const (.slice none 0 0)) (.slice A n cap) (.slice none 0 0)).run P w=.ok () w:=gW (.inl (by simp)) (by simp)
  rw[hg,Result.andThen_ok];simp only[binOp];simp[heq]) ?_
 rw[d2];show Code.wpIn (FR none) 0 P _ _ _ w
 exact wpIn_cond (t:=A.isNone) (by rw[vn (by rw[ln,ln];exact hq),if_pos rfl]) h
theorem Rel.putAny(h:Rel w0 env κ F U tmp blk L a w){d:Nat}(hd:d<L)(ht:tmp d=.any)(u:Value):Rel w0 env κ F U tmp blk L (a.put (some d) u) w:=by
 have:=h.put (dst:=some d) (v:=.any) (u:=u) (fun d' hd'=>by cases hd';exact hd) trivial (fun b hb=>by cases hb)
 have e:eN tmp (some d) .any=tmp:=by
  funext i
  simp only[eN,upd];split
  ·rename_i hi;rw[hi,ht]
  ·rfl
 rw[e]at this;exact this
theorem Cd{f:Nat}{fn:Func}{c:Code}{ci:CloneI}(hfn:P.funcs[f]?=some fn)(hb:fn.body=some c)(hc:sS c=some ci){e:Nat}(ht:P.underlying ci.t=some (.slice e)){σ σ':SS}{ex:Ex}(hex:ex.out=true)(hl:Leads P w0 none ci.rest env σ ex σ')
  {vs:Array Value} (hr:Rel w0 env κ F U σ.tmp σ.blk σ.L { tmps:=vs++Array.replicate (fn.ntmps-vs.size) undef,defers:=[] } w) (hU:∀b,σ.N<=b->¬U b) {A:Addr} {n cap:Nat} (ha:(vs++Array.replicate (fn.ntmps-vs.size) undef).getD 0 undef=.slice (some A) n cap)
  (hr1:ci.r<σ.L) (hp1:ci.p<σ.L) (hq1:ci.q<σ.L) (hrt:σ.tmp ci.r=.any) (hpt:σ.tmp ci.p=.any) (hqt:σ.tmp ci.q=.any) {rs:List SV} (hres:bJ P σ' fn.results.toList=some rs):
  Calls P f vs w (xS w0 env κ F U σ.blk σ.N w σ' rs):=by
 refine mP (ro:=none) (n:=0) (callsIn_of_wp_marks hfn hb trivial ?_)
 have hsz:=hr.size;refine DT (a:={ tmps:=vs++Array.replicate (fn.ntmps-vs.size) undef,defers:=[] }) hc ht (A:=some A) (n:=n) (cap:=cap) ha (by rw[hsz];exact hr1) (by rw[hsz];exact hp1) (by rw[hsz];exact hq1) ?_
 simp only[Option.isNone,Bool.false_eq_true,if_false];refine wpIn_skip ?_
 show Code.wpIn (FR none) 0 P _ _ _ w
 refine wpIn_mono (hl.go κ F U _ w (((hr.putAny hr1 hrt _).putAny hp1 hpt _).putAny hq1 hqt _) hU (fun b hb=>by cases hb)) ?_
 rintro e' a' w' ⟨rfl,κ',F',r,k,Ds,m1,m2,m3⟩;have key:LeavesInM (FR none) 0 P fn a'.tmps (xS w0 env κ F U σ.blk σ.N w σ' rs) a'.defers .returning w':=by
  rw[m1];show LeavesInM (FR none) 0 P fn a'.tmps _ (Ds.map gD++[]) .returning w'
  rw[List.append_nil];exact qC hres hr.below.size Ds w' r k m2 m3
 cases ex with
 |normal=>exact key
 |ret=>exact key
 |exit id=>cases hex
 |panic v=>cases hex
theorem De{f:Nat}{fn:Func}{c:Code}{ci:CloneI}(hfn:P.funcs[f]?=some fn)(hb:fn.body=some c)(hc:sS c=some ci){e:Nat}(ht:P.underlying ci.t=some (.slice e))(hres:fn.results.toList=[.tmp ci.r])
  {vs:Array Value} {n cap:Nat} (ha:(vs++Array.replicate (fn.ntmps-vs.size) undef).getD 0 undef=.slice none n cap) {L:Nat} (hsz:(vs++Array.replicate (fn.ntmps-vs.size) undef).size=L) (hr1:ci.r<L) (hp1:ci.p<L) (hq1:ci.q<L):
  Calls P f vs w (fun e w'=>e=.returned (.slice none 0 0)/\w'=w):=by
 refine mP (ro:=none) (n:=0) (callsIn_of_wp_marks hfn hb trivial ?_)
 refine DT (a:={ tmps:=vs++Array.replicate (fn.ntmps-vs.size) undef,defers:=[] }) hc ht (A:=none) (n:=n) (cap:=cap) ha (by show _<Array.size _;rw[hsz];exact hr1) (by show _<Array.size _;rw[hsz];exact hp1) (by show _<Array.size _;rw[hsz];exact hq1) ?_
 simp only[Option.isNone,if_true];obtain⟨_,_,_,s2,_⟩:=sx hc;obtain⟨o,l0,d0,op0,g0⟩:=DY s2;have z0:ci.ops2.size=1:=by rw[<-Array.length_toList,l0];rfl
 have e0:ci.ops2[0]?=some o:=by rw[<-Array.getElem?_toList,l0];rfl
 refine wpIn_seq (wpIn_region ?_)
 rw[z0];show wpOpsIn _ _ _ _ _ [0] _ _
 refine js e0 g0 (fun c hc'=>by rw[op0]at hc';cases hc') (u:=.slice none 0 0) (by simp only[execOp,op0,Sem.run_pure];rfl) ?_
 rw[d0];show Code.wpIn (FR none) 0 P .ret _ _ w
 refine wpIn_ret ?_
 refine⟨pack [.slice none 0 0],sn (us:=[.slice none 0 0]) (by rw[<-Array.length_toList,hres];rfl) (fun i x u hx hu=>?_),rfl,rfl⟩
 rw[hres]at hx;cases i with
 | zero=>
  simp at hx hu
  subst hx;subst hu;have:∀b:Act,ci.r<b.tmps.size->(b.put (some ci.r) (Value.slice none 0 0)).tmps.getD ci.r undef=.slice none 0 0:=fun b hb=>by
   have:=vn (a:=b) (d:=ci.r) (t:=ci.r) (v:=.slice none 0 0) hb
   rw[if_pos rfl]at this;exact this
  dsimp only;rw[this _ (by rw[ln,ln,ln];show _<Array.size _;rw[hsz];exact hr1)]
  rfl
 |succ i=>simp at hx
theorem Kv(h:(den env (.v 0)).l=[]):∀e:E,eX e=true->(den env e).l=[]:=by
 intro e;induction e with
 |v i=>
  intro hn;cases i with
  |zero=>exact h
  |succ i=>simp[eX]at hn
 |lnil=>intro _;rfl
 |app a b ih1 ih2=>
  intro hn;simp only[eX,Bool.and_eq_true]at hn;simp[den,ih1 hn.1,ih2 hn.2]
 |typed t a ih=>intro hn;simp only[eX]at hn;simp[den,ih hn]
 |take a b ih _=>intro hn;simp only[eX]at hn;simp[den,ih hn]
 |drop a b ih _=>intro hn;simp only[eX]at hn;simp[den,ih hn]
 |_=>intro hn;simp[eX]at hn
theorem I2{t:T}{Post:R->Prop}{K:Nat->List AV->Prop}(h:(po t).den P Post env K):∃a ty e,t=.ret (.row a ty e)/\given a=false/\eX e=true/\0<ty.len:=by
 unfold po at h;split at h
 ·split at h
  ·rename_i hh
   exact⟨_,_,_,rfl,hh.1,hh.2.1,hh.2.2⟩
  ·exact h.elim
 ·exact h.elim
variable {env:List AV} {κ κ':Nat->Value} {F F':Nat->Prop} {w w' w0:World} {U:Nat->Prop} {tmp:Nat->SV} {blk:Nat->Option SB} {L:Nat} {a:Act} {P:Program} {Post:R->Prop} {K:Nat->List AV->Prop}
theorem BO:∀(l:List Nat),tD l=true->l.Nodup
 |[],_=>List.nodup_nil
 |x::l,h=>by
  simp only[tD,Bool.and_eq_true,Bool.not_eq_true',List.contains_eq_mem,decide_eq_false_iff_not]at h;exact List.nodup_cons.2 ⟨h.1,BO l h.2⟩
theorem Ed{σ:SS}:∀(x:SV) (s:RS) (re:RE),dw σ x s=some re->x.proper=true->(re.den env).proper=true:=by
 intro x;induction x with
 |nil=>intro s re h _;cases s<;>simp only[dw]at h<;>cases h;rfl
 | cons x y _ ih2=>
  intro s re h hp;cases s<;>simp only[dw]at h<;>try (cases h;done)
  split at h
  ·rename_i u v h1 h2
   cases h
   show(v.den env).proper=true
   exact ih2 _ _ h2 hp
  ·cases h
 |_=>intro s re h hp;cases hp
theorem Lu{σ:SS}(h:Rel w0 env κ F U σ.tmp σ.blk L a w):∀(x:SV) (s:RS) (re:RE) (u:Value),dw σ x s=some re->SVden env κ F w x u →
  gY F w0.heap.size w (re.den env) u (x.names.flatMap fun b=>(ai (κ b)).toList)/\∀b∈x.names,aB (σ.blk b)=true:=by
 intro x;induction x with
 |vi e=>intro s re u hr hd;cases s<;>simp only[dw]at hr<;>cases hr;exact⟨⟨hd.1,rfl⟩,fun b hb=>by cases hb⟩
 |vb e=>intro s re u hr hd;cases s<;>simp only[dw]at hr<;>cases hr;exact⟨⟨hd.1,rfl⟩,fun b hb=>by cases hb⟩
 |vr e=>intro s re u hr hd;cases s<;>simp only[dw]at hr<;>cases hr;exact⟨⟨hd.1,by rw[<-hd.1];exact hd.2.1,rfl⟩,fun b hb=>by cases hb⟩
 | nilsl=>
  intro s re u hr hd;cases s<;>simp only[dw]at hr<;>try (cases hr;done)
  split at hr
  ·rename_i hp
   cases hr
   rw[show u=_ from hd]
   refine⟨?_,fun b hb=>by cases hb⟩
   simp only[RE.den];unfold gY;split
   ·exact⟨uc _,rfl⟩
   ·exact⟨[],World.ownsRow_nil _ _ _ _,hp,⟨fun i r hr=>by simp[den]at hr,fun i r k x hr=>by simp[den]at hr⟩,rfl⟩
  ·cases hr
 | vs t e=>
  intro s re u hr hd;cases s<;>simp only[dw]at hr<;>try (cases hr;done)
  split at hr
  ·rename_i hh
   obtain⟨hg,rfl⟩:=hh;cases hr
   refine⟨?_,fun b hb=>by cases hb⟩
   simp only[RE.den];unfold gY;rw[if_pos hg];exact⟨hd,rfl⟩
  ·cases hr
 | row b=>
  intro s re u hr hd;cases s<;>simp only[dw]at hr<;>try (cases hr;done)
  split at hr
  ·rename_i a' t' e hb
   split at hr
   ·rename_i hh
    obtain⟨rfl,rfl,hg⟩:=hh;cases hr
    obtain⟨us,h1,h2,h3⟩:=h.blks b _ hb;rw[hd.1];refine⟨?_,fun c hc=>?_⟩
    ·simp only[RE.den]
     unfold gY;rw[if_neg (by rw[hg];simp)]
     exact⟨us,h1,h2,h3,by simp[SV.names]⟩
    simp[SV.names]at hc;subst hc;rw[hb];rfl
   ·cases hr
  ·cases hr
 |nil=>intro s re u hr hd;cases s<;>simp only[dw]at hr<;>cases hr;exact⟨⟨hd,rfl⟩,fun b hb=>by cases hb⟩
 | cons x y ih1 ih2=>
  intro s re u hr hd;cases s<;>simp only[dw]at hr<;>try (cases hr;done)
  split at hr
  ·rename_i u1 u2 h1 h2
   cases hr
   obtain⟨p,q,rfl,d1,d2⟩:=hd;obtain⟨r1,n1⟩:=ih1 _ _ _ h1 d1;obtain⟨r2,n2⟩:=ih2 _ _ _ h2 d2;refine⟨⟨p,q,_,_,rfl,r1,r2,by simp[SV.names,List.flatMap_append]⟩,fun b hb=>?_⟩
   simp only[SV.names,List.mem_append]at hb;rcases hb with hb|hb
   ·exact n1 b hb
   ·exact n2 b hb
  ·cases hr
 | agg x ih=>
  intro s re u hr hd;cases s<;>simp only[dw]at hr<;>try (cases hr;done)
  split at hr
  ·rename_i hp
   obtain⟨re',h1,rfl⟩:=Option.map_eq_some_iff.1 hr;obtain⟨cs,rfl,_,d⟩:=hd;obtain⟨r1,n1⟩:=ih _ _ _ h1 d;exact⟨⟨cs,rfl,Ed _ _ _ h1 hp,r1⟩,n1⟩
  ·cases hr
 | tup x ih=>
  intro s re u hr hd;cases s<;>simp only[dw]at hr<;>try (cases hr;done)
  split at hr
  ·rename_i hp
   obtain⟨re',h1,rfl⟩:=Option.map_eq_some_iff.1 hr;obtain⟨cs,rfl,_,d⟩:=hd;obtain⟨r1,n1⟩:=ih _ _ _ h1 d;exact⟨⟨cs,rfl,Ed _ _ _ h1 hp,r1⟩,n1⟩
  ·cases hr
 |_=>intro s re u hr hd;cases s<;>simp only[dw]at hr<;>cases hr
theorem Ep{f:Nat->List Nat}:∀ns:List Nat,ns.Nodup->(∀b,(f b).Nodup)->(∀b c k,b∈ns->c∈ns->k∈f b->k∈f c->b=c)->(ns.flatMap f).Nodup
 |[],_,_,_=>List.nodup_nil
 |n::ns,h,hf,hi=>by
  rw[List.nodup_cons]at h;rw[List.flatMap_cons,List.nodup_append];refine⟨hf n,Ep ns h.2 hf (fun b c k hb hc=>hi b c k (List.mem_cons_of_mem _ hb) (List.mem_cons_of_mem _ hc)),fun x hx y hy e=>?_⟩
  subst e;obtain⟨c,hc,hx2⟩:=List.mem_flatMap.1 hy;have:=hi n c x List.mem_cons_self (List.mem_cons_of_mem _ hc) hx hx2
  exact h.1 (this▸hc)
def AV.cells:AV->List AV
 |.agg l=>l
 |x=>[x]
def LB(P:Program)(t:Nat)(x:AV):Bool:=
 match flat P 12 t with
 |none=>false
 |some ts=>if b9 P t then(match x with|.agg l=>decide (l.map AV.ty=ts)|_=>false)else decide ([x.ty]=ts)
def zU(P:Program):List Nat->List AV->Bool
 |[],[]=>true
 |t::ts,x::xs=>LB P t x&&zU P ts xs
 |_,_=>false
theorem M6{t n m:Nat}{s:SV}{x:AV}{u:Value}(hm:Ls P t n=some (s,m))(ho:LB P t x=true)(hd:Den F w u x)(henv:∀(j:Nat) y,x.cells[j]?=some y->env[n+j]?=some y):
  SVden env κ F w s u/\s.names=[]/\m=n+x.cells.length:=by
 unfold Ls at hm;unfold LB at ho;split at hm
 ·cases hm
 rename_i ts hts
 rw[hts]at ho;dsimp only at hm ho
 have hv:∀(j:Nat) y,x.cells[j]?=some y->den env (.v (n+j))=y:=fun j y hy=>by simp only[den];simp[List.getD,henv j y hy]
 by_cases hag:b9 P t=true
 ·simp only[hag,if_true]at hm ho
  split at hm
  ·rename_i hall
   split at ho
   ·rename_i l
    have ho:=of_decide_eq_true ho;have hlen:ts.length=l.length:=by rw[<-ho];simp
    cases hm
    obtain⟨cs,rfl,hl,hcs⟩:=hd.agg_view;have hxs:∀(i:Nat) y,(List.map (fun x=>x.getD SV.any) (ts.zipIdx.map fun(x:Ty×Nat)=>ep (.v (n+x.2)) x.1))[i]?=some y->∃z,l[i]?=some z/\ep (.v (n+i)) z.ty=some y:=by
     intro i y hy;simp only[List.getElem?_map,List.getElem?_zipIdx,Option.map_map]at hy;obtain⟨s,hs,rfl⟩:=Option.map_eq_some_iff.1 hy;have hs':=hs;rw[<-ho,List.getElem?_map]at hs';obtain⟨z,hz,rfl⟩:=Option.map_eq_some_iff.1 hs';refine⟨z,hz,?_⟩
     have:=List.all_eq_true.1 hall (ep (.v (n+i)) z.ty) (List.mem_map.2 ⟨(z.ty,i),List.mem_of_getElem? (by rw[List.getElem?_zipIdx,hs];simp),rfl⟩)
     obtain⟨v,hv⟩:=Option.isSome_iff_exists.1 this;simp only[Function.comp,Nat.zero_add,hv,Option.getD_some]
    refine⟨⟨_,rfl,bM _,gF (by simp;omega) (fun i y v hy hu=>?_)⟩,?_,by simp[AV.cells,hlen]⟩
    ·obtain⟨z,hz,hle⟩:=hxs i y hy
     have:=hv i z (by simpa[AV.cells]using hz)
     exact oL hle (by rw[this]) (by rw[this];exact hcs i v z hu hz)
    ·refine List.eq_nil_iff_forall_not_mem.2 fun b hb=>?_
     obtain⟨y,hy,hby⟩:=(gk _ b).1 hb;obtain⟨i,hi⟩:=List.getElem?_of_mem hy;obtain⟨z,hz,hle⟩:=hxs i y hi;rw[oh hle]at hby;cases hby
   ·cases ho
  ·cases hm
 ·simp only[hag]at hm ho
  have ho:=of_decide_eq_true ho;subst ho;cases hle:ep (.v n) x.ty with
  |none=>simp[hle]at hm
  |some v=>
   simp[hle]at hm
   obtain⟨rfl,rfl⟩:=hm;have hc:x.cells=[x]:=by cases x<;>first|rfl|cases hle
   have:=hv 0 x (by rw[hc];rfl)
   rw[Nat.add_zero]at this;exact⟨oL hle (by rw[this]) (by rw[this];exact hd),oh hle,by rw[hc];rfl⟩
theorem oo:∀(ts:List Nat) (n k:Nat) (xs:List SV) (args:List AV) (us:List Value),zO P ts n=some (xs,k)->zU P ts args=true->us.length=args.length->(∀(i:Nat) u x,us[i]?=some u->args[i]?=some x->Den F w u x) →
  (∀(j:Nat) y,(args.flatMap AV.cells)[j]?=some y->env[n+j]?=some y)->xs.length=us.length/\k=n+(args.flatMap AV.cells).length/\∀(i:Nat) s u,xs[i]?=some s->us[i]?=some u->SVden env κ F w s u/\s.names=[]
 | [],n,k,xs,args,us,hm,ho,hl,_,_=>by
  cases args with
  |nil=>
   simp only[zO]at hm;cases hm
   exact⟨hl.symm,rfl,fun i s u h=>by simp at h⟩
  |cons=>cases ho
 | t :: ts,n,k,xs,args,us,hm,ho,hl,hd,henv=>by
  cases args with
  |nil=>cases ho
  | cons x args=>
   cases us with
   |nil=>simp at hl
   | cons u us=>
    simp only[zU,Bool.and_eq_true]at ho;simp only[zO]at hm;split at hm
    ·rename_i s m h1
     split at hm
     ·rename_i l k' h2
      cases hm
      rw[List.flatMap_cons]at henv;obtain⟨a1,a2,a3⟩:=M6 (κ:=κ) h1 ho.1 (hd 0 u x rfl rfl) (fun j y hy=>henv j y (by rw[List.getElem?_append_left (List.getElem?_eq_some_iff.1 hy).1];exact hy))
      obtain⟨b1,b2,b3⟩:=oo ts m k l args us h2 ho.2 (by simpa using hl) (fun i u x h1 h2=>hd (i+1) u x (by simpa using h1) (by simpa using h2)) (fun j y hy=>by
       have:=henv (x.cells.length+j) y (by rw[List.getElem?_append_right (by omega)];rw[<-hy];congr 1;omega)
       rw[<-this,a3];congr 1;omega)
      refine⟨by simp[b1],by rw[b2,a3];simp;omega,fun i s' u' h3 h4=>?_⟩
      cases i with
      |zero=>simp at h3 h4;subst h3;subst h4;exact⟨a1,a2⟩
      |succ i=>exact b3 i s' u' (by simpa using h3) (by simpa using h4)
     ·cases hm
    ·cases hm
theorem PQ{g:Bool}{fn:Func}{σ:SS}{r:R}(h:(ky P g fn σ).den P (·=r) env K):∃sh rv σ' v re,bJ P σ fn.results.toList=some rv/\tD v.names=true/\dw σ' v sh=some re/\re.den env=r ∧
  ((σ'=σ/\v=fi rv)\/(σ'=σ.write (bb σ.blk (rv.flatMap (aP σ.blk)))/\v=nz σ'.blk (fi rv))):=by
 have key:∀(σ':SS) sh v,(AJ σ' sh v).den P (·=r) env K->∃re,tD v.names=true/\dw σ' v sh=some re/\re.den env=r:=by
  intro σ' sh v h;unfold AJ at h;split at h
  rotate_left
  ·exact h.elim
  rename_i hnd
  split at h
  rotate_left
  ·exact h.elim
  rename_i re hre
  exact⟨re,hnd,hre,h⟩
 unfold ky at h;split at h
 rotate_left
 ·exact h.elim
 ·exact h.elim
 rename_i sh rv hsh hrv
 split at h
 ·obtain⟨re,h1,h2,h3⟩:=key _ _ _ h
  exact⟨sh,rv,_,_,re,hrv,h1,h2,h3,.inr ⟨rfl,rfl⟩⟩
 ·obtain⟨re,h1,h2,h3⟩:=key _ _ _ h
  exact⟨sh,rv,_,_,re,hrv,h1,h2,h3,.inl ⟨rfl,rfl⟩⟩
theorem LW{cfg:Cfg}{f:Nat}{args:List AV}{r:R}(hfit:PFit P)(ho:∀fn,P.funcs[f]?=some fn->zU P fn.params.toList args=true)(h:(LR P cfg f).den P (·=r) (args.flatMap AV.cells) K):Con P f args r:=by
 intro S vs w hS hvs;unfold LR at h;split at h
 ·exact h.elim
 rename_i fn hf
 split at h
 rotate_left
 ·exact h.elim
 rename_i c xs n hb hm
 simp only[iZ iA,ow]at h;obtain⟨m1,m2,_⟩:=oo (P:=P) (w:=w) (env:=args.flatMap AV.cells) (κ:=fun _=>undef) (F:=S) _ 0 n xs args vs.toList hm (ho fn hf) (by simpa using hvs.1) (fun i u x h1 h2=>hvs.2 i u x (by simpa using h1) h2) (fun j y hy=>by rw[Nat.zero_add];exact hy)
 have m1':xs.length=vs.size:=by simpa using m1
 obtain⟨σ,hσ⟩:∃σ:SS,σ={ rf:=Ov.of xs fn.ntmps,hp:=⟨[],[],0⟩,n,known:=[],dep:=0 }:=⟨_,rfl⟩
 rw[<-hσ]at h;have hn0:(args.flatMap AV.cells).length=σ.n:=by rw[hσ];simpa using m2.symm
 have hk0:KnownOK (args.flatMap AV.cells) σ.n σ.known:=by rw[hσ];exact fun x hx=>by cases hx
 obtain⟨g,σ',rs,K',hret,hgo⟩|hdone:(∃g σ' rs K',(ky P g fn σ').den P (·=r) (args.flatMap AV.cells++rs) K'/\∀rv,bJ P σ' fn.results.toList=some rv->Rel w (args.flatMap AV.cells++rs) (fun _=>undef) S (fun _=>False) σ.tmp σ.blk σ.L { tmps:=vs++Array.replicate (fn.ntmps-vs.size) undef,defers:=[] } w->Calls P f vs w (xS w (args.flatMap AV.cells++rs) (fun _=>undef) S (fun _=>False) σ.blk σ.N w σ' rv))\/Calls P f vs w (KJ S r w):=by
  split at h
  ·rename_i ri hri
   obtain⟨gfn,gc,rg,σ1,σ2,σ4,ex2,v,ex4,rs,K',y1,y2,y3,y4,y5,y6,y7,y8,y9,y10,y11,y12,y13⟩:=NH (w0:=w) hfit hn0 hk0 h
   exact .inl ⟨_,_,rs,K',y13,fun rv hrv hrel=>JS hfit hf hb hri y1 y2 y3 y4 rfl y5 y6 y7 y8 y9 y10 y11 y12 hrel (fun _ _ h=>h) hrv⟩
  split at h
  ·rename_i ci hci
   unfold Im at h;split at h
   rotate_left
   ·exact h.elim
   rename_i row r' ety hres ht _
   split at h
   rotate_left
   ·exact h.elim
   rename_i hh
   obtain⟨rfl,hr1,hp1,hq1⟩:=hh;obtain⟨ex,σ',rs,K',q1,_,_,_,_,q6⟩:=oI (w0:=w) (cfg:=cfg) hfit 12 (·=r) K none f ci.rest _ σ (args.flatMap AV.cells) hn0 hk0 h
   have hex:ex.out=true/\(po (ky P false fn σ')).den P (·=r) (args.flatMap AV.cells++rs) K':=by
    cases ex with
    |exit id=>exact q1.elim
    |panic v=>exact q1.elim
    |normal=>exact⟨rfl,q1⟩
    |ret=>exact⟨rfl,q1⟩
   obtain⟨hex,hcr⟩:=hex;obtain⟨ra,rt,re,hT,hg,hnp,hlen⟩:=I2 hcr;have hret:(ky P false fn σ').den P (·=r) (args.flatMap AV.cells++rs) K':=by
    rw[hT]at hcr⊢
    unfold po at hcr;dsimp only at hcr
    rw[if_pos ⟨hg,hnp,hlen⟩]at hcr;exact hcr
   have hl:=q6 [];rw[List.append_nil]at hl;obtain⟨_,_,m3⟩:=oo (P:=P) (w:=w) (env:=args.flatMap AV.cells++rs) (κ:=fun _=>undef) (F:=S) _ 0 n _ args vs.toList hm (ho fn hf) (by simpa using hvs.1) (fun i u x h1 h2=>hvs.2 i u x (by simpa using h1) h2) (fun j y hy=>by
    rw[Nat.zero_add,List.getElem?_append_left (List.getElem?_eq_some_iff.1 hy).1];exact hy)
   have hv1:vs.size=1:=by simpa using m1'.symm
   have hden:Den S w vs[0] (.sl row (den (args.flatMap AV.cells++rs) (.v 0)).l):=(m3 0 (.vs row (.v 0)) vs[0] rfl (by simp)).1
   obtain⟨A,cap,hv,_,_,_,hA⟩:=hden.view;have ha:(vs++Array.replicate (fn.ntmps-vs.size) undef).getD 0 undef=.slice A (den (args.flatMap AV.cells++rs) (.v 0)).l.length cap:=by
    rw[nE,<-hv];simp[Array.getD,hv1]
   have htm:∀t,t≠0->σ.tmp t=.any:=fun t ht=>by
    rw[hσ];show(Ov.of [SV.vs row (.v 0)] fn.ntmps).get SV.any t=SV.any
    rw[Ov.get_of];cases t with
    |zero=>exact absurd rfl ht
    |succ t=>rfl
   obtain⟨_,_,_,_,z1,z2,z3,_⟩:=sx hci;cases A with
   | none=>
    refine .inr ((De hf hb hci ht hres ha (L:=σ.L) ?_ hr1 hp1 hq1).mono ?_)
    ·rw[hσ]
     show _=mx _ _
     rw[Iz];simp[hv1];omega
    rintro e w' ⟨rfl,rfl⟩;have hnil:(den (args.flatMap AV.cells++rs) (.v 0)).l=[]:=by
     cases hl0:(den (args.flatMap AV.cells++rs) (.v 0)).l with
     |nil=>rfl
     |cons x l=>
      obtain⟨a,h1,_⟩:=hA 0 x (by rw[hl0];rfl)
      cases h1
    rw[hT]at hret;have hret:R.row ra rt (den (args.flatMap AV.cells++rs) re).l=r:=hret
    refine⟨_,S,[],rfl,?_,List.nodup_nil,fun k hk=>(by cases hk),fun k hk=>⟨.inl hk,hS k hk⟩,Below.refl _ _⟩
    rw[<-hret,Kv hnil re hnp];unfold gY;rw[if_neg (by rw[hg];simp)]
    exact⟨[],World.ownsRow_nil _ _ _ _,hlen,⟨fun i r hr=>by simp at hr,fun i r k x hr=>by simp at hr⟩,rfl⟩
   |some A=>
    exact .inl ⟨false,σ',rs,K',hret,fun rv hrv hrel=>Cd hf hb hci ht hex hl hrel (fun _ _ h=>h) ha hr1 hp1 hq1 (htm _ z1) (htm _ z2) (htm _ z3) hrv⟩
  obtain⟨ex,σ',rs,K',q1,_,_,_,_,q6⟩:=oI (w0:=w) (cfg:=cfg) hfit 12 (·=r) K none f c _ σ (args.flatMap AV.cells) hn0 hk0 h
  have hex:ex.out=true/\(ky P (cfg.cons.contains (f+1000000)) fn σ').den P (·=r) (args.flatMap AV.cells++rs) K':=by
   cases ex with
   |exit id=>exact q1.elim
   |panic v=>exact q1.elim
   |normal=>exact⟨rfl,q1⟩
   |ret=>exact⟨rfl,q1⟩
  obtain⟨hex,hret⟩:=hex;have hl:=q6 [];rw[List.append_nil]at hl;exact .inl ⟨_,σ',rs,K',hret,fun rv hrv hrel=>lz hf hb hex hl hrel (fun _ _ h=>h) hrv⟩
 rotate_left
 ·exact hdone
 obtain⟨sh,rv,σ2,v2,re,hrv,hnd,hre,hret,hcase⟩:=PQ hret;obtain⟨_,_,m3⟩:=oo (P:=P) (w:=w) (env:=args.flatMap AV.cells++rs) (κ:=fun _=>undef) (F:=S) _ 0 n xs args vs.toList hm (ho fn hf) (by simpa using hvs.1) (fun i u x h1 h2=>hvs.2 i u x (by simpa using h1) h2) (fun j y hy=>by
  rw[Nat.zero_add,List.getElem?_append_left (List.getElem?_eq_some_iff.1 hy).1];exact hy)
 have hblk:∀b,σ.blk b=none:=fun b=>by rw[hσ];exact Ov.get_out (Nat.zero_le _)
 have hN:σ.N=0:=by rw[hσ];rfl
 have hfr:σ=SS.frame { rf:=⟨[],[],0⟩,hp:=⟨[],[],0⟩,n,known:=[],dep:=0 } xs fn.ntmps:=hσ
 obtain⟨fr1,fr2⟩:=rE (σ:={ rf:=⟨[],[],0⟩,hp:=⟨[],[],0⟩,n,known:=[],dep:=0 }) (env:=args.flatMap AV.cells++rs) (κ:=fun _=>undef) (F:=S) (w:=w) (vs:=xs) (us:=vs) (n:=fn.ntmps) m1'.symm (fun i x u hx hu=>(m3 i x u hx (by simpa using hu)).1)
 rw[<-hfr]at fr1 fr2;have hrel:Rel w (args.flatMap AV.cells++rs) (fun _=>undef) S (fun _=>False) σ.tmp σ.blk σ.L { tmps:=vs++Array.replicate (fn.ntmps-vs.size) undef,defers:=[] } w:=by
  refine⟨fr1,fr2,fun b x hx=>?_,fun b c k hb=>?_,fun b k hb=>?_,hS,fun t b hb=>?_,fun b x hx=>?_,Below.refl _ _⟩
  ·rw[hblk]at hx;cases hx
  ·rw[hblk]at hb;cases hb
  ·rw[hblk]at hb;cases hb
  ·rw[hfr]at hb
   exact mb (U:=fun _=>False) (fun x hx b hb=>by
    obtain⟨i,hi⟩:=List.getElem?_of_mem hx;have hv:i<vs.size:=by rw[<-m1'];exact(List.getElem?_eq_some_iff.1 hi).1
    have:=(m3 i x vs[i] hi (by simp[hv])).2
    rw[this]at hb;cases hb) t b hb
  ·rw[hblk]at hx;cases hx
 refine(hgo rv hrv hrel).mono ?_
 rintro e w' ⟨u,κ',F',a',rfl,hr,k,hv⟩;have hfin:∃F2,Rel w (args.flatMap AV.cells++rs) κ' F2 (fun b=>False\/(σ.N<=b/\b<σ'.N)) σ2.tmp σ2.blk σ2.L a' w'/\Kept (fun _=>False) σ.blk (fun _=>undef) S w σ2.blk κ' F2 w'/\SVden (args.flatMap AV.cells++rs) κ' F2 w' v2 u:=by
  rcases hcase with⟨rfl,rfl⟩|⟨rfl,rfl⟩
  ·exact⟨F',hr,k,hv⟩
  ·obtain⟨y1,y2,y3,y4,_⟩:=cx σ' _ (j6 σ' (rv.flatMap (aP σ'.blk))).1
   obtain⟨F1,r1,k1⟩:=hr.freeze (rv.flatMap (aP σ'.blk));rw[<-y1]at r1 k1;have r1':=r1;rw[<-y3,<-y4]at r1';refine⟨F1,r1',k.trans k1 (fun _ h=>h.elim),tK (b0:=w.heap.size) (fun b e t l hb=>r1.blks b _ hb) (hv.keep (fun _ _=>rfl) k1.mono (fun _ _=>rfl))⟩
 obtain⟨F2,hr,k,hv⟩:=hfin;obtain⟨d1,d2⟩:=Lu hr v2 sh re u hre hv;rw[hret]at d1;refine⟨u,F2,_,rfl,d1,Ep _ (BO _ hnd) (fun b=>?_) (fun b c j hb hc h1 h2=>hr.inj b c j (d2 b hb) (d2 c hc) (by simpa using h1) (by simpa using h2)),fun j hj hF=>?_,fun j hj=>⟨?_,hr.F j hj⟩,hr.below⟩
 ·cases ai (κ' b)<;>simp
 ·obtain⟨b,hb,hj⟩:=List.mem_flatMap.1 hj
  exact hr.nF b j (d2 b hb) (by simpa using hj) hF
 ·rcases k.new j hj with h1|h1|⟨b,h1,_⟩
  ·exact .inl h1
  ·exact .inr h1
  ·rw[hblk]at h1;cases h1
variable {α:Type} {g:α->List Int} {f:α->List Value} {k B:Nat} {w w':World} {v:Value} {l:List α} {P:Program} {A:Option Addr} {c:Nat}
def Ez:Value->Array Value
 |.tuple cs=>cs
 |_=>#[]
def R.val:R->Value
 |.i n=>.int .i64 n
 |.b x=>.bool x
 |.r v=>v
 |.row _ _ _=>undef
 |.nil=>.tuple #[]
 |.cons x y=>.tuple (x.val::(Ez y.val).toList).toArray
 |.agg x=>.agg (Ez x.val)
 |.tup x=>.tuple (Ez x.val)
def R.flatB:R->Bool
 |.i _|.b _|.nil=>true
 |.r v=>aW v
 |.row _ _ _=>false
 |.cons x y=>x.flatB&&y.flatB&&y.proper
 |.agg x|.tup x=>x.flatB&&x.proper
theorem mQ{F:Nat->Prop}{base:Nat}:∀(r:R) (u:Value) (bs:List Nat),r.flatB=true->gY F base w r u bs->u=r.val
 |.i _,u,bs,_,h=>h.1
 |.b _,u,bs,_,h=>h.1
 |.nil,u,bs,_,h=>h.1
 |.r v,u,bs,_,h=>h.1
 |.row _ _ _,u,bs,hf,_=>by cases hf
 |.cons x y,u,bs,hf,h=>by
  simp only[R.flatB,Bool.and_eq_true]at hf;obtain⟨p,q,b1,b2,rfl,h1,h2,rfl⟩:=h;have e1:=mQ x p b1 hf.1.1 h1;have e2:=mQ y _ b2 hf.1.2 h2;simp only[R.val,e1,<-e2,Ez]
 |.agg x,u,bs,hf,h=>by
  simp only[R.flatB,Bool.and_eq_true]at hf;obtain⟨cs,rfl,_,h2⟩:=h;have e2:=mQ x _ bs hf.1 h2;simp only[R.val,<-e2,Ez]
 |.tup x,u,bs,hf,h=>by
  simp only[R.flatB,Bool.and_eq_true]at hf;obtain⟨cs,rfl,_,h2⟩:=h;have e2:=mQ x _ bs hf.1 h2;simp only[R.val,<-e2,Ez]
theorem M0{fn:Nat}{args:List AV}{r:R}(hc:Con P fn args r)(hr:r.flatB=true){vs:Array Value}(hvs:EB (fun k=>k<w.heap.size) w vs args):Calls P fn vs w fun e w'=>e=.returned r.val/\Below w.heap.size w w':=
 (hc _ vs w (fun _ h=>h) hvs).mono fun _ _ ⟨u,_,bs,he,hd,_,_,_,hb⟩=>⟨by rw[he,mQ r u bs hr hd],hb⟩
end Go.Sx
namespace Go.Sx
open Go
variable {P:Program}
variable {env:List AV}
theorem Pe{p:Nat->Prop}(h:∃n,p n):∃n,p n/\∀k,p k->n<=k:=by
 obtain⟨n,hn⟩:=h;induction n using Nat.strongRecOn with
 | _ n ih=>
  by_cases h:∃m,m<n/\p m
  ·obtain⟨m,hm,hp⟩:=h
   exact ih m hm hp
  ·exact⟨n,hn,fun k hk=>Nat.not_lt.1 fun hl=>h ⟨k,hl,hk⟩⟩
open Classical in
noncomputable def lJ (p:Nat->Prop):Nat:=if h:∃n,p n then(Pe h).choose else 0
theorem kR{p:Nat->Prop}(h:∃n,p n):p (lJ p)/\∀k,p k->lJ p<=k:=by
 unfold lJ;rw[dif_pos h];exact(Pe h).choose_spec
theorem T.den_mono{Post:R->Prop}:∀(t:T) {env:List AV} {K K':Nat->List AV->Prop},t.den P Post env K->(∀l us,K l us->K' l us)->t.den P Post env K':=by
 intro t;induction t with
 |stop _ _=>intro env K K' h _;exact h
 |ret x=>intro env K K' h _;exact h
 |need e t ih=>intro env K K' h hK;exact⟨h.1,ih h.2 hK⟩
 |br e a b iha ihb=>intro env K K' h hK;exact⟨fun hb=>iha (h.1 hb) hK,fun hb=>ihb (h.2 hb) hK⟩
 |call f args sh t ih=>intro env K K' h hK;obtain⟨r,h1,h2,h3⟩:=h;exact⟨r,h1,h2,ih h3 hK⟩
 |loop lvl inits sorts key locs t ih=>
  intro env K K' h hK;obtain⟨I,μ,h1,h2⟩:=h;refine⟨I,μ,h1,fun vs hv hI=>ih (h2 vs hv hI) fun l us hu=>?_⟩
  unfold upd at hu⊢
  by_cases e:l=lvl
  ·rw[if_pos e]at hu⊢;exact hu
  ·rw[if_neg e]at hu⊢;exact hK _ _ hu
 |again lvl es=>intro env K K' h hK;exact hK _ _ h
 |ext f ks vs t ih=>intro env K K' h hK;exact⟨h.1,ih h.2 hK⟩
theorem T.den_loop{Post:R->Prop}{σ:Type}{K:Nat->List AV->Prop}{lvl:Nat}{inits:E}{sorts:List Ty}{key:Nat×Nat×Nat}{locs:List Loc}{t:T}(enc:σ->List AV)(Inv:σ->Prop)(m:σ->Nat)(s0:σ)
  (h0:ff sorts (Sx.den env inits).g=enc s0) (hI:Inv s0)
  (hr:∀s,Inv s->t.den P Post (env++enc s) (upd K lvl fun us=>∃s',ff sorts us=enc s'/\Inv s'/\m s'<m s)):(T.loop lvl inits sorts key locs t).den P Post env K:=by
 refine⟨fun vs=>∃s,vs=enc s/\Inv s,fun vs=>lJ fun k=>∃s,vs=enc s/\Inv s/\m s=k,⟨s0,h0,hI⟩,fun vs _ ⟨s,hs,hi⟩=>?_⟩
 obtain⟨⟨s1,e1,i1,k1⟩,_⟩:=kR (p:=fun k=>∃s,vs=enc s/\Inv s/\m s=k) ⟨m s,s,hs,hi,rfl⟩
 obtain⟨L,hL⟩:∃L,L=lJ fun k=>∃s,vs=enc s/\Inv s/\m s=k:=⟨_,rfl⟩
 dsimp only;rw[<-hL]at k1⊢
 subst e1;refine T.den_mono t (hr s1 i1) fun l us h=>?_
 unfold upd at h⊢
 by_cases e:l=lvl
 ·rw[if_pos e]at h⊢
  obtain⟨s',a,b,c⟩:=h;refine⟨⟨s',a,b⟩,?_⟩
  exact Nat.lt_of_le_of_lt ((kR (p:=fun k=>∃s,ff sorts us=enc s/\Inv s/\m s=k) ⟨m s',s',a,b,rfl⟩).2 _ ⟨s',a,b,rfl⟩) (Nat.lt_of_lt_of_eq c k1)
 ·rw[if_neg e]at h⊢;exact h
abbrev Lv:=List (List AV)
abbrev cA(l:Lv)(i:Int)(k:Nat):AV:=(l.getD i.toNat []).getD k (.int 0)
abbrev cI(l:Lv)(i:Int)(k:Nat):Int:=(cA l i k).i
abbrev cB(l:Lv)(i:Int)(k:Nat):Bool:=(cA l i k).b
abbrev cR(l:Lv)(i:Int)(k:Nat):Value:=(cA l i k).r
abbrev cL(l:Lv)(i:Int)(k:Nat):Lv:=(cA l i k).l
def af(a b:Int):Int:=if b<a then b else a
def aq(a b:Int):Int:=if a<b then b else a
def aa{σ α:Type}(step:(σ->Option α)->σ->Option α):Nat->σ->Option α
 |0,_=>none
 |n+1,s=>step (aa step n) s
variable {P:Program}
noncomputable section
def Ty.sem(t:Ty):Type:=Ty.rec (motive:=fun _=>Type) Int Bool Value (fun _ _=>List (List AV)) AV (fun _ _ _ _=>AV) t
def Ty.enc(t:Ty):AV->t.sem:=Ty.rec (motive:=fun t=>AV->Ty.sem t) AV.i AV.b AV.r (fun _ _=>AV.l) (fun x=>x) (fun _ _ _ _ x=>x) t
def Ty.dec(t:Ty):t.sem->AV:=Ty.rec (motive:=fun t=>Ty.sem t->AV) AV.int AV.bool AV.raw (fun r _=>AV.sl r) (fun x=>x) (fun _ _ _ _ x=>x) t
theorem KM(t:Ty)(x:AV):t.dec (t.enc x)=co t x:=by cases t<;>rfl
def bm(ts:List Ty):Type:=List.rec (motive:=fun _=>Type) Unit (fun a l ih=>List.rec (motive:=fun _=>Type) a.sem (fun _ _ _=>a.sem×ih) l) ts
def hdX(xs:List AV):AV:=List.rec (motive:=fun _=>AV) (.int 0) (fun x _ _=>x) xs
def tlX(xs:List AV):List AV:=List.rec (motive:=fun _=>List AV) [] (fun _ l _=>l) xs
def eQ(ts:List Ty):List AV->bm ts:=
 List.rec (motive:=fun ts=>List AV->bm ts) (fun _=>()) (fun a l=>List.rec (motive:=fun l=>(List AV->bm l)->List AV->bm (a::l)) (fun _ xs=>a.enc (hdX xs)) (fun _ _ _ ih xs=>(a.enc (hdX xs),ih (tlX xs))) l) ts
def gj(ts:List Ty):bm ts->List AV:=
 List.rec (motive:=fun ts=>bm ts->List AV) (fun _=>[]) (fun a l=>List.rec (motive:=fun l=>(bm l->List AV)->bm (a::l)->List AV) (fun _ s=>[a.dec s]) (fun _ _ _ ih s=>a.dec s.1::ih s.2) l) ts
theorem vk:∀(ts:List Ty) (xs:List AV),xs.length=ts.length->gj ts (eQ ts xs)=ff ts xs
 |[],[],_=>rfl
 |[],_::_,h=>by simp at h
 |_::_,[],h=>by simp at h
 |[t],[x],_=>by show[t.dec (t.enc x)]=[co t x];rw[KM]
 |[_],_::_::_,h=>by simp at h
 |t::b::ts,x::xs,h=>by
  show t.dec (t.enc x)::gj (b::ts) (eQ (b::ts) xs)=co t x::ff (b::ts) xs
  rw[KM,vk (b::ts) xs (by simpa using h)]
theorem ET{ts:List Ty}{xs:List AV}(h:xs.map AV.ty=ts):gj ts (eQ ts xs)=xs:=by
 rw[vk ts xs (by rw[<-h,List.length_map]),vq ts xs h]
def RS.tys(sh:RS):List Ty:=RS.rec (motive:=fun _=>List Ty) [.int] [.bool] [.raw] (fun _ t=>[.sl t]) [] (fun _ _ a b=>a++b) (fun _ a=>a) (fun _ a=>a) sh
theorem MD(r:R):r.leaves.map AV.ty=r.shape.tys:=by
 induction r with
 |cons x y a b=>show(x.leaves++y.leaves).map AV.ty=x.shape.tys++y.shape.tys;rw[List.map_append,a,b]
 |agg x a=>exact a
 |tup x a=>exact a
 |_=>rfl
def rmk(sh:RS):List AV->R×List AV:=
 RS.rec (motive:=fun _=>List AV->R×List AV) (fun xs=>(.i (hdX xs).i,tlX xs)) (fun xs=>(.b (hdX xs).b,tlX xs)) (fun xs=>(.r (hdX xs).r,tlX xs)) (fun e t xs=>(.row e t (hdX xs).l,tlX xs)) (fun xs=>(.nil,xs))
  (fun _ _ a b xs=>(.cons (a xs).1 (b (a xs).2).1,(b (a xs).2).2)) (fun _ a xs=>(.agg (a xs).1,(a xs).2)) (fun _ a xs=>(.tup (a xs).1,(a xs).2)) sh
theorem Mi(r:R):∀rest,rmk r.shape (r.leaves++rest)=(r,rest):=by
 induction r with
 |cons x y a b=>
  intro rest;have h1:=a (y.leaves++rest);have h2:=b rest;show((R.cons (rmk x.shape (x.leaves++y.leaves++rest)).1 (rmk y.shape (rmk x.shape (x.leaves++y.leaves++rest)).2).1,(rmk y.shape (rmk x.shape (x.leaves++y.leaves++rest)).2).2):R×List AV)=_
  rw[List.append_assoc,h1,h2]
 |agg x a=>intro rest;show((R.agg (rmk x.shape (x.leaves++rest)).1,(rmk x.shape (x.leaves++rest)).2):R×List AV)=_;rw[a]
 |tup x a=>intro rest;show((R.tup (rmk x.shape (x.leaves++rest)).1,(rmk x.shape (x.leaves++rest)).2):R×List AV)=_;rw[a]
 |_=>intro rest;rfl
theorem IL(sh:RS):∀xs:List AV,sh.tys.length<=xs.length->(rmk sh xs).1.shape=sh/\(rmk sh xs).2=xs.drop sh.tys.length/\(rmk sh xs).1.leaves=ff sh.tys xs:=by
 induction sh with
 | cons x y a b=>
  intro xs h;have hl:(RS.cons x y).tys=x.tys++y.tys:=rfl
  rw[hl,List.length_append]at h;obtain⟨a1,a2,a3⟩:=a xs (by omega)
  obtain⟨b1,b2,b3⟩:=b (xs.drop x.tys.length) (by rw[List.length_drop];omega)
  have e:rmk (.cons x y) xs=(R.cons (rmk x xs).1 (rmk y (rmk x xs).2).1,(rmk y (rmk x xs).2).2):=rfl
  rw[e,a2,hl];refine⟨by show RS.cons _ _=_;rw[a1,b1],by rw[b2,List.drop_drop,List.length_append],?_⟩
  show(rmk x xs).1.leaves++(rmk y (xs.drop x.tys.length)).1.leaves=_
  rw[a3,b3];unfold ff;conv=>rhs;rw[<-List.take_append_drop x.tys.length xs]
  rw[List.zipWith_append (by rw[List.length_take];omega)]
  congr 1
  have:∀(ts:List Ty) (xs:List AV),List.zipWith co ts xs=List.zipWith co ts (xs.take ts.length):=by
   intro ts;induction ts with
   |nil=>intro xs;rfl
   |cons t ts ih=>intro xs;cases xs with
    |nil=>rfl
    |cons z zs=>simp[ih zs]
  exact this _ _
 |agg x a=>intro xs h;obtain⟨a1,a2,a3⟩:=a xs h;exact⟨congrArg RS.agg a1,a2,a3⟩
 |tup x a=>intro xs h;obtain⟨a1,a2,a3⟩:=a xs h;exact⟨congrArg RS.tup a1,a2,a3⟩
 |nil=>intro xs _;exact⟨rfl,rfl,by cases xs<;>rfl⟩
 |_=>
  intro xs h;cases xs with
  |nil=>exact absurd h (by simp[RS.tys])
  |cons x xs=>exact⟨rfl,rfl,rfl⟩
def pw(sh:RS)(z:bm sh.tys):R:=(rmk sh (gj sh.tys z)).1
theorem Ck:∀(ts:List Ty) (z:bm ts),(gj ts z).length=ts.length
 |[],_=>rfl
 |[_],_=>rfl
 |_::b::ts,z=>by show(_::gj (b::ts) z.2).length=_;rw[List.length_cons,Ck (b::ts) z.2];rfl
theorem Mz(t:Ty)(s:t.sem):co t (t.dec s)=t.dec s:=by cases t<;>rfl
theorem cg2{α β γ:Type}(f:α->β->γ){a a':α}{b b':β}(h1:a=a')(h2:b=b'):f a b=f a' b':=by subst h1 h2;rfl
theorem Gh:∀(ts:List Ty) (z:bm ts),ff ts (gj ts z)=gj ts z
 |[],_=>rfl
 |[t],z=>congrArg (fun x=>[x]) (Mz t z)
 |t::b::ts,z=>cg2 List.cons (Mz t z.1) (Gh (b::ts) z.2)
theorem Lz(sh:RS)(z:bm sh.tys):(pw sh z).shape=sh:=(IL sh _ (by rw[Ck];exact Nat.le_refl _)).1
theorem KE(sh:RS)(z:bm sh.tys):(pw sh z).leaves=gj sh.tys z:=by
 unfold pw;rw[(IL sh _ (by rw[Ck];exact Nat.le_refl _)).2.2,Gh]
theorem NZ{r:R}{sh:RS}(h:r.shape=sh):pw sh (eQ sh.tys r.leaves)=r:=by
 subst h;unfold pw;rw[ET (MD r)];have:=Mi r []
 rw[List.append_nil]at this;rw[this]
def Ty.eqb(t:Ty):Ty->Bool:=
 Ty.rec (motive:=fun _=>Ty->Bool) (fun u=>Ty.rec (motive:=fun _=>Bool) true false false (fun _ _=>false) false (fun _ _ _ _=>false) u) (fun u=>Ty.rec (motive:=fun _=>Bool) false true false (fun _ _=>false) false (fun _ _ _ _=>false) u)
  (fun u=>Ty.rec (motive:=fun _=>Bool) false false true (fun _ _=>false) false (fun _ _ _ _=>false) u) (fun _ ih u=>Ty.rec (motive:=fun _=>Bool) false false false (fun r _=>ih r) false (fun _ _ _ _=>false) u)
  (fun u=>Ty.rec (motive:=fun _=>Bool) false false false (fun _ _=>false) true (fun _ _ _ _=>false) u) (fun _ _ ih1 ih2 u=>Ty.rec (motive:=fun _=>Bool) false false false (fun _ _=>false) false (fun a b _ _=>and (ih1 a) (ih2 b)) u) t
theorem Ty.eqb_eq{t:Ty}:∀ {u:Ty},t.eqb u=true->t=u:=by
 induction t with
 |sl r ih=>intro u h;cases u<;>first|exact absurd h (by decide)|(rw[ih (show Ty.eqb r _=true from h)])|cases h
 | cons a b ih1 ih2=>
  intro u h;cases u with
  |cons c d=>
   have h:(Ty.eqb a c&&Ty.eqb b d)=true:=h
   rw[Bool.and_eq_true]at h;rw[ih1 h.1,ih2 h.2]
  |_=>cases h
 |_=>intro u h;cases u<;>first|rfl|cases h
def su(ts:List Ty):List Ty->Bool:=
 List.rec (motive:=fun _=>List Ty->Bool) (fun us=>List.rec (motive:=fun _=>Bool) true (fun _ _ _=>false) us) (fun t _ ih us=>List.rec (motive:=fun _=>Bool) false (fun u us _=>and (t.eqb u) (ih us)) us) ts
theorem E5:∀ {ts us:List Ty},su ts us=true->ts=us
 |[],[],_=>rfl
 |[],_::_,h=>by cases h
 |_::_,[],h=>by cases h
 |t::ts,u::us,h=>by
  have h:(Ty.eqb t u&&su ts us)=true:=h
  rw[Bool.and_eq_true]at h;rw[Ty.eqb_eq h.1,E5 h.2]
def RS.eqb(t:RS):RS->Bool:=
 RS.rec (motive:=fun _=>RS->Bool)
  (fun u=>RS.rec (motive:=fun _=>Bool) true false false (fun _ _=>false) false (fun _ _ _ _=>false) (fun _ _=>false) (fun _ _=>false) u)
  (fun u=>RS.rec (motive:=fun _=>Bool) false true false (fun _ _=>false) false (fun _ _ _ _=>false) (fun _ _=>false) (fun _ _=>false) u)
  (fun u=>RS.rec (motive:=fun _=>Bool) false false true (fun _ _=>false) false (fun _ _ _ _=>false) (fun _ _=>false) (fun _ _=>false) u)
  (fun e t u=>RS.rec (motive:=fun _=>Bool) false false false (fun e' t'=>and (Nat.beq e e') (t.eqb t')) false (fun _ _ _ _=>false) (fun _ _=>false) (fun _ _=>false) u)
  (fun u=>RS.rec (motive:=fun _=>Bool) false false false (fun _ _=>false) true (fun _ _ _ _=>false) (fun _ _=>false) (fun _ _=>false) u)
  (fun _ _ ih1 ih2 u=>RS.rec (motive:=fun _=>Bool) false false false (fun _ _=>false) false (fun a b _ _=>and (ih1 a) (ih2 b)) (fun _ _=>false) (fun _ _=>false) u)
  (fun _ ih u=>RS.rec (motive:=fun _=>Bool) false false false (fun _ _=>false) false (fun _ _ _ _=>false) (fun a _=>ih a) (fun _ _=>false) u)
  (fun _ ih u=>RS.rec (motive:=fun _=>Bool) false false false (fun _ _=>false) false (fun _ _ _ _=>false) (fun _ _=>false) (fun a _=>ih a) u) t
theorem RS.eqb_eq{t:RS}:∀ {u:RS},t.eqb u=true->t=u:=by
 induction t with
 | row e t=>
  intro u h;cases u with
  |row e' t'=>
   have h:(Nat.beq e e'&&Ty.eqb t t')=true:=h
   rw[Bool.and_eq_true]at h;rw[Nat.eq_of_beq_eq_true h.1,Ty.eqb_eq h.2]
  |_=>cases h
 | cons a b ih1 ih2=>
  intro u h;cases u with
  |cons c d=>
   have h:(RS.eqb a c&&RS.eqb b d)=true:=h
   rw[Bool.and_eq_true]at h;rw[ih1 h.1,ih2 h.2]
  |_=>cases h
 |agg a ih=>intro u h;cases u with
  |agg b=>rw[ih (show RS.eqb a b=true from h)]
  |_=>cases h
 |tup a ih=>intro u h;cases u with
  |tup b=>rw[ih (show RS.eqb a b=true from h)]
  |_=>cases h
 |_=>intro u h;cases u<;>first|rfl|cases h
structure EvX where
 a:AV
 i:Int
 b:Bool
 r:Value
 l:List (List AV)
 g:List AV
 n:Int
def evX(env:List AV)(e:E):EvX:=
 E.rec (motive:=fun _=>EvX)
  (fun i=>⟨ia (.int 0) env i,(ia (.int 0) env i).i,(ia (.int 0) env i).b,(ia (.int 0) env i).r,(ia (.int 0) env i).l,(ia (.int 0) env i).g,(ia (.int 0) env i).num⟩)
  (fun n=>⟨.int n,n,false,undef,[],[],n⟩)
  (fun b=>⟨.bool b,0,b,undef,[],[],0⟩)
  (fun s=>⟨.raw (H4 s),0,false,H4 s,[],[],0⟩)
  (fun k n=>⟨.raw (.int k n),0,false,.int k n,[],[],n⟩)
  (fun o _ _ x y=>IOp.rec (motive:=fun _=>EvX) ⟨.int (x.i+y.i),x.i+y.i,false,undef,[],[],x.i+y.i⟩ ⟨.int (x.i-y.i),x.i-y.i,false,undef,[],[],x.i-y.i⟩ ⟨.int (x.i*y.i),x.i*y.i,false,undef,[],[],x.i*y.i⟩
   ⟨.int (Int.tdiv x.i y.i),Int.tdiv x.i y.i,false,undef,[],[],Int.tdiv x.i y.i⟩ ⟨.int (Int.tmod x.i y.i),Int.tmod x.i y.i,false,undef,[],[],Int.tmod x.i y.i⟩ ⟨.int (af x.i y.i),af x.i y.i,false,undef,[],[],af x.i y.i⟩ ⟨.int (aq x.i y.i),aq x.i y.i,false,undef,[],[],aq x.i y.i⟩
   ⟨.int (IOp.f .and x.i y.i),IOp.f .and x.i y.i,false,undef,[],[],IOp.f .and x.i y.i⟩ ⟨.int (IOp.f .or x.i y.i),IOp.f .or x.i y.i,false,undef,[],[],IOp.f .or x.i y.i⟩ ⟨.int (IOp.f .xor x.i y.i),IOp.f .xor x.i y.i,false,undef,[],[],IOp.f .xor x.i y.i⟩
   ⟨.int (IOp.f .andNot x.i y.i),IOp.f .andNot x.i y.i,false,undef,[],[],IOp.f .andNot x.i y.i⟩ ⟨.int (IOp.f .shl x.i y.i),IOp.f .shl x.i y.i,false,undef,[],[],IOp.f .shl x.i y.i⟩ ⟨.int (IOp.f .shr x.i y.i),IOp.f .shr x.i y.i,false,undef,[],[],IOp.f .shr x.i y.i⟩ o)
  (fun o _ _ x y=>COp.rec (motive:=fun _=>EvX) ⟨.bool (decide (x.i<y.i)),0,decide (x.i<y.i),undef,[],[],0⟩ ⟨.bool (decide (x.i<=y.i)),0,decide (x.i<=y.i),undef,[],[],0⟩ ⟨.bool (decide (x.i=y.i)),0,decide (x.i=y.i),undef,[],[],0⟩ o)
  (fun _ x=>⟨.bool (!x.b),0,!x.b,undef,[],[],0⟩)
  (fun _ _ x y=>⟨.bool (x.b==y.b),0,x.b==y.b,undef,[],[],0⟩)
  (fun _ _ x y=>⟨.bool (x.b&&y.b),0,x.b&&y.b,undef,[],[],0⟩)
  (fun _ _ x y=>⟨.bool ((AV.raw x.r).s==(AV.raw y.r).s),0,(AV.raw x.r).s==(AV.raw y.r).s,undef,[],[],0⟩)
  (fun _ x=>⟨.int (x.l.length:Int),(x.l.length:Int),false,undef,[],[],(x.l.length:Int)⟩)
  (fun _ x=>⟨.int ((AV.raw x.r).s.length:Int),((AV.raw x.r).s.length:Int),false,undef,[],[],((AV.raw x.r).s.length:Int)⟩)
  (fun _ _ k x y=>⟨cA x.l y.i k,cI x.l y.i k,cB x.l y.i k,cR x.l y.i k,cL x.l y.i k,(cA x.l y.i k).g,(cA x.l y.i k).num⟩)
  ⟨.agg [],0,false,undef,[],[],0⟩
  (fun _ _ x y=>⟨.agg (x.a::y.g),0,false,undef,[],x.a::y.g,0⟩)
  ⟨.sl .nil [],0,false,undef,[],[],0⟩
  (fun _ _ x y=>⟨.sl .nil (x.l++[y.g]),0,false,undef,x.l++[y.g],[],0⟩)
  (fun _ _ x y=>⟨.sl .nil (x.l++y.l),0,false,undef,x.l++y.l,[],0⟩)
  (fun _ _ x y=>⟨.sl .nil (List.take y.i.toNat x.l),0,false,undef,List.take y.i.toNat x.l,[],0⟩)
  (fun _ _ x y=>⟨.sl .nil (List.drop y.i.toNat x.l),0,false,undef,List.drop y.i.toNat x.l,[],0⟩)
  (fun _ _ k _ x y z=>⟨.sl .nil (List.modify x.l y.i.toNat (fun r=>r.set k z.a)),0,false,undef,List.modify x.l y.i.toNat (fun r=>r.set k z.a),[],0⟩)
  (fun _ _ x y=>⟨.sl .nil (List.replicate x.i.toNat y.g),0,false,undef,List.replicate x.i.toNat y.g,[],0⟩)
  (fun t _ x=>⟨.sl t x.l,0,false,undef,x.l,[],0⟩)
  (fun _ _ x y=>⟨.sl .nil (List.take x.l.length y.l++List.drop y.l.length x.l),0,false,undef,List.take x.l.length y.l++List.drop y.l.length x.l,[],0⟩)
  (fun t _ x=>Ty.rec (motive:=fun _=>EvX) ⟨.int x.i,x.i,false,undef,[],[],x.i⟩ ⟨.bool x.b,0,x.b,undef,[],[],0⟩ ⟨.raw x.r,0,false,x.r,[],[],(AV.raw x.r).num⟩ (fun r _=>⟨.sl r x.l,0,false,undef,x.l,[],0⟩) x (fun _ _ _ _=>x) t)
  (fun k _ x=>⟨.raw (.int k (k.wrap x.n)),0,false,.int k (k.wrap x.n),[],[],k.wrap x.n⟩)
  (fun _ x=>⟨.int (IntKind.wrap .i64 x.n),IntKind.wrap .i64 x.n,false,undef,[],[],IntKind.wrap .i64 x.n⟩)
  (fun o k _ _ x y=>⟨.raw (.int k (iN o k x.n y.n)),0,false,.int k (iN o k x.n y.n),[],[],iN o k x.n y.n⟩)
  (fun o _ _ x y=>COp.rec (motive:=fun _=>EvX) ⟨.bool (decide (x.n<y.n)),0,decide (x.n<y.n),undef,[],[],0⟩ ⟨.bool (decide (x.n<=y.n)),0,decide (x.n<=y.n),undef,[],[],0⟩ ⟨.bool (decide (x.n=y.n)),0,decide (x.n=y.n),undef,[],[],0⟩ o) e
def EvX.ok(x:EvX)(y:AV):Prop:=x.a=y/\x.i=y.i/\x.b=y.b/\x.r=y.r/\x.l=y.l/\x.g=y.g/\x.n=y.num
theorem dz{a b:Int}(h:a=b):EvX.ok ⟨.int a,a,false,undef,[],[],a⟩ (.int b):=by subst h;exact⟨rfl,rfl,rfl,rfl,rfl,rfl,rfl⟩
theorem QO{a b:AV}(h:a=b):EvX.ok ⟨a,a.i,a.b,a.r,a.l,a.g,a.num⟩ b:=by subst h;exact⟨rfl,rfl,rfl,rfl,rfl,rfl,rfl⟩
theorem eW{a b:Bool}(h:a=b):EvX.ok ⟨.bool a,0,a,undef,[],[],0⟩ (.bool b):=by subst h;exact⟨rfl,rfl,rfl,rfl,rfl,rfl,rfl⟩
theorem zl{a b:Value}(h:a=b):EvX.ok ⟨.raw a,0,false,a,[],[],(AV.raw a).num⟩ (.raw b):=by subst h;exact⟨rfl,rfl,rfl,rfl,rfl,rfl,rfl⟩
theorem lU{t:Ty}{a b:List (List AV)}(h:a=b):EvX.ok ⟨.sl t a,0,false,undef,a,[],0⟩ (.sl t b):=by subst h;exact⟨rfl,rfl,rfl,rfl,rfl,rfl,rfl⟩
theorem Ny{a b:List AV}(h:a=b):EvX.ok ⟨.agg a,0,false,undef,[],a,0⟩ (.agg b):=by subst h;exact⟨rfl,rfl,rfl,rfl,rfl,rfl,rfl⟩
section
variable {x:EvX} {y:AV} (h:x.ok y)
include h
theorem EvX.ok.A:x.a=y:=h.1
theorem EvX.ok.I:x.i=y.i:=h.2.1
theorem EvX.ok.B:x.b=y.b:=h.2.2.1
theorem EvX.ok.R:x.r=y.r:=h.2.2.2.1
theorem EvX.ok.L:x.l=y.l:=h.2.2.2.2.1
theorem EvX.ok.G:x.g=y.g:=h.2.2.2.2.2.1
theorem EvX.ok.N:x.n=y.num:=h.2.2.2.2.2.2
end
theorem kr(env:List AV)(e:E):(evX env e).ok (den env e):=by
 induction e with
 |v i=>refine⟨?_,?_,?_,?_,?_,?_,?_⟩<;>simp only[evX,den,jg]
 |int n=>exact dz rfl
 |bool n=>exact eW rfl
 |str n=>exact zl rfl
 |oint k n=>exact zl rfl
 |ii o a b iha ihb=>
  have h:=fun o=>cg2 (IOp.f o) iha.I ihb.I
  cases o with
  |add=>exact dz (h .add)
  |sub=>exact dz (h .sub)
  |mul=>exact dz (h .mul)
  |quo=>exact dz (h .quo)
  |rem=>exact dz (h .rem)
  |min=>exact dz (h .min)
  |max=>exact dz (h .max)
  |and=>exact dz (h .and)
  |or=>exact dz (h .or)
  |xor=>exact dz (h .xor)
  |andNot=>exact dz (h .andNot)
  |shl=>exact dz (h .shl)
  |shr=>exact dz (h .shr)
 |cmp o a b iha ihb=>
  have h:=fun o=>cg2 (COp.f o) iha.I ihb.I
  cases o with
  |lt=>exact eW (h .lt)
  |le=>exact eW (h .le)
  |eq=>exact eW (h .eq)
 |not a ih=>have h:=congrArg not ih.B;exact eW h
 |beq a b iha ihb=>have h:=cg2 BEq.beq iha.B ihb.B;exact eW h
 |and a b iha ihb=>have h:=cg2 and iha.B ihb.B;exact eW h
 |seq a b iha ihb=>have h:=cg2 (fun x y=>(AV.raw x).s==(AV.raw y).s) iha.R ihb.R;exact eW h
 |len a ih=>have h:=congrArg (fun l=>((List.length l:Nat):Int)) ih.L;exact dz h
 |slen a ih=>have h:=congrArg (fun x=>(((AV.raw x).s.length:Nat):Int)) ih.R;exact dz h
 |cell a b k iha ihb=>have h:=cg2 (fun x y=>cA x y k) iha.L ihb.I;exact QO h
 |rnil=>exact Ny rfl
 |rcons a b iha ihb=>have h:=cg2 List.cons iha.A ihb.G;exact Ny h
 |lnil=>exact lU rfl
 |snoc a b iha ihb=>have h:=cg2 (fun x y=>x++[y]) iha.L ihb.G;exact lU h
 |app a b iha ihb=>have h:=cg2 (fun x y=>x++y) iha.L ihb.L;exact lU h
 |take a b iha ihb=>have h:=cg2 (fun x y=>List.take (Int.toNat y) x) iha.L ihb.I;exact lU h
 |drop a b iha ihb=>have h:=cg2 (fun x y=>List.drop (Int.toNat y) x) iha.L ihb.I;exact lU h
 |set a b k c iha ihb ihc=>have h:=cg2 (fun(p:List (List AV)×Int) z=>List.modify p.1 (Int.toNat p.2) fun r=>List.set r k z) (cg2 Prod.mk iha.L ihb.I) ihc.A;exact lU h
 |rep a b iha ihb=>have h:=cg2 (fun x y=>List.replicate (Int.toNat x) y) iha.I ihb.G;exact lU h
 |typed t a ih=>exact lU ih.L
 |cpy a b iha ihb=>have h:=cg2 (fun x y=>List.take (List.length x) y++List.drop (List.length y) x) iha.L ihb.L;exact lU h
 |co t a ih=>
  cases t with
  |int=>exact dz ih.I
  |bool=>exact eW ih.B
  |raw=>exact zl ih.R
  |sl r=>exact lU ih.L
  |nil=>exact ih
  |cons x y=>exact ih
 |kin k a ih=>have h:=congrArg (fun x=>Value.int k (k.wrap x)) ih.N;exact zl h
 |kout a ih=>have h:=congrArg (IntKind.wrap .i64) ih.N;exact dz h
 |kop o k a b iha ihb=>have h:=cg2 (fun x y=>Value.int k (iN o k x y)) iha.N ihb.N;exact zl h
 |kcmp o a b iha ihb=>
  have h:=fun o=>cg2 (COp.f o) iha.N ihb.N
  cases o with
  |lt=>exact eW (h .lt)
  |le=>exact eW (h .le)
  |eq=>exact eW (h .eq)
def reL(env:List AV)(x:RE):List AV:=RE.rec (motive:=fun _=>List AV) (fun e=>[.int (evX env e).i]) (fun e=>[.bool (evX env e).b]) (fun e=>[.raw (evX env e).r]) (fun _ t e=>[.sl t (evX env e).l]) [] (fun _ _ a b=>a++b) (fun _ a=>a) (fun _ a=>a) x
def reS(x:RE):RS:=RE.rec (motive:=fun _=>RS) (fun _=>.i) (fun _=>.b) (fun _=>.r) (fun e t _=>.row e t) .nil (fun _ _ a b=>.cons a b) (fun _ a=>.agg a) (fun _ a=>.tup a) x
theorem Ql(env:List AV)(x:RE):reL env x=(x.den env).leaves:=by
 induction x with
 |i e=>show[AV.int _]=[AV.int _];rw[(kr env e).2.1]
 |b e=>show[AV.bool _]=[AV.bool _];rw[(kr env e).2.2.1]
 |r e=>show[AV.raw _]=[AV.raw _];rw[(kr env e).2.2.2.1]
 |row a t e=>show[AV.sl _ _]=[AV.sl _ _];rw[(kr env e).2.2.2.2.1]
 |nil=>rfl
 |cons x y a b=>show reL env x++reL env y=_++_;rw[a,b]
 |agg x a=>exact a
 |tup x a=>exact a
theorem QE(env:List AV)(x:RE):reS x=(x.den env).shape:=by
 induction x with
 |cons x y a b=>show RS.cons (reS x) (reS y)=.cons _ _;rw[a,b]
 |agg x a=>show RS.agg (reS x)=.agg _;rw[a]
 |tup x a=>show RS.tup (reS x)=.tup _;rw[a]
 |_=>rfl
abbrev Ps:=List (Bool×List Ty)
def Ps.tys(ps:Ps):List Ty:=List.rec (motive:=fun _=>List Ty) [] (fun p _ ih=>p.2++ih) ps
def AV.aggB(ts:List Ty):AV->Bool
 |.agg l=>su (l.map AV.ty) ts
 |_=>false
def AV.oneB(ts:List Ty):AV->Bool
 |.agg _=>false
 |.int _=>su [.int] ts
 |.bool _=>su [.bool] ts
 |.raw _=>su [.raw] ts
 |.sl t _=>su [.sl t] ts
def pz(ps:Ps):List AV->Bool:=
 List.rec (motive:=fun _=>List AV->Bool) (fun xs=>List.rec (motive:=fun _=>Bool) true (fun _ _ _=>false) xs)
  (fun p _ ih xs=>List.rec (motive:=fun _=>Bool) false (fun x xs _=>and (Bool.rec (motive:=fun _=>Bool) (x.oneB p.2) (x.aggB p.2) p.1) (ih xs)) xs) ps
def dU(xs:List AV):List AV:=List.rec (motive:=fun _=>List AV) [] (fun x _ ih=>AV.cells x++ih) xs
def Md(ps:Ps):List AV->List AV:=List.rec (motive:=fun _=>List AV->List AV) (fun _=>[]) (fun p _ ih xs=>Bool.rec (motive:=fun _=>AV) (hdX xs) (.agg (xs.take p.2.length)) p.1::ih (xs.drop p.2.length)) ps
def IK(ps:Ps)(s:bm (Ps.tys ps)):List AV:=Md ps (gj (Ps.tys ps) s)
theorem AU:∀(ps:Ps) (xs:List AV),pz ps xs=true->Md ps (dU xs)=xs/\(dU xs).map AV.ty=Ps.tys ps
 |[],[],_=>⟨rfl,rfl⟩
 |[],_::_,h=>by cases h
 |_::_,[],h=>by cases h
 | (true,ts)::ps,x::xs,h=>by
  have h:(x.aggB ts&&pz ps xs)=true:=h
  rw[Bool.and_eq_true]at h;obtain⟨h1,h2⟩:=AU ps xs h.2;cases x with
  | agg l=>
   have hl:=E5 h.1;have hlen:ts.length=l.length:=by rw[<-hl,List.length_map]
   constructor
   ·show AV.agg ((l++dU xs).take ts.length)::Md ps ((l++dU xs).drop ts.length)=_
    rw[hlen,List.take_left,List.drop_left,h1]
   ·show(l++dU xs).map AV.ty=ts++Ps.tys ps
    rw[List.map_append,hl,h2]
  |_=>cases h.1
 | (false,ts)::ps,x::xs,h=>by
  have h:(x.oneB ts&&pz ps xs)=true:=h
  rw[Bool.and_eq_true]at h;obtain⟨h1,h2⟩:=AU ps xs h.2;cases x with
  |agg l=>cases h.1
  | _=>
   have hx:=E5 (us:=ts) (ts:=[_]) h.1;subst hx;constructor
   ·show hdX (_::dU xs)::Md ps (dU xs)=_
    rw[h1];rfl
   ·show _::(dU xs).map AV.ty=_::Ps.tys ps
    rw[h2];rfl
theorem Ig{ps:Ps}{xs:List AV}(h:pz ps xs=true):IK ps (eQ (Ps.tys ps) (dU xs))=xs:=by
 obtain⟨h1,h2⟩:=AU ps xs h;unfold IK;rw[ET h2,h1]
theorem FV(xs:List AV):dU xs=xs.flatMap AV.cells:=by
 induction xs with
 |nil=>rfl
 |cons x xs ih=>show AV.cells x++dU xs=_;rw[ih,List.flatMap_cons]
structure FnT where
 ps:Ps
 sh:RS
 fn:Nat->bm (Ps.tys ps)->Option (bm sh.tys)
def FnT.ok(P:Program)(f:Nat)(F:FnT):Prop:=∀(n:Nat) (s:bm (Ps.tys F.ps)) (z:bm F.sh.tys),F.fn n s=some z->Con P f (IK F.ps s) (pw F.sh z)
abbrev Tab:=List (Nat×FnT)
def Tab.ok(P:Program)(tab:Tab):Prop:=∀x∈tab,x.2.ok P x.1
abbrev MTab:=List (Nat×SV×SV)
def MTab.ok(P:Program)(mt:MTab):Prop:=∀x∈mt,Lo P x.1 x.2.1 x.2.2
def H7{β:Type}(tab:Tab)(f:Nat)(k:FnT->Option β):Option β:=List.rec (motive:=fun _=>Option β) none (fun x _ ih=>Bool.rec (motive:=fun _=>Option β) ih (k x.2) (Nat.beq x.1 f)) tab
theorem Oc{β:Type}{tab:Tab}{f:Nat}{k:FnT->Option β}{z:β}(h:H7 tab f k=some z):∃F,(f,F)∈tab/\k F=some z:=by
 induction tab with
 |nil=>cases h
 | cons x tab ih=>
  have h:Bool.rec (motive:=fun _=>Option β) (H7 tab f k) (k x.2) (Nat.beq x.1 f)=some z:=h
  cases hb:Nat.beq x.1 f with
  |true=>
   rw[hb]at h;have:=Nat.eq_of_beq_eq_true hb
   subst this;exact⟨x.2,List.mem_cons_self ..,h⟩
  |false=>
   rw[hb]at h;obtain⟨F,h1,h2⟩:=ih h;exact⟨F,List.mem_cons_of_mem _ h1,h2⟩
def J2(mt:MTab)(f:Nat)(ks vs:SV):Bool:=List.rec (motive:=fun _=>Bool) false (fun x _ ih=>or (and (Nat.beq x.1 f) (and (decide (x.2.1=ks)) (decide (x.2.2=vs)))) ih) mt
theorem PF{mt:MTab}{f:Nat}{ks vs:SV}(h:J2 mt f ks vs=true):(f,ks,vs)∈mt:=by
 induction mt with
 |nil=>cases h
 | cons x mt ih=>
  have h:((Nat.beq x.1 f&&(decide (x.2.1=ks)&&decide (x.2.2=vs)))||J2 mt f ks vs)=true:=h
  rw[Bool.or_eq_true,Bool.and_eq_true,Bool.and_eq_true,decide_eq_true_iff,decide_eq_true_iff]at h;rcases h with⟨h1,h2,h3⟩|h
  ·have:=Nat.eq_of_beq_eq_true h1
   obtain⟨a,b,c⟩:=x;dsimp only at this h2 h3
   subst this h2 h3;exact List.mem_cons_self ..
  ·exact List.mem_cons_of_mem _ (ih h)
def T.fn(tab:Tab)(mt:MTab)(n:Nat)(sh:RS)(t:T):List AV->(Nat->List AV->Option (bm sh.tys))->Option (bm sh.tys):=
 T.rec (motive:=fun _=>List AV->(Nat->List AV->Option (bm sh.tys))->Option (bm sh.tys))
  (fun _ _ _ _=>none)
  (fun x env _=>Bool.rec (motive:=fun _=>Option (bm sh.tys)) none (some (eQ sh.tys (reL env x))) ((reS x).eqb sh))
  (fun e _ t env K=>cond (evX env e).b (t env K) none)
  (fun e _ _ a b env K=>cond (evX env e).b (a env K) (b env K))
  (fun f args sh' _ t env K=>H7 tab f fun F=>Bool.rec (motive:=fun _=>Option (bm sh.tys)) none (Option.bind (F.fn n (eQ (Ps.tys F.ps) (dU (evX env args).g))) fun y=>t (env++gj F.sh.tys y) K) (and (F.sh.eqb sh') (pz F.ps (evX env args).g)))
  (fun lvl inits sorts _ _ _ t env K=>Bool.rec (motive:=fun _=>Option (bm sh.tys)) none (aa (σ:=bm sorts) (fun go s=>t (env++gj sorts s) fun l us=>Bool.rec (motive:=fun _=>Option (bm sh.tys)) (K l us) (Bool.rec (motive:=fun _=>Option (bm sh.tys)) none (go (eQ sorts us)) (Nat.beq us.length sorts.length)) (Nat.beq l lvl)) n (eQ sorts (evX env inits).g)) (Nat.beq (evX env inits).g.length sorts.length))
  (fun lvl es env K=>K lvl (evX env es).g)
  (fun f ks vs _ t env K=>Bool.rec (motive:=fun _=>Option (bm sh.tys)) none (t env K) (J2 mt f ks vs)) t
theorem T.fn_den{tab:Tab}{mt:MTab}{n:Nat}{sh:RS}(hC:tab.ok P)(hM:mt.ok P){z:bm sh.tys}:∀(t:T) (env:List AV) (K:Nat->List AV->Option (bm sh.tys)) (K':Nat->List AV->Prop),t.fn tab mt n sh env K=some z->(∀l us,K l us=some z->K' l us)->t.den P (·=pw sh z) env K':=by
 intro t;induction t with
 |stop _ _=>intro env K K' h _;cases h
 | ret x=>
  intro env K K' h _;have h:Bool.rec (motive:=fun _=>Option (bm sh.tys)) none (some (eQ sh.tys (reL env x))) ((reS x).eqb sh)=some z:=h
  cases hb:(reS x).eqb sh with
  |false=>rw[hb]at h;cases h
  |true=>
   rw[hb]at h;have h:some (eQ sh.tys (reL env x))=some z:=h
   have hs:=RS.eqb_eq hb;rw[QE env x]at hs;show x.den env=pw sh z
   rw[<-Option.some.inj h,Ql,NZ hs]
 |need e t ih=>
  intro env K K' h hK;have h:cond (evX env e).b (t.fn tab mt n sh env K) none=some z:=h
  rw[(kr env e).2.2.1]at h;cases hb:(Sx.den env e).b with
  |false=>rw[hb]at h;cases h
  |true=>rw[hb]at h;exact⟨hb,ih env K K' h hK⟩
 |br e a b iha ihb=>
  intro env K K' h hK;have h:cond (evX env e).b (a.fn tab mt n sh env K) (b.fn tab mt n sh env K)=some z:=h
  rw[(kr env e).2.2.1]at h;refine⟨fun hb=>?_,fun hb=>?_⟩
  ·rw[hb]at h;exact iha env K K' h hK
  ·rw[hb]at h;exact ihb env K K' h hK
 | call f args sh' t ih=>
  intro env K K' h hK;have h:(H7 tab f fun F=>Bool.rec (motive:=fun _=>Option (bm sh.tys)) none (Option.bind (F.fn n (eQ (Ps.tys F.ps) (dU (evX env args).g))) fun y=>t.fn tab mt n sh (env++gj F.sh.tys y) K) (and (F.sh.eqb sh') (pz F.ps (evX env args).g)))=some z:=h
  obtain⟨F,h1,h2⟩:=Oc h;cases hb:(F.sh.eqb sh'&&pz F.ps (evX env args).g)with
  |false=>rw[show(and (F.sh.eqb sh') (pz F.ps (evX env args).g))=false from hb]at h2;cases h2
  |true=>
   rw[show(and (F.sh.eqb sh') (pz F.ps (evX env args).g))=true from hb]at h2
   obtain⟨y,hy,hz⟩:=Option.bind_eq_some_iff.1 (show Option.bind (F.fn n (eQ (Ps.tys F.ps) (dU (evX env args).g))) _=some z from h2)
   rw[Bool.and_eq_true]at hb;have hs:=RS.eqb_eq hb.1;have hc:=hC _ h1 n _ y hy;dsimp only at hc
   rw[Ig hb.2,(kr env args).2.2.2.2.2.1]at hc;refine⟨pw F.sh y,by rw[Lz,hs],hc,?_⟩
   rw[KE];exact ih _ K K' hz hK
 | loop lvl inits sorts key locs t ih=>
  intro env K K' h hK;have h:Bool.rec (motive:=fun _=>Option (bm sh.tys)) none (aa (σ:=bm sorts) (fun go s=>t.fn tab mt n sh (env++gj sorts s) fun l us=>Bool.rec (motive:=fun _=>Option (bm sh.tys)) (K l us) (Bool.rec (motive:=fun _=>Option (bm sh.tys)) none (go (eQ sorts us)) (Nat.beq us.length sorts.length)) (Nat.beq l lvl)) n (eQ sorts (evX env inits).g)) (Nat.beq (evX env inits).g.length sorts.length)=some z:=h
  cases hl:Nat.beq (evX env inits).g.length sorts.length with
  |false=>rw[hl]at h;cases h
  | true=>
   rw[hl]at h;have h:aa (σ:=bm sorts) (fun go s=>t.fn tab mt n sh (env++gj sorts s) fun l us=>Bool.rec (motive:=fun _=>Option (bm sh.tys)) (K l us) (Bool.rec (motive:=fun _=>Option (bm sh.tys)) none (go (eQ sorts us)) (Nat.beq us.length sorts.length)) (Nat.beq l lvl)) n (eQ sorts (evX env inits).g)=some z:=h
   obtain⟨step,hstep⟩:∃step,step=fun(go:bm sorts->Option (bm sh.tys)) (s:bm sorts)=>t.fn tab mt n sh (env++gj sorts s) fun l us=>Bool.rec (motive:=fun _=>Option (bm sh.tys)) (K l us) (Bool.rec (motive:=fun _=>Option (bm sh.tys)) none (go (eQ sorts us)) (Nat.beq us.length sorts.length)) (Nat.beq l lvl):=⟨_,rfl⟩
   rw[<-hstep]at h;refine T.den_loop (gj sorts) (fun s=>∃m,aa step m s=some z) (fun s=>lJ fun m=>aa step m s=some z) (eQ sorts (evX env inits).g) ?_ ⟨n,h⟩ fun s hI=>?_
   ·rw[vk _ _ (Nat.eq_of_beq_eq_true hl),(kr env inits).2.2.2.2.2.1]
   obtain⟨h1,h2⟩:=kR hI;obtain⟨m,hm⟩:∃m,m=lJ fun m=>aa step m s=some z:=⟨_,rfl⟩
   rw[<-hm]at h1 h2⊢
   cases m with
   |zero=>cases h1
   | succ m=>
    have h1:step (aa step m) s=some z:=h1
    have hst:step (aa step m) s=t.fn tab mt n sh (env++gj sorts s) fun l us=>Bool.rec (motive:=fun _=>Option (bm sh.tys)) (K l us) (Bool.rec (motive:=fun _=>Option (bm sh.tys)) none (aa step m (eQ sorts us)) (Nat.beq us.length sorts.length)) (Nat.beq l lvl):=by rw[hstep]
    rw[hst]at h1;refine ih _ _ _ h1 fun l us hu=>?_
    unfold upd;cases hb:Nat.beq l lvl with
    | true=>
     rw[hb]at hu;have:=Nat.eq_of_beq_eq_true hb
     rw[if_pos this];cases hc:Nat.beq us.length sorts.length with
     |false=>rw[hc]at hu;cases hu
     |true=>
      rw[hc]at hu;have hu:aa step m (eQ sorts us)=some z:=hu
      exact⟨eQ sorts us,(vk _ _ (Nat.eq_of_beq_eq_true hc)).symm,⟨m,hu⟩,Nat.lt_succ_of_le ((kR ⟨m,hu⟩).2 m hu)⟩
    |false=>
     rw[hb]at hu;have:l≠lvl:=fun e=>by subst e;rw[show Nat.beq l l=true from Nat.beq_refl l]at hb;cases hb
     rw[if_neg this];exact hK _ _ hu
 |again lvl es=>
  intro env K K' h hK;have h:K lvl (evX env es).g=some z:=h
  rw[(kr env es).2.2.2.2.2.1]at h;exact hK _ _ h
 |ext f ks vs t ih=>
  intro env K K' h hK;have h:Bool.rec (motive:=fun _=>Option (bm sh.tys)) none (t.fn tab mt n sh env K) (J2 mt f ks vs)=some z:=h
  cases hb:J2 mt f ks vs with
  |false=>rw[hb]at h;cases h
  |true=>rw[hb]at h;exact⟨hM _ (PF hb),ih env K K' h hK⟩
theorem FnT.ok_of{cfg:Cfg}{f:Nat}{F:FnT}{tab:Tab}{mt:MTab}(hfit:PFit P)(hC:tab.ok P)(hM:mt.ok P)(ho:∀s fn,P.funcs[f]?=some fn->zU P fn.params.toList (IK F.ps s)=true)
  (h:∀n s,(LR P cfg f).fn tab mt n F.sh (dU (IK F.ps s)) (fun _ _=>none)=F.fn n s):F.ok P f:=fun n s z hz=>by
 rw[<-h n s]at hz;exact LW (cfg:=cfg) (K:=fun _ _=>False) hfit (ho s) (by rw[<-FV];exact T.fn_den hC hM _ _ _ _ hz fun _ _ h=>by cases h)
theorem Tab.ok_nil:Tab.ok P []:=fun _ h=>by cases h
theorem Tab.ok_cons{f:Nat}{F:FnT}{tab:Tab}(h:F.ok P f)(ht:tab.ok P):Tab.ok P ((f,F)::tab):=fun x hx=>by
 rcases List.mem_cons.1 hx with rfl|hx
 ·exact h
 ·exact ht x hx
end
end Go.Sx
namespace Go.Proofs.YtgckmifmjiklmaaGreat
open Go Go.Sx
theorem MN:Tryz.prog.funcs.toList.all (fun fn=>fn.name != "runtime.NumGoroutine")=true:=by kernel_rfl
theorem KY:Tryz.prog.follows .mixedOrders=true:=by kernel_rfl
theorem av:PFit Tryz.prog:=⟨KY,fun f fn h=>by
 have h1:fn∈Tryz.prog.funcs.toList:=by rw[Array.mem_toList_iff];exact Array.mem_of_getElem? h
 have h2:=List.all_eq_true.1 MN fn h1;simpa using h2⟩
end Go.Proofs.YtgckmifmjiklmaaGreat
set_option maxRecDepth 100000
namespace Go.Proofs.YtgckmifmjiklmaaGreat
open Go Go.Sx
noncomputable section
def aL:List Nat:=[11,12,13,14,15,16,17,18,19,20,21,22,23,24,25,26,27,28,29,30,31,32,33,34,35,36,37,38,40,46,47,51,52,54,55,56,57,58,59,61,62,63,64,66,67,69,80,83,87,90,91,92,95,96,115,116,121,122,127,128,164,165,166,197,198,201,204,205,216,229,1000012,1000056,1000197,1000216,1000229]
def Tab0:Tab:=[]
theorem KI:Tab0.ok Tryz.prog:=Tab.ok_nil
def mt0:MTab:=[]
theorem aA:mt0.ok Tryz.prog:=fun _ h=>by cases h
abbrev ye:=Int
def Ah(n:Nat)(v0 v1:Int):Option ye:=
 (bif v0<0 then bif(-9223372036854775808<=(v0+1))&&((v0+1)<=9223372036854775807)then bif(-9223372036854775808<=(0-(v0+1)))&&((0-(v0+1))<=9223372036854775807)then bif !(v1=0)then some (Int.tmod (0-(v0+1)) v1)else none else none else none else bif !(v1=0)then some (Int.tmod v0 v1)else none)
def dQ(n:Nat)(v0 v1:Int):Option ye:=Ah n v0 v1
abbrev tSh:Ty:=.sl (.cons .int (.cons .int (.cons .int (.cons .int (.cons .int (.cons .int (.cons .int (.cons .int .nil))))))))
abbrev tSg:Ty:=.sl (.cons .int (.cons .int (.cons .int (.cons .int (.cons .int (.cons .int (.cons .int .nil)))))))
abbrev tSc:Ty:=.sl (.cons .int (.cons .int (.cons .int .nil)))
abbrev tSa:Ty:=.sl (.cons .int .nil)
def ref13_pick_t:FnT:=⟨[(false,[.int]),(false,[.int])],.i,fun n (s:Int×Int)=>dQ n s.1 s.2⟩
theorem Hj:ref13_pick_t.ok Tryz.prog 96:=FnT.ok_of (cfg:=⟨[],aL,[],[]⟩) av KI aA (fun s fn hf=>by rw[Tryz.func96]at hf;cases hf;kernel_rfl) (fun n s=>by kernel_rfl)
def ref13_pick_T:Tab:=(96,ref13_pick_t)::Tab0
theorem r9:ref13_pick_T.ok Tryz.prog:=Tab.ok_cons Hj KI
abbrev wM:=Int×Int
def xe(n:Nat)(v0 v1:Int):Option wM:=
 (dQ n v0 60).bind fun y2=>
 bif(-9223372036854775808<=(y2+1))&&((y2+1)<=9223372036854775807)then bif(-9223372036854775808<=(60-y2))&&((60-y2)<=9223372036854775807)then(dQ n v1 (60-y2)).bind fun y3=>
 bif(-9223372036854775808<=((y2+1)+y3))&&(((y2+1)+y3)<=9223372036854775807)then(dQ n v0 8).bind fun y4=>
 (bif y4=7 then bif(-9223372036854775808<=(1666666*y2))&&((1666666*y2)<=9223372036854775807)then bif(-9223372036854775808<=(1666666*((y2+1)+y3)))&&((1666666*((y2+1)+y3))<=9223372036854775807)then bif(-9223372036854775808<=((1666666*((y2+1)+y3))+40))&&(((1666666*((y2+1)+y3))+40)<=9223372036854775807)then some ((1666666*y2),((1666666*((y2+1)+y3))+40))else none else none else none else some (y2,((y2+1)+y3)))else none else none else none
def eH(n:Nat)(v0 v1:Int):Option wM:=xe n v0 v1
def ref13_Piece_t:FnT:=⟨[(false,[.int]),(false,[.int])],(.agg (.cons .i (.cons .i .nil))),fun n (s:Int×Int)=>eH n s.1 s.2⟩
theorem E4:ref13_Piece_t.ok Tryz.prog 61:=FnT.ok_of (cfg:=⟨[],aL,[],[]⟩) av r9 aA (fun s fn hf=>by rw[Tryz.func61]at hf;cases hf;kernel_rfl) (fun n s=>by kernel_rfl)
def ref13_Piece_T:Tab:=(61,ref13_Piece_t)::ref13_pick_T
theorem pe:ref13_Piece_T.ok Tryz.prog:=Tab.ok_cons E4 r9
abbrev jJ:=Bool
abbrev tU:=Int
def vY(n:Nat)(go0:tU->Option jJ)(v0:Lv)(v1:Int):Option jJ:=
 (bif v1<(v0.length:Int) then bif 0<=v1 then(bif 0<=(cI v0 v1 0) then(bif (cI v0 v1 0)<(cI v0 v1 1) then(bif !((cI v0 v1 1)<=100000000)then some false else(bif 0<=(cI v0 v1 2) then(bif !((cI v0 v1 2)<=7)then some false else(bif 0<v1 then bif(-9223372036854775808<=(v1-1))&&((v1-1)<=9223372036854775807)then bif 0<=(v1-1) then bif (v1-1)<(v0.length:Int) then(bif (cI v0 v1 0)<(cI v0 (v1-1) 1) then some false else(bif (cI v0 (v1-1) 1)=(cI v0 v1 0) then(bif (cI v0 (v1-1) 2)=(cI v0 v1 2) then some false else bif(-9223372036854775808<=(v1+1))&&((v1+1)<=9223372036854775807)then go0 (v1+1)else none)else bif(-9223372036854775808<=(v1+1))&&((v1+1)<=9223372036854775807)then go0 (v1+1)else none))else none else none else none else bif(-9223372036854775808<=(v1+1))&&((v1+1)<=9223372036854775807)then go0 (v1+1)else none))else some false))else some false)else some false)else none else some true)
def xb(n:Nat)(v0:Lv):Option jJ:=
 (bif 40<(v0.length:Int) then some false else(aa (fun go0 s=>vY n go0 v0 s) n (0:tU)))
def ce(n:Nat)(v0:Lv):Option jJ:=xb n v0
def ref13_Valid_t:FnT:=⟨[(false,[tSc])],.b,fun n (s:Lv)=>ce n s⟩
theorem Fs:ref13_Valid_t.ok Tryz.prog 67:=FnT.ok_of (cfg:=⟨[((67,4,0),.inv [(.tmp 3 .int)])],aL,[],[]⟩) av pe aA (fun s fn hf=>by rw[Tryz.func67]at hf;cases hf;kernel_rfl) (fun n s=>by kernel_rfl)
def ref13_Valid_T:Tab:=(67,ref13_Valid_t)::ref13_Piece_T
theorem pE:ref13_Valid_T.ok Tryz.prog:=Tab.ok_cons Fs pe
abbrev iT:=Int
abbrev qB:=Int
def sW(n:Nat)(go0:qB->Option iT)(v0:Lv)(v1 v2:Int):Option iT:=
 (bif v2<(v0.length:Int) then bif 0<=v2 then(bif (cI v0 v2 0)<=v1 then(bif v1<(cI v0 v2 1) then some (cI v0 v2 2)else bif(-9223372036854775808<=(v2+1))&&((v2+1)<=9223372036854775807)then go0 (v2+1)else none)else bif(-9223372036854775808<=(v2+1))&&((v2+1)<=9223372036854775807)then go0 (v2+1)else none)else none else some (-1))
def tY(n:Nat)(v0:Lv)(v1:Int):Option iT:=
 (aa (fun go0 s=>sW n go0 v0 v1 s) n (0:qB))
def iB(n:Nat)(v0:Lv)(v1:Int):Option iT:=tY n v0 v1
def ref13_holder_t:FnT:=⟨[(false,[tSc]),(false,[.int])],.i,fun n (s:Lv×Int)=>iB n s.1 s.2⟩
theorem D3:ref13_holder_t.ok Tryz.prog 198:=FnT.ok_of (cfg:=⟨[((198,2,0),.inv [(.tmp 5 .int)])],aL,[],[]⟩) av pE aA (fun s fn hf=>by rw[Tryz.func198]at hf;cases hf;kernel_rfl) (fun n s=>by kernel_rfl)
def ref13_holder_T:Tab:=(198,ref13_holder_t)::ref13_Valid_T
theorem nB:ref13_holder_T.ok Tryz.prog:=Tab.ok_cons D3 pE
abbrev kj:=Bool
abbrev w6:=Int
def IZ(n:Nat)(go0:w6->Option kj)(v0 v1:Lv)(v2:Int):Option kj:=
 (bif v2<(v0.length:Int) then bif 0<=v2 then bif v2<(v1.length:Int) then(bif(!(((decide ((cI v0 v2 0)=(cI v1 v2 0)))&&(decide ((cI v0 v2 1)=(cI v1 v2 1))))&&(decide ((cI v0 v2 2)=(cI v1 v2 2)))))then some false else bif(-9223372036854775808<=(v2+1))&&((v2+1)<=9223372036854775807)then go0 (v2+1)else none)else none else none else some true)
def Jw(n:Nat)(v0 v1:Lv):Option kj:=
 (bif !((v0.length:Int)=(v1.length:Int))then some false else(aa (fun go0 s=>IZ n go0 v0 v1 s) n (0:w6)))
def Ek(n:Nat)(v0 v1:Lv):Option kj:=Jw n v0 v1
def ref13_Same_t:FnT:=⟨[(false,[tSc]),(false,[tSc])],.b,fun n (s:Lv×Lv)=>Ek n s.1 s.2⟩
theorem Gn:ref13_Same_t.ok Tryz.prog 32:=FnT.ok_of (cfg:=⟨[((32,4,0),.inv [(.tmp 5 .int)])],aL,[],[]⟩) av nB aA (fun s fn hf=>by rw[Tryz.func32]at hf;cases hf;kernel_rfl) (fun n s=>by kernel_rfl)
def ref13_Same_T:Tab:=(32,ref13_Same_t)::ref13_holder_T
theorem rV:ref13_Same_T.ok Tryz.prog:=Tab.ok_cons Gn nB
end
end Go.Proofs.YtgckmifmjiklmaaGreat
