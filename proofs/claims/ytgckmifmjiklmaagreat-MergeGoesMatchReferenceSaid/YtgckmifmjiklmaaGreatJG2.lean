/-
  Texts of this claim, joined (part 2).
-/
import Derived.Test.YtgckmifmjiklmaaGreatJG1
import Derived.Laws.StructEq
import Derived.Laws.Small
import Derived.Laws.IdiomCopy
import Derived.MapKept
import Derived.OrdersIn
import Derived.LoopNIn
import Derived.RangeFuncNested
import Derived.Orders
import Derived.RangeFuncLeaves
set_option linter.unusedVariables false
set_option linter.unusedSimpArgs false
set_option linter.unusedSectionVars false
set_option linter.constructorNameAsVariable false
namespace Go.Sx
open Go Go.RowKit Go.Dial
variable {env:List AV} {κ κ':Nat->Value} {F F':Nat->Prop} {w w' w0:World} {U:Nat->Prop} {tmp:Nat->SV} {blk:Nat->Option SB} {L:Nat} {a:Act} {P:Program}
theorem j7(h:Rel w0 env κ F U tmp blk L a w){x:Option Operand}{d e:E}(hx:da (ah tmp) x d=some e):(x=none/\e=d)\/∃o,x=some o/\ah tmp o=.vi e/\a.eval o=.int .i64 (den env e).i:=by
 unfold da at hx;split at hx
 ·cases hx;exact .inl ⟨rfl,rfl⟩
 ·rename_i o
  split at hx
  ·rename_i e' he
   cases hx
   have:=h.ev o
   rw[he]at this;exact .inr ⟨o,rfl,he,this.1⟩
  ·cases hx
theorem nW{lo hi len:E}(hn:∀e∈dR lo hi len,(den env e).b=true):0<=(den env lo).i/\(den env lo).i<=(den env hi).i/\(den env hi).i<=(den env len).i:=by
 unfold dR at hn;have h1:=cZ (bo fun e he=>hn e (List.mem_append_left _ (List.mem_append_left _ he)))
 have h2:=cZ (bo fun e he=>hn e (List.mem_append_left _ (List.mem_append_right _ he)))
 have h3:=cZ (bo fun e he=>hn e (List.mem_append_right _ he))
 exact⟨of_decide_eq_true h1,of_decide_eq_true h2,of_decide_eq_true h3⟩
theorem uE(h:Rel w0 env κ F U tmp blk L a w){lo hi:Option Operand}{d0 d1 l q:E}(hl:da (ah tmp) lo d0=some l)(hh:da (ah tmp) hi d1=some q){n c lv qv:Nat}(hd1:q=d1->(den env q).i=n)(hd0:l=d0->(den env l).i=0)
  (hlv:(lv:Int)=(den env l).i) (hqv:(qv:Int)=(den env q).i) (hqc:qv<=c) (hlq:lv<=qv):(Instr.sliceBounds true n c (lo.map a.eval) (hi.map a.eval) none).run P w=.ok (lv,qv,c) w:=by
 have e1:∀o,hi=some o->a.eval o=.int .i64 (qv:Int):=fun o e=>by
  rcases j7 h hh with⟨e2,_⟩|⟨o',e2,_,e3⟩
  ·rw[e]at e2;cases e2
  ·rw[e]at e2;cases e2;rw[e3,hqv]
 have e2:hi=none->qv=n:=fun e=>by
  rcases j7 h hh with⟨_,e2⟩|⟨o',e2,_⟩
  ·have:=hd1 e2;omega
  ·rw[e]at e2;cases e2
 have e3:∀o,lo=some o->a.eval o=.int .i64 (lv:Int):=fun o e=>by
  rcases j7 h hl with⟨e2,_⟩|⟨o',e2,_,e3⟩
  ·rw[e]at e2;cases e2
  ·rw[e]at e2;cases e2;rw[e3,hlv]
 have e4:lo=none->lv=0:=fun e=>by
  rcases j7 h hl with⟨_,e2⟩|⟨o',e2,_⟩
  ·have:=hd0 e2;omega
  ·rw[e]at e2;cases e2
 cases hi with
 | none=>
  have:=e2 rfl
  subst this;cases lo with
  |none=>have:=e4 rfl;subst this;simp[Instr.sliceBounds]
  |some o=>
   have:=e3 o rfl
   simp[Instr.sliceBounds,Instr.sliceBound,asIntOf,this]
   try (intro hh;exfalso;omega)
 | some o=>
  have h5:=e1 o rfl;cases lo with
  |none=>have:=e4 rfl;subst this;simp[Instr.sliceBounds,Instr.sliceBound,asIntOf,h5];try (intro hh;exfalso;omega)
  |some o'=>
   have h6:=e3 o' rfl;simp[Instr.sliceBounds,Instr.sliceBound,asIntOf,h5,h6]
   rw[if_pos (by omega)]
   simp[hlq]
theorem OI{o:Oper}{t ety:Nat}{row ty:Ty}{x:Operand}{lo hi:Option Operand}(ho:o.op=.slice t x lo hi none)(h:Rel w0 env κ F U tmp blk L a w)(ht:bC P t=some (ety,row)){e l q:E}(hx:ah tmp x=.vs ty e)(hty:ty=row)
  (hl:da (ah tmp) lo (.int 0)=some l) (hh:da (ah tmp) hi e.len'=some q) (hn:∀x∈dR l q e.len',(den env x).b=true):
  Good P w0 env κ F U tmp blk L a w o (.vs ty (if lo.isNone then .take e q else .drop (.take e q) l)) []:=by
 subst hty;obtain⟨u1,u2,u3,_,u5,_⟩:=bS ht;have hev:=h.ev x;rw[hx]at hev;obtain⟨A,c,g1,g2,g3,g4,g5⟩:=Den.view hev;obtain⟨n1,n2,n3⟩:=nW hn;rw[cP]at n3;simp only[AV.i_int]at n3;have hc:=maxLen;obtain⟨lv,hlv⟩:∃k:Nat,(k:Int)=(den env l).i:=⟨(den env l).i.toNat,by omega⟩
 obtain⟨qv,hqv⟩:∃k:Nat,(k:Int)=(den env q).i:=⟨(den env q).i.toNat,by omega⟩
 have hql:qv<=(den env e).l.length:=by omega
 have hlq:lv<=qv:=by omega
 have hsz:=cG (w:=w) u5;have hb:=uE (P:=P) (w:=w) h hl hh (n:=(den env e).l.length) (c:=c) (by intro e2;rw[e2,cP];rfl) (by intro e2;rw[e2];rfl) hlv hqv (by omega) hlq
 have hrun:(Instr.sliceAt t (a.eval x) (lo.map a.eval) (hi.map a.eval) none).run P w=.ok (.slice (if c=lv then A else A.map (·.add (lv*ty.len))) (qv-lv) (c-lv)) w:=by
  rw[g1];simp only[Instr.sliceAt,run_underlying u1,Sem.run_bind,Result.andThen_ok,Instr.slice,hb,hsz,Sem.run_pure,u2]
 have hR:dd P o a w (.slice (if c=lv then A else A.map (·.add (lv*ty.len))) (qv-lv) (c-lv)) w:=.inl (by
  simp only[execOp,ho,Option.map_none,Sem.run_bind,hrun,Result.andThen_ok,Sem.run_pure])
 have hden:(den env (if lo.isNone then E.take e q else E.drop (.take e q) l)).l=((den env e).l.take qv).drop lv:=by
  cases lo with
  | none=>
   rcases j7 h hl with⟨_,e2⟩|⟨o',e2,_⟩
   ·rw[e2]at hlv;simp only[den,AV.i_int]at hlv
    have:lv=0:=by omega
    subst this;simp[den,<-hqv]
   ·cases e2
  |some o=>simp[den,<-hqv,<-hlv]
 refine au h hR ?_
 show Den F w _ (.sl ty (den env _).l)
 rw[hden];refine Den.mk (by simp;omega) (by omega) (by omega) (fun i r hr=>?_) (fun hne=>?_)
 ·rw[List.getElem?_drop,List.getElem?_take]at hr
  split at hr
  ·exact g4 _ r hr
  ·cases hr
 ·have hlt:lv<qv:=by
   rcases Nat.lt_or_ge lv qv with h|h
   ·exact h
   ·exact absurd (List.eq_nil_of_length_eq_zero (by simp;omega)) hne
  obtain⟨p,rfl,hp,_⟩:=g5 0 _ (List.getElem?_eq_getElem (by omega))
  refine⟨p.add (lv*ty.len),?_,by rw[qZ];exact hp,fun i r hr k y hy=>?_⟩
  ·rw[if_neg (by omega)];rfl
  ·rw[List.getElem?_drop,List.getElem?_take]at hr
   split at hr
   ·obtain⟨p',e1,_,hc⟩:=g5 _ r hr
    cases e1
    obtain⟨u,hu,hd⟩:=hc k y hy;refine⟨u,?_,hd⟩
    rw[j0,<-hu];congr 2;rw[Nat.add_mul];omega
   ·cases hr
theorem HK{o:Oper}{t ety:Nat}{row ty:Ty}{x mx:Operand}{hi:Option Operand}(ho:o.op=.slice t x none hi (some mx))(h:Rel w0 env κ F U tmp blk L a w)(ht:bC P t=some (ety,row)){e q:E}(hx:ah tmp x=.vs ty e)(hty:ty=row)
  (hh:da (ah tmp) hi (.int 0)=some q) (hmx:da (ah tmp) (some mx) (.int 0)=some q) (his:hi.isSome=true) (hn:∀x∈dR (.int 0) q e.len',(den env x).b=true) {m:Nat} (hm:¬U m):
  Good P w0 env κ F U tmp blk L a w o (.row m) [(m,some (.ice 1 ty (.take e q)))]:=by
 subst hty;obtain⟨u1,u2,u3,_,u5,_⟩:=bS ht;have hev:=h.ev x;rw[hx]at hev;obtain⟨A,c,g1,g2,g3,g4,g5⟩:=Den.view hev;obtain⟨_,n2,n3⟩:=nW hn;rw[cP]at n3;simp only[AV.i_int,den]at n2 n3;obtain⟨qv,hqv⟩:∃k:Nat,(k:Int)=(den env q).i:=⟨(den env q).i.toNat,by omega⟩
 have hql:qv<=(den env e).l.length:=by omega
 have hsz:=cG (w:=w) u5;obtain⟨ho',rfl⟩:∃o',hi=some o':=Option.isSome_iff_exists.1 his
 have v1:a.eval ho'=.int .i64 (qv:Int):=by
  rcases j7 h hh with⟨e2,_⟩|⟨o',e2,_,e3⟩
  ·cases e2
  ·cases e2;rw[e3,hqv]
 have v2:a.eval mx=.int .i64 (qv:Int):=by
  rcases j7 h hmx with⟨e2,_⟩|⟨o',e2,_,e3⟩
  ·cases e2
  ·cases e2;rw[e3,hqv]
 have hrun:(Instr.sliceAt t (a.eval x) none (some (a.eval ho')) (some (a.eval mx))).run P w=.ok (.slice A qv qv) w:=by
  rw[g1,v1,v2];have hqc:qv<=c:=by omega
  simp[Instr.sliceAt,run_underlying u1,Instr.slice,hsz,Instr.sliceBounds,Instr.sliceBound,asIntOf,hqc]
  intro _;cases A with
  |none=>rfl
  |some b=>cases b;simp[Addr.add]
 have hR:dd P o a w (.slice A qv qv) w:=.inl (by
  simp only[execOp,ho,Option.map_none,Option.map_some,Sem.run_bind,hrun,Result.andThen_ok,Sem.run_pure])
 have hden:(den env (E.take e q)).l=(den env e).l.take qv:=by simp[den,<-hqv]
 have hD:Den F w (.slice A qv qv) (.sl ty (den env (E.take e q)).l):=by
  rw[hden];refine Den.mk (by simp;omega) (Nat.le_refl _) (by omega) (fun i r hr=>?_) (fun hne=>?_)
  ·rw[List.getElem?_take]at hr
   split at hr
   ·exact g4 _ r hr
   ·cases hr
  ·have hlt:0<qv:=by
    rcases Nat.eq_zero_or_pos qv with h|h
    ·exact absurd (by rw[h];rfl) hne
    ·exact h
   obtain⟨p,rfl,hp,_⟩:=g5 0 _ (List.getElem?_eq_getElem (by omega))
   refine⟨p,rfl,hp,fun i r hr k y hy=>?_⟩
   rw[List.getElem?_take]at hr;split at hr
   ·obtain⟨p',e1,_,hc⟩:=g5 _ r hr
    cases e1
    exact hc k y hy
   ·cases hr
 have hne:∀b,U b->b≠m:=fun b hb e=>hm (e▸hb)
 have hlen:(den env (E.take e q)).l.length=qv:=by rw[hden];simp;omega
 have hlive:∀b,aB (upd blk m (some (SB.ice 1 ty (.take e q))) b)=true->aB (blk b)=true/\b≠m:=fun b hb=>by
  by_cases e:b=m
  ·subst e;rw[ao]at hb;cases hb
  ·rw[ab e]at hb;exact⟨hb,e⟩
 refine⟨_,w,upd κ m (.slice A qv qv),F,hR,?_,⟨(ao κ m _).symm,rfl⟩,fun b hb=>ab (hne b hb),fun _ h=>h,fun _ h=>.inl h,Nat.le_refl _,fun _ _ _=>rfl,fun b k h1 h2=>?_,.of fun _ _=>.inr rfl⟩
 ·refine h.world (fun b hb=>.inl hb) (fun b hb=>ab (hne b hb)) (fun k hk=>hk) (fun _ _=>rfl) (fun b y hy=>?_) (fun b q k hb hq h1 h2=>?_) (fun b k hb h1=>?_) (fun k hF=>h.F k hF) h.below
  ·by_cases e2:b=m
   ·subst e2
    rw[show aJ blk [(b,some (SB.ice 1 ty (.take e q)))] b=_ from ao _ _ _]at hy;cases hy
    refine .inr ⟨⟨?_,fun _=>⟨A,?_⟩⟩,.inr ⟨_,List.mem_singleton.2 rfl,rfl⟩,fun c hc=>by cases hc⟩
    ·rw[ao];exact hD
    ·rw[ao,hlen]
   ·rw[show aJ blk [(m,some (SB.ice 1 ty (.take e q)))] b=_ from ab e2]at hy
    exact .inl ⟨hy,fun _ _ _=>rfl⟩
  ·obtain⟨b1,b2⟩:=hlive b hb
   obtain⟨q1,q2⟩:=hlive q hq;rw[ab b2]at h1;rw[ab q2]at h2;exact h.inj b q k b1 q1 h1 h2
  ·obtain⟨b1,b2⟩:=hlive b hb
   rw[ab b2]at h1;exact h.nF b k b1 h1
 ·obtain⟨b1,b2⟩:=hlive b h1
  rw[ab b2]at h2;exact .inr ⟨b,b1,h2⟩
theorem Jo{o:Oper}{t ety:Nat}{row:Ty}{x:Operand}{lo hi:Option Operand}(ho:o.op=.slice t x lo hi none)(h:Rel w0 env κ F U tmp blk L a w)(ht:bC P t=some (ety,row))(hx:ah tmp x=.nilsl){l q:E}
  (hl:da (ah tmp) lo (.int 0)=some l) (hh:da (ah tmp) hi (.int 0)=some q) (hn:∀x∈dR l q (.int 0),(den env x).b=true):Good P w0 env κ F U tmp blk L a w o .nilsl []:=by
 obtain⟨u1,u2,u3,_,u5,_⟩:=bS ht;have hev:=h.ev x;rw[hx]at hev;obtain⟨n1,n2,n3⟩:=nW hn;simp only[den,AV.i_int]at n3;have hb:=uE (P:=P) (w:=w) h hl hh (n:=0) (c:=0) (lv:=0) (qv:=0) (by intro _;omega) (by intro _;omega) (by omega) (by omega) (by omega) (Nat.le_refl _)
 have hsz:=cG (w:=w) u5;refine au h (u:=.slice none 0 0) (.inl ?_) rfl
 have hrun:(Instr.sliceAt t (a.eval x) (lo.map a.eval) (hi.map a.eval) none).run P w=.ok (.slice none 0 0) w:=by
  rw[show a.eval x=_ from hev]
  simp only[Instr.sliceAt,run_underlying u1,Sem.run_bind,Result.andThen_ok,Instr.slice,hb,hsz,Sem.run_pure];rfl
 simp only[execOp,ho,Option.map_none,Sem.run_bind,hrun,Result.andThen_ok,Sem.run_pure]
theorem JZ{o:Oper}{t ety:Nat}{row:Ty}{x:Operand}{hi:Option Operand}(ho:o.op=.slice t x none hi none)(h:Rel w0 env κ F U tmp blk L a w)(ht:bC P t=some (ety,row)){d m:Nat}(hm:¬U m)(hx:ah tmp x=.row d){l q:E}(hd:blk d=some (.row ety row l))
  (hi':hi.isSome=true) (hh:da (ah tmp) hi (.int 0)=some q) (hn:∀x∈dR (.int 0) q l.len',(den env x).b=true):Good P w0 env κ F U tmp blk L a w o (.row m) [(d,some (.dead l)),(m,some (.row ety row (.take l q)))]:=by
 obtain⟨u1,u2,u3,_,u5,_⟩:=bS ht;have hev:=h.ev x;rw[hx]at hev;obtain⟨n1,n2,n3⟩:=nW hn;rw[cP]at n3;simp only[den,AV.i_int]at n2 n3;obtain⟨us,hown,hpos,hrow⟩:=h.blks d _ hd;obtain⟨qv,hqv⟩:∃k:Nat,(k:Int)=(den env q).i:=⟨(den env q).i.toNat,by omega⟩
 have hql:qv<=(den env l).l.length:=by omega
 have hsz:=cG (w:=w) u5;obtain⟨A,c,hκ,hc⟩:∃A c,κ d=.slice A (den env l).l.length c/\(den env l).l.length<=c:=by
  rcases hown.2 with⟨e,e'⟩|⟨g,cap,cur,e,_,_,hnc,_⟩
  ·exact⟨none,0,by rw[e,e'],by omega⟩
  ·exact⟨_,_,e,hnc⟩
 have hne:hi≠none:=fun e=>by rw[e]at hi';cases hi'
 have hb:(Instr.sliceBounds true (den env l).l.length c none (hi.map a.eval) none).run P w=.ok (0,qv,c) w:=by
  have e1:∃o,hi=some o/\a.eval o=.int .i64 (qv:Int):=by
   rcases j7 h hh with⟨e2,_⟩|⟨o',e2,_,e3⟩
   ·exact absurd e2 hne
   ·exact⟨o',e2,by rw[e3,hqv]⟩
  obtain⟨o',rfl,h5⟩:=e1;simp[Instr.sliceBounds,Instr.sliceBound,asIntOf,h5];try (intro hh;exfalso;omega)
 have hid:A.map (·.add (0*P.cellsOf ety))=A:=by cases A<;>simp[Addr.add]
 have hrun:(Instr.sliceAt t (a.eval x) none (hi.map a.eval) none).run P w=.ok (.slice A qv c) w:=by
  rw[hev.1,hκ];simp only[Instr.sliceAt,run_underlying u1,Sem.run_bind,Result.andThen_ok,Instr.slice,hb,hsz,Sem.run_pure,hid,Nat.sub_zero,ite_self]
 have hR:dd P o a w (.slice A qv c) w:=.inl (by
  simp only[execOp,ho,Option.map_none,Sem.run_bind,hrun,Result.andThen_ok,Sem.run_pure])
 have hbl:ai (.slice A qv c)=ai (κ d):=by rw[hκ];cases A<;>rfl
 have hdm:d≠m:=fun e=>by subst e;exact hm (h.bnames d _ hd).1
 refine⟨_,w,upd κ m (.slice A qv c),F,hR,?_,⟨(ao κ m _).symm,rfl⟩,h.moved_kept hd rfl rfl rfl hm (ol _ _) (fun k hk=>.inl (by rw[<-hbl];exact hk))⟩
 refine(h.moved (y:=.row ety row (.take l q)) (z:=.dead l) hd rfl rfl ⟨A,c,by rw[ab hdm];exact hκ⟩ rfl hm (ol _ _) (fun k hk=>.inl (by rw[<-hbl];exact hk)) ⟨us.take (qv*row.len),?_,u3,fun i r hr=>?_,fun i r k y hr hy=>?_⟩ (fun c hc=>by cases hc) h.below).monoU (fun b hb=>?_)
 ·rw[ao]
  have hlen:(den env (.take l q)).l.length=qv:=by simp[den,<-hqv];omega
  rw[hlen];have hmul:qv*row.len<=(den env l).l.length*row.len:=Nat.mul_le_mul_right _ hql
  refine⟨by rw[List.length_take,hown.1];omega,?_⟩
  rcases hown.2 with⟨e,e'⟩|⟨g,cap,cur,e,hb1,hb2,hnc,hcm,hcs,hcur⟩
  ·left
   rw[hκ]at e;injection e with e1 e2 e3
   subst e1;subst e3;have:qv=0:=by omega
   subst this;exact⟨rfl,rfl⟩
  ·right
   rw[hκ]at e;injection e with e1 e2 e3
   subst e1;subst e3;exact⟨g,c,cur,rfl,hb1,hb2,by omega,hcm,hcs,by rw[<-hcur,List.take_take,Nat.min_eq_left hmul]⟩
 ·simp only[den,AV.l_sl]at hr
  rw[List.getElem?_take]at hr;split at hr
  ·exact hrow.1 i r hr
  ·cases hr
 ·simp only[den,AV.l_sl]at hr
  rw[List.getElem?_take]at hr;split at hr
  ·rename_i hi2
   obtain⟨u,hu,hd⟩:=hrow.2 i r k y hr hy;refine⟨u,?_,hd⟩
   rw[List.getElem?_take,if_pos ?_]
   ·exact hu
   ·rw[<-hqv]at hi2
    simp only[Int.toNat_natCast]at hi2;have hkl:k<row.len:=by
     have:=(List.getElem?_eq_some_iff.1 hy).1
     have b4:=congrArg List.length (hrow.1 i r hr);rw[List.length_map,Ty.list_len]at b4;omega
    have:=Nat.mul_le_mul_right row.len (show i+1<=qv by omega)
    rw[Nat.succ_mul]at this;omega
  ·cases hr
 ·rcases hb with hb|rfl
  ·exact .inl hb
  ·exact .inr ⟨_,List.mem_cons_of_mem _ (List.mem_singleton.2 rfl),rfl⟩
theorem u0{z:Value}{n N:Nat}(hz:z.cells.size=n)(hn:0<n):((Array.range (N*n)).map (fun j=>z.cells[j % z.cells.size]!)).toList=(List.replicate N z.cells.toList).flatten:=by
 subst hz;induction N with
 |zero=>simp
 |succ N ih=>
  rw[List.replicate_succ',List.flatten_append,<-ih];have e:(N+1)*z.cells.size=N*z.cells.size+z.cells.size:=Nat.succ_mul _ _
  rw[e];simp only[Array.toList_map,Array.toList_range,List.range_add,List.map_append,List.map_map];congr 1
  simp only[List.flatten_cons,List.flatten_nil,List.append_nil];refine List.ext_getElem? (fun i=>?_)
  simp only[List.getElem?_map,List.getElem?_range',Function.comp];by_cases hi:i<z.cells.size
  ·simp[hi,Nat.mod_eq_of_lt hi,Nat.add_comm,Nat.add_mul_mod_self_right]
  ·simp[hi]
theorem PK(n:Nat){z:SV}{zc:Array Value}(hp:z.proper=true)(hz:SVden env κ F w z (.tuple zc)):∀(i:Nat) x u,((List.replicate n z.list).flatten)[i]?=some x->((List.replicate n zc.toList).flatten)[i]?=some u->SVden env κ F w x u:=by
 obtain⟨t1,t2⟩:=bP hp hz;induction n with
 |zero=>intro i x u h;simp at h
 | succ n ih=>
  intro i x u h1 h2;rw[List.replicate_succ,List.flatten_cons]at h1 h2;have hl:z.list.length=zc.toList.length:=by rw[list_len];simpa using t1.symm
  by_cases hi:i<z.list.length
  ·rw[List.getElem?_append_left hi]at h1
   rw[List.getElem?_append_left (by omega)]at h2
   obtain⟨v,h3,h4⟩:=t2 i x h1;rw[Array.getElem?_toList,h3]at h2;cases h2;exact h4
  ·rw[List.getElem?_append_right (by omega)]at h1
   rw[List.getElem?_append_right (by omega),<-hl]at h2
   exact ih _ x u h1 h2
theorem IU(h:Rel w0 env κ F U tmp blk L a w){o:Oper}{m ety n:Nat}{row:Ty}(hm:¬U m){l:E}{cs:Array Value}(hpos:0<row.len)(hn:(den env l).l.length=n)(hmax:n<=maxLen)(hs:cs.size=n*row.len)(hrow:RowsDen F w cs.toList row (den env l).l)
  (hr:dd P o a w (.slice (some ⟨w.heap.size,0,none⟩) n n) (w.alloc (.cells cs ety))):Good P w0 env κ F U tmp blk L a w o (.row m) [(m,some (.row ety row l))]:=by
 refine Jt h hm hr rfl ⟨cs.toList,?_,hpos,hrow.keep (fun _ h=>h) (fun k hk=>Below.heap_alloc _ _ _ (h.F k hk))⟩ (fun c hc=>by cases hc) ⟨(ao κ m _).symm,rfl⟩
 rw[ao,hn];exact World.ownsRow_lit (base:=w0.heap.size) (e:=ety) (size:=row.len) w cs n h.below.size hmax hs
theorem HV{o:Oper}{t len ety:Nat}{row:Ty}{parts:Array (Nat×Operand)}(ho:o.op=.buildSlice t len parts)(h:Rel w0 env κ F U tmp blk L a w){m:Nat}(hm:¬U m)(ht:bC P t=some (ety,row)){z:SV}(hz:dr P ety=some z)(hw:z.whole=true)(hzl:z.cells.len=row.len)
  {cs:List SV} {l:E} (hf:mv (fun i=>some (i*row.len,row.len)) ((List.replicate len z.cells.list).flatten) (parts.toList.map fun x=>(x.1,ah tmp x.2))=some cs) (hl:oZ row.len row len cs=some l) (hbig:len*row.len<=16777216) (hcl:cs.length=len*row.len):
  Good P w0 env κ F U tmp blk L a w o (.row m) [(m,some (.row ety row l))]:=by
 obtain⟨u1,u2,u3,⟨i,hi⟩,u5,u6,u7,u8⟩:=bS ht;obtain⟨zv,hz1,rfl⟩:=Ac hi hz;obtain⟨d1,d2⟩:=fZ hw (fm (env:=env) (κ:=κ) (F:=F) (w:=w) zv)
 obtain⟨t1,t2⟩:=bP d2 d1;have hzs:zv.cells.size=row.len:=by rw[t1,hzl]
 obtain⟨Z,hZ⟩:∃Z:Array Value,Z=(Array.range (len*row.len)).map (fun j=>zv.cells[j % zv.cells.size]!):=⟨_,rfl⟩
 have hZl:Z.toList=(List.replicate len zv.cells.toList).flatten:=by rw[hZ];exact u0 hzs u3
 have hZd:SVden env κ F w (.of ((List.replicate len (di zv).cells.list).flatten)) (.tuple Z):=by
  have hlen:Z.toList.length=((List.replicate len (di zv).cells.list).flatten).length:=by
   rw[hZl];simp[list_len,t1]
  have:=gF (env:=env) (κ:=κ) (F:=F) (w:=w) hlen (fun i x u h1 h2=>by rw[hZl]at h2;exact PK len d2 d1 i x u h1 h2)
  simpa using this
 obtain⟨r,r1,r2,r3⟩:=Cg (env:=env) (κ:=κ) (F:=F) (w:=w) _ ((parts.map fun x=>(x.1,a.eval x.2)).toList) _ _ _ hf (by simp) (fun j p v h1 h2=>by
  simp only[List.getElem?_map,Array.toList_map]at h1 h2;obtain⟨x,h3,rfl⟩:=Option.map_eq_some_iff.1 h1;rw[h3]at h2;cases h2
  exact h.ev x.2) hZd
 obtain⟨s1,s2⟩:=bP (bM _) r2;rw[Id]at s1;rw[fK]at s2;obtain⟨b1,b2,b3⟩:=Dz (env:=env) (κ:=κ) (F:=F) (w:=w) rfl len cs l r.toList hl hcl (by simp[s1]) (fun i x u h1 h2=>by
  obtain⟨v,h3,h4⟩:=s2 i x h1;rw[Array.getElem?_toList,h3]at h2;cases h2;exact h4)
 refine IU h hm u3 b1 ?_ (by rw[s1,hcl]) b2 (.inl ?_)
 ·have:len<=len*row.len:=Nat.le_mul_of_pos_right _ u3
  unfold maxLen;omega
 ·have hsz:=cG (w:=w) u5
  have hrun:(Instr.buildSlice t len (parts.map fun x=>(x.1,a.eval x.2))).run P w=.ok (.slice (some ⟨w.heap.size,0,none⟩) len len) (w.alloc (.cells r ety)):=by
   simp only[Instr.buildSlice,run_underlying u1,Sem.run_bind,Result.andThen_ok,hsz,<-u2];rw[if_neg (by omega)]
   by_cases h0:len*row.len=0
   ·rw[if_pos h0]
    have hZ0:Z=#[]:=by rw[hZ,h0];simp
    rw[hZ0]at r1;rw[h0];have e0:∀f:Nat->Value,(Array.range 0).map f=#[]:=fun f=>by simp
    simp only[e0,Sem.run_bind,Sem.run_pure,Result.andThen_ok];simp at r1
    simp[r1,newRow]
   ·rw[if_neg h0]
    rw[hZ]at r1;simp[zeroValue,typeInfo,hi,hz1]
    simp[hzs]at r1
    simp[hzs,r1,newRow]
  simp only[execOp,ho];rw[Sem.run_bind,hrun,Result.andThen_ok,Sem.run_pure]
theorem Ic{o:Oper}{t ety:Nat}{row:Ty}{x y:Operand}(ho:o.op=.makeSlice t x y)(h:Rel w0 env κ F U tmp blk L a w){m:Nat}(hm:¬U m)(ht:bC P t=some (ety,row)){z:SV}(hz:dr P ety=some z)(hw:z.whole=true)(hzl:z.cells.len=row.len)
  {r l:E} (hr:jD z.cells row=some r) (hx:ah tmp x=.vi l) (hy:ah tmp y=.vi l)
  (hn:∀e∈bW (.cmp' .le (.int 0) l)++bW (.cmp' .le (.ii' .mul l (.int (P.bytesOf ety))) (.int 140737488355328)),(den env e).b=true):
  Good P w0 env κ F U tmp blk L a w o (.row m) [(m,some (.row ety row (.rep l r)))]:=by
 obtain⟨u1,u2,u3,⟨i,hi⟩,u5,u6,u7,u8⟩:=bS ht;obtain⟨zv,hz1,rfl⟩:=Ac hi hz;obtain⟨d1,d2⟩:=fZ hw (fm (env:=env) (κ:=κ) (F:=F) (w:=w) zv)
 obtain⟨t1,t2⟩:=bP d2 d1;have hzs:zv.cells.size=row.len:=by rw[t1,hzl]
 obtain⟨q1,q2,q3,q4⟩:=xG hr d1;have hex:=h.ev x;have hey:=h.ev y;rw[hx]at hex;rw[hy]at hey;have n1:=cZ (bo fun e he=>hn e (List.mem_append_left _ he))
 have n2:=cZ (bo fun e he=>hn e (List.mem_append_right _ he))
 have n1:0<=(den env l).i:=of_decide_eq_true n1
 have n2:(den env l).i*(P.bytesOf ety:Int)<=140737488355328:=by rw[dm]at n2;exact of_decide_eq_true n2
 obtain⟨n,hnn⟩:∃n:Nat,(n:Int)=(den env l).i:=⟨(den env l).i.toNat,by omega⟩
 rw[<-hnn]at n2;have hbytes:P.bytesOf ety=i.bytes:=by unfold Program.bytesOf;rw[hi];rfl
 rw[hbytes]at n2 u6;rw[<-Int.natCast_mul]at n2;have n3:n*i.bytes<=140737488355328:=by generalize n*i.bytes=q at n2⊢;omega
 have n4:n<=140737488355328:=Nat.le_trans (Nat.le_mul_of_pos_right n u6) n3
 obtain⟨Z,hZ⟩:∃Z:Array Value,Z=(Array.range (n*row.len)).map (fun j=>zv.cells[j % zv.cells.size]!):=⟨_,rfl⟩
 have hZl:Z.toList=(List.replicate n zv.cells.toList).flatten:=by rw[hZ];exact u0 hzs u3
 refine IU h hm u3 (n:=n) (cs:=Z) (by simp[den,<-hnn]) (by unfold maxLen;omega) (by rw[hZ];simp) ?_ (.inl ?_)
 ·rw [hZl]
  simp only[den,AV.l_sl,<-hnn,Int.toNat_natCast];refine⟨fun j r' hr'=>?_,fun j r' k x hr' hx'=>?_⟩
  ·obtain⟨_,rfl⟩:=List.getElem?_eq_some_iff.1 hr'
   simp only[List.getElem_replicate];exact q1
  ·have hj:=(List.getElem?_eq_some_iff.1 hr').1
   obtain⟨_,rfl⟩:=List.getElem?_eq_some_iff.1 hr';simp only[List.getElem_replicate]at hx';obtain⟨u,hu,hd⟩:=q3 k x hx';refine⟨u,?_,hd⟩
   simp only[List.length_replicate]at hj;have hk:k<row.len:=by rw[<-q2];exact(Array.getElem?_eq_some_iff.1 hu).1
   have key:∀(n j:Nat),j<n->((List.replicate n zv.cells.toList).flatten)[j*row.len+k]?=zv.cells[k]?:=by
    intro n;induction n with
    |zero=>intro j hj;omega
    | succ n ih=>
     intro j hj;rw[List.replicate_succ,List.flatten_cons];cases j with
     |zero=>rw[List.getElem?_append_left (by simp;omega)];simp
     |succ j=>
      rw[List.getElem?_append_right (by simp[hzs,Nat.succ_mul];omega),<-ih j (by omega)]
      congr 1;simp[hzs,Nat.succ_mul];omega
   rw[key n j hj];exact hu
 ·have hsz:=cG (w:=w) u5
  have hwr:IntKind.i64.wrap (n:Int)=n:=ly (by omega)
  have b1:¬((i.bytes:Int)*n>281474976710656):=by
   rw[Int.mul_comm,<-Int.natCast_mul];generalize n*i.bytes=q at n3⊢;omega
  have b2:¬(n*i.bytes>roomBytes):=by unfold roomBytes;generalize n*i.bytes=q at n3⊢;omega
  have hrun:(Instr.makeSlice t (a.eval x) (a.eval y)).run P w=.ok (.slice (some ⟨w.heap.size,0,none⟩) n n) (w.alloc (.cells Z ety)):=by
   rw[hex.1,hey.1,<-hnn];have b3:¬((n:Int)<0):=by omega
   have hti:(typeInfo ety).run P w=.ok i w:=by simp[typeInfo,hi]
   have c1:decide ((2:Int) ^ 48<(i.bytes:Int)*n)=false:=decide_eq_false (fun hh=>b1 (by simpa using hh))
   have c3:decide ((n:Int)<0)=false:=decide_eq_false b3
   have c2:(askRoom (n*i.bytes)).run P w=.ok () w:=by
    unfold askRoom;rw[if_neg b2];rfl
   simp only[Instr.makeSlice,run_underlying u1,Sem.run_bind,Sem.run_pure,Result.andThen_ok,asInt,asIntOf,hti,hwr,gt_iff_lt,c1,c3,Bool.false_or,Bool.or_false,Int.lt_irrefl,decide_false,Bool.false_eq_true,if_false,Int.toNat_natCast,c2,hsz,<-u2];by_cases h0:n*row.len=0
   ·rw[if_pos h0]
    have hZ0:Z=#[]:=by rw[hZ,h0];simp
    have e0:∀f:Nat->Value,(Array.range 0).map f=#[]:=fun f=>by simp
    rw[h0,hZ0];simp only[e0,Sem.run_bind,Sem.run_pure,Result.andThen_ok];simp[newRow]
   ·rw[if_neg h0]
    have hzv:(zeroValue ety).run P w=.ok zv w:=by simp[zeroValue,typeInfo,hi,hz1]
    simp only[hzv,Sem.run_bind,Sem.run_pure,Result.andThen_ok,<-hZ];simp[newRow]
  simp only[execOp,ho,Sem.run_bind,hrun,Result.andThen_ok,Sem.run_pure]
theorem P9{x y:E}(h:(den env y).ty=.bool):(den env (.and' x y)).ty=.bool:=by
 unfold E.and';split<;>first|rfl|exact h
theorem Il{xs v:SV}{cs:Array Value}{off t:Nat}(hp:xs.proper=true)(h:SVden env κ F w xs (.tuple cs))(hv:Eg P xs off t=some v):∃u,(part t cs off).run P w=.ok u w/\SVden env κ F w v u:=by
 unfold Eg at hv;split at hv
 ·rename_i hc
  split at hv
  ·rename_i hag
   cases hv
   refine⟨.agg (cs.extract off (off+P.cellsOf t)),by rw[uA hc.2,hag];rfl,_,rfl,bM _,?_⟩
   rw[D8];exact Bb hp h _ _
  ·rename_i hag
   split at hv
   ·rename_i y hy
    cases hv
    obtain⟨u,hu,hd⟩:=ug hp h hy;have hag:b9 P t=false:=by simpa using hag
    exact⟨u,by rw[uA hc.2,hag,hu];rfl,hd⟩
   ·cases hv
 ·cases hv
theorem Iq{f:Nat->SV->SV->Option E}{D:Nat}(hf:∀t x y u v e,f t x y=some e->SVden env κ F w x u->SVden env κ F w y v->(Op.equalIn D t u v).run P w=.ok (den env e).b w/\(den env e).ty=.bool)
  {xs ys:SV} {cs ds:Array Value} (hp:xs.proper=true) (hx:SVden env κ F w xs (.tuple cs)) (hq:ys.proper=true) (hy:SVden env κ F w ys (.tuple ds)):∀(fs:List Field) e,I6 P f xs ys fs=some e →
  (Op.eqFields D cs ds fs).run P w=.ok (den env e).b w/\(den env e).ty=.bool
 |[],e,h=>by simp only[I6]at h;cases h;exact⟨rfl,rfl⟩
 | x :: fs,e,h=>by
  simp only[I6]at h;split at h
  ·rename_i hn
   split at h
   ·rename_i p q h1 h2
    split at h
    ·rename_i e1 es h3 h4
     cases h
     obtain⟨u,r1,d1⟩:=Il hp hx h1;obtain⟨v,r2,d2⟩:=Il hq hy h2;obtain⟨r3,t3⟩:=hf _ _ _ _ _ _ h3 d1 d2;obtain⟨r4,t4⟩:=Iq hf hp hx hq hy fs es h4;refine⟨?_,P9 t4⟩
     simp only[Op.eqFields,if_pos hn,Sem.run_bind,r1,r2,r3,Result.andThen_ok];rw[K5];cases(den env e1).b with
     |true=>simpa using r4
     |false=>simp
    ·cases h
   ·cases h
  ·cases h
theorem CB:∀(d:Nat) (D t:Nat) (x y:SV) (u v:Value) (e:E),d<=D->qc P d t x y=some e->SVden env κ F w x u->SVden env κ F w y v->(Op.equalIn D t u v).run P w=.ok (den env e).b w/\(den env e).ty=.bool
 |0,_,_,_,_,_,_,_,_,h,_,_=>by cases h
 | d+1,D,t,x,y,u,v,e,hD,h,hx,hy=>by
  obtain⟨D,rfl⟩:∃k,D=k+1:=⟨D-1,by omega⟩
  simp only[qc]at h;split at h
  ·rename_i p q hu
   cases h
   rw[hx.1,hy.1,run_equalIn_bool w D t _ _ hu];exact⟨rfl,rfl⟩
  ·rename_i k p q hu
   cases h
   rw[hx.1,hy.1,run_equalIn_int w D t .i64 k _ _ hu,fR];exact⟨rfl,rfl⟩
  ·rename_i fs xs ys hu
   split at h
   ·cases h
   ·rename_i hs
    obtain⟨cs,rfl,hp,hx⟩:=hx;obtain⟨ds,rfl,hq,hy⟩:=hy;have hfs:P.fieldsOf t=fs:=by unfold Program.fieldsOf;rw[hu]
    rw[run_equalIn_struct w D t cs ds (by rw[hfs];exact hu) (by simpa using hs),hfs]
    exact Iq (fun t x y u v e h1 h2 h3=>CB d D t x y u v e (by omega) h1 h2 h3) hp hx hq hy _ _ h
  ·cases h
theorem Pi{o:Oper}{op:BinOp}{t ty:TypeId}{x y:Operand}(ho:o.op=.binOp op t x y ty)(h:Rel w0 env κ F U tmp blk L a w){needs:List E}{v:SV}{wr:List (Nat×Option SB)}
  {p q:SV} (hx:ah tmp x=p) (hy:ah tmp y=q) (hpq:(∃e f,p=.vb e/\q=.vb f)\/∃e f,p=.agg e/\q=.agg f) (hc:Bc P op t p q=.ok needs v wr):Good P w0 env κ F U tmp blk L a w o v wr:=by
 have hex:=h.ev x;have hey:=h.ev y;rw[hx]at hex;rw[hy]at hey;unfold Bc at hc;split at hc
 ·cases hc
 rename_i hg
 have hg:P.eqGuardType P.depth t=false:=by simpa using hg
 have hguard:(eqGuard op t x y (a.eval x) (a.eval y)).run P w=.ok () w:=by
  rcases hpq with⟨e,f,rfl,rfl⟩|⟨e,f,rfl,rfl⟩
  ·rw[hex.1,hey.1];unfold eqGuard;cases op<;>simp
  ·obtain⟨cs,e1,_⟩:=hex
   obtain⟨ds,e2,_⟩:=hey;rw[e1,e2];exact run_eqGuard_agg w op t x y cs ds hg
 have R:∀u:Value,(binOp op t (a.eval x) (a.eval y)).run P w=.ok u w->dd P o a w u w:=fun u hu=>.inl (by
  simp only[execOp,ho,Sem.run_bind,hguard,Result.andThen_ok,hu,Sem.run_pure])
 have E1:∀e,qc P 12 t p q=some e->(Op.equal t (a.eval x) (a.eval y)).run P w=.ok (den env e).b w/\(den env e).ty=.bool:=fun e he=>CB 12 10000 t p q _ _ e (by decide) he hex hey
 have B:∀e,qc P 12 t p q=some e->(binOp .eql t (a.eval x) (a.eval y)).run P w=.ok (.bool (den env e).b) w/\(binOp .neq t (a.eval x) (a.eval y)).run P w=.ok (.bool (!(den env e).b)) w:=fun e he=>by
  obtain⟨r,_⟩:=E1 e he;rcases hpq with⟨e',f,rfl,rfl⟩|⟨e',f,rfl,rfl⟩
  ·rw[hex.1,hey.1]at r⊢
   constructor
   ·simp only[binOp];simp[r]
   ·simp only[binOp];simp[r]
  ·obtain⟨cs,e1,_⟩:=hex
   obtain⟨ds,e2,_⟩:=hey;rw[e1,e2]at r⊢
   constructor
   ·simp only[binOp];simp[r]
   ·simp only[binOp];simp[r]
 split at hc
 ·rename_i e he
  unfold fF at hc;cases hc
  exact au h (R _ (B e he).1) ⟨rfl,(E1 e he).2⟩
 ·rename_i e he
  unfold fF at hc;cases hc
  exact au h (R _ (B e he).2) ⟨by rw[uo],I9 e⟩
 ·cases hc
theorem Qy{o:Oper}{x:Operand}{t e:Nat}(ho:o.op=.call { callee:=.builtin .len,args:=#[x],argTypes:=#[t] })(h:Rel w0 env κ F U tmp blk L a w)(ht:P.underlying t=some (.slice e)){ty:Option Ty}{l:E}(hx:lenOf blk (ah tmp x)=some (ty,l)):
  Good P w0 env κ F U tmp blk L a w o (.vi l.len') []:=by
 have hex:=h.ev x;have hs:∃A c,a.eval x=.slice A (den env l).l.length c:=by
  unfold lenOf at hx;split at hx
  ·rename_i b hh
   rw[hh]at hex;split at hx
   ·rename_i e' t' l' hb
    cases hx
    obtain⟨us,hown,_⟩:=h.blks b _ hb;rw[hex.1];rcases hown.2 with⟨e1,e2⟩|⟨g,cap,cur,e1,_⟩
    ·exact⟨none,0,by rw[e1,e2]⟩
    ·exact⟨_,_,e1⟩
   ·rename_i e' t' l' hb
    cases hx
    obtain⟨A,c,e,_⟩:=Den.view (h.blks b _ hb).1;exact⟨A,c,hex.1.trans e⟩
   ·rename_i l' hb
    cases hx
    obtain⟨A,c,e⟩:=h.blks b _ hb;exact⟨A,c,hex.1.trans e⟩
   ·cases hx
  ·rename_i hne
   unfold cX at hx;split at hx
   ·rename_i hh
    cases hx
    rw[hh]at hex;obtain⟨A,c,e,_⟩:=Den.view hex;exact⟨A,c,e⟩
   ·rename_i hh
    cases hx
    rw[hh]at hex;exact⟨none,0,hex⟩
   ·rename_i b hh
    exact absurd hh (hne b)
   ·cases hx
 obtain⟨A,c,hs⟩:=hs;refine au h (u:=.int .i64 ((den env l).l.length:Int)) (.inl ?_) ⟨by rw[cP];rfl,by rw[cP];rfl⟩
 unfold execOp;simp only[ho,resolve,invoke,builtin,Sem.run_bind,Sem.run_pure,Result.andThen_ok,List.map_toArray,List.map_cons,List.map_nil,hs];simp[Builtin.len_,run_underlying ht,goInt]
theorem FK{o:Oper}{x y:Operand}{ts:Array Nat}{b:Builtin}{io:IOp}(hb:(b=.min/\io=.min)\/(b=.max/\io=.max))(ho:o.op=.call { callee:=.builtin b,args:=#[x,y],argTypes:=ts })(h:Rel w0 env κ F U tmp blk L a w)
  {p q:E} (hx:ah tmp x=.vi p) (hy:ah tmp y=.vi q):Good P w0 env κ F U tmp blk L a w o (.vi (.ii' io p q)) []:=by
 have hex:=h.ev x;have hey:=h.ev y;rw[hx]at hex;rw[hy]at hey;refine au h (u:=.int .i64 (io.f (den env p).i (den env q).i)) (.inl ?_) ⟨by rw[dm];rfl,by rw[dm];rfl⟩
 unfold execOp;rcases hb with⟨rfl,rfl⟩|⟨rfl,rfl⟩
 ·simp only[ho,resolve,invoke,builtin,Sem.run_bind,Sem.run_pure,Result.andThen_ok,List.map_toArray,List.map_cons,List.map_nil,hex.1,hey.1,run_min_int2]
  rfl
 ·simp only[ho,resolve,invoke,builtin,Sem.run_bind,Sem.run_pure,Result.andThen_ok,List.map_toArray,List.map_cons,List.map_nil,hex.1,hey.1,run_max_int2]
  rfl
theorem PC{o:Oper}{s x:Operand}{t t' ety d:Nat}{row:Ty}(ho:o.op=.call { callee:=.builtin .copy,args:=#[s,x],argTypes:=#[t,t'] })(h:Rel w0 env κ F U tmp blk L a w)(ht:bC P t=some (ety,row))(h1:row.len=1)
  (hs:ah tmp s=.row d) {ty:Option Ty} {l m:E} (hd:blk d=some (.row ety row l)) (hx:cX blk (ah tmp x)=some (ty,m)) (hty:ty.all (·=row)=true):
  Good P w0 env κ F U tmp blk L a w o (.vi (.ii' .min l.len' m.len')) [(d,some (.row ety row (.cpy l m)))]:=by
 obtain⟨u1,u2,u3,⟨i,hi⟩,u5,_,u7,_⟩:=bS ht;have hes:=h.ev s;rw[hs]at hes;obtain⟨us,hown,hpos,hrow⟩:=h.blks d _ hd;obtain⟨A,c,news,e1,e2,e3,e4⟩:=lT h (h.ev x) hx hty u3 u7;have hsize:i.size=1:=by rw[h1]at u2;rw[u2];unfold Program.cellsOf;rw[hi];rfl
 have hsz1:(P.info? ety).map (·.size)=some 1:=by rw[hi];simp[hsize]
 obtain⟨n,hn⟩:∃n,n=(den env l).l.length:=⟨_,rfl⟩
 obtain⟨q,hq⟩:∃q,q=(den env m).l.length:=⟨_,rfl⟩
 have hul:us.length=n:=by rw[hown.1,h1,hn,Nat.mul_one]
 have hnl:news.length=q:=by rw[e2.1,h1,hq,Nat.mul_one]
 have hv:den env (.ii' .min l.len' m.len')=.int ((Nat.min q n:Nat):Int):=by
  rw[dm,cP,cP];simp only[AV.i_int,IOp.f,<-hn,<-hq];congr 1
  by_cases hh:q<=n
  ·rw[show Nat.min q n=q from Nat.min_eq_left hh];split<;>omega
  ·rw[show Nat.min q n=n from Nat.min_eq_right (by omega)];rw[if_neg (by omega)]
 have hcl:(den env (.cpy l m)).l=(den env m).l.take n++(den env l).l.drop q:=by simp[den,<-hn,<-hq]
 have hcn:(den env (.cpy l m)).l.length=n:=by rw[hcl];simp[<-hn,<-hq];omega
 have hrows:∀us':List Value,us'=news.take n++us.drop q->RowsDen F w us' row (den env (.cpy l m)).l:=by
  intro us' hus';have one:∀(us:List Value) (L:List (List AV)),RowsDen F w us row L->∀(i:Nat) r x,L[i]?=some r->r[0]?=some x->∃u,us[i]?=some u/\Den F w u x:=fun us L hR i r x hr hx=>by
   obtain⟨u,hu,hdn⟩:=hR.2 i r 0 x hr hx;rw[h1]at hu;exact⟨u,by simpa using hu,hdn⟩
  refine⟨fun i r hr=>?_,fun i r k x hr hx=>?_⟩
  ·rw[hcl]at hr
   by_cases hi:i<((den env m).l.take n).length
   ·rw[List.getElem?_append_left hi,List.getElem?_take]at hr
    split at hr
    ·exact e3.1 i r hr
    ·cases hr
   ·rw[List.getElem?_append_right (by omega),List.getElem?_drop]at hr
    exact hrow.1 _ r hr
  ·have hk:k=0:=by
    have hlen:r.length=row.len:=by
     have hty':r.map AV.ty=row.list:=by
      rw[hcl]at hr;by_cases hi:i<((den env m).l.take n).length
      ·rw[List.getElem?_append_left hi,List.getElem?_take]at hr
       split at hr
       ·exact e3.1 i r hr
       ·cases hr
      ·rw[List.getElem?_append_right (by omega),List.getElem?_drop]at hr
       exact hrow.1 _ r hr
     have:=congrArg List.length hty'
     rw[List.length_map,Ty.list_len]at this;exact this
    have:=(List.getElem?_eq_some_iff.1 hx).1
    omega
   subst hk;rw[h1,Nat.mul_one,Nat.add_zero,hus'];rw[hcl]at hr;by_cases hi:i<((den env m).l.take n).length
   ·rw[List.getElem?_append_left hi,List.getElem?_take]at hr
    split at hr
    ·rename_i hin
     obtain⟨u,hu,hdn⟩:=one _ _ e3 i r x hr hx;refine⟨u,?_,hdn⟩
     rw[List.getElem?_append_left (by simp at hi⊢;omega),List.getElem?_take,if_pos hin];exact hu
    ·cases hr
   ·rw[List.getElem?_append_right (by omega),List.getElem?_drop]at hr
    obtain⟨u,hu,hdn⟩:=one _ _ hrow _ r x hr hx;refine⟨u,?_,hdn⟩
    have hl1:((den env m).l.take n).length=(news.take n).length:=by simp[hnl,<-hq]
    rw[List.getElem?_append_right (by omega),List.getElem?_drop,<-hl1];exact hu
 have R:∀v' w',(Builtin.copy_ #[t,t'] o.type #[a.eval s,a.eval x]).run P w=.ok v' w'->dd P o a w v' w':=fun v' w' hr=>.inl (by
  unfold execOp;simp only[ho,resolve,invoke,builtin,Sem.run_bind,Sem.run_pure,Result.andThen_ok,List.map_toArray,List.map_cons,List.map_nil,hr])
 have hF:∀g,ai (κ d)=some g->∀k,F k->k≠g:=fun g hg k hk e=>h.nF d g (by rw[hd];rfl) hg (e▸hk)
 by_cases h0:Nat.min q n=0
 ·
  have hnone:(Builtin.copy_ #[t,t'] o.type #[a.eval s,a.eval x]).run P w=.ok (goInt 0) w:=by
   obtain⟨A',c',hκ⟩:∃A' c',κ d=.slice A' n c':=by
    rcases hown.2 with⟨e,e'⟩|⟨g,cap,cur,e,_⟩
    ·exact⟨none,0,by rw[e,hn,e']⟩
    ·exact⟨_,_,by rw[e,hn]⟩
   rw[hes.1,hκ,e1,<-hq];exact run_copy_none (P:=P) w t t' o.type ety A' A n c' q c u1 hsz1 h0
  have hsame:den env (.cpy l m)=.sl .nil (den env l).l:=by
   show AV.sl .nil _=_
   congr 1
   rcases Nat.eq_zero_or_pos n with hz|hz
   ·have e:(den env l).l=[]:=List.eq_nil_of_length_eq_zero (by omega)
    simp[e]
   ·have hq0:q=0:=by
     rcases Nat.le_total q n with hh|hh
     ·rw[show Nat.min q n=q from Nat.min_eq_left hh]at h0;exact h0
     ·rw[show Nat.min q n=n from Nat.min_eq_right hh]at h0;omega
    have e:(den env m).l=[]:=List.eq_nil_of_length_eq_zero (by omega)
    simp[e]
  refine⟨_,w,κ,F,R _ _ hnone,?_,⟨by rw[hv,h0];rfl,by rw[hv];rfl⟩,?_⟩
  ·refine(h.stored (y:=.row ety row (.cpy l m)) hd rfl (fun _ _=>rfl) rfl ⟨us,?_,hpos,?_⟩ (fun c hc=>by cases hc) h.below).monoU (fun b hb=>.inl hb)
   ·rw[hsame];exact hown
   ·rw[hsame];exact hrow
  ·exact h.stored_kept hd rfl rfl (fun _ _=>rfl) rfl
 ·rcases hown.2 with⟨e,e'⟩|⟨g,cap,cur,e,hb1,hb2,hnc,hcm,hcs,hcur⟩
  ·exfalso;apply h0;rw[hn,e'];exact Nat.min_eq_right (Nat.zero_le _)
  ·obtain⟨ad,rfl⟩:∃ad,A=some ad:=by
    have hlt:0<news.length:=by
     rw[hnl];rcases Nat.eq_zero_or_pos q with hz|hz
     ·exfalso;apply h0;rw[hz];exact Nat.min_eq_left (Nat.zero_le _)
     ·exact hz
    obtain⟨ad,h2,_⟩:=e2.2 0 news[0] (List.getElem?_eq_getElem hlt);exact⟨ad,h2⟩
   have hmn:Nat.min q n<=q/\Nat.min q n<=n:=⟨Nat.min_le_left _ _,Nat.min_le_right _ _⟩
   have hlen:(news.take n).length=Nat.min q n:=by rw[List.length_take,hnl];exact Nat.min_comm _ _
   rw[<-hn]at hnc hcur e;rw[h1,Nat.mul_one]at hcs hcur;have hrun:=run_copy_row (P:=P) w t t' o.type ety g 0 n cap ad q c cur ety (news.take n) u1 hsz1 hb2 hlen (fun j v hj=>by
    rw[List.getElem?_take]at hj;split at hj
    ·obtain⟨a',g1,_,g2⟩:=e2.2 j v hj
     cases g1;exact g2
    ·cases hj) (by rw[hlen];omega) (fun v hv=>by rw[<-rF];exact e4 v (List.mem_of_mem_take hv))
   have hw:∀k,k≠g->∀cs',(w.setRow g cs').heap[k]?=w.heap[k]?:=fun k hk cs'=>setRow_other w g k cs' hk
   have hRun:=R (goInt (news.take n).length) _ (by rw[hes.1,e,e1,<-hq];exact hrun)
   rw[hlen]at hRun;refine⟨_,_,κ,F,hRun,?_,⟨by rw[hv];rfl,by rw[hv];rfl⟩,h.stored_kept hd rfl rfl (fun k hk=>hw k (fun e2=>hk (by rw[e,e2];rfl)) _) (by simp)⟩
   refine(h.stored (y:=.row ety row (.cpy l m)) hd rfl (fun k hk=>hw k (fun e2=>hk (by rw[e,e2];rfl)) _) (by simp) ⟨news.take n++us.drop q,?_,hpos,(hrows _ rfl).keep (fun _ h=>h) (fun k hk=>hw k (hF g (by rw[e];rfl) k hk) _)⟩ (fun c hc=>by cases hc) (kU h.below hb1)).monoU (fun b hb=>.inl hb)
   rw[hcn,e,h1];refine⟨by simp[hnl,hul];omega,.inr ⟨g,cap,_,rfl,hb1,setRow_heap w g cur _ ety (0,0) hb2,hnc,hcm,by simp only[List.take_zero,List.nil_append,Nat.zero_add,List.size_toArray,List.length_append,List.length_drop,Array.length_toList,hlen];omega,?_⟩⟩
   simp only[Nat.mul_one,List.take_zero,List.nil_append,Nat.zero_add];refine List.ext_getElem? (fun j=>?_)
   have hus:∀j,us[j]?=if j<n then cur.toList[j]? else none:=fun j=>by rw[<-hcur,List.getElem?_take]
   rw[List.getElem?_take];by_cases hj:j<n
   ·rw[if_pos hj]
    by_cases hj2:j<(news.take n).length
    ·rw[List.getElem?_append_left hj2,List.getElem?_append_left hj2]
    ·rw[List.getElem?_append_right (by omega),List.getElem?_append_right (by omega),List.getElem?_drop,List.getElem?_drop,hus]
     rw[hlen]at hj2⊢
     have hqn:q<n:=by
      rcases Nat.lt_or_ge q n with hh|hh
      ·exact hh
      ·rw[show Nat.min q n=n from Nat.min_eq_right hh]at hj2;omega
     rw[show Nat.min q n=q from Nat.min_eq_left (by omega)]at hj2⊢
     rw[if_pos (by omega)]
   ·rw[if_neg hj]
    symm
    rw[List.getElem?_eq_none];simp[hnl,hul];omega
theorem E7(h:Rel w0 env κ F U tmp blk L a w)(l:Array Operand):SVden env κ F w (.of (l.toList.map (ah tmp))) (.tuple (l.map a.eval)):=by
 have:=gF (env:=env) (κ:=κ) (F:=F) (w:=w) (l:=l.toList.map (ah tmp)) (cs:=(l.map a.eval).toList) (by simp) (fun i x u hx hu=>by
  simp only[List.getElem?_map,Array.toList_map]at hx hu;obtain⟨y,hy,rfl⟩:=Option.map_eq_some_iff.1 hx;rw[hy]at hu;cases hu
  exact h.ev y)
 rwa [Array.toArray_toList]at this
theorem uf{r c:Nat}{es:Array MapEntry}(o':Obj)(h:w.heap[r]?=some (.map es c)):(setObj r o').run P w=.ok () { w with heap:=w.heap.setIfInBounds r o' }:=by
 simp[setObj,Sem.run,h]
theorem Ku{o:Oper}{f:Nat}{first captured:Array Operand}(ho:o.op=.makeFunc (.func f) first captured)(h:Rel w0 env κ F U tmp blk L a w):Good P w0 env κ F U tmp blk L a w o (.fn f (.of (first.toList.map (ah tmp))) (.of (captured.toList.map (ah tmp)))) []:=by
 refine au h (u:=.func (.func f) (first.map a.eval) (captured.map a.eval)) (.inl ?_) ⟨_,_,rfl,bM _,bM _,E7 h first,E7 h captured⟩
 simp[execOp,ho,Instr.makeFunc]
theorem LC{o:Oper}{t m:Nat}(ho:o.op=.makeMap t none)(h:Rel w0 env κ F U tmp blk L a w)(hm:¬U m):Good P w0 env κ F U tmp blk L a w o (.map m) [(m,some (.map .nil .nil))]:=by
 refine⟨.map (some w.heap.size),w.alloc (.map #[] 0),upd κ m (.pointer (some ⟨w.heap.size,0,none⟩)),F,.inl ?_,?_,⟨w.heap.size,ao ..,rfl⟩,h.new_kept hm rfl⟩
 ·simp[execOp,ho,Instr.makeMap]
 ·refine(h.new hm rfl (x:=.map .nil .nil) ⟨w.heap.size,#[],0,ao ..,World.alloc_heap_new _ _,h.below.size,rfl,rfl,rfl,⟨fun i k v hk=>by simp[SV.list]at hk,fun e he=>by simp at he,fun e he=>by simp at he⟩⟩ (fun c hc=>by cases hc)).monoU (fun b hb=>?_)
  rcases hb with hb|rfl
  ·exact .inl hb
  ·exact .inr ⟨_,List.mem_singleton.2 rfl,rfl⟩
def lO(P:Program)(t:Nat)(u:Value):Prop:=
 (P.underlying t=some (.int .i64)/\∃n,u=.int .i64 n) ∨
 ∃fs f g n m,P.underlying t=some (.struct fs)/\fs=#[f,g]/\P.stoodInHeld t=false/\f.name ≠ "_" ∧ g.name ≠ "_" ∧ f.offset=0/\g.offset=1/\P.underlying f.type=some (.int .i64)/\P.underlying g.type=some (.int .i64)/\u=.agg #[.int .i64 n,.int .i64 m]
theorem uL{t:Nat}(h:Eu P t=true):P.underlying t=some (.int .i64):=by
 unfold Eu at h;split at h
 ·assumption
 ·cases h
theorem uJ{t:Nat}{k:SV}{u:Value}(hk:rY P t k=true)(h:SVden env κ F w k u):lO P t u:=by
 unfold rY at hk;split at hk
 ·exact .inl ⟨uL hk,_,h.1⟩
 ·split at hk
  ·rename_i fs hu
   split at hk
   ·rename_i f g hfs
    simp only[Bool.and_eq_true,Bool.not_eq_true',bne_iff_ne,ne_eq,beq_iff_eq]at hk;obtain⟨⟨⟨⟨⟨⟨⟨⟨h0,h1⟩,h2⟩,h3⟩,h4⟩,h5⟩,h6⟩,_⟩,_⟩:=hk;obtain⟨cs,rfl,_,p,q,e,h7,p',q',e',h8,h9⟩:=h;cases e
    cases e'
    have hq:q'=[]:=by
     have:Value.tuple q'.toArray=.tuple #[]:=h9
     simp at this;exact this
    subst hq;exact .inr ⟨fs,f,g,_,_,hu,by rw[<-Array.toArray_toList (xs:=fs),hfs],h0,h1,h2,h3,h4,uL h5,uL h6,by rw[h7.1,h8.1]⟩
   ·cases hk
  ·cases hk
 ·cases hk
theorem Ns{t:Nat}{u u':Value}(h:lO P t u)(h':lO P t u')(D:Nat):∃b,(Op.equalIn (D+2) t u u').run P w=.ok b w/\(b=true↔u=u'):=by
 rcases h with⟨h1,n,rfl⟩|⟨fs,f,g,n,m,h1,h2,h3,h4,h5,h6,h7,h8,h9,rfl⟩
 ·rcases h' with⟨_,n',rfl⟩|⟨fs,f,g,n',m',h1',_⟩
  ·exact⟨_,run_equalIn_int w (D+1) t .i64 .i64 n n' h1,by simp⟩
  ·rw[h1]at h1';cases h1'
 ·rcases h' with⟨h1',n',rfl⟩|⟨fs',f',g',n',m',h1',h2',_,_,_,_,_,_,_,rfl⟩
  ·rw[h1]at h1';cases h1'
  ·rw[h1]at h1'
   cases h1'
   rw[h2]at h2';cases h2'
   have hfs:P.fieldsOf t=#[f,g]:=by unfold Program.fieldsOf;rw[h1,h2]
   have hp:∀(t:Nat) (cs:Array Value) (off:Nat) (v:Value),P.underlying t=some (.int .i64)->cs[off]?=some v->(part t cs off).run P w=.ok v w:=fun t cs off v ht hv=>by
    unfold part;simp[isAgg,run_underlying ht,hv]
   refine⟨(n==n')&&(m==m'),?_,by simp⟩
   rw[run_equalIn_struct w (D+1) t _ _ (by rw[hfs,<-h2];exact h1) h3,hfs]
   have p1:=hp f.type #[.int .i64 n,.int .i64 m] f.offset (.int .i64 n) h8 (by rw[h6];rfl)
   have p2:=hp f.type #[.int .i64 n',.int .i64 m'] f.offset (.int .i64 n') h8 (by rw[h6];rfl)
   have p3:=hp g.type #[.int .i64 n,.int .i64 m] g.offset (.int .i64 m) h9 (by rw[h7];rfl)
   have p4:=hp g.type #[.int .i64 n',.int .i64 m'] g.offset (.int .i64 m') h9 (by rw[h7];rfl)
   have r1:=run_equalIn_int (P:=P) w D f.type .i64 .i64 n n' h8;have r2:=run_equalIn_int (P:=P) w D g.type .i64 .i64 m m' h9;simp only[Op.eqFields,if_pos h4,if_pos h5,Sem.run_bind,p1,p2,Result.andThen_ok];rw[r1];simp only[Result.andThen_ok];cases e:(n==n')with
   |true=>
    simp only[Bool.not_true,Bool.false_eq_true,if_false,Sem.run_bind,p3,p4,Result.andThen_ok,Bool.true_and];rw[r2];simp only[Result.andThen_ok];cases e2:(m==m')<;>simp
   |false=>simp
theorem rZ{t:Nat}{u:Value}(h:lO P t u)(e:Bool)(n:Nat):(Instr.checkKey e (n+2) t u).run P w=.ok () w:=by
 rcases h with⟨h1,k,rfl⟩|⟨fs,f,g,k,m,h1,h2,h3,h4,h5,h6,h7,h8,h9,rfl⟩
 ·simp[Instr.checkKey,run_underlying h1]
 ·have hp:∀(t:Nat) (cs:Array Value) (off:Nat) (v:Value),P.underlying t=some (.int .i64)->cs[off]?=some v->(part t cs off).run P w=.ok v w:=fun t cs off v ht hv=>by
   unfold part;simp[isAgg,run_underlying ht,hv]
  have p1:=hp f.type #[.int .i64 k,.int .i64 m] f.offset _ h8 (by rw[h6];rfl)
  have p3:=hp g.type #[.int .i64 k,.int .i64 m] g.offset _ h9 (by rw[h7];rfl)
  have c1:∀v,(Instr.checkKey e (n+1) f.type (.int .i64 v)).run P w=.ok () w:=fun v=>by simp[Instr.checkKey,run_underlying h8]
  have c2:∀v,(Instr.checkKey e (n+1) g.type (.int .i64 v)).run P w=.ok () w:=fun v=>by simp[Instr.checkKey,run_underlying h9]
  rw[Instr.checkKey];simp only[Sem.run_bind,run_underlying h1,Result.andThen_ok,h2];simp[h4,h5,p1,p3,c1,c2]
theorem CR{t:Nat}{key:Value}(hk:lO P t key):∀(es:List MapEntry),(∀e∈es,lO P t e.key) →
  ∃r,(Instr.findKey t key es).run P w=.ok r w/\((r=none/\∀e∈es,e.key≠key)\/∃i,∃e∈es,e.key=key/\r=some (i,e.val)):=by
 intro es hes;have hask:∀(es:List MapEntry) (i:Nat),(∀e∈es,lO P t e.key)->∃r,(Instr.findAsking t key es i).run P w=.ok r w/\((r=none/\∀e∈es,e.key≠key)\/∃i,∃e∈es,e.key=key/\r=some (i,e.val)):=by
  intro es;induction es with
  |nil=>intro i _;exact⟨none,by simp[Instr.findAsking],.inl ⟨rfl,fun e he=>by cases he⟩⟩
  | cons x es ih=>
   intro i hes;obtain⟨b,h1,h2⟩:=Ns (w:=w) hk (hes x (List.mem_cons_self ..)) 9998
   have h1:(Op.equal t key x.key).run P w=.ok b w:=h1
   cases b with
   |true=>
    exact⟨some (i,x.val),by simp[Instr.findAsking,h1],.inr ⟨i,x,List.mem_cons_self ..,(h2.1 rfl).symm,rfl⟩⟩
   | false=>
    obtain⟨r,h3,h4⟩:=ih (i+1) (fun e he=>hes e (List.mem_cons_of_mem _ he))
    refine⟨r,by simp[Instr.findAsking,h1,h3],?_⟩
    rcases h4 with⟨h4,h5⟩|⟨i,e,h4,h5⟩
    ·refine .inl ⟨h4,fun e he=>?_⟩
     rcases List.mem_cons.1 he with rfl|he
     ·intro hh;have:=h2.2 hh.symm;cases this
     ·exact h5 e he
    ·exact .inr ⟨i,e,List.mem_cons_of_mem _ h4,h5⟩
 unfold Instr.findKey;rcases hk with⟨h1,n,rfl⟩|⟨fs,f,g,n,m,h1,h2,h3⟩
 ·have hnow:∀(es:List MapEntry) (i:Nat),(∀e∈es,lO P t e.key)->∃r,Instr.findNow (.int .i64) (.int .i64 n) es i=some r/\((r=none/\∀e∈es,e.key≠.int .i64 n)\/∃i,∃e∈es,e.key=.int .i64 n/\r=some (i,e.val)):=by
   intro es;induction es with
   |nil=>intro i _;exact⟨none,rfl,.inl ⟨rfl,fun e he=>by cases he⟩⟩
   | cons x es ih=>
    intro i hes;rcases hes x (List.mem_cons_self ..)with⟨_,k,hxk⟩|⟨fs,f,g,n',m',h1',_⟩
    ·by_cases e:n=k
     ·subst e
      exact⟨some (i,x.val),by simp[Instr.findNow,Instr.sameNow,hxk],.inr ⟨i,x,List.mem_cons_self ..,hxk,rfl⟩⟩
     ·obtain⟨r,h3,h4⟩:=ih (i+1) (fun e he=>hes e (List.mem_cons_of_mem _ he))
      have e0:(n==k)=false:=by simpa using e
      refine⟨r,by simp[Instr.findNow,Instr.sameNow,hxk,e0,h3],?_⟩
      rcases h4 with⟨h4,h5⟩|⟨i,e',h4,h5⟩
      ·refine .inl ⟨h4,fun e' he=>?_⟩
       rcases List.mem_cons.1 he with rfl|he
       ·rw[hxk];intro hh;cases hh;exact e rfl
       ·exact h5 e' he
      ·exact .inr ⟨i,e',List.mem_cons_of_mem _ h4,h5⟩
    ·rw[h1]at h1';cases h1'
  obtain⟨r,h3,h4⟩:=hnow es 0 hes;exact⟨r,by simp[run_underlying h1,h3],h4⟩
 ·simp only[Sem.run_bind,run_underlying h1,Result.andThen_ok]
  cases es with
  |nil=>exact⟨none,by simp[Instr.findNow],.inl ⟨rfl,fun e he=>by cases he⟩⟩
  |cons x es=>
   have:Instr.findNow (.struct fs) key (x::es) 0=none:=by simp[Instr.findNow,Instr.sameNow]
   rw[this];exact hask (x::es) 0 hes
theorem FD{t:Nat}{ks vs:SV}{es:List MapEntry}(h:MapDen env κ F w ks vs es)(hk:ks.list.all (rY P t)=true):∀e∈es,lO P t e.key:=fun e he=>by
 obtain⟨i,k,v,h1,h2,h3,_⟩:=h.2.1 e he;exact uJ (List.all_eq_true.1 hk k (List.mem_of_getElem? h1)) h3
theorem Fv{t:Nat}{k k':SV}{u u':Value}{e:E}(he:qc P 12 t k k'=some e)(h:SVden env κ F w k u)(h':SVden env κ F w k' u')(hv:lO P t u)(hv':lO P t u'):(den env e).b=true↔u=u':=by
 obtain⟨b,h1,h2⟩:=Ns (w:=w) hv hv' 9998
 have h3:=(CB 12 10000 t k k' u u' e (by decide) he h h').1
 rw[h1]at h3;cases h3
 exact h2
theorem FL{o:Oper}{t:Nat}{x y z:Operand}(ho:o.op=.insert t x y z\/o.op=.mapUpdate t x y z)(h:Rel w0 env κ F U tmp blk L a w){needs:List E}{v:SV}{wr:List (Nat×Option SB)}
  (hc:iz P blk t (ah tmp x) (ah tmp y) (ah tmp z)=.ok needs v wr):Good P w0 env κ F U tmp blk L a w o v wr:=by
 unfold iz at hc;split at hc
 ·rename_i b kt et hx ht
  split at hc
  ·rename_i ks vs hb
   split at hc
   ·rename_i hh
    cases hc
    simp only[Bool.and_eq_true,beq_iff_eq]at hh;obtain⟨⟨⟨⟨⟨c1,c2⟩,c3⟩,c4⟩,c5⟩,c6⟩:=hh;have hex:=h.ev x;rw[hx]at hex;obtain⟨r,g1,g2⟩:=hex;obtain⟨r',es,clock,g3,g4,g5,g6,g7,g8,g9⟩:=h.blks b _ hb;rw[g1]at g3;cases g3
    have hky:=uJ c1 (h.ev y);have hkes:=FD g9 c2;obtain⟨fr,f1,f2⟩:=CR (w:=w) hky es.toList hkes
    have hno:∀e∈es.toList,e.key≠a.eval y:=fun e he hh=>by
     obtain⟨i,k,v,q1,q2,q3,_⟩:=g9.2.1 e he;have hk:=List.all_eq_true.1 c3 k (List.mem_of_getElem? q1);simp only[beq_iff_eq]at hk;have:=(Fv hk (h.ev y) q3 hky (hkes e he)).2 hh.symm
     simp[den]at this
    have hfr:fr=none:=by
     rcases f2 with⟨f2,_⟩|⟨i,e,he,f3,_⟩
     ·exact f2
     ·exact absurd f3 (hno e he)
    subst hfr;obtain⟨W,hW⟩:∃W,W={ w with heap:=w.heap.setIfInBounds r (.map (es.push { key:=a.eval y,val:=a.eval z,born:=clock }) (clock+1)) }:=⟨_,rfl⟩
    have hlt:=fa g4;have hrun:(Instr.mapUpdate t (a.eval x) (a.eval y) (a.eval z)).run P w=.ok () W:=by
     rw[g2,hW];simp only[Instr.mapUpdate,run_underlying ht,Sem.run_bind,Result.andThen_ok,run_getObj_map w r es clock g4,rZ hky,f1,uf _ g4]
    have hR:dd P o a w undef W:=.inr ⟨rfl,by
     rcases ho with ho|ho<;>simp only[execOp,ho,Sem.run_bind,hrun,Result.andThen_ok,Sem.run_pure]⟩
    have hw:∀k,ai (κ b)≠some k->W.heap[k]?=w.heap[k]?:=fun k hk=>by
     rw[hW];have:r≠k:=fun e=>hk (by rw[g1,e];rfl)
     simp[this]
    have hsz:W.heap.size=w.heap.size:=by rw[hW];simp
    have hF2:∀k,F k->W.heap[k]?=w.heap[k]?:=fun k hF=>hw k (fun e=>h.nF b k (by rw[hb];rfl) e hF)
    have kp:∀ {x u},SVden env κ F w x u->SVden env κ F W x u:=fun hd=>hd.keep (fun _ _=>rfl) (fun _ h=>h) hF2
    refine⟨undef,W,κ,F,hR,?_,trivial,h.stored_kept hb rfl rfl hw hsz⟩
    refine(h.stored (y:=.map (.of (ks.list++[ah tmp y])) (.of (vs.list++[ah tmp z]))) hb rfl hw hsz ?_ (fun c hc=>?_) ?_).monoU (fun b hb=>.inl hb)
    ·refine⟨r,es.push { key:=a.eval y,val:=a.eval z,born:=clock },clock+1,g1,by rw[hW];simp[hlt],g5,bM _,bM _,by simp[Id,list_len,c6],?_⟩
     have hl:ks.list.length=vs.list.length:=by rw[list_len,list_len,c6]
     obtain⟨m1,m2,m3⟩:=g9;refine⟨fun i k v hk hv=>?_,fun e he=>?_,fun e he e' he' hee=>?_⟩
     ·rw[fK]at hk hv
      by_cases hi:i<ks.list.length
      ·rw[List.getElem?_append_left hi]at hk
       rw[List.getElem?_append_left (by omega)]at hv
       obtain⟨e,he,d1,d2⟩:=m1 i k v hk hv;exact⟨e,by simp at he⊢;exact .inl he,kp d1,kp d2⟩
      ·rw[List.getElem?_append_right (by omega)]at hk
       rw[List.getElem?_append_right (by omega)]at hv
       have h0:i-ks.list.length=0:=by
        have:=(List.getElem?_eq_some_iff.1 hk).1;simp at this;omega
       rw[h0]at hk;rw[<-hl,h0]at hv;simp at hk hv
       subst hk;subst hv;exact⟨_,by simp;exact .inr rfl,kp (h.ev y),kp (h.ev z)⟩
     ·simp at he
      rcases he with he|rfl
      ·obtain⟨i,k,v,q1,q2,d1,d2⟩:=m2 e (by simpa using he)
       refine⟨i,k,v,?_,?_,kp d1,kp d2⟩
       ·rw[fK,List.getElem?_append_left (List.getElem?_eq_some_iff.1 q1).1];exact q1
       ·rw[fK,List.getElem?_append_left (List.getElem?_eq_some_iff.1 q2).1];exact q2
      ·refine⟨ks.list.length,ah tmp y,ah tmp z,?_,?_,kp (h.ev y),kp (h.ev z)⟩
       ·rw[fK,List.getElem?_append_right (Nat.le_refl _)];simp
       ·rw[fK,List.getElem?_append_right (by omega),hl];simp
     ·simp at he he'
      rcases he with he|rfl<;>rcases he' with he'|rfl
      ·exact m3 e (by simpa using he) e' (by simpa using he') hee
      ·exact absurd hee (hno e (by simpa using he))
      ·exact absurd hee.symm (hno e' (by simpa using he'))
      ·rfl
    ·have hks:∀c∈ks.names++vs.names,U c:=(h.bnames b _ hb).2
     simp only[SB.names,List.mem_append]at hc;rcases hc with hc|hc
     ·obtain⟨z',hz,hc⟩:=(gk _ c).1 hc
      rcases List.mem_append.1 hz with hz|hz
      ·exact hks c (List.mem_append_left _ (cj ks z' hz c hc))
      ·simp at hz;subst hz;exact h.evNames y c hc
     ·obtain⟨z',hz,hc⟩:=(gk _ c).1 hc
      rcases List.mem_append.1 hz with hz|hz
      ·exact hks c (List.mem_append_right _ (cj vs z' hz c hc))
      ·simp at hz;subst hz;exact h.evNames z c hc
    ·refine h.below.trans ⟨by rw[hW],by rw[hW],by rw[hW],by omega,fun k hk=>hw k (fun e=>?_)⟩
     rw[g1]at e;have e:r=k:=by simpa[ai]using e
     omega
   ·cases hc
  ·cases hc
 ·cases hc
theorem Mc{tr:E->Option Bool}{kt:Nat}{z ix:SV}{ok:Bool}(htr:∀e b,tr e=some b->(den env e).b=b):∀(ks vs:List SV) (needs:List E) (v:SV) (wr:List (Nat×Option SB)),iC P tr kt z ix ok ks vs=.ok needs v wr →
  wr=[]/\((∃(i:Nat) (k x:SV) (e:E),ks[i]?=some k/\vs[i]?=some x/\qc P 12 kt ix k=some e/\(den env e).b=true/\v=if ok then .tup (.cons x (.cons (.vb (.bool true)) .nil))else x) ∨
   ((∀(i:Nat) k,ks[i]?=some k->∃e,qc P 12 kt ix k=some e/\(den env e).b=false)/\v=if ok then .tup (.cons z (.cons (.vb (.bool false)) .nil))else z)):=by
 intro ks;induction ks with
 |nil=>
  intro vs needs v wr h;cases vs with
  |nil=>simp only[iC]at h;cases h;exact⟨rfl,.inr ⟨fun i k hk=>by simp at hk,rfl⟩⟩
  |cons x vs=>simp only[iC]at h;cases h
 | cons k ks ih=>
  intro vs needs v wr h;cases vs with
  |nil=>simp only[iC]at h;cases h
  | cons x vs=>
   simp only[iC]at h;split at h
   ·cases h
   ·rename_i e he
    split at h
    ·rename_i ht
     cases h
     exact⟨rfl,.inl ⟨0,k,x,e,rfl,rfl,he,htr _ _ ht,rfl⟩⟩
    ·rename_i ht
     obtain⟨h0,h1⟩:=ih vs needs v wr h;refine⟨h0,?_⟩
     rcases h1 with⟨i,k',x',e',q1,q2,q3⟩|⟨q1,q2⟩
     ·exact .inl ⟨i+1,k',x',e',by simpa using q1,by simpa using q2,q3⟩
     ·refine .inr ⟨fun i k' hk=>?_,q2⟩
      cases i with
      |zero=>simp at hk;subst hk;exact⟨e,he,htr _ _ ht⟩
      |succ i=>exact q1 i k' (by simpa using hk)
    ·cases h
theorem MP{o:Oper}{tr:E->Option Bool}{t:Nat}{x y:Operand}{ok:Bool}(htr:∀e b,tr e=some b->(den env e).b=b)(ho:o.op=.lookup t x y ok)(h:Rel w0 env κ F U tmp blk L a w){needs:List E}{v:SV}{wr:List (Nat×Option SB)}
  (hc:jV P tr blk t (ah tmp x) (ah tmp y) ok=.ok needs v wr):Good P w0 env κ F U tmp blk L a w o v wr:=by
 unfold jV at hc;split at hc
 ·rename_i b kt et hx ht
  split at hc
  ·rename_i ks vs z hb hz
   split at hc
   ·rename_i hh
    rw[Bool.and_eq_true]at hh;obtain⟨c1,c2⟩:=hh;obtain⟨hwr,hres⟩:=Mc htr _ _ _ _ _ hc;subst hwr;have hex:=h.ev x;rw[hx]at hex;obtain⟨r,g1,g2⟩:=hex;obtain⟨r',es,clock,g3,g4,g5,g6,g7,g8,g9⟩:=h.blks b _ hb;rw[g1]at g3;cases g3
    have hky:=uJ c1 (h.ev y);have hkes:=FD g9 c2;obtain⟨fr,f1,f2⟩:=CR (w:=w) hky es.toList hkes
    unfold dr at hz;obtain⟨zv,hz1,rfl⟩:=Option.map_eq_some_iff.1 hz;obtain⟨i,hi,hz2⟩:=Option.bind_eq_some_iff.1 hz1;have hzero:(zeroValue et).run P w=.ok zv w:=by simp[zeroValue,typeInfo,hi,hz2]
    have key:∃u q,(Instr.lookup t (a.eval x) (a.eval y) ok).run P w=.ok (if ok then .tuple #[u,.bool q]else u) w/\∃s:SV,SVden env κ F w s u/\v=if ok then .tup (.cons s (.cons (.vb (.bool q)) .nil))else s:=by
     rcases hres with⟨i,k,s,e,q1,q2,q3,q4,q5⟩|⟨q1,q2⟩
     ·obtain⟨en,he,d1,d2⟩:=g9.1 i k s q1 q2
      have hkey:=(Fv q3 (h.ev y) d1 hky (hkes en he)).1 q4;rcases f2 with⟨_,f3⟩|⟨i',en',he',f3,rfl⟩
      ·exact absurd hkey.symm (f3 en he)
      ·have hval:en'.val=en.val:=g9.2.2 en' he' en he (by rw[f3,hkey])
       refine⟨en'.val,true,?_,s,by rw[hval];exact d2,q5⟩
       rw[g2];simp only[Instr.lookup,run_underlying ht,Sem.run_bind,Result.andThen_ok,run_getObj_map w r es clock g4,rZ hky,f1,Sem.run_pure]
     ·have hfr:fr=none:=by
       rcases f2 with⟨f2,_⟩|⟨i',en,he,f3,_⟩
       ·exact f2
       ·exfalso
        obtain⟨j,k,s,p1,p2,p3,_⟩:=g9.2.1 en he;obtain⟨e,e1,e2⟩:=q1 j k p1;have:=(Fv e1 (h.ev y) p3 hky (hkes en he)).2 f3.symm
        rw[e2]at this;cases this
      subst hfr;refine⟨zv,false,?_,di zv,fm zv,q2⟩
      rw[g2];simp only[Instr.lookup,run_underlying ht,Sem.run_bind,Result.andThen_ok,run_getObj_map w r es clock g4,rZ hky,f1,hzero,Sem.run_pure]
    obtain⟨u,q,hrun,s,hs,rfl⟩:=key;refine au h (u:=if ok then .tuple #[u,.bool q]else u) (.inl ?_) ?_
    ·simp only[execOp,ho,Sem.run_bind,hrun,Result.andThen_ok,Sem.run_pure]
    ·cases ok with
     |true=>exact⟨#[u,.bool q],rfl,rfl,u,[.bool q],rfl,hs,.bool q,[],rfl,⟨rfl,rfl⟩,rfl⟩
     |false=>exact hs
   ·cases hc
  ·cases hc
 ·cases hc
theorem Mu(d:Nat){t:Nat}{ms:Array (String×TypeId)}(hu:P.underlying t=some (.interface ms))(hms:ms.isEmpty=true):(Op.eqGuardIn (d+1) t .nilIface .nilIface).run P w=.ok false w:=by
 simp only[Op.eqGuardIn,Sem.run_bind,run_underlying hu,Result.andThen_ok,hms,Sem.run_pure,Bool.not_true]
theorem CN(d:Nat){t:Nat}{ms:Array (String×TypeId)}(hu:P.underlying t=some (.interface ms)):
  (Op.equalIn (d+1) t .nilIface .nilIface).run P w=.ok true w/\(∀u v,(Op.equalIn (d+1) t .nilIface (.iface u v)).run P w=.ok false w)/\∀u v,(Op.equalIn (d+1) t (.iface u v) .nilIface).run P w=.ok false w:=by
 refine⟨?_,fun u v=>?_,fun u v=>?_⟩<;>simp only[Op.equalIn,Sem.run_bind,run_underlying hu,Result.andThen_ok,Sem.run_pure]
theorem CH(d:Nat){t:Nat}{q1 q2:Array TypeId}{q3:Bool}(hu:P.underlying t=some (.func q1 q2 q3)):
  (Op.equalIn (d+1) t .nilFunc .nilFunc).run P w=.ok true w/\(∀f u v,(Op.equalIn (d+1) t .nilFunc (.func f u v)).run P w=.ok false w)/\∀f u v,(Op.equalIn (d+1) t (.func f u v) .nilFunc).run P w=.ok false w:=by
 refine⟨?_,fun f u v=>?_,fun f u v=>?_⟩<;>simp only[Op.equalIn,Sem.run_bind,run_underlying hu,Result.andThen_ok,Sem.run_pure]
theorem lr{op:BinOp}{t:Nat}{x y:Operand}{u v:Value}{r:Bool}(hg:(eqGuard op t x y u v).run P w=.ok () w)(he:(Op.equal t u v).run P w=.ok r w)
  (hu:(∃b,u=.nilIface/\b=())\/(∃a b,u=.iface a b)\/u=.nilFunc\/∃a b c,u=.func a b c):
  (eqGuard op t x y u v).run P w=.ok () w/\(binOp .eql t u v).run P w=.ok (.bool r) w/\(binOp .neq t u v).run P w=.ok (.bool (!r)) w:=by
 refine⟨hg,?_,?_⟩<;>rcases hu with⟨b,rfl,_⟩|⟨a,b,rfl⟩|rfl|⟨a,b,c,rfl⟩<;>(simp only[binOp];simp[he])
theorem Cj(c:Bool)(k:Sem Unit)(h:k.run P w=.ok () w):(if c=true then pure ()else k).run P w=.ok () w:=by
 cases c<;>simp[h]
theorem gW{op:BinOp}{t:Nat}{x y:Operand}{u v:Value}(h:u≠.nilIface\/v≠.nilIface)(h2:∀a b,¬(u=.agg a/\v=.agg b)):(eqGuard op t x y u v).run P w=.ok () w:=by
 unfold eqGuard;refine Cj _ _ ?_
 split
 ·rcases h with h|h<;>exact absurd rfl h
 ·exact absurd ⟨rfl,rfl⟩ (h2 _ _)
 ·rfl
theorem N6{o:Oper}{op:BinOp}{t ty:TypeId}{x y:Operand}(ho:o.op=.binOp op t x y ty)(h:Rel w0 env κ F U tmp blk L a w){needs:List E}{v:SV}{wr:List (Nat×Option SB)}
  {p q:SV} (hx:ah tmp x=p) (hy:ah tmp y=q) {r:Bool} (hr:LI P t p q=some r) (hc:tw op r=.ok needs v wr):Good P w0 env κ F U tmp blk L a w o v wr:=by
 have hex:=h.ev x;have hey:=h.ev y;rw[hx]at hex;rw[hy]at hey;have hI:∀b,ifT P t b=true->∃ms,P.underlying t=some (.interface ms)/\(b=true->ms.isEmpty=true):=fun b hi=>by
  unfold ifT at hi;split at hi
  ·rename_i ms hu
   exact⟨ms,hu,fun e=>by subst e;simpa using hi⟩
  ·cases hi
 have hF:fnT P t=true->∃q1 q2 q3,P.underlying t=some (.func q1 q2 q3):=fun hi=>by
  unfold fnT at hi;split at hi
  ·rename_i q1 q2 q3 hu
   exact⟨q1,q2,q3,hu⟩
  ·cases hi
 have E:(eqGuard op t x y (a.eval x) (a.eval y)).run P w=.ok () w/\(binOp .eql t (a.eval x) (a.eval y)).run P w=.ok (.bool r) w/\(binOp .neq t (a.eval x) (a.eval y)).run P w=.ok (.bool (!r)) w:=by
  unfold LI at hr;split at hr
  ·split at hr<;>cases hr
   rename_i hi
   obtain⟨ms,hu,hms⟩:=hI _ hi;rw[show a.eval x=.nilIface from hex,show a.eval y=.nilIface from hey]
   refine lr ?_ (CN 9999 hu).1 (.inl ⟨(),rfl,rfl⟩)
   have e1:(Op.eqGuardIn Op.maxDepth t .nilIface .nilIface).run P w=.ok false w:=Mu 9999 hu (hms rfl)
   unfold eqGuard;refine Cj _ _ ?_
   dsimp only;refine Cj _ _ ?_
   rw[Sem.run_bind,e1];rfl
  ·split at hr<;>cases hr
   rename_i hi
   obtain⟨ms,hu,_⟩:=hI _ hi;obtain⟨v',hey,_⟩:=hey;rw[show a.eval x=.nilIface from hex,hey]
   exact lr (gW (.inr (by simp)) (by simp)) ((CN 9999 hu).2.1 _ _) (.inl ⟨(),rfl,rfl⟩)
  ·split at hr<;>cases hr
   rename_i hi
   obtain⟨ms,hu,_⟩:=hI _ hi;obtain⟨v',hex,_⟩:=hex;rw[show a.eval y=.nilIface from hey,hex]
   exact lr (gW (.inl (by simp)) (by simp)) ((CN 9999 hu).2.2 _ _) (.inr (.inl ⟨_,_,rfl⟩))
  ·split at hr<;>cases hr
   rename_i hi
   obtain⟨q1,q2,q3,hu⟩:=hF hi;rw[show a.eval x=.nilFunc from hex,show a.eval y=.nilFunc from hey]
   exact lr (gW (.inl (by simp)) (by simp)) (CH 9999 hu).1 (.inr (.inr (.inl rfl)))
  ·split at hr<;>cases hr
   rename_i hi
   obtain⟨q1,q2,q3,hu⟩:=hF hi;obtain⟨ds,cs,hey,_⟩:=hey;rw[show a.eval x=.nilFunc from hex,hey]
   exact lr (gW (.inl (by simp)) (by simp)) ((CH 9999 hu).2.1 _ _ _) (.inr (.inr (.inl rfl)))
  ·split at hr<;>cases hr
   rename_i hi
   obtain⟨q1,q2,q3,hu⟩:=hF hi;obtain⟨ds,cs,hex,_⟩:=hex;rw[show a.eval y=.nilFunc from hey,hex]
   exact lr (gW (.inl (by simp)) (by simp)) ((CH 9999 hu).2.2 _ _ _) (.inr (.inr (.inr ⟨_,_,_,rfl⟩)))
  ·cases hr
 unfold tw at hc;split at hc
 ·cases hc
  exact au h (u:=.bool r) (.inl (by simp only[execOp,ho,Sem.run_bind,E.1,Result.andThen_ok,E.2.1,Sem.run_pure])) ⟨rfl,rfl⟩
 ·cases hc
  exact au h (u:=.bool (!r)) (.inl (by simp only[execOp,ho,Sem.run_bind,E.1,Result.andThen_ok,E.2.2,Sem.run_pure])) ⟨rfl,rfl⟩
 ·cases hc
theorem Mr{o:Oper}{x:Operand}{u t:TypeId}{ok:Bool}(ho:o.op=.typeAssert x u t ok)(h:Rel w0 env κ F U tmp blk L a w){needs:List E}{v:SV}{wr:List (Nat×Option SB)}
  (hc:mz P t ok (ah tmp x)=.ok needs v wr):Good P w0 env κ F U tmp blk L a w o v wr:=by
 have hex:=h.ev x;unfold mz at hc;split at hc
 ·cases hc
 ·cases hc
 rename_i d hni hd
 have hz0:∀z,dr P t=some z->∃zv,(zeroValue t).run P w=.ok zv w/\z=di zv:=fun z hz=>by
  unfold dr at hz;obtain⟨zv,hz1,rfl⟩:=Option.map_eq_some_iff.1 hz;obtain⟨i,hi,hz2⟩:=Option.bind_eq_some_iff.1 hz1;exact⟨zv,by simp[zeroValue,typeInfo,hi,hz2],rfl⟩
 have G:∀z q,SVden env κ F w z q->∀b,(Instr.typeAssert (a.eval x) u t true).run P w=.ok (.tuple #[q,.bool b]) w->ok=true->Good P w0 env κ F U tmp blk L a w o (.tup (.cons z (.cons (.vb (.bool b)) .nil))) []:=fun z q hzq b hrun hok=>by
  subst hok;refine au h (u:=.tuple #[q,.bool b]) (.inl ?_) ⟨#[q,.bool b],rfl,rfl,q,[.bool b],rfl,hzq,.bool b,[],rfl,⟨rfl,rfl⟩,rfl⟩
  simp only[execOp,ho,Sem.run_bind,hrun,Result.andThen_ok,Sem.run_pure]
 split at hc
 ·rename_i z hx hz
  rw[hx]at hex;split at hc
  ·rename_i hok
   cases hc
   obtain⟨zv,hz1,rfl⟩:=hz0 _ hz;refine G _ zv (fm zv) false ?_ hok
   rw[show a.eval x=_ from hex]
   cases d<;>first|exact absurd rfl (hni _)|simp only[Instr.typeAssert,Sem.run_bind,run_underlying hd,Result.andThen_ok,hz1,Sem.run_pure,if_true]
  ·cases hc
 ·rename_i u' y z hx hz
  rw[hx]at hex;obtain⟨q,hq,hden⟩:=hex;split at hc
  ·rename_i hut
   subst hut;cases ok with
   |true=>
    cases hc
    refine G _ q hden true ?_ rfl
    rw[hq];cases d<;>first|exact absurd rfl (hni _)|simp only[Instr.typeAssert,Sem.run_bind,run_underlying hd,Result.andThen_ok,Sem.run_pure,if_true]
   |false=>
    cases hc
    refine au h (u:=q) (.inl ?_) hden
    simp only[execOp,ho,hq];cases d<;>first|exact absurd rfl (hni _)|simp[Instr.typeAssert,Sem.run_bind,run_underlying hd,Result.andThen_ok,Sem.run_pure]
  ·rename_i hut
   split at hc
   ·rename_i hok
    cases hc
    obtain⟨zv,hz1,rfl⟩:=hz0 _ hz;refine G _ zv (fm zv) false ?_ hok
    rw[hq];cases d<;>first|exact absurd rfl (hni _)|simp only[Instr.typeAssert,Sem.run_bind,run_underlying hd,Result.andThen_ok,if_neg hut,hz1,Sem.run_pure,if_true]
   ·cases hc
 ·cases hc
theorem HW{o:Oper}{t ety:Nat}{row:Ty}{x lo:Operand}(ho:o.op=.slice t x (some lo) none none)(h:Rel w0 env κ F U tmp blk L a w)(ht:bC P t=some (ety,row)){d:Nat}(hx:ah tmp x=.row d){l i:E}(hd:blk d=some (.row ety row l))
  (hl:da (ah tmp) (some lo) (.int 0)=some i) (hn:∀e∈bW (.cmp' .le (.int 0) i)++bW (.cmp' .lt i l.len'),(den env e).b=true):Good P w0 env κ F U tmp blk L a w o (.rtail d row i) []:=by
 obtain⟨u1,u2,u3,_,u5,_⟩:=bS ht;have hev:=h.ev x;rw[hx]at hev;have n1:=cZ (bo fun e he=>hn e (List.mem_append_left _ he))
 have n2:=cZ (bo fun e he=>hn e (List.mem_append_right _ he))
 have n1:0<=(den env i).i:=of_decide_eq_true n1
 have n2:(den env i).i<(den env l.len').i:=of_decide_eq_true n2
 rw[cP]at n2;simp only[AV.i_int]at n2;obtain⟨us,hown,hpos,hrow⟩:=h.blks d _ hd;obtain⟨lv,hlv⟩:∃k:Nat,(k:Int)=(den env i).i:=⟨(den env i).i.toNat,by omega⟩
 have hlt:lv<(den env l).l.length:=by omega
 have hsz:=cG (w:=w) u5;rcases hown.2 with⟨e,e'⟩|⟨g,cap,cur,e,_,_,hnc,_⟩
 ·omega
 have hb:=uE (P:=P) (w:=w) h hl (hi:=none) (d1:=l.len') (q:=l.len') rfl (n:=(den env l).l.length) (c:=cap) (by intro _;rw[cP];rfl) (by intro e2;rw[e2];rfl) hlv (qv:=(den env l).l.length) (by rw[cP];rfl) (by omega) (by omega)
 have hne:¬cap=lv:=by omega
 have hrun:(Instr.sliceAt t (a.eval x) (some (a.eval lo)) none none).run P w=.ok (.slice (some ((⟨g,0,none⟩:Addr).add (lv*row.len))) ((den env l).l.length-lv) (cap-lv)) w:=by
  rw[hev.1,e];simp only[Option.map_some,Option.map_none]at hb;simp only[Instr.sliceAt,run_underlying u1,Sem.run_bind,Result.andThen_ok,Instr.slice,hb,hsz,Sem.run_pure,u2,if_neg hne,Option.map_some]
 refine au h (u:=.slice (some ((⟨g,0,none⟩:Addr).add (lv*row.len))) ((den env l).l.length-lv) (cap-lv)) (.inl ?_) ⟨g,(den env l).l.length,cap,e,n1,n2,?_⟩
 ·simp only[execOp,ho,Option.map_none,Option.map_some,Sem.run_bind,hrun,Result.andThen_ok,Sem.run_pure]
 ·rw[<-hlv];rfl
theorem N2{o:Oper}{s:Operand}{t ety d:Nat}{row:Ty}{l i:E}(ho:o.op=.call { callee:=.builtin .clear,args:=#[s],argTypes:=#[t] })(h:Rel w0 env κ F U tmp blk L a w)(ht:bC P t=some (ety,row))(hs:ah tmp s=.rtail d row i)(hd:blk d=some (.row ety row l))
  {z:SV} (hz:dr P ety=some z) (hw:z.whole=true) (hzl:z.cells.len=row.len) {r:E} (hr:jD z.cells row=some r):
  Good P w0 env κ F U tmp blk L a w o (.tup .nil) [(d,some (.row ety row (.app (.take l i) (.rep (.ii' .sub l.len' i) r))))]:=by
 obtain⟨u1,u2,u3,⟨ti,hti⟩,u5,u6,u7,u8⟩:=bS ht;obtain⟨zv,hz1,rfl⟩:=Ac hti hz;obtain⟨d1,d2⟩:=fZ hw (fm (env:=env) (κ:=κ) (F:=F) (w:=w) zv)
 obtain⟨t1,t2⟩:=bP d2 d1;have hzs:zv.cells.size=row.len:=by rw[t1,hzl]
 obtain⟨q1,q2,q3,q4⟩:=xG hr d1;have hes:=h.ev s;rw[hs]at hes;obtain⟨g,n,c,e1,e2,e3,e4⟩:=hes;obtain⟨us,hown,hpos,hrow⟩:=h.blks d _ hd;rcases hown.2 with⟨e,e'⟩|⟨g',cap,cur,e,hb1,hb2,hnc,hcm,hcs,hcur⟩
 ·rw[e1]at e;cases e
 rw[e1]at e;injection e with x1 x2 x3
 injection x1 with x1
 injection x1 with x1
 subst x1;subst x3;obtain⟨iv,hiv⟩:∃k:Nat,(k:Int)=(den env i).i:=⟨(den env i).i.toNat,by omega⟩
 have hivt:(den env i).i.toNat=iv:=by omega
 have hlt:iv<n:=by omega
 rw[hivt]at e4;obtain⟨Z,hZ⟩:∃Z:List Value,Z=(List.replicate (n-iv) zv.cells.toList).flatten:=⟨_,rfl⟩
 have hZl:Z.length=(n-iv)*row.len:=by rw[hZ];simp[hzs]
 have hmul:iv*row.len+(n-iv)*row.len=n*row.len:=by rw[<-Nat.add_mul];congr 1;omega
 have hul:us.length=n*row.len:=by rw[hown.1,x2]
 have hzero:(zeroValue ety).run P w=.ok zv w:=by simp[zeroValue,typeInfo,hti,hz1]
 have haddr:(⟨g,0,none⟩:Addr).add (iv*row.len)=⟨g,iv*row.len,none⟩:=by unfold Addr.add;split<;>simp_all
 have hcap:n*row.len<=c*row.len:=Nat.mul_le_mul_right _ (by omega)
 have hone:∀v∈Z,v.oneCell'=true:=fun v hv=>by
  rw[hZ]at hv;obtain⟨l',hl',hv⟩:=List.mem_flatten.1 hv;rw[(List.eq_of_mem_replicate hl')]at hv;rw[<-rF];exact q4 v (by simpa using hv)
 have hst:=run_storeCells_at (P:=P) g (iv*row.len) ety Z 0 cur w hb2 (by rw[hZl];omega) hone
 simp only[Nat.add_zero]at hst;have hzc:(Builtin.zeroCells zv.cells (n-iv)).toList=Z:=by
  rw[hZ,<-u0 hzs u3];unfold Builtin.zeroCells;rw[hzs]
 have hrun:(Builtin.clear_ #[t] o.type #[a.eval s]).run P w=.ok (.tuple #[]) (w.setRow g (cur.toList.take (iv*row.len)++Z++cur.toList.drop (iv*row.len+Z.length)).toArray):=by
  rw[e4,haddr];obtain⟨m,hm⟩:∃m,n-iv=m+1:=⟨n-iv-1,by omega⟩
  rw[hm]at hzc⊢
  simp[Builtin.clear_,run_underlying u1,hzero,hzc,hst]
 have hRun:dd P o a w (.tuple #[]) (w.setRow g (cur.toList.take (iv*row.len)++Z++cur.toList.drop (iv*row.len+Z.length)).toArray):=.inl (by
  unfold execOp;simp only[ho,resolve,invoke,builtin,Sem.run_bind,Sem.run_pure,Result.andThen_ok,List.map_toArray,List.map_cons,List.map_nil,hrun])
 have hL:(den env (.app (.take l i) (.rep (.ii' .sub l.len' i) r))).l=(den env l).l.take iv++List.replicate (n-iv) (den env r).g:=by
  have hs:(den env (.ii' .sub l.len' i)).i.toNat=n-iv:=by
   rw[dm,cP];simp only[AV.i_int,IOp.f];omega
  simp only[den,AV.l_sl,hs,hivt]
 have hLl:(den env (.app (.take l i) (.rep (.ii' .sub l.len' i) r))).l.length=n:=by rw[hL];simp;omega
 have hrl:∀r':List AV,r'.map AV.ty=row.list->r'.length=row.len:=fun r' h=>by
  have:=congrArg List.length h
  rw[List.length_map,Ty.list_len]at this;exact this
 have htl:(us.take (iv*row.len)).length=iv*row.len:=by rw[List.length_take,hul];omega
 have key:∀(N j k:Nat),j<N->k<row.len->((List.replicate N zv.cells.toList).flatten)[j*row.len+k]?=zv.cells[k]?:=by
  intro N;induction N with
  |zero=>intro j k hj;omega
  | succ N ih=>
   intro j k hj hk;rw[List.replicate_succ,List.flatten_cons];cases j with
   |zero=>rw[Nat.zero_mul,Nat.zero_add,List.getElem?_append_left (by simp[hzs];exact hk)];simp
   |succ j=>
    rw[List.getElem?_append_right (by simp only[Array.length_toList,hzs,Nat.succ_mul];omega)]
    rw[<-ih j k (by omega) hk]
    congr 1
    simp only[Array.length_toList,hzs,Nat.succ_mul];omega
 have hrows:RowsDen F w (us.take (iv*row.len)++Z) row (den env (.app (.take l i) (.rep (.ii' .sub l.len' i) r))).l:=by
  have hLt:((den env l).l.take iv).length=iv:=by rw[List.length_take];omega
  refine⟨fun j r' hr'=>?_,fun j r' k x hr' hx=>?_⟩
  ·rw[hL]at hr'
   by_cases hj:j<iv
   ·rw[List.getElem?_append_left (by omega),List.getElem?_take,if_pos hj]at hr'
    exact hrow.1 j r' hr'
   ·rw[List.getElem?_append_right (by omega)]at hr'
    rw[List.eq_of_mem_replicate (List.mem_of_getElem? hr')];exact q1
  ·rw[hL]at hr'
   by_cases hj:j<iv
   ·rw[List.getElem?_append_left (by omega),List.getElem?_take,if_pos hj]at hr'
    have hk:k<row.len:=by rw[<-hrl r' (hrow.1 j r' hr')];exact(List.getElem?_eq_some_iff.1 hx).1
    obtain⟨u,hu,hdn⟩:=hrow.2 j r' k x hr' hx;have hm:(j+1)*row.len<=iv*row.len:=Nat.mul_le_mul_right _ hj
    rw[Nat.succ_mul]at hm;refine⟨u,?_,hdn⟩
    rw[List.getElem?_append_left (by omega),List.getElem?_take,if_pos (by omega)];exact hu
   ·rw[List.getElem?_append_right (by omega)]at hr'
    have hjl:=(List.getElem?_eq_some_iff.1 hr').1;rw[hLt,List.length_replicate]at hjl;rw[List.eq_of_mem_replicate (List.mem_of_getElem? hr')]at hx;obtain⟨u,hu,hdn⟩:=q3 k x hx;have hk:k<row.len:=by rw[<-q2];exact(Array.getElem?_eq_some_iff.1 hu).1
    refine⟨u,?_,hdn⟩
    obtain⟨q,rfl⟩:∃q,j=iv+q:=⟨j-iv,by omega⟩
    rw[Nat.add_mul,List.getElem?_append_right (by omega),htl,hZ]
    have:iv*row.len+q*row.len+k-iv*row.len=q*row.len+k:=by omega
    rw[this,key (n-iv) q k (by omega) hk];exact hu
 have hw':∀k,k≠g->∀cs',(w.setRow g cs').heap[k]?=w.heap[k]?:=fun k hk cs'=>setRow_other w g k cs' hk
 have hF:∀k,F k->k≠g:=fun k hk e=>h.nF d g (by rw[hd];rfl) (by rw[e1];rfl) (e▸hk)
 refine⟨_,_,κ,F,hRun,?_,⟨#[],rfl,rfl,rfl⟩,h.stored_kept hd rfl rfl (fun k hk=>hw' k (fun e2=>hk (by rw[e1,e2];rfl)) _) (by simp)⟩
 refine(h.stored (y:=.row ety row (.app (.take l i) (.rep (.ii' .sub l.len' i) r))) hd rfl (fun k hk=>hw' k (fun e2=>hk (by rw[e1,e2];rfl)) _) (by simp) ⟨us.take (iv*row.len)++Z,?_,hpos,hrows.keep (fun _ h=>h) (fun k hk=>hw' k (hF k hk) _)⟩ (fun c hc=>by cases hc) (kU h.below hb1)).monoU (fun b hb=>.inl hb)
 rw[hLl,e1];refine⟨by rw[List.length_append,htl,hZl,hmul],.inr ⟨g,c,_,rfl,hb1,setRow_heap w g cur _ ety (0,0) hb2,by omega,hcm,?_,?_⟩⟩
 ·simp only[List.size_toArray,List.length_append,List.length_take,List.length_drop,Array.length_toList,hZl];omega
 ·have hus:us.take (iv*row.len)=cur.toList.take (iv*row.len):=by
   rw[<-hcur,List.take_take];congr 1;rw[<-x2];omega
  rw[hus];have:(cur.toList.take (iv*row.len)++Z).length=n*row.len:=by
   rw[List.length_append,<-hus,htl,hZl,hmul]
  exact List.take_left' this
theorem Lb{args:Array Operand}{f:Operand->SV}{x:SV}(h:args.toList.map f=[x]):∃y,args=#[y]/\f y=x:=by
 match hl:args.toList,h with
 |[y],h=>exact⟨y,by rw[<-Array.toArray_toList (xs:=args),hl],by simpa using h⟩
theorem A5{args:Array Operand}{f:Operand->SV}{x z:SV}(h:args.toList.map f=[x,z]):∃y u,args=#[y,u]/\f y=x/\f u=z:=by
 match hl:args.toList,h with
 |[y,u],h=>exact⟨y,u,by rw[<-Array.toArray_toList (xs:=args),hl],by simpa using h⟩
theorem II{ts:Array Nat}{t:Nat}(h:ts.toList=[t]):ts=#[t]:=by rw[<-Array.toArray_toList (xs:=ts),h]
theorem Is{ts:Array Nat}{t u:Nat}(h:ts.toList=[t,u]):ts=#[t,u]:=by rw[<-Array.toArray_toList (xs:=ts),h]
theorem Le{con:Nat->Bool}{tr:E->Option Bool}{nm:Nat}{o:Oper}(h:Rel w0 env κ F U tmp blk L a w)(htr:∀e b,tr e=some b->(den env e).b=b){needs:List E}{v:SV}{wr:List (Nat×Option SB)}
  (hm:wr≠[]->¬U nm) (hc:gd P con tr nm (ah tmp) blk o=.ok needs v wr) (hn:∀e∈needs,(den env e).b=true):Good P w0 env κ F U tmp blk L a w o v wr:=by
 unfold gd at hc;split at hc
 case h_1 x ho=>cases hc;exact KP (.inl ho) h
 case h_2 x ho=>cases hc;exact KP (.inr ho) h
 case h_3 c x y ho=>
  unfold AH at hc;split at hc
  ·rename_i e he
   split at hc
   ·rename_i ht;cases hc;exact KR (b:=true) ho h he (htr _ _ ht)
   ·rename_i ht;cases hc;exact KR (b:=false) ho h he (htr _ _ ht)
   ·cases hc
  ·cases hc
 case h_4 t ho=>
  unfold vo at hc;split at hc
  ·rename_i x hx
   split at hc
   ·rename_i hh;cases hc
    exact OL ho h (hm (by simp)) hx (Bool.and_eq_true_iff.1 hh).1 (Bool.and_eq_true_iff.1 hh).2
   ·cases hc
  ·cases hc
 case h_5 t x ho=>
  unfold D6 at hc;split at hc
  ·rename_i hh;cases hc
   exact QR ho h (hm (by simp)) (Bool.and_eq_true_iff.1 hh).1 (Bool.and_eq_true_iff.1 hh).2
  ·cases hc
 case h_6 t parts ho=>
  unfold u4 at hc;split at hc
  ·rename_i z pl hz hpl
   split at hc
   ·rename_i hw
    split at hc
    ·rename_i cs hcs
     cases hc
     exact NJ ho h hz hw hpl hcs
    ·cases hc
   ·cases hc
  ·cases hc
 case h_7 t len parts ho=>
  unfold jK at hc;split at hc
  ·rename_i ety row ht
   split at hc
   ·rename_i z hz
    split at hc
    ·rename_i cs hcs
     split at hc
     ·rename_i l hl
      split at hc
      ·rename_i hh
       cases hc
       exact HV ho h (hm (by simp)) ht hz hh.2.1 hh.2.2.1 hcs hl hh.1 hh.2.2.2
      ·cases hc
     ·cases hc
    ·cases hc
   ·cases hc
  ·cases hc
 case h_8 t x ho=>exact PJ ho h hc
 case h_9 t x y ho=>
  unfold jR at hc;simp only at hc
  split at hc
  ·cases hc
  rename_i hh
  have g1:(ah tmp y).cells.len=P.cellsOf t:=by
   by_cases e:(ah tmp y).cells.len=P.cellsOf t
   ·exact e
   ·exact absurd (.inl e) hh
  have g2:bq P t=true:=by
   cases e:bq P t with
   |true=>rfl
   |false=>exact absurd (.inr (.inl e)) hh
  have g3:pX (ah tmp y).cells=true:=by
   cases e:pX (ah tmp y).cells with
   |true=>rfl
   |false=>exact absurd (.inr (.inr (.inl e))) hh
  have g4:(ah tmp y).whole=true:=by
   cases e:(ah tmp y).whole with
   |true=>rfl
   |false=>exact absurd (.inr (.inr (.inr e))) hh
  split at hc
  ·rename_i b off hx
   split at hc
   ·rename_i ty xs hb
    split at hc
    ·rename_i hle
     cases hc
     exact Jb ho h hx hb g1 g2 g3 g4 hle
    ·cases hc
   ·cases hc
  ·rename_i b ty i k hx
   split at hc
   ·rename_i e ty' l hb
    split at hc
    ·rename_i hty
     subst hty;split at hc
     ·rename_i l' hs
      cases hc
      exact I1 ho h hx hb g1 g2 g4 hs g3
     ·cases hc
    ·cases hc
   ·cases hc
  ·cases hc
 case h_10 x ho=>exact Kt ho h hc
 case h_11 op t x y ty ho=>
  generalize hp:ah tmp x=p at hc
  generalize hq:ah tmp y=q at hc
  by_cases hi:∃e f,p=.vi e/\q=.vi f
  ·obtain⟨e,f,rfl,rfl⟩:=hi
   exact Qg ho h hp hq hc hn
  ·unfold ua at hc
   split at hc
   ·exact absurd ⟨_,_,rfl,rfl⟩ hi
   ·exact Pi ho h hp hq (.inl ⟨_,_,rfl,rfl⟩) hc
   ·exact Pi ho h hp hq (.inr ⟨_,_,rfl,rfl⟩) hc
   ·split at hc
    ·rename_i h1
     exact N6 ho h hp hq h1 hc
    split at hc
    ·rename_i h1 h2
     exact PE ho h (hp▸h1) (hq▸h2) hc hn
    ·cases hc
 case h_12 op t x ho=>exact Q6 ho h hc hn
 case h_13 s d x ho=>
  unfold AE at hc;split at hc
  ·rename_i e hs hd hx
   cases hc
   exact Lh ho h hs hd hx hn
  ·rename_i u k x' hs hd _
   split at hc
   ·rename_i h1
    exact NS ho h hd ⟨_,hs⟩ h1 hc
   ·cases hc
  ·cases hc
 case h_14 t x lo hi ho=>
  unfold o5 at hc;split at hc
  ·rename_i ety r ty e ht hx
   split at hc
   ·cases hc
   ·rename_i hty
    have hty:ty=r:=by simpa using hty
    split at hc
    ·rename_i l q hl hh
     cases hc
     exact OI ho h ht hx hty hl hh hn
    ·cases hc
  ·rename_i ety r d ht hx
   split at hc
   ·rename_i e ty l i hb hlo hl
    split at hc
    ·rename_i hty
     obtain⟨rfl,rfl,hnone⟩:=hty;cases hc
     have:hi=none:=by cases hi<;>first|rfl|cases hnone
     subst this;cases lo with
     |none=>cases hlo
     |some lo=>exact HW ho h ht hx hb hl hn
    ·cases hc
   ·rename_i e ty l q hb hlo hh
    have hlo:lo=none:=by cases lo<;>first|rfl|cases hlo
    subst hlo;split at hc
    ·rename_i hty
     obtain⟨rfl,rfl,hsome⟩:=hty;cases hc
     exact JZ ho h ht (hm (by simp)) hx hb hsome hh hn
    ·cases hc
   ·cases hc
  ·rename_i ety r ht hx
   split at hc
   ·rename_i l q hl hh
    cases hc
    exact Jo ho h ht hx hl hh hn
   ·cases hc
  ·cases hc
 case h_15 s x f ho=>
  unfold kI at hc;split at hc
  ·rename_i off b q hf hx;cases hc;exact pm ho h hf (.inl ⟨b,q,hx,rfl⟩)
  ·rename_i off t l i k hf hx;cases hc;exact pm ho h hf (.inr (.inl ⟨t,l,i,k,hx,rfl⟩))
  ·rename_i off b t i k hf hx;cases hc;exact pm ho h hf (.inr (.inr ⟨b,t,i,k,hx,rfl⟩))
  ·cases hc
 case h_16 t x ix ho=>
  unfold fV at hc;split at hc
  ·rename_i i hi
   split at hc
   ·rename_i b off n e hx ht
    split at hc
    ·rename_i c
     split at hc
     ·rename_i hh
      cases hc
      exact lF ho h ht hi hh.1 hh.2.1 hh.2.2 (.inl ⟨b,off,hx,rfl⟩)
     ·cases hc
    ·cases hc
   ·rename_i ty l j k n e hx ht
    split at hc
    ·rename_i c
     split at hc
     ·rename_i hh
      cases hc
      exact lF ho h ht hi hh.1 hh.2.1 hh.2.2 (.inr (.inl ⟨ty,l,j,k,hx,rfl⟩))
     ·cases hc
    ·cases hc
   ·rename_i b ty j k n e hx ht
    split at hc
    ·rename_i c
     split at hc
     ·rename_i hh
      cases hc
      exact lF ho h ht hi hh.1 hh.2.1 hh.2.2 (.inr (.inr ⟨b,ty,j,k,hx,rfl⟩))
     ·cases hc
    ·cases hc
   ·rename_i ty l e hx _
    split at hc
    ·rename_i ety r ht
     split at hc
     ·rename_i hr
      subst hr;cases hc
      exact tu ho h ht hi hn (.inl ⟨hx,rfl⟩)
     ·cases hc
    ·cases hc
   ·rename_i b e hx _
    split at hc
    ·rename_i ety ty l ety' r hb ht
     split at hc
     ·rename_i hr
      subst hr;cases hc
      exact tu ho h ht hi hn (.inr ⟨b,ety,hx,hb,rfl⟩)
     ·cases hc
    ·cases hc
   ·cases hc
  ·cases hc
 case h_17 t x ix ho=>
  unfold uP at hc;split at hc
  ·rename_i c xs n e hi hx ht
   split at hc
   ·rename_i hh
    split at hc
    ·rename_i hag
     cases hc
     exact JA ho h ht hi hx hh.1 hh.2.1 hh.2.2.2 (.inl ⟨hag,rfl⟩)
    ·rename_i hag
     split at hc
     ·rename_i y hy
      split at hc
      ·rename_i h1
       cases hc
       exact JA ho h ht hi hx hh.1 hh.2.1 hh.2.2.2 (.inr ⟨by simpa using hag,h1,hy⟩)
      ·cases hc
     ·cases hc
   ·cases hc
  ·cases hc
 case h_18 s x f ho=>
  unfold uI at hc;split at hc
  ·rename_i xs off t hx hf ht
   split at hc
   ·rename_i hh
    split at hc
    ·rename_i hag
     cases hc
     exact Jd ho h hf ht hx hh.2 (.inl ⟨hag,rfl⟩)
    ·rename_i hag
     split at hc
     ·rename_i y hy
      cases hc
      exact Jd ho h hf ht hx hh.2 (.inr ⟨by simpa using hag,hy⟩)
     ·cases hc
   ·cases hc
  ·cases hc
 case h_19 x ix ho=>
  unfold nP at hc;split at hc
  ·rename_i xs hx
   split at hc
   ·rename_i y hy
    cases hc
    exact L7 ho h hx hy
   ·cases hc
  ·cases hc
 case h_20 t x y ho=>
  unfold ke at hc;split at hc
  ·rename_i ety row l c ht hx hy
   split at hc
   ·rename_i z hz
    split at hc
    ·rename_i r hr
     split at hc
     ·rename_i hh
      obtain⟨rfl,h1,h2⟩:=hh;cases hc
      exact Ic ho h (hm (by simp)) ht hz h1 h2 hr hx hy hn
     ·cases hc
    ·cases hc
   ·cases hc
  ·cases hc
 case h_21 b args tys ho=>
  unfold gg at hc;split at hc
  ·rename_i x t hargs htys
   obtain⟨y,rfl,hy⟩:=Lb hargs;have htys:=II htys;subst htys;split at hc
   ·rename_i e ty l ht hl
    cases hc
    rw[<-hy]at hl;exact Qy ho h ht hl
   ·cases hc
  ·rename_i d x t t' hargs htys
   obtain⟨y,u,rfl,hy,hu⟩:=A5 hargs;have htys:=Is htys;subst htys;split at hc
   ·cases hc
   ·rename_i ety row ht
    split at hc
    ·rename_i ty m e row' l hx hb
     split at hc
     ·rename_i hh
      obtain⟨h1,rfl,rfl,h2,h3⟩:=hh;cases hc
      exact PC ho h ht h3 hy hb (by rw[hu];exact hx) h1
     ·cases hc
    ·cases hc
  ·rename_i p q hargs
   obtain⟨y,u,rfl,hy,hu⟩:=A5 hargs;cases hc
   exact FK (.inl ⟨rfl,rfl⟩) ho h hy hu
  ·rename_i p q hargs
   obtain⟨y,u,rfl,hy,hu⟩:=A5 hargs;cases hc
   exact FK (.inr ⟨rfl,rfl⟩) ho h hy hu
  ·rename_i s x t t' hargs htys
   obtain⟨y,u,rfl,hy,hu⟩:=A5 hargs;have htys:=Is htys;subst htys;split at hc
   ·cases hc
   rename_i htt
   have htt:t=t':=by simpa using htt
   subst htt;split at hc
   ·cases hc
   rename_i ety row ht
   split at hc
   ·cases hc
   rename_i ty m hx
   split at hc
   ·rename_i hall
    split at hc
    ·rename_i _
     cases hc
     exact FH ho h ht (hm (by simp)) (l:=.lnil) (by rw[hu];exact hx) hall hn (.inl ⟨hy,rfl,rfl⟩)
    ·rename_i d
     split at hc
     ·rename_i e row' l hb
      split at hc
      ·rename_i hh
       obtain⟨rfl,rfl,_⟩:=hh;cases hc
       exact FH ho h ht (hm (by simp)) (by rw[hu];exact hx) hall hn (.inr ⟨d,hy,hb,rfl⟩)
      ·cases hc
     ·cases hc
    ·cases hc
   ·cases hc
  ·rename_i d ty i t hargs htys
   obtain⟨y,rfl,hy⟩:=Lb hargs;have htys:=II htys;subst htys;split at hc
   ·rename_i ety row e row' l ht hb
    split at hc
    ·rename_i z hz
     split at hc
     ·rename_i r hr
      split at hc
      ·rename_i hh
       obtain⟨rfl,rfl,rfl,hw,hzl⟩:=hh;cases hc
       exact N2 ho h ht hy hb hz hw hzl hr
      ·cases hc
     ·cases hc
    ·cases hc
   ·cases hc
  ·cases hc
 case h_22 f args tys ho=>
  unfold jX at hc;split at hc
  ·split at hc
   ·split at hc
    ·split at hc
     ·split at hc<;>cases hc
     ·cases hc
    ·cases hc
   ·cases hc
  ·cases hc
  ·cases hc
 case h_23 f first captured ho=>cases hc;exact Ku ho h
 case h_24 t ho=>cases hc;exact LC ho h (hm (by simp))
 case h_25 t m k v ho=>exact FL (.inl ho) h hc
 case h_26 t m k v ho=>exact FL (.inr ho) h hc
 case h_27 t x ix ok ho=>exact MP htr ho h hc
 case h_28 t x hi mx ho=>
  unfold mR at hc;split at hc
  ·rename_i r ty e q m' ht hx hh hmx
   split at hc
   ·rename_i h1
    obtain⟨h1,rfl,h3⟩:=h1;cases hc
    exact HK ho h ht hx h1 hh hmx h3 hn (hm (by simp))
   ·cases hc
  ·cases hc
 case h_29 t x ho=>
  unfold uQ at hc;split at hc
  ·cases hc
  ·rename_i d hu hd
   cases hc
   exact N8 ho h hd (fun ms e=>hu ms e)
  ·cases hc
 case h_30 x ho=>
  unfold o0 at hc;split at hc
  ·split at hc<;>cases hc
  ·cases hc
 case h_31 x u t ok ho=>exact Mr ho h hc
 case h_32=>cases hc
theorem Ld{base b:Nat}{e:Nat}{t:Ty}{l:E}(h:SBden env κ F base w b (.row e t l)){F':Nat->Prop}(hF:∀k,F k->F' k)(hb:∀k,ai (κ b)=some k->F' k):Den F' w (κ b) (.sl t (den env l).l):=by
 obtain⟨us,hown,hpos,hrow⟩:=h;rcases hown.2 with⟨e1,e2⟩|⟨g,cap,cur,e1,e2,e3,e4,e5,e6,e7⟩
 ·rw[e1]
  have:(den env l).l=[]:=List.eq_nil_of_length_eq_zero e2
  rw[this];exact uc _
 ·rw[e1]at hown hb⊢
  refine Den.mk rfl e4 e5 hrow.1 (fun _=>⟨_,rfl,hb _ rfl,fun i r hr k x hx=>?_⟩)
  obtain⟨u,h1,h2⟩:=hrow.2 i r k x hr hx;exact⟨u,hown.cells (g:=g) rfl _ _ h1,Den.keep h2 (fun _ _=>rfl) hF⟩
theorem K9(blk:Nat->Option SB)(bs:List Nat)(b:Nat):aJ blk (bb blk bs) b=blk b\/∃e t l,blk b=some (.row e t l)/\aJ blk (bb blk bs) b=some (.ice 0 t l):=by
 have key:∀(fs:List (Nat×Option SB)) (f:Nat->Option SB),(∀x∈fs,∃e t l,blk x.1=some (.row e t l)/\x.2=some (.ice 0 t l))->(∀b,f b=blk b\/∃e t l,blk b=some (.row e t l)/\f b=some (.ice 0 t l)) →
   ∀b,aJ f fs b=blk b\/∃e t l,blk b=some (.row e t l)/\aJ f fs b=some (.ice 0 t l):=by
  intro fs;induction fs with
  |nil=>intro f _ hf b;exact hf b
  | cons x fs ih=>
   intro f hx hf b;refine ih (upd f x.1 x.2) (fun y hy=>hx y (List.mem_cons_of_mem _ hy)) (fun c=>?_) b
   by_cases e:c=x.1
   ·subst e
    obtain⟨e,t,l,h1,h2⟩:=hx x (List.mem_cons_self ..);exact .inr ⟨e,t,l,h1,by rw[ao,h2]⟩
   ·rw[ab e];exact hf c
 refine key _ blk (fun x hx=>?_) (fun _=>.inl rfl) b
 obtain⟨c,hc,h1⟩:=List.mem_filterMap.1 hx;split at h1
 ·rename_i e t l hb
  cases h1
  exact⟨e,t,l,hb,rfl⟩
 ·cases h1
theorem Rel.freeze(h:Rel w0 env κ F U tmp blk L a w)(bs:List Nat):∃F',Rel w0 env κ F' U tmp (aJ blk (bb blk bs)) L a w/\Kept U blk κ F w (aJ blk (bb blk bs)) κ F' w:=by
 obtain⟨blk',hb⟩:∃blk',blk'=aJ blk (bb blk bs):=⟨_,rfl⟩
 have hi:∀b,blk' b=blk b\/∃e t l,blk b=some (.row e t l)/\blk' b=some (.ice 0 t l):=fun b=>by rw[hb];exact K9 blk bs b
 rw[<-hb];have hlive:∀b,aB (blk' b)=true->blk' b=blk b:=fun b hl=>by
  rcases hi b with h1|⟨e,t,l,_,h1⟩
  ·exact h1
  ·rw[h1]at hl;cases hl
 have hF:∀k,F k->(F k\/∃b e t l,blk b=some (.row e t l)/\blk' b=some (.ice 0 t l)/\ai (κ b)=some k):=fun k hk=>.inl hk
 refine⟨fun k=>F k\/∃b e t l,blk b=some (.row e t l)/\blk' b=some (.ice 0 t l)/\ai (κ b)=some k,?_,⟨fun _ _=>rfl,hF,fun k hk=>?_,Nat.le_refl _,fun _ _ _=>rfl,fun b k h1 h2=>.inr ⟨b,by rw[<-hlive b h1];exact h1,h2⟩,.of fun _ _=>.inr rfl⟩⟩
 ·refine h.world (fun _ h=>h) (fun _ _=>rfl) hF (fun _ _=>rfl) (fun b x hx=>?_) (fun b c k h1 h2=>?_) (fun b k h1 h2=>?_) (fun k hk=>?_) h.below
  ·rcases hi b with h1|⟨e,t,l,h1,h2⟩
   ·rw[h1]at hx;exact .inl ⟨hx,fun _ _ _=>rfl⟩
   ·rw[h2]at hx;cases hx
    exact .inr ⟨⟨Ld (h.blks b _ h1) hF (fun k hk=>.inr ⟨b,e,t,l,h1,h2,hk⟩),fun hh=>by cases hh⟩,(h.bnames b _ h1).1,fun c hc=>by cases hc⟩
  ·exact h.inj b c k (by rw[<-hlive b h1];exact h1) (by rw[<-hlive c h2];exact h2)
  ·have h3:aB (blk b)=true:=by rw[<-hlive b h1];exact h1
   rintro (hk|⟨c,e,t,l,h4,h5,h6⟩)
   ·exact h.nF b k h3 h2 hk
   ·have:=h.inj b c k h3 (by rw[h4];rfl) h2 h6
    subst this;rw[h5]at h1;cases h1
  ·rcases hk with hk|⟨c,e,t,l,h4,h5,h6⟩
   ·exact h.F k hk
   ·exact((h.blks c _ h4).lt rfl h6).2
 ·rcases hk with hk|⟨c,e,t,l,h4,h5,h6⟩
  ·exact .inl hk
  ·exact .inr (.inr ⟨c,by rw[h4];rfl,h6⟩)
theorem FU(bk:Nat->Option SB)(x:SV):(nz bk x).proper=x.proper:=by
 induction x with
 |cons x y _ ih=>exact ih
 |row b=>simp only[nz];split<;>rfl
 |_=>rfl
theorem uC(bk:Nat->Option SB)(x:SV):∀b∈(nz bk x).names,b∈x.names:=by
 induction x with
 |cons x y ih1 ih2=>
  intro b hb;simp only[nz,SV.names,List.mem_append]at hb⊢;rcases hb with hb|hb
  ·exact .inl (ih1 b hb)
  ·exact .inr (ih2 b hb)
 |agg x ih=>exact ih
 |tup x ih=>exact ih
 |row c=>intro b hb;simp only[nz]at hb;split at hb;cases hb;exact hb
 |_=>exact fun b hb=>hb
theorem tK{b0:Nat}(hbl:∀b e t l,blk b=some (.ice e t l)->SBden env κ F b0 w b (.ice e t l)){x:SV}{u:Value}(h:SVden env κ F w x u):SVden env κ F w (nz blk x) u:=by
 induction x generalizing u with
 | row b=>
  simp only[nz];split
  ·rename_i e t l hb
   have:=hbl b e t l hb
   rw[show u=κ b from h.1]
   exact this.1
  ·exact h
 |agg xs ih=>obtain⟨cs,h1,hp,h2⟩:=h;exact⟨cs,h1,by rw[FU];exact hp,ih h2⟩
 |tup xs ih=>obtain⟨cs,h1,hp,h2⟩:=h;exact⟨cs,h1,by rw[FU];exact hp,ih h2⟩
 |cons x xs ih1 ih2=>obtain⟨p,q,h1,h2,h3⟩:=h;exact⟨p,q,h1,ih1 h2,ih2 h3⟩
 |_=>exact h
theorem Fy(bk:Nat->Option SB)(v:Value):nz bk (em v)=em v:=by unfold em;split<;>rfl
theorem Oi(bk:Nat->Option SB)(v:Value):nz bk (di v)=di v:=by
 unfold di;split
 ·rename_i cs
  have:∀l:List Value,nz bk (.of (l.map em))=.of (l.map em):=by
   intro l;induction l with
   |nil=>rfl
   |cons x l ih=>simp only[List.map_cons,SV.of,nz,Fy,ih]
  simp only[nz,this]
 ·exact Fy bk v
theorem H6(bk:Nat->Option SB)(tmp:Nat->SV)(x:Operand):nz bk (ah tmp x)=ah (fun t=>nz bk (tmp t)) x:=by
 cases x with
 |tmp t=>rfl
 |const v=>exact Oi bk v
 |global g=>rfl
 |func f=>rfl
theorem sI(f:Nat->Option SB)(l m:List (Nat×Option SB)):aJ f (l++m)=aJ (aJ f l) m:=by simp[aJ,List.foldl_append]
theorem Rel.nz(h:Rel w0 env κ F U tmp blk L a w):Rel w0 env κ F U (fun t=>nz blk (tmp t)) blk L a w:=
 { h with tmps:=fun t=>tK (fun b e t l hb=>h.blks b _ hb) (h.tmps t),tnames:=fun t b hb=>h.tnames t b (uC blk _ b hb) }
theorem Ir{own:Bool}{nm:Nat}{ev:Operand->SV}{o:Oper}{needs:List E}{v:SV}{wr:List (Nat×Option SB)}(h:eZ P own nm ev blk o=some (.ok needs v wr)):
  ∃s x t ety row ty l lx d,o.op=.call { callee:=.builtin .append,args:=#[s,x],argTypes:=#[t,t] }/\ev s=.row d/\blk d=some (.ice 1 row l)/\bC P t=some (ety,row)/\cX blk (ev x)=some (ty,lx) ∧
   ty.all (·=row)=true/\((needs=fw (cn l lx) (P.bytesOf ety)/\v=.vs row (cn l lx)/\wr=[])\/(needs=bW (.cmp' .lt (.int 0) lx.len')++fw (cn l lx) (P.bytesOf ety)/\v=.row nm/\wr=[(nm,some (.row ety row (cn l lx)))])):=by
 unfold eZ at h;repeat' split at h
 all_goals (try (cases h;done))
 all_goals
  rename_i args tys ho _ _ s x t t' ha htys _ d hs _ ty l hd _ _ ety row u m ht hx hc _
  obtain⟨rfl,rfl,h3⟩:=hc;cases h
  have e1:args=#[s,x]:=by rw[<-Array.toArray_toList (xs:=args),ha]
  have e2:tys=#[t,t]:=by rw[<-Array.toArray_toList (xs:=tys),htys]
  subst e1 e2;refine⟨s,x,t,ety,ty,u,l,m,d,ho,hs,hd,ht,hx,h3,?_⟩
  first|exact .inl ⟨rfl,rfl,rfl⟩|exact .inr ⟨rfl,rfl,rfl⟩
theorem nU{own:Bool}{nm:Nat}{ev:Operand->SV}{bk:Nat->Option SB}{o:Oper}{x:Out}(h:eZ P own nm ev bk o=some x):∃needs v wr,x=.ok needs v wr:=by
 unfold eZ at h;repeat' split at h
 all_goals (try (cases h;done))
 all_goals (cases h;exact⟨_,_,_,rfl⟩)
theorem Mv{con:Nat->Bool}{own:Bool}{tr:E->Option Bool}{nm:Nat}{o:Oper}(h:Rel w0 env κ F U tmp blk L a w)(htr:∀e b,tr e=some b->(den env e).b=b){needs:List E}{v:SV}{wr:List (Nat×Option SB)}
  (hm:wr≠[]->¬U nm) (hc:cV P con own tr nm (ah tmp) blk o=.ok needs v wr) (hn:∀e∈needs,(den env e).b=true):Good P w0 env κ F U tmp blk L a w o v wr:=by
 unfold cV at hc;split at hc
 ·rename_i x hx
  subst hc;obtain⟨s,x,t,ety,row,ty,l,lx,d,ho,hs,hd,ht,hlx,hty,⟨hneeds,rfl,rfl⟩|⟨hneeds,rfl,rfl⟩⟩:=Ir hx
  ·exact E3 ho h ht hlx hty (by rw[<-hneeds];exact hn) hs hd
  ·exact GB ho h ht hlx hty (by rw[<-hneeds];exact hn) hs hd (hm (by simp))
 simp only[H6]at hc;obtain⟨fs,hfs⟩:∃fs,fs=bb blk (frz P con own (ah tmp) blk o):=⟨_,rfl⟩
 rw[<-hfs]at hc;split at hc
 ·rename_i needs' v' wr' hc'
  cases hc
  obtain⟨F1,h1,k1⟩:=h.freeze (frz P con own (ah tmp) blk o);rw[<-hfs]at h1 k1;obtain⟨u,w',κ',F',hr,h2,h3,k2⟩:=Le h1.nz htr (fun hne=>hm (by simp[hne])) hc' hn
  have k:=k1.trans k2 (fun _ h=>h)
  refine⟨u,w',κ',F',hr,?_,h3,by rw[sI];exact k⟩
  rw[sI];refine{ h2 with tmps:=fun t=>k.sv h (h.tmps t) (h.tnames t),size:=h.size,tnames:=fun t b hb=>.inl (h.tnames t b hb),bnames:=fun b x hx=>?_ }
  have hu:∀b,(U b\/∃x∈wr',x.1=b)->(U b\/∃x∈fs++wr',x.1=b):=fun b hb=>by
   rcases hb with hb|⟨x,hx,hb⟩
   ·exact .inl hb
   ·exact .inr ⟨x,List.mem_append_right _ hx,hb⟩
  obtain⟨h4,h5⟩:=h2.bnames b x hx;exact⟨hu b h4,fun c hc=>hu c (h5 c hc)⟩
 ·cases hc
 ·rename_i x hx _
  exact absurd hc (hx _ _ _)
variable {P:Program} {bk bk':Nat->Option SB}
theorem pI{x:SV}(h:∀b∈x.names,bk' b=bk b):cX bk' x=cX bk x:=by
 cases x<;>simp only[cX]
 rename_i b
 rw[h b (by simp[SV.names])]
theorem J9{x:SV}(h:∀b∈x.names,bk' b=bk b):lenOf bk' x=lenOf bk x:=by
 cases x<;>simp only[lenOf,cX]
 rename_i b
 rw[h b (by simp[SV.names])]
theorem lC:∀(l:List SV) (ts:List Ty),(∀x∈l,∀b∈x.names,bk' b=bk b)->eL bk' l ts=eL bk l ts
 |[],[],_=>rfl
 |[],_::_,_=>rfl
 |_::_,[],_=>rfl
 |x::l,t::ts,h=>by
  simp only[eL];rw[lC l ts (fun y hy=>h y (List.mem_cons_of_mem _ hy))]
  have hx:=h x (List.mem_cons_self ..);cases x<;>cases t<;>try rfl
  rename_i b t
  simp only[cX,hx b (by simp[SV.names])]
theorem Kc{x:SV}{t:Nat}(h:∀b∈x.names,bk' b=bk b):AG P bk' x t=AG P bk x t:=by
 unfold AG;split
 ·rfl
 ·split
  ·split
   ·rename_i xs
    exact lC _ _ (fun y hy b hb=>h b (cj xs y hy b hb))
   ·rfl
  ·rw[lC [x] _ (fun y hy b hb=>by simp at hy;subst hy;exact h b hb)]
theorem yR:∀(l:List SV) (ts:List Nat),(∀x∈l,∀b∈x.names,bk' b=bk b)->gE P bk' l ts=gE P bk l ts
 |[],[],_=>rfl
 |[],_::_,_=>rfl
 |_::_,[],_=>rfl
 |x::l,t::ts,h=>by
  simp only[gE];rw[yR l ts (fun y hy=>h y (List.mem_cons_of_mem _ hy)),Kc (h x (List.mem_cons_self ..))]
theorem HA{t:Nat}{x:SV}(h:∀b∈x.names,bk' b=bk b):loadOut P bk' t x=loadOut P bk t x:=by
 unfold loadOut;cases x<;>simp only
 ·rename_i b off;rw[h b (by simp[SV.names])]
 ·rename_i b ty i k;rw[h b (by simp[SV.names])]
theorem EK{t:Nat}{x y:SV}(h:∀b∈x.names,bk' b=bk b):jR P bk' t x y=jR P bk t x y:=by
 unfold jR;cases x<;>simp only
 ·rename_i b off;rw[h b (by simp[SV.names])]
 ·rename_i b ty i k;rw[h b (by simp[SV.names])]
theorem CA{nm:Nat}{o:Oper}{b:Builtin}{l:List SV}{ts:List Nat}(h:∀x∈l,∀c∈x.names,bk' c=bk c):gg P nm bk' o b l ts=gg P nm bk o b l ts:=by
 unfold gg;split
 ·rename_i x t
  rw[J9 (h x (by simp))]
 ·rename_i d x t t'
  rw[pI (h x (by simp)),h (.row d) (by simp) d (by simp[SV.names])]
 ·rfl
 ·rfl
 ·rename_i s x t t'
  rw[pI (h x (by simp))]
  split
  ·rfl
  ·split
   ·rfl
   ·split
    ·rfl
    ·split
     ·split
      ·rfl
      ·rename_i d
       rw[h (.row d) (by simp) d (by simp[SV.names])]
      ·rfl
     ·rfl
 ·rename_i d ty i t
  rw[h (.rtail d ty i) (by simp) d (by simp[SV.names])]
 ·rfl
theorem Kz{con:Nat->Bool}{tr:E->Option Bool}{nm:Nat}{ev ev':Operand->SV}{o:Oper}(h:∀x∈o.op.operands,ev' x=ev x)(hb:∀x∈o.op.operands,∀b∈(ev x).names,bk' b=bk b):gd P con tr nm ev' bk' o=gd P con tr nm ev bk o:=by
 have hopt:∀(x:Option Operand) d,(∀y,x=some y->y∈o.op.operands)->da ev' x d=da ev x d:=fun x d hx=>by
  cases x with
  |none=>rfl
  |some y=>simp only[da];rw[h y (hx y rfl)]
 unfold gd;split
 case h_1 x ho=>rw[h x (by simp[ho,Op.operands])]
 case h_2 x ho=>rw[h x (by simp[ho,Op.operands])]
 case h_3 c x y ho=>rw[h c (by simp[ho,Op.operands]),h x (by simp[ho,Op.operands]),h y (by simp[ho,Op.operands])]
 case h_4=>rfl
 case h_5 t x ho=>rw[h x (by simp[ho,Op.operands])]
 case h_6 t parts ho=>
  have e:parts.toList.map (fun x=>(x.1,ev' x.2))=parts.toList.map (fun x=>(x.1,ev x.2)):=List.map_congr_left fun x hx=>by
   rw[h x.2 (by simp only[ho,Op.operands,List.mem_toArray,List.mem_map];exact⟨x,hx,rfl⟩)]
  rw[e]
 case h_7 t len parts ho=>
  have e:parts.toList.map (fun x=>(x.1,ev' x.2))=parts.toList.map (fun x=>(x.1,ev x.2)):=List.map_congr_left fun x hx=>by
   rw[h x.2 (by simp only[ho,Op.operands,List.mem_toArray,List.mem_map];exact⟨x,hx,rfl⟩)]
  rw[e]
 case h_8 t x ho=>
  have hx:x∈o.op.operands:=by simp[ho,Op.operands]
  rw[h x hx];exact HA (hb x hx)
 case h_9 t x y ho=>
  have hx:x∈o.op.operands:=by simp[ho,Op.operands]
  rw[h x hx,h y (by simp[ho,Op.operands])];exact EK (hb x hx)
 case h_10 x ho=>rw[h x (by simp[ho,Op.operands])]
 case h_11 op t x y ty ho=>rw[h x (by simp[ho,Op.operands]),h y (by simp[ho,Op.operands])]
 case h_12 op t x ho=>rw[h x (by simp[ho,Op.operands])]
 case h_13 s d x ho=>rw[h x (by simp[ho,Op.operands])]
 case h_14 t x lo hi ho=>
  have hx:x∈o.op.operands:=by simp[ho,Op.operands]
  have e1:∀d,da ev' lo d=da ev lo d:=fun d=>hopt lo d (fun y hy=>by subst hy;simp[ho,Op.operands])
  have e2:∀d,da ev' hi d=da ev hi d:=fun d=>hopt hi d (fun y hy=>by subst hy;simp[ho,Op.operands])
  rw[h x hx];have hbx:=hb x hx;generalize ev x=v at hbx
  unfold o5;simp only[e1,e2];generalize bC P t=q
  rcases q with _|⟨q1,q2⟩<;>cases v<;>first|rfl|(rename_i d;have:=hbx d (by simp[SV.names]);simp only[this])
 case h_15 s x f ho=>rw[h x (by simp[ho,Op.operands])]
 case h_16 t x ix ho=>
  have hx:x∈o.op.operands:=by simp[ho,Op.operands]
  rw[h x hx,h ix (by simp[ho,Op.operands])]
  have hbx:=hb x hx;generalize ev x=v at hbx
  unfold fV;generalize ev ix=j
  generalize P.underlying t=ud
  cases j<;>try rfl
  cases v<;>cases ud<;>first|rfl|(rename_i y;cases y<;>rfl)|(rename_i d y;cases y<;>first|rfl|(have:=hbx d (by simp[SV.names]);simp only[this]))
 case h_17 t x ix ho=>rw[h x (by simp[ho,Op.operands]),h ix (by simp[ho,Op.operands])]
 case h_18 s x f ho=>rw[h x (by simp[ho,Op.operands])]
 case h_19 x ix ho=>rw[h x (by simp[ho,Op.operands])]
 case h_20 t x y ho=>rw[h x (by simp[ho,Op.operands]),h y (by simp[ho,Op.operands])]
 case h_21 b args tys ho=>
  have e:args.toList.map ev'=args.toList.map ev:=List.map_congr_left fun x hx=>h x (by simp[ho,Op.operands,Call.operands];simpa using hx)
  rw[e];refine CA (fun x hx=>?_)
  obtain⟨y,hy,rfl⟩:=List.mem_map.1 hx;exact hb y (by simp[ho,Op.operands,Call.operands];simpa using hy)
 case h_22 f args tys ho=>
  have e:args.toList.map ev'=args.toList.map ev:=List.map_congr_left fun x hx=>h x (by simp[ho,Op.operands,Call.operands];right;simpa using hx)
  rw[e,h f (by simp[ho,Op.operands,Call.operands])]
  have e2:∀ts,gE P bk' (args.toList.map ev) ts=gE P bk (args.toList.map ev) ts:=fun ts=>yR _ _ (fun x hx=>by
   obtain⟨y,hy,rfl⟩:=List.mem_map.1 hx;exact hb y (by simp[ho,Op.operands,Call.operands];right;simpa using hy))
  unfold jX;simp only[e2]
 case h_23 f first captured ho=>
  have e1:first.toList.map ev'=first.toList.map ev:=List.map_congr_left fun x hx=>h x (by simp[ho,Op.operands];left;simpa using hx)
  have e2:captured.toList.map ev'=captured.toList.map ev:=List.map_congr_left fun x hx=>h x (by simp[ho,Op.operands];right;simpa using hx)
  rw[e1,e2]
 case h_24=>rfl
 case h_25 t m k v ho=>
  have hm:m∈o.op.operands:=by simp[ho,Op.operands]
  rw[h m hm,h k (by simp[ho,Op.operands]),h v (by simp[ho,Op.operands])]
  have hbx:=hb m hm;generalize ev m=x at hbx
  unfold iz;generalize P.underlying t=ud
  cases x<;>cases ud<;>first|rfl|(rename_i y;cases y<;>rfl)|(rename_i d y;cases y<;>first|rfl|(have:=hbx d (by simp[SV.names]);simp only[this]))
 case h_26 t m k v ho=>
  have hm:m∈o.op.operands:=by simp[ho,Op.operands]
  rw[h m hm,h k (by simp[ho,Op.operands]),h v (by simp[ho,Op.operands])]
  have hbx:=hb m hm;generalize ev m=x at hbx
  unfold iz;generalize P.underlying t=ud
  cases x<;>cases ud<;>first|rfl|(rename_i y;cases y<;>rfl)|(rename_i d y;cases y<;>first|rfl|(have:=hbx d (by simp[SV.names]);simp only[this]))
 case h_27 t x ix ok ho=>
  have hm:x∈o.op.operands:=by simp[ho,Op.operands]
  rw[h x hm,h ix (by simp[ho,Op.operands])]
  have hbx:=hb x hm;generalize ev x=y at hbx
  unfold jV;generalize P.underlying t=ud
  cases y<;>cases ud<;>first|rfl|(rename_i y;cases y<;>rfl)|(rename_i d y;cases y<;>first|rfl|(have:=hbx d (by simp[SV.names]);simp only[this]))
 case h_28 t x hi mx ho=>
  have hx:x∈o.op.operands:=by simp[ho,Op.operands]
  have e2:∀d,da ev' hi d=da ev hi d:=fun d=>hopt hi d (fun y hy=>by subst hy;simp[ho,Op.operands])
  have e3:∀d,da ev' (some mx) d=da ev (some mx) d:=fun d=>hopt (some mx) d (fun y hy=>by cases hy;simp[ho,Op.operands])
  rw[h x hx];unfold mR;simp only[e2,e3]
 case h_29 t x ho=>rw[h x (by simp[ho,Op.operands])]
 case h_30 x ho=>rw[h x (by simp[ho,Op.operands])]
 case h_31 x u t ok ho=>rw[h x (by simp[ho,Op.operands])]
 case h_32=>rfl
theorem N7{x:SV}(h:∀b∈x.names,bk' b=bk b):nz bk' x=nz bk x:=by
 induction x with
 |row b=>simp only[nz];rw[h b (by simp[SV.names])]
 |agg x ih=>simp only[nz];rw[ih h]
 |tup x ih=>simp only[nz];rw[ih h]
 |cons x y ih1 ih2=>simp only[nz];rw[ih1 (fun b hb=>h b (List.mem_append_left _ hb)),ih2 (fun b hb=>h b (List.mem_append_right _ hb))]
 |_=>rfl
theorem IR{x:SV}(h:∀b∈x.names,bk' b=bk b):aP bk' x=aP bk x:=by
 induction x with
 |row b=>simp only[aP];rw[h b (by simp[SV.names])]
 |agg x ih=>simp only[aP];rw[ih h]
 |cons x y ih1 ih2=>simp only[aP];rw[ih1 (fun b hb=>h b (List.mem_append_left _ hb)),ih2 (fun b hb=>h b (List.mem_append_right _ hb))]
 |_=>rfl
theorem iM(bk:Nat->Option SB)(x:SV):∀b∈aP bk x,b∈x.names:=by
 induction x with
 |row c=>
  intro b hb;simp only[aP]at hb;split at hb
  ·exact hb
  ·cases hb
 |agg x ih=>exact ih
 |cons x y ih1 ih2=>
  intro b hb;simp only[aP,List.mem_append]at hb;rcases hb with hb|hb
  ·exact List.mem_append_left _ (ih1 b hb)
  ·exact List.mem_append_right _ (ih2 b hb)
 |_=>intro b hb;cases hb
theorem Kf{bs:List Nat}(h:∀b∈bs,bk' b=bk b):bb bk' bs=bb bk bs:=by
 induction bs with
 |nil=>rfl
 |cons b bs ih=>
  have h1:=ih (fun c hc=>h c (List.mem_cons_of_mem _ hc))
  unfold bb at h1⊢
  simp only[List.filterMap_cons,h b (List.mem_cons_self ..),h1]
theorem M7{con:Nat->Bool}{own:Bool}{ev ev':Operand->SV}{o:Oper}(h:∀x∈o.op.operands,ev' x=ev x)(hb:∀x∈o.op.operands,∀b∈(ev x).names,bk' b=bk b):frz P con own ev' bk' o=frz P con own ev bk o:=by
 have hr:∀x∈o.op.operands,aP bk' (ev' x)=aP bk (ev x):=fun x hx=>by rw[h x hx];exact IR (hb x hx)
 have hf:∀l:List Operand,(∀x∈l,x∈o.op.operands)->l.flatMap (fun x=>aP bk' (ev' x))=l.flatMap (fun x=>aP bk (ev x)):=fun l hl=>by
  rw[List.flatMap_def,List.flatMap_def,List.map_congr_left (fun x hx=>hr x (hl x hx))]
 unfold frz;split
 ·rename_i t len parts ho
  have:=hf (parts.toList.map (·.2)) (fun x hx=>by
   obtain⟨y,hy,rfl⟩:=List.mem_map.1 hx;simp only[ho,Op.operands,List.mem_toArray,List.mem_map];exact⟨y,hy,rfl⟩)
  simpa[List.flatMap_map]using this
 ·rename_i t a x ho
  rw[h a (by simp[ho,Op.operands]),hr x (by simp[ho,Op.operands])]
 ·rename_i t x lo hi ho
  rw[hr x (by simp[ho,Op.operands])]
 ·rename_i t x hi mx ho
  rw[hr x (by simp[ho,Op.operands])]
 ·rename_i f args tys ho
  rw[h f (by simp[ho,Op.operands,Call.operands])]
  have:=hf args.toList (fun x hx=>by simp[ho,Op.operands,Call.operands];right;simpa using hx)
  rw[this]
 ·rfl
theorem M8{con:Nat->Bool}{own:Bool}{ev:Operand->SV}{o:Oper}:∀b∈frz P con own ev bk o,∃x∈o.op.operands,b∈(ev x).names:=by
 intro b hb;unfold frz at hb;split at hb
 ·rename_i t len parts ho
  obtain⟨x,hx,hb⟩:=List.mem_flatMap.1 hb;exact⟨x.2,by simp only[ho,Op.operands,List.mem_toArray,List.mem_map];exact⟨x,hx,rfl⟩,iM _ _ b hb⟩
 ·rename_i t a x ho
  split at hb
  ·exact⟨x,by simp[ho,Op.operands],iM _ _ b hb⟩
  ·cases hb
 ·rename_i t x lo hi ho
  split at hb
  ·cases hb
  ·exact⟨x,by simp[ho,Op.operands],iM _ _ b hb⟩
 ·rename_i t x hi mx ho
  exact⟨x,by simp[ho,Op.operands],iM _ _ b hb⟩
 ·rename_i f args tys ho
  split at hb
  ·split at hb
   ·split at hb
    ·split at hb
     ·cases hb
     ·obtain⟨x,hx,hb⟩:=List.mem_flatMap.1 hb
      exact⟨x,by simp[ho,Op.operands,Call.operands];right;simpa using hx,iM _ _ b hb⟩
    ·cases hb
   ·cases hb
  ·cases hb
 ·cases hb
theorem Du{l:List (Nat×Option SB)}:∀ {f g:Nat->Option SB} {b:Nat},f b=g b->aJ f l b=aJ g l b:=by
 induction l with
 |nil=>intro f g b h;exact h
 |cons x l ih=>
  intro f g b h;refine ih ?_
  show upd f x.1 x.2 b=upd g x.1 x.2 b
  by_cases e:b=x.1
  ·subst e;rw[ao,ao]
  ·rw[ab e,ab e];exact h
theorem GE{own:Bool}{nm:Nat}{ev ev':Operand->SV}{o:Oper}(h:∀x∈o.op.operands,ev' x=ev x)(hb:∀x∈o.op.operands,∀b∈(ev x).names,bk' b=bk b):eZ P own nm ev' bk' o=eZ P own nm ev bk o:=by
 unfold eZ;split
 ·rename_i args tys ho
  split
  ·rename_i s x t t' ha htys
   have m1:s∈o.op.operands:=by simp[ho,Op.operands,Call.operands,<-Array.mem_toList_iff,ha]
   have m2:x∈o.op.operands:=by simp[ho,Op.operands,Call.operands,<-Array.mem_toList_iff,ha]
   rw[h s m1,h x m2,pI (hb x m2)];have hbx:=hb s m1;generalize ev s=v at hbx
   cases v<;>first|rfl|(rename_i d;have:=hbx d (by simp[SV.names]);simp only[this])
  ·rfl
 ·rfl
theorem kq{con:Nat->Bool}{own:Bool}{tr:E->Option Bool}{nm:Nat}{ev ev':Operand->SV}{o:Oper}(h:∀x∈o.op.operands,ev' x=ev x)(hb:∀x∈o.op.operands,∀b∈(ev x).names,bk' b=bk b):cV P con own tr nm ev' bk' o=cV P con own tr nm ev bk o:=by
 have e1:bb bk' (frz P con own ev' bk' o)=bb bk (frz P con own ev bk o):=by
  rw[M7 h hb];exact Kf (fun b hh=>by obtain⟨x,hx,hn⟩:=M8 b hh;exact hb x hx b hn)
 unfold cV;rw[GE h hb];split
 ·rfl
 simp only[e1];have e2:gd P con tr nm (fun x=>nz (aJ bk' (bb bk (frz P con own ev bk o))) (ev' x)) (aJ bk' (bb bk (frz P con own ev bk o))) o=gd P con tr nm (fun x=>nz (aJ bk (bb bk (frz P con own ev bk o))) (ev x)) (aJ bk (bb bk (frz P con own ev bk o))) o:=
  Kz (fun x hx=>by rw[h x hx];exact N7 (fun b hh=>Du (hb x hx b hh))) (fun x hx b hh=>Du (hb x hx b (uC _ _ b hh)))
 rw[e2]
variable {env:List AV} {κ κ':Nat->Value} {F F':Nat->Prop} {w w' w0:World} {U:Nat->Prop} {tmp:Nat->SV} {blk:Nat->Option SB} {L:Nat} {a:Act} {P:Program}
def R.proper:R->Bool
 |.nil=>true
 |.cons _ y=>y.proper
 |_=>false
def gY(F:Nat->Prop)(base:Nat)(w:World):R->Value->List Nat->Prop
 |.i n,u,bs=>u=.int .i64 n/\bs=[]
 |.b x,u,bs=>u=.bool x/\bs=[]
 |.r v,u,bs=>u=v/\aW v=true/\bs=[]
 |.row e t l,u,bs=>if given e then Den F w u (.sl t l)/\bs=[]else ∃us,w.ownsRow base e t.len u l.length us/\0<t.len/\RowsDen F w us t l/\bs=(ai u).toList
 |.nil,u,bs=>u=.tuple #[]/\bs=[]
 |.cons x y,u,bs=>∃p q b1 b2,u=.tuple (p::q).toArray/\gY F base w x p b1/\gY F base w y (.tuple q.toArray) b2/\bs=b1++b2
 |.agg x,u,bs=>∃cs,u=.agg cs/\x.proper=true/\gY F base w x (.tuple cs) bs
 |.tup x,u,bs=>∃cs,u=.tuple cs/\x.proper=true/\gY F base w x (.tuple cs) bs
def KJ(S:Nat->Prop)(r:R)(w:World)(e:Ending)(w':World):Prop:=
 ∃u F bs,e=.returned u/\gY F w.heap.size w' r u bs/\bs.Nodup/\(∀k∈bs,¬F k)/\(∀k,F k->(S k\/w.heap.size<=k)/\k<w'.heap.size)/\Below w.heap.size w w'
def EB(S:Nat->Prop)(w:World)(vs:Array Value)(args:List AV):Prop:=vs.size=args.length/\∀(i:Nat) v x,vs[i]?=some v->args[i]?=some x->Den S w v x
def Con(P:Program)(f:Nat)(args:List AV)(r:R):Prop:=∀(S:Nat->Prop) (vs:Array Value) (w:World),(∀k,S k->k<w.heap.size)->EB S w vs args->Calls P f vs w (KJ S r w)
structure PFit (P:Program):Prop where
 mix:P.follows .mixedOrders=true
 name:∀(f:Nat) fn,P.funcs[f]?=some fn->fn.name ≠ "runtime.NumGoroutine"
theorem sM{l:List Nat}{f g:Nat->List Nat}(h:∀b∈l,f b=g b):l.flatMap f=l.flatMap g:=by
 rw[List.flatMap_def,List.flatMap_def,List.map_congr_left h]
theorem Pj(r:R):∀(u:Value) (bs:List Nat) (base n m:Nat),gY F base w r u bs->(∀(j:Nat) x,r.leaves[j]?=some x->env[n+j]?=some x) →
  r.leaves.length=(mkRes.RS.cnt r.shape).1/\(mkRes r.shape n m).2.map (·.1)=List.range' m (mkRes.RS.cnt r.shape).2/\(∀b∈(mkRes r.shape n m).1.names,m<=b/\b<m+(mkRes.RS.cnt r.shape).2)/\(r.proper=true->(mkRes r.shape n m).1.proper=true) ∧
  ∃κ1:Nat->Value,bs=(List.range' m (mkRes.RS.cnt r.shape).2).flatMap (fun b=>(ai (κ1 b)).toList) ∧
   ∀κ',(∀b,m<=b->b<m+(mkRes.RS.cnt r.shape).2->κ' b=κ1 b)->SVden env κ' F w (mkRes r.shape n m).1 u/\∀x∈(mkRes r.shape n m).2,∃sb,x.2=some sb/\SBden env κ' F base w x.1 sb/\sb.names=[]:=by
 induction r with
 |i k=>
  rintro u bs base n m ⟨rfl,rfl⟩ henv;have h0:env.getD n (.int 0)=.int k:=by have:=henv 0 (.int k) rfl;rw[Nat.add_zero]at this;simp[List.getD,this]
  refine⟨rfl,rfl,fun b hb=>(by cases hb),fun h=>(by cases h),fun _=>undef,rfl,fun κ' _=>⟨⟨?_,?_⟩,fun x hx=>(by cases hx)⟩⟩
  ·simp only[den];rw[h0];rfl
  ·simp only[den];rw[h0];rfl
 |b k=>
  rintro u bs base n m ⟨rfl,rfl⟩ henv;have h0:env.getD n (.int 0)=.bool k:=by have:=henv 0 (.bool k) rfl;rw[Nat.add_zero]at this;simp[List.getD,this]
  refine⟨rfl,rfl,fun b hb=>(by cases hb),fun h=>(by cases h),fun _=>undef,rfl,fun κ' _=>⟨⟨?_,?_⟩,fun x hx=>(by cases hx)⟩⟩
  ·simp only[den];rw[h0];rfl
  ·simp only[den];rw[h0];rfl
 |r k=>
  rintro u bs base n m ⟨rfl,hp,rfl⟩ henv;have h0:env.getD n (.int 0)=.raw u:=by have:=henv 0 (.raw u) rfl;rw[Nat.add_zero]at this;simp[List.getD,this]
  refine⟨rfl,rfl,fun b hb=>(by cases hb),fun h=>(by cases h),fun _=>undef,rfl,fun κ' _=>⟨⟨?_,hp,?_⟩,fun x hx=>(by cases hx)⟩⟩
  ·simp only[den];rw[h0];rfl
  ·simp only[den];rw[h0];rfl
 | row e t l=>
  intro u bs base n m h henv;have h0:env.getD n (.int 0)=.sl t l:=by have:=henv 0 (.sl t l) rfl;rw[Nat.add_zero]at this;simp[List.getD,this]
  unfold gY at h;by_cases hg:given e=true
  ·rw[if_pos hg]at h
   obtain⟨h1,rfl⟩:=h;have e1:mkRes (R.row e t l).shape n m=(.vs t (.v n),[]):=by show(if given e then _ else _)=_;rw[if_pos hg]
   have e2:mkRes.RS.cnt (R.row e t l).shape=(1,0):=by show(1,if given e then 0 else 1)=_;rw[if_pos hg]
   rw[e1,e2];refine⟨rfl,rfl,fun b hb=>(by cases hb),fun h=>(by cases h),fun _=>undef,rfl,fun κ' _=>⟨?_,fun x hx=>(by cases hx)⟩⟩
   show Den F w u (.sl t (den env (.v n)).l)
   simp only[den];rw[h0];exact h1
  rw[if_neg hg]at h;obtain⟨us,h1,h2,h3,rfl⟩:=h;have e1:mkRes (R.row e t l).shape n m=(.row m,[(m,some (.row e t (.v n)))]):=by show(if given e then _ else _)=_;rw[if_neg hg]
  have e2:mkRes.RS.cnt (R.row e t l).shape=(1,1):=by show(1,if given e then 0 else 1)=_;rw[if_neg hg]
  rw[e1,e2];refine⟨rfl,rfl,fun b hb=>?_,fun h=>(by cases h),fun _=>u,by simp[List.range'],fun κ' hk=>⟨⟨(hk m (Nat.le_refl _) (by simp)).symm,?_⟩,fun x hx=>?_⟩⟩
  ·simp[SV.names]at hb;subst hb;simp
  ·rcases h1.2 with⟨rfl,_⟩|⟨g,cap,cur,rfl,_⟩<;>rfl
  ·simp at hx
   subst hx;refine⟨_,rfl,⟨us,?_,h2,?_⟩,rfl⟩
   ·rw[hk m (Nat.le_refl _) (by simp)]
    simp only[den];rw[h0];exact h1
   ·simp only[den];rw[h0];exact h3
 |nil=>
  rintro u bs base n m ⟨rfl,rfl⟩ henv;exact⟨rfl,rfl,fun b hb=>(by cases hb),fun _=>rfl,fun _=>undef,rfl,fun κ' _=>⟨rfl,fun x hx=>(by cases hx)⟩⟩
 | cons x y ih1 ih2=>
  rintro u bs base n m ⟨p,q,b1,b2,rfl,h1,h2,rfl⟩ henv;obtain⟨a1,a2,a3,_,κ1,a5,a6⟩:=ih1 p b1 base n m h1 (fun j z hz=>henv j z (by simp only[R.leaves];rw[List.getElem?_append_left (List.getElem?_eq_some_iff.1 hz).1];exact hz))
  obtain⟨c1,c2,c3,c4,κ2,c5,c6⟩:=ih2 (.tuple q.toArray) b2 base (n+(mkRes.RS.cnt x.shape).1) (m+(mkRes.RS.cnt x.shape).2) h2 (fun j z hz=>by
   have:=henv ((mkRes.RS.cnt x.shape).1+j) z (by simp only[R.leaves];rw[List.getElem?_append_right (by omega),a1];rw[<-hz];congr 1;omega)
   rw[<-this];congr 1;omega)
  refine⟨by simp only[R.leaves,List.length_append,a1,c1];rfl,?_,fun b hb=>?_,fun h=>c4 h,fun b=>if b<m+(mkRes.RS.cnt x.shape).2 then κ1 b else κ2 b,?_,fun κ' hk=>⟨⟨p,q,rfl,?_,?_⟩,fun z hz=>?_⟩⟩
  ·simp only[R.shape,mkRes,List.map_append,a2,c2,mkRes.RS.cnt]
   rw[List.range'_append_1]
  ·simp only[R.shape,mkRes,SV.names,List.mem_append]at hb
   simp only[R.shape,mkRes.RS.cnt];rcases hb with hb|hb
   ·have:=a3 b hb;omega
   ·have:=c3 b hb;omega
  ·simp only[R.shape,mkRes.RS.cnt]
   rw[a5,c5,<-List.range'_append_1,List.flatMap_append];congr 1
   ·refine sM (fun b hb=>?_)
    simp only[List.mem_range'_1]at hb;rw[if_pos hb.2]
   ·refine sM (fun b hb=>?_)
    simp only[List.mem_range'_1]at hb;rw[if_neg (by omega)]
  ·refine(a6 κ' (fun b hb1 hb2=>?_)).1
   exact(hk b hb1 (by simp only[R.shape,mkRes.RS.cnt];omega)).trans (if_pos hb2)
  ·refine(c6 κ' (fun b hb1 hb2=>?_)).1
   exact(hk b (by omega) (by simp only[R.shape,mkRes.RS.cnt];omega)).trans (if_neg (by omega))
  ·simp only[R.shape,mkRes,List.mem_append]at hz
   rcases hz with hz|hz
   ·refine(a6 κ' (fun b hb1 hb2=>?_)).2 z hz
    exact(hk b hb1 (by simp only[R.shape,mkRes.RS.cnt];omega)).trans (if_pos hb2)
   ·refine(c6 κ' (fun b hb1 hb2=>?_)).2 z hz
    exact(hk b (by omega) (by simp only[R.shape,mkRes.RS.cnt];omega)).trans (if_neg (by omega))
 |agg x ih=>
  rintro u bs base n m ⟨cs,rfl,hp,h⟩ henv;obtain⟨a1,a2,a3,a4,κ1,a5,a6⟩:=ih (.tuple cs) bs base n m h henv;exact⟨a1,a2,a3,fun h=>(by cases h),κ1,a5,fun κ' hk=>⟨⟨cs,rfl,a4 hp,(a6 κ' hk).1⟩,(a6 κ' hk).2⟩⟩
 |tup x ih=>
  rintro u bs base n m ⟨cs,rfl,hp,h⟩ henv;obtain⟨a1,a2,a3,a4,κ1,a5,a6⟩:=ih (.tuple cs) bs base n m h henv;exact⟨a1,a2,a3,fun h=>(by cases h),κ1,a5,fun κ' hk=>⟨⟨cs,rfl,a4 hp,(a6 κ' hk).1⟩,(a6 κ' hk).2⟩⟩
def Da(blk:Nat->Option SB)(κ:Nat->Value)(S:Nat->Prop)(x:SV):Prop:=∀b∈aP blk x,∀k,ai (κ b)=some k->S k
theorem J8{x y:SV}(h:y∈x.list):∀b∈aP blk y,b∈aP blk x:=by
 induction x with
 |cons x z _ ih=>
  intro b hb;simp only[SV.list,List.mem_cons]at h;simp only[aP,List.mem_append];rcases h with rfl|h
  ·exact .inl hb
  ·exact .inr (ih h b hb)
 |_=>simp[SV.list]at h
theorem L0(x:SV):∀b∈aP blk x,∃e t l,blk b=some (.row e t l):=by
 induction x with
 | row c=>
  intro b hb;simp only[aP]at hb;split at hb
  ·rename_i e t l hc
   have:b=c:=by simpa using hb
   subst this;exact⟨e,t,l,hc⟩
  ·cases hb
 |agg x ih=>exact ih
 |cons x y ih1 ih2=>
  intro b hb;simp only[aP,List.mem_append]at hb;rcases hb with hb|hb
  ·exact ih1 b hb
  ·exact ih2 b hb
 |_=>intro b hb;cases hb
theorem MA(bk:Nat->Option SB)(x:SV):∀b∈aP blk (nz bk x),b∈aP blk x:=by
 induction x with
 |row c=>
  intro b hb;simp only[nz]at hb;split at hb
  ·cases hb
  ·exact hb
 |agg x ih=>exact ih
 |cons x y ih1 ih2=>
  intro b hb;simp only[nz,aP,List.mem_append]at hb⊢;rcases hb with hb|hb
  ·exact .inl (ih1 b hb)
  ·exact .inr (ih2 b hb)
 |tup x _=>intro b hb;cases hb
 |_=>exact fun b hb=>hb
theorem LT{bk:Nat->Option SB}(h:∀b e t l,bk b=some (.row e t l)->blk b=some (.row e t l))(x:SV):∀b∈aP bk x,b∈aP blk x:=by
 induction x with
 | row c=>
  intro b hb;simp only[aP]at hb⊢;split at hb
  ·rename_i e t l hc
   rw[h c e t l hc];exact hb
  ·cases hb
 |agg x ih=>exact ih
 |cons x y ih1 ih2=>
  intro b hb;simp only[aP,List.mem_append]at hb⊢;rcases hb with hb|hb
  ·exact .inl (ih1 b hb)
  ·exact .inr (ih2 b hb)
 |_=>intro b hb;cases hb
theorem P4(blk:Nat->Option SB)(bs:List Nat){b:Nat}(hb:b∈bs):∀e t l,aJ blk (bb blk bs) b≠some (.row e t l):=by
 have key:∀(bs:List Nat) (f:Nat->Option SB),(∀c,f c=blk c\/∃e t l,f c=some (.ice e t l))->(b∈bs\/∀e t l,f b≠some (.row e t l))->∀e t l,aJ f (bb blk bs) b≠some (.row e t l):=by
  intro bs;induction bs with
  |nil=>
   intro f _ h e t l;rcases h with h|h
   ·cases h
   ·exact h e t l
  | cons c bs ih=>
   intro f hf h;by_cases hr:∃e t l,blk c=some (.row e t l)
   ·obtain⟨e,t,l,hc⟩:=hr
    have:bb blk (c::bs)=(c,some (.ice 0 t l))::bb blk bs:=by simp only[bb,List.filterMap_cons,hc]
    rw[this];refine ih (upd f c (some (.ice 0 t l))) (fun d=>?_) ?_
    ·by_cases ed:d=c
     ·subst ed;rw[ao];exact .inr ⟨0,t,l,rfl⟩
     ·rw[ab ed];exact hf d
    ·by_cases ed:b=c
     ·subst ed;right;intro e' t' l';rw[ao];intro hh;cases hh
     ·rw[ab ed]
      rcases h with h|h
      ·rcases List.mem_cons.1 h with h|h
       ·exact absurd h ed
       ·exact .inl h
      ·exact .inr h
   ·have:bb blk (c::bs)=bb blk bs:=by
     simp only[bb,List.filterMap_cons];split
     ·rfl
     ·rename_i y hy
      split at hy
      ·rename_i e t l hc;exact absurd ⟨e,t,l,hc⟩ hr
      ·cases hy
    rw[this];refine ih f hf ?_
    rcases h with h|h
    ·rcases List.mem_cons.1 h with h|h
     ·subst h
      right
      intro e t l hh;rcases hf b with h1|⟨_,_,_,h1⟩
      ·rw[h1]at hh;exact hr ⟨e,t,l,hh⟩
      ·rw[h1]at hh;cases hh
     ·exact .inl h
    ·exact .inr h
 exact key bs blk (fun _=>.inl rfl) (.inl hb)
theorem BE(h:Rel w0 env κ F U tmp blk L a w){S:Nat->Prop}(hF:∀k,F k->S k){x:SV}(hS:Da blk κ S x){u:Value}(hx:SVden env κ F w x u){ty:Option Ty}{l:E}(hl:cX blk x=some (ty,l)){t:Ty}(ht:ty.all (·=t)=true):Den S w u (.sl t (den env l).l):=by
 unfold cX at hl;split at hl
 ·cases hl
  simp only[Option.all_some,decide_eq_true_eq]at ht;subst ht;exact Den.keep hx (fun _ _=>rfl) hF
 ·cases hl
  rw[show u=_ from hx];exact uc t
 ·rename_i b
  split at hl
  ·rename_i e t' l' hb
   cases hl
   simp only[Option.all_some,decide_eq_true_eq]at ht;subst ht;rw[hx.1];exact Ld (h.blks b _ hb) hF (hS b (by simp only[aP,hb];exact List.mem_singleton.2 rfl))
  ·rename_i e t' l' hb
   cases hl
   simp only[Option.all_some,decide_eq_true_eq]at ht;subst ht;rw[hx.1];exact Den.keep (h.blks b _ hb).1 (fun _ _=>rfl) hF
  ·cases hl
 ·cases hl
theorem pG(h:Rel w0 env κ F U tmp blk L a w){S:Nat->Prop}(hF:∀k,F k->S k):∀(l:List SV) (ts:List Ty) (e:E) (us:List Value),(∀x∈l,Da blk κ S x)->eL blk l ts=some e->us.length=l.length->(∀(i:Nat) x u,l[i]?=some x->us[i]?=some u->SVden env κ F w x u) →
  (den env e).g.length=l.length/\(∀(i:Nat) u x,us[i]?=some u->(den env e).g[i]?=some x->Den S w u x)/\den env e=.agg (den env e).g
 |[],[],e,us,_,he,hu,hd=>by
  simp only[eL]at he;cases he
  exact⟨rfl,fun i u x h1 h2=>by simp[den]at h2,rfl⟩
 |[],_::_,e,us,_,he,_,_=>by simp only[eL]at he;cases he
 |_::_,[],e,us,_,he,_,_=>by simp only[eL]at he;cases he
 | x :: l,t::ts,e,us,hS,he,hu,hd=>by
  cases us with
  |nil=>simp at hu
  | cons u us=>
   simp only[eL]at he;split at he
   ·rename_i c es h1 h2
    cases he
    obtain⟨i1,i2,i3⟩:=pG h hF l ts es us (fun x hx=>hS x (List.mem_cons_of_mem _ hx)) h2 (by simpa using hu) (fun i x u a b=>hd (i+1) x u (by simpa using a) (by simpa using b))
    have hx:=hd 0 x u rfl rfl;have key:Den S w u (den env c):=by
     split at h1
     ·cases h1;rw[hx.1,Aa hx.2];exact .int _
     ·cases h1;rw[hx.1,AC hx.2];exact .bool _
     ·cases h1
      have h2:=hx.2.1;rw[Db hx.2.2,hx.1];rw[hx.1]at h2;exact .raw _ h2
     ·rename_i t
      split at h1
      ·rename_i v e' hl
       split at h1
       ·rename_i hv
        cases h1
        exact BE h hF (hS _ (List.mem_cons_self ..)) hx hl (by simp[hv])
       ·cases h1
      ·rename_i e' hl
       cases h1
       exact BE h hF (hS _ (List.mem_cons_self ..)) hx hl rfl
      ·cases h1
     ·cases h1
    refine⟨by simp[den,i1],fun i u' x' g1 g2=>?_,rfl⟩
    cases i with
    |zero=>simp[den]at g1 g2;subst g1;subst g2;exact key
    |succ i=>simp[den]at g1 g2;exact i2 i u' x' g1 g2
   ·cases he
theorem MK(h:Rel w0 env κ F U tmp blk L a w){S:Nat->Prop}(hF:∀k,F k->S k){x:SV}(hS:Da blk κ S x){t:Nat}{e:E}{u:Value}(he:AG P blk x t=some e)(hd:SVden env κ F w x u):Den S w u (den env e):=by
 unfold AG at he;split at he
 ·cases he
 ·split at he
  ·split at he
   ·rename_i xs
    obtain⟨cs,rfl,hp,h2⟩:=hd;obtain⟨t1,t2⟩:=bP hp h2;obtain⟨i1,i2,i3⟩:=pG h hF xs.list _ e cs.toList (fun y hy b hb=>hS b (show b∈aP blk (.agg xs)from J8 (x:=xs) hy b hb)) he (by rw[list_len];simpa using t1) (fun i x u g1 g2=>by
     obtain⟨v,h3,h4⟩:=t2 i x g1;rw[Array.getElem?_toList,h3]at g2;cases g2;exact h4)
    rw[i3];have:=Den.agg (S:=S) (w:=w) cs.toList (den env e).g (by rw[i1,list_len];simpa using t1) (fun i v x g1 g2=>i2 i v x g1 g2)
    simpa using this
   ·cases he
  ·split at he
   ·rename_i e' hc
    cases he
    obtain⟨i1,i2,_⟩:=pG h hF [x] _ _ [u] (fun y hy=>by simp at hy;subst hy;exact hS) hc rfl (fun i y v g1 g2=>by
     cases i with
     |zero=>simp at g1 g2;subst g1;subst g2;exact hd
     |succ i=>simp at g1)
    exact i2 0 u (den env e) rfl rfl
   ·cases he
theorem C7(h:Rel w0 env κ F U tmp blk L a w){S:Nat->Prop}(hF:∀k,F k->S k):∀(l:List SV) (ts:List Nat) (e:E) (us:List Value),(∀x∈l,Da blk κ S x)->gE P blk l ts=some e->us.length=l.length->(∀(i:Nat) x u,l[i]?=some x->us[i]?=some u->SVden env κ F w x u)->EB S w us.toArray (den env e).g
 |[],[],e,us,_,he,hu,hd=>by
  simp only[gE]at he;cases he
  have:us=[]:=List.eq_nil_of_length_eq_zero hu
  subst this;exact⟨rfl,fun i v x h1 h2=>by simp at h1⟩
 |[],_::_,e,us,_,he,_,_=>by simp only[gE]at he;cases he
 |_::_,[],e,us,_,he,_,_=>by simp only[gE]at he;cases he
 | x::l,t::ts,e,us,hS,he,hu,hd=>by
  cases us with
  |nil=>simp at hu
  | cons u us=>
   simp only[gE]at he;split at he
   ·rename_i c es h1 h2
    cases he
    obtain⟨i1,i2⟩:=C7 h hF l ts es us (fun x hx=>hS x (List.mem_cons_of_mem _ hx)) h2 (by simpa using hu) (fun i x u a b=>hd (i+1) x u (by simpa using a) (by simpa using b))
    refine⟨by simp at i1;simp[den,i1],fun i v y g1 g2=>?_⟩
    cases i with
    |zero=>simp[den]at g1 g2;subst g1;subst g2;exact MK h hF (hS x (List.mem_cons_self ..)) h1 (hd 0 x u rfl rfl)
    |succ i=>simp[den]at g1 g2;exact i2 i v y (by simpa using g1) g2
   ·cases he
theorem Oo{ns:List Nat}{f:Nat->List Nat}(h:(ns.flatMap f).Nodup){b c k:Nat}(hb:b∈ns)(hc:c∈ns)(h1:k∈f b)(h2:k∈f c):b=c:=by
 induction ns with
 |nil=>cases hb
 |cons n ns ih=>
  rw[List.flatMap_cons,List.nodup_append]at h;obtain⟨h3,h4,h5⟩:=h;have far:∀c,c∈ns->k∈f c->k∈f n->False:=fun c hc h6 h7=>h5 k h7 k (List.mem_flatMap.2 ⟨c,hc,h6⟩) rfl
  rcases List.mem_cons.1 hb with hb'|hb'<;>rcases List.mem_cons.1 hc with hc'|hc'
  ·rw[hb',hc']
  ·exact(far c hc' h2 (hb'▸h1)).elim
  ·exact(far b hb' h1 (hc'▸h2)).elim
  ·exact ih h4 hb' hc'
def Out.isCall:Out->Bool
 |.call _ _ _ _|.inl _ _|.yld _ _=>true
 |_=>false
theorem Hg{tr:E->Option Bool}{kt:Nat}{z ix:SV}{ok:Bool}:∀(ks vs:List SV),(iC P tr kt z ix ok ks vs).isCall=false:=by
 intro ks;induction ks with
 |nil=>intro vs;cases vs<;>rfl
 | cons k ks ih=>
  intro vs;cases vs with
  |nil=>rfl
  | cons v vs=>
   simp only[iC];split
   ·rfl
   ·split
    ·rfl
    ·exact ih vs
    ·rfl
theorem uO{con:Nat->Bool}{tr:E->Option Bool}{nm:Nat}{ev:Operand->SV}{bk:Nat->Option SB}{o:Oper}{x:Out}(h:gd P con tr nm ev bk o=x)(hx:x.isCall=true):
  ∃g cargs tys,o.op=.call { callee:=.value g,args:=cargs,argTypes:=tys }/\jX P con bk (ev g) (cargs.toList.map ev)=x:=by
 unfold gd at h;split at h
 case h_22 g cargs tys ho=>exact⟨g,cargs,tys,ho,h⟩
 case h_27=>
  exfalso
  subst h;unfold jV at hx;repeat' split at hx
  all_goals (try (cases hx;done))
  rw[Hg]at hx;cases hx
 all_goals
  exfalso
  (try (simp only[AH,vo,D6,u4,jK,loadOut,loadOut.el,jR,zD,ua,tn,gx,fF,Bc,D4,AE,o5,mR,kI,fV,uP,uI,nP,ke,gg,iz,uQ,o0,mz,tw]at h))
  (try (repeat' split at h))
  all_goals (subst h;cases hx)
def Out.isPanic:Out->Bool
 |.panic _=>true
 |_=>false
theorem E8{tr:E->Option Bool}{kt:Nat}{z ix:SV}{ok:Bool}:∀(ks vs:List SV),(iC P tr kt z ix ok ks vs).isPanic=false:=by
 intro ks;induction ks with
 |nil=>intro vs;cases vs<;>rfl
 | cons k ks ih=>
  intro vs;cases vs with
  |nil=>rfl
  | cons v vs=>
   unfold iC;split
   ·rfl
   ·split
    ·rfl
    ·exact ih vs
    ·rfl
theorem Kh{con:Nat->Bool}{tr:E->Option Bool}{nm:Nat}{ev:Operand->SV}{bk:Nat->Option SB}{o:Oper}{v:Value}(h:gd P con tr nm ev bk o=.panic v):∃x,o.op=.panic x/\o0 (ev x)=.panic v:=by
 have hx:(Out.panic v).isPanic=true:=rfl
 generalize Out.panic v=x at h hx⊢
 unfold gd at h;split at h
 case h_27=>
  exfalso
  subst h;unfold jV at hx;repeat' split at hx
  all_goals (try (cases hx;done))
  rw[E8]at hx;cases hx
 case h_30 y ho=>exact⟨y,ho,h⟩
 all_goals
  exfalso
  (try (simp only[AH,vo,D6,u4,jK,loadOut,loadOut.el,jR,zD,ua,tn,gx,fF,Bc,D4,AE,o5,mR,kI,fV,uP,uI,nP,ke,gg,iz,uQ,jX,mz,tw]at h))
  (try (repeat' split at h))
  all_goals (subst h;cases hx)
theorem O4{bk:Nat->Option SB}{x:SV}{g:Nat}{fs xs:SV}(h:nz bk x=.fn g fs xs):x=.fn g fs xs:=by
 cases x<;>simp only[nz]at h<;>try (cases h;done)
 ·split at h<;>cases h
 ·exact h
theorem Qs{bk:Nat->Option SB}{x:SV}{b:Nat}(h:nz bk x=.yld b):x=.yld b:=by
 cases x<;>simp only[nz]at h<;>try (cases h;done)
 ·split at h<;>cases h
 ·exact h
theorem OK{u:Value}{x:AV}(h:Den F w u x)(hx:(match x.ty with|.int|.bool|.raw=>true|_=>false)=true):Den F' w u x:=by
 cases h with
 |int n=>exact .int n
 |bool b=>exact .bool b
 |raw _ h=>exact .raw _ h
 |sl=>cases hx
 |agg=>cases hx
theorem Nu{us:List Value}{t:Ty}{l:List (List AV)}(h:RowsDen F w us t l)(ht:t.plain=true):RowsDen F' w us t l:=by
 refine⟨h.1,fun i r k x hr hx=>?_⟩
 obtain⟨u,h1,h2⟩:=h.2 i r k x hr hx;refine⟨u,h1,OK h2 ?_⟩
 have hm:=congrArg (fun l=>l[k]?) (h.1 i r hr)
 simp only[List.getElem?_map,hx,Option.map_some]at hm;exact List.all_eq_true.1 ht _ (List.mem_of_getElem? hm.symm)
theorem Ms{base:Nat}(r:R):∀(u:Value) (bs:List Nat),r.shape.flat=true->gY F base w r u bs->gY F' base w r u bs:=by
 induction r with
 |row e t l=>
  intro u bs hf h;simp only[R.shape,RS.flat,Bool.and_eq_true,Bool.not_eq_true']at hf;unfold gY at h⊢
  rw[if_neg (by rw[hf.1];simp)]at h⊢
  obtain⟨us,h1,h2,h3,h4⟩:=h;exact⟨us,h1,h2,Nu h3 hf.2,h4⟩
 |cons x y ih1 ih2=>
  intro u bs hf h;simp only[R.shape,RS.flat,Bool.and_eq_true]at hf;obtain⟨p,q,b1,b2,h1,h2,h3,h4⟩:=h;exact⟨p,q,b1,b2,h1,ih1 _ _ hf.1 h2,ih2 _ _ hf.2 h3,h4⟩
 |agg x ih=>intro u bs hf h;obtain⟨cs,h1,h2,h3⟩:=h;exact⟨cs,h1,h2,ih _ _ hf h3⟩
 |tup x ih=>intro u bs hf h;obtain⟨cs,h1,h2,h3⟩:=h;exact⟨cs,h1,h2,ih _ _ hf h3⟩
 |_=>intro u bs _ h;exact h
theorem DC(l:List (Nat×Option SB)):∀(f:Nat->Option SB) (b:Nat),(∃x∈l,x.1=b/\aJ f l b=x.2)\/((∀x∈l,x.1≠b)/\aJ f l b=f b):=by
 induction l with
 |nil=>intro f b;exact .inr ⟨fun x hx=>(by cases hx),rfl⟩
 | cons y l ih=>
  intro f b;rcases ih (upd f y.1 y.2) b with⟨x,hx,e1,e2⟩|⟨h6,h7⟩
  ·exact .inl ⟨x,List.mem_cons_of_mem _ hx,e1,e2⟩
  ·by_cases hb:b=y.1
   ·subst hb
    exact .inl ⟨y,List.mem_cons_self ..,rfl,by show aJ (upd f y.1 y.2) l y.1=y.2;rw[h7,ao]⟩
   ·exact .inr ⟨fun x hx=>(by rcases List.mem_cons.1 hx with rfl|hx;exact fun e=>hb e.symm;exact h6 x hx),by show aJ (upd f y.1 y.2) l b=f b;rw[h7,ab hb]⟩
theorem RD(h:Rel w0 env κ F U tmp blk L a w){r:R}{u:Value}{F1:Nat->Prop}{bs:List Nat}(h1:gY F1 w.heap.size w' r u bs)(h2:bs.Nodup)(h3:∀k∈bs,¬F1 k)(h4:∀k,F1 k->(F k\/w.heap.size<=k)/\k<w'.heap.size)(h5:Below w.heap.size w w')
  {n nm:Nat} (henv:∀(j:Nat) x,r.leaves[j]?=some x->env[n+j]?=some x) (hm:∀b,nm<=b->b<nm+(mkRes.RS.cnt r.shape).2->¬U b):
  ∃κ' F',Rel w0 env κ' F' (fun b=>U b\/∃x∈(mkRes r.shape n nm).2,x.1=b) tmp (aJ blk (mkRes r.shape n nm).2) L a w'/\SVden env κ' F' w' (mkRes r.shape n nm).1 u/\Kept U blk κ F w (aJ blk (mkRes r.shape n nm).2) κ' F' w':=by
 obtain⟨r1,r2,r3,_,κ1,r4,r5⟩:=Pj (env:=env) r u bs w.heap.size n nm h1 henv
 obtain⟨N,hN⟩:∃N,N=(mkRes.RS.cnt r.shape).2:=⟨_,rfl⟩
 rw[<-hN]at r2 r3 r4 r5 hm;obtain⟨κ',hκ⟩:∃κ':Nat->Value,∀b,κ' b=if nm<=b/\b<nm+N then κ1 b else κ b:=⟨_,fun _=>rfl⟩
 have hin:∀b,nm<=b->b<nm+N->κ' b=κ1 b:=fun b g1 g2=>by rw[hκ,if_pos ⟨g1,g2⟩]
 have hout:∀b,U b->κ' b=κ b:=fun b hb=>by rw[hκ,if_neg (fun hh=>hm b hh.1 hh.2 hb)]
 obtain⟨s1,s2⟩:=r5 κ' hin;have hF1:∀k,F1 k->(F k\/F1 k):=fun k hk=>.inr hk
 have hold:∀b k,aB (blk b)=true->ai (κ b)=some k->k<w.heap.size:=fun b k hb hk=>by
  obtain⟨y,hy,hl⟩:=bu hb;exact((h.blks b y hy).lt hl hk).2
 have hmem:∀b,(∃x∈(mkRes r.shape n nm).2,x.1=b)↔nm<=b/\b<nm+N:=fun b=>by
  constructor
  ·rintro ⟨x,hx,rfl⟩
   have:x.1∈(mkRes r.shape n nm).2.map (·.1):=List.mem_map.2 ⟨x,hx,rfl⟩
   rw[r2,List.mem_range'_1]at this;exact this
  ·intro hb
   have:b∈(mkRes r.shape n nm).2.map (·.1):=by rw[r2,List.mem_range'_1];exact hb
   obtain⟨x,hx,rfl⟩:=List.mem_map.1 this;exact⟨x,hx,rfl⟩
 have hupd:=DC;have hsz:=h5.size;have hnew:∀b x,(∃y∈(mkRes r.shape n nm).2,y.1=b/\aJ blk (mkRes r.shape n nm).2 b=y.2)->aJ blk (mkRes r.shape n nm).2 b=some x->SBden env κ' F1 w.heap.size w' b x/\x.names=[]/\nm<=b/\b<nm+N:=fun b x ⟨y,hy,e3,e4⟩ hx=>by
  obtain⟨sb,g1,g2,g3⟩:=s2 y hy;rw[e4,g1]at hx;cases hx
  have:=(hmem b).1 ⟨y,hy,e3⟩
  subst e3;exact⟨g2,g3,this⟩
 have hblk:∀b k,nm<=b->b<nm+N->ai (κ' b)=some k->k∈bs:=fun b k g1 g2 g3=>by
  rw[r4];exact List.mem_flatMap.2 ⟨b,List.mem_range'_1.2 ⟨g1,g2⟩,by rw[<-hin b g1 g2,g3];simp⟩
 have hblk2:∀b x k,(∃y∈(mkRes r.shape n nm).2,y.1=b/\aJ blk (mkRes r.shape n nm).2 b=y.2)->aJ blk (mkRes r.shape n nm).2 b=some x->aB (some x)=true->ai (κ' b)=some k->w.heap.size<=k:=fun b x k g1 g2 gl g3=>((hnew b x g1 g2).1.lt gl g3).1
 refine⟨κ',fun k=>F k\/F1 k,?_,s1.keep (fun _ _=>rfl) hF1 (fun _ _=>rfl),⟨hout,fun k hk=>.inl hk,fun k hk=>?_,hsz,fun k hk _=>h5.block k hk,fun b k hb g1=>?_,.of fun k hk=>.inr (h5.block k hk)⟩⟩
 rotate_left
 ·rcases hk with hk|hk
  ·exact .inl hk
  ·rcases(h4 k hk).1 with h6|h6
   ·exact .inl h6
   ·exact .inr (.inl h6)
 ·obtain⟨x,hx,hxl⟩:=bu hb
  rcases hupd (mkRes r.shape n nm).2 blk b with hb2|⟨hb1,hb2⟩
  ·exact .inl (hblk2 b x k hb2 hx hxl g1)
  ·rw[hb2]at hx
   rw[hout b (h.bnames b x hx).1]at g1;exact .inr ⟨b,by rw[hx];exact hxl,g1⟩
 refine h.world (fun b hb=>.inl hb) hout (fun k hk=>.inl hk) (fun k hk=>h5.block k (h.F k hk)) (fun b x hx=>?_) (fun b c k hb hc g1 g2=>?_) (fun b k hb g1=>?_) (fun k hk=>?_) (h.below.trans (h5.mono h.below.size))
 ·rcases hupd (mkRes r.shape n nm).2 blk b with hh|⟨_,hh⟩
  ·obtain⟨g1,g2,g3⟩:=hnew b x hh hx
   refine .inr ⟨?_,.inr ((hmem b).2 g3),fun c hc=>by rw[g2]at hc;cases hc⟩
   have:=g1.keep (κ':=κ') (F':=fun k=>F k\/F1 k) (w':=w') (fun _ _=>rfl) rfl hF1 (fun _ _=>rfl) (fun _ _ _=>rfl)
   cases x with
   |cells ty xs=>
    obtain⟨g,cs,q1,q2,q3,q4⟩:=this;exact⟨g,cs,q1,q2,Nat.le_trans h.below.size q3,q4⟩
   |row ety t l=>
    obtain⟨us,q1,q2⟩:=this;exact⟨us,pP q1 h.below.size,q2⟩
   |loop i st p=>
    obtain⟨l,r,q1,q2,q3,q4⟩:=this;exact⟨l,r,q1,q2,Nat.le_trans h.below.size q3,q4⟩
   |map ks vs=>
    obtain⟨l,r,cl,q1,q2,q3,q4⟩:=this;exact⟨l,r,cl,q1,q2,Nat.le_trans h.below.size q3,q4⟩
   |dead l=>exact this
   |ice e t l=>exact this
  ·rw[hh]at hx
   exact .inl ⟨hx,fun hl k hk=>h5.block k (hold b k (by rw[hx];exact hl) hk)⟩
 ·obtain⟨x,hx,hxl⟩:=bu hb
  obtain⟨y,hy,hyl⟩:=bu hc;rcases hupd (mkRes r.shape n nm).2 blk b with hb2|⟨hb1,hb2⟩<;>rcases hupd (mkRes r.shape n nm).2 blk c with hc2|⟨hc1,hc2⟩
  ·obtain⟨_,_,b1,b2⟩:=hnew b x hb2 hx
   obtain⟨_,_,c1,c2⟩:=hnew c y hc2 hy;rw[r4]at h2;exact Oo h2 (List.mem_range'_1.2 ⟨b1,b2⟩) (List.mem_range'_1.2 ⟨c1,c2⟩) (k:=k) (by rw[<-hin b b1 b2,g1];simp) (by rw[<-hin c c1 c2,g2];simp)
  ·have:=hblk2 b x k hb2 hx hxl g1
   rw[hc2]at hy;have hU:=(h.bnames c y hy).1;rw[hout c hU]at g2;have:=hold c k (by rw[hy];exact hyl) g2;omega
  ·have:=hblk2 c y k hc2 hy hyl g2
   rw[hb2]at hx;have hU:=(h.bnames b x hx).1;rw[hout b hU]at g1;have:=hold b k (by rw[hx];exact hxl) g1;omega
  ·rw[hb2]at hx;rw[hc2]at hy
   rw[hout b (h.bnames b x hx).1]at g1;rw[hout c (h.bnames c y hy).1]at g2;exact h.inj b c k (by rw[hx];exact hxl) (by rw[hy];exact hyl) g1 g2
 ·obtain⟨x,hx,hxl⟩:=bu hb
  rcases hupd (mkRes r.shape n nm).2 blk b with hb2|⟨hb1,hb2⟩
  ·obtain⟨_,_,b1,b2⟩:=hnew b x hb2 hx
   have hk:=hblk b k b1 b2 g1;have hge:=hblk2 b x k hb2 hx hxl g1;rintro (hF|hF)
   ·have:=h.F k hF;omega
   ·exact h3 k hk hF
  ·rw[hb2]at hx
   rw[hout b (h.bnames b x hx).1]at g1;have hlt:=hold b k (by rw[hx];exact hxl) g1
   rintro (hF|hF)
   ·exact h.nF b k (by rw[hx];exact hxl) g1 hF
   ·rcases(h4 k hF).1 with h6|h6
    ·exact h.nF b k (by rw[hx];exact hxl) g1 h6
    ·omega
 ·rcases hk with hk|hk
  ·exact Nat.lt_of_lt_of_le (h.F k hk) hsz
  ·exact(h4 k hk).2
theorem LO{con:Nat->Bool}{own:Bool}{tr:E->Option Bool}{nm nm':Nat}{o:Oper}(hfit:PFit P)(h:Rel w0 env κ F U tmp blk L a w){f:Nat}{args:E}{sh:RS}{wr:List (Nat×Option SB)}(hc:cV P con own tr nm' (ah tmp) blk o=.call f args sh wr){r:R}(hr:r.shape=sh)(hcon:Con P f (den env args).g r)
  {n:Nat} (henv:∀(j:Nat) x,r.leaves[j]?=some x->env[n+j]?=some x) (hm:∀b,nm<=b->b<nm+(mkRes.RS.cnt sh).2->¬U b):
  ∃vs,(execOp a.eval o).run P w=.ok (.enter f vs) w/\(∀c,o.op≠.defer c)/\Calls P f vs w fun e w'=>∃u κ' F',e=.returned u ∧
   Rel w0 env κ' F' (fun b=>U b\/∃x∈wr++(mkRes sh n nm).2,x.1=b) tmp (aJ blk (wr++(mkRes sh n nm).2)) L a w'/\SVden env κ' F' w' (mkRes sh n nm).1 u/\Kept U blk κ F w (aJ blk (wr++(mkRes sh n nm).2)) κ' F' w':=by
 subst hr;unfold cV at hc;split at hc
 ·rename_i x hx
  obtain⟨_,_,_,rfl⟩:=nU hx;cases hc
 simp only[H6]at hc;obtain⟨fs,hfs⟩:∃fs,fs=bb blk (frz P con own (ah tmp) blk o):=⟨_,rfl⟩
 rw[<-hfs]at hc;split at hc
 ·cases hc
 rotate_left
 ·rename_i x _ hx
  exact absurd hc (hx _ _ _ _)
 ·rename_i f' args' sh' wr' hc'
  cases hc
  obtain⟨F1,hf,k1⟩:=h.freeze (frz P con own (ah tmp) blk o);have hice:∀b,b∈frz P con own (ah tmp) blk o->∀e t l,aJ blk (bb blk (frz P con own (ah tmp) blk o)) b≠some (.row e t l):=fun b hb=>P4 blk _ hb
  have hiu:=K9 blk (frz P con own (ah tmp) blk o);rw[<-hfs]at hf k1 hice hiu;obtain⟨blk1,hb1⟩:∃blk1,blk1=aJ blk wr:=⟨_,rfl⟩
  rw[<-hb1]at hf k1 hc' hice hiu;have hz:=hf.nz;obtain⟨g,cargs,tys,ho,hcall⟩:=uO hc' rfl;unfold jX at hcall;split at hcall
  rotate_left
  ·cases hcall
  ·cases hcall
  rename_i g' fs' xs' hg
  have hg0:ah tmp g=.fn g' fs' xs':=O4 (by rw[H6];exact hg)
  split at hcall
  rotate_left
  ·cases hcall
  rename_i fn hfn
  split at hcall
  rotate_left
  ·cases hcall
  rename_i hbody
  split at hcall
  rotate_left
  ·cases hcall
  rename_i hcon'
  obtain⟨hcg,rfl,rfl⟩:=hcon';split at hcall
  rotate_left
  ·cases hcall
  ·cases hcall
  rename_i es sh hargs hsh
  cases hcall
  have hev:=h.ev g;rw[hg0]at hev;obtain⟨ds,cs,e1,_,_,e2,e3⟩:=hev;have e2:ds=#[]:=by injection e2
  have e3:cs=#[]:=by injection e3
  subst e2;subst e3;obtain⟨S,hS⟩:∃S:Nat->Prop,S=fun k=>if r.shape.flat=true then k<w.heap.size else F1 k:=⟨_,rfl⟩
  have hSF:∀k,F1 k->S k:=fun k hk=>by
   rw[hS];show if r.shape.flat=true then k<w.heap.size else F1 k
   split
   ·exact hf.F k hk
   ·exact hk
  have hSlt:∀k,S k->k<w.heap.size:=fun k hk=>by
   rw[hS]at hk;replace hk:if r.shape.flat=true then k<w.heap.size else F1 k:=hk
   split at hk
   ·exact hk
   ·exact hf.F k hk
  have hlend:∀x∈cargs.toList.map (ah fun t=>Sx.nz blk1 (tmp t)),Da blk1 κ S x:=by
   intro x hx b hb k hk;obtain⟨y,hy,rfl⟩:=List.mem_map.1 hx;rw[hS];obtain⟨e,t,l,hbl⟩:=L0 (blk:=blk1) _ b hb
   show if r.shape.flat=true then k<w.heap.size else F1 k
   split
   ·exact((hf.blks b _ hbl).lt rfl hk).2
   ·rename_i hnf
    exfalso
    rw[<-H6]at hb;have hb2:=MA _ _ b hb;have hb3:=LT (blk:=blk) (fun c e t l hc=>by
     rcases hiu c with h6|⟨_,_,_,_,h6⟩
     ·rw[<-h6];exact hc
     ·rw[h6]at hc;cases hc) _ b hb2
    refine hice b ?_ e t l hbl
    unfold frz;simp only[ho,hg0,hfn,hcg,hsh];rw[if_neg (by simpa using hnf)]
    exact List.mem_flatMap.2 ⟨y,by simpa using hy,hb3⟩
  have hden:=C7 hz hSF _ _ args (cargs.toList.map a.eval) hlend hargs (by simp) (fun i x u g1 g2=>by
   rw[List.getElem?_map]at g1 g2;obtain⟨y,g3,rfl⟩:=Option.map_eq_some_iff.1 g1;rw[g3]at g2;cases g2
   exact hz.ev y)
  have hrun:(execOp a.eval o).run P w=.ok (.enter f (cargs.map a.eval)) w:=by
   have hn:¬fn.name = "runtime.NumGoroutine" := hfit.name f fn hfn
   have hb:¬fn.body=none:=by intro hh;rw[hh]at hbody;cases hbody
   simp only[execOp,ho,resolve,e1,Deferred.ofValue,Sem.run_bind,Sem.run_pure,Result.andThen_ok,invoke,callFunc];simp[hfn,hn,hb]
  have hmap:(cargs.toList.map a.eval).toArray=cargs.map a.eval:=by apply Array.ext';simp
  rw[hmap]at hden;refine⟨_,hrun,(fun c hh=>by rw[ho]at hh;cases hh),?_⟩
  refine(hcon S _ w hSlt hden).mono ?_
  rintro e w' ⟨u,F2,bs,rfl,h1,h2,h3,h4,h5⟩;have key:∃F3:Nat->Prop,gY F3 w.heap.size w' r u bs/\(∀k∈bs,¬F3 k)/\∀k,F3 k->(F1 k\/w.heap.size<=k)/\k<w'.heap.size:=by
   cases hfl:r.shape.flat with
   |true=>exact⟨fun _=>False,Ms r u bs hfl h1,fun _ _ h=>h,fun _ h=>h.elim⟩
   | false=>
    refine⟨F2,h1,h3,fun k hk=>?_⟩
    obtain⟨h6,h7⟩:=h4 k hk;refine⟨?_,h7⟩
    rcases h6 with h6|h6
    ·rw[hS]at h6
     replace h6:if r.shape.flat=true then k<w.heap.size else F1 k:=h6
     rw[if_neg (by simp[hfl])]at h6;exact .inl h6
    ·exact .inr h6
  obtain⟨F3,q1,q2,q3⟩:=key;obtain⟨κ',F',r1,r2,r3⟩:=RD hf q1 h2 q2 q3 h5 henv hm;have k:=k1.trans r3 (fun _ h=>h)
  rw[sI,<-hb1];refine⟨u,κ',F',rfl,?_,r2,k⟩
  refine r1.monoU (fun b hb=>?_)
  rcases hb with hb|⟨x,hx,hb⟩
  ·exact .inl hb
  ·exact .inr ⟨x,List.mem_append_right _ hx,hb⟩
def Lo(P:Program)(f:Nat)(ks vs:SV):Prop:=∀w:World,Calls P f #[] w fun e w'=>∃r es clock,e=.returned (.map (some r))/\w.heap.size<=r/\w'.heap[r]?=some (.map es clock)/\ks.proper=true/\vs.proper=true/\ks.len=vs.len ∧
 MapDen [] (fun _=>undef) (fun _=>False) w' ks vs es.toList/\Below w.heap.size w w'
def ff(ts:List Ty)(xs:List AV):List AV:=List.zipWith co ts xs
theorem vq:∀(ts:List Ty) (xs:List AV),xs.map AV.ty=ts->ff ts xs=xs
 |[],xs,h=>by
  cases xs with
  |nil=>rfl
  |cons=>simp at h
 | t::ts,xs,h=>by
  cases xs with
  |nil=>simp at h
  |cons x xs=>
   simp only[List.map_cons,List.cons.injEq]at h;show co t x::ff ts xs=_
   rw[O7 h.1,vq ts xs h.2]
def T.den(P:Program)(Post:R->Prop):T->List AV->(Nat->List AV->Prop)->Prop
 |.stop _ _,_,_=>False
 |.ret x,env,_=>Post (x.den env)
 |.need e t,env,K=>(Sx.den env e).b=true/\t.den P Post env K
 |.br e a b,env,K=>((Sx.den env e).b=true->a.den P Post env K)/\((Sx.den env e).b=false->b.den P Post env K)
 |.call f args sh t,env,K=>∃r:R,r.shape=sh/\Con P f (Sx.den env args).g r/\t.den P Post (env++r.leaves) K
 |.loop lvl inits sorts _ _ t,env,K=>∃(I:List AV->Prop) (μ:List AV->Nat),I (ff sorts (Sx.den env inits).g) ∧
  ∀vs,vs.map AV.ty=sorts->I vs->t.den P Post (env++vs) (upd K lvl (fun us=>I (ff sorts us)/\μ (ff sorts us)<μ vs))
 |.again lvl es,env,K=>K lvl (Sx.den env es).g
 |.ext f ks vs t,env,K=>Lo P f ks vs/\t.den P Post env K
theorem je{n:Nat}{rs:List AV}(hn:env.length=n){e:E}(h:e.sc n=true):den (env++rs) e=den env e:=by
 induction e with
 |v i=>
  simp only[E.sc,decide_eq_true_eq]at h;simp[den,List.getD,List.getElem?_append_left (show i<env.length by omega)]
 |ii o x y ih1 ih2=>simp only[E.sc,Bool.and_eq_true]at h;simp only[den,ih1 h.1,ih2 h.2]
 |cmp o x y ih1 ih2=>simp only[E.sc,Bool.and_eq_true]at h;simp only[den,ih1 h.1,ih2 h.2]
 |beq x y ih1 ih2=>simp only[E.sc,Bool.and_eq_true]at h;simp only[den,ih1 h.1,ih2 h.2]
 |and x y ih1 ih2=>simp only[E.sc,Bool.and_eq_true]at h;simp only[den,ih1 h.1,ih2 h.2]
 |seq x y ih1 ih2=>simp only[E.sc,Bool.and_eq_true]at h;simp only[den,ih1 h.1,ih2 h.2]
 |rcons x y ih1 ih2=>simp only[E.sc,Bool.and_eq_true]at h;simp only[den,ih1 h.1,ih2 h.2]
 |snoc x y ih1 ih2=>simp only[E.sc,Bool.and_eq_true]at h;simp only[den,ih1 h.1,ih2 h.2]
 |app x y ih1 ih2=>simp only[E.sc,Bool.and_eq_true]at h;simp only[den,ih1 h.1,ih2 h.2]
 |take x y ih1 ih2=>simp only[E.sc,Bool.and_eq_true]at h;simp only[den,ih1 h.1,ih2 h.2]
 |drop x y ih1 ih2=>simp only[E.sc,Bool.and_eq_true]at h;simp only[den,ih1 h.1,ih2 h.2]
 |rep x y ih1 ih2=>simp only[E.sc,Bool.and_eq_true]at h;simp only[den,ih1 h.1,ih2 h.2]
 |cpy x y ih1 ih2=>simp only[E.sc,Bool.and_eq_true]at h;simp only[den,ih1 h.1,ih2 h.2]
 |not x ih=>simp only[E.sc]at h;simp only[den,ih h]
 |len x ih=>simp only[E.sc]at h;simp only[den,ih h]
 |slen x ih=>simp only[E.sc]at h;simp only[den,ih h]
 |typed t x ih=>simp only[E.sc]at h;simp only[den,ih h]
 |co t x ih=>simp only[E.sc]at h;simp only[den,ih h]
 |kin t x ih=>simp only[E.sc]at h;simp only[den,ih h]
 |kout x ih=>simp only[E.sc]at h;simp only[den,ih h]
 |kop o k x y ih1 ih2=>simp only[E.sc,Bool.and_eq_true]at h;simp only[den,ih1 h.1,ih2 h.2]
 |kcmp o x y ih1 ih2=>simp only[E.sc,Bool.and_eq_true]at h;simp only[den,ih1 h.1,ih2 h.2]
 |cell x y k ih1 ih2=>simp only[E.sc,Bool.and_eq_true]at h;simp only[den,ih1 h.1,ih2 h.2]
 |set x y k z ih1 ih2 ih3=>simp only[E.sc,Bool.and_eq_true]at h;simp only[den,ih1 h.1.1,ih2 h.1.2,ih3 h.2]
 |_=>rfl
def Agree(n:Nat)(env env':List AV):Prop:=∀e:E,e.sc n=true->den env' e=den env e
theorem Agree.symm{n:Nat}{env':List AV}(h:Agree n env env'):Agree n env' env:=fun e he=>(h e he).symm
theorem Agree.trans{n:Nat}{env' env'':List AV}(h:Agree n env env')(k:Agree n env' env''):Agree n env env'':=fun e he=>(k e he).trans (h e he)
theorem mw{n:Nat}{rs:List AV}(hn:env.length=n):Agree n env (env++rs):=fun _ he=>je hn he
theorem SVden.re{n:Nat}{env':List AV}(hn:Agree n env env'){x:SV}{u:Value}(hs:x.sc n=true)(h:SVden env κ F w x u):SVden env' κ F w x u:=by
 induction x generalizing u with
 |vi e=>simp only[SV.sc]at hs;simp only[SVden,hn e hs]at h⊢;exact h
 |vb e=>simp only[SV.sc]at hs;simp only[SVden,hn e hs]at h⊢;exact h
 |vr e=>simp only[SV.sc]at hs;simp only[SVden,hn e hs]at h⊢;exact h
 |vs t e=>simp only[SV.sc]at hs;simp only[SVden,hn e hs]at h⊢;exact h
 |eptr t l i k=>simp only[SV.sc,Bool.and_eq_true]at hs;simp only[SVden,hn l hs.1,hn i hs.2]at h⊢;exact h
 |rptr b t i k=>simp only[SV.sc]at hs;simp only[SVden,hn i hs]at h⊢;exact h
 |rtail b t i=>simp only[SV.sc]at hs;simp only[SVden,hn i hs]at h⊢;exact h
 |agg xs ih=>obtain⟨cs,h1,hp,h2⟩:=h;exact⟨cs,h1,hp,ih hs h2⟩
 |tup xs ih=>obtain⟨cs,h1,hp,h2⟩:=h;exact⟨cs,h1,hp,ih hs h2⟩
 |iface t x ih=>obtain⟨v,h1,h2⟩:=h;exact⟨v,h1,ih hs h2⟩
 |fn f fs xs ih1 ih2=>
  simp only[SV.sc,Bool.and_eq_true]at hs;obtain⟨ds,cs,h1,hp,hq,h2,h3⟩:=h;exact⟨ds,cs,h1,hp,hq,ih1 hs.1 h2,ih2 hs.2 h3⟩
 |cons x xs ih1 ih2=>
  simp only[SV.sc,Bool.and_eq_true]at hs;obtain⟨p,q,h1,h2,h3⟩:=h;exact⟨p,q,h1,ih1 hs.1 h2,ih2 hs.2 h3⟩
 |_=>exact h
theorem A2{n:Nat}(x:SV)(h:x.sc n=true):∀y∈x.list,y.sc n=true:=by
 induction x with
 |cons x y _ ih=>
  intro z hz;simp only[SV.sc,Bool.and_eq_true]at h;simp only[SV.list,List.mem_cons]at hz;rcases hz with rfl|hz
  ·exact h.1
  ·exact ih h.2 z hz
 |_=>intro z hz;simp[SV.list]at hz
theorem MapDen.re{n:Nat}{env':List AV}(hn:Agree n env env'){ks vs:SV}{es:List MapEntry}(hk:ks.sc n=true)(hv:vs.sc n=true)(h:MapDen env κ F w ks vs es):MapDen env' κ F w ks vs es:=by
 obtain⟨h1,h2,h3⟩:=h;refine⟨fun i k v q1 q2=>?_,fun e he=>?_,h3⟩
 ·obtain⟨e,he,d1,d2⟩:=h1 i k v q1 q2
  exact⟨e,he,d1.re hn (A2 ks hk k (List.mem_of_getElem? q1)),d2.re hn (A2 vs hv v (List.mem_of_getElem? q2))⟩
 ·obtain⟨i,k,v,q1,q2,d1,d2⟩:=h2 e he
  exact⟨i,k,v,q1,q2,d1.re hn (A2 ks hk k (List.mem_of_getElem? q1)),d2.re hn (A2 vs hv v (List.mem_of_getElem? q2))⟩
theorem SBden.re{n:Nat}{env':List AV}(hn:Agree n env env'){base b:Nat}{x:SB}(hs:x.sc n=true)(h:SBden env κ F base w b x):SBden env' κ F base w b x:=by
 cases x with
 |cells ty xs=>
  obtain⟨g,cs,h1,h2,h3,h4,h5⟩:=h;exact⟨g,cs,h1,h2,h3,h4.re hn hs,h5⟩
 |row ety t l=>
  obtain⟨us,h1,h2⟩:=h;simp only[SB.sc]at hs;exact⟨us,by rw[hn l hs];exact h1,by rw[hn l hs];exact h2⟩
 |dead l=>
  obtain⟨A,c,h1⟩:=h;simp only[SB.sc]at hs;exact⟨A,c,by rw[hn l hs];exact h1⟩
 |ice ety t l=>
  simp only[SB.sc]at hs;obtain⟨h1,h2⟩:=h;exact⟨by rw[hn l hs];exact h1,by rw[hn l hs];exact h2⟩
 |loop i st p=>
  obtain⟨l,r,h1,h2,h3,h4,h5,h6,h7,h8,h9,h10⟩:=h;exact⟨l,r,h1,h2,h3,h4,h5,h6,h7,h8,h9,fun t=>(h10 t).re hn (Ov.all_spec hs rfl t)⟩
 |map ks vs=>
  simp only[SB.sc,Bool.and_eq_true]at hs;obtain⟨r,es,cl,h1,h2,h3,h4,h5,h6,h7⟩:=h;exact⟨r,es,cl,h1,h2,h3,h4,h5,h6,h7.re hn hs.1 hs.2⟩
def KnownOK(env:List AV)(n:Nat)(known:List (E×Bool)):Prop:=∀x∈known,x.1.sc n=true/\(den env x.1).b=x.2
theorem ul{n:Nat}{known:List (E×Bool)}(h:KnownOK env n known){e:E}{b:Bool}(hl:EF known e=some b):(den env e).b=b:=by
 induction known with
 |nil=>cases hl
 | cons x l ih=>
  obtain⟨y,c⟩:=x;have hl:Bool.rec (motive:=fun _=>Option Bool) (EF l e) (some c) (E.eqb y e)=some b:=hl
  cases hy:E.eqb y e with
  |true=>
   rw[hy]at hl;cases hl
   have:=E.eqb_spec _ _ hy
   subst this;exact(h _ (List.mem_cons_self ..)).2
  |false=>
   rw[hy]at hl;exact ih (fun x hx=>h x (List.mem_cons_of_mem _ hx)) hl
theorem OP{n:Nat}{known:List (E×Bool)}(h:KnownOK env n known){e:E}{m:Int}(hl:LP known e=some m):(den env e).i=m:=by
 induction known with
 |nil=>cases hl
 | cons x l ih=>
  have ih:=ih (fun x hx=>h x (List.mem_cons_of_mem _ hx))
  unfold LP at hl;simp only at hl
  split at hl
  ·rename_i b k
   cases hy:E.eqb b e with
   |true=>
    rw[hy]at hl;cases hl
    have:=E.eqb_spec _ _ hy
    subst this;have:=(h _ (List.mem_cons_self ..)).2
    exact of_decide_eq_true this
   |false=>rw[hy]at hl;exact ih hl
  ·exact ih hl
theorem lD{n:Nat}{known:List (E×Bool)}(h:KnownOK env n known){e:E}{b:Bool}(hl:k9 known e=some b):(den env e).b=b:=by
 induction e generalizing b with
 |bool c=>simp only[k9]at hl;cases hl;rfl
 |not x ih=>
  simp only[k9]at hl;obtain⟨c,hc,rfl⟩:=Option.map_eq_some_iff.1 hl;simp[den,ih hc]
 |and x y ih1 ih2=>
  simp only[k9]at hl;split at hl
  ·rename_i h1 h2;cases hl;simp[den,ih1 h1,ih2 h2]
  ·rename_i h1;cases hl;simp[den,ih1 h1]
  ·rename_i h1 _;cases hl;simp[den,ih2 h1]
  ·exact ul h hl
 | cmp o x y ih1 ih2=>
  unfold k9 at hl;split at hl
  ·rename_i heq;cases heq
  ·rename_i a k heq
   cases heq
   split at hl
   ·rename_i c hc;cases hl;exact ul h hc
   ·obtain⟨m,hm,rfl⟩:=Option.map_eq_some_iff.1 hl
    simp[den,COp.f,OP h hm]
  ·rename_i heq
   cases heq
   split at hl
   ·rename_i he
    cases hl
    rw[E.eqb_spec _ _ he];simp[den,COp.f]
   ·exact ul h hl
  ·rename_i heq;cases heq
  ·rename_i heq;cases heq
  ·exact ul h hl
 |_=>exact ul h hl
theorem gv{n:Nat}{known:List (E×Bool)}(h:KnownOK env n known){e:E}{b:Bool}(hs:e.sc n=true)(hb:(den env e).b=b):KnownOK env n (iD known e b):=by
 have base:∀ {known e b},KnownOK env n known->e.sc n=true->(den env e).b=b->KnownOK env n ((e,b)::known):=fun h hs hb x hx=>by
  rcases List.mem_cons.1 hx with rfl|hx
  ·exact⟨hs,hb⟩
  ·exact h x hx
 induction e generalizing known b with
 |not x ih=>
  simp only[iD];exact ih h hs (by simp only[den,AV.b_bool]at hb;rw[<-hb];simp)
 | and x y ih1 ih2=>
  simp only[E.sc,Bool.and_eq_true]at hs;cases b with
  |true=>
   simp only[iD];simp only[den,AV.b_bool,Bool.and_eq_true]at hb;exact ih2 (ih1 h hs.1 hb.1) hs.2 hb.2
  |false=>exact base h (by simp only[E.sc,Bool.and_eq_true];exact hs) hb
 |_=>cases b<;>exact base h hs hb
theorem KnownOK.ext{n m:Nat}{rs:List AV}{known:List (E×Bool)}(h:KnownOK env n known)(hn:env.length=n)(hm:n<=m):KnownOK (env++rs) m known:=fun x hx=>by
 obtain⟨h1,h2⟩:=h x hx;refine⟨?_,by rw[je hn h1];exact h2⟩
 clear h2
 have key:∀e:E,e.sc n=true->e.sc m=true:=by
  intro e;induction e with
  |v i=>intro h;simp only[E.sc,decide_eq_true_eq]at h⊢;omega
  |ii o x y ih1 ih2=>intro h;simp only[E.sc,Bool.and_eq_true]at h⊢;exact⟨ih1 h.1,ih2 h.2⟩
  |cmp o x y ih1 ih2=>intro h;simp only[E.sc,Bool.and_eq_true]at h⊢;exact⟨ih1 h.1,ih2 h.2⟩
  |beq x y ih1 ih2=>intro h;simp only[E.sc,Bool.and_eq_true]at h⊢;exact⟨ih1 h.1,ih2 h.2⟩
  |and x y ih1 ih2=>intro h;simp only[E.sc,Bool.and_eq_true]at h⊢;exact⟨ih1 h.1,ih2 h.2⟩
  |seq x y ih1 ih2=>intro h;simp only[E.sc,Bool.and_eq_true]at h⊢;exact⟨ih1 h.1,ih2 h.2⟩
  |rcons x y ih1 ih2=>intro h;simp only[E.sc,Bool.and_eq_true]at h⊢;exact⟨ih1 h.1,ih2 h.2⟩
  |snoc x y ih1 ih2=>intro h;simp only[E.sc,Bool.and_eq_true]at h⊢;exact⟨ih1 h.1,ih2 h.2⟩
  |app x y ih1 ih2=>intro h;simp only[E.sc,Bool.and_eq_true]at h⊢;exact⟨ih1 h.1,ih2 h.2⟩
  |take x y ih1 ih2=>intro h;simp only[E.sc,Bool.and_eq_true]at h⊢;exact⟨ih1 h.1,ih2 h.2⟩
  |drop x y ih1 ih2=>intro h;simp only[E.sc,Bool.and_eq_true]at h⊢;exact⟨ih1 h.1,ih2 h.2⟩
  |rep x y ih1 ih2=>intro h;simp only[E.sc,Bool.and_eq_true]at h⊢;exact⟨ih1 h.1,ih2 h.2⟩
  |cpy x y ih1 ih2=>intro h;simp only[E.sc,Bool.and_eq_true]at h⊢;exact⟨ih1 h.1,ih2 h.2⟩
  |not x ih=>intro h;exact ih h
  |len x ih=>intro h;exact ih h
  |slen x ih=>intro h;exact ih h
  |typed t x ih=>intro h;exact ih h
  |co t x ih=>intro h;exact ih h
  |kin t x ih=>intro h;exact ih h
  |kout x ih=>intro h;exact ih h
  |kop o k x y ih1 ih2=>intro h;simp only[E.sc,Bool.and_eq_true]at h⊢;exact⟨ih1 h.1,ih2 h.2⟩
  |kcmp o x y ih1 ih2=>intro h;simp only[E.sc,Bool.and_eq_true]at h⊢;exact⟨ih1 h.1,ih2 h.2⟩
  |cell x y k ih1 ih2=>intro h;simp only[E.sc,Bool.and_eq_true]at h⊢;exact⟨ih1 h.1,ih2 h.2⟩
  |set x y k z ih1 ih2 ih3=>intro h;simp only[E.sc,Bool.and_eq_true]at h⊢;exact⟨⟨ih1 h.1.1,ih2 h.1.2⟩,ih3 h.2⟩
  |_=>intro _;rfl
 exact key _ h1
def im:Nat->List (Nat×Option SB)->Prop
 |_,[]=>True
 |N,x::l=>x.1<=N/\im (max N (x.1+1)) l
def cr:Nat->List (Nat×Option SB)->Nat
 |N,[]=>N
 |N,x::l=>cr (max N (x.1+1)) l
theorem Iz(a b:Nat):mx a b=max a b:=by have:=tJ a b;omega
theorem CP:∀(wr:List (Nat×Option SB)) (N:Nat),N<=cr N wr/\∀x∈wr,x.1<cr N wr
 |[],N=>⟨Nat.le_refl _,fun x hx=>by cases hx⟩
 |y::wr,N=>by
  obtain⟨h1,h2⟩:=CP wr (max N (y.1+1));refine⟨by simp only[cr];omega,fun x hx=>?_⟩
  rcases List.mem_cons.1 hx with rfl|hx
  ·simp only[cr];omega
  ·exact h2 x hx
theorem cx(σ:SS)(wr:List (Nat×Option SB))(hw:im σ.N wr):(σ.write wr).blk=aJ σ.blk wr/\(σ.write wr).N=cr σ.N wr/\(σ.write wr).tmp=σ.tmp/\(σ.write wr).L=σ.L/\(σ.write wr).n=σ.n/\(σ.write wr).known=σ.known/\(σ.write wr).dep=σ.dep:=by
 have key:∀(wr:List (Nat×Option SB)) (h:Ov (Option SB)),im h.len wr->(fun b=>(List.rec (motive:=fun _=>Ov (Option SB)->Ov (Option SB)) (fun h=>h) (fun x _ ih h=>ih (h.set x.1 x.2)) wr h:Ov (Option SB)).get none b)=aJ (fun b=>h.get none b) wr ∧
   (List.rec (motive:=fun _=>Ov (Option SB)->Ov (Option SB)) (fun h=>h) (fun x _ ih h=>ih (h.set x.1 x.2)) wr h:Ov (Option SB)).len=cr h.len wr:=by
  intro wr;induction wr with
  |nil=>intro h _;exact⟨rfl,rfl⟩
  |cons y wr ih=>
   intro h hw;have hl:(h.set y.1 y.2).len=max h.len (y.1+1):=Iz _ _
   obtain⟨h1,h2⟩:=ih (h.set y.1 y.2) (by rw[hl];exact hw.2)
   refine⟨?_,by rw[hl]at h2;exact h2⟩
   refine h1.trans ?_
   show aJ _ wr=aJ (upd (fun b=>h.get none b) y.1 y.2) wr
   congr 1
   funext b
   rw[Ov.get_set (fun i h1 h2=>by have:=hw.1;omega)]
   rfl
 obtain⟨h1,h2⟩:=key wr σ.hp hw;exact⟨h1,h2,rfl,rfl,rfl,rfl,rfl⟩
theorem ej(σ:SS){dst:Option Nat}{v:SV}(hd:∀d,dst=some d->d<σ.L):(σ.put dst v).tmp=eN σ.tmp dst v/\(σ.put dst v).blk=σ.blk/\(σ.put dst v).N=σ.N/\(σ.put dst v).n=σ.n/\(σ.put dst v).known=σ.known/\(σ.put dst v).L=σ.L/\(σ.put dst v).dep=σ.dep:=by
 cases dst with
 |none=>exact⟨rfl,rfl,rfl,rfl,rfl,rfl,rfl⟩
 |some d=>
  refine⟨?_,rfl,rfl,rfl,rfl,rfl,rfl⟩
  funext t
  exact Ov.get_put (hd d rfl) t
theorem ib(σ:SS):σ.ev=ah σ.tmp:=by
 funext x;cases x<;>rfl
theorem eR{σ:SS}{b:Nat}{x:SB}(h:σ.blk b=some x):b<σ.N:=by
 rcases Nat.lt_or_ge b σ.N with h1|h1
 ·exact h1
 ·have:σ.blk b=none:=Ov.get_out h1
  rw[h]at this;cases this
def FR(ro:Option Nat):Fence:={ Fence.wide with round:=ro }
def dL(κ:Nat->Value)(ro:Option Nat):Option Nat:=ro.bind fun b=>ai (κ b)
theorem dP{ro:Option Nat}(h:∀b,ro=some b->κ' b=κ b):dL κ' ro=dL κ ro:=by
 cases ro with
 |none=>rfl
 |some b=>simp only[dL,Option.bind_some,h b rfl]
theorem Fd{ro:Option Nat}{f:Nat}{vs:Array Value}{R:Ending->World->Prop}{n:Nat}(h:Calls P f vs w R):CallsIn (FR ro) n P f vs w R:=callsIn_wide.2 h
theorem mP{ro:Option Nat}{f:Nat}{vs:Array Value}{R:Ending->World->Prop}{n:Nat}(h:CallsIn (FR ro) n P f vs w R):Calls P f vs w R:=callsIn_wide.1 h
theorem uG{ro:Option Nat}{o:Oper}{u:Value}{K:Act->World->Prop}{Q:Exit->Act->World->Prop}(hd:∀c,o.op≠.defer c)(hr:dd P o a w u w')(hK:K (a.put o.dst u) w'):o.wpIn (FR ro) 0 P a w K Q:=by
 refine⟨fun _ _=>trivial,?_⟩
 rw[Oper.semAt_eq _ _ _ hd];rcases hr with hr|⟨rfl,hr⟩<;>rw[hr]<;>exact hK
theorem yZ{ro:Option Nat}{o:Oper}{f:Nat}{vs:Array Value}{R:Ending->World->Prop}{K:Act->World->Prop}{Q:Exit->Act->World->Prop}(hd:∀c,o.op≠.defer c)(hr:(execOp a.eval o).run P w=.ok (.enter f vs) w)(hc:Calls P f vs w R)
  (hR:∀e w',R e w'->∃u,e=.returned u/\K (a.put o.dst u) w'):o.wpIn (FR ro) 0 P a w K Q:=by
 refine⟨fun _ _=>trivial,?_⟩
 rw[Oper.semAt_eq _ _ _ hd,hr,Oper.uponIn_enter];refine⟨fun h=>(by cases h),(Fd hc).mono fun e w' he=>?_⟩
 obtain⟨u,rfl,hK⟩:=hR e w' he;exact hK
def fW(v:Value):List PanicEntry:=[{ v,recovered:=false }]
theorem LY{ro:Option Nat}{o:Oper}{v:Value}{K:Act->World->Prop}{Q:Exit->Act->World->Prop}(hd:∀c,o.op≠.defer c)(hr:(execOp a.eval o).run P w=.halt (.panic v) w')(hQ:Q (.panic (fW v)) a w'):o.wpIn (FR ro) 0 P a w K Q:=by
 refine⟨fun _ _=>trivial,?_⟩
 rw[Oper.semAt_eq _ _ _ hd,hr,Oper.uponIn_panic];exact hQ
theorem L5{ro:Option Nat}{o:Oper}{f:Nat}{vs:Array Value}{R:Ending->World->Prop}{K:Act->World->Prop}{Q:Exit->Act->World->Prop}(hd:∀c,o.op≠.defer c)(hr:(execOp a.eval o).run P w=.ok (.enter f vs) w)(hc:Calls P f vs w R)
  (hR:∀e w',R e w'->∃chain,e=.panicked chain/\Q (.panic chain) a w'):o.wpIn (FR ro) 0 P a w K Q:=by
 refine⟨fun _ _=>trivial,?_⟩
 rw[Oper.semAt_eq _ _ _ hd,hr,Oper.uponIn_enter];refine⟨fun h=>(by cases h),(Fd hc).mono fun e w' he=>?_⟩
 obtain⟨chain,rfl,hQ⟩:=hR e w' he;exact hQ
structure Stp where
 v:SV
 wr:List (Nat×Option SB)
 seen:Seen
def Lt(κ:Nat->Value)(env:List AV)(x:Nat×E):Prop:=0<(den env x.2).i->∃g n c,κ x.1=.slice (some ⟨g,0,none⟩) n c/\(n:Int)=(den env x.2).i
theorem qu(h:Rel w0 env κ F U tmp blk L a w){b e:Nat}{t:Ty}{l:E}(hb:blk b=some (.row e t l)):Lt κ env (b,l.len'):=by
 intro h0;simp only[cP,AV.i_int]at h0⊢;obtain⟨us,hown,hpos,hrow⟩:=h.blks b _ hb;rcases hown.2 with⟨e1,e2⟩|⟨g,cap,cur,e1,_⟩
 ·omega
 ·exact⟨g,_,cap,e1,rfl⟩
structure StepSem (P:Program) (w0:World) (env:List AV) (ro:Option Nat) (L:Nat) (ops:Array Oper) (N N' i:Nat) (s:Stp) (tmp:Nat->SV) (blk:Nat->Option SB):Prop where
 wb:s.seen.wb=s.wr.map (·.1)
 lt:∀b∈s.seen.wb,b<N'
 le:N<=N'
 foot:∀b∈s.seen.wb,b∈s.seen.rb\/N<=b
 all:∀b,N<=b->b<N'->b∈s.seen.wb
 dst:∀d,s.seen.dst=some d->d<L
 run:∀(κ:Nat->Value) (F U:Nat->Prop) (tmp':Nat->SV) (blk':Nat->Option SB) (a:Act) (w:World) (K:Act->World->Prop) (Q:Exit->Act->World->Prop),Rel w0 env κ F U tmp' blk' L a w →
  (∀t∈s.seen.rt,tmp' t=tmp t)->(∀b∈s.seen.rb,blk' b=blk b)->(∀b,N<=b->b<N'->¬U b)->(∀b,ro=some b->U b)->(∀x∈s.seen.rh,Lt κ env x) →
  (∀κ' F' a' w',Rel w0 env κ' F' (fun b=>U b\/(N<=b/\b<N')) (eN tmp' s.seen.dst s.v) (aJ blk' s.wr) L a' w'->Kept U blk' κ F w (aJ blk' s.wr) κ' F' w'->a'.defers=a.defers->K a' w')->wpOpIn (FR (dL κ ro)) 0 P ops Q i K a w
 hdr:∀x∈s.seen.rh,(x.1∈s.seen.fb/\s.seen.rb=[]/\s.seen.wb=[])/\∃e t l,blk x.1=some (.row e t l)/\l.len'=x.2
theorem StepSem.fix{ro:Option Nat}{ops:Array Oper}{N N' i:Nat}{s:Stp}(h:StepSem P w0 env ro L ops N N' i s tmp blk)(h0:Ov (Option SB)):
  StepSem P w0 env ro L ops N N' i { s with seen:=s.seen.fix h0 } tmp blk:=by
 unfold Seen.fix;split
 ·exact h
 ·rename_i hk
  have hr:s.seen.rh≠[]:=fun hr=>hk (by unfold mY;simp[hr])
  obtain⟨y,ys,hy⟩:=List.exists_cons_of_ne_nil hr;obtain⟨⟨_,hb,hw⟩,_⟩:=h.hdr y (by rw[hy];exact List.mem_cons_self ..)
  refine⟨h.wb,h.lt,h.le,fun b hb'=>?_,h.all,h.dst,fun κ F U tmp' blk' a w K Q q1 q2 q3 q4 q5 _ q6=>?_,fun x hx=>(by cases hx)⟩
  ·have hb':b∈s.seen.wb:=hb'
   rw[hw]at hb';cases hb'
  ·refine h.run κ F U tmp' blk' a w K Q q1 q2 (fun b hb'=>?_) q4 q5 (fun x hx=>?_) q6
   ·rw[hb]at hb';cases hb'
   ·obtain⟨⟨hx1,_⟩,e,t,l,hx2,hx3⟩:=h.hdr x hx
    have:=qu q1 ((q3 x.1 hx1).trans hx2)
    rw[hx3]at this;exact this
def qi(P:Program)(w0:World)(env:List AV)(ro:Option Nat)(L:Nat)(ops:Array Oper)(N N' i:Nat)(v:Value)(tmp:Nat->SV)(blk blk':Nat->Option SB):Prop:=
 ∀(κ:Nat->Value) (F U:Nat->Prop) (a:Act) (w:World) (K:Act->World->Prop) (Q:Exit->Act->World->Prop),Rel w0 env κ F U tmp blk L a w->(∀b,N<=b->b<N'->¬U b)->(∀b,ro=some b->U b) →
  (∀κ' F' w',Rel w0 env κ' F' (fun b=>U b\/(N<=b/\b<N')) tmp blk' L a w'->Kept U blk κ F w blk' κ' F' w'->Q (.panic (fW v)) a w')->wpOpIn (FR (dL κ ro)) 0 P ops Q i K a w
inductive Chain (P:Program) (w0:World) (env:List AV) (ro:Option Nat) (L:Nat) (ops:Array Oper):Nat->Nat->(Nat->SV)->(Nat->Option SB)->List Stp->Nat->(Nat->SV)->(Nat->Option SB)->Prop
 |nil (N i:Nat) (tmp:Nat->SV) (blk:Nat->Option SB):Chain P w0 env ro L ops N i tmp blk [] N tmp blk
 |cons {N N' N'' i:Nat} {tmp tmp'':Nat->SV} {blk blk'':Nat->Option SB} {s:Stp} {ss:List Stp} (h:StepSem P w0 env ro L ops N N' i s tmp blk) (r:Chain P w0 env ro L ops N' (i+1) (eN tmp s.seen.dst s.v) (aJ blk s.wr) ss N'' tmp'' blk''):
  Chain P w0 env ro L ops N i tmp blk (s::ss) N'' tmp'' blk''
theorem Chain.le{ro:Option Nat}{ops:Array Oper}{N i N'':Nat}{tmp tmp'':Nat->SV}{blk blk'':Nat->Option SB}{ss:List Stp}(h:Chain P w0 env ro L ops N i tmp blk ss N'' tmp'' blk''):N<=N'':=by
 induction h with
 |nil=>exact Nat.le_refl _
 |cons h _ ih=>exact Nat.le_trans h.le ih
theorem Chain.ops{ro:Option Nat}{ops:Array Oper}{N i N'':Nat}{tmp tmp'':Nat->SV}{blk blk'':Nat->Option SB}{ss:List Stp}(h:Chain P w0 env ro L ops N i tmp blk ss N'' tmp'' blk''):
  ∀ {κ:Nat->Value} {F U:Nat->Prop} {a:Act} {w:World} {Q:Exit->Act->World->Prop},Rel w0 env κ F U tmp blk L a w->(∀b,N<=b->b<N''->¬U b)->(∀b,ro=some b->U b) →
   (∀κ' F' a' w',Rel w0 env κ' F' (fun b=>U b\/(N<=b/\b<N'')) tmp'' blk'' L a' w'->Kept U blk κ F w blk'' κ' F' w'->a'.defers=a.defers->Q .normal a' w')->wpOpsIn (FR (dL κ ro)) 0 P ops Q (List.range' i ss.length) a w:=by
 induction h with
 |nil N i tmp blk=>intro κ F U a w Q hr _ _ hQ;exact hQ _ _ _ _ (hr.monoU (fun b hb=>.inl hb)) Kept.refl rfl
 | cons h r ih=>
  rename_i N N' N'' i tmp tmp'' blk blk'' s ss
  intro κ F U a w Q hr hU hro hQ;have hle:=h.le;have hle2:=r.le;rw[List.length_cons,List.range'_succ,wpOpsIn_cons];refine h.run κ F U tmp blk a w _ Q hr (fun _ _=>rfl) (fun _ _=>rfl) (fun b h1 h2=>hU b h1 (by omega)) hro (fun x hx=>by
   obtain⟨_,e,t,l,h1,h2⟩:=h.hdr x hx;have:=qu hr h1
   rw[h2]at this;exact this) (fun κ' F' a' w' hr' k' hd'=>?_)
  rw[<-dP (κ:=κ) (κ':=κ') (ro:=ro) (fun b hb=>k'.kap b (hro b hb))]
  refine ih hr' (fun b h1 h2 hb=>?_) (fun b hb=>.inl (hro b hb)) (fun κ2 F2 a2 w2 h2 k2 d2=>hQ κ2 F2 a2 w2 (h2.monoU (fun b hb=>?_)) (k'.trans k2 (fun b hb=>.inl hb)) (d2.trans hd'))
  ·rcases hb with hb|hb
   ·exact hU b (by omega) h2 hb
   ·omega
  ·rcases hb with(hb|hb)|hb
   ·exact .inl hb
   ·exact .inr ⟨hb.1,by omega⟩
   ·exact .inr ⟨by omega,hb.2⟩
theorem xQ{σ:SS}{o:Oper}{v:SV}{wr:List (Nat×Option SB)}(h:Az σ o v wr=true)(hU:∀x∈o.op.operands,∀b∈(σ.ev x).names,U b)(hB:∀x∈o.op.operands,∀b∈(σ.ev x).names,∀y,σ.blk b=some y->∀c∈y.names,U c):
  (∀b∈v.names,U b\/b∈wr.map (·.1))/\∀x∈wr,((x.1∈bh σ.ev o/\U x.1/\x.1<σ.N)\/x.1=σ.N)/\oG x.2=true:=by
 have hft:∀b∈bh σ.ev o,U b:=fun b hb=>by
  unfold bh at hb;obtain⟨x,hx,hb⟩:=List.mem_flatMap.1 hb;exact hU x (by simpa using hx) b hb
 unfold Az at h;simp only[Bool.and_eq_true,List.all_eq_true]at h;obtain⟨h1,h2⟩:=h;refine⟨fun b hb=>?_,fun x hx=>?_⟩
 ·have:=h1 b hb
  simp only[List.contains_eq_mem,List.mem_append,decide_eq_true_eq]at this;rcases this with(h3|h3)|h3
  ·exact .inl (hft b h3)
  ·obtain⟨c,hc,hb⟩:=List.mem_flatMap.1 h3
   unfold bh at hc;obtain⟨x,hx,hc⟩:=List.mem_flatMap.1 hc;split at hb
   ·rename_i y hy
    exact .inl (hB x (by simpa using hx) c hc y hy b hb)
   ·cases hb
  ·exact .inr h3
 ·obtain⟨⟨h3,h4⟩,_⟩:=h2 x hx
  simp only[Bool.or_eq_true,Bool.and_eq_true,List.contains_eq_mem,decide_eq_true_eq,beq_iff_eq]at h3;refine⟨?_,h4⟩
  rcases h3 with h3|h3
  ·exact .inl ⟨h3.1,hft _ h3.1,h3.2⟩
  ·exact .inr h3
def bX(ops:Array Oper)(o:Oper)(tmp:Nat->SV)(env:List AV)(b:Bool):Prop:=
 match o.guard with
 |none=>b=true
 |some (j,want)=>∃d,(ops[j]?).bind (·.dst)=some d/\((∃e,tmp d=.vb e/\b=decide ((den env e).b=want))\/(tmp d=.nil/\b=false))
theorem eF{ops:Array Oper}{o:Oper}{b:Bool}(h:Rel w0 env κ F U tmp blk L a w){tmp₀:Nat->SV}(hw:bX ops o tmp₀ env b)(ht:∀t∈bf ops o,tmp t=tmp₀ t):Region.wanted o (yielded ops a.tmps)=b:=by
 unfold bX at hw;unfold Region.wanted;split at hw
 ·rename_i hg;rw[hg];exact hw.symm
 ·rename_i j want hg
  obtain⟨d,h1,⟨e,h2,rfl⟩|⟨h2,rfl⟩⟩:=hw
  rotate_left
  ·rw[hg]
   have h3:tmp d=.nil:=by rw[ht d (by unfold bf;rw[hg];refine List.mem_append_right _ ?_;simp only[h1];simp),h2]
   have h4:=h.tmps d;rw[h3]at h4;have h5:∀c,a.tmps[d]?≠some (.bool c):=fun c hc=>by
    have h6:a.tmps.getD d undef=_:=h4
    obtain⟨hlt,h7⟩:=Array.getElem?_eq_some_iff.1 hc;simp[Array.getD,hlt,h7]at h6
   have h7:yielded ops a.tmps j=none:=by
    unfold yielded;rw[h1];show(match a.tmps[d]? with|some (.bool b)=>some b|_=>none)=none
    cases hq:a.tmps[d]? with
    |none=>rfl
    |some v=>
     cases v with
     |bool c=>exact absurd hq (h5 c)
     |_=>rfl
   show(yielded ops a.tmps j==some want)=false
   rw[h7];rfl
  rw[hg];have h3:tmp d=.vb e:=by rw[ht d (by unfold bf;rw[hg];refine List.mem_append_right _ ?_;simp only[h1];simp),h2]
  have h4:=h.tmps d;rw[h3]at h4;have h5:a.tmps[d]?=some (.bool (den env e).b):=by
   have h6:=h4.1;unfold Array.getD at h6;split at h6
   ·rename_i hlt
    rw[Array.getElem?_eq_getElem hlt];congr 1
   ·cases h6
  simp only[yielded,h1,Option.bind_some,h5];cases(den env e).b<;>cases want<;>rfl
theorem eE{ops:Array Oper}{o:Oper}{tmp₀:Nat->SV}(ht:∀t∈bf ops o,tmp t=tmp₀ t):∀x∈o.op.operands,ah tmp x=ah tmp₀ x:=by
 intro x hx;cases x with
 |tmp t=>exact ht t (by unfold bf;refine List.mem_append_left _ (List.mem_filterMap.2 ⟨.tmp t,by simpa using hx,rfl⟩))
 |_=>rfl
theorem eM{con:Nat->Bool}{own:Bool}{tr:E->Option Bool}{nm:Nat}{ev:Operand->SV}{bk:Nat->Option SB}{o:Oper}{x:Out}(h:cV P con own tr nm ev bk o=x)(hx:∀m,x≠.no m):∀c,o.op≠.defer c:=fun c hc=>by
 subst h;have e:eZ P own nm ev bk o=none:=by unfold eZ;rw[hc]
 unfold cV at hx;rw[e]at hx;unfold gd at hx;rw[hc]at hx;exact hx _ rfl
theorem Chain.opsP{ro:Option Nat}{ops:Array Oper}{N i N'' N3:Nat}{tmp tmp'':Nat->SV}{blk blk'' blk3:Nat->Option SB}{ss:List Stp}{v:Value}(h:Chain P w0 env ro L ops N i tmp blk ss N'' tmp'' blk'')(hp:qi P w0 env ro L ops N'' N3 (i+ss.length) v tmp'' blk'' blk3)(hN3:N''<=N3):
  ∀ {κ:Nat->Value} {F U:Nat->Prop} {a:Act} {w:World} {Q:Exit->Act->World->Prop},Rel w0 env κ F U tmp blk L a w->(∀b,N<=b->b<N3->¬U b)->(∀b,ro=some b->U b) →
   (∀κ' F' a' w',Rel w0 env κ' F' (fun b=>U b\/(N<=b/\b<N3)) tmp'' blk3 L a' w'->Kept U blk κ F w blk3 κ' F' w'->a'.defers=a.defers->Q (.panic (fW v)) a' w')->∀rest,wpOpsIn (FR (dL κ ro)) 0 P ops Q (List.range' i (ss.length+1+rest)) a w:=by
 induction h with
 |nil N i tmp blk=>
  intro κ F U a w Q hr hU hro hQ rest;rw[show([]:List Stp).length+1+rest=rest+1 by simp;omega,List.range'_succ,wpOpsIn_cons]
  exact hp κ F U a w _ Q hr hU hro (fun κ' F' w' r k=>hQ κ' F' a w' r k rfl)
 | cons h r ih=>
  rename_i N N' N'' i tmp tmp'' blk blk'' s ss
  intro κ F U a w Q hr hU hro hQ rest;have hle:=h.le;have hle2:=r.le;rw[show(s::ss).length+1+rest=(ss.length+1+rest)+1 by simp;omega,List.range'_succ,wpOpsIn_cons]
  refine h.run κ F U tmp blk a w _ Q hr (fun _ _=>rfl) (fun _ _=>rfl) (fun b h1 h2=>hU b h1 (by omega)) hro (fun x hx=>by
   obtain⟨_,e,t,l,h1,h2⟩:=h.hdr x hx;have:=qu hr h1
   rw[h2]at this;exact this) (fun κ' F' a' w' hr' k' hd'=>?_)
  rw[<-dP (κ:=κ) (κ':=κ') (ro:=ro) (fun b hb=>k'.kap b (hro b hb))]
  refine ih (by rw[show i+1+ss.length=i+(s::ss).length by simp;omega];exact hp) hN3 hr' (fun b h1 h2 hb=>?_) (fun b hb=>.inl (hro b hb)) (fun κ2 F2 a2 w2 h2 k2 d2=>hQ κ2 F2 a2 w2 (h2.monoU (fun b hb=>?_)) (k'.trans k2 (fun b hb=>.inl hb)) (d2.trans hd')) rest
  ·rcases hb with hb|hb
   ·exact hU b (by omega) h2 hb
   ·omega
  ·rcases hb with(hb|hb)|hb
   ·exact .inl hb
   ·exact .inr ⟨hb.1,by omega⟩
   ·exact .inr ⟨by omega,hb.2⟩
theorem Pz{cons:Nat->Bool}{own:Bool}{ro:Option Nat}{ops:Array Oper}{i:Nat}{o:Oper}(ho:ops[i]?=some o){σ σ₁:SS}{n:Nat}(hk:KnownOK env n σ₁.known){needs:List E}{v:SV}{wr:List (Nat×Option SB)}(hc:cV P cons own σ₁.tr σ.N σ.ev σ.blk o=.ok needs v wr)
  (hn:∀e∈needs,(den env e).b=true) (hok:Az σ o v wr=true) (hd:∀d,o.dst=some d->d<σ.L) (hw:bX ops o σ.tmp env true):
  im σ.N (fj σ.N wr)/\StepSem P w0 env ro σ.L ops σ.N (cr σ.N (fj σ.N wr)) i ⟨v,fj σ.N wr,{ rt:=bf ops o,rb:=bh σ.ev o,dst:=o.dst,wb:=(fj σ.N wr).map (·.1) }⟩ σ.tmp σ.blk:=by
 obtain⟨_,o2⟩:=xQ (U:=fun _=>True) hok (fun _ _ _ _=>trivial) (fun _ _ _ _ _ _ _ _=>trivial)
 have key:∀(wr:List (Nat×Option SB)),(∀x∈wr,x.1<=σ.N)->im (σ.N+1) wr/\cr (σ.N+1) wr=σ.N+1:=by
  intro wr;induction wr with
  |nil=>intro _;exact⟨trivial,rfl⟩
  |cons x wr ih=>
   intro h;have hx:=h x (List.mem_cons_self ..);have e:max (σ.N+1) (x.1+1)=σ.N+1:=by omega
   obtain⟨h1,h2⟩:=ih (fun y hy=>h y (List.mem_cons_of_mem _ hy))
   exact⟨⟨by omega,by rw[e];exact h1⟩,by simp only[cr,e];exact h2⟩
 have hle:∀x∈wr,x.1<=σ.N:=fun x hx=>by rcases(o2 x hx).1 with h|h<;>omega
 obtain⟨k1,k2⟩:=key wr hle;have hpad:im σ.N (fj σ.N wr)/\(wr≠[]->cr σ.N (fj σ.N wr)=σ.N+1)/\(wr=[]->cr σ.N (fj σ.N wr)=σ.N)/\(∀x∈fj σ.N wr,x∈wr\/x=(σ.N,none)):=by
  cases wr with
  |nil=>exact⟨trivial,fun h=>absurd rfl h,fun _=>rfl,fun x hx=>by cases hx⟩
  | cons y wr=>
   have e:max σ.N (σ.N+1)=σ.N+1:=by omega
   refine⟨⟨Nat.le_refl _,?_⟩,fun _=>?_,(fun h=>by cases h),fun x hx=>?_⟩
   ·show im (max σ.N (σ.N+1)) _
    rw[e];exact k1
   ·show cr (max σ.N (σ.N+1)) _=_
    rw[e];exact k2
   ·rcases List.mem_cons.1 hx with hx|hx
    ·exact .inr hx
    ·exact .inl hx
 obtain⟨p1,p2,p3,p4⟩:=hpad;obtain⟨w2,w3⟩:=CP (fj σ.N wr) σ.N;refine⟨p1,rfl,fun b hb=>?_,w2,fun b hb=>?_,fun b h1 h2=>?_,hd,fun κ F U tmp' blk' a w K Q h ht hb hf hro _ hK=>?_,fun x hx=>(by cases hx)⟩
 ·obtain⟨x,hx,rfl⟩:=List.mem_map.1 hb
  exact w3 x hx
 ·obtain⟨x,hx,rfl⟩:=List.mem_map.1 hb
  rcases p4 x hx with h1|h1
  ·rcases(o2 x h1).1 with h2|h2
   ·exact .inl h2.1
   ·exact .inr (by omega)
  ·rw[h1];exact .inr (Nat.le_refl _)
 ·by_cases hne:wr=[]
  ·rw[p3 hne]at h2;omega
  ·rw[p2 hne]at h2
   have:b=σ.N:=by omega
   subst this;cases wr with
   |nil=>exact absurd rfl hne
   |cons y wr=>exact List.mem_cons_self ..
 ·have hev:∀x∈o.op.operands,ah tmp' x=σ.ev x:=fun x hx=>by rw[ib];exact eE ht x hx
  have hbk:∀x∈o.op.operands,∀b∈(σ.ev x).names,blk' b=σ.blk b:=fun x hx b hb'=>hb b (by unfold bh;exact List.mem_flatMap.2 ⟨x,by simpa using hx,hb'⟩)
  have hc':cV P cons own σ₁.tr σ.N (ah tmp') blk' o=.ok needs v wr:=by rw[kq hev hbk];exact hc
  have hU:wr≠[]->¬U σ.N:=fun hne=>hf _ (Nat.le_refl _) (by rw[p2 hne];omega)
  obtain⟨u,w',κ',F',hr,hrel,hv,kp⟩:=Mv h (fun e b hb=>lD hk hb) hU hc' hn
  obtain⟨q1,q2⟩:=xQ (U:=U) hok (fun x hx b hb=>by rw[<-hev x hx]at hb;exact h.evNames x b hb) (fun x hx b hb' y hy c hc=>by
   rw[<-hbk x hx b hb']at hy;exact(h.bnames b y hy).2 c hc)
  have hUN:∀b,(U b\/∃x∈wr,x.1=b)->(U b\/(σ.N<=b/\b<cr σ.N (fj σ.N wr))):=fun b hb=>by
   rcases hb with hb|⟨x,hx,rfl⟩
   ·exact .inl hb
   ·rcases(q2 x hx).1 with h1|h1
    ·exact .inl h1.2.1
    ·refine .inr ⟨by omega,?_⟩
     rw[p2 (fun e=>by rw[e]at hx;cases hx)];omega
  have hput:=hrel.put (dst:=o.dst) (v:=v) (u:=u) hd hv (fun b hb'=>by
   rcases q1 b hb' with h1|h1
   ·exact .inl h1
   ·obtain⟨x,hx,rfl⟩:=List.mem_map.1 h1
    exact .inr ⟨x,hx,rfl⟩)
  have hsame:aJ blk' (fj σ.N wr)=aJ blk' wr:=by
   cases wr with
   |nil=>rfl
   | cons y wr=>
    have:upd blk' σ.N none=blk':=by
     funext b
     by_cases e:b=σ.N
     ·subst e
      rw[ao];cases hh:blk' σ.N with
      |none=>rfl
      |some y=>exact absurd (h.bnames _ y hh).1 (hU (by simp))
     ·rw[ab e]
    show aJ (upd blk' σ.N none) _=_
    rw[this]
  have hgo:=hK κ' F' (a.put o.dst u) w' (by rw[hsame];exact hput.monoU hUN) (by rw[hsame];exact kp) (by cases o.dst<;>rfl)
  unfold wpOpIn;rw[ho];simp only
  rw[if_pos (eF h hw ht)];exact uG (eM hc' (fun m hm=>by cases hm)) hr hgo
theorem MH{cons:Nat->Bool}{own:Bool}{ro:Option Nat}{ops:Array Oper}{i:Nat}{o:Oper}(ho:ops[i]?=some o){σ σ₁:SS}{needs:List E}{v:SV}{wr:List (Nat×Option SB)}{rh:List (Nat×E)}(hc:cV P cons own σ₁.tr σ.N σ.ev σ.blk o=.ok needs v wr)
  (hn:∀e∈needs,(den env e).b=true) (hl:D7 σ o v wr=some rh) (hd:∀d,o.dst=some d->d<σ.L) (hw:bX ops o σ.tmp env true):
  wr=[]/\StepSem P w0 env ro σ.L ops σ.N σ.N i ⟨v,[],{ rt:=bf ops o,rb:=[],dst:=o.dst,wb:=[],rh:=rh,fb:=bh σ.ev o }⟩ σ.tmp σ.blk:=by
 unfold D7 at hl;split at hl
 rotate_left
 ·cases hl
 refine⟨rfl,?_⟩
 split at hl
 ·
  rename_i x hop
  split at hl
  ·rename_i b c hx
   split at hl
   ·rename_i hbc
    cases hl
    have hbc:b=c:=Nat.eq_of_beq_eq_true hbc
    subst hbc;refine⟨rfl,fun b hb=>(by cases hb),Nat.le_refl _,fun b hb=>(by cases hb),fun b h1 h2=>(by omega),hd,fun κ F U tmp' blk' a w K Q h ht hb hf hro _ hK=>?_,fun x hx=>(by cases hx)⟩
    have hev:=eE ht x (by rw[hop];simp[Op.operands])
    rw[<-ib,hx]at hev;have hv:=h.ev x;have hnm:=h.evNames x;rw[hev]at hv hnm;have hput:=h.put (dst:=o.dst) (v:=.row b) (u:=a.eval x) hd hv hnm;have hgo:=hK κ F (a.put o.dst (a.eval x)) w (hput.monoU fun b hb=>.inl hb) Kept.refl (by cases o.dst<;>rfl)
    unfold wpOpIn;rw[ho];simp only
    rw[if_pos (eF h hw ht)];exact uG (eM hc (fun m hm=>by cases hm)) (.inl (by simp[execOp,hop])) hgo
   ·cases hl
  ·cases hl
 ·
  rename_i t x ix hop
  split at hl
  ·rename_i b c ty i' k hx
   have hxx:=hx;split at hl
   ·rename_i e ty' l hb
    split at hl
    ·rename_i hbc
     cases hl
     have hbc:b=c:=Nat.eq_of_beq_eq_true hbc
     subst hbc;have hfz:bb σ.blk (frz P cons own σ.ev σ.blk o)=[]:=by unfold frz;rw[hop];rfl
     have hnod:=eM hc (fun m hm=>by cases hm)
     have hc0:∃wr0,gd P cons σ₁.tr σ.N (fun x=>nz σ.blk (σ.ev x)) σ.blk o=.ok needs (.rptr b ty i' k) wr0:=by
      have hfo:eZ P own σ.N σ.ev σ.blk o=none:=by unfold eZ;rw[hop]
      unfold cV at hc;rw[hfo]at hc;simp only[hfz,aJ,List.foldl_nil]at hc;split at hc
      ·rename_i h0
       simp only[Out.ok.injEq]at hc;obtain⟨rfl,rfl,_⟩:=hc;exact⟨_,h0⟩
      ·cases hc
      ·exact⟨_,hc⟩
     clear hc
     obtain⟨wr0,hc⟩:=hc0;unfold gd at hc;rw[hop]at hc;simp only[hx,nz,hb]at hc;unfold fV at hc;split at hc
     rotate_left
     ·cases hc
     rename_i j hj
     have hj':σ.ev ix=.vi j:=by
      cases hh:σ.ev ix with
      |row q=>
       rw[hh]at hj;simp only[nz]at hj;split at hj<;>cases hj
      |_=>rw[hh]at hj;simp only[nz]at hj<;>first|exact hj|cases hj
     obtain⟨et,hu⟩:∃et,P.underlying t=some (.slice et):=by
      cases hu:P.underlying t with
      |none=>rw[hu]at hc;cases hc
      |some d=>cases d with
       |slice et=>exact⟨et,rfl⟩
       |_=>rw[hu]at hc;cases hc
     rw[hu]at hc;simp only[hb]at hc;split at hc
     ·rename_i e2 ty2 l2 et2 r2 hh1 hh2
      cases hh1
      split at hc
      ·rename_i hr2
       subst hr2;simp only[Out.ok.injEq,SV.rptr.injEq]at hc;obtain⟨rfl,⟨-,rfl,rfl,rfl⟩,-⟩:=hc;refine⟨rfl,fun b hb=>(by cases hb),Nat.le_refl _,fun b hb=>(by cases hb),fun b h1 h2=>(by omega),hd,fun κ F U tmp' blk' a w K Q h ht hb' hf hro hsl hK=>?_,fun z hz=>?_⟩
       ·have ex:=eE ht x (by rw[hop];simp[Op.operands])
        have ei:=eE ht ix (by rw[hop];simp[Op.operands])
        rw[<-ib,hx]at ex;rw[<-ib,hj']at ei;have vx:=h.ev x;have vi:=h.ev ix;have hnm:=h.evNames x;rw[ex]at vx hnm;rw[ei]at vi;have n1:=cZ (bo fun e he=>hn e (List.mem_append_left _ he))
        have n2:=cZ (bo fun e he=>hn e (List.mem_append_right _ he))
        have n1:0<=(den env j).i:=of_decide_eq_true n1
        have n2:(den env j).i<(den env l.len').i:=of_decide_eq_true n2
        obtain⟨g,m,cp,s1,s2⟩:=hsl _ (List.mem_singleton.2 rfl) (by show 0<(den env l.len').i;omega)
        have s2:(m:Int)=(den env l.len').i:=s2
        obtain⟨u1,u2,u3,_,u5,_,_⟩:=bS hh2;have hlt:(den env j).i<(m:Int):=by omega
        have hsz:=cG (w:=w) u5;have vx1:a.eval x=.slice (some ⟨g,0,none⟩) m cp:=vx.1.trans s1
        have run:dd P o a w (.pointer (some ((⟨g,0,none⟩:Addr).add ((den env j).i.toNat*r2.len)))) w:=.inl (by
         simp only[execOp,hop,vx1,vi.1,Instr.indexAt,asIntOf,run_underlying u1,Sem.run_bind,Sem.run_pure,Result.andThen_ok];simp[n1,hlt,hsz,u2])
        have hput:=h.put (dst:=o.dst) (v:=.rptr b r2 j 0) (u:=.pointer (some ((⟨g,0,none⟩:Addr).add ((den env j).i.toNat*r2.len)))) hd ⟨g,m,cp,s1,n1,hlt,rfl⟩ (fun c hc=>hnm c hc)
        have hgo:=hK κ F _ w (hput.monoU fun b hb=>.inl hb) Kept.refl (by cases o.dst<;>rfl)
        unfold wpOpIn;rw[ho];simp only
        rw[if_pos (eF h hw ht)];refine uG (fun c hc=>?_) run hgo
        rw[hop]at hc;cases hc
       ·rw[List.mem_singleton.1 hz]
        refine⟨⟨?_,rfl,rfl⟩,_,_,_,hb,rfl⟩
        unfold bh;rw[hop];exact List.mem_flatMap.2 ⟨x,by simp[Op.operands],by rw[hxx];simp[SV.names]⟩
      ·cases hc
     ·cases hc
    ·cases hl
   ·cases hl
  ·cases hl
 ·cases hl
theorem MO{ro:Option Nat}{ops:Array Oper}{i:Nat}{o:Oper}(ho:ops[i]?=some o){σ:SS}(hd:∀d,o.dst=some d->d<σ.L)(hw:bX ops o σ.tmp env false):
  StepSem P w0 env ro σ.L ops σ.N σ.N i ⟨.nil,[],{ rt:=bf ops o,rb:=[],dst:=o.dst,wb:=[] }⟩ σ.tmp σ.blk:=by
 refine⟨rfl,fun b hb=>(by cases hb),Nat.le_refl _,fun b hb=>(by cases hb),fun b h1 h2=>(by omega),hd,fun κ F U tmp' blk' a w K Q h ht hb hf hro _ hK=>?_,fun x hx=>(by cases hx)⟩
 unfold wpOpIn;rw[ho];simp only
 rw[if_neg (by rw[eF h hw ht];simp)]
 exact⟨fun _ _=>trivial,hK κ F _ w ((h.put (dst:=o.dst) (v:=.nil) (u:=undef) hd rfl (fun b hb=>by cases hb)).monoU (fun b hb=>.inl hb)) Kept.refl (by cases o.dst<;>rfl)⟩
theorem Kr:∀(sh:RS) (n m:Nat),(mkRes sh n m).2.map (·.1)=List.range' m (mkRes.RS.cnt sh).2/\∀b∈(mkRes sh n m).1.names,m<=b/\b<m+(mkRes.RS.cnt sh).2:=by
 intro sh;induction sh with
 |i=>intro n m;exact⟨rfl,fun b hb=>(by cases hb)⟩
 |b=>intro n m;exact⟨rfl,fun b hb=>(by cases hb)⟩
 |r=>intro n m;exact⟨rfl,fun b hb=>(by cases hb)⟩
 | row e t=>
  intro n m;by_cases hg:given e=true
  ·simp only[mkRes,mkRes.RS.cnt,if_pos hg]
   exact⟨rfl,fun b hb=>by cases hb⟩
  ·simp only[mkRes,mkRes.RS.cnt,if_neg hg]
   exact⟨rfl,fun b hb=>by simp[SV.names]at hb;subst hb;simp⟩
 |nil=>intro n m;exact⟨rfl,fun b hb=>(by cases hb)⟩
 | cons x y ih1 ih2=>
  intro n m;obtain⟨a1,a2⟩:=ih1 n m;obtain⟨c1,c2⟩:=ih2 (n+(mkRes.RS.cnt x).1) (m+(mkRes.RS.cnt x).2);refine⟨?_,fun b hb=>?_⟩
  ·simp only[mkRes,List.map_append,a1,c1,mkRes.RS.cnt]
   rw[List.range'_append_1]
  ·simp only[mkRes,SV.names,List.mem_append]at hb
   simp only[mkRes.RS.cnt];rcases hb with hb|hb
   ·have:=a2 b hb;omega
   ·have:=c2 b hb;omega
 |agg x ih=>intro n m;exact ih n m
 |tup x ih=>intro n m;exact ih n m
theorem Jl:∀(l:List (Nat×Option SB)) (N c:Nat),l.map (·.1)=List.range' N c->im N l/\cr N l=N+c
 |[],N,c,h=>by
  cases c with
  |zero=>exact⟨trivial,rfl⟩
  |succ c=>simp[List.range'_succ]at h
 | x::l,N,c,h=>by
  cases c with
  |zero=>simp at h
  |succ c=>
   rw[List.range'_succ]at h;simp only[List.map_cons,List.cons.injEq]at h;obtain⟨h1,h2⟩:=Jl l (N+1) c h.2;have e:max N (x.1+1)=N+1:=by omega
   refine⟨⟨by omega,by rw[e];exact h1⟩,?_⟩
   simp only[cr,e,h2];omega
theorem Jp:∀(l m:List (Nat×Option SB)) (N:Nat),(∀x∈l,x.1<N)->im N m->im N (l++m)/\cr N (l++m)=cr N m
 |[],m,N,_,h=>⟨h,rfl⟩
 |x::l,m,N,hl,h=>by
  have hx:=hl x (List.mem_cons_self ..);have e:max N (x.1+1)=N:=by omega
  obtain⟨h1,h2⟩:=Jp l m N (fun y hy=>hl y (List.mem_cons_of_mem _ hy)) h
  exact⟨⟨by omega,by rw[e];exact h1⟩,by simp only[List.cons_append,cr,e];exact h2⟩
theorem ML{cons:Nat->Bool}{own:Bool}{ro:Option Nat}(hfit:PFit P){ops:Array Oper}{i:Nat}{o:Oper}(ho:ops[i]?=some o){σ σ₁:SS}{f:Nat}{args:E}{sh:RS}{wr:List (Nat×Option SB)}(hc:cV P cons own σ₁.tr σ.N σ.ev σ.blk o=.call f args sh wr){r:R}(hr:r.shape=sh)(hcon:Con P f (den env args).g r)
  {n:Nat} (henv:∀(j:Nat) x,r.leaves[j]?=some x->env[n+j]?=some x) (hd:∀d,o.dst=some d->d<σ.L) (hwr:∀x∈wr,x.1∈bh σ.ev o/\x.1<σ.N) (hw:bX ops o σ.tmp env true):
  im σ.N (wr++(mkRes sh n σ.N).2)/\StepSem P w0 env ro σ.L ops σ.N (cr σ.N (wr++(mkRes sh n σ.N).2)) i ⟨(mkRes sh n σ.N).1,wr++(mkRes sh n σ.N).2,{ rt:=bf ops o,rb:=bh σ.ev o,dst:=o.dst,wb:=(wr++(mkRes sh n σ.N).2).map (·.1) }⟩ σ.tmp σ.blk:=by
 obtain⟨n1,n2⟩:=Kr sh n σ.N;obtain⟨r1,r2⟩:=Jl _ _ _ n1;obtain⟨l1,l2⟩:=Jp wr (mkRes sh n σ.N).2 σ.N (fun x hx=>(hwr x hx).2) r1
 obtain⟨w2,w3⟩:=CP (wr++(mkRes sh n σ.N).2) σ.N;have hN:cr σ.N (wr++(mkRes sh n σ.N).2)=σ.N+(mkRes.RS.cnt sh).2:=l2.trans r2
 have hmem:∀x∈(mkRes sh n σ.N).2,σ.N<=x.1/\x.1<σ.N+(mkRes.RS.cnt sh).2:=fun x hx=>by
  have:x.1∈(mkRes sh n σ.N).2.map (·.1):=List.mem_map.2 ⟨x,hx,rfl⟩
  rw[n1,List.mem_range'_1]at this;exact this
 refine⟨l1,rfl,fun b hb=>?_,w2,fun b hb=>?_,fun b h1 h2=>?_,hd,fun κ F U tmp' blk' a w K Q h ht hb hf hro _ hK=>?_,fun x hx=>(by cases hx)⟩
 ·obtain⟨x,hx,rfl⟩:=List.mem_map.1 hb
  exact w3 x hx
 ·obtain⟨x,hx,rfl⟩:=List.mem_map.1 hb
  rcases List.mem_append.1 hx with hx|hx
  ·exact .inl (hwr x hx).1
  ·exact .inr (hmem x hx).1
 ·rw[hN]at h2
  show b∈(wr++(mkRes sh n σ.N).2).map (·.1)
  rw[List.map_append,n1];exact List.mem_append_right _ (List.mem_range'_1.2 ⟨h1,h2⟩)
 ·have hev:∀x∈o.op.operands,ah tmp' x=σ.ev x:=fun x hx=>by rw[ib];exact eE ht x hx
  have hbk:∀x∈o.op.operands,∀b∈(σ.ev x).names,blk' b=σ.blk b:=fun x hx b hb'=>hb b (by unfold bh;exact List.mem_flatMap.2 ⟨x,by simpa using hx,hb'⟩)
  have hc':cV P cons own σ₁.tr σ.N (ah tmp') blk' o=.call f args sh wr:=by rw[kq hev hbk];exact hc
  obtain⟨vs,hrun,hnd,hcall⟩:=LO hfit h hc' hr hcon (nm:=σ.N) henv (fun b h1 h2=>hf b h1 (by rw[hN];exact h2))
  unfold wpOpIn;rw[ho];simp only
  rw[if_pos (eF h hw ht)];refine yZ hnd hrun hcall ?_
  rintro e w' ⟨u,κ',F',rfl,hrel,hv,kp⟩;refine⟨u,rfl,hK κ' F' _ w' ?_ kp (by cases o.dst<;>rfl)⟩
  have hput:=hrel.put (dst:=o.dst) (v:=(mkRes sh n σ.N).1) (u:=u) hd hv (fun b hb'=>by
   right
   have:b∈(mkRes sh n σ.N).2.map (·.1):=by rw[n1,List.mem_range'_1];exact n2 b hb'
   obtain⟨x,hx,rfl⟩:=List.mem_map.1 this;exact⟨x,List.mem_append_right _ hx,rfl⟩)
  refine hput.monoU (fun b hb'=>?_)
  rcases hb' with h1|⟨x,hx,rfl⟩
  ·exact .inl h1
  ·rcases List.mem_append.1 hx with hx|hx
   ·left
    have:=(hwr x hx).1
    unfold bh at this;obtain⟨y,hy,hb⟩:=List.mem_flatMap.1 this;rw[<-hev y (by simpa using hy)]at hb
    exact h.evNames y _ hb
   ·exact .inr ⟨(hmem x hx).1,by rw[hN];exact(hmem x hx).2⟩
def dO(S:Nat->Bool):Nat->List Stp->(Nat->SV)->(Nat->SV)
 |_,[],t=>t
 |i,s::ss,t=>dO S (i+1) ss (if S i then eN t s.seen.dst s.v else t)
def cK(S:Nat->Bool):Nat->List Stp->(Nat->Option SB)->(Nat->Option SB)
 |_,[],t=>t
 |i,s::ss,t=>cK S (i+1) ss (if S i then aJ t s.wr else t)
theorem L9{f:Nat->SV}{d:Option Nat}{x:SV}{t:Nat}(h:d≠some t):eN f d x t=f t:=by
 cases d with
 |none=>rfl
 |some d=>exact ab (fun e=>h (by rw[e]))
theorem F9{f:Nat->SV}{d:Nat}{x:SV}:eN f (some d) x d=x:=ao f d x
theorem fh(l:List (Nat×Option SB)):∀(f g:Nat->Option SB) (b:Nat),(b∈l.map (·.1)->aJ f l b=aJ g l b)/\(b∉l.map (·.1)->aJ f l b=f b):=by
 induction l with
 |nil=>intro f g b;exact⟨fun h=>(by cases h),fun _=>rfl⟩
 | cons y l ih=>
  intro f g b;refine⟨fun h=>?_,fun h=>?_⟩
  ·show aJ (upd f y.1 y.2) l b=aJ (upd g y.1 y.2) l b
   by_cases hb:b∈l.map (·.1)
   ·exact(ih _ _ b).1 hb
   ·have hy:b=y.1:=by
     rcases List.mem_cons.1 h with h|h
     ·exact h
     ·exact absurd h hb
    rw[(ih _ g b).2 hb,(ih _ g b).2 hb,hy,ao,ao]
  ·show aJ (upd f y.1 y.2) l b=f b
   rw[(ih _ g b).2 (fun hb=>h (List.mem_cons_of_mem _ hb)),ab (fun e=>h (by rw[e];exact List.mem_cons_self ..))]
theorem sq{S S':Nat->Bool}{t:Nat}:∀(ss:List Stp) (i:Nat) (f g:Nat->SV),f t=g t->(∀(j:Nat) s,ss[j]?=some s->s.seen.dst=some t->S (i+j)=S' (i+j))->dO S i ss f t=dO S' i ss g t
 |[],_,f,g,h,_=>h
 | s::ss,i,f,g,h,hs=>by
  refine sq ss (i+1) _ _ ?_ (fun j s' h1 h2=>by have:=hs (j+1) s' (by simpa using h1) h2;rw[show i+(j+1)=i+1+j by omega]at this;exact this)
  by_cases hd:s.seen.dst=some t
  ·have:=hs 0 s rfl hd
   rw[Nat.add_zero]at this;rw[this];split
   ·rw[hd,F9,F9]
   ·exact h
  ·split<;>split<;>simp only[L9 hd,h]
theorem sG{S S':Nat->Bool}{b:Nat}:∀(ss:List Stp) (i:Nat) (f g:Nat->Option SB),f b=g b->(∀(j:Nat) s,ss[j]?=some s->b∈s.wr.map (·.1)->S (i+j)=S' (i+j))->cK S i ss f b=cK S' i ss g b
 |[],_,f,g,h,_=>h
 | s::ss,i,f,g,h,hs=>by
  refine sG ss (i+1) _ _ ?_ (fun j s' h1 h2=>by have:=hs (j+1) s' (by simpa using h1) h2;rw[show i+(j+1)=i+1+j by omega]at this;exact this)
  by_cases hd:b∈s.wr.map (·.1)
  ·have:=hs 0 s rfl hd
   rw[Nat.add_zero]at this;rw[this];split
   ·exact(fh s.wr f g b).1 hd
   ·exact h
  ·split<;>split<;>simp only[(fh s.wr _ f b).2 hd,h]
theorem F5{S:Nat->Bool}{k:Nat}{sk:Stp}:∀(ss:List Stp) (i:Nat) (f:Nat->SV),i<=k->ss[k-i]?=some sk->S k=false->(∀(j:Nat) s,ss[j]?=some s->i+j≠k->s.seen.dst=none\/s.seen.dst≠sk.seen.dst) →
  dO (fun j=>S j||decide (j=k)) i ss f=eN (dO S i ss f) sk.seen.dst sk.v
 |[],i,f,hi,hk,_,_=>by simp at hk
 | s :: ss,i,f,hi,hk,hS,hd=>by
  by_cases hik:i=k
  ·subst hik
   simp at hk;subst hk
   simp only[dO,hS,decide_true,Bool.or_true,if_true,Bool.false_eq_true,if_false];have key:∀(ss:List Stp) (i':Nat) (f:Nat->SV),i<i'->(∀(j:Nat) s',ss[j]?=some s'->s'.seen.dst=none\/s'.seen.dst≠s.seen.dst) →
     dO (fun j=>S j||decide (j=i)) i' ss (eN f s.seen.dst s.v)=eN (dO S i' ss f) s.seen.dst s.v:=by
    intro ss;induction ss with
    |nil=>intro i' f _ _;rfl
    | cons x ss ih=>
     intro i' f hi' hx;simp only[dO];have e:decide (i'=i)=false:=by simp;omega
     simp only[e,Bool.or_false];have hx0:=hx 0 x rfl;have comm:eN (eN f s.seen.dst s.v) x.seen.dst x.v=eN (eN f x.seen.dst x.v) s.seen.dst s.v:=by
      funext t
      cases hxd:x.seen.dst with
      |none=>rfl
      | some d=>
       cases hsd:s.seen.dst with
       |none=>rfl
       | some e=>
        have hne:d≠e:=by
         rcases hx0 with h|h
         ·rw[hxd]at h;cases h
         ·rw[hxd,hsd]at h;exact fun hh=>h (by rw[hh])
        simp only[eN,upd];by_cases h1:t=d<;>by_cases h2:t=e<;>simp[h1,h2]
        ·exact absurd (h1▸h2) hne
        ·exact fun hh=>absurd hh hne
        ·exact fun hh=>absurd hh.symm hne
     split
     ·rw[comm];exact ih (i'+1) _ (by omega) (fun j s' h=>hx (j+1) s' (by simpa using h))
     ·exact ih (i'+1) _ (by omega) (fun j s' h=>hx (j+1) s' (by simpa using h))
   exact key ss (i+1) f (by omega) (fun j s' h=>hd (j+1) s' (by simpa using h) (by omega))
  ·simp only[dO]
   have e:decide (i=k)=false:=by simp[hik]
   simp only[e,Bool.or_false];exact F5 ss (i+1) _ (by omega) (by rw[show k-i=(k-(i+1))+1 by omega]at hk;simpa using hk) hS (fun j s h1 h2=>hd (j+1) s (by simpa using h1) (by omega))
theorem FQ{S:Nat->Bool}{k:Nat}{sk:Stp}:∀(ss:List Stp) (i:Nat) (f:Nat->Option SB),i<=k->ss[k-i]?=some sk->S k=false->(∀(j:Nat) s,ss[j]?=some s->k<i+j->S (i+j)=true->∀b∈sk.wr.map (·.1),b∉s.wr.map (·.1)) →
  cK (fun j=>S j||decide (j=k)) i ss f=aJ (cK S i ss f) sk.wr
 |[],i,f,hi,hk,_,_=>by simp at hk
 | s :: ss,i,f,hi,hk,hS,hd=>by
  by_cases hik:i=k
  ·subst hik
   simp at hk;subst hk
   simp only[cK,hS,decide_true,Bool.or_true,if_true,Bool.false_eq_true,if_false];have key:∀(ss:List Stp) (i':Nat) (f g:Nat->Option SB),i<i'->(∀b,g b=aJ f s.wr b)->(∀(j:Nat) s',ss[j]?=some s'->S (i'+j)=true->∀b∈s.wr.map (·.1),b∉s'.wr.map (·.1)) →
     ∀b,cK (fun j=>S j||decide (j=i)) i' ss g b=aJ (cK S i' ss f) s.wr b:=by
    intro ss;induction ss with
    |nil=>intro i' f g _ h _;exact h
    | cons x ss ih=>
     intro i' f g hi' h hx;simp only[cK];have e:decide (i'=i)=false:=by simp;omega
     simp only[e,Bool.or_false];refine ih (i'+1) _ _ (by omega) (fun b=>?_) (fun j s' h1 h2=>hx (j+1) s' (by simpa using h1) (by rw[show i'+(j+1)=i'+1+j by omega];exact h2))
     split
     ·rename_i hSi
      have hx0:=hx 0 x rfl (by rw[Nat.add_zero];exact hSi)
      by_cases hb:b∈s.wr.map (·.1)
      ·rw[(fh x.wr g g b).2 (hx0 b hb),h b]
       exact(fh s.wr f _ b).1 hb
      ·rw[(fh s.wr _ f b).2 hb]
       by_cases hb2:b∈x.wr.map (·.1)
       ·exact(fh x.wr g f b).1 hb2
       ·rw[(fh x.wr g f b).2 hb2,(fh x.wr f f b).2 hb2,h b,(fh s.wr f f b).2 hb]
     ·exact h b
   funext b
   exact key ss (i+1) f _ (by omega) (fun _=>rfl) (fun j s' h1 h2=>hd (j+1) s' (by simpa using h1) (by omega) (by rw[show i+(j+1)=i+1+j by omega];exact h2)) b
  ·simp only[cK]
   have e:decide (i=k)=false:=by simp[hik]
   simp only[e,Bool.or_false];exact FQ ss (i+1) _ (by omega) (by rw[show k-i=(k-(i+1))+1 by omega]at hk;simpa using hk) hS (fun j s h1 h2 h3=>hd (j+1) s (by simpa using h1) (by omega) (by rw[show i+(j+1)=i+1+j by omega];exact h3))
theorem Nx{acc:List Nat}{o:Oper}{i:Nat}(h:(CC acc o).testBit i=true):∃e∈o.after.toList,Region.binds .any e=true/\(e.on=i\/(acc.getD e.on 0).testBit i=true):=by
 unfold CC at h;have key:∀(l:List Edge) (s:Nat),(l.foldl (fun s e=>if Region.binds .any e then s ||| 2 ^ e.on ||| acc.getD e.on 0 else s) s).testBit i=true->s.testBit i=true\/∃e∈l,Region.binds .any e=true/\(e.on=i\/(acc.getD e.on 0).testBit i=true):=by
  intro l;induction l with
  |nil=>intro s h;exact .inl h
  | cons e l ih=>
   intro s h;rw[List.foldl_cons]at h;rcases ih _ h with h1|⟨e',he,h1⟩
   ·split at h1
    ·rename_i hb
     rw[Nat.testBit_or,Nat.testBit_or,Bool.or_eq_true,Bool.or_eq_true]at h1;rcases h1 with(h1|h1)|h1
     ·exact .inl h1
     ·exact .inr ⟨e,List.mem_cons_self ..,hb,.inl (by rw[Nat.testBit_two_pow]at h1;simpa using h1)⟩
     ·exact .inr ⟨e,List.mem_cons_self ..,hb,.inr h1⟩
    ·exact .inl h1
   ·exact .inr ⟨e',List.mem_cons_of_mem _ he,h1⟩
 rcases key _ 0 h with h1|h1
 ·simp at h1
 ·exact h1
theorem FI:∀(os:List Oper) (acc:List Nat) (j:Nat),j<acc.length->(cY os acc).getD j 0=acc.getD j 0
 |[],acc,j,h=>rfl
 |o::os,acc,j,h=>by
  rw[cY,FI os _ j (by simp;omega)]
  simp[List.getD,List.getElem?_append_left h]
theorem DF:∀(os:List Oper) (acc:List Nat) (j:Nat) (o:Oper),os[j]?=some o->(cY os acc).getD (acc.length+j) 0=CC ((cY os acc).take (acc.length+j)) o
 |[],acc,j,o,h=>by simp at h
 | x::os,acc,0,o,h=>by
  simp at h;subst h
  have hlen:∀(os:List Oper) (acc:List Nat),(cY os acc).take acc.length=acc:=by
   intro os;induction os with
   |nil=>intro acc;simp[cY]
   |cons y os ih=>
    intro acc;rw[cY];have:=ih (acc++[CC acc y])
    have h2:=congrArg (List.take acc.length) this;rw[List.take_take]at h2;simpa using h2
  rw[Nat.add_zero,hlen];rw[cY,FI os _ _ (by simp)]
  simp[List.getD]
 |x::os,acc,j+1,o,h=>by
  have:=DF os (acc++[CC acc x]) j o (by simpa using h)
  rw[cY];rw[show(acc++[CC acc x]).length+j=acc.length+(j+1) by simp;omega]at this
  exact this
def MW(ops:Array Oper)(S:Nat->Bool):Prop:=∀j o,ops[j]?=some o->S j=true->∀e∈o.after.toList,Region.binds .any e=true->S e.on=true
theorem sL{ops:Array Oper}{S:Nat->Bool}(hS:MW ops S){i:Nat}:∀(j:Nat) (o:Oper),ops[j]?=some o->(∀e∈o.after.toList,Region.binds .any e=true->S e.on=true)->((cY ops.toList []).getD j 0).testBit i=true->S i=true:=by
 intro j;induction j using Nat.strongRecOn with
 | _ j ih=>
  intro o ho he hm;have h1:=DF ops.toList [] j o (by simpa using ho)
  simp only[List.length_nil,Nat.zero_add]at h1;rw[h1]at hm;obtain⟨e,h2,h3,h4⟩:=Nx hm;rcases h4 with h4|h4
  ·rw[<-h4];exact he e h2 h3
  ·have hlt:e.on<j:=by
    rcases Nat.lt_or_ge e.on j with h|h
    ·exact h
    ·rw[List.getD,List.getElem?_eq_none (by simp;omega)]at h4;simp at h4
   have h5:((cY ops.toList []).getD e.on 0).testBit i=true:=by
    rw[List.getD,List.getElem?_take,if_pos hlt]at h4;exact h4
   have hse:=he e h2 h3;cases hoe:ops[e.on]? with
   |some o'=>exact ih e.on hlt o' hoe (hS e.on o' hoe hse) h5
   |none=>
    have hl:ops.size<=e.on:=Array.getElem?_eq_none_iff.1 hoe
    have hjl:j<ops.size:=(Array.getElem?_eq_some_iff.1 ho).1
    omega
theorem Chain.get{ro:Option Nat}{ops:Array Oper}{N i N'':Nat}{tmp tmp'':Nat->SV}{blk blk'':Nat->Option SB}{ss:List Stp}(h:Chain P w0 env ro L ops N i tmp blk ss N'' tmp'' blk''):
  N<=N''/\tmp''=dO (fun _=>true) i ss tmp/\blk''=cK (fun _=>true) i ss blk/\∀(j:Nat) s,ss[j]?=some s->∃Nj Nj',StepSem P w0 env ro L ops Nj Nj' (i+j) s (dO (fun k=>decide (k<i+j)) i ss tmp) (cK (fun k=>decide (k<i+j)) i ss blk)/\N<=Nj/\Nj'<=N'' ∧
   (∀(k:Nat) s',k<j->ss[k]?=some s'->∀b∈s'.seen.wb,b<Nj):=by
 induction h with
 |nil N i tmp blk=>exact⟨Nat.le_refl _,rfl,rfl,fun j s hs=>by simp at hs⟩
 | cons h r ih=>
  rename_i N N' N'' i tmp tmp'' blk blk'' s ss
  obtain⟨h1,h2,h3,h4⟩:=ih;have hle:=h.le;have pre:∀(ss:List Stp) (i0 i:Nat) (f:Nat->SV),i0<=i->dO (fun k=>decide (k<i0)) i ss f=f:=by
   intro ss;induction ss with
   |nil=>intro i0 i f _;rfl
   |cons x ss ih=>intro i0 i f hi;simp only[dO];rw[if_neg (by simp;omega)];exact ih _ _ _ (by omega)
  have preB:∀(ss:List Stp) (i0 i:Nat) (f:Nat->Option SB),i0<=i->cK (fun k=>decide (k<i0)) i ss f=f:=by
   intro ss;induction ss with
   |nil=>intro i0 i f _;rfl
   |cons x ss ih=>intro i0 i f hi;simp only[cK];rw[if_neg (by simp;omega)];exact ih _ _ _ (by omega)
  refine⟨by omega,by rw[h2];rfl,by rw[h3];rfl,fun j x hx=>?_⟩
  cases j with
  |zero=>
   simp at hx;subst hx
   refine⟨N,N',?_,Nat.le_refl _,h1,fun k s' hk=>by omega⟩
   rw[Nat.add_zero,pre _ _ _ _ (Nat.le_refl _),preB _ _ _ _ (Nat.le_refl _)];exact h
  | succ j=>
   obtain⟨Nj,Nj',g1,g2,g3,g4⟩:=h4 j x (by simpa using hx)
   refine⟨Nj,Nj',?_,by omega,g3,fun k s' hk hs=>?_⟩
   ·simp only[dO,cK]
    rw[if_pos (by simp),if_pos (by simp),show i+(j+1)=i+1+j by omega]
    exact g1
   ·cases k with
    |zero=>simp at hs;subst hs;intro b hb;have:=h.lt b hb;omega
    |succ k=>exact g4 k s' (by omega) (by simpa using hs)
theorem ou{ms:List Nat}{l:List Seen}(h:l8 ms l=true){i j:Nat}{x y:Seen}(hij:i<j)(hx:l[i]?=some x)(hy:l[j]?=some y):(x.dst=none\/x.dst≠y.dst)/\((ms.getD j 0).testBit i=true\/x.apart y=true):=by
 unfold l8 at h;rw[List.all_eq_true]at h;have h1:=h (y,j) (by rw[List.mem_zipIdx_iff_getElem?];exact hy)
 simp only at h1
 rw[List.all_eq_true]at h1;have h2:=h1 (x,i) (by rw[List.mem_zipIdx_iff_getElem?];exact hx)
 simp only[Bool.or_eq_true,Bool.not_eq_true',decide_eq_false_iff_not,Bool.and_eq_true,Option.isNone_iff_eq_none,bne_iff_ne,ne_eq]at h2;rcases h2 with h2|h2
 ·exact absurd hij h2
 ·exact h2
theorem iQ{x y:Seen}(h:x.apart y=true):(∀d,x.dst=some d->d∉y.rt)/\(∀d,y.dst=some d->d∉x.rt)/\(∀b∈x.wb,b∉y.rb/\b∉y.wb)/\∀b∈x.rb,b∉y.wb:=by
 unfold Seen.apart at h;simp only[Bool.and_eq_true,List.all_eq_true,Bool.not_eq_true',List.contains_eq_mem,decide_eq_false_iff_not]at h;obtain⟨⟨⟨h1,h2⟩,h3⟩,h4⟩:=h;refine⟨fun d hd=>?_,fun d hd=>?_,fun b hb=>h3 b hb,fun b hb=>h4 b hb⟩
 ·rw[hd]at h1;simpa using h1
 ·rw[hd]at h2;simpa using h2
theorem Nq{S:Nat->Bool}{i:Nat}(hS:S i=false):∀n,i<n->((List.range n).filter (fun k=> !(S k||decide (k=i)))).length+1=((List.range n).filter (fun k=> !S k)).length:=by
 intro n;induction n with
 |zero=>intro h;omega
 | succ n ih=>
  intro h;rw[List.range_succ,List.filter_append,List.filter_append,List.length_append,List.length_append];by_cases hin:i=n
  ·subst hin
   have:(List.range i).filter (fun k=> !(S k||decide (k=i)))=(List.range i).filter (fun k=> !S k):=List.filter_congr (fun k hk=>by
    have:k≠i:=by have:=List.mem_range.1 hk;omega
    simp[this])
   rw[this];simp[hS]
  ·have:=ih (by omega)
   have e:(decide (n=i))=false:=by simp;omega
   simp only[List.filter_cons,List.filter_nil,e,Bool.or_false];omega
def aM(listed:Array Bool)(k:Nat):Bool:=listed.getD k false
theorem DH{ops:Array Oper}{listed:Array Bool}(hl:listed.size=ops.size){i:Nat}(h:i∈Region.ready .any ops listed):i<ops.size/\aM listed i=false/\∃o,ops[i]?=some o/\∀e∈o.after.toList,Region.binds .any e=true->aM listed e.on=true:=by
 unfold Region.ready at h;rw[List.mem_filter]at h;obtain⟨h1,h2⟩:=h;have hi:=List.mem_range.1 h1;rw[Bool.and_eq_true]at h2;refine⟨hi,?_,ops[i],Array.getElem?_eq_getElem hi,fun e he hb=>?_⟩
 ·have h3:=h2.1
  unfold aM;unfold Array.getD at h3⊢
  rw[dif_pos (by omega)]at h3⊢
  simpa using h3
 ·have h3:=h2.2
  rw[Array.getElem?_eq_getElem hi]at h3;simp only[Option.map_some,Option.getD_some]at h3;rw[Array.all_eq_true']at h3;have:=h3 e (by simpa using he)
  rw[hb]at this;simpa[aM]using this
theorem MT{ops:Array Oper}{listed:Array Bool}(hl:listed.size=ops.size)(hE:gV ops.toList=true)(h:Region.ready .any ops listed=[]):∀k,k<ops.size->aM listed k=true:=by
 intro k;induction k using Nat.strongRecOn with
 | _ k ih=>
  intro hk;cases hd:aM listed k with
  |true=>rfl
  | false=>
   exfalso
   have hmem:k∈Region.ready .any ops listed:=by
    unfold Region.ready;rw[List.mem_filter];refine⟨List.mem_range.2 hk,?_⟩
    rw[Bool.and_eq_true];refine⟨?_,?_⟩
    ·unfold aM at hd
     unfold Array.getD at hd⊢
     rw[dif_pos (by omega)]at hd⊢
     simp;exact hd
    ·rw[Array.getElem?_eq_getElem hk]
     simp only[Option.map_some,Option.getD_some];rw[Array.all_eq_true'];intro e he;unfold gV at hE;rw[List.all_eq_true]at hE;have h1:=hE (ops[k],k) (by rw[List.mem_zipIdx_iff_getElem?];simp[hk])
     simp only at h1
     rw[List.all_eq_true]at h1;have h2:=h1 e (by simpa using he)
     cases hb:Region.binds .any e with
     |false=>simp
     |true=>
      rw[hb]at h2;have h3:e.on<k:=by simpa using h2
      have:=ih e.on h3 (by omega)
      simpa[aM]using this
   rw[h]at hmem;cases hmem
theorem Chain.draw{ro:Option Nat}{ops:Array Oper}{Q:Exit->Act->World->Prop}{N N'':Nat}{tmp'':Nat->SV}{blk'':Nat->Option SB}{ss:List Stp}(h:Chain P w0 env ro L ops N 0 tmp blk ss N'' tmp'' blk''){κ₀:Nat->Value}{F₀ U₀:Nat->Prop}{wI:World}{dI:List Deferred}(hU0:∀b,N<=b->b<N''->¬U₀ b)(hro:∀b,ro=some b->U₀ b)(hlen:ss.length<=ops.size)(hlast:∀i,ss.length<=i->i<ops.size->(∀j,j<ss.length->((cY ops.toList []).getD i 0).testBit j=true)/\∀(κ:Nat->Value) (F:Nat->Prop) (a:Act) (w:World) (K:Act->World->Prop),Rel w0 env κ F (fun b=>U₀ b\/(N<=b/\b<N'')) tmp'' blk'' L a w->Kept U₀ blk κ₀ F₀ wI blk'' κ F w->a.defers=dI->wpOpIn (FR (dL κ₀ ro)) 0 P ops Q i K a w)(hind:l8 (cY ops.toList []) (ss.map (·.seen))=true)(hE:gV ops.toList=true)(hsl:∀(j:Nat) s,ss[j]?=some s->∀x∈s.seen.rh,U₀ x.1/\Lt κ₀ env x)
  (hQ:ss.length=ops.size->∀κ F a w,Rel w0 env κ F (fun b=>U₀ b\/(N<=b/\b<N'')) tmp'' blk'' L a w->Kept U₀ blk κ₀ F₀ wI blk'' κ F w->a.defers=dI->Q .normal a w):∀(fuel:Nat) (listed:Array Bool) {κ:Nat->Value} {F:Nat->Prop} {a:Act} {w:World},listed.size=ops.size->MW ops (aM listed) →
  ((List.range ops.size).filter (fun k=> !aM listed k)).length<=fuel →
  (∀k,ss.length<=k->k<ops.size->aM listed k=false) →
  Rel w0 env κ F (fun b=>U₀ b\/∃(j:Nat) (s:Stp),aM listed j=true/\ss[j]?=some s/\b∈s.seen.wb/\N<=b) (dO (aM listed) 0 ss tmp) (cK (aM listed) 0 ss blk) L a w->Kept U₀ blk κ₀ F₀ wI (cK (aM listed) 0 ss blk) κ F w->a.defers=dI->wpAnyIn (FR (dL κ₀ ro)) 0 P .any ops Q fuel listed a w:=by
 obtain⟨hN,ht,hb,hget⟩:=h.get;have hmid:∀(listed:Array Bool) {κ:Nat->Value} {F:Nat->Prop} {a:Act} {w:World},(∀k,k<ss.length->aM listed k=true) →
   Rel w0 env κ F (fun b=>U₀ b\/∃(j:Nat) (s:Stp),aM listed j=true/\ss[j]?=some s/\b∈s.seen.wb/\N<=b) (dO (aM listed) 0 ss tmp) (cK (aM listed) 0 ss blk) L a w->Kept U₀ blk κ₀ F₀ wI (cK (aM listed) 0 ss blk) κ F w →
   Rel w0 env κ F (fun b=>U₀ b\/(N<=b/\b<N'')) tmp'' blk'' L a w/\Kept U₀ blk κ₀ F₀ wI blk'' κ F w:=by
  intro listed κ F a w hd hr hk;have e1:dO (aM listed) 0 ss tmp=tmp'':=by
   rw[ht];funext t
   refine sq ss 0 _ _ rfl (fun j s hs _=>?_)
   rw[hd (0+j) (by have:=(List.getElem?_eq_some_iff.1 hs).1;omega)]
  have e2:cK (aM listed) 0 ss blk=blk'':=by
   rw[hb];funext t
   refine sG ss 0 _ _ rfl (fun j s hs _=>?_)
   rw[hd (0+j) (by have:=(List.getElem?_eq_some_iff.1 hs).1;omega)]
  rw[e1,e2]at hr;rw[e2]at hk;refine⟨hr.monoU (fun b hb=>?_),hk⟩
  rcases hb with hb|⟨j,s,_,hs,hb,hbN⟩
  ·exact .inl hb
  ·right
   obtain⟨Nj,Nj',g1,_,g3,_⟩:=hget j s hs;have:=g1.lt b hb
   omega
 have hall:∀(listed:Array Bool) {κ:Nat->Value} {F:Nat->Prop} {a:Act} {w:World},(∀k,k<ops.size->aM listed k=true)->(∀k,ss.length<=k->k<ops.size->aM listed k=false) →
   Rel w0 env κ F (fun b=>U₀ b\/∃(j:Nat) (s:Stp),aM listed j=true/\ss[j]?=some s/\b∈s.seen.wb/\N<=b) (dO (aM listed) 0 ss tmp) (cK (aM listed) 0 ss blk) L a w->Kept U₀ blk κ₀ F₀ wI (cK (aM listed) 0 ss blk) κ F w->a.defers=dI->Q .normal a w:=by
  intro listed κ F a w hd hout hr hk hdf;have hq:ss.length=ops.size:=by
   rcases Nat.lt_or_ge ss.length ops.size with h|h
   ·have:=hd ss.length h
    rw[hout _ (Nat.le_refl _) h]at this;cases this
   ·omega
  obtain⟨r1,k1⟩:=hmid listed (fun k hk=>hd k (by omega)) hr hk
  exact hQ hq κ F a w r1 k1 hdf
 intro fuel;induction fuel with
 | zero=>
  intro listed κ F a w hl hcl hcnt hout hr hk hdf;have hd:∀k,k<ops.size->aM listed k=true:=fun k hk=>by
   cases hd:aM listed k with
   |true=>rfl
   |false=>
    have:k∈(List.range ops.size).filter (fun k=> !aM listed k):=by rw[List.mem_filter];exact⟨List.mem_range.2 hk,by simp[hd]⟩
    have:=List.length_pos_of_mem this
    omega
  refine⟨?_,hall listed hd hout hr hk hdf⟩
  refine List.eq_nil_iff_forall_not_mem.2 (fun i hi=>?_)
  obtain⟨h1,h2,_⟩:=DH hl hi;rw[hd i h1]at h2;cases h2
 | succ fuel ih=>
  intro listed κ F a w hl hcl hcnt hout hr hk hdf;refine⟨fun hnil=>hall listed (MT hl hE hnil) hout hr hk hdf,fun i hi=>?_⟩
  obtain⟨h1,h2,o,ho,hedges⟩:=DH hl hi;by_cases hil:ss.length<=i
  ·obtain⟨m1,m2⟩:=hlast i hil h1
   obtain⟨r1,k1⟩:=hmid listed (fun j hj=>sL hcl i o ho hedges (m1 j hj)) hr hk
   exact m2 κ F a w _ r1 k1 hdf
  obtain⟨s,hs⟩:∃s,ss[i]?=some s:=⟨_,List.getElem?_eq_getElem (by omega)⟩
  obtain⟨Ni,Ni',g1,g2,g3,g4⟩:=hget i s hs;rw[Nat.zero_add]at g1;have hmap:∀(j:Nat) s',ss[j]?=some s'->(ss.map (·.seen))[j]?=some s'.seen:=fun j s' hj=>by rw[List.getElem?_map,hj];rfl
  have before:∀(j:Nat) (s':Stp),j<i->ss[j]?=some s'->s'.seen.apart s.seen=true\/aM listed j=true:=fun j s' hji hj=>by
   rcases(ou hind hji (hmap j s' hj) (hmap i s hs)).2 with hm|hm
   ·exact .inr (sL hcl i o ho hedges hm)
   ·exact .inl hm
  have after:∀(j:Nat) (s':Stp),i<j->ss[j]?=some s'->aM listed j=true->s.seen.apart s'.seen=true:=fun j s' hij hj hd=>by
   rcases(ou hind hij (hmap i s hs) (hmap j s' hj)).2 with hm|hm
   ·have hjl:j<ops.size:=by have:=(List.getElem?_eq_some_iff.1 hj).1;omega
    have:=sL hcl j ops[j] (Array.getElem?_eq_getElem hjl) (fun e he hb=>hcl j _ (Array.getElem?_eq_getElem hjl) hd e he hb) hm
    rw[h2]at this;cases this
   ·exact hm
  rw[<-dP (κ:=κ₀) (κ':=κ) (ro:=ro) (fun b hb=>hk.kap b (hro b hb))]
  refine g1.run κ F _ _ _ a w _ Q hr (fun t ht'=>?_) (fun b hb'=>?_) (fun b hb1 hb2 hU=>?_) (fun b hb=>.inl (hro b hb)) (fun x hx=>by
   obtain⟨h1,h2⟩:=hsl i s hs x hx;intro h0;rw[hk.kap _ h1];exact h2 h0) (fun κ' F' a' w' hr' hk' hdf'=>?_)
  ·refine sq ss 0 _ _ rfl (fun j s' hj hd=>?_)
   rw[Nat.zero_add];rcases Nat.lt_trichotomy j i with hlt|heq|hgt
   ·rw[decide_eq_true hlt]
    rcases before j s' hlt hj with hm|hm
    ·exact absurd ht' ((iQ hm).1 t hd)
    ·exact hm
   ·subst heq;rw[h2];simp
   ·rw[decide_eq_false (by omega)]
    cases hdj:aM listed j with
    |false=>rfl
    |true=>exact absurd ht' ((iQ (after j s' hgt hj hdj)).2.1 t hd)
  ·refine sG ss 0 _ _ rfl (fun j s' hj hd=>?_)
   rw[Nat.zero_add];have hwb:b∈s'.seen.wb:=by
    obtain⟨Nj,Nj',q1,_⟩:=hget j s' hj;rw[q1.wb];exact hd
   rcases Nat.lt_trichotomy j i with hlt|heq|hgt
   ·rw[decide_eq_true hlt]
    rcases before j s' hlt hj with hm|hm
    ·exact absurd hb' ((iQ hm).2.2.1 b hwb).1
    ·exact hm
   ·subst heq;rw[h2];simp
   ·rw[decide_eq_false (by omega)]
    cases hdj:aM listed j with
    |false=>rfl
    |true=>exact absurd hwb ((iQ (after j s' hgt hj hdj)).2.2.2 b hb')
  ·rcases hU with hU|⟨j,s',hd,hj,hwb,_⟩
   ·exact hU0 b (by omega) (by omega) hU
   ·rcases Nat.lt_trichotomy j i with hlt|heq|hgt
    ·have:=g4 j s' hlt hj b hwb;omega
    ·subst heq;rw[h2]at hd;cases hd
    ·obtain⟨Nj,Nj',q1,_,_,q4⟩:=hget j s' hj
     have hwi:=g1.all b hb1 hb2;have hlt:=q4 i s hgt hs b hwi;rcases q1.foot b hwb with hf|hf
     ·exact((iQ (after j s' hgt hj hd)).2.2.1 b hwi).1 hf
     ·omega
  ·have hset:∀k,aM (listed.setIfInBounds i true) k=(aM listed k||decide (k=i)):=fun k=>by
    unfold aM;by_cases hk:k=i
    ·subst hk;simp[Array.getD,hl,h1]
    ·by_cases hk2:k<listed.size
     ·simp[Array.getD,hk2,hk,Array.getElem_setIfInBounds,Ne.symm hk]
     ·simp[Array.getD,hk2,hk]
   have hfun:aM (listed.setIfInBounds i true)=fun k=>aM listed k||decide (k=i):=funext hset
   have hfB:cK (fun k=>aM listed k||decide (k=i)) 0 ss blk=aJ (cK (aM listed) 0 ss blk) s.wr:=
    FQ ss 0 blk (Nat.zero_le _) (by simpa using hs) h2 (fun j s' hj hlt hd b hb1 hb2=>by
     rw[Nat.zero_add]at hlt hd;obtain⟨Nj,Nj',q1,_⟩:=hget j s' hj;exact((iQ (after j s' hlt hj hd)).2.2.1 b (by rw[g1.wb];exact hb1)).2 (by rw[q1.wb];exact hb2))
   rw[dP (κ:=κ₀) (κ':=κ) (ro:=ro) (fun b hb=>hk.kap b (hro b hb))]
   refine ih (listed.setIfInBounds i true) (κ:=κ') (F:=F') (by simp[hl]) (fun j o' ho' hd e he hb'=>?_) ?_ (fun k hk1 hk2=>by rw[hset,hout k hk1 hk2];simp;omega) ?_ ?_ (hdf'.trans hdf)
   ·rw[hset]at hd⊢
    rw[Bool.or_eq_true]at hd⊢
    left
    rcases hd with hd|hd
    ·exact hcl j o' ho' hd e he hb'
    ·have:j=i:=by simpa using hd
     subst this;rw[ho]at ho';cases ho'
     exact hedges e he hb'
   ·rw[hfun]
    have:=Nq h2 ops.size h1
    show((List.range ops.size).filter (fun k=> !(aM listed k||decide (k=i)))).length<=fuel
    omega
   ·rw [hfun]
    rw [F5 ss 0 tmp (Nat.zero_le _) (by simpa using hs) h2 (fun j s' hj hne=>by
     rw[Nat.zero_add]at hne;rcases Nat.lt_trichotomy j i with hlt|heq|hgt
     ·exact(ou hind hlt (hmap j s' hj) (hmap i s hs)).1
     ·exact absurd heq hne
     ·rcases(ou hind hgt (hmap i s hs) (hmap j s' hj)).1 with hm|hm
      ·by_cases hh:s'.seen.dst=none
       ·exact .inl hh
       ·exact .inr (by rw[hm];exact hh)
      ·exact .inr (Ne.symm hm)),hfB]
    refine hr'.monoU (fun b hb'=>?_)
    rcases hb' with(hb'|⟨j,s',hd,hj,hwb,hbN⟩)|hb'
    ·exact .inl hb'
    ·exact .inr ⟨j,s',by show(aM listed j||decide (j=i))=true;rw[hd];rfl,hj,hwb,hbN⟩
    ·exact .inr ⟨i,s,by simp,hs,g1.all b hb'.1 hb'.2,by omega⟩
   ·rw[hfun,hfB]
    exact hk.trans hk' (fun b hb=>.inl hb)
def Ex.exit':Ex->Exit
 |.normal=>.normal
 |.exit id=>.exit id
 |.ret=>.ret
 |.panic v=>.panic (fW v)
def Ex.out:Ex->Bool
 |.normal|.ret=>true
 |_=>false
def gD(D:Nat):Deferred:={ target:=.collected D,args:=#[] }
def Marks(w:World)(ds:List Deferred)(F':Nat->Prop)(w':World)(ds':List Deferred):Prop:=
 ∃Ds:List Nat,ds'=Ds.map gD++ds/\Ds.Nodup/\∀D∈Ds,w.heap.size<=D/\w'.heap[D]?=some (.deferred (some []))/\¬F' D
theorem Marks.nil{ds:List Deferred}:Marks w ds F' w' ds:=⟨[],rfl,List.nodup_nil,fun D hD=>by cases hD⟩
theorem Marks.next{U':Nat->Prop}{blk':Nat->Option SB}{ds ds':List Deferred}{tmp':Nat->SV}{L':Nat}{a':Act}{w'':World}{κ'':Nat->Value}{F'':Nat->Prop}{blk'':Nat->Option SB}{U'':Nat->Prop}(m:Marks w ds F' w' ds')(h:Rel w0 env κ' F' U' tmp' blk' L' a' w')(k:Kept U'' blk' κ' F' w' blk'' κ'' F'' w''):Marks w ds F'' w'' ds':=by
 obtain⟨Ds,h1,h2,h3⟩:=m;refine⟨Ds,h1,h2,fun D hD=>?_⟩
 obtain⟨g1,g2,g3⟩:=h3 D hD;have hlt:=fa g2;have hne:∀b,aB (blk' b)=true->ai (κ' b)≠some D:=fun b hb e=>by
  obtain⟨y,hy,hl⟩:=bu hb;exact(h.blks b y hy).noDefer hl e _ g2
 refine⟨g1,(k.frame D hlt hne).trans g2,fun hF=>?_⟩
 rcases k.new D hF with h4|h4|⟨b,h4,h5⟩
 ·exact g3 h4
 ·omega
 ·exact hne b h4 h5
theorem Marks.trans{U':Nat->Prop}{blk':Nat->Option SB}{ds ds' ds'':List Deferred}{tmp':Nat->SV}{L':Nat}{a':Act}{w'':World}{κ'':Nat->Value}{F'':Nat->Prop}{blk'':Nat->Option SB}{U'':Nat->Prop}(m:Marks w ds F' w' ds')(h:Rel w0 env κ' F' U' tmp' blk' L' a' w')(k:Kept U'' blk' κ' F' w' blk'' κ'' F'' w'')(hsz:w.heap.size<=w'.heap.size)(m':Marks w' ds' F'' w'' ds''):Marks w ds F'' w'' ds'':=by
 obtain⟨Ds,h1,h2,h3⟩:=m.next h k;obtain⟨Es,g1,g2,g3⟩:=m';obtain⟨Ds',q1,q2,q3⟩:=m;have hDs:Ds=Ds':=by
  rw[q1]at h1;have:=List.append_cancel_right h1
  have hinj:∀(x y:List Nat),x.map gD=y.map gD->x=y:=by
   intro x;induction x with
   |nil=>intro y hy;cases y with
    |nil=>rfl
    |cons b y=>cases hy
   | cons c x ih=>intro y hy;cases y with
    |nil=>cases hy
    |cons b y=>
     simp only[List.map_cons,List.cons.injEq]at hy;have:c=b:=by have:=hy.1;unfold gD at this;injection this with h1 _;injection h1
     rw[this,ih y hy.2]
  exact(hinj _ _ this).symm
 subst hDs;refine⟨Es++Ds,by rw[g1,h1];simp,List.nodup_append.2 ⟨g2,h2,fun x hx y hy e=>?_⟩,fun D hD=>?_⟩
 ·subst e
  have:=(g3 x hx).1
  have:=fa (q3 x hy).2.1
  omega
 ·rcases List.mem_append.1 hD with hD|hD
  ·obtain⟨i1,i2,i3⟩:=g3 D hD
   exact⟨by omega,i2,i3⟩
  ·exact h3 D hD
def Ends(w0:World)(env:List AV)(κ:Nat->Value)(F U:Nat->Prop)(σ:SS)(a:Act)(w:World)(σ':SS)(a':Act)(w':World):Prop:=
 ∃κ' F',Rel w0 env κ' F' (fun b=>U b\/(σ.N<=b/\b<σ'.N)) σ'.tmp σ'.blk σ'.L a' w'/\Kept U σ.blk κ F w σ'.blk κ' F' w'/\Marks w a.defers F' w' a'.defers
structure Leads (P:Program) (w0:World) (ro:Option Nat) (c:Code) (env:List AV) (σ:SS) (ex:Ex) (σ':SS):Prop where
 le:σ.N<=σ'.N
 go:∀(κ:Nat->Value) (F U:Nat->Prop) (a:Act) (w:World),Rel w0 env κ F U σ.tmp σ.blk σ.L a w->(∀b,σ.N<=b->¬U b)->(∀b,ro=some b->U b) →
  c.wpIn (FR (dL κ ro)) 0 P (fun e a' w'=>e=ex.exit'/\Ends w0 env κ F U σ a w σ' a' w') a w
theorem Ends.trans{σ σ' σ'':SS}{a' a'':Act}{w'':World}(h1:σ.N<=σ'.N)(h2:σ'.N<=σ''.N)(hr:Rel w0 env κ' F' (fun b=>U b\/(σ.N<=b/\b<σ'.N)) σ'.tmp σ'.blk σ'.L a' w')(k:Kept U σ.blk κ F w σ'.blk κ' F' w')(m:Marks w a.defers F' w' a'.defers)
  (h:Ends w0 env κ' F' (fun b=>U b\/(σ.N<=b/\b<σ'.N)) σ' a' w' σ'' a'' w''):Ends w0 env κ F U σ a w σ'' a'' w'':=by
 obtain⟨κ2,F2,r2,k2,m2⟩:=h;refine⟨κ2,F2,r2.monoU (fun b hb=>?_),k.trans k2 (fun b hb=>.inl hb),m.trans hr k2 k.size m2⟩
 rcases hb with(hb|hb)|hb
 ·exact .inl hb
 ·exact .inr ⟨hb.1,by omega⟩
 ·exact .inr ⟨by omega,hb.2⟩
theorem NB{ro:Option Nat}{c:Code}{σ σ' σ'':SS}{Q:Exit->Act->World->Prop}{a':Act}(h1:σ.N<=σ'.N)(he:Ends w0 env κ F U σ a w σ' a' w')(hU:∀b,σ.N<=b->¬U b)(hro:∀b,ro=some b->U b){ex:Ex}
  (h:Leads P w0 ro c env σ' ex σ'') (hQ:∀a'' w'',Ends w0 env κ F U σ a w σ'' a'' w''->Q ex.exit' a'' w''):c.wpIn (FR (dL κ ro)) 0 P Q a' w':=by
 obtain⟨κ1,F1,r1,k1,m1⟩:=he;rw[<-dP (κ:=κ) (κ':=κ1) (ro:=ro) (fun b hb=>k1.kap b (hro b hb))]
 refine wpIn_mono (h.go κ1 F1 _ a' w' r1 (fun b h2 hb=>?_) (fun b hb=>.inl (hro b hb))) ?_
 ·rcases hb with hb|hb
  ·exact hU b (by omega) hb
  ·omega
 ·rintro e a'' w'' ⟨rfl,h4⟩
  exact hQ a'' w'' (Ends.trans h1 h.le r1 k1 m1 h4)
structure Same (σ σ':SS):Prop where
 tmp:σ'.tmp=σ.tmp
 blk:σ'.blk=σ.blk
 L:σ'.L=σ.L
 N:σ'.N=σ.N
theorem Leads.same{ro:Option Nat}{c:Code}{ex:Ex}{σ τ σ' τ':SS}(h:Leads P w0 ro c env σ ex σ')(h1:Same σ τ)(h2:Same σ' τ'):Leads P w0 ro c env τ ex τ':=by
 refine⟨by rw[h1.N,h2.N];exact h.le,fun κ F U a w hr hU hro=>?_⟩
 rw[h1.tmp,h1.blk,h1.L]at hr;rw[h1.N]at hU;refine wpIn_mono (h.go κ F U a w hr hU hro) ?_
 rintro e a' w' ⟨he,κ',F',r,k,m⟩;exact⟨he,κ',F',by rw[h1.N,h2.N,h2.tmp,h2.blk,h2.L];exact r,by rw[h1.blk,h2.blk];exact k,m⟩
theorem Nd{x y:Option SB}(h:SB.same x y=true):x=y:=by
 cases x with
 |none=>cases y with
  |none=>rfl
  |some y=>cases y<;>cases h
 | some x=>
  cases y with
  |none=>cases x<;>cases h
  |some y=>
   cases x<;>cases y<;>simp only[SB.same,Bool.and_eq_true,beq_iff_eq]at h<;>first|(cases h;done)|skip
   ·rw[h.1,h.2]
   ·rw[h.1.1,h.1.2,h.2]
   ·rw[h]
   ·rw[h.1.1,h.1.2,h.2]
   ·rw[h.1,h.2]
noncomputable def ch (σ σ':SS):List (Nat×Option SB):=(i8 σ σ').map fun b=>(b,σ'.blk b)
theorem changed_mem{σ σ':SS}{b:Nat}:b∈i8 σ σ'↔b<σ'.N/\(σ.N<=b\/SB.same (σ.blk b) (σ'.blk b)=false):=by
 unfold i8;simp[List.mem_filter,List.mem_range]
theorem Bt{σ σ':SS}(hN:σ.N<=σ'.N){blk':Nat->Option SB}(hb:∀b,b<σ.N->blk' b=σ.blk b)(b:Nat):aJ blk' (ch σ σ') b=if b<σ'.N then σ'.blk b else blk' b:=by
 rcases DC (ch σ σ') blk' b with⟨x,hx,h1,h2⟩|⟨h1,h2⟩
 ·obtain⟨c,hc,rfl⟩:=List.mem_map.1 hx
  simp only at h1;subst h1
  rw[h2,if_pos (changed_mem.1 hc).1]
 ·rw[h2]
  split
  ·rename_i hlt
   have:¬b∈i8 σ σ':=fun hc=>h1 (b,σ'.blk b) (List.mem_map.2 ⟨b,hc,rfl⟩) rfl
   rw[changed_mem]at this;have h3:b<σ.N:=Nat.lt_of_not_le fun h=>this ⟨hlt,.inl h⟩
   have h4:SB.same (σ.blk b) (σ'.blk b)=true:=by
    cases hs:SB.same (σ.blk b) (σ'.blk b)with
    |true=>rfl
    |false=>exact absurd ⟨hlt,.inr hs⟩ this
   rw[hb b h3];exact Nd h4
  ·rfl
theorem Rel.callee(h:Rel w0 env κ F U tmp blk L a w){σ:SS}(hb:∀b,b<σ.N->blk b=σ.blk b){tmp':Nat->SV}{L':Nat}{a':Act}(ht:∀t,SVden env κ F w (tmp' t) (a'.tmps.getD t undef))(hL:a'.tmps.size=L')(hn:∀t,∀b∈(tmp' t).names,U b):
  Rel w0 env κ F U tmp' σ.blk L' a' w where
 tmps:=ht
 size:=hL
 blks b x hx:=h.blks b x (by rw[hb b (eR hx)];exact hx)
 inj b c k h1 h2:=by
  obtain⟨x,hx,hxl⟩:=bu h1;obtain⟨y,hy,hyl⟩:=bu h2;exact h.inj b c k (by rw[hb b (eR hx)];exact h1) (by rw[hb c (eR hy)];exact h2)
 nF b k h1:=by
  obtain⟨x,hx,hxl⟩:=bu h1;exact h.nF b k (by rw[hb b (eR hx)];exact h1)
 F:=h.F
 tnames:=hn
 bnames b x hx:=h.bnames b x (by rw[hb b (eR hx)];exact hx)
 below:=h.below
theorem Rel.embed(h:Rel w0 env κ F U tmp blk L a w){σ σ':SS}(hb:∀b,b<σ.N->blk b=σ.blk b)(hN:σ.N<=σ'.N)(hf:∀b,σ.N<=b->b<σ'.N->¬U b){tmp1:Nat->SV}{L1:Nat}{a1:Act}(h':Rel w0 env κ' F' (fun b=>U b\/(σ.N<=b/\b<σ'.N)) tmp1 σ'.blk L1 a1 w')(k:Kept U σ.blk κ F w σ'.blk κ' F' w'):
  Rel w0 env κ' F' (fun b=>U b\/(σ.N<=b/\b<σ'.N)) tmp (aJ blk (ch σ σ')) L a w'/\Kept U blk κ F w (aJ blk (ch σ σ')) κ' F' w':=by
 obtain⟨blk2,hb2⟩:∃blk2,blk2=aJ blk (ch σ σ'):=⟨_,rfl⟩
 have hc:∀b,blk2 b=if b<σ'.N then σ'.blk b else blk b:=fun b=>by rw[hb2];exact Bt hN hb b
 rw[<-hb2];have hin:∀b,b<σ'.N->blk2 b=σ'.blk b:=fun b hlt=>by rw[hc,if_pos hlt]
 have hout:∀b,σ'.N<=b->blk2 b=blk b:=fun b hle=>by rw[hc,if_neg (by omega)]
 have hold:∀b,aB (σ.blk b)=true->aB (blk b)=true/\b<σ.N:=fun b hl=>by
  obtain⟨x,hx,_⟩:=bu hl;have:=eR hx
  exact⟨by rw[hb b this];exact hl,this⟩
 have hU:∀b x,blk b=some x->U b:=fun b x hx=>(h.bnames b x hx).1
 have hlt:∀b j,aB (blk b)=true->ai (κ b)=some j->j<w.heap.size:=fun b j hl hj=>by
  obtain⟨x,hx,hxl⟩:=bu hl;exact((h.blks b x hx).lt hxl hj).2
 have hid:∀b j,σ'.N<=b->aB (blk b)=true->ai (κ b)=some j->∀d,aB (σ.blk d)=true->ai (κ d)≠some j:=fun b j hle hl hj d hd e=>by
  obtain⟨h1,h2⟩:=hold d hd;have:=h.inj b d j hl h1 hj e
  omega
 have kap:∀b,aB (blk b)=true->κ' b=κ b:=fun b hl=>by
  obtain⟨x,hx,_⟩:=bu hl;exact k.kap b (hU b x hx)
 refine⟨?_,⟨k.kap,k.mono,fun j hj=>?_,k.size,fun j hj hn=>k.frame j hj (fun b hl=>hn b (hold b hl).1),fun b j hl hj=>?_,k.recs⟩⟩
 ·constructor
  ·intro t
   exact(h.tmps t).keep (fun b hbn=>k.kap b (h.tnames t b hbn)) k.mono (fun j hj=>k.frame j (h.F j hj) (fun b hl e=>h.nF b j (hold b hl).1 e hj))
  ·exact h.size
  ·intro b x hx
   by_cases hlt':b<σ'.N
   ·rw[hin b hlt']at hx;exact h'.blks b x hx
   ·rw[hout b (by omega)]at hx
    refine(h.blks b x hx).keep (fun c hcn=>k.kap c ((h.bnames b x hx).2 c hcn)) (k.kap b (hU b x hx)) k.mono (fun j hj=>k.frame j (h.F j hj) (fun b hl e=>h.nF b j (hold b hl).1 e hj)) (fun hl j hj=>?_)
    exact k.frame j (hlt b j (by rw[hx];exact hl) hj) (hid b j (by omega) (by rw[hx];exact hl) hj)
  ·intro b c j h1 h2 g1 g2
   by_cases hb1:b<σ'.N<;>by_cases hc1:c<σ'.N
   ·rw[hin b hb1]at h1;rw[hin c hc1]at h2;exact h'.inj b c j h1 h2 g1 g2
   ·exfalso
    rw[hin b hb1]at h1;rw[hout c (by omega)]at h2
    rw[kap c h2]at g2;rcases k.prov b j h1 g1 with g3|⟨d,g3,g4⟩
    ·have:=hlt c j h2 g2;omega
    ·exact hid c j (by omega) h2 g2 d g3 g4
   ·exfalso
    rw[hout b (by omega)]at h1;rw[hin c hc1]at h2
    rw[kap b h1]at g1;rcases k.prov c j h2 g2 with g3|⟨d,g3,g4⟩
    ·have:=hlt b j h1 g1;omega
    ·exact hid b j (by omega) h1 g1 d g3 g4
   ·rw[hout b (by omega)]at h1;rw[hout c (by omega)]at h2
    rw[kap b h1]at g1;rw[kap c h2]at g2;exact h.inj b c j h1 h2 g1 g2
  ·intro b j h1 g1 hF
   by_cases hb1:b<σ'.N
   ·rw[hin b hb1]at h1;exact h'.nF b j h1 g1 hF
   ·rw[hout b (by omega)]at h1
    rw[kap b h1]at g1;rcases k.new j hF with h3|h3|⟨d,h3,h4⟩
    ·exact h.nF b j h1 g1 h3
    ·have:=hlt b j h1 g1;omega
    ·exact hid b j (by omega) h1 g1 d h3 h4
  ·exact h'.F
  ·intro t b hbn;exact .inl (h.tnames t b hbn)
  ·intro b x hx
   by_cases hlt':b<σ'.N
   ·rw[hin b hlt']at hx;exact h'.bnames b x hx
   ·rw[hout b (by omega)]at hx
    obtain⟨h1,h2⟩:=h.bnames b x hx;exact⟨.inl h1,fun c hcn=>.inl (h2 c hcn)⟩
  ·exact h'.below
 ·rcases k.new j hj with h3|h3|⟨d,h3,h4⟩
  ·exact .inl h3
  ·exact .inr (.inl h3)
  ·exact .inr (.inr ⟨d,(hold d h3).1,h4⟩)
 ·by_cases hlt':b<σ'.N
  ·rw[hin b hlt']at hl
   rcases k.prov b j hl hj with h3|⟨d,h3,h4⟩
   ·exact .inl h3
   ·exact .inr ⟨d,(hold d h3).1,h4⟩
  ·rw[hout b (by omega)]at hl
   rw[kap b hl]at hj;exact .inr ⟨b,hl,hj⟩
theorem Rel.rekap(h:Rel w0 env κ F U tmp blk L a w)(hκ:∀b,U b->κ' b=κ b):Rel w0 env κ' F U tmp blk L a w:=by
 have hl:∀b,aB (blk b)=true->κ' b=κ b:=fun b hb=>by
  obtain⟨x,hx,_⟩:=bu hb;exact hκ b (h.bnames b x hx).1
 exact h.world (fun _ h=>h) hκ (fun _ h=>h) (fun _ _=>rfl) (fun b x hx=>.inl ⟨hx,fun _ _ _=>rfl⟩) (fun b c k h1 h2 g1 g2=>h.inj b c k h1 h2 (by rw[<-hl b h1];exact g1) (by rw[<-hl c h2];exact g2)) (fun b k h1 g1=>h.nF b k h1 (by rw[<-hl b h1];exact g1)) h.F h.below
theorem Rel.embed'(h:Rel w0 env κ F U tmp blk L a w){σ σ':SS}(hb:∀b,b<σ.N->blk b=σ.blk b)(hN:σ.N<=σ'.N)(hf:∀b,σ.N<=b->b<σ'.N->¬U b){tmp1:Nat->SV}{L1:Nat}{a1:Act}(h':Rel w0 env κ' F' (fun b=>(U b/\b<σ.N)\/(σ.N<=b/\b<σ'.N)) tmp1 σ'.blk L1 a1 w')(k:Kept (fun b=>U b/\b<σ.N) σ.blk κ F w σ'.blk κ' F' w'):
  ∃κ'',(∀b,b<σ'.N->κ'' b=κ' b)/\Rel w0 env κ'' F' (fun b=>U b\/(σ.N<=b/\b<σ'.N)) tmp (aJ blk (ch σ σ')) L a w'/\Kept U blk κ F w (aJ blk (ch σ σ')) κ'' F' w':=by
 obtain⟨κ'',hκ⟩:∃κ'':Nat->Value,∀b,κ'' b=if b<σ'.N then κ' b else κ b:=⟨_,fun _=>rfl⟩
 have hlt:∀b,b<σ'.N->κ'' b=κ' b:=fun b hb=>by rw[hκ,if_pos hb]
 have r:Rel w0 env κ'' F' (fun b=>U b\/(σ.N<=b/\b<σ'.N)) tmp1 σ'.blk L1 a1 w':=(h'.rekap (κ':=κ'') (fun b hb=>hlt b (by omega))).monoU (fun b hb=>by
  rcases hb with hb|hb
  ·exact .inl hb.1
  ·exact .inr hb)
 have k2:Kept U σ.blk κ F w σ'.blk κ'' F' w':=
  { k with
   kap:=fun b hb=>by
    by_cases h1:b<σ'.N
    ·have h2:b<σ.N:=Nat.lt_of_not_le fun h2=>hf b h2 h1 hb
     rw[hlt b h1];exact k.kap b ⟨hb,h2⟩
    ·rw[hκ,if_neg h1]
   prov:=fun b j h1 h2=>by
    obtain⟨x,hx,_⟩:=bu h1;rw[hlt b (eR hx)]at h2;exact k.prov b j h1 h2 }
 obtain⟨r2,k3⟩:=h.embed hb hN hf r k2;exact⟨κ'',hlt,r2,k3⟩
end Go.Sx
