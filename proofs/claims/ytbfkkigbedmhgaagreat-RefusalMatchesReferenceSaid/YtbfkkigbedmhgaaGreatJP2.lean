/-
  Texts of this claim, joined (part 2).
-/
import Derived.Test.YtbfkkigbedmhgaaGreatJP1
import Derived.Laws.Append
import Derived.Laws.OwnMore
import Derived.ArgAppend
import Derived.Laws.StructEq
import Derived.Laws.Small
import Derived.Laws.IdiomCopy
import Derived.MapKept
open List renaming getElem?_append_right → v0, getElem?_append_left → v1, getElem?_eq_getElem → v2, mem_cons_of_mem → v3, mem_append_right → v4, getElem?_take → v5, mem_append_left → v6, mem_cons_self → v7, replicate → v8, eq_nil_of_length_eq_zero → v9, length_append → y0, mem_of_getElem? → y1, getElem?_drop → y2, eq_of_mem_replicate → y3, getElem?_map → y8, map_congr_left → RK, mem_append → RQ, map_toArray → RX, length_take → RY, map_cons → R0, map_nil → R5, length_replicate → R6, length_drop → R7, getElem_of_mem → Sa, replicate_succ → Sb, length_map → Sc, nil_append → Sd, getD → Sh, flatten_cons → Si, size_toArray → Sj, append_assoc → Sk, mem_range'_1 → Sm, mem_toArray → Sq, flatMap_def → Sr, length_nil → Ss, filterMap_cons → Sv, length → Sw, mem_map → Sy, append_nil → Sz, getElem_replicate → SA, take_zero → SD, mem_of_mem_take → SE, range'_append_1 → SG, ext_getElem? → SJ, range' → SL, map_append → SP, take_take → SQ, drop_take → SR, take_left → SU
open Nat renaming mul_one → y7, le_refl → RJ, mul_le_mul_right → RN, le_mul_of_pos_right → RO, eq_zero_or_pos → RT, add_mul → RU, le_trans → RV, succ_mul → R1, add_zero → R2, min → R9, min_eq_left → Sf, lt_of_lt_of_le → Sg, mul_pos → Sn, min_eq_right → Sp, zero_add → Su, div_lt_iff_lt_mul → SC, zero_mul → SI, div_add_mod' → SM, mod_eq_of_lt → SN
open Array renaming toArray_toList → y9, getElem?_toList → RM, length_toList → RR, range → R8, toList_map → So, mem_toList_iff → SF
open Option renaming map_some → RL, map_none → RW, all_some → R3, bind_some → SO
open Int renaming toNat_natCast → RP, natCast_mul → R4
open Bool renaming and_eq_true → RZ, false_eq_true → SH, not_eq_true' → SK, not_true → SW, and_true → SX
set_option linter.unusedVariables false
set_option linter.unusedSimpArgs false
set_option linter.unusedSectionVars false
set_option linter.constructorNameAsVariable false
namespace Go.Sx
open Go Go.RowKit Go.Dial
variable {env:List AV} {κ κ':Nat->Value} {F F':Nat->Prop} {w w' w0:World} {U:Nat->Prop} {tmp:Nat->SV} {blk:Nat->Option SB} {L:Nat} {a:Act} {P:Program}
theorem FQ{u:Value}{x:AV}(h:Den F w u x)(hx:x.ty.one=true):aT u=true:=by
 cases h with
 |int=>rfl
 |bool=>rfl
 |raw _ h=>exact h
 |sl=>rfl
 |agg=>cases hx
theorem xD{u:Value}{t:Ty}{l:List (List AV)}(h:Den F w u (.sl t l))(hF:∀k,F k->k<w.heap.size)(ht:0<t.len)(ho:t.leaves=true):
  ∃A c news,u=.slice A l.length c/\Span w w.heap.size t.len A l.length news/\RowsDen F w news t l/\∀v∈news,aT v=true:=by
 obtain⟨A,c,rfl,h1,h2,h3,h4⟩:=Den.view h;have hlen:∀(i:Nat) r,l[i]?=some r->r.length=t.len:=fun i r hr=>by
  have:=congrArg Sw (h3 i r hr);rw[Sc,Ty.list_len]at this;exact this
 have hdm:∀j,j<l.length*t.len->j / t.len<l.length/\j % t.len<t.len:=fun j hj=>⟨(SC ht).2 hj,Nat.mod_lt _ ht⟩
 obtain⟨news,hnl,hnews⟩:∃news:List Value,news.length=l.length*t.len/\∀j,j<l.length*t.len->∃a u x,A=some a/\F a.block/\news[j]?=some u/\w.cell? (a.add j)=some u/\(l[j / t.len]?.bind (·[j % t.len]?))=some x/\Den F w u x:=by
  refine⟨(List.range (l.length*t.len)).map (fun j=>((A.bind fun a=>w.cell? (a.add j))).getD undef),by simp,fun j hj=>?_⟩
  obtain⟨d1,d2⟩:=hdm j hj;have hr:=v2 d1;obtain⟨a,rfl,ha,hc⟩:=h4 _ _ hr;have hk:j % t.len<(l[j / t.len]).length:=by rw[hlen _ _ hr];exact d2
  obtain⟨u,hu,hd⟩:=hc _ _ (v2 hk);rw[SM]at hu;refine⟨a,u,(l[j / t.len])[j % t.len],rfl,ha,by simp[hj,hu],hu,by rw[hr];simp[hk],hd⟩
 refine⟨A,c,news,rfl,⟨hnl,fun j u hu=>?_⟩,⟨h3,fun i r k x hr hx=>?_⟩,fun v hv=>?_⟩
 ·have hj:j<l.length*t.len:=by rw[<-hnl];exact(List.getElem?_eq_some_iff.1 hu).1
  obtain⟨a,u',x,e1,e2,e3,e4,_⟩:=hnews j hj;rw[e3]at hu;cases hu
  exact⟨a,e1,hF _ e2,e4⟩
 ·have hi:=(List.getElem?_eq_some_iff.1 hr).1
  have hk:k<t.len:=by rw[<-hlen i r hr];exact(List.getElem?_eq_some_iff.1 hx).1
  have hj:i*t.len+k<l.length*t.len:=by
   have:=RN t.len (show i+1<=l.length by omega)
   rw[R1]at this;omega
  obtain⟨a,u',x',e1,e2,e3,e4,e5,e6⟩:=hnews _ hj;have q1:(i*t.len+k) / t.len=i:=by rw[Nat.mul_comm,Nat.mul_add_div ht,Nat.div_eq_of_lt hk];omega
  have q2:(i*t.len+k) % t.len=k:=by rw[Nat.mul_comm,Nat.mul_add_mod,SN hk]
  rw[q1,q2,hr]at e5;simp only[SO]at e5;rw[hx]at e5;cases e5
  exact⟨u',e3,e6⟩
 ·obtain⟨j,hj,rfl⟩:=Sa hv
  rw[hnl]at hj;obtain⟨a,u',x,e1,e2,e3,e4,e5,e6⟩:=hnews j hj;rw[v2 (by rw[hnl];exact hj)]at e3
  cases e3
  obtain⟨d1,d2⟩:=hdm j hj;have hr:=v2 d1;rw[hr]at e5;simp only[SO]at e5;refine FQ e6 ?_
  have hm:=congrArg (fun l=>l[j % t.len]?) (h3 _ _ hr)
  simp only[y8,e5,RL]at hm;exact List.all_eq_true.1 ho _ (y1 hm.symm)
theorem L0{us:List Value}{t:Ty}{l:List (List AV)}(h:RowsDen F w us t l)(hl:us.length=l.length*t.len)(ht:0<t.len)(ho:t.leaves=true):∀v∈us,aT v=true:=by
 intro v hv;obtain⟨j,hj,rfl⟩:=Sa hv;have d1:j / t.len<l.length:=(SC ht).2 (by omega)
 have d2:j % t.len<t.len:=Nat.mod_lt _ ht
 have hr:=v2 d1;have hm:=h.1 _ _ hr;have hlen:=congrArg Sw hm;rw[Sc,Ty.list_len]at hlen;have hx:=v2 (l:=l[j / t.len]) (i:=j % t.len) (by omega)
 obtain⟨u,hu,hd⟩:=h.2 _ _ _ _ hr hx;rw[SM,v2 hj]at hu;cases hu
 refine FQ hd ?_
 have hm2:=congrArg (fun l=>l[j % t.len]?) hm
 simp only[y8,hx,RL]at hm2;exact List.all_eq_true.1 ho _ (y1 hm2.symm)
theorem RowsDen.app{us vs:List Value}{t:Ty}{l m:List (List AV)}(h1:RowsDen F w us t l)(h2:RowsDen F w vs t m)(hl:us.length=l.length*t.len):RowsDen F w (us++vs) t (l++m):=by
 refine⟨fun i r hr=>?_,fun i r k x hr hx=>?_⟩
 ·by_cases hi:i<l.length
  ·rw[v1 hi]at hr;exact h1.1 i r hr
  ·rw[v0 (by omega)]at hr;exact h2.1 _ r hr
 ·by_cases hi:i<l.length
  ·rw[v1 hi]at hr
   obtain⟨u,hu,hd⟩:=h1.2 i r k x hr hx;exact⟨u,by rw[v1 (List.getElem?_eq_some_iff.1 hu).1];exact hu,hd⟩
  ·rw[v0 (by omega)]at hr
   obtain⟨u,hu,hd⟩:=h2.2 _ r k x hr hx;have e:i*t.len=l.length*t.len+(i-l.length)*t.len:=by rw[<-RU];congr 1;omega
   refine⟨u,by rw[v0 (by omega)];rw[<-hu];congr 1;omega,hd⟩
theorem eS(l m:E):(den env (cb l m)).l=(den env l).l++(den env m).l:=by
 induction m generalizing l with
 |snoc m r ih _=>simp[cb,den,ih]
 |lnil=>simp[cb,den]
 |_=>simp only[cb];split<;>simp[den]
theorem rc{base base':Nat}{e:TypeId}{size:Nat}{v:Value}{n:Nat}{xs:List Value}(h:w.ownsRow base e size v n xs)(hb:base'<=base):w.ownsRow base' e size v n xs:=
 ⟨h.1,h.2.imp id (fun⟨g,cap,cur,h1,h2,r⟩=>⟨g,cap,cur,h1,RV hb h2,r⟩)⟩
theorem mJ{base t ty e:Nat}{i:TypeInfo}{z:Value}{size:Nat}(ht:P.underlying t=some (.slice e))(hi:P.info? e=some i)(hz:i.zero=some z)(hsize:i.size=size)(hzs:z.cells.size=size)(hsz:0<size)(hby:0<i.bytes)
  {v:Value} {n:Nat} {xs:List Value} (hown:w.ownsRow base e size v n xs) {A:Option Addr} {m c B:Nat} {news:List Value} (hS:Span w B size A m news) (h1:∀u∈news,aT u=true) (hbytes:(n+m)*i.bytes<=140737488355328) (hbase:base<=w.heap.size):
  ∃v' w',(Builtin.append_ #[t,t] ty #[v,.slice A m c]).run P w=.ok v' w'/\w'.ownsRow base e size v' (n+m) (xs++news)/\w.grownBy w' (ak v)/\∀k,ak v'=some k->ak v=some k\/w.heap.size<=k:=by
 have h63:n+m<=maxLen:=by
  have:=RV (RO (n+m) hby) hbytes
  unfold maxLen;omega
 have h1':∀u∈news,u.oneCell'=true:=fun u hu=>by rw[<-pt];exact h1 u hu
 have hob:∀u:Value,(∃A n c,u=.slice A n c)->u.ownBlock=ak u:=fun u ⟨A,n,c,h⟩=>by rw[h];cases A<;>rfl
 cases A with
 | none=>
  have hn:news=[]:=by
   cases news with
   |nil=>rfl
   |cons u l=>obtain⟨a,ha,_⟩:=hS.2 0 u rfl;cases ha
  have hm:m=0:=by
   have h0:=hS.1;rw[hn,Ss]at h0;rcases RT m with h|h
   ·exact h
   ·have:=Sn h hsz;omega
  obtain⟨v',w',r1,r2,r3⟩:=Di (P:=P) (w:=w) base t ty e i z size i.bytes ht hi hz hsize rfl hzs hsz v n xs hown none m c B news hS h1' h63 hbytes hbase
  have hr:(Builtin.append_ #[t,t] ty #[v,.slice none m c]).run P w=.ok v w:=by
   subst hm;rcases hown.2 with⟨rfl,rfl⟩|⟨g,cap,cur,rfl,_,_,hnc,_⟩
   ·simp[Builtin.append_,run_underlying ht,sizeOf,typeInfo,hi,Builtin.lenOf,Builtin.firstCells]
   ·simp[Builtin.append_,run_underlying ht,sizeOf,typeInfo,hi,Builtin.lenOf,Builtin.firstCells,hnc,storeCells]
  rw[hr]at r1;cases r1
  exact⟨v,w,hr,r2,iP _ _,fun k hk=>.inl hk⟩
 | some ad=>
  have hnews:∀j u,news[j]?=some u->w.cell? (ad.add j)=some u:=fun j u hu=>by obtain⟨a',e1,_,e2⟩:=hS.2 j u hu;cases e1;exact e2
  obtain⟨v',w',r1,r2,r3,_⟩:=run_append_own (P:=P) w base t ty e i z size i.bytes ht hi hz hsize rfl hzs hsz v n xs hown ad m c news hS.1 hnews h1' h63 hbytes hbase
  refine⟨v',w',r1,r2,?_,fun k hk=>?_⟩
  ·rcases hown.2 with⟨rfl,_⟩|⟨g,cap,cur,rfl,_⟩<;>exact r3
  ·rcases hown.2 with⟨rfl,rfl⟩|⟨g,cap,cur,rfl,hbg,hg,hnc,hcm,hcs,htake⟩
   ·have hx:xs=[]:=v9 (by simpa using hown.1)
    subst hx;obtain⟨b,w2,q1,q2,_⟩:=run_append_own (P:=P) w w.heap.size t ty e i z size i.bytes ht hi hz hsize rfl hzs hsz (.slice none 0 0) 0 [] (World.ownsRow_nil _ _ _ _) ad m c news hS.1 hnews h1' h63 hbytes (RJ _)
    rw[r1]at q1;cases q1
    right
    refine(q2.lt k ?_).1
    rw[<-hk];rcases q2.2 with⟨rfl,_⟩|⟨g,cap,cur,rfl,_⟩<;>rfl
   ·by_cases hroom:n+m<=cap
    ·have hfit:n*i.size+news.length<=cur.size:=by rw[hS.1,hcs,hsize,<-RU];exact RN _ hroom
     have hr:=run_append_room (P:=P) w t ty e i ht hi g n cap cur hg ad m c news (by rw[hsize];exact hS.1) hnews h1' hroom hfit
     rw[r1]at hr;cases hr
     left;exact hk
    ·have hr:=run_append_grow (P:=P) w t ty e i z ht hi hz ⟨g,0,none⟩ n cap xs (by rw[hsize];exact hown.1) (hown.cells (g:=g) rfl) ad m c news (by rw[hsize];exact hS.1) hnews (by omega) (by unfold maxLen at h63;omega) (growslice_fits (by omega) hbytes)
     rw[r1]at hr;cases hr
     right;cases hk;exact RJ _
theorem lk(h:Rel w0 env κ F U tmp blk L a w){x:SV}{u:Value}(hx:SVden env κ F w x u){ty:Option Ty}{l:E}(hl:cW blk x=some (ty,l)){t:Ty}(hty:ty.all (·=t)=true)(ht:0<t.len)(ho:t.leaves=true):
  ∃A c news,u=.slice A (den env l).l.length c/\Span w w.heap.size t.len A (den env l).l.length news/\RowsDen F w news t (den env l).l/\∀v∈news,aT v=true:=by
 unfold cW at hl;split at hl
 ·cases hl
  simp only[R3,decide_eq_true_eq]at hty;subst hty;exact xD hx h.F ht ho
 ·cases hl
  rw[show u=_ from hx]
  exact⟨none,0,[],rfl,Span.nil _ _ _ _,⟨fun i r hr=>by simp[den]at hr,fun i r k x hr=>by simp[den]at hr⟩,by simp⟩
 ·rename_i b
  split at hl
  ·rename_i e t' l' hb
   cases hl
   simp only[R3,decide_eq_true_eq]at hty;subst hty;obtain⟨us,hown,hpos,hrow⟩:=h.blks b _ hb;have hp:=L0 hrow hown.1 ht ho;rw[show u=κ b from hx.1]
   rcases hown.2 with⟨e1,e2⟩|⟨g,cap,cur,e1,_⟩
   ·rw[e1]at hown⊢
    have hus:us=[]:=v9 (by rw[hown.1,e2];simp)
    subst hus;exact⟨none,0,[],by rw[e2],by rw[e2];exact Span.nil _ _ _ _,hrow,by simp⟩
   ·rw[e1]at hown⊢
    exact⟨_,_,us,rfl,Span.of_own hown,hrow,hp⟩
  ·rename_i e t' l' hb
   cases hl
   simp only[R3,decide_eq_true_eq]at hty;subst hty;rw[show u=κ b from hx.1]
   exact xD (h.blks b _ hb).1 h.F ht ho
  ·cases hl
 ·cases hl
theorem gk{o:Oper}{s x:Operand}{t:Nat}(ho:o.op=.call { callee:=.builtin .append,args:=#[s,x],argTypes:=#[t,t] }){v':Value}
  (hr:(Builtin.append_ #[t,t] o.type #[a.eval s,a.eval x]).run P w=.ok v' w'):cZ P o a w v' w':=.inl (by
 unfold execOp;simp only[ho,resolve,invoke,builtin,Sem.run_bind,Sem.run_pure,Result.andThen_ok,RX,R0,R5,hr])
theorem tJ{e:Nat}{i:TypeInfo}{z:SV}(hi:P.info? e=some i)(hz:cj P e=some z):∃zv,i.zero=some zv/\z=cz zv:=by
 unfold cj at hz;obtain⟨zv,h1,rfl⟩:=Option.map_eq_some_iff.1 hz;rw[hi]at h1;exact⟨zv,h1,rfl⟩
theorem Ga{o:Oper}{s x:Operand}{t ety:Nat}{row:Ty}(ho:o.op=.call { callee:=.builtin .append,args:=#[s,x],argTypes:=#[t,t] })(h:Rel w0 env κ F U tmp blk L a w)(ht:bv P t=some (ety,row)){m:Nat}(hm:¬U m)
  {ty:Option Ty} {lx l:E} (hx:cW blk (ai tmp x)=some (ty,lx)) (hty:ty.all (·=row)=true)
  (hn:∀e∈fg (cb l lx) (P.bytesOf ety),(den env e).b=true) {wr:List (Nat×Option SB)}
  (hs:(ai tmp s=.nilsl/\l=.lnil/\wr=[(m,some (.row ety row (cb l lx)))])\/∃d,ai tmp s=.row d/\blk d=some (.row ety row l)/\wr=[(d,some (.dead l)),(m,some (.row ety row (cb l lx)))]):
  aY P w0 env κ F U tmp blk L a w o (.row m) wr:=by
 obtain⟨u1,u2,u3,_,u5,u6,u7,u8⟩:=bL ht;obtain⟨z,hz1,hzs⟩:=Option.map_eq_some_iff.1 u8;obtain⟨i,hi,hz⟩:=Option.bind_eq_some_iff.1 hz1;have hsize:i.size=row.len:=by rw[u2];unfold Program.cellsOf;rw[hi];rfl
 have hbytes:P.bytesOf ety=i.bytes:=by unfold Program.bytesOf;rw[hi];rfl
 obtain⟨A,c,news,e1,e2,e3,e4⟩:=lk h (h.ev x) hx hty u3 u7;have hroom:((den env l).l.length+(den env lx).l.length)*i.bytes<=140737488355328:=by
  have h1:=bz (aO hn);rw[cV,bV]at h1;change decide ((((den env (cb l lx)).l.length:Int))*(P.bytesOf ety:Int)<=140737488355328)=true at h1
  have h2:=of_decide_eq_true h1;rw[eS,y0,hbytes]at h2;rw[<-R4]at h2;generalize ((den env l).l.length+(den env lx).l.length)*i.bytes=q at h2⊢
  omega
 have hle:=h.below.size;rcases hs with⟨h1,rfl,rfl⟩|⟨d,h1,h2,rfl⟩
 ·have hes:=h.ev s
  rw[h1]at hes;obtain⟨v',w',r1,r2,r3,r4⟩:=mJ (P:=P) (ty:=o.type) u1 hi hz hsize hzs u3 (by omega) (World.ownsRow_nil w w.heap.size ety row.len) e2 e4 (c:=c) hroom (RJ _)
  rw[Su,Sd]at r2;have hvk:∀k,ak v'=some k->w.heap.size<=k:=fun k hk=>(r4 k hk).resolve_left (by simp[ak])
  refine⟨v',w',upd κ m v',F,gk ho (by rw[show a.eval s=_ from hes,e1];exact r1),?_,⟨(au κ m v').symm,?_⟩,?_⟩
  rotate_left 2
  ·refine⟨fun b hb=>ag (fun e=>hm (e▸hb)),fun _ h=>h,fun _ h=>.inl h,r3.size,fun k hk _=>r3.block k hk (by simp[ak]),fun b k h1 h2=>?_,.of fun k hk=>.inr (r3.block k hk (by simp[ak]))⟩
   by_cases e:b=m
   ·subst e;rw[au]at h2;exact .inl (hvk k h2)
   ·rw[ag e]at h2
    rw[show aH blk [(m,some (SB.row ety row (cb .lnil lx)))] b=_ from ag e]at h1
    exact .inr ⟨b,h1,h2⟩
  ·have hbel:Below w.heap.size w w':=⟨r3.os,r3.tape,r3.output,r3.size,fun k hk=>r3.block k hk (by simp[ak])⟩
   have hold:∀b k,aD (blk b)=true->ak (κ b)=some k->k<w.heap.size:=fun b k hb hk=>by
    obtain⟨y,hy,hl⟩:=bF hb;exact((h.blks b y hy).lt hl hk).2
   have hne:∀b,U b->b≠m:=fun b hb e=>hm (e▸hb)
   have hlive:∀b,aD (upd blk m (some (SB.row ety row (cb .lnil lx))) b)=true->b=m\/(aD (blk b)=true/\b≠m):=fun b hb=>by
    by_cases e:b=m
    ·exact .inl e
    ·rw[ag e]at hb;exact .inr ⟨hb,e⟩
   refine h.world (fun b hb=>.inl hb) (fun b hb=>ag (hne b hb)) (fun k hk=>hk) (fun k hF=>hbel.block k (h.F k hF)) (fun b y hy=>?_) (fun b q k hb hq h1 h2=>?_) (fun b k hb h1=>?_) (fun k hF=>Sg (h.F k hF) hbel.size) (h.below.trans (hbel.mono hle))
   ·by_cases e:b=m
    ·subst e;rw[show aH blk [(b,some (SB.row ety row (cb .lnil lx)))] b=_ from au _ _ _]at hy;cases hy
     refine .inr ⟨⟨news,?_,u3,?_⟩,.inr ⟨_,List.mem_singleton.2 rfl,rfl⟩,fun c hc=>by cases hc⟩
     ·rw[au,eS]
      simp only[den,AV.l_sl,Sd];exact rc r2 hle
     ·rw[eS]
      simp only[den,AV.l_sl,Sd];exact e3.keep (fun _ h=>h) (fun k hk=>hbel.block k (h.F k hk))
    ·rw[show aH blk [(m,some (SB.row ety row (cb .lnil lx)))] b=_ from ag e]at hy
     exact .inl ⟨hy,fun hl k h1=>hbel.block k (hold b k (by rw[hy];exact hl) h1)⟩
   ·rcases hlive b hb with rfl|⟨hb1,hb2⟩<;>rcases hlive q hq with rfl|⟨hq1,hq2⟩
    ·rfl
    ·rw[au]at h1;rw[ag hq2]at h2
     have:=hold q _ hq1 h2;have:=hvk k h1;omega
    ·rw[au]at h2;rw[ag hb2]at h1
     have:=hold b _ hb1 h1;have:=hvk k h2;omega
    ·rw[ag hb2]at h1;rw[ag hq2]at h2
     exact h.inj b q k hb1 hq1 h1 h2
   ·rcases hlive b hb with rfl|⟨hb1,hb2⟩
    ·rw[au]at h1
     intro hF;have:=h.F _ hF;have:=hvk k h1;omega
    ·rw[ag hb2]at h1;exact h.nF b k hb1 h1
  ·rcases r2.2 with⟨rfl,_⟩|⟨g,cap,cur,rfl,_⟩<;>rfl
 ·have hes:=h.ev s
  rw[h1]at hes;obtain⟨us,hown,hpos,hrow⟩:=h.blks d _ h2;obtain⟨v',w',r1,r2,r3,r4⟩:=mJ (P:=P) (ty:=o.type) u1 hi hz hsize hzs u3 (by omega) hown e2 e4 (c:=c) hroom hle
  refine⟨v',w',upd κ m v',F,gk ho (by rw[show a.eval s=_ from hes.1,e1];exact r1),?_,⟨(au κ m v').symm,?_⟩,h.moved_kept h2 rfl rfl rfl hm r3 r4⟩
  ·have hbel:Below w0.heap.size w0 w':=h.below.trans ⟨r3.os,r3.tape,r3.output,r3.size,fun k hk=>r3.block k (by omega) (fun e=>by have:=((h.blks d _ h2).lt rfl e.symm).1;omega)⟩
   have hF2:∀k,F k->w'.heap[k]?=w.heap[k]?:=fun k hF=>r3.block k (h.F k hF) (fun e=>h.nF d k (by rw[h2];rfl) e.symm hF)
   refine(h.moved (y:=.row ety row (cb l lx)) (z:=.dead l) h2 rfl rfl ?_ rfl hm r3 r4 ⟨us++news,?_,u3,?_⟩ (fun c hc=>by cases hc) hbel).monoU (fun b hb=>?_)
   ·have hdm:d≠m:=fun e=>by subst e;exact hm (h.bnames d _ h2).1
    rcases hown.2 with⟨e,e'⟩|⟨g,cap,cur,e,_⟩
    ·exact⟨none,0,by rw[ag hdm,e,e']⟩
    ·exact⟨_,_,by rw[ag hdm,e]⟩
   ·rw[au,eS,y0];exact r2
   ·rw[eS]
    exact(hrow.app e3 hown.1).keep (fun _ h=>h) hF2
   ·rcases hb with hb|rfl
    ·exact .inl hb
    ·exact .inr ⟨_,v3 _ (List.mem_singleton.2 rfl),rfl⟩
  ·rcases r2.2 with⟨rfl,_⟩|⟨g,cap,cur,rfl,_⟩<;>rfl
theorem O1{o:Oper}{m ety:Nat}{row:Ty}{lE:E}{v':Value}{us:List Value}(h:Rel w0 env κ F U tmp blk L a w)(hm:¬U m)(hr:cZ P o a w v' w')(r2:w'.ownsRow w.heap.size ety row.len v' (den env lE).l.length us)(u3:0<row.len)(hrow:RowsDen F w us row (den env lE).l)(r3:w.grownBy w' none)(hvk:∀k,ak v'=some k->w.heap.size<=k):
  aY P w0 env κ F U tmp blk L a w o (.row m) [(m,some (.row ety row lE))]:=by
 have hle:=h.below.size;refine⟨v',w',upd κ m v',F,hr,?_,⟨(au κ m v').symm,?_⟩,?_⟩
 rotate_left 2
 ·refine⟨fun b hb=>ag (fun e=>hm (e▸hb)),fun _ h=>h,fun _ h=>.inl h,r3.size,fun k hk _=>r3.block k hk (by simp),fun b k h1 h2=>?_,.of fun k hk=>.inr (r3.block k hk (by simp))⟩
  by_cases e:b=m
  ·subst e;rw[au]at h2;exact .inl (hvk k h2)
  ·rw[ag e]at h2
   rw[show aH blk [(m,some (SB.row ety row lE))] b=_ from ag e]at h1
   exact .inr ⟨b,h1,h2⟩
 ·have hbel:Below w.heap.size w w':=⟨r3.os,r3.tape,r3.output,r3.size,fun k hk=>r3.block k hk (by simp)⟩
  have hold:∀b k,aD (blk b)=true->ak (κ b)=some k->k<w.heap.size:=fun b k hb hk=>by
   obtain⟨y,hy,hl⟩:=bF hb;exact((h.blks b y hy).lt hl hk).2
  have hne:∀b,U b->b≠m:=fun b hb e=>hm (e▸hb)
  have hlive:∀b,aD (upd blk m (some (SB.row ety row lE)) b)=true->b=m\/(aD (blk b)=true/\b≠m):=fun b hb=>by
   by_cases e:b=m
   ·exact .inl e
   ·rw[ag e]at hb;exact .inr ⟨hb,e⟩
  refine h.world (fun b hb=>.inl hb) (fun b hb=>ag (hne b hb)) (fun k hk=>hk) (fun k hF=>hbel.block k (h.F k hF)) (fun b y hy=>?_) (fun b q k hb hq h1 h2=>?_) (fun b k hb h1=>?_) (fun k hF=>Sg (h.F k hF) hbel.size) (h.below.trans (hbel.mono hle))
  ·by_cases e:b=m
   ·subst e;rw[show aH blk [(b,some (SB.row ety row lE))] b=_ from au _ _ _]at hy;cases hy
    refine .inr ⟨⟨us,?_,u3,?_⟩,.inr ⟨_,List.mem_singleton.2 rfl,rfl⟩,fun c hc=>by cases hc⟩
    ·rw[au];exact rc r2 hle
    ·exact hrow.keep (fun _ h=>h) (fun k hk=>hbel.block k (h.F k hk))
   ·rw[show aH blk [(m,some (SB.row ety row lE))] b=_ from ag e]at hy
    exact .inl ⟨hy,fun hl k h1=>hbel.block k (hold b k (by rw[hy];exact hl) h1)⟩
  ·rcases hlive b hb with rfl|⟨hb1,hb2⟩<;>rcases hlive q hq with rfl|⟨hq1,hq2⟩
   ·rfl
   ·rw[au]at h1;rw[ag hq2]at h2
    have:=hold q _ hq1 h2;have:=hvk k h1;omega
   ·rw[au]at h2;rw[ag hb2]at h1
    have:=hold b _ hb1 h1;have:=hvk k h2;omega
   ·rw[ag hb2]at h1;rw[ag hq2]at h2
    exact h.inj b q k hb1 hq1 h1 h2
  ·rcases hlive b hb with rfl|⟨hb1,hb2⟩
   ·rw[au]at h1
    intro hF;have:=h.F _ hF;have:=hvk k h1;omega
   ·rw[ag hb2]at h1;exact h.nF b k hb1 h1
 ·rcases r2.2 with⟨rfl,_⟩|⟨g,cap,cur,rfl,_⟩<;>rfl
theorem El{o:Oper}{s x:Operand}{t ety:Nat}{row:Ty}(ho:o.op=.call { callee:=.builtin .append,args:=#[s,x],argTypes:=#[t,t] })(h:Rel w0 env κ F U tmp blk L a w)(ht:bv P t=some (ety,row))
  {ty:Option Ty} {lx l:E} (hx:cW blk (ai tmp x)=some (ty,lx)) (hty:ty.all (·=row)=true)
  (hn:∀e∈fg (cb l lx) (P.bytesOf ety),(den env e).b=true) {d:Nat} (hs:ai tmp s=.row d) (hd:blk d=some (.ice 1 row l))
  (hm0:¬(den env lx).l.length=0):∃v' w' us,cZ P o a w v' w'/\w'.ownsRow w.heap.size ety row.len v' (den env (cb l lx)).l.length us/\w.grownBy w' none/\RowsDen F w us row (den env (cb l lx)).l/\0<row.len/\∀k,ak v'=some k->w.heap.size<=k/\k<w'.heap.size:=by
 obtain⟨u1,u2,u3,_,u5,u6,u7,u8⟩:=bL ht;obtain⟨z,hz1,hzs⟩:=Option.map_eq_some_iff.1 u8;obtain⟨i,hi,hz⟩:=Option.bind_eq_some_iff.1 hz1;have hsize:i.size=row.len:=by rw[u2];unfold Program.cellsOf;rw[hi];rfl
 have hbytes:P.bytesOf ety=i.bytes:=by unfold Program.bytesOf;rw[hi];rfl
 obtain⟨A,c,news,e1,e2,e3,e4⟩:=lk h (h.ev x) hx hty u3 u7;have hroom:((den env l).l.length+(den env lx).l.length)*i.bytes<=140737488355328:=by
  have h1:=bz (aO hn);rw[cV,bV]at h1;change decide ((((den env (cb l lx)).l.length:Int))*(P.bytesOf ety:Int)<=140737488355328)=true at h1
  have h2:=of_decide_eq_true h1;rw[eS,y0,hbytes]at h2;rw[<-R4]at h2;generalize ((den env l).l.length+(den env lx).l.length)*i.bytes=q at h2⊢
  omega
 have hle:=h.below.size;have hes:=h.ev s;rw[hs]at hes;obtain⟨hden,hfull⟩:=h.blks d _ hd;obtain⟨A0,hA0⟩:=hfull rfl;obtain⟨A1,c1,olds,f1,f2,f3,f4⟩:=xD hden h.F u3 u7;have hsv:a.eval s=.slice A1 (den env l).l.length (den env l).l.length:=by
  rw[show a.eval s=κ d from hes.1,f1]
  rw[f1]at hA0;cases hA0;rfl
 have hkap:κ d=.slice A1 (den env l).l.length (den env l).l.length:=by rw[<-hsv];exact hes.1.symm
 have happ:(den env (cb l lx)).l=(den env l).l++(den env lx).l:=eS l lx
 have hnews:∃ad,A=some ad/\∀j u,news[j]?=some u->w.cell? (ad.add j)=some u:=by
  have hlen:=e2.1;have hpos:0<news.length:=by rw[hlen];exact Sn (by omega) u3
  obtain⟨ad,h1,_,_⟩:=e2.2 0 _ (v2 hpos);refine⟨ad,h1,fun j u hu=>?_⟩
  obtain⟨a',h2,_,h3⟩:=e2.2 j u hu;rw[h1]at h2;cases h2;exact h3
 obtain⟨ad,rfl,hcells⟩:=hnews;have h63:(den env l).l.length+(den env lx).l.length<=maxLen:=by
  have:=RV (RO _ (show 0<i.bytes by omega)) hroom
  unfold maxLen;omega
 have hrun:∃v' w',(Builtin.append_ #[t,t] o.type #[a.eval s,a.eval x]).run P w=.ok v' w'/\w'.ownsRow w.heap.size ety row.len v' ((den env l).l.length+(den env lx).l.length) (olds++news)/\w.grownBy w' none:=by
  rw[hsv,e1];cases A1 with
  | none=>
   have hn0:olds=[]:=by
    cases olds with
    |nil=>rfl
    |cons u l=>obtain⟨a,ha,_⟩:=f2.2 0 u rfl;cases ha
   have hm:(den env l).l.length=0:=by
    have h0:=f2.1;rw[hn0,Ss]at h0;rcases RT (den env l).l.length with h|h
    ·exact h
    ·have:=Sn h u3;omega
   rw[hm,hn0];rw[hm]at hroom;obtain⟨v',w',r1,r2,r3,r4⟩:=mJ (P:=P) (ty:=o.type) u1 hi hz hsize hzs u3 (by omega) (World.ownsRow_nil w w.heap.size ety row.len) e2 e4 (c:=c) hroom (RJ _)
   exact⟨v',w',r1,r2,by simpa[ak]using r3⟩
  | some b=>
   exact run_append_arg_grows (P:=P) w t o.type ety i z row.len i.bytes u1 hi hz hsize rfl hzs u3 b _ _ olds f2.1 (fun j u hu=>by
    obtain⟨a',h2,_,h3⟩:=f2.2 j u hu;cases h2;exact h3) ad _ c news e2.1 hcells (by omega) h63 hroom
 obtain⟨v',w',r1,r2,r3⟩:=hrun;refine⟨v',w',olds++news,gk ho r1,by rw[happ,y0];exact r2,r3,by rw[happ];exact f3.app e3 f2.1,u3,fun k hk=>?_⟩
 rcases r2.2 with⟨rfl,_⟩|⟨g,cap,cur,rfl,hg,hcur,_⟩
 ·cases hk
 ·cases hk
  refine⟨hg,?_⟩
  exact(Array.getElem?_eq_some_iff.1 hcur).1
theorem Ge{o:Oper}{s x:Operand}{t ety:Nat}{row:Ty}(ho:o.op=.call { callee:=.builtin .append,args:=#[s,x],argTypes:=#[t,t] })(h:Rel w0 env κ F U tmp blk L a w)(ht:bv P t=some (ety,row))
  {ty:Option Ty} {lx l:E} (hx:cW blk (ai tmp x)=some (ty,lx)) (hty:ty.all (·=row)=true)
  (hn:∀e∈aU (.cmp' .lt (.int 0) lx.len')++fg (cb l lx) (P.bytesOf ety),(den env e).b=true) {d:Nat} (hs:ai tmp s=.row d) (hd:blk d=some (.ice 1 row l)) {m:Nat} (hm:¬U m):
  aY P w0 env κ F U tmp blk L a w o (.row m) [(m,some (.row ety row (cb l lx)))]:=by
 have n1:=bz (aO fun e he=>hn e (v6 _ he))
 rw[bV]at n1;have n1:(0:Int)<((den env lx).l.length:Int):=of_decide_eq_true n1
 obtain⟨v',w',us,r1,r2,r3,r4,r5,r6⟩:=El ho h ht hx hty (fun e he=>hn e (v4 _ he)) hs hd (by omega)
 exact O1 h hm r1 r2 r5 r4 r3 (fun k hk=>(r6 k hk).1)
theorem E8{o:Oper}{s x:Operand}{t ety:Nat}{row:Ty}(ho:o.op=.call { callee:=.builtin .append,args:=#[s,x],argTypes:=#[t,t] })(h:Rel w0 env κ F U tmp blk L a w)(ht:bv P t=some (ety,row))
  {ty:Option Ty} {lx l:E} (hx:cW blk (ai tmp x)=some (ty,lx)) (hty:ty.all (·=row)=true)
  (hn:∀e∈fg (cb l lx) (P.bytesOf ety),(den env e).b=true) {d:Nat} (hs:ai tmp s=.row d) (hd:blk d=some (.ice 1 row l)):
  aY P w0 env κ F U tmp blk L a w o (.vs row (cb l lx)) []:=by
 obtain⟨u1,u2,u3,_,u5,u6,u7,u8⟩:=bL ht;obtain⟨z,hz1,hzs⟩:=Option.map_eq_some_iff.1 u8;obtain⟨i,hi,hz⟩:=Option.bind_eq_some_iff.1 hz1;have hsize:i.size=row.len:=by rw[u2];unfold Program.cellsOf;rw[hi];rfl
 have hbytes:P.bytesOf ety=i.bytes:=by unfold Program.bytesOf;rw[hi];rfl
 obtain⟨A,c,news,e1,e2,e3,e4⟩:=lk h (h.ev x) hx hty u3 u7;have hroom:((den env l).l.length+(den env lx).l.length)*i.bytes<=140737488355328:=by
  have h1:=bz (aO hn);rw[cV,bV]at h1;change decide ((((den env (cb l lx)).l.length:Int))*(P.bytesOf ety:Int)<=140737488355328)=true at h1
  have h2:=of_decide_eq_true h1;rw[eS,y0,hbytes]at h2;rw[<-R4]at h2;generalize ((den env l).l.length+(den env lx).l.length)*i.bytes=q at h2⊢
  omega
 have hle:=h.below.size;have hes:=h.ev s;rw[hs]at hes;obtain⟨hden,hfull⟩:=h.blks d _ hd;obtain⟨A0,hA0⟩:=hfull rfl;obtain⟨A1,c1,olds,f1,f2,f3,f4⟩:=xD hden h.F u3 u7;have hsv:a.eval s=.slice A1 (den env l).l.length (den env l).l.length:=by
  rw[show a.eval s=κ d from hes.1,f1]
  rw[f1]at hA0;cases hA0;rfl
 have hkap:κ d=.slice A1 (den env l).l.length (den env l).l.length:=by rw[<-hsv];exact hes.1.symm
 have happ:(den env (cb l lx)).l=(den env l).l++(den env lx).l:=eS l lx
 by_cases hm0:(den env lx).l.length=0
 ·have hnil:(den env lx).l=[]:=v9 hm0
  refine aw h (u:=κ d) ?_ ?_
  ·refine gk ho ?_
   rw[hsv,e1,hkap,hm0];cases A1<;>cases A<;>simp[Builtin.append_,run_underlying u1,sizeOf,typeInfo,hi,Builtin.lenOf,Builtin.firstCells,storeCells,loadCells,loadCellsFrom]
  ·show Den F w _ (.sl row _)
   rw[happ,hnil,Sz];exact hden
 ·have hnews:∃ad,A=some ad/\∀j u,news[j]?=some u->w.cell? (ad.add j)=some u:=by
   have hlen:=e2.1;have hpos:0<news.length:=by rw[hlen];exact Sn (by omega) u3
   obtain⟨ad,h1,_,_⟩:=e2.2 0 _ (v2 hpos);refine⟨ad,h1,fun j u hu=>?_⟩
   obtain⟨a',h2,_,h3⟩:=e2.2 j u hu;rw[h1]at h2;cases h2;exact h3
  obtain⟨ad,rfl,hcells⟩:=hnews;have h63:(den env l).l.length+(den env lx).l.length<=maxLen:=by
   have:=RV (RO _ (show 0<i.bytes by omega)) hroom
   unfold maxLen;omega
  have hrun:∃v' w',(Builtin.append_ #[t,t] o.type #[a.eval s,a.eval x]).run P w=.ok v' w'/\w'.ownsRow w.heap.size ety row.len v' ((den env l).l.length+(den env lx).l.length) (olds++news)/\w.grownBy w' none:=by
   rw[hsv,e1];cases A1 with
   | none=>
    have hn0:olds=[]:=by
     cases olds with
     |nil=>rfl
     |cons u l=>obtain⟨a,ha,_⟩:=f2.2 0 u rfl;cases ha
    have hm:(den env l).l.length=0:=by
     have h0:=f2.1;rw[hn0,Ss]at h0;rcases RT (den env l).l.length with h|h
     ·exact h
     ·have:=Sn h u3;omega
    rw[hm,hn0];rw[hm]at hroom;obtain⟨v',w',r1,r2,r3,r4⟩:=mJ (P:=P) (ty:=o.type) u1 hi hz hsize hzs u3 (by omega) (World.ownsRow_nil w w.heap.size ety row.len) e2 e4 (c:=c) hroom (RJ _)
    exact⟨v',w',r1,r2,by simpa[ak]using r3⟩
   | some b=>
    exact run_append_arg_grows (P:=P) w t o.type ety i z row.len i.bytes u1 hi hz hsize rfl hzs u3 b _ _ olds f2.1 (fun j u hu=>by
     obtain⟨a',h2,_,h3⟩:=f2.2 j u hu;cases h2;exact h3) ad _ c news e2.1 hcells (by omega) h63 hroom
  obtain⟨v',w',r1,r2,r3⟩:=hrun;have hbel:Below w.heap.size w w':=⟨r3.os,r3.tape,r3.output,r3.size,fun k hk=>r3.block k hk (by simp)⟩
  have hvk:∀k,ak v'=some k->w.heap.size<=k/\k<w'.heap.size:=fun k hk=>by
   rcases r2.2 with⟨rfl,_⟩|⟨g,cap,cur,rfl,hg,hcur,_⟩
   ·cases hk
   ·cases hk
    refine⟨hg,?_⟩
    exact(Array.getElem?_eq_some_iff.1 hcur).1
  have hold:∀b k,aD (blk b)=true->ak (κ b)=some k->k<w.heap.size:=fun b k hb hk=>by
   obtain⟨y,hy,hl⟩:=bF hb;exact((h.blks b y hy).lt hl hk).2
  have hrel:Rel w0 env κ (fun k=>F k\/ak v'=some k) U tmp blk L a w':=by
   refine h.world (fun _ h=>h) (fun _ _=>rfl) (fun k hk=>.inl hk) (fun k hF=>hbel.block k (h.F k hF)) (fun b y hy=>.inl ⟨hy,fun hl k h1=>hbel.block k (hold b k (by rw[hy];exact hl) h1)⟩) (fun b q k hb hq h1 h2=>h.inj b q k hb hq h1 h2) (fun b k hb h1=>?_) (fun k hk=>?_) (h.below.trans (hbel.mono hle))
   ·rintro (hF|hF)
    ·exact h.nF b k hb h1 hF
    ·have:=hold b k hb h1;have:=(hvk k hF).1;omega
   ·rcases hk with hF|hF
    ·exact Sg (h.F k hF) hbel.size
    ·exact(hvk k hF).2
  refine⟨v',w',κ,fun k=>F k\/ak v'=some k,gk ho r1,hrel.monoU (fun b hb=>.inl hb),?_,fun _ _=>rfl,fun k hk=>.inl hk,fun k hk=>hk.imp id fun hk=>.inl (hvk k hk).1,r3.size,fun k hk _=>hbel.block k hk,fun b k h1 h2=>.inr ⟨b,h1,h2⟩,.of fun k hk=>.inr (hbel.block k hk)⟩
  show Den _ w' v' (.sl row (den env (cb l lx)).l)
  rw[happ];have hrow:RowsDen (fun k=>F k\/ak v'=some k) w' (olds++news) row ((den env l).l++(den env lx).l):=(f3.app e3 f2.1).keep (fun k hk=>.inl hk) (fun k hk=>hbel.block k (h.F k hk))
  have hlen:(den env l).l.length+(den env lx).l.length=((den env l).l++(den env lx).l).length:=by simp
  rcases r2.2 with⟨_,e'⟩|⟨g,cap,cur,rfl,g1,g2,g3,g4,_⟩
  ·omega
  ·rw[hlen]at g3 r2⊢
   refine Den.mk rfl g3 g4 hrow.1 (fun _=>⟨_,rfl,.inr rfl,fun i r hr k y hy=>?_⟩)
   obtain⟨u,h1,h2⟩:=hrow.2 i r k y hr hy;exact⟨u,r2.cells (g:=g) rfl _ _ h1,h2⟩
theorem mq(h:Rel w0 env κ F U tmp blk L a w){x:Option Operand}{d e:E}(hx:dn (ai tmp) x d=some e):(x=none/\e=d)\/∃o,x=some o/\ai tmp o=.vi e/\a.eval o=.int .i64 (den env e).i:=by
 unfold dn at hx;split at hx
 ·cases hx;exact .inl ⟨rfl,rfl⟩
 ·rename_i o
  split at hx
  ·rename_i e' he
   cases hx
   have:=h.ev o
   rw[he]at this;exact .inr ⟨o,rfl,he,this.1⟩
  ·cases hx
theorem qk{lo hi len:E}(hn:∀e∈ez lo hi len,(den env e).b=true):0<=(den env lo).i/\(den env lo).i<=(den env hi).i/\(den env hi).i<=(den env len).i:=by
 unfold ez at hn;have h1:=bz (aO fun e he=>hn e (v6 _ (v6 _ he)))
 have h2:=bz (aO fun e he=>hn e (v6 _ (v4 _ he)))
 have h3:=bz (aO fun e he=>hn e (v4 _ he))
 exact⟨of_decide_eq_true h1,of_decide_eq_true h2,of_decide_eq_true h3⟩
theorem qh(h:Rel w0 env κ F U tmp blk L a w){lo hi:Option Operand}{d0 d1 l q:E}(hl:dn (ai tmp) lo d0=some l)(hh:dn (ai tmp) hi d1=some q){n c lv qv:Nat}(hd1:q=d1->(den env q).i=n)(hd0:l=d0->(den env l).i=0)
  (hlv:(lv:Int)=(den env l).i) (hqv:(qv:Int)=(den env q).i) (hqc:qv<=c) (hlq:lv<=qv):(Instr.sliceBounds true n c (lo.map a.eval) (hi.map a.eval) none).run P w=.ok (lv,qv,c) w:=by
 have e1:∀o,hi=some o->a.eval o=.int .i64 (qv:Int):=fun o e=>by
  rcases mq h hh with⟨e2,_⟩|⟨o',e2,_,e3⟩
  ·rw[e]at e2;cases e2
  ·rw[e]at e2;cases e2;rw[e3,hqv]
 have e2:hi=none->qv=n:=fun e=>by
  rcases mq h hh with⟨_,e2⟩|⟨o',e2,_⟩
  ·have:=hd1 e2;omega
  ·rw[e]at e2;cases e2
 have e3:∀o,lo=some o->a.eval o=.int .i64 (lv:Int):=fun o e=>by
  rcases mq h hl with⟨e2,_⟩|⟨o',e2,_,e3⟩
  ·rw[e]at e2;cases e2
  ·rw[e]at e2;cases e2;rw[e3,hlv]
 have e4:lo=none->lv=0:=fun e=>by
  rcases mq h hl with⟨_,e2⟩|⟨o',e2,_⟩
  ·have:=hd0 e2;omega
  ·rw[e]at e2;cases e2
 cases hi with
 | none=>
  have:=e2 rfl
  subst this;cases lo with
  |none=>have:=e4 rfl;subst this;simp[Instr.sliceBounds]
  |some o=>
   have:=e3 o rfl
   simp[Instr.sliceBounds,Instr.sliceBound,asIntOf,this]
   try (intro hh;exfalso;omega)
 | some o=>
  have h5:=e1 o rfl;cases lo with
  |none=>have:=e4 rfl;subst this;simp[Instr.sliceBounds,Instr.sliceBound,asIntOf,h5];try (intro hh;exfalso;omega)
  |some o'=>
   have h6:=e3 o' rfl;simp[Instr.sliceBounds,Instr.sliceBound,asIntOf,h5,h6]
   rw[if_pos (by omega)]
   simp[hlq]
theorem Ot{o:Oper}{t ety:Nat}{row ty:Ty}{x:Operand}{lo hi:Option Operand}(ho:o.op=.slice t x lo hi none)(h:Rel w0 env κ F U tmp blk L a w)(ht:bv P t=some (ety,row)){e l q:E}(hx:ai tmp x=.vs ty e)(hty:ty=row)
  (hl:dn (ai tmp) lo (.int 0)=some l) (hh:dn (ai tmp) hi e.len'=some q) (hn:∀x∈ez l q e.len',(den env x).b=true):
  aY P w0 env κ F U tmp blk L a w o (.vs ty (if lo.isNone then .take e q else .drop (.take e q) l)) []:=by
 subst hty;obtain⟨u1,u2,u3,_,u5,_⟩:=bL ht;have hev:=h.ev x;rw[hx]at hev;obtain⟨A,c,g1,g2,g3,g4,g5⟩:=Den.view hev;obtain⟨n1,n2,n3⟩:=qk hn;rw[bV]at n3;simp only[AV.i_int]at n3;have hc:=maxLen;obtain⟨lv,hlv⟩:∃k:Nat,(k:Int)=(den env l).i:=⟨(den env l).i.toNat,by omega⟩
 obtain⟨qv,hqv⟩:∃k:Nat,(k:Int)=(den env q).i:=⟨(den env q).i.toNat,by omega⟩
 have hql:qv<=(den env e).l.length:=by omega
 have hlq:lv<=qv:=by omega
 have hsz:=bO (w:=w) u5;have hb:=qh (P:=P) (w:=w) h hl hh (n:=(den env e).l.length) (c:=c) (by intro e2;rw[e2,bV];rfl) (by intro e2;rw[e2];rfl) hlv hqv (by omega) hlq
 have hrun:(Instr.sliceAt t (a.eval x) (lo.map a.eval) (hi.map a.eval) none).run P w=.ok (.slice (if c=lv then A else A.map (·.add (lv*ty.len))) (qv-lv) (c-lv)) w:=by
  rw[g1];simp only[Instr.sliceAt,run_underlying u1,Sem.run_bind,Result.andThen_ok,Instr.slice,hb,hsz,Sem.run_pure,u2]
 have hR:cZ P o a w (.slice (if c=lv then A else A.map (·.add (lv*ty.len))) (qv-lv) (c-lv)) w:=.inl (by
  simp only[execOp,ho,RW,Sem.run_bind,hrun,Result.andThen_ok,Sem.run_pure])
 have hden:(den env (if lo.isNone then E.take e q else E.drop (.take e q) l)).l=((den env e).l.take qv).drop lv:=by
  cases lo with
  | none=>
   rcases mq h hl with⟨_,e2⟩|⟨o',e2,_⟩
   ·rw[e2]at hlv;simp only[den,AV.i_int]at hlv
    have:lv=0:=by omega
    subst this;simp[den,<-hqv]
   ·cases e2
  |some o=>simp[den,<-hqv,<-hlv]
 refine aw h hR ?_
 show Den F w _ (.sl ty (den env _).l)
 rw[hden];refine Den.mk (by simp;omega) (by omega) (by omega) (fun i r hr=>?_) (fun hne=>?_)
 ·rw[y2,v5]at hr
  split at hr
  ·exact g4 _ r hr
  ·cases hr
 ·have hlt:lv<qv:=by
   rcases Nat.lt_or_ge lv qv with h|h
   ·exact h
   ·exact absurd (v9 (by simp;omega)) hne
  obtain⟨p,rfl,hp,_⟩:=g5 0 _ (v2 (by omega))
  refine⟨p.add (lv*ty.len),?_,by rw[o4];exact hp,fun i r hr k y hy=>?_⟩
  ·rw[if_neg (by omega)];rfl
  ·rw[y2,v5]at hr
   split at hr
   ·obtain⟨p',e1,_,hc⟩:=g5 _ r hr
    cases e1
    obtain⟨u,hu,hd⟩:=hc k y hy;refine⟨u,?_,hd⟩
    rw[ip,<-hu];congr 2;rw[RU];omega
   ·cases hr
theorem GB{o:Oper}{t ety:Nat}{row ty:Ty}{x mx:Operand}{hi:Option Operand}(ho:o.op=.slice t x none hi (some mx))(h:Rel w0 env κ F U tmp blk L a w)(ht:bv P t=some (ety,row)){e q:E}(hx:ai tmp x=.vs ty e)(hty:ty=row)
  (hh:dn (ai tmp) hi (.int 0)=some q) (hmx:dn (ai tmp) (some mx) (.int 0)=some q) (his:hi.isSome=true) (hn:∀x∈ez (.int 0) q e.len',(den env x).b=true) {m:Nat} (hm:¬U m):
  aY P w0 env κ F U tmp blk L a w o (.row m) [(m,some (.ice 1 ty (.take e q)))]:=by
 subst hty;obtain⟨u1,u2,u3,_,u5,_⟩:=bL ht;have hev:=h.ev x;rw[hx]at hev;obtain⟨A,c,g1,g2,g3,g4,g5⟩:=Den.view hev;obtain⟨_,n2,n3⟩:=qk hn;rw[bV]at n3;simp only[AV.i_int,den]at n2 n3;obtain⟨qv,hqv⟩:∃k:Nat,(k:Int)=(den env q).i:=⟨(den env q).i.toNat,by omega⟩
 have hql:qv<=(den env e).l.length:=by omega
 have hsz:=bO (w:=w) u5;obtain⟨ho',rfl⟩:∃o',hi=some o':=Option.isSome_iff_exists.1 his
 have d:a.eval ho'=.int .i64 (qv:Int):=by
  rcases mq h hh with⟨e2,_⟩|⟨o',e2,_,e3⟩
  ·cases e2
  ·cases e2;rw[e3,hqv]
 have f:a.eval mx=.int .i64 (qv:Int):=by
  rcases mq h hmx with⟨e2,_⟩|⟨o',e2,_,e3⟩
  ·cases e2
  ·cases e2;rw[e3,hqv]
 have hrun:(Instr.sliceAt t (a.eval x) none (some (a.eval ho')) (some (a.eval mx))).run P w=.ok (.slice A qv qv) w:=by
  rw[g1,d,f];have hqc:qv<=c:=by omega
  simp[Instr.sliceAt,run_underlying u1,Instr.slice,hsz,Instr.sliceBounds,Instr.sliceBound,asIntOf,hqc]
  intro _;cases A with
  |none=>rfl
  |some b=>cases b;simp[Addr.add]
 have hR:cZ P o a w (.slice A qv qv) w:=.inl (by
  simp only[execOp,ho,RW,RL,Sem.run_bind,hrun,Result.andThen_ok,Sem.run_pure])
 have hden:(den env (E.take e q)).l=(den env e).l.take qv:=by simp[den,<-hqv]
 have hD:Den F w (.slice A qv qv) (.sl ty (den env (E.take e q)).l):=by
  rw[hden];refine Den.mk (by simp;omega) (RJ _) (by omega) (fun i r hr=>?_) (fun hne=>?_)
  ·rw[v5]at hr
   split at hr
   ·exact g4 _ r hr
   ·cases hr
  ·have hlt:0<qv:=by
    rcases RT qv with h|h
    ·exact absurd (by rw[h];rfl) hne
    ·exact h
   obtain⟨p,rfl,hp,_⟩:=g5 0 _ (v2 (by omega))
   refine⟨p,rfl,hp,fun i r hr k y hy=>?_⟩
   rw[v5]at hr;split at hr
   ·obtain⟨p',e1,_,hc⟩:=g5 _ r hr
    cases e1
    exact hc k y hy
   ·cases hr
 have hne:∀b,U b->b≠m:=fun b hb e=>hm (e▸hb)
 have hlen:(den env (E.take e q)).l.length=qv:=by rw[hden];simp;omega
 have hlive:∀b,aD (upd blk m (some (SB.ice 1 ty (.take e q))) b)=true->aD (blk b)=true/\b≠m:=fun b hb=>by
  by_cases e:b=m
  ·subst e;rw[au]at hb;cases hb
  ·rw[ag e]at hb;exact⟨hb,e⟩
 refine⟨_,w,upd κ m (.slice A qv qv),F,hR,?_,⟨(au κ m _).symm,rfl⟩,fun b hb=>ag (hne b hb),fun _ h=>h,fun _ h=>.inl h,RJ _,fun _ _ _=>rfl,fun b k h1 h2=>?_,.of fun _ _=>.inr rfl⟩
 ·refine h.world (fun b hb=>.inl hb) (fun b hb=>ag (hne b hb)) (fun k hk=>hk) (fun _ _=>rfl) (fun b y hy=>?_) (fun b q k hb hq h1 h2=>?_) (fun b k hb h1=>?_) (fun k hF=>h.F k hF) h.below
  ·by_cases e2:b=m
   ·subst e2
    rw[show aH blk [(b,some (SB.ice 1 ty (.take e q)))] b=_ from au _ _ _]at hy;cases hy
    refine .inr ⟨⟨?_,fun _=>⟨A,?_⟩⟩,.inr ⟨_,List.mem_singleton.2 rfl,rfl⟩,fun c hc=>by cases hc⟩
    ·rw[au];exact hD
    ·rw[au,hlen]
   ·rw[show aH blk [(m,some (SB.ice 1 ty (.take e q)))] b=_ from ag e2]at hy
    exact .inl ⟨hy,fun _ _ _=>rfl⟩
  ·obtain⟨b1,b2⟩:=hlive b hb
   obtain⟨q1,q2⟩:=hlive q hq;rw[ag b2]at h1;rw[ag q2]at h2;exact h.inj b q k b1 q1 h1 h2
  ·obtain⟨b1,b2⟩:=hlive b hb
   rw[ag b2]at h1;exact h.nF b k b1 h1
 ·obtain⟨b1,b2⟩:=hlive b h1
  rw[ag b2]at h2;exact .inr ⟨b,b1,h2⟩
theorem ID{o:Oper}{t ety:Nat}{row:Ty}{x:Operand}{lo hi:Option Operand}(ho:o.op=.slice t x lo hi none)(h:Rel w0 env κ F U tmp blk L a w)(ht:bv P t=some (ety,row))(hx:ai tmp x=.nilsl){l q:E}
  (hl:dn (ai tmp) lo (.int 0)=some l) (hh:dn (ai tmp) hi (.int 0)=some q) (hn:∀x∈ez l q (.int 0),(den env x).b=true):aY P w0 env κ F U tmp blk L a w o .nilsl []:=by
 obtain⟨u1,u2,u3,_,u5,_⟩:=bL ht;have hev:=h.ev x;rw[hx]at hev;obtain⟨n1,n2,n3⟩:=qk hn;simp only[den,AV.i_int]at n3;have hb:=qh (P:=P) (w:=w) h hl hh (n:=0) (c:=0) (lv:=0) (qv:=0) (by intro _;omega) (by intro _;omega) (by omega) (by omega) (by omega) (RJ _)
 have hsz:=bO (w:=w) u5;refine aw h (u:=.slice none 0 0) (.inl ?_) rfl
 have hrun:(Instr.sliceAt t (a.eval x) (lo.map a.eval) (hi.map a.eval) none).run P w=.ok (.slice none 0 0) w:=by
  rw[show a.eval x=_ from hev]
  simp only[Instr.sliceAt,run_underlying u1,Sem.run_bind,Result.andThen_ok,Instr.slice,hb,hsz,Sem.run_pure];rfl
 simp only[execOp,ho,RW,Sem.run_bind,hrun,Result.andThen_ok,Sem.run_pure]
theorem IW{o:Oper}{t ety:Nat}{row:Ty}{x:Operand}{hi:Option Operand}(ho:o.op=.slice t x none hi none)(h:Rel w0 env κ F U tmp blk L a w)(ht:bv P t=some (ety,row)){d m:Nat}(hm:¬U m)(hx:ai tmp x=.row d){l q:E}(hd:blk d=some (.row ety row l))
  (hi':hi.isSome=true) (hh:dn (ai tmp) hi (.int 0)=some q) (hn:∀x∈ez (.int 0) q l.len',(den env x).b=true):aY P w0 env κ F U tmp blk L a w o (.row m) [(d,some (.dead l)),(m,some (.row ety row (.take l q)))]:=by
 obtain⟨u1,u2,u3,_,u5,_⟩:=bL ht;have hev:=h.ev x;rw[hx]at hev;obtain⟨n1,n2,n3⟩:=qk hn;rw[bV]at n3;simp only[den,AV.i_int]at n2 n3;obtain⟨us,hown,hpos,hrow⟩:=h.blks d _ hd;obtain⟨qv,hqv⟩:∃k:Nat,(k:Int)=(den env q).i:=⟨(den env q).i.toNat,by omega⟩
 have hql:qv<=(den env l).l.length:=by omega
 have hsz:=bO (w:=w) u5;obtain⟨A,c,hκ,hc⟩:∃A c,κ d=.slice A (den env l).l.length c/\(den env l).l.length<=c:=by
  rcases hown.2 with⟨e,e'⟩|⟨g,cap,cur,e,_,_,hnc,_⟩
  ·exact⟨none,0,by rw[e,e'],by omega⟩
  ·exact⟨_,_,e,hnc⟩
 have hne:hi≠none:=fun e=>by rw[e]at hi';cases hi'
 have hb:(Instr.sliceBounds true (den env l).l.length c none (hi.map a.eval) none).run P w=.ok (0,qv,c) w:=by
  have e1:∃o,hi=some o/\a.eval o=.int .i64 (qv:Int):=by
   rcases mq h hh with⟨e2,_⟩|⟨o',e2,_,e3⟩
   ·exact absurd e2 hne
   ·exact⟨o',e2,by rw[e3,hqv]⟩
  obtain⟨o',rfl,h5⟩:=e1;simp[Instr.sliceBounds,Instr.sliceBound,asIntOf,h5];try (intro hh;exfalso;omega)
 have hid:A.map (·.add (0*P.cellsOf ety))=A:=by cases A<;>simp[Addr.add]
 have hrun:(Instr.sliceAt t (a.eval x) none (hi.map a.eval) none).run P w=.ok (.slice A qv c) w:=by
  rw[hev.1,hκ];simp only[Instr.sliceAt,run_underlying u1,Sem.run_bind,Result.andThen_ok,Instr.slice,hb,hsz,Sem.run_pure,hid,Nat.sub_zero,ite_self]
 have hR:cZ P o a w (.slice A qv c) w:=.inl (by
  simp only[execOp,ho,RW,Sem.run_bind,hrun,Result.andThen_ok,Sem.run_pure])
 have hbl:ak (.slice A qv c)=ak (κ d):=by rw[hκ];cases A<;>rfl
 have hdm:d≠m:=fun e=>by subst e;exact hm (h.bnames d _ hd).1
 refine⟨_,w,upd κ m (.slice A qv c),F,hR,?_,⟨(au κ m _).symm,rfl⟩,h.moved_kept hd rfl rfl rfl hm (iP _ _) (fun k hk=>.inl (by rw[<-hbl];exact hk))⟩
 refine(h.moved (y:=.row ety row (.take l q)) (z:=.dead l) hd rfl rfl ⟨A,c,by rw[ag hdm];exact hκ⟩ rfl hm (iP _ _) (fun k hk=>.inl (by rw[<-hbl];exact hk)) ⟨us.take (qv*row.len),?_,u3,fun i r hr=>?_,fun i r k y hr hy=>?_⟩ (fun c hc=>by cases hc) h.below).monoU (fun b hb=>?_)
 ·rw[au]
  have hlen:(den env (.take l q)).l.length=qv:=by simp[den,<-hqv];omega
  rw[hlen];have hmul:qv*row.len<=(den env l).l.length*row.len:=RN _ hql
  refine⟨by rw[RY,hown.1];omega,?_⟩
  rcases hown.2 with⟨e,e'⟩|⟨g,cap,cur,e,hb1,hb2,hnc,hcm,hcs,hcur⟩
  ·left
   rw[hκ]at e;injection e with e1 e2 e3
   subst e1;subst e3;have:qv=0:=by omega
   subst this;exact⟨rfl,rfl⟩
  ·right
   rw[hκ]at e;injection e with e1 e2 e3
   subst e1;subst e3;exact⟨g,c,cur,rfl,hb1,hb2,by omega,hcm,hcs,by rw[<-hcur,SQ,Sf hmul]⟩
 ·simp only[den,AV.l_sl]at hr
  rw[v5]at hr;split at hr
  ·exact hrow.1 i r hr
  ·cases hr
 ·simp only[den,AV.l_sl]at hr
  rw[v5]at hr;split at hr
  ·rename_i hi2
   obtain⟨u,hu,hd⟩:=hrow.2 i r k y hr hy;refine⟨u,?_,hd⟩
   rw[v5,if_pos ?_]
   ·exact hu
   ·rw[<-hqv]at hi2
    simp only[RP]at hi2;have hkl:k<row.len:=by
     have:=(List.getElem?_eq_some_iff.1 hy).1
     have b4:=congrArg Sw (hrow.1 i r hr);rw[Sc,Ty.list_len]at b4;omega
    have:=RN row.len (show i+1<=qv by omega)
    rw[R1]at this;omega
  ·cases hr
 ·rcases hb with hb|rfl
  ·exact .inl hb
  ·exact .inr ⟨_,v3 _ (List.mem_singleton.2 rfl),rfl⟩
theorem qz{z:Value}{n N:Nat}(hz:z.cells.size=n)(hn:0<n):((R8 (N*n)).map (fun j=>z.cells[j % z.cells.size]!)).toList=(v8 N z.cells.toList).flatten:=by
 subst hz;induction N with
 |zero=>simp
 |succ N ih=>
  rw[List.replicate_succ',List.flatten_append,<-ih];have e:(N+1)*z.cells.size=N*z.cells.size+z.cells.size:=R1 _ _
  rw[e];simp only[So,Array.toList_range,List.range_add,SP,List.map_map];congr 1
  simp only[Si,List.flatten_nil,Sz];refine SJ (fun i=>?_)
  simp only[y8,List.getElem?_range',Function.comp];by_cases hi:i<z.cells.size
  ·simp[hi,SN hi,Nat.add_comm,Nat.add_mul_mod_self_right]
  ·simp[hi]
theorem OZ(n:Nat){z:SV}{zc:Array Value}(hp:z.proper=true)(hz:SVden env κ F w z (.tuple zc)):∀(i:Nat) x u,((v8 n z.list).flatten)[i]?=some x->((v8 n zc.toList).flatten)[i]?=some u->SVden env κ F w x u:=by
 obtain⟨t1,t2⟩:=bJ hp hz;induction n with
 |zero=>intro i x u h;simp at h
 | succ n ih=>
  intro i x u h1 h2;rw[Sb,Si]at h1 h2;have hl:z.list.length=zc.toList.length:=by rw[list_len];simpa using t1.symm
  by_cases hi:i<z.list.length
  ·rw[v1 hi]at h1
   rw[v1 (by omega)]at h2
   obtain⟨v,h3,h4⟩:=t2 i x h1;rw[RM,h3]at h2;cases h2;exact h4
  ·rw[v0 (by omega)]at h1
   rw[v0 (by omega),<-hl]at h2
   exact ih _ x u h1 h2
theorem IU(h:Rel w0 env κ F U tmp blk L a w){o:Oper}{m ety n:Nat}{row:Ty}(hm:¬U m){l:E}{cs:Array Value}(hpos:0<row.len)(hn:(den env l).l.length=n)(hmax:n<=maxLen)(hs:cs.size=n*row.len)(hrow:RowsDen F w cs.toList row (den env l).l)
  (hr:cZ P o a w (.slice (some ⟨w.heap.size,0,none⟩) n n) (w.alloc (.cells cs ety))):aY P w0 env κ F U tmp blk L a w o (.row m) [(m,some (.row ety row l))]:=by
 refine HE h hm hr rfl ⟨cs.toList,?_,hpos,hrow.keep (fun _ h=>h) (fun k hk=>Below.heap_alloc _ _ _ (h.F k hk))⟩ (fun c hc=>by cases hc) ⟨(au κ m _).symm,rfl⟩
 rw[au,hn];exact World.ownsRow_lit (base:=w0.heap.size) (e:=ety) (size:=row.len) w cs n h.below.size hmax hs
theorem GP{o:Oper}{t len ety:Nat}{row:Ty}{parts:Array (Nat×Operand)}(ho:o.op=.buildSlice t len parts)(h:Rel w0 env κ F U tmp blk L a w){m:Nat}(hm:¬U m)(ht:bv P t=some (ety,row)){z:SV}(hz:cj P ety=some z)(hw:z.whole=true)(hzl:z.cells.len=row.len)
  {cs:List SV} {l:E} (hf:ir (fun i=>some (i*row.len,row.len)) ((v8 len z.cells.list).flatten) (parts.toList.map fun x=>(x.1,ai tmp x.2))=some cs) (hl:np row.len row len cs=some l) (hbig:len*row.len<=16777216) (hcl:cs.length=len*row.len):
  aY P w0 env κ F U tmp blk L a w o (.row m) [(m,some (.row ety row l))]:=by
 obtain⟨u1,u2,u3,⟨i,hi⟩,u5,u6,u7,u8⟩:=bL ht;obtain⟨zv,hz1,rfl⟩:=tJ hi hz;obtain⟨d1,d2⟩:=gr hw (dP (env:=env) (κ:=κ) (F:=F) (w:=w) zv)
 obtain⟨t1,t2⟩:=bJ d2 d1;have hzs:zv.cells.size=row.len:=by rw[t1,hzl]
 obtain⟨Z,hZ⟩:∃Z:Array Value,Z=(R8 (len*row.len)).map (fun j=>zv.cells[j % zv.cells.size]!):=⟨_,rfl⟩
 have hZl:Z.toList=(v8 len zv.cells.toList).flatten:=by rw[hZ];exact qz hzs u3
 have hZd:SVden env κ F w (.of ((v8 len (cz zv).cells.list).flatten)) (.tuple Z):=by
  have hlen:Z.toList.length=((v8 len (cz zv).cells.list).flatten).length:=by
   rw[hZl];simp[list_len,t1]
  have:=gu (env:=env) (κ:=κ) (F:=F) (w:=w) hlen (fun i x u h1 h2=>by rw[hZl]at h2;exact OZ len d2 d1 i x u h1 h2)
  simpa using this
 obtain⟨r,r1,r2,r3⟩:=wZ (env:=env) (κ:=κ) (F:=F) (w:=w) _ ((parts.map fun x=>(x.1,a.eval x.2)).toList) _ _ _ hf (by simp) (fun j p v h1 h2=>by
  simp only[y8,So]at h1 h2;obtain⟨x,h3,rfl⟩:=Option.map_eq_some_iff.1 h1;rw[h3]at h2;cases h2
  exact h.ev x.2) hZd
 obtain⟨s1,s2⟩:=bJ (bE _) r2;rw[Ie]at s1;rw[fz]at s2;obtain⟨b1,b2,b3⟩:=xk (env:=env) (κ:=κ) (F:=F) (w:=w) rfl len cs l r.toList hl hcl (by simp[s1]) (fun i x u h1 h2=>by
  obtain⟨v,h3,h4⟩:=s2 i x h1;rw[RM,h3]at h2;cases h2;exact h4)
 refine IU h hm u3 b1 ?_ (by rw[s1,hcl]) b2 (.inl ?_)
 ·have:len<=len*row.len:=RO _ u3
  unfold maxLen;omega
 ·have hsz:=bO (w:=w) u5
  have hrun:(Instr.buildSlice t len (parts.map fun x=>(x.1,a.eval x.2))).run P w=.ok (.slice (some ⟨w.heap.size,0,none⟩) len len) (w.alloc (.cells r ety)):=by
   simp only[Instr.buildSlice,run_underlying u1,Sem.run_bind,Result.andThen_ok,hsz,<-u2];rw[if_neg (by omega)]
   by_cases h0:len*row.len=0
   ·rw[if_pos h0]
    have hZ0:Z=#[]:=by rw[hZ,h0];simp
    rw[hZ0]at r1;rw[h0];have e0:∀f:Nat->Value,(R8 0).map f=#[]:=fun f=>by simp
    simp only[e0,Sem.run_bind,Sem.run_pure,Result.andThen_ok];simp at r1
    simp[r1,newRow]
   ·rw[if_neg h0]
    rw[hZ]at r1;simp[zeroValue,typeInfo,hi,hz1]
    simp[hzs]at r1
    simp[hzs,r1,newRow]
  simp only[execOp,ho];rw[Sem.run_bind,hrun,Result.andThen_ok,Sem.run_pure]
theorem IM{o:Oper}{t ety:Nat}{row:Ty}{x y:Operand}(ho:o.op=.makeSlice t x y)(h:Rel w0 env κ F U tmp blk L a w){m:Nat}(hm:¬U m)(ht:bv P t=some (ety,row)){z:SV}(hz:cj P ety=some z)(hw:z.whole=true)(hzl:z.cells.len=row.len)
  {r l:E} (hr:lS z.cells row=some r) (hx:ai tmp x=.vi l) (hy:ai tmp y=.vi l)
  (hn:∀e∈aU (.cmp' .le (.int 0) l)++aU (.cmp' .le (.ii' .mul l (.int (P.bytesOf ety))) (.int 140737488355328)),(den env e).b=true):
  aY P w0 env κ F U tmp blk L a w o (.row m) [(m,some (.row ety row (.rep l r)))]:=by
 obtain⟨u1,u2,u3,⟨i,hi⟩,u5,u6,u7,u8⟩:=bL ht;obtain⟨zv,hz1,rfl⟩:=tJ hi hz;obtain⟨d1,d2⟩:=gr hw (dP (env:=env) (κ:=κ) (F:=F) (w:=w) zv)
 obtain⟨t1,t2⟩:=bJ d2 d1;have hzs:zv.cells.size=row.len:=by rw[t1,hzl]
 obtain⟨q1,q2,q3,q4⟩:=zf hr d1;have hex:=h.ev x;have hey:=h.ev y;rw[hx]at hex;rw[hy]at hey;have n1:=bz (aO fun e he=>hn e (v6 _ he))
 have n2:=bz (aO fun e he=>hn e (v4 _ he))
 have n1:0<=(den env l).i:=of_decide_eq_true n1
 have n2:(den env l).i*(P.bytesOf ety:Int)<=140737488355328:=by rw[cV]at n2;exact of_decide_eq_true n2
 obtain⟨n,hnn⟩:∃n:Nat,(n:Int)=(den env l).i:=⟨(den env l).i.toNat,by omega⟩
 rw[<-hnn]at n2;have hbytes:P.bytesOf ety=i.bytes:=by unfold Program.bytesOf;rw[hi];rfl
 rw[hbytes]at n2 u6;rw[<-R4]at n2;have n3:n*i.bytes<=140737488355328:=by generalize n*i.bytes=q at n2⊢;omega
 have n4:n<=140737488355328:=RV (RO n u6) n3
 obtain⟨Z,hZ⟩:∃Z:Array Value,Z=(R8 (n*row.len)).map (fun j=>zv.cells[j % zv.cells.size]!):=⟨_,rfl⟩
 have hZl:Z.toList=(v8 n zv.cells.toList).flatten:=by rw[hZ];exact qz hzs u3
 refine IU h hm u3 (n:=n) (cs:=Z) (by simp[den,<-hnn]) (by unfold maxLen;omega) (by rw[hZ];simp) ?_ (.inl ?_)
 ·rw [hZl]
  simp only[den,AV.l_sl,<-hnn,RP];refine⟨fun j r' hr'=>?_,fun j r' k x hr' hx'=>?_⟩
  ·obtain⟨_,rfl⟩:=List.getElem?_eq_some_iff.1 hr'
   simp only[SA];exact q1
  ·have hj:=(List.getElem?_eq_some_iff.1 hr').1
   obtain⟨_,rfl⟩:=List.getElem?_eq_some_iff.1 hr';simp only[SA]at hx';obtain⟨u,hu,hd⟩:=q3 k x hx';refine⟨u,?_,hd⟩
   simp only[R6]at hj;have hk:k<row.len:=by rw[<-q2];exact(Array.getElem?_eq_some_iff.1 hu).1
   have key:∀(n j:Nat),j<n->((v8 n zv.cells.toList).flatten)[j*row.len+k]?=zv.cells[k]?:=by
    intro n;induction n with
    |zero=>intro j hj;omega
    | succ n ih=>
     intro j hj;rw[Sb,Si];cases j with
     |zero=>rw[v1 (by simp;omega)];simp
     |succ j=>
      rw[v0 (by simp[hzs,R1];omega),<-ih j (by omega)]
      congr 1;simp[hzs,R1];omega
   rw[key n j hj];exact hu
 ·have hsz:=bO (w:=w) u5
  have hwr:IntKind.i64.wrap (n:Int)=n:=nW (by omega)
  have b1:¬((i.bytes:Int)*n>281474976710656):=by
   rw[Int.mul_comm,<-R4];generalize n*i.bytes=q at n3⊢;omega
  have b2:¬(n*i.bytes>roomBytes):=by unfold roomBytes;generalize n*i.bytes=q at n3⊢;omega
  have hrun:(Instr.makeSlice t (a.eval x) (a.eval y)).run P w=.ok (.slice (some ⟨w.heap.size,0,none⟩) n n) (w.alloc (.cells Z ety)):=by
   rw[hex.1,hey.1,<-hnn];have b3:¬((n:Int)<0):=by omega
   have hti:(typeInfo ety).run P w=.ok i w:=by simp[typeInfo,hi]
   have c1:decide ((2:Int) ^ 48<(i.bytes:Int)*n)=false:=decide_eq_false (fun hh=>b1 (by simpa using hh))
   have c3:decide ((n:Int)<0)=false:=decide_eq_false b3
   have c2:(askRoom (n*i.bytes)).run P w=.ok () w:=by
    unfold askRoom;rw[if_neg b2];rfl
   simp only[Instr.makeSlice,run_underlying u1,Sem.run_bind,Sem.run_pure,Result.andThen_ok,asInt,asIntOf,hti,hwr,gt_iff_lt,c1,c3,Bool.false_or,Bool.or_false,Int.lt_irrefl,decide_false,SH,if_false,RP,c2,hsz,<-u2];by_cases h0:n*row.len=0
   ·rw[if_pos h0]
    have hZ0:Z=#[]:=by rw[hZ,h0];simp
    have e0:∀f:Nat->Value,(R8 0).map f=#[]:=fun f=>by simp
    rw[h0,hZ0];simp only[e0,Sem.run_bind,Sem.run_pure,Result.andThen_ok];simp[newRow]
   ·rw[if_neg h0]
    have hzv:(zeroValue ety).run P w=.ok zv w:=by simp[zeroValue,typeInfo,hi,hz1]
    simp only[hzv,Sem.run_bind,Sem.run_pure,Result.andThen_ok,<-hZ];simp[newRow]
  simp only[execOp,ho,Sem.run_bind,hrun,Result.andThen_ok,Sem.run_pure]
theorem Qs{x y:E}(h:(den env y).ty=.bool):(den env (.and' x y)).ty=.bool:=by
 unfold E.and';split<;>first|rfl|exact h
theorem HF{xs v:SV}{cs:Array Value}{off t:Nat}(hp:xs.proper=true)(h:SVden env κ F w xs (.tuple cs))(hv:DV P xs off t=some v):∃u,(part t cs off).run P w=.ok u w/\SVden env κ F w v u:=by
 unfold DV at hv;split at hv
 ·rename_i hc
  split at hv
  ·rename_i hag
   cases hv
   refine⟨.agg (cs.extract off (off+P.cellsOf t)),by rw[nZ hc.2,hag];rfl,_,rfl,bE _,?_⟩
   rw[Dk];exact A7 hp h _ _
  ·rename_i hag
   split at hv
   ·rename_i y hy
    cases hv
    obtain⟨u,hu,hd⟩:=wj hp h hy;have hag:bQ P t=false:=by simpa using hag
    exact⟨u,by rw[nZ hc.2,hag,hu];rfl,hd⟩
   ·cases hv
 ·cases hv
theorem Jw{f:Nat->SV->SV->Option E}{D:Nat}(hf:∀t x y u v e,f t x y=some e->SVden env κ F w x u->SVden env κ F w y v->(Op.equalIn D t u v).run P w=.ok (den env e).b w/\(den env e).ty=.bool)
  {xs ys:SV} {cs ds:Array Value} (hp:xs.proper=true) (hx:SVden env κ F w xs (.tuple cs)) (hq:ys.proper=true) (hy:SVden env κ F w ys (.tuple ds)):∀(fs:List Field) e,HD P f xs ys fs=some e →
  (Op.eqFields D cs ds fs).run P w=.ok (den env e).b w/\(den env e).ty=.bool
 |[],e,h=>by simp only[HD]at h;cases h;exact⟨rfl,rfl⟩
 | x :: fs,e,h=>by
  simp only[HD]at h;split at h
  ·rename_i hn
   split at h
   ·rename_i p q h1 h2
    split at h
    ·rename_i e1 es h3 h4
     cases h
     obtain⟨u,r1,d1⟩:=HF hp hx h1;obtain⟨v,r2,d2⟩:=HF hq hy h2;obtain⟨r3,t3⟩:=hf _ _ _ _ _ _ h3 d1 d2;obtain⟨r4,t4⟩:=Jw hf hp hx hq hy fs es h4;refine⟨?_,Qs t4⟩
     simp only[Op.eqFields,if_pos hn,Sem.run_bind,r1,r2,r3,Result.andThen_ok];rw[KB];cases(den env e1).b with
     |true=>simpa using r4
     |false=>simp
    ·cases h
   ·cases h
  ·cases h
theorem Cv:∀(d:Nat) (D t:Nat) (x y:SV) (u v:Value) (e:E),d<=D->sy P d t x y=some e->SVden env κ F w x u->SVden env κ F w y v->(Op.equalIn D t u v).run P w=.ok (den env e).b w/\(den env e).ty=.bool
 |0,_,_,_,_,_,_,_,_,h,_,_=>by cases h
 | d+1,D,t,x,y,u,v,e,hD,h,hx,hy=>by
  obtain⟨D,rfl⟩:∃k,D=k+1:=⟨D-1,by omega⟩
  simp only[sy]at h;split at h
  ·rename_i p q hu
   cases h
   rw[hx.1,hy.1,run_equalIn_bool w D t _ _ hu];exact⟨rfl,rfl⟩
  ·rename_i k p q hu
   cases h
   rw[hx.1,hy.1,run_equalIn_int w D t .i64 k _ _ hu,fw];exact⟨rfl,rfl⟩
  ·rename_i fs xs ys hu
   split at h
   ·cases h
   ·rename_i hs
    obtain⟨cs,rfl,hp,hx⟩:=hx;obtain⟨ds,rfl,hq,hy⟩:=hy;have hfs:P.fieldsOf t=fs:=by unfold Program.fieldsOf;rw[hu]
    rw[run_equalIn_struct w D t cs ds (by rw[hfs];exact hu) (by simpa using hs),hfs]
    exact Jw (fun t x y u v e h1 h2 h3=>Cv d D t x y u v e (by omega) h1 h2 h3) hp hx hq hy _ _ h
  ·cases h
theorem OG{o:Oper}{op:BinOp}{t ty:TypeId}{x y:Operand}(ho:o.op=.binOp op t x y ty)(h:Rel w0 env κ F U tmp blk L a w){needs:List E}{v:SV}{wr:List (Nat×Option SB)}
  {p q:SV} (hx:ai tmp x=p) (hy:ai tmp y=q) (hpq:(∃e f,p=.vb e/\q=.vb f)\/∃e f,p=.agg e/\q=.agg f) (hc:By P op t p q=.ok needs v wr):aY P w0 env κ F U tmp blk L a w o v wr:=by
 have hex:=h.ev x;have hey:=h.ev y;rw[hx]at hex;rw[hy]at hey;unfold By at hc;split at hc
 ·cases hc
 rename_i hg
 have hg:P.eqGuardType P.depth t=false:=by simpa using hg
 have hguard:(eqGuard op t x y (a.eval x) (a.eval y)).run P w=.ok () w:=by
  rcases hpq with⟨e,f,rfl,rfl⟩|⟨e,f,rfl,rfl⟩
  ·rw[hex.1,hey.1];unfold eqGuard;cases op<;>simp
  ·obtain⟨cs,e1,_⟩:=hex
   obtain⟨ds,e2,_⟩:=hey;rw[e1,e2];exact run_eqGuard_agg w op t x y cs ds hg
 have R:∀u:Value,(binOp op t (a.eval x) (a.eval y)).run P w=.ok u w->cZ P o a w u w:=fun u hu=>.inl (by
  simp only[execOp,ho,Sem.run_bind,hguard,Result.andThen_ok,hu,Sem.run_pure])
 have E1:∀e,sy P 12 t p q=some e->(Op.equal t (a.eval x) (a.eval y)).run P w=.ok (den env e).b w/\(den env e).ty=.bool:=fun e he=>Cv 12 10000 t p q _ _ e (by decide) he hex hey
 have B:∀e,sy P 12 t p q=some e->(binOp .eql t (a.eval x) (a.eval y)).run P w=.ok (.bool (den env e).b) w/\(binOp .neq t (a.eval x) (a.eval y)).run P w=.ok (.bool (!(den env e).b)) w:=fun e he=>by
  obtain⟨r,_⟩:=E1 e he;rcases hpq with⟨e',f,rfl,rfl⟩|⟨e',f,rfl,rfl⟩
  ·rw[hex.1,hey.1]at r⊢
   constructor
   ·simp only[binOp];simp[r]
   ·simp only[binOp];simp[r]
  ·obtain⟨cs,e1,_⟩:=hex
   obtain⟨ds,e2,_⟩:=hey;rw[e1,e2]at r⊢
   constructor
   ·simp only[binOp];simp[r]
   ·simp only[binOp];simp[r]
 split at hc
 ·rename_i e he
  unfold im at hc;cases hc
  exact aw h (R _ (B e he).1) ⟨rfl,(E1 e he).2⟩
 ·rename_i e he
  unfold im at hc;cases hc
  exact aw h (R _ (B e he).2) ⟨by rw[ws],It e⟩
 ·cases hc
theorem Qy{o:Oper}{x:Operand}{t e:Nat}(ho:o.op=.call { callee:=.builtin .len,args:=#[x],argTypes:=#[t] })(h:Rel w0 env κ F U tmp blk L a w)(ht:P.underlying t=some (.slice e)){ty:Option Ty}{l:E}(hx:lenOf blk (ai tmp x)=some (ty,l)):
  aY P w0 env κ F U tmp blk L a w o (.vi l.len') []:=by
 have hex:=h.ev x;have hs:∃A c,a.eval x=.slice A (den env l).l.length c:=by
  unfold lenOf at hx;split at hx
  ·rename_i b hh
   rw[hh]at hex;split at hx
   ·rename_i e' t' l' hb
    cases hx
    obtain⟨us,hown,_⟩:=h.blks b _ hb;rw[hex.1];rcases hown.2 with⟨e1,e2⟩|⟨g,cap,cur,e1,_⟩
    ·exact⟨none,0,by rw[e1,e2]⟩
    ·exact⟨_,_,e1⟩
   ·rename_i e' t' l' hb
    cases hx
    obtain⟨A,c,e,_⟩:=Den.view (h.blks b _ hb).1;exact⟨A,c,hex.1.trans e⟩
   ·rename_i l' hb
    cases hx
    obtain⟨A,c,e⟩:=h.blks b _ hb;exact⟨A,c,hex.1.trans e⟩
   ·rename_i e' t' l' hb
    cases hx
    obtain⟨us,hown,_⟩:=h.blks b _ hb;rw[hex.1];rcases hown.2 with⟨e1,e2⟩|⟨g,o',cap,cur,e1,_⟩
    ·exact⟨none,0,by rw[e1,e2]⟩
    ·exact⟨_,_,e1⟩
   ·cases hx
  ·rename_i hne
   unfold cW at hx;split at hx
   ·rename_i hh
    cases hx
    rw[hh]at hex;obtain⟨A,c,e,_⟩:=Den.view hex;exact⟨A,c,e⟩
   ·rename_i hh
    cases hx
    rw[hh]at hex;exact⟨none,0,hex⟩
   ·rename_i b hh
    exact absurd hh (hne b)
   ·cases hx
 obtain⟨A,c,hs⟩:=hs;refine aw h (u:=.int .i64 ((den env l).l.length:Int)) (.inl ?_) ⟨by rw[bV];rfl,by rw[bV];rfl⟩
 unfold execOp;simp only[ho,resolve,invoke,builtin,Sem.run_bind,Sem.run_pure,Result.andThen_ok,RX,R0,R5,hs];simp[Builtin.len_,run_underlying ht,goInt]
theorem FL{o:Oper}{x y:Operand}{ts:Array Nat}{b:Builtin}{io:IOp}(hb:(b=.min/\io=.min)\/(b=.max/\io=.max))(ho:o.op=.call { callee:=.builtin b,args:=#[x,y],argTypes:=ts })(h:Rel w0 env κ F U tmp blk L a w)
  {p q:E} (hx:ai tmp x=.vi p) (hy:ai tmp y=.vi q):aY P w0 env κ F U tmp blk L a w o (.vi (.ii' io p q)) []:=by
 have hex:=h.ev x;have hey:=h.ev y;rw[hx]at hex;rw[hy]at hey;refine aw h (u:=.int .i64 (io.f (den env p).i (den env q).i)) (.inl ?_) ⟨by rw[cV];rfl,by rw[cV];rfl⟩
 unfold execOp;rcases hb with⟨rfl,rfl⟩|⟨rfl,rfl⟩
 ·simp only[ho,resolve,invoke,builtin,Sem.run_bind,Sem.run_pure,Result.andThen_ok,RX,R0,R5,hex.1,hey.1,run_min_int2]
  rfl
 ·simp only[ho,resolve,invoke,builtin,Sem.run_bind,Sem.run_pure,Result.andThen_ok,RX,R0,R5,hex.1,hey.1,run_max_int2]
  rfl
theorem Pq{o:Oper}{s x:Operand}{t t' ety d:Nat}{row:Ty}(ho:o.op=.call { callee:=.builtin .copy,args:=#[s,x],argTypes:=#[t,t'] })(h:Rel w0 env κ F U tmp blk L a w)(ht:bv P t=some (ety,row))(h1:row.len=1)
  (hs:ai tmp s=.row d) {ty:Option Ty} {l m:E} (hd:blk d=some (.row ety row l)) (hx:cW blk (ai tmp x)=some (ty,m)) (hty:ty.all (·=row)=true):
  aY P w0 env κ F U tmp blk L a w o (.vi (.ii' .min l.len' m.len')) [(d,some (.row ety row (.cpy l m)))]:=by
 obtain⟨u1,u2,u3,⟨i,hi⟩,u5,_,u7,_⟩:=bL ht;have hes:=h.ev s;rw[hs]at hes;obtain⟨us,hown,hpos,hrow⟩:=h.blks d _ hd;obtain⟨A,c,news,e1,e2,e3,e4⟩:=lk h (h.ev x) hx hty u3 u7;have hsize:i.size=1:=by rw[h1]at u2;rw[u2];unfold Program.cellsOf;rw[hi];rfl
 have hsz1:(P.info? ety).map (·.size)=some 1:=by rw[hi];simp[hsize]
 obtain⟨n,hn⟩:∃n,n=(den env l).l.length:=⟨_,rfl⟩
 obtain⟨q,hq⟩:∃q,q=(den env m).l.length:=⟨_,rfl⟩
 have hul:us.length=n:=by rw[hown.1,h1,hn,y7]
 have hnl:news.length=q:=by rw[e2.1,h1,hq,y7]
 have hv:den env (.ii' .min l.len' m.len')=.int ((R9 q n:Nat):Int):=by
  rw[cV,bV,bV];simp only[AV.i_int,IOp.f,<-hn,<-hq];congr 1
  by_cases hh:q<=n
  ·rw[show R9 q n=q from Sf hh];split<;>omega
  ·rw[show R9 q n=n from Sp (by omega)];rw[if_neg (by omega)]
 have hcl:(den env (.cpy l m)).l=(den env m).l.take n++(den env l).l.drop q:=by simp[den,<-hn,<-hq]
 have hcn:(den env (.cpy l m)).l.length=n:=by rw[hcl];simp[<-hn,<-hq];omega
 have hrows:∀us':List Value,us'=news.take n++us.drop q->RowsDen F w us' row (den env (.cpy l m)).l:=by
  intro us' hus';have one:∀(us:List Value) (L:List (List AV)),RowsDen F w us row L->∀(i:Nat) r x,L[i]?=some r->r[0]?=some x->∃u,us[i]?=some u/\Den F w u x:=fun us L hR i r x hr hx=>by
   obtain⟨u,hu,hdn⟩:=hR.2 i r 0 x hr hx;rw[h1]at hu;exact⟨u,by simpa using hu,hdn⟩
  refine⟨fun i r hr=>?_,fun i r k x hr hx=>?_⟩
  ·rw[hcl]at hr
   by_cases hi:i<((den env m).l.take n).length
   ·rw[v1 hi,v5]at hr
    split at hr
    ·exact e3.1 i r hr
    ·cases hr
   ·rw[v0 (by omega),y2]at hr
    exact hrow.1 _ r hr
  ·have hk:k=0:=by
    have hlen:r.length=row.len:=by
     have hty':r.map AV.ty=row.list:=by
      rw[hcl]at hr;by_cases hi:i<((den env m).l.take n).length
      ·rw[v1 hi,v5]at hr
       split at hr
       ·exact e3.1 i r hr
       ·cases hr
      ·rw[v0 (by omega),y2]at hr
       exact hrow.1 _ r hr
     have:=congrArg Sw hty'
     rw[Sc,Ty.list_len]at this;exact this
    have:=(List.getElem?_eq_some_iff.1 hx).1
    omega
   subst hk;rw[h1,y7,R2,hus'];rw[hcl]at hr;by_cases hi:i<((den env m).l.take n).length
   ·rw[v1 hi,v5]at hr
    split at hr
    ·rename_i hin
     obtain⟨u,hu,hdn⟩:=one _ _ e3 i r x hr hx;refine⟨u,?_,hdn⟩
     rw[v1 (by simp at hi⊢;omega),v5,if_pos hin];exact hu
    ·cases hr
   ·rw[v0 (by omega),y2]at hr
    obtain⟨u,hu,hdn⟩:=one _ _ hrow _ r x hr hx;refine⟨u,?_,hdn⟩
    have hl1:((den env m).l.take n).length=(news.take n).length:=by simp[hnl,<-hq]
    rw[v0 (by omega),y2,<-hl1];exact hu
 have R:∀v' w',(Builtin.copy_ #[t,t'] o.type #[a.eval s,a.eval x]).run P w=.ok v' w'->cZ P o a w v' w':=fun v' w' hr=>.inl (by
  unfold execOp;simp only[ho,resolve,invoke,builtin,Sem.run_bind,Sem.run_pure,Result.andThen_ok,RX,R0,R5,hr])
 have hF:∀g,ak (κ d)=some g->∀k,F k->k≠g:=fun g hg k hk e=>h.nF d g (by rw[hd];rfl) hg (e▸hk)
 by_cases h0:R9 q n=0
 ·
  have hnone:(Builtin.copy_ #[t,t'] o.type #[a.eval s,a.eval x]).run P w=.ok (goInt 0) w:=by
   obtain⟨A',c',hκ⟩:∃A' c',κ d=.slice A' n c':=by
    rcases hown.2 with⟨e,e'⟩|⟨g,cap,cur,e,_⟩
    ·exact⟨none,0,by rw[e,hn,e']⟩
    ·exact⟨_,_,by rw[e,hn]⟩
   rw[hes.1,hκ,e1,<-hq];exact run_copy_none (P:=P) w t t' o.type ety A' A n c' q c u1 hsz1 h0
  have hsame:den env (.cpy l m)=.sl .nil (den env l).l:=by
   show AV.sl .nil _=_
   congr 1
   rcases RT n with hz|hz
   ·have e:(den env l).l=[]:=v9 (by omega)
    simp[e]
   ·have hq0:q=0:=by
     rcases Nat.le_total q n with hh|hh
     ·rw[show R9 q n=q from Sf hh]at h0;exact h0
     ·rw[show R9 q n=n from Sp hh]at h0;omega
    have e:(den env m).l=[]:=v9 (by omega)
    simp[e]
  refine⟨_,w,κ,F,R _ _ hnone,?_,⟨by rw[hv,h0];rfl,by rw[hv];rfl⟩,?_⟩
  ·refine(h.stored (y:=.row ety row (.cpy l m)) hd rfl (fun _ _=>rfl) rfl ⟨us,?_,hpos,?_⟩ (fun c hc=>by cases hc) h.below).monoU (fun b hb=>.inl hb)
   ·rw[hsame];exact hown
   ·rw[hsame];exact hrow
  ·exact h.stored_kept hd rfl rfl (fun _ _=>rfl) rfl
 ·rcases hown.2 with⟨e,e'⟩|⟨g,cap,cur,e,hb1,hb2,hnc,hcm,hcs,hcur⟩
  ·exfalso;apply h0;rw[hn,e'];exact Sp (Nat.zero_le _)
  ·obtain⟨ad,rfl⟩:∃ad,A=some ad:=by
    have hlt:0<news.length:=by
     rw[hnl];rcases RT q with hz|hz
     ·exfalso;apply h0;rw[hz];exact Sf (Nat.zero_le _)
     ·exact hz
    obtain⟨ad,h2,_⟩:=e2.2 0 news[0] (v2 hlt);exact⟨ad,h2⟩
   have hmn:R9 q n<=q/\R9 q n<=n:=⟨Nat.min_le_left _ _,Nat.min_le_right _ _⟩
   have hlen:(news.take n).length=R9 q n:=by rw[RY,hnl];exact Nat.min_comm _ _
   rw[<-hn]at hnc hcur e;rw[h1,y7]at hcs hcur;have hrun:=run_copy_row (P:=P) w t t' o.type ety g 0 n cap ad q c cur ety (news.take n) u1 hsz1 hb2 hlen (fun j v hj=>by
    rw[v5]at hj;split at hj
    ·obtain⟨a',g1,_,g2⟩:=e2.2 j v hj
     cases g1;exact g2
    ·cases hj) (by rw[hlen];omega) (fun v hv=>by rw[<-pt];exact e4 v (SE hv))
   have hw:∀k,k≠g->∀cs',(w.setRow g cs').heap[k]?=w.heap[k]?:=fun k hk cs'=>setRow_other w g k cs' hk
   have hRun:=R (goInt (news.take n).length) _ (by rw[hes.1,e,e1,<-hq];exact hrun)
   rw[hlen]at hRun;refine⟨_,_,κ,F,hRun,?_,⟨by rw[hv];rfl,by rw[hv];rfl⟩,h.stored_kept hd rfl rfl (fun k hk=>hw k (fun e2=>hk (by rw[e,e2];rfl)) _) (by simp)⟩
   refine(h.stored (y:=.row ety row (.cpy l m)) hd rfl (fun k hk=>hw k (fun e2=>hk (by rw[e,e2];rfl)) _) (by simp) ⟨news.take n++us.drop q,?_,hpos,(hrows _ rfl).keep (fun _ h=>h) (fun k hk=>hw k (hF g (by rw[e];rfl) k hk) _)⟩ (fun c hc=>by cases hc) (nq h.below hb1)).monoU (fun b hb=>.inl hb)
   rw[hcn,e,h1];refine⟨by simp[hnl,hul];omega,.inr ⟨g,cap,_,rfl,hb1,setRow_heap w g cur _ ety (0,0) hb2,hnc,hcm,by simp only[SD,Sd,Su,Sj,y0,R7,RR,hlen];omega,?_⟩⟩
   simp only[y7,SD,Sd,Su];refine SJ (fun j=>?_)
   have hus:∀j,us[j]?=if j<n then cur.toList[j]? else none:=fun j=>by rw[<-hcur,v5]
   rw[v5];by_cases hj:j<n
   ·rw[if_pos hj]
    by_cases hj2:j<(news.take n).length
    ·rw[v1 hj2,v1 hj2]
    ·rw[v0 (by omega),v0 (by omega),y2,y2,hus]
     rw[hlen]at hj2⊢
     have hqn:q<n:=by
      rcases Nat.lt_or_ge q n with hh|hh
      ·exact hh
      ·rw[show R9 q n=n from Sp hh]at hj2;omega
     rw[show R9 q n=q from Sf (by omega)]at hj2⊢
     rw[if_pos (by omega)]
   ·rw[if_neg hj]
    symm
    rw[List.getElem?_eq_none];simp[hnl,hul];omega
theorem Fg(h:Rel w0 env κ F U tmp blk L a w)(l:Array Operand):SVden env κ F w (.of (l.toList.map (ai tmp))) (.tuple (l.map a.eval)):=by
 have:=gu (env:=env) (κ:=κ) (F:=F) (w:=w) (l:=l.toList.map (ai tmp)) (cs:=(l.map a.eval).toList) (by simp) (fun i x u hx hu=>by
  simp only[y8,So]at hx hu;obtain⟨y,hy,rfl⟩:=Option.map_eq_some_iff.1 hx;rw[hy]at hu;cases hu
  exact h.ev y)
 rwa [y9]at this
theorem kL{r c:Nat}{es:Array MapEntry}(o':Obj)(h:w.heap[r]?=some (.map es c)):(setObj r o').run P w=.ok () { w with heap:=w.heap.setIfInBounds r o' }:=by
 simp[setObj,Sem.run,h]
theorem JJ{o:Oper}{f:Nat}{first captured:Array Operand}(ho:o.op=.makeFunc (.func f) first captured)(h:Rel w0 env κ F U tmp blk L a w):aY P w0 env κ F U tmp blk L a w o (.fn f (.of (first.toList.map (ai tmp))) (.of (captured.toList.map (ai tmp)))) []:=by
 refine aw h (u:=.func (.func f) (first.map a.eval) (captured.map a.eval)) (.inl ?_) ⟨_,_,rfl,bE _,bE _,Fg h first,Fg h captured⟩
 simp[execOp,ho,Instr.makeFunc]
theorem Lk{o:Oper}{t m:Nat}(ho:o.op=.makeMap t none)(h:Rel w0 env κ F U tmp blk L a w)(hm:¬U m):aY P w0 env κ F U tmp blk L a w o (.map m) [(m,some (.map .nil .nil))]:=by
 refine⟨.map (some w.heap.size),w.alloc (.map #[] 0),upd κ m (.pointer (some ⟨w.heap.size,0,none⟩)),F,.inl ?_,?_,⟨w.heap.size,au ..,rfl⟩,h.new_kept hm rfl⟩
 ·simp[execOp,ho,Instr.makeMap]
 ·refine(h.new hm rfl (x:=.map .nil .nil) ⟨w.heap.size,#[],0,au ..,World.alloc_heap_new _ _,h.below.size,rfl,rfl,rfl,⟨fun i k v hk=>by simp[SV.list]at hk,fun e he=>by simp at he,fun e he=>by simp at he⟩⟩ (fun c hc=>by cases hc)).monoU (fun b hb=>?_)
  rcases hb with hb|rfl
  ·exact .inl hb
  ·exact .inr ⟨_,List.mem_singleton.2 rfl,rfl⟩
def f7(P:Program)(t:Nat)(u:Value):Prop:=
 (P.underlying t=some (.int .i64)/\∃n,u=.int .i64 n) ∨
 ∃fs f g n m,P.underlying t=some (.struct fs)/\fs=#[f,g]/\P.stoodInHeld t=false/\f.name ≠ "_" ∧ g.name ≠ "_" ∧ f.offset=0/\g.offset=1/\P.underlying f.type=some (.int .i64)/\P.underlying g.type=some (.int .i64)/\u=.agg #[.int .i64 n,.int .i64 m]
theorem xE{t:Nat}(h:xl P t=true):P.underlying t=some (.int .i64):=by
 unfold xl at h;split at h
 ·assumption
 ·cases h
theorem oj{t:Nat}{k:SV}{u:Value}(hk:oO P t k=true)(h:SVden env κ F w k u):f7 P t u:=by
 unfold oO at hk;split at hk
 ·exact .inl ⟨xE hk,_,h.1⟩
 ·split at hk
  ·rename_i fs hu
   split at hk
   ·rename_i f g hfs
    simp only[RZ,SK,bne_iff_ne,ne_eq,beq_iff_eq]at hk;obtain⟨⟨⟨⟨⟨⟨⟨⟨h0,h1⟩,h2⟩,h3⟩,h4⟩,h5⟩,h6⟩,_⟩,_⟩:=hk;obtain⟨cs,rfl,_,p,q,e,h7,p',q',e',h8,h9⟩:=h;cases e
    cases e'
    have hq:q'=[]:=by
     have:Value.tuple q'.toArray=.tuple #[]:=h9
     simp at this;exact this
    subst hq;exact .inr ⟨fs,f,g,_,_,hu,by rw[<-y9 (xs:=fs),hfs],h0,h1,h2,h3,h4,xE h5,xE h6,by rw[h7.1,h8.1]⟩
   ·cases hk
  ·cases hk
 ·cases hk
theorem IV{t:Nat}{u u':Value}(h:f7 P t u)(h':f7 P t u')(D:Nat):∃b,(Op.equalIn (D+2) t u u').run P w=.ok b w/\(b=true↔u=u'):=by
 rcases h with⟨h1,n,rfl⟩|⟨fs,f,g,n,m,h1,h2,h3,h4,h5,h6,h7,h8,h9,rfl⟩
 ·rcases h' with⟨_,n',rfl⟩|⟨fs,f,g,n',m',h1',_⟩
  ·exact⟨_,run_equalIn_int w (D+1) t .i64 .i64 n n' h1,by simp⟩
  ·rw[h1]at h1';cases h1'
 ·rcases h' with⟨h1',n',rfl⟩|⟨fs',f',g',n',m',h1',h2',_,_,_,_,_,_,_,rfl⟩
  ·rw[h1]at h1';cases h1'
  ·rw[h1]at h1'
   cases h1'
   rw[h2]at h2';cases h2'
   have hfs:P.fieldsOf t=#[f,g]:=by unfold Program.fieldsOf;rw[h1,h2]
   have hp:∀(t:Nat) (cs:Array Value) (off:Nat) (v:Value),P.underlying t=some (.int .i64)->cs[off]?=some v->(part t cs off).run P w=.ok v w:=fun t cs off v ht hv=>by
    unfold part;simp[isAgg,run_underlying ht,hv]
   refine⟨(n==n')&&(m==m'),?_,by simp⟩
   rw[run_equalIn_struct w (D+1) t _ _ (by rw[hfs,<-h2];exact h1) h3,hfs]
   have p1:=hp f.type #[.int .i64 n,.int .i64 m] f.offset (.int .i64 n) h8 (by rw[h6];rfl)
   have p2:=hp f.type #[.int .i64 n',.int .i64 m'] f.offset (.int .i64 n') h8 (by rw[h6];rfl)
   have p3:=hp g.type #[.int .i64 n,.int .i64 m] g.offset (.int .i64 m) h9 (by rw[h7];rfl)
   have p4:=hp g.type #[.int .i64 n',.int .i64 m'] g.offset (.int .i64 m') h9 (by rw[h7];rfl)
   have r1:=run_equalIn_int (P:=P) w D f.type .i64 .i64 n n' h8;have r2:=run_equalIn_int (P:=P) w D g.type .i64 .i64 m m' h9;simp only[Op.eqFields,if_pos h4,if_pos h5,Sem.run_bind,p1,p2,Result.andThen_ok];rw[r1];simp only[Result.andThen_ok];cases e:(n==n')with
   |true=>
    simp only[SW,SH,if_false,Sem.run_bind,p3,p4,Result.andThen_ok,Bool.true_and];rw[r2];simp only[Result.andThen_ok];cases e2:(m==m')<;>simp
   |false=>simp
theorem iE{t:Nat}{u:Value}(h:f7 P t u)(e:Bool)(n:Nat):(Instr.checkKey e (n+2) t u).run P w=.ok () w:=by
 rcases h with⟨h1,k,rfl⟩|⟨fs,f,g,k,m,h1,h2,h3,h4,h5,h6,h7,h8,h9,rfl⟩
 ·simp[Instr.checkKey,run_underlying h1]
 ·have hp:∀(t:Nat) (cs:Array Value) (off:Nat) (v:Value),P.underlying t=some (.int .i64)->cs[off]?=some v->(part t cs off).run P w=.ok v w:=fun t cs off v ht hv=>by
   unfold part;simp[isAgg,run_underlying ht,hv]
  have p1:=hp f.type #[.int .i64 k,.int .i64 m] f.offset _ h8 (by rw[h6];rfl)
  have p3:=hp g.type #[.int .i64 k,.int .i64 m] g.offset _ h9 (by rw[h7];rfl)
  have c1:∀v,(Instr.checkKey e (n+1) f.type (.int .i64 v)).run P w=.ok () w:=fun v=>by simp[Instr.checkKey,run_underlying h8]
  have c2:∀v,(Instr.checkKey e (n+1) g.type (.int .i64 v)).run P w=.ok () w:=fun v=>by simp[Instr.checkKey,run_underlying h9]
  rw[Instr.checkKey];simp only[Sem.run_bind,run_underlying h1,Result.andThen_ok,h2];simp[h4,h5,p1,p3,c1,c2]
theorem CG{t:Nat}{key:Value}(hk:f7 P t key):∀(es:List MapEntry),(∀e∈es,f7 P t e.key) →
  ∃r,(Instr.findKey t key es).run P w=.ok r w/\((r=none/\∀e∈es,e.key≠key)\/∃i,∃e∈es,e.key=key/\r=some (i,e.val)):=by
 intro es hes;have hask:∀(es:List MapEntry) (i:Nat),(∀e∈es,f7 P t e.key)->∃r,(Instr.findAsking t key es i).run P w=.ok r w/\((r=none/\∀e∈es,e.key≠key)\/∃i,∃e∈es,e.key=key/\r=some (i,e.val)):=by
  intro es;induction es with
  |nil=>intro i _;exact⟨none,by simp[Instr.findAsking],.inl ⟨rfl,fun e he=>by cases he⟩⟩
  | cons x es ih=>
   intro i hes;obtain⟨b,h1,h2⟩:=IV (w:=w) hk (hes x (v7 ..)) 9998
   have h1:(Op.equal t key x.key).run P w=.ok b w:=h1
   cases b with
   |true=>
    exact⟨some (i,x.val),by simp[Instr.findAsking,h1],.inr ⟨i,x,v7 ..,(h2.1 rfl).symm,rfl⟩⟩
   | false=>
    obtain⟨r,h3,h4⟩:=ih (i+1) (fun e he=>hes e (v3 _ he))
    refine⟨r,by simp[Instr.findAsking,h1,h3],?_⟩
    rcases h4 with⟨h4,h5⟩|⟨i,e,h4,h5⟩
    ·refine .inl ⟨h4,fun e he=>?_⟩
     rcases List.mem_cons.1 he with rfl|he
     ·intro hh;have:=h2.2 hh.symm;cases this
     ·exact h5 e he
    ·exact .inr ⟨i,e,v3 _ h4,h5⟩
 unfold Instr.findKey;rcases hk with⟨h1,n,rfl⟩|⟨fs,f,g,n,m,h1,h2,h3⟩
 ·have hnow:∀(es:List MapEntry) (i:Nat),(∀e∈es,f7 P t e.key)->∃r,Instr.findNow (.int .i64) (.int .i64 n) es i=some r/\((r=none/\∀e∈es,e.key≠.int .i64 n)\/∃i,∃e∈es,e.key=.int .i64 n/\r=some (i,e.val)):=by
   intro es;induction es with
   |nil=>intro i _;exact⟨none,rfl,.inl ⟨rfl,fun e he=>by cases he⟩⟩
   | cons x es ih=>
    intro i hes;rcases hes x (v7 ..)with⟨_,k,hxk⟩|⟨fs,f,g,n',m',h1',_⟩
    ·by_cases e:n=k
     ·subst e
      exact⟨some (i,x.val),by simp[Instr.findNow,Instr.sameNow,hxk],.inr ⟨i,x,v7 ..,hxk,rfl⟩⟩
     ·obtain⟨r,h3,h4⟩:=ih (i+1) (fun e he=>hes e (v3 _ he))
      have e0:(n==k)=false:=by simpa using e
      refine⟨r,by simp[Instr.findNow,Instr.sameNow,hxk,e0,h3],?_⟩
      rcases h4 with⟨h4,h5⟩|⟨i,e',h4,h5⟩
      ·refine .inl ⟨h4,fun e' he=>?_⟩
       rcases List.mem_cons.1 he with rfl|he
       ·rw[hxk];intro hh;cases hh;exact e rfl
       ·exact h5 e' he
      ·exact .inr ⟨i,e',v3 _ h4,h5⟩
    ·rw[h1]at h1';cases h1'
  obtain⟨r,h3,h4⟩:=hnow es 0 hes;exact⟨r,by simp[run_underlying h1,h3],h4⟩
 ·simp only[Sem.run_bind,run_underlying h1,Result.andThen_ok]
  cases es with
  |nil=>exact⟨none,by simp[Instr.findNow],.inl ⟨rfl,fun e he=>by cases he⟩⟩
  |cons x es=>
   have:Instr.findNow (.struct fs) key (x::es) 0=none:=by simp[Instr.findNow,Instr.sameNow]
   rw[this];exact hask (x::es) 0 hes
theorem FH{t:Nat}{ks vs:SV}{es:List MapEntry}(h:MapDen env κ F w ks vs es)(hk:ks.list.all (oO P t)=true):∀e∈es,f7 P t e.key:=fun e he=>by
 obtain⟨i,k,v,h1,h2,h3,_⟩:=h.2.1 e he;exact oj (List.all_eq_true.1 hk k (y1 h1)) h3
theorem Fr{t:Nat}{k k':SV}{u u':Value}{e:E}(he:sy P 12 t k k'=some e)(h:SVden env κ F w k u)(h':SVden env κ F w k' u')(hv:f7 P t u)(hv':f7 P t u'):(den env e).b=true↔u=u':=by
 obtain⟨b,h1,h2⟩:=IV (w:=w) hv hv' 9998
 have h3:=(Cv 12 10000 t k k' u u' e (by decide) he h h').1
 rw[h1]at h3;cases h3
 exact h2
theorem I7{x:SV}(h:isZ x=true):x=.vi (.int 0):=by
 unfold isZ at h;split at h
 ·rfl
 ·cases h
def En(t:Ty)(k:List AV)(u:Value):Prop:=
 (t=.cons .int (.cons .int .nil)/\∃n,k=[.int n]/\u=.int .i64 n)\/(t=.cons .int (.cons .int (.cons .int .nil))/\∃n m,k=[.int n,.int m]/\u=.agg #[.int .i64 n,.int .i64 m])
theorem Lf{t:Ty}{k r:List AV}{u:Value}{e:MapEntry}(hk:En t k u)(he:sB t r e):cJ k r=true↔e.key=u:=by
 rcases hk with⟨rfl,n,rfl,rfl⟩|⟨rfl,n,m,rfl,rfl⟩<;>rcases he with⟨ht,n',v,rfl,h1,_⟩|⟨ht,n',m',v,rfl,h1,_⟩
 ·rw[h1]
  simp only[cJ,SX];exact⟨fun h=>by have:=of_decide_eq_true h;simp only[AV.i_int]at this;rw[this],fun h=>by cases h;exact decide_eq_true rfl⟩
 ·cases ht
 ·cases ht
 ·rw[h1]
  simp only[cJ,SX,RZ];exact⟨fun h=>by have h1:=of_decide_eq_true h.1;have h2:=of_decide_eq_true h.2;simp only[AV.i_int]at h1 h2;rw[h1,h2],fun h=>by cases h;exact⟨decide_eq_true rfl,decide_eq_true rfl⟩⟩
theorem Ip{t:Ty}{k:List AV}{u:Value}(x:AV)(hk:En t k u):∀(L:List (List AV)) (es:List MapEntry),AZ t L es →
  ((∀e∈es,e.key≠u)->fj k x L=L++[k++[x]]/\dD k L=false/\cd k L=0) ∧
  (∀(i:Nat) e,es[i]?=some e->e.key=u->(∀(j:Nat) e',j<i->es[j]?=some e'->e'.key≠u)->fj k x L=L.set i (k++[x])/\dD k L=true/\e.val=.int .i64 (cd k L)):=by
 intro L;induction L with
 |nil=>
  intro es hes;have:es=[]:=List.length_eq_zero_iff.1 hes.1
  subst this;exact⟨fun _=>⟨rfl,rfl,rfl⟩,fun i e h=>by simp at h⟩
 | cons r L ih=>
  intro es hes;cases es with
  |nil=>have:=hes.1;simp at this
  | cons e es=>
   have hr:sB t r e:=hes.2 0 r e rfl rfl
   have htl:AZ t L es:=⟨by have:=hes.1;simpa using this,fun i r' e' h1 h2=>hes.2 (i+1) r' e' (by simpa using h1) (by simpa using h2)⟩
   have hkm:=Lf hk hr;obtain⟨i1,i2⟩:=ih es htl;refine⟨fun hno=>?_,fun i e' he' hkey hfst=>?_⟩
   ·have:cJ k r=false:=by
     cases hb:cJ k r with
     |false=>rfl
     |true=>exact absurd (hkm.1 hb) (hno e (v7 ..))
    obtain⟨j1,j2,j3⟩:=i1 (fun e' he'=>hno e' (v3 _ he'))
    simp[fj,dD,cd,this,j1,j2,j3]
   ·cases i with
    |zero=>
     simp at he';subst he'
     have hb:=hkm.2 hkey;refine⟨by simp[fj,hb],by simp[dD,hb],?_⟩
     simp only[cd,hb,cond_true];rcases hk with⟨rfl,n,rfl,rfl⟩|⟨rfl,n,m,rfl,rfl⟩<;>rcases hr with⟨ht,n',v,rfl,_,h2⟩|⟨ht,n',m',v,rfl,_,h2⟩
     ·rw[h2];rfl
     ·cases ht
     ·cases ht
     ·rw[h2];rfl
    | succ i=>
     have:cJ k r=false:=by
      cases hb:cJ k r with
      |false=>rfl
      |true=>exact absurd (hkm.1 hb) (hfst 0 e (by omega) rfl)
     obtain⟨j1,j2,j3⟩:=i2 i e' (by simpa using he') hkey (fun j e'' hj h=>hfst (j+1) e'' (by omega) (by simpa using h))
     simp[fj,dD,cd,this,j1,j2,j3]
theorem Jd{k:SV}{ke:E}{r:Ty}{u:Value}(hk:gJ k=some (ke,r))(h:SVden env κ F w k u):En r (den env ke).g u:=by
 unfold gJ at hk;split at hk
 ·cases hk
  refine .inl ⟨rfl,_,?_,h.1⟩
  show[den env _]=[_]
  rw[<-jO h.2]
 ·cases hk
  obtain⟨cs,rfl,_,p,q,e,h7,p',q',e',h8,h9⟩:=h;cases e
  cases e'
  have hq:q'=[]:=by
   have:Value.tuple q'.toArray=.tuple #[]:=h9
   simp at this;exact this
  subst hq;refine .inr ⟨rfl,_,_,?_,by rw[h7.1,h8.1]⟩
  show[den env _,den env _]=[_,_]
  rw[<-jO h7.2,<-jO h8.2]
 ·cases hk
theorem Ea{kt:Nat}{r:Ty}{kk row:List AV}{u:Value}{e:MapEntry}(hv:f7 P kt u)(hk:En r kk u)(he:sB r row e):f7 P kt e.key:=by
 rcases hk with⟨rfl,n,rfl,rfl⟩|⟨rfl,n,m,rfl,rfl⟩<;>rcases he with⟨ht,n',v,rfl,h1,_⟩|⟨ht,n',m',v,rfl,h1,_⟩
 ·rcases hv with⟨h2,_⟩|⟨fs,f,g,a,b,_,_,_,_,_,_,_,_,_,h⟩
  ·exact .inl ⟨h2,n',h1⟩
  ·cases h
 ·cases ht
 ·cases ht
 ·rcases hv with⟨h2,_,h⟩|⟨fs,f,g,a,b,q1,q2,q3,q4,q5,q6,q7,q8,q9,_⟩
  ·cases h
  ·exact .inr ⟨fs,f,g,n',m',q1,q2,q3,q4,q5,q6,q7,q8,q9,h1⟩
theorem C5{t:Nat}{key:Value}(hk:f7 P t key):∀(es:List MapEntry),(∀e∈es,f7 P t e.key) →
  ∃r,(Instr.findKey t key es).run P w=.ok r w/\((r=none/\∀e∈es,e.key≠key)\/∃i e,es[i]?=some e/\e.key=key/\(∀(j:Nat) e',j<i->es[j]?=some e'->e'.key≠key)/\r=some (i,e.val)):=by
 intro es hes;have hask:∀(es:List MapEntry) (i0:Nat),(∀e∈es,f7 P t e.key)->∃r,(Instr.findAsking t key es i0).run P w=.ok r w/\((r=none/\∀e∈es,e.key≠key)\/∃i e,es[i]?=some e/\e.key=key/\(∀(j:Nat) e',j<i->es[j]?=some e'->e'.key≠key)/\r=some (i0+i,e.val)):=by
  intro es;induction es with
  |nil=>intro i _;exact⟨none,by simp[Instr.findAsking],.inl ⟨rfl,fun e he=>by cases he⟩⟩
  | cons x es ih=>
   intro i0 hes;obtain⟨b,h1,h2⟩:=IV (w:=w) hk (hes x (v7 ..)) 9998
   have h1:(Op.equal t key x.key).run P w=.ok b w:=h1
   cases b with
   |true=>
    exact⟨some (i0,x.val),by simp[Instr.findAsking,h1],.inr ⟨0,x,rfl,(h2.1 rfl).symm,fun j e' hj=>by omega,rfl⟩⟩
   | false=>
    obtain⟨r,h3,h4⟩:=ih (i0+1) (fun e he=>hes e (v3 _ he))
    refine⟨r,by simp[Instr.findAsking,h1,h3],?_⟩
    have hx:x.key≠key:=fun hh=>by have:=h2.2 hh.symm;cases this
    rcases h4 with⟨h4,h5⟩|⟨i,e,h4,h5,h6,h7⟩
    ·refine .inl ⟨h4,fun e he=>?_⟩
     rcases List.mem_cons.1 he with rfl|he
     ·exact hx
     ·exact h5 e he
    ·refine .inr ⟨i+1,e,by simpa using h4,h5,fun j e' hj he'=>?_,by rw[h7];congr 2;omega⟩
     cases j with
     |zero=>simp at he';subst he';exact hx
     |succ j=>exact h6 j e' (by omega) (by simpa using he')
 unfold Instr.findKey;rcases hk with⟨h1,n,rfl⟩|⟨fs,f,g,n,m,h1,h2,h3⟩
 ·have hnow:∀(es:List MapEntry) (i0:Nat),(∀e∈es,f7 P t e.key)->∃r,Instr.findNow (.int .i64) (.int .i64 n) es i0=some r/\((r=none/\∀e∈es,e.key≠.int .i64 n)\/∃i e,es[i]?=some e/\e.key=.int .i64 n/\(∀(j:Nat) e',j<i->es[j]?=some e'->e'.key≠.int .i64 n)/\r=some (i0+i,e.val)):=by
   intro es;induction es with
   |nil=>intro i _;exact⟨none,rfl,.inl ⟨rfl,fun e he=>by cases he⟩⟩
   | cons x es ih=>
    intro i0 hes;rcases hes x (v7 ..)with⟨_,k,hxk⟩|⟨fs,f,g,n',m',h1',_⟩
    ·by_cases e:n=k
     ·subst e
      exact⟨some (i0,x.val),by simp[Instr.findNow,Instr.sameNow,hxk],.inr ⟨0,x,rfl,hxk,fun j e' hj=>by omega,rfl⟩⟩
     ·obtain⟨r,h3,h4⟩:=ih (i0+1) (fun e he=>hes e (v3 _ he))
      have e0:(n==k)=false:=by simpa using e
      have hx:x.key≠.int .i64 n:=by rw[hxk];intro hh;cases hh;exact e rfl
      refine⟨r,by simp[Instr.findNow,Instr.sameNow,hxk,e0,h3],?_⟩
      rcases h4 with⟨h4,h5⟩|⟨i,e',h4,h5,h6,h7⟩
      ·refine .inl ⟨h4,fun e' he=>?_⟩
       rcases List.mem_cons.1 he with rfl|he
       ·exact hx
       ·exact h5 e' he
      ·refine .inr ⟨i+1,e',by simpa using h4,h5,fun j e'' hj he'=>?_,by rw[h7];congr 2;omega⟩
       cases j with
       |zero=>simp at he';subst he';exact hx
       |succ j=>exact h6 j e'' (by omega) (by simpa using he')
    ·rw[h1]at h1';cases h1'
  obtain⟨r,h3,h4⟩:=hnow es 0 hes;exact⟨r,by simp[run_underlying h1,h3],by simpa using h4⟩
 ·simp only[Sem.run_bind,run_underlying h1,Result.andThen_ok]
  cases es with
  |nil=>exact⟨none,by simp[Instr.findNow],.inl ⟨rfl,fun e he=>by cases he⟩⟩
  |cons x es=>
   have:Instr.findNow (.struct fs) key (x::es) 0=none:=by simp[Instr.findNow,Instr.sameNow]
   rw[this];obtain⟨r,h5,h6⟩:=hask (x::es) 0 hes;exact⟨r,h5,by simpa using h6⟩
theorem ME{t:Nat}{u:Value}(h:f7 P t u):(Instr.keyThatStays u u).run P w=.ok u w:=by
 have:Instr.sameBits 10000 u u=true:=by
  rcases h with⟨_,n,rfl⟩|⟨fs,f,g,n,m,_,_,_,_,_,_,_,_,_,rfl⟩
  ·simp[Instr.sameBits]
  ·simp[Instr.sameBits]
 simp[Instr.keyThatStays,this]
theorem KX{o:Oper}{t kt et b:Nat}{x y z:Operand}(ho:o.op=.insert t x y z\/o.op=.mapUpdate t x y z)(h:Rel w0 env κ F U tmp blk L a w){needs:List E}{v:SV}{wr:List (Nat×Option SB)}(hx:ai tmp x=.map b)(ht:P.underlying t=some (.map kt et)){rt:Ty}{l:E}(hb:blk b=some (.amap rt l))
  (hc:mP P b rt l kt (ai tmp y) (ai tmp z)=.ok needs v wr):aY P w0 env κ F U tmp blk L a w o v wr:=by
 unfold mP at hc;split at hc
 ·rename_i ke r' xe hke hz
  split at hc
  ·rename_i hh
   obtain⟨c1,rfl⟩:=hh;cases hc
   have hex:=h.ev x;rw[hx]at hex;obtain⟨r,g1,g2⟩:=hex;obtain⟨r0,es,clock,g3,g4,g5,g9⟩:=h.blks b _ hb;rw[g1]at g3;cases g3
   have hky:=oj c1 (h.ev y);have hkr:=Jd hke (h.ev y);have hez:=h.ev z;rw[hz]at hez;have hxt:=jO hez.2;have hkes:∀e∈es.toList,f7 P kt e.key:=fun e he=>by
    obtain⟨i,hi,hie⟩:=Sa he;have hi2:i<(den env l).l.length:=by rw[<-g9.1];exact hi
    exact Ea hky hkr (g9.2 i _ e (v2 hi2) (by rw[v2 hi,hie]))
   obtain⟨fr,f1,f2⟩:=C5 (w:=w) hky es.toList hkes
   obtain⟨m1,m2⟩:=Ip (den env xe) hkr _ _ g9;have hnew:∃es':Array MapEntry,∃clock',(Instr.mapUpdate t (a.eval x) (a.eval y) (a.eval z)).run P w=.ok () { w with heap:=w.heap.setIfInBounds r (.map es' clock') }/\AZ r' (fj (den env ke).g (den env xe) (den env l).l) es'.toList:=by
    have hent:∀e:MapEntry,e.key=a.eval y->e.val=a.eval z->sB r' ((den env ke).g++[den env xe]) e:=fun e h1 h2=>by
     rcases hkr with⟨q1,n,q2,q3⟩|⟨q1,n,m,q2,q3⟩
     ·refine .inl ⟨q1,n,(den env xe).i,by rw[q2,hxt];rfl,by rw[h1,q3],by rw[h2,hez.1]⟩
     ·refine .inr ⟨q1,n,m,(den env xe).i,by rw[q2,hxt];rfl,by rw[h1,q3],by rw[h2,hez.1]⟩
    rcases f2 with⟨rfl,hno⟩|⟨i,e,q1,q2,q3,rfl⟩
    ·refine⟨es.push { key:=a.eval y,val:=a.eval z,born:=clock },clock+1,?_,?_⟩
     ·rw[g2]
      simp only[Instr.mapUpdate,run_underlying ht,Sem.run_bind,Result.andThen_ok,run_getObj_map w r es clock g4,iE hky,f1,kL _ g4]
     ·rw[(m1 hno).1]
      refine⟨by simp[g9.1],fun j row e h1 h2=>?_⟩
      simp only[Array.toList_push]at h2;by_cases hj:j<(den env l).l.length
      ·rw[v1 hj]at h1
       rw[v1 (by rw[g9.1];exact hj)]at h2
       exact g9.2 j row e h1 h2
      ·rw[v0 (by omega)]at h1
       rw[v0 (by rw[g9.1];omega),g9.1]at h2
       have h0:j-(den env l).l.length=0:=by
        have:=(List.getElem?_eq_some_iff.1 h1).1;simp at this;omega
       rw[h0]at h1 h2;simp at h1 h2
       subst h1;subst h2;exact hent _ rfl rfl
    ·have hie:es[i]?=some e:=by rw[<-RM];exact q1
     refine⟨es.modify i fun e=>{ e with key:=a.eval y,val:=a.eval z },clock,?_,?_⟩
     ·rw[g2]
      have hst:(((es[i]?).map (·.key)).getD (a.eval y))=a.eval y:=by rw[hie];exact q2
      simp only[Instr.mapUpdate,run_underlying ht,Sem.run_bind,Result.andThen_ok,run_getObj_map w r es clock g4,iE hky,f1,hst,ME hky,kL _ g4]
     ·rw[(m2 i e q1 q2 q3).1]
      refine⟨by simp[g9.1],fun j row e' h1 h2=>?_⟩
      simp only[Array.toList_modify]at h2;rw[List.getElem?_modify]at h2;rw[List.getElem?_set]at h1;by_cases hj:i=j
      ·subst hj
       rw[if_pos rfl]at h1;split at h1
       ·cases h1
        rw[q1]at h2;simp at h2
        subst h2;exact hent _ rfl rfl
       ·cases h1
      ·rw[if_neg hj]at h1
       obtain⟨e0,he0,he1⟩:=Option.map_eq_some_iff.1 h2;simp[hj]at he1
       subst he1;exact g9.2 j row e0 h1 he0
   obtain⟨es',clock',hrun,hden⟩:=hnew;obtain⟨W,hW⟩:∃W,W={ w with heap:=w.heap.setIfInBounds r (.map es' clock') }:=⟨_,rfl⟩
   rw[<-hW]at hrun;have hlt:=ec g4;have hR:cZ P o a w undef W:=.inr ⟨rfl,by
    rcases ho with ho|ho<;>simp only[execOp,ho,Sem.run_bind,hrun,Result.andThen_ok,Sem.run_pure]⟩
   have hw:∀k,ak (κ b)≠some k->W.heap[k]?=w.heap[k]?:=fun k hk=>by
    rw[hW];have:r≠k:=fun e=>hk (by rw[g1,e];rfl)
    simp[this]
   have hsz:W.heap.size=w.heap.size:=by rw[hW];simp
   refine⟨undef,W,κ,F,hR,?_,trivial,h.stored_kept hb rfl rfl hw hsz⟩
   refine(h.stored (y:=.amap r' (.mput l ke xe)) hb rfl hw hsz ?_ (fun c hc=>by cases hc) ?_).monoU (fun b hb=>.inl hb)
   ·exact⟨r,es',clock',g1,by rw[hW];simp[hlt],g5,hden⟩
   ·refine h.below.trans ⟨by rw[hW],by rw[hW],by rw[hW],by omega,fun k hk=>hw k (fun e=>?_)⟩
    rw[g1]at e;have e:r=k:=by simpa[ak]using e
    omega
  ·cases hc
 ·cases hc
theorem NZ{o:Oper}{t kt et b:Nat}{x y:Operand}{ok:Bool}(ho:o.op=.lookup t x y ok)(h:Rel w0 env κ F U tmp blk L a w){needs:List E}{v:SV}{wr:List (Nat×Option SB)}(hx:ai tmp x=.map b)(ht:P.underlying t=some (.map kt et)){rt:Ty}{l:E}(hb:blk b=some (.amap rt l)){z:SV}(hz:cj P et=some z)(hzz:isZ z=true)
  (hc:mb P rt l kt (ai tmp y) ok=.ok needs v wr):aY P w0 env κ F U tmp blk L a w o v wr:=by
 unfold mb at hc;split at hc
 ·rename_i ke r' hke
  split at hc
  ·rename_i hh
   obtain⟨c1,rfl⟩:=hh;cases hc
   have hex:=h.ev x;rw[hx]at hex;obtain⟨r,g1,g2⟩:=hex;obtain⟨r0,es,clock,g3,g4,g5,g9⟩:=h.blks b _ hb;rw[g1]at g3;cases g3
   have hky:=oj c1 (h.ev y);have hkr:=Jd hke (h.ev y);have hkes:∀e∈es.toList,f7 P kt e.key:=fun e he=>by
    obtain⟨i,hi,hie⟩:=Sa he;have hi2:i<(den env l).l.length:=by rw[<-g9.1];exact hi
    exact Ea hky hkr (g9.2 i _ e (v2 hi2) (by rw[v2 hi,hie]))
   obtain⟨fr,f1,f2⟩:=C5 (w:=w) hky es.toList hkes
   obtain⟨m1,m2⟩:=Ip (.int 0) hkr _ _ g9;unfold cj at hz;obtain⟨zv,hz1,rfl⟩:=Option.map_eq_some_iff.1 hz;obtain⟨i,hi,hz2⟩:=Option.bind_eq_some_iff.1 hz1;have hzero:(zeroValue et).run P w=.ok zv w:=by simp[zeroValue,typeInfo,hi,hz2]
   have hzv:zv=.int .i64 0:=by
    have:=dP (env:=env) (κ:=κ) (F:=F) (w:=w) zv
    rw[I7 hzz]at this;exact this.1
   have key:(Instr.lookup t (a.eval x) (a.eval y) ok).run P w=.ok (if ok then .tuple #[.int .i64 (cd (den env ke).g (den env l).l),.bool (dD (den env ke).g (den env l).l)]else .int .i64 (cd (den env ke).g (den env l).l)) w:=by
    rcases f2 with⟨rfl,hno⟩|⟨i,e,q1,q2,q3,rfl⟩
    ·obtain⟨_,j2,j3⟩:=m1 hno
     rw[g2,j2,j3];simp only[Instr.lookup,run_underlying ht,Sem.run_bind,Result.andThen_ok,run_getObj_map w r es clock g4,iE hky,f1,hzero,hzv,Sem.run_pure]
    ·obtain⟨_,j2,j3⟩:=m2 i e q1 q2 q3
     rw[g2,j2,<-j3];simp only[Instr.lookup,run_underlying ht,Sem.run_bind,Result.andThen_ok,run_getObj_map w r es clock g4,iE hky,f1,Sem.run_pure]
   refine aw h (.inl (by simp only[execOp,ho,Sem.run_bind,key,Result.andThen_ok,Sem.run_pure];rfl)) ?_
   cases ok with
   |true=>exact⟨#[_,_],rfl,rfl,_,[_],rfl,⟨rfl,rfl⟩,_,[],rfl,⟨rfl,rfl⟩,rfl⟩
   |false=>exact⟨rfl,rfl⟩
  ·cases hc
 ·cases hc
theorem FV{o:Oper}{t:Nat}{x y z:Operand}(ho:o.op=.insert t x y z\/o.op=.mapUpdate t x y z)(h:Rel w0 env κ F U tmp blk L a w){needs:List E}{v:SV}{wr:List (Nat×Option SB)}
  (hc:ki P blk t (ai tmp x) (ai tmp y) (ai tmp z)=.ok needs v wr):aY P w0 env κ F U tmp blk L a w o v wr:=by
 unfold ki at hc;split at hc
 ·rename_i b kt et hx ht
  split at hc
  ·rename_i rt l hb
   exact KX ho h hx ht hb hc
  ·rename_i ks vs hb
   split at hc
   ·rename_i hh
    cases hc
    simp only[RZ,beq_iff_eq]at hh;obtain⟨⟨⟨⟨⟨c1,c2⟩,c3⟩,c4⟩,c5⟩,c6⟩:=hh;have hex:=h.ev x;rw[hx]at hex;obtain⟨r,g1,g2⟩:=hex;obtain⟨r',es,clock,g3,g4,g5,g6,g7,g8,g9⟩:=h.blks b _ hb;rw[g1]at g3;cases g3
    have hky:=oj c1 (h.ev y);have hkes:=FH g9 c2;obtain⟨fr,f1,f2⟩:=CG (w:=w) hky es.toList hkes
    have hno:∀e∈es.toList,e.key≠a.eval y:=fun e he hh=>by
     obtain⟨i,k,v,q1,q2,q3,_⟩:=g9.2.1 e he;have hk:=List.all_eq_true.1 c3 k (y1 q1);simp only[beq_iff_eq]at hk;have:=(Fr hk (h.ev y) q3 hky (hkes e he)).2 hh.symm
     simp[den]at this
    have hfr:fr=none:=by
     rcases f2 with⟨f2,_⟩|⟨i,e,he,f3,_⟩
     ·exact f2
     ·exact absurd f3 (hno e he)
    subst hfr;obtain⟨W,hW⟩:∃W,W={ w with heap:=w.heap.setIfInBounds r (.map (es.push { key:=a.eval y,val:=a.eval z,born:=clock }) (clock+1)) }:=⟨_,rfl⟩
    have hlt:=ec g4;have hrun:(Instr.mapUpdate t (a.eval x) (a.eval y) (a.eval z)).run P w=.ok () W:=by
     rw[g2,hW];simp only[Instr.mapUpdate,run_underlying ht,Sem.run_bind,Result.andThen_ok,run_getObj_map w r es clock g4,iE hky,f1,kL _ g4]
    have hR:cZ P o a w undef W:=.inr ⟨rfl,by
     rcases ho with ho|ho<;>simp only[execOp,ho,Sem.run_bind,hrun,Result.andThen_ok,Sem.run_pure]⟩
    have hw:∀k,ak (κ b)≠some k->W.heap[k]?=w.heap[k]?:=fun k hk=>by
     rw[hW];have:r≠k:=fun e=>hk (by rw[g1,e];rfl)
     simp[this]
    have hsz:W.heap.size=w.heap.size:=by rw[hW];simp
    have hF2:∀k,F k->W.heap[k]?=w.heap[k]?:=fun k hF=>hw k (fun e=>h.nF b k (by rw[hb];rfl) e hF)
    have kp:∀ {x u},SVden env κ F w x u->SVden env κ F W x u:=fun hd=>hd.keep (fun _ _=>rfl) (fun _ h=>h) hF2
    refine⟨undef,W,κ,F,hR,?_,trivial,h.stored_kept hb rfl rfl hw hsz⟩
    refine(h.stored (y:=.map (.of (ks.list++[ai tmp y])) (.of (vs.list++[ai tmp z]))) hb rfl hw hsz ?_ (fun c hc=>?_) ?_).monoU (fun b hb=>.inl hb)
    ·refine⟨r,es.push { key:=a.eval y,val:=a.eval z,born:=clock },clock+1,g1,by rw[hW];simp[hlt],g5,bE _,bE _,by simp[Ie,list_len,c6],?_⟩
     have hl:ks.list.length=vs.list.length:=by rw[list_len,list_len,c6]
     obtain⟨m1,m2,m3⟩:=g9;refine⟨fun i k v hk hv=>?_,fun e he=>?_,fun e he e' he' hee=>?_⟩
     ·rw[fz]at hk hv
      by_cases hi:i<ks.list.length
      ·rw[v1 hi]at hk
       rw[v1 (by omega)]at hv
       obtain⟨e,he,d1,d2⟩:=m1 i k v hk hv;exact⟨e,by simp at he⊢;exact .inl he,kp d1,kp d2⟩
      ·rw[v0 (by omega)]at hk
       rw[v0 (by omega)]at hv
       have h0:i-ks.list.length=0:=by
        have:=(List.getElem?_eq_some_iff.1 hk).1;simp at this;omega
       rw[h0]at hk;rw[<-hl,h0]at hv;simp at hk hv
       subst hk;subst hv;exact⟨_,by simp;exact .inr rfl,kp (h.ev y),kp (h.ev z)⟩
     ·simp at he
      rcases he with he|rfl
      ·obtain⟨i,k,v,q1,q2,d1,d2⟩:=m2 e (by simpa using he)
       refine⟨i,k,v,?_,?_,kp d1,kp d2⟩
       ·rw[fz,v1 (List.getElem?_eq_some_iff.1 q1).1];exact q1
       ·rw[fz,v1 (List.getElem?_eq_some_iff.1 q2).1];exact q2
      ·refine⟨ks.list.length,ai tmp y,ai tmp z,?_,?_,kp (h.ev y),kp (h.ev z)⟩
       ·rw[fz,v0 (RJ _)];simp
       ·rw[fz,v0 (by omega),hl];simp
     ·simp at he he'
      rcases he with he|rfl<;>rcases he' with he'|rfl
      ·exact m3 e (by simpa using he) e' (by simpa using he') hee
      ·exact absurd hee (hno e (by simpa using he))
      ·exact absurd hee.symm (hno e' (by simpa using he'))
      ·rfl
    ·have hks:∀c∈ks.names++vs.names,U c:=(h.bnames b _ hb).2
     simp only[SB.names,RQ]at hc;rcases hc with hc|hc
     ·obtain⟨z',hz,hc⟩:=(gT _ c).1 hc
      rcases List.mem_append.1 hz with hz|hz
      ·exact hks c (v6 _ (cr ks z' hz c hc))
      ·simp at hz;subst hz;exact h.evNames y c hc
     ·obtain⟨z',hz,hc⟩:=(gT _ c).1 hc
      rcases List.mem_append.1 hz with hz|hz
      ·exact hks c (v4 _ (cr vs z' hz c hc))
      ·simp at hz;subst hz;exact h.evNames z c hc
    ·refine h.below.trans ⟨by rw[hW],by rw[hW],by rw[hW],by omega,fun k hk=>hw k (fun e=>?_)⟩
     rw[g1]at e;have e:r=k:=by simpa[ak]using e
     omega
   ·cases hc
  ·cases hc
 ·cases hc
theorem LM{tr:E->Option Bool}{kt:Nat}{z ix:SV}{ok:Bool}(htr:∀e b,tr e=some b->(den env e).b=b):∀(ks vs:List SV) (needs:List E) (v:SV) (wr:List (Nat×Option SB)),j9 P tr kt z ix ok ks vs=.ok needs v wr →
  wr=[]/\((∃(i:Nat) (k x:SV) (e:E),ks[i]?=some k/\vs[i]?=some x/\sy P 12 kt ix k=some e/\(den env e).b=true/\v=if ok then .tup (.cons x (.cons (.vb (.bool true)) .nil))else x) ∨
   ((∀(i:Nat) k,ks[i]?=some k->∃e,sy P 12 kt ix k=some e/\(den env e).b=false)/\v=if ok then .tup (.cons z (.cons (.vb (.bool false)) .nil))else z)):=by
 intro ks;induction ks with
 |nil=>
  intro vs needs v wr h;cases vs with
  |nil=>simp only[j9]at h;cases h;exact⟨rfl,.inr ⟨fun i k hk=>by simp at hk,rfl⟩⟩
  |cons x vs=>simp only[j9]at h;cases h
 | cons k ks ih=>
  intro vs needs v wr h;cases vs with
  |nil=>simp only[j9]at h;cases h
  | cons x vs=>
   simp only[j9]at h;split at h
   ·cases h
   ·rename_i e he
    split at h
    ·rename_i ht
     cases h
     exact⟨rfl,.inl ⟨0,k,x,e,rfl,rfl,he,htr _ _ ht,rfl⟩⟩
    ·rename_i ht
     obtain⟨h0,h1⟩:=ih vs needs v wr h;refine⟨h0,?_⟩
     rcases h1 with⟨i,k',x',e',q1,q2,q3⟩|⟨q1,q2⟩
     ·exact .inl ⟨i+1,k',x',e',by simpa using q1,by simpa using q2,q3⟩
     ·refine .inr ⟨fun i k' hk=>?_,q2⟩
      cases i with
      |zero=>simp at hk;subst hk;exact⟨e,he,htr _ _ ht⟩
      |succ i=>exact q1 i k' (by simpa using hk)
    ·cases h
theorem MN{o:Oper}{tr:E->Option Bool}{t:Nat}{x y:Operand}{ok:Bool}(htr:∀e b,tr e=some b->(den env e).b=b)(ho:o.op=.lookup t x y ok)(h:Rel w0 env κ F U tmp blk L a w){needs:List E}{v:SV}{wr:List (Nat×Option SB)}
  (hc:mz P tr blk t (ai tmp x) (ai tmp y) ok=.ok needs v wr):aY P w0 env κ F U tmp blk L a w o v wr:=by
 unfold mz at hc;split at hc
 ·rename_i b kt et hx ht
  split at hc
  ·rename_i rt l z hb hz
   split at hc
   ·rename_i hzz
    exact NZ ho h hx ht hb hz hzz hc
   ·cases hc
  ·rename_i ks vs z hb hz
   split at hc
   ·rename_i hh
    rw[RZ]at hh;obtain⟨c1,c2⟩:=hh;obtain⟨hwr,hres⟩:=LM htr _ _ _ _ _ hc;subst hwr;have hex:=h.ev x;rw[hx]at hex;obtain⟨r,g1,g2⟩:=hex;obtain⟨r',es,clock,g3,g4,g5,g6,g7,g8,g9⟩:=h.blks b _ hb;rw[g1]at g3;cases g3
    have hky:=oj c1 (h.ev y);have hkes:=FH g9 c2;obtain⟨fr,f1,f2⟩:=CG (w:=w) hky es.toList hkes
    unfold cj at hz;obtain⟨zv,hz1,rfl⟩:=Option.map_eq_some_iff.1 hz;obtain⟨i,hi,hz2⟩:=Option.bind_eq_some_iff.1 hz1;have hzero:(zeroValue et).run P w=.ok zv w:=by simp[zeroValue,typeInfo,hi,hz2]
    have key:∃u q,(Instr.lookup t (a.eval x) (a.eval y) ok).run P w=.ok (if ok then .tuple #[u,.bool q]else u) w/\∃s:SV,SVden env κ F w s u/\v=if ok then .tup (.cons s (.cons (.vb (.bool q)) .nil))else s:=by
     rcases hres with⟨i,k,s,e,q1,q2,q3,q4,q5⟩|⟨q1,q2⟩
     ·obtain⟨en,he,d1,d2⟩:=g9.1 i k s q1 q2
      have hkey:=(Fr q3 (h.ev y) d1 hky (hkes en he)).1 q4;rcases f2 with⟨_,f3⟩|⟨i',en',he',f3,rfl⟩
      ·exact absurd hkey.symm (f3 en he)
      ·have hval:en'.val=en.val:=g9.2.2 en' he' en he (by rw[f3,hkey])
       refine⟨en'.val,true,?_,s,by rw[hval];exact d2,q5⟩
       rw[g2];simp only[Instr.lookup,run_underlying ht,Sem.run_bind,Result.andThen_ok,run_getObj_map w r es clock g4,iE hky,f1,Sem.run_pure]
     ·have hfr:fr=none:=by
       rcases f2 with⟨f2,_⟩|⟨i',en,he,f3,_⟩
       ·exact f2
       ·exfalso
        obtain⟨j,k,s,p1,p2,p3,_⟩:=g9.2.1 en he;obtain⟨e,e1,e2⟩:=q1 j k p1;have:=(Fr e1 (h.ev y) p3 hky (hkes en he)).2 f3.symm
        rw[e2]at this;cases this
      subst hfr;refine⟨zv,false,?_,cz zv,dP zv,q2⟩
      rw[g2];simp only[Instr.lookup,run_underlying ht,Sem.run_bind,Result.andThen_ok,run_getObj_map w r es clock g4,iE hky,f1,hzero,Sem.run_pure]
    obtain⟨u,q,hrun,s,hs,rfl⟩:=key;refine aw h (u:=if ok then .tuple #[u,.bool q]else u) (.inl ?_) ?_
    ·simp only[execOp,ho,Sem.run_bind,hrun,Result.andThen_ok,Sem.run_pure]
    ·cases ok with
     |true=>exact⟨#[u,.bool q],rfl,rfl,u,[.bool q],rfl,hs,.bool q,[],rfl,⟨rfl,rfl⟩,rfl⟩
     |false=>exact hs
   ·cases hc
  ·cases hc
 ·cases hc
theorem M5(d:Nat){t:Nat}{ms:Array (String×TypeId)}(hu:P.underlying t=some (.interface ms))(hms:ms.isEmpty=true):(Op.eqGuardIn (d+1) t .nilIface .nilIface).run P w=.ok false w:=by
 simp only[Op.eqGuardIn,Sem.run_bind,run_underlying hu,Result.andThen_ok,hms,Sem.run_pure,SW]
theorem C0(d:Nat){t:Nat}{ms:Array (String×TypeId)}(hu:P.underlying t=some (.interface ms)):
  (Op.equalIn (d+1) t .nilIface .nilIface).run P w=.ok true w/\(∀u v,(Op.equalIn (d+1) t .nilIface (.iface u v)).run P w=.ok false w)/\∀u v,(Op.equalIn (d+1) t (.iface u v) .nilIface).run P w=.ok false w:=by
 refine⟨?_,fun u v=>?_,fun u v=>?_⟩<;>simp only[Op.equalIn,Sem.run_bind,run_underlying hu,Result.andThen_ok,Sem.run_pure]
theorem Cw(d:Nat){t:Nat}{q1 q2:Array TypeId}{q3:Bool}(hu:P.underlying t=some (.func q1 q2 q3)):
  (Op.equalIn (d+1) t .nilFunc .nilFunc).run P w=.ok true w/\(∀f u v,(Op.equalIn (d+1) t .nilFunc (.func f u v)).run P w=.ok false w)/\∀f u v,(Op.equalIn (d+1) t (.func f u v) .nilFunc).run P w=.ok false w:=by
 refine⟨?_,fun f u v=>?_,fun f u v=>?_⟩<;>simp only[Op.equalIn,Sem.run_bind,run_underlying hu,Result.andThen_ok,Sem.run_pure]
theorem n9{op:BinOp}{t:Nat}{x y:Operand}{u v:Value}{r:Bool}(hg:(eqGuard op t x y u v).run P w=.ok () w)(he:(Op.equal t u v).run P w=.ok r w)
  (hu:(∃b,u=.nilIface/\b=())\/(∃a b,u=.iface a b)\/u=.nilFunc\/∃a b c,u=.func a b c):
  (eqGuard op t x y u v).run P w=.ok () w/\(binOp .eql t u v).run P w=.ok (.bool r) w/\(binOp .neq t u v).run P w=.ok (.bool (!r)) w:=by
 refine⟨hg,?_,?_⟩<;>rcases hu with⟨b,rfl,_⟩|⟨a,b,rfl⟩|rfl|⟨a,b,c,rfl⟩<;>(simp only[binOp];simp[he])
theorem CD(c:Bool)(k:Sem Unit)(h:k.run P w=.ok () w):(if c=true then pure ()else k).run P w=.ok () w:=by
 cases c<;>simp[h]
theorem jt{op:BinOp}{t:Nat}{x y:Operand}{u v:Value}(h:u≠.nilIface\/v≠.nilIface)(h2:∀a b,¬(u=.agg a/\v=.agg b)):(eqGuard op t x y u v).run P w=.ok () w:=by
 unfold eqGuard;refine CD _ _ ?_
 split
 ·rcases h with h|h<;>exact absurd rfl h
 ·exact absurd ⟨rfl,rfl⟩ (h2 _ _)
 ·rfl
theorem On{o:Oper}{op:BinOp}{t ty:TypeId}{x y:Operand}(ho:o.op=.binOp op t x y ty)(h:Rel w0 env κ F U tmp blk L a w){needs:List E}{v:SV}{wr:List (Nat×Option SB)}
  {p q:SV} (hx:ai tmp x=p) (hy:ai tmp y=q) {r:Bool} (hr:LA P t p q=some r) (hc:vL op r=.ok needs v wr):aY P w0 env κ F U tmp blk L a w o v wr:=by
 have hex:=h.ev x;have hey:=h.ev y;rw[hx]at hex;rw[hy]at hey;have hI:∀b,ifT P t b=true->∃ms,P.underlying t=some (.interface ms)/\(b=true->ms.isEmpty=true):=fun b hi=>by
  unfold ifT at hi;split at hi
  ·rename_i ms hu
   exact⟨ms,hu,fun e=>by subst e;simpa using hi⟩
  ·cases hi
 have hF:fnT P t=true->∃q1 q2 q3,P.underlying t=some (.func q1 q2 q3):=fun hi=>by
  unfold fnT at hi;split at hi
  ·rename_i q1 q2 q3 hu
   exact⟨q1,q2,q3,hu⟩
  ·cases hi
 have E:(eqGuard op t x y (a.eval x) (a.eval y)).run P w=.ok () w/\(binOp .eql t (a.eval x) (a.eval y)).run P w=.ok (.bool r) w/\(binOp .neq t (a.eval x) (a.eval y)).run P w=.ok (.bool (!r)) w:=by
  unfold LA at hr;split at hr
  ·split at hr<;>cases hr
   rename_i hi
   obtain⟨ms,hu,hms⟩:=hI _ hi;rw[show a.eval x=.nilIface from hex,show a.eval y=.nilIface from hey]
   refine n9 ?_ (C0 9999 hu).1 (.inl ⟨(),rfl,rfl⟩)
   have e1:(Op.eqGuardIn Op.maxDepth t .nilIface .nilIface).run P w=.ok false w:=M5 9999 hu (hms rfl)
   unfold eqGuard;refine CD _ _ ?_
   dsimp only;refine CD _ _ ?_
   rw[Sem.run_bind,e1];rfl
  ·split at hr<;>cases hr
   rename_i hi
   obtain⟨ms,hu,_⟩:=hI _ hi;obtain⟨v',hey,_⟩:=hey;rw[show a.eval x=.nilIface from hex,hey]
   exact n9 (jt (.inr (by simp)) (by simp)) ((C0 9999 hu).2.1 _ _) (.inl ⟨(),rfl,rfl⟩)
  ·split at hr<;>cases hr
   rename_i hi
   obtain⟨ms,hu,_⟩:=hI _ hi;obtain⟨v',hex,_⟩:=hex;rw[show a.eval y=.nilIface from hey,hex]
   exact n9 (jt (.inl (by simp)) (by simp)) ((C0 9999 hu).2.2 _ _) (.inr (.inl ⟨_,_,rfl⟩))
  ·split at hr<;>cases hr
   rename_i hi
   obtain⟨q1,q2,q3,hu⟩:=hF hi;rw[show a.eval x=.nilFunc from hex,show a.eval y=.nilFunc from hey]
   exact n9 (jt (.inl (by simp)) (by simp)) (Cw 9999 hu).1 (.inr (.inr (.inl rfl)))
  ·split at hr<;>cases hr
   rename_i hi
   obtain⟨q1,q2,q3,hu⟩:=hF hi;obtain⟨ds,cs,hey,_⟩:=hey;rw[show a.eval x=.nilFunc from hex,hey]
   exact n9 (jt (.inl (by simp)) (by simp)) ((Cw 9999 hu).2.1 _ _ _) (.inr (.inr (.inl rfl)))
  ·split at hr<;>cases hr
   rename_i hi
   obtain⟨q1,q2,q3,hu⟩:=hF hi;obtain⟨ds,cs,hex,_⟩:=hex;rw[show a.eval y=.nilFunc from hey,hex]
   exact n9 (jt (.inl (by simp)) (by simp)) ((Cw 9999 hu).2.2 _ _ _) (.inr (.inr (.inr ⟨_,_,_,rfl⟩)))
  ·cases hr
 unfold vL at hc;split at hc
 ·cases hc
  exact aw h (u:=.bool r) (.inl (by simp only[execOp,ho,Sem.run_bind,E.1,Result.andThen_ok,E.2.1,Sem.run_pure])) ⟨rfl,rfl⟩
 ·cases hc
  exact aw h (u:=.bool (!r)) (.inl (by simp only[execOp,ho,Sem.run_bind,E.1,Result.andThen_ok,E.2.2,Sem.run_pure])) ⟨rfl,rfl⟩
 ·cases hc
theorem MW{o:Oper}{x:Operand}{u t:TypeId}{ok:Bool}(ho:o.op=.typeAssert x u t ok)(h:Rel w0 env κ F U tmp blk L a w){needs:List E}{v:SV}{wr:List (Nat×Option SB)}
  (hc:po P t ok (ai tmp x)=.ok needs v wr):aY P w0 env κ F U tmp blk L a w o v wr:=by
 have hex:=h.ev x;unfold po at hc;split at hc
 ·cases hc
 ·cases hc
 rename_i d hni hd
 have hz0:∀z,cj P t=some z->∃zv,(zeroValue t).run P w=.ok zv w/\z=cz zv:=fun z hz=>by
  unfold cj at hz;obtain⟨zv,hz1,rfl⟩:=Option.map_eq_some_iff.1 hz;obtain⟨i,hi,hz2⟩:=Option.bind_eq_some_iff.1 hz1;exact⟨zv,by simp[zeroValue,typeInfo,hi,hz2],rfl⟩
 have G:∀z q,SVden env κ F w z q->∀b,(Instr.typeAssert (a.eval x) u t true).run P w=.ok (.tuple #[q,.bool b]) w->ok=true->aY P w0 env κ F U tmp blk L a w o (.tup (.cons z (.cons (.vb (.bool b)) .nil))) []:=fun z q hzq b hrun hok=>by
  subst hok;refine aw h (u:=.tuple #[q,.bool b]) (.inl ?_) ⟨#[q,.bool b],rfl,rfl,q,[.bool b],rfl,hzq,.bool b,[],rfl,⟨rfl,rfl⟩,rfl⟩
  simp only[execOp,ho,Sem.run_bind,hrun,Result.andThen_ok,Sem.run_pure]
 split at hc
 ·rename_i z hx hz
  rw[hx]at hex;split at hc
  ·rename_i hok
   cases hc
   obtain⟨zv,hz1,rfl⟩:=hz0 _ hz;refine G _ zv (dP zv) false ?_ hok
   rw[show a.eval x=_ from hex]
   cases d<;>first|exact absurd rfl (hni _)|simp only[Instr.typeAssert,Sem.run_bind,run_underlying hd,Result.andThen_ok,hz1,Sem.run_pure,if_true]
  ·cases hc
 ·rename_i u' y z hx hz
  rw[hx]at hex;obtain⟨q,hq,hden⟩:=hex;split at hc
  ·rename_i hut
   subst hut;cases ok with
   |true=>
    cases hc
    refine G _ q hden true ?_ rfl
    rw[hq];cases d<;>first|exact absurd rfl (hni _)|simp only[Instr.typeAssert,Sem.run_bind,run_underlying hd,Result.andThen_ok,Sem.run_pure,if_true]
   |false=>
    cases hc
    refine aw h (u:=q) (.inl ?_) hden
    simp only[execOp,ho,hq];cases d<;>first|exact absurd rfl (hni _)|simp[Instr.typeAssert,Sem.run_bind,run_underlying hd,Result.andThen_ok,Sem.run_pure]
  ·rename_i hut
   split at hc
   ·rename_i hok
    cases hc
    obtain⟨zv,hz1,rfl⟩:=hz0 _ hz;refine G _ zv (dP zv) false ?_ hok
    rw[hq];cases d<;>first|exact absurd rfl (hni _)|simp only[Instr.typeAssert,Sem.run_bind,run_underlying hd,Result.andThen_ok,if_neg hut,hz1,Sem.run_pure,if_true]
   ·cases hc
 ·cases hc
theorem Hl{o:Oper}{t ety:Nat}{row:Ty}{x lo:Operand}(ho:o.op=.slice t x (some lo) none none)(h:Rel w0 env κ F U tmp blk L a w)(ht:bv P t=some (ety,row)){d:Nat}(hx:ai tmp x=.row d){l i:E}(hd:blk d=some (.row ety row l))
  (hl:dn (ai tmp) (some lo) (.int 0)=some i) (hn:∀e∈aU (.cmp' .le (.int 0) i)++aU (.cmp' .lt i l.len'),(den env e).b=true):aY P w0 env κ F U tmp blk L a w o (.rtail d row i) []:=by
 obtain⟨u1,u2,u3,_,u5,_⟩:=bL ht;have hev:=h.ev x;rw[hx]at hev;have n1:=bz (aO fun e he=>hn e (v6 _ he))
 have n2:=bz (aO fun e he=>hn e (v4 _ he))
 have n1:0<=(den env i).i:=of_decide_eq_true n1
 have n2:(den env i).i<(den env l.len').i:=of_decide_eq_true n2
 rw[bV]at n2;simp only[AV.i_int]at n2;obtain⟨us,hown,hpos,hrow⟩:=h.blks d _ hd;obtain⟨lv,hlv⟩:∃k:Nat,(k:Int)=(den env i).i:=⟨(den env i).i.toNat,by omega⟩
 have hlt:lv<(den env l).l.length:=by omega
 have hsz:=bO (w:=w) u5;rcases hown.2 with⟨e,e'⟩|⟨g,cap,cur,e,_,_,hnc,_⟩
 ·omega
 have hb:=qh (P:=P) (w:=w) h hl (hi:=none) (d1:=l.len') (q:=l.len') rfl (n:=(den env l).l.length) (c:=cap) (by intro _;rw[bV];rfl) (by intro e2;rw[e2];rfl) hlv (qv:=(den env l).l.length) (by rw[bV];rfl) (by omega) (by omega)
 have hne:¬cap=lv:=by omega
 have hrun:(Instr.sliceAt t (a.eval x) (some (a.eval lo)) none none).run P w=.ok (.slice (some ((⟨g,0,none⟩:Addr).add (lv*row.len))) ((den env l).l.length-lv) (cap-lv)) w:=by
  rw[hev.1,e];simp only[RL,RW]at hb;simp only[Instr.sliceAt,run_underlying u1,Sem.run_bind,Result.andThen_ok,Instr.slice,hb,hsz,Sem.run_pure,u2,if_neg hne,RL]
 refine aw h (u:=.slice (some ((⟨g,0,none⟩:Addr).add (lv*row.len))) ((den env l).l.length-lv) (cap-lv)) (.inl ?_) ⟨g,(den env l).l.length,cap,e,n1,n2,?_⟩
 ·simp only[execOp,ho,RW,RL,Sem.run_bind,hrun,Result.andThen_ok,Sem.run_pure]
 ·rw[<-hlv];rfl
theorem NX{o:Oper}{s:Operand}{t ety d:Nat}{row:Ty}{l i:E}(ho:o.op=.call { callee:=.builtin .clear,args:=#[s],argTypes:=#[t] })(h:Rel w0 env κ F U tmp blk L a w)(ht:bv P t=some (ety,row))(hs:ai tmp s=.rtail d row i)(hd:blk d=some (.row ety row l))
  {z:SV} (hz:cj P ety=some z) (hw:z.whole=true) (hzl:z.cells.len=row.len) {r:E} (hr:lS z.cells row=some r):
  aY P w0 env κ F U tmp blk L a w o (.tup .nil) [(d,some (.row ety row (.app (.take l i) (.rep (.ii' .sub l.len' i) r))))]:=by
 obtain⟨u1,u2,u3,⟨ti,hti⟩,u5,u6,u7,u8⟩:=bL ht;obtain⟨zv,hz1,rfl⟩:=tJ hti hz;obtain⟨d1,d2⟩:=gr hw (dP (env:=env) (κ:=κ) (F:=F) (w:=w) zv)
 obtain⟨t1,t2⟩:=bJ d2 d1;have hzs:zv.cells.size=row.len:=by rw[t1,hzl]
 obtain⟨q1,q2,q3,q4⟩:=zf hr d1;have hes:=h.ev s;rw[hs]at hes;obtain⟨g,n,c,e1,e2,e3,e4⟩:=hes;obtain⟨us,hown,hpos,hrow⟩:=h.blks d _ hd;rcases hown.2 with⟨e,e'⟩|⟨g',cap,cur,e,hb1,hb2,hnc,hcm,hcs,hcur⟩
 ·rw[e1]at e;cases e
 rw[e1]at e;injection e with x1 x2 x3
 injection x1 with x1
 injection x1 with x1
 subst x1;subst x3;obtain⟨iv,hiv⟩:∃k:Nat,(k:Int)=(den env i).i:=⟨(den env i).i.toNat,by omega⟩
 have hivt:(den env i).i.toNat=iv:=by omega
 have hlt:iv<n:=by omega
 rw[hivt]at e4;obtain⟨Z,hZ⟩:∃Z:List Value,Z=(v8 (n-iv) zv.cells.toList).flatten:=⟨_,rfl⟩
 have hZl:Z.length=(n-iv)*row.len:=by rw[hZ];simp[hzs]
 have hmul:iv*row.len+(n-iv)*row.len=n*row.len:=by rw[<-RU];congr 1;omega
 have hul:us.length=n*row.len:=by rw[hown.1,x2]
 have hzero:(zeroValue ety).run P w=.ok zv w:=by simp[zeroValue,typeInfo,hti,hz1]
 have haddr:(⟨g,0,none⟩:Addr).add (iv*row.len)=⟨g,iv*row.len,none⟩:=by unfold Addr.add;split<;>simp_all
 have hcap:n*row.len<=c*row.len:=RN _ (by omega)
 have hone:∀v∈Z,v.oneCell'=true:=fun v hv=>by
  rw[hZ]at hv;obtain⟨l',hl',hv⟩:=List.mem_flatten.1 hv;rw[(y3 hl')]at hv;rw[<-pt];exact q4 v (by simpa using hv)
 have hst:=run_storeCells_at (P:=P) g (iv*row.len) ety Z 0 cur w hb2 (by rw[hZl];omega) hone
 simp only[R2]at hst;have hzc:(Builtin.zeroCells zv.cells (n-iv)).toList=Z:=by
  rw[hZ,<-qz hzs u3];unfold Builtin.zeroCells;rw[hzs]
 have hrun:(Builtin.clear_ #[t] o.type #[a.eval s]).run P w=.ok (.tuple #[]) (w.setRow g (cur.toList.take (iv*row.len)++Z++cur.toList.drop (iv*row.len+Z.length)).toArray):=by
  rw[e4,haddr];obtain⟨m,hm⟩:∃m,n-iv=m+1:=⟨n-iv-1,by omega⟩
  rw[hm]at hzc⊢
  simp[Builtin.clear_,run_underlying u1,hzero,hzc,hst]
 have hRun:cZ P o a w (.tuple #[]) (w.setRow g (cur.toList.take (iv*row.len)++Z++cur.toList.drop (iv*row.len+Z.length)).toArray):=.inl (by
  unfold execOp;simp only[ho,resolve,invoke,builtin,Sem.run_bind,Sem.run_pure,Result.andThen_ok,RX,R0,R5,hrun])
 have hL:(den env (.app (.take l i) (.rep (.ii' .sub l.len' i) r))).l=(den env l).l.take iv++v8 (n-iv) (den env r).g:=by
  have hs:(den env (.ii' .sub l.len' i)).i.toNat=n-iv:=by
   rw[cV,bV];simp only[AV.i_int,IOp.f];omega
  simp only[den,AV.l_sl,hs,hivt]
 have hLl:(den env (.app (.take l i) (.rep (.ii' .sub l.len' i) r))).l.length=n:=by rw[hL];simp;omega
 have hrl:∀r':List AV,r'.map AV.ty=row.list->r'.length=row.len:=fun r' h=>by
  have:=congrArg Sw h
  rw[Sc,Ty.list_len]at this;exact this
 have htl:(us.take (iv*row.len)).length=iv*row.len:=by rw[RY,hul];omega
 have key:∀(N j k:Nat),j<N->k<row.len->((v8 N zv.cells.toList).flatten)[j*row.len+k]?=zv.cells[k]?:=by
  intro N;induction N with
  |zero=>intro j k hj;omega
  | succ N ih=>
   intro j k hj hk;rw[Sb,Si];cases j with
   |zero=>rw[SI,Su,v1 (by simp[hzs];exact hk)];simp
   |succ j=>
    rw[v0 (by simp only[RR,hzs,R1];omega)]
    rw[<-ih j k (by omega) hk]
    congr 1
    simp only[RR,hzs,R1];omega
 have hrows:RowsDen F w (us.take (iv*row.len)++Z) row (den env (.app (.take l i) (.rep (.ii' .sub l.len' i) r))).l:=by
  have hLt:((den env l).l.take iv).length=iv:=by rw[RY];omega
  refine⟨fun j r' hr'=>?_,fun j r' k x hr' hx=>?_⟩
  ·rw[hL]at hr'
   by_cases hj:j<iv
   ·rw[v1 (by omega),v5,if_pos hj]at hr'
    exact hrow.1 j r' hr'
   ·rw[v0 (by omega)]at hr'
    rw[y3 (y1 hr')];exact q1
  ·rw[hL]at hr'
   by_cases hj:j<iv
   ·rw[v1 (by omega),v5,if_pos hj]at hr'
    have hk:k<row.len:=by rw[<-hrl r' (hrow.1 j r' hr')];exact(List.getElem?_eq_some_iff.1 hx).1
    obtain⟨u,hu,hdn⟩:=hrow.2 j r' k x hr' hx;have hm:(j+1)*row.len<=iv*row.len:=RN _ hj
    rw[R1]at hm;refine⟨u,?_,hdn⟩
    rw[v1 (by omega),v5,if_pos (by omega)];exact hu
   ·rw[v0 (by omega)]at hr'
    have hjl:=(List.getElem?_eq_some_iff.1 hr').1;rw[hLt,R6]at hjl;rw[y3 (y1 hr')]at hx;obtain⟨u,hu,hdn⟩:=q3 k x hx;have hk:k<row.len:=by rw[<-q2];exact(Array.getElem?_eq_some_iff.1 hu).1
    refine⟨u,?_,hdn⟩
    obtain⟨q,rfl⟩:∃q,j=iv+q:=⟨j-iv,by omega⟩
    rw[RU,v0 (by omega),htl,hZ]
    have:iv*row.len+q*row.len+k-iv*row.len=q*row.len+k:=by omega
    rw[this,key (n-iv) q k (by omega) hk];exact hu
 have hw':∀k,k≠g->∀cs',(w.setRow g cs').heap[k]?=w.heap[k]?:=fun k hk cs'=>setRow_other w g k cs' hk
 have hF:∀k,F k->k≠g:=fun k hk e=>h.nF d g (by rw[hd];rfl) (by rw[e1];rfl) (e▸hk)
 refine⟨_,_,κ,F,hRun,?_,⟨#[],rfl,rfl,rfl⟩,h.stored_kept hd rfl rfl (fun k hk=>hw' k (fun e2=>hk (by rw[e1,e2];rfl)) _) (by simp)⟩
 refine(h.stored (y:=.row ety row (.app (.take l i) (.rep (.ii' .sub l.len' i) r))) hd rfl (fun k hk=>hw' k (fun e2=>hk (by rw[e1,e2];rfl)) _) (by simp) ⟨us.take (iv*row.len)++Z,?_,hpos,hrows.keep (fun _ h=>h) (fun k hk=>hw' k (hF k hk) _)⟩ (fun c hc=>by cases hc) (nq h.below hb1)).monoU (fun b hb=>.inl hb)
 rw[hLl,e1];refine⟨by rw[y0,htl,hZl,hmul],.inr ⟨g,c,_,rfl,hb1,setRow_heap w g cur _ ety (0,0) hb2,by omega,hcm,?_,?_⟩⟩
 ·simp only[Sj,y0,RY,R7,RR,hZl];omega
 ·have hus:us.take (iv*row.len)=cur.toList.take (iv*row.len):=by
   rw[<-hcur,SQ];congr 1;rw[<-x2];omega
  rw[hus];have:(cur.toList.take (iv*row.len)++Z).length=n*row.len:=by
   rw[y0,<-hus,htl,hZl,hmul]
  exact List.take_left' this
theorem Jf{o:Oper}{t m:Nat}{x:SV}(ho:o.op=.alloc t)(h:Rel w0 env κ F U tmp blk L a w)(hm:¬U m)(hz:cj P t=some x)(h1:x.cells.list.all isZ=true)(h2:0<x.cells.len)(h3:x.cells.len<=16777216)(h4:x.whole=true):
  aY P w0 env κ F U tmp blk L a w o (.rptr m (.cons .int .nil) (.int 0) 0) [(m,some (.row t (.cons .int .nil) (.rep (.int x.cells.len) (.rcons (.int 0) .rnil))))]:=by
 unfold cj at hz;obtain⟨z,hz1,rfl⟩:=Option.map_eq_some_iff.1 hz;obtain⟨i,hi,hz2⟩:=Option.bind_eq_some_iff.1 hz1;obtain⟨d1,d2⟩:=gr h4 (dP (env:=env) (κ:=κ) (F:=F) (w:=w) z)
 obtain⟨t1,t2⟩:=bJ d2 d1;obtain⟨N,hN⟩:∃N,N=(cz z).cells.len:=⟨_,rfl⟩
 rw[<-hN]at t1 h2 h3⊢
 have hus:∀q u,z.cells.toList[q]?=some u->u=Value.int .i64 0:=fun q u hu=>by
  have hq:q<(cz z).cells.list.length:=by
   rw[list_len,<-hN,<-t1];have:=(List.getElem?_eq_some_iff.1 hu).1
   simpa using this
  obtain⟨v,hv1,hv2⟩:=t2 q _ (v2 hq);rw[I7 (List.all_eq_true.1 h1 _ (List.getElem_mem hq))]at hv2;rw[RM,hv1]at hu;cases hu
  exact hv2.1
 have hL:(den env (.rep (.int (N:Int)) (.rcons (.int 0) .rnil))).l=v8 N [.int 0]:=by
  show v8 ((N:Int)).toNat [AV.int 0]=_
  rw[RP]
 refine⟨.pointer (some ⟨w.heap.size,0,none⟩),w.alloc (.cells z.cells t),upd κ m (.slice (some ⟨w.heap.size,0,none⟩) N N),F,.inl ?_,?_,⟨w.heap.size,0,N,N,au ..,?_,?_,?_⟩,h.new_kept hm rfl⟩
 ·simp[execOp,ho,Instr.alloc,zeroValue,typeInfo,hi,hz2,newVar,newRow]
 ·refine(h.new hm rfl (x:=.row t (.cons .int .nil) (.rep (.int (N:Int)) (.rcons (.int 0) .rnil))) ⟨z.cells.toList,?_,by decide,?_,?_⟩ (fun c hc=>by cases hc)).monoU (fun b hb=>?_)
  ·rw[au,hL,R6]
   exact World.ownsRow_lit (base:=w0.heap.size) (e:=t) (size:=1) w z.cells N h.below.size (by unfold maxLen;omega) (by rw[t1,y7])
  ·intro j r hr
   rw[hL]at hr;rw[y3 (y1 hr)];rfl
  ·intro j r k x hr hx
   rw[hL]at hr;have hj:=(List.getElem?_eq_some_iff.1 hr).1;rw[R6]at hj;rw[y3 (y1 hr)]at hx;have hk:k=0:=by
    have:=(List.getElem?_eq_some_iff.1 hx).1
    simp at this;exact this
   subst hk;have hx':x=.int 0:=by simpa using hx.symm
   subst hx';have hjs:j*(Ty.cons .int .nil).len+0<z.cells.toList.length:=by
    show j*1+0<_
    simp[t1];omega
   refine⟨_,v2 hjs,?_⟩
   rw[hus _ _ (v2 hjs)];exact .int 0
  ·rcases hb with hb|rfl
   ·exact .inl hb
   ·exact .inr ⟨_,List.mem_singleton.2 rfl,rfl⟩
 ·exact Int.le_refl _
 ·show(0:Int)<(N:Int)
  omega
 ·show Value.pointer (some _)=.pointer (some _)
  rw[iC];rfl
theorem O0(j i:E)(m:Nat):(den env (xp j i m)).i=(den env j).i+(den env i).i*(m:Int):=by
 have h:(den env (if m=1 then i else .ii' .mul i (.int m))).i=(den env i).i*(m:Int):=by
  split
  ·rename_i h1;subst h1;simp
  ·rw[cV];rfl
 unfold xp;split
 ·rw[h]
  show _=(0:Int)+_
  rw[Int.zero_add]
 ·rw[cV]
  show(den env j).i+(den env (if m=1 then i else .ii' .mul i (.int m))).i=_
  rw[h]
theorem HY{o:Oper}{t n e:Nat}{x ix:Operand}(ho:o.op=.indexAddr t x ix)(h:Rel w0 env κ F U tmp blk L a w)(ht:P.underlying t=some (.array n e)){i:E}(hi:ai tmp ix=.vi i)(hk:aX P e=true)
  {b k ety:Nat} {ty ty':Ty} {j l:E} (hx:ai tmp x=.rptr b ty j k) (hb:blk b=some (.row ety ty' l)) (h1:ty.len=1)
  (hn:∀e'∈aU (.cmp' .le (.int 0) i)++aU (.cmp' .lt i (.int n))++aU (.cmp' .lt (xp j i (P.cellsOf e)) l.len'),(den env e').b=true):
  aY P w0 env κ F U tmp blk L a w o (.rptr b ty (xp j i (P.cellsOf e)) k) []:=by
 have hev:=h.ev x;have hei:=h.ev ix;rw[hi]at hei;rw[hx]at hev;obtain⟨g,go,m,c,g1,g2,g3,g4⟩:=hev;have n1:=bz (aO fun e he=>hn e (v6 _ (v6 _ he)))
 have n2:=bz (aO fun e he=>hn e (v6 _ (v4 _ he)))
 have n3:=bz (aO fun e he=>hn e (v4 _ he))
 have n1:0<=(den env i).i:=of_decide_eq_true n1
 have n2:(den env i).i<(n:Int):=of_decide_eq_true n2
 have n3:(den env (xp j i (P.cellsOf e))).i<(den env l.len').i:=of_decide_eq_true n3
 rw[bV]at n3;simp only[AV.i_int]at n3;have hidx:(den env (xp j i (P.cellsOf e))).i=(den env j).i+(den env i).i*(P.cellsOf e:Int):=O0 _ _ _
 obtain⟨iv,hiv⟩:∃q:Nat,(q:Int)=(den env i).i:=⟨(den env i).i.toNat,by omega⟩
 obtain⟨jv,hjv⟩:∃q:Nat,(q:Int)=(den env j).i:=⟨(den env j).i.toNat,by omega⟩
 have hidn:(den env (xp j i (P.cellsOf e))).i=((jv+iv*P.cellsOf e:Nat):Int):=by
  rw[hidx,<-hiv,<-hjv];simp
 obtain⟨us,hown,hpos,hrow⟩:=h.blks b _ hb;rw[g1]at hown;have hgo:=Bc hown;subst hgo;have hm:m=(den env l).l.length:=by
  rcases hown.2 with⟨e,_⟩|⟨g',cap,cur,e,_⟩
  ·cases e
  ·injection e
 have hsz:=bO (w:=w) hk;refine aw h (u:=.pointer (some ((⟨g,0,none⟩:Addr).add ((jv+iv*P.cellsOf e)*ty.len+k)))) (.inl ?_) ⟨g,0,m,c,g1,by rw[hidn];omega,by rw[hidn];rw[hidn]at n3;omega,by rw[hidn,RP]⟩
 have e0:a.eval ix=.int .i64 iv:=by rw[hei.1,<-hiv]
 have g4':a.eval x=.pointer (some ((⟨g,0,none⟩:Addr).add (jv+k))):=by
  rw[g4,<-hjv,h1,RP,y7]
 have hlt:(iv:Int)<(n:Int):=by omega
 have hge:(0:Int)<=(iv:Int):=by omega
 have hadd:((⟨g,0,none⟩:Addr).add (jv+k)).add (iv*P.cellsOf e)=(⟨g,0,none⟩:Addr).add ((jv+iv*P.cellsOf e)*ty.len+k):=by
  rw[ip,h1,y7];congr 1
  omega
 rw[<-hadd];simp only[execOp,ho,g4',e0,Instr.indexAt,asIntOf,run_underlying ht,Sem.run_bind,Sem.run_pure,Result.andThen_ok,Instr.sureAddr];simp[hge,hlt,hsz]
theorem Iq{o:Oper}{t e:Nat}{x ix:Operand}(ho:o.op=.indexAddr t x ix)(h:Rel w0 env κ F U tmp blk L a w)(ht:P.underlying t=some (.slice e)){i:E}(hi:ai tmp ix=.vi i)(hk:aX P e=true)(h1:P.cellsOf e=1)
  {b n c:Nat} (hx:ai tmp x=.csl b n) (hic:(den env i).i=(c:Int)) (hcn:c<n):aY P w0 env κ F U tmp blk L a w o (.ptr b c) []:=by
 have hev:=h.ev x;have hei:=h.ev ix;rw[hi]at hei;rw[hx]at hev;obtain⟨g,cap,g1,g2⟩:=hev;have hsz:=bO (w:=w) hk;have e0:a.eval ix=.int .i64 (c:Int):=by rw[hei.1,hic]
 refine aw h (u:=.pointer (some ⟨g,c,none⟩)) (.inl ?_) ⟨g,g1,rfl⟩
 have hadd:(⟨g,0,none⟩:Addr).add (c*1)=⟨g,c,none⟩:=by rw[iC,y7,Su]
 have hlt:(c:Int)<(n:Int):=by omega
 have hge:(0:Int)<=(c:Int):=by omega
 simp only[execOp,ho,g2,e0,Instr.indexAt,asIntOf,run_underlying ht,Sem.run_bind,Sem.run_pure,Result.andThen_ok];simp[hge,hlt,hsz,h1]
 rw[<-hadd,y7]
theorem LD{tr:E->Option Bool}{i:E}{f:Nat->Out}{needs:List E}{v:SV}{wr:List (Nat×Option SB)}(htr:∀e b,tr e=some b->(den env e).b=b):∀(n c:Nat),mn tr i f n c=.ok needs v wr->∃q,c<=q/\q<c+n/\(den env i).i=(q:Int)/\f q=.ok needs v wr:=by
 intro n;induction n with
 |zero=>intro c h;cases h
 | succ n ih=>
  intro c h;unfold mn at h;split at h
  ·rename_i ht
   have:=htr _ _ ht
   rw[fw]at this;exact⟨c,RJ _,by omega,of_decide_eq_true this,h⟩
  ·obtain⟨q,h1,h2,h3⟩:=ih (c+1) h
   exact⟨q,by omega,by omega,h3⟩
  ·cases h
theorem Ly{o:Oper}{s:Operand}{t:Nat}(ho:o.op=.call { callee:=.builtin .len,args:=#[s],argTypes:=#[t] })(h:Rel w0 env κ F U tmp blk L a w){e:Nat}(ht:P.underlying t=some (.slice e)){b n:Nat}(hs:ai tmp s=.csl b n):aY P w0 env κ F U tmp blk L a w o (.vi (.int n)) []:=by
 have hes:=h.ev s;rw[hs]at hes;obtain⟨g,c,g1,g2⟩:=hes;refine aw h (u:=.int .i64 n) (.inl ?_) ⟨rfl,rfl⟩
 unfold execOp;simp only[ho,resolve,invoke,builtin,Sem.run_bind,Sem.run_pure,Result.andThen_ok,RX,R0,R5,g2];simp[Builtin.len_,run_underlying ht]
 rfl
theorem N2{α:Type}(z:α)(n:Nat):(v8 n [z]).flatten=v8 n z:=by
 induction n with
 |zero=>rfl
 |succ n ih=>simp[Sb,ih]
theorem JR{o:Oper}{t len e:Nat}{parts:Array (Nat×Operand)}(ho:o.op=.buildSlice t len parts)(h:Rel w0 env κ F U tmp blk L a w){m:Nat}(hm:¬U m)(ht:P.underlying t=some (.slice e)){z:SV}(hz:cj P e=some z)(hz1:z.one=true)(h1:P.cellsOf e=1)(hk:aX P e=true)(hb:0<P.bytesOf e)
  {cs:List SV} (hf:ir (fun i=>some (i,1)) (v8 len z) (parts.toList.map fun x=>(x.1,ai tmp x.2))=some cs) (hones:cs.all SV.one=true) (hcl:cs.length=len) (hbig:len<=16777216):
  aY P w0 env κ F U tmp blk L a w o (.csl m len) [(m,some (.cells e (.of cs)))]:=by
 have hinf:∃i,P.info? e=some i:=by
  unfold aX at hk;exact Option.isSome_iff_exists.1 (Bool.and_eq_true_iff.1 hk).2
 obtain⟨i,hi⟩:=hinf;obtain⟨zv,hzv,rfl⟩:=tJ hi hz;have hzd:=dP (env:=env) (κ:=κ) (F:=F) (w:=w) zv;have hpl:=Ao hz1 hzd;have hzc:zv.cells=#[zv]:=oz hpl
 obtain⟨Z,hZ⟩:∃Z:Array Value,Z=(R8 (len*1)).map (fun j=>zv.cells[j % zv.cells.size]!):=⟨_,rfl⟩
 have hZl:Z.toList=v8 len zv:=by
  rw[hZ,qz (n:=1) (by rw[hzc];rfl) (by decide),hzc]
  exact N2 zv len
 have hZd:SVden env κ F w (.of (v8 len (cz zv))) (.tuple Z):=by
  have:=gu (env:=env) (κ:=κ) (F:=F) (w:=w) (l:=v8 len (cz zv)) (cs:=Z.toList) (by rw[hZl];simp) (fun q x u hx hu=>by
   rw[hZl]at hu;rw[y3 (y1 hx),y3 (y1 hu)];exact hzd)
  simpa using this
 obtain⟨r,r1,r2,r3⟩:=wZ (env:=env) (κ:=κ) (F:=F) (w:=w) _ ((parts.map fun x=>(x.1,a.eval x.2)).toList) _ _ _ hf (by simp) (fun j p v h1 h2=>by
  simp only[y8,So]at h1 h2;obtain⟨x,h3,rfl⟩:=Option.map_eq_some_iff.1 h1;rw[h3]at h2;cases h2
  exact h.ev x.2) hZd
 have hnm:∀b∈(SV.of cs).names,U b:=fun b hb=>by
  have hfill:∀(ps:List (Nat×SV)) (xs out:List SV),ir (fun i=>some (i,1)) xs ps=some out->(∀p∈ps,∀b∈p.2.names,U b)->(∀x∈xs,∀b∈x.names,U b)->∀x∈out,∀b∈x.names,U b:=by
   intro ps;induction ps with
   |nil=>intro xs out h _ h2;simp only[ir]at h;cases h;exact h2
   | cons p ps ih=>
    intro xs out h h1 h2;obtain⟨i,v⟩:=p;simp only[ir]at h;split at h
    ·cases h
    ·refine ih _ _ h (fun p hp=>h1 p (v3 _ hp)) (fun x hx=>?_)
     rcases List.mem_append.1 hx with hx|hx
     ·rcases List.mem_append.1 hx with hx|hx
      ·exact h2 x (SE hx)
      ·intro b hb
       exact h1 _ (v7 ..) b (va b (cr _ x hx b hb))
     ·exact h2 x (List.mem_of_mem_drop hx)
  obtain⟨x,hx,hb⟩:=(gT _ b).1 hb;refine hfill _ _ _ hf (fun p hp b hb=>?_) (fun x hx b hb=>?_) x hx b hb
  ·obtain⟨q,hq,rfl⟩:=List.mem_map.1 hp
   exact h.evNames q.2 b hb
  ·rw[y3 hx,vm]at hb;cases hb
 have hpl2:∀u∈r,aT u=true:=qj (bE _) (by unfold pH;rw[fz];exact hones) r2
 refine⟨.slice (some ⟨w.heap.size,0,none⟩) len len,w.alloc (.cells r e),upd κ m (.pointer (some ⟨w.heap.size,0,none⟩)),F,.inl ?_,?_,⟨w.heap.size,len,au ..,rfl⟩,h.new_kept hm rfl⟩
 ·have hsz:=bO (w:=w) hk
  have hrun:(Instr.buildSlice t len (parts.map fun x=>(x.1,a.eval x.2))).run P w=.ok (.slice (some ⟨w.heap.size,0,none⟩) len len) (w.alloc (.cells r e)):=by
   simp only[Instr.buildSlice,run_underlying ht,Sem.run_bind,Result.andThen_ok,hsz,h1];rw[if_neg (by omega)]
   by_cases h0:len*1=0
   ·rw[if_pos h0]
    have hZ0:Z=#[]:=by rw[hZ,h0];simp
    rw[hZ0]at r1;have e0:∀f:Nat->Value,(R8 0).map f=#[]:=fun f=>by simp
    rw[h0];simp only[e0,Sem.run_bind,Sem.run_pure,Result.andThen_ok];simp at r1
    simp[r1,newRow]
   ·rw[if_neg h0]
    rw[hZ]at r1;simp[zeroValue,typeInfo,hi,hzv]
    simp[hzc]at r1
    simp[hzc,r1,newRow]
  simp only[execOp,ho];rw[Sem.run_bind,hrun,Result.andThen_ok,Sem.run_pure]
 ·refine(h.new hm rfl (x:=.cells e (.of cs)) ⟨w.heap.size,r,au ..,World.alloc_heap_new _ _,h.below.size,xj h hm hnm r2,bE _,hpl2⟩ hnm).monoU (fun b hb=>?_)
  rcases hb with hb|rfl
  ·exact .inl hb
  ·exact .inr ⟨_,List.mem_singleton.2 rfl,rfl⟩
theorem Jv{o:Oper}{t n e:Nat}{x ix:Operand}(ho:o.op=.index t x ix)(h:Rel w0 env κ F U tmp blk L a w)(ht:P.underlying t=some (.array n e)){xs:SV}{i l:E}(hi:ai tmp ix=.vi i)(hx:ai tmp x=.agg xs)
  (h1:P.cellsOf e=1) (h2:bQ P e=false) (hk:aX P e=true) (hp:xs.proper=true) (hl:xs.len=n) (hr:np 1 (.cons .int .nil) n xs.list=some l)
  (hn:∀e'∈aU (.cmp' .le (.int 0) i)++aU (.cmp' .lt i (.int n)),(den env e').b=true):aY P w0 env κ F U tmp blk L a w o (.vi ((E.cell' l i 0).as .int)) []:=by
 have hev:=h.ev x;have hei:=h.ev ix;rw[hi]at hei;rw[hx]at hev;obtain⟨cs,g1,g2,g3⟩:=hev;have n1:=bz (aO fun e he=>hn e (v6 _ he))
 have n2:=bz (aO fun e he=>hn e (v4 _ he))
 have n1:0<=(den env i).i:=of_decide_eq_true n1
 have n2:(den env i).i<(n:Int):=of_decide_eq_true n2
 obtain⟨s1,s2⟩:=bJ g2 g3;obtain⟨b1,b2,b3⟩:=xk (env:=env) (κ:=κ) (F:=F) (w:=w) (row:=.cons .int .nil) rfl n xs.list l cs.toList hr (by rw[list_len,hl];exact(y7 n).symm) (by rw[list_len,RR,s1]) (fun i x u h1 h2=>by
  obtain⟨v,h3,h4⟩:=s2 i x h1;rw[RM,h3]at h2;cases h2;exact h4)
 obtain⟨iv,hiv⟩:∃q:Nat,(q:Int)=(den env i).i:=⟨(den env i).i.toNat,by omega⟩
 have hit:(den env i).i.toNat=iv:=by omega
 have hlt:iv<(den env l).l.length:=by omega
 have hrr:=v2 hlt;have hty:=b2.1 _ _ hrr;have hs2:((den env l).l[iv].map AV.ty)[0]?=some .int:=by rw[hty];rfl
 rw[y8]at hs2;obtain⟨y,hy,hys⟩:=Option.map_eq_some_iff.1 hs2;obtain⟨u,hu,hd⟩:=b2.2 _ _ _ _ hrr hy;have hcell:den env (.cell l i 0)=y:=sR (by rw[hit];exact hrr) hy
 have e1:den env ((E.cell' l i 0).as .int)=y:=by rw[ww (by rw[fC,hcell];exact hys),fC,hcell]
 rw[jO hys]at hd;have hu2:=Den.int_iff.1 hd;have hl1:(Ty.cons .int .nil).len=1:=rfl
 rw[hl1,y7,R2,RM,hu2]at hu;have hsz:=bO (w:=w) hk;have e0:a.eval ix=.int .i64 iv:=by rw[hei.1,<-hiv]
 refine aw h (u:=.int .i64 y.i) (.inl ?_) ⟨by rw[e1],by rw[e1];exact hys⟩
 have hpart:(part e cs (iv*1)).run P w=.ok (.int .i64 y.i) w:=by
  rw[nZ hk,h2,y7,hu];rfl
 have h3:(0:Int)<=(iv:Int):=by omega
 have h4:(iv:Int)<(n:Int):=by omega
 simp only[execOp,ho,g1,e0,Instr.index,asIntOf,run_underlying ht,Sem.run_bind,Sem.run_pure,Result.andThen_ok];simp only[y7]at hpart;simp[h3,h4,hsz,h1,hpart]
theorem Rx(e:E):(den env (e.as .int)).i=(den env e).i:=by
 unfold E.as;split<;>rfl
theorem E6{n:Nat}{xs:SV}{l:E}(h:tu n xs=some l):xs=.of ((List.range n).map fun(q:Nat)=>SV.vi ((E.cell' l (.int (q:Int)) 0).as .int)):=by
 unfold tu at h;split at h
 ·split at h
  ·rename_i he;cases h;exact he
  ·cases h
 ·cases h
theorem GU{o:Oper}{t n e:Nat}{x ix:Operand}(ho:o.op=.index t x ix)(h:Rel w0 env κ F U tmp blk L a w)(ht:P.underlying t=some (.array n e)){xs:SV}{i l:E}(hi:ai tmp ix=.vi i)(hx:ai tmp x=.agg xs)
  (h1:P.cellsOf e=1) (h2:bQ P e=false) (hk:aX P e=true) (hp:xs.proper=true) (hl:xs.len=n) (hr:tu n xs=some l)
  (hn:∀e'∈aU (.cmp' .le (.int 0) i)++aU (.cmp' .lt i (.int n)),(den env e').b=true):aY P w0 env κ F U tmp blk L a w o (.vi (.co .int (.cell l i 0))) []:=by
 have hev:=h.ev x;have hei:=h.ev ix;rw[hi]at hei;rw[hx]at hev;obtain⟨cs,g1,g2,g3⟩:=hev;have n1:=bz (aO fun e he=>hn e (v6 _ he))
 have n2:=bz (aO fun e he=>hn e (v4 _ he))
 have n1:0<=(den env i).i:=of_decide_eq_true n1
 have n2:(den env i).i<(n:Int):=of_decide_eq_true n2
 obtain⟨s1,s2⟩:=bJ g2 g3;obtain⟨iv,hiv⟩:∃q:Nat,(q:Int)=(den env i).i:=⟨(den env i).i.toNat,by omega⟩
 have hit:(den env i).i.toNat=iv:=by omega
 have hget:xs.list[iv]?=some (SV.vi ((E.cell' l (.int (iv:Int)) 0).as .int)):=by
  rw[E6 hr,fz,y8,List.getElem?_range (by omega)];rfl
 obtain⟨u,hu,hd⟩:=s2 iv _ hget;have hu2:u=.int .i64 (den env (.co .int (.cell l i 0))).i:=by
  rw[hd.1,Rx,fC];show Value.int .i64 (den env (.cell l (.int (iv:Int)) 0)).i=.int .i64 (den env (.cell l i 0)).i
  congr 2
  show(Sh (Sh (den env l).l ((iv:Int)).toNat []) 0 (AV.int 0))=Sh (Sh (den env l).l (den env i).i.toNat []) 0 (AV.int 0)
  rw[hit,RP]
 have hsz:=bO (w:=w) hk;have e0:a.eval ix=.int .i64 iv:=by rw[hei.1,<-hiv]
 refine aw h (u:=u) (.inl ?_) ⟨hu2,rfl⟩
 have hpart:(part e cs (iv*1)).run P w=.ok u w:=by
  rw[nZ hk,h2,y7,hu];rfl
 have h3:(0:Int)<=(iv:Int):=by omega
 have h4:(iv:Int)<(n:Int):=by omega
 simp only[execOp,ho,g1,e0,Instr.index,asIntOf,run_underlying ht,Sem.run_bind,Sem.run_pure,Result.andThen_ok];simp only[y7]at hpart;simp[h3,h4,hsz,h1,hpart]
theorem Jz{o:Oper}{t m:Nat}{r:Ty}(ho:o.op=.makeMap t none)(h:Rel w0 env κ F U tmp blk L a w)(hm:¬U m):aY P w0 env κ F U tmp blk L a w o (.map m) [(m,some (.amap r .lnil))]:=by
 refine⟨.map (some w.heap.size),w.alloc (.map #[] 0),upd κ m (.pointer (some ⟨w.heap.size,0,none⟩)),F,.inl ?_,?_,⟨w.heap.size,au ..,rfl⟩,h.new_kept hm rfl⟩
 ·simp[execOp,ho,Instr.makeMap]
 ·refine(h.new hm rfl (x:=.amap r .lnil) ⟨w.heap.size,#[],0,au ..,World.alloc_heap_new _ _,h.below.size,rfl,fun i r e h1=>by simp[den]at h1⟩ (fun c hc=>by cases hc)).monoU (fun b hb=>?_)
  rcases hb with hb|rfl
  ·exact .inl hb
  ·exact .inr ⟨_,List.mem_singleton.2 rfl,rfl⟩
theorem JU{base t ty e:Nat}{i:TypeInfo}{z:Value}{size:Nat}(ht:P.underlying t=some (.slice e))(hi:P.info? e=some i)(hz:i.zero=some z)(hsize:i.size=size)(hzs:z.cells.size=size)(hsz:0<size)(hby:0<i.bytes)
  {v:Value} {n:Nat} {xs:List Value} (hown:jV w base e size v n xs) {A:Option Addr} {m c B:Nat} {news:List Value} (hS:Span w B size A m news) (h1:∀u∈news,aT u=true) (hbytes:(n+m)*i.bytes<=140737488355328) (hbase:base<=w.heap.size):
  ∃v' w',(Builtin.append_ #[t,t] ty #[v,.slice A m c]).run P w=.ok v' w'/\jV w' base e size v' (n+m) (xs++news)/\w.grownBy w' (ak v)/\∀k,ak v'=some k->ak v=some k\/w.heap.size<=k:=by
 have h63:n+m<=maxLen:=by
  have:=RV (RO (n+m) hby) hbytes
  unfold maxLen;omega
 have h1':∀u∈news,u.oneCell'=true:=fun u hu=>by rw[<-pt];exact h1 u hu
 rcases hown.2 with⟨rfl,rfl⟩|⟨g,o,cap,cur,rfl,hbg,hg,hnc,hcm,hcs,htake⟩
 ·have hx:xs=[]:=v9 (by simpa using hown.1)
  subst hx;obtain⟨v',w',r1,r2,r3,r4⟩:=mJ (P:=P) (ty:=ty) ht hi hz hsize hzs hsz hby (World.ownsRow_nil w base e size) hS h1 (c:=c) hbytes hbase
  exact⟨v',w',r1,pv r2,r3,r4⟩
 ·cases A with
  | none=>
   have hn:news=[]:=by
    cases news with
    |nil=>rfl
    |cons u l=>obtain⟨a,ha,_⟩:=hS.2 0 u rfl;cases ha
   subst hn;have hm:m=0:=by
    have h0:=hS.1;rw[Ss]at h0;rcases RT m with h|h
    ·exact h
    ·have:=Sn h hsz;omega
   subst hm;refine⟨.slice (some ⟨g,o,none⟩) n cap,w,?_,by rw[Sz];exact hown,iP _ _,fun k hk=>.inl hk⟩
   simp[Builtin.append_,run_underlying ht,sizeOf,typeInfo,hi,Builtin.lenOf,Builtin.firstCells,hnc,storeCells]
  | some ad=>
   have hnews:∀j u,news[j]?=some u->w.cell? (ad.add j)=some u:=fun j u hu=>by obtain⟨a',e1,_,e2⟩:=hS.2 j u hu;cases e1;exact e2
   subst hsize;have hlen:(xs++news).length=(n+m)*i.size:=by rw[y0,hown.1,hS.1,RU]
   by_cases hroom:n+m<=cap
   ·have hmul:n*i.size+m*i.size<=cap*i.size:=by rw[<-RU];exact RN _ hroom
    have hfit:o+n*i.size+news.length<=cur.size:=by rw[hS.1];omega
    have hf:=run_firstCells_some (P:=P) w i.size m ad m c news hS.1 hnews;have hst:=run_storeCells_at P g (o+n*i.size) e news 0 cur w hg (by simpa using hfit) h1'
    simp only[R2]at hst;refine⟨.slice (some ⟨g,o,none⟩) (n+m) cap,w.setRow g (cur.toList.take (o+n*i.size)++news++cur.toList.drop (o+n*i.size+news.length)).toArray,?_,⟨hlen,.inr ⟨g,o,cap,_,rfl,hbg,setRow_heap w g cur _ e _ hg,hroom,hcm,?_,?_⟩⟩,⟨rfl,rfl,rfl,by simp,fun k _ hk=>setRow_other w g k _ (fun e=>hk (by simp[ak,e]))⟩,fun k hk=>.inl hk⟩
    ·have hadd:(⟨g,o,none⟩:Addr).add (n*i.size)=⟨g,o+n*i.size,none⟩:=iC _ _ _
     simp[Builtin.append_,run_underlying ht,sizeOf,typeInfo,hi,Builtin.lenOf,hroom,hf,hadd,hst]
    ·simp only[Sj,y0,RY,R7,RR]
     omega
    ·have htl:(cur.toList.take (o+n*i.size)).length=o+n*i.size:=by rw[RY,RR];omega
     show((cur.toList.take (o+n*i.size)++news++cur.toList.drop (o+n*i.size+news.length)).drop o).take ((n+m)*i.size)=xs++news
     rw[Sk,List.drop_append_of_le_length (by omega),SR]
     have e1:o+n*i.size-o=n*i.size:=by omega
     rw[e1,htake,<-Sk,<-hlen];exact SU
   ·have holds:∀j u,xs[j]?=some u->w.cell? ((⟨g,o,none⟩:Addr).add j)=some u:=fun j u hu=>by
     rw[iC,cell_of_row w g _ cur e (0,0) hg];rw[<-htake,v5]at hu;split at hu
     ·rw[y2]at hu;simpa using hu
     ·cases hu
    have hr:=run_append_grow (P:=P) w t ty e i z ht hi hz ⟨g,o,none⟩ n cap xs hown.1 holds ad m c news hS.1 hnews (by omega) (by simp only[maxLen]at h63;omega) (growslice_fits (by omega) hbytes)
    have hge:=grownCap_ge w (n+m) cap e;have hcm':grownCap w (n+m) cap e<=maxLen:=grownCap_le_maxLen w (n+m) cap e h63
    refine⟨_,_,hr,pv ⟨hlen,.inr ⟨w.heap.size,_,_,rfl,hbase,heap_alloc_new w.drew _,hge,hcm',?_,?_⟩⟩,⟨rfl,rfl,rfl,by simp,fun k hk _=>heap_alloc_old w.drew _ hk⟩,fun k hk=>.inr ?_⟩
    ·simp only[Array.size_append,Sj,size_zeroCells,hzs,hown.1,hS.1,<-RU]
     congr 1
     omega
    ·simp only[Array.toList_append,Sk]
     rw[<-Sk,<-hlen];exact SU
    ·have:w.heap.size=k:=by simpa[ak]using hk
     omega
theorem JQ{o:Oper}{s x:Operand}{t ety:Nat}{row:Ty}(ho:o.op=.call { callee:=.builtin .append,args:=#[s,x],argTypes:=#[t,t] })(h:Rel w0 env κ F U tmp blk L a w)(ht:bv P t=some (ety,row)){m:Nat}(hm:¬U m)
  {ty:Option Ty} {lx l:E} (hx:cW blk (ai tmp x)=some (ty,lx)) (hty:ty.all (·=row)=true)
  (hn:∀e∈fg (cb l lx) (P.bytesOf ety),(den env e).b=true) {d:Nat} (h1:ai tmp s=.row d) (h2:blk d=some (.qrow ety row l)):
  aY P w0 env κ F U tmp blk L a w o (.row m) [(d,some (.dead l)),(m,some (.qrow ety row (cb l lx)))]:=by
 obtain⟨u1,u2,u3,_,u5,u6,u7,u8⟩:=bL ht;obtain⟨z,hz1,hzs⟩:=Option.map_eq_some_iff.1 u8;obtain⟨i,hi,hz⟩:=Option.bind_eq_some_iff.1 hz1;have hsize:i.size=row.len:=by rw[u2];unfold Program.cellsOf;rw[hi];rfl
 have hbytes:P.bytesOf ety=i.bytes:=by unfold Program.bytesOf;rw[hi];rfl
 obtain⟨A,c,news,e1,e2,e3,e4⟩:=lk h (h.ev x) hx hty u3 u7;have hroom:((den env l).l.length+(den env lx).l.length)*i.bytes<=140737488355328:=by
  have h1:=bz (aO hn);rw[cV,bV]at h1;change decide ((((den env (cb l lx)).l.length:Int))*(P.bytesOf ety:Int)<=140737488355328)=true at h1
  have h2:=of_decide_eq_true h1;rw[eS,y0,hbytes]at h2;rw[<-R4]at h2;generalize ((den env l).l.length+(den env lx).l.length)*i.bytes=q at h2⊢
  omega
 have hle:=h.below.size;have hes:=h.ev s;rw[h1]at hes;obtain⟨us,hown,hpos,hrow⟩:=h.blks d _ h2;obtain⟨v',w',r1,r2,r3,r4⟩:=JU (P:=P) (ty:=o.type) u1 hi hz hsize hzs u3 (by omega) hown e2 e4 (c:=c) hroom hle
 refine⟨v',w',upd κ m v',F,gk ho (by rw[show a.eval s=_ from hes.1,e1];exact r1),?_,⟨(au κ m v').symm,?_⟩,h.moved_kept h2 rfl rfl rfl hm r3 r4⟩
 ·have hbel:Below w0.heap.size w0 w':=h.below.trans ⟨r3.os,r3.tape,r3.output,r3.size,fun k hk=>r3.block k (by omega) (fun e=>by have:=((h.blks d _ h2).lt rfl e.symm).1;omega)⟩
  have hF2:∀k,F k->w'.heap[k]?=w.heap[k]?:=fun k hF=>r3.block k (h.F k hF) (fun e=>h.nF d k (by rw[h2];rfl) e.symm hF)
  refine(h.moved (y:=.qrow ety row (cb l lx)) (z:=.dead l) h2 rfl rfl ?_ rfl hm r3 r4 ⟨us++news,?_,u3,?_⟩ (fun c hc=>by cases hc) hbel).monoU (fun b hb=>?_)
  ·have hdm:d≠m:=fun e=>by subst e;exact hm (h.bnames d _ h2).1
   rcases hown.2 with⟨e,e'⟩|⟨g,o,cap,cur,e,_⟩
   ·exact⟨none,0,by rw[ag hdm,e,e']⟩
   ·exact⟨_,_,by rw[ag hdm,e]⟩
  ·rw[au,eS,y0];exact r2
  ·rw[eS]
   exact(hrow.app e3 hown.1).keep (fun _ h=>h) hF2
  ·rcases hb with hb|rfl
   ·exact .inl hb
   ·exact .inr ⟨_,v3 _ (List.mem_singleton.2 rfl),rfl⟩
 ·rcases r2.2 with⟨rfl,_⟩|⟨g,o,cap,cur,rfl,_⟩<;>rfl
theorem Js{o:Oper}{t ety:Nat}{row:Ty}{x lo:Operand}(ho:o.op=.slice t x (some lo) none none)(h:Rel w0 env κ F U tmp blk L a w)(ht:bv P t=some (ety,row)){d m:Nat}(hm:¬U m)(hx:ai tmp x=.row d){y:SB}{l i:E}(hd:blk d=some y)(hy:y=.row ety row l\/y=.qrow ety row l)
  (hl:ai tmp lo=.vi i) (hn:∀x∈aU (.cmp' .le (.int 0) i)++aU (.cmp' .le i l.len'),(den env x).b=true):aY P w0 env κ F U tmp blk L a w o (.row m) [(d,some (.dead l)),(m,some (.qrow ety row (.drop l i)))]:=by
 obtain⟨u1,u2,u3,_,u5,_⟩:=bL ht;have hev:=h.ev x;rw[hx]at hev;have n1:=bz (aO fun e he=>hn e (v6 _ he))
 have n2:=bz (aO fun e he=>hn e (v4 _ he))
 have n1:0<=(den env i).i:=of_decide_eq_true n1
 have n2:(den env i).i<=(den env l.len').i:=of_decide_eq_true n2
 rw[bV]at n2;simp only[AV.i_int]at n2;obtain⟨us,hown,hpos,hrow⟩:∃us,jV w w0.heap.size ety row.len (κ d) (den env l).l.length us/\0<row.len/\RowsDen F w us row (den env l).l:=by
  rcases hy with rfl|rfl
  ·obtain⟨us,h1,h2,h3⟩:=h.blks d _ hd
   exact⟨us,pv h1,h2,h3⟩
  ·exact h.blks d _ hd
 have hlive:aD (some y)=true:=by rcases hy with rfl|rfl<;>rfl
 have hnl:oc (some y)=true:=by rcases hy with rfl|rfl<;>rfl
 obtain⟨lv,hlv⟩:∃k:Nat,(k:Int)=(den env i).i:=⟨(den env i).i.toNat,by omega⟩
 have hlt:lv<=(den env l).l.length:=by omega
 have hsz:=bO (w:=w) u5;obtain⟨A,c,hκ,hc⟩:∃A c,κ d=.slice A (den env l).l.length c/\(den env l).l.length<=c:=by
  rcases hown.2 with⟨e,e'⟩|⟨g,o,cap,cur,e,_,_,hnc,_⟩
  ·exact⟨none,0,by rw[e,e'],by omega⟩
  ·exact⟨_,_,e,hnc⟩
 have hb:=qh (P:=P) (w:=w) h (lo:=some lo) (hi:=none) (d0:=.int 0) (d1:=l.len') (l:=i) (q:=l.len') (by simp[dn,hl]) rfl (n:=(den env l).l.length) (c:=c) (by intro _;rw[bV];rfl) (by intro e2;rw[e2];rfl) hlv (qv:=(den env l).l.length) (by rw[bV];rfl) hc hlt
 obtain⟨v',hv'⟩:∃v',v'=Value.slice (if c=lv then A else A.map (·.add (lv*row.len))) ((den env l).l.length-lv) (c-lv):=⟨_,rfl⟩
 have hrun:(Instr.sliceAt t (a.eval x) (some (a.eval lo)) none none).run P w=.ok v' w:=by
  rw[hev.1,hκ,hv'];simp only[RL,RW]at hb;simp only[Instr.sliceAt,run_underlying u1,Sem.run_bind,Result.andThen_ok,Instr.slice,hb,hsz,Sem.run_pure,u2]
 have hR:cZ P o a w v' w:=.inl (by
  simp only[execOp,ho,RW,RL,Sem.run_bind,hrun,Result.andThen_ok,Sem.run_pure])
 have hbl:ak v'=ak (κ d):=by
  rw[hκ,hv'];cases A with
  |none=>split<;>rfl
  | some a=>
   split
   ·rfl
   ·show some (a.add _).block=some a.block
    rw[o4]
 have hpl:aT v'=true:=by rw[hv'];rfl
 have hdm:d≠m:=fun e=>by subst e;exact hm (h.bnames d _ hd).1
 have hL:(den env (.drop l i)).l=(den env l).l.drop lv:=by
  show(den env l).l.drop (den env i).i.toNat=_
  rw[<-hlv,RP]
 have hmul:lv*row.len+((den env l).l.length-lv)*row.len=(den env l).l.length*row.len:=by rw[<-RU];congr 1;omega
 refine⟨v',w,upd κ m v',F,hR,?_,⟨(au κ m _).symm,hpl⟩,h.moved_kept hd hlive hnl rfl hm (iP _ _) (fun k hk=>.inl (by rw[<-hbl];exact hk))⟩
 refine(h.moved (y:=.qrow ety row (.drop l i)) (z:=.dead l) hd hlive rfl ⟨A,c,by rw[ag hdm];exact hκ⟩ rfl hm (iP _ _) (fun k hk=>.inl (by rw[<-hbl];exact hk)) ⟨us.drop (lv*row.len),?_,u3,fun j r hr=>?_,fun j r k y hr hy=>?_⟩ (fun c hc=>by cases hc) h.below).monoU (fun b hb=>?_)
 ·rw [au,hL,R7]
  refine⟨by rw[R7,hown.1];omega,?_⟩
  rcases hown.2 with⟨e,e'⟩|⟨g,o,cap,cur,e,hb1,hb2,hnc,hcm,hcs,hcur⟩
  ·left
   rw[hκ]at e;injection e with e1 e2 e3
   subst e1;subst e3;have:lv=0:=by omega
   subst this;refine⟨?_,by omega⟩
   rw[hv',e'];rfl
  ·right
   rw[hκ]at e;injection e with e1 e2 e3
   subst e1;subst e3;by_cases hcl:c=lv
   ·refine⟨g,o,c-lv,cur,by rw[hv',if_pos hcl],hb1,hb2,by omega,by omega,?_,?_⟩
    ·have:c-lv=0:=by omega
     rw[this,SI];omega
    ·have e0:(den env l).l.length-lv=0:=by omega
     have e2:(den env l).l.length=lv:=by omega
     have e1:us.drop (lv*row.len)=[]:=List.drop_eq_nil_of_le (by rw[hown.1,e2];exact RJ _)
     rw[e0,e1,SI,SD]
   ·refine⟨g,o+lv*row.len,c-lv,cur,by rw[hv',if_neg hcl,RL,iC],hb1,hb2,by omega,by omega,?_,?_⟩
    ·have:lv*row.len+(c-lv)*row.len=c*row.len:=by rw[<-RU];congr 1;omega
     omega
    ·rw[<-hcur,SR,List.drop_drop]
     congr 1
     omega
 ·rw[hL,y2]at hr
  exact hrow.1 _ r hr
 ·rw[hL,y2]at hr
  obtain⟨u,hu,hdn⟩:=hrow.2 _ r k y hr hy;refine⟨u,?_,hdn⟩
  rw[y2,<-hu];congr 1
  rw[RU];omega
 ·rcases hb with hb|rfl
  ·exact .inl hb
  ·exact .inr ⟨_,v3 _ (List.mem_singleton.2 rfl),rfl⟩
theorem Fn{args:Array Operand}{f:Operand->SV}{x:SV}(h:args.toList.map f=[x]):∃y,args=#[y]/\f y=x:=by
 match hl:args.toList,h with
 |[y],h=>exact⟨y,by rw[<-y9 (xs:=args),hl],by simpa using h⟩
theorem Bg{args:Array Operand}{f:Operand->SV}{x z:SV}(h:args.toList.map f=[x,z]):∃y u,args=#[y,u]/\f y=x/\f u=z:=by
 match hl:args.toList,h with
 |[y,u],h=>exact⟨y,u,by rw[<-y9 (xs:=args),hl],by simpa using h⟩
theorem CX{ts:Array Nat}{t:Nat}(h:ts.toList=[t]):ts=#[t]:=by rw[<-y9 (xs:=ts),h]
theorem IK{ts:Array Nat}{t u:Nat}(h:ts.toList=[t,u]):ts=#[t,u]:=by rw[<-y9 (xs:=ts),h]
theorem Ld{con:Nat->Bool}{nm:Nat}{ev:Operand->SV}{bk:Nat->Option SB}{t d:Nat}{i:Operand}(h:con 6000000=true):pn P con nm ev bk t (.row d) (some i) none=jN P nm ev bk t (.row d) i:=by
 unfold pn;rw[h]
theorem LI{con:Nat->Bool}{tr:E->Option Bool}{nm:Nat}{o:Oper}(h:Rel w0 env κ F U tmp blk L a w)(htr:∀e b,tr e=some b->(den env e).b=b){needs:List E}{v:SV}{wr:List (Nat×Option SB)}
  (hm:wr≠[]->¬U nm) (hc:iT P con tr nm (ai tmp) blk o=.ok needs v wr) (hn:∀e∈needs,(den env e).b=true):aY P w0 env κ F U tmp blk L a w o v wr:=by
 unfold iT at hc;split at hc
 case h_1 x ho=>cases hc;exact Ky (.inl ho) h
 case h_2 x ho=>cases hc;exact Ky (.inr ho) h
 case h_3 c x y ho=>
  unfold AX at hc;split at hc
  ·rename_i e he
   split at hc
   ·rename_i ht;cases hc;exact KC (b:=true) ho h he (htr _ _ ht)
   ·rename_i ht;cases hc;exact KC (b:=false) ho h he (htr _ _ ht)
   ·cases hc
  ·cases hc
 case h_4 t ho=>
  unfold xd at hc;split at hc
  ·split at hc
   ·rename_i n e x hu hx
    split at hc
    ·rename_i hh
     simp only[RZ]at hh;obtain⟨⟨⟨h1,h2⟩,h3⟩,h4⟩:=hh;cases hc
     exact Jf ho h (hm (by simp)) hx h1 (jj h2) (Nat.le_of_ble_eq_true h3) h4
    ·cases hc
   ·cases hc
  split at hc
  ·rename_i x hx
   split at hc
   ·rename_i hh;cases hc
    exact NA ho h (hm (by simp)) hx (Bool.and_eq_true_iff.1 hh).1 (Bool.and_eq_true_iff.1 hh).2
   ·cases hc
  ·cases hc
 case h_5 t x ho=>
  unfold Dz at hc;split at hc
  ·rename_i hh;cases hc
   exact PV ho h (hm (by simp)) (Bool.and_eq_true_iff.1 hh).1 (Bool.and_eq_true_iff.1 hh).2
  ·cases hc
 case h_6 t parts ho=>
  unfold xo at hc;split at hc
  ·rename_i z pl hz hpl
   split at hc
   ·rename_i hw
    split at hc
    ·rename_i cs hcs
     cases hc
     exact Oa ho h hz hw hpl hcs
    ·cases hc
   ·cases hc
  ·cases hc
 case h_7 t len parts ho=>
  unfold lI at hc;split at hc
  ·rename_i ety row ht
   split at hc
   ·rename_i z hz
    split at hc
    ·rename_i cs hcs
     split at hc
     ·rename_i l hl
      split at hc
      ·rename_i hh
       cases hc
       exact GP ho h (hm (by simp)) ht hz hh.2.1 hh.2.2.1 hcs hl hh.1 hh.2.2.2
      ·cases hc
     ·cases hc
    ·cases hc
   ·cases hc
  ·split at hc
   ·rename_i e ht
    split at hc
    ·rename_i z hz
     split at hc
     ·rename_i cs hcs
      split at hc
      ·rename_i hh
       obtain⟨h1,h2,h3,h4,h5,h6,h7⟩:=hh;cases hc
       exact JR ho h (hm (by simp)) ht hz h1 h2 h3 h4 hcs h5 h6 h7
      ·cases hc
     ·cases hc
    ·cases hc
   ·cases hc
 case h_8 t x ho=>exact Ph ho h hc hn
 case h_9 t x y ho=>
  unfold lW at hc;simp only at hc
  split at hc
  ·cases hc
  rename_i hh
  have g1:(ai tmp y).cells.len=P.cellsOf t:=by
   by_cases e:(ai tmp y).cells.len=P.cellsOf t
   ·exact e
   ·exact absurd (.inl e) hh
  have g2:aX P t=true:=by
   cases e:aX P t with
   |true=>rfl
   |false=>exact absurd (.inr (.inl e)) hh
  have g3:pH (ai tmp y).cells=true:=by
   cases e:pH (ai tmp y).cells with
   |true=>rfl
   |false=>exact absurd (.inr (.inr (.inl e))) hh
  have g4:(ai tmp y).whole=true:=by
   cases e:(ai tmp y).whole with
   |true=>rfl
   |false=>exact absurd (.inr (.inr (.inr e))) hh
  split at hc
  ·rename_i b off hx
   split at hc
   ·rename_i ty xs hb
    split at hc
    ·rename_i hle
     cases hc
     exact Io ho h hx hb g1 g2 g3 g4 hle
    ·cases hc
   ·cases hc
  ·rename_i b ty i k hx
   split at hc
   ·rename_i e ty' l hb
    split at hc
    ·rename_i hty
     subst hty;split at hc
     ·rename_i l' hs
      cases hc
      exact IN ho h hx hb g1 g2 g4 hs g3
     ·cases hc
    ·cases hc
   ·cases hc
  ·cases hc
 case h_10 x ho=>exact Ka ho h hc
 case h_11 op t x y ty ho=>
  generalize hp:ai tmp x=p at hc
  generalize hq:ai tmp y=q at hc
  by_cases hi:∃e f,p=.vi e/\q=.vi f
  ·obtain⟨e,f,rfl,rfl⟩:=hi
   exact Qf ho h hp hq hc hn
  ·unfold wm at hc
   split at hc
   ·exact absurd ⟨_,_,rfl,rfl⟩ hi
   ·exact OG ho h hp hq (.inl ⟨_,_,rfl,rfl⟩) hc
   ·exact OG ho h hp hq (.inr ⟨_,_,rfl,rfl⟩) hc
   ·split at hc
    ·rename_i h1
     exact On ho h hp hq h1 hc
    split at hc
    ·rename_i h1 h2
     exact Pw ho h (hp▸h1) (hq▸h2) hc hn
    ·cases hc
 case h_12 op t x ho=>exact QX ho h hc hn
 case h_13 s d x ho=>
  unfold Bm at hc;split at hc
  ·rename_i e hs hd hx
   cases hc
   exact Lb ho h hs hd hx hn
  ·rename_i u k x' hs hd _
   split at hc
   ·rename_i h1
    exact NW ho h hd ⟨_,hs⟩ h1 hc
   ·cases hc
  ·cases hc
 case h_14 t x lo hi ho=>
  by_cases hq:∃d i,con 6000000=true/\ai tmp x=.row d/\lo=some i/\hi=none
  ·obtain⟨d,i,hcon,hx,rfl,rfl⟩:=hq
   rw[hx,Ld hcon]at hc;unfold jN at hc;split at hc
   ·rename_i ety r d' q ht hd' hq
    cases hd'
    split at hc
    ·rename_i e ty l hb
     split at hc
     ·rename_i hh
      obtain⟨rfl,rfl⟩:=hh;cases hc
      exact Js ho h ht (hm (by simp)) hx hb (.inl rfl) hq hn
     ·cases hc
    ·rename_i e ty l hb
     split at hc
     ·rename_i hh
      obtain⟨rfl,rfl⟩:=hh;cases hc
      exact Js ho h ht (hm (by simp)) hx hb (.inr rfl) hq hn
     ·cases hc
    ·cases hc
   ·cases hc
  have hs:pn P con nm (ai tmp) blk t (ai tmp x) lo hi=kl P nm (ai tmp) blk t (ai tmp x) lo hi:=by
   unfold pn;split
   ·rename_i d i hcon hx
    exact absurd ⟨d,i,hcon,hx,rfl,rfl⟩ hq
   ·rfl
  rw[hs]at hc;unfold kl at hc;split at hc
  ·rename_i ety r ty e ht hx
   split at hc
   ·cases hc
   ·rename_i hty
    have hty:ty=r:=by simpa using hty
    split at hc
    ·rename_i l q hl hh
     cases hc
     exact Ot ho h ht hx hty hl hh hn
    ·cases hc
  ·rename_i ety r d ht hx
   split at hc
   ·rename_i e ty l i hb hlo hl
    split at hc
    ·rename_i hty
     obtain⟨rfl,rfl,hnone⟩:=hty;cases hc
     have:hi=none:=by cases hi<;>first|rfl|cases hnone
     subst this;cases lo with
     |none=>cases hlo
     |some lo=>exact Hl ho h ht hx hb hl hn
    ·cases hc
   ·rename_i e ty l q hb hlo hh
    have hlo:lo=none:=by cases lo<;>first|rfl|cases hlo
    subst hlo;split at hc
    ·rename_i hty
     obtain⟨rfl,rfl,hsome⟩:=hty;cases hc
     exact IW ho h ht (hm (by simp)) hx hb hsome hh hn
    ·cases hc
   ·cases hc
  ·rename_i ety r ht hx
   split at hc
   ·rename_i l q hl hh
    cases hc
    exact ID ho h ht hx hl hh hn
   ·cases hc
  ·cases hc
 case h_15 s x f ho=>
  unfold mZ at hc;split at hc
  ·rename_i off b q hf hx;cases hc;exact sE ho h hf (.inl ⟨b,q,hx,rfl⟩)
  ·rename_i off t l i k hf hx;cases hc;exact sE ho h hf (.inr (.inl ⟨t,l,i,k,hx,rfl⟩))
  ·rename_i off b t i k hf hx;cases hc;exact sE ho h hf (.inr (.inr ⟨b,t,i,k,hx,rfl⟩))
  ·cases hc
 case h_16 t x ix ho=>
  unfold iy at hc;split at hc
  ·rename_i i hi
   split at hc
   ·rename_i b n e hx ht
    split at hc
    ·rename_i hh
     obtain⟨q,_,h1,h2,h3⟩:=LD htr _ _ hc;cases h3
     exact Iq ho h ht hi hh.2 hh.1 hx h2 (by omega)
    ·cases hc
   ·rename_i b off n e hx ht
    split at hc
    ·rename_i c
     split at hc
     ·rename_i hh
      cases hc
      exact kJ ho h ht hi hh.1 hh.2.1 hh.2.2 (.inl ⟨b,off,hx,rfl⟩)
     ·cases hc
    ·cases hc
   ·rename_i ty l j k n e hx ht
    split at hc
    ·rename_i c
     split at hc
     ·rename_i hh
      cases hc
      exact kJ ho h ht hi hh.1 hh.2.1 hh.2.2 (.inr (.inl ⟨ty,l,j,k,hx,rfl⟩))
     ·cases hc
    ·cases hc
   ·rename_i b ty j k n e hx ht
    split at hc
    ·rename_i ea ty' l hb
     split at hc
     ·split at hc
      ·rename_i hh
       cases hc
       exact HY ho h ht hi hh.1 hx hb hh.2 hn
      ·cases hc
     ·split at hc
      ·rename_i c
       split at hc
       ·rename_i hh
        cases hc
        exact kJ ho h ht hi hh.1 hh.2.1 hh.2.2 (.inr (.inr ⟨b,ty,j,k,hx,rfl⟩))
       ·cases hc
      ·cases hc
    ·split at hc
     ·rename_i c
      split at hc
      ·rename_i hh
       cases hc
       exact kJ ho h ht hi hh.1 hh.2.1 hh.2.2 (.inr (.inr ⟨b,ty,j,k,hx,rfl⟩))
      ·cases hc
     ·cases hc
   ·rename_i ty l e hx _
    split at hc
    ·rename_i ety r ht
     split at hc
     ·rename_i hr
      subst hr;cases hc
      exact oq ho h ht hi hn (.inl ⟨hx,rfl⟩)
     ·cases hc
    ·cases hc
   ·rename_i b e hx _
    split at hc
    ·rename_i ety ty l ety' r hb ht
     split at hc
     ·rename_i hr
      subst hr;cases hc
      exact oq ho h ht hi hn (.inr (.inl ⟨b,ety,hx,hb,rfl⟩))
     ·cases hc
    ·rename_i ety ty l ety' r hb ht
     split at hc
     ·rename_i hr
      subst hr;cases hc
      exact oq ho h ht hi hn (.inr (.inr ⟨b,ety,hx,hb,rfl⟩))
     ·cases hc
    ·cases hc
   ·cases hc
  ·cases hc
 case h_17 t x ix ho=>
  unfold xf at hc;split at hc
  ·rename_i c xs n e hi hx ht
   split at hc
   ·rename_i hh
    split at hc
    ·rename_i hag
     cases hc
     exact HM ho h ht hi hx hh.1 hh.2.1 hh.2.2.2 (.inl ⟨hag,rfl⟩)
    ·rename_i hag
     split at hc
     ·rename_i y hy
      split at hc
      ·rename_i h1
       cases hc
       exact HM ho h ht hi hx hh.1 hh.2.1 hh.2.2.2 (.inr ⟨by simpa using hag,h1,hy⟩)
      ·cases hc
     ·cases hc
   ·cases hc
  ·rename_i i xs n e _ hi hx ht
   split at hc
   ·rename_i hh
    obtain⟨h1,h2,h3,h4,h5⟩:=hh;split at hc
    ·rename_i l hl
     cases hc
     exact GU ho h ht hi hx h1 h2 h3 h4 h5 hl hn
    split at hc
    ·rename_i l hl
     cases hc
     exact Jv ho h ht hi hx h1 h2 h3 h4 h5 hl hn
    ·cases hc
   ·cases hc
  ·cases hc
 case h_18 s x f ho=>
  unfold xb at hc;split at hc
  ·rename_i xs off t hx hf ht
   split at hc
   ·rename_i hh
    split at hc
    ·rename_i hag
     cases hc
     exact I4 ho h hf ht hx hh.2 (.inl ⟨hag,rfl⟩)
    ·rename_i hag
     split at hc
     ·rename_i y hy
      cases hc
      exact I4 ho h hf ht hx hh.2 (.inr ⟨by simpa using hag,hy⟩)
     ·cases hc
   ·cases hc
  ·cases hc
 case h_19 x ix ho=>
  unfold qA at hc;split at hc
  ·rename_i xs hx
   split at hc
   ·rename_i y hy
    cases hc
    exact LC ho h hx hy
   ·cases hc
  ·cases hc
 case h_20 t x y ho=>
  unfold nj at hc;split at hc
  ·rename_i ety row l c ht hx hy
   split at hc
   ·rename_i z hz
    split at hc
    ·rename_i r hr
     split at hc
     ·rename_i hh
      obtain⟨rfl,h1,h2⟩:=hh;cases hc
      exact IM ho h (hm (by simp)) ht hz h1 h2 hr hx hy hn
     ·cases hc
    ·cases hc
   ·cases hc
  ·cases hc
 case h_21 b args tys ho=>
  unfold iZ at hc;split at hc
  ·rename_i b n t hargs htys
   obtain⟨y,rfl,hy⟩:=Fn hargs;have htys:=CX htys;subst htys;split at hc
   ·rename_i e ht
    cases hc
    exact Ly ho h ht hy
   ·cases hc
  ·rename_i x t _ hargs htys
   obtain⟨y,rfl,hy⟩:=Fn hargs;have htys:=CX htys;subst htys;split at hc
   ·rename_i e ty l ht hl
    cases hc
    rw[<-hy]at hl;exact Qy ho h ht hl
   ·cases hc
  ·rename_i d x t t' hargs htys
   obtain⟨y,u,rfl,hy,hu⟩:=Bg hargs;have htys:=IK htys;subst htys;split at hc
   ·cases hc
   ·rename_i ety row ht
    split at hc
    ·rename_i ty m e row' l hx hb
     split at hc
     ·rename_i hh
      obtain⟨h1,rfl,rfl,h2,h3⟩:=hh;cases hc
      exact Pq ho h ht h3 hy hb (by rw[hu];exact hx) h1
     ·cases hc
    ·cases hc
  ·rename_i p q hargs
   obtain⟨y,u,rfl,hy,hu⟩:=Bg hargs;cases hc
   exact FL (.inl ⟨rfl,rfl⟩) ho h hy hu
  ·rename_i p q hargs
   obtain⟨y,u,rfl,hy,hu⟩:=Bg hargs;cases hc
   exact FL (.inr ⟨rfl,rfl⟩) ho h hy hu
  ·rename_i s x t t' hargs htys
   obtain⟨y,u,rfl,hy,hu⟩:=Bg hargs;have htys:=IK htys;subst htys;split at hc
   ·cases hc
   rename_i htt
   have htt:t=t':=by simpa using htt
   subst htt;split at hc
   ·cases hc
   rename_i ety row ht
   split at hc
   ·cases hc
   rename_i ty m hx
   split at hc
   ·rename_i hall
    split at hc
    ·rename_i _
     cases hc
     exact Ga ho h ht (hm (by simp)) (l:=.lnil) (by rw[hu];exact hx) hall hn (.inl ⟨hy,rfl,rfl⟩)
    ·rename_i d
     split at hc
     ·rename_i e row' l hb
      split at hc
      ·rename_i hh
       obtain⟨rfl,rfl,_⟩:=hh;cases hc
       exact Ga ho h ht (hm (by simp)) (by rw[hu];exact hx) hall hn (.inr ⟨d,hy,hb,rfl⟩)
      ·cases hc
     ·rename_i e row' l hb
      split at hc
      ·rename_i hh
       obtain⟨rfl,rfl,_⟩:=hh;cases hc
       exact JQ ho h ht (hm (by simp)) (by rw[hu];exact hx) hall hn hy hb
      ·cases hc
     ·cases hc
    ·cases hc
   ·cases hc
  ·rename_i d ty i t hargs htys
   obtain⟨y,rfl,hy⟩:=Fn hargs;have htys:=CX htys;subst htys;split at hc
   ·rename_i ety row e row' l ht hb
    split at hc
    ·rename_i z hz
     split at hc
     ·rename_i r hr
      split at hc
      ·rename_i hh
       obtain⟨rfl,rfl,rfl,hw,hzl⟩:=hh;cases hc
       exact NX ho h ht hy hb hz hw hzl hr
      ·cases hc
     ·cases hc
    ·cases hc
   ·cases hc
  ·cases hc
 case h_22 f args tys ho=>
  unfold mi at hc;split at hc
  ·split at hc
   ·split at hc
    ·split at hc
     ·split at hc<;>cases hc
     ·cases hc
    ·cases hc
   ·cases hc
  ·cases hc
  ·cases hc
 case h_23 f first captured ho=>cases hc;exact JJ ho h
 case h_24 t ho=>
  unfold qy at hc;split at hc
  ·split at hc
   ·cases hc;exact Jz ho h (hm (by simp))
   ·cases hc
  ·cases hc;exact Lk ho h (hm (by simp))
 case h_25 t m k v ho=>exact FV (.inl ho) h hc
 case h_26 t m k v ho=>exact FV (.inr ho) h hc
 case h_27 t x ix ok ho=>exact MN htr ho h hc
 case h_28 t x hi mx ho=>
  unfold oR at hc;split at hc
  ·rename_i r ty e q m' ht hx hh hmx
   split at hc
   ·rename_i h1
    obtain⟨h1,rfl,h3⟩:=h1;cases hc
    exact GB ho h ht hx h1 hh hmx h3 hn (hm (by simp))
   ·cases hc
  ·cases hc
 case h_29 t x ho=>
  unfold wY at hc;split at hc
  ·cases hc
  ·rename_i d hu hd
   cases hc
   exact Nt ho h hd (fun ms e=>hu ms e)
  ·cases hc
 case h_30 x ho=>
  unfold sV at hc;split at hc
  ·split at hc<;>cases hc
  ·cases hc
 case h_31 x u t ok ho=>exact MW ho h hc
 case h_32=>cases hc
theorem Kq{base b:Nat}{e:Nat}{t:Ty}{l:E}(h:SBden env κ F base w b (.row e t l)){F':Nat->Prop}(hF:∀k,F k->F' k)(hb:∀k,ak (κ b)=some k->F' k):Den F' w (κ b) (.sl t (den env l).l):=by
 obtain⟨us,hown,hpos,hrow⟩:=h;rcases hown.2 with⟨e1,e2⟩|⟨g,cap,cur,e1,e2,e3,e4,e5,e6,e7⟩
 ·rw[e1]
  have:(den env l).l=[]:=v9 e2
  rw[this];exact vO _
 ·rw[e1]at hown hb⊢
  refine Den.mk rfl e4 e5 hrow.1 (fun _=>⟨_,rfl,hb _ rfl,fun i r hr k x hx=>?_⟩)
  obtain⟨u,h1,h2⟩:=hrow.2 i r k x hr hx;exact⟨u,hown.cells (g:=g) rfl _ _ h1,Den.keep h2 (fun _ _=>rfl) hF⟩
theorem KP(blk:Nat->Option SB)(bs:List Nat)(b:Nat):aH blk (bi blk bs) b=blk b\/∃e t l,blk b=some (.row e t l)/\aH blk (bi blk bs) b=some (.ice 0 t l):=by
 have key:∀(fs:List (Nat×Option SB)) (f:Nat->Option SB),(∀x∈fs,∃e t l,blk x.1=some (.row e t l)/\x.2=some (.ice 0 t l))->(∀b,f b=blk b\/∃e t l,blk b=some (.row e t l)/\f b=some (.ice 0 t l)) →
   ∀b,aH f fs b=blk b\/∃e t l,blk b=some (.row e t l)/\aH f fs b=some (.ice 0 t l):=by
  intro fs;induction fs with
  |nil=>intro f _ hf b;exact hf b
  | cons x fs ih=>
   intro f hx hf b;refine ih (upd f x.1 x.2) (fun y hy=>hx y (v3 _ hy)) (fun c=>?_) b
   by_cases e:c=x.1
   ·subst e
    obtain⟨e,t,l,h1,h2⟩:=hx x (v7 ..);exact .inr ⟨e,t,l,h1,by rw[au,h2]⟩
   ·rw[ag e];exact hf c
 refine key _ blk (fun x hx=>?_) (fun _=>.inl rfl) b
 obtain⟨c,hc,h1⟩:=List.mem_filterMap.1 hx;split at h1
 ·rename_i e t l hb
  cases h1
  exact⟨e,t,l,hb,rfl⟩
 ·cases h1
theorem Rel.freeze(h:Rel w0 env κ F U tmp blk L a w)(bs:List Nat):∃F',Rel w0 env κ F' U tmp (aH blk (bi blk bs)) L a w/\Kept U blk κ F w (aH blk (bi blk bs)) κ F' w:=by
 obtain⟨blk',hb⟩:∃blk',blk'=aH blk (bi blk bs):=⟨_,rfl⟩
 have hi:∀b,blk' b=blk b\/∃e t l,blk b=some (.row e t l)/\blk' b=some (.ice 0 t l):=fun b=>by rw[hb];exact KP blk bs b
 rw[<-hb];have hlive:∀b,aD (blk' b)=true->blk' b=blk b:=fun b hl=>by
  rcases hi b with h1|⟨e,t,l,_,h1⟩
  ·exact h1
  ·rw[h1]at hl;cases hl
 have hF:∀k,F k->(F k\/∃b e t l,blk b=some (.row e t l)/\blk' b=some (.ice 0 t l)/\ak (κ b)=some k):=fun k hk=>.inl hk
 refine⟨fun k=>F k\/∃b e t l,blk b=some (.row e t l)/\blk' b=some (.ice 0 t l)/\ak (κ b)=some k,?_,⟨fun _ _=>rfl,hF,fun k hk=>?_,RJ _,fun _ _ _=>rfl,fun b k h1 h2=>.inr ⟨b,by rw[<-hlive b h1];exact h1,h2⟩,.of fun _ _=>.inr rfl⟩⟩
 ·refine h.world (fun _ h=>h) (fun _ _=>rfl) hF (fun _ _=>rfl) (fun b x hx=>?_) (fun b c k h1 h2=>?_) (fun b k h1 h2=>?_) (fun k hk=>?_) h.below
  ·rcases hi b with h1|⟨e,t,l,h1,h2⟩
   ·rw[h1]at hx;exact .inl ⟨hx,fun _ _ _=>rfl⟩
   ·rw[h2]at hx;cases hx
    exact .inr ⟨⟨Kq (h.blks b _ h1) hF (fun k hk=>.inr ⟨b,e,t,l,h1,h2,hk⟩),fun hh=>by cases hh⟩,(h.bnames b _ h1).1,fun c hc=>by cases hc⟩
  ·exact h.inj b c k (by rw[<-hlive b h1];exact h1) (by rw[<-hlive c h2];exact h2)
  ·have h3:aD (blk b)=true:=by rw[<-hlive b h1];exact h1
   rintro (hk|⟨c,e,t,l,h4,h5,h6⟩)
   ·exact h.nF b k h3 h2 hk
   ·have:=h.inj b c k h3 (by rw[h4];rfl) h2 h6
    subst this;rw[h5]at h1;cases h1
  ·rcases hk with hk|⟨c,e,t,l,h4,h5,h6⟩
   ·exact h.F k hk
   ·exact((h.blks c _ h4).lt rfl h6).2
 ·rcases hk with hk|⟨c,e,t,l,h4,h5,h6⟩
  ·exact .inl hk
  ·exact .inr (.inr ⟨c,by rw[h4];rfl,h6⟩)
theorem FC(bk:Nat->Option SB)(x:SV):(nz bk x).proper=x.proper:=by
 induction x with
 |cons x y _ ih=>exact ih
 |row b=>simp only[nz];split<;>rfl
 |_=>rfl
theorem xv(bk:Nat->Option SB)(x:SV):∀b∈(nz bk x).names,b∈x.names:=by
 induction x with
 |cons x y ih1 ih2=>
  intro b hb;simp only[nz,SV.names,RQ]at hb⊢;rcases hb with hb|hb
  ·exact .inl (ih1 b hb)
  ·exact .inr (ih2 b hb)
 |agg x ih=>exact ih
 |tup x ih=>exact ih
 |row c=>intro b hb;simp only[nz]at hb;split at hb;cases hb;exact hb
 |_=>exact fun b hb=>hb
theorem wL{b0:Nat}(hbl:∀b e t l,blk b=some (.ice e t l)->SBden env κ F b0 w b (.ice e t l)){x:SV}{u:Value}(h:SVden env κ F w x u):SVden env κ F w (nz blk x) u:=by
 induction x generalizing u with
 | row b=>
  simp only[nz];split
  ·rename_i e t l hb
   have:=hbl b e t l hb
   rw[show u=κ b from h.1]
   exact this.1
  ·exact h
 |agg xs ih=>obtain⟨cs,h1,hp,h2⟩:=h;exact⟨cs,h1,by rw[FC];exact hp,ih h2⟩
 |tup xs ih=>obtain⟨cs,h1,hp,h2⟩:=h;exact⟨cs,h1,by rw[FC];exact hp,ih h2⟩
 |cons x xs ih1 ih2=>obtain⟨p,q,h1,h2,h3⟩:=h;exact⟨p,q,h1,ih1 h2,ih2 h3⟩
 |_=>exact h
theorem FB(bk:Nat->Option SB)(v:Value):nz bk (e8 v)=e8 v:=by unfold e8;split<;>rfl
theorem Oo(bk:Nat->Option SB)(v:Value):nz bk (cz v)=cz v:=by
 unfold cz;split
 ·rename_i cs
  have:∀l:List Value,nz bk (.of (l.map e8))=.of (l.map e8):=by
   intro l;induction l with
   |nil=>rfl
   |cons x l ih=>simp only[R0,SV.of,nz,FB,ih]
  simp only[nz,this]
 ·exact FB bk v
theorem Hp(bk:Nat->Option SB)(tmp:Nat->SV)(x:Operand):nz bk (ai tmp x)=ai (fun t=>nz bk (tmp t)) x:=by
 cases x with
 |tmp t=>rfl
 |const v=>exact Oo bk v
 |global g=>rfl
 |func f=>rfl
theorem vh(f:Nat->Option SB)(l m:List (Nat×Option SB)):aH f (l++m)=aH (aH f l) m:=by simp[aH,List.foldl_append]
theorem Rel.nz(h:Rel w0 env κ F U tmp blk L a w):Rel w0 env κ F U (fun t=>nz blk (tmp t)) blk L a w:=
 { h with tmps:=fun t=>wL (fun b e t l hb=>h.blks b _ hb) (h.tmps t),tnames:=fun t b hb=>h.tnames t b (xv blk _ b hb) }
theorem Jp{own:Bool}{nm:Nat}{ev:Operand->SV}{o:Oper}{needs:List E}{v:SV}{wr:List (Nat×Option SB)}(h:ga P own nm ev blk o=some (.ok needs v wr)):
  ∃s x t ety row ty l lx d,o.op=.call { callee:=.builtin .append,args:=#[s,x],argTypes:=#[t,t] }/\ev s=.row d/\blk d=some (.ice 1 row l)/\bv P t=some (ety,row)/\cW blk (ev x)=some (ty,lx) ∧
   ty.all (·=row)=true/\((needs=fg (cb l lx) (P.bytesOf ety)/\v=.vs row (cb l lx)/\wr=[])\/(needs=aU (.cmp' .lt (.int 0) lx.len')++fg (cb l lx) (P.bytesOf ety)/\v=.row nm/\wr=[(nm,some (.row ety row (cb l lx)))])):=by
 unfold ga at h;repeat' split at h
 all_goals (try (cases h;done))
 all_goals
  rename_i args tys ho _ _ s x t t' ha htys _ d hs _ ty l hd _ _ ety row u m ht hx hc _
  obtain⟨rfl,rfl,h3⟩:=hc;cases h
  have e1:args=#[s,x]:=by rw[<-y9 (xs:=args),ha]
  have e2:tys=#[t,t]:=by rw[<-y9 (xs:=tys),htys]
  subst e1 e2;refine⟨s,x,t,ety,ty,u,l,m,d,ho,hs,hd,ht,hx,h3,?_⟩
  first|exact .inl ⟨rfl,rfl,rfl⟩|exact .inr ⟨rfl,rfl,rfl⟩
theorem ql{own:Bool}{nm:Nat}{ev:Operand->SV}{bk:Nat->Option SB}{o:Oper}{x:Out}(h:ga P own nm ev bk o=some x):∃needs v wr,x=.ok needs v wr:=by
 unfold ga at h;repeat' split at h
 all_goals (try (cases h;done))
 all_goals (cases h;exact⟨_,_,_,rfl⟩)
theorem MV{con:Nat->Bool}{own:Bool}{tr:E->Option Bool}{nm:Nat}{o:Oper}(h:Rel w0 env κ F U tmp blk L a w)(htr:∀e b,tr e=some b->(den env e).b=b){needs:List E}{v:SV}{wr:List (Nat×Option SB)}
  (hm:wr≠[]->¬U nm) (hc:dj P con own tr nm (ai tmp) blk o=.ok needs v wr) (hn:∀e∈needs,(den env e).b=true):aY P w0 env κ F U tmp blk L a w o v wr:=by
 unfold dj at hc;split at hc
 ·rename_i x hx
  subst hc;obtain⟨s,x,t,ety,row,ty,l,lx,d,ho,hs,hd,ht,hlx,hty,⟨hneeds,rfl,rfl⟩|⟨hneeds,rfl,rfl⟩⟩:=Jp hx
  ·exact E8 ho h ht hlx hty (by rw[<-hneeds];exact hn) hs hd
  ·exact Ge ho h ht hlx hty (by rw[<-hneeds];exact hn) hs hd (hm (by simp))
 simp only[Hp]at hc;obtain⟨fs,hfs⟩:∃fs,fs=bi blk (frz P con own (ai tmp) blk o):=⟨_,rfl⟩
 rw[<-hfs]at hc;split at hc
 ·rename_i needs' v' wr' hc'
  cases hc
  obtain⟨F1,h1,k1⟩:=h.freeze (frz P con own (ai tmp) blk o);rw[<-hfs]at h1 k1;obtain⟨u,w',κ',F',hr,h2,h3,k2⟩:=LI h1.nz htr (fun hne=>hm (by simp[hne])) hc' hn
  have k:=k1.trans k2 (fun _ h=>h)
  refine⟨u,w',κ',F',hr,?_,h3,by rw[vh];exact k⟩
  rw[vh];refine{ h2 with tmps:=fun t=>k.sv h (h.tmps t) (h.tnames t),size:=h.size,tnames:=fun t b hb=>.inl (h.tnames t b hb),bnames:=fun b x hx=>?_ }
  have hu:∀b,(U b\/∃x∈wr',x.1=b)->(U b\/∃x∈fs++wr',x.1=b):=fun b hb=>by
   rcases hb with hb|⟨x,hx,hb⟩
   ·exact .inl hb
   ·exact .inr ⟨x,v4 _ hx,hb⟩
  obtain⟨h4,h5⟩:=h2.bnames b x hx;exact⟨hu b h4,fun c hc=>hu c (h5 c hc)⟩
 ·cases hc
 ·rename_i x hx _
  exact absurd hc (hx _ _ _)
variable {P:Program} {bk bk':Nat->Option SB}
theorem rM{x:SV}(h:∀b∈x.names,bk' b=bk b):cW bk' x=cW bk x:=by
 cases x<;>simp only[cW]
 rename_i b
 rw[h b (by simp[SV.names])]
theorem JC{x:SV}(h:∀b∈x.names,bk' b=bk b):lenOf bk' x=lenOf bk x:=by
 cases x<;>simp only[lenOf,cW]
 rename_i b
 rw[h b (by simp[SV.names])]
theorem ot:∀(l:List SV) (ts:List Ty),(∀x∈l,∀b∈x.names,bk' b=bk b)->fD bk' l ts=fD bk l ts
 |[],[],_=>rfl
 |[],_::_,_=>rfl
 |_::_,[],_=>rfl
 |x::l,t::ts,h=>by
  simp only[fD];rw[ot l ts (fun y hy=>h y (v3 _ hy))]
  have hx:=h x (v7 ..);cases x<;>cases t<;>try rfl
  rename_i b t
  simp only[cW,hx b (by simp[SV.names])]
theorem JB{x:SV}{t:Nat}(h:∀b∈x.names,bk' b=bk b):AW P bk' x t=AW P bk x t:=by
 unfold AW;split
 ·rfl
 ·split
  ·split
   ·rename_i xs
    exact ot _ _ (fun y hy b hb=>h b (cr xs y hy b hb))
   ·rfl
  ·rw[ot [x] _ (fun y hy b hb=>by simp at hy;subst hy;exact h b hb)]
theorem zK:∀(l:List SV) (ts:List Nat),(∀x∈l,∀b∈x.names,bk' b=bk b)->jn P bk' l ts=jn P bk l ts
 |[],[],_=>rfl
 |[],_::_,_=>rfl
 |_::_,[],_=>rfl
 |x::l,t::ts,h=>by
  simp only[jn];rw[zK l ts (fun y hy=>h y (v3 _ hy)),JB (h x (v7 ..))]
theorem Mf{b k:Nat}{t:Ty}{i:E}:b∈(SV.rptr b t i k).names:=by simp[SV.names]
theorem G6{con:Nat->Bool}{t:Nat}{x:SV}(h:∀b∈x.names,bk' b=bk b):loadOut P con bk' t x=loadOut P con bk t x:=by
 unfold loadOut;cases x<;>simp only
 ·rename_i b off;rw[h b (by simp[SV.names])]
 ·rename_i b ty i k;rw[h b (by simp[SV.names])]
theorem EZ{t:Nat}{x y:SV}(h:∀b∈x.names,bk' b=bk b):lW P bk' t x y=lW P bk t x y:=by
 unfold lW;cases x<;>simp only
 ·rename_i b off;rw[h b (by simp[SV.names])]
 ·rename_i b ty i k;rw[h b (by simp[SV.names])]
theorem CW{nm:Nat}{o:Oper}{b:Builtin}{l:List SV}{ts:List Nat}(h:∀x∈l,∀c∈x.names,bk' c=bk c):iZ P nm bk' o b l ts=iZ P nm bk o b l ts:=by
 unfold iZ;split
 ·rfl
 ·rename_i x t _
  rw[JC (h x (by simp))]
 ·rename_i d x t t'
  rw[rM (h x (by simp)),h (.row d) (by simp) d (by simp[SV.names])]
 ·rfl
 ·rfl
 ·rename_i s x t t'
  rw[rM (h x (by simp))]
  split
  ·rfl
  ·split
   ·rfl
   ·split
    ·rfl
    ·split
     ·split
      ·rfl
      ·rename_i d
       rw[h (.row d) (by simp) d (by simp[SV.names])]
      ·rfl
     ·rfl
 ·rename_i d ty i t
  rw[h (.rtail d ty i) (by simp) d (by simp[SV.names])]
 ·rfl
theorem Kc{con:Nat->Bool}{tr:E->Option Bool}{nm:Nat}{ev ev':Operand->SV}{o:Oper}(h:∀x∈o.op.operands,ev' x=ev x)(hb:∀x∈o.op.operands,∀b∈(ev x).names,bk' b=bk b):iT P con tr nm ev' bk' o=iT P con tr nm ev bk o:=by
 have hopt:∀(x:Option Operand) d,(∀y,x=some y->y∈o.op.operands)->dn ev' x d=dn ev x d:=fun x d hx=>by
  cases x with
  |none=>rfl
  |some y=>simp only[dn];rw[h y (hx y rfl)]
 unfold iT;split
 case h_1 x ho=>rw[h x (by simp[ho,Op.operands])]
 case h_2 x ho=>rw[h x (by simp[ho,Op.operands])]
 case h_3 c x y ho=>rw[h c (by simp[ho,Op.operands]),h x (by simp[ho,Op.operands]),h y (by simp[ho,Op.operands])]
 case h_4=>rfl
 case h_5 t x ho=>rw[h x (by simp[ho,Op.operands])]
 case h_6 t parts ho=>
  have e:parts.toList.map (fun x=>(x.1,ev' x.2))=parts.toList.map (fun x=>(x.1,ev x.2)):=RK fun x hx=>by
   rw[h x.2 (by simp only[ho,Op.operands,Sq,Sy];exact⟨x,hx,rfl⟩)]
  rw[e]
 case h_7 t len parts ho=>
  have e:parts.toList.map (fun x=>(x.1,ev' x.2))=parts.toList.map (fun x=>(x.1,ev x.2)):=RK fun x hx=>by
   rw[h x.2 (by simp only[ho,Op.operands,Sq,Sy];exact⟨x,hx,rfl⟩)]
  rw[e]
 case h_8 t x ho=>
  have hx:x∈o.op.operands:=by simp[ho,Op.operands]
  rw[h x hx];exact G6 (hb x hx)
 case h_9 t x y ho=>
  have hx:x∈o.op.operands:=by simp[ho,Op.operands]
  rw[h x hx,h y (by simp[ho,Op.operands])];exact EZ (hb x hx)
 case h_10 x ho=>rw[h x (by simp[ho,Op.operands])]
 case h_11 op t x y ty ho=>rw[h x (by simp[ho,Op.operands]),h y (by simp[ho,Op.operands])]
 case h_12 op t x ho=>rw[h x (by simp[ho,Op.operands])]
 case h_13 s d x ho=>rw[h x (by simp[ho,Op.operands])]
 case h_14 t x lo hi ho=>
  have hx:x∈o.op.operands:=by simp[ho,Op.operands]
  have e1:∀d,dn ev' lo d=dn ev lo d:=fun d=>hopt lo d (fun y hy=>by subst hy;simp[ho,Op.operands])
  have e2:∀d,dn ev' hi d=dn ev hi d:=fun d=>hopt hi d (fun y hy=>by subst hy;simp[ho,Op.operands])
  rw[h x hx];have hbx:=hb x hx;have e3:∀i,lo=some i->ev' i=ev i:=fun i hi'=>by subst hi';exact h i (by simp[ho,Op.operands])
  generalize ev x=v at hbx
  have hq:∀d i,v=.row d->lo=some i->jN P nm ev' bk' t (.row d) i=jN P nm ev bk t (.row d) i:=fun d i hv hi'=>by
   unfold jN;have hb:=hbx d (by rw[hv];simp[SV.names])
   rw[e3 i hi'];generalize bv P t=q
   generalize ev i=u
   rcases q with _|⟨q1,q2⟩<;>cases u<;>first|rfl|simp only[hb]
  have hs:kl P nm ev' bk' t v lo hi=kl P nm ev bk t v lo hi:=?_
  ·unfold pn
   split
   ·rename_i d i _
    exact hq d i rfl rfl
   ·exact hs
  unfold kl;simp only[e1,e2];generalize bv P t=q
  rcases q with _|⟨q1,q2⟩<;>cases v<;>first|rfl|(rename_i d;have:=hbx d (by simp[SV.names]);simp only[this])
 case h_15 s x f ho=>rw[h x (by simp[ho,Op.operands])]
 case h_16 t x ix ho=>
  have hx:x∈o.op.operands:=by simp[ho,Op.operands]
  rw[h x hx,h ix (by simp[ho,Op.operands])]
  have hbx:=hb x hx;generalize ev x=v at hbx
  unfold iy;generalize ev ix=j
  generalize P.underlying t=ud
  cases j<;>try rfl
  by_cases hr:∃b ty j k,v=.rptr b ty j k
  ·obtain⟨b,ty,j,k,rfl⟩:=hr
   have hbk:=hbx b Mf;cases ud<;>try rfl
   rename_i d
   cases d<;>try rfl
   simp only[hbk]
  cases v<;>(try exact absurd ⟨_,_,_,_,rfl⟩ hr)<;>cases ud<;>first|rfl|(rename_i y;cases y<;>rfl)|(rename_i d y;cases y<;>first|rfl|(have:=hbx d (by simp[SV.names]);simp only[this]))
 case h_17 t x ix ho=>rw[h x (by simp[ho,Op.operands]),h ix (by simp[ho,Op.operands])]
 case h_18 s x f ho=>rw[h x (by simp[ho,Op.operands])]
 case h_19 x ix ho=>rw[h x (by simp[ho,Op.operands])]
 case h_20 t x y ho=>rw[h x (by simp[ho,Op.operands]),h y (by simp[ho,Op.operands])]
 case h_21 b args tys ho=>
  have e:args.toList.map ev'=args.toList.map ev:=RK fun x hx=>h x (by simp[ho,Op.operands,Call.operands];simpa using hx)
  rw[e];refine CW (fun x hx=>?_)
  obtain⟨y,hy,rfl⟩:=List.mem_map.1 hx;exact hb y (by simp[ho,Op.operands,Call.operands];simpa using hy)
 case h_22 f args tys ho=>
  have e:args.toList.map ev'=args.toList.map ev:=RK fun x hx=>h x (by simp[ho,Op.operands,Call.operands];right;simpa using hx)
  rw[e,h f (by simp[ho,Op.operands,Call.operands])]
  have e2:∀ts,jn P bk' (args.toList.map ev) ts=jn P bk (args.toList.map ev) ts:=fun ts=>zK _ _ (fun x hx=>by
   obtain⟨y,hy,rfl⟩:=List.mem_map.1 hx;exact hb y (by simp[ho,Op.operands,Call.operands];right;simpa using hy))
  unfold mi;simp only[e2]
 case h_23 f first captured ho=>
  have e1:first.toList.map ev'=first.toList.map ev:=RK fun x hx=>h x (by simp[ho,Op.operands];left;simpa using hx)
  have e2:captured.toList.map ev'=captured.toList.map ev:=RK fun x hx=>h x (by simp[ho,Op.operands];right;simpa using hx)
  rw[e1,e2]
 case h_24=>rfl
 case h_25 t m k v ho=>
  have hm:m∈o.op.operands:=by simp[ho,Op.operands]
  rw[h m hm,h k (by simp[ho,Op.operands]),h v (by simp[ho,Op.operands])]
  have hbx:=hb m hm;generalize ev m=x at hbx
  unfold ki;generalize P.underlying t=ud
  cases x<;>cases ud<;>first|rfl|(rename_i y;cases y<;>rfl)|(rename_i d y;cases y<;>first|rfl|(have:=hbx d (by simp[SV.names]);simp only[this]))
 case h_26 t m k v ho=>
  have hm:m∈o.op.operands:=by simp[ho,Op.operands]
  rw[h m hm,h k (by simp[ho,Op.operands]),h v (by simp[ho,Op.operands])]
  have hbx:=hb m hm;generalize ev m=x at hbx
  unfold ki;generalize P.underlying t=ud
  cases x<;>cases ud<;>first|rfl|(rename_i y;cases y<;>rfl)|(rename_i d y;cases y<;>first|rfl|(have:=hbx d (by simp[SV.names]);simp only[this]))
 case h_27 t x ix ok ho=>
  have hm:x∈o.op.operands:=by simp[ho,Op.operands]
  rw[h x hm,h ix (by simp[ho,Op.operands])]
  have hbx:=hb x hm;generalize ev x=y at hbx
  unfold mz;generalize P.underlying t=ud
  cases y<;>cases ud<;>first|rfl|(rename_i y;cases y<;>rfl)|(rename_i d y;cases y<;>first|rfl|(have:=hbx d (by simp[SV.names]);simp only[this]))
 case h_28 t x hi mx ho=>
  have hx:x∈o.op.operands:=by simp[ho,Op.operands]
  have e2:∀d,dn ev' hi d=dn ev hi d:=fun d=>hopt hi d (fun y hy=>by subst hy;simp[ho,Op.operands])
  have e3:∀d,dn ev' (some mx) d=dn ev (some mx) d:=fun d=>hopt (some mx) d (fun y hy=>by cases hy;simp[ho,Op.operands])
  rw[h x hx];unfold oR;simp only[e2,e3]
 case h_29 t x ho=>rw[h x (by simp[ho,Op.operands])]
 case h_30 x ho=>rw[h x (by simp[ho,Op.operands])]
 case h_31 x u t ok ho=>rw[h x (by simp[ho,Op.operands])]
 case h_32=>rfl
theorem Oe{x:SV}(h:∀b∈x.names,bk' b=bk b):nz bk' x=nz bk x:=by
 induction x with
 |row b=>simp only[nz];rw[h b (by simp[SV.names])]
 |agg x ih=>simp only[nz];rw[ih h]
 |tup x ih=>simp only[nz];rw[ih h]
 |cons x y ih1 ih2=>simp only[nz];rw[ih1 (fun b hb=>h b (v6 _ hb)),ih2 (fun b hb=>h b (v4 _ hb))]
 |_=>rfl
theorem HB{x:SV}(h:∀b∈x.names,bk' b=bk b):aV bk' x=aV bk x:=by
 induction x with
 |row b=>simp only[aV];rw[h b (by simp[SV.names])]
 |agg x ih=>simp only[aV];rw[ih h]
 |cons x y ih1 ih2=>simp only[aV];rw[ih1 (fun b hb=>h b (v6 _ hb)),ih2 (fun b hb=>h b (v4 _ hb))]
 |_=>rfl
theorem jT(bk:Nat->Option SB)(x:SV):∀b∈aV bk x,b∈x.names:=by
 induction x with
 |row c=>
  intro b hb;simp only[aV]at hb;split at hb
  ·exact hb
  ·cases hb
 |agg x ih=>exact ih
 |cons x y ih1 ih2=>
  intro b hb;simp only[aV,RQ]at hb;rcases hb with hb|hb
  ·exact v6 _ (ih1 b hb)
  ·exact v4 _ (ih2 b hb)
 |_=>intro b hb;cases hb
theorem JL{bs:List Nat}(h:∀b∈bs,bk' b=bk b):bi bk' bs=bi bk bs:=by
 induction bs with
 |nil=>rfl
 |cons b bs ih=>
  have h1:=ih (fun c hc=>h c (v3 _ hc))
  unfold bi at h1⊢
  simp only[Sv,h b (v7 ..),h1]
theorem MB{con:Nat->Bool}{own:Bool}{ev ev':Operand->SV}{o:Oper}(h:∀x∈o.op.operands,ev' x=ev x)(hb:∀x∈o.op.operands,∀b∈(ev x).names,bk' b=bk b):frz P con own ev' bk' o=frz P con own ev bk o:=by
 have hr:∀x∈o.op.operands,aV bk' (ev' x)=aV bk (ev x):=fun x hx=>by rw[h x hx];exact HB (hb x hx)
 have hf:∀l:List Operand,(∀x∈l,x∈o.op.operands)->l.flatMap (fun x=>aV bk' (ev' x))=l.flatMap (fun x=>aV bk (ev x)):=fun l hl=>by
  rw[Sr,Sr,RK (fun x hx=>hr x (hl x hx))]
 unfold frz;split
 ·rename_i t len parts ho
  have:=hf (parts.toList.map (·.2)) (fun x hx=>by
   obtain⟨y,hy,rfl⟩:=List.mem_map.1 hx;simp only[ho,Op.operands,Sq,Sy];exact⟨y,hy,rfl⟩)
  simpa[List.flatMap_map]using this
 ·rename_i t a x ho
  rw[h a (by simp[ho,Op.operands]),hr x (by simp[ho,Op.operands])]
 ·rename_i t x lo hi ho
  rw[hr x (by simp[ho,Op.operands])]
 ·rename_i t x hi mx ho
  rw[hr x (by simp[ho,Op.operands])]
 ·rename_i f args tys ho
  rw[h f (by simp[ho,Op.operands,Call.operands])]
  have:=hf args.toList (fun x hx=>by simp[ho,Op.operands,Call.operands];right;simpa using hx)
  rw[this]
 ·rfl
theorem Ng{con:Nat->Bool}{own:Bool}{ev:Operand->SV}{o:Oper}:∀b∈frz P con own ev bk o,∃x∈o.op.operands,b∈(ev x).names:=by
 intro b hb;unfold frz at hb;split at hb
 ·rename_i t len parts ho
  obtain⟨x,hx,hb⟩:=List.mem_flatMap.1 hb;exact⟨x.2,by simp only[ho,Op.operands,Sq,Sy];exact⟨x,hx,rfl⟩,jT _ _ b hb⟩
 ·rename_i t a x ho
  split at hb
  ·exact⟨x,by simp[ho,Op.operands],jT _ _ b hb⟩
  ·cases hb
 ·rename_i t x lo hi ho
  split at hb
  ·cases hb
  ·exact⟨x,by simp[ho,Op.operands],jT _ _ b hb⟩
 ·rename_i t x hi mx ho
  exact⟨x,by simp[ho,Op.operands],jT _ _ b hb⟩
 ·rename_i f args tys ho
  split at hb
  ·split at hb
   ·split at hb
    ·split at hb
     ·cases hb
     ·obtain⟨x,hx,hb⟩:=List.mem_flatMap.1 hb
      exact⟨x,by simp[ho,Op.operands,Call.operands];right;simpa using hx,jT _ _ b hb⟩
    ·cases hb
   ·cases hb
  ·cases hb
 ·cases hb
theorem DF{l:List (Nat×Option SB)}:∀ {f g:Nat->Option SB} {b:Nat},f b=g b->aH f l b=aH g l b:=by
 induction l with
 |nil=>intro f g b h;exact h
 |cons x l ih=>
  intro f g b h;refine ih ?_
  show upd f x.1 x.2 b=upd g x.1 x.2 b
  by_cases e:b=x.1
  ·subst e;rw[au,au]
  ·rw[ag e,ag e];exact h
theorem G2{own:Bool}{nm:Nat}{ev ev':Operand->SV}{o:Oper}(h:∀x∈o.op.operands,ev' x=ev x)(hb:∀x∈o.op.operands,∀b∈(ev x).names,bk' b=bk b):ga P own nm ev' bk' o=ga P own nm ev bk o:=by
 unfold ga;split
 ·rename_i args tys ho
  split
  ·rename_i s x t t' ha htys
   have m1:s∈o.op.operands:=by simp[ho,Op.operands,Call.operands,<-SF,ha]
   have m2:x∈o.op.operands:=by simp[ho,Op.operands,Call.operands,<-SF,ha]
   rw[h s m1,h x m2,rM (hb x m2)];have hbx:=hb s m1;generalize ev s=v at hbx
   cases v<;>first|rfl|(rename_i d;have:=hbx d (by simp[SV.names]);simp only[this])
  ·rfl
 ·rfl
theorem nD{con:Nat->Bool}{own:Bool}{tr:E->Option Bool}{nm:Nat}{ev ev':Operand->SV}{o:Oper}(h:∀x∈o.op.operands,ev' x=ev x)(hb:∀x∈o.op.operands,∀b∈(ev x).names,bk' b=bk b):dj P con own tr nm ev' bk' o=dj P con own tr nm ev bk o:=by
 have e1:bi bk' (frz P con own ev' bk' o)=bi bk (frz P con own ev bk o):=by
  rw[MB h hb];exact JL (fun b hh=>by obtain⟨x,hx,hn⟩:=Ng b hh;exact hb x hx b hn)
 unfold dj;rw[G2 h hb];split
 ·rfl
 simp only[e1];have e2:iT P con tr nm (fun x=>nz (aH bk' (bi bk (frz P con own ev bk o))) (ev' x)) (aH bk' (bi bk (frz P con own ev bk o))) o=iT P con tr nm (fun x=>nz (aH bk (bi bk (frz P con own ev bk o))) (ev x)) (aH bk (bi bk (frz P con own ev bk o))) o:=
  Kc (fun x hx=>by rw[h x hx];exact Oe (fun b hh=>DF (hb x hx b hh))) (fun x hx b hh=>DF (hb x hx b (xv _ _ b hh)))
 rw[e2]
variable {env:List AV} {κ κ':Nat->Value} {F F':Nat->Prop} {w w' w0:World} {U:Nat->Prop} {tmp:Nat->SV} {blk:Nat->Option SB} {L:Nat} {a:Act} {P:Program}
def R.proper:R->Bool
 |.nil=>true
 |.cons _ y=>y.proper
 |_=>false
def jw(F:Nat->Prop)(base:Nat)(w:World):R->Value->List Nat->Prop
 |.i n,u,bs=>u=.int .i64 n/\bs=[]
 |.b x,u,bs=>u=.bool x/\bs=[]
 |.r v,u,bs=>u=v/\aT v=true/\bs=[]
 |.row e t l,u,bs=>if given e then Den F w u (.sl t l)/\bs=[]else ∃us,w.ownsRow base e t.len u l.length us/\0<t.len/\RowsDen F w us t l/\bs=(ak u).toList
 |.nil,u,bs=>u=.tuple #[]/\bs=[]
 |.cons x y,u,bs=>∃p q b1 b2,u=.tuple (p::q).toArray/\jw F base w x p b1/\jw F base w y (.tuple q.toArray) b2/\bs=b1++b2
 |.agg x,u,bs=>∃cs,u=.agg cs/\x.proper=true/\jw F base w x (.tuple cs) bs
 |.tup x,u,bs=>∃cs,u=.tuple cs/\x.proper=true/\jw F base w x (.tuple cs) bs
def KA(S:Nat->Prop)(r:R)(w:World)(e:Ending)(w':World):Prop:=
 ∃u F bs,e=.returned u/\jw F w.heap.size w' r u bs/\bs.Nodup/\(∀k∈bs,¬F k)/\(∀k,F k->(S k\/w.heap.size<=k)/\k<w'.heap.size)/\Below w.heap.size w w'
def ES(S:Nat->Prop)(w:World)(vs:Array Value)(args:List AV):Prop:=vs.size=args.length/\∀(i:Nat) v x,vs[i]?=some v->args[i]?=some x->Den S w v x
def Con(P:Program)(f:Nat)(args:List AV)(r:R):Prop:=∀(S:Nat->Prop) (vs:Array Value) (w:World),(∀k,S k->k<w.heap.size)->ES S w vs args->Calls P f vs w (KA S r w)
structure PFit (P:Program):Prop where
 mix:P.follows .mixedOrders=true
 name:∀(f:Nat) fn,P.funcs[f]?=some fn->fn.name ≠ "runtime.NumGoroutine"
theorem vZ{l:List Nat}{f g:Nat->List Nat}(h:∀b∈l,f b=g b):l.flatMap f=l.flatMap g:=by
 rw[Sr,Sr,RK h]
theorem PC(r:R):∀(u:Value) (bs:List Nat) (base n m:Nat),jw F base w r u bs->(∀(j:Nat) x,r.leaves[j]?=some x->env[n+j]?=some x) →
  r.leaves.length=(mkRes.RS.cnt r.shape).1/\(mkRes r.shape n m).2.map (·.1)=SL m (mkRes.RS.cnt r.shape).2/\(∀b∈(mkRes r.shape n m).1.names,m<=b/\b<m+(mkRes.RS.cnt r.shape).2)/\(r.proper=true->(mkRes r.shape n m).1.proper=true) ∧
  ∃κ1:Nat->Value,bs=(SL m (mkRes.RS.cnt r.shape).2).flatMap (fun b=>(ak (κ1 b)).toList) ∧
   ∀κ',(∀b,m<=b->b<m+(mkRes.RS.cnt r.shape).2->κ' b=κ1 b)->SVden env κ' F w (mkRes r.shape n m).1 u/\∀x∈(mkRes r.shape n m).2,∃sb,x.2=some sb/\SBden env κ' F base w x.1 sb/\sb.names=[]:=by
 induction r with
 |i k=>
  rintro u bs base n m ⟨rfl,rfl⟩ henv;have h0:env.getD n (.int 0)=.int k:=by have:=henv 0 (.int k) rfl;rw[R2]at this;simp[Sh,this]
  refine⟨rfl,rfl,fun b hb=>(by cases hb),fun h=>(by cases h),fun _=>undef,rfl,fun κ' _=>⟨⟨?_,?_⟩,fun x hx=>(by cases hx)⟩⟩
  ·simp only[den];rw[h0];rfl
  ·simp only[den];rw[h0];rfl
 |b k=>
  rintro u bs base n m ⟨rfl,rfl⟩ henv;have h0:env.getD n (.int 0)=.bool k:=by have:=henv 0 (.bool k) rfl;rw[R2]at this;simp[Sh,this]
  refine⟨rfl,rfl,fun b hb=>(by cases hb),fun h=>(by cases h),fun _=>undef,rfl,fun κ' _=>⟨⟨?_,?_⟩,fun x hx=>(by cases hx)⟩⟩
  ·simp only[den];rw[h0];rfl
  ·simp only[den];rw[h0];rfl
 |r k=>
  rintro u bs base n m ⟨rfl,hp,rfl⟩ henv;have h0:env.getD n (.int 0)=.raw u:=by have:=henv 0 (.raw u) rfl;rw[R2]at this;simp[Sh,this]
  refine⟨rfl,rfl,fun b hb=>(by cases hb),fun h=>(by cases h),fun _=>undef,rfl,fun κ' _=>⟨⟨?_,hp,?_⟩,fun x hx=>(by cases hx)⟩⟩
  ·simp only[den];rw[h0];rfl
  ·simp only[den];rw[h0];rfl
 | row e t l=>
  intro u bs base n m h henv;have h0:env.getD n (.int 0)=.sl t l:=by have:=henv 0 (.sl t l) rfl;rw[R2]at this;simp[Sh,this]
  unfold jw at h;by_cases hg:given e=true
  ·rw[if_pos hg]at h
   obtain⟨h1,rfl⟩:=h;have e1:mkRes (R.row e t l).shape n m=(.vs t (.v n),[]):=by show(if given e then _ else _)=_;rw[if_pos hg]
   have e2:mkRes.RS.cnt (R.row e t l).shape=(1,0):=by show(1,if given e then 0 else 1)=_;rw[if_pos hg]
   rw[e1,e2];refine⟨rfl,rfl,fun b hb=>(by cases hb),fun h=>(by cases h),fun _=>undef,rfl,fun κ' _=>⟨?_,fun x hx=>(by cases hx)⟩⟩
   show Den F w u (.sl t (den env (.v n)).l)
   simp only[den];rw[h0];exact h1
  rw[if_neg hg]at h;obtain⟨us,h1,h2,h3,rfl⟩:=h;have e1:mkRes (R.row e t l).shape n m=(.row m,[(m,some (.row e t (.v n)))]):=by show(if given e then _ else _)=_;rw[if_neg hg]
  have e2:mkRes.RS.cnt (R.row e t l).shape=(1,1):=by show(1,if given e then 0 else 1)=_;rw[if_neg hg]
  rw[e1,e2];refine⟨rfl,rfl,fun b hb=>?_,fun h=>(by cases h),fun _=>u,by simp[SL],fun κ' hk=>⟨⟨(hk m (RJ _) (by simp)).symm,?_⟩,fun x hx=>?_⟩⟩
  ·simp[SV.names]at hb;subst hb;simp
  ·rcases h1.2 with⟨rfl,_⟩|⟨g,cap,cur,rfl,_⟩<;>rfl
  ·simp at hx
   subst hx;refine⟨_,rfl,⟨us,?_,h2,?_⟩,rfl⟩
   ·rw[hk m (RJ _) (by simp)]
    simp only[den];rw[h0];exact h1
   ·simp only[den];rw[h0];exact h3
 |nil=>
  rintro u bs base n m ⟨rfl,rfl⟩ henv;exact⟨rfl,rfl,fun b hb=>(by cases hb),fun _=>rfl,fun _=>undef,rfl,fun κ' _=>⟨rfl,fun x hx=>(by cases hx)⟩⟩
 | cons x y ih1 ih2=>
  rintro u bs base n m ⟨p,q,b1,b2,rfl,h1,h2,rfl⟩ henv;obtain⟨a1,a2,a3,_,κ1,a5,a6⟩:=ih1 p b1 base n m h1 (fun j z hz=>henv j z (by simp only[R.leaves];rw[v1 (List.getElem?_eq_some_iff.1 hz).1];exact hz))
  obtain⟨c1,c2,c3,c4,κ2,c5,c6⟩:=ih2 (.tuple q.toArray) b2 base (n+(mkRes.RS.cnt x.shape).1) (m+(mkRes.RS.cnt x.shape).2) h2 (fun j z hz=>by
   have:=henv ((mkRes.RS.cnt x.shape).1+j) z (by simp only[R.leaves];rw[v0 (by omega),a1];rw[<-hz];congr 1;omega)
   rw[<-this];congr 1;omega)
  refine⟨by simp only[R.leaves,y0,a1,c1];rfl,?_,fun b hb=>?_,fun h=>c4 h,fun b=>if b<m+(mkRes.RS.cnt x.shape).2 then κ1 b else κ2 b,?_,fun κ' hk=>⟨⟨p,q,rfl,?_,?_⟩,fun z hz=>?_⟩⟩
  ·simp only[R.shape,mkRes,SP,a2,c2,mkRes.RS.cnt]
   rw[SG]
  ·simp only[R.shape,mkRes,SV.names,RQ]at hb
   simp only[R.shape,mkRes.RS.cnt];rcases hb with hb|hb
   ·have:=a3 b hb;omega
   ·have:=c3 b hb;omega
  ·simp only[R.shape,mkRes.RS.cnt]
   rw[a5,c5,<-SG,List.flatMap_append];congr 1
   ·refine vZ (fun b hb=>?_)
    simp only[Sm]at hb;rw[if_pos hb.2]
   ·refine vZ (fun b hb=>?_)
    simp only[Sm]at hb;rw[if_neg (by omega)]
  ·refine(a6 κ' (fun b hb1 hb2=>?_)).1
   exact(hk b hb1 (by simp only[R.shape,mkRes.RS.cnt];omega)).trans (if_pos hb2)
  ·refine(c6 κ' (fun b hb1 hb2=>?_)).1
   exact(hk b (by omega) (by simp only[R.shape,mkRes.RS.cnt];omega)).trans (if_neg (by omega))
  ·simp only[R.shape,mkRes,RQ]at hz
   rcases hz with hz|hz
   ·refine(a6 κ' (fun b hb1 hb2=>?_)).2 z hz
    exact(hk b hb1 (by simp only[R.shape,mkRes.RS.cnt];omega)).trans (if_pos hb2)
   ·refine(c6 κ' (fun b hb1 hb2=>?_)).2 z hz
    exact(hk b (by omega) (by simp only[R.shape,mkRes.RS.cnt];omega)).trans (if_neg (by omega))
 |agg x ih=>
  rintro u bs base n m ⟨cs,rfl,hp,h⟩ henv;obtain⟨a1,a2,a3,a4,κ1,a5,a6⟩:=ih (.tuple cs) bs base n m h henv;exact⟨a1,a2,a3,fun h=>(by cases h),κ1,a5,fun κ' hk=>⟨⟨cs,rfl,a4 hp,(a6 κ' hk).1⟩,(a6 κ' hk).2⟩⟩
 |tup x ih=>
  rintro u bs base n m ⟨cs,rfl,hp,h⟩ henv;obtain⟨a1,a2,a3,a4,κ1,a5,a6⟩:=ih (.tuple cs) bs base n m h henv;exact⟨a1,a2,a3,fun h=>(by cases h),κ1,a5,fun κ' hk=>⟨⟨cs,rfl,a4 hp,(a6 κ' hk).1⟩,(a6 κ' hk).2⟩⟩
def DP(blk:Nat->Option SB)(κ:Nat->Value)(S:Nat->Prop)(x:SV):Prop:=∀b∈aV blk x,∀k,ak (κ b)=some k->S k
theorem Kj{x y:SV}(h:y∈x.list):∀b∈aV blk y,b∈aV blk x:=by
 induction x with
 |cons x z _ ih=>
  intro b hb;simp only[SV.list,List.mem_cons]at h;simp only[aV,RQ];rcases h with rfl|h
  ·exact .inl hb
  ·exact .inr (ih h b hb)
 |_=>simp[SV.list]at h
theorem Lw(x:SV):∀b∈aV blk x,∃e t l,blk b=some (.row e t l):=by
 induction x with
 | row c=>
  intro b hb;simp only[aV]at hb;split at hb
  ·rename_i e t l hc
   have:b=c:=by simpa using hb
   subst this;exact⟨e,t,l,hc⟩
  ·cases hb
 |agg x ih=>exact ih
 |cons x y ih1 ih2=>
  intro b hb;simp only[aV,RQ]at hb;rcases hb with hb|hb
  ·exact ih1 b hb
  ·exact ih2 b hb
 |_=>intro b hb;cases hb
theorem Mh(bk:Nat->Option SB)(x:SV):∀b∈aV blk (nz bk x),b∈aV blk x:=by
 induction x with
 |row c=>
  intro b hb;simp only[nz]at hb;split at hb
  ·cases hb
  ·exact hb
 |agg x ih=>exact ih
 |cons x y ih1 ih2=>
  intro b hb;simp only[nz,aV,RQ]at hb⊢;rcases hb with hb|hb
  ·exact .inl (ih1 b hb)
  ·exact .inr (ih2 b hb)
 |tup x _=>intro b hb;cases hb
 |_=>exact fun b hb=>hb
theorem LB{bk:Nat->Option SB}(h:∀b e t l,bk b=some (.row e t l)->blk b=some (.row e t l))(x:SV):∀b∈aV bk x,b∈aV blk x:=by
 induction x with
 | row c=>
  intro b hb;simp only[aV]at hb⊢;split at hb
  ·rename_i e t l hc
   rw[h c e t l hc];exact hb
  ·cases hb
 |agg x ih=>exact ih
 |cons x y ih1 ih2=>
  intro b hb;simp only[aV,RQ]at hb⊢;rcases hb with hb|hb
  ·exact .inl (ih1 b hb)
  ·exact .inr (ih2 b hb)
 |_=>intro b hb;cases hb
theorem QT(blk:Nat->Option SB)(bs:List Nat){b:Nat}(hb:b∈bs):∀e t l,aH blk (bi blk bs) b≠some (.row e t l):=by
 have key:∀(bs:List Nat) (f:Nat->Option SB),(∀c,f c=blk c\/∃e t l,f c=some (.ice e t l))->(b∈bs\/∀e t l,f b≠some (.row e t l))->∀e t l,aH f (bi blk bs) b≠some (.row e t l):=by
  intro bs;induction bs with
  |nil=>
   intro f _ h e t l;rcases h with h|h
   ·cases h
   ·exact h e t l
  | cons c bs ih=>
   intro f hf h;by_cases hr:∃e t l,blk c=some (.row e t l)
   ·obtain⟨e,t,l,hc⟩:=hr
    have:bi blk (c::bs)=(c,some (.ice 0 t l))::bi blk bs:=by simp only[bi,Sv,hc]
    rw[this];refine ih (upd f c (some (.ice 0 t l))) (fun d=>?_) ?_
    ·by_cases ed:d=c
     ·subst ed;rw[au];exact .inr ⟨0,t,l,rfl⟩
     ·rw[ag ed];exact hf d
    ·by_cases ed:b=c
     ·subst ed;right;intro e' t' l';rw[au];intro hh;cases hh
     ·rw[ag ed]
      rcases h with h|h
      ·rcases List.mem_cons.1 h with h|h
       ·exact absurd h ed
       ·exact .inl h
      ·exact .inr h
   ·have:bi blk (c::bs)=bi blk bs:=by
     simp only[bi,Sv];split
     ·rfl
     ·rename_i y hy
      split at hy
      ·rename_i e t l hc;exact absurd ⟨e,t,l,hc⟩ hr
      ·cases hy
    rw[this];refine ih f hf ?_
    rcases h with h|h
    ·rcases List.mem_cons.1 h with h|h
     ·subst h
      right
      intro e t l hh;rcases hf b with h1|⟨_,_,_,h1⟩
      ·rw[h1]at hh;exact hr ⟨e,t,l,hh⟩
      ·rw[h1]at hh;cases hh
     ·exact .inl h
    ·exact .inr h
 exact key bs blk (fun _=>.inl rfl) (.inl hb)
theorem B2(h:Rel w0 env κ F U tmp blk L a w){S:Nat->Prop}(hF:∀k,F k->S k){x:SV}(hS:DP blk κ S x){u:Value}(hx:SVden env κ F w x u){ty:Option Ty}{l:E}(hl:cW blk x=some (ty,l)){t:Ty}(ht:ty.all (·=t)=true):Den S w u (.sl t (den env l).l):=by
 unfold cW at hl;split at hl
 ·cases hl
  simp only[R3,decide_eq_true_eq]at ht;subst ht;exact Den.keep hx (fun _ _=>rfl) hF
 ·cases hl
  rw[show u=_ from hx];exact vO t
 ·rename_i b
  split at hl
  ·rename_i e t' l' hb
   cases hl
   simp only[R3,decide_eq_true_eq]at ht;subst ht;rw[hx.1];exact Kq (h.blks b _ hb) hF (hS b (by simp only[aV,hb];exact List.mem_singleton.2 rfl))
  ·rename_i e t' l' hb
   cases hl
   simp only[R3,decide_eq_true_eq]at ht;subst ht;rw[hx.1];exact Den.keep (h.blks b _ hb).1 (fun _ _=>rfl) hF
  ·cases hl
 ·cases hl
theorem sH(h:Rel w0 env κ F U tmp blk L a w){S:Nat->Prop}(hF:∀k,F k->S k):∀(l:List SV) (ts:List Ty) (e:E) (us:List Value),(∀x∈l,DP blk κ S x)->fD blk l ts=some e->us.length=l.length->(∀(i:Nat) x u,l[i]?=some x->us[i]?=some u->SVden env κ F w x u) →
  (den env e).g.length=l.length/\(∀(i:Nat) u x,us[i]?=some u->(den env e).g[i]?=some x->Den S w u x)/\den env e=.agg (den env e).g
 |[],[],e,us,_,he,hu,hd=>by
  simp only[fD]at he;cases he
  exact⟨rfl,fun i u x h1 h2=>by simp[den]at h2,rfl⟩
 |[],_::_,e,us,_,he,_,_=>by simp only[fD]at he;cases he
 |_::_,[],e,us,_,he,_,_=>by simp only[fD]at he;cases he
 | x :: l,t::ts,e,us,hS,he,hu,hd=>by
  cases us with
  |nil=>simp at hu
  | cons u us=>
   simp only[fD]at he;split at he
   ·rename_i c es h1 h2
    cases he
    obtain⟨i1,i2,i3⟩:=sH h hF l ts es us (fun x hx=>hS x (v3 _ hx)) h2 (by simpa using hu) (fun i x u a b=>hd (i+1) x u (by simpa using a) (by simpa using b))
    have hx:=hd 0 x u rfl rfl;have key:Den S w u (den env c):=by
     split at h1
     ·cases h1;rw[hx.1,jO hx.2];exact .int _
     ·cases h1;rw[hx.1,A2 hx.2];exact .bool _
     ·cases h1
      have h2:=hx.2.1;rw[Dm hx.2.2,hx.1];rw[hx.1]at h2;exact .raw _ h2
     ·rename_i t
      split at h1
      ·rename_i v e' hl
       split at h1
       ·rename_i hv
        cases h1
        exact B2 h hF (hS _ (v7 ..)) hx hl (by simp[hv])
       ·cases h1
      ·rename_i e' hl
       cases h1
       exact B2 h hF (hS _ (v7 ..)) hx hl rfl
      ·cases h1
     ·cases h1
    refine⟨by simp[den,i1],fun i u' x' g1 g2=>?_,rfl⟩
    cases i with
    |zero=>simp[den]at g1 g2;subst g1;subst g2;exact key
    |succ i=>simp[den]at g1 g2;exact i2 i u' x' g1 g2
   ·cases he
theorem Me(h:Rel w0 env κ F U tmp blk L a w){S:Nat->Prop}(hF:∀k,F k->S k){x:SV}(hS:DP blk κ S x){t:Nat}{e:E}{u:Value}(he:AW P blk x t=some e)(hd:SVden env κ F w x u):Den S w u (den env e):=by
 unfold AW at he;split at he
 ·cases he
 ·split at he
  ·split at he
   ·rename_i xs
    obtain⟨cs,rfl,hp,h2⟩:=hd;obtain⟨t1,t2⟩:=bJ hp h2;obtain⟨i1,i2,i3⟩:=sH h hF xs.list _ e cs.toList (fun y hy b hb=>hS b (show b∈aV blk (.agg xs)from Kj (x:=xs) hy b hb)) he (by rw[list_len];simpa using t1) (fun i x u g1 g2=>by
     obtain⟨v,h3,h4⟩:=t2 i x g1;rw[RM,h3]at g2;cases g2;exact h4)
    rw[i3];have:=Den.agg (S:=S) (w:=w) cs.toList (den env e).g (by rw[i1,list_len];simpa using t1) (fun i v x g1 g2=>i2 i v x g1 g2)
    simpa using this
   ·cases he
  ·split at he
   ·rename_i e' hc
    cases he
    obtain⟨i1,i2,_⟩:=sH h hF [x] _ _ [u] (fun y hy=>by simp at hy;subst hy;exact hS) hc rfl (fun i y v g1 g2=>by
     cases i with
     |zero=>simp at g1 g2;subst g1;subst g2;exact hd
     |succ i=>simp at g1)
    exact i2 0 u (den env e) rfl rfl
   ·cases he
theorem Eo(h:Rel w0 env κ F U tmp blk L a w){S:Nat->Prop}(hF:∀k,F k->S k):∀(l:List SV) (ts:List Nat) (e:E) (us:List Value),(∀x∈l,DP blk κ S x)->jn P blk l ts=some e->us.length=l.length->(∀(i:Nat) x u,l[i]?=some x->us[i]?=some u->SVden env κ F w x u)->ES S w us.toArray (den env e).g
 |[],[],e,us,_,he,hu,hd=>by
  simp only[jn]at he;cases he
  have:us=[]:=v9 hu
  subst this;exact⟨rfl,fun i v x h1 h2=>by simp at h1⟩
 |[],_::_,e,us,_,he,_,_=>by simp only[jn]at he;cases he
 |_::_,[],e,us,_,he,_,_=>by simp only[jn]at he;cases he
 | x::l,t::ts,e,us,hS,he,hu,hd=>by
  cases us with
  |nil=>simp at hu
  | cons u us=>
   simp only[jn]at he;split at he
   ·rename_i c es h1 h2
    cases he
    obtain⟨i1,i2⟩:=Eo h hF l ts es us (fun x hx=>hS x (v3 _ hx)) h2 (by simpa using hu) (fun i x u a b=>hd (i+1) x u (by simpa using a) (by simpa using b))
    refine⟨by simp at i1;simp[den,i1],fun i v y g1 g2=>?_⟩
    cases i with
    |zero=>simp[den]at g1 g2;subst g1;subst g2;exact Me h hF (hS x (v7 ..)) h1 (hd 0 x u rfl rfl)
    |succ i=>simp[den]at g1 g2;exact i2 i v y (by simpa using g1) g2
   ·cases he
theorem NS{ns:List Nat}{f:Nat->List Nat}(h:(ns.flatMap f).Nodup){b c k:Nat}(hb:b∈ns)(hc:c∈ns)(h1:k∈f b)(h2:k∈f c):b=c:=by
 induction ns with
 |nil=>cases hb
 |cons n ns ih=>
  rw[List.flatMap_cons,List.nodup_append]at h;obtain⟨h3,h4,h5⟩:=h;have far:∀c,c∈ns->k∈f c->k∈f n->False:=fun c hc h6 h7=>h5 k h7 k (List.mem_flatMap.2 ⟨c,hc,h6⟩) rfl
  rcases List.mem_cons.1 hb with hb'|hb'<;>rcases List.mem_cons.1 hc with hc'|hc'
  ·rw[hb',hc']
  ·exact(far c hc' h2 (hb'▸h1)).elim
  ·exact(far b hb' h1 (hc'▸h2)).elim
  ·exact ih h4 hb' hc'
def Out.isCall:Out->Bool
 |.call _ _ _ _|.inl _ _|.yld _ _=>true
 |_=>false
theorem Gv{tr:E->Option Bool}{kt:Nat}{z ix:SV}{ok:Bool}:∀(ks vs:List SV),(j9 P tr kt z ix ok ks vs).isCall=false:=by
 intro ks;induction ks with
 |nil=>intro vs;cases vs<;>rfl
 | cons k ks ih=>
  intro vs;cases vs with
  |nil=>rfl
  | cons v vs=>
   simp only[j9];split
   ·rfl
   ·split
    ·rfl
    ·exact ih vs
    ·rfl
theorem IC{tr:E->Option Bool}{i:E}{f:Nat->Out}(hf:∀c,(f c).isCall=false):∀(n c:Nat),(mn tr i f n c).isCall=false:=by
 intro n;induction n with
 |zero=>intro c;rfl
 |succ n ih=>
  intro c;unfold mn;split
  ·exact hf c
  ·exact ih (c+1)
  ·rfl
theorem Jr{r:Ty}{l:E}{kt:Nat}{ix:SV}{ok:Bool}:(mb P r l kt ix ok).isCall=false:=by
 unfold mb;repeat' split
 all_goals rfl
theorem xy{con:Nat->Bool}{tr:E->Option Bool}{nm:Nat}{ev:Operand->SV}{bk:Nat->Option SB}{o:Oper}{x:Out}(h:iT P con tr nm ev bk o=x)(hx:x.isCall=true):
  ∃g cargs tys,o.op=.call { callee:=.value g,args:=cargs,argTypes:=tys }/\mi P con bk (ev g) (cargs.toList.map ev)=x:=by
 unfold iT at h;split at h
 case h_22 g cargs tys ho=>exact⟨g,cargs,tys,ho,h⟩
 case h_27=>
  exfalso
  subst h;unfold mz at hx;repeat' split at hx
  all_goals (try (cases hx;done))
  all_goals first|(rw[Gv]at hx;cases hx)|(rw[Jr]at hx;cases hx)
 all_goals
  exfalso
  (try (simp only[AX,xd,Dz,xo,lI,loadOut,loadOut.el,lW,Au,wm,wA,iK,im,By,DN,Bm,pn,jN,kl,oR,mZ,iy,xf,xb,qA,nj,iZ,ki,mP,qy,wY,sV,po,vL]at h))
  (try (repeat' split at h))
  all_goals (subst h;first|(cases hx;done)|(rw[IC (fun _=>rfl)]at hx;cases hx))
def Out.isPanic:Out->Bool
 |.panic _=>true
 |_=>false
theorem EH{tr:E->Option Bool}{kt:Nat}{z ix:SV}{ok:Bool}:∀(ks vs:List SV),(j9 P tr kt z ix ok ks vs).isPanic=false:=by
 intro ks;induction ks with
 |nil=>intro vs;cases vs<;>rfl
 | cons k ks ih=>
  intro vs;cases vs with
  |nil=>rfl
  | cons v vs=>
   unfold j9;split
   ·rfl
   ·split
    ·rfl
    ·exact ih vs
    ·rfl
theorem Gk{tr:E->Option Bool}{i:E}{f:Nat->Out}(hf:∀c,(f c).isPanic=false):∀(n c:Nat),(mn tr i f n c).isPanic=false:=by
 intro n;induction n with
 |zero=>intro c;rfl
 |succ n ih=>
  intro c;unfold mn;split
  ·exact hf c
  ·exact ih (c+1)
  ·rfl
theorem GR{r:Ty}{l:E}{kt:Nat}{ix:SV}{ok:Bool}:(mb P r l kt ix ok).isPanic=false:=by
 unfold mb;repeat' split
 all_goals rfl
theorem Kl{con:Nat->Bool}{tr:E->Option Bool}{nm:Nat}{ev:Operand->SV}{bk:Nat->Option SB}{o:Oper}{v:Value}(h:iT P con tr nm ev bk o=.panic v):∃x,o.op=.panic x/\sV (ev x)=.panic v:=by
 have hx:(Out.panic v).isPanic=true:=rfl
 generalize Out.panic v=x at h hx⊢
 unfold iT at h;split at h
 case h_27=>
  exfalso
  subst h;unfold mz at hx;repeat' split at hx
  all_goals (try (cases hx;done))
  all_goals first|(rw[EH]at hx;cases hx)|(rw[GR]at hx;cases hx)
 case h_30 y ho=>exact⟨y,ho,h⟩
 all_goals
  exfalso
  (try (simp only[AX,xd,Dz,xo,lI,loadOut,loadOut.el,lW,Au,wm,wA,iK,im,By,DN,Bm,pn,jN,kl,oR,mZ,iy,xf,xb,qA,nj,iZ,ki,mP,qy,wY,mi,po,vL]at h))
  (try (repeat' split at h))
  all_goals (subst h;first|(cases hx;done)|(rw[Gk (fun _=>rfl)]at hx;cases hx))
theorem OP{bk:Nat->Option SB}{x:SV}{g:Nat}{fs xs:SV}(h:nz bk x=.fn g fs xs):x=.fn g fs xs:=by
 cases x<;>simp only[nz]at h<;>try (cases h;done)
 ·split at h<;>cases h
 ·exact h
theorem Qj{bk:Nat->Option SB}{x:SV}{b:Nat}(h:nz bk x=.yld b):x=.yld b:=by
 cases x<;>simp only[nz]at h<;>try (cases h;done)
 ·split at h<;>cases h
 ·exact h
theorem Nu{u:Value}{x:AV}(h:Den F w u x)(hx:(match x.ty with|.int|.bool|.raw=>true|_=>false)=true):Den F' w u x:=by
 cases h with
 |int n=>exact .int n
 |bool b=>exact .bool b
 |raw _ h=>exact .raw _ h
 |sl=>cases hx
 |agg=>cases hx
theorem L3{us:List Value}{t:Ty}{l:List (List AV)}(h:RowsDen F w us t l)(ht:t.plain=true):RowsDen F' w us t l:=by
 refine⟨h.1,fun i r k x hr hx=>?_⟩
 obtain⟨u,h1,h2⟩:=h.2 i r k x hr hx;refine⟨u,h1,Nu h2 ?_⟩
 have hm:=congrArg (fun l=>l[k]?) (h.1 i r hr)
 simp only[y8,hx,RL]at hm;exact List.all_eq_true.1 ht _ (y1 hm.symm)
theorem M4{base:Nat}(r:R):∀(u:Value) (bs:List Nat),r.shape.flat=true->jw F base w r u bs->jw F' base w r u bs:=by
 induction r with
 |row e t l=>
  intro u bs hf h;simp only[R.shape,RS.flat,RZ,SK]at hf;unfold jw at h⊢
  rw[if_neg (by rw[hf.1];simp)]at h⊢
  obtain⟨us,h1,h2,h3,h4⟩:=h;exact⟨us,h1,h2,L3 h3 hf.2,h4⟩
 |cons x y ih1 ih2=>
  intro u bs hf h;simp only[R.shape,RS.flat,RZ]at hf;obtain⟨p,q,b1,b2,h1,h2,h3,h4⟩:=h;exact⟨p,q,b1,b2,h1,ih1 _ _ hf.1 h2,ih2 _ _ hf.2 h3,h4⟩
 |agg x ih=>intro u bs hf h;obtain⟨cs,h1,h2,h3⟩:=h;exact⟨cs,h1,h2,ih _ _ hf h3⟩
 |tup x ih=>intro u bs hf h;obtain⟨cs,h1,h2,h3⟩:=h;exact⟨cs,h1,h2,ih _ _ hf h3⟩
 |_=>intro u bs _ h;exact h
theorem C2(l:List (Nat×Option SB)):∀(f:Nat->Option SB) (b:Nat),(∃x∈l,x.1=b/\aH f l b=x.2)\/((∀x∈l,x.1≠b)/\aH f l b=f b):=by
 induction l with
 |nil=>intro f b;exact .inr ⟨fun x hx=>(by cases hx),rfl⟩
 | cons y l ih=>
  intro f b;rcases ih (upd f y.1 y.2) b with⟨x,hx,e1,e2⟩|⟨h6,h7⟩
  ·exact .inl ⟨x,v3 _ hx,e1,e2⟩
  ·by_cases hb:b=y.1
   ·subst hb
    exact .inl ⟨y,v7 ..,rfl,by show aH (upd f y.1 y.2) l y.1=y.2;rw[h7,au]⟩
   ·exact .inr ⟨fun x hx=>(by rcases List.mem_cons.1 hx with rfl|hx;exact fun e=>hb e.symm;exact h6 x hx),by show aH (upd f y.1 y.2) l b=f b;rw[h7,ag hb]⟩
theorem Rr(h:Rel w0 env κ F U tmp blk L a w){r:R}{u:Value}{F1:Nat->Prop}{bs:List Nat}(h1:jw F1 w.heap.size w' r u bs)(h2:bs.Nodup)(h3:∀k∈bs,¬F1 k)(h4:∀k,F1 k->(F k\/w.heap.size<=k)/\k<w'.heap.size)(h5:Below w.heap.size w w')
  {n nm:Nat} (henv:∀(j:Nat) x,r.leaves[j]?=some x->env[n+j]?=some x) (hm:∀b,nm<=b->b<nm+(mkRes.RS.cnt r.shape).2->¬U b):
  ∃κ' F',Rel w0 env κ' F' (fun b=>U b\/∃x∈(mkRes r.shape n nm).2,x.1=b) tmp (aH blk (mkRes r.shape n nm).2) L a w'/\SVden env κ' F' w' (mkRes r.shape n nm).1 u/\Kept U blk κ F w (aH blk (mkRes r.shape n nm).2) κ' F' w':=by
 obtain⟨r1,r2,r3,_,κ1,r4,r5⟩:=PC (env:=env) r u bs w.heap.size n nm h1 henv
 obtain⟨N,hN⟩:∃N,N=(mkRes.RS.cnt r.shape).2:=⟨_,rfl⟩
 rw[<-hN]at r2 r3 r4 r5 hm;obtain⟨κ',hκ⟩:∃κ':Nat->Value,∀b,κ' b=if nm<=b/\b<nm+N then κ1 b else κ b:=⟨_,fun _=>rfl⟩
 have hin:∀b,nm<=b->b<nm+N->κ' b=κ1 b:=fun b g1 g2=>by rw[hκ,if_pos ⟨g1,g2⟩]
 have hout:∀b,U b->κ' b=κ b:=fun b hb=>by rw[hκ,if_neg (fun hh=>hm b hh.1 hh.2 hb)]
 obtain⟨s1,s2⟩:=r5 κ' hin;have hF1:∀k,F1 k->(F k\/F1 k):=fun k hk=>.inr hk
 have hold:∀b k,aD (blk b)=true->ak (κ b)=some k->k<w.heap.size:=fun b k hb hk=>by
  obtain⟨y,hy,hl⟩:=bF hb;exact((h.blks b y hy).lt hl hk).2
 have hmem:∀b,(∃x∈(mkRes r.shape n nm).2,x.1=b)↔nm<=b/\b<nm+N:=fun b=>by
  constructor
  ·rintro ⟨x,hx,rfl⟩
   have:x.1∈(mkRes r.shape n nm).2.map (·.1):=List.mem_map.2 ⟨x,hx,rfl⟩
   rw[r2,Sm]at this;exact this
  ·intro hb
   have:b∈(mkRes r.shape n nm).2.map (·.1):=by rw[r2,Sm];exact hb
   obtain⟨x,hx,rfl⟩:=List.mem_map.1 this;exact⟨x,hx,rfl⟩
 have hupd:=C2;have hsz:=h5.size;have hnew:∀b x,(∃y∈(mkRes r.shape n nm).2,y.1=b/\aH blk (mkRes r.shape n nm).2 b=y.2)->aH blk (mkRes r.shape n nm).2 b=some x->SBden env κ' F1 w.heap.size w' b x/\x.names=[]/\nm<=b/\b<nm+N:=fun b x ⟨y,hy,e3,e4⟩ hx=>by
  obtain⟨sb,g1,g2,g3⟩:=s2 y hy;rw[e4,g1]at hx;cases hx
  have:=(hmem b).1 ⟨y,hy,e3⟩
  subst e3;exact⟨g2,g3,this⟩
 have hblk:∀b k,nm<=b->b<nm+N->ak (κ' b)=some k->k∈bs:=fun b k g1 g2 g3=>by
  rw[r4];exact List.mem_flatMap.2 ⟨b,List.mem_range'_1.2 ⟨g1,g2⟩,by rw[<-hin b g1 g2,g3];simp⟩
 have hblk2:∀b x k,(∃y∈(mkRes r.shape n nm).2,y.1=b/\aH blk (mkRes r.shape n nm).2 b=y.2)->aH blk (mkRes r.shape n nm).2 b=some x->aD (some x)=true->ak (κ' b)=some k->w.heap.size<=k:=fun b x k g1 g2 gl g3=>((hnew b x g1 g2).1.lt gl g3).1
 refine⟨κ',fun k=>F k\/F1 k,?_,s1.keep (fun _ _=>rfl) hF1 (fun _ _=>rfl),⟨hout,fun k hk=>.inl hk,fun k hk=>?_,hsz,fun k hk _=>h5.block k hk,fun b k hb g1=>?_,.of fun k hk=>.inr (h5.block k hk)⟩⟩
 rotate_left
 ·rcases hk with hk|hk
  ·exact .inl hk
  ·rcases(h4 k hk).1 with h6|h6
   ·exact .inl h6
   ·exact .inr (.inl h6)
 ·obtain⟨x,hx,hxl⟩:=bF hb
  rcases hupd (mkRes r.shape n nm).2 blk b with hb2|⟨hb1,hb2⟩
  ·exact .inl (hblk2 b x k hb2 hx hxl g1)
  ·rw[hb2]at hx
   rw[hout b (h.bnames b x hx).1]at g1;exact .inr ⟨b,by rw[hx];exact hxl,g1⟩
 refine h.world (fun b hb=>.inl hb) hout (fun k hk=>.inl hk) (fun k hk=>h5.block k (h.F k hk)) (fun b x hx=>?_) (fun b c k hb hc g1 g2=>?_) (fun b k hb g1=>?_) (fun k hk=>?_) (h.below.trans (h5.mono h.below.size))
 ·rcases hupd (mkRes r.shape n nm).2 blk b with hh|⟨_,hh⟩
  ·obtain⟨g1,g2,g3⟩:=hnew b x hh hx
   refine .inr ⟨?_,.inr ((hmem b).2 g3),fun c hc=>by rw[g2]at hc;cases hc⟩
   have:=g1.keep (κ':=κ') (F':=fun k=>F k\/F1 k) (w':=w') (fun _ _=>rfl) rfl hF1 (fun _ _=>rfl) (fun _ _ _=>rfl)
   cases x with
   |cells ty xs=>
    obtain⟨g,cs,q1,q2,q3,q4⟩:=this;exact⟨g,cs,q1,q2,RV h.below.size q3,q4⟩
   |row ety t l=>
    obtain⟨us,q1,q2⟩:=this;exact⟨us,rc q1 h.below.size,q2⟩
   |loop i st p=>
    obtain⟨l,r,q1,q2,q3,q4⟩:=this;exact⟨l,r,q1,q2,RV h.below.size q3,q4⟩
   |map ks vs=>
    obtain⟨l,r,cl,q1,q2,q3,q4⟩:=this;exact⟨l,r,cl,q1,q2,RV h.below.size q3,q4⟩
   |qrow ety t l=>
    obtain⟨us,q1,q2⟩:=this;exact⟨us,JP q1 h.below.size,q2⟩
   |amap t' l=>
    obtain⟨l,r,cl,q1,q2,q3,q4⟩:=this;exact⟨l,r,cl,q1,q2,RV h.below.size q3,q4⟩
   |dead l=>exact this
   |ice e t l=>exact this
  ·rw[hh]at hx
   exact .inl ⟨hx,fun hl k hk=>h5.block k (hold b k (by rw[hx];exact hl) hk)⟩
 ·obtain⟨x,hx,hxl⟩:=bF hb
  obtain⟨y,hy,hyl⟩:=bF hc;rcases hupd (mkRes r.shape n nm).2 blk b with hb2|⟨hb1,hb2⟩<;>rcases hupd (mkRes r.shape n nm).2 blk c with hc2|⟨hc1,hc2⟩
  ·obtain⟨_,_,b1,b2⟩:=hnew b x hb2 hx
   obtain⟨_,_,c1,c2⟩:=hnew c y hc2 hy;rw[r4]at h2;exact NS h2 (List.mem_range'_1.2 ⟨b1,b2⟩) (List.mem_range'_1.2 ⟨c1,c2⟩) (k:=k) (by rw[<-hin b b1 b2,g1];simp) (by rw[<-hin c c1 c2,g2];simp)
  ·have:=hblk2 b x k hb2 hx hxl g1
   rw[hc2]at hy;have hU:=(h.bnames c y hy).1;rw[hout c hU]at g2;have:=hold c k (by rw[hy];exact hyl) g2;omega
  ·have:=hblk2 c y k hc2 hy hyl g2
   rw[hb2]at hx;have hU:=(h.bnames b x hx).1;rw[hout b hU]at g1;have:=hold b k (by rw[hx];exact hxl) g1;omega
  ·rw[hb2]at hx;rw[hc2]at hy
   rw[hout b (h.bnames b x hx).1]at g1;rw[hout c (h.bnames c y hy).1]at g2;exact h.inj b c k (by rw[hx];exact hxl) (by rw[hy];exact hyl) g1 g2
 ·obtain⟨x,hx,hxl⟩:=bF hb
  rcases hupd (mkRes r.shape n nm).2 blk b with hb2|⟨hb1,hb2⟩
  ·obtain⟨_,_,b1,b2⟩:=hnew b x hb2 hx
   have hk:=hblk b k b1 b2 g1;have hge:=hblk2 b x k hb2 hx hxl g1;rintro (hF|hF)
   ·have:=h.F k hF;omega
   ·exact h3 k hk hF
  ·rw[hb2]at hx
   rw[hout b (h.bnames b x hx).1]at g1;have hlt:=hold b k (by rw[hx];exact hxl) g1
   rintro (hF|hF)
   ·exact h.nF b k (by rw[hx];exact hxl) g1 hF
   ·rcases(h4 k hF).1 with h6|h6
    ·exact h.nF b k (by rw[hx];exact hxl) g1 h6
    ·omega
 ·rcases hk with hk|hk
  ·exact Sg (h.F k hk) hsz
  ·exact(h4 k hk).2
theorem Lj{con:Nat->Bool}{own:Bool}{tr:E->Option Bool}{nm nm':Nat}{o:Oper}(hfit:PFit P)(h:Rel w0 env κ F U tmp blk L a w){f:Nat}{args:E}{sh:RS}{wr:List (Nat×Option SB)}(hc:dj P con own tr nm' (ai tmp) blk o=.call f args sh wr){r:R}(hr:r.shape=sh)(hcon:Con P f (den env args).g r)
  {n:Nat} (henv:∀(j:Nat) x,r.leaves[j]?=some x->env[n+j]?=some x) (hm:∀b,nm<=b->b<nm+(mkRes.RS.cnt sh).2->¬U b):
  ∃vs,(execOp a.eval o).run P w=.ok (.enter f vs) w/\(∀c,o.op≠.defer c)/\Calls P f vs w fun e w'=>∃u κ' F',e=.returned u ∧
   Rel w0 env κ' F' (fun b=>U b\/∃x∈wr++(mkRes sh n nm).2,x.1=b) tmp (aH blk (wr++(mkRes sh n nm).2)) L a w'/\SVden env κ' F' w' (mkRes sh n nm).1 u/\Kept U blk κ F w (aH blk (wr++(mkRes sh n nm).2)) κ' F' w':=by
 subst hr;unfold dj at hc;split at hc
 ·rename_i x hx
  obtain⟨_,_,_,rfl⟩:=ql hx;cases hc
 simp only[Hp]at hc;obtain⟨fs,hfs⟩:∃fs,fs=bi blk (frz P con own (ai tmp) blk o):=⟨_,rfl⟩
 rw[<-hfs]at hc;split at hc
 ·cases hc
 rotate_left
 ·rename_i x _ hx
  exact absurd hc (hx _ _ _ _)
 ·rename_i f' args' sh' wr' hc'
  cases hc
  obtain⟨F1,hf,k1⟩:=h.freeze (frz P con own (ai tmp) blk o);have hice:∀b,b∈frz P con own (ai tmp) blk o->∀e t l,aH blk (bi blk (frz P con own (ai tmp) blk o)) b≠some (.row e t l):=fun b hb=>QT blk _ hb
  have hiu:=KP blk (frz P con own (ai tmp) blk o);rw[<-hfs]at hf k1 hice hiu;obtain⟨blk1,hb1⟩:∃blk1,blk1=aH blk wr:=⟨_,rfl⟩
  rw[<-hb1]at hf k1 hc' hice hiu;have hz:=hf.nz;obtain⟨g,cargs,tys,ho,hcall⟩:=xy hc' rfl;unfold mi at hcall;split at hcall
  rotate_left
  ·cases hcall
  ·cases hcall
  rename_i g' fs' xs' hg
  have hg0:ai tmp g=.fn g' fs' xs':=OP (by rw[Hp];exact hg)
  split at hcall
  rotate_left
  ·cases hcall
  rename_i fn hfn
  split at hcall
  rotate_left
  ·cases hcall
  rename_i hbody
  split at hcall
  rotate_left
  ·cases hcall
  rename_i hcon'
  obtain⟨hcg,rfl,rfl⟩:=hcon';split at hcall
  rotate_left
  ·cases hcall
  ·cases hcall
  rename_i es sh hargs hsh
  cases hcall
  have hev:=h.ev g;rw[hg0]at hev;obtain⟨ds,cs,e1,_,_,e2,e3⟩:=hev;have e2:ds=#[]:=by injection e2
  have e3:cs=#[]:=by injection e3
  subst e2;subst e3;obtain⟨S,hS⟩:∃S:Nat->Prop,S=fun k=>if r.shape.flat=true then k<w.heap.size else F1 k:=⟨_,rfl⟩
  have hSF:∀k,F1 k->S k:=fun k hk=>by
   rw[hS];show if r.shape.flat=true then k<w.heap.size else F1 k
   split
   ·exact hf.F k hk
   ·exact hk
  have hSlt:∀k,S k->k<w.heap.size:=fun k hk=>by
   rw[hS]at hk;replace hk:if r.shape.flat=true then k<w.heap.size else F1 k:=hk
   split at hk
   ·exact hk
   ·exact hf.F k hk
  have hlend:∀x∈cargs.toList.map (ai fun t=>Sx.nz blk1 (tmp t)),DP blk1 κ S x:=by
   intro x hx b hb k hk;obtain⟨y,hy,rfl⟩:=List.mem_map.1 hx;rw[hS];obtain⟨e,t,l,hbl⟩:=Lw (blk:=blk1) _ b hb
   show if r.shape.flat=true then k<w.heap.size else F1 k
   split
   ·exact((hf.blks b _ hbl).lt rfl hk).2
   ·rename_i hnf
    exfalso
    rw[<-Hp]at hb;have hb2:=Mh _ _ b hb;have hb3:=LB (blk:=blk) (fun c e t l hc=>by
     rcases hiu c with h6|⟨_,_,_,_,h6⟩
     ·rw[<-h6];exact hc
     ·rw[h6]at hc;cases hc) _ b hb2
    refine hice b ?_ e t l hbl
    unfold frz;simp only[ho,hg0,hfn,hcg,hsh];rw[if_neg (by simpa using hnf)]
    exact List.mem_flatMap.2 ⟨y,by simpa using hy,hb3⟩
  have hden:=Eo hz hSF _ _ args (cargs.toList.map a.eval) hlend hargs (by simp) (fun i x u g1 g2=>by
   rw[y8]at g1 g2;obtain⟨y,g3,rfl⟩:=Option.map_eq_some_iff.1 g1;rw[g3]at g2;cases g2
   exact hz.ev y)
  have hrun:(execOp a.eval o).run P w=.ok (.enter f (cargs.map a.eval)) w:=by
   have hn:¬fn.name = "runtime.NumGoroutine" := hfit.name f fn hfn
   have hb:¬fn.body=none:=by intro hh;rw[hh]at hbody;cases hbody
   simp only[execOp,ho,resolve,e1,Deferred.ofValue,Sem.run_bind,Sem.run_pure,Result.andThen_ok,invoke,callFunc];simp[hfn,hn,hb]
  have hmap:(cargs.toList.map a.eval).toArray=cargs.map a.eval:=by apply Array.ext';simp
  rw[hmap]at hden;refine⟨_,hrun,(fun c hh=>by rw[ho]at hh;cases hh),?_⟩
  refine(hcon S _ w hSlt hden).mono ?_
  rintro e w' ⟨u,F2,bs,rfl,h1,h2,h3,h4,h5⟩;have key:∃F3:Nat->Prop,jw F3 w.heap.size w' r u bs/\(∀k∈bs,¬F3 k)/\∀k,F3 k->(F1 k\/w.heap.size<=k)/\k<w'.heap.size:=by
   cases hfl:r.shape.flat with
   |true=>exact⟨fun _=>False,M4 r u bs hfl h1,fun _ _ h=>h,fun _ h=>h.elim⟩
   | false=>
    refine⟨F2,h1,h3,fun k hk=>?_⟩
    obtain⟨h6,h7⟩:=h4 k hk;refine⟨?_,h7⟩
    rcases h6 with h6|h6
    ·rw[hS]at h6
     replace h6:if r.shape.flat=true then k<w.heap.size else F1 k:=h6
     rw[if_neg (by simp[hfl])]at h6;exact .inl h6
    ·exact .inr h6
  obtain⟨F3,q1,q2,q3⟩:=key;obtain⟨κ',F',r1,r2,r3⟩:=Rr hf q1 h2 q2 q3 h5 henv hm;have k:=k1.trans r3 (fun _ h=>h)
  rw[vh,<-hb1];refine⟨u,κ',F',rfl,?_,r2,k⟩
  refine r1.monoU (fun b hb=>?_)
  rcases hb with hb|⟨x,hx,hb⟩
  ·exact .inl hb
  ·exact .inr ⟨x,v4 _ hx,hb⟩
end Go.Sx
