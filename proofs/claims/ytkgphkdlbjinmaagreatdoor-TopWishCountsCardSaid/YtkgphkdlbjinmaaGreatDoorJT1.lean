/-
  Texts of this claim, joined (part 1).
-/
import Derived.WalkKit
import Derived.WalkLawsBesides
import Derived.WalkSpells
import Derived.Deep.QuietTactic
import Derived.BigQuiet
import Derived.Lib.Hide
import Derived.RangeFuncNested
import Derived.RangeFuncBox
import Derived.RangeFuncCalls
import Derived.RangeFuncLeaves
import Derived.OwnWalkIn
import Derived.TacticsInMore
import Derived.LoopNIn
import Derived.LoopIn
import Derived.Shelf.Abstract
import Derived.ProofKit
import Derived.LaidMore
import Derived.OpenShut
import Derived.Stop.Joined
import Derived.SevenTiedAt
import Derived.Laws.OwnMore
import Derived.Deep.AppendLies
import GoSem.Step
import Derived.Laws.AppendOwn
import Derived.Laws.Bits
import Derived.IntWalk
import Derived.Laws.Cells
import Derived.Laws.CopyRow
import Derived.ChangeKeysEq
open Bool renaming and_eq_true → M9, rec → Nn, not_eq_true → NA
open Nat renaming blt → Na, beq → Nd, le_refl → Nr, lt_of_lt_of_le → Ns, mul_le_mul_right → Nv, mod → Ny, beq_eq → Nz, le_trans → NB, div → ND, add_assoc → NE, ble_eq → NG, beq_refl → NH, succ_mul → NJ, div_add_mod → NK, min → NU, ble → NV, rec → N4
open List renaming getElem?_map → Nb, getElem?_take → Nc, getElem?_eq_getElem → Nf, range → Ng, getElem?_drop → Nh, mem_append_left → Nk, mem_append_right → Nl, rec → Nm, getElem?_append_right → Np, getElem?_append_left → Nq, replicate → Nt, mem_of_getElem? → Nu, getD → Nx, eq_nil_of_length_eq_zero → NC, length_range → NF, casesOn → NI, length_map → NM, getElem?_eq_none → NO, mem_cons_of_mem → NP, mem_of_mem_take → NQ, mem_of_mem_drop → NR, mem_cons_self → NS, getElem_range → NT, ext_getElem? → NW, all_eq_true → NY, mem_toArray → NZ, foldl_cons → N1, mem_append → N2
open Array renaming getElem?_toList → No, length_toList → Nw, getD → N0
open Option renaming map_some → NL, map_eq_some_iff → NN, getD_some → NX
set_option linter.unusedVariables false
set_option linter.unusedSimpArgs false
set_option linter.unusedSectionVars false
set_option linter.constructorNameAsVariable false
namespace Go.Dial
open Go Go.RowKit
@[simp,go_sem] theorem ML:Fence.wide.depth=none:=rfl
@[simp,go_sem] theorem M8 (f:FuncId):Fence.wide.fn f=True:=rfl
structure Ext (mine:Nat->Prop) (A B:World):Prop where
 os:B.os=A.os
 tape:B.tape=A.tape
 output:B.output=A.output
 size:A.heap.size<=B.heap.size
 block:∀k,k<A.heap.size->¬mine k->B.heap[k]?=A.heap[k]?
theorem Ext.trans{mine:Nat->Prop}{A B C:World}(h:Ext mine A B)(k:Ext mine B C):Ext mine A C:=
 ⟨k.os.trans h.os,k.tape.trans h.tape,k.output.trans h.output,NB h.size k.size,fun i hi hm=>(k.block i (Ns hi h.size) hm).trans (h.block i hi hm)⟩
theorem Ext.mono{m m':Nat->Prop}{A B:World}(h:Ext m A B)(hm:∀k,k<A.heap.size->m k->m' k):Ext m' A B:=
 ⟨h.os,h.tape,h.output,h.size,fun k hk hn=>h.block k hk (fun e=>hn (hm k hk e))⟩
theorem Ext.below{m:Nat->Prop}{A B:World}{n:Nat}(h:Ext m A B)(hm:∀k,m k->n<=k)(hn:n<=A.heap.size):Below n A B:=
 ⟨h.os,h.tape,h.output,h.size,fun k hk=>h.block k (by omega) (fun e=>by have:=hm k e;omega)⟩
theorem Ext.cell{m:Nat->Prop}{A B:World}(h:Ext m A B){p:Addr}{v:Value}(hc:A.cell? p=some v)(hp:¬m p.block):B.cell? p=some v:=
 (World.cell?_of_block (h.block p.block (World.block_lt_of_cell? A p hc) hp)).trans hc
theorem Ext.alloc(m:Nat->Prop)(A:World)(o:Obj):Ext m A (A.alloc o):=
 ⟨rfl,rfl,rfl,by simp,fun k hk _=>Below.heap_alloc _ _ _ hk⟩
def Span(w:World)(B sz:Nat)(A:Option Addr)(n:Nat)(cs:List Value):Prop:=
 cs.length=n*sz/\∀j u,cs[j]?=some u->∃a,A=some a/\a.block<B/\w.cell? (a.add j)=some u
theorem lO(a:Addr)(n:Nat):(a.add n).block=a.block:=by unfold Addr.add;split<;>rfl
theorem ep(a:Addr)(i j:Nat):(a.add i).add j=a.add (i+j):=by
 unfold Addr.add;by_cases hi:i=0<;>by_cases hj:j=0<;>simp[hi,hj,NE]
theorem Span.nil(w:World)(B sz:Nat)(A:Option Addr):Span w B sz A 0 []:=⟨by simp,fun j u h=>by simp at h⟩
theorem Span.keep{w w':World}{B sz n:Nat}{A:Option Addr}{cs:List Value}(h:Span w B sz A n cs)(hk:∀p:Addr,p.block<B->w'.cell? p=w.cell? p):Span w' B sz A n cs:=
 ⟨h.1,fun j u hu=>by
  obtain⟨a,e,hb,hc⟩:=h.2 j u hu;exact⟨a,e,hb,(hk _ (by rw[lO];exact hb)).trans hc⟩⟩
theorem Span.below{w w':World}{B B' sz n:Nat}{A:Option Addr}{cs:List Value}(h:Span w B sz A n cs)(hb:Below B' w w')(hB:B<=B'):Span w' B sz A n cs:=
 h.keep fun _ hp=>hb.cell (Ns hp hB)
theorem Span.mono{w:World}{B B' sz n:Nat}{A:Option Addr}{cs:List Value}(h:Span w B sz A n cs)(hB:B<=B'):Span w B' sz A n cs:=
 ⟨h.1,fun j u hu=>by
  obtain⟨a,e,hb,hc⟩:=h.2 j u hu;exact⟨a,e,Ns hb hB,hc⟩⟩
theorem Span.of_own{w:World}{base sz n c:Nat}{e:TypeId}{A:Option Addr}{cs:List Value}(h:w.ownsRow base e sz (.slice A n c) n cs):Span w w.heap.size sz A n cs:=by
 refine⟨h.1,fun j u hu=>?_⟩
 rcases h.2 with⟨hv,hn⟩|⟨g,cap,cur,hv,_,hg,_⟩
 ·have h1:=h.1
  rw[hn]at h1;simp at h1
  rw[h1]at hu;simp at hu
 ·have hA:A=some ⟨g,0,none⟩:=by injection hv
  subst hA;exact⟨_,rfl,(Array.getElem?_eq_some_iff.1 hg).1,h.cells (g:=g) rfl j u hu⟩
open Go.ChangeShapes Go.WideShapes Go.ChangeAt Go.WideMaps Go.WideElems
section
variable {H:Type} {enc:TypeId×Value->H} {P:Program}
theorem vn(hl:laidOutB P=true){W W':World}(hb:Below W.heap.size W W'):∀(ts:List TypeId),(∀t∈ts,P.readableRec t=true/\t<P.types.size) →
  ∀ {vs:List Value} {ds:List (DataW H)} {ps:List MemPlace},DataW.TrodAll enc P W 0 (fun _=>true) true ts vs ds ps->DataW.TrodAll enc P W' 0 (fun b=>decide (b<W.heap.size)) true ts vs ds ps
 |[],_,_,_,_,h=>by
  obtain⟨rfl,rfl,rfl⟩:=trodAll_nil h;exact trodAll_mk0
 |t::ts,ht,_,_,_,h=>by
  have hlt:=DataW.TrodAll.lt h;obtain⟨v,vs1,d,ds1,a,b,rfl,rfl,rfl,h1,h2⟩:=trodAll_cons h;have ht0:=ht t (NS ..);exact trodAll_cons_mk (Below.trod hl ht0.1 ht0.2 h1 hb (fun x hx=>hlt x (Nk _ hx))) (vn hl hb ts (fun t' h'=>ht t' (NP _ h')) h2)
theorem Kx{fn:Func}{s:ChangeSpec}{W W':World}{args:Array Value}{ds gs:List (DataW H)}{before:List MemPlace}{tb:TypeId}
  (hW:DataW.Whole enc P fn.params.toList s.vars false W args.toList ds gs before) (hv:s.vars=[])
  (hs1:(s.fn H (ds++[])).results=[.lit (.bool true)]) (hs2:(s.fn H (ds++[])).args=ds) (hs3:(s.fn H (ds++[])).vars=[])
  (hl:laidOutB P=true) (hr:∀t∈fn.params.toList,P.readableRec t=true/\t<P.types.size) (hres:fn.resultTypes=#[tb]) (htb:P.underlying tb=some .bool)
  (hb:Below W.heap.size W W'):s.post enc P fn false true false false W args (.bool true) W':=by
 have hW':=hW;obtain⟨p,q,hA,hV,rfl,_,_⟩:=hW;rw[hv]at hV;obtain⟨rfl,rfl⟩:=trodVars_none hV;refine⟨ds,[],_,[],p,[],hW',?_,?_,?_,hb.frame _,fun h=>by cases h⟩
 ·rw[hs1,hres];exact trodAll_mk1 (shut_bool htb true)
 ·rw[hs2];exact vn hl hb _ hr hA
 ·rw[hs3,hv];rfl
end
theorem J5{P:Program}{ts:List TypeId}(h:(ts.all fun t=>P.readableRec t&&decide (t<P.types.size))=true):∀t∈ts,P.readableRec t=true/\t<P.types.size:=fun t ht=>by
 simpa using List.all_eq_true.1 h t ht
theorem GM{P:Program}{ts:List TypeId}(h:(ts.all fun u=> !P.wantsStandIn u)=true):∀(j:Nat) (t:TypeId),ts.toArray[j]?=some t->P.wantsStandIn t=false:=fun j t ht=>by
 have hm:t∈ts:=by simpa using Array.mem_of_getElem? ht
 simpa using List.all_eq_true.1 h t hm
theorem Ij{H:Type}{enc:TypeId×Value->H}{P:Program}{W:World}{base:Nat}{t:TypeId}{v:Value}{d:DataW H}{ps:List MemPlace}(ht:P.underlying t=some .string)
  (hok:Value.okWide P W .any base t v) (h:DataW.Trod enc P W 0 (fun _=>true) true t v d ps):∃s:ByteArray,v=.string s/\s.size<=maxLen:=by
 obtain⟨s,rfl,rfl,rfl,hs⟩:=Go.ChangeMaps.open_string ht hok h;exact⟨s,rfl,hs⟩
theorem LI{H:Type}{enc:TypeId×Value->H}{P:Program}{W:World}{base:Nat}{t:TypeId}{v:Value}{d:DataW H}{ps:List MemPlace}(ht:P.underlying t=some (.int .i64))
  (hok:Value.okWide P W .any base t v) (h:DataW.Trod enc P W 0 (fun _=>true) true t v d ps):∃n:Int,v=.int .i64 n/\ -9223372036854775808<=n/\n<=9223372036854775807:=by
 obtain⟨x,rfl,rfl,rfl,wx⟩:=open_int ht hok h;simp[Lit.wf,IntKind.min,IntKind.max,IntKind.signed,IntKind.bits]at wx
 exact⟨x,rfl,by omega,by omega⟩
section
variable {H:Type} {enc:TypeId×Value->H} {P:Program} {w:World} {base:Nat} {spare:Nat->Bool} {held:Bool}
def Rd(enc:TypeId×Value->H)(P:Program)(w:World)(base:Nat)(spare:Nat->Bool)(held:Bool)(t:TypeId){α:Type}(f:α->List Value)(Q:α->Prop):Prop:=
 ∀m cs x,DataW.trod enc P w base spare held m t cs=some x->∃y,cs=f y/\Q y
theorem Mk{t:TypeId}{k:IntKind}(ht:P.underlying t=some (.int k)):Rd enc P w base spare held t (fun n:Int=>[.int k n]) (fun n=>(Lit.int k n).wf=true):=fun m cs x h=>by
 obtain⟨n,h1,_,h3⟩:=DataW.trod_int ht h;exact⟨n,h1,h3⟩
theorem Mj{t:TypeId}(ht:P.underlying t=some (.int .i64)):Rd enc P w base spare held t (fun n:Int=>[.int .i64 n]) (fun n=> -9223372036854775808<=n/\n<=9223372036854775807):=fun m cs x h=>by
 obtain⟨n,h1,h3⟩:=Mk ht m cs x h;simp[Lit.wf,IntKind.min,IntKind.max,IntKind.signed,IntKind.bits]at h3
 exact⟨n,h1,by omega,by omega⟩
theorem Jl{t:TypeId}(ht:P.underlying t=some .string):Rd enc P w base spare held t (fun s:ByteArray=>[.string s]) (fun s=>s.size<=maxLen):=fun m cs x h=>by
 obtain⟨n,h1,_,h3⟩:=DataW.trod_string ht h;exact⟨n,h1,h3⟩
theorem JI{w:World}{base:Nat}{a:Addr}{n:Nat}{l:List Value}(h:w.cells? base a n=some l):l.length=n/\∀j,j<n->w.cell? (a.add j)=l[j]?:=by
 unfold World.cells? at h
 split at h
 ·refine⟨by simpa using mapM_some_length h,fun j hj=>?_⟩
  simpa using mapM_some_get h j j (by simp[hj])
 ·cases h
structure Sl (α:Type) where
 A:Option Addr
 cap:Nat
 ys:List α
def Sl.cells{α:Type}(s:Sl α):List Value:=[.slice s.A s.ys.length s.cap]
end
end Go.Dial
namespace Go.Dial
open Go Go.RowKit
section
variable {α:Type} {f:α->List Value} {sz:Nat}
def HoldsG(f:α->List Value)(sz:Nat)(w:World)(B:Nat)(v:Value)(l:List α):Prop:=∃A c,v=.slice A l.length c/\l.length<=c/\c<=maxLen/\Span w B sz A l.length (l.flatMap f)
theorem HoldsG.nil(w:World)(B:Nat):HoldsG f sz w B (.slice none 0 0) []:=⟨none,0,rfl,Nr _,Nat.zero_le _,Span.nil _ _ _ _⟩
theorem HoldsG.mono{w:World}{B B':Nat}{v:Value}{l:List α}(h:HoldsG f sz w B v l)(hB:B<=B'):HoldsG f sz w B' v l:=by
 obtain⟨A,c,rfl,h1,h2,h3⟩:=h;exact⟨A,c,rfl,h1,h2,h3.mono hB⟩
theorem HoldsG.keep{w w':World}{B:Nat}{v:Value}{l:List α}(h:HoldsG f sz w B v l)(hk:∀k,k<B->w'.heap[k]?=w.heap[k]?):HoldsG f sz w' B v l:=by
 obtain⟨A,c,rfl,h1,h2,h3⟩:=h;exact⟨A,c,rfl,h1,h2,h3.keep fun p hp=>World.cell?_of_block (hk _ hp)⟩
theorem HoldsG.len{w:World}{B:Nat}{v:Value}{l:List α}(h:HoldsG f sz w B v l):l.length<=maxLen:=by
 obtain⟨A,c,_,h1,h2,_⟩:=h;omega
end
section
variable {P:Program} {w:World}
theorem iA(w:World)(r:Option Nat):w.grownBy w r:=⟨rfl,rfl,rfl,Nr _,fun _ _ _=>rfl⟩
theorem AQ(base:Nat)(t ty e:TypeId)(i:TypeInfo)(z:Value)(size bytes:Nat)(ht:P.underlying t=some (.slice e))(hi:P.info? e=some i)(hz:i.zero=some z)
  (hsize:i.size=size) (hby:i.bytes=bytes) (hzs:z.cells.size=size) (hsz:0<size)
  (v:Value) (n:Nat) (xs:List Value) (hown:w.ownsRow base e size v n xs) (A:Option Addr) (m c B:Nat) (news:List Value) (hS:Span w B size A m news) (h1:∀u∈news,u.oneCell'=true)
  (h63:n+m<=maxLen) (hbytes:(n+m)*bytes<=140737488355328) (hbase:base<=w.heap.size):
  ∃v' w',(Builtin.append_ #[t,t] ty #[v,.slice A m c]).run P w=.ok v' w'/\w'.ownsRow base e size v' (n+m) (xs++news)/\w.grownBy w' v.ownBlock:=by
 cases A with
 | none=>
  have hn:news=[]:=by
   cases news with
   |nil=>rfl
   |cons u l=>obtain⟨a,ha,_⟩:=hS.2 0 u rfl;cases ha
  subst hn;have hm:m=0:=by
   have h0:=hS.1;rw[List.length_nil]at h0;rcases Nat.eq_zero_or_pos m with h|h
   ·exact h
   ·have:=Nat.mul_pos h hsz;omega
  subst hm;refine⟨v,w,?_,by simpa using hown,iA _ _⟩
  rcases hown.2 with⟨rfl,rfl⟩|⟨g,cap,cur,rfl,_,_,hnc,_⟩
  ·simp[Builtin.append_,run_underlying ht,sizeOf,typeInfo,hi,Builtin.lenOf,Builtin.firstCells]
  ·simp[Builtin.append_,run_underlying ht,sizeOf,typeInfo,hi,Builtin.lenOf,Builtin.firstCells,hnc,storeCells]
 |some a=>
  obtain⟨v',w',h,h2,h3,_⟩:=run_append_own (P:=P) w base t ty e i z size bytes ht hi hz hsize hby hzs hsz v n xs hown a m c news hS.1 (fun j u hu=>by obtain⟨a',e1,_,e2⟩:=hS.2 j u hu;cases e1;exact e2) h1 h63 hbytes hbase
  exact⟨v',w',h,h2,h3⟩
end
theorem dt{w:World}{p:Nat}{x:Obj}(h:w.heap[p]?=some x):p<w.heap.size:=(Array.getElem?_eq_some_iff.1 h).1
end Go.Dial
namespace Go.Sx
open Go
def globL:List (Nat×IntKind×List Int):=[(0,.u8,[0,1,28,2,29,14,24,3,30,22,20,15,25,17,4,8,31,27,13,23,21,19,16,7,26,12,18,6,11,5,10,9]),
 (1,.u8,[0,1,56,2,57,49,28,3,61,58,42,50,38,29,17,4,62,47,59,36,45,43,51,22,53,39,33,30,24,18,12,5,63,55,48,27,60,41,37,16,46,35,44,21,52,32,23,11,54,26,40,15,34,20,31,10,25,14,19,9,13,8,7,6]),
 (2,.u32,[1116352408,1899447441,3049323471,3921009573,961987163,1508970993,2453635748,2870763221,3624381080,310598401,607225278,1426881987,1925078388,2162078206,2614888103,3248222580,3835390401,4022224774,264347078,604807628,770255983,1249150122,1555081692,1996064986,2554220882,2821834349,2952996808,3210313671,3336571891,3584528711,113926993,338241895,666307205,773529912,1294757372,1396182291,1695183700,1986661051,2177026350,2456956037,2730485921,2820302411,3259730800,3345764771,3516065817,3600352804,4094571909,275423344,430227734,506948616,659060556,883997877,958139571,1322822218,1537002063,1747873779,1955562222,2024104815,2227730452,2361852424,2428436474,2756734187,3204031479,3329325298])]
open Go.RowKit Go.Dial
inductive Ty where
 |int|bool|raw|sl (row:Ty)|nil|cons (a b:Ty)|num (k:IntKind)|str
 deriving DecidableEq
def Ty.list:Ty->List Ty
 |.cons a b=>a::b.list
 |_=>[]
def Ty.len:Ty->Nat
 |.cons _ b=>b.len+1
 |_=>0
theorem Ty.list_len(t:Ty):t.list.length=t.len:=by
 induction t with
 |cons a b _ ih=>simp[Ty.list,Ty.len,ih]
 |_=>rfl
inductive AV where
 |int (n:Int)
 |bool (b:Bool)
 |raw (v:Value)
 |sl (t:Ty) (l:List (List AV))
 |agg (l:List AV)
instance:Inhabited AV:=⟨.int 0⟩
def nN:Value->Ty
 |.int k _=>.num k
 |.string _=>.str
 |_=>.raw
def AV.ty:AV->Ty
 |.int _=>.int
 |.bool _=>.bool
 |.raw v=>nN v
 |.sl t _=>.sl t
 |.agg _=>.nil
def AV.i:AV->Int
 |.int n=>n
 |_=>0
def AV.b:AV->Bool
 |.bool b=>b
 |_=>false
def AV.r:AV->Value
 |.raw v=>v
 |_=>undef
def ar(s:List UInt8):Value:=.string ⟨s.toArray⟩
def AV.s(x:AV):List UInt8:=
 match x.r with
 |.string s=>s.data.toList
 |_=>[]
def AV.num:AV->Int
 |.int n=>n
 |.raw (.int _ n)=>n
 |_=>0
def AV.l:AV->List (List AV)
 |.sl _ l=>l
 |_=>[]
def AV.g:AV->List AV
 |.agg l=>l
 |_=>[]
def aU:Value->Bool
 |.agg _=>false
 |.tuple _=>false
 |_=>true
theorem nQ{u:Value}(h:aU u=true):u.cells=#[u]:=by cases u<;>simp[aU]at h<;>rfl
inductive Den (S:Nat->Prop) (w:World):Value->AV->Prop
 |int (n:Int):Den S w (.int .i64 n) (.int n)
 |bool (b:Bool):Den S w (.bool b) (.bool b)
 |raw (v:Value) (h:aU v=true):Den S w v (.raw v)
 |sl (A:Option Addr) (a:Addr) (c:Nat) (t:Ty) (l:List (List AV)) (u:Nat->Nat->Value) (hc:l.length<=c) (hm:c<=maxLen)
  (hty:∀(i:Nat) r,l[i]?=some r->r.map AV.ty=t.list) (hA:l≠[]->A=some a/\S a.block)
  (hcell:∀(i k:Nat) r x,l[i]?=some r->r[k]?=some x->w.cell? (a.add (i*t.len+k))=some (u i k))
  (hden:∀(i k:Nat) r x,l[i]?=some r->r[k]?=some x->Den S w (u i k) x):Den S w (.slice A l.length c) (.sl t l)
 |agg (cs:List Value) (l:List AV) (hl:cs.length=l.length) (hden:∀(i:Nat) v x,cs[i]?=some v->l[i]?=some x->Den S w v x):Den S w (.agg cs.toArray) (.agg l)
theorem Den.keep{S S':Nat->Prop}{w w':World}{v:Value}{x:AV}(h:Den S w v x)(hk:∀k,S k->w'.heap[k]?=w.heap[k]?)(hS:∀k,S k->S' k):Den S' w' v x:=by
 induction h with
 |int n=>exact .int n
 |bool b=>exact .bool b
 |raw v h=>exact .raw v h
 |sl A a c t l u hc hm hty hA hcell hden ih=>
  refine .sl A a c t l u hc hm hty (fun h=>⟨(hA h).1,hS _ (hA h).2⟩) (fun i k r x h1 h2=>?_) ih
  have hne:l≠[]:=fun e=>by rw[e]at h1;simp at h1
  refine(World.cell?_of_block ?_).trans (hcell i k r x h1 h2)
  rw[lO];exact hk _ (hA hne).2
 |agg cs l hl hden ih=>exact .agg cs l hl ih
theorem Den.int_iff{S:Nat->Prop}{w:World}{v:Value}{n:Int}:Den S w v (.int n)↔v=.int .i64 n:=⟨fun h=>by cases h;rfl,fun h=>h▸.int n⟩
theorem Den.bool_iff{S:Nat->Prop}{w:World}{v:Value}{b:Bool}:Den S w v (.bool b)↔v=.bool b:=⟨fun h=>by cases h;rfl,fun h=>h▸.bool b⟩
theorem Den.raw_iff{S:Nat->Prop}{w:World}{v u:Value}:Den S w v (.raw u)↔v=u/\aU u=true:=⟨fun h=>by cases h with|raw _ h=>exact⟨rfl,h⟩,fun h=>by rw[h.1];exact .raw u h.2⟩
theorem Den.view{S:Nat->Prop}{w:World}{v:Value}{t:Ty}{l:List (List AV)}(h:Den S w v (.sl t l)):
  ∃A c,v=.slice A l.length c/\l.length<=c/\c<=maxLen/\(∀(i:Nat) r,l[i]?=some r->r.map AV.ty=t.list) ∧
   ∀(i:Nat) r,l[i]?=some r->∃a,A=some a/\S a.block/\∀(k:Nat) x,r[k]?=some x->∃u,w.cell? (a.add (i*t.len+k))=some u/\Den S w u x:=by
 cases h with
 |sl A a c t l u hc hm hty hA hcell hden=>
  refine⟨A,c,rfl,hc,hm,hty,fun i r hr=>?_⟩
  have hne:l≠[]:=fun e=>by rw[e]at hr;simp at hr
  exact⟨a,(hA hne).1,(hA hne).2,fun k x hx=>⟨_,hcell i k r x hr hx,hden i k r x hr hx⟩⟩
theorem Den.mk{S:Nat->Prop}{w:World}{A:Option Addr}{n c:Nat}{t:Ty}{l:List (List AV)}(hn:l.length=n)(hc:n<=c)(hm:c<=maxLen)(hty:∀(i:Nat) r,l[i]?=some r->r.map AV.ty=t.list)
  (hA:l≠[]->∃a,A=some a/\S a.block/\∀(i:Nat) r,l[i]?=some r->∀(k:Nat) x,r[k]?=some x->∃u,w.cell? (a.add (i*t.len+k))=some u/\Den S w u x):Den S w (.slice A n c) (.sl t l):=by
 subst hn;by_cases hne:l=[]
 ·subst hne
  exact .sl A ⟨0,0,none⟩ c t [] (fun _ _=>undef) hc hm hty (fun h=>absurd rfl h) (fun i k r x h1=>by simp at h1) (fun i k r x h1=>by simp at h1)
 ·obtain⟨a,h1,h2,h3⟩:=hA hne
  have hu:∃u:Nat->Nat->Value,∀(i k:Nat) r x,l[i]?=some r->r[k]?=some x->w.cell? (a.add (i*t.len+k))=some (u i k)/\Den S w (u i k) x:=by
   refine⟨fun i k=>(w.cell? (a.add (i*t.len+k))).getD undef,fun i k r x hr hx=>?_⟩
   obtain⟨u,hu,hd⟩:=h3 i r hr k x hx;exact⟨by dsimp only;rw[hu];rfl,by dsimp only;rw[hu];exact hd⟩
  obtain⟨u,hu⟩:=hu;exact .sl A a c t l u hc hm hty (fun _=>⟨h1,h2⟩) (fun i k r x a b=>(hu i k r x a b).1) (fun i k r x a b=>(hu i k r x a b).2)
theorem Den.agg_view{S:Nat->Prop}{w:World}{v:Value}{l:List AV}(h:Den S w v (.agg l)):∃cs:List Value,v=.agg cs.toArray/\cs.length=l.length/\∀(i:Nat) u x,cs[i]?=some u->l[i]?=some x->Den S w u x:=by
 cases h with
 |agg cs l hl hden=>exact⟨cs,rfl,hl,hden⟩
theorem rawTy_not{v:Value}:nN v≠.int/\nN v≠.bool/\(∀t,nN v≠.sl t)/\nN v≠.nil/\(∀a b,nN v≠.cons a b):=by
 cases v<;>simp[nN]
theorem jw{x:AV}(h:x.ty=.int):x=.int x.i:=by
 cases x<;>simp[AV.ty]at h
 ·rfl
 ·exact absurd h rawTy_not.1
theorem xD{x:AV}(h:x.ty=.bool):x=.bool x.b:=by
 cases x<;>simp[AV.ty]at h
 ·rfl
 ·exact absurd h rawTy_not.2.1
theorem Ey{x:AV}(h:x.ty=.raw):x=.raw x.r:=by cases x<;>simp[AV.ty]at h<;>rfl
theorem wu{x:AV}{k:IntKind}(h:x.ty=.num k):x=.raw (.int k x.num):=by
 cases x<;>simp[AV.ty]at h
 rename_i v
 cases v<;>simp[nN]at h
 subst h;rfl
theorem AS{x:AV}(h:x.ty=.str):x=.raw (ar x.s):=by
 cases x<;>simp[AV.ty]at h
 rename_i v
 cases v<;>simp[nN]at h
 rfl
theorem KM{x:AV}{t:Ty}(h:x.ty=.sl t):x=.sl t x.l:=by
 cases x<;>simp[AV.ty]at h
 ·exact absurd h (rawTy_not.2.2.1 t)
 ·subst h;rfl
def GlobOK(S:Nat->Prop)(w:World):Prop:=∀x∈globL,S x.1/\x.2.2.length<=maxLen/\∀(i:Nat) n,x.2.2[i]?=some n->w.cell? ⟨x.1,i,none⟩=some (.int x.2.1 n)
theorem GlobOK.keep{S S':Nat->Prop}{w w':World}(h:GlobOK S w)(hk:∀k,S k->w'.heap[k]?=w.heap[k]?)(hS:∀k,S k->S' k):GlobOK S' w':=fun x hx=>by
 obtain⟨h1,h2,h3⟩:=h x hx;exact⟨hS _ h1,h2,fun i n hn=>(World.cell?_of_block (hk _ h1)).trans (h3 i n hn)⟩
theorem GlobOK.den{S:Nat->Prop}{w:World}(h:GlobOK S w){g:Nat}{k:IntKind}{ns:List Int}(hx:(g,k,ns)∈globL):Den S w (.slice (some ⟨g,0,none⟩) ns.length ns.length) (.sl (.cons (.num k) .nil) (ns.map fun n=>[.raw (.int k n)])):=by
 obtain⟨h1,h2,h3⟩:=h _ hx;refine Den.mk (by simp) (Nr _) h2 (fun i r hr=>?_) fun _=>⟨⟨g,0,none⟩,rfl,h1,fun i r hr q x hq=>?_⟩
 ·simp only[Nb,NN]at hr
  obtain⟨n,_,rfl⟩:=hr;rfl
 ·simp only[Nb,NN]at hr
  obtain⟨n,hn,rfl⟩:=hr;match q,hq with
  | 0,hq=>
   cases hq
   refine⟨_,?_,.raw (.int k n) rfl⟩
   have:=h3 i n hn
   have e:(⟨g,0,none⟩:Addr).add (i*(Ty.cons (.num k) .nil).len+0)=⟨g,i,none⟩:=by
    have:i*(Ty.cons (.num k) .nil).len+0=i:=by simp[Ty.len]
    rw[this];unfold Addr.add;split
    ·next h=>rw[h]
    ·simp
   rw[e];exact this
end Go.Sx
namespace Go.Sx
open Go
inductive IOp where
 |add|sub|mul|quo|rem|min|max|and|or|xor|andNot|shl|shr
 deriving DecidableEq
inductive COp where
 |lt|le|eq
 deriving DecidableEq
inductive E where
 |v (i:Nat)|int (n:Int)|bool (b:Bool)|str (s:List UInt8)|oint (k:IntKind) (n:Int)
 |ii (o:IOp) (a b:E)|cmp (o:COp) (a b:E)|not (a:E)|beq (a b:E)|and (a b:E)|seq (a b:E)
 |len (l:E)|slen (s:E)|cell (l i:E) (k:Nat)|rnil|rcons (x xs:E)
 |lnil|snoc (l r:E)|app (l m:E)|take (l n:E)|drop (l n:E)|set (l i:E) (k:Nat) (x:E)|rep (n r:E)|typed (t:Ty) (l:E)
 |cpy (l m:E)|co (t:Ty) (e:E)
 |kin (k:IntKind) (e:E)|kout (e:E)|kop (o:BinOp) (k:IntKind) (a b:E)|kcmp (o:COp) (a b:E)
 |mget (l k:E)|mhas (l k:E)|mput (l k x:E)
 |scat (a b:E)|sidx (s i:E)|sofb (l:E)|bofs (s:E)
 deriving DecidableEq
def IOp.f:IOp->Int->Int->Int
 |.add,a,b=>a+b
 |.sub,a,b=>a-b
 |.mul,a,b=>a*b
 |.quo,a,b=>a.tdiv b
 |.rem,a,b=>a.tmod b
 |.min,a,b=>if b<a then b else a
 |.max,a,b=>if a<b then b else a
 |.and,a,b=>IntKind.i64.wrap (BitVec.ofInt 64 a &&& BitVec.ofInt 64 b).toNat
 |.or,a,b=>IntKind.i64.wrap (BitVec.ofInt 64 a ||| BitVec.ofInt 64 b).toNat
 |.xor,a,b=>IntKind.i64.wrap (BitVec.ofInt 64 a ^^^ BitVec.ofInt 64 b).toNat
 |.andNot,a,b=>IntKind.i64.wrap (BitVec.ofInt 64 a &&& ~~~(BitVec.ofInt 64 b)).toNat
 |.shl,a,b=>IntKind.i64.wrap (a*2 ^ (NU b.toNat 64))
 |.shr,a,b=>a.fdiv (2 ^ (NU b.toNat 64))
def COp.f:COp->Int->Int->Bool
 |.lt,a,b=>decide (a<b)
 |.le,a,b=>decide (a<=b)
 |.eq,a,b=>decide (a=b)
@[simp] theorem AV.i_int (n:Int):(AV.int n).i=n:=rfl
@[simp] theorem AV.b_bool (b:Bool):(AV.bool b).b=b:=rfl
@[simp] theorem AV.r_raw (v:Value):(AV.raw v).r=v:=rfl
@[simp] theorem AV.l_sl (t:Ty) (l:List (List AV)):(AV.sl t l).l=l:=rfl
@[simp] theorem AV.g_agg (l:List AV):(AV.agg l).g=l:=rfl
def co:Ty->AV->AV
 |.int,x=>.int x.i
 |.bool,x=>.bool x.b
 |.raw,x=>.raw x.r
 |.sl t,x=>.sl t x.l
 |.num k,x=>.raw (.int k x.num)
 |.str,x=>.raw (ar x.s)
 |_,x=>x
theorem Ax{t:Ty}{x:AV}(h:x.ty=t):co t x=x:=by
 cases t with
 |int=>exact(jw h).symm
 |bool=>exact(xD h).symm
 |raw=>exact(Ey h).symm
 |sl t=>exact(KM h).symm
 |num k=>exact(wu h).symm
 |str=>exact(AS h).symm
 |_=>rfl
def aa(o:BinOp)(k:IntKind)(x y:Int):Int:=
 match o with
 |.add=>k.wrap (x+y)
 |.sub=>k.wrap (x-y)
 |.mul=>k.wrap (x*y)
 |.and=>k.wrap (BitVec.ofInt k.bits x &&& BitVec.ofInt k.bits y).toNat
 |.or=>k.wrap (BitVec.ofInt k.bits x ||| BitVec.ofInt k.bits y).toNat
 |.xor=>k.wrap (BitVec.ofInt k.bits x ^^^ BitVec.ofInt k.bits y).toNat
 |.andNot=>k.wrap (BitVec.ofInt k.bits x &&& ~~~(BitVec.ofInt k.bits y)).toNat
 |.shl=>k.wrap (x*2 ^ (NU y.toNat k.bits))
 |.shr=>x.fdiv (2 ^ (NU y.toNat k.bits))
 |.quo=>k.wrap (x.tdiv y)
 |.rem=>x.tmod y
 |_=>0
def bY:List AV->List AV->Bool
 |[],_=>true
 |x::k,y::r=>decide (x.i=y.i)&&((x.s==y.s)&&bY k r)
 |_::_,[]=>false
def jH(k:List AV):List (List AV)->Bool
 |[]=>false
 |r::l=>bY k r||jH k l
def cb(k:List AV):List (List AV)->Int
 |[]=>0
 |r::l=>bif bY k r then(r.getD k.length (.int 0)).num else cb k l
def eA(k:List AV)(x:AV):List (List AV)->List (List AV)
 |[]=>[k++[x]]
 |r::l=>bif bY k r then(k++[x])::l else r::eA k x l
def bytesOf(l:List (List AV)):List UInt8:=l.map fun r=>UInt8.ofNat (r.getD 0 (.int 0)).num.toNat
def au(s:List UInt8):List (List AV):=s.map fun b=>[.raw (.int .u8 b.toNat)]
def qI(s:List UInt8)(i:Int):Int:=((s.getD i.toNat 0).toNat:Int)
def den(env:List AV):E->AV
 |.v i=>env.getD i (.int 0)
 |.int n=>.int n
 |.bool b=>.bool b
 |.str s=>.raw (ar s)
 |.oint k n=>.raw (.int k n)
 |.ii o a b=>.int (o.f (den env a).i (den env b).i)
 |.cmp o a b=>.bool (o.f (den env a).i (den env b).i)
 |.not a=>.bool (!(den env a).b)
 |.beq a b=>.bool ((den env a).b==(den env b).b)
 |.and a b=>.bool ((den env a).b&&(den env b).b)
 |.seq a b=>.bool ((den env a).s==(den env b).s)
 |.len l=>.int (den env l).l.length
 |.slen s=>.int (den env s).s.length
 |.cell l i k=>((den env l).l.getD (den env i).i.toNat []).getD k (.int 0)
 |.rnil=>.agg []
 |.rcons x xs=>.agg (den env x::(den env xs).g)
 |.lnil=>.sl .nil []
 |.snoc l r=>.sl .nil ((den env l).l++[(den env r).g])
 |.app l m=>.sl .nil ((den env l).l++(den env m).l)
 |.take l n=>.sl .nil ((den env l).l.take (den env n).i.toNat)
 |.drop l n=>.sl .nil ((den env l).l.drop (den env n).i.toNat)
 |.set l i k x=>.sl .nil ((den env l).l.modify (den env i).i.toNat (fun r=>r.set k (den env x)))
 |.rep n r=>.sl .nil (Nt (den env n).i.toNat (den env r).g)
 |.typed t l=>.sl t (den env l).l
 |.cpy l m=>.sl .nil ((den env m).l.take (den env l).l.length++(den env l).l.drop (den env m).l.length)
 |.co t e=>Sx.co t (den env e)
 |.kin k e=>.raw (.int k (k.wrap (den env e).num))
 |.kout e=>.int (IntKind.i64.wrap (den env e).num)
 |.kop o k a b=>.raw (.int k (aa o k (den env a).num (den env b).num))
 |.kcmp o a b=>.bool (o.f (den env a).num (den env b).num)
 |.mget l k=>.int (cb (den env k).g (den env l).l)
 |.mhas l k=>.bool (jH (den env k).g (den env l).l)
 |.mput l k x=>.sl .nil (eA (den env k).g (den env x) (den env l).l)
 |.scat a b=>.raw (ar ((den env a).s++(den env b).s))
 |.sidx s i=>.raw (.int .u8 (qI (den env s).s (den env i).i))
 |.sofb l=>.raw (ar (bytesOf (den env l).l))
 |.bofs s=>.sl (.cons (.num .u8) .nil) (au (den env s).s)
def zr:E->Option Int
 |.int n=>some n
 |.oint _ n=>some n
 |_=>none
def E.kin'(k:IntKind)(e:E):E:=
 match zr e with
 |some n=>.oint k (k.wrap n)
 |none=>.kin k e
def E.kop'(o:BinOp)(k:IntKind)(a b:E):E:=
 match zr a,zr b with
 |some x,some y=>.oint k (aa o k x y)
 |_,_=>.kop o k a b
def E.kcmp'(o:COp)(a b:E):E:=
 match zr a,zr b with
 |some x,some y=>.bool (o.f x y)
 |_,_=>.kcmp o a b
theorem ru{env:List AV}{e:E}{n:Int}(h:zr e=some n):(den env e).num=n:=by
 unfold zr at h;split at h<;>cases h<;>rfl
theorem Lc{env:List AV}(k:IntKind)(e:E):den env (E.kin' k e)=den env (.kin k e):=by
 unfold E.kin';split
 ·rename_i n h;show AV.raw _=AV.raw _;rw[ru h]
 ·rfl
theorem pS{env:List AV}(o:BinOp)(k:IntKind)(a b:E):den env (E.kop' o k a b)=den env (.kop o k a b):=by
 unfold E.kop';split
 ·rename_i x y h1 h2;show AV.raw _=AV.raw _;rw[ru h1,ru h2]
 ·rfl
theorem zq{env:List AV}(o:COp)(a b:E):den env (E.kcmp' o a b)=den env (.kcmp o a b):=by
 unfold E.kcmp';split
 ·rename_i x y h1 h2;show AV.bool _=AV.bool _;rw[ru h1,ru h2]
 ·rfl
def E.sc(n:Nat):E->Bool
 |.v i=>decide (i<n)
 |.ii _ a b|.cmp _ a b|.beq a b|.and a b|.seq a b|.rcons a b|.snoc a b|.app a b|.take a b|.drop a b|.rep a b|.cpy a b=>a.sc n&&b.sc n
 |.not a|.len a|.slen a|.typed _ a|.co _ a|.kin _ a|.kout a|.sofb a|.bofs a=>a.sc n
 |.kop _ _ a b|.kcmp _ a b|.mget a b|.mhas a b|.scat a b|.sidx a b=>a.sc n&&b.sc n
 |.mput l k x=>l.sc n&&k.sc n&&x.sc n
 |.cell l i _=>l.sc n&&i.sc n
 |.set l i _ x=>l.sc n&&i.sc n&&x.sc n
 |_=>true
def E.ii'(o:IOp)(a b:E):E:=
 match a,b with
 |.int x,.int y=>.int (o.f x y)
 |a,b=>.ii o a b
def E.cmp'(o:COp)(a b:E):E:=
 match a,b with
 |.int x,.int y=>.bool (o.f x y)
 |a,b=>.cmp o a b
def E.not':E->E
 |.bool b=>.bool !b
 |.not a=>.beq a (.bool true)
 |a=>.not a
def E.and'(a b:E):E:=
 match a,b with
 |.bool true,b=>b
 |.bool false,_=>.bool false
 |.cmp o x y,.bool true=>.cmp o x y
 |.beq x y,.bool true=>.beq x y
 |a,.bool true=>.beq a (.bool true)
 |a,b=>.and a b
def E.len':E->E
 |.lnil=>.int 0
 |.snoc l _=>.ii' .add l.len' (.int 1)
 |.typed _ l=>l.len'
 |.rep (.int n) _=>if 0<=n then .int n else .len (.lnil)
 |.set l _ _ _=>l.len'
 |.cpy l _=>l.len'
 |l=>.len l
def xJ:E->Nat->Option E
 |.rcons x _,0=>some x
 |.rcons _ xs,k+1=>xJ xs k
 |_,_=>none
def jm:E->Option (List E)
 |.lnil=>some []
 |.snoc l r=>(jm l).map (r::·)
 |.typed _ l=>jm l
 |_=>none
def E.cell'(l i:E)(k:Nat):E:=
 match i,jm l with
 |.int n,some rs=>if 0<=n then(match (rs.reverse[n.toNat]?).bind (xJ · k)with|some x=>x|none=>.cell l i k)else .cell l i k
 |_,_=>.cell l i k
def gQ:E->Option IntKind
 |.oint k _|.kin k _|.kop _ k _ _|.co (.num k) _=>some k
 |.sidx _ _=>some .u8
 |_=>none
def dV:E->Bool
 |.str _|.co .str _|.scat _ _|.sofb _=>true
 |_=>false
def AB(e:E):Option Ty:=
 match gQ e with
 |some k=>some (.num k)
 |none=>if dV e then some .str else none
theorem eR{env:List AV}{e:E}{k:IntKind}(h:gQ e=some k):den env e=.raw (.int k (den env e).num):=by
 cases e with
 |oint k n=>cases h;rfl
 |kin k n=>cases h;rfl
 |kop o k a b=>cases h;rfl
 |sidx a b=>cases h;rfl
 |co t a=>cases t<;>first|(cases h;rfl)|cases h
 |_=>cases h
theorem jq{env:List AV}{e:E}(h:dV e=true):den env e=.raw (ar (den env e).s):=by
 cases e with
 |str s=>rfl
 |scat a b=>rfl
 |sofb a=>rfl
 |co t a=>cases t<;>first|rfl|cases h
 |_=>cases h
theorem KD{env:List AV}{e:E}{t:Ty}(h:AB e=some t):(den env e).ty=t:=by
 unfold AB at h;split at h
 ·cases h;rename_i k hk;rw[eR hk];rfl
 ·split at h
  ·cases h;rename_i hs;rw[jq hs];rfl
  ·cases h
def E.as(t:Ty)(e:E):E:=
 match e with
 |.cell l i k=>(match t with|.int=>.co .int (.cell l i k)|.bool=>.co .bool (.cell l i k)|.raw=>.co .raw (.cell l i k)|.num a=>.co (.num a) (.cell l i k)|.str=>.co .str (.cell l i k)|_=>.cell l i k)
 |e=>e
theorem tK{env:List AV}{t:Ty}{e:E}(h:(den env e).ty=t):den env (e.as t)=den env e:=by
 unfold E.as;split
 ·split<;>first|rfl|exact Ax h
 ·rfl
def E.inr(x:E):E:=.and' (.cmp' .le (.int (-9223372036854775808)) x) (.cmp' .le x (.int 9223372036854775807))
inductive SV where
 |any|vi (e:E)|vb (e:E)|vr (e:E)|vs (t:Ty) (e:E)
 |ptr (b off:Nat)|eptr (t:Ty) (l i:E) (k:Nat)|row (b:Nat)|rptr (b:Nat) (t:Ty) (i:E) (k:Nat)|nilsl
 |agg (xs:SV)|tup (xs:SV)|nil|cons (x xs:SV)|fn (f:Nat) (fs xs:SV)
 |yld (b:Nat)|nilfn|map (b:Nat)|iface (t:Nat) (x:SV)|nilif|nilptr|nilmap|rtail (b:Nat) (t:Ty) (i:E)|csl (b n:Nat)|asl (b off n:Nat)
 deriving DecidableEq
noncomputable section
def hO{α:Type}(d:α)(l:List α)(i:Nat):α:=Nm (motive:=fun _=>Nat->α) (fun _=>d) (fun x _ ih i=>N4 (motive:=fun _=>α) x (fun j _=>ih j) i) l i
theorem jL{α:Type}(d:α)(l:List α)(i:Nat):hO d l i=l.getD i d:=by
 induction l generalizing i with
 |nil=>rfl
 |cons x l ih=>
  cases i with
  |zero=>rfl
  |succ i=>simpa[hO]using ih i
def mx(a b:Nat):Nat:=Nn (motive:=fun _=>Nat) a b (NV a b)
theorem tM(a b:Nat):a<=mx a b/\b<=mx a b/\(mx a b=a\/mx a b=b):=by
 unfold mx;cases h:NV a b with
 | true => have:a<=b:=by rw[NG]at h;exact h
           exact⟨this,Nr _,.inr rfl⟩
 |false=>
  have:¬a<=b:=fun hh=>by rw[<-NG,h]at hh;cases hh
  exact⟨Nr _,by show b<=a;omega,.inl rfl⟩
structure Ov (α:Type) where
 base:List (List α)
 ov:List (Nat×α)
 len:Nat
def Ov.low{α:Type}(d:α)(base:List (List α))(t:Nat):α:=hO d (hO [] base (ND t 8)) (Ny t 8)
def Ov.get{α:Type}(d:α)(r:Ov α)(t:Nat):α:=
 Nn (motive:=fun _=>α) d (Nm (motive:=fun _=>α) (Ov.low d r.base t) (fun x _ ih=>Nn (motive:=fun _=>α) ih x.2 (Nd x.1 t)) r.ov) (Na t r.len)
def Ov.put{α:Type}(r:Ov α)(t:Nat)(x:α):Ov α:={ r with ov:=(t,x)::r.ov }
def Ov.set{α:Type}(r:Ov α)(t:Nat)(x:α):Ov α:={ r with ov:=(t,x)::r.ov,len:=mx r.len (t+1) }
def Ov.list{α:Type}(d:α)(r:Ov α):List α:=(Ng r.len).map (r.get d)
def Ov.of{α:Type}(l:List α)(n:Nat):Ov α:=⟨[],l.zipIdx.map fun x=>(x.2,x.1),mx l.length n⟩
def Ov.fn{α:Type}(n:Nat)(g:Nat->α):Ov α:=⟨(Ng (ND (n+7) 8)).map fun j=>[g (8*j),g (8*j+1),g (8*j+2),g (8*j+3),g (8*j+4),g (8*j+5),g (8*j+6),g (8*j+7)],[],n⟩
theorem pU{a b:Nat}(h:a<b):Na a b=true:=by rw[Na,NG];exact h
theorem Mr{a b:Nat}(h:b<=a):Na a b=false:=by
 cases e:Na a b with
 |false=>rfl
 |true=>
  have:a+1<=b:=by rw[Na,NG]at e;exact e
  omega
theorem ga{a b:Nat}(h:Na a b=true):a<b:=by rw[Na,NG]at h;exact h
theorem Ov.get_out{α:Type}{d:α}{r:Ov α}{t:Nat}(h:r.len<=t):r.get d t=d:=by
 have:Na t r.len=false:=Mr h
 simp only[Ov.get,this]
theorem Ov.get_put{α:Type}{d:α}{r:Ov α}{t:Nat}{x:α}(h:t<r.len)(i:Nat):(r.put t x).get d i=if i=t then x else r.get d i:=by
 by_cases e:i=t
 ·subst e
  have:Na i r.len=true:=pU (by omega)
  simp only[Ov.get,Ov.put,this,if_pos,NH]
 ·have:Nd t i=false:=by rw[<-NA,Nz];omega
  simp only[Ov.get,Ov.put,this,if_neg e]
theorem Ov.get_set{α:Type}{d:α}{r:Ov α}{t:Nat}{x:α}(h:∀i,r.len<=i->i<t->r.get d i=(r.set t x).get d i)(i:Nat):(r.set t x).get d i=if i=t then x else r.get d i:=by
 by_cases e:i=t
 ·subst e
  have:Na i (mx r.len (i+1))=true:=pU (by have:=tM r.len (i+1);omega)
  simp only[Ov.get,Ov.set,this,if_pos,NH]
 ·rw[if_neg e]
  by_cases hl:r.len<=i
  ·by_cases ht:i<t
   ·exact(h i hl ht).symm
   ·rw[Ov.get_out hl,Ov.get_out]
    show mx r.len (t+1)<=i
    have:=tM r.len (t+1);omega
  ·have h1:Na i r.len=true:=pU (by omega)
   have h2:Na i (mx r.len (t+1))=true:=pU (by have:=tM r.len (t+1);omega)
   have h3:Nd t i=false:=by rw[<-NA,Nz];omega
   simp only[Ov.get,Ov.set,h1,h2,h3]
theorem Ov.get_fn{α:Type}{d:α}{n:Nat}{g:Nat->α}{i:Nat}(h:i<n):(Ov.fn n g).get d i=g i:=by
 have h1:Na i n=true:=pU h
 have h2:(Ov.fn n g).get d i=Ov.low d (Ov.fn n g).base i:=by
  show Nn (motive:=fun _=>α) d _ (Na i n)=_
  rw[h1];rfl
 rw[h2];have h3:i / 8<(n+7) / 8:=by omega
 have h4:i % 8<8:=Nat.mod_lt _ (by decide)
 have h5:8*(i / 8)+i % 8=i:=NK i 8
 show hO d (hO [] _ (i / 8)) (i % 8)=_
 rw[jL [],Nx];show hO d ((((Ng ((n+7) / 8)).map fun j=>[g (8*j),g (8*j+1),g (8*j+2),g (8*j+3),g (8*j+4),g (8*j+5),g (8*j+6),g (8*j+7)])[i / 8]?).getD []) (i % 8)=_
 rw[Nb,List.getElem?_range h3];simp only[NL,NX];rw[jL,Nx];conv=>rhs;rw[<-h5]
 generalize i / 8=q at *
 generalize i % 8=m at *
 have:m=0\/m=1\/m=2\/m=3\/m=4\/m=5\/m=6\/m=7:=by omega
 rcases this with rfl|rfl|rfl|rfl|rfl|rfl|rfl|rfl<;>rfl
theorem Ov.get_of{α:Type}{d:α}{l:List α}{n i:Nat}:(Ov.of l n).get d i=l.getD i d:=by
 by_cases h:i<mx l.length n
 ·have h1:Na i (mx l.length n)=true:=pU h
  have h2:(Ov.of l n).get d i=Nm (motive:=fun _=>α) (Ov.low d [] i) (fun x _ ih=>Nn (motive:=fun _=>α) ih x.2 (Nd x.1 i)) (l.zipIdx.map fun x=>(x.2,x.1)):=by
   show Nn (motive:=fun _=>α) d _ (Na i (mx l.length n))=_
   rw[h1];rfl
  rw[h2];have key:∀(l:List α) (k:Nat),Nm (motive:=fun _=>α) (Ov.low d [] i) (fun x _ ih=>Nn (motive:=fun _=>α) ih x.2 (Nd x.1 i)) ((l.zipIdx k).map fun x=>(x.2,x.1))=if k<=i then l.getD (i-k) d else d:=by
   intro l;induction l with
   |nil=>intro k;simp[Ov.low,hO]
   | cons x l ih=>
    intro k;rw[List.zipIdx_cons,List.map_cons];show Nn (motive:=fun _=>α) (Nm (motive:=fun _=>α) (Ov.low d [] i) (fun x _ ih=>Nn (motive:=fun _=>α) ih x.2 (Nd x.1 i)) ((l.zipIdx (k+1)).map fun x=>(x.2,x.1))) x (Nd k i)=_
    rw[ih (k+1)];by_cases e:k=i
    ·subst e;simp[NH]
    ·have:Nd k i=false:=by rw[<-NA,Nz];exact e
     rw[this];by_cases hk:k+1<=i
     ·simp only[if_pos hk,if_pos (show k<=i by omega)]
      rw[show i-k=(i-(k+1))+1 by omega];rfl
     ·simp only[if_neg hk,if_neg (show ¬k<=i by omega)]
  have:=key l 0
  simpa using this
 ·rw[Ov.get_out (show mx l.length n<=i by omega)]
  have:=tM l.length n
  rw[Nx,NO (by omega)];rfl
def we{α β:Type}(d:α)(f:α->(α->β)->β)(l:List α)(i:Nat)(k:List α->β):β:=
 Nm (motive:=fun _=>Nat->(List α->β)->β)
  (fun i k=>N4 (motive:=fun _=>(List α->β)->β) (fun k=>f d fun y=>k [y]) (fun _ ih k=>ih fun l=>k (d::l)) i k)
  (fun x l ih i k=>N4 (motive:=fun _=>β) (f x fun y=>k (y::l)) (fun j _=>ih j fun l=>k (x::l)) i) l i k
theorem I4{α β:Type}{d:α}{f:α->(α->β)->β}{g:α->α}(hf:∀x k,f x k=k (g x))(l:List α)(i:Nat)(k:List α->β):∃l',we d f l i k=k l'/\∀j,l'.getD j d=if j=i then g (l.getD i d)else l.getD j d:=by
 induction l generalizing i k with
 | nil=>
  unfold we;simp only
  induction i generalizing k with
  |zero=>
   refine⟨[g d],hf _ _,fun j=>?_⟩
   cases j with
   |zero=>rfl
   |succ j=>simp
  |succ i ih=>
   obtain⟨l',h1,h2⟩:=ih (fun l=>k (d::l))
   refine⟨d::l',h1,fun j=>?_⟩
   cases j with
   |zero=>simp
   |succ j=>have:=h2 j;simp at this⊢;exact this
 | cons x l ih=>
  cases i with
  |zero=>
   refine⟨g x::l,hf _ _,fun j=>?_⟩
   cases j with
   |zero=>rfl
   |succ j=>simp
  |succ i=>
   obtain⟨l',h1,h2⟩:=ih i (fun l=>k (x::l))
   refine⟨x::l',h1,fun j=>?_⟩
   cases j with
   |zero=>simp
   |succ j=>have:=h2 j;simp at this⊢;exact this
def HR{α β:Type}(d x:α)(b:List (List α))(t:Nat)(k:List (List α)->β):β:=
 we [] (fun c k=>we d (fun _ k=>k x) c (Ny t 8) k) b (ND t 8) k
theorem IP{α β:Type}{d x:α}(b:List (List α))(t:Nat)(k:List (List α)->β):∃b',HR d x b t k=k b'/\∀j,Ov.low d b' j=if j=t then x else Ov.low d b j:=by
 have key:∀c:List α,∃c':List α,(∀k':List α->β,we d (fun _ k=>k x) c (Ny t 8) k'=k' c')/\∀j,c'.getD j d=if j=Ny t 8 then x else c.getD j d:=by
  intro c;have ind:∀(l:List α) (i:Nat),∃l':List α,(∀k':List α->β,we d (fun _ k=>k x) l i k'=k' l')/\∀j,l'.getD j d=if j=i then x else l.getD j d:=by
   intro l;induction l with
   | nil=>
    intro i;induction i with
    |zero=>
     refine⟨[x],fun _=>rfl,fun j=>?_⟩
     cases j with
     |zero=>rfl
     |succ j=>simp
    |succ i ih=>
     obtain⟨l',h1,h2⟩:=ih;refine⟨d::l',fun k'=>h1 (fun l=>k' (d::l)),fun j=>?_⟩
     cases j with
     |zero=>simp
     |succ j=>have:=h2 j;simp at this⊢;exact this
   | cons y l ih=>
    intro i;cases i with
    |zero=>
     refine⟨x::l,fun _=>rfl,fun j=>?_⟩
     cases j with
     |zero=>rfl
     |succ j=>simp
    |succ i=>
     obtain⟨l',h1,h2⟩:=ih i;refine⟨y::l',fun k'=>h1 (fun l=>k' (y::l)),fun j=>?_⟩
     cases j with
     |zero=>simp
     |succ j=>have:=h2 j;simp at this⊢;exact this
  exact ind c _
 have hch:∃g:List α->List α,∀c,(∀k':List α->β,we d (fun _ k=>k x) c (Ny t 8) k'=k' (g c))/\∀j,(g c).getD j d=if j=Ny t 8 then x else c.getD j d:=
  ⟨fun c=>(key c).choose,fun c=>(key c).choose_spec⟩
 obtain⟨g,hg⟩:=hch;obtain⟨b',h1,h2⟩:=I4 (d:=([]:List α)) (g:=g) (f:=fun c k=>we d (fun _ k=>k x) c (Ny t 8) k) (fun c k=>(hg c).1 k) b (ND t 8) k
 refine⟨b',h1,fun j=>?_⟩
 unfold Ov.low;rw[jL,jL,jL,jL,h2];have d1:8*(t / 8)+t % 8=t:=NK t 8
 have d2:8*(j / 8)+j % 8=j:=NK j 8
 by_cases e:j=t
 ·subst e
  rw[if_pos rfl,if_pos rfl,(hg _).2,if_pos rfl]
 ·rw[if_neg e]
  by_cases e2:ND j 8=ND t 8
  ·rw[if_pos e2,(hg _).2,e2]
   have e3:¬Ny j 8=Ny t 8:=fun e3=>e (by
    have e2:j / 8=t / 8:=e2
    have e3:j % 8=t % 8:=e3
    omega)
   rw[if_neg e3]
  ·rw[if_neg e2]
def Ov.pack{α β:Type}(d:α)(r:Ov α)(k:Ov α->β):β:=
 Nn (motive:=fun _=>β) (k r) (Nm (motive:=fun _=>List (List α)->(List (List α)->β)->β) (fun b k=>k b) (fun x _ ih b k=>ih b fun b=>HR d x.2 b x.1 k) r.ov r.base fun b=>k ⟨b,[],r.len⟩)
  (Na 12 (Nm (motive:=fun _=>Nat) 0 (fun _ _ n=>n+1) r.ov))
theorem Ov.pack_spec{α β:Type}{d:α}(r:Ov α)(k:Ov α->β):∃r':Ov α,r.pack d k=k r'/\r'.len=r.len/\∀i,r'.get d i=r.get d i:=by
 unfold Ov.pack;cases Na 12 (Nm (motive:=fun _=>Nat) 0 (fun _ _ n=>n+1) r.ov)with
 |false=>exact⟨r,rfl,rfl,fun _=>rfl⟩
 | true=>
  obtain⟨base,ov,len⟩:=r;have key:∀(ov:List (Nat×α)) (b:List (List α)) (k:List (List α)->β),∃b',Nm (motive:=fun _=>List (List α)->(List (List α)->β)->β) (fun b k=>k b) (fun x _ ih b k=>ih b fun b=>HR d x.2 b x.1 k) ov b k=k b' ∧
    ∀i,Ov.low d b' i=Nm (motive:=fun _=>α) (Ov.low d b i) (fun x _ ih=>Nn (motive:=fun _=>α) ih x.2 (Nd x.1 i)) ov:=by
   intro ov;induction ov with
   |nil=>intro b k;exact⟨b,rfl,fun _=>rfl⟩
   | cons x ov ih=>
    intro b k;obtain⟨b1,h1,h2⟩:=ih b (fun b=>HR d x.2 b x.1 k)
    obtain⟨b2,h3,h4⟩:=IP (d:=d) (x:=x.2) b1 x.1 k
    refine⟨b2,h1.trans h3,fun i=>?_⟩
    rw[h4];show _=Nn (motive:=fun _=>α) (Nm (motive:=fun _=>α) (Ov.low d b i) (fun x _ ih=>Nn (motive:=fun _=>α) ih x.2 (Nd x.1 i)) ov) x.2 (Nd x.1 i)
    by_cases e:i=x.1
    ·subst e;rw[if_pos rfl,NH]
    ·have:Nd x.1 i=false:=by rw[<-NA,Nz];exact fun h=>e h.symm
     rw[if_neg e,this];exact h2 i
  obtain⟨b',h1,h2⟩:=key ov base (fun b=>k ⟨b,[],len⟩)
  refine⟨⟨b',[],len⟩,h1,rfl,fun i=>?_⟩
  unfold Ov.get;simp only
  cases Na i len with
  |false=>rfl
  |true=>exact h2 i
def Ov.all{α:Type}(r:Ov α)(f:α->Bool):Bool:=(r.base.all fun l=>l.all f)&&r.ov.all fun x=>f x.2
theorem Ov.all_spec{α:Type}{r:Ov α}{f:α->Bool}(h:r.all f=true){d:α}(hd:f d=true)(t:Nat):f (r.get d t)=true:=by
 obtain⟨base,ov,len⟩:=r;unfold Ov.all at h;simp only[M9,NY]at h;obtain⟨h1,h2⟩:=h;unfold Ov.get;simp only
 cases Na t len with
 |false=>exact hd
 | true=>
  simp only
  induction ov with
  | nil=>
   have hl:∀(l:List α) (i:Nat),(∀x∈l,f x=true)->f (hO d l i)=true:=fun l i hl=>by
    rw[jL,Nx];cases hb:l[i]? with
    |none=>exact hd
    |some x=>exact hl x (Nu hb)
   show f (hO d (hO [] base (ND t 8)) (Ny t 8))=true
   refine hl _ _ ?_
   rw[jL,Nx];cases hb:base[ND t 8]? with
   |none=>intro x hx;cases hx
   |some l=>exact h1 l (Nu hb)
  |cons y ov ih=>
   simp only
   cases Nd y.1 t with
   |true=>exact h2 y (NS ..)
   |false=>exact ih (fun x hx=>h2 x (NP _ hx))
def Ov.flat{α β:Type}(r:Ov α)(f:α->List β):List β:=(r.base.flatMap fun l=>l.flatMap f)++r.ov.flatMap fun x=>f x.2
theorem Ov.mem_flat{α β:Type}{r:Ov α}{f:α->List β}{d:α}{t:Nat}{b:β}(hd:f d=[])(h:b∈f (r.get d t)):b∈r.flat f:=by
 classical
 refine Decidable.byContradiction fun hn=>?_
 have:=Ov.all_spec (r:=r) (f:=fun x=>decide (b∉f x)) (d:=d) (by
  unfold Ov.all;simp only[M9,NY,decide_eq_true_eq];refine⟨fun l hl x hx hb=>hn ?_,fun x hx hb=>hn ?_⟩
  ·exact Nk _ (List.mem_flatMap.2 ⟨l,hl,List.mem_flatMap.2 ⟨x,hx,hb⟩⟩)
  ·exact Nl _ (List.mem_flatMap.2 ⟨x,hx,hb⟩)) (by simp[hd]) t
 simp at this
 exact this h
end
inductive Jmp where
 |none|ret|exit (id:Nat)
 deriving DecidableEq
def Jmp.code:Jmp->Option Code
 |.none=>Option.none
 |.ret=>some .ret
 |.exit id=>some (.exit id)
structure LoopI where
 fn:Nat
 rf:Ov SV
 params:Array Tmp
 assign:Code
 body:Code
inductive SB where
 |cells (ty:Nat) (xs:SV)|row (ety:Nat) (t:Ty) (l:E)|dead (l:E)|ice (ety:Nat) (t:Ty) (l:E)
 |loop (i:LoopI) (st:LoopState) (p:Jmp)|map (ks vs:SV)|amap (t:Ty) (l:E)|qrow (ety:Nat) (t:Ty) (l:E)
def SV.numOf:SV->Option (IntKind×E)
 |.vi e=>some (.i64,e)
 |.vr e=>(gQ e).map fun k=>(k,e)
 |_=>none
def SV.sc(n:Nat):SV->Bool
 |.vi e|.vb e|.vr e|.vs _ e=>e.sc n
 |.eptr _ l i _=>l.sc n&&i.sc n
 |.rptr _ _ i _|.rtail _ _ i=>i.sc n
 |.agg x|.tup x|.iface _ x=>x.sc n
 |.cons x y|.fn _ x y=>x.sc n&&y.sc n
 |_=>true
def SB.sc(n:Nat):SB->Bool
 |.cells _ x=>x.sc n
 |.row _ _ l|.dead l|.ice _ _ l|.amap _ l|.qrow _ _ l=>l.sc n
 |.loop i _ _=>i.rf.all (·.sc n)
 |.map x y=>x.sc n&&y.sc n
def aF:Option SB->Bool
 |some (.cells _ _)|some (.row _ _ _)|some (.loop _ _ _)|some (.map _ _)|some (.amap _ _)|some (.qrow _ _ _)=>true
 |_=>false
theorem bC{x:Option SB}(h:aF x=true):∃y,x=some y/\aF (some y)=true:=by
 cases x with
 |none=>cases h
 |some y=>exact⟨y,rfl,h⟩
def SV.names:SV->List Nat
 |.ptr b _|.row b|.rptr b _ _ _|.yld b|.map b|.rtail b _ _|.csl b _|.asl b _ _=>[b]
 |.agg x|.tup x|.iface _ x=>x.names
 |.cons x y|.fn _ x y=>x.names++y.names
 |_=>[]
noncomputable def SB.names:SB->List Nat
 |.cells _ x=>x.names
 |.loop i _ _=>(Ng i.rf.len).flatMap fun t=>(i.rf.get .any t).names
 |.map x y=>x.names++y.names
 |_=>[]
def SV.list:SV->List SV
 |.cons x y=>x::y.list
 |_=>[]
def SV.of:List SV->SV
 |[]=>.nil
 |x::l=>.cons x (SV.of l)
def SV.len:SV->Nat
 |.cons _ y=>y.len+1
 |_=>0
def SV.cut(x:SV)(off n:Nat):SV:=.of ((x.list.drop off).take n)
def SV.cells:SV->SV
 |.agg x=>x
 |x=>.cons x .nil
def SV.leaf:SV->Option (E×Ty)
 |.vi e=>some (e,.int)
 |.vb e=>some (e,.bool)
 |.vr e=>(AB e).map fun t=>(e,t)
 |.vs t e=>some (.typed t e,.sl t)
 |_=>none
def kL:SV->Ty->Option E
 |.nil,.nil=>some .rnil
 | .cons x xs,.cons t ts=>
  match x.leaf,kL xs ts with
  |some (e,u),some es=>if u=t then some (.rcons e es)else none
  |none,some es=>(match x,t with
   |.nilsl,.sl t=>some (.rcons (.typed t .lnil) es)
   |_,_=>none)
  |_,_=>none
 |_,_=>none
def eN(e:E):Ty->Option SV
 |.int=>some (.vi e)
 |.bool=>some (.vb e)
 |.raw=>some (.vr e)
 |.sl t=>some (.vs t e)
 |.num k=>some (.vr (if gQ e=some k then e else .co (.num k) e))
 |.str=>some (.vr (if dV e=true then e else .co .str e))
 |_=>none
def cellsOf(l i:E):Nat->List Ty->Option SV
 |_,[]=>some .nil
 |k,t::ts=>
  match eN ((E.cell' l i k).as t) t,cellsOf l i (k+1) ts with
  |some x,some xs=>some (.cons x xs)
  |_,_=>none
def Ty.one:Ty->Bool
 |.int|.bool|.raw|.sl _|.num _|.str=>true
 |_=>false
def Ty.leaves(t:Ty):Bool:=t.list.all Ty.one
section
variable (P:Program)
def flat:Nat->Nat->Option (List Ty)
 |0,_=>none
 |d+1,t=>
  match P.underlying t with
  |some .bool=>some [.bool]
  |some (.int .i64)=>some [.int]
  |some (.int k)=>some [.num k]
  |some .string=>some [.str]
  |some (.slice e)=>(flat d e).map fun l=>[.sl (l.foldr .cons .nil)]
  |some (.struct fs)=>fs.toList.foldr (fun f acc=>match flat d f.type,acc with|some a,some b=>some (a++b)|_,_=>none) (some [])
  |some (.array n e)=>(flat d e).map fun l=>(Nt n l).flatten
  |_=>none
def Mp(t:Nat):Option Ty:=(flat P 12 t).map fun l=>l.foldr .cons .nil
def aZ(t:Nat):Option (Nat×Ty):=
 match P.underlying t with
 |some (.slice e)=>(Mp P e).bind fun r=>if r.len=P.cellsOf e/\0<r.len/\0<P.bytesOf e/\r.leaves=true/\((P.info? e).bind (·.zero)).map (·.cells.size)=some r.len then some (e,r)else none
 |_=>none
def bE(t:Nat):Bool:=
 match P.underlying t with
 |some (.struct _)|some (.array _ _)=>true
 |_=>false
def eJ:Value->SV
 |.int .i64 n=>.vi (.int n)
 |.int k n=>.vr (.oint k n)
 |.bool b=>.vb (.bool b)
 |.string s=>.vr (.str s.data.toList)
 |.slice none 0 0=>.nilsl
 |.nilFunc=>.nilfn
 |.nilIface=>.nilif
 |.pointer none=>.nilptr
 |.map none=>.nilmap
 |_=>.any
def bX:Value->SV
 |.agg cs=>.agg (.of (cs.toList.map eJ))
 |v=>eJ v
def bM(t:Nat):Option SV:=((P.info? t).bind (·.zero)).map bX
end
inductive RS where
 |i|b|nk (k:IntKind)|st|row (ety:Nat) (t:Ty)|nil|cons (x xs:RS)|agg (xs:RS)|tup (xs:RS)
 deriving DecidableEq
inductive R where
 |i (n:Int)|b (x:Bool)|nk (k:IntKind) (m:Int)|st (l:List UInt8)|row (ety:Nat) (t:Ty) (l:List (List AV))|nil|cons (x xs:R)|agg (xs:R)|tup (xs:R)
inductive RE where
 |i (e:E)|b (e:E)|nk (k:IntKind) (e:E)|st (e:E)|row (ety:Nat) (t:Ty) (e:E)|nil|cons (x xs:RE)|agg (xs:RE)|tup (xs:RE)
 deriving DecidableEq
def R.shape:R->RS
 |.i _=>.i
 |.b _=>.b
 |.nk k _=>.nk k
 |.st _=>.st
 |.row e t _=>.row e t
 |.nil=>.nil
 |.cons x y=>.cons x.shape y.shape
 |.agg x=>.agg x.shape
 |.tup x=>.tup x.shape
def R.leaves:R->List AV
 |.i n=>[.int n]
 |.b x=>[.bool x]
 |.nk k m=>[.raw (.int k m)]
 |.st l=>[.raw (ar l)]
 |.row _ t l=>[.sl t l]
 |.nil=>[]
 |.cons x y=>x.leaves++y.leaves
 |.agg x|.tup x=>x.leaves
def RE.den(env:List AV):RE->R
 |.i e=>.i (Sx.den env e).i
 |.b e=>.b (Sx.den env e).b
 |.nk k e=>.nk k (Sx.den env e).num
 |.st e=>.st (Sx.den env e).s
 |.row a t e=>.row a t (Sx.den env e).l
 |.nil=>.nil
 |.cons x y=>.cons (x.den env) (y.den env)
 |.agg x=>.agg (x.den env)
 |.tup x=>.tup (x.den env)
def Ty.plain(t:Ty):Bool:=t.list.all fun s=>match s with|.int|.bool|.raw|.num _|.str=>true|_=>false
def given(e:Nat):Bool:=NV 1000000 e
def RS.given:RS->RS
 |.row e t=>.row (e+1000000) t
 |.cons x y=>.cons x.given y.given
 |.agg x=>.agg x.given
 |.tup x=>.tup x.given
 |x=>x
def RS.flat:RS->Bool
 |.row e t=> !Sx.given e&&t.plain
 |.cons x y=>x.flat&&y.flat
 |.agg x|.tup x=>x.flat
 |_=>true
def mkRes:RS->Nat->Nat->SV×List (Nat×Option SB)
 |.i,n,_=>(.vi (.v n),[])
 |.b,n,_=>(.vb (.v n),[])
 |.nk k,n,_=>(.vr (.co (.num k) (.v n)),[])
 |.st,n,_=>(.vr (.co .str (.v n)),[])
 |.row e t,n,m=>if given e then(.vs t (.v n),[])else(.row m,[(m,some (.row e t (.v n)))])
 |.nil,_,_=>(.nil,[])
 |.cons x y,n,m=>
  let a:=mkRes x n m
  let k:=RS.cnt x
  let b:=mkRes y (n+k.1) (m+k.2)
  (.cons a.1 b.1,a.2++b.2)
 |.agg x,n,m=>(.agg (mkRes x n m).1,(mkRes x n m).2)
 |.tup x,n,m=>(.tup (mkRes x n m).1,(mkRes x n m).2)
where
 RS.cnt:RS->Nat×Nat
 |.i|.b|.nk _|.st=>(1,0)
 |.row e _=>(1,if given e then 0 else 1)
 |.nil=>(0,0)
 |.cons x y=>((RS.cnt x).1+(RS.cnt y).1,(RS.cnt x).2+(RS.cnt y).2)
 |.agg x|.tup x=>RS.cnt x
section
variable (P:Program)
def RSs:List RS->RS
 |[]=>.nil
 |x::l=>.cons x (RSs l)
def tU:Nat->Nat->Option (List RS)
 |0,_=>none
 |d+1,t=>
  match P.underlying t with
  |some .bool=>some [.b]
  |some (.int .i64)=>some [.i]
  |some (.int k)=>some [.nk k]
  |some .string=>some [.st]
  |some (.slice _)=>(aZ P t).map fun x=>[.row x.1 x.2]
  |some (.struct fs)=>fs.toList.foldr (fun f acc=>match tU d f.type,acc with|some a,some b=>some (a++b)|_,_=>none) (some [])
  |some (.array n e)=>(tU d e).map fun l=>(Nt n l).flatten
  |_=>none
def Gp(t:Nat):Option RS:=(tU P 12 t).bind fun l=>if bE P t then some (.agg (RSs l))else match l with|[x]=>some x|_=>none
def KB(ts:List Nat):Option RS:=
 match ts with
 |[t]=>Gp P t
 |ts=>(ts.foldr (fun t acc=>match Gp P t,acc with|some a,some b=>some (RS.cons a b)|_,_=>none) (some .nil)).map .tup
def yX(g:Bool)(ts:List Nat):Option RS:=(KB P ts).map fun sh=>if g then sh.given else sh
end
inductive Out where
 |no (msg:String)
 |ok (needs:List E) (v:SV) (wr:List (Nat×Option SB))
 |br (c:E)
 |call (f:Nat) (args:E) (sh:RS) (wr:List (Nat×Option SB))
 |inl (f:Nat) (args:List SV)
 |yld (b:Nat) (args:List SV)
 |panic (v:Value)
section
variable (P:Program) (con:Nat->Bool) (own:Bool) (tr:E->Option Bool) (nm:Nat) (ev:Operand->SV) (bk:Nat->Option SB)
def SV.proper:SV->Bool
 |.nil=>true
 |.cons _ y=>y.proper
 |_=>false
def SV.one:SV->Bool
 |.vi _|.vb _|.vr _|.vs _ _|.ptr _ _|.eptr _ _ _ _|.row _|.rptr _ _ _ _|.nilsl|.fn _ _ _|.yld _|.nilfn|.map _|.iface _ _|.nilif|.nilptr|.nilmap|.csl _ _|.asl _ _ _=>true
 |_=>false
def SV.whole:SV->Bool
 |.agg _=>true
 |x=>x.one
def oN(xs:SV):Bool:=xs.list.all SV.one
def aG(e:E):List E:=match e with|.bool true=>[]|e=>[e]
def ck:SV->Option (Option Ty×E)
 |.vs t e=>some (some t,e)
 |.nilsl=>some (none,.lnil)
 |.row b=>(match bk b with
  |some (.row _ t l)=>some (some t,l)
  |some (.ice _ t l)=>some (some t,l)
  |_=>none)
 |_=>none
def lenOf:SV->Option (Option Ty×E)
 |.row b=>(match bk b with
  |some (.row _ t l)=>some (some t,l)
  |some (.ice _ t l)=>some (some t,l)
  |some (.dead l)=>some (none,l)
  |some (.qrow _ t l)=>some (some t,l)
  |_=>none)
 |x=>ck bk x
def nz:SV->SV
 |.row b=>(match bk b with
  |some (.ice _ t l)=>.vs t l
  |_=>.row b)
 |.agg x=>.agg (nz x)
 |.tup x=>.tup (nz x)
 |.cons x y=>.cons (nz x) (nz y)
 |x=>x
def aW:SV->List Nat
 |.row b=>(match bk b with
  |some (.row _ _ _)=>[b]
  |_=>[])
 |.agg x=>aW x
 |.cons x y=>aW x++aW y
 |_=>[]
def bq(bs:List Nat):List (Nat×Option SB):=
 bs.filterMap fun b=>match bk b with
  |some (.row _ t l)=>some (b,some (.ice 0 t l))
  |some (.qrow _ t l)=>some (b,some (.ice 0 t l))
  |_=>none
def qIn:SV->List Nat
 |.row b=>(match bk b with
  |some (.qrow _ _ _)=>[b]
  |_=>[])
 |_=>[]
def fD:List SV->List Ty->Option E
 |[],[]=>some .rnil
 | x::l,t::ts=>
  match (match x,t with
   |.vi e,.int=>some e
   |.vb e,.bool=>some e
   |.vr e,.num k=>if gQ e=some k then some e else none
   |.vr e,.str=>if dV e=true then some e else none
   |x,.sl t=>(match ck bk x with
    |some (some u,e)=>if u=t then some (E.typed t e)else none
    |some (none,e)=>some (E.typed t e)
    |none=>none)
   |_,_=>none),fD l ts with
  |some e,some es=>some (.rcons e es)
  |_,_=>none
 |_,_=>none
def xr(x:SV)(t:Nat):Option E:=
 match flat P 12 t with
 |none=>none
 |some ts=>if bE P t then(match x with|.agg xs=>fD bk xs.list ts|_=>none)else(match fD bk [x] ts with|some (.rcons e .rnil)=>some e|_=>none)
def iD:List SV->List Nat->Option E
 |[],[]=>some .rnil
 |x::l,t::ts=>(match xr P bk x t,iD l ts with|some e,some es=>some (.rcons e es)|_,_=>none)
 |_,_=>none
def aP(t:Nat):Bool:=(P.underlying t).isSome&&(P.info? t).isSome
def AL(xs:SV)(off t:Nat):Option SV:=
 if off+P.cellsOf t<=xs.len/\aP P t=true then(if bE P t then some (.agg (xs.cut off (P.cellsOf t)))else(match xs.cut off 1 with|.cons x .nil=>some x|_=>none))else none
def DL(f:Nat->SV->SV->Option E)(xs ys:SV):List Field->Option E
 |[]=>some (.bool true)
 | x::fs=>
  if x.name ≠ "_" then
   match AL P xs x.offset x.type,AL P ys x.offset x.type with
   |some a,some b=>(match f x.type a b,DL f xs ys fs with|some e,some es=>some (.and' e es)|_,_=>none)
   |_,_=>none else none
def qC:Nat->Nat->SV->SV->Option E
 |0,_,_,_=>none
 |d+1,t,x,y=>
  match P.underlying t,x,y with
  |some .bool,.vb a,.vb b=>some (.beq a b)
  |some (.int _),.vi a,.vi b=>some (.cmp' .eq a b)
  |some .string,.vr a,.vr b=>if dV a=true/\dV b=true then some (.seq a b)else none
  |some (.struct fs),.agg xs,.agg ys=>if P.stoodInHeld t then none else DL P (qC d) xs ys fs.toList
  |_,_,_=>none
def kV(s f:Nat):Option Nat:=
 match P.underlying s with
 |some (.struct fs)=>(fs[f]?).bind fun x=>if P.cellsOf x.type=0\/aP P x.type=false then none else some x.offset
 |_=>none
def Ca(s f:Nat):Option Nat:=
 match P.underlying s with
 |some (.struct fs)=>(fs[f]?).map fun x=>x.type
 |_=>none
def hY(o:IOp)(a b:E)(needs:List E)(rng:Bool):Out:=
 let r:=E.ii' o a b
 .ok (needs++(if rng then aG r.inr else[])) (.vi r) []
def dH(e:E):Out:=.ok [] (.vb e) []
def xl(op:BinOp)(t:Nat)(a b:SV):Out:=
 if P.eqGuardType P.depth t then .no "eq type" else
 match op,qC P 12 t a b with
 |.eql,some e=>dH e
 |.neq,some e=>dH (.not' e)
 |_,_=>.no "eq"
def tD(op:BinOp)(k:IntKind)(x:E)(k':IntKind)(y:E):Out:=
 match op with
 |.shl|.shr=>if k=.i64 then .no "shift" else .ok (aG (.kcmp' .le (.int 0) y)) (.vr (.kop' op k x y)) []
 |.add|.sub|.mul|.and|.or|.xor|.andNot=>if k=k'/\k≠.i64 then .ok [] (.vr (.kop' op k x y)) []else .no "kinds"
 |.quo|.rem=>if k=k'/\k≠.i64 then .ok (aG (.not' (.kcmp' .eq y (.int 0)))) (.vr (.kop' op k x y)) []else .no "kinds"
 |.eql=>if k=k' then .ok [] (.vb (.kcmp .eq x y)) []else .no "kinds"
 |.neq=>if k=k' then .ok [] (.vb (.not (.kcmp .eq x y))) []else .no "kinds"
 |.lss=>if k=k' then .ok [] (.vb (.kcmp .lt x y)) []else .no "kinds"
 |.leq=>if k=k' then .ok [] (.vb (.kcmp .le x y)) []else .no "kinds"
 |.gtr=>if k=k' then .ok [] (.vb (.kcmp .lt y x)) []else .no "kinds"
 |.geq=>if k=k' then .ok [] (.vb (.kcmp .le y x)) []else .no "kinds"
def ifT(t:Nat)(bare:Bool):Bool:=
 match P.underlying t with
 |some (.interface ms)=> !bare||ms.isEmpty
 |_=>false
def fnT(t:Nat):Bool:=
 match P.underlying t with
 |some (.func _ _ _)=>true
 |_=>false
def HH(t:Nat):SV->SV->Option Bool
 |.nilif,.nilif=>if ifT P t true then some true else none
 |.nilif,.iface _ _=>if ifT P t false then some false else none
 |.iface _ _,.nilif=>if ifT P t false then some false else none
 |.nilfn,.nilfn=>if fnT P t then some true else none
 |.nilfn,.fn _ _ _=>if fnT P t then some false else none
 |.fn _ _ _,.nilfn=>if fnT P t then some false else none
 |_,_=>none
def tw(op:BinOp)(r:Bool):Out:=
 match op with
 |.eql=>.ok [] (.vb (.bool r)) []
 |.neq=>.ok [] (.vb (.bool !r)) []
 |_=>.no "nil"
def tC(op:BinOp)(t:Nat)(a b:SV):Out:=
 match a,b with
 |.vi x,.vi y=>
  (match op with
  |.add=>hY .add x y [] true
  |.sub=>hY .sub x y [] true
  |.mul=>hY .mul x y [] true
  |.quo=>hY .quo x y (aG (.not' (.cmp' .eq y (.int 0)))) true
  |.rem=>hY .rem x y (aG (.not' (.cmp' .eq y (.int 0)))) false
  |.and=>hY .and x y [] false
  |.or=>hY .or x y [] false
  |.xor=>hY .xor x y [] false
  |.andNot=>hY .andNot x y [] false
  |.eql=>dH (.cmp' .eq x y)
  |.neq=>dH (.not' (.cmp' .eq x y))
  |.lss=>dH (.cmp' .lt x y)
  |.leq=>dH (.cmp' .le x y)
  |.gtr=>dH (.cmp' .lt y x)
  |.geq=>dH (.cmp' .le y x)
  |.shl=>.ok (aG (.cmp' .le (.int 0) y)) (.vi (.ii' .shl x y)) []
  |.shr=>.ok (aG (.cmp' .le (.int 0) y)) (.vi (.ii' .shr x y)) []
  )
 |.vb x,.vb y=>xl P op t (.vb x) (.vb y)
 |.agg x,.agg y=>xl P op t (.agg x) (.agg y)
 |a,b=>
  (match HH P t a b with
  |some r=>tw op r
  |none=>
  (match a.numOf,b.numOf with
  |some (k,x),some (k',y)=>tD op k x k' y
  |_,_=>.no "binOp"))
def loadOut(t:Nat)(a:SV):Out:=
 let s:=P.cellsOf t
 if aP P t=false then .no "load type" else
 match a with
 | .ptr b off=>
  (match bk b with
  |some (.cells _ xs)=>
   if off+s<=xs.len then(if bE P t then .ok [] (.agg (xs.cut off s)) []else(match xs.cut off 1 with|.cons x .nil=>.ok [] x []|_=>.no "load"))else .no "load off"
  |_=>.no "load block")
 |.eptr ty l i k=>el ty l i k s
 | .rptr b ty i k=>
  (match bk b with
  | some (.row a ty' l)=>
   if con (a+2000000)=true/\bE P t=true then
    (match i with
    |.int c=>if ty'=ty/\ty=.cons .int .nil/\k=0/\0<=c then .ok (aG (.cmp' .le (.int (c+s)) l.len')) (.agg (.of ((Ng s).map fun(q:Nat)=>SV.vi ((E.cell' l (.int (c+(q:Int))) 0).as .int)))) []else .no "load an array"
    |_=>.no "load an array")else if ty'=ty then el ty l i k s else .no "load rows type"
  |some (.qrow _ ty' l)=>if ty'=ty then el ty l i k s else .no "load rows type"
  |_=>.no "load row")
 |_=>.no "load"
where
 el (ty:Ty) (l i:E) (k s:Nat):Out:=
  if bE P t then(match cellsOf l i k ((ty.list.drop k).take s)with|some xs=>if xs.len=s then .ok [] (.agg xs) []else .no "load size" | none=>.no "load sort")else(match (ty.list[k]?).bind (fun s=>eN ((E.cell' l i k).as s) s)with|some x=>.ok [] x []|none=>.no "load sort")
def gW(l i:E):Nat->List SV->List Ty->Option E
 |_,[],_=>some l
 |k,x::xs,ts=>
  match x.leaf,ts[k]? with
  |some (e,u),some t=>if u=t then(match gW (.set l i k e) i (k+1) xs ts with|some r=>some r|none=>none)else none
  |_,_=>none
def kY(t:Nat)(a x:SV):Out:=
 let cs:=x.cells
 if cs.len≠P.cellsOf t\/aP P t=false\/oN cs=false\/x.whole=false then .no "store size" else
 match a with
 |.ptr b off=>
  (match bk b with
  |some (.cells ty xs)=>if off+cs.len<=xs.len then .ok [] .any [(b,some (.cells ty (.of (xs.list.take off++cs.list++xs.list.drop (off+cs.len)))))]else .no "store off"
  |_=>.no "store block")
 | .rptr b ty i k=>
  (match bk b with
  |some (.row e ty' l)=>
   if ty'=ty then(match gW l i k cs.list ty.list with|some l'=>.ok [] .any [(b,some (.row e ty l'))]|none=>.no "store sort")else .no "store rows type"
  |_=>.no "store row")
 |_=>.no "store"
def gz(place:Nat->Option (Nat×Nat))(cells:List SV):List (Nat×SV)->Option (List SV)
 |[]=>some cells
 |(i,v)::rest=>
  match place i with
  |none=>none
  |some (off,size)=>if v.cells.len≠size\/off+size>cells.length\/v.whole=false then none else gz place (cells.take off++v.cells.list++cells.drop (off+size)) rest
def zH(t:Nat):Option (Nat->Option (Nat×Nat)):=
 match P.underlying t with
 |some (.struct fs)=>(fs.toList.mapM (fun f=>(P.info? f.type).map fun i=>(f.offset,i.size))).map fun places i=>places.toArray[i]?
 |some (.array _ e)=>(P.info? e).map fun ie i=>some (i*ie.size,ie.size)
 |_=>none
def gE(n:Nat)(row:Ty):Nat->List SV->Option E
 |0,[]=>some .lnil
 |k+1,cs=>(match gE n row k (cs.take (k*n)),kL (.of (cs.drop (k*n))) row with|some l,some r=>some (.snoc l r)|_,_=>none)
 |_,_=>none
def dj(lo hi len:E):List E:=aG (.cmp' .le (.int 0) lo)++aG (.cmp' .le lo hi)++aG (.cmp' .le hi len)
def cV(x:Option Operand)(d:E):Option E:=
 match x with
 |none=>some d
 |some o=>(match ev o with|.vi e=>some e|_=>none)
def bR(l:E):E->E
 |.lnil=>l
 |.snoc m r=>.snoc (bR l m) r
 |m=>(match l with|.lnil=>m|l=>.app l m)
def cZ(l:E)(bytes:Nat):List E:=aG (.cmp' .le (.ii' .mul l.len' (.int bytes)) (.int 140737488355328))
def iw(o:Oper)(b:Builtin)(args:List SV)(tys:List Nat):Out:=
 match b,args,tys with
 |.len,[.csl _ n],[t]=>
  (match P.underlying t with
  |some (.slice _)=>.ok [] (.vi (.int n)) []
  |_=>.no "len")
 |.len,[x],[t]=>
  (match P.underlying t,lenOf bk x with
  |some (.slice _),some (_,e)=>.ok [] (.vi e.len') []
  |_,_=>.no "len")
 | .copy,[.row d,x],[t,_]=>
  (match aZ P t with
  |none=>.no "copy type"
  | some (ety,row)=>
   match ck bk x,bk d with
   |some (u,m),some (.row e row' l)=>
    if u.all (·=row)=true/\e=ety/\row'=row/\x≠.row d/\row.len=1 then .ok [] (.vi (.ii' .min l.len' m.len')) [(d,some (.row e row (.cpy l m)))]else .no "copy rows type"
   |_,_=>.no "copy rows")
 |.min,[.vi x,.vi y],_=>.ok [] (.vi (.ii' .min x y)) []
 |.max,[.vi x,.vi y],_=>.ok [] (.vi (.ii' .max x y)) []
 | .append,[s,x],[t,t']=>
  if t≠t' then .no "append types" else
  (match aZ P t with
  |none=>.no "append type"
  | some (ety,row)=>
   match ck bk x with
   |none=>.no "append source"
   | some (u,m)=>
    if u.all (·=row)=true then
     (match s with
     |.nilsl=>let l:=bR .lnil m;.ok (cZ l (P.bytesOf ety)) (.row nm) [(nm,some (.row ety row l))]
     |.row d=>
      (match bk d with
      |some (.row e row' l0)=>if e=ety/\row'=row/\o.dst.isSome then let l:=bR l0 m;.ok (cZ l (P.bytesOf ety)) (.row nm) [(d,some (.dead l0)),(nm,some (.row ety row l))]else .no "append rows type"
      |some (.qrow e row' l0)=>if e=ety/\row'=row/\o.dst.isSome then let l:=bR l0 m;.ok (cZ l (P.bytesOf ety)) (.row nm) [(d,some (.dead l0)),(nm,some (.qrow ety row l))]else .no "append rows type"
      |_=>.no "append row")
     |_=>.no "append destination")else .no "append sources type")
 | .clear,[.rtail d ty i],[t]=>
  (match aZ P t,bk d with
  |some (ety,row),some (.row e row' l)=>
   (match bM P ety with
   |some z=>(match kL z.cells row with|some r=>if e=ety/\row'=row/\ty=row/\z.whole=true/\z.cells.len=row.len then .ok [] (.tup .nil) [(d,some (.row ety row (.app (.take l i) (.rep (.ii' .sub l.len' i) r))))]else .no "clear zero" | none=>.no "clear zero")
   |none=>.no "clear zero")
  |_,_=>.no "clear")
 |_,_,_=>.no "builtin"
def ua(t:Nat):Bool:=match P.underlying t with|some (.int .i64)=>true|_=>false
def nL(t:Nat):SV->Bool
 |.vi _=>ua P t
 | .agg (.cons (.vi _) (.cons (.vi _) .nil))=>
  (match P.underlying t with
  |some (.struct fs)=>(match fs.toList with
   |[f,g]=> !P.stoodInHeld t&&f.name != "_" && g.name != "_" && f.offset==0&&g.offset==1&&ua P f.type&&ua P g.type&&P.cellsOf f.type==1&&P.cellsOf g.type==1
   |_=>false)
  |_=>false)
 |_=>false
def isZ:SV->Bool
 |.vi (.int 0)=>true
 |_=>false
def gr:SV->Option (E×Ty)
 |.vi x=>some (.rcons x .rnil,.cons .int (.cons .int .nil))
 |.agg (.cons (.vi x) (.cons (.vi y) .nil))=>some (.rcons x (.rcons y .rnil),.cons .int (.cons .int (.cons .int .nil)))
 |_=>none
def MO(t:Nat):Option Ty:=
 match P.underlying t with
 |some (.map kt et)=>if ua P et then(if ua P kt then some (.cons .int (.cons .int .nil))else some (.cons .int (.cons .int (.cons .int .nil))))else
  (match P.underlying kt,P.underlying et with
  |some .string,some (.int k)=>some (.cons .str (.cons (.num k) .nil))
  |_,_=>none)
 |_=>none
def pK(t:Nat):Out:=
 if con (t+3000000)=true then(match MO P t with|some r=>.ok [] (.map nm) [(nm,some (.amap r .lnil))]|none=>.no "makeMap")else .ok [] (.map nm) [(nm,some (.map .nil .nil))]
def mB(b:Nat)(r:Ty)(l:E)(kt:Nat)(k v:SV):Out:=
 match gr k,v with
 |some (ke,r'),.vi e=>if nL P kt k=true/\r'=r then .ok [] .any [(b,some (.amap r (.mput l ke e)))]else .no "insert key"
 |_,_=>.no "insert key"
def ld(r:Ty)(l:E)(kt:Nat)(ix:SV)(ok:Bool):Out:=
 match gr ix with
 |some (ke,r')=>if nL P kt ix=true/\r'=r then .ok [] (if ok then .tup (.cons (.vi (.mget l ke)) (.cons (.vb (.mhas l ke)) .nil))else .vi (.mget l ke)) []else .no "lookup key"
 |none=>.no "lookup key"
def jp(t:Nat)(m k v:SV):Out:=
 match m,P.underlying t with
 | .map b,some (.map kt _)=>
  (match bk b with
  |some (.amap r l)=>mB P b r l kt k v
  |some (.map ks vs)=>
   if nL P kt k&&ks.list.all (nL P kt)&&ks.list.all (fun k'=>qC P 12 kt k k'==some (.bool false))&&ks.proper&&vs.proper&&ks.len==vs.len then .ok [] .any [(b,some (.map (.of (ks.list++[k])) (.of (vs.list++[v]))))]else .no "insert key"
  |_=>.no "insert map")
 |_,_=>.no "insert"
def jD(kt:Nat)(z ix:SV)(ok:Bool):List SV->List SV->Out
 |[],[]=>.ok [] (if ok then .tup (.cons z (.cons (.vb (.bool false)) .nil))else z) []
 | k::ks,v::vs=>
  (match qC P 12 kt ix k with
  |none=>.no "lookup key"
  |some e=>(match tr e with
   |some true=>.ok [] (if ok then .tup (.cons v (.cons (.vb (.bool true)) .nil))else v) []
   |some false=>jD kt z ix ok ks vs
   |none=>.br e))
 |_,_=>.no "lookup entries"
def lH(t:Nat)(x ix:SV)(ok:Bool):Out:=
 match x,P.underlying t with
 |.map b,some (.map kt et)=>
  (match bk b,bM P et with
  |some (.amap r l),some z=>if isZ z=true then ld P r l kt ix ok else .no "lookup zero"
  |some (.map ks vs),some z=>if nL P kt ix&&ks.list.all (nL P kt)then jD P tr kt z ix ok ks.list vs.list else .no "lookup key"
  |_,_=>.no "lookup map")
 |_,_=>.no "lookup"
def xv(c a b:SV):Out:=
 match c with
 |.vb e=>(match tr e with|some true=>.ok [] a []|some false=>.ok [] b []|none=>.br e)
 |_=>.no "pick"
def up(t:Nat):Out:=
 if con (t+2000000)=true then
  (match P.underlying t,bM P t with
  |some (.array _ _),some x=>if x.cells.list.all isZ&&Na 0 x.cells.len&&NV x.cells.len 16777216&&x.whole then .ok [] (.rptr nm (.cons .int .nil) (.int 0) 0) [(nm,some (.row t (.cons .int .nil) (.rep (.int x.cells.len) (.rcons (.int 0) .rnil))))]else .no "alloc an array"
  |_,_=>.no "alloc an array")
 else
 match bM P t with
 |some x=>if oN x.cells&&x.whole then .ok [] (.ptr nm 0) [(nm,some (.cells t x.cells))]else .no "alloc zero"
 |none=>.no "alloc"
def z8(t:Nat)(x:SV):Out:=if oN x.cells&&x.whole then .ok [] (.ptr nm 0) [(nm,some (.cells t x.cells))]else .no "box"
def tZ(t:Nat)(parts:List (Nat×SV)):Out:=
 match bM P t,zH P t with
 |some z,some pl=>if z.whole then(match gz pl z.cells.list parts with|some cs=>.ok [] (.agg (.of cs)) []|none=>.no "build")else .no "build zero"
 |_,_=>.no "build type"
def kI(t len:Nat)(parts:List (Nat×SV)):Out:=
 match aZ P t with
 | some (ety,row)=>
  (match bM P ety with
  |some z=>(match gz (fun i=>some (i*row.len,row.len)) ((Nt len z.cells.list).flatten) parts with
   |some cs=>(match gE row.len row len cs with|some l=>if len*row.len<=16777216/\z.whole=true/\z.cells.len=row.len/\cs.length=len*row.len then .ok [] (.row nm) [(nm,some (.row ety row l))]else .no "buildSlice size" | none=>.no "buildSlice rows")
   |none=>.no "buildSlice parts")
  |none=>.no "buildSlice zero")
 | none=>
  (match P.underlying t with
  | some (.slice e)=>
   (match bM P e with
   |some z=>(match gz (fun i=>some (i,1)) (Nt len z) parts with
    |some cs=>if z.one=true/\P.cellsOf e=1/\aP P e=true/\0<P.bytesOf e/\cs.all SV.one=true/\cs.length=len/\len<=16777216 then .ok [] (.csl nm len) [(nm,some (.cells e (.of cs)))]else .no "buildSlice cells"
    |none=>.no "buildSlice parts")
   |none=>.no "buildSlice zero")
  |_=>.no "buildSlice type")
def vK(x:SV):Out:=
 match x with
 |.ptr b off=>.ok [] (.ptr b off) []
 |.eptr t l i k=>.ok [] (.eptr t l i k) []
 |.rptr b t i k=>.ok [] (.rptr b t i k) []
 |.fn f fs xs=>.ok [] (.fn f fs xs) []
 |_=>.no "nilCheck"
def Ai(op:UnOp)(x:SV):Out:=
 match op,x with
 |.not,.vb e=>.ok [] (.vb e.not') []
 |.neg,.vi e=>hY .sub (.int 0) e [] true
 |.neg,.vr e=>(match gQ e with|some k=>if k=.i64 then .no "unOp" else .ok [] (.vr (.kop' .sub k (.oint k 0) e)) []|none=>.no "unOp")
 |.xor,.vr e=>(match gQ e with|some k=>if k=.i64 then .no "unOp" else .ok [] (.vr (.kop' .xor k (.oint k (if k.signed then -1 else k.max)) e)) []|none=>.no "unOp")
 |_,_=>.no "unOp"
def xq(s d:Nat)(x:SV):Out:=
 match P.underlying s,P.underlying d,x with
 |some (.int .i64),some (.int .i64),.vi e=>.ok (aG e.inr) (.vi e) []
 |some _,some (.int k),x=>
  (match x.numOf with
  |some (_,e)=>if k=.i64 then .ok [] (.vi (.kout e)) []else .ok [] (.vr (.kin' k e)) []
  |none=>.no "convert")
 |_,_,_=>.no "convert"
def jx(t:Nat)(x:SV)(lo hi:Option Operand):Out:=
 match aZ P t,x with
 |some (_,r),.vs ty e=>
  if ty≠r then .no "slice sort" else
  (match cV ev lo (.int 0),cV ev hi e.len' with
  |some l,some h=>.ok (dj l h e.len') (.vs ty (if lo.isNone then .take e h else .drop (.take e h) l)) []
  |_,_=>.no "slice bounds")
 |some (ety,r),.row d=>
  (match bk d,lo.isNone,cV ev lo (.int 0),cV ev hi (.int 0)with
  |some (.row e ty l),false,some i,_=>if ty=r/\e=ety/\hi.isNone then .ok (aG (.cmp' .le (.int 0) i)++aG (.cmp' .lt i l.len')) (.rtail d ty i) []else .no "slice tail type"
  |some (.row e ty l),true,_,some h=>if ty=r/\e=ety/\hi.isSome then .ok (dj (.int 0) h l.len') (.row nm) [(d,some (.dead l)),(nm,some (.row ety r (.take l h)))]else .no "slice rows type"
  |_,_,_,_=>.no "slice row")
 |some _,.nilsl=>
  (match cV ev lo (.int 0),cV ev hi (.int 0)with
  |some l,some h=>.ok (dj l h (.int 0)) .nilsl []
  |_,_=>.no "slice bounds")
 |_,_=>.no "slice"
def jC(t:Nat)(x:SV)(lo:Operand):Out:=
 match aZ P t,x,ev lo with
 |some (ety,r),.row d,.vi i=>
  (match bk d with
  |some (.row e ty l)=>if ty=r/\e=ety then .ok (aG (.cmp' .le (.int 0) i)++aG (.cmp' .le i l.len')) (.row nm) [(d,some (.dead l)),(nm,some (.qrow ety r (.drop l i)))]else .no "queue type"
  |some (.qrow e ty l)=>if ty=r/\e=ety then .ok (aG (.cmp' .le (.int 0) i)++aG (.cmp' .le i l.len')) (.row nm) [(d,some (.dead l)),(nm,some (.qrow ety r (.drop l i)))]else .no "queue type"
  |_=>.no "queue")
 |_,_,_=>.no "queue"
def og(t:Nat)(x:SV)(lo hi:Option Operand):Out:=
 match con 6000000,x,lo,hi with
 |true,.row d,some i,none=>jC P nm ev bk t (.row d) i
 |_,_,_,_=>jx P nm ev bk t x lo hi
def n9(t:Nat)(x:SV)(hi:Option Operand)(mx:Operand):Out:=
 match aZ P t,x,cV ev hi (.int 0),cV ev (some mx) (.int 0)with
 |some (_,r),.vs ty e,some h,some m=>if ty=r/\h=m/\hi.isSome then .ok (dj (.int 0) h e.len') (.row nm) [(nm,some (.ice 1 ty (.take e h)))]else .no "slice full"
 |_,_,_,_=>.no "slice full"
def my(s:Nat)(x:SV)(f:Nat):Out:=
 match kV P s f,x with
 |some off,.ptr b o=>.ok [] (.ptr b (o+off)) []
 |some off,.eptr t l i k=>.ok [] (.eptr t l i (k+off)) []
 |some off,.rptr b t i k=>.ok [] (.rptr b t i (k+off)) []
 |_,_=>.no "fieldAddr"
def lr(i:E)(f:Nat->Out):Nat->Nat->Out
 |0,_=>.no "indexAddr: which"
 |n+1,c=>(match tr (.cmp' .eq i (.int c))with
  |some true=>f c
  |some false=>lr i f n (c+1)
  |none=>.br (.cmp' .eq i (.int c)))
def uc(j i:E)(m:Nat):E:=
 match j with
 |.int 0=>if m=1 then i else .ii' .mul i (.int m)
 |j=>.ii' .add j (if m=1 then i else .ii' .mul i (.int m))
def rL(n:Nat)(xs:SV):Option E:=
 match xs with
 |.cons (.vi (.co .int (.cell l (.int 0) 0))) _=>if xs=.of ((Ng n).map fun(q:Nat)=>SV.vi ((E.cell' l (.int (q:Int)) 0).as .int))then some l else none
 |_=>none
def gD(t:Nat)(x ix:SV):Out:=
 match ix with
 | .vi i=>
  (match x,P.underlying t with
  |.csl b n,some (.slice e)=>if P.cellsOf e=1/\aP P e=true then lr tr i (fun c=>.ok [] (.ptr b c) []) n 0 else .no "indexAddr cells"
  |.ptr b off,some (.array n e)=>(match i with|.int c=>if 0<=c/\c<n/\aP P e=true then .ok [] (.ptr b (off+c.toNat*P.cellsOf e)) []else .no "indexAddr bounds" | _=>.no "indexAddr array")
  |.eptr ty l j k,some (.array n e)=>(match i with|.int c=>if 0<=c/\c<n/\aP P e=true then .ok [] (.eptr ty l j (k+c.toNat*P.cellsOf e)) []else .no "indexAddr bounds" | _=>.no "indexAddr array")
  | .rptr b ty j k,some (.array n e)=>
   (match bk b with
   | some (.row a _ l)=>
    if con (a+2000000)=true then
     (if aP P e=true/\ty.len=1 then .ok (aG (.cmp' .le (.int 0) i)++aG (.cmp' .lt i (.int n))++aG (.cmp' .lt (uc j i (P.cellsOf e)) l.len')) (.rptr b ty (uc j i (P.cellsOf e)) k) []else .no "indexAddr array of arrays")else(match i with|.int c=>if 0<=c/\c<n/\aP P e=true then .ok [] (.rptr b ty j (k+c.toNat*P.cellsOf e)) []else .no "indexAddr bounds" | _=>.no "indexAddr array")
   |_=>(match i with|.int c=>if 0<=c/\c<n/\aP P e=true then .ok [] (.rptr b ty j (k+c.toNat*P.cellsOf e)) []else .no "indexAddr bounds" | _=>.no "indexAddr array"))
  |.vs ty l,some (.slice _)=>(match aZ P t with|some (_,r)=>if r=ty then .ok (aG (.cmp' .le (.int 0) i)++aG (.cmp' .lt i l.len')) (.eptr ty l i 0) []else .no "indexAddr sort" | none=>.no "indexAddr type")
  |.row b,some (.slice _)=>
   (match bk b,aZ P t with
   |some (.row _ ty l),some (_,r)=>if r=ty then .ok (aG (.cmp' .le (.int 0) i)++aG (.cmp' .lt i l.len')) (.rptr b ty i 0) []else .no "indexAddr rows sort"
   |some (.qrow _ ty l),some (_,r)=>if r=ty then .ok (aG (.cmp' .le (.int 0) i)++aG (.cmp' .lt i l.len')) (.rptr b ty i 0) []else .no "indexAddr rows sort"
   |_,_=>.no "indexAddr row")
  |_,_=>.no "indexAddr")
 |_=>.no "indexAddr index"
def tX(t:Nat)(x ix:SV):Out:=
 match ix,x,P.underlying t with
 |.vi (.int c),.agg xs,some (.array n e)=>
  if 0<=c/\c<n/\(c.toNat+1)*P.cellsOf e<=xs.len/\aP P e=true then(if bE P e then .ok [] (.agg (xs.cut (c.toNat*P.cellsOf e) (P.cellsOf e))) []else(match xs.cut c.toNat 1 with|.cons x .nil=>if P.cellsOf e=1 then .ok [] x []else .no "index" | _=>.no "index"))else .no "index bounds"
 | .vi i,.agg xs,some (.array n e)=>
  if P.cellsOf e=1/\bE P e=false/\aP P e=true/\xs.proper=true/\xs.len=n then
   (match rL n xs with
   |some l=>.ok (aG (.cmp' .le (.int 0) i)++aG (.cmp' .lt i (.int n))) (.vi (.co .int (.cell l i 0))) []
   |none=>
   match gE 1 (.cons .int .nil) n xs.list with
   |some l=>.ok (aG (.cmp' .le (.int 0) i)++aG (.cmp' .lt i (.int n))) (.vi ((E.cell' l i 0).as .int)) []
   |none=>.no "index cells")else .no "index array"
 |_,_,_=>.no "index"
def ul(s:Nat)(x:SV)(f:Nat):Out:=
 match x,kV P s f,Ca P s f with
 |.agg xs,some off,some t=>if off+P.cellsOf t<=xs.len/\aP P t=true then(if bE P t then .ok [] (.agg (xs.cut off (P.cellsOf t))) []else(match xs.cut off 1 with|.cons x .nil=>.ok [] x []|_=>.no "field"))else .no "field off"
 |_,_,_=>.no "field"
def pF(x:SV)(ix:Nat):Out:=
 match x with
 |.tup xs=>(match xs.cut ix 1 with|.cons x .nil=>.ok [] x []|_=>.no "extract")
 |_=>.no "extract"
def mL(t:Nat)(l c:SV):Out:=
 match aZ P t,l,c with
 |some (ety,row),.vi l,.vi c=>(match bM P ety with
  |some z=>(match kL z.cells row with|some r=>if l=c/\z.whole=true/\z.cells.len=row.len then .ok (aG (.cmp' .le (.int 0) l)++aG (.cmp' .le (.ii' .mul l (.int (P.bytesOf ety))) (.int 140737488355328))) (.row nm) [(nm,some (.row ety row (.rep l r)))]else .no "makeSlice cap" | none=>.no "makeSlice zero")
  |none=>.no "makeSlice zero")
 |_,_,_=>.no "makeSlice"
def lF(f:SV)(args:List SV):Out:=
 match f with
 | .fn g fs xs=>
  (match P.funcs[g]? with
  | some fn=>
   if fn.body.isSome then
    (if con g=true/\fs=.nil/\xs=.nil then
     (match iD P bk args fn.params.toList,yX P (con (g+1000000)) fn.resultTypes.toList with
     |some es,some sh=>.call g es sh []
     |none,_=>.no "call arguments"
     |_,none=>.no "call results")else .inl g (fs.list++args++xs.list))else .no "call a function without a body"
  |none=>.no "call function")
 |.yld b=>.yld b args
 |_=>.no "call value"
def Ao:SV->Option Value
 |.agg .nil=>some (.agg #[])
 |_=>none
def rj(x:SV):Out:=
 match x with
 |.iface t y=>(match Ao y with|some v=>.panic (.iface t v)|none=>.no "panic")
 |_=>.no "panic"
def uK(t:Nat)(x:SV):Out:=
 match P.underlying t with
 |some (.interface _)=>.no "makeInterface"
 |some _=>.ok [] (.iface t x) []
 |none=>.no "makeInterface"
def om(t:Nat)(ok:Bool)(x:SV):Out:=
 match P.underlying t with
 |none=>.no "typeAssert"
 |some (.interface _)=>.no "typeAssert"
 |some _=>
  (match x,bM P t with
  |.nilif,some z=>if ok then .ok [] (.tup (.cons z (.cons (.vb (.bool false)) .nil))) []else .no "typeAssert"
  |.iface u y,some z=>if u=t then .ok [] (if ok then .tup (.cons y (.cons (.vb (.bool true)) .nil))else y) []else if ok then .ok [] (.tup (.cons z (.cons (.vb (.bool false)) .nil))) []else .no "typeAssert"
  |_,_=>.no "typeAssert")
def ui:E->E
 |.str s=>.int s.length
 |e=>.slen e
def DP(x y:E):Out:=.ok (aG (.cmp' .le (.ii' .add (ui x) (ui y)) (.int 9223372036854775807))) (.vr (.scat x y)) []
def vN(op:BinOp)(x y:E):Option Out:=
 if dV x=true/\dV y=true then
  (match op with
  |.add=>some (DP x y)
  |.eql=>some (dH (.seq x y))
  |.neq=>some (dH (.not (.seq x y)))
  |_=>none)else none
def G5:SV->SV->Option Bool
 |.nilptr,.nilptr=>some true
 |.nilptr,.ptr _ _=>some false
 |.ptr _ _,.nilptr=>some false
 |.ptr b o,.ptr c p=>if b=c/\o=p then some true else none
 |_,_=>none
def Mc(t:Nat):Bool:=
 match P.underlying t with
 |some (.pointer e)=>(match P.info? e with|some i=>i.size !=0|none=>false)
 |_=>false
def wF(op:BinOp)(t:Nat)(x y:SV):Option Out:=
 match G5 x y with
 |some r=>if Mc P t=true then(match op with|.eql=>some (.ok [] (.vb (.bool r)) [])|.neq=>some (.ok [] (.vb (.bool !r)) [])|_=>none)else none
 |none=>none
def Dp(op:BinOp)(a b:E):Option Out:=
 match op,b with
 |.shl,.oint _ (.ofNat m)=>some (.ok [] (.vi (.ii' .shl a (.int (.ofNat m)))) [])
 |.shr,.oint _ (.ofNat m)=>some (.ok [] (.vi (.ii' .shr a (.int (.ofNat m)))) [])
 |_,_=>none
def ES(op:BinOp)(t:Nat)(x y:SV):Option Out:=
 match x,y with
 |.vr a,.vr b=>vN op a b
 |.vi a,.vr b=>Dp op a b
 |a,b=>wF P op t a b
def D6(t:Nat)(x:SV):Option Out:=
 match P.underlying t,x with
 |some .string,.vr e=>if dV e=true then some (.ok [] (.vi (ui e)) [])else none
 |_,_=>none
def vJ(t:Nat)(x ix:SV):Option Out:=
 match P.underlying t,x,ix with
 |some .string,.vr s,.vi i=>if dV s=true then some (.ok (aG (.cmp' .le (.int 0) i)++aG (.cmp' .lt i (ui s))) (.vr (.sidx s i)) [])else none
 |_,_,_=>none
def u8Row:Ty:=.cons (.num .u8) .nil
def vZ(e:Nat):Bool:=match P.underlying e with|some (.int .u8)=>true|_=>false
def rI(s d:Nat)(x:SV):Option Out:=
 match P.underlying s,P.underlying d with
 |some .string,some (.slice e)=>
  (match aZ P d,x with
  |some (ety,r),.vr y=>if dV y=true/\vZ P e=true/\r=u8Row then some (.ok (aG (.cmp' .le (ui y) (.int 140737488355328))) (.row nm) [(nm,some (.qrow ety u8Row (.bofs y)))])else none
  |_,_=>none)
 |some .string,some .string=>(match x with|.vr e=>if dV e=true then some (.ok [] (.vr e) [])else none|_=>none)
 |some (.slice e),some .string=>
  (match aZ P s,ck bk x with
  |some (_,r),some (u,l)=>if vZ P e=true/\r=u8Row/\u.all (·=r)=true then some (.ok [] (.vr (.sofb l)) [])else none
  |_,_=>none)
 |_,_=>none
def Hk:SV->Option IntKind
 |.vr (.oint k (.ofNat 0))=>some k
 |_=>none
def cx(k:IntKind):Ty:=.cons (.num k) .nil
def wa(t:Nat):Option Out:=
 if con (t+2000000)=true then
  (match P.underlying t,bM P t with
  | some (.array _ _),some x=>
   (match x.cells with
   |.cons y _=>(match Hk y with
    |some k=>if x.cells.list.all (fun z=>decide (Hk z=some k))&&Na 0 x.cells.len&&NV x.cells.len 16777216&&x.whole then some (.ok [] (.rptr nm (cx k) (.int 0) 0) [(nm,some (.row t (cx k) (.rep (.int x.cells.len) (.rcons (.oint k 0) .rnil))))])else none
    |none=>none)
   |_=>none)
  |_,_=>none)else none
def xI(k:IntKind)(e:E):E:=if gQ e=some k then e else .co (.num k) e
def lm(k:IntKind)(l:E)(q:Nat):SV:=.vr (xI k (E.cell' l (.int (q:Int)) 0))
def eE(k:IntKind)(l:E)(c s:Nat):SV:=.of ((Ng s).map fun(q:Nat)=>lm k l (c+q))
def Em(s:Nat)(ty:Ty)(i:E)(k:Nat)(x:Option SB):Option Out:=
 match ty,i,k,x with
 |.cons (.num k) .nil,.int (.ofNat c),0,some (.row e ty l)=>if con (e+2000000)=true/\ty=cx k then some (.ok (aG (.cmp' .le (.int ((c+s:Nat):Int)) l.len')) (.agg (eE k l c s)) [])else none
 |_,_,_,_=>none
def Dz(s:Nat)(ty:Ty)(l i:E)(k:Nat):Option Out:=
 match ty,i,k with
 |.cons (.num k) .nil,.int (.ofNat c),0=>some (.ok (aG (.cmp' .le (.int ((c+s:Nat):Int)) l.len')) (.agg (eE k l c s)) [])
 |_,_,_=>none
def xk(t:Nat)(a:SV):Option Out:=
 let s:=P.cellsOf t
 if aP P t=true/\bE P t=true then
  (match a with
  |.rptr b ty i k=>Em con s ty i k (bk b)
  |.eptr ty l i k=>Dz s ty l i k
  |_=>none)else none
def vM(n:Nat)(xs:SV):Option (IntKind×E):=
 match xs with
 |.cons (.vr e) _=>(match gQ e with|some k=>(gE 1 (cx k) n xs.list).map fun l=>(k,l)|none=>none)
 |_=>none
def BF(s b:Nat)(ty:Ty)(i:E)(k:Nat)(v:SV)(x:Option SB):Option Out:=
 match ty,i,k,v,x with
 | .cons (.num k) .nil,.int (.ofNat 0),0,.agg xs,some (.row e ty' l)=>if con (e+2000000)=true/\ty'=cx k then
   (if xs=eE k l 0 s then some (.ok (aG (.cmp' .le (.int (s:Int)) l.len')) .any [(b,some (.row e ty' l))])else if xs.proper=true/\xs.len=s/\0<s then
    (match vM s xs with
    |some (k',m)=>if k'=k then some (.ok (aG (.cmp' .le (.int (s:Int)) l.len')++aG (.cmp' .le l.len' (.int (s:Int)))) .any [(b,some (.row e ty' m))])else none
    |none=>none)else none)else none
 |_,_,_,_,_=>none
def tv(t:Nat)(a v:SV):Option Out:=
 if aP P t=true/\bE P t=true then
  (match a with
  |.rptr b ty i k=>BF con (P.cellsOf t) b ty i k v (bk b)
  |_=>none)else none
def Ba(ix:SV)(n:Nat):Option (E×List E):=
 match ix with
 |.vi i=>some (i,aG (.cmp' .le (.int 0) i)++aG (.cmp' .lt i (.int n)))
 |.vr e=>(match gQ e with|some _=>if n<=16777216 then some (.kout e,[.kcmp .le (.int 0) e,.kcmp .lt e (.int n)])else none|none=>none)
 |_=>none
def wC(t:Nat)(x ix:SV):Option Out:=
 match x,P.underlying t with
 | .eptr ty l (.int (.ofNat 0)) 0,some (.array n e)=>
  if ty.len=1/\P.cellsOf e=1/\aP P e=true then
   (match Ba ix n with
   |some (i,nd)=>some (.ok (nd++aG (.cmp' .lt i l.len')) (.eptr ty l i 0) [])
   |none=>none)else none
 |_,_=>none
def JO:SV->Bool
 |.vi (.int _)=>true
 |_=>false
def DG(n:Nat)(xs:SV):Option (IntKind×E):=
 match xs with
 |.cons (.vr (.co (.num k) (.cell l (.int (.ofNat 0)) 0))) _=>if xs=eE k l 0 n then some (k,l)else none
 |_=>none
def Bq(t:Nat)(x ix:SV):Option Out:=
 match x,P.underlying t with
 | .agg xs,some (.array n e)=>
  if P.cellsOf e=1/\bE P e=false/\aP P e=true/\xs.proper=true/\xs.len=n/\JO ix=false then
   (match DG n xs with
   |some (k,l)=>(match Ba ix n with|some (i,nd)=>some (.ok nd (.vr (.co (.num k) (.cell l i 0))) [])|none=>none)
   |none=>
    (match vM n xs,Ba ix n with
    |some (k,l),some (i,nd)=>some (.ok nd (.vr (xI k (E.cell' l i 0))) [])
    |_,_=>none))else none
 |_,_=>none
def rc:Option Operand->Nat->Option Nat
 |none,d=>some d
 |some o,_=>(match ev o with|.vi (.int (.ofNat n))=>some n|_=>none)
def Fi(t b off:Nat)(lo:Option Nat)(hi:Nat->Option Nat)(x:Option SB):Option Out:=
 match P.underlying t,x with
 |some (.array n e),some (.cells _ xs)=>
  (match lo,hi n with
  |some l,some h=>if l<=h/\l<n/\h<=n/\P.cellsOf e=1/\aP P e=true/\off+n<=xs.len then some (.ok [] (.asl b (off+l) (h-l)) [])else none
  |_,_=>none)
 |_,_=>none
def xC(t:Nat)(x:SV)(lo hi:Option Operand):Option Out:=
 match x with
 |.ptr b off=>Fi P t b off (rc ev lo 0) (rc ev hi) (bk b)
 |_=>none
def xj(t:Nat)(x:SV)(lo hi mx:Operand):Option Out:=
 match aZ P t,x,ev lo,ev hi,ev mx with
 |some (_,r),.vs ty e,.vi l,.vi h,.vi m=>if ty=r/\h=m then some (.ok (dj l h e.len') (.vs ty (.drop (.take e h) l)) [])else none
 |_,_,_,_,_=>none
def Er(t b o n:Nat)(y:SV)(x:Option SB):Option Out:=
 match y,P.underlying t,x with
 | .asl c p m,some (.slice e),some (.cells ty xs)=>
  let k:=NU m n
  if b=c/\P.cellsOf e=1/\aP P e=true/\o+n<=xs.len/\p+m<=xs.len/\(xs.cut p k).list.all SV.one=true then
   some (.ok [] (.vi (.int k)) [(b,some (.cells ty (.of (xs.list.take o++(xs.cut p k).list++xs.list.drop (o+k)))))])else none
 |_,_,_=>none
def xn(t:Nat)(x y:SV):Option Out:=
 match x with
 |.asl b o n=>Er P t b o n y (bk b)
 |_=>none
def zB(s d o n:Nat)(x:Option SB):Option Out:=
 match P.underlying s,P.underlying d,x with
 |some (.slice e),some .string,some (.cells _ xs)=>if vZ P e=true/\o+n<=xs.len then(match gE 1 u8Row n (xs.cut o n).list with|some l=>some (.ok [] (.vr (.sofb l)) [])|none=>none)else none
 |_,_,_=>none
def lu(s d:Nat)(x:SV):Option Out:=
 match x with
 |.asl b o n=>zB P s d o n (bk b)
 |_=>none
def ow(s d:Nat)(x:SV):Option Out:=
 match x with
 | .ptr b off=>
  (match bk b with
  |some (.cells ty xs)=>
   (match P.underlying s,P.underlying d with
   |some (.pointer t),some .unsafePointer=>(match P.info? t with|some i=>if i.size≠0/\off<xs.len then some (.ok [] (.ptr b off) [])else none|none=>none)
   |some .unsafePointer,some (.pointer u)=>if(P.info? u).isSome&&liesAt P P.depth ty (xs.len / P.cellsOf ty) off u 1 then some (.ok [] (.ptr b off) [])else none
   |_,_=>none)
  |_=>none)
 |_=>none
def wd(f:Nat):Bool:=
 match P.funcs[f]? with
 |some fn=>fn.body.isNone&&fn.name == "internal/abi.NoEscape"
 |none=>false
def pr(e:Nat):Bool:=match (P.info? e).bind (·.zero)with|some (.int .u8 (.ofNat 0))=>true|_=>false
def rG(o:Oper)(t t':Nat)(x:SV)(k:Nat->E->Option Out):Option Out:=
 match aZ P t,P.underlying t',x with
 |some (ety,row),some .string,.vr e=>if dV e=true/\row=u8Row/\vZ P ety=true/\P.bytesOf ety=1/\pr P ety=true/\o.dst.isSome=true then k ety e else none
 |_,_,_=>none
def uD(d ety:Nat)(e:E)(x:Option SB):Option Out:=
 match x with
 |some (.row f row' l0)=>if f=ety/\row'=u8Row then some (.ok (cZ (bR l0 (.bofs e)) 1) (.row nm) [(d,some (.dead l0)),(nm,some (.row ety u8Row (bR l0 (.bofs e))))])else none
 |_=>none
def qb(o:Oper)(t t':Nat)(s x:SV):Option Out:=
 match s with
 |.nilsl=>rG P o t t' x fun ety e=>some (.ok (cZ (.bofs e) 1) (.row nm) [(nm,some (.row ety u8Row (.bofs e)))])
 |.row d=>rG P o t t' x fun ety e=>uD nm d ety e (bk d)
 |_=>none
def xB(x:SV):Option Out:=
 match x with
 |.row d=>(match bk d with|some (.row _ row l)=>some (.ok (aG (.cmp' .lt (.int 0) l.len')) (.rptr d row (.int 0) 0) [])|_=>none)
 |_=>none
def zE(pt d:Nat)(ty:Ty)(i:E)(k:Nat)(n:SV)(x:Option SB):Option Out:=
 match i,k,n,P.underlying pt,x with
 |.int (.ofNat 0),0,.vi e,some (.pointer u),some (.row ety row l)=>if ety=u/\ty=u8Row/\row=u8Row/\e=l.len'/\P.cellsOf ety=1 then some (.ok (aG (.cmp' .lt (.int 0) l.len')) (.vr (.sofb l)) [(d,some (.dead l))])else none
 |_,_,_,_,_=>none
def qc(pt:Nat)(x n:SV):Option Out:=
 match x with
 |.rptr d ty i k=>zE P pt d ty i k n (bk d)
 |_=>none
def qi(k:IntKind):Ty:=.cons .str (.cons (.num k) .nil)
def zo(b:Nat)(k v:SV)(x:Option SB):Option Out:=
 match k,v,x with
 |.vr a,.vr e,some (.amap (.cons .str (.cons (.num kd) .nil)) l)=>if dV a=true/\gQ e=some kd then some (.ok [] .any [(b,some (.amap (qi kd) (.mput l (.rcons a .rnil) e)))])else none
 |_,_,_=>none
def lR(t:Nat)(m k v:SV):Option Out:=
 match m,P.underlying t with
 |.map b,some (.map kt _)=>(match P.underlying kt with|some .string=>zo b k v (bk b)|_=>none)
 |_,_=>none
def E7(z:SV)(k:SV)(ok:Bool)(x:Option SB):Option Out:=
 match k,x,ok with
 |.vr a,some (.amap (.cons .str (.cons (.num kd) .nil)) l),false=>if dV a=true/\z=.vr (.oint kd 0)then some (.ok [] (.vr (.co (.num kd) (.mget l (.rcons a .rnil)))) [])else none
 |_,_,_=>none
def pQ(t:Nat)(m k:SV)(ok:Bool):Option Out:=
 match m,P.underlying t with
 |.map b,some (.map kt et)=>(match P.underlying kt,bM P et with|some .string,some z=>E7 z k ok (bk b)|_,_=>none)
 |_,_=>none
def EW:SV->Bool
 |.rptr _ (.cons (.num _) .nil) _ _|.eptr (.cons (.num _) .nil) _ _ _=>true
 |_=>false
def MS:SV->Bool
 |.vr _=>true
 |_=>false
def L6(t:Nat):Bool:=match P.underlying t with|some (.array _ _)=>true|_=>false
def oF(o:Oper):Option Out:=
 match o.op with
 |.binOp op t x y _=>ES P op t (ev x) (ev y)
 |.index t x ix=>(match vJ P t (ev x) (ev ix)with|some r=>some r|none=>Bq P t (ev x) (ev ix))
 |.indexAddr t x ix=>wC P t (ev x) (ev ix)
 |.alloc t=>bif L6 P t then wa P con nm t else none
 |.load t x=>bif EW (ev x)then xk P con bk t (ev x)else none
 |.store t x y=>bif EW (ev x)then tv P con bk t (ev x) (ev y)else none
 |.slice t x lo hi none=>xC P ev bk t (ev x) lo hi
 |.slice t x (some lo) (some hi) (some mx)=>xj P ev t (ev x) lo hi mx
 |.convert s d x=>(match rI P nm bk s d (ev x)with|some r=>some r|none=>(match lu P bk s d (ev x)with|some r=>some r|none=>ow P bk s d (ev x)))
 |.call { callee:=.value (.func f),args,.. }=>(match args.toList.map ev with|[x]=>if wd P f=true then some (.ok [] x [])else none|_=>none)
 |.call { callee:=.builtin .append,args,argTypes }=>(match args.toList.map ev,argTypes.toList with|[s,x],[t,t']=>qb P nm bk o t t' s x|_,_=>none)
 |.call { callee:=.builtin .unsafeSliceData,args,.. }=>(match args.toList.map ev with|[x]=>xB bk x|_=>none)
 |.call { callee:=.builtin .unsafeString,args,argTypes }=>(match args.toList.map ev,argTypes.toList with|[x,n],[pt,_]=>qc P bk pt x n|_,_=>none)
 |.call { callee:=.builtin .copy,args,argTypes }=>(match args.toList.map ev,argTypes.toList with|[x,y],[t,_]=>xn P bk t x y|_,_=>none)
 |.call { callee:=.builtin .len,args,argTypes }=>(match args.toList.map ev,argTypes.toList with|[x],[t]=>bif MS x then D6 P t x else none|_,_=>none)
 |.insert t m k v=>lR P bk t (ev m) (ev k) (ev v)
 |.mapUpdate t m k v=>lR P bk t (ev m) (ev k) (ev v)
 |.lookup t m k ok=>pQ P bk t (ev m) (ev k) ok
 |_=>none
def ij(o:Oper):Out:=
 match o.op with
 |.move x|.assign x=>.ok [] (ev x) []
 |.pick c a b=>xv tr (ev c) (ev a) (ev b)
 |.alloc t=>up P con nm t
 |.box t x=>z8 nm t (ev x)
 |.build t parts=>tZ P t (parts.toList.map fun x=>(x.1,ev x.2))
 |.buildSlice t len parts=>kI P nm t len (parts.toList.map fun x=>(x.1,ev x.2))
 |.load t a=>loadOut P con bk t (ev a)
 |.store t a x=>kY P bk t (ev a) (ev x)
 |.nilCheck x=>vK (ev x)
 |.binOp op t x y _=>tC P op t (ev x) (ev y)
 |.unOp op _ x=>Ai op (ev x)
 |.convert s d x=>xq P s d (ev x)
 |.slice t x lo hi none=>og P con nm ev bk t (ev x) lo hi
 |.fieldAddr s x f=>my P s (ev x) f
 |.indexAddr t x ix=>gD P con tr bk t (ev x) (ev ix)
 |.index t x ix=>tX P t (ev x) (ev ix)
 |.field s x f=>ul P s (ev x) f
 |.extract x ix=>pF (ev x) ix
 |.makeSlice t l c=>mL P nm t (ev l) (ev c)
 |.call { callee:=.builtin b,args,argTypes }=>iw P nm bk o b (args.toList.map ev) argTypes.toList
 |.call { callee:=.value f,args,.. }=>lF P con bk (ev f) (args.toList.map ev)
 |.makeFunc (.func f) first captured=>.ok [] (.fn f (.of (first.toList.map ev)) (.of (captured.toList.map ev))) []
 |.makeMap t none=>pK P con nm t
 |.insert t m k v|.mapUpdate t m k v=>jp P bk t (ev m) (ev k) (ev v)
 |.lookup t x ix ok=>lH P tr bk t (ev x) (ev ix) ok
 |.slice t x none hi (some mx)=>n9 P nm ev t (ev x) hi mx
 |.makeInterface t x=>uK P t (ev x)
 |.panic x=>rj (ev x)
 |.typeAssert x _ t ok=>om P t ok (ev x)
 |_=>.no "operation"
def frz(o:Oper):List Nat:=
 match o.op with
 |.buildSlice _ _ parts=>parts.toList.flatMap fun x=>aW bk (ev x.2)
 |.store _ a x=>(match ev a with
  |.rptr _ _ _ _=>aW bk (ev x)
  |_=>[])
 |.slice _ x lo _ none=>if own||(con 6000000&&lo.isSome)then[]else aW bk (ev x)
 |.slice _ x none _ (some _)=>aW bk (ev x)
 |.box _ x=>qIn bk (ev x)
 | .call { callee:=.value f,args,.. }=>
  (match ev f with
  | .fn g .nil .nil=>
   (match P.funcs[g]? with
   |some fn=>(match con g,yX P (con (g+1000000)) fn.resultTypes.toList with
    |true,some sh=>if sh.flat then[]else args.toList.flatMap fun x=>aW bk (ev x)
    |_,_=>[])
   |none=>[])
  |_=>[])
 |_=>[]
end
def upd{α:Type}(f:Nat->α)(k:Nat)(x:α):Nat->α:=fun i=>if i=k then x else f i
def fG{α:Type}(f:Nat->α)(k:Option Nat)(x:α):Nat->α:=
 match k with
 |some d=>upd f d x
 |none=>f
def aL(f:Nat->Option SB)(wr:List (Nat×Option SB)):Nat->Option SB:=wr.foldl (fun g x=>upd g x.1 x.2) f
def fR(P:Program)(own:Bool)(nm:Nat)(ev:Operand->SV)(bk:Nat->Option SB)(o:Oper):Option Out:=
 match o.op with
 | .call { callee:=.builtin .append,args,argTypes }=>
  (match args.toList,argTypes.toList with
  | [s,x],[t,t']=>
   (match ev s with
   | .row d=>
    (match bk d with
    |some (.ice 1 ty l)=>
     (match aZ P t,ck bk (ev x)with
     |some (ety,row),some (u,m)=>if t=t'/\ty=row/\u.all (·=row)=true then(if own then some (.ok (aG (.cmp' .lt (.int 0) m.len')++cZ (bR l m) (P.bytesOf ety)) (.row nm) [(nm,some (.row ety row (bR l m)))])else some (.ok (cZ (bR l m) (P.bytesOf ety)) (.vs row (bR l m)) []))else none
     |_,_=>none)
    |_=>none)
   |_=>none)
  |_,_=>none)
 |_=>none
def jS(P:Program)(con:Nat->Bool)(tr:E->Option Bool)(nm:Nat)(ev:Operand->SV)(bk:Nat->Option SB)(o:Oper):Out:=
 match oF P con nm ev bk o with
 |some x=>x
 |none=>ij P con tr nm ev bk o
def cr(P:Program)(con:Nat->Bool)(own:Bool)(tr:E->Option Bool)(nm:Nat)(ev:Operand->SV)(bk:Nat->Option SB)(o:Oper):Out:=
 match fR P own nm ev bk o with
 |some x=>x
 |none=>
 let fs:=bq bk (frz P con own ev bk o)
 match jS P con tr nm (fun x=>nz (aL bk fs) (ev x)) (aL bk fs) o with
 |.ok needs v wr=>.ok needs v (fs++wr)
 |.call f args sh _=>.call f args sh fs
 |x=>x
inductive Loc where
 |tmp (t:Nat) (s:Ty)
 |tmprow (t:Nat) (ety:Nat) (r:Ty)
 |cell (b off:Nat) (s:Ty)
 |cellrow (b off:Nat) (ety:Nat) (r:Ty)
 |inrow (b:Nat) (ety:Nat) (r:Ty)
 deriving DecidableEq
inductive T where
 |stop (at_:Nat) (msg:String)
 |ret (x:RE)
 |need (e:E) (t:T)
 |br (e:E) (a b:T)
 |call (f:Nat) (args:E) (sh:RS) (t:T)
 |loop (lvl:Nat) (inits:E) (sorts:List Ty) (key:Nat×Nat×Nat) (locs:List Loc) (t:T)
 |again (lvl:Nat) (es:E)
 |ext (f:Nat) (ks vs:SV) (t:T)
 |join (lvl:Nat) (sorts:List Ty) (a b:T)
def fN{α:Type}(n:Nat)(k:Nat->α):α:=Nat.casesOn n (k 0) fun m=>k (m+1)
theorem pC{α:Type}(n:Nat)(k:Nat->α):fN n k=k n:=by cases n<;>rfl
def fI{α:Type}(n:Int)(k:Int->α):α:=
 match n with
 |.ofNat m=>fN m fun m=>k (.ofNat m)
 |.negSucc m=>fN m fun m=>k (.negSucc m)
theorem MM{α:Type}(n:Int)(k:Int->α):fI n k=k n:=by cases n<;>simp only[fI,pC]
def fB{α:Type}(b:Bool)(k:Bool->α):α:=Bool.casesOn b (k false) (k true)
theorem KG{α:Type}(b:Bool)(k:Bool->α):fB b k=k b:=by cases b<;>rfl
def fE{α:Type}:E->(E->α)->α
 |.v i,k=>fN i fun i=>k (.v i)
 |.int n,k=>fI n fun n=>k (.int n)
 |.bool b,k=>fB b fun b=>k (.bool b)
 |.str s,k=>k (.str s)
 |.oint a n,k=>k (.oint a n)
 |.ii o a b,k=>fE a fun a=>fE b fun b=>k (.ii o a b)
 |.cmp o a b,k=>fE a fun a=>fE b fun b=>k (.cmp o a b)
 |.not a,k=>fE a fun a=>k (.not a)
 |.beq a b,k=>fE a fun a=>fE b fun b=>k (.beq a b)
 |.and a b,k=>fE a fun a=>fE b fun b=>k (.and a b)
 |.seq a b,k=>fE a fun a=>fE b fun b=>k (.seq a b)
 |.len a,k=>fE a fun a=>k (.len a)
 |.slen a,k=>fE a fun a=>k (.slen a)
 |.cell a b n,k=>fE a fun a=>fE b fun b=>fN n fun n=>k (.cell a b n)
 |.rnil,k=>k .rnil
 |.rcons a b,k=>fE a fun a=>fE b fun b=>k (.rcons a b)
 |.lnil,k=>k .lnil
 |.snoc a b,k=>fE a fun a=>fE b fun b=>k (.snoc a b)
 |.app a b,k=>fE a fun a=>fE b fun b=>k (.app a b)
 |.take a b,k=>fE a fun a=>fE b fun b=>k (.take a b)
 |.drop a b,k=>fE a fun a=>fE b fun b=>k (.drop a b)
 |.set a b n c,k=>fE a fun a=>fE b fun b=>fN n fun n=>fE c fun c=>k (.set a b n c)
 |.rep a b,k=>fE a fun a=>fE b fun b=>k (.rep a b)
 |.typed t a,k=>fE a fun a=>k (.typed t a)
 |.cpy a b,k=>fE a fun a=>fE b fun b=>k (.cpy a b)
 |.co t a,k=>fE a fun a=>k (.co t a)
 |.kin i a,k=>fE a fun a=>k (.kin i a)
 |.kout a,k=>fE a fun a=>k (.kout a)
 |.kop o i a b,k=>fE a fun a=>fE b fun b=>k (.kop o i a b)
 |.kcmp o a b,k=>fE a fun a=>fE b fun b=>k (.kcmp o a b)
 |.mget a b,k=>fE a fun a=>fE b fun b=>k (.mget a b)
 |.mhas a b,k=>fE a fun a=>fE b fun b=>k (.mhas a b)
 |.mput a b c,k=>fE a fun a=>fE b fun b=>fE c fun c=>k (.mput a b c)
 |.scat a b,k=>fE a fun a=>fE b fun b=>k (.scat a b)
 |.sidx a b,k=>fE a fun a=>fE b fun b=>k (.sidx a b)
 |.sofb a,k=>fE a fun a=>k (.sofb a)
 |.bofs a,k=>fE a fun a=>k (.bofs a)
theorem uP{α:Type}(e:E)(k:E->α):fE e k=k e:=by
 induction e generalizing k with
 |_=>simp only[fE,pC,MM,KG, *]
def fSV{α:Type}:SV->(SV->α)->α
 |.any,k=>k .any
 |.vi e,k=>fE e fun e=>k (.vi e)
 |.vb e,k=>fE e fun e=>k (.vb e)
 |.vr e,k=>fE e fun e=>k (.vr e)
 |.vs t e,k=>fE e fun e=>k (.vs t e)
 |.ptr b o,k=>fN b fun b=>fN o fun o=>k (.ptr b o)
 |.eptr t l i n,k=>fE l fun l=>fE i fun i=>fN n fun n=>k (.eptr t l i n)
 |.row b,k=>fN b fun b=>k (.row b)
 |.rptr b t i n,k=>fN b fun b=>fE i fun i=>fN n fun n=>k (.rptr b t i n)
 |.rtail b t i,k=>fN b fun b=>fE i fun i=>k (.rtail b t i)
 |.csl b n,k=>fN b fun b=>fN n fun n=>k (.csl b n)
 |.asl b o n,k=>fN b fun b=>fN o fun o=>fN n fun n=>k (.asl b o n)
 |.nilsl,k=>k .nilsl
 |.agg x,k=>fSV x fun x=>k (.agg x)
 |.tup x,k=>fSV x fun x=>k (.tup x)
 |.nil,k=>k .nil
 |.cons x y,k=>fSV x fun x=>fSV y fun y=>k (.cons x y)
 |.fn f x y,k=>fN f fun f=>fSV x fun x=>fSV y fun y=>k (.fn f x y)
 |.yld b,k=>fN b fun b=>k (.yld b)
 |.nilfn,k=>k .nilfn
 |.map b,k=>fN b fun b=>k (.map b)
 |.iface t x,k=>fSV x fun x=>k (.iface t x)
 |.nilif,k=>k .nilif
 |.nilptr,k=>k .nilptr
 |.nilmap,k=>k .nilmap
theorem km{α:Type}(x:SV)(k:SV->α):fSV x k=k x:=by
 induction x generalizing k with
 |_=>simp only[fSV,uP,pC, *]
def fL{α β:Type}(f:α->(α->β)->β):List α->(List α->β)->β
 |[],k=>k []
 |x::l,k=>f x fun x=>fL f l fun l=>k (x::l)
theorem jK{α β:Type}{f:α->(α->β)->β}(h:∀x k,f x k=k x)(l:List α)(k:List α->β):fL f l k=k l:=by
 induction l generalizing k with
 |nil=>rfl
 |cons x l ih=>simp only[fL,h,ih]
def fSB{α:Type}:Option SB->(Option SB->α)->α
 |none,k=>k none
 |some (.cells t x),k=>fSV x fun x=>k (some (.cells t x))
 |some (.row e t l),k=>fE l fun l=>k (some (.row e t l))
 |some (.dead l),k=>fE l fun l=>k (some (.dead l))
 |some (.ice e t l),k=>fE l fun l=>k (some (.ice e t l))
 |some (.loop i st p),k=>k (some (.loop i st p))
 |some (.map x y),k=>fSV x fun x=>fSV y fun y=>k (some (.map x y))
 |some (.amap t l),k=>fE l fun l=>k (some (.amap t l))
 |some (.qrow e t l),k=>fE l fun l=>k (some (.qrow e t l))
theorem IV{α:Type}(x:Option SB)(k:Option SB->α):fSB x k=k x:=by
 cases x with
 |none=>rfl
 |some x=>cases x<;>simp only[fSB,km,uP]
def fS{α β:Type}(l:List α)(k:List α->β):β:=fL (fun x k=>k x) l k
theorem MP{α β:Type}(l:List α)(k:List α->β):fS l k=k l:=jK (fun _ _=>rfl) l k
noncomputable section
structure SS where
 rf:Ov SV
 hp:Ov (Option SB)
 n:Nat
 known:List (E×Bool)
 dep:Nat
def SS.L(σ:SS):Nat:=σ.rf.len
def SS.N(σ:SS):Nat:=σ.hp.len
def SS.tmp(σ:SS)(t:Nat):SV:=σ.rf.get .any t
def SS.blk(σ:SS)(b:Nat):Option SB:=σ.hp.get none b
def SS.tmps(σ:SS):List SV:=σ.rf.list .any
def SS.heap(σ:SS):List (Option SB):=σ.hp.list none
def SS.frame(σ:SS)(l:List SV)(n:Nat):SS:={ σ with rf:=Ov.of l n }
def KN(g:Nat):Option (Ty×E):=
 (globL.find? fun x=>Nd x.1 g&&Na 0 x.2.2.length).map fun x=>(.cons (.num x.2.1) .nil,x.2.2.foldl (fun l n=>.snoc l (.rcons (.oint x.2.1 n) .rnil)) .lnil)
def mA(g:Nat):SV:=
 match KN g with
 |some (t,l)=>.eptr t l (.int 0) 0
 |none=>.any
def SS.ev(σ:SS):Operand->SV
 |.tmp t=>σ.tmp t
 |.const v=>bX v
 |.global g=>mA g
 |.func f=>.fn f .nil .nil
def E.eqb:E->E->Bool
 |.v i,.v j=>Nd i j
 |.int (.ofNat i),.int (.ofNat j)=>Nd i j
 |.int (.negSucc i),.int (.negSucc j)=>Nd i j
 |.bool true,.bool true=>true
 |.bool false,.bool false=>true
 |.ii o a b,.ii o' a' b'=>decide (o=o')&&(E.eqb a a'&&E.eqb b b')
 |.cmp o a b,.cmp o' a' b'=>decide (o=o')&&(E.eqb a a'&&E.eqb b b')
 |.not a,.not a'=>E.eqb a a'
 |.beq a b,.beq a' b'=>E.eqb a a'&&E.eqb b b'
 |.and a b,.and a' b'=>E.eqb a a'&&E.eqb b b'
 |.seq a b,.seq a' b'=>E.eqb a a'&&E.eqb b b'
 |.len a,.len a'=>E.eqb a a'
 |.slen a,.slen a'=>E.eqb a a'
 |.co t a,.co t' a'=>decide (t=t')&&E.eqb a a'
 |.kin k a,.kin k' a'=>decide (k=k')&&E.eqb a a'
 |.kout a,.kout a'=>E.eqb a a'
 |.kcmp o a b,.kcmp o' a' b'=>decide (o=o')&&(E.eqb a a'&&E.eqb b b')
 |.kop o k a b,.kop o' k' a' b'=>decide (o=o')&&(decide (k=k')&&(E.eqb a a'&&E.eqb b b'))
 |.cell a b n,.cell a' b' n'=>Nd n n'&&(E.eqb a a'&&E.eqb b b')
 |.mget a b,.mget a' b'=>E.eqb a a'&&E.eqb b b'
 |.mhas a b,.mhas a' b'=>E.eqb a a'&&E.eqb b b'
 |.scat a b,.scat a' b'=>E.eqb a a'&&E.eqb b b'
 |.sidx a b,.sidx a' b'=>E.eqb a a'&&E.eqb b b'
 |.sofb a,.sofb a'=>E.eqb a a'
 |.bofs a,.bofs a'=>E.eqb a a'
 |a,b=>decide (a=b)
theorem E.eqb_spec:∀(a b:E),E.eqb a b=true->a=b:=by
 intro a;induction a with
 |v i=>intro b h;cases b<;>simp only[E.eqb,decide_eq_true_eq,Nz]at h<;>first|rw[h]|cases h
 |int n=>
  intro b h;cases b with
  |int m=>cases n<;>cases m<;>simp only[E.eqb,decide_eq_true_eq,Nz]at h<;>first|rw[h]|exact h
  |_=>cases n<;>simp only[E.eqb,decide_eq_true_eq]at h<;>cases h
 |bool x=>
  intro b h;cases b with
  |bool y=>cases x<;>cases y<;>first|rfl|(simp only[E.eqb,decide_eq_true_eq]at h;exact h)
  |_=>cases x<;>simp only[E.eqb,decide_eq_true_eq]at h<;>cases h
 |ii o x y ih1 ih2=>intro b h;cases b<;>simp only[E.eqb,M9,decide_eq_true_eq]at h<;>first|(obtain⟨rfl,h1,h2⟩:=h;rw[ih1 _ h1,ih2 _ h2])|cases h
 |cmp o x y ih1 ih2=>intro b h;cases b<;>simp only[E.eqb,M9,decide_eq_true_eq]at h<;>first|(obtain⟨rfl,h1,h2⟩:=h;rw[ih1 _ h1,ih2 _ h2])|cases h
 |not x ih=>intro b h;cases b<;>simp only[E.eqb,decide_eq_true_eq]at h<;>first|rw[ih _ h]|cases h
 |beq x y ih1 ih2=>intro b h;cases b<;>simp only[E.eqb,M9,decide_eq_true_eq]at h<;>first|(obtain⟨h1,h2⟩:=h;rw[ih1 _ h1,ih2 _ h2])|cases h
 |and x y ih1 ih2=>intro b h;cases b<;>simp only[E.eqb,M9,decide_eq_true_eq]at h<;>first|(obtain⟨h1,h2⟩:=h;rw[ih1 _ h1,ih2 _ h2])|cases h
 |seq x y ih1 ih2=>intro b h;cases b<;>simp only[E.eqb,M9,decide_eq_true_eq]at h<;>first|(obtain⟨h1,h2⟩:=h;rw[ih1 _ h1,ih2 _ h2])|cases h
 |len x ih=>intro b h;cases b<;>simp only[E.eqb,decide_eq_true_eq]at h<;>first|rw[ih _ h]|cases h
 |slen x ih=>intro b h;cases b<;>simp only[E.eqb,decide_eq_true_eq]at h<;>first|rw[ih _ h]|cases h
 |co t x ih=>intro b h;cases b<;>simp only[E.eqb,M9,decide_eq_true_eq]at h<;>first|(obtain⟨rfl,h1⟩:=h;rw[ih _ h1])|cases h
 |kin t x ih=>intro b h;cases b<;>simp only[E.eqb,M9,decide_eq_true_eq]at h<;>first|(obtain⟨rfl,h1⟩:=h;rw[ih _ h1])|cases h
 |kout x ih=>intro b h;cases b<;>simp only[E.eqb,decide_eq_true_eq]at h<;>first|rw[ih _ h]|cases h
 |kop o k x y ih1 ih2=>intro b h;cases b<;>simp only[E.eqb,M9,decide_eq_true_eq]at h<;>first|(obtain⟨rfl,rfl,h1,h2⟩:=h;rw[ih1 _ h1,ih2 _ h2])|cases h
 |kcmp o x y ih1 ih2=>intro b h;cases b<;>simp only[E.eqb,M9,decide_eq_true_eq]at h<;>first|(obtain⟨rfl,h1,h2⟩:=h;rw[ih1 _ h1,ih2 _ h2])|cases h
 |mget x y ih1 ih2=>intro b h;cases b<;>simp only[E.eqb,M9,decide_eq_true_eq]at h<;>first|(obtain⟨h1,h2⟩:=h;rw[ih1 _ h1,ih2 _ h2])|cases h
 |mhas x y ih1 ih2=>intro b h;cases b<;>simp only[E.eqb,M9,decide_eq_true_eq]at h<;>first|(obtain⟨h1,h2⟩:=h;rw[ih1 _ h1,ih2 _ h2])|cases h
 |scat x y ih1 ih2=>intro b h;cases b<;>simp only[E.eqb,M9,decide_eq_true_eq]at h<;>first|(obtain⟨h1,h2⟩:=h;rw[ih1 _ h1,ih2 _ h2])|cases h
 |sidx x y ih1 ih2=>intro b h;cases b<;>simp only[E.eqb,M9,decide_eq_true_eq]at h<;>first|(obtain⟨h1,h2⟩:=h;rw[ih1 _ h1,ih2 _ h2])|cases h
 |sofb x ih=>intro b h;cases b<;>simp only[E.eqb,decide_eq_true_eq]at h<;>first|rw[ih _ h]|cases h
 |bofs x ih=>intro b h;cases b<;>simp only[E.eqb,decide_eq_true_eq]at h<;>first|rw[ih _ h]|cases h
 |cell x y n ih1 ih2=>intro b h;cases b<;>simp only[E.eqb,M9,decide_eq_true_eq,Nz]at h<;>first|(obtain⟨rfl,h1,h2⟩:=h;rw[ih1 _ h1,ih2 _ h2])|cases h
 |_=>intro b h;cases b<;>first|rfl|(simp only[E.eqb,decide_eq_true_eq]at h;exact h)
def zA(known:List (E×Bool))(e:E):Option Bool:=
 Nm (motive:=fun _=>Option Bool) none (fun x _ ih=>Nn (motive:=fun _=>Option Bool) ih (some x.2) (E.eqb x.1 e)) known
def GR(known:List (E×Bool))(a:E):Option Int:=
 Nm (motive:=fun _=>Option Int) none (fun x _ ih=>match x with
  |(.cmp .eq b (.int n),true)=>Nn (motive:=fun _=>Option Int) ih (some n) (E.eqb b a)
  |_=>ih) known
def kE(known:List (E×Bool)):E->Option Bool
 |.bool b=>some b
 |.cmp .eq a (.int n)=>(match zA known (.cmp .eq a (.int n))with
  |some b=>some b
  |none=>(GR known a).map fun m=>decide (m=n))
 |.cmp .eq a b=>if E.eqb a b then some true else zA known (.cmp .eq a b)
 |.seq a b=>if E.eqb a b then some true else zA known (.seq a b)
 |.not a=>(kE known a).map (!·)
 |.and x y=>(match kE known x,kE known y with
  |some true,some true=>some true
  |some false,_=>some false
  |_,some false=>some false
  |_,_=>zA known (.and x y))
 |e=>zA known e
def SS.tr(σ:SS)(e:E):Option Bool:=kE σ.known e
def jr(known:List (E×Bool)):E->Bool->List (E×Bool)
 |.not a,b=>jr known a (!b)
 |.and x y,true=>jr (jr known x true) y true
 |e,b=>(e,b)::known
def SS.learn(σ:SS)(e:E)(b:Bool):SS:={ σ with known:=jr σ.known e b }
def SS.write(σ:SS)(wr:List (Nat×Option SB)):SS:={ σ with hp:=Nm (motive:=fun _=>Ov (Option SB)->Ov (Option SB)) (fun h=>h) (fun x _ ih h=>ih (h.set x.1 x.2)) wr σ.hp }
def SS.put(σ:SS)(dst:Option Nat)(v:SV):SS:=
 match dst with
 |some d=>{ σ with rf:=σ.rf.put d v }
 |none=>σ
def hL{α β:Type}(l:List α)(k:List α->β):β:=NI l (k []) fun x l=>NI l (k [x]) fun y l=>NI l (k [x,y]) fun z l=>NI l (k [x,y,z]) fun u l=>k (x::y::z::u::l)
theorem KH{α β:Type}(l:List α)(k:List α->β):hL l k=k l:=by
 match l with
 |[]=>rfl
 |[_]=>rfl
 |[_,_]=>rfl
 |[_,_,_]=>rfl
 |_::_::_::_::_=>rfl
def fO{α β:Type}(r:Ov α)(k:Ov α->β):β:=Ov.casesOn r fun base ov len=>hL ov fun ov=>fN len fun len=>k ⟨base,ov,len⟩
theorem KJ{α β:Type}(r:Ov α)(k:Ov α->β):fO r k=k r:=by cases r;simp only[fO,KH,pC]
def SS.go{α:Type}(σ:SS)(k:SS->α):α:=SS.casesOn σ fun rf hp n known dep=>fO rf fun rf=>fO hp fun hp=>fN n fun n=>hL known fun known=>k { rf,hp,n,known,dep }
theorem SS.go_eq{α:Type}(σ:SS)(k:SS->α):σ.go k=k σ:=by cases σ;simp only[SS.go,KJ,KH,pC]
def SS.pack{α:Type}(σ:SS)(k:SS->α):α:=σ.rf.pack .any fun rf=>σ.hp.pack none fun hp=>k { σ with rf,hp }
theorem SS.pack_spec{α:Type}(σ:SS)(k:SS->α):∃σ':SS,σ.pack k=k σ'/\σ'.L=σ.L/\σ'.N=σ.N/\σ'.n=σ.n/\σ'.known=σ.known/\σ'.dep=σ.dep/\σ'.tmp=σ.tmp/\σ'.blk=σ.blk:=by
 unfold SS.pack;obtain⟨r,h1,h2,h3⟩:=Ov.pack_spec (d:=SV.any) σ.rf (fun rf=>σ.hp.pack none fun hp=>k { σ with rf,hp })
 rw[h1];obtain⟨h,g1,g2,g3⟩:=Ov.pack_spec (d:=(none:Option SB)) σ.hp (fun hp=>k { σ with rf:=r,hp })
 rw[g1];exact⟨_,rfl,h2,g2,rfl,rfl,rfl,funext h3,funext g3⟩
def SS.all{α:Type}(σ:SS)(k:SS->α):α:=fL (fL fSV) σ.rf.base fun tmps=>fL (fL fSB) σ.hp.base fun heap=>fN σ.rf.len fun l=>fN σ.hp.len fun m=>fN σ.n fun n=>fS σ.known fun known=>fN σ.dep fun dep=>k { rf:=⟨tmps,σ.rf.ov,l⟩,hp:=⟨heap,σ.hp.ov,m⟩,n,known,dep }
theorem SS.all_eq{α:Type}(σ:SS)(k:SS->α):σ.all k=k σ:=by simp only[SS.all,jK (jK km),jK (jK IV),MP,pC]
def SS.sc(σ:SS):Bool:=σ.rf.all (·.sc σ.n)&&σ.hp.all (fun b=>b.all (·.sc σ.n))
def fWr{α:Type}(wr:List (Nat×Option SB))(k:List (Nat×Option SB)->α):α:=fL (fun(x:Nat×Option SB) k=>fN x.1 fun b=>fSB x.2 fun y=>k (b,y)) wr k
theorem Jt{α:Type}(wr:List (Nat×Option SB))(k:List (Nat×Option SB)->α):fWr wr k=k wr:=jK (fun x k=>by simp only[pC,IV]) wr k
def T.needs:List E->T->T
 |[],t=>t
 |e::l,t=>.need e (T.needs l t)
inductive How where
 |unroll (n:Nat)
 |peel
 |join (locs:List Loc)
 |inv (locs:List Loc)
structure Cfg where
 loops:List ((Nat×Nat×Nat)×How)
 cons:List Nat
 owns:List (Nat×Nat)
 maps:List (Nat×SV×SV)
def Cfg.how(c:Cfg)(fid id N:Nat):Option How:=(c.loops.find? (fun x=>Nd x.1.1 fid&&Nd x.1.2.1 id&&(Nd x.1.2.2 0||Nd x.1.2.2 N))).map (·.2)
def Cfg.own(c:Cfg)(fid id:Nat):Bool:=c.owns.any fun x=>x.1==fid&&x.2==id
inductive Ex where
 |normal|exit (id:Nat)|ret|panic (v:Value)
def Ex.jmp:Ex->Jmp
 |.normal|.panic _=>.none
 |.ret=>.ret
 |.exit id=>.exit id
def Ex.isPanic:Ex->Bool
 |.panic _=>true
 |_=>false
def dd:Code->Option Nat
 |.region id _ _=>some id
 |.seq a b=>(dd a).or (dd b)
 |.cond _ a b=>(dd a).or (dd b)
 |.block _ a|.loop a|.scope a=>dd a
 |.rangeFunc _ _ a b=>(dd a).or (dd b)
 |_=>none
def qK:Code->List Nat
 |.region _ ops _=>ops.toList.filterMap (·.dst)
 |.seq a b=>qK a++qK b
 |.cond _ a b=>qK a++qK b
 |.block _ a|.loop a|.scope a=>qK a
 |_=>[]
def tO:Code->List (Nat×Nat)
 |.region _ ops _=>ops.toList.filterMap fun o=>o.dst.map (·,o.type)
 |.seq a b=>tO a++tO b
 |.cond _ a b=>tO a++tO b
 |.block _ a|.loop a|.scope a=>tO a
 |_=>[]
def wi(l:List Operand):List Nat:=l.filterMap fun x=>match x with|.tmp t=>some t|_=>none
def uR:Code->List Nat×List Nat->List Nat×List Nat
 |.region _ ops _,s=>ops.toList.foldl (fun s o=>(s.1++(wi o.op.operands.toList).filter (fun t=> !s.2.contains t&& !s.1.contains t),match o.dst with|some d=>d::s.2|none=>s.2)) s
 |.seq a b,s=>uR b (uR a s)
 |.cond c a b,s=>
  let s:=(s.1++(wi [c]).filter (fun t=> !s.2.contains t),s.2)
  let x:=uR a s
  let y:=uR b (x.1,s.2)
  (y.1,x.2.filter y.2.contains)
 |.block _ a,s|.loop a,s|.scope a,s=>((uR a s).1,s.2)
 |.rangeFunc f _ a b,s=>((uR b (uR a (s.1++(wi [f]).filter (fun t=> !s.2.contains t),s.2))).1,s.2)
 |_,s=>s
def SB.same:Option SB->Option SB->Bool
 |none,none=>true
 |some (.cells t x),some (.cells t' x')=>t==t'&&x==x'
 |some (.row e t l),some (.row e' t' l')=>e==e'&&t==t'&&l==l'
 |some (.ice e t l),some (.ice e' t' l')=>e==e'&&t==t'&&l==l'
 |some (.dead l),some (.dead l')=>l==l'
 |some (.map x y),some (.map x' y')=>x==x'&&y==y'
 |some (.amap t l),some (.amap t' l')=>t==t'&&l==l'
 |some (.qrow e t l),some (.qrow e' t' l')=>e==e'&&t==t'&&l==l'
 |_,_=>false
def m7:Option SB->Bool
 |some (.loop _ _ _)=>false
 |_=>true
abbrev Run:=Option Nat->Nat->Code->(Ex->SS->T)->SS->T
section
variable (P:Program) (cfg:Cfg) (run:Run)
def SS.eff(σ:SS)(o:Oper)(v:SV)(wr:List (Nat×Option SB)):SS:=(σ.write wr).put o.dst v
def bm(ops:Array Oper)(o:Oper):List Nat:=
 (o.op.operands.toList.filterMap fun x=>match x with|.tmp t=>some t|_=>none)++(match o.guard with|some (j,_)=>((ops[j]?).bind (·.dst)).toList|none=>[])
def bx(ev:Operand->SV)(o:Oper):List Nat:=o.op.operands.toList.flatMap fun x=>(ev x).names
structure Seen where
 rt:List Nat
 rb:List Nat
 dst:Option Nat
 wb:List Nat
 rh:List (Nat×E):=[]
 fb:List Nat:=[]
def bG(acc:List Nat)(o:Oper):Nat:=o.after.toList.foldl (fun s e=>if Region.binds .any e then s ||| 2 ^ e.on ||| acc.getD e.on 0 else s) 0
def cY:List Oper->List Nat->List Nat
 |[],acc=>acc
 |o::os,acc=>cY os (acc++[bG acc o])
def Seen.apart(x y:Seen):Bool:=
 x.dst.all (fun d=> !y.rt.contains d)&&y.dst.all (fun d=> !x.rt.contains d)&&x.wb.all (fun b=> !y.rb.contains b&& !y.wb.contains b)&&x.rb.all (fun b=> !y.wb.contains b)
def nM(ms:List Nat)(l:List Seen):Bool:=
 l.zipIdx.all fun(y,j)=>l.zipIdx.all fun(x,i)=> !decide (i<j)||((x.dst.isNone||x.dst !=y.dst)&&((ms.getD j 0).testBit i||x.apart y))
def iU(l:List Oper):Bool:=l.zipIdx.all fun(o,i)=>o.after.toList.all fun e=> !Region.binds .any e||decide (e.on<i)
def tN:List Nat->Bool
 |[]=>true
 |x::l=> !l.contains x&&tN l
def xx(σ:SS)(o:Oper)(v:SV)(wr:List (Nat×Option SB)):Bool:=
 let ft:=bx σ.ev o
 let al:=ft++ft.flatMap (fun b=>match σ.blk b with|some x=>x.names|none=>[])++wr.map (·.1)
 v.names.all al.contains&&wr.all (fun x=>((ft.contains x.1&&decide (x.1<σ.N))||x.1==σ.N)&&m7 x.2&&(match x.2 with|some y=>y.names.all al.contains|none=>true))
def ut(σ:SS)(o:Oper):Bool:=match o.dst with|none=>true|some d=>Na d σ.L
def SB.below(N:Nat):SB->Bool
 |.cells _ x=>x.names.all fun b=>Na b N
 |.map x y=>(x.names.all fun b=>Na b N)&&y.names.all fun b=>Na b N
 |.loop i _ _=>i.rf.all fun v=>v.names.all fun b=>Na b N
 |_=>true
def SS.closed(σ:SS):Bool:=σ.hp.all fun x=>x.all (SB.below σ.N)
theorem SS.closed_spec{σ:SS}(h:σ.closed=true){b:Nat}{x:SB}(hx:σ.blk b=some x):∀c∈x.names,c<σ.N:=by
 have h1:(σ.blk b).all (SB.below σ.N)=true:=Ov.all_spec (r:=σ.hp) h rfl b
 rw[hx]at h1;intro c hc;cases x with
 |cells t y=>exact ga (List.all_eq_true.1 h1 c hc)
 |map y z=>
  have h2:((y.names.all fun b=>Na b σ.N)&&z.names.all fun b=>Na b σ.N)=true:=h1
  rw[M9]at h2;rcases List.mem_append.1 hc with hc|hc
  ·exact ga (List.all_eq_true.1 h2.1 c hc)
  ·exact ga (List.all_eq_true.1 h2.2 c hc)
 |loop i st p=>
  obtain⟨t,_,hc⟩:=List.mem_flatMap.1 hc;exact ga (List.all_eq_true.1 (Ov.all_spec (r:=i.rf) (f:=fun v=>v.names.all fun b=>Na b σ.N) h1 rfl t) c hc)
 |_=>cases hc
def LY(n:Nat)(wr:List (Nat×Option SB)):Bool:=wr.all fun x=>x.2.all (·.sc n)
def j8(σ σ':SS):List Nat:=(Ng σ'.N).filter fun b=>decide (σ.N<=b)|| !SB.same (σ.blk b) (σ'.blk b)
def SS.okSV(σ:SS)(v:SV):Bool:=v.sc σ.n&&v.names.all fun b=>Na b σ.N
def eO:List SV->SV
 |[v]=>v
 |vs=>.tup (.of vs)
def xm(σ:SS)(ty b:Nat)(k:IntKind):Option SV:=
 match σ.blk b with
 |some (.row _ ty' l)=>if ty'=cx k/\bE P ty=true then some (.agg (eE k l 0 (P.cellsOf ty)))else none
 |_=>none
def B4(σ:SS)(ty b:Nat):List E:=
 match σ.blk b with
 |some (.row _ _ l)=>aG (.cmp' .le (.int (P.cellsOf ty:Int)) l.len')
 |_=>[]
def uJ(σ:SS)(ty:Nat)(x:SV):Option SV:=
 if aP P ty then
  match x with
  |.ptr b off=>(match σ.blk b with
   |some (.cells _ xs)=>if off+P.cellsOf ty<=xs.len then(if bE P ty then some (.agg (xs.cut off (P.cellsOf ty)))else(match xs.cut off 1 with|.cons x .nil=>some x|_=>none))else none
   |_=>none)
  |.rptr b (.cons (.num k) .nil) (.int (.ofNat 0)) 0=>xm P σ ty b k
  |_=>none else none
def EX(σ:SS)(ty:Nat)(x:SV):List E:=
 match x with
 |.rptr b _ _ _=>B4 P σ ty b
 |_=>[]
def fA(σ:SS):List ResultVar->List E
 |[]=>[]
 |.tmp _::l=>fA σ l
 |.cell a ty::l=>EX P σ ty (σ.tmp a)++fA σ l
def dO(σ:SS):List ResultVar->Option (List SV)
 |[]=>some []
 |.tmp t::l=>(dO σ l).map (σ.tmp t::·)
 |.cell a ty::l=>(match uJ P σ ty (σ.tmp a),dO σ l with|some v,some vs=>some (v::vs)|_,_=>none)
def nW(id:Nat)(σ:SS)(o:Oper)(k:SS->Seen->T)(rt:List Nat)(v:SV)(σ':SS):T:=
 if ut σ o then
  (({ σ' with rf:=σ.rf }:SS).put o.dst v).go fun σ''=>k σ'' { rt,rb:=Ng σ.N,dst:=o.dst,wb:=j8 σ σ' }
 else .stop id "scope"
def e9:List Nat->List SV->Ov SV->Ov SV
 |t::ts,v::vs,r=>e9 ts vs (r.put t v)
 |_,_,r=>r
def f9(N:Nat):List (Nat×Option SB)->List (Nat×Option SB)
 |[]=>[]
 |wr=>(N,none)::wr
def Ad(σ:SS)(o:Oper)(v:SV)(wr:List (Nat×Option SB)):Option (List (Nat×E)):=
 match wr with
 | []=>
  (match o.op with
  |.move x=>(match σ.ev x,v with
   |.row b,.row c=>if Nd b c then some []else none
   |_,_=>none)
  | .indexAddr _ x _=>(match σ.ev x,v with
   |.row b,.rptr c _ _ _=>(match σ.blk b with
    |some (.row _ _ l)=>if Nd b c then some [(b,l.len')]else none
    |_=>none)
   |_,_=>none)
  |_=>none)
 |_=>none
def rx(σ:SS)(o:Oper)(v:SV)(wr:List (Nat×Option SB))(rt:List Nat):Seen:=
 match Ad σ o v wr with
 |some rh=>{ rt,rb:=[],dst:=o.dst,wb:=[],rh,fb:=bx σ.ev o }
 |none=>{ rt,rb:=bx σ.ev o,dst:=o.dst,wb:=(f9 σ.N wr).map (·.1) }
def oQ(h0:Ov (Option SB))(l:List Seen):Bool:=l.all fun s=>s.rh.all fun x=>match h0.get none x.1 with
 |some (.row _ _ l)=>E.eqb l.len' x.2
 |_=>false
def Seen.fix(h0:Ov (Option SB))(s:Seen):Seen:=if oQ h0 [s]then s else{ s with rb:=s.fb,rh:=[] }
def Hm(id:Nat)(σ:SS)(o:Oper)(needs:List E)(v:SV)(wr:List (Nat×Option SB))(k:SS->Seen->T)(rt:List Nat):T:=
 fL fE needs fun needs=>fSV v fun v=>fWr wr fun wr=>fL fE (needs.filter (fun e=>σ.tr e !=some true)) fun nd=>
  if nd.all (·.sc σ.n)&&v.sc σ.n&&LY σ.n wr&&xx σ o v wr&&ut σ o then
   T.needs nd (((nd.foldl (fun σ e=>σ.learn e true) σ).eff o v (f9 σ.N wr)).go fun σ'=>k σ' (rx σ o v wr rt))else .stop id "scope"
def B7(id:Nat)(σ:SS)(o:Oper)(f:Nat)(args:E)(sh:RS)(wr:List (Nat×Option SB))(k:SS->Seen->T)(rt:List Nat):T:=
 if args.sc σ.n&&ut σ o&&LY σ.n wr&&wr.all (fun x=>(bx σ.ev o).contains x.1&&Na x.1 σ.N&&m7 x.2&&(match x.2 with|some y=>y.names.isEmpty|none=>true))then
  fE args fun args=>fSV (mkRes sh σ.n σ.N).1 fun v=>fWr (wr++(mkRes sh σ.n σ.N).2) fun wr=>
  .call f args sh (SS.go (({ σ with n:=σ.n+(mkRes.RS.cnt sh).1 }:SS).eff o v wr) fun σ'=>k σ' { rt,rb:=bx σ.ev o,dst:=o.dst,wb:=wr.map Prod.fst })else .stop id "scope"
def IA(id:Nat)(σ:SS)(o:Oper)(f:Nat)(vs:List SV)(ks vs':SV)(k:SS->Seen->T)(rt:List Nat):T:=
 if vs.isEmpty&&ks.names.isEmpty&&vs'.names.isEmpty&&ks.sc 0&&vs'.sc 0&&ut σ o then
  .ext f ks vs' ((σ.eff o (.map σ.N) [(σ.N,some (.map ks vs'))]).go fun σ'=>k σ' { rt,rb:=bx σ.ev o,dst:=o.dst,wb:=[σ.N] })else .stop id "a map"
def Iz(id:Nat)(σ:SS)(o:Oper)(f:Nat)(vs:List SV)(fn:Func)(c:Code)(k:SS->Seen->T)(kp:Value->SS->T)(rt:List Nat):T:=
 fL fSV vs fun vs=>if vs.all σ.okSV&&σ.closed&&(bx σ.ev o).all (fun b=>Na b σ.N)then
  run none f c (fun ex σ'=>match ex with
   |.exit _=>.stop id "exit"
   |.panic v=>(({ σ' with rf:=σ.rf }:SS)).go fun σ''=>kp v σ''
   |_=>if(fA P σ' fn.results.toList).all (·.sc σ'.n)then T.needs (fA P σ' fn.results.toList) (match dO P σ' fn.results.toList with
    |some us=>fSV (eO us) fun v=>nW id σ o k rt v σ'
    |none=>.stop id "results")else .stop id "results scope") (σ.frame vs fn.ntmps)else .stop id "the way in"
def DH(id:Nat)(σ:SS)(o:Oper)(b:Nat)(vs:List SV)(k:SS->Seen->T)(rt:List Nat):T:=
 match σ.blk b with
 | some (.loop i .ready .none)=>
  if vs.all σ.okSV&&σ.closed&&(bx σ.ev o).all (fun b=>Na b σ.N)&&vs.length==i.params.size&&i.params.toList.all (fun t=>Na t i.rf.len)then
   fL fSV vs fun vs=>fO (e9 i.params.toList vs i.rf) fun rf=>run (some b) i.fn i.assign (fun ex σ₁=>match ex,σ₁.blk b with
    | .normal,some (.loop i₁ .ready .none)=>
     (σ₁.write [(b,some (.loop i₁ .busy .none))]).go fun σ₁=>run (some b) i.fn i.body (fun ex₂ σ₂=>if ex₂.isPanic then .stop id "a panic in a round" else match σ₂.blk b with
      |some (.loop i₂ .busy .none)=>fB (ex₂.jmp==.none) fun x=>(σ₂.write [(b,some (.loop i₂ (if x then .ready else .done) ex₂.jmp))]).go fun σ₂=>nW id σ o k rt (.vb (.bool x)) σ₂
      |_=>.stop id "the end of the round") σ₁
    |_,_=>.stop id "the begin of the round") { σ with rf }
  else .stop id "the way into a round"
 |_=>.stop id "yield"
def fin(id:Nat)(σ:SS)(o:Oper)(x:Out)(k:SS->Seen->T)(kp:Value->SS->T)(rt:List Nat):T:=
 match x with
 |.no m=>.stop id m
 |.panic v=>kp v σ
 |.br _=>.stop id "a test that is not decided"
 |.ok needs v wr=>Hm id σ o needs v wr k rt
 |.call f args sh wr=>B7 id σ o f args sh wr k rt
 | .inl f vs=>
  (match P.funcs[f]? with
  |some fn=>
   (match (cfg.maps.find? (·.1==f)).map (·.2),fn.body with
   |some (ks,vs'),_=>IA id σ o f vs ks vs' k rt
   |none,some c=>Iz P run id σ o f vs fn c k kp rt
   |none,none=>.stop id "body")
  |none=>.stop id "function")
 |.yld b vs=>DH run id σ o b vs k rt
def wA(fid id:Nat)(o:Oper)(k:SS->Seen->T)(kp:Value->SS->T)(rt:List Nat):Nat->SS->T
 |0,_=>.stop id "too many tests"
 |n+1,σ=>
  match cr P cfg.cons.contains (cfg.own fid id) σ.tr σ.N σ.ev σ.blk o with
  |.br c=>if c.sc σ.n then .br c (wA fid id o k kp rt n (σ.learn c true)) (wA fid id o k kp rt n (σ.learn c false))else .stop id "scope"
  |x=>fin P cfg run id σ o x k kp rt
def tB(σ:SS)(o:Oper)(k:SS->Seen->T)(rt:List Nat):T:=
 if ut σ o then k (σ.put o.dst .nil) { rt,rb:=[],dst:=o.dst,wb:=[] }else .stop 0 "scope"
def HL(fid id:Nat)(ops:Array Oper)(o:Oper)(σ:SS)(k:SS->Seen->T)(kp:Value->SS->T):T:=
 let rt:=bm ops o
 match o.guard with
 |none=>wA P cfg run fid id o k kp rt 16 σ
 | some (j,want)=>
  match ((ops[j]?).bind (·.dst)).map σ.tmp with
  |some (.vb e)=>
   (match σ.tr e with
   |some t=>if t=want then wA P cfg run fid id o k kp rt 16 σ else tB σ o k rt
   |none=>if e.sc σ.n then .br e (if want then wA P cfg run fid id o k kp rt 16 (σ.learn e true)else tB (σ.learn e true) o k rt) (if want then tB (σ.learn e false) o k rt else wA P cfg run fid id o k kp rt 16 (σ.learn e false))else .stop id "scope")
  |some .nil=>tB σ o k rt
  |_=>.stop id "guard"
def Jx(ops:Array Oper)(draw:Bool)(h0:Ov (Option SB))(rest:List Oper)(seen:List Seen):Bool:=
 rest.isEmpty&&(!draw||(nM (cY ops.toList []) seen.reverse&&iU ops.toList&&oQ h0 seen&&(Ng seen.length).all fun i=>((cY ops.toList []).getD seen.length 0).testBit i))
def qN(fid id:Nat)(ops:Array Oper)(draw:Bool)(h0:Ov (Option SB)):List Oper->SS->List Seen->(SS->T)->(Value->SS->T)->T
 |[],σ,seen,k,_=>if !draw||(nM (cY ops.toList []) seen.reverse&&iU ops.toList&&oQ h0 seen)then k σ else .stop id "the order of the operations"
 |o::rest,σ,seen,k,kp=>HL P cfg run fid id ops o σ (fun σ' s=>qN fid id ops draw h0 rest σ' (s.fix h0::seen) k kp) (fun v σ'=>if Jx ops draw h0 rest seen then kp v σ' else .stop id "a panic")
def Mn(σ:SS)(ops:List Oper):List Nat:=
 ops.flatMap fun o=>match o.op with
  |.slice _ (.tmp t) none _ (some _)=>ops.flatMap fun p=>match p.dst,p.op with
   |some d,.move y=>if Nd d t then aW σ.blk (σ.ev y)else[]
   |_,_=>[]
  |_=>[]
def wQ(fid id:Nat)(ops:Array Oper)(draw:Bool)(k:Ex->SS->T)(σ:SS):T:=
 match Mn σ ops.toList with
 |[]=>qN P cfg run fid id ops draw σ.hp ops.toList σ [] (fun σ'=>σ'.pack (k .normal)) (fun v σ'=>k (.panic v) σ')
 |b::bs=>(σ.write (bq σ.blk (b::bs))).go fun σ=>qN P cfg run fid id ops draw σ.hp ops.toList σ [] (fun σ'=>σ'.pack (k .normal)) (fun v σ'=>k (.panic v) σ')
def oa(σ:SS)(b off:Nat):Option SV:=
 match σ.blk b with
 |some (.cells _ xs)=>xs.list[off]?
 |_=>none
def tu(σ:SS)(x:SV)(ety:Nat)(r:Ty):Option (Option Nat×E):=
 match x with
 |.nilsl=>if 0<r.len then some (none,.typed r .lnil)else none
 |.row b=>(match σ.blk b with
  |some (.row a t l)=>if((a=ety/\ety<5000000)\/a+5000000=ety)/\t=r then some (some b,.typed r l)else none
  |some (.qrow a t l)=>if a+5000000=ety/\t=r then some (some b,.typed r l)else none
  |_=>none)
 |_=>none
def rq(x:SV)(s:Ty):Option E:=
 match x,s with
 |.nilsl,.sl r=>some (.typed r .lnil)
 |x,s=>(match x.leaf with|some (e,u)=>if u=s then some e else none|none=>none)
def cC(σ:SS):Loc->Option (Option Nat×E)
 |.tmp t s=>(match rq (nz σ.blk (σ.tmp t)) s with|some e=>some (none,e)|none=>none)
 |.tmprow t ety r=>tu σ (σ.tmp t) ety r
 |.cell b off s=>(match (oa σ b off).bind (fun x=>rq (nz σ.blk x) s)with|some e=>some (none,e)|none=>none)
 |.cellrow b off ety r=>(oa σ b off).bind fun v=>tu σ v ety r
 |.inrow b ety r=>(match σ.blk b with
  |some (.row a t l)=>if a=ety/\t=r/\ety≠4000000 then some (none,.typed r l)else none
  |some (.amap t l)=>if ety=4000000/\t=r then some (none,.typed r l)else none
  |_=>none)
def BA{α:Type}:Loc->(Loc->α)->α
 |.tmp t s,k=>fN t fun t=>k (.tmp t s)
 |.tmprow t e r,k=>fN t fun t=>k (.tmprow t e r)
 |.cell b o s,k=>fN b fun b=>fN o fun o=>k (.cell b o s)
 |.cellrow b o e r,k=>fN b fun b=>fN o fun o=>k (.cellrow b o e r)
 |.inrow b e r,k=>fN b fun b=>k (.inrow b e r)
theorem Lb{α:Type}(x:Loc)(k:Loc->α):BA x k=k x:=by cases x<;>simp only[BA,pC]
def kG(σ:SS):List Loc->Option (List (Option Nat)×E)
 |[]=>some ([],.rnil)
 |x::l=>(match cC σ x,kG σ l with|some (b,e),some (bs,es)=>some (b::bs,.rcons e es)|_,_=>none)
def Loc.sort:Loc->Ty
 |.tmp _ s|.cell _ _ s=>s
 |.tmprow _ _ r|.cellrow _ _ _ r|.inrow _ _ r=>.sl r
def Loc.letter(n m:Nat):Loc->SV
 |.tmp _ s|.cell _ _ s=>(eN (.v n) s).getD .any
 |.tmprow _ _ _|.cellrow _ _ _ _=>.row m
 |.inrow b _ _=>.row b
def jG(e:Nat)(r:Ty)(l:E):SB:=if 5000000<=e then .qrow (e-5000000) r l else .row e r l
def Loc.block(n:Nat):Loc->Option SB
 |.tmprow _ e r|.cellrow _ _ e r=>some (jG e r (.v n))
 |_=>none
def Loc.isTmp(t:Nat):Loc->Bool
 |.tmp u _|.tmprow u _ _=>u==t
 |_=>false
def Loc.isCell(b off:Nat):Loc->Bool
 |.cell c o _|.cellrow c o _ _=>c==b&&o==off
 |_=>false
def Loc.isIn(b:Nat):Loc->Bool
 |.inrow c _ _=>c==b
 |_=>false
def dN(p:Loc->Bool):List Loc->Nat->Nat->Option SV
 |[],_,_=>none
 |x::l,n,m=>if p x then some (x.letter n m)else dN p l (n+1) (m+1)
def gM(b:Nat):List Loc->Nat->Option SB
 |[],_=>none
 |.inrow c e r::l,n=>if c=b then some (if e=4000000 then .amap r (.v n)else .row e r (.v n))else gM b l (n+1)
 |_::l,n=>gM b l (n+1)
def tH(locs:List Loc)(σ:SS)(t:Nat):SV:=(dN (·.isTmp t) locs σ.n σ.N).getD (σ.tmp t)
def gU(locs:List Loc)(σ:SS)(b:Nat):Nat->List SV->List SV
 |_,[]=>[]
 |off,x::l=>(dN (·.isCell b off) locs σ.n σ.N).getD x::gU locs σ b (off+1) l
def tP(locs:List Loc)(taken:List (Option Nat))(σ:SS)(b:Nat):Option SB:=
 if b<σ.N then
  (if taken.contains (some b)then none else match gM b locs σ.n with
   |some y=>some y
   |none=>(match σ.blk b with
    |some (.cells ty xs)=>some (.cells ty (.of (gU locs σ b 0 xs.list)))
    |some (.dead _)=>none
    |x=>x))else(locs[b-σ.N]?).bind fun x=>x.block (σ.n+(b-σ.N))
def eh(locs:List Loc)(taken:List (Option Nat))(σ:SS):SS:=
 { σ with rf:=Ov.fn σ.L (tH locs σ),hp:=Ov.fn (σ.N+locs.length) (tP locs taken σ),n:=σ.n+locs.length }
def kU:List (Option Nat)->Bool
 |[]=>true
 |none::l=>kU l
 |some b::l=> !l.contains (some b)&&kU l
def uO(locs:List Loc)(n N b:Nat):Nat->List SV->List SV->Bool
 |_,[],[]=>true
 |off,x::l,y::m=>(locs.any (·.isCell b off)||(x==y&&x.sc n&&x.names.all fun c=>decide (c<N)))&&uO locs n N b (off+1) l m
 |_,_,_=>false
def bF(locs:List Loc)(n N b:Nat)(x:SB)(y:Option SB):Bool:=
 match x,y with
 |.row e t l,some (.row e' t' l')=>e==e'&&t==t'&&(locs.any (·.isIn b)||(l==l'&&l.sc n))
 |.qrow e t l,some (.qrow e' t' l')=>e==e'&&t==t'&&l==l'&&l.sc n
 |.amap t l,some (.amap t' l')=>t==t'&&(locs.any (·.isIn b)||(l==l'&&l.sc n))
 |.ice e t l,some (.ice e' t' l')=>e==e'&&t==t'&&l==l'&&l.sc n
 |.map ks vs,some (.map ks' vs')=>ks==ks'&&vs==vs'&&ks.sc n&&vs.sc n&&(ks.names++vs.names).all fun c=>decide (c<N)
 |.loop i st p,some (.loop _ st' p')=>st==st'&&p==p'&&i.rf.all (·.sc n)&&(i.rf.flat SV.names).all fun c=>Na c N
 |.cells ty xs,some (.cells ty' ys)=>ty==ty'&&xs.proper&&uO locs n N b 0 xs.list ys.list
 |_,_=>false
def BT(locs:List Loc)(n N:Nat)(h σ:SS)(rows:List (Option Nat)):Bool:=
 h.L==σ.L&&kU rows &&
 (Ng h.L).all (fun t=>locs.any (·.isTmp t)||h.tmp t==.any||(h.tmp t==σ.tmp t&&(h.tmp t).sc n&&(h.tmp t).names.all fun b=>decide (b<N))) &&
 (Ng N).all (fun b=>match h.blk b with
  |none=>true
  |some x=> !rows.contains (some b)&&bF locs n N b x (σ.blk b))
def forget(ds:List Nat)(locs:List Loc)(σ:SS):SS:=ds.foldl (fun σ d=>if locs.any (·.isTmp d)then σ else σ.put (some d) .any) σ
def Ce:Nat->Nat->List Nat
 |0,t=>[t]
 |d+1,t=>
  match P.underlying t with
  |some (.struct fs)=>fs.toList.flatMap fun f=>Ce d f.type
  |some (.array n e)=>(Nt n (Ce d e)).flatten
  |_=>[t]
def SS.allNames(σ:SS):List Nat:=σ.tmps.flatMap (·.names)++σ.heap.flatMap fun x=>match x with|some y=>y.names|none=>[]
def GH(sh:Bool)(σ:SS)(all:List Nat)(p:Nat)(off:Option Nat)(ty:Nat)(x:SV):List Loc:=
 let one (s:Ty):List Loc:=[match off with|none=>.tmp p s|some o=>.cell p o s]
 let arow (e:Nat) (r:Ty):List Loc:=[match off with|none=>.tmprow p e r|some o=>.cellrow p o e r]
 match nz σ.blk x with
 |.vi _=>one .int
 |.vb _=>one .bool
 |.vr e=>(match AB e with|some t=>one t|none=>[])
 |.vs t _=>one (.sl t)
 |.row b=>(match σ.blk b with
  |some (.row e r _)=>if all.count b=1 then arow e r else if sh then one (.sl r)else[]
  |some (.qrow e r _)=>if all.count b=1 then arow (e+5000000) r else[]
  |_=>[])
 |.nilsl=>(match aZ P ty with
  |some (e,r)=>arow e r
  |none=>[])
 |_=>[]
def CK(sh:Bool)(σ:SS)(all:List Nat)(b:Nat):Nat->List Nat->List SV->List Loc
 |o,t::ts,x::xs=>GH P sh σ all b (some o) t x++CK sh σ all b (o+1) ts xs
 |_,_,_=>[]
def ED(sh:Bool)(Be:Nat->Bool)(c:Code)(σ:SS):List Loc:=
 let all:=σ.allNames
 let ds:=(tO c).foldl (fun l x=>if l.any (·.1==x.1)then l else l++[x]) []
 let ex:=(uR c ([],[])).1
 let l1:=ds.flatMap fun x=>if Be x.1||ex.contains x.1 then GH P sh σ all x.1 none x.2 (σ.tmp x.1)else[]
 let l2:=(Ng σ.N).flatMap fun b=>match σ.blk b with
  |some (.cells ty xs)=>CK P sh σ all b 0 (Ce P 12 ty) xs.list
  |some (.row e r _)=>if all.count b=1&&(l1.any fun x=>match x with|.tmprow t _ _=>σ.tmp t==.row b|_=>false)then[]else
   (if all.count b=1&&σ.heap.any (fun y=>match y with|some (.cells _ xs)=>xs.list.contains (.row b)|_=>false)then[]else if all.contains b&& !(sh&&all.count b !=1)then[.inrow b e r]else[])
  |some (.amap t _)=>if all.contains b then[.inrow b 4000000 t]else[]
  |_=>[]
 l1++l2
def KF:E->List E
 |.rcons x xs=>x::KF xs
 |_=>[]
def DX(n:Nat):E->Bool
 |.v i=>i==n
 |.typed _ e|.co _ e=>DX n e
 |_=>false
def turns(lvl n k:Nat):T->List Nat->List Nat
 |.need _ t,acc=>turns lvl n k t acc
 |.br _ a b,acc|.join _ _ a b,acc=>turns lvl n k b (turns lvl n k a acc)
 |.call _ _ _ t,acc|.loop _ _ _ _ _ t,acc|.ext _ _ _ t,acc=>turns lvl n k t acc
 | .again l es,acc=>if l=lvl then
   (Ng k).foldl (fun acc i=>if acc.contains i then acc else match (KF es)[i]? with
    |some e=>if DX (n+i) e then acc else i::acc
    |none=>i::acc) acc else acc
 |_,acc=>acc
def L9(σ:SS):Loc->Bool
 |.tmprow t _ r=>(match nz σ.blk (σ.tmp t)with|.vs u _=>u==r|_=>false)
 |.cellrow b off _ r=>(match oa σ b off with|some x=>(match nz σ.blk x with|.vs u _=>u==r|_=>false)|none=>false)
 |_=>false
def Loc.read:Loc->Loc
 |.tmprow t _ r=>.tmp t (.sl r)
 |.cellrow b off _ r=>.cell b off (.sl r)
 |x=>x
def Gm(σ:SS):List Loc->E
 |[]=>.rnil
 |x::l=>.rcons (if L9 σ x then .str []else match cC σ x with|some (_,e)=>e|none=>.rnil) (Gm σ l)
def Me:E->Bool
 |.str []=>true
 |_=>false
def xL(lvl:Nat):T->List Nat->List Nat
 |.need _ t,acc=>xL lvl t acc
 |.br _ a b,acc|.join _ _ a b,acc=>xL lvl b (xL lvl a acc)
 |.call _ _ _ t,acc|.loop _ _ _ _ _ t,acc|.ext _ _ _ t,acc=>xL lvl t acc
 |.again l es,acc=>if l=lvl then((KF es).zipIdx.filter fun x=>Me x.1).map (·.2)++acc else acc
 |_,acc=>acc
def Lt(locs:List Loc)(σ:SS)(k:List (Option Nat)->E->SS->T):T:=
 match kG σ locs with
 |none=>.stop 0 "the state of the loop"
 |some (taken,es)=>k taken es (eh locs taken σ)
def Be(fid t:Nat):Bool:=match P.funcs[fid]? with|some fn=>(match fn.tmpNames[t]? with|some s=>s.utf8ByteSize !=0|none=>false)|none=>false
def rS:Code->List Nat
 |.region id ops d=>(uR (.region id ops d) ([],[])).1
 |.seq a b=>rS a++rS b
 |.cond c a b=>wi [c]++(rS a++rS b)
 |.block _ a|.loop a|.scope a=>rS a
 |.rangeFunc f _ a b=>wi [f]++(rS a++rS b)
 |_=>[]
def K5(fid t:Nat):Bool:=match P.funcs[fid]? with|some fn=>(match fn.body with|some c=>(rS c).any fun x=>Nd x t|none=>false)|none=>false
def ug(fid:Nat)(c:Code)(σ:SS):List Nat:=(Ng σ.L).filter fun t=> !Be P fid t&& !K5 P fid t
def J7(locs:List Loc)(σ:SS):List Nat:=
 locs.flatMap fun x=>match x with
  |.tmp t (.sl _)=>aW σ.blk (σ.tmp t)
  |.cell b off (.sl _)=>(match oa σ b off with|some v=>aW σ.blk v|none=>[])
  |_=>[]
def xK(locs:List Loc)(k:SS->T)(σ:SS):T:=
 match J7 locs σ with
 |[]=>k σ
 |b::bs=>(σ.write (bq σ.blk (b::bs))).go k
def rD(locs:List Loc)(k:Ex->SS->T)(e:Ex)(σ:SS):T:=
 match e with
 |.normal=>xK locs (k .normal) σ
 |e=>k e σ
def uM:T->Bool
 |.stop a _=> !Nd a 777777
 |.ext f _ _ t=>Nd f 777777||uM t
 |.need _ t|.call _ _ _ t|.loop _ _ _ _ _ t=>uM t
 |.br _ a b|.join _ _ a b=>uM a||uM b
 |_=>false
def Cf(sh:Bool)(all:List Loc)(body:(Ex->SS->T)->SS->T)(ds:List Nat)(σ:SS):T:=
 (if sh then xK all else fun k σ=>k σ) (fun σ=>(forget ds all σ).go fun σ=>Lt all σ fun _ _ h=>h.all fun h=>body ((if sh then rD all else fun k=>k) (fun e σ'=>match e with
  |.normal=>(match kG σ' all with
   |some (rows,es)=>if BT all σ.n σ.N h σ' rows then .again σ.dep es else .ext 777777 .nil .nil (.again σ.dep es)
   |none=>.ext 777777 .nil .nil (.again σ.dep (if all.any (L9 σ')then Gm σ' all else .rnil)))
  |_=>.stop 777777 "exit")) { h with dep:=σ.dep+1 }) σ
def AR(all:List Loc)(σ:SS)(t:T):List Loc:=
 let is:=turns σ.dep σ.n all.length t []
 let sf:=xL σ.dep t []
 all.zipIdx.filterMap fun x=>if is.contains x.2 then some (if sf.contains x.2 then x.1.read else x.1)else none
def E9(fid:Nat)(c:Code)(body:(Ex->SS->T)->SS->T)(ds ls:List Nat)(σ:SS):List Loc:=
 let all:=ED P false (Be P fid) c (forget ls [] σ)
 let t:=Cf false all body ds σ
 if uM t then
  (let all2:=ED P true (Be P fid) c (forget ls [] σ)
  let t2:=Cf true all2 body ds σ
  if uM t2 then
   (let sf:=xL σ.dep t2 []
   let all3:=all2.zipIdx.map fun x=>if sf.contains x.2 then x.1.read else x.1
   let t3:=Cf true all3 body ds σ
   if uM t3 then AR all σ t else AR all3 σ t3)else AR all2 σ t2)else AR all σ t
def zt(id:Nat)(locs:List Loc)(σ₀ h:SS)(dep:Nat)(body:(Ex->SS->T)->SS->T)(k:Ex->SS->T)(e:Ex)(σ':SS):T:=
 let more:Unit->T:=fun _=>body (fun e σ'=>match e with
  |.normal=>.stop id "the loop turns more"
  |e=>k e { σ' with dep }) σ'
 match e with
 |.normal=>(match kG σ' locs with
  |some (rows,es)=>fE es fun es=>if BT locs σ₀.n σ₀.N h σ' rows&&es.sc σ'.n then .again dep es else more ()
  |none=>more ())
 |e=>k e { σ' with dep }
def pW(fid id N:Nat)(locs:List Loc)(ds:List Nat)(body:(Ex->SS->T)->SS->T)(k:Ex->SS->T)(σ:SS):T:=
 fL BA locs fun locs=>(forget ds locs σ).go fun σ₀=>
 match kG σ₀ locs with
 |none=>.stop id "the state of the loop"
 | some (taken,es)=>fE es fun es=>(eh locs taken σ₀).all fun h=>
  if es.sc σ₀.n&&BT locs σ₀.n σ₀.N h σ₀ taken then
   .loop σ.dep es (locs.map Loc.sort) (fid,id,N) locs (body (zt id locs σ₀ h σ.dep body k) { h with dep:=σ.dep+1 })else .stop id "the head of the loop"
def unroll(id:Nat)(body:(Ex->SS->T)->SS->T)(k:Ex->SS->T)(n:Nat):SS->T:=
 N4 (motive:=fun _=>SS->T) (fun _=>.stop id "unrolled too often")
  (fun _ rest σ=>body (fun e σ'=>match e with|.normal=>rest σ'|e=>k e σ') σ) n
def peel(fid id:Nat)(locs:SS->List Loc)(ds:List Nat)(body:(Ex->SS->T)->SS->T)(k:Ex->SS->T)(σ:SS):T:=
 body (fun e σ'=>match e with|.normal=>pW fid id σ'.N (locs σ') ds body k σ'|e=>k e σ') σ
def KV(σ:SS):Loc->Bool
 |.tmp t _=>(match σ.tmp t with|.any=>false|_=>true)
 |_=>true
def xH(fid id:Nat)(locs:List Loc)(ds:List Nat)(body:(Ex->SS->T)->SS->T)(k:Ex->SS->T)(σ:SS):T:=
 fL BA locs fun locs=>xK locs (pW fid id σ.N locs ds (fun k=>body (rD locs k)) k) σ
def GD(fid:Nat)(c:Code)(body:(Ex->SS->T)->SS->T)(k:Ex->SS->T)(σ:SS):T:=
 let id:=(dd c).getD 0
 match cfg.how fid id σ.N with
 |some (.unroll n)=>unroll id body k n σ
 |some (.join _)=>.stop id "a join"
 |some .peel=>peel fid id (fun σ'=>(E9 P fid c body (qK c++ug P fid c σ') (ug P fid c σ') σ').filter (KV σ)) (qK c++ug P fid c σ) body k σ
 |some (.inv locs)=>xH fid id locs (qK c++ug P fid c σ) body k σ
 |none=>xH fid id (E9 P fid c body (qK c++ug P fid c σ) (ug P fid c σ) σ) (qK c++ug P fid c σ) body k σ
def GI(σ:SS)(locs:List Loc):List (Option Nat):=locs.map fun x=>match cC σ x with|some (b,_)=>b|none=>none
def xp(id:Nat)(locs:List Loc)(σ₀ h:SS)(dep:Nat)(k:Ex->SS->T)(e:Ex)(σ':SS):T:=
 match e with
 |.normal=>(match kG σ' locs with
  |some (rows,es)=>fE es fun es=>if BT locs σ₀.n σ₀.N h σ' rows&&es.sc σ'.n then .again dep es else .stop id "a way does not fit the join"
  |none=>.stop id "a way does not fit the join")
 |e=>k e { σ' with dep }
def BE(id:Nat)(locs:List Loc)(ds:List Nat)(x y:(Ex->SS->T)->SS->T)(k:Ex->SS->T)(σ:SS):T:=
 fL BA locs fun locs=>(forget ds locs σ).go fun σ₀=>(eh locs (GI σ₀ locs) σ₀).all fun h=>
  if σ.sc then .join σ.dep (locs.map Loc.sort) (x (xp id locs σ₀ h σ.dep k) { σ with dep:=σ.dep+1 }) (y k h)else .stop id "the scope of a join"
def MJ:Code->Nat
 |.seq _ _=>1000000
 |_=>1000001
def E8(σ:SS)(b:Nat)(k:Ex->SS->T)(ex:Ex)(σ':SS):T:=
 match ex,σ'.blk b with
 |.exit _,_=>.stop 0 "exit"
 |.panic _,_=>.stop 0 "panic"
 | _,some (.loop _ st p)=>
  if st !=.busy then
   ({ σ'.write [(b,none)]with rf:=σ.rf }:SS).go fun σ₂=>
   (match p with
   |.none=>k .normal σ₂
   |.ret=>k .ret σ₂
   |.exit id=>k (.exit id) σ₂)else .stop 0 "the end of the loop"
 |_,_=>.stop 0 "the record of the loop"
def DO:Option SB->Bool
 |some (.loop _ _ _)=>true
 |_=>false
def zM(ro:Option Nat)(fid:Nat)(g:SV)(ps:Array Tmp)(assign body:Code)(k:Ex->SS->T)(σ:SS):T:=
 match g with
 | .fn f fs xs=>
  (match P.funcs[f]? with
  | some fn=>
   (match fn.body with
   | some c=>
    fL fSV (fs.list++[.yld σ.N]++xs.list) fun vs=>(σ.write [(σ.N,some (.loop ⟨fid,σ.rf,ps,assign,body⟩ .ready .none))]).go fun σ₁=>
    if vs.all σ₁.okSV&&fn.results.isEmpty&&ro.all (fun b=>DO (σ.blk b))then
     run none f c (E8 σ σ.N k) (σ₁.frame vs fn.ntmps)else .stop 0 "the way into a loop"
   |none=>.stop 0 "body")
  |none=>.stop 0 "function")
 |_=>.stop 0 "range over what"
def Gq(c:SV)(x y:SS->T)(σ:SS):T:=
 match c with
 |.vb e=>(match σ.tr e with
  |some true=>x σ
  |some false=>y σ
  |none=>if e.sc σ.n then .br e (x (σ.learn e true)) (y (σ.learn e false))else .stop 0 "cond scope")
 |_=>.stop 0 "cond"
def Gw(id:Nat)(k:Ex->SS->T)(e:Ex)(σ':SS):T:=
 match e with
 |.exit i=>if i=id then k .normal σ' else k e σ'
 |e=>k e σ'
def sym(ro:Option Nat)(fid:Nat):Code->(Ex->SS->T)->SS->T
 |.skip,k,σ=>k .normal σ
 |.region id ops draw,k,σ=>wQ P cfg run fid id ops draw k σ
 |.seq a b,k,σ=>(match cfg.how fid ((dd a).getD 0) (MJ a)with
  |some (.join locs)=>BE ((dd a).getD 0) locs (qK a) (fun k σ=>sym ro fid a k σ) (fun k σ=>sym ro fid b k σ) k σ
  |_=>sym ro fid a (fun e σ'=>match e with|.normal=>sym ro fid b k σ'|e=>k e σ') σ)
 |.cond c x y,k,σ=>Gq (σ.ev c) (sym ro fid x k) (sym ro fid y k) σ
 |.block id c,k,σ=>sym ro fid c (Gw id k) σ
 |.loop c,k,σ=>GD P cfg fid c (fun k σ=>sym ro fid c k σ) k σ
 |.exit id,k,σ=>k (.exit id) σ
 |.ret,k,σ=>k .ret σ
 |.label _,k,σ=>k .normal σ
 |.scope c,k,σ=>sym ro fid c k σ
 |.rangeFunc g ps assign body,k,σ=>zM P run ro fid (σ.ev g) ps assign body k σ
 |_,_,_=>.stop 0 "code"
def dC(σ:SS):SV->RS->Option RE
 |.vi e,.i=>some (.i e)
 |.vb e,.b=>some (.b e)
 |.vr e,.nk k=>if gQ e=some k then some (.nk k e)else none
 |.vr e,.st=>if dV e=true then some (.st e)else none
 |.nilsl,.row a t=>if 0<t.len then some (.row a t .lnil)else none
 |.vs t e,.row a t'=>if given a=true/\t=t' then some (.row a t e)else none
 |.row b,.row a t=>(match σ.blk b with|some (.row a' t' e)=>if a=a'/\t=t'/\given a=false then some (.row a t e)else none|_=>none)
 |.nil,.nil=>some .nil
 |.cons x y,.cons a b=>(match dC σ x a,dC σ y b with|some u,some v=>some (.cons u v)|_,_=>none)
 |.agg x,.agg a=>if x.proper then(dC σ x a).map .agg else none
 |.tup x,.tup a=>if x.proper then(dC σ x a).map .tup else none
 |_,_=>none
def xu(σ:SS)(sh:RS)(v:SV):T:=
 if tN v.names then(match dC σ v sh with|some r=>.ret r|none=>.stop 0 "result")else .stop 0 "a row twice"
def mp(g:Bool)(fn:Func)(σ:SS):T:=
 match yX P g fn.resultTypes.toList,dO P σ fn.results.toList with
 |some sh,some vs=>
  if(fA P σ fn.results.toList).isEmpty=false then .stop 0 "results in an array" else
  if g then xu (σ.write (bq σ.blk (vs.flatMap (aW σ.blk)))) sh (nz (σ.write (bq σ.blk (vs.flatMap (aW σ.blk)))).blk (eO vs))else xu σ sh (eO vs)
 |none,_=>.stop 0 "results type"
 |_,none=>.stop 0 "results value"
def Hw(t:Nat)(n:Nat):Option (SV×Nat):=
 match flat P 12 t with
 |none=>none
 |some ts=>
  let xs:=ts.zipIdx.map fun(s,j)=>eN (if bE P t then .v (n+j)else .v n) s
  if xs.all (·.isSome)then(if bE P t then some (.agg (.of (xs.map (·.getD .any))),n+ts.length)else(match xs with|[some x]=>some (x,n+1)|_=>none))else none
def wZ:List Nat->Nat->Option (List SV×Nat)
 |[],n=>some ([],n)
 |t::ts,n=>(match Hw P t n with|some (x,m)=>(match wZ ts m with|some (l,k)=>some (x::l,k)|none=>none)|none=>none)
end
def yP(P:Program)(cfg:Cfg):Nat->Run
 |0,_,_,_,_,_=>.stop 0 "too deep"
 |n+1,ro,fid,c,k,σ=>sym P cfg (yP P cfg n) ro fid c k σ
structure RecI where
 c0:Code
 id:Nat
 ops:Array Oper
 d:Nat
 g:Nat
 cap:Array Operand
 rest:Code
def AD:List Oper->Option (Nat×Nat×Array Operand)
 |[{ dst:=some d,op:=.makeFunc (.func g) first cap,guard:=none,.. },{ dst:=none,op:=.defer { callee:=.value (.tmp d'),args:=args,.. },guard:=none,.. }]=>if d=d'/\first.size=0/\args.size=0 then some (d,g,cap)else none
 |_=>none
def Ho:Code->Option RecI
 |.seq c0 (.seq (.region id ops false) rest)=>(AD ops.toList).map fun x=>⟨c0,id,ops,x.1,x.2.1,x.2.2,rest⟩
 |_=>none
structure RecG where
 id:Nat
 ops:Array Oper
 r:Nat
 q:Nat
 rest:Code
def xz:List Oper->Option (Nat×Nat)
 |[{ dst:=some r,op:=.call { callee:=.builtin .recover,.. },guard:=none,.. },{ dst:=some q,op:=.assign (.tmp r'),guard:=none,.. }]=>if r=r' then some (r,q)else none
 |_=>none
def B9:Code->Option RecG
 |.seq (.region id ops false) rest=>(xz ops.toList).map fun x=>⟨id,ops,x.1,x.2,rest⟩
 |_=>none
def ct:Value->SV
 |.nilIface=>.nilif
 |.iface t (.agg cs)=>if cs.size=0 then .iface t (.agg .nil)else .any
 |_=>.any
def KS(P:Program)(g:Bool)(fn:Func)(σ2:SS)(e:Ex)(σ4:SS):T:=
 match e with
 |.normal|.ret=>mp P g fn { σ4 with rf:=σ2.rf }
 |_=>.stop 0 "the deferred call"
def um(P:Program)(cfg:Cfg)(g:Bool)(fn:Func)(ri:RecI)(xs:List SV)(σ2:SS)(v:Value):T:=
 match P.funcs[ri.g]? with
 |none=>.stop 0 "the deferred function"
 | some gfn=>
  match gfn.body with
  |none=>.stop 0 "the deferred function's body"
  | some gc=>
   match B9 gc with
   |none=>.stop 0 "no recover"
   | some rg=>
    if gfn.results.size=0/\rg.r<(σ2.frame xs gfn.ntmps).L/\rg.q<(σ2.frame xs gfn.ntmps).L then
     yP P cfg 12 none ri.g rg.rest (KS P g fn σ2) (((σ2.frame xs gfn.ntmps).put (some rg.r) (ct v)).put (some rg.q) (ct v))else .stop 0 "the deferred function's frame"
def Lj(P:Program)(cfg:Cfg)(g:Bool)(fn:Func)(ri:RecI)(xs:List SV)(e:Ex)(σ2:SS):T:=
 match e with
 |.exit _=>.stop 0 "exit"
 |.panic v=>um P cfg g fn ri xs σ2 v
 |_=>um P cfg g fn ri xs σ2 .nilIface
def DK(P:Program)(cfg:Cfg)(g:Bool)(fn:Func)(f:Nat)(ri:RecI)(e:Ex)(σ1:SS):T:=
 match e with
 | .normal=>
  if ri.d<σ1.L then
   fL fSV (ri.cap.toList.map σ1.ev) fun xs=>yP P cfg 12 none f ri.rest (Lj P cfg g fn ri xs) (σ1.put (some ri.d) (.fn ri.g .nil (.of xs)))else .stop 0 "the deferred call's slot"
 |_=>.stop 0 "ahead of the deferred call"
def Ei(P:Program)(cfg:Cfg)(g:Bool)(fn:Func)(f:Nat)(ri:RecI)(σ:SS):T:=yP P cfg 12 none f ri.c0 (DK P cfg g fn f ri) σ
structure CloneI where
 r:Nat
 p:Nat
 q:Nat
 t:Nat
 i0:Nat
 i1:Nat
 i2:Nat
 ops0:Array Oper
 ops1:Array Oper
 ops2:Array Oper
 rest:Code
def xy:List Oper->Option Nat
 |[{ dst:=some r,op:=.assign (.const (.slice none 0 0)),guard:=none,.. }]=>some r
 |_=>none
def zT:List Oper->Option (Nat×Nat×Nat)
 |[{ dst:=some p,op:=.move (.tmp 0),guard:=none,.. },{ dst:=some q,op:=.binOp .eql t (.tmp p') (.const (.slice none 0 0)) _,guard:=none,.. }]=>if p=p' then some (p,q,t)else none
 |_=>none
def tG:Code->Option CloneI
 |.seq (.region i0 ops0 false) (.seq (.seq (.region i1 ops1 false) (.cond (.tmp q) (.seq (.region i2 ops2 false) .ret) .skip)) rest)=>
  (match xy ops0.toList,zT ops1.toList,xy ops2.toList with
  |some r,some (p,q',t),some r'=>if r=r'/\q=q'/\r≠0/\p≠0/\q≠0/\r≠p/\r≠q then some ⟨r,p,q,t,i0,i1,i2,ops0,ops1,ops2,rest⟩else none
  |_,_,_=>none)
 |_=>none
def fZ:E->Bool
 |.v 0|.lnil=>true
 |.app a b=>fZ a&&fZ b
 |.typed _ a|.take a _|.drop a _=>fZ a
 |_=>false
def qB:T->T
 |.ret (.row a t e)=>if given a=false/\fZ e=true/\0<t.len then .ret (.row a t e)else .stop 0 "clone"
 |_=>.stop 0 "clone"
def DE(P:Program)(cfg:Cfg)(fn:Func)(f:Nat)(ci:CloneI)(xs:List SV)(σ:SS):T:=
 match xs,fn.results.toList,P.underlying ci.t with
 | [.vs _ (.v 0)],[.tmp r'],some (.slice _)=>
  if r'=ci.r/\ci.r<σ.L/\ci.p<σ.L/\ci.q<σ.L then
   yP P cfg 12 none f ci.rest (fun e σ'=>match e with|.exit _=>.stop 0 "exit" | .panic _=>.stop 0 "panic" | _=>qB (mp P false fn σ')) σ else .stop 0 "clone's slots"
 |_,_,_=>.stop 0 "clone's argument"
def AA(P:Program)(cfg:Cfg)(f:Nat):T:=
 match P.funcs[f]? with
 |none=>.stop 0 "function"
 | some fn=>
  match fn.body,wZ P fn.params.toList 0 with
  |some c,some (xs,n)=>fL fSV xs fun xs=>fN n fun n=>
   match Ho c with
   |some ri=>Ei P cfg (cfg.cons.contains (f+1000000)) fn f ri { rf:=Ov.of xs fn.ntmps,hp:=⟨[],[],0⟩,n,known:=[],dep:=0 }
   |none=>
   match tG c with
   |some ci=>DE P cfg fn f ci xs { rf:=Ov.of xs fn.ntmps,hp:=⟨[],[],0⟩,n,known:=[],dep:=0 }
   |none=>yP P cfg 12 none f c (fun e σ=>match e with|.exit _=>.stop 0 "exit" | .panic _=>.stop 0 "panic" | _=>mp P (cfg.cons.contains (f+1000000)) fn σ) { rf:=Ov.of xs fn.ntmps,hp:=⟨[],[],0⟩,n,known:=[],dep:=0 }
  |_,_=>.stop 0 "body"
end
open Go.RowKit Go.Dial
def SVden(env:List AV)(κ:Nat->Value)(F:Nat->Prop)(w:World):SV->Value->Prop
 |.any,_=>True
 |.vi e,u=>u=.int .i64 (den env e).i/\(den env e).ty=.int
 |.vb e,u=>u=.bool (den env e).b/\(den env e).ty=.bool
 |.vr e,u=>den env e=.raw u/\aU u=true
 |.vs t e,u=>Den F w u (.sl t (den env e).l)
 |.ptr b off,u=>∃g,κ b=.pointer (some ⟨g,0,none⟩)/\u=.pointer (some ⟨g,off,none⟩)
 |.eptr t l i k,u=>∃a c,Den F w (.slice (some a) (den env l).l.length c) (.sl t (den env l).l)/\0<=(den env i).i/\(den env i).i<(den env l).l.length/\u=.pointer (some (a.add ((den env i).i.toNat*t.len+k)))
 |.row b,u=>u=κ b/\aU u=true
 |.rptr b t i k,u=>∃g o n c,κ b=.slice (some ⟨g,o,none⟩) n c/\0<=(den env i).i/\(den env i).i<n/\u=.pointer (some ((⟨g,o,none⟩:Addr).add ((den env i).i.toNat*t.len+k)))
 |.nilsl,u=>u=.slice none 0 0
 |.agg xs,u=>∃cs,u=.agg cs/\xs.proper=true/\SVden env κ F w xs (.tuple cs)
 |.tup xs,u=>∃cs,u=.tuple cs/\xs.proper=true/\SVden env κ F w xs (.tuple cs)
 |.nil,u=>u=.tuple #[]
 |.cons x xs,u=>∃h t,u=.tuple (h::t).toArray/\SVden env κ F w x h/\SVden env κ F w xs (.tuple t.toArray)
 |.fn f fs xs,u=>∃ds cs,u=.func (.func f) ds cs/\fs.proper=true/\xs.proper=true/\SVden env κ F w fs (.tuple ds)/\SVden env κ F w xs (.tuple cs)
 |.yld b,u=>∃l,κ b=.pointer (some ⟨l,0,none⟩)/\u=.func (.yield l) #[] #[]
 |.nilfn,u=>u=.nilFunc
 |.map b,u=>∃r,κ b=.pointer (some ⟨r,0,none⟩)/\u=.map (some r)
 |.iface t x,u=>∃v,u=.iface t v/\SVden env κ F w x v
 |.nilif,u=>u=.nilIface
 |.nilptr,u=>u=.pointer none
 |.nilmap,u=>u=.map none
 |.rtail b t i,u=>∃g n c,κ b=.slice (some ⟨g,0,none⟩) n c/\0<=(den env i).i/\(den env i).i<n/\u=.slice (some ((⟨g,0,none⟩:Addr).add ((den env i).i.toNat*t.len))) (n-(den env i).i.toNat) (c-(den env i).i.toNat)
 |.csl b n,u=>∃g c,κ b=.pointer (some ⟨g,0,none⟩)/\u=.slice (some ⟨g,0,none⟩) n c
 |.asl b o n,u=>∃g c,κ b=.pointer (some ⟨g,0,none⟩)/\u=.slice (some ⟨g,o,none⟩) n c
def RowsDen(F:Nat->Prop)(w:World)(us:List Value)(t:Ty)(L:List (List AV)):Prop:=
 (∀(i:Nat) r,L[i]?=some r->r.map AV.ty=t.list)/\∀(i:Nat) r (k:Nat) x,L[i]?=some r->r[k]?=some x->∃u,us[i*t.len+k]?=some u/\Den F w u x
def MapDen(env:List AV)(κ:Nat->Value)(F:Nat->Prop)(w:World)(ks vs:SV)(es:List MapEntry):Prop:=
 (∀(i:Nat) k v,ks.list[i]?=some k->vs.list[i]?=some v->∃e∈es,SVden env κ F w k e.key/\SVden env κ F w v e.val) ∧
 (∀e∈es,∃(i:Nat) (k v:SV),ks.list[i]?=some k/\vs.list[i]?=some v/\SVden env κ F w k e.key/\SVden env κ F w v e.val) ∧
 ∀e∈es,∀e'∈es,e.key=e'.key->e.val=e'.val
def iK(w:World)(base:Nat)(e:TypeId)(size:Nat)(v:Value)(n:Nat)(xs:List Value):Prop:=
 xs.length=n*size/\((v=.slice none 0 0/\n=0) ∨
  ∃g o cap cur fz,v=.slice (some ⟨g,o,none⟩) n cap/\base<=g/\w.heap[g]?=some (.cells cur e fz)/\(fz=(0,0)\/cur.size<=fz.1)/\n<=cap/\cap<=maxLen/\o+cap*size<=cur.size/\(cur.toList.drop o).take (n*size)=xs)
def fo(t:Ty)(r:List AV)(e:MapEntry):Prop:=
 (t=.cons .int (.cons .int .nil)/\∃n v,r=[.int n,.int v]/\e.key=.int .i64 n/\e.val=.int .i64 v) ∨
 (t=.cons .int (.cons .int (.cons .int .nil))/\∃n m v,r=[.int n,.int m,.int v]/\e.key=.agg #[.int .i64 n,.int .i64 m]/\e.val=.int .i64 v) ∨
 (∃k,t=.cons .str (.cons (.num k) .nil)/\∃s v,r=[.raw (ar s),.raw (.int k v)]/\e.key=ar s/\e.val=.int k v)
def m4(t:Ty)(L:List (List AV))(es:List MapEntry):Prop:=
 es.length=L.length/\∀(i:Nat) r e,L[i]?=some r->es[i]?=some e->fo t r e
def SBden(env:List AV)(κ:Nat->Value)(F:Nat->Prop)(base:Nat)(w:World)(b:Nat):SB->Prop
 |.cells ty xs=>∃g cs,κ b=.pointer (some ⟨g,0,none⟩)/\w.heap[g]?=some (.cells cs ty (0,0))/\base<=g/\SVden env κ F w xs (.tuple cs)/\xs.proper=true/\∀u∈cs,aU u=true
 |.row ety t l=>∃us,w.ownsRow base ety t.len (κ b) (den env l).l.length us/\0<t.len/\RowsDen F w us t (den env l).l
 |.dead l=>∃A c,κ b=.slice A (den env l).l.length c
 |.ice f t l=>Den F w (κ b) (.sl t (den env l).l)/\(f=1->∃A,κ b=.slice A (den env l).l.length (den env l).l.length)
 |.loop i st p=>∃l r,κ b=.pointer (some ⟨l,0,none⟩)/\w.heap[l]?=some (.loop r)/\base<=l/\r.state=st/\r.pending=p.code/\r.params=i.params/\r.assign=i.assign/\r.body=i.body/\r.tmps.size=i.rf.len/\∀t,SVden env κ F w (i.rf.get .any t) (r.tmps.getD t undef)
 |.map ks vs=>∃r es clock,κ b=.pointer (some ⟨r,0,none⟩)/\w.heap[r]?=some (.map es clock)/\base<=r/\ks.proper=true/\vs.proper=true/\ks.len=vs.len/\MapDen env κ F w ks vs es.toList
 |.qrow ety t l=>∃us,iK w base ety t.len (κ b) (den env l).l.length us/\0<t.len/\RowsDen F w us t (den env l).l
 |.amap t l=>∃r es clock,κ b=.pointer (some ⟨r,0,none⟩)/\w.heap[r]?=some (.map es clock)/\base<=r/\m4 t (den env l).l es.toList
def ai:Value->Option Nat
 |.pointer (some a)=>some a.block
 |.slice (some a) _ _=>some a.block
 |_=>none
variable {env:List AV} {κ κ':Nat->Value} {F F':Nat->Prop} {w w' w0:World}
theorem SVden.keep{x:SV}{u:Value}(h:SVden env κ F w x u)(hκ:∀b∈x.names,κ' b=κ b)(hF:∀k,F k->F' k)(hw:∀k,F k->w'.heap[k]?=w.heap[k]?):SVden env κ' F' w' x u:=by
 induction x generalizing u with
 |vs t e=>exact Den.keep h hw hF
 |ptr b off=>obtain⟨g,h1,h2⟩:=h;exact⟨g,(hκ b (by simp[SV.names])).trans h1,h2⟩
 |eptr t l i k=>obtain⟨a,c,h1,h2⟩:=h;exact⟨a,c,Den.keep h1 hw hF,h2⟩
 |row b=>exact⟨h.1.trans (hκ b (by simp[SV.names])).symm,h.2⟩
 |rptr b t i k=>obtain⟨g,o,n,c,h1,h2⟩:=h;exact⟨g,o,n,c,(hκ b (by simp[SV.names])).trans h1,h2⟩
 |rtail b t i=>obtain⟨g,n,c,h1,h2⟩:=h;exact⟨g,n,c,(hκ b (by simp[SV.names])).trans h1,h2⟩
 |csl b n=>obtain⟨g,c,h1,h2⟩:=h;exact⟨g,c,(hκ b (by simp[SV.names])).trans h1,h2⟩
 |asl b o n=>obtain⟨g,c,h1,h2⟩:=h;exact⟨g,c,(hκ b (by simp[SV.names])).trans h1,h2⟩
 |agg xs ih=>obtain⟨cs,h1,hp,h2⟩:=h;exact⟨cs,h1,hp,ih h2 hκ⟩
 |tup xs ih=>obtain⟨cs,h1,hp,h2⟩:=h;exact⟨cs,h1,hp,ih h2 hκ⟩
 |fn f fs xs ih1 ih2=>
  obtain⟨ds,cs,h1,hp,hq,h2,h3⟩:=h;exact⟨ds,cs,h1,hp,hq,ih1 h2 (fun b hb=>hκ b (Nk _ hb)),ih2 h3 (fun b hb=>hκ b (Nl _ hb))⟩
 |yld b=>obtain⟨l,h1,h2⟩:=h;exact⟨l,(hκ b (by simp[SV.names])).trans h1,h2⟩
 |map b=>obtain⟨l,h1,h2⟩:=h;exact⟨l,(hκ b (by simp[SV.names])).trans h1,h2⟩
 |iface t x ih=>obtain⟨v,h1,h2⟩:=h;exact⟨v,h1,ih h2 hκ⟩
 |cons x xs ih1 ih2=>
  obtain⟨p,q,h1,h2,h3⟩:=h;exact⟨p,q,h1,ih1 h2 (fun b hb=>hκ b (Nk _ hb)),ih2 h3 (fun b hb=>hκ b (Nl _ hb))⟩
 |_=>exact h
theorem RowsDen.keep{us:List Value}{t:Ty}{L:List (List AV)}(h:RowsDen F w us t L)(hF:∀k,F k->F' k)(hw:∀k,F k->w'.heap[k]?=w.heap[k]?):RowsDen F' w' us t L:=
 ⟨h.1,fun i r k x h1 h2=>by obtain⟨u,h3,h4⟩:=h.2 i r k x h1 h2;exact⟨u,h3,Den.keep h4 hw hF⟩⟩
theorem Et{w w':World}{base:Nat}{e:TypeId}{size:Nat}{v:Value}{n:Nat}{xs:List Value}(h:w.ownsRow base e size v n xs)(hk:∀k,ai v=some k->w'.heap[k]?=w.heap[k]?):w'.ownsRow base e size v n xs:=by
 refine⟨h.1,?_⟩
 rcases h.2 with hn|⟨g,cap,cur,rfl,hb,hg,rest⟩
 ·exact .inl hn
 ·exact .inr ⟨g,cap,cur,rfl,hb,(hk g rfl).trans hg,rest⟩
theorem FL{w w':World}{base:Nat}{e:TypeId}{size:Nat}{v:Value}{n:Nat}{xs:List Value}(h:iK w base e size v n xs)(hk:∀k,ai v=some k->w'.heap[k]?=w.heap[k]?):iK w' base e size v n xs:=by
 refine⟨h.1,?_⟩
 rcases h.2 with hn|⟨g,o,cap,cur,fz,rfl,hb,hg,rest⟩
 ·exact .inl hn
 ·exact .inr ⟨g,o,cap,cur,fz,rfl,hb,(hk g rfl).trans hg,rest⟩
theorem oc{w:World}{base:Nat}{e:TypeId}{size:Nat}{v:Value}{n:Nat}{xs:List Value}(h:w.ownsRow base e size v n xs):iK w base e size v n xs:=by
 refine⟨h.1,?_⟩
 rcases h.2 with hn|⟨g,cap,cur,rfl,hb,hg,h1,h2,h3,h4⟩
 ·exact .inl hn
 ·exact .inr ⟨g,0,cap,cur,(0,0),rfl,hb,hg,.inl rfl,h1,h2,by omega,by simpa using h4⟩
theorem ym{w:World}{base base':Nat}{e:TypeId}{size:Nat}{v:Value}{n:Nat}{xs:List Value}(h:iK w base e size v n xs)(hb:base'<=base):iK w base' e size v n xs:=
 ⟨h.1,h.2.imp id (fun⟨g,o,cap,cur,fz,h1,h2,r⟩=>⟨g,o,cap,cur,fz,h1,NB hb h2,r⟩)⟩
theorem jN{w:World}{base:Nat}{e:TypeId}{size g o n c m:Nat}{xs:List Value}(h:w.ownsRow base e size (.slice (some ⟨g,o,none⟩) n c) m xs):o=0:=by
 rcases h.2 with⟨e,_⟩|⟨g',cap,cur,e,_⟩
 ·cases e
 ·cases e;rfl
theorem bW(x:SV):∀y∈x.list,∀b∈y.names,b∈x.names:=by
 induction x with
 |cons x y _ ih=>
  intro z hz b hb;simp[SV.list]at hz
  rcases hz with rfl|hz
  ·exact Nk _ hb
  ·exact Nl _ (ih z hz b hb)
 |_=>intro z hz;simp[SV.list]at hz
theorem MapDen.keep{ks vs:SV}{es:List MapEntry}(h:MapDen env κ F w ks vs es)(hκ:∀b∈ks.names++vs.names,κ' b=κ b)(hF:∀k,F k->F' k)(hw:∀k,F k->w'.heap[k]?=w.heap[k]?):MapDen env κ' F' w' ks vs es:=by
 obtain⟨h1,h2,h3⟩:=h;have kk:∀(i:Nat) k u,ks.list[i]?=some k->SVden env κ F w k u->SVden env κ' F' w' k u:=fun i k u hk hd=>hd.keep (fun b hb=>hκ b (Nk _ (bW ks k (Nu hk) b hb))) hF hw
 have vv:∀(i:Nat) k u,vs.list[i]?=some k->SVden env κ F w k u->SVden env κ' F' w' k u:=fun i k u hk hd=>hd.keep (fun b hb=>hκ b (Nl _ (bW vs k (Nu hk) b hb))) hF hw
 refine⟨fun i k v hk hv=>?_,fun e he=>?_,h3⟩
 ·obtain⟨e,he,d1,d2⟩:=h1 i k v hk hv
  exact⟨e,he,kk i k _ hk d1,vv i v _ hv d2⟩
 ·obtain⟨i,k,v,hk,hv,d1,d2⟩:=h2 e he
  exact⟨i,k,v,hk,hv,kk i k _ hk d1,vv i v _ hv d2⟩
theorem SBden.keep{base b:Nat}{x:SB}(h:SBden env κ F base w b x)(hκ:∀c∈x.names,κ' c=κ c)(hb:κ' b=κ b)(hF:∀k,F k->F' k)(hw:∀k,F k->w'.heap[k]?=w.heap[k]?)
  (hblk:aF (some x)=true->∀k,ai (κ b)=some k->w'.heap[k]?=w.heap[k]?):SBden env κ' F' base w' b x:=by
 cases x with
 |cells ty xs=>
  obtain⟨g,cs,h1,h2,h3,h4,h5⟩:=h;exact⟨g,cs,hb.trans h1,(hblk rfl g (by rw[h1];rfl)).trans h2,h3,h4.keep hκ hF hw,h5⟩
 |row ety t l=>
  obtain⟨us,h1,h2,h3⟩:=h;exact⟨us,by rw[hb];exact Et h1 (hblk rfl),h2,h3.keep hF hw⟩
 |dead l=>obtain⟨A,c,h1⟩:=h;exact⟨A,c,hb.trans h1⟩
 |ice ety t l=>
  refine⟨?_,fun hf=>?_⟩
  ·rw[hb];exact Den.keep h.1 hw hF
  ·obtain⟨A,hA⟩:=h.2 hf;exact⟨A,hb.trans hA⟩
 | loop i st p=>
  obtain⟨l,r,h1,h2,h3,h4,h5,h6,h7,h8,h9,h10⟩:=h;exact⟨l,r,hb.trans h1,(hblk rfl l (by rw[h1];rfl)).trans h2,h3,h4,h5,h6,h7,h8,h9,fun t=>(h10 t).keep (fun c hc=>hκ c (by
   by_cases ht:t<i.rf.len
   ·exact List.mem_flatMap.2 ⟨t,List.mem_range.2 ht,hc⟩
   ·rw[Ov.get_out (by omega)]at hc;cases hc)) hF hw⟩
 |map ks vs=>
  obtain⟨r,es,cl,h1,h2,h3,h4,h5,h6,h7⟩:=h;exact⟨r,es,cl,hb.trans h1,(hblk rfl r (by rw[h1];rfl)).trans h2,h3,h4,h5,h6,h7.keep hκ hF hw⟩
 |qrow ety t l=>
  obtain⟨us,h1,h2,h3⟩:=h;exact⟨us,by rw[hb];exact FL h1 (hblk rfl),h2,h3.keep hF hw⟩
 |amap t l=>
  obtain⟨r,es,cl,h1,h2,h3⟩:=h;exact⟨r,es,cl,hb.trans h1,(hblk rfl r (by rw[h1];rfl)).trans h2,h3⟩
theorem SBden.lt{base b:Nat}{x:SB}(h:SBden env κ F base w b x)(hl:aF (some x)=true){k:Nat}(hk:ai (κ b)=some k):base<=k/\k<w.heap.size:=by
 cases x with
 |cells ty xs=>
  obtain⟨g,cs,h1,h2,h3,_⟩:=h;rw[h1]at hk;cases hk
  exact⟨h3,dt h2⟩
 | row ety t l=>
  obtain⟨us,h1,_⟩:=h;rcases h1.2 with⟨h2,_⟩|⟨g,cap,cur,h2,hb,hg,_⟩
  ·rw[h2]at hk;cases hk
  ·rw[h2]at hk;cases hk
   exact⟨hb,dt hg⟩
 |loop i st p=>
  obtain⟨l,r,h1,h2,h3,_⟩:=h;rw[h1]at hk;cases hk
  exact⟨h3,dt h2⟩
 |map ks vs=>
  obtain⟨r,es,cl,h1,h2,h3,_⟩:=h;rw[h1]at hk;cases hk
  exact⟨h3,dt h2⟩
 |amap t l=>
  obtain⟨r,es,cl,h1,h2,h3,_⟩:=h;rw[h1]at hk;cases hk
  exact⟨h3,dt h2⟩
 | qrow ety t l=>
  obtain⟨us,h1,_⟩:=h;rcases h1.2 with⟨h2,_⟩|⟨g,o,cap,cur,fz,h2,hb,hg,_⟩
  ·rw[h2]at hk;cases hk
  ·rw[h2]at hk;cases hk
   exact⟨hb,dt hg⟩
 |dead l=>cases hl
 |ice _ _ _=>cases hl
theorem SBden.noDefer{base b:Nat}{x:SB}(h:SBden env κ F base w b x)(hl:aF (some x)=true){k:Nat}(hk:ai (κ b)=some k)(ds:Option (List Deferred)):w.heap[k]?≠some (.deferred ds):=by
 intro hd;cases x with
 |cells ty xs=>obtain⟨g,cs,h1,h2,h3,_⟩:=h;rw[h1]at hk;cases hk;rw[h2]at hd;cases hd
 |row ety t l=>
  obtain⟨us,h1,_⟩:=h;rcases h1.2 with⟨h2,_⟩|⟨g,cap,cur,h2,hb,hg,_⟩
  ·rw[h2]at hk;cases hk
  ·rw[h2]at hk;cases hk;rw[hg]at hd;cases hd
 |loop i st p=>obtain⟨l,r,h1,h2,h3,_⟩:=h;rw[h1]at hk;cases hk;rw[h2]at hd;cases hd
 |map ks vs=>obtain⟨r,es,cl,h1,h2,h3,_⟩:=h;rw[h1]at hk;cases hk;rw[h2]at hd;cases hd
 |amap t l=>obtain⟨r,es,cl,h1,h2,h3,_⟩:=h;rw[h1]at hk;cases hk;rw[h2]at hd;cases hd
 |qrow ety t l=>
  obtain⟨us,h1,_⟩:=h;rcases h1.2 with⟨h2,_⟩|⟨g,o,cap,cur,fz,h2,hb,hg,_⟩
  ·rw[h2]at hk;cases hk
  ·rw[h2]at hk;cases hk;rw[hg]at hd;cases hd
 |dead l=>cases hl
 |ice _ _ _=>cases hl
structure Rel (w0:World) (env:List AV) (κ:Nat->Value) (F:Nat->Prop) (U:Nat->Prop) (tmp:Nat->SV) (blk:Nat->Option SB) (L:Nat) (a:Act) (w:World):Prop where
 tmps:∀t,SVden env κ F w (tmp t) (a.tmps.getD t undef)
 size:a.tmps.size=L
 blks:∀b x,blk b=some x->SBden env κ F w0.heap.size w b x
 inj:∀b c k,aF (blk b)=true->aF (blk c)=true->ai (κ b)=some k->ai (κ c)=some k->b=c
 nF:∀b k,aF (blk b)=true->ai (κ b)=some k->¬F k
 glob:GlobOK F w
 F:∀k,F k->k<w.heap.size
 tnames:∀t,∀b∈(tmp t).names,U b
 bnames:∀b x,blk b=some x->U b/\∀c∈x.names,U c
 below:Below w0.heap.size w0 w
variable {U:Nat->Prop} {tmp:Nat->SV} {blk:Nat->Option SB} {L:Nat} {a:Act}
theorem ak{α:Type}(f:Nat->α)(k:Nat)(x:α):upd f k x k=x:=by simp[upd]
theorem ah{α:Type}{f:Nat->α}{k i:Nat}{x:α}(h:i≠k):upd f k x i=f i:=by simp[upd,h]
def RecLe(w w':World):Prop:=∀(k:Nat) (r:Loop),w.heap[k]?=some (Obj.loop r)->∃r':Loop,w'.heap[k]?=some (Obj.loop r')/\r'.params=r.params/\r'.assign=r.assign/\r'.body=r.body/\r'.tmps=r.tmps
theorem RecLe.of(h:∀k,k<w.heap.size->(∀r:Loop,w.heap[k]?≠some (Obj.loop r))\/w'.heap[k]?=w.heap[k]?):RecLe w w':=fun k r hr=>by
 rcases h k (dt hr)with h1|h1
 ·exact absurd hr (h1 r)
 ·exact⟨r,h1.trans hr,rfl,rfl,rfl,rfl⟩
theorem RecLe.trans{w'':World}(h:RecLe w w')(k:RecLe w' w''):RecLe w w'':=fun j r hr=>by
 obtain⟨r1,h1,h2,h3,h4,h5⟩:=h j r hr;obtain⟨r2,g1,g2,g3,g4,g5⟩:=k j r1 h1;exact⟨r2,g1,g2.trans h2,g3.trans h3,g4.trans h4,g5.trans h5⟩
theorem SBden.noLoop{base b:Nat}{x:SB}(h:SBden env κ F base w b x)(hl:aF (some x)=true)(hn:m7 (some x)=true){k:Nat}(hk:ai (κ b)=some k)(r:Loop):w.heap[k]?≠some (Obj.loop r):=by
 intro hd;cases x with
 |cells ty xs=>obtain⟨g,cs,h1,h2,h3,_⟩:=h;rw[h1]at hk;cases hk;rw[h2]at hd;cases hd
 |row ety t l=>
  obtain⟨us,h1,_⟩:=h;rcases h1.2 with⟨h2,_⟩|⟨g,cap,cur,h2,hb,hg,_⟩
  ·rw[h2]at hk;cases hk
  ·rw[h2]at hk;cases hk;rw[hg]at hd;cases hd
 |loop i st p=>cases hn
 |map ks vs=>obtain⟨r,es,cl,h1,h2,h3,_⟩:=h;rw[h1]at hk;cases hk;rw[h2]at hd;cases hd
 |amap t l=>obtain⟨r,es,cl,h1,h2,h3,_⟩:=h;rw[h1]at hk;cases hk;rw[h2]at hd;cases hd
 |qrow ety t l=>
  obtain⟨us,h1,_⟩:=h;rcases h1.2 with⟨h2,_⟩|⟨g,o,cap,cur,fz,h2,hb,hg,_⟩
  ·rw[h2]at hk;cases hk
  ·rw[h2]at hk;cases hk;rw[hg]at hd;cases hd
 |dead l=>cases hl
 |ice _ _ _=>cases hl
structure Kept (U:Nat->Prop) (blk:Nat->Option SB) (κ:Nat->Value) (F:Nat->Prop) (w:World) (blk':Nat->Option SB) (κ':Nat->Value) (F':Nat->Prop) (w':World):Prop where
 kap:∀b,U b->κ' b=κ b
 mono:∀k,F k->F' k
 new:∀k,F' k->F k\/w.heap.size<=k\/∃b,aF (blk b)=true/\ai (κ b)=some k
 size:w.heap.size<=w'.heap.size
 frame:∀k,k<w.heap.size->(∀b,aF (blk b)=true->ai (κ b)≠some k)->w'.heap[k]?=w.heap[k]?
 prov:∀b k,aF (blk' b)=true->ai (κ' b)=some k->w.heap.size<=k\/∃c,aF (blk c)=true/\ai (κ c)=some k
 recs:RecLe w w'
theorem Kept.refl{U:Nat->Prop}{blk:Nat->Option SB}:Kept U blk κ F w blk κ F w:=
 ⟨fun _ _=>rfl,fun _ h=>h,fun _ h=>.inl h,Nr _,fun _ _ _=>rfl,fun b _ h1 h2=>.inr ⟨b,h1,h2⟩,.of fun _ _=>.inr rfl⟩
theorem Kept.trans{U U':Nat->Prop}{blk blk' blk'':Nat->Option SB}{κ'':Nat->Value}{F'':Nat->Prop}{w'':World}(h:Kept U blk κ F w blk' κ' F' w')(k:Kept U' blk' κ' F' w' blk'' κ'' F'' w'')(hU:∀b,U b->U' b):Kept U blk κ F w blk'' κ'' F'' w'' where
 kap b hb:=(k.kap b (hU b hb)).trans (h.kap b hb)
 mono x hx:=k.mono x (h.mono x hx)
 new x hx:=by
  rcases k.new x hx with h1|h1|⟨b,h1,h2⟩
  ·exact h.new x h1
  ·exact .inr (.inl (NB h.size h1))
  ·rcases h.prov b x h1 h2 with h3|h3
   ·exact .inr (.inl h3)
   ·exact .inr (.inr h3)
 size:=NB h.size k.size
 frame x hx hn:=by
  refine(k.frame x (Ns hx h.size) (fun b h1 h2=>?_)).trans (h.frame x hx hn)
  rcases h.prov b x h1 h2 with h3|⟨c,h3,h4⟩
  ·omega
  ·exact hn c h3 h4
 prov b x h1 h2:=by
  rcases k.prov b x h1 h2 with h3|⟨c,h3,h4⟩
  ·exact .inl (NB h.size h3)
  ·exact h.prov c x h3 h4
 recs:=h.recs.trans k.recs
theorem Kept.sv{blk':Nat->Option SB}(h:Rel w0 env κ F U tmp blk L a w)(k:Kept U blk κ F w blk' κ' F' w'){x:SV}{u:Value}(hx:SVden env κ F w x u)(hn:∀b∈x.names,U b):SVden env κ' F' w' x u:=
 hx.keep (fun b hb=>k.kap b (hn b hb)) k.mono (fun j hj=>k.frame j (h.F j hj) (fun b h1 h2=>h.nF b j h1 h2 hj))
theorem qu{vs:Array Value}{d t:Nat}{u:Value}(h:d<vs.size):(vs.setIfInBounds d u).getD t undef=if t=d then u else vs.getD t undef:=by
 by_cases e:t=d
 ·subst e;simp[N0,h]
 ·by_cases h2:t<vs.size
  ·simp[N0,h2,e,Array.getElem_setIfInBounds,Ne.symm e]
  ·simp[N0,h2,e]
theorem Rel.put(h:Rel w0 env κ F U tmp blk L a w){dst:Option Nat}{v:SV}{u:Value}(hd:∀d,dst=some d->d<L)(hv:SVden env κ F w v u)(hn:∀b∈v.names,U b):
  Rel w0 env κ F U (fG tmp dst v) blk L (a.put dst u) w:=by
 cases dst with
 |none=>exact h
 | some d=>
  refine{ h with tmps:=fun t=>?_,size:=?_,tnames:=fun t=>?_ }
  ·simp only[Act.put,qu (by rw[h.size];exact hd d rfl),fG,upd]
   split
   ·exact hv
   ·exact h.tmps t
  ·simp[Act.put,h.size]
  ·simp only[fG,upd];split
   ·exact hn
   ·exact h.tnames t
theorem Rel.world(h:Rel w0 env κ F U tmp blk L a w){U':Nat->Prop}{blk':Nat->Option SB}(hU:∀b,U b->U' b)(hκ:∀b,U b->κ' b=κ b)(hF:∀k,F k->F' k)(hw:∀k,F k->w'.heap[k]?=w.heap[k]?)
  (hb:∀b x,blk' b=some x->(blk b=some x/\(aF (some x)=true->∀k,ai (κ b)=some k->w'.heap[k]?=w.heap[k]?))\/(SBden env κ' F' w0.heap.size w' b x/\U' b/\∀c∈x.names,U' c))
  (hinj:∀b c k,aF (blk' b)=true->aF (blk' c)=true->ai (κ' b)=some k->ai (κ' c)=some k->b=c)
  (hnF:∀b k,aF (blk' b)=true->ai (κ' b)=some k->¬F' k) (hF':∀k,F' k->k<w'.heap.size) (hbel:Below w0.heap.size w0 w'):Rel w0 env κ' F' U' tmp blk' L a w' where
 tmps t:=(h.tmps t).keep (fun b hb=>hκ b (h.tnames t b hb)) hF hw
 size:=h.size
 blks b x hx:=by
  rcases hb b x hx with⟨h1,h2⟩|⟨h1,_⟩
  ·obtain⟨h3,h4⟩:=h.bnames b x h1
   exact(h.blks b x h1).keep (fun c hc=>hκ c (h4 c hc)) (hκ b h3) hF hw h2
  ·exact h1
 inj:=hinj
 nF:=hnF
 F:=hF'
 tnames t b hb:=hU b (h.tnames t b hb)
 bnames b x hx:=by
  rcases hb b x hx with⟨h1,h2⟩|⟨_,h2⟩
  ·obtain⟨h3,h4⟩:=h.bnames b x h1
   exact⟨hU b h3,fun c hc=>hU c (h4 c hc)⟩
  ·exact h2
 below:=hbel
 glob:=h.glob.keep hw hF
theorem Rel.new(h:Rel w0 env κ F U tmp blk L a w){m:Nat}(hm:¬U m){o:Obj}{v:Value}{x:SB}(hv:ai v=some w.heap.size)(hx:SBden env (upd κ m v) F w0.heap.size (w.alloc o) m x)(hn:∀c∈x.names,U c):
  Rel w0 env (upd κ m v) F (fun b=>U b\/b=m) tmp (upd blk m (some x)) L a (w.alloc o):=by
 have hne:∀b,U b->b≠m:=fun b hb e=>hm (e▸hb)
 have hk:∀k,k<w.heap.size->(w.alloc o).heap[k]?=w.heap[k]?:=fun k hk=>Below.heap_alloc _ _ _ hk
 have hlive:∀b,aF (upd blk m (some x) b)=true->b=m\/(aF (blk b)=true/\b≠m):=fun b hb=>by
  by_cases e:b=m
  ·exact .inl e
  ·rw[ah e]at hb;exact .inr ⟨hb,e⟩
 have hold:∀b k,aF (blk b)=true->ai (κ b)=some k->k<w.heap.size:=fun b k hb hk=>by
  obtain⟨y,hy,hl⟩:=bC hb;exact((h.blks b y hy).lt hl hk).2
 refine h.world (fun b hb=>.inl hb) (fun b hb=>ah (hne b hb)) (fun k hk=>hk) (fun k hF=>hk k (h.F k hF)) (fun b y hy=>?_) (fun b c k hb hc h1 h2=>?_) (fun b k hb h1=>?_) (fun k hF=>by have:=h.F k hF;simp;omega) (h.below.alloc h.below.size o)
 ·by_cases e:b=m
  ·subst e;rw[ak]at hy;cases hy
   exact .inr ⟨hx,.inr rfl,fun c hc=>.inl (hn c hc)⟩
  ·rw[ah e]at hy
   exact .inl ⟨hy,fun hl k h1=>hk k (hold b k (by rw[hy];exact hl) h1)⟩
 ·rcases hlive b hb with rfl|⟨hb1,hb2⟩<;>rcases hlive c hc with rfl|⟨hc1,hc2⟩
  ·rfl
  ·rw[ak,hv]at h1;rw[ah hc2]at h2;cases h1
   have:=hold c _ hc1 h2;omega
  ·rw[ak,hv]at h2;rw[ah hb2]at h1;cases h2
   have:=hold b _ hb1 h1;omega
  ·rw[ah hb2]at h1;rw[ah hc2]at h2
   exact h.inj b c k hb1 hc1 h1 h2
 ·rcases hlive b hb with rfl|⟨hb1,hb2⟩
  ·rw[ak,hv]at h1;cases h1
   intro hF;have:=h.F _ hF;omega
  ·rw[ah hb2]at h1;exact h.nF b k hb1 h1
theorem Rel.stored(h:Rel w0 env κ F U tmp blk L a w){b:Nat}{x y:SB}(hb:blk b=some x)(hx:aF (some x)=true)(hw:∀k,ai (κ b)≠some k->w'.heap[k]?=w.heap[k]?)(hsz:w'.heap.size=w.heap.size)(hy:SBden env κ F w0.heap.size w' b y)(hn:∀c∈y.names,U c)
  (hbel:Below w0.heap.size w0 w'):Rel w0 env κ F U tmp (upd blk b (some y)) L a w':=by
 have hlive:∀c,aF (upd blk b (some y) c)=true->aF (blk c)=true:=fun c hc=>by
  by_cases e:c=b
  ·rw[e,hb];exact hx
  ·rw[ah e]at hc;exact hc
 refine h.world (fun _ h=>h) (fun _ _=>rfl) (fun _ h=>h) (fun k hF=>hw k (fun e=>h.nF b k (by rw[hb];exact hx) e hF)) (fun c z hz=>?_) (fun c d k hc hd=>h.inj c d k (hlive c hc) (hlive d hd)) (fun c k hc=>h.nF c k (hlive c hc)) (fun k hF=>by rw[hsz];exact h.F k hF) hbel
 by_cases e:c=b
 ·subst e;rw[ak]at hz;cases hz
  exact .inr ⟨hy,(h.bnames c x hb).1,hn⟩
 ·rw[ah e]at hz
  refine .inl ⟨hz,fun hl k h1=>hw k (fun h2=>e (h.inj c b k (by rw[hz];exact hl) (by rw[hb];exact hx) h1 h2))⟩
theorem Rel.moved(h:Rel w0 env κ F U tmp blk L a w){d m:Nat}{x y z:SB}{v:Value}(hd:blk d=some x)(hx:aF (some x)=true)(hz:aF (some z)=false)(hzd:SBden env (upd κ m v) F w0.heap.size w' d z)(hzn:z.names=[])(hm:¬U m)(hw:w.grownBy w' (ai (κ d)))(hv:∀k,ai v=some k->ai (κ d)=some k\/w.heap.size<=k)
  (hy:SBden env (upd κ m v) F w0.heap.size w' m y) (hn:∀c∈y.names,U c) (hbel:Below w0.heap.size w0 w'):
  Rel w0 env (upd κ m v) F (fun b=>U b\/b=m) tmp (upd (upd blk d (some z)) m (some y)) L a w':=by
 have hdm:d≠m:=fun e=>hm (e▸(h.bnames d x hd).1)
 have hne:∀b,U b->b≠m:=fun b hb e=>hm (e▸hb)
 have hold:∀b k,aF (blk b)=true->ai (κ b)=some k->k<w.heap.size:=fun b k hb hk=>by
  obtain⟨y,hy,hl⟩:=bC hb;exact((h.blks b y hy).lt hl hk).2
 have hlive:∀b,aF (upd (upd blk d (some z)) m (some y) b)=true->b=m\/(aF (blk b)=true/\b≠m/\b≠d):=fun b hb=>by
  by_cases e:b=m
  ·exact .inl e
  ·rw[ah e]at hb
   by_cases e2:b=d
   ·rw[e2,ak,hz]at hb;cases hb
   ·rw[ah e2]at hb;exact .inr ⟨hb,e,e2⟩
 refine h.world (fun b hb=>.inl hb) (fun b hb=>ah (hne b hb)) (fun k hk=>hk) (fun k hF=>hw.block k (h.F k hF) (fun e=>h.nF d k (by rw[hd];exact hx) e.symm hF)) (fun b q hq=>?_) (fun b c k hb hc h1 h2=>?_) (fun b k hb h1=>?_) (fun k hF=>Ns (h.F k hF) hw.size) hbel
 ·by_cases e:b=m
  ·subst e;rw[ak]at hq;cases hq
   exact .inr ⟨hy,.inr rfl,fun c hc=>.inl (hn c hc)⟩
  ·rw[ah e]at hq
   by_cases e2:b=d
   ·rw[e2,ak]at hq;cases hq
    exact .inr ⟨e2▸hzd,.inl (e2▸(h.bnames d x hd).1),fun c hc=>by rw[hzn]at hc;cases hc⟩
   ·rw[ah e2]at hq
    refine .inl ⟨hq,fun hl k h1=>hw.block k (hold b k (by rw[hq];exact hl) h1) (fun h2=>e2 (h.inj b d k (by rw[hq];exact hl) (by rw[hd];exact hx) h1 h2.symm))⟩
 ·rcases hlive b hb with rfl|⟨hb1,hb2,hb3⟩<;>rcases hlive c hc with rfl|⟨hc1,hc2,hc3⟩
  ·rfl
  ·rw[ak]at h1;rw[ah hc2]at h2
   rcases hv k h1 with h3|h3
   ·exact absurd (h.inj c d k hc1 (by rw[hd];exact hx) h2 h3) hc3
   ·have:=hold c _ hc1 h2;omega
  ·rw[ak]at h2;rw[ah hb2]at h1
   rcases hv k h2 with h3|h3
   ·exact absurd (h.inj b d k hb1 (by rw[hd];exact hx) h1 h3) hb3
   ·have:=hold b _ hb1 h1;omega
  ·rw[ah hb2]at h1;rw[ah hc2]at h2
   exact h.inj b c k hb1 hc1 h1 h2
 ·rcases hlive b hb with rfl|⟨hb1,hb2,hb3⟩
  ·rw[ak]at h1
   intro hF;rcases hv k h1 with h3|h3
   ·exact h.nF d k (by rw[hd];exact hx) h3 hF
   ·have:=h.F _ hF;omega
  ·rw[ah hb2]at h1;exact h.nF b k hb1 h1
theorem Rel.new_kept(h:Rel w0 env κ F U tmp blk L a w){m:Nat}(hm:¬U m){o:Obj}{v:Value}{x:SB}(hv:ai v=some w.heap.size):Kept U blk κ F w (upd blk m (some x)) (upd κ m v) F (w.alloc o) where
 kap b hb:=ah (fun e=>hm (e▸hb))
 mono _ h:=h
 new _ h:=.inl h
 size:=by simp
 frame k hk _:=Below.heap_alloc _ _ _ hk
 prov b k h1 h2:=by
  by_cases e:b=m
  ·subst e;rw[ak,hv]at h2;cases h2;exact .inl (Nr _)
  ·rw[ah e]at h1 h2;exact .inr ⟨b,h1,h2⟩
 recs:=.of fun k hk=>.inr (Below.heap_alloc _ _ _ hk)
theorem Rel.stored_kept(h:Rel w0 env κ F U tmp blk L a w){b:Nat}{x y:SB}(hb:blk b=some x)(hx:aF (some x)=true)(hnl:m7 (some x)=true)(hw:∀k,ai (κ b)≠some k->w'.heap[k]?=w.heap[k]?)(hsz:w'.heap.size=w.heap.size):Kept U blk κ F w (upd blk b (some y)) κ F w' where
 kap _ _:=rfl
 mono _ h:=h
 new _ h:=.inl h
 size:=by omega
 frame k _ hn:=hw k (hn b (by rw[hb];exact hx))
 prov c k h1 h2:=by
  by_cases e:c=b
  ·subst e;exact .inr ⟨c,by rw[hb];exact hx,h2⟩
  ·rw[ah e]at h1;exact .inr ⟨c,h1,h2⟩
 recs:=.of fun k hk=>by
  by_cases e:ai (κ b)=some k
  ·exact .inl ((h.blks b x hb).noLoop hx hnl e)
  ·exact .inr (hw k e)
theorem Rel.moved_kept(h:Rel w0 env κ F U tmp blk L a w){d m:Nat}{x y z:SB}{v:Value}(hd:blk d=some x)(hx:aF (some x)=true)(hnl:m7 (some x)=true)(hz:aF (some z)=false)(hm:¬U m)(hw:w.grownBy w' (ai (κ d)))(hv:∀k,ai v=some k->ai (κ d)=some k\/w.heap.size<=k):
  Kept U blk κ F w (upd (upd blk d (some z)) m (some y)) (upd κ m v) F w' where
 kap b hb:=ah (fun e=>hm (e▸hb))
 mono _ h:=h
 new _ h:=.inl h
 size:=hw.size
 frame k hk hn:=hw.block k hk (fun e=>hn d (by rw[hd];exact hx) e.symm)
 prov b k h1 h2:=by
  by_cases e:b=m
  ·subst e;rw[ak]at h2
   rcases hv k h2 with h3|h3
   ·exact .inr ⟨d,by rw[hd];exact hx,h3⟩
   ·exact .inl h3
  ·rw[ah e]at h1 h2
   by_cases e2:b=d
   ·subst e2;rw[ak,hz]at h1;cases h1
   ·rw[ah e2]at h1;exact .inr ⟨b,h1,h2⟩
 recs:=.of fun k hk=>by
  by_cases e:ai (κ d)=some k
  ·exact .inl ((h.blks d x hd).noLoop hx hnl e)
  ·exact .inr (hw.block k hk (fun e2=>e e2.symm))
variable {env:List AV} {κ κ':Nat->Value} {F F':Nat->Prop} {w w' w0:World} {U:Nat->Prop} {tmp:Nat->SV} {blk:Nat->Option SB} {L:Nat} {a:Act} {P:Program}
theorem da(l:List SV):(SV.of l).list=l:=by
 induction l with
 |nil=>rfl
 |cons x l ih=>simp[SV.of,SV.list,ih]
theorem Eh(l:List SV):(SV.of l).len=l.length:=by
 induction l with
 |nil=>rfl
 |cons x l ih=>simp[SV.of,SV.len,ih]
theorem list_len(x:SV):x.list.length=x.len:=by
 induction x with
 |cons x y _ ih=>simp[SV.list,SV.len,ih]
 |_=>rfl
theorem eH(l:List SV):∀b,b∈(SV.of l).names↔∃x∈l,b∈x.names:=by
 induction l with
 |nil=>simp[SV.of,SV.names]
 |cons x l ih=>intro b;simp[SV.of,SV.names,ih b]
theorem bA(l:List SV):(SV.of l).proper=true:=by
 induction l with
 |nil=>rfl
 |cons x l ih=>exact ih
theorem bc{xs:SV}{cs:Array Value}(hp:xs.proper=true)(h:SVden env κ F w xs (.tuple cs)):cs.size=xs.len/\∀(i:Nat) x,xs.list[i]?=some x->∃u,cs[i]?=some u/\SVden env κ F w x u:=by
 induction xs generalizing cs with
 |nil=>cases h;exact⟨rfl,fun i x hx=>by simp[SV.list]at hx⟩
 | cons x xs _ ih=>
  obtain⟨p,q,h1,h2,h3⟩:=h;cases h1
  obtain⟨i1,i2⟩:=ih hp h3;refine⟨by simp at i1;simp[SV.len,i1],fun i y hy=>?_⟩
  cases i with
  |zero=>simp[SV.list]at hy;subst hy;exact⟨p,by simp,h2⟩
  |succ i=>
   simp[SV.list]at hy
   obtain⟨u,h4,h5⟩:=i2 i y hy;exact⟨u,by simpa using h4,h5⟩
 |_=>cases hp
theorem eM{l:List SV}{cs:List Value}(hl:cs.length=l.length)(h:∀(i:Nat) x u,l[i]?=some x->cs[i]?=some u->SVden env κ F w x u):SVden env κ F w (.of l) (.tuple cs.toArray):=by
 induction l generalizing cs with
 |nil=>cases cs with
  |nil=>rfl
  |cons c cs=>simp at hl
 |cons x l ih=>cases cs with
  |nil=>simp at hl
  |cons c cs=>exact⟨c,cs,rfl,h 0 x c rfl rfl,ih (by simpa using hl) (fun i y u h1 h2=>h (i+1) y u (by simpa using h1) (by simpa using h2))⟩
theorem wU{x:SV}{u:Value}(ho:x.one=true)(h:SVden env κ F w x u):aU u=true:=by
 cases x<;>simp[SV.one]at ho
 case vi=>rw[h.1];rfl
 case vb=>rw[h.1];rfl
 case vr=>exact h.2
 case vs=>obtain⟨A,c,rfl,_⟩:=Den.view h;rfl
 case ptr=>obtain⟨g,_,rfl⟩:=h;rfl
 case eptr=>obtain⟨a,c,_,_,_,rfl⟩:=h;rfl
 case row=>exact h.2
 case rptr=>obtain⟨g,o,n,c,_,_,_,rfl⟩:=h;rfl
 case nilsl=>rw[show u=_ from h];rfl
 case fn=>obtain⟨ds,cs,rfl,_⟩:=h;rfl
 case yld=>obtain⟨l,_,rfl⟩:=h;rfl
 case nilfn=>rw[show u=_ from h];rfl
 case map=>obtain⟨r,_,rfl⟩:=h;rfl
 case iface=>obtain⟨v,rfl,_⟩:=h;rfl
 case nilif=>rw[show u=_ from h];rfl
 case nilptr=>rw[show u=_ from h];rfl
 case nilmap=>rw[show u=_ from h];rfl
 case csl=>obtain⟨g,c,_,rfl⟩:=h;rfl
 case asl=>obtain⟨g,c,_,rfl⟩:=h;rfl
theorem fa{x:SV}{u:Value}(hw:x.whole=true)(h:SVden env κ F w x u):SVden env κ F w x.cells (.tuple u.cells)/\x.cells.proper=true:=by
 by_cases hx:∃xs,x=.agg xs
 ·obtain⟨xs,rfl⟩:=hx
  obtain⟨cs,rfl,hp,h2⟩:=h;exact⟨h2,hp⟩
 ·have ho:x.one=true:=by cases x<;>first|exact hw|exact absurd ⟨_,rfl⟩ hx
  have hc:x.cells=.cons x .nil:=by cases x<;>first|rfl|exact absurd ⟨_,rfl⟩ hx
  rw[hc,nQ (wU ho h)];exact⟨⟨u,[],rfl,h,rfl⟩,rfl⟩
theorem pI{xs:SV}{cs:Array Value}(hp:xs.proper=true)(ho:oN xs=true)(h:SVden env κ F w xs (.tuple cs)):∀u∈cs,aU u=true:=by
 intro u hu;obtain⟨i,hi,rfl⟩:=Array.getElem_of_mem hu;obtain⟨h1,h2⟩:=bc hp h;have hl:i<xs.list.length:=by rw[list_len,<-h1];exact hi
 obtain⟨u,h3,h4⟩:=h2 i xs.list[i] (Nf hl);rw[Array.getElem?_eq_getElem hi]at h3;cases h3
 exact wU (List.all_eq_true.1 ho _ (List.getElem_mem hl)) h4
def ag(tmp:Nat->SV):Operand->SV
 |.tmp t=>tmp t
 |.const v=>bX v
 |.global g=>mA g
 |.func f=>.fn f .nil .nil
theorem Af(v:Value):SVden env κ F w (eJ v) v:=by
 unfold eJ;split
 ·exact⟨rfl,rfl⟩
 ·exact⟨rfl,rfl⟩
 ·exact⟨rfl,rfl⟩
 ·exact⟨by simp[den,ar],rfl⟩
 ·rfl
 ·rfl
 ·rfl
 ·rfl
 ·rfl
 ·trivial
theorem cT(v:Value):SVden env κ F w (bX v) v:=by
 unfold bX;split
 ·rename_i cs
  refine⟨cs,rfl,bA _,?_⟩
  have:=eM (env:=env) (κ:=κ) (F:=F) (w:=w) (l:=cs.toList.map eJ) (cs:=cs.toList) (by simp) (fun i x u h1 h2=>by
   rw[Nb,h2]at h1;cases h1
   exact Af u)
  simpa using this
 ·exact Af v
theorem vW(v:Value):(eJ v).names=[]:=by unfold eJ;split<;>rfl
theorem sK(v:Value):(bX v).names=[]:=by
 unfold bX;split
 ·refine List.eq_nil_iff_forall_not_mem.2 (fun b hb=>?_)
  obtain⟨x,hx,hb⟩:=(eH _ b).1 hb;obtain⟨v,_,rfl⟩:=List.mem_map.1 hx;rw[vW]at hb;cases hb
 ·exact vW v
theorem vX(k:IntKind):∀(ns:List Int) (e:E),(den env (ns.foldl (fun l n=>.snoc l (.rcons (.oint k n) .rnil)) e)).l=(den env e).l++ns.map fun n=>[.raw (.int k n)]
 |[],e=>by simp
 |n::ns,e=>by
  rw[N1,vX k ns];simp[den]
theorem Ky(h:GlobOK F w)(g:Nat):SVden env κ F w (mA g) (.pointer (some ⟨g,0,none⟩)):=by
 unfold mA KN;cases hf:globL.find? fun x=>Nd x.1 g&&Na 0 x.2.2.length with
 |none=>trivial
 | some x=>
  obtain⟨g',k,ns⟩:=x;have h1:=List.find?_some hf;simp only[M9]at h1;have hg:g'=g:=Nat.eq_of_beq_eq_true h1.1
  subst hg;have hd:=h.den (List.mem_of_find?_eq_some hf);have hl:(den env (ns.foldl (fun l n=>.snoc l (.rcons (.oint k n) .rnil)) .lnil)).l=ns.map fun n=>[.raw (.int k n)]:=by
   rw[vX];rfl
  refine⟨⟨g',0,none⟩,ns.length,?_,?_,?_,?_⟩
  ·rw[hl,NM];exact hd
  ·exact Int.le_refl _
  ·rw[hl,NM]
   have:=ga h1.2
   show(0:Int)<_
   omega
  ·show _=Value.pointer (some (Addr.add _ ((0:Int).toNat*_+0)))
   simp[Addr.add]
theorem Hi(g:Nat):(mA g).names=[]:=by
 unfold mA;split<;>rfl
theorem Rel.ev(h:Rel w0 env κ F U tmp blk L a w)(x:Operand):SVden env κ F w (ag tmp x) (a.eval x):=by
 cases x with
 |tmp t=>exact h.tmps t
 |const v=>exact cT v
 |global g=>exact Ky h.glob g
 |func f=>exact⟨#[],#[],rfl,rfl,rfl,rfl,rfl⟩
theorem Rel.evNames(h:Rel w0 env κ F U tmp blk L a w)(x:Operand):∀b∈(ag tmp x).names,U b:=by
 cases x with
 |tmp t=>exact h.tnames t
 |const v=>intro b hb;rw[show(ag tmp (.const v)).names=[]from sK v]at hb;cases hb
 |global g=>intro b hb;rw[show(ag tmp (.global g)).names=[]from Hi g]at hb;cases hb
 |func f=>intro b hb;cases hb
def bL(P:Program)(o:Oper)(a:Act)(w:World)(u:Value)(w':World):Prop:=
 (execOp a.eval o).run P w=.ok (.value u) w'\/(u=undef/\(execOp a.eval o).run P w=.ok .skip w')
def aB(P:Program)(w0:World)(env:List AV)(κ:Nat->Value)(F U:Nat->Prop)(tmp:Nat->SV)(blk:Nat->Option SB)(L:Nat)(a:Act)(w:World)(o:Oper)(v:SV)(wr:List (Nat×Option SB)):Prop:=
 ∃u w' κ' F',bL P o a w u w'/\Rel w0 env κ' F' (fun b=>U b\/∃x∈wr,x.1=b) tmp (aL blk wr) L a w'/\SVden env κ' F' w' v u/\Kept U blk κ F w (aL blk wr) κ' F' w'
theorem Rel.monoU(h:Rel w0 env κ F U tmp blk L a w){U':Nat->Prop}(hU:∀b,U b->U' b):Rel w0 env κ F U' tmp blk L a w:=
 { h with tnames:=fun t b hb=>hU b (h.tnames t b hb),bnames:=fun b x hx=>⟨hU b (h.bnames b x hx).1,fun c hc=>hU c ((h.bnames b x hx).2 c hc)⟩ }
theorem aj(h:Rel w0 env κ F U tmp blk L a w){o:Oper}{u:Value}{v:SV}(hr:bL P o a w u w)(hv:SVden env κ F w v u):aB P w0 env κ F U tmp blk L a w o v []:=
 ⟨u,w,κ,F,hr,h.monoU (fun b hb=>.inl hb),hv,Kept.refl⟩
theorem DY(h:Rel w0 env κ F U tmp blk L a w){o:Oper}{m:Nat}(hm:¬U m){ob:Obj}{x:SB}{u:Value}{v:SV}(hr:bL P o a w u (w.alloc ob))(hb:ai u=some w.heap.size)
  (hx:SBden env (upd κ m u) F w0.heap.size (w.alloc ob) m x) (hn:∀c∈x.names,U c) (hv:SVden env (upd κ m u) F (w.alloc ob) v u):aB P w0 env κ F U tmp blk L a w o v [(m,some x)]:=
 ⟨u,_,_,_,hr,(h.new hm hb hx hn).monoU (fun b hb=>by rcases hb with hb|rfl;exact .inl hb;exact .inr ⟨_,List.mem_singleton.2 rfl,rfl⟩),hv,h.new_kept hm hb⟩
theorem tY{xs:SV}{u:Value}{m:Nat}{v:Value}{ob:Obj}(h:Rel w0 env κ F U tmp blk L a w)(hm:¬U m)(hn:∀b∈xs.names,U b)(hx:SVden env κ F w xs u):SVden env (upd κ m v) F (w.alloc ob) xs u:=
 hx.keep (fun b hb=>ah (fun e=>hm (e▸hn b hb))) (fun _ h=>h) (fun k hF=>Below.heap_alloc _ _ _ (h.F k hF))
theorem ta{x:SV}:∀b∈x.cells.names,b∈x.names:=by
 intro b hb;cases x<;>simp[SV.cells,SV.names]at hb⊢<;>exact hb
theorem D9(h:Rel w0 env κ F U tmp blk L a w){o:Oper}{m t:Nat}(hm:¬U m){x:SV}{z:Value}(hz:SVden env κ F w x z)(hn:∀b∈x.names,U b)(ho:oN x.cells=true)(hw:x.whole=true)
  (hr:bL P o a w (.pointer (some ⟨w.heap.size,0,none⟩)) (w.alloc (.cells z.cells t))):aB P w0 env κ F U tmp blk L a w o (.ptr m 0) [(m,some (.cells t x.cells))]:=by
 obtain⟨h1,h2⟩:=fa hw hz;have hn':∀b∈x.cells.names,U b:=fun b hb=>hn b (ta b hb)
 refine DY h hm hr rfl ⟨w.heap.size,z.cells,by rw[ak],World.alloc_heap_new _ _,h.below.size,tY h hm hn' h1,h2,pI h2 ho h1⟩ hn' ⟨w.heap.size,by rw[ak],rfl⟩
theorem bQ(o:IOp)(x y:E):den env (.ii' o x y)=.int (o.f (den env x).i (den env y).i):=by
 unfold E.ii';split<;>simp[den]
theorem eu(o:COp)(x y:E):den env (.cmp' o x y)=.bool (o.f (den env x).i (den env y).i):=by
 unfold E.cmp';split<;>simp[den]
theorem pV(x:E):(den env x.not').b= !(den env x).b:=by
 unfold E.not';split<;>simp[den]
theorem Ff(x:E):(den env x.not').ty=.bool:=by
 unfold E.not';split<;>rfl
theorem Gt(x y:E):(den env (.and' x y)).b=((den env x).b&&(den env y).b):=by
 unfold E.and';split<;>simp[den]
theorem BD{x:E}(h:(den env x.inr).b=true): -9223372036854775808<=(den env x).i/\(den env x).i<=9223372036854775807:=by
 unfold E.inr at h;rw[Gt,eu,eu]at h;simp only[AV.b_bool,COp.f,den,AV.i_int,M9]at h;exact⟨of_decide_eq_true h.1,of_decide_eq_true h.2⟩
theorem aY(l:E):den env l.len'=.int (den env l).l.length:=by
 induction l with
 |snoc l r ih _=>simp[E.len',bQ,ih,den,IOp.f]
 | rep n r _ _=>
  cases n with
  |int n=>
   simp only[E.len'];split
   ·simp[den];omega
   ·simp[den];omega
  |_=>rfl
 |set l i k x ih _ _=>simp[E.len',ih,den]
 |typed t l ih=>simp[E.len',ih,den]
 |cpy l m ih _=>simp[E.len',ih,den];omega
 |_=>rfl
theorem Jg{r x:E}{k:Nat}(h:xJ r k=some x):(den env r).g.getD k (.int 0)=den env x:=by
 induction r generalizing k with
 |rcons y ys _ ih=>
  cases k with
  |zero=>simp only[xJ]at h;cases h;rfl
  |succ k=>simp only[xJ]at h;simpa[den]using ih h
 |_=>cases k<;>simp only[xJ]at h<;>cases h
theorem ET{l:E}{rs:List E}(h:jm l=some rs):(den env l).l=rs.reverse.map fun r=>(den env r).g:=by
 induction l generalizing rs with
 |lnil=>simp only[jm]at h;cases h;rfl
 |snoc l r ih _=>
  simp only[jm]at h;obtain⟨rs',h1,rfl⟩:=Option.map_eq_some_iff.1 h;simp[den,ih h1]
 |typed t l ih=>simp only[jm]at h;simp[den,ih h]
 |_=>simp only[jm]at h;cases h
theorem dp(l i:E)(k:Nat):den env (E.cell' l i k)=den env (.cell l i k):=by
 unfold E.cell';split
 ·rename_i n rs h1
  split
  ·rename_i h0
   split
   ·rename_i x hx
    obtain⟨r,h2,h3⟩:=Option.bind_eq_some_iff.1 hx;simp only[den,AV.i_int,ET h1,Nx,Nb,h2,NL,NX];have:=Jg (env:=env) h3
    simp only[Nx]at this;rw[this]
   ·rfl
  ·rfl
 ·rfl
theorem aA{e:E}(h:∀x∈aG e,(den env x).b=true):(den env e).b=true:=by
 unfold aG at h;split at h
 ·rfl
 ·exact h _ (List.mem_singleton.2 rfl)
theorem lN{n:Int}(h: -9223372036854775808<=n/\n<=9223372036854775807):IntKind.i64.wrap n=n:=IntWalk.i64_in _ h
theorem Ml{o:Oper}{op:BinOp}{t ty:TypeId}{x y:Operand}(ho:o.op=.binOp op t x y ty)(h:Rel w0 env κ F U tmp blk L a w){needs:List E}{v:SV}{wr:List (Nat×Option SB)}
   {p q:E} (hx:ag tmp x=.vi p) (hy:ag tmp y=.vi q) (hc:tC P op t (.vi p) (.vi q)=.ok needs v wr) (hn:∀e∈needs,(den env e).b=true):aB P w0 env κ F U tmp blk L a w o v wr:=by
 have vx:a.eval x=.int .i64 (den env p).i:=by have:=h.ev x;rw[hx]at this;exact this.1
 have vy:a.eval y=.int .i64 (den env q).i:=by have:=h.ev y;rw[hy]at this;exact this.1
 have R:∀u:Value,(binOp op t (.int .i64 (den env p).i) (.int .i64 (den env q).i)).run P w=.ok u w->bL P o a w u w:=fun u hu=>.inl (by
   simp only[execOp,ho,vx,vy];have hg:((eqGuard op t x y (.int .i64 (den env p).i) (.int .i64 (den env q).i)).run P w)=.ok () w:=by
    unfold eqGuard;cases op<;>simp
   simp only[Sem.run_bind,hg,Result.andThen_ok,hu,Sem.run_pure])
 have A:∀(io:IOp) (ns:List E) (rng:Bool),hY io p q ns rng=.ok needs v wr->(∀r,(rng=true-> -9223372036854775808<=r/\r<=9223372036854775807)->r=io.f (den env p).i (den env q).i->(∀e∈ns,(den env e).b=true)->(binOp op t (.int .i64 (den env p).i) (.int .i64 (den env q).i)).run P w=.ok (.int .i64 r) w)->aB P w0 env κ F U tmp blk L a w o v wr:=by
   intro io ns rng h1 h2;unfold hY at h1;cases h1
   refine aj h (R _ (h2 _ (fun hr=>?_) rfl (fun e he=>hn e (Nk _ he)))) ⟨by rw[bQ];rfl,by rw[bQ];rfl⟩
   have:=hn
   rw[if_pos hr]at this;have:=BD (aA fun e he=>this e (Nl _ he))
   rw[bQ]at this;exact this
 cases op<;>simp only[tC]at hc<;>try (cases hc;done)
 case add=>exact A _ _ _ hc fun r h1 h2 _=>by subst h2;simp[binOp,Op.intArith,IOp.f]at h1⊢;exact lN h1
 case sub=>exact A _ _ _ hc fun r h1 h2 _=>by subst h2;simp[binOp,Op.intArith,IOp.f]at h1⊢;exact lN h1
 case mul=>exact A _ _ _ hc fun r h1 h2 _=>by subst h2;simp[binOp,Op.intArith,IOp.f]at h1⊢;exact lN h1
 case quo=>
  exact A _ _ _ hc fun r h1 h2 h3=>by
   subst h2;have h0:=aA h3;rw[pV,eu]at h0;have h0:(den env q).i≠0:=fun e=>by simp[COp.f,den,e]at h0
   simp[binOp,Op.intDiv,IOp.f,h0]at h1⊢;exact lN h1
 case rem=>
  exact A _ _ _ hc fun r h1 h2 h3=>by
   subst h2;have h0:=aA h3;rw[pV,eu]at h0;have h0:(den env q).i≠0:=fun e=>by simp[COp.f,den,e]at h0
   simp[binOp,Op.intDiv,IOp.f,h0]
 case and=>exact A _ _ _ hc fun r h1 h2 _=>by subst h2;rfl
 case or=>exact A _ _ _ hc fun r h1 h2 _=>by subst h2;rfl
 case xor=>exact A _ _ _ hc fun r h1 h2 _=>by subst h2;rfl
 case andNot=>exact A _ _ _ hc fun r h1 h2 _=>by subst h2;rfl
 case shl=>
   cases hc
   have h0:=aA hn;rw[eu]at h0;have h0:0<=(den env q).i:=of_decide_eq_true h0
   refine aj h (R _ ?_) ⟨by rw[bQ],by rw[bQ];rfl⟩
   simp only[binOp,Op.shift];rw[if_neg (by omega)]
   first|done|rfl
 case shr=>
   cases hc
   have h0:=aA hn;rw[eu]at h0;have h0:0<=(den env q).i:=of_decide_eq_true h0
   refine aj h (R _ ?_) ⟨by rw[bQ],by rw[bQ];rfl⟩
   simp only[binOp,Op.shift];rw[if_neg (by omega)]
   first|done|rfl
 all_goals
   unfold dH at hc;cases hc
   refine aj h (R _ ?_) ⟨by first|rw[eu]|rw[pV,eu],by first|(rw[eu];rfl)|exact Ff _⟩
   simp[binOp,Op.intCmp,COp.f,bne]
   try rfl
theorem pO{x:SV}{u:Value}{k:IntKind}{e:E}(h:x.numOf=some (k,e))(hd:SVden env κ F w x u):u=.int k (den env e).num:=by
 unfold SV.numOf at h;split at h
 ·cases h
  rw[hd.1];have:=jw hd.2
  rw[this];rfl
 ·rename_i e'
  obtain⟨k',h1,h2⟩:=Option.map_eq_some_iff.1 h;cases h2
  have h3:=eR (env:=env) h1;exact AV.raw.inj (hd.1.symm.trans h3)
 ·cases h
theorem KT{o:Oper}{op:BinOp}{t ty:TypeId}{x y:Operand}(ho:o.op=.binOp op t x y ty)(h:Rel w0 env κ F U tmp blk L a w){needs:List E}{v:SV}{wr:List (Nat×Option SB)}
  {k k':IntKind} {p q:E} (hx:(ag tmp x).numOf=some (k,p)) (hy:(ag tmp y).numOf=some (k',q)) (hc:tD op k p k' q=.ok needs v wr) (hn:∀e∈needs,(den env e).b=true):aB P w0 env κ F U tmp blk L a w o v wr:=by
 have vx:a.eval x=.int k (den env p).num:=pO hx (h.ev x)
 have vy:a.eval y=.int k' (den env q).num:=pO hy (h.ev y)
 have R:∀u:Value,(binOp op t (.int k (den env p).num) (.int k' (den env q).num)).run P w=.ok u w->bL P o a w u w:=fun u hu=>.inl (by
  simp only[execOp,ho,vx,vy];have hg:((eqGuard op t x y (.int k (den env p).num) (.int k' (den env q).num)).run P w)=.ok () w:=by
   unfold eqGuard;cases op<;>simp
  simp only[Sem.run_bind,hg,Result.andThen_ok,hu,Sem.run_pure])
 cases op<;>simp only[tD]at hc<;>try (cases hc;done)
 case shl=>
  split at hc
  ·cases hc
  cases hc
  have h0:=aA hn;rw[zq]at h0;have h0:0<=(den env q).num:=of_decide_eq_true h0
  refine aj h (R _ ?_) ⟨pS ..,rfl⟩
  simp only[binOp,Op.shift];rw[if_neg (by omega)]
  first|done|rfl
 case shr=>
  split at hc
  ·cases hc
  cases hc
  have h0:=aA hn;rw[zq]at h0;have h0:0<=(den env q).num:=of_decide_eq_true h0
  refine aj h (R _ ?_) ⟨pS ..,rfl⟩
  simp only[binOp,Op.shift];rw[if_neg (by omega)]
  first|done|rfl
 case quo|rem=>
  split at hc
  ·rename_i hk
   obtain⟨rfl,hk⟩:=hk;cases hc
   have h0:=aA hn;rw[pV,zq]at h0;have h0:(den env q).num≠0:=fun e=>by
    have h1:(den env (.kcmp .eq q (.int 0))).b=true:=decide_eq_true (show(den env q).num=0 from e)
    rw[h1]at h0;cases h0
   refine aj h (R _ ?_) ⟨pS ..,rfl⟩
   simp[binOp,Op.intDiv,den,aa,h0]
  ·cases hc
 case eql|neq|lss|leq|gtr|geq=>
  split at hc
  ·rename_i hk
   subst hk;cases hc
   refine aj h (R _ ?_) ⟨rfl,rfl⟩
   simp[binOp,Op.intCmp,COp.f,den,bne]
   try rfl
  ·cases hc
 all_goals
  split at hc
  ·rename_i hk
   obtain⟨rfl,hk⟩:=hk;cases hc
   refine aj h (R _ ?_) ⟨pS ..,rfl⟩
   simp[binOp,Op.intArith,Op.intBits,den,aa]
  ·cases hc
theorem Gx{o:Oper}{x:Operand}(ho:o.op=.move x\/o.op=.assign x)(h:Rel w0 env κ F U tmp blk L a w):aB P w0 env κ F U tmp blk L a w o (ag tmp x) []:=
 aj h (.inl (by rcases ho with ho|ho<;>simp[execOp,ho])) (h.ev x)
theorem GG{o:Oper}{c x y:Operand}{e:E}{b:Bool}(ho:o.op=.pick c x y)(h:Rel w0 env κ F U tmp blk L a w)(hc:ag tmp c=.vb e)(hb:(den env e).b=b):
  aB P w0 env κ F U tmp blk L a w o (if b then ag tmp x else ag tmp y) []:=by
 have vc:a.eval c=.bool (den env e).b:=by have:=h.ev c;rw[hc]at this;exact this.1
 refine aj h (u:=if b then a.eval x else a.eval y) (.inl ?_) (by cases b;exact h.ev y;exact h.ev x)
 simp[execOp,ho,vc,asBool,hb]
theorem Kp{o:Oper}{t m:Nat}{x:SV}(ho:o.op=.alloc t)(h:Rel w0 env κ F U tmp blk L a w)(hm:¬U m)(hz:bM P t=some x)(h1:oN x.cells=true)(h2:x.whole=true):
  aB P w0 env κ F U tmp blk L a w o (.ptr m 0) [(m,some (.cells t x.cells))]:=by
 unfold bM at hz;obtain⟨z,hz1,rfl⟩:=Option.map_eq_some_iff.1 hz;obtain⟨i,hi,hz2⟩:=Option.bind_eq_some_iff.1 hz1;refine D9 h hm (cT z) (fun b hb=>by rw[sK]at hb;cases hb) h1 h2 (.inl ?_)
 simp[execOp,ho,Instr.alloc,zeroValue,typeInfo,hi,hz2,newVar,newRow]
theorem LW{o:Oper}{t m:Nat}{x:Operand}(ho:o.op=.box t x)(h:Rel w0 env κ F U tmp blk L a w)(hm:¬U m)(h1:oN (ag tmp x).cells=true)(h2:(ag tmp x).whole=true):
  aB P w0 env κ F U tmp blk L a w o (.ptr m 0) [(m,some (.cells t (ag tmp x).cells))]:=by
 refine D9 h hm (h.ev x) (h.evNames x) h1 h2 (.inl ?_)
 simp[execOp,ho,Instr.box,newVar,newRow]
theorem lI(u:Value):aU u=u.oneCell':=by cases u<;>rfl
theorem wG{t:Nat}(h:aP P t=true):(isAgg t).run P w=.ok (bE P t) w:=by
 unfold aP at h;obtain⟨d,hd⟩:=Option.isSome_iff_exists.1 (Bool.and_eq_true_iff.1 h).1;unfold isAgg bE;rw[Sem.run_bind,run_underlying hd,Result.andThen_ok,hd];cases d<;>rfl
theorem bB{t:Nat}(h:aP P t=true):(sizeOf t).run P w=.ok (P.cellsOf t) w:=by
 unfold aP at h;obtain⟨d,hd⟩:=Option.isSome_iff_exists.1 (Bool.and_eq_true_iff.1 h).2;exact run_sizeOf _ hd
theorem du(g o j:Nat):(⟨g,o,none⟩:Addr).add j=⟨g,o+j,none⟩:=by unfold Addr.add;split<;>simp_all
theorem run_load{t:Nat}{p:Addr}{us:List Value}(hk:aP P t=true)(hl:us.length=P.cellsOf t)(h:∀(j:Nat) u,us[j]?=some u->w.cell? (p.add j)=some u):
  bE P t=true->(Instr.loadAt t (.pointer (some p))).run P w=.ok (.agg us.toArray) w:=by
 intro hag;simp only[Instr.loadAt,Instr.sureAddr,loadVar,Sem.run_bind,Sem.run_pure,Result.andThen_ok,wG hk,hag,if_true,bB hk];rw[<-hl,run_loadCells_list w p us h];simp
theorem wo{t:Nat}{p:Addr}{u:Value}(hk:aP P t=true)(h:w.cell? p=some u):
  bE P t=false->(Instr.loadAt t (.pointer (some p))).run P w=.ok u w:=by
 intro hag;simp only[Instr.loadAt,Instr.sureAddr,loadVar,Sem.run_bind,Sem.run_pure,Result.andThen_ok,wG hk,hag];simp[load,Sem.run,h]
theorem yG(xs:SV)(off n:Nat):(xs.cut off n).list=(xs.list.drop off).take n:=by unfold SV.cut;rw[da]
theorem xF{xs:SV}{cs:Array Value}(hp:xs.proper=true)(h:SVden env κ F w xs (.tuple cs))(off n:Nat):SVden env κ F w (xs.cut off n) (.tuple ((cs.toList.drop off).take n).toArray):=by
 obtain⟨h1,h2⟩:=bc hp h;refine eM (by simp[list_len,h1]) (fun i x u hx hu=>?_)
 rw[Nc]at hx hu;split at hx
 ·rename_i hi
  rw[if_pos hi]at hu;rw[Nh]at hx hu;obtain⟨v,h3,h4⟩:=h2 _ x hx;rw[No,h3]at hu;cases hu;exact h4
 ·cases hx
theorem th{xs y:SV}{cs:Array Value}{off:Nat}(hp:xs.proper=true)(h:SVden env κ F w xs (.tuple cs))(hc:xs.cut off 1=.cons y .nil):∃u,cs[off]?=some u/\SVden env κ F w y u:=by
 obtain⟨h1,h2⟩:=bc hp h;refine h2 off y ?_
 have h3:(xs.cut off 1).list=[y]:=by rw[hc];rfl
 rw[yG]at h3;have h4:=congrArg (fun l=>l[0]?) h3
 simpa[Nc,Nh]using h4
theorem qE{e:E}{s:Ty}{v:SV}{u:Value}(h:eN e s=some v)(ht:(den env e).ty=s)(hd:Den F w u (den env e)):SVden env κ F w v u:=by
 cases s<;>simp only[eN]at h<;>try (cases h;done)
 ·cases h;rw[jw ht]at hd;exact⟨Den.int_iff.1 hd,ht⟩
 ·cases h;rw[xD ht]at hd;exact⟨Den.bool_iff.1 hd,ht⟩
 ·cases h;rw[Ey ht]at hd;have:=Den.raw_iff.1 hd;exact⟨by rw[this.1];exact Ey ht,by rw[this.1];exact this.2⟩
 ·cases h;rw[KM ht]at hd;exact hd
 ·rename_i k
  have hd':=hd;rw[wu ht]at hd';have h2:=Den.raw_iff.1 hd';cases h
  have e2:den env (if gQ e=some k then e else .co (.num k) e)=den env e:=by
   split
   ·rfl
   ·exact Ax ht
  exact⟨by rw[e2,h2.1];exact wu ht,by rw[h2.1];rfl⟩
 ·have hd':=hd
  rw[AS ht]at hd';have h2:=Den.raw_iff.1 hd';cases h
  have e2:den env (if dV e=true then e else .co .str e)=den env e:=by
   split
   ·rfl
   ·exact Ax ht
  exact⟨by rw[e2,h2.1];exact AS ht,by rw[h2.1];rfl⟩
theorem pw{e:E}{s:Ty}{v:SV}(h:eN e s=some v):v.names=[]:=by
 cases s<;>simp only[eN]at h<;>cases h<;>rfl
theorem DD{l i:E}{k:Nat}{ts:List Ty}{us:List Value}{xs:SV}(hc:cellsOf l i k ts=some xs)(hl:us.length=ts.length)
  (h:∀(j:Nat) s u,ts[j]?=some s->us[j]?=some u->Den F w u (den env (.cell l i (k+j)))/\(den env (.cell l i (k+j))).ty=s):SVden env κ F w xs (.tuple us.toArray)/\xs.proper=true/\xs.len=ts.length/\xs.names=[]:=by
 induction ts generalizing k us xs with
 |nil=>
  simp only[cellsOf]at hc;cases hc
  cases us with
  |nil=>exact⟨rfl,rfl,rfl,rfl⟩
  |cons u us=>simp at hl
 | cons t ts ih=>
  cases us with
  |nil=>simp at hl
  | cons u us=>
   simp only[cellsOf]at hc;split at hc
   ·rename_i x ys h1 h2
    cases hc
    obtain⟨i1,i2,i3,i4⟩:=ih h2 (by simpa using hl) (fun j s u a b=>by
     have:=h (j+1) s u (by simpa using a) (by simpa using b)
     rw[show k+(j+1)=k+1+j by omega]at this;exact this)
    obtain⟨d1,d2⟩:=h 0 t u rfl rfl;have d1:Den F w u (den env (E.cell' l i k)):=by rw[dp];exact d1
    have d2:(den env (E.cell' l i k)).ty=t:=by rw[dp];exact d2
    exact⟨⟨u,us,rfl,qE h1 (by rw[tK d2];exact d2) (by rw[tK d2];exact d1),i1⟩,i2,by simp[SV.len,i3],by simp[SV.names,pw h1,i4]⟩
   ·cases hc
theorem BO(h:Rel w0 env κ F U tmp blk L a w){o:Oper}{t:Nat}{x:Operand}(ho:o.op=.load t x)(hk:aP P t=true){ty:Ty}{l i:E}{k:Nat}{p:Addr}(hx:a.eval x=.pointer (some p)){needs:List E}{v:SV}{wr:List (Nat×Option SB)}
  (hc:loadOut.el P t ty l i k (P.cellsOf t)=.ok needs v wr)
  (hcell:∀j s,ty.list[k+j]?=some s->∃u,w.cell? (p.add j)=some u/\Den F w u (den env (.cell l i (k+j)))/\(den env (.cell l i (k+j))).ty=s):aB P w0 env κ F U tmp blk L a w o v wr/\v.names=[]:=by
 have R:∀u,(Instr.loadAt t (.pointer (some p))).run P w=.ok u w->bL P o a w u w:=fun u hu=>.inl (by
  simp only[execOp,ho,hx,Sem.run_bind,hu,Result.andThen_ok,Sem.run_pure])
 unfold loadOut.el at hc;split at hc
 ·rename_i hag
  split at hc
  ·rename_i xs hxs
   split at hc
   ·rename_i hlen
    cases hc
    have hts:((ty.list.drop k).take (P.cellsOf t)).length=P.cellsOf t:=by
     obtain⟨us,hus⟩:∃us:List Value,us.length=((ty.list.drop k).take (P.cellsOf t)).length/\∀j u,us[j]?=some u->w.cell? (p.add j)=some u:=by
      refine⟨(Ng ((ty.list.drop k).take (P.cellsOf t)).length).map (fun j=>(w.cell? (p.add j)).getD undef),by simp,fun j u hu=>?_⟩
      rw[Nb]at hu;obtain⟨j',hj',rfl⟩:=Option.map_eq_some_iff.1 hu;have hj2:=List.getElem?_eq_some_iff.1 hj';obtain⟨hj3,hj4⟩:=hj2;simp at hj4;subst hj4
      simp only[NF]at hj3;have hs:((ty.list.drop k).take (P.cellsOf t))[j]?=some ((ty.list.drop k).take (P.cellsOf t))[j]:=Nf hj3
      have hs2:=hs;rw[Nc]at hs2;split at hs2
      ·rw[Nh]at hs2
       obtain⟨u,hu1,_⟩:=hcell j _ hs2;rw[hu1];rfl
      ·cases hs2
     have e:=(DD (env:=env) (κ:=κ) (F:=F) (w:=w) hxs hus.1 (fun j s u hs hu=>by
      have hs2:=hs;rw[Nc]at hs2;split at hs2
      ·rw[Nh]at hs2
       obtain⟨u',hu1,hu2,hu3⟩:=hcell j _ hs2;have:=hus.2 j u hu
       rw[hu1]at this;cases this
       exact⟨hu2,hu3⟩
      ·cases hs2)).2.2.1
     omega
    obtain⟨us,hus1,hus2⟩:∃us:List Value,us.length=P.cellsOf t/\∀j s,((ty.list.drop k).take (P.cellsOf t))[j]?=some s->∃u,us[j]?=some u/\w.cell? (p.add j)=some u/\Den F w u (den env (.cell l i (k+j)))/\(den env (.cell l i (k+j))).ty=s:=by
     refine⟨(Ng (P.cellsOf t)).map (fun j=>(w.cell? (p.add j)).getD undef),by simp,fun j s hs=>?_⟩
     have hs2:=hs;have hj:j<P.cellsOf t:=by rw[<-hts];exact(List.getElem?_eq_some_iff.1 hs).1
     rw[Nc,if_pos hj,Nh]at hs2;obtain⟨u,hu1,hu2⟩:=hcell j s hs2;exact⟨u,by simp[hj,hu1],hu1,hu2⟩
    have hd:=DD (env:=env) (κ:=κ) (F:=F) (w:=w) hxs (us:=us) (by rw[hts,hus1]) (fun j s u hs hu=>by
     obtain⟨u',h1,h2,h3⟩:=hus2 j s hs;rw[h1]at hu;cases hu;exact h3)
    refine⟨aj h (R _ (run_load (us:=us) hk hus1 (fun j u hu=>?_) hag)) ⟨_,rfl,hd.2.1,hd.1⟩,hd.2.2.2⟩
    have hj:j<P.cellsOf t:=by rw[<-hus1];exact(List.getElem?_eq_some_iff.1 hu).1
    obtain⟨u',h1,h2,_⟩:=hus2 j _ (Nf (by rw[hts];exact hj))
    rw[h1]at hu;cases hu;exact h2
   ·cases hc
  ·cases hc
 ·rename_i hag
  split at hc
  ·rename_i x hx2
   cases hc
   obtain⟨s,hs,hx3⟩:=Option.bind_eq_some_iff.1 hx2;obtain⟨u,hu1,hu2,hu3⟩:=hcell 0 s hs;exact⟨aj h (R u (wo hk (by simpa[Addr.add]using hu1) (by simpa using hag))) (qE hx3 (by rw[tK (by rw[dp];exact hu3),dp];exact hu3) (by rw[tK (by rw[dp];exact hu3),dp];exact hu2)),pw hx3⟩
  ·cases hc
theorem mX{l i:E}{j:Nat}{r:List AV}{x:AV}(hr:(den env l).l[(den env i).i.toNat]?=some r)(hx:r[j]?=some x):den env (.cell l i j)=x:=by
 simp[den,Nx,hr,hx]
theorem Ls{con:Nat->Bool}{o:Oper}{t:Nat}{x:Operand}(ho:o.op=.load t x)(h:Rel w0 env κ F U tmp blk L a w){needs:List E}{v:SV}{wr:List (Nat×Option SB)}
  (hc:loadOut P con blk t (ag tmp x)=.ok needs v wr) (hnd:∀e∈needs,(den env e).b=true):aB P w0 env κ F U tmp blk L a w o v wr:=by
 have hev:=h.ev x;unfold loadOut at hc;simp only at hc
 split at hc
 ·cases hc
 rename_i hk
 have hk:aP P t=true:=by simpa using hk
 have R:∀p u,a.eval x=.pointer (some p)->(Instr.loadAt t (.pointer (some p))).run P w=.ok u w->bL P o a w u w:=fun p u hx hu=>.inl (by
  simp only[execOp,ho,hx,Sem.run_bind,hu,Result.andThen_ok,Sem.run_pure])
 split at hc
 ·rename_i b off hx
  rw[hx]at hev;obtain⟨g,h1,h2⟩:=hev;split at hc
  ·rename_i ty xs hb
   obtain⟨g',cs,h3,h4,h5,h6,h7,h8⟩:=h.blks b _ hb;rw[h1]at h3;cases h3
   split at hc
   ·rename_i hle
    obtain⟨hz1,hz2⟩:=bc h7 h6;split at hc
    ·rename_i hag
     cases hc
     refine aj h (R _ _ h2 (run_load (us:=(cs.toList.drop off).take (P.cellsOf t)) hk (by simp;omega) (fun j u hu=>?_) hag)) ⟨_,rfl,bA _,xF h7 h6 _ _⟩
     rw[du];rw[Nc]at hu;split at hu
     ·rw[Nh]at hu
      simp[World.cell?,h4];simpa using hu
     ·cases hu
    ·rename_i hag
     split at hc
     ·rename_i y hy
      cases hc
      obtain⟨u,hu,hd⟩:=th h7 h6 hy;exact aj h (R _ u h2 (wo hk (by simp[World.cell?,h4,hu]) (by simpa using hag))) hd
     ·cases hc
   ·cases hc
  ·cases hc
 ·rename_i ty l i k hx
  rw[hx]at hev;obtain⟨p,c,h1,h2,h3,h4⟩:=hev;refine(BO h ho hk h4 hc (fun j s hs=>?_)).1
  obtain⟨A,c',e,_,_,hty,hrow⟩:=Den.view h1;cases e
  have hi:(den env i).i.toNat<(den env l).l.length:=by omega
  have hr:=Nf hi;obtain⟨p',e2,_,hcell⟩:=hrow _ _ hr;cases e2
  have ht:=hty _ _ hr;have hs2:((den env l).l[(den env i).i.toNat].map AV.ty)[k+j]?=some s:=by rw[ht];exact hs
  rw[Nb]at hs2;obtain⟨y,hy,hys⟩:=Option.map_eq_some_iff.1 hs2;obtain⟨u,hu,hd⟩:=hcell (k+j) y hy;refine⟨u,by rw[ep,NE];exact hu,?_⟩
  rw[mX hr hy];exact⟨hd,hys⟩
 ·rename_i b ty i k hx
  rw[hx]at hev;obtain⟨g,go,n,c,h1,h2,h3,h4⟩:=hev;split at hc
  ·rename_i e ty' l hb
   split at hc
   ·rename_i hca
    split at hc
    ·rename_i c
     split at hc
     ·rename_i hh
      obtain⟨h5,h6,h7,h8⟩:=hh;subst h5;subst h6;subst h7;cases hc
      obtain⟨us,hown,hpos,hty,hrow⟩:=h.blks b _ hb;rw[h1]at hown;have hgo:=jN hown;subst hgo;have n1:(c+(P.cellsOf t:Int))<=(den env l.len').i:=by
       have:=aA hnd
       rw[eu]at this;exact of_decide_eq_true this
      rw[aY]at n1;simp only[AV.i_int]at n1;obtain⟨cv,rfl⟩:∃k:Nat,(k:Int)=c:=⟨c.toNat,by omega⟩
      have key:∀q,q<P.cellsOf t->∃y:AV,y.ty=.int/\den env (.cell l (.int ((cv:Int)+(q:Int))) 0)=y/\w.cell? ((⟨g,0,none⟩:Addr).add (cv+q))=some (.int .i64 y.i):=fun q hq=>by
       have hi:cv+q<(den env l).l.length:=by omega
       have hr:=Nf hi;have ht:=hty _ _ hr;have hs2:((den env l).l[cv+q].map AV.ty)[0]?=some .int:=by rw[ht];rfl
       rw[Nb]at hs2;obtain⟨y,hy,hys⟩:=Option.map_eq_some_iff.1 hs2;obtain⟨u,hu,hd⟩:=hrow _ _ _ _ hr hy;have hu2:=hown.cells (g:=g) rfl _ _ hu;refine⟨y,hys,?_,?_⟩
       ·refine mX (r:=(den env l).l[cv+q]) ?_ hy
        have:(den env (.int ((cv:Int)+(q:Int)))).i.toNat=cv+q:=by
         show((cv:Int)+(q:Int)).toNat=cv+q
         omega
        rw[this];exact hr
       ·have hl1:(Ty.cons .int .nil).len=1:=rfl
        rw[hl1,Nat.mul_one,Nat.add_zero]at hu2;rw[hu2];rw[jw hys]at hd;rw[Den.int_iff.1 hd]
      have h4':a.eval x=.pointer (some ((⟨g,0,none⟩:Addr).add cv)):=by
       rw[h4];have:(den env (.int (cv:Int))).i.toNat*(Ty.cons .int .nil).len+0=cv:=by
        show((cv:Int)).toNat*1+0=cv
        omega
       rw[this]
      refine aj h (R _ _ h4' (run_load (us:=(Ng (P.cellsOf t)).map fun q=>(w.cell? ((⟨g,0,none⟩:Addr).add (cv+q))).getD undef) hk (by simp) (fun j u hu=>?_) hca.2)) ⟨_,rfl,bA _,eM (by simp) (fun q y u hy hu=>?_)⟩
      ·rw[Nb]at hu
       obtain⟨j',hj',rfl⟩:=Option.map_eq_some_iff.1 hu;obtain⟨hj3,hj4⟩:=List.getElem?_eq_some_iff.1 hj';simp only[NT]at hj4;subst hj4;simp only[NF]at hj3;obtain⟨y,_,_,hy⟩:=key _ hj3;rw[ep,hy];rfl
      ·rw[Nb]at hu hy
       obtain⟨j',hj',rfl⟩:=Option.map_eq_some_iff.1 hu;rw[hj']at hy;obtain⟨hj3,hj4⟩:=List.getElem?_eq_some_iff.1 hj';simp only[NT]at hj4;subst hj4;simp only[NF]at hj3;cases hy
       obtain⟨y,hy1,hy2,hy3⟩:=key _ hj3;rw[hy3];have e1:den env ((E.cell' l (.int ((cv:Int)+(q:Int))) 0).as .int)=y:=by rw[tK (by rw[dp,hy2];exact hy1),dp,hy2]
       exact⟨by rw[e1];rfl,by rw[e1];exact hy1⟩
     ·cases hc
    ·cases hc
   split at hc
   ·rename_i hty'
    subst hty';obtain⟨us,hown,hpos,hty,hrow⟩:=h.blks b _ hb;rw[h1]at hown;have hgo:=jN hown;subst hgo;refine(BO h ho hk h4 hc (fun j s hs=>?_)).1
    have hn:n=(den env l).l.length:=by
     rcases hown.2 with⟨e,_⟩|⟨g',cap,cur,e,_⟩
     ·cases e
     ·injection e
    have hi:(den env i).i.toNat<(den env l).l.length:=by omega
    have hr:=Nf hi;have ht:=hty _ _ hr;have hs2:((den env l).l[(den env i).i.toNat].map AV.ty)[k+j]?=some s:=by rw[ht];exact hs
    rw[Nb]at hs2;obtain⟨y,hy,hys⟩:=Option.map_eq_some_iff.1 hs2;obtain⟨u,hu,hd⟩:=hrow _ _ _ _ hr hy;refine⟨u,?_,?_⟩
    ·rw[ep,NE]
     exact hown.cells (g:=g) rfl _ _ hu
    ·rw[mX hr hy]
     exact⟨hd,hys⟩
   ·cases hc
  ·rename_i e ty' l hb
   split at hc
   ·rename_i hty'
    subst hty';obtain⟨us,hown,hpos,hty,hrow⟩:=h.blks b _ hb;rw[h1]at hown;refine(BO h ho hk h4 hc (fun j s hs=>?_)).1
    rcases hown.2 with⟨e',_⟩|⟨g',o',cap,cur,fz,e',b1,b2,bz,b3,b4,b5,b6⟩
    ·cases e'
    injection e' with e1 e2 e3
    injection e1 with e1
    injection e1 with e1 e4
    subst e1;subst e4;subst e3;have hi:(den env i).i.toNat<(den env l).l.length:=by omega
    have hr:=Nf hi;have ht:=hty _ _ hr;have hs2:((den env l).l[(den env i).i.toNat].map AV.ty)[k+j]?=some s:=by rw[ht];exact hs
    rw[Nb]at hs2;obtain⟨y,hy,hys⟩:=Option.map_eq_some_iff.1 hs2;obtain⟨u,hu,hd⟩:=hrow _ _ _ _ hr hy;refine⟨u,?_,?_⟩
    ·rw[ep,NE,du,cell_of_row w g _ cur e fz b2]
     rw[<-b6,Nc]at hu;split at hu
     ·rw[Nh]at hu;simpa using hu
     ·cases hu
    ·rw[mX hr hy]
     exact⟨hd,hys⟩
   ·cases hc
  ·cases hc
 ·cases hc
theorem gF{B:Nat}{A:World}{g:Nat}{cs:Array Value}(h:Below B A w)(hg:B<=g):Below B A (w.setRow g cs):=
 h.trans ⟨rfl,rfl,rfl,by simp,fun k hk=>setRow_other w g k cs (by omega)⟩
theorem mo{t:Nat}{g off:Nat}{cur:Array Value}{ty:TypeId}{z:Value}(hk:aP P t=true)(hg:w.heap[g]?=some (.cells cur ty (0,0)))(hz:z.cells.size=P.cellsOf t)(hle:off+z.cells.size<=cur.size)(h1:∀u∈z.cells,aU u=true):
  (Instr.storeAt t (.pointer (some ⟨g,off,none⟩)) z).run P w=.ok () (w.setRow g (cur.toList.take off++z.cells.toList++cur.toList.drop (off+z.cells.size)).toArray):=by
 simp only[Instr.storeAt,Instr.sureAddr,storeVar,Sem.run_bind,Sem.run_pure,Result.andThen_ok,bB hk,hz];simp only[ne_eq,not_true_eq_false,if_false];have:=run_storeCells_at (P:=P) g off ty z.cells.toList 0 cur w hg (by simpa using hle) (fun v hv=>by rw[<-lI];exact h1 v (by simpa using hv))
 rw[this];simp[hz]
theorem cW{α:Type}{l m:List α}{off:Nat}(hoff:off<=l.length)(i:Nat):(l.take off++m++l.drop (off+m.length))[i]?=if i<off then l[i]? else if i<off+m.length then m[i-off]? else l[i]?:=by
 by_cases h1:i<off
 ·rw[if_pos h1,List.append_assoc,Nq (by simp;omega),Nc,if_pos h1]
 ·rw[if_neg h1]
  by_cases h2:i<off+m.length
  ·rw[if_pos h2,Nq (by simp;omega),Np (by simp;omega)]
   congr 1;simp;omega
  ·rw[if_neg h2,Np (by simp;omega),Nh]
   congr 1;simp;omega
theorem E5{o:Oper}{t:Nat}{x y:Operand}(ho:o.op=.store t x y)(h:Rel w0 env κ F U tmp blk L a w){b off:Nat}(hx:ag tmp x=.ptr b off){ty:Nat}{xs:SV}(hb:blk b=some (.cells ty xs))
  (hn:(ag tmp y).cells.len=P.cellsOf t) (hk:aP P t=true) (h1:oN (ag tmp y).cells=true) (h2:(ag tmp y).whole=true) (hle:off+(ag tmp y).cells.len<=xs.len):
  aB P w0 env κ F U tmp blk L a w o .any [(b,some (.cells ty (.of (xs.list.take off++(ag tmp y).cells.list++xs.list.drop (off+(ag tmp y).cells.len)))))]:=by
 have hev:=h.ev x;rw[hx]at hev;obtain⟨g,g1,g2⟩:=hev;obtain⟨g',cs,h3,h4,h5,h6,h7,h8⟩:=h.blks b _ hb;rw[g1]at h3;cases h3
 obtain⟨d1,d2⟩:=fa h2 (h.ev y);have d3:=pI d2 h1 d1;obtain⟨s1,s2⟩:=bc d2 d1;obtain⟨t1,t2⟩:=bc h7 h6;have hF:∀k,F k->k≠g:=fun k hF e=>h.nF b g (by rw[hb];rfl) (by rw[g1];rfl) (e▸hF)
 have hw:∀k,k≠g->∀cs',(w.setRow g cs').heap[k]?=w.heap[k]?:=fun k hk cs'=>setRow_other w g k cs' hk
 have hrun:=mo (P:=P) (w:=w) (t:=t) (z:=a.eval y) (off:=off) hk h4 (by rw[s1,hn]) (by rw[s1,t1];exact hle) d3
 have hR:bL P o a w undef (w.setRow g (cs.toList.take off++(a.eval y).cells.toList++cs.toList.drop (off+(a.eval y).cells.size)).toArray):=.inr ⟨rfl,by simp only[execOp,ho,g2,Sem.run_bind,hrun,Result.andThen_ok,Sem.run_pure]⟩
 refine⟨undef,_,κ,F,hR,?_,trivial,h.stored_kept hb rfl rfl (fun k hk=>hw k (fun e=>hk (by rw[g1,e];rfl)) _) (by simp)⟩
 refine(h.stored (y:=.cells ty (.of (xs.list.take off++(ag tmp y).cells.list++xs.list.drop (off+(ag tmp y).cells.len)))) hb rfl (fun k hk=>hw k (fun e=>hk (by rw[g1,e];rfl)) _) (by simp) ?_ ?_ (gF h.below h5)).monoU (fun b hb=>.inl hb)
 ·refine⟨g,_,g1,setRow_heap w g cs _ ty (0,0) h4,h5,?_,bA _,?_⟩
  ·refine eM (by simp[list_len,s1,t1]) (fun i z u hz hu=>?_)
   have e1:=cW (l:=cs.toList) (m:=(a.eval y).cells.toList) (off:=off) (by simp;omega) i
   have e2:=cW (l:=xs.list) (m:=(ag tmp y).cells.list) (off:=off) (by rw[list_len];omega) i
   rw[list_len]at e2;rw[Nw]at e1;rw[e1]at hu;rw[e2]at hz;have key:SVden env κ F w z u:=by
    split at hz
    ·rename_i hi
     rw[if_pos hi]at hu;obtain⟨v,h9,h10⟩:=t2 i z hz;rw[No,h9]at hu;cases hu;exact h10
    ·rename_i hi
     rw[if_neg hi]at hu;split at hz
     ·rename_i hi2
      rw[s1,if_pos hi2]at hu;obtain⟨v,h9,h10⟩:=s2 _ z hz;rw[No,h9]at hu;cases hu;exact h10
     ·rename_i hi2
      rw[s1,if_neg hi2]at hu;obtain⟨v,h9,h10⟩:=t2 i z hz;rw[No,h9]at hu;cases hu;exact h10
   exact key.keep (fun _ _=>rfl) (fun _ h=>h) (fun k hk=>hw k (hF k hk) _)
  ·intro u hu
   simp only[NZ,N2]at hu;rcases hu with(hu|hu)|hu
   ·exact h8 u (by simpa using NQ hu)
   ·exact d3 u (by simpa using hu)
   ·exact h8 u (by simpa using NR hu)
 ·intro c hc
  obtain⟨z,hz,hc⟩:=(eH _ c).1 hc;simp only[N2]at hz;have hxs:∀c∈xs.names,U c:=(h.bnames b _ hb).2
  rcases hz with(hz|hz)|hz
  ·exact hxs c (bW xs z (NQ hz) c hc)
  ·exact h.evNames y c (ta c (bW _ z hz c hc))
  ·exact hxs c (bW xs z (NR hz) c hc)
theorem rN{x:SV}{e:E}{s:Ty}{u:Value}(hx:x.leaf=some (e,s))(h:SVden env κ F w x u):Den F w u (den env e)/\(den env e).ty=s/\aU u=true:=by
 cases x<;>simp only[SV.leaf]at hx<;>try (cases hx;done)
 ·cases hx;exact⟨by rw[h.1,jw h.2];exact .int _,h.2,by rw[h.1];rfl⟩
 ·cases hx;exact⟨by rw[h.1,xD h.2];exact .bool _,h.2,by rw[h.1];rfl⟩
 ·obtain⟨t,ht,he⟩:=Option.map_eq_some_iff.1 hx
  cases he
  exact⟨by rw[h.1];exact .raw _ h.2,KD ht,h.2⟩
 ·cases hx
  obtain⟨A,c,e,_⟩:=Den.view h;exact⟨h,rfl,by rw[e];rfl⟩
theorem pR(t:Ty):Den F w (.slice none 0 0) (.sl t []):=Den.mk (l:=[]) rfl (Nr _) (Nat.zero_le _) (fun i r h=>by simp at h) (fun h=>absurd rfl h)
theorem wY{xs:SV}{t:Ty}{e:E}{us:Array Value}(he:kL xs t=some e)(h:SVden env κ F w xs (.tuple us)):
  (den env e).g.map AV.ty=t.list/\us.size=t.len/\(∀(k:Nat) x,(den env e).g[k]?=some x->∃u,us[k]?=some u/\Den F w u x)/\∀u∈us,aU u=true:=by
 induction xs generalizing t e us with
 |nil=>
  cases t<;>simp only[kL]at he<;>cases he
  cases h
  exact⟨rfl,rfl,fun k x hx=>by simp[den]at hx,by simp⟩
 | cons x xs _ ih=>
  obtain⟨p,q,h1,h2,h3⟩:=h;cases h1
  cases t with
  | cons t ts=>
   have key:∀(c es:E),kL xs ts=some es->e=.rcons c es->Den F w p (den env c)->(den env c).ty=t->aU p=true->(den env e).g.map AV.ty=(Ty.cons t ts).list/\((p::q).toArray).size=(Ty.cons t ts).len/\(∀(k:Nat) x,(den env e).g[k]?=some x->∃u,((p::q).toArray)[k]?=some u/\Den F w u x)/\∀u∈(p::q).toArray,aU u=true:=by
    intro c es g1 g2 g3 g4 g5;subst g2;obtain⟨i1,i2,i3,i4⟩:=ih g1 h3;refine⟨by simp[den,Ty.list,g4,i1],by simp at i2;simp[Ty.len,i2],fun k x hx=>?_,fun u hu=>?_⟩
    ·cases k with
     |zero=>simp[den]at hx;subst hx;exact⟨p,by simp,g3⟩
     |succ k=>
      simp[den]at hx
      obtain⟨u,h5,h6⟩:=i3 k x hx;exact⟨u,by simpa using h5,h6⟩
    ·simp only[NZ,List.mem_cons]at hu
     rcases hu with rfl|hu
     ·exact g5
     ·exact i4 u (by simpa using hu)
   simp only[kL]at he;split at he
   ·rename_i c s es g1 g2
    split at he
    ·rename_i hs
     cases he
     obtain⟨d1,d2,d3⟩:=rN g1 h2;exact key _ _ g2 rfl d1 (d2.trans hs) d3
    ·cases he
   ·rename_i es g1 g2
    split at he
    ·rename_i t'
     cases he
     refine key _ _ g2 rfl ?_ rfl ?_
     ·rw[show p=_ from h2];exact pR _
     ·rw[show p=_ from h2];rfl
    ·cases he
   ·cases he
  |_=>simp only[kL]at he;cases he
 |_=>cases t<;>simp only[kL]at he<;>cases he
theorem j0{n:Nat}{row:Ty}(hn:row.len=n):∀(m:Nat) (xs:List SV) (e:E) (us:List Value),gE n row m xs=some e->xs.length=m*n->us.length=xs.length->(∀(i:Nat) x u,xs[i]?=some x->us[i]?=some u->SVden env κ F w x u) →
  (den env e).l.length=m/\RowsDen F w us row (den env e).l/\∀u∈us,aU u=true
 | 0,xs,e,us,he,hl,hu,h=>by
  cases xs with
  |nil=>
   simp only[gE]at he;cases he
   have:us=[]:=NC hu
   subst this;exact⟨rfl,⟨fun i r hr=>by simp[den]at hr,fun i r k x hr=>by simp[den]at hr⟩,by simp⟩
  |cons x xs=>simp only[gE]at he;cases he
 | m + 1,xs,e,us,he,hl,hu,h=>by
  simp only[gE]at he;split at he
  ·rename_i l r h1 h2
   cases he
   have hmn:(m+1)*n=m*n+n:=NJ m n
   have a1:(xs.take (m*n)).length=m*n:=by simp;omega
   obtain⟨i1,i2,i3⟩:=j0 hn m _ l (us.take (m*n)) h1 a1 (by simp;omega) (fun i x u hx hu=>by
    rw[Nc]at hx hu;split at hx
    ·rename_i hi;rw[if_pos hi]at hu;exact h i x u hx hu
    ·cases hx)
   have ht:SVden env κ F w (.of (xs.drop (m*n))) (.tuple (us.drop (m*n)).toArray):=eM (by simp;omega) (fun i x u hx hu=>by
    rw[Nh]at hx hu;exact h _ x u hx hu)
   obtain⟨r1,r2,r3,r4⟩:=wY h2 ht;refine⟨by simp[den,i1],⟨fun i r' hr=>?_,fun i r' k x hr hx=>?_⟩,fun u hu=>?_⟩
   ·simp only[den,AV.l_sl]at hr
    by_cases hi:i<(den env l).l.length
    ·rw[Nq hi]at hr;exact i2.1 i r' hr
    ·rw[Np (by omega)]at hr
     obtain⟨hlt,rfl⟩:=List.getElem?_eq_some_iff.1 hr;simp at hlt⊢;exact r1
   ·simp only[den,AV.l_sl]at hr
    by_cases hi:i<(den env l).l.length
    ·rw[Nq hi]at hr
     obtain⟨u,hu1,hu2⟩:=i2.2 i r' k x hr hx;have hlt:=(List.getElem?_eq_some_iff.1 hu1).1;rw[Nc]at hu1;split at hu1
     ·exact⟨u,hu1,hu2⟩
     ·cases hu1
    ·rw[Np (by omega)]at hr
     obtain⟨hlt,rfl⟩:=List.getElem?_eq_some_iff.1 hr;simp at hlt
     have hii:i=m:=by omega
     subst hii;simp at hx
     obtain⟨u,hu1,hu2⟩:=r3 k x hx;refine⟨u,?_,hu2⟩
     simp at hu1
     rw[hn];exact hu1
   ·rcases List.mem_append.1 (by rw[List.take_append_drop (m*n) us];exact hu:u∈us.take (m*n)++us.drop (m*n))with hu|hu
    ·exact i3 u hu
    ·exact r4 u (by simpa using hu)
  ·cases he
theorem vL{i:E}:∀(xs:List SV) (l e:E) (k:Nat) (ts:List Ty),gW l i k xs ts=some e →
  (den env e).l.length=(den env l).l.length/\∀(j:Nat) r,(den env e).l[j]?=some r->∃r0,(den env l).l[j]?=some r0/\r.length=r0.length/\∀(q:Nat) x,r[q]?=some x →
   (j=(den env i).i.toNat/\k<=q/\q<k+xs.length/\∃y c s,xs[q-k]?=some y/\y.leaf=some (c,s)/\x=den env c/\ts[q]?=some s)\/((j≠(den env i).i.toNat\/q<k\/k+xs.length<=q)/\r0[q]?=some x)
 |[],l,e,k,ts,he=>by
  simp only[gW]at he;cases he
  exact⟨rfl,fun j r hr=>⟨r,hr,rfl,fun q x hx=>.inr ⟨by simp;omega,hx⟩⟩⟩
 | y :: xs,l,e,k,ts,he=>by
  simp only[gW]at he;split at he
  ·rename_i c u s h1 h2
   split at he
   ·rename_i hus
    split at he
    ·rename_i r' h3
     cases he
     obtain⟨i1,i2⟩:=vL xs _ _ (k+1) ts h3;have hset:∀j,(den env (.set l i k c)).l[j]?=if(den env i).i.toNat=j then((den env l).l[j]?).map (fun r=>r.set k (den env c))else(den env l).l[j]?:=fun j=>by
      simp only[den,AV.l_sl,List.getElem?_modify];split
      ·rfl
      ·simp
     refine⟨by rw[i1];simp[den],fun j r hr=>?_⟩
     obtain⟨r1,g1,g2,g3⟩:=i2 j r hr;rw[hset]at g1;by_cases hj:(den env i).i.toNat=j
     ·rw [if_pos hj]at g1
      obtain⟨r0,g4,rfl⟩:=Option.map_eq_some_iff.1 g1;refine⟨r0,g4,by simpa using g2,fun q x hx=>?_⟩
      rcases g3 q x hx with⟨a1,a2,a3,y',c',s',b1,b2,b3,b4⟩|⟨a1,a2⟩
      ·refine .inl ⟨a1,by omega,by simp;omega,y',c',s',?_,b2,b3,b4⟩
       rw[show q-k=(q-(k+1))+1 by omega];simpa using b1
      ·rw[List.getElem?_set]at a2
       split at a2
       ·rename_i hq
        split at a2
        ·cases a2
         subst hq;exact .inl ⟨hj.symm,Nr _,by simp,y,c,u,by simp,h1,rfl,by rw[hus];exact h2⟩
        ·cases a2
       ·rename_i hq
        refine .inr ⟨?_,a2⟩
        rcases a1 with a1|a1|a1
        ·exact .inl a1
        ·right;left;omega
        ·right;right;simp;omega
     ·rw[if_neg hj]at g1
      refine⟨r1,g1,g2,fun q x hx=>?_⟩
      rcases g3 q x hx with⟨a1,_⟩|⟨_,a2⟩
      ·exact absurd a1.symm hj
      ·exact .inr ⟨.inl (Ne.symm hj),a2⟩
    ·cases he
   ·cases he
  ·cases he
theorem EO{o:Oper}{t:Nat}{x y:Operand}(ho:o.op=.store t x y)(h:Rel w0 env κ F U tmp blk L a w){b:Nat}{ty:Ty}{i:E}{k:Nat}(hx:ag tmp x=.rptr b ty i k){e:Nat}{l l':E}(hb:blk b=some (.row e ty l))
  (hn:(ag tmp y).cells.len=P.cellsOf t) (hk:aP P t=true) (h2:(ag tmp y).whole=true) (hs:gW l i k (ag tmp y).cells.list ty.list=some l') (h1:oN (ag tmp y).cells=true):
  aB P w0 env κ F U tmp blk L a w o .any [(b,some (.row e ty l'))]:=by
 have hev:=h.ev x;rw[hx]at hev;obtain⟨g,go,n,c,g1,g2,g3,g4⟩:=hev;obtain⟨us,hown,hpos,hrow⟩:=h.blks b _ hb;rw[g1]at hown;have hgo:=jN hown;subst hgo;obtain⟨d1,d2⟩:=fa h2 (h.ev y);have d3:=pI d2 h1 d1;obtain⟨s1,s2⟩:=bc d2 d1;obtain⟨e1,e2⟩:=vL (env:=env) (i:=i) _ l l' k ty.list hs
 obtain⟨hul,hown2⟩:=hown;rcases hown2 with⟨hv,_⟩|⟨g',cap,cur,hv,hgb,hg,hnc,hcm,hcs,hcur⟩
 ·cases hv
 cases hv
 have hidx:(den env i).i.toNat<(den env l).l.length:=by omega
 obtain⟨m,hm⟩:∃m,m=(ag tmp y).cells.len:=⟨_,rfl⟩
 have hkm:k+m<=ty.len\/m=0:=by
  by_cases h0:m=0
  ·exact .inr h0
  ·left
   have hr:∃r,(den env l').l[(den env i).i.toNat]?=some r:=⟨_,Nf (by rw[e1];exact hidx)⟩
   have key:∀(xs:List SV) (l e:E) (k:Nat) (ts:List Ty),gW l i k xs ts=some e->xs≠[]->k+xs.length<=ts.length:=by
    intro xs;induction xs with
    |nil=>intro _ _ _ _ _ h;exact absurd rfl h
    | cons z zs ih=>
     intro l e k ts he _;simp only[gW]at he;split at he
     ·rename_i c' u' s' q1 q2
      split at he
      ·split at he
       ·rename_i r' h3
        have hk:=(List.getElem?_eq_some_iff.1 q2).1;by_cases hz:zs=[]
        ·subst hz;simp;omega
        ·have:=ih _ _ _ _ h3 hz;simp;omega
       ·cases he
      ·cases he
     ·cases he
   have:=key _ _ _ _ _ hs (fun e=>h0 (by rw[hm,<-list_len,e];rfl))
   rw[list_len,<-hm,Ty.list_len]at this;exact this
 obtain⟨off,hoff⟩:∃off,off=(den env i).i.toNat*ty.len+k:=⟨_,rfl⟩
 have hbig:(den env i).i.toNat*ty.len+ty.len<=(den env l).l.length*ty.len:=by
  rw[<-NJ];exact Nv _ hidx
 have hcap:(den env l).l.length*ty.len<=cur.size:=by rw[hcs];exact Nv _ hnc
 have hle:off+(a.eval y).cells.size<=cur.size\/m=0:=by
  rcases hkm with hh|hh
  ·left;rw[s1,<-hm];omega
  ·exact .inr hh
 by_cases hm0:m=0
 ·
  have hz:(ag tmp y).cells.list=[]:=NC (by rw[list_len,<-hm,hm0])
  rw[hz]at hs;simp only[gW]at hs;cases hs
  have hrun:(Instr.storeAt t (.pointer (some ((⟨g,0,none⟩:Addr).add off))) (a.eval y)).run P w=.ok () w:=by
   have hc0:(a.eval y).cells=#[]:=by have:=s1;rw[<-hm,hm0]at this;exact Array.eq_empty_of_size_eq_zero this
   have hn0:P.cellsOf t=0:=by rw[<-hn,<-hm,hm0]
   simp only[Instr.storeAt,Instr.sureAddr,storeVar,Sem.run_bind,Sem.run_pure,Result.andThen_ok,bB hk,hn0,hc0];rfl
  have hR:bL P o a w undef w:=.inr ⟨rfl,by simp only[execOp,ho,g4,<-hoff,Sem.run_bind,hrun,Result.andThen_ok,Sem.run_pure]⟩
  have hsame:aL blk [(b,some (.row e ty l))]=blk:=by
   funext c
   simp only[aL,N1,List.foldl_nil,upd];split
   ·rename_i hcb;rw[hcb,hb]
   ·rfl
  refine⟨undef,w,κ,F,hR,?_,trivial,?_⟩
  ·rw[hsame]
   exact h.monoU (fun b hb=>.inl hb)
  ·rw[hsame];exact Kept.refl
 have hle:=hle.resolve_right hm0;have hkm:=hkm.resolve_right hm0;have hadd:(⟨g,0,none⟩:Addr).add off=⟨g,off,none⟩:=by rw[du];simp
 have hrun:=mo (P:=P) (w:=w) (t:=t) (z:=a.eval y) (off:=off) hk hg (by rw[s1,hn]) hle d3
 have hR:bL P o a w undef (w.setRow g (cur.toList.take off++(a.eval y).cells.toList++cur.toList.drop (off+(a.eval y).cells.size)).toArray):=.inr ⟨rfl,by simp only[execOp,ho,g4,<-hoff,hadd,Sem.run_bind,hrun,Result.andThen_ok,Sem.run_pure]⟩
 have hw:∀k,k≠g->∀cs',(w.setRow g cs').heap[k]?=w.heap[k]?:=fun k hk cs'=>setRow_other w g k cs' hk
 have hF:∀k,F k->k≠g:=fun k hF e=>h.nF b g (by rw[hb];rfl) (by rw[g1];rfl) (e▸hF)
 refine⟨undef,_,κ,F,hR,?_,trivial,h.stored_kept hb rfl rfl (fun k hk=>hw k (fun e=>hk (by rw[g1,e];rfl)) _) (by simp)⟩
 refine(h.stored (y:=.row e ty l') hb rfl (fun k hk=>hw k (fun e=>hk (by rw[g1,e];rfl)) _) (by simp) ?_ (fun c hc=>by cases hc) (gF h.below hgb)).monoU (fun b hb=>.inl hb)
 obtain⟨N,hN⟩:∃N,N=(den env l).l.length:=⟨_,rfl⟩
 rw[<-hN]at hul hnc hcur hbig hcap e1 hidx g1;have hsz:(a.eval y).cells.size=m:=by rw[s1,hm]
 have e3:=fun q=>cW (l:=cur.toList) (m:=(a.eval y).cells.toList) (off:=off) (by simp;omega) q
 rw[Nw,hsz]at e3;refine⟨us.take off++(a.eval y).cells.toList++us.drop (off+m),?_,hpos,fun j r hr=>?_,fun j r q x hr hx=>?_⟩
 ·rw[e1,g1]
  refine⟨by simp;omega,.inr ⟨g,c,_,rfl,hgb,setRow_heap w g cur _ e (0,0) hg,hnc,hcm,by simp;omega,?_⟩⟩
  refine NW (fun q=>?_)
  have e4:=cW (l:=us) (m:=(a.eval y).cells.toList) (off:=off) (by omega) q
  rw[Nw,hsz]at e4;rw[e4,Nc];rw[hsz];have e5:=e3 q;have e6:us[q]?=if q<N*ty.len then cur.toList[q]? else none:=by rw[<-hcur,Nc]
  by_cases hq:q<N*ty.len
  ·rw[if_pos hq]
   simp only[List.toList_toArray];rw[e5,e6,if_pos hq]
  ·rw[if_neg hq,e6,if_neg hq]
   rw[if_neg (by omega),if_neg (by omega)]
 ·obtain⟨r0,b1,b2,b3⟩:=e2 j r hr
  have b4:=hrow.1 j r0 b1;refine NW (fun q=>?_)
  rw[Nb];cases hq:r[q]? with
  |none=>
   have hq2:=List.getElem?_eq_none_iff.1 hq;rw[<-b4,Nb,NO (by omega)]
  | some x=>
   rcases b3 q x hq with⟨_,_,_,z,c',s,c1,c2,c3,c4⟩|⟨_,c1⟩
   ·obtain⟨u,_,hu⟩:=s2 _ z c1
    rw[c3,NL,(rN c2 hu).2.1];exact c4.symm
   ·rw[<-b4,Nb,c1]
 ·obtain⟨r0,b1,b2,b3⟩:=e2 j r hr
  have e4:=cW (l:=us) (m:=(a.eval y).cells.toList) (off:=off) (by omega) (j*ty.len+q)
  rw[Nw,hsz]at e4;rw[e4];have hq:q<ty.len:=by
   have:=(List.getElem?_eq_some_iff.1 hx).1
   have b4:=congrArg List.length (hrow.1 j r0 b1);rw[NM,Ty.list_len]at b4;omega
  rcases b3 q x hx with⟨c0,c1,c2,z,c',s,c3,c4,c5,c6⟩|⟨c1,c2⟩
  ·rw[list_len,<-hm]at c2
   rw[if_neg (by rw[c0];omega),if_pos (by rw[c0];omega)]
   obtain⟨u,hu,hd⟩:=s2 _ z c3;refine⟨u,?_,by rw[c5];exact(rN c4 hd).1.keep (fun k hk=>hw k (hF k hk) _) (fun _ h=>h)⟩
   rw[No,<-hu];congr 1;rw[c0];omega
  ·obtain⟨u,hu,hd⟩:=hrow.2 j r0 q x b1 c2
   refine⟨u,?_,hd.keep (fun k hk=>hw k (hF k hk) _) (fun _ h=>h)⟩
   rw[list_len,<-hm]at c1;have hne:j*ty.len+q<off\/off+m<=j*ty.len+q:=by
    rw[hoff];rcases Nat.lt_trichotomy j (den env i).i.toNat with hlt|heq|hgt
    ·left
     have:=Nv ty.len (show j+1<=(den env i).i.toNat by omega)
     rw[NJ]at this;omega
    ·rcases c1 with c1|c1|c1
     ·exact absurd heq c1
     ·left;rw[heq];omega
     ·right;rw[heq];omega
    ·right
     have:=Nv ty.len (show(den env i).i.toNat+1<=j by omega)
     rw[NJ]at this;omega
   rcases hne with hh|hh
   ·rw[if_pos hh];exact hu
   ·rw[if_neg (by omega),if_neg (by omega)];exact hu
end Go.Sx
