/-
  Texts of this claim, joined (part 3).
-/
import Derived.Test.YtkgphkdlbjinmaaGreatDoorJT2
import Derived.Lib.Builder
import Derived.Lib.UnsafeStr
import Derived.Lib.AppendStr
import Derived.Laws.Externs
import Derived.OrdersIn
import Derived.LoopNIn
import Derived.RangeFuncNested
import Derived.Orders
import Derived.RangeFuncLeaves
open Bool renaming and_eq_true → M9, or_eq_true → NJ, or_false → NN, not_eq_true' → N1, false_eq_true → Oj
open List renaming mem_cons_self → Na, mem_append_right → Nb, mem_cons_of_mem → Nc, mem_append_left → Ng, getElem?_map → Nm, map_congr_left → No, mem_append → Np, getElem?_take → Nq, getElem?_drop → Nr, mem_of_getElem? → Ns, getD → Nt, getElem?_eq_getElem → Nu, eq_nil_of_length_eq_zero → Nw, length_append → Nx, map_cons → Ny, mem_range'_1 → Nz, getElem?_append_left → NA, all_eq_true → NC, mem_zipIdx_iff_getElem? → NE, range → NF, mem_toArray → NG, range'_succ → NH, range' → NI, map_toArray → NO, flatMap_def → NP, nil_append → NR, mem_of_mem_take → NS, mem_of_mem_drop → NT, range'_append_1 → NU, contains_eq_mem → NW, mem_filter → NX, getElem?_range → NY, filterMap_cons → NZ, getElem?_append_right → N0, eq_of_mem_replicate → N2, map_nil → N4, mem_map → N6, map_append → N7, length_replicate → Ob, take_zero → Oc, getElem?_of_mem → Og, filter_append → Ok, length_cons → Om, foldl_cons → Oq, replicate → Ou, foldl_nil → Ow, mem_cons → Oy
open Array renaming getElem?_toList → Nd, getElem?_eq_getElem → Nk, length_toList → Nn, toArray_toList → Nv, getD → NL, mem_of_getElem? → Od, getElem_of_mem → Of, mem_toList_iff → Oh, all_eq_true' → Ol
open Nat renaming le_refl → Nf, mul_one → Nh, add_zero → Nl, zero_add → NB, lt_trichotomy → NM, le_trans → NV, le_of_ble_eq_true → Oa, eq_of_beq_eq_true → Oe, lt_or_ge → Oi, lt_of_not_le → Oo, strongRecOn → Ot, testBit_or → Ox
open Int renaming toNat_natCast → ND, ofNat → NK
open Option renaming map_some → NQ, bind_some → N5, all_some → N8, map_eq_some_iff → N9, getD_some → On
set_option linter.unusedVariables false
set_option linter.unusedSimpArgs false
set_option linter.unusedSectionVars false
set_option linter.constructorNameAsVariable false
namespace Go.Sx
open Go Go.RowKit Go.Dial
variable {env:List AV} {κ κ':Nat->Value} {F F':Nat->Prop} {w w' w0:World} {U:Nat->Prop} {tmp:Nat->SV} {blk:Nat->Option SB} {L:Nat} {a:Act} {P:Program}
theorem Iy{x:SV}{k:IntKind}(h:Hk x=some k):x=.vr (.oint k 0):=by
 unfold Hk at h;split at h
 ·cases h;rfl
 ·cases h
theorem Ip{con:Nat->Bool}{o:Oper}{t m:Nat}(ho:o.op=.alloc t)(h:Rel w0 env κ F U tmp blk L a w){needs:List E}{v:SV}{wr:List (Nat×Option SB)}(hm:wr≠[]->¬U m)(hc:wa P con m t=some (.ok needs v wr)):aB P w0 env κ F U tmp blk L a w o v wr:=by
 unfold wa at hc;split at hc
 rotate_left
 ·cases hc
 split at hc
 rotate_left
 ·cases hc
 rename_i n e x _ hz
 split at hc
 rotate_left
 ·cases hc
 rename_i y ys hcells
 split at hc
 rotate_left
 ·cases hc
 rename_i k hk
 split at hc
 rotate_left
 ·cases hc
 rename_i hh
 simp only[M9]at hh;obtain⟨⟨⟨h1,h2⟩,h3⟩,h4⟩:=hh;have h2:=ga h2;have h3:=Oa h3;cases hc
 have hm':=hm (by simp)
 unfold bM at hz;obtain⟨z,hz1,rfl⟩:=Option.map_eq_some_iff.1 hz;obtain⟨i,hi,hz2⟩:=Option.bind_eq_some_iff.1 hz1;obtain⟨d1,d2⟩:=fa h4 (cT (env:=env) (κ:=κ) (F:=F) (w:=w) z)
 obtain⟨t1,t2⟩:=bc d2 d1;obtain⟨N,hN⟩:∃N,N=(bX z).cells.len:=⟨_,rfl⟩
 rw[<-hN]at t1 h2 h3⊢
 have hus:∀q u,z.cells.toList[q]?=some u->u=Value.int k 0:=fun q u hu=>by
  have hq:q<(bX z).cells.list.length:=by
   rw[list_len,<-hN,<-t1];have:=(List.getElem?_eq_some_iff.1 hu).1
   simpa using this
  obtain⟨v,hv1,hv2⟩:=t2 q _ (Nu hq);rw[Iy (of_decide_eq_true (List.all_eq_true.1 h1 _ (List.getElem_mem hq)))]at hv2;rw[Nd,hv1]at hu;cases hu
  exact(AV.raw.inj hv2.1).symm
 have hL:(den env (.rep (.int (N:Int)) (.rcons (.oint k 0) .rnil))).l=Ou N [.raw (.int k 0)]:=by
  show Ou ((N:Int)).toNat [AV.raw (.int k 0)]=_
  rw[ND]
 refine⟨.pointer (some ⟨w.heap.size,0,none⟩),w.alloc (.cells z.cells t),upd κ m (.slice (some ⟨w.heap.size,0,none⟩) N N),F,.inl ?_,?_,⟨w.heap.size,0,N,N,ak ..,?_,?_,?_⟩,h.new_kept hm' rfl⟩
 ·simp[execOp,ho,Instr.alloc,zeroValue,typeInfo,hi,hz2,newVar,newRow]
 ·refine(h.new hm' rfl (x:=.row t (cx k) (.rep (.int (N:Int)) (.rcons (.oint k 0) .rnil))) ⟨z.cells.toList,?_,Nat.zero_lt_one,?_,?_⟩ (fun c hc=>by cases hc)).monoU (fun b hb=>?_)
  ·rw[ak,hL,Ob]
   exact World.ownsRow_lit (base:=w0.heap.size) (e:=t) (size:=1) w z.cells N h.below.size (by unfold maxLen;omega) (by rw[t1,Nh])
  ·intro j r hr
   rw[hL]at hr;rw[N2 (Ns hr)];rfl
  ·intro j r q x hr hx
   rw[hL]at hr;have hj:=(List.getElem?_eq_some_iff.1 hr).1;rw[Ob]at hj;rw[N2 (Ns hr)]at hx;have hk:q=0:=by
    have:=(List.getElem?_eq_some_iff.1 hx).1
    simp at this;exact this
   subst hk;have hx':x=.raw (.int k 0):=by simpa using hx.symm
   subst hx';have hjs:j*(cx k).len+0<z.cells.toList.length:=by
    show j*1+0<_
    simp[t1];omega
   refine⟨_,Nu hjs,?_⟩
   rw[hus _ _ (Nu hjs)];exact .raw _ rfl
  ·rcases hb with hb|rfl
   ·exact .inl hb
   ·exact .inr ⟨_,List.mem_singleton.2 rfl,rfl⟩
 ·exact Int.le_refl _
 ·show(0:Int)<(N:Int)
  omega
 ·show Value.pointer (some _)=.pointer (some _)
  rw[du];rfl
theorem wj(k:IntKind)(e:E):den env (xI k e)=.raw (.int k (den env e).num):=by
 unfold xI;split
 ·rename_i h;exact eR h
 ·rfl
theorem m6{l:E}{k:IntKind}{i:Nat}(hi:i<(den env l).l.length)(hty:∀(j:Nat) r,(den env l).l[j]?=some r->r.map AV.ty=(cx k).list):
  ∃n r,(den env l).l[i]?=some r/\r[0]?=some (.raw (.int k n))/\(∀e:E,(den env e).i=(i:Int)->den env (.cell l e 0)=.raw (.int k n))/\SVden env κ F w (lm k l i) (.int k n):=by
 have hr:=Nu hi;have ht:=hty _ _ hr;have hs2:((den env l).l[i].map AV.ty)[0]?=some (.num k):=by rw[ht];rfl
 rw[Nm]at hs2;obtain⟨y,hy,hys⟩:=Option.map_eq_some_iff.1 hs2;have hy2:=wu hys;obtain⟨n,hn⟩:∃n,n=y.num:=⟨_,rfl⟩
 rw[<-hn]at hy2;subst hy2;have hcell:∀e:E,(den env e).i=(i:Int)->den env (.cell l e 0)=.raw (.int k n):=fun e he=>mX (r:=(den env l).l[i]) (by rw[he,ND];exact hr) hy
 refine⟨n,_,hr,hy,hcell,?_,rfl⟩
 have h1:=hcell (.int (i:Int)) rfl;show den env (xI k (E.cell' l (.int (i:Int)) 0))=_
 rw[wj,dp,h1];rfl
theorem rW(k:IntKind)(l:E)(c s:Nat):(eE k l c s).proper=true:=bA _
theorem vI{l:E}{k:IntKind}{c s:Nat}{us:List Value}(hl:us.length=s)(h:∀q,q<s->∃u,us[q]?=some u/\SVden env κ F w (lm k l (c+q)) u):SVden env κ F w (eE k l c s) (.tuple us.toArray):=by
 refine eM (by rw[hl];simp) fun q x u hx hu=>?_
 rw[Nm]at hx;obtain⟨q',hq,rfl⟩:=Option.map_eq_some_iff.1 hx;have hq2:=List.getElem?_eq_some_iff.1 hq;obtain⟨hq3,hq4⟩:=hq2;simp only[List.length_range]at hq3;simp at hq4;subst hq4
 obtain⟨u',h1,h2⟩:=h q hq3;rw[h1]at hu;cases hu;exact h2
theorem J2{con:Nat->Bool}{o:Oper}{t:Nat}{x:Operand}(ho:o.op=.load t x)(h:Rel w0 env κ F U tmp blk L a w){needs:List E}{v:SV}{wr:List (Nat×Option SB)}
  (hc:xk P con blk t (ag tmp x)=some (.ok needs v wr)) (hnd:∀e∈needs,(den env e).b=true):aB P w0 env κ F U tmp blk L a w o v wr:=by
 have hev:=h.ev x;unfold xk at hc;simp only at hc
 split at hc
 rotate_left
 ·cases hc
 rename_i hkk
 obtain⟨hk,hag⟩:=hkk;have R:∀p u,a.eval x=.pointer (some p)->(Instr.loadAt t (.pointer (some p))).run P w=.ok u w->bL P o a w u w:=fun p u hx hu=>.inl (by
  simp only[execOp,ho,hx,Sem.run_bind,hu,Result.andThen_ok,Sem.run_pure])
 have fin:∀(k:IntKind) (l:E) (c:Nat) (p:Addr),a.eval x=.pointer (some (p.add c))->(∀(j:Nat) r,(den env l).l[j]?=some r->r.map AV.ty=(cx k).list)->(∀(j:Nat) r n,(den env l).l[j]?=some r->r[0]?=some (.raw (.int k n))->w.cell? (p.add j)=some (.int k n)) →
   (∀e∈aG (.cmp' .le (.int ((c+P.cellsOf t:Nat):Int)) l.len'),(den env e).b=true)->aB P w0 env κ F U tmp blk L a w o (.agg (eE k l c (P.cellsOf t))) []:=fun k l c p hx hty hcell hn=>by
  have n1:=aK (aA hn);rw[aY]at n1;have n1:((c+P.cellsOf t:Nat):Int)<=((den env l).l.length:Int):=of_decide_eq_true n1
  have n1:c+P.cellsOf t<=(den env l).l.length:=by omega
  obtain⟨us,hus1,hus2⟩:∃us:List Value,us.length=P.cellsOf t/\∀q,q<P.cellsOf t->∃u,us[q]?=some u/\w.cell? ((p.add c).add q)=some u/\SVden env κ F w (lm k l (c+q)) u:=by
   refine⟨(NF (P.cellsOf t)).map (fun j=>(w.cell? ((p.add c).add j)).getD undef),by simp,fun q hq=>?_⟩
   obtain⟨n,r,hr,h0,_,hd⟩:=m6 (env:=env) (κ:=κ) (F:=F) (w:=w) (i:=c+q) (l:=l) (k:=k) (by omega) hty
   have hw:=hcell _ _ _ hr h0;have hw:w.cell? ((p.add c).add q)=some (.int k n):=by rw[ep];exact hw
   exact⟨.int k n,by simp[hq,hw],hw,hd⟩
  refine aj h (R _ _ hx (run_load (us:=us) hk hus1 (fun j u hu=>?_) hag)) ⟨_,rfl,rW _ _ _ _,vI hus1 (fun q hq=>by obtain⟨u,h1,_,h3⟩:=hus2 q hq;exact⟨u,h1,h3⟩)⟩
  have hj:j<P.cellsOf t:=by rw[<-hus1];exact(List.getElem?_eq_some_iff.1 hu).1
  obtain⟨u',h1,h2,_⟩:=hus2 j hj;rw[h1]at hu;cases hu;exact h2
 split at hc
 ·rename_i b ty0 i0 k0 hx
  rw[hx]at hev;obtain⟨g,go,n,c',h1,h2,h3,h4⟩:=hev;unfold Em at hc;split at hc
  ·rename_i k c e ty l hb
   split at hc
   ·rename_i hh
    obtain⟨_,rfl⟩:=hh;cases hc
    obtain⟨us,hown,hpos,hty,hrow⟩:=h.blks b _ hb;rw[h1]at hown;have hgo:=jN hown;subst hgo;refine fin k l c ⟨g,0,none⟩ ?_ hty (fun j r n hr h0=>?_) hnd
    ·rw[h4]
     have:(den env (.int (NK c))).i.toNat*(Ty.cons (.num k) .nil).len+0=c:=by
      show(NK c).toNat*1+0=c
      simp
     rw[this]
    ·obtain⟨u,hu,hd⟩:=hrow _ _ _ _ hr h0
     have hl1:(cx k).len=1:=rfl
     have hu2:=hown.cells (g:=g) rfl _ _ hu;rw[hl1,Nh,Nl]at hu2;rw[hu2,(Den.raw_iff.1 hd).1]
   ·cases hc
  ·cases hc
 ·rename_i ty0 l i0 k0 hx
  rw[hx]at hev;obtain⟨p,c',h1,h2,h3,h4⟩:=hev;unfold Dz at hc;split at hc
  rotate_left
  ·cases hc
  rename_i k c
  cases hc
  obtain⟨A,c2,e,_,_,hty,hrow⟩:=Den.view h1;cases e
  refine fin k l c p ?_ hty (fun j r n hr h0=>?_) hnd
  ·rw[h4]
   have:(den env (.int (NK c))).i.toNat*(Ty.cons (.num k) .nil).len+0=c:=by
    show(NK c).toNat*1+0=c
    simp
   rw[this]
  ·obtain⟨p',e2,_,hcell⟩:=hrow _ _ hr
   cases e2
   obtain⟨u,hu,hd⟩:=hcell 0 _ h0;have hl1:(Ty.cons (.num k) .nil).len=1:=rfl
   rw[hl1,Nh,Nl]at hu;rw[hu,(Den.raw_iff.1 hd).1]
 ·cases hc
theorem tS{ix:SV}{n:Nat}{i:E}{nd:List E}(hi:Ba ix n=some (i,nd)){u:Value}(hd:SVden env κ F w ix u)(hn:∀e∈nd,(den env e).b=true):∃(k:IntKind) (q:Nat),u=.int k (q:Int)/\q<n/\(den env i).i=(q:Int):=by
 unfold Ba at hi;split at hi
 ·rename_i i'
  cases hi
  have n1:=aK (aA fun e he=>hn e (Ng _ he))
  have n2:=aK (aA fun e he=>hn e (Nb _ he))
  have n1:0<=(den env i).i:=of_decide_eq_true n1
  have n2:(den env i).i<(n:Int):=of_decide_eq_true n2
  refine⟨.i64,(den env i).i.toNat,?_,by omega,by omega⟩
  rw[hd.1];congr 1;omega
 ·rename_i e
  split at hi
  ·rename_i k hk
   split at hi
   ·rename_i hle
    cases hi
    have n1:=hn _ (Na ..);have n2:=hn _ (Nc _ (Na ..));have n1:0<=(den env e).num:=of_decide_eq_true n1
    have n2:(den env e).num<(n:Int):=of_decide_eq_true n2
    refine⟨k,(den env e).num.toNat,?_,by omega,?_⟩
    ·have:=AV.raw.inj (hd.1.symm.trans (eR hk))
     rw[this];congr 1;omega
    ·show IntKind.i64.wrap (den env e).num=_
     rw[lN (by omega)];omega
   ·cases hi
  ·cases hi
 ·cases hi
theorem IY{o:Oper}{t:Nat}{x ix:Operand}(ho:o.op=.indexAddr t x ix)(h:Rel w0 env κ F U tmp blk L a w){needs:List E}{v:SV}{wr:List (Nat×Option SB)}
  (hc:wC P t (ag tmp x) (ag tmp ix)=some (.ok needs v wr)) (hn:∀e∈needs,(den env e).b=true):aB P w0 env κ F U tmp blk L a w o v wr:=by
 have hev:=h.ev x;have hei:=h.ev ix;unfold wC at hc;split at hc
 ·rename_i ty l n e hx ht
  rw[hx]at hev;obtain⟨p,c,h1,h2,h3,h4⟩:=hev;split at hc
  ·rename_i hh
   obtain⟨q1,q2,q3⟩:=hh;split at hc
   ·rename_i i nd hi
    cases hc
    obtain⟨k,q,g1,g2,g3⟩:=tS hi hei (fun e he=>hn e (Ng _ he))
    have n3:=aK (aA fun e he=>hn e (Nb _ he))
    rw[aY]at n3;have n3:(den env i).i<((den env l).l.length:Int):=of_decide_eq_true n3
    have h4':a.eval x=.pointer (some p):=by
     rw[h4];have:(den env (.int (NK 0))).i.toNat*ty.len+0=0:=by
      show(0:Int).toNat*_+0=0
      simp
     rw[this];simp[Addr.add]
    refine aj h (u:=.pointer (some (p.add (q*ty.len+0)))) (.inl ?_) ⟨p,c,h1,by omega,n3,by rw[g3,ND]⟩
    have hsz:=bB (w:=w) q3;have hge:(0:Int)<=(q:Int):=by omega
    have hlt:(q:Int)<(n:Int):=by omega
    simp only[execOp,ho,h4',g1,Instr.indexAt,asIntOf,run_underlying ht,Sem.run_bind,Sem.run_pure,Result.andThen_ok,Instr.sureAddr];simp[hge,hlt,hsz,q1,q2]
   ·cases hc
  ·cases hc
 ·cases hc
theorem Kd{o:Oper}{t:Nat}{x ix:Operand}(ho:o.op=.index t x ix)(h:Rel w0 env κ F U tmp blk L a w){needs:List E}{v:SV}{wr:List (Nat×Option SB)}
  (hc:Bq P t (ag tmp x) (ag tmp ix)=some (.ok needs v wr)) (hn:∀e∈needs,(den env e).b=true):aB P w0 env κ F U tmp blk L a w o v wr:=by
 have hev:=h.ev x;have hei:=h.ev ix;unfold Bq at hc;split at hc
 ·rename_i xs n e hx ht
  rw[hx]at hev;obtain⟨cs,g1,g2,g3⟩:=hev;split at hc
  ·rename_i hh
   obtain⟨q1,q2,q3,q4,q5,_⟩:=hh;obtain⟨s1,s2⟩:=bc g2 g3;have hsz:=bB (w:=w) q3;have R:∀(k:IntKind) (q:Nat) (u:Value),a.eval ix=.int k (q:Int)->q<n->cs[q]?=some u->bL P o a w u w:=fun k q u e0 hq hu=>.inl (by
    have hpart:(part e cs (q*1)).run P w=.ok u w:=by
     rw[la q3,q2,Nh,hu];rfl
    have h3:(0:Int)<=(q:Int):=by omega
    have h4:(q:Int)<(n:Int):=by omega
    simp only[execOp,ho,g1,e0,Instr.index,asIntOf,run_underlying ht,Sem.run_bind,Sem.run_pure,Result.andThen_ok];simp only[Nh]at hpart;simp[h3,h4,hsz,q1,hpart])
   split at hc
   ·rename_i k l hs
    split at hc
    ·rename_i i nd hi
     cases hc
     obtain⟨k',q,e0,hq,hiq⟩:=tS hi hei hn;have hxs:xs=eE k l 0 n:=by
      unfold DG at hs;split at hs
      ·split at hs
       ·rename_i he;cases hs;exact he
       ·cases hs
      ·cases hs
     have hget:xs.list[q]?=some (lm k l q):=by
      rw[hxs];show(SV.of _).list[q]?=_
      rw[da,Nm,NY (by omega)]
      simp
     obtain⟨u,hu,hd⟩:=s2 q _ hget;refine aj h (R k' q u e0 hq hu) ?_
     have h1:den env (xI k (E.cell' l (.int (q:Int)) 0))=.raw u:=hd.1
     have h2:den env (.cell l (.int (q:Int)) 0)=den env (.cell l i 0):=by
      show(Nt (Nt (den env l).l ((q:Int)).toNat []) 0 (AV.int 0))=Nt (Nt (den env l).l (den env i).i.toNat []) 0 (AV.int 0)
      rw[hiq]
     refine⟨?_,hd.2⟩
     rw[wj,dp,h2]at h1;exact h1
    ·cases hc
   ·split at hc
    ·rename_i k l i nd hs hi
     cases hc
     obtain⟨k',q,e0,hq,hiq⟩:=tS hi hei hn;have hr:gE 1 (cx k) n xs.list=some l:=by
      unfold vM at hs;split at hs
      ·split at hs
       ·rename_i k2 _
        obtain⟨l2,h1,h2⟩:=Option.map_eq_some_iff.1 hs;cases h2;exact h1
       ·cases hs
      ·cases hs
     obtain⟨b1,b2,b3⟩:=j0 (env:=env) (κ:=κ) (F:=F) (w:=w) (row:=cx k) rfl n xs.list l cs.toList hr (by rw[list_len,q5];exact(Nh n).symm) (by rw[list_len,Nn,s1]) (fun i x u h1 h2=>by
      obtain⟨v,h3,h4⟩:=s2 i x h1;rw[Nd,h3]at h2;cases h2;exact h4)
     obtain⟨m,r,hr1,hr0,hcell,_⟩:=m6 (env:=env) (κ:=κ) (F:=F) (w:=w) (i:=q) (l:=l) (k:=k) (by rw[b1];exact hq) b2.1
     obtain⟨u,hu,hd⟩:=b2.2 _ _ _ _ hr1 hr0;have hl1:(cx k).len=1:=rfl
     rw[hl1,Nh,Nl,Nd]at hu;have hu2:=(Den.raw_iff.1 hd).1;subst hu2;refine aj h (R k' q _ e0 hq hu) ⟨?_,rfl⟩
     have hc2:=hcell i hiq;rw[wj,dp,hc2];rfl
    ·cases hc
  ·cases hc
 ·cases hc
theorem CB(h:Rel w0 env κ F U tmp blk L a w){x:Option Operand}{d n:Nat}(hx:rc (ag tmp) x d=some n):(x=none/\n=d)\/∃y,x=some y/\a.eval y=.int .i64 (n:Int):=by
 unfold rc at hx;split at hx
 ·cases hx;exact .inl ⟨rfl,rfl⟩
 ·rename_i _ y
  split at hx
  ·rename_i m hm
   cases hx
   have:=h.ev y
   rw[hm]at this;exact .inr ⟨y,rfl,this.1⟩
  ·cases hx
theorem jE{x:Value}{y n:Nat}{code:BoundsCode}(hx:x=.int .i64 (n:Int))(hn:n<=y):(Instr.sliceBound x y code).run P w=.ok n w:=by
 subst hx;have h1:(0:Int)<=(n:Int)/\(n:Int)<=(y:Int):=by omega
 simp only[Instr.sliceBound,asIntOf,Sem.run_bind,Sem.run_pure,Result.andThen_ok];rw[if_pos h1];simp
theorem J3{o:Oper}{t:Nat}{x:Operand}{lo hi:Option Operand}(ho:o.op=.slice t x lo hi none)(h:Rel w0 env κ F U tmp blk L a w){needs:List E}{v:SV}{wr:List (Nat×Option SB)}
  (hc:xC P (ag tmp) blk t (ag tmp x) lo hi=some (.ok needs v wr)):aB P w0 env κ F U tmp blk L a w o v wr:=by
 have hev:=h.ev x;unfold xC at hc;split at hc
 ·rename_i b off hx
  rw[hx]at hev;obtain⟨g,g1,g2⟩:=hev;unfold Fi at hc;split at hc
  ·rename_i n e ty xs ht hb
   split at hc
   ·rename_i l hh hl hhi
    split at hc
    ·rename_i hq
     obtain⟨q1,q2,q3,q4,q5,q6⟩:=hq;cases hc
     have hsz:=bB (w:=w) q5;have hrun:(Instr.sliceAt t (a.eval x) (lo.map a.eval) (hi.map a.eval) none).run P w=.ok (.slice (some ⟨g,off+l,none⟩) (hh-l) (n-l)) w:=by
      have hb2:(Instr.sliceBounds false n n (lo.map a.eval) (hi.map a.eval) none).run P w=.ok (l,hh,n) w:=by
       unfold Instr.sliceBounds;rcases CB h hl with⟨rfl,rfl⟩|⟨y,rfl,hy⟩<;>rcases CB h hhi with⟨rfl,rfl⟩|⟨z,rfl,hz⟩
       ·simp
       ·simp[jE hz q3]
       ·simp[jE hy q1]
       ·simp[jE hy q1,jE hz q3]
      have hnl:¬n=l:=by omega
      rw[g2];simp only[Instr.sliceAt,Instr.sureAddr,run_underlying ht,Sem.run_bind,Sem.run_pure,Result.andThen_ok,hb2,hsz,q4,Nh,if_neg hnl,du]
     refine aj h (u:=.slice (some ⟨g,off+l,none⟩) (hh-l) (n-l)) (.inl ?_) ⟨g,n-l,g1,rfl⟩
     simp only[execOp,ho,Option.map_none,Sem.run_bind,hrun,Result.andThen_ok,Sem.run_pure]
    ·cases hc
   ·cases hc
  ·cases hc
 ·cases hc
theorem J6{o:Oper}{t:Nat}{x lo hi mx:Operand}(ho:o.op=.slice t x (some lo) (some hi) (some mx))(h:Rel w0 env κ F U tmp blk L a w){needs:List E}{v:SV}{wr:List (Nat×Option SB)}
  (hc:xj P (ag tmp) t (ag tmp x) lo hi mx=some (.ok needs v wr)) (hn:∀e∈needs,(den env e).b=true):aB P w0 env κ F U tmp blk L a w o v wr:=by
 have hev:=h.ev x;unfold xj at hc;split at hc
 ·rename_i ety r ty e l hh m ht hx hl hhi hm
  split at hc
  ·rename_i hq
   obtain⟨rfl,rfl⟩:=hq;cases hc
   rw[hx]at hev;have hel:=h.ev lo;have heh:=h.ev hi;have hem:=h.ev mx;rw[hl]at hel;rw[hhi]at heh;rw[hm]at hem;obtain⟨u1,u2,u3,⟨i0,hi0⟩,u5,_⟩:=bn ht;have n1:=aK (aA fun e he=>hn e (Ng _ (Ng _ he)))
   have n2:=aK (aA fun e he=>hn e (Ng _ (Nb _ he)))
   have n3:=aK (aA fun e he=>hn e (Nb _ he))
   rw[aY]at n3;have n1:0<=(den env l).i:=of_decide_eq_true n1
   have n2:(den env l).i<=(den env hh).i:=of_decide_eq_true n2
   have n3:(den env hh).i<=((den env e).l.length:Int):=of_decide_eq_true n3
   obtain⟨A,c,g1,g2,g3,g4,g5⟩:=Den.view hev;obtain⟨lv,hlv⟩:∃q:Nat,(q:Int)=(den env l).i:=⟨(den env l).i.toNat,by omega⟩
   obtain⟨hv,hhv⟩:∃q:Nat,(q:Int)=(den env hh).i:=⟨(den env hh).i.toNat,by omega⟩
   have e0:a.eval lo=.int .i64 (lv:Int):=by rw[hel.1,<-hlv]
   have e1:a.eval hi=.int .i64 (hv:Int):=by rw[heh.1,<-hhv]
   have e2:a.eval mx=.int .i64 (hv:Int):=by rw[hem.1,<-hhv]
   have hsize:(sizeOf ety).run P w=.ok ty.len w:=by
    have:i0.size=ty.len:=by rw[u2];unfold Program.cellsOf;rw[hi0];rfl
    simp[sizeOf,typeInfo,hi0,this]
   have hrun:(Instr.sliceAt t (a.eval x) (some (a.eval lo)) (some (a.eval hi)) (some (a.eval mx))).run P w=.ok (.slice (if hv=lv then A else A.map (·.add (lv*ty.len))) (hv-lv) (hv-lv)) w:=by
    have hb2:(Instr.sliceBounds true (den env e).l.length c (some (a.eval lo)) (some (a.eval hi)) (some (a.eval mx))).run P w=.ok (lv,hv,hv) w:=by
     unfold Instr.sliceBounds;simp[jE e2 (show hv<=c by omega),jE e1 (Nf hv),jE e0 (show lv<=hv by omega)]
    rw[g1];simp only[Instr.sliceAt,Instr.slice,run_underlying u1,Sem.run_bind,Result.andThen_ok,hb2,hsize,Sem.run_pure]
   refine aj h (u:=.slice (if hv=lv then A else A.map (·.add (lv*ty.len))) (hv-lv) (hv-lv)) (.inl (by simp only[execOp,ho,NQ,Sem.run_bind,hrun,Result.andThen_ok,Sem.run_pure])) ?_
   have hL:(den env (.drop (.take e hh) l)).l=((den env e).l.take hv).drop lv:=by
    show List.drop (den env l).i.toNat (List.take (den env hh).i.toNat (den env e).l)=_
    rw[<-hlv,<-hhv,ND,ND]
   show Den F w _ (.sl ty (den env (.drop (.take e hh) l)).l)
   rw[hL];have hget:∀(i:Nat) row,(((den env e).l.take hv).drop lv)[i]?=some row->(den env e).l[lv+i]?=some row/\lv+i<hv:=fun i row hr=>by
    rw[Nr,Nq]at hr;split at hr
    ·rename_i hlt;exact⟨hr,hlt⟩
    ·cases hr
   refine Den.mk (by simp;omega) (Nf _) (by omega) (fun i row hr=>g4 _ _ (hget i row hr).1) fun hne=>?_
   obtain⟨row0,hr0⟩:∃row,(((den env e).l.take hv).drop lv)[0]?=some row:=by
    cases hh:((den env e).l.take hv).drop lv with
    |nil=>exact absurd hh hne
    |cons r _=>exact⟨r,rfl⟩
   obtain⟨hr1,hlt0⟩:=hget 0 row0 hr0;obtain⟨p,hp,hS,_⟩:=g5 _ _ hr1;have hvl:¬hv=lv:=by omega
   refine⟨p.add (lv*ty.len),by rw[if_neg hvl,hp];rfl,by rw[lO];exact hS,fun i row hr k x hx=>?_⟩
   obtain⟨hr2,_⟩:=hget i row hr;obtain⟨p',hp',_,hcell⟩:=g5 _ _ hr2;rw[hp]at hp';cases hp'
   obtain⟨u,hu,hd⟩:=hcell k x hx;refine⟨u,?_,hd⟩
   rw[ep,show lv*ty.len+(i*ty.len+k)=(lv+i)*ty.len+k by rw[Nat.add_mul];omega]
   exact hu
  ·cases hc
 ·cases hc
theorem HW{o:Oper}{t:Nat}{x y:Operand}(ho:o.op=.store t x y)(h:Rel w0 env κ F U tmp blk L a w)(hk:aP P t=true){b:Nat}{k:IntKind}(hx:ag tmp x=.rptr b (.cons (.num k) .nil) (.int (.ofNat 0)) 0){e:Nat}{l m:E}(hb:blk b=some (.row e (cx k) l))
  {xs:SV} (hey:SVden env κ F w (.agg xs) (a.eval y)) (p1:xs.proper=true) (p2:xs.len=P.cellsOf t) (p3:0<P.cellsOf t) (hnums:vM (P.cellsOf t) xs=some (k,m))
  (hnd:∀e∈aG (.cmp' .le (.int (P.cellsOf t:Int)) l.len')++aG (.cmp' .le l.len' (.int (P.cellsOf t:Int))),(den env e).b=true):aB P w0 env κ F U tmp blk L a w o .any [(b,some (.row e (cx k) m))]:=by
 have hex:=h.ev x;rw[hx]at hex;obtain⟨s,hs⟩:∃s,s=P.cellsOf t:=⟨_,rfl⟩
 rw[<-hs]at hnd p2 p3 hnums;obtain⟨cs,g5,g6,g7⟩:=hey;obtain⟨g,go,n,c',h1,h2,h3,h4⟩:=hex;have n1:=aK (aA (fun e he=>hnd e (Ng _ he)))
 rw[aY]at n1;have n1:(s:Int)<=((den env l).l.length:Int):=of_decide_eq_true n1
 have n2:=aK (aA (fun e he=>hnd e (Nb _ he)))
 rw[aY]at n2;have n2:((den env l).l.length:Int)<=(s:Int):=of_decide_eq_true n2
 have n3:(den env l).l.length=s:=by omega
 obtain⟨us,hown,hpos,hty,hrow⟩:=h.blks b _ hb;have hown0:=hown;rw[h1]at hown;have hgo:=jN hown;subst hgo;have h4':a.eval x=.pointer (some ⟨g,0,none⟩):=by
  rw[h4];have:(den env (.int (NK 0))).i.toNat*(Ty.cons (.num k) .nil).len+0=0:=rfl
  rw[this];simp[Addr.add]
 rcases hown.2 with⟨e1,_⟩|⟨g',cap,cur,e1,hb1,hb2,hnc,hcm,hcs,hcur⟩
 ·cases e1
 cases e1
 obtain⟨s1,s2⟩:=bc g6 g7;have hcsz:cs.size=s:=by rw[s1];exact p2
 have hl1:(cx k).len=1:=rfl
 rw[hl1,Nh]at hcs hcur;have hr:gE 1 (cx k) s xs.list=some m:=by
  unfold vM at hnums;split at hnums
  ·split at hnums
   ·rename_i k2 _
    obtain⟨l2,h1,h2⟩:=Option.map_eq_some_iff.1 hnums;cases h2;exact h1
   ·cases hnums
  ·cases hnums
 obtain⟨b1,b2,b3⟩:=j0 (env:=env) (κ:=κ) (F:=F) (w:=w) (row:=cx k) rfl s xs.list m cs.toList hr (by rw[list_len,p2];exact(Nh s).symm) (by rw[list_len,Nn,s1]) (fun i x u h1 h2=>by
  obtain⟨v,h3,h4⟩:=s2 i x h1;rw[Nd,h3]at h2;cases h2;exact h4)
 have hcl:s<=cur.size:=by omega
 have hval:(a.eval y).cells=cs:=by rw[g5];rfl
 have hone:∀u∈cs,aU u=true:=fun u hu=>by
  obtain⟨q,hq,rfl⟩:=Of hu;obtain⟨mm,r,hr1,hr0,_,_⟩:=m6 (env:=env) (κ:=κ) (F:=F) (w:=w) (i:=q) (l:=m) (k:=k) (by rw[b1];omega) b2.1
  obtain⟨u2,hu2,hd2⟩:=b2.2 _ _ _ _ hr1 hr0;rw[hl1,Nh,Nl,Nd,Nk hq]at hu2;cases hu2
  rw[(Den.raw_iff.1 hd2).1];rfl
 have hrun:=mo (P:=P) (w:=w) (t:=t) (z:=a.eval y) (off:=0) hk hb2 (by rw[hval,hcsz,hs]) (by rw[hval,hcsz];omega) (by rw[hval];exact hone)
 have hR:bL P o a w undef (w.setRow g (cur.toList.take 0++(a.eval y).cells.toList++cur.toList.drop (0+(a.eval y).cells.size)).toArray):=.inr ⟨rfl,by simp only[execOp,ho,h4',Sem.run_bind,hrun,Result.andThen_ok,Sem.run_pure]⟩
 have hw:∀k,k≠g->∀cs',(w.setRow g cs').heap[k]?=w.heap[k]?:=fun k hk cs'=>setRow_other w g k cs' hk
 have hF:∀k,F k->k≠g:=fun k hF e=>h.nF b g (by rw[hb];rfl) (by rw[h1];rfl) (e▸hF)
 refine⟨undef,_,κ,F,hR,?_,trivial,h.stored_kept hb rfl rfl (fun k hk=>hw k (fun e=>hk (by rw[h1,e];rfl)) _) (by simp)⟩
 refine(h.stored (y:=.row e (cx k) m) hb rfl (fun k hk=>hw k (fun e=>hk (by rw[h1,e];rfl)) _) (by simp) ?_ (fun c hc=>by cases hc) (gF h.below hb1)).monoU (fun b hb=>.inl hb)
 refine⟨cs.toList,?_,by rw[hl1];exact Nat.one_pos,b2.keep (fun _ h=>h) (fun k hk=>hw k (hF k hk) _)⟩
 rw[h1,b1];refine⟨by rw[hl1,Nn,hcsz,Nh],.inr ⟨g,c',_,?_,hb1,setRow_heap w g cur _ e (0,0) hb2,by omega,hcm,?_,?_⟩⟩
 ·rw[n3]
 ·rw[hval,hcsz,hl1,Nh]
  simp only[Oc,NR,List.size_toArray,Nx,List.length_drop,Nn,hcsz];omega
 ·rw[hval,hl1,Nh]
  simp only[Oc,NR];rw[List.take_append_of_le_length (by rw[Nn,hcsz];exact Nf _),List.take_of_length_le (by rw[Nn,hcsz];exact Nf _)]
theorem H9{con:Nat->Bool}{o:Oper}{t:Nat}{x y:Operand}(ho:o.op=.store t x y)(h:Rel w0 env κ F U tmp blk L a w){needs:List E}{v:SV}{wr:List (Nat×Option SB)}
  (hc:tv P con blk t (ag tmp x) (ag tmp y)=some (.ok needs v wr)) (hnd:∀e∈needs,(den env e).b=true):aB P w0 env κ F U tmp blk L a w o v wr:=by
 have hex:=h.ev x;have hey:=h.ev y;unfold tv at hc;split at hc
 rotate_left
 ·cases hc
 rename_i hkk
 obtain⟨hk,hag⟩:=hkk;split at hc
 rotate_left
 ·cases hc
 rename_i b ty0 i0 k0 hx
 rw[hx]at hex;unfold BF at hc;split at hc
 rotate_left
 ·cases hc
 rename_i k xs e ty l hy hb
 split at hc
 rotate_left
 ·cases hc
 rename_i hh
 obtain⟨_,rfl⟩:=hh;split at hc
 rotate_left
 ·split at hc
  rotate_left
  ·cases hc
  rename_i hpr
  obtain⟨p1,p2,p3⟩:=hpr;split at hc
  rotate_left
  ·cases hc
  rename_i k' m hnums
  split at hc
  rotate_left
  ·cases hc
  rename_i hkk'
  subst hkk';cases hc
  rw[hy]at hey;exact HW ho h hk hx hb hey p1 p2 p3 hnums hnd
 rename_i hxs
 subst hxs;cases hc
 rw[hy]at hey;obtain⟨s,hs⟩:∃s,s=P.cellsOf t:=⟨_,rfl⟩
 rw[<-hs]at hey hnd;obtain⟨cs,g5,g6,g7⟩:=hey;obtain⟨g,go,n,c',h1,h2,h3,h4⟩:=hex;have n1:=aK (aA hnd);rw[aY]at n1;have n1:(s:Int)<=((den env l).l.length:Int):=of_decide_eq_true n1
 obtain⟨us,hown,hpos,hty,hrow⟩:=h.blks b _ hb;have hown0:=hown;rw[h1]at hown;have hgo:=jN hown;subst hgo;have h4':a.eval x=.pointer (some ⟨g,0,none⟩):=by
  rw[h4];have:(den env (.int (NK 0))).i.toNat*(Ty.cons (.num k) .nil).len+0=0:=rfl
  rw[this];simp[Addr.add]
 rcases hown.2 with⟨e1,_⟩|⟨g',cap,cur,e1,hb1,hb2,hnc,hcm,hcs,hcur⟩
 ·cases e1
 cases e1
 obtain⟨s1,s2⟩:=bc g6 g7;have hlen:(eE k l 0 s).list.length=s:=by
  show(SV.of _).list.length=s
  rw[da];simp
 have hcsz:cs.size=s:=by rw[s1,<-list_len,hlen]
 have hl1:(cx k).len=1:=rfl
 rw[hl1,Nh]at hcs hcur;have hsame:∀q,q<s->cs[q]?=cur[q]?:=fun q hq=>by
  obtain⟨m,r,hr,h0,_,hd⟩:=m6 (env:=env) (κ:=κ) (F:=F) (w:=w) (i:=q) (l:=l) (k:=k) (by omega) hty
  obtain⟨u,hu,hdu⟩:=hrow _ _ _ _ hr h0;rw[hl1,Nh,Nl]at hu;have hget:(eE k l 0 s).list[q]?=some (lm k l q):=by
   show(SV.of _).list[q]?=_
   rw[da,Nm,NY hq];simp
  obtain⟨u2,hu2,hd2⟩:=s2 q _ hget;have e2:u2=.int k m:=by
   have h5:=hd.1;have h6:=hd2.1;exact AV.raw.inj (h6.symm.trans h5)
  rw[<-hcur,Nq]at hu;split at hu
  ·rw[Nd]at hu
   rw[hu2,hu,e2,(Den.raw_iff.1 hdu).1]
  ·cases hu
 have hcl:s<=cur.size:=by omega
 have hval:(a.eval y).cells=cs:=by rw[g5];rfl
 have hone:∀u∈cs,aU u=true:=fun u hu=>by
  obtain⟨q,hq,rfl⟩:=Of hu;obtain⟨m,r,hr,h0,_,hd⟩:=m6 (env:=env) (κ:=κ) (F:=F) (w:=w) (i:=q) (l:=l) (k:=k) (by omega) hty
  have hget:(eE k l 0 s).list[q]?=some (lm k l q):=by
   show(SV.of _).list[q]?=_
   rw[da,Nm,NY (by omega)];simp
  obtain⟨u2,hu2,hd2⟩:=s2 q _ hget;rw[Nk hq]at hu2;cases hu2
  exact hd2.2
 have hrun:=mo (P:=P) (w:=w) (t:=t) (z:=a.eval y) (off:=0) hk hb2 (by rw[hval,hcsz,hs]) (by rw[hval,hcsz];omega) (by rw[hval];exact hone)
 have hcells:(cur.toList.take 0++(a.eval y).cells.toList++cur.toList.drop (0+(a.eval y).cells.size)).toArray=cur:=by
  rw[hval,hcsz];apply Array.ext'
  simp only[Oc,NR,NB];refine List.ext_getElem? fun q=>?_
  by_cases hq:q<s
  ·rw[NA (by rw[Nn,hcsz];exact hq),Nd,hsame q hq,Nd]
  ·rw[N0 (by rw[Nn,hcsz];omega),Nr,Nn,hcsz]
   congr 1;omega
 rw[hcells,setRow_self w g cur e (0,0) hb2]at hrun;have hR:bL P o a w undef w:=.inr ⟨rfl,by simp only[execOp,ho,h4',Sem.run_bind,hrun,Result.andThen_ok,Sem.run_pure]⟩
 have hsame2:aL blk [(b,some (.row e (cx k) l))]=blk:=by
  funext c
  simp only[aL,Oq,Ow,upd];split
  ·rename_i hcb;rw[hcb,hb]
  ·rfl
 refine⟨undef,w,κ,F,hR,?_,trivial,?_⟩
 ·rw[hsame2];exact h.monoU (fun b hb=>.inl hb)
 ·rw[hsame2];exact Kept.refl
theorem JH{o:Oper}{x y:Operand}{t t':Nat}(ho:o.op=.call { callee:=.builtin .copy,args:=#[x,y],argTypes:=#[t,t'] })(h:Rel w0 env κ F U tmp blk L a w){needs:List E}{v:SV}{wr:List (Nat×Option SB)}
  (hc:xn P blk t (ag tmp x) (ag tmp y)=some (.ok needs v wr)):aB P w0 env κ F U tmp blk L a w o v wr:=by
 have hex:=h.ev x;have hey:=h.ev y;unfold xn at hc;split at hc
 rotate_left
 ·cases hc
 rename_i b off n hx
 rw[hx]at hex;unfold Er at hc;split at hc
 rotate_left
 ·cases hc
 rename_i c p m e ty xs hy ht hb
 rw[hy]at hey;simp only at hc
 split at hc
 rotate_left
 ·cases hc
 rename_i hh
 obtain⟨rfl,q1,q2,q3,q4,q5⟩:=hh;cases hc
 obtain⟨K,hK⟩:∃K,K=Nat.min m n:=⟨_,rfl⟩
 rw[<-hK]at q5⊢
 have hKm:K<=m/\K<=n:=by rw[hK];exact⟨Nat.min_le_left _ _,Nat.min_le_right _ _⟩
 obtain⟨g,c1,g1,g2⟩:=hex;obtain⟨g0,c2,g0',g3⟩:=hey;rw[g1]at g0';cases g0'
 obtain⟨g',cs,h3,h4,h5,h6,h7,h8⟩:=h.blks b _ hb;rw[g1]at h3;cases h3
 obtain⟨t1,t2⟩:=bc h7 h6;have hF:∀k,F k->k≠g:=fun k hF e=>h.nF b g (by rw[hb];rfl) (by rw[g1];rfl) (e▸hF)
 have hw:∀k,k≠g->∀cs',(w.setRow g cs').heap[k]?=w.heap[k]?:=fun k hk cs'=>setRow_other w g k cs' hk
 obtain⟨news,hnews⟩:∃news,news=(cs.toList.drop p).take K:=⟨_,rfl⟩
 have hnl:news.length=K:=by rw[hnews];simp;omega
 have hcut:(xs.cut p K).list=(xs.list.drop p).take K:=yG xs p K
 have hcl:(xs.cut p K).list.length=K:=by rw[hcut];simp[list_len];omega
 have hsrc:∀j v,news[j]?=some v->cs[p+j]?=some v/\j<K:=fun j v hj=>by
  rw[hnews,Nq]at hj;split at hj
  ·rename_i hlt
   rw[Nr,Nd]at hj;exact⟨hj,hlt⟩
  ·cases hj
 obtain⟨i0,hi0⟩:∃i0,P.info? e=some i0:=by
  unfold aP at q2;rw[M9]at q2;exact Option.isSome_iff_exists.1 q2.2
 have hsz1:(P.info? e).map (·.size)=some 1:=by
  have:=q1
  unfold Program.cellsOf at this;rw[hi0]at this⊢
  simpa using this
 have hrun:=run_copy_row (P:=P) w t t' o.type e g off n c1 ⟨g,p,none⟩ m c2 cs ty news ht hsz1 h4 (by rw[hnl];exact hK) (fun j v hj=>by
  rw[du];simp[World.cell?,h4,(hsrc j v hj).1]) (by rw[hnl];omega) (fun v hv=>by
  rw[<-lI];obtain⟨j,hj⟩:=Og hv;exact h8 v (by have:=(hsrc j v hj).1;exact Od this))
 rw[hnl]at hrun;have hR:bL P o a w (.int .i64 (K:Int)) (w.setRow g (cs.toList.take off++news++cs.toList.drop (off+K)).toArray):=.inl (by
  unfold execOp;simp only[ho,resolve,invoke,builtin,Sem.run_bind,Sem.run_pure,Result.andThen_ok,NO,Ny,N4,g2,g3,hrun];rfl)
 refine⟨_,_,κ,F,hR,?_,⟨rfl,rfl⟩,h.stored_kept hb rfl rfl (fun k hk=>hw k (fun e=>hk (by rw[g1,e];rfl)) _) (by simp)⟩
 refine(h.stored (y:=.cells ty (.of (xs.list.take off++(xs.cut p K).list++xs.list.drop (off+K)))) hb rfl (fun k hk=>hw k (fun e=>hk (by rw[g1,e];rfl)) _) (by simp) ?_ ?_ (gF h.below h5)).monoU (fun b hb=>.inl hb)
 ·refine⟨g,_,g1,setRow_heap w g cs _ ty (0,0) h4,h5,?_,bA _,?_⟩
  ·refine eM (by simp[list_len,t1,hnl,hcl]) (fun i z u hz hu=>?_)
   have e1:=cW (l:=cs.toList) (m:=news) (off:=off) (by simp;omega) i
   have e2:=cW (l:=xs.list) (m:=(xs.cut p K).list) (off:=off) (by rw[list_len];omega) i
   rw[hnl]at e1;rw[hcl]at e2;rw[e1]at hu;rw[e2]at hz;have key:SVden env κ F w z u:=by
    split at hz
    ·rename_i hi
     rw[if_pos hi]at hu;obtain⟨v,h9,h10⟩:=t2 i z hz;rw[Nd,h9]at hu;cases hu;exact h10
    ·rename_i hi
     rw[if_neg hi]at hu;split at hz
     ·rename_i hi2
      rw[if_pos hi2]at hu;rw[hcut,Nq]at hz;split at hz
      ·rw[Nr]at hz
       obtain⟨v,h9,h10⟩:=t2 _ z hz;rw[(hsrc _ _ hu).1]at h9;cases h9;exact h10
      ·cases hz
     ·rename_i hi2
      rw[if_neg hi2]at hu;obtain⟨v,h9,h10⟩:=t2 i z hz;rw[Nd,h9]at hu;cases hu;exact h10
   exact key.keep (fun _ _=>rfl) (fun _ h=>h) (fun k hk=>hw k (hF k hk) _)
  ·intro u hu
   simp only[NG,Np]at hu;rcases hu with(hu|hu)|hu
   ·exact h8 u (by have:=NS hu;simpa using this)
   ·obtain⟨j,hj⟩:=Og hu
    exact h8 u (Od (hsrc j u hj).1)
   ·exact h8 u (by have:=NT hu;simpa using this)
 ·intro c hc
  obtain⟨x,hx,hc⟩:=(eH _ c).1 hc;have hmem:x∈xs.list:=by
   rcases List.mem_append.1 hx with hx|hx
   ·rcases List.mem_append.1 hx with hx|hx
    ·exact NS hx
    ·rw[hcut]at hx;exact NT (NS hx)
   ·exact NT hx
  exact(h.bnames b _ hb).2 c (bW xs x hmem c hc)
theorem Hj{o:Oper}{s d:Nat}{x:Operand}(ho:o.op=.convert s d x)(h:Rel w0 env κ F U tmp blk L a w){needs:List E}{v:SV}{wr:List (Nat×Option SB)}
  (hc:lu P blk s d (ag tmp x)=some (.ok needs v wr)):aB P w0 env κ F U tmp blk L a w o v wr:=by
 have hex:=h.ev x;unfold lu at hc;split at hc
 rotate_left
 ·cases hc
 rename_i b off n hx
 rw[hx]at hex;unfold zB at hc;split at hc
 rotate_left
 ·cases hc
 rename_i e ty xs hs hd hb
 split at hc
 rotate_left
 ·cases hc
 rename_i hh
 obtain⟨q1,q2⟩:=hh;split at hc
 rotate_left
 ·cases hc
 rename_i l hl
 cases hc
 obtain⟨g,c1,g1,g2⟩:=hex;obtain⟨g',cs,h3,h4,h5,h6,h7,h8⟩:=h.blks b _ hb;rw[g1]at h3;cases h3
 obtain⟨t1,t2⟩:=bc h7 h6;obtain⟨us,hus⟩:∃us,us=(cs.toList.drop off).take n:=⟨_,rfl⟩
 have hul:us.length=n:=by rw[hus];simp;omega
 have hcut:(xs.cut off n).list=(xs.list.drop off).take n:=yG xs off n
 obtain⟨b1,b2,b3⟩:=j0 (env:=env) (κ:=κ) (F:=F) (w:=w) (row:=u8Row) rfl n (xs.cut off n).list l us hl (by rw[hcut];show _=n*1;simp[list_len];omega) (by rw[hcut,hul];simp[list_len];omega) (fun i x u hx hu=>by
  rw[hcut,Nq]at hx;rw[hus,Nq]at hu;split at hx
  ·rename_i hlt
   rw[if_pos hlt,Nr,Nd]at hu;rw[Nr]at hx;obtain⟨v,h9,h10⟩:=t2 _ x hx;rw[h9]at hu;cases hu;exact h10
  ·cases hx)
 have hbc:=sJ b2 (by rw[hul,b1])
 refine aj h (u:=ar (bytesOf (den env l).l)) (.inl ?_) ⟨rfl,rfl⟩
 have hrun:(convert s d (a.eval x)).run P w=.ok (ar (bytesOf (den env l).l)) w:=by
  rw[g2,run_convert_bytes_string w s d e _ _ _ hs (w8 q1) hd];have hc:∀j v,us[j]?=some v->w.cell? ((⟨g,off,none⟩:Addr).add j)=some v:=fun j v hj=>by
   rw[hus,Nq]at hj;split at hj
   ·rw[Nr,Nd]at hj
    rw[du];simp[World.cell?,h4,hj]
   ·cases hj
  have hl:=run_loadCells_list (P:=P) (w:=w) ⟨g,off,none⟩ us hc;rw[hul,hbc]at hl;rw[run_bytesToString w _ _ _ _ hl];have h3:=xi ((den env l).l.map fun r=>(r.getD 0 (.int 0)).num) []
  have h4:(ByteArray.empty)=(⟨([]:List UInt8).toArray⟩:ByteArray):=rfl
  rw[h4,h3];simp[ar,bytesOf]
 simp only[execOp,ho,Sem.run_bind,hrun,Result.andThen_ok,Sem.run_pure]
theorem Io{o:Oper}{s d:Nat}{x:Operand}(ho:o.op=.convert s d x)(h:Rel w0 env κ F U tmp blk L a w){needs:List E}{v:SV}{wr:List (Nat×Option SB)}
  (hc:ow P blk s d (ag tmp x)=some (.ok needs v wr)):aB P w0 env κ F U tmp blk L a w o v wr:=by
 have hev:=h.ev x;unfold ow at hc;split at hc
 rotate_left
 ·cases hc
 rename_i b off hx
 rw[hx]at hev;split at hc
 rotate_left
 ·cases hc
 rename_i ty xs hb
 have hev0:=hev;obtain⟨g,g1,g2⟩:=hev;obtain⟨g',cs,h3,h4,h5,h6,h7,h8⟩:=h.blks b _ hb;rw[g1]at h3;cases h3
 obtain⟨t1,t2⟩:=bc h7 h6;have hsh:w.shape? g=some (ty,xs.len):=by simp[World.shape?,h4,t1]
 have R:(convert s d (a.eval x)).run P w=.ok (a.eval x) w->bL P o a w (a.eval x) w:=fun hu=>.inl (by simp only[execOp,ho,Sem.run_bind,hu,Result.andThen_ok,Sem.run_pure])
 split at hc
 ·rename_i t hs hd
  split at hc
  ·rename_i i hi
   split at hc
   ·rename_i hh
    cases hc
    refine aj h (R ?_) hev0
    rw[g2];exact Lib.run_to_unsafe w ⟨g,off,none⟩ hs hd hi hh.1 hsh hh.2
   ·cases hc
  ·cases hc
 ·rename_i u hs hd
  split at hc
  ·rename_i hh
   rw[M9]at hh;cases hc
   obtain⟨j,hj⟩:=Option.isSome_iff_exists.1 hh.1;refine aj h (R ?_) hev0
   rw[g2];exact Lib.run_from_unsafe w ⟨g,off,none⟩ hs hd hj hsh hh.2
  ·cases hc
 ·cases hc
structure PFit (P:Program):Prop where
 mix:P.follows .mixedOrders=true
 name:∀(f:Nat) fn,P.funcs[f]?=some fn->fn.name ≠ "runtime.NumGoroutine"
 same:∀(f:Nat),wd P f=true->∀(v:Value) (w:World),(callFunc f #[v]).run P w=.ok (.value v) w
theorem JF{o:Oper}{x:Operand}{f:Nat}{tys:Array Nat}(hfit:PFit P)(ho:o.op=.call { callee:=.value (.func f),args:=#[x],argTypes:=tys })(hf:wd P f=true)(h:Rel w0 env κ F U tmp blk L a w):aB P w0 env κ F U tmp blk L a w o (ag tmp x) []:=by
 refine aj h (u:=a.eval x) (.inl ?_) (h.ev x)
 have e1:a.eval (.func f)=.func (.func f) #[] #[]:=rfl
 simp only[execOp,ho,resolve,e1,Deferred.ofValue,Sem.run_bind,Sem.run_pure,Result.andThen_ok,invoke];simp[hfit.same f hf]
theorem x8{base t t' ty e:Nat}{i:TypeInfo}(ht:P.underlying t=some (.slice e))(hu:P.underlying t'=some .string)(hi:P.info? e=some i)(hz:i.zero=some (.int .u8 0))(hsize:i.size=1)(hby:i.bytes=1)
  {v:Value} {n:Nat} {xs:List Value} (hown:w.ownsRow base e 1 v n xs) (s:ByteArray) (hbytes:n+s.size<=140737488355328) (hbase:base<=w.heap.size):
  ∃v' w',(Builtin.append_ #[t,t'] ty #[v,.string s]).run P w=.ok v' w'/\w'.ownsRow base e 1 v' (n+s.size) (xs++Lib.strCells s)/\w.grownBy w' (ai v)/\∀k,ai v'=some k->ai v=some k\/w.heap.size<=k:=by
 have h63:n+s.size<=maxLen:=by unfold maxLen;omega
 obtain⟨v',w',r1,r2,r3,r4⟩:=Lib.run_append_own_string (P:=P) w base t t' ty e i ht hu hi hz hsize hby v n xs hown s h63 hbytes hbase
 refine⟨v',w',r1,r2,?_,fun k hk=>?_⟩
 ·rcases hown.2 with⟨rfl,_⟩|⟨g,cap,cur,rfl,_⟩<;>exact r3
 ·have hxl:xs.length=n:=by simpa using hown.1
  rcases hown.2 with⟨rfl,rfl⟩|⟨g,cap,cur,rfl,hbg,hg,hnc,hcm,hcs,htake⟩
  ·have hx:xs=[]:=Nw hxl
   subst hx;obtain⟨v2,w2,q1,q2,_⟩:=Lib.run_append_own_string (P:=P) w w.heap.size t t' ty e i ht hu hi hz hsize hby (.slice none 0 0) 0 [] (World.ownsRow_nil _ _ _ _) s h63 hbytes (Nf _)
   rw[r1]at q1;cases q1
   right
   refine(q2.lt k ?_).1
   rw[<-hk];rcases q2.2 with⟨rfl,_⟩|⟨g,cap,cur,rfl,_⟩<;>rfl
  ·by_cases hroom:n+s.size<=cap
   ·have hcs':cur.size=cap:=by simpa using hcs
    have hr:=Lib.run_append_room_string (P:=P) w t t' ty e i ht hu hi hsize g n cap cur hg s hroom (by omega)
    rw[r1]at hr;cases hr
    left;exact hk
   ·have hr:=Lib.run_append_grow_string (P:=P) w t t' ty e i (.int .u8 0) ht hu hi hz ⟨g,0,none⟩ n cap xs (by rw[hsize];simpa using hxl) (hown.cells (g:=g) rfl) s (by omega) (by omega) (by rw[hby];exact growslice_fits (by omega) (by omega))
    rw[r1]at hr;cases hr
    right;cases hk;exact Nf _
theorem vg(l:List UInt8):RowsDen F w (Lib.strCells ⟨l.toArray⟩) u8Row (au l):=by
 refine⟨fun i r hr=>?_,fun i r k x hr hx=>?_⟩
 ·simp only[au,Nm,N9]at hr
  obtain⟨b,_,rfl⟩:=hr;rfl
 ·simp only[au,Nm,N9]at hr
  obtain⟨b,hb,rfl⟩:=hr;match k,hx with
  |0,hx=>
   cases hx
   refine⟨.int .u8 b.toNat,?_,.raw _ rfl⟩
   have:u8Row.len=1:=rfl
   rw[this,Nh,Nl];simp[Lib.strCells,hb]
theorem H3{o:Oper}{s x:Operand}{t t' m:Nat}(ho:o.op=.call { callee:=.builtin .append,args:=#[s,x],argTypes:=#[t,t'] })(h:Rel w0 env κ F U tmp blk L a w){needs:List E}{v:SV}{wr:List (Nat×Option SB)}(hm:wr≠[]->¬U m)
  (hc:qb P m blk o t t' (ag tmp s) (ag tmp x)=some (.ok needs v wr)) (hn:∀e∈needs,(den env e).b=true):aB P w0 env κ F U tmp blk L a w o v wr:=by
 have cr:∀(k:Nat->E->Option Out),rG P o t t' (ag tmp x) k=some (.ok needs v wr)->∃ety e,aZ P t=some (ety,u8Row)/\P.underlying t'=some .string/\ag tmp x=.vr e/\dV e=true/\vZ P ety=true/\P.bytesOf ety=1/\pr P ety=true/\k ety e=some (.ok needs v wr):=fun k hk=>by
  unfold rG at hk;split at hk
  rotate_left
  ·cases hk
  rename_i ety row e ht hu hx
  split at hk
  rotate_left
  ·cases hk
  rename_i hh
  obtain⟨q1,rfl,q2,q3,q4,_⟩:=hh;exact⟨ety,e,ht,hu,hx,q1,q2,q3,q4,hk⟩
 have hc2:∃ety e,aZ P t=some (ety,u8Row)/\P.underlying t'=some .string/\ag tmp x=.vr e/\dV e=true/\vZ P ety=true/\P.bytesOf ety=1/\pr P ety=true ∧
   ((ag tmp s=.nilsl/\some (Out.ok (cZ (.bofs e) 1) (.row m) [(m,some (.row ety u8Row (.bofs e)))])=some (.ok needs v wr))\/∃d,ag tmp s=.row d/\uD m d ety e (blk d)=some (.ok needs v wr)):=by
  unfold qb at hc;split at hc
  ·rename_i hs
   obtain⟨ety,e,a1,a2,a3,a4,a5,a6,a7,a8⟩:=cr _ hc;exact⟨ety,e,a1,a2,a3,a4,a5,a6,a7,.inl ⟨hs,a8⟩⟩
  ·rename_i d hs
   obtain⟨ety,e,a1,a2,a3,a4,a5,a6,a7,a8⟩:=cr _ hc;exact⟨ety,e,a1,a2,a3,a4,a5,a6,a7,.inr ⟨d,hs,a8⟩⟩
  ·cases hc
 clear cr hc
 obtain⟨ety,e,ht,hu,hx,q1,q2,q3,q4,hc⟩:=hc2;have vx:=mJ h hx q1;obtain⟨u1,u2,u3,⟨i,hi⟩,u5,u6,u7,u8⟩:=bn ht;have hsize:i.size=1:=by
  have:i.size=u8Row.len:=by rw[u2];unfold Program.cellsOf;rw[hi];rfl
  exact this
 have hby:i.bytes=1:=by unfold Program.bytesOf at q3;rw[hi]at q3;exact q3
 have hz:i.zero=some (.int .u8 0):=by
  unfold pr at q4;rw[hi]at q4;simp only[N5]at q4;split at q4
  ·assumption
  ·cases q4
 obtain⟨S,hS⟩:∃S,S=(den env e).s:=⟨_,rfl⟩
 rw[<-hS]at vx;have hsz:(⟨S.toArray⟩:ByteArray).size=S.length:=by simp[ByteArray.size]
 have hrows:(den env (.bofs e)).l=au S:=by rw[hS];rfl
 have hrl:(au S).length=S.length:=by simp[au]
 have R:∀ {v':Value} {w':World},(Builtin.append_ #[t,t'] o.type #[a.eval s,a.eval x]).run P w=.ok v' w'->bL P o a w v' w':=fun hr=>.inl (by
  unfold execOp;simp only[ho,resolve,invoke,builtin,Sem.run_bind,Sem.run_pure,Result.andThen_ok,NO,Ny,N4,hr])
 have hle:=h.below.size;have hes:=h.ev s;rcases hc with⟨hs,hc⟩|⟨d,hs,hc⟩
 ·cases hc
  rw[hs]at hes;have hroom:0+(⟨S.toArray⟩:ByteArray).size<=140737488355328:=by
   have h1:=aK (aA hn);rw[bQ,aY,hrows,hrl]at h1;have h1:(S.length:Int)*1<=140737488355328:=of_decide_eq_true h1
   rw[hsz];omega
  obtain⟨v',w',r1,r2,r3,r4⟩:=x8 (P:=P) (ty:=o.type) u1 hu hi hz hsize hby (World.ownsRow_nil w w.heap.size ety 1) ⟨S.toArray⟩ hroom (Nf _)
  rw[NB,NR,hsz]at r2;refine GL h (hm (by simp)) (R (by rw[show a.eval s=_ from hes,vx];exact r1)) (us:=Lib.strCells ⟨S.toArray⟩) ?_ u3 ?_ r3 (fun k hk=>(r4 k hk).resolve_left (by simp[ai]))
  ·rw[hrows,hrl];exact r2
  ·rw[hrows];exact vg S
 ·unfold uD at hc
  split at hc
  rotate_left
  ·cases hc
  rename_i f row' l0 hd
  split at hc
  rotate_left
  ·cases hc
  rename_i hh
  obtain⟨rfl,rfl⟩:=hh;cases hc
  have hm':=hm (by simp)
  rw[hs]at hes;obtain⟨us,hown,hpos,hrow⟩:=h.blks d _ hd;have hroom:(den env l0).l.length+(⟨S.toArray⟩:ByteArray).size<=140737488355328:=by
   have h1:=aK (aA hn);rw[bQ,aY,c8,Nx,hrows,hrl]at h1;have h1:(((den env l0).l.length+S.length:Nat):Int)*1<=140737488355328:=of_decide_eq_true h1
   rw[hsz];omega
  obtain⟨v',w',r1,r2,r3,r4⟩:=x8 (P:=P) (ty:=o.type) u1 hu hi hz hsize hby hown ⟨S.toArray⟩ hroom hle
  refine⟨v',w',upd κ m v',F,R (by rw[show a.eval s=_ from hes.1,vx];exact r1),?_,⟨(ak κ m v').symm,?_⟩,h.moved_kept hd rfl rfl rfl hm' r3 r4⟩
  ·have hbel:Below w0.heap.size w0 w':=h.below.trans ⟨r3.os,r3.tape,r3.output,r3.size,fun k hk=>r3.block k (by omega) (fun e=>by have:=((h.blks d _ hd).lt rfl e.symm).1;omega)⟩
   have hF2:∀k,F k->w'.heap[k]?=w.heap[k]?:=fun k hF=>r3.block k (h.F k hF) (fun e=>h.nF d k (by rw[hd];rfl) e.symm hF)
   refine(h.moved (y:=.row f u8Row (bR l0 (.bofs e))) (z:=.dead l0) hd rfl rfl ?_ rfl hm' r3 r4 ⟨us++Lib.strCells ⟨S.toArray⟩,?_,u3,?_⟩ (fun c hc=>by cases hc) hbel).monoU (fun b hb=>?_)
   ·have hdm:d≠m:=fun e=>by subst e;exact hm' (h.bnames d _ hd).1
    rcases hown.2 with⟨e,e'⟩|⟨g,cap,cur,e,_⟩
    ·exact⟨none,0,by rw[ah hdm,e,e']⟩
    ·exact⟨_,_,by rw[ah hdm,e]⟩
   ·rw[ak,c8,Nx,hrows,hrl,<-hsz];exact r2
   ·rw[c8,hrows]
    exact(hrow.app (vg S) hown.1).keep (fun _ h=>h) hF2
   ·rcases hb with hb|rfl
    ·exact .inl hb
    ·exact .inr ⟨_,Nc _ (List.mem_singleton.2 rfl),rfl⟩
  ·rcases r2.2 with⟨rfl,_⟩|⟨g,cap,cur,rfl,_⟩<;>rfl
theorem Ko{o:Oper}{x:Operand}{tys:Array Nat}(ho:o.op=.call { callee:=.builtin .unsafeSliceData,args:=#[x],argTypes:=tys })(h:Rel w0 env κ F U tmp blk L a w){needs:List E}{v:SV}{wr:List (Nat×Option SB)}
  (hc:xB blk (ag tmp x)=some (.ok needs v wr)) (hn:∀e∈needs,(den env e).b=true):aB P w0 env κ F U tmp blk L a w o v wr:=by
 have hev:=h.ev x;unfold xB at hc;split at hc
 rotate_left
 ·cases hc
 rename_i d hx
 rw[hx]at hev;split at hc
 rotate_left
 ·cases hc
 rename_i ety row l hd
 cases hc
 have n1:=aK (aA hn);rw[aY]at n1;have n1:(0:Int)<((den env l).l.length:Int):=of_decide_eq_true n1
 obtain⟨us,hown,hpos,hrow⟩:=h.blks d _ hd;rcases hown.2 with⟨_,e⟩|⟨g,cap,cur,e,hb1,hb2,hnc,hcm,hcs,hcur⟩
 ·omega
 ·refine aj h (u:=.pointer (some ((⟨g,0,none⟩:Addr).add ((0:Int).toNat*row.len+0)))) (.inl ?_) ⟨g,0,(den env l).l.length,cap,e,Int.le_refl _,n1,rfl⟩
  have hrun:(Builtin.unsafeSliceData_ tys o.type #[.slice (some ⟨g,0,none⟩) (den env l).l.length cap]).run P w=.ok (.pointer (some ⟨g,0,none⟩)) w:=
   Lib.run_unsafeSliceData_row _ _ _ _ _ _ (by omega)
  have e0:(⟨g,0,none⟩:Addr).add ((0:Int).toNat*row.len+0)=⟨g,0,none⟩:=by simp[Addr.add]
  rw[e0];unfold execOp;simp only[ho,resolve,invoke,builtin,Sem.run_bind,Sem.run_pure,Result.andThen_ok,NO,Ny,N4,hev.1,e,hrun]
theorem tj:∀(ns:List Int) (p:Addr) (acc:List UInt8),(∀(j:Nat) x,ns[j]?=some x->w.cell? (p.add j)=some (.int .u8 x))->(loadBytes p ⟨acc.toArray⟩ ns.length).run P w=.ok ⟨(acc++ns.map fun n=>UInt8.ofNat n.toNat).toArray⟩ w
 |[],p,acc,_=>by simp[loadBytes]
 | x::l,p,acc,h=>by
  have h0:w.cell? p=some (.int .u8 x):=by
   have:=h 0 x rfl
   simpa[Addr.add]using this
  have hp:(ByteArray.mk acc.toArray).push (UInt8.ofNat x.toNat)=ByteArray.mk (acc++[UInt8.ofNat x.toNat]).toArray:=by simp[ByteArray.push]
  have ih:=tj l (p.add 1) (acc++[UInt8.ofNat x.toNat]) (fun j y hy=>by
   have:=h (j+1) y (by simpa using hy)
   rw[ep,Nat.add_comm 1 j];exact this)
  have e:x.toNat.toUInt8=UInt8.ofNat x.toNat:=rfl
  simp only[Om,loadBytes,Sem.run_bind,Go.run_load,h0,Result.andThen,e,hp];rw[ih];simp
theorem Hv{o:Oper}{x n:Operand}{pt it:Nat}(ho:o.op=.call { callee:=.builtin .unsafeString,args:=#[x,n],argTypes:=#[pt,it] })(h:Rel w0 env κ F U tmp blk L a w){needs:List E}{v:SV}{wr:List (Nat×Option SB)}
  (hc:qc P blk pt (ag tmp x) (ag tmp n)=some (.ok needs v wr)) (hnd:∀e∈needs,(den env e).b=true):aB P w0 env κ F U tmp blk L a w o v wr:=by
 have hex:=h.ev x;have hen:=h.ev n;unfold qc at hc;split at hc
 rotate_left
 ·cases hc
 rename_i d ty i0 k0 hx
 rw[hx]at hex;unfold zE at hc;split at hc
 rotate_left
 ·cases hc
 rename_i e u ety row l hn' hu hd
 rw[hn']at hen;split at hc
 rotate_left
 ·cases hc
 rename_i hh
 obtain⟨rfl,rfl,rfl,rfl,q1⟩:=hh;cases hc
 have n1:=aK (aA hnd);rw[aY]at n1;have n1:(0:Int)<((den env l).l.length:Int):=of_decide_eq_true n1
 obtain⟨us,hown,hpos,hrow⟩:=h.blks d _ hd;have hul:us.length=(den env l).l.length:=by rw[hown.1];exact Nh _
 have hbc:=sJ hrow hul;obtain⟨g,go,nn,c,g1,g2,g3,g4⟩:=hex;have hown0:=hown;rw[g1]at hown;have hgo:=jN hown;subst hgo;rcases hown.2 with⟨e,_⟩|⟨g',cap,cur,e,hb1,hb2,hnc,hcm,hcs,hcur⟩
 ·cases e
 cases e
 obtain⟨ns,hns⟩:∃ns:List Int,ns=(den env l).l.map fun r=>(r.getD 0 (.int 0)).num:=⟨_,rfl⟩
 rw[<-hns]at hbc;have hnl:ns.length=(den env l).l.length:=by rw[hns];simp
 have hlen:a.eval n=.int .i64 (ns.length:Int):=by
  rw[hen.1,aY,hnl];rfl
 have hptr:a.eval x=.pointer (some ⟨g,0,none⟩):=by
  rw[g4];have:(den env (.int (NK 0))).i.toNat*u8Row.len+0=0:=rfl
  rw[this];simp[Addr.add]
 have hcs1:(den env l).l.length<=cur.size:=by rw[hcs,show u8Row.len=1 from rfl,Nh];exact hnc
 have hcell:∀(j:Nat) x,ns[j]?=some x->w.cell? ((⟨g,0,none⟩:Addr).add j)=some (.int .u8 x):=fun j x hj=>by
  refine hown.cells (g:=g) rfl j _ ?_
  rw[hbc,Nm,hj];rfl
 have hlb:=tj (P:=P) (w:=w) ns ⟨g,0,none⟩ [] hcell;have hsh:w.shape? g=some (ety,cur.size):=by simp[World.shape?,hb2]
 have hlies:=Lib.liesAt_bytes (P:=P) q1 (cur.size / P.cellsOf ety) ns.length (by rw[q1];simp;omega)
 have hl0:ns.length≠0:=by omega
 have h63':¬(9223372036854775807:Int)<(ns.length:Int):=by unfold maxLen at hcm;omega
 have hmax:IntKind.i64.max=9223372036854775807:=rfl
 have hneg:¬(ns.length:Int)<0:=by omega
 have hrun:(Builtin.unsafeString_ #[pt,it] o.type #[.pointer (some ⟨g,0,none⟩),.int .i64 ns.length]).run P w=.ok (ar (bytesOf (den env l).l)) (w.freeze ⟨g,0,none⟩ ns.length):=by
  have hdef:Builtin.unsafeString_ #[pt,it] o.type #[.pointer (some ⟨g,0,none⟩),.int .i64 ns.length] =
   (do
    let n ← asInt (.int .i64 ns.length)
    if n<0 then runtimePanic (.error "unsafe.String: len out of range")
    if n>IntKind.i64.max then unsupported (.unsafePointer "String: a length above the largest int")
    if n=0 then pure (.string .empty)else if ← variablesAt ⟨g,0,none⟩ (<-elemOf pt) n.toNat then do
     let s ← loadBytes ⟨g,0,none⟩ .empty n.toNat
     freeze ⟨g,0,none⟩ n.toNat
     pure (.string s)else unsupported (.unsafePointer "String: not so many bytes at ptr")):=rfl
  have h5:(ByteArray.empty)=(⟨([]:List UInt8).toArray⟩:ByteArray):=rfl
  rw[hdef,h5];simp[asInt,asIntOf,hmax,h63',hneg,hl0,variablesAt,hsh,elemOf,run_underlying hu,hlies,hlb]
  rw[hns];simp[ar,bytesOf]
 have hR:bL P o a w (ar (bytesOf (den env l).l)) (w.freeze ⟨g,0,none⟩ ns.length):=.inl (by
  unfold execOp;simp only[ho,resolve,invoke,builtin,Sem.run_bind,Sem.run_pure,Result.andThen_ok,NO,Ny,N4,hptr,hlen,hrun])
 have hw:∀k,ai (κ d)≠some k->(w.freeze ⟨g,0,none⟩ ns.length).heap[k]?=w.heap[k]?:=fun k hk=>by
  rw[g1]at hk;have hgk:¬g=k:=fun e=>hk (by rw[e];rfl)
  unfold World.freeze;split
  ·rfl
  ·simp[Array.getElem?_modify,hgk]
 have hsz:(w.freeze ⟨g,0,none⟩ ns.length).heap.size=w.heap.size:=by
  unfold World.freeze;split<;>simp
 refine⟨_,_,κ,F,hR,?_,⟨rfl,rfl⟩,h.stored_kept hd rfl rfl hw hsz⟩
 refine(h.stored (y:=.dead l) hd rfl hw hsz ⟨_,_,g1⟩ (fun c hc=>by cases hc) (Lib.below_freeze h.below hb1 _)).monoU (fun b hb=>.inl hb)
theorem p9{args:Array Operand}{f:Operand->SV}{x:SV}(h:args.toList.map f=[x]):∃y,args=#[y]/\f y=x:=by
 match hl:args.toList,h with
 |[y],h=>exact⟨y,by rw[<-Nv (xs:=args),hl],by simpa using h⟩
theorem m8{args:Array Operand}{f:Operand->SV}{x z:SV}(h:args.toList.map f=[x,z]):∃y u,args=#[y,u]/\f y=x/\f u=z:=by
 match hl:args.toList,h with
 |[y,u],h=>exact⟨y,u,by rw[<-Nv (xs:=args),hl],by simpa using h⟩
theorem uQ{ts:Array Nat}{t:Nat}(h:ts.toList=[t]):ts=#[t]:=by rw[<-Nv (xs:=ts),h]
theorem qg{ts:Array Nat}{t u:Nat}(h:ts.toList=[t,u]):ts=#[t,u]:=by rw[<-Nv (xs:=ts),h]
theorem HZ{con:Nat->Bool}{nm:Nat}{ev:Operand->SV}{bk:Nat->Option SB}{t d:Nat}{i:Operand}(h:con 6000000=true):og P con nm ev bk t (.row d) (some i) none=jC P nm ev bk t (.row d) i:=by
 unfold og;rw[h]
theorem HS{con:Nat->Bool}{tr:E->Option Bool}{nm:Nat}{o:Oper}(h:Rel w0 env κ F U tmp blk L a w)(htr:∀e b,tr e=some b->(den env e).b=b){needs:List E}{v:SV}{wr:List (Nat×Option SB)}
  (hm:wr≠[]->¬U nm) (hc:ij P con tr nm (ag tmp) blk o=.ok needs v wr) (hn:∀e∈needs,(den env e).b=true):aB P w0 env κ F U tmp blk L a w o v wr:=by
 unfold ij at hc;split at hc
 case h_1 x ho=>cases hc;exact Gx (.inl ho) h
 case h_2 x ho=>cases hc;exact Gx (.inr ho) h
 case h_3 c x y ho=>
  unfold xv at hc;split at hc
  ·rename_i e he
   split at hc
   ·rename_i ht;cases hc;exact GG (b:=true) ho h he (htr _ _ ht)
   ·rename_i ht;cases hc;exact GG (b:=false) ho h he (htr _ _ ht)
   ·cases hc
  ·cases hc
 case h_4 t ho=>
  unfold up at hc;split at hc
  ·split at hc
   ·rename_i n e x hu hx
    split at hc
    ·rename_i hh
     simp only[M9]at hh;obtain⟨⟨⟨h1,h2⟩,h3⟩,h4⟩:=hh;cases hc
     exact Eu ho h (hm (by simp)) hx h1 (ga h2) (Oa h3) h4
    ·cases hc
   ·cases hc
  split at hc
  ·rename_i x hx
   split at hc
   ·rename_i hh;cases hc
    exact Kp ho h (hm (by simp)) hx (Bool.and_eq_true_iff.1 hh).1 (Bool.and_eq_true_iff.1 hh).2
   ·cases hc
  ·cases hc
 case h_5 t x ho=>
  unfold z8 at hc;split at hc
  ·rename_i hh;cases hc
   exact LW ho h (hm (by simp)) (Bool.and_eq_true_iff.1 hh).1 (Bool.and_eq_true_iff.1 hh).2
  ·cases hc
 case h_6 t parts ho=>
  unfold tZ at hc;split at hc
  ·rename_i z pl hz hpl
   split at hc
   ·rename_i hw
    split at hc
    ·rename_i cs hcs
     cases hc
     exact KC ho h hz hw hpl hcs
    ·cases hc
   ·cases hc
  ·cases hc
 case h_7 t len parts ho=>
  unfold kI at hc;split at hc
  ·rename_i ety row ht
   split at hc
   ·rename_i z hz
    split at hc
    ·rename_i cs hcs
     split at hc
     ·rename_i l hl
      split at hc
      ·rename_i hh
       cases hc
       exact CX ho h (hm (by simp)) ht hz hh.2.1 hh.2.2.1 hcs hl hh.1 hh.2.2.2
      ·cases hc
     ·cases hc
    ·cases hc
   ·cases hc
  ·split at hc
   ·rename_i e ht
    split at hc
    ·rename_i z hz
     split at hc
     ·rename_i cs hcs
      split at hc
      ·rename_i hh
       obtain⟨h1,h2,h3,h4,h5,h6,h7⟩:=hh;cases hc
       exact FN ho h (hm (by simp)) ht hz h1 h2 h3 h4 hcs h5 h6 h7
      ·cases hc
     ·cases hc
    ·cases hc
   ·cases hc
 case h_8 t x ho=>exact Ls ho h hc hn
 case h_9 t x y ho=>
  unfold kY at hc;simp only at hc
  split at hc
  ·cases hc
  rename_i hh
  have g1:(ag tmp y).cells.len=P.cellsOf t:=by
   by_cases e:(ag tmp y).cells.len=P.cellsOf t
   ·exact e
   ·exact absurd (.inl e) hh
  have g2:aP P t=true:=by
   cases e:aP P t with
   |true=>rfl
   |false=>exact absurd (.inr (.inl e)) hh
  have g3:oN (ag tmp y).cells=true:=by
   cases e:oN (ag tmp y).cells with
   |true=>rfl
   |false=>exact absurd (.inr (.inr (.inl e))) hh
  have g4:(ag tmp y).whole=true:=by
   cases e:(ag tmp y).whole with
   |true=>rfl
   |false=>exact absurd (.inr (.inr (.inr e))) hh
  split at hc
  ·rename_i b off hx
   split at hc
   ·rename_i ty xs hb
    split at hc
    ·rename_i hle
     cases hc
     exact E5 ho h hx hb g1 g2 g3 g4 hle
    ·cases hc
   ·cases hc
  ·rename_i b ty i k hx
   split at hc
   ·rename_i e ty' l hb
    split at hc
    ·rename_i hty
     subst hty;split at hc
     ·rename_i l' hs
      cases hc
      exact EO ho h hx hb g1 g2 g4 hs g3
     ·cases hc
    ·cases hc
   ·cases hc
  ·cases hc
 case h_10 x ho=>exact Ga ho h hc
 case h_11 op t x y ty ho=>
  generalize hp:ag tmp x=p at hc
  generalize hq:ag tmp y=q at hc
  by_cases hi:∃e f,p=.vi e/\q=.vi f
  ·obtain⟨e,f,rfl,rfl⟩:=hi
   exact Ml ho h hp hq hc hn
  ·unfold tC at hc
   split at hc
   ·exact absurd ⟨_,_,rfl,rfl⟩ hi
   ·exact KP ho h hp hq (.inl ⟨_,_,rfl,rfl⟩) hc
   ·exact KP ho h hp hq (.inr ⟨_,_,rfl,rfl⟩) hc
   ·split at hc
    ·rename_i h1
     exact Ks ho h hp hq h1 hc
    split at hc
    ·rename_i h1 h2
     exact KT ho h (hp▸h1) (hq▸h2) hc hn
    ·cases hc
 case h_12 op t x ho=>exact MH ho h hc hn
 case h_13 s d x ho=>
  unfold xq at hc;split at hc
  ·rename_i e hs hd hx
   cases hc
   exact Hf ho h hs hd hx hn
  ·rename_i u k x' hs hd _
   split at hc
   ·rename_i h1
    exact JR ho h hd ⟨_,hs⟩ h1 hc
   ·cases hc
  ·cases hc
 case h_14 t x lo hi ho=>
  by_cases hq:∃d i,con 6000000=true/\ag tmp x=.row d/\lo=some i/\hi=none
  ·obtain⟨d,i,hcon,hx,rfl,rfl⟩:=hq
   rw[hx,HZ hcon]at hc;unfold jC at hc;split at hc
   ·rename_i ety r d' q ht hd' hq
    cases hd'
    split at hc
    ·rename_i e ty l hb
     split at hc
     ·rename_i hh
      obtain⟨rfl,rfl⟩:=hh;cases hc
      exact Fd ho h ht (hm (by simp)) hx hb (.inl rfl) hq hn
     ·cases hc
    ·rename_i e ty l hb
     split at hc
     ·rename_i hh
      obtain⟨rfl,rfl⟩:=hh;cases hc
      exact Fd ho h ht (hm (by simp)) hx hb (.inr rfl) hq hn
     ·cases hc
    ·cases hc
   ·cases hc
  have hs:og P con nm (ag tmp) blk t (ag tmp x) lo hi=jx P nm (ag tmp) blk t (ag tmp x) lo hi:=by
   unfold og;split
   ·rename_i d i hcon hx
    exact absurd ⟨d,i,hcon,hx,rfl,rfl⟩ hq
   ·rfl
  rw[hs]at hc;unfold jx at hc;split at hc
  ·rename_i ety r ty e ht hx
   split at hc
   ·cases hc
   ·rename_i hty
    have hty:ty=r:=by simpa using hty
    split at hc
    ·rename_i l q hl hh
     cases hc
     exact JS ho h ht hx hty hl hh hn
    ·cases hc
  ·rename_i ety r d ht hx
   split at hc
   ·rename_i e ty l i hb hlo hl
    split at hc
    ·rename_i hty
     obtain⟨rfl,rfl,hnone⟩:=hty;cases hc
     have:hi=none:=by cases hi<;>first|rfl|cases hnone
     subst this;cases lo with
     |none=>cases hlo
     |some lo=>exact CO ho h ht hx hb hl hn
    ·cases hc
   ·rename_i e ty l q hb hlo hh
    have hlo:lo=none:=by cases lo<;>first|rfl|cases hlo
    subst hlo;split at hc
    ·rename_i hty
     obtain⟨rfl,rfl,hsome⟩:=hty;cases hc
     exact Fj ho h ht (hm (by simp)) hx hb hsome hh hn
    ·cases hc
   ·cases hc
  ·rename_i ety r ht hx
   split at hc
   ·rename_i l q hl hh
    cases hc
    exact EQ ho h ht hx hl hh hn
   ·cases hc
  ·cases hc
 case h_15 s x f ho=>
  unfold my at hc;split at hc
  ·rename_i off b q hf hx;cases hc;exact ql ho h hf (.inl ⟨b,q,hx,rfl⟩)
  ·rename_i off t l i k hf hx;cases hc;exact ql ho h hf (.inr (.inl ⟨t,l,i,k,hx,rfl⟩))
  ·rename_i off b t i k hf hx;cases hc;exact ql ho h hf (.inr (.inr ⟨b,t,i,k,hx,rfl⟩))
  ·cases hc
 case h_16 t x ix ho=>
  unfold gD at hc;split at hc
  ·rename_i i hi
   split at hc
   ·rename_i b n e hx ht
    split at hc
    ·rename_i hh
     obtain⟨q,_,h1,h2,h3⟩:=HG htr _ _ hc;cases h3
     exact Ec ho h ht hi hh.2 hh.1 hx h2 (by omega)
    ·cases hc
   ·rename_i b off n e hx ht
    split at hc
    ·rename_i c
     split at hc
     ·rename_i hh
      cases hc
      exact jZ ho h ht hi hh.1 hh.2.1 hh.2.2 (.inl ⟨b,off,hx,rfl⟩)
     ·cases hc
    ·cases hc
   ·rename_i ty l j k n e hx ht
    split at hc
    ·rename_i c
     split at hc
     ·rename_i hh
      cases hc
      exact jZ ho h ht hi hh.1 hh.2.1 hh.2.2 (.inr (.inl ⟨ty,l,j,k,hx,rfl⟩))
     ·cases hc
    ·cases hc
   ·rename_i b ty j k n e hx ht
    split at hc
    ·rename_i ea ty' l hb
     split at hc
     ·split at hc
      ·rename_i hh
       cases hc
       exact DC ho h ht hi hh.1 hx hb hh.2 hn
      ·cases hc
     ·split at hc
      ·rename_i c
       split at hc
       ·rename_i hh
        cases hc
        exact jZ ho h ht hi hh.1 hh.2.1 hh.2.2 (.inr (.inr ⟨b,ty,j,k,hx,rfl⟩))
       ·cases hc
      ·cases hc
    ·split at hc
     ·rename_i c
      split at hc
      ·rename_i hh
       cases hc
       exact jZ ho h ht hi hh.1 hh.2.1 hh.2.2 (.inr (.inr ⟨b,ty,j,k,hx,rfl⟩))
      ·cases hc
     ·cases hc
   ·rename_i ty l e hx _
    split at hc
    ·rename_i ety r ht
     split at hc
     ·rename_i hr
      subst hr;cases hc
      exact nv ho h ht hi hn (.inl ⟨hx,rfl⟩)
     ·cases hc
    ·cases hc
   ·rename_i b e hx _
    split at hc
    ·rename_i ety ty l ety' r hb ht
     split at hc
     ·rename_i hr
      subst hr;cases hc
      exact nv ho h ht hi hn (.inr (.inl ⟨b,ety,hx,hb,rfl⟩))
     ·cases hc
    ·rename_i ety ty l ety' r hb ht
     split at hc
     ·rename_i hr
      subst hr;cases hc
      exact nv ho h ht hi hn (.inr (.inr ⟨b,ety,hx,hb,rfl⟩))
     ·cases hc
    ·cases hc
   ·cases hc
  ·cases hc
 case h_17 t x ix ho=>
  unfold tX at hc;split at hc
  ·rename_i c xs n e hi hx ht
   split at hc
   ·rename_i hh
    split at hc
    ·rename_i hag
     cases hc
     exact DI ho h ht hi hx hh.1 hh.2.1 hh.2.2.2 (.inl ⟨hag,rfl⟩)
    ·rename_i hag
     split at hc
     ·rename_i y hy
      split at hc
      ·rename_i h1
       cases hc
       exact DI ho h ht hi hx hh.1 hh.2.1 hh.2.2.2 (.inr ⟨by simpa using hag,h1,hy⟩)
      ·cases hc
     ·cases hc
   ·cases hc
  ·rename_i i xs n e _ hi hx ht
   split at hc
   ·rename_i hh
    obtain⟨h1,h2,h3,h4,h5⟩:=hh;split at hc
    ·rename_i l hl
     cases hc
     exact CY ho h ht hi hx h1 h2 h3 h4 h5 hl hn
    split at hc
    ·rename_i l hl
     cases hc
     exact Eb ho h ht hi hx h1 h2 h3 h4 h5 hl hn
    ·cases hc
   ·cases hc
  ·cases hc
 case h_18 s x f ho=>
  unfold ul at hc;split at hc
  ·rename_i xs off t hx hf ht
   split at hc
   ·rename_i hh
    split at hc
    ·rename_i hag
     cases hc
     exact Fk ho h hf ht hx hh.2 (.inl ⟨hag,rfl⟩)
    ·rename_i hag
     split at hc
     ·rename_i y hy
      cases hc
      exact Fk ho h hf ht hx hh.2 (.inr ⟨by simpa using hag,hy⟩)
     ·cases hc
   ·cases hc
  ·cases hc
 case h_19 x ix ho=>
  unfold pF at hc;split at hc
  ·rename_i xs hx
   split at hc
   ·rename_i y hy
    cases hc
    exact HX ho h hx hy
   ·cases hc
  ·cases hc
 case h_20 t x y ho=>
  unfold mL at hc;split at hc
  ·rename_i ety row l c ht hx hy
   split at hc
   ·rename_i z hz
    split at hc
    ·rename_i r hr
     split at hc
     ·rename_i hh
      obtain⟨rfl,h1,h2⟩:=hh;cases hc
      exact Eo ho h (hm (by simp)) ht hz h1 h2 hr hx hy hn
     ·cases hc
    ·cases hc
   ·cases hc
  ·cases hc
 case h_21 b args tys ho=>
  unfold iw at hc;split at hc
  ·rename_i b n t hargs htys
   obtain⟨y,rfl,hy⟩:=p9 hargs;have htys:=uQ htys;subst htys;split at hc
   ·rename_i e ht
    cases hc
    exact HI ho h ht hy
   ·cases hc
  ·rename_i x t _ hargs htys
   obtain⟨y,rfl,hy⟩:=p9 hargs;have htys:=uQ htys;subst htys;split at hc
   ·rename_i e ty l ht hl
    cases hc
    rw[<-hy]at hl;exact LL ho h ht hl
   ·cases hc
  ·rename_i d x t t' hargs htys
   obtain⟨y,u,rfl,hy,hu⟩:=m8 hargs;have htys:=qg htys;subst htys;split at hc
   ·cases hc
   ·rename_i ety row ht
    split at hc
    ·rename_i ty m e row' l hx hb
     split at hc
     ·rename_i hh
      obtain⟨h1,rfl,rfl,h2,h3⟩:=hh;cases hc
      exact K9 ho h ht h3 hy hb (by rw[hu];exact hx) h1
     ·cases hc
    ·cases hc
  ·rename_i p q hargs
   obtain⟨y,u,rfl,hy,hu⟩:=m8 hargs;cases hc
   exact Cz (.inl ⟨rfl,rfl⟩) ho h hy hu
  ·rename_i p q hargs
   obtain⟨y,u,rfl,hy,hu⟩:=m8 hargs;cases hc
   exact Cz (.inr ⟨rfl,rfl⟩) ho h hy hu
  ·rename_i s x t t' hargs htys
   obtain⟨y,u,rfl,hy,hu⟩:=m8 hargs;have htys:=qg htys;subst htys;split at hc
   ·cases hc
   rename_i htt
   have htt:t=t':=by simpa using htt
   subst htt;split at hc
   ·cases hc
   rename_i ety row ht
   split at hc
   ·cases hc
   rename_i ty m hx
   split at hc
   ·rename_i hall
    split at hc
    ·rename_i _
     cases hc
     exact Cj ho h ht (hm (by simp)) (l:=.lnil) (by rw[hu];exact hx) hall hn (.inl ⟨hy,rfl,rfl⟩)
    ·rename_i d
     split at hc
     ·rename_i e row' l hb
      split at hc
      ·rename_i hh
       obtain⟨rfl,rfl,_⟩:=hh;cases hc
       exact Cj ho h ht (hm (by simp)) (by rw[hu];exact hx) hall hn (.inr ⟨d,hy,hb,rfl⟩)
      ·cases hc
     ·rename_i e row' l hb
      split at hc
      ·rename_i hh
       obtain⟨rfl,rfl,_⟩:=hh;cases hc
       exact Fp ho h ht (hm (by simp)) (by rw[hu];exact hx) hall hn hy hb
      ·cases hc
     ·cases hc
    ·cases hc
   ·cases hc
  ·rename_i d ty i t hargs htys
   obtain⟨y,rfl,hy⟩:=p9 hargs;have htys:=uQ htys;subst htys;split at hc
   ·rename_i ety row e row' l ht hb
    split at hc
    ·rename_i z hz
     split at hc
     ·rename_i r hr
      split at hc
      ·rename_i hh
       obtain⟨rfl,rfl,rfl,hw,hzl⟩:=hh;cases hc
       exact Kb ho h ht hy hb hz hw hzl hr
      ·cases hc
     ·cases hc
    ·cases hc
   ·cases hc
  ·cases hc
 case h_22 f args tys ho=>
  unfold lF at hc;split at hc
  ·split at hc
   ·split at hc
    ·split at hc
     ·split at hc<;>cases hc
     ·cases hc
    ·cases hc
   ·cases hc
  ·cases hc
  ·cases hc
 case h_23 f first captured ho=>cases hc;exact FP ho h
 case h_24 t ho=>
  unfold pK at hc;split at hc
  ·split at hc
   ·cases hc;exact Fm ho h (hm (by simp))
   ·cases hc
  ·cases hc;exact Ht ho h (hm (by simp))
 case h_25 t m k v ho=>exact Ct (.inl ho) h hc
 case h_26 t m k v ho=>exact Ct (.inr ho) h hc
 case h_27 t x ix ok ho=>exact H8 htr ho h hc
 case h_28 t x hi mx ho=>
  unfold n9 at hc;split at hc
  ·rename_i r ty e q m' ht hx hh hmx
   split at hc
   ·rename_i h1
    obtain⟨h1,rfl,h3⟩:=h1;cases hc
    exact C5 ho h ht hx h1 hh hmx h3 hn (hm (by simp))
   ·cases hc
  ·cases hc
 case h_29 t x ho=>
  unfold uK at hc;split at hc
  ·cases hc
  ·rename_i d hu hd
   cases hc
   exact Kh ho h hd (fun ms e=>hu ms e)
  ·cases hc
 case h_30 x ho=>
  unfold rj at hc;split at hc
  ·split at hc<;>cases hc
  ·cases hc
 case h_31 x u t ok ho=>exact JB ho h hc
 case h_32=>cases hc
theorem GJ{base b:Nat}{e:Nat}{t:Ty}{l:E}(h:SBden env κ F base w b (.row e t l)){F':Nat->Prop}(hF:∀k,F k->F' k)(hb:∀k,ai (κ b)=some k->F' k):Den F' w (κ b) (.sl t (den env l).l):=by
 obtain⟨us,hown,hpos,hrow⟩:=h;rcases hown.2 with⟨e1,e2⟩|⟨g,cap,cur,e1,e2,e3,e4,e5,e6,e7⟩
 ·rw[e1]
  have:(den env l).l=[]:=Nw e2
  rw[this];exact pR _
 ·rw[e1]at hown hb⊢
  refine Den.mk rfl e4 e5 hrow.1 (fun _=>⟨_,rfl,hb _ rfl,fun i r hr k x hx=>?_⟩)
  obtain⟨u,h1,h2⟩:=hrow.2 i r k x hr hx;exact⟨u,hown.cells (g:=g) rfl _ _ h1,Den.keep h2 (fun _ _=>rfl) hF⟩
def IsRow(y:SB)(t:Ty)(l:E):Prop:=∃e,y=.row e t l\/y=.qrow e t l
theorem IsRow.live{y:SB}{t:Ty}{l:E}(h:IsRow y t l):aF (some y)=true:=by
 obtain⟨e,rfl|rfl⟩:=h<;>rfl
theorem I6{base b:Nat}{y:SB}{t:Ty}{l:E}(hy:IsRow y t l)(h:SBden env κ F base w b y){F':Nat->Prop}(hF:∀k,F k->F' k)(hb:∀k,ai (κ b)=some k->F' k):Den F' w (κ b) (.sl t (den env l).l):=by
 obtain⟨e,rfl|rfl⟩:=hy
 ·exact GJ h hF hb
 ·obtain⟨us,hown,hpos,hrow⟩:=h
  rcases hown.2 with⟨e1,e2⟩|⟨g,o,cap,cur,fz,e1,e2,e3,hfz,e4,e5,e6,e7⟩
  ·rw[e1]
   have:(den env l).l=[]:=Nw e2
   rw[this];exact pR _
  ·rw[e1]at hb⊢
   refine Den.mk rfl e4 e5 hrow.1 (fun _=>⟨_,rfl,hb _ rfl,fun i r hr k x hx=>?_⟩)
   obtain⟨u,h1,h2⟩:=hrow.2 i r k x hr hx;refine⟨u,?_,Den.keep h2 (fun _ _=>rfl) hF⟩
   rw[du,cell_of_row w g _ cur e fz e3];rw[<-e7,Nq]at h1;split at h1
   ·rw[Nr]at h1;simpa using h1
   ·cases h1
theorem Gr(blk:Nat->Option SB)(bs:List Nat)(b:Nat):aL blk (bq blk bs) b=blk b\/∃y t l,blk b=some y/\IsRow y t l/\aL blk (bq blk bs) b=some (.ice 0 t l):=by
 have key:∀(fs:List (Nat×Option SB)) (f:Nat->Option SB),(∀x∈fs,∃y t l,blk x.1=some y/\IsRow y t l/\x.2=some (.ice 0 t l))->(∀b,f b=blk b\/∃y t l,blk b=some y/\IsRow y t l/\f b=some (.ice 0 t l)) →
   ∀b,aL f fs b=blk b\/∃y t l,blk b=some y/\IsRow y t l/\aL f fs b=some (.ice 0 t l):=by
  intro fs;induction fs with
  |nil=>intro f _ hf b;exact hf b
  | cons x fs ih=>
   intro f hx hf b;refine ih (upd f x.1 x.2) (fun y hy=>hx y (Nc _ hy)) (fun c=>?_) b
   by_cases e:c=x.1
   ·subst e
    obtain⟨y,t,l,h1,hy,h2⟩:=hx x (Na ..);exact .inr ⟨y,t,l,h1,hy,by rw[ak,h2]⟩
   ·rw[ah e];exact hf c
 refine key _ blk (fun x hx=>?_) (fun _=>.inl rfl) b
 obtain⟨c,hc,h1⟩:=List.mem_filterMap.1 hx;split at h1
 ·rename_i e t l hb
  cases h1
  exact⟨_,t,l,hb,⟨e,.inl rfl⟩,rfl⟩
 ·rename_i e t l hb
  cases h1
  exact⟨_,t,l,hb,⟨e,.inr rfl⟩,rfl⟩
 ·cases h1
theorem Rel.freeze(h:Rel w0 env κ F U tmp blk L a w)(bs:List Nat):∃F',Rel w0 env κ F' U tmp (aL blk (bq blk bs)) L a w/\Kept U blk κ F w (aL blk (bq blk bs)) κ F' w:=by
 obtain⟨blk',hb⟩:∃blk',blk'=aL blk (bq blk bs):=⟨_,rfl⟩
 have hi:∀b,blk' b=blk b\/∃y t l,blk b=some y/\IsRow y t l/\blk' b=some (.ice 0 t l):=fun b=>by rw[hb];exact Gr blk bs b
 rw[<-hb];have hlive:∀b,aF (blk' b)=true->blk' b=blk b:=fun b hl=>by
  rcases hi b with h1|⟨y,t,l,_,_,h1⟩
  ·exact h1
  ·rw[h1]at hl;cases hl
 have hF:∀k,F k->(F k\/∃b y t l,blk b=some y/\IsRow y t l/\blk' b=some (.ice 0 t l)/\ai (κ b)=some k):=fun k hk=>.inl hk
 refine⟨fun k=>F k\/∃b y t l,blk b=some y/\IsRow y t l/\blk' b=some (.ice 0 t l)/\ai (κ b)=some k,?_,⟨fun _ _=>rfl,hF,fun k hk=>?_,Nf _,fun _ _ _=>rfl,fun b k h1 h2=>.inr ⟨b,by rw[<-hlive b h1];exact h1,h2⟩,.of fun _ _=>.inr rfl⟩⟩
 ·refine h.world (fun _ h=>h) (fun _ _=>rfl) hF (fun _ _=>rfl) (fun b x hx=>?_) (fun b c k h1 h2=>?_) (fun b k h1 h2=>?_) (fun k hk=>?_) h.below
  ·rcases hi b with h1|⟨y,t,l,h1,hy,h2⟩
   ·rw[h1]at hx;exact .inl ⟨hx,fun _ _ _=>rfl⟩
   ·rw[h2]at hx;cases hx
    exact .inr ⟨⟨I6 hy (h.blks b _ h1) hF (fun k hk=>.inr ⟨b,y,t,l,h1,hy,h2,hk⟩),fun hh=>by cases hh⟩,(h.bnames b _ h1).1,fun c hc=>by cases hc⟩
  ·exact h.inj b c k (by rw[<-hlive b h1];exact h1) (by rw[<-hlive c h2];exact h2)
  ·have h3:aF (blk b)=true:=by rw[<-hlive b h1];exact h1
   rintro (hk|⟨c,y,t,l,h4,hy,h5,h6⟩)
   ·exact h.nF b k h3 h2 hk
   ·have:=h.inj b c k h3 (by rw[h4];exact hy.live) h2 h6
    subst this;rw[h5]at h1;cases h1
  ·rcases hk with hk|⟨c,y,t,l,h4,hy,h5,h6⟩
   ·exact h.F k hk
   ·exact((h.blks c _ h4).lt hy.live h6).2
 ·rcases hk with hk|⟨c,y,t,l,h4,hy,h5,h6⟩
  ·exact .inl hk
  ·exact .inr (.inr ⟨c,by rw[h4];exact hy.live,h6⟩)
theorem CH(bk:Nat->Option SB)(x:SV):(nz bk x).proper=x.proper:=by
 induction x with
 |cons x y _ ih=>exact ih
 |row b=>simp only[nz];split<;>rfl
 |_=>rfl
theorem uZ(bk:Nat->Option SB)(x:SV):∀b∈(nz bk x).names,b∈x.names:=by
 induction x with
 |cons x y ih1 ih2=>
  intro b hb;simp only[nz,SV.names,Np]at hb⊢;rcases hb with hb|hb
  ·exact .inl (ih1 b hb)
  ·exact .inr (ih2 b hb)
 |agg x ih=>exact ih
 |tup x ih=>exact ih
 |row c=>intro b hb;simp only[nz]at hb;split at hb;cases hb;exact hb
 |_=>exact fun b hb=>hb
theorem tE{b0:Nat}(hbl:∀b e t l,blk b=some (.ice e t l)->SBden env κ F b0 w b (.ice e t l)){x:SV}{u:Value}(h:SVden env κ F w x u):SVden env κ F w (nz blk x) u:=by
 induction x generalizing u with
 | row b=>
  simp only[nz];split
  ·rename_i e t l hb
   have:=hbl b e t l hb
   rw[show u=κ b from h.1]
   exact this.1
  ·exact h
 |agg xs ih=>obtain⟨cs,h1,hp,h2⟩:=h;exact⟨cs,h1,by rw[CH];exact hp,ih h2⟩
 |tup xs ih=>obtain⟨cs,h1,hp,h2⟩:=h;exact⟨cs,h1,by rw[CH];exact hp,ih h2⟩
 |cons x xs ih1 ih2=>obtain⟨p,q,h1,h2,h3⟩:=h;exact⟨p,q,h1,ih1 h2,ih2 h3⟩
 |_=>exact h
theorem CL(bk:Nat->Option SB)(v:Value):nz bk (eJ v)=eJ v:=by unfold eJ;split<;>rfl
theorem Kf(bk:Nat->Option SB)(v:Value):nz bk (bX v)=bX v:=by
 unfold bX;split
 ·rename_i cs
  have:∀l:List Value,nz bk (.of (l.map eJ))=.of (l.map eJ):=by
   intro l;induction l with
   |nil=>rfl
   |cons x l ih=>simp only[Ny,SV.of,nz,CL,ih]
  simp only[nz,this]
 ·exact CL bk v
theorem Dn(bk:Nat->Option SB)(tmp:Nat->SV)(x:Operand):nz bk (ag tmp x)=ag (fun t=>nz bk (tmp t)) x:=by
 cases x with
 |tmp t=>rfl
 |const v=>exact Kf bk v
 |global g=>show nz bk (mA g)=mA g;unfold mA;split<;>rfl
 |func f=>rfl
theorem sP(f:Nat->Option SB)(l m:List (Nat×Option SB)):aL f (l++m)=aL (aL f l) m:=by simp[aL,List.foldl_append]
theorem Rel.nz(h:Rel w0 env κ F U tmp blk L a w):Rel w0 env κ F U (fun t=>nz blk (tmp t)) blk L a w:=
 { h with tmps:=fun t=>tE (fun b e t l hb=>h.blks b _ hb) (h.tmps t),tnames:=fun t b hb=>h.tnames t b (uZ blk _ b hb) }
theorem Ep{own:Bool}{nm:Nat}{ev:Operand->SV}{o:Oper}{needs:List E}{v:SV}{wr:List (Nat×Option SB)}(h:fR P own nm ev blk o=some (.ok needs v wr)):
  ∃s x t ety row ty l lx d,o.op=.call { callee:=.builtin .append,args:=#[s,x],argTypes:=#[t,t] }/\ev s=.row d/\blk d=some (.ice 1 row l)/\aZ P t=some (ety,row)/\ck blk (ev x)=some (ty,lx) ∧
   ty.all (·=row)=true/\((needs=cZ (bR l lx) (P.bytesOf ety)/\v=.vs row (bR l lx)/\wr=[])\/(needs=aG (.cmp' .lt (.int 0) lx.len')++cZ (bR l lx) (P.bytesOf ety)/\v=.row nm/\wr=[(nm,some (.row ety row (bR l lx)))])):=by
 unfold fR at h;repeat' split at h
 all_goals (try (cases h;done))
 all_goals
  rename_i args tys ho _ _ s x t t' ha htys _ d hs _ ty l hd _ _ ety row u m ht hx hc _
  obtain⟨rfl,rfl,h3⟩:=hc;cases h
  have e1:args=#[s,x]:=by rw[<-Nv (xs:=args),ha]
  have e2:tys=#[t,t]:=by rw[<-Nv (xs:=tys),htys]
  subst e1 e2;refine⟨s,x,t,ety,ty,u,l,m,d,ho,hs,hd,ht,hx,h3,?_⟩
  first|exact .inl ⟨rfl,rfl,rfl⟩|exact .inr ⟨rfl,rfl,rfl⟩
theorem pB{own:Bool}{nm:Nat}{ev:Operand->SV}{bk:Nat->Option SB}{o:Oper}{x:Out}(h:fR P own nm ev bk o=some x):∃needs v wr,x=.ok needs v wr:=by
 unfold fR at h;repeat' split at h
 all_goals (try (cases h;done))
 all_goals (cases h;exact⟨_,_,_,rfl⟩)
theorem jl{α:Type}{b:Bool}{x:Option α}{y:α}(h:(bif b then x else none)=some y):x=some y:=by
 cases b with
 |true=>exact h
 |false=>cases h
theorem Jp{con:Nat->Bool}{nm:Nat}{o:Oper}(hfit:PFit P)(h:Rel w0 env κ F U tmp blk L a w){needs:List E}{v:SV}{wr:List (Nat×Option SB)}(hm:wr≠[]->¬U nm)(hc:oF P con nm (ag tmp) blk o=some (.ok needs v wr))(hn:∀e∈needs,(den env e).b=true):aB P w0 env κ F U tmp blk L a w o v wr:=by
 unfold oF at hc;split at hc
 case h_1 op t x y ty ho=>exact KR ho h hc hn
 case h_2 t x ix ho=>
  split at hc
  ·rename_i r hr
   cases hc
   exact It ho h hr hn
  ·exact Kd ho h hc hn
 case h_3 t x ix ho=>exact IY ho h hc hn
 case h_4 t ho=>exact Ip ho h hm (jl hc)
 case h_5 t x ho=>exact J2 ho h (jl hc) hn
 case h_6 t x y ho=>exact H9 ho h (jl hc) hn
 case h_7 t x lo hi ho=>exact J3 ho h hc
 case h_8 t x lo hi mx ho=>exact J6 ho h hc hn
 case h_9 s d x ho=>
  split at hc
  ·rename_i r hr
   cases hc
   exact J4 ho h hm hr hn
  ·split at hc
   ·rename_i r hr
    cases hc
    exact Hj ho h hr
   ·exact Io ho h hc
 case h_10 f args tys ho=>
  split at hc
  ·rename_i x h1
   obtain⟨y,rfl,hy⟩:=p9 h1;split at hc
   ·rename_i hs
    cases hc
    rw[<-hy];exact JF hfit ho hs h
   ·cases hc
  ·cases hc
 case h_11 args tys ho=>
  split at hc
  ·rename_i s x t t' h1 h2
   obtain⟨y,z,rfl,hy,hz⟩:=m8 h1;rw[qg h2]at ho;rw[<-hy,<-hz]at hc;exact H3 ho h hm hc hn
  ·cases hc
 case h_12 args tys ho=>
  split at hc
  ·rename_i x h1
   obtain⟨y,rfl,hy⟩:=p9 h1;rw[<-hy]at hc;exact Ko ho h hc hn
  ·cases hc
 case h_13 args tys ho=>
  split at hc
  ·rename_i x n pt it h1 h2
   obtain⟨y,z,rfl,hy,hz⟩:=m8 h1;rw[qg h2]at ho;rw[<-hy,<-hz]at hc;exact Hv ho h hc hn
  ·cases hc
 case h_14 args tys ho=>
  split at hc
  ·rename_i x y t t' h1 h2
   obtain⟨p,q,rfl,hp,hq⟩:=m8 h1;rw[qg h2]at ho;rw[<-hp,<-hq]at hc;exact JH ho h hc
  ·cases hc
 case h_15 args tys ho=>
  split at hc
  ·rename_i x t h1 h2
   obtain⟨y,rfl,hy⟩:=p9 h1;rw[uQ h2]at ho;rw[<-hy]at hc;exact Le ho h (jl hc)
  ·cases hc
 case h_16 t x y z ho=>exact Au (.inl ho) h hc
 case h_17 t x y z ho=>exact Au (.inr ho) h hc
 case h_18 t x y ok ho=>exact GV ho h hc
 ·cases hc
theorem G0{con:Nat->Bool}{tr:E->Option Bool}{nm:Nat}{o:Oper}(hfit:PFit P)(h:Rel w0 env κ F U tmp blk L a w)(htr:∀e b,tr e=some b->(den env e).b=b){needs:List E}{v:SV}{wr:List (Nat×Option SB)}
  (hm:wr≠[]->¬U nm) (hc:jS P con tr nm (ag tmp) blk o=.ok needs v wr) (hn:∀e∈needs,(den env e).b=true):aB P w0 env κ F U tmp blk L a w o v wr:=by
 unfold jS at hc;split at hc
 ·rename_i x hx
  subst hc;exact Jp hfit h hm hx hn
 ·exact HS h htr hm hc hn
theorem Lk{con:Nat->Bool}{nm:Nat}{ev:Operand->SV}{bk:Nat->Option SB}{o:Oper}{x:Out}(h:oF P con nm ev bk o=some x):∃needs v wr,x=.ok needs v wr:=by
 have a1:∀ {op a b},vN op a b=some x->∃needs v wr,x=.ok needs v wr:=fun{op a b} h=>by
  unfold vN DP dH at h;repeat' split at h
  all_goals first|(cases h;done)|(cases h;exact⟨_,_,_,rfl⟩)
 have a2:∀ {op t a b},wF P op t a b=some x->∃needs v wr,x=.ok needs v wr:=fun{op t a b} h=>by
  unfold wF at h;repeat' split at h
  all_goals first|(cases h;done)|(cases h;exact⟨_,_,_,rfl⟩)
 have a3:∀ {op t a b},ES P op t a b=some x->∃needs v wr,x=.ok needs v wr:=fun{op t a b} h=>by
  unfold ES at h;split at h
  ·exact a1 h
  ·unfold Dp at h;repeat' split at h
   all_goals first|(cases h;done)|(cases h;exact⟨_,_,_,rfl⟩)
  ·exact a2 h
 have a19:∀ {t a b c},lR P bk t a b c=some x->∃needs v wr,x=.ok needs v wr:=fun{t a b c} h=>by
  unfold lR zo at h;repeat' split at h
  all_goals first|(cases h;done)|(cases h;exact⟨_,_,_,rfl⟩)
 have a20:∀ {t a b c},pQ P bk t a b c=some x->∃needs v wr,x=.ok needs v wr:=fun{t a b c} h=>by
  unfold pQ E7 at h;repeat' split at h
  all_goals first|(cases h;done)|(cases h;exact⟨_,_,_,rfl⟩)
 have a4:∀ {t a b},vJ P t a b=some x->∃needs v wr,x=.ok needs v wr:=fun{t a b} h=>by
  unfold vJ at h;repeat' split at h
  all_goals first|(cases h;done)|(cases h;exact⟨_,_,_,rfl⟩)
 have a5:∀ {t a b},Bq P t a b=some x->∃needs v wr,x=.ok needs v wr:=fun{t a b} h=>by
  unfold Bq at h;repeat' split at h
  all_goals first|(cases h;done)|(cases h;exact⟨_,_,_,rfl⟩)
 have a6:∀ {t a b},wC P t a b=some x->∃needs v wr,x=.ok needs v wr:=fun{t a b} h=>by
  unfold wC at h;repeat' split at h
  all_goals first|(cases h;done)|(cases h;exact⟨_,_,_,rfl⟩)
 have a7:∀ {t},wa P con nm t=some x->∃needs v wr,x=.ok needs v wr:=fun{t} h=>by
  unfold wa at h;repeat' split at h
  all_goals first|(cases h;done)|(cases h;exact⟨_,_,_,rfl⟩)
 have a8:∀ {t a},xk P con bk t a=some x->∃needs v wr,x=.ok needs v wr:=fun{t a} h=>by
  unfold xk Em Dz at h;simp only at h;repeat' split at h
  all_goals first|(cases h;done)|(cases h;exact⟨_,_,_,rfl⟩)
 have a80:∀ {t a b},tv P con bk t a b=some x->∃needs v wr,x=.ok needs v wr:=fun{t a b} h=>by
  unfold tv BF at h;repeat' split at h
  all_goals first|(cases h;done)|(cases h;exact⟨_,_,_,rfl⟩)
 have a9:∀ {t a lo hi},xC P ev bk t a lo hi=some x->∃needs v wr,x=.ok needs v wr:=fun{t a lo hi} h=>by
  unfold xC Fi at h;repeat' split at h
  all_goals first|(cases h;done)|(cases h;exact⟨_,_,_,rfl⟩)
 have a10:∀ {t a lo hi mx},xj P ev t a lo hi mx=some x->∃needs v wr,x=.ok needs v wr:=fun{t a lo hi mx} h=>by
  unfold xj at h;repeat' split at h
  all_goals first|(cases h;done)|(cases h;exact⟨_,_,_,rfl⟩)
 have a11:∀ {s d a},rI P nm bk s d a=some x->∃needs v wr,x=.ok needs v wr:=fun{s d a} h=>by
  unfold rI at h;repeat' split at h
  all_goals first|(cases h;done)|(cases h;exact⟨_,_,_,rfl⟩)
 have a12:∀ {s d a},lu P bk s d a=some x->∃needs v wr,x=.ok needs v wr:=fun{s d a} h=>by
  unfold lu zB at h;repeat' split at h
  all_goals first|(cases h;done)|(cases h;exact⟨_,_,_,rfl⟩)
 have a13:∀ {s d a},ow P bk s d a=some x->∃needs v wr,x=.ok needs v wr:=fun{s d a} h=>by
  unfold ow at h;repeat' split at h
  all_goals first|(cases h;done)|(cases h;exact⟨_,_,_,rfl⟩)
 have a14:∀ {t t' a b},qb P nm bk o t t' a b=some x->∃needs v wr,x=.ok needs v wr:=fun{t t' a b} h=>by
  unfold qb rG at h;repeat' split at h
  all_goals (try (simp only[uD]at h;repeat' split at h))
  all_goals first|(cases h;done)|(cases h;exact⟨_,_,_,rfl⟩)
 have a15:∀ {a},xB bk a=some x->∃needs v wr,x=.ok needs v wr:=fun{a} h=>by
  unfold xB at h;repeat' split at h
  all_goals first|(cases h;done)|(cases h;exact⟨_,_,_,rfl⟩)
 have a16:∀ {pt a n},qc P bk pt a n=some x->∃needs v wr,x=.ok needs v wr:=fun{pt a n} h=>by
  unfold qc zE at h;repeat' split at h
  all_goals first|(cases h;done)|(cases h;exact⟨_,_,_,rfl⟩)
 have a17:∀ {t a b},xn P bk t a b=some x->∃needs v wr,x=.ok needs v wr:=fun{t a b} h=>by
  unfold xn Er at h;simp only at h;repeat' split at h
  all_goals first|(cases h;done)|(cases h;exact⟨_,_,_,rfl⟩)
 have a18:∀ {t a},D6 P t a=some x->∃needs v wr,x=.ok needs v wr:=fun{t a} h=>by
  unfold D6 at h;repeat' split at h
  all_goals first|(cases h;done)|(cases h;exact⟨_,_,_,rfl⟩)
 unfold oF at h;repeat' split at h
 all_goals first|(cases h;done)|exact a3 h|exact a5 h|exact a6 h|exact a7 (jl h)|exact a8 (jl h)|exact a80 (jl h)|exact a9 h|exact a10 h|exact a13 h|exact a14 h|exact a15 h|exact a16 h|exact a17 h|exact a18 (jl h)|exact a19 h|exact a20 h|(cases h;first|exact⟨_,_,_,rfl⟩|(rename_i r;first|exact a4 r|exact a11 r|exact a12 r))
theorem uU{con:Nat->Bool}{tr:E->Option Bool}{nm:Nat}{ev:Operand->SV}{bk:Nat->Option SB}{o:Oper}{x:Out}(h:jS P con tr nm ev bk o=x)(hx:∀n v w,x≠.ok n v w):ij P con tr nm ev bk o=x:=by
 unfold jS at h;split at h
 ·rename_i y hy
  obtain⟨n,v,w,e⟩:=Lk hy;exact absurd (h.symm.trans e) (hx n v w)
 ·exact h
theorem IR{con:Nat->Bool}{own:Bool}{tr:E->Option Bool}{nm:Nat}{o:Oper}(hfit:PFit P)(h:Rel w0 env κ F U tmp blk L a w)(htr:∀e b,tr e=some b->(den env e).b=b){needs:List E}{v:SV}{wr:List (Nat×Option SB)}
  (hm:wr≠[]->¬U nm) (hc:cr P con own tr nm (ag tmp) blk o=.ok needs v wr) (hn:∀e∈needs,(den env e).b=true):aB P w0 env κ F U tmp blk L a w o v wr:=by
 unfold cr at hc;split at hc
 ·rename_i x hx
  subst hc;obtain⟨s,x,t,ety,row,ty,l,lx,d,ho,hs,hd,ht,hlx,hty,⟨hneeds,rfl,rfl⟩|⟨hneeds,rfl,rfl⟩⟩:=Ep hx
  ·exact BG ho h ht hlx hty (by rw[<-hneeds];exact hn) hs hd
  ·exact Dj ho h ht hlx hty (by rw[<-hneeds];exact hn) hs hd (hm (by simp))
 simp only[Dn]at hc;obtain⟨fs,hfs⟩:∃fs,fs=bq blk (frz P con own (ag tmp) blk o):=⟨_,rfl⟩
 rw[<-hfs]at hc;split at hc
 ·rename_i needs' v' wr' hc'
  cases hc
  obtain⟨F1,h1,k1⟩:=h.freeze (frz P con own (ag tmp) blk o);rw[<-hfs]at h1 k1;obtain⟨u,w',κ',F',hr,h2,h3,k2⟩:=G0 hfit h1.nz htr (fun hne=>hm (by simp[hne])) hc' hn
  have k:=k1.trans k2 (fun _ h=>h)
  refine⟨u,w',κ',F',hr,?_,h3,by rw[sP];exact k⟩
  rw[sP];refine{ h2 with tmps:=fun t=>k.sv h (h.tmps t) (h.tnames t),size:=h.size,tnames:=fun t b hb=>.inl (h.tnames t b hb),bnames:=fun b x hx=>?_ }
  have hu:∀b,(U b\/∃x∈wr',x.1=b)->(U b\/∃x∈fs++wr',x.1=b):=fun b hb=>by
   rcases hb with hb|⟨x,hx,hb⟩
   ·exact .inl hb
   ·exact .inr ⟨x,Nb _ hx,hb⟩
  obtain⟨h4,h5⟩:=h2.bnames b x hx;exact⟨hu b h4,fun c hc=>hu c (h5 c hc)⟩
 ·cases hc
 ·rename_i x hx _
  exact absurd hc (hx _ _ _)
variable {P:Program} {bk bk':Nat->Option SB}
theorem mH{x:SV}(h:∀b∈x.names,bk' b=bk b):ck bk' x=ck bk x:=by
 cases x<;>simp only[ck]
 rename_i b
 rw[h b (by simp[SV.names])]
theorem FM{x:SV}(h:∀b∈x.names,bk' b=bk b):lenOf bk' x=lenOf bk x:=by
 cases x<;>simp only[lenOf,ck]
 rename_i b
 rw[h b (by simp[SV.names])]
theorem nw:∀(l:List SV) (ts:List Ty),(∀x∈l,∀b∈x.names,bk' b=bk b)->fD bk' l ts=fD bk l ts
 |[],[],_=>rfl
 |[],_::_,_=>rfl
 |_::_,[],_=>rfl
 |x::l,t::ts,h=>by
  simp only[fD];rw[nw l ts (fun y hy=>h y (Nc _ hy))]
  have hx:=h x (Na ..);cases x<;>cases t<;>try rfl
  rename_i b t
  simp only[ck,hx b (by simp[SV.names])]
theorem FX{x:SV}{t:Nat}(h:∀b∈x.names,bk' b=bk b):xr P bk' x t=xr P bk x t:=by
 unfold xr;split
 ·rfl
 ·split
  ·split
   ·rename_i xs
    exact nw _ _ (fun y hy b hb=>h b (bW xs y hy b hb))
   ·rfl
  ·rw[nw [x] _ (fun y hy b hb=>by simp at hy;subst hy;exact h b hb)]
theorem vP:∀(l:List SV) (ts:List Nat),(∀x∈l,∀b∈x.names,bk' b=bk b)->iD P bk' l ts=iD P bk l ts
 |[],[],_=>rfl
 |[],_::_,_=>rfl
 |_::_,[],_=>rfl
 |x::l,t::ts,h=>by
  simp only[iD];rw[vP l ts (fun y hy=>h y (Nc _ hy)),FX (h x (Na ..))]
theorem Ik{b k:Nat}{t:Ty}{i:E}:b∈(SV.rptr b t i k).names:=by simp[SV.names]
theorem Dk{con:Nat->Bool}{t:Nat}{x:SV}(h:∀b∈x.names,bk' b=bk b):loadOut P con bk' t x=loadOut P con bk t x:=by
 unfold loadOut;cases x<;>simp only
 ·rename_i b off;rw[h b (by simp[SV.names])]
 ·rename_i b ty i k;rw[h b (by simp[SV.names])]
theorem Cc{t:Nat}{x y:SV}(h:∀b∈x.names,bk' b=bk b):kY P bk' t x y=kY P bk t x y:=by
 unfold kY;cases x<;>simp only
 ·rename_i b off;rw[h b (by simp[SV.names])]
 ·rename_i b ty i k;rw[h b (by simp[SV.names])]
theorem zQ{nm:Nat}{o:Oper}{b:Builtin}{l:List SV}{ts:List Nat}(h:∀x∈l,∀c∈x.names,bk' c=bk c):iw P nm bk' o b l ts=iw P nm bk o b l ts:=by
 unfold iw;split
 ·rfl
 ·rename_i x t _
  rw[FM (h x (by simp))]
 ·rename_i d x t t'
  rw[mH (h x (by simp)),h (.row d) (by simp) d (by simp[SV.names])]
 ·rfl
 ·rfl
 ·rename_i s x t t'
  rw[mH (h x (by simp))]
  split
  ·rfl
  ·split
   ·rfl
   ·split
    ·rfl
    ·split
     ·split
      ·rfl
      ·rename_i d
       rw[h (.row d) (by simp) d (by simp[SV.names])]
      ·rfl
     ·rfl
 ·rename_i d ty i t
  rw[h (.rtail d ty i) (by simp) d (by simp[SV.names])]
 ·rfl
theorem FT{con:Nat->Bool}{tr:E->Option Bool}{nm:Nat}{ev ev':Operand->SV}{o:Oper}(h:∀x∈o.op.operands,ev' x=ev x)(hb:∀x∈o.op.operands,∀b∈(ev x).names,bk' b=bk b):ij P con tr nm ev' bk' o=ij P con tr nm ev bk o:=by
 have hopt:∀(x:Option Operand) d,(∀y,x=some y->y∈o.op.operands)->cV ev' x d=cV ev x d:=fun x d hx=>by
  cases x with
  |none=>rfl
  |some y=>simp only[cV];rw[h y (hx y rfl)]
 unfold ij;split
 case h_1 x ho=>rw[h x (by simp[ho,Op.operands])]
 case h_2 x ho=>rw[h x (by simp[ho,Op.operands])]
 case h_3 c x y ho=>rw[h c (by simp[ho,Op.operands]),h x (by simp[ho,Op.operands]),h y (by simp[ho,Op.operands])]
 case h_4=>rfl
 case h_5 t x ho=>rw[h x (by simp[ho,Op.operands])]
 case h_6 t parts ho=>
  have e:parts.toList.map (fun x=>(x.1,ev' x.2))=parts.toList.map (fun x=>(x.1,ev x.2)):=No fun x hx=>by
   rw[h x.2 (by simp only[ho,Op.operands,NG,N6];exact⟨x,hx,rfl⟩)]
  rw[e]
 case h_7 t len parts ho=>
  have e:parts.toList.map (fun x=>(x.1,ev' x.2))=parts.toList.map (fun x=>(x.1,ev x.2)):=No fun x hx=>by
   rw[h x.2 (by simp only[ho,Op.operands,NG,N6];exact⟨x,hx,rfl⟩)]
  rw[e]
 case h_8 t x ho=>
  have hx:x∈o.op.operands:=by simp[ho,Op.operands]
  rw[h x hx];exact Dk (hb x hx)
 case h_9 t x y ho=>
  have hx:x∈o.op.operands:=by simp[ho,Op.operands]
  rw[h x hx,h y (by simp[ho,Op.operands])];exact Cc (hb x hx)
 case h_10 x ho=>rw[h x (by simp[ho,Op.operands])]
 case h_11 op t x y ty ho=>rw[h x (by simp[ho,Op.operands]),h y (by simp[ho,Op.operands])]
 case h_12 op t x ho=>rw[h x (by simp[ho,Op.operands])]
 case h_13 s d x ho=>rw[h x (by simp[ho,Op.operands])]
 case h_14 t x lo hi ho=>
  have hx:x∈o.op.operands:=by simp[ho,Op.operands]
  have e1:∀d,cV ev' lo d=cV ev lo d:=fun d=>hopt lo d (fun y hy=>by subst hy;simp[ho,Op.operands])
  have e2:∀d,cV ev' hi d=cV ev hi d:=fun d=>hopt hi d (fun y hy=>by subst hy;simp[ho,Op.operands])
  rw[h x hx];have hbx:=hb x hx;have e3:∀i,lo=some i->ev' i=ev i:=fun i hi'=>by subst hi';exact h i (by simp[ho,Op.operands])
  generalize ev x=v at hbx
  have hq:∀d i,v=.row d->lo=some i->jC P nm ev' bk' t (.row d) i=jC P nm ev bk t (.row d) i:=fun d i hv hi'=>by
   unfold jC;have hb:=hbx d (by rw[hv];simp[SV.names])
   rw[e3 i hi'];generalize aZ P t=q
   generalize ev i=u
   rcases q with _|⟨q1,q2⟩<;>cases u<;>first|rfl|simp only[hb]
  have hs:jx P nm ev' bk' t v lo hi=jx P nm ev bk t v lo hi:=?_
  ·unfold og
   split
   ·rename_i d i _
    exact hq d i rfl rfl
   ·exact hs
  unfold jx;simp only[e1,e2];generalize aZ P t=q
  rcases q with _|⟨q1,q2⟩<;>cases v<;>first|rfl|(rename_i d;have:=hbx d (by simp[SV.names]);simp only[this])
 case h_15 s x f ho=>rw[h x (by simp[ho,Op.operands])]
 case h_16 t x ix ho=>
  have hx:x∈o.op.operands:=by simp[ho,Op.operands]
  rw[h x hx,h ix (by simp[ho,Op.operands])]
  have hbx:=hb x hx;generalize ev x=v at hbx
  unfold gD;generalize ev ix=j
  generalize P.underlying t=ud
  cases j<;>try rfl
  by_cases hr:∃b ty j k,v=.rptr b ty j k
  ·obtain⟨b,ty,j,k,rfl⟩:=hr
   have hbk:=hbx b Ik;cases ud<;>try rfl
   rename_i d
   cases d<;>try rfl
   simp only[hbk]
  cases v<;>(try exact absurd ⟨_,_,_,_,rfl⟩ hr)<;>cases ud<;>first|rfl|(rename_i y;cases y<;>rfl)|(rename_i d y;cases y<;>first|rfl|(have:=hbx d (by simp[SV.names]);simp only[this]))
 case h_17 t x ix ho=>rw[h x (by simp[ho,Op.operands]),h ix (by simp[ho,Op.operands])]
 case h_18 s x f ho=>rw[h x (by simp[ho,Op.operands])]
 case h_19 x ix ho=>rw[h x (by simp[ho,Op.operands])]
 case h_20 t x y ho=>rw[h x (by simp[ho,Op.operands]),h y (by simp[ho,Op.operands])]
 case h_21 b args tys ho=>
  have e:args.toList.map ev'=args.toList.map ev:=No fun x hx=>h x (by simp[ho,Op.operands,Call.operands];simpa using hx)
  rw[e];refine zQ (fun x hx=>?_)
  obtain⟨y,hy,rfl⟩:=List.mem_map.1 hx;exact hb y (by simp[ho,Op.operands,Call.operands];simpa using hy)
 case h_22 f args tys ho=>
  have e:args.toList.map ev'=args.toList.map ev:=No fun x hx=>h x (by simp[ho,Op.operands,Call.operands];right;simpa using hx)
  rw[e,h f (by simp[ho,Op.operands,Call.operands])]
  have e2:∀ts,iD P bk' (args.toList.map ev) ts=iD P bk (args.toList.map ev) ts:=fun ts=>vP _ _ (fun x hx=>by
   obtain⟨y,hy,rfl⟩:=List.mem_map.1 hx;exact hb y (by simp[ho,Op.operands,Call.operands];right;simpa using hy))
  unfold lF;simp only[e2]
 case h_23 f first captured ho=>
  have e1:first.toList.map ev'=first.toList.map ev:=No fun x hx=>h x (by simp[ho,Op.operands];left;simpa using hx)
  have e2:captured.toList.map ev'=captured.toList.map ev:=No fun x hx=>h x (by simp[ho,Op.operands];right;simpa using hx)
  rw[e1,e2]
 case h_24=>rfl
 case h_25 t m k v ho=>
  have hm:m∈o.op.operands:=by simp[ho,Op.operands]
  rw[h m hm,h k (by simp[ho,Op.operands]),h v (by simp[ho,Op.operands])]
  have hbx:=hb m hm;generalize ev m=x at hbx
  unfold jp;generalize P.underlying t=ud
  cases x<;>cases ud<;>first|rfl|(rename_i y;cases y<;>rfl)|(rename_i d y;cases y<;>first|rfl|(have:=hbx d (by simp[SV.names]);simp only[this]))
 case h_26 t m k v ho=>
  have hm:m∈o.op.operands:=by simp[ho,Op.operands]
  rw[h m hm,h k (by simp[ho,Op.operands]),h v (by simp[ho,Op.operands])]
  have hbx:=hb m hm;generalize ev m=x at hbx
  unfold jp;generalize P.underlying t=ud
  cases x<;>cases ud<;>first|rfl|(rename_i y;cases y<;>rfl)|(rename_i d y;cases y<;>first|rfl|(have:=hbx d (by simp[SV.names]);simp only[this]))
 case h_27 t x ix ok ho=>
  have hm:x∈o.op.operands:=by simp[ho,Op.operands]
  rw[h x hm,h ix (by simp[ho,Op.operands])]
  have hbx:=hb x hm;generalize ev x=y at hbx
  unfold lH;generalize P.underlying t=ud
  cases y<;>cases ud<;>first|rfl|(rename_i y;cases y<;>rfl)|(rename_i d y;cases y<;>first|rfl|(have:=hbx d (by simp[SV.names]);simp only[this]))
 case h_28 t x hi mx ho=>
  have hx:x∈o.op.operands:=by simp[ho,Op.operands]
  have e2:∀d,cV ev' hi d=cV ev hi d:=fun d=>hopt hi d (fun y hy=>by subst hy;simp[ho,Op.operands])
  have e3:∀d,cV ev' (some mx) d=cV ev (some mx) d:=fun d=>hopt (some mx) d (fun y hy=>by cases hy;simp[ho,Op.operands])
  rw[h x hx];unfold n9;simp only[e2,e3]
 case h_29 t x ho=>rw[h x (by simp[ho,Op.operands])]
 case h_30 x ho=>rw[h x (by simp[ho,Op.operands])]
 case h_31 x u t ok ho=>rw[h x (by simp[ho,Op.operands])]
 case h_32=>rfl
theorem JZ{x:SV}(h:∀b∈x.names,bk' b=bk b):nz bk' x=nz bk x:=by
 induction x with
 |row b=>simp only[nz];rw[h b (by simp[SV.names])]
 |agg x ih=>simp only[nz];rw[ih h]
 |tup x ih=>simp only[nz];rw[ih h]
 |cons x y ih1 ih2=>simp only[nz];rw[ih1 (fun b hb=>h b (Ng _ hb)),ih2 (fun b hb=>h b (Nb _ hb))]
 |_=>rfl
theorem DV{x:SV}(h:∀b∈x.names,bk' b=bk b):aW bk' x=aW bk x:=by
 induction x with
 |row b=>simp only[aW];rw[h b (by simp[SV.names])]
 |agg x ih=>simp only[aW];rw[ih h]
 |cons x y ih1 ih2=>simp only[aW];rw[ih1 (fun b hb=>h b (Ng _ hb)),ih2 (fun b hb=>h b (Nb _ hb))]
 |_=>rfl
theorem Jj{x:SV}(h:∀b∈x.names,bk' b=bk b):qIn bk' x=qIn bk x:=by
 cases x<;>try rfl
 rename_i b
 simp only[qIn,h b (by simp[SV.names])]
theorem Il(bk:Nat->Option SB)(x:SV):∀b∈qIn bk x,b∈x.names:=by
 cases x<;>try (intro b hb;cases hb;done)
 rename_i c
 intro b hb;simp only[qIn]at hb;split at hb
 ·exact hb
 ·cases hb
theorem jk(bk:Nat->Option SB)(x:SV):∀b∈aW bk x,b∈x.names:=by
 induction x with
 |row c=>
  intro b hb;simp only[aW]at hb;split at hb
  ·exact hb
  ·cases hb
 |agg x ih=>exact ih
 |cons x y ih1 ih2=>
  intro b hb;simp only[aW,Np]at hb;rcases hb with hb|hb
  ·exact Ng _ (ih1 b hb)
  ·exact Nb _ (ih2 b hb)
 |_=>intro b hb;cases hb
theorem Fo{bs:List Nat}(h:∀b∈bs,bk' b=bk b):bq bk' bs=bq bk bs:=by
 induction bs with
 |nil=>rfl
 |cons b bs ih=>
  have h1:=ih (fun c hc=>h c (Nc _ hc))
  unfold bq at h1⊢
  simp only[NZ,h b (Na ..),h1]
theorem IJ{con:Nat->Bool}{own:Bool}{ev ev':Operand->SV}{o:Oper}(h:∀x∈o.op.operands,ev' x=ev x)(hb:∀x∈o.op.operands,∀b∈(ev x).names,bk' b=bk b):frz P con own ev' bk' o=frz P con own ev bk o:=by
 have hr:∀x∈o.op.operands,aW bk' (ev' x)=aW bk (ev x):=fun x hx=>by rw[h x hx];exact DV (hb x hx)
 have hf:∀l:List Operand,(∀x∈l,x∈o.op.operands)->l.flatMap (fun x=>aW bk' (ev' x))=l.flatMap (fun x=>aW bk (ev x)):=fun l hl=>by
  rw[NP,NP,No (fun x hx=>hr x (hl x hx))]
 unfold frz;split
 ·rename_i t len parts ho
  have:=hf (parts.toList.map (·.2)) (fun x hx=>by
   obtain⟨y,hy,rfl⟩:=List.mem_map.1 hx;simp only[ho,Op.operands,NG,N6];exact⟨y,hy,rfl⟩)
  simpa[List.flatMap_map]using this
 ·rename_i t a x ho
  rw[h a (by simp[ho,Op.operands]),hr x (by simp[ho,Op.operands])]
 ·rename_i t x lo hi ho
  rw[hr x (by simp[ho,Op.operands])]
 ·rename_i t x hi mx ho
  rw[hr x (by simp[ho,Op.operands])]
 ·rename_i t x ho
  have hx:x∈o.op.operands:=by simp[ho,Op.operands]
  rw[h x hx];exact Jj (hb x hx)
 ·rename_i f args tys ho
  rw[h f (by simp[ho,Op.operands,Call.operands])]
  have:=hf args.toList (fun x hx=>by simp[ho,Op.operands,Call.operands];right;simpa using hx)
  rw[this]
 ·rfl
theorem Jd{con:Nat->Bool}{own:Bool}{ev:Operand->SV}{o:Oper}:∀b∈frz P con own ev bk o,∃x∈o.op.operands,b∈(ev x).names:=by
 intro b hb;unfold frz at hb;split at hb
 ·rename_i t len parts ho
  obtain⟨x,hx,hb⟩:=List.mem_flatMap.1 hb;exact⟨x.2,by simp only[ho,Op.operands,NG,N6];exact⟨x,hx,rfl⟩,jk _ _ b hb⟩
 ·rename_i t a x ho
  split at hb
  ·exact⟨x,by simp[ho,Op.operands],jk _ _ b hb⟩
  ·cases hb
 ·rename_i t x lo hi ho
  split at hb
  ·cases hb
  ·exact⟨x,by simp[ho,Op.operands],jk _ _ b hb⟩
 ·rename_i t x hi mx ho
  exact⟨x,by simp[ho,Op.operands],jk _ _ b hb⟩
 ·rename_i t x ho
  exact⟨x,by simp[ho,Op.operands],Il _ _ b hb⟩
 ·rename_i f args tys ho
  split at hb
  ·split at hb
   ·split at hb
    ·split at hb
     ·cases hb
     ·obtain⟨x,hx,hb⟩:=List.mem_flatMap.1 hb
      exact⟨x,by simp[ho,Op.operands,Call.operands];right;simpa using hx,jk _ _ b hb⟩
    ·cases hb
   ·cases hb
  ·cases hb
 ·cases hb
theorem Ac{l:List (Nat×Option SB)}:∀ {f g:Nat->Option SB} {b:Nat},f b=g b->aL f l b=aL g l b:=by
 induction l with
 |nil=>intro f g b h;exact h
 |cons x l ih=>
  intro f g b h;refine ih ?_
  show upd f x.1 x.2 b=upd g x.1 x.2 b
  by_cases e:b=x.1
  ·subst e;rw[ak,ak]
  ·rw[ah e,ah e];exact h
theorem Df{own:Bool}{nm:Nat}{ev ev':Operand->SV}{o:Oper}(h:∀x∈o.op.operands,ev' x=ev x)(hb:∀x∈o.op.operands,∀b∈(ev x).names,bk' b=bk b):fR P own nm ev' bk' o=fR P own nm ev bk o:=by
 unfold fR;split
 ·rename_i args tys ho
  split
  ·rename_i s x t t' ha htys
   have m1:s∈o.op.operands:=by simp[ho,Op.operands,Call.operands,<-Oh,ha]
   have m2:x∈o.op.operands:=by simp[ho,Op.operands,Call.operands,<-Oh,ha]
   rw[h s m1,h x m2,mH (hb x m2)];have hbx:=hb s m1;generalize ev s=v at hbx
   cases v<;>first|rfl|(rename_i d;have:=hbx d (by simp[SV.names]);simp only[this])
  ·rfl
 ·rfl
theorem Hu{con:Nat->Bool}{nm:Nat}{ev ev':Operand->SV}{o:Oper}(h:∀x∈o.op.operands,ev' x=ev x)(hb:∀x∈o.op.operands,∀b∈(ev x).names,bk' b=bk b):oF P con nm ev' bk' o=oF P con nm ev bk o:=by
 have hargs:∀(args:Array Operand),(∀y∈args,y∈o.op.operands)->args.toList.map ev'=args.toList.map ev:=fun args ha=>No fun x hx=>h x (ha x (by simpa using hx))
 have hnat:∀(x:Option Operand) d,(∀y,x=some y->y∈o.op.operands)->rc ev' x d=rc ev x d:=fun x d hx=>by
  cases x with
  |none=>rfl
  |some y=>simp only[rc];rw[h y (hx y rfl)]
 have hmem:∀(args:Array Operand) {l:List SV},(∀y∈args,y∈o.op.operands)->args.toList.map ev=l->∀x∈l,∀b∈x.names,bk' b=bk b:=fun args l ha hl x hx b hbx=>by
  rw[<-hl]at hx;obtain⟨y,hy,rfl⟩:=List.mem_map.1 hx;exact hb y (ha y (by simpa using hy)) b hbx
 unfold oF;split
 case h_1 op t x y ty ho=>rw[h x (by simp[ho,Op.operands]),h y (by simp[ho,Op.operands])]
 case h_2 t x ix ho=>rw[h x (by simp[ho,Op.operands]),h ix (by simp[ho,Op.operands])]
 case h_3 t x ix ho=>rw[h x (by simp[ho,Op.operands]),h ix (by simp[ho,Op.operands])]
 case h_4 t ho=>rfl
 case h_5 t x ho=>
  have m:=hb x (by simp[ho,Op.operands])
  rw[h x (by simp[ho,Op.operands])]
  generalize ev x=v at m
  unfold xk;cases v<;>try rfl
  rename_i b ty i k
  simp only[m b (by simp[SV.names])]
 case h_6 t x y ho=>
  have m:=hb x (by simp[ho,Op.operands])
  rw[h x (by simp[ho,Op.operands]),h y (by simp[ho,Op.operands])]
  generalize ev x=v at m
  unfold tv;cases v<;>try rfl
  rename_i b ty i k
  simp only[m b (by simp[SV.names])]
 case h_7 t x lo hi ho=>
  have m:=hb x (by simp[ho,Op.operands])
  have e1:rc ev' lo=rc ev lo:=funext fun n=>hnat lo n (fun y hy=>by simp[ho,Op.operands,hy])
  have e2:rc ev' hi=rc ev hi:=funext fun n=>hnat hi n (fun y hy=>by simp[ho,Op.operands,hy])
  rw[h x (by simp[ho,Op.operands])]
  generalize ev x=v at m
  unfold xC;rw[e1,e2];cases v<;>try rfl
  rename_i b off
  simp only[m b (by simp[SV.names])]
 case h_8 t x lo hi mx ho=>
  unfold xj;rw[h x (by simp[ho,Op.operands]),h lo (by simp[ho,Op.operands]),h hi (by simp[ho,Op.operands]),h mx (by simp[ho,Op.operands])]
 case h_9 s d x ho=>
  have m:=hb x (by simp[ho,Op.operands])
  rw[h x (by simp[ho,Op.operands])]
  have e1:rI P nm bk' s d (ev x)=rI P nm bk s d (ev x):=by
   unfold rI;rw[mH m]
  have e2:lu P bk' s d (ev x)=lu P bk s d (ev x):=by
   generalize ev x=v at m
   unfold lu;cases v<;>try rfl
   rename_i b off n
   simp only[m b (by simp[SV.names])]
  have e3:ow P bk' s d (ev x)=ow P bk s d (ev x):=by
   generalize ev x=v at m
   unfold ow;cases v<;>try rfl
   rename_i b off
   simp only[m b (by simp[SV.names])]
  rw[e1,e2,e3]
 case h_10 f args tys ho=>rw[hargs args (fun y hy=>by simp[ho,Op.operands,Call.operands,hy])]
 case h_11 args tys ho=>
  have ha:∀y∈args,y∈o.op.operands:=fun y hy=>by simp[ho,Op.operands,Call.operands,hy]
  rw[hargs args ha];split
  ·rename_i s x t t' h1 h2
   have m:=hmem args ha h1 s (by simp)
   unfold qb;cases s<;>try rfl
   rename_i d
   simp only[m d (by simp[SV.names])]
  ·rfl
 case h_12 args tys ho=>
  have ha:∀y∈args,y∈o.op.operands:=fun y hy=>by simp[ho,Op.operands,Call.operands,hy]
  rw[hargs args ha];split
  ·rename_i x h1
   have m:=hmem args ha h1 x (by simp)
   unfold xB;cases x<;>try rfl
   rename_i d
   simp only[m d (by simp[SV.names])]
  ·rfl
 case h_13 args tys ho=>
  have ha:∀y∈args,y∈o.op.operands:=fun y hy=>by simp[ho,Op.operands,Call.operands,hy]
  rw[hargs args ha];split
  ·rename_i x n pt it h1 h2
   have m:=hmem args ha h1 x (by simp)
   unfold qc;cases x<;>try rfl
   rename_i d t i k
   simp only[m d (by simp[SV.names])]
  ·rfl
 case h_14 args tys ho=>
  have ha:∀y∈args,y∈o.op.operands:=fun y hy=>by simp[ho,Op.operands,Call.operands,hy]
  rw[hargs args ha];split
  ·rename_i x y t t' h1 h2
   have m:=hmem args ha h1 x (by simp)
   unfold xn;cases x<;>try rfl
   rename_i d off n
   simp only[m d (by simp[SV.names])]
  ·rfl
 case h_15 args tys ho=>
  have ha:∀y∈args,y∈o.op.operands:=fun y hy=>by simp[ho,Op.operands,Call.operands,hy]
  rw[hargs args ha]
 case h_16 t x y z ho=>
  have m:=hb x (by simp[ho,Op.operands])
  rw[h x (by simp[ho,Op.operands]),h y (by simp[ho,Op.operands]),h z (by simp[ho,Op.operands])]
  generalize ev x=v at m
  unfold lR;cases v<;>try rfl
  rename_i b
  have hbk:bk' b=bk b:=m b (by simp[SV.names])
  cases P.underlying t with
  |none=>rfl
  |some d=>cases d<;>first|rfl|(simp only[hbk])
 case h_17 t x y z ho=>
  have m:=hb x (by simp[ho,Op.operands])
  rw[h x (by simp[ho,Op.operands]),h y (by simp[ho,Op.operands]),h z (by simp[ho,Op.operands])]
  generalize ev x=v at m
  unfold lR;cases v<;>try rfl
  rename_i b
  have hbk:bk' b=bk b:=m b (by simp[SV.names])
  cases P.underlying t with
  |none=>rfl
  |some d=>cases d<;>first|rfl|(simp only[hbk])
 case h_18 t x y ok ho=>
  have m:=hb x (by simp[ho,Op.operands])
  rw[h x (by simp[ho,Op.operands]),h y (by simp[ho,Op.operands])]
  generalize ev x=v at m
  unfold pQ;cases v<;>try rfl
  rename_i b
  have hbk:bk' b=bk b:=m b (by simp[SV.names])
  cases P.underlying t with
  |none=>rfl
  |some d=>cases d<;>first|rfl|(simp only[hbk])
 ·rfl
theorem FQ{con:Nat->Bool}{tr:E->Option Bool}{nm:Nat}{ev ev':Operand->SV}{o:Oper}(h:∀x∈o.op.operands,ev' x=ev x)(hb:∀x∈o.op.operands,∀b∈(ev x).names,bk' b=bk b):jS P con tr nm ev' bk' o=jS P con tr nm ev bk o:=by
 unfold jS;rw[Hu h hb,FT h hb]
theorem lT{con:Nat->Bool}{own:Bool}{tr:E->Option Bool}{nm:Nat}{ev ev':Operand->SV}{o:Oper}(h:∀x∈o.op.operands,ev' x=ev x)(hb:∀x∈o.op.operands,∀b∈(ev x).names,bk' b=bk b):cr P con own tr nm ev' bk' o=cr P con own tr nm ev bk o:=by
 have e1:bq bk' (frz P con own ev' bk' o)=bq bk (frz P con own ev bk o):=by
  rw[IJ h hb];exact Fo (fun b hh=>by obtain⟨x,hx,hn⟩:=Jd b hh;exact hb x hx b hn)
 unfold cr;rw[Df h hb];split
 ·rfl
 simp only[e1];have e2:jS P con tr nm (fun x=>nz (aL bk' (bq bk (frz P con own ev bk o))) (ev' x)) (aL bk' (bq bk (frz P con own ev bk o))) o=jS P con tr nm (fun x=>nz (aL bk (bq bk (frz P con own ev bk o))) (ev x)) (aL bk (bq bk (frz P con own ev bk o))) o:=
  FQ (fun x hx=>by rw[h x hx];exact JZ (fun b hh=>Ac (hb x hx b hh))) (fun x hx b hh=>Ac (hb x hx b (uZ _ _ b hh)))
 rw[e2]
variable {env:List AV} {κ κ':Nat->Value} {F F':Nat->Prop} {w w' w0:World} {U:Nat->Prop} {tmp:Nat->SV} {blk:Nat->Option SB} {L:Nat} {a:Act} {P:Program}
def R.proper:R->Bool
 |.nil=>true
 |.cons _ y=>y.proper
 |_=>false
def i9(F:Nat->Prop)(base:Nat)(w:World):R->Value->List Nat->Prop
 |.i n,u,bs=>u=.int .i64 n/\bs=[]
 |.b x,u,bs=>u=.bool x/\bs=[]
 |.nk k m,u,bs=>u=.int k m/\bs=[]
 |.st l,u,bs=>u=ar l/\bs=[]
 |.row e t l,u,bs=>if given e then Den F w u (.sl t l)/\bs=[]else ∃us,w.ownsRow base e t.len u l.length us/\0<t.len/\RowsDen F w us t l/\bs=(ai u).toList
 |.nil,u,bs=>u=.tuple #[]/\bs=[]
 |.cons x y,u,bs=>∃p q b1 b2,u=.tuple (p::q).toArray/\i9 F base w x p b1/\i9 F base w y (.tuple q.toArray) b2/\bs=b1++b2
 |.agg x,u,bs=>∃cs,u=.agg cs/\x.proper=true/\i9 F base w x (.tuple cs) bs
 |.tup x,u,bs=>∃cs,u=.tuple cs/\x.proper=true/\i9 F base w x (.tuple cs) bs
def Gj(S:Nat->Prop)(r:R)(w:World)(e:Ending)(w':World):Prop:=
 ∃u F bs,e=.returned u/\i9 F w.heap.size w' r u bs/\bs.Nodup/\(∀k∈bs,¬F k)/\(∀k,F k->(S k\/w.heap.size<=k)/\k<w'.heap.size)/\Below w.heap.size w w'
def Cg(S:Nat->Prop)(w:World)(vs:Array Value)(args:List AV):Prop:=vs.size=args.length/\∀(i:Nat) v x,vs[i]?=some v->args[i]?=some x->Den S w v x
def Con(P:Program)(f:Nat)(args:List AV)(r:R):Prop:=∀(S:Nat->Prop) (vs:Array Value) (w:World),(∀k,S k->k<w.heap.size)->GlobOK S w->Cg S w vs args->Calls P f vs w (Gj S r w)
theorem te{l:List Nat}{f g:Nat->List Nat}(h:∀b∈l,f b=g b):l.flatMap f=l.flatMap g:=by
 rw[NP,NP,No h]
theorem K8(r:R):∀(u:Value) (bs:List Nat) (base n m:Nat),i9 F base w r u bs->(∀(j:Nat) x,r.leaves[j]?=some x->env[n+j]?=some x) →
  r.leaves.length=(mkRes.RS.cnt r.shape).1/\(mkRes r.shape n m).2.map (·.1)=NI m (mkRes.RS.cnt r.shape).2/\(∀b∈(mkRes r.shape n m).1.names,m<=b/\b<m+(mkRes.RS.cnt r.shape).2)/\(r.proper=true->(mkRes r.shape n m).1.proper=true) ∧
  ∃κ1:Nat->Value,bs=(NI m (mkRes.RS.cnt r.shape).2).flatMap (fun b=>(ai (κ1 b)).toList) ∧
   ∀κ',(∀b,m<=b->b<m+(mkRes.RS.cnt r.shape).2->κ' b=κ1 b)->SVden env κ' F w (mkRes r.shape n m).1 u/\∀x∈(mkRes r.shape n m).2,∃sb,x.2=some sb/\SBden env κ' F base w x.1 sb/\sb.names=[]:=by
 induction r with
 |i k=>
  rintro u bs base n m ⟨rfl,rfl⟩ henv;have h0:env.getD n (.int 0)=.int k:=by have:=henv 0 (.int k) rfl;rw[Nl]at this;simp[Nt,this]
  refine⟨rfl,rfl,fun b hb=>(by cases hb),fun h=>(by cases h),fun _=>undef,rfl,fun κ' _=>⟨⟨?_,?_⟩,fun x hx=>(by cases hx)⟩⟩
  ·simp only[den];rw[h0];rfl
  ·simp only[den];rw[h0];rfl
 |b k=>
  rintro u bs base n m ⟨rfl,rfl⟩ henv;have h0:env.getD n (.int 0)=.bool k:=by have:=henv 0 (.bool k) rfl;rw[Nl]at this;simp[Nt,this]
  refine⟨rfl,rfl,fun b hb=>(by cases hb),fun h=>(by cases h),fun _=>undef,rfl,fun κ' _=>⟨⟨?_,?_⟩,fun x hx=>(by cases hx)⟩⟩
  ·simp only[den];rw[h0];rfl
  ·simp only[den];rw[h0];rfl
 |nk k q=>
  rintro u bs base n m ⟨rfl,rfl⟩ henv;have h0:env.getD n (.int 0)=.raw (.int k q):=by have:=henv 0 (.raw (.int k q)) rfl;rw[Nl]at this;simp[Nt,this]
  refine⟨rfl,rfl,fun b hb=>(by cases hb),fun h=>(by cases h),fun _=>undef,rfl,fun κ' _=>⟨⟨?_,rfl⟩,fun x hx=>(by cases hx)⟩⟩
  simp only[den];rw[h0];rfl
 |st l=>
  rintro u bs base n m ⟨rfl,rfl⟩ henv;have h0:env.getD n (.int 0)=.raw (ar l):=by have:=henv 0 (.raw (ar l)) rfl;rw[Nl]at this;simp[Nt,this]
  refine⟨rfl,rfl,fun b hb=>(by cases hb),fun h=>(by cases h),fun _=>undef,rfl,fun κ' _=>⟨⟨?_,rfl⟩,fun x hx=>(by cases hx)⟩⟩
  simp only[den];rw[h0];exact Ax rfl
 | row e t l=>
  intro u bs base n m h henv;have h0:env.getD n (.int 0)=.sl t l:=by have:=henv 0 (.sl t l) rfl;rw[Nl]at this;simp[Nt,this]
  unfold i9 at h;by_cases hg:given e=true
  ·rw[if_pos hg]at h
   obtain⟨h1,rfl⟩:=h;have e1:mkRes (R.row e t l).shape n m=(.vs t (.v n),[]):=by show(if given e then _ else _)=_;rw[if_pos hg]
   have e2:mkRes.RS.cnt (R.row e t l).shape=(1,0):=by show(1,if given e then 0 else 1)=_;rw[if_pos hg]
   rw[e1,e2];refine⟨rfl,rfl,fun b hb=>(by cases hb),fun h=>(by cases h),fun _=>undef,rfl,fun κ' _=>⟨?_,fun x hx=>(by cases hx)⟩⟩
   show Den F w u (.sl t (den env (.v n)).l)
   simp only[den];rw[h0];exact h1
  rw[if_neg hg]at h;obtain⟨us,h1,h2,h3,rfl⟩:=h;have e1:mkRes (R.row e t l).shape n m=(.row m,[(m,some (.row e t (.v n)))]):=by show(if given e then _ else _)=_;rw[if_neg hg]
  have e2:mkRes.RS.cnt (R.row e t l).shape=(1,1):=by show(1,if given e then 0 else 1)=_;rw[if_neg hg]
  rw[e1,e2];refine⟨rfl,rfl,fun b hb=>?_,fun h=>(by cases h),fun _=>u,by simp[NI],fun κ' hk=>⟨⟨(hk m (Nf _) (by simp)).symm,?_⟩,fun x hx=>?_⟩⟩
  ·simp[SV.names]at hb;subst hb;simp
  ·rcases h1.2 with⟨rfl,_⟩|⟨g,cap,cur,rfl,_⟩<;>rfl
  ·simp at hx
   subst hx;refine⟨_,rfl,⟨us,?_,h2,?_⟩,rfl⟩
   ·rw[hk m (Nf _) (by simp)]
    simp only[den];rw[h0];exact h1
   ·simp only[den];rw[h0];exact h3
 |nil=>
  rintro u bs base n m ⟨rfl,rfl⟩ henv;exact⟨rfl,rfl,fun b hb=>(by cases hb),fun _=>rfl,fun _=>undef,rfl,fun κ' _=>⟨rfl,fun x hx=>(by cases hx)⟩⟩
 | cons x y ih1 ih2=>
  rintro u bs base n m ⟨p,q,b1,b2,rfl,h1,h2,rfl⟩ henv;obtain⟨a1,a2,a3,_,κ1,a5,a6⟩:=ih1 p b1 base n m h1 (fun j z hz=>henv j z (by simp only[R.leaves];rw[NA (List.getElem?_eq_some_iff.1 hz).1];exact hz))
  obtain⟨c1,c2,c3,c4,κ2,c5,c6⟩:=ih2 (.tuple q.toArray) b2 base (n+(mkRes.RS.cnt x.shape).1) (m+(mkRes.RS.cnt x.shape).2) h2 (fun j z hz=>by
   have:=henv ((mkRes.RS.cnt x.shape).1+j) z (by simp only[R.leaves];rw[N0 (by omega),a1];rw[<-hz];congr 1;omega)
   rw[<-this];congr 1;omega)
  refine⟨by simp only[R.leaves,Nx,a1,c1];rfl,?_,fun b hb=>?_,fun h=>c4 h,fun b=>if b<m+(mkRes.RS.cnt x.shape).2 then κ1 b else κ2 b,?_,fun κ' hk=>⟨⟨p,q,rfl,?_,?_⟩,fun z hz=>?_⟩⟩
  ·simp only[R.shape,mkRes,N7,a2,c2,mkRes.RS.cnt]
   rw[NU]
  ·simp only[R.shape,mkRes,SV.names,Np]at hb
   simp only[R.shape,mkRes.RS.cnt];rcases hb with hb|hb
   ·have:=a3 b hb;omega
   ·have:=c3 b hb;omega
  ·simp only[R.shape,mkRes.RS.cnt]
   rw[a5,c5,<-NU,List.flatMap_append];congr 1
   ·refine te (fun b hb=>?_)
    simp only[Nz]at hb;rw[if_pos hb.2]
   ·refine te (fun b hb=>?_)
    simp only[Nz]at hb;rw[if_neg (by omega)]
  ·refine(a6 κ' (fun b hb1 hb2=>?_)).1
   exact(hk b hb1 (by simp only[R.shape,mkRes.RS.cnt];omega)).trans (if_pos hb2)
  ·refine(c6 κ' (fun b hb1 hb2=>?_)).1
   exact(hk b (by omega) (by simp only[R.shape,mkRes.RS.cnt];omega)).trans (if_neg (by omega))
  ·simp only[R.shape,mkRes,Np]at hz
   rcases hz with hz|hz
   ·refine(a6 κ' (fun b hb1 hb2=>?_)).2 z hz
    exact(hk b hb1 (by simp only[R.shape,mkRes.RS.cnt];omega)).trans (if_pos hb2)
   ·refine(c6 κ' (fun b hb1 hb2=>?_)).2 z hz
    exact(hk b (by omega) (by simp only[R.shape,mkRes.RS.cnt];omega)).trans (if_neg (by omega))
 |agg x ih=>
  rintro u bs base n m ⟨cs,rfl,hp,h⟩ henv;obtain⟨a1,a2,a3,a4,κ1,a5,a6⟩:=ih (.tuple cs) bs base n m h henv;exact⟨a1,a2,a3,fun h=>(by cases h),κ1,a5,fun κ' hk=>⟨⟨cs,rfl,a4 hp,(a6 κ' hk).1⟩,(a6 κ' hk).2⟩⟩
 |tup x ih=>
  rintro u bs base n m ⟨cs,rfl,hp,h⟩ henv;obtain⟨a1,a2,a3,a4,κ1,a5,a6⟩:=ih (.tuple cs) bs base n m h henv;exact⟨a1,a2,a3,fun h=>(by cases h),κ1,a5,fun κ' hk=>⟨⟨cs,rfl,a4 hp,(a6 κ' hk).1⟩,(a6 κ' hk).2⟩⟩
def A5(blk:Nat->Option SB)(κ:Nat->Value)(S:Nat->Prop)(x:SV):Prop:=∀b∈aW blk x,∀k,ai (κ b)=some k->S k
theorem F7{x y:SV}(h:y∈x.list):∀b∈aW blk y,b∈aW blk x:=by
 induction x with
 |cons x z _ ih=>
  intro b hb;simp only[SV.list,Oy]at h;simp only[aW,Np];rcases h with rfl|h
  ·exact .inl hb
  ·exact .inr (ih h b hb)
 |_=>simp[SV.list]at h
theorem Hz(x:SV):∀b∈aW blk x,∃e t l,blk b=some (.row e t l):=by
 induction x with
 | row c=>
  intro b hb;simp only[aW]at hb;split at hb
  ·rename_i e t l hc
   have:b=c:=by simpa using hb
   subst this;exact⟨e,t,l,hc⟩
  ·cases hb
 |agg x ih=>exact ih
 |cons x y ih1 ih2=>
  intro b hb;simp only[aW,Np]at hb;rcases hb with hb|hb
  ·exact ih1 b hb
  ·exact ih2 b hb
 |_=>intro b hb;cases hb
theorem In(bk:Nat->Option SB)(x:SV):∀b∈aW blk (nz bk x),b∈aW blk x:=by
 induction x with
 |row c=>
  intro b hb;simp only[nz]at hb;split at hb
  ·cases hb
  ·exact hb
 |agg x ih=>exact ih
 |cons x y ih1 ih2=>
  intro b hb;simp only[nz,aW,Np]at hb⊢;rcases hb with hb|hb
  ·exact .inl (ih1 b hb)
  ·exact .inr (ih2 b hb)
 |tup x _=>intro b hb;cases hb
 |_=>exact fun b hb=>hb
theorem H5{bk:Nat->Option SB}(h:∀b e t l,bk b=some (.row e t l)->blk b=some (.row e t l))(x:SV):∀b∈aW bk x,b∈aW blk x:=by
 induction x with
 | row c=>
  intro b hb;simp only[aW]at hb⊢;split at hb
  ·rename_i e t l hc
   rw[h c e t l hc];exact hb
  ·cases hb
 |agg x ih=>exact ih
 |cons x y ih1 ih2=>
  intro b hb;simp only[aW,Np]at hb⊢;rcases hb with hb|hb
  ·exact .inl (ih1 b hb)
  ·exact .inr (ih2 b hb)
 |_=>intro b hb;cases hb
theorem Ma(blk:Nat->Option SB)(bs:List Nat){b:Nat}(hb:b∈bs):∀e t l,aL blk (bq blk bs) b≠some (.row e t l):=by
 have key:∀(bs:List Nat) (f:Nat->Option SB),(∀c,f c=blk c\/∃e t l,f c=some (.ice e t l))->(b∈bs\/∀e t l,f b≠some (.row e t l))->∀e t l,aL f (bq blk bs) b≠some (.row e t l):=by
  intro bs;induction bs with
  |nil=>
   intro f _ h e t l;rcases h with h|h
   ·cases h
   ·exact h e t l
  | cons c bs ih=>
   intro f hf h;by_cases hr:∃y t l,blk c=some y/\IsRow y t l
   ·obtain⟨y,t,l,hc,hy⟩:=hr
    have:bq blk (c::bs)=(c,some (.ice 0 t l))::bq blk bs:=by obtain⟨e,rfl|rfl⟩:=hy<;>simp only[bq,NZ,hc]
    rw[this];refine ih (upd f c (some (.ice 0 t l))) (fun d=>?_) ?_
    ·by_cases ed:d=c
     ·subst ed;rw[ak];exact .inr ⟨0,t,l,rfl⟩
     ·rw[ah ed];exact hf d
    ·by_cases ed:b=c
     ·subst ed;right;intro e' t' l';rw[ak];intro hh;cases hh
     ·rw[ah ed]
      rcases h with h|h
      ·rcases List.mem_cons.1 h with h|h
       ·exact absurd h ed
       ·exact .inl h
      ·exact .inr h
   ·have:bq blk (c::bs)=bq blk bs:=by
     simp only[bq,NZ];split
     ·rfl
     ·rename_i y hy
      split at hy
      ·rename_i e t l hc;exact absurd ⟨_,t,l,hc,e,.inl rfl⟩ hr
      ·rename_i e t l hc;exact absurd ⟨_,t,l,hc,e,.inr rfl⟩ hr
      ·cases hy
    rw[this];refine ih f hf ?_
    rcases h with h|h
    ·rcases List.mem_cons.1 h with h|h
     ·subst h
      right
      intro e t l hh;rcases hf b with h1|⟨_,_,_,h1⟩
      ·rw[h1]at hh;exact hr ⟨_,t,l,hh,e,.inl rfl⟩
      ·rw[h1]at hh;cases hh
     ·exact .inl h
    ·exact .inr h
 exact key bs blk (fun _=>.inl rfl) (.inl hb)
theorem x6(h:Rel w0 env κ F U tmp blk L a w){S:Nat->Prop}(hF:∀k,F k->S k){x:SV}(hS:A5 blk κ S x){u:Value}(hx:SVden env κ F w x u){ty:Option Ty}{l:E}(hl:ck blk x=some (ty,l)){t:Ty}(ht:ty.all (·=t)=true):Den S w u (.sl t (den env l).l):=by
 unfold ck at hl;split at hl
 ·cases hl
  simp only[N8,decide_eq_true_eq]at ht;subst ht;exact Den.keep hx (fun _ _=>rfl) hF
 ·cases hl
  rw[show u=_ from hx];exact pR t
 ·rename_i b
  split at hl
  ·rename_i e t' l' hb
   cases hl
   simp only[N8,decide_eq_true_eq]at ht;subst ht;rw[hx.1];exact GJ (h.blks b _ hb) hF (hS b (by simp only[aW,hb];exact List.mem_singleton.2 rfl))
  ·rename_i e t' l' hb
   cases hl
   simp only[N8,decide_eq_true_eq]at ht;subst ht;rw[hx.1];exact Den.keep (h.blks b _ hb).1 (fun _ _=>rfl) hF
  ·cases hl
 ·cases hl
theorem qF(h:Rel w0 env κ F U tmp blk L a w){S:Nat->Prop}(hF:∀k,F k->S k):∀(l:List SV) (ts:List Ty) (e:E) (us:List Value),(∀x∈l,A5 blk κ S x)->fD blk l ts=some e->us.length=l.length->(∀(i:Nat) x u,l[i]?=some x->us[i]?=some u->SVden env κ F w x u) →
  (den env e).g.length=l.length/\(∀(i:Nat) u x,us[i]?=some u->(den env e).g[i]?=some x->Den S w u x)/\den env e=.agg (den env e).g
 |[],[],e,us,_,he,hu,hd=>by
  simp only[fD]at he;cases he
  exact⟨rfl,fun i u x h1 h2=>by simp[den]at h2,rfl⟩
 |[],_::_,e,us,_,he,_,_=>by simp only[fD]at he;cases he
 |_::_,[],e,us,_,he,_,_=>by simp only[fD]at he;cases he
 | x :: l,t::ts,e,us,hS,he,hu,hd=>by
  cases us with
  |nil=>simp at hu
  | cons u us=>
   simp only[fD]at he;split at he
   ·rename_i c es h1 h2
    cases he
    obtain⟨i1,i2,i3⟩:=qF h hF l ts es us (fun x hx=>hS x (Nc _ hx)) h2 (by simpa using hu) (fun i x u a b=>hd (i+1) x u (by simpa using a) (by simpa using b))
    have hx:=hd 0 x u rfl rfl;have key:Den S w u (den env c):=by
     split at h1
     ·cases h1;rw[hx.1,jw hx.2];exact .int _
     ·cases h1;rw[hx.1,xD hx.2];exact .bool _
     ·split at h1
      ·cases h1;rw[hx.1];exact .raw _ hx.2
      ·cases h1
     ·split at h1
      ·cases h1;rw[hx.1];exact .raw _ hx.2
      ·cases h1
     ·rename_i t
      split at h1
      ·rename_i v e' hl
       split at h1
       ·rename_i hv
        cases h1
        exact x6 h hF (hS _ (Na ..)) hx hl (by simp[hv])
       ·cases h1
      ·rename_i e' hl
       cases h1
       exact x6 h hF (hS _ (Na ..)) hx hl rfl
      ·cases h1
     ·cases h1
    refine⟨by simp[den,i1],fun i u' x' g1 g2=>?_,rfl⟩
    cases i with
    |zero=>simp[den]at g1 g2;subst g1;subst g2;exact key
    |succ i=>simp[den]at g1 g2;exact i2 i u' x' g1 g2
   ·cases he
theorem Jb(h:Rel w0 env κ F U tmp blk L a w){S:Nat->Prop}(hF:∀k,F k->S k){x:SV}(hS:A5 blk κ S x){t:Nat}{e:E}{u:Value}(he:xr P blk x t=some e)(hd:SVden env κ F w x u):Den S w u (den env e):=by
 unfold xr at he;split at he
 ·cases he
 ·split at he
  ·split at he
   ·rename_i xs
    obtain⟨cs,rfl,hp,h2⟩:=hd;obtain⟨t1,t2⟩:=bc hp h2;obtain⟨i1,i2,i3⟩:=qF h hF xs.list _ e cs.toList (fun y hy b hb=>hS b (show b∈aW blk (.agg xs)from F7 (x:=xs) hy b hb)) he (by rw[list_len];simpa using t1) (fun i x u g1 g2=>by
     obtain⟨v,h3,h4⟩:=t2 i x g1;rw[Nd,h3]at g2;cases g2;exact h4)
    rw[i3];have:=Den.agg (S:=S) (w:=w) cs.toList (den env e).g (by rw[i1,list_len];simpa using t1) (fun i v x g1 g2=>i2 i v x g1 g2)
    simpa using this
   ·cases he
  ·split at he
   ·rename_i e' hc
    cases he
    obtain⟨i1,i2,_⟩:=qF h hF [x] _ _ [u] (fun y hy=>by simp at hy;subst hy;exact hS) hc rfl (fun i y v g1 g2=>by
     cases i with
     |zero=>simp at g1 g2;subst g1;subst g2;exact hd
     |succ i=>simp at g1)
    exact i2 0 u (den env e) rfl rfl
   ·cases he
theorem Bt(h:Rel w0 env κ F U tmp blk L a w){S:Nat->Prop}(hF:∀k,F k->S k):∀(l:List SV) (ts:List Nat) (e:E) (us:List Value),(∀x∈l,A5 blk κ S x)->iD P blk l ts=some e->us.length=l.length->(∀(i:Nat) x u,l[i]?=some x->us[i]?=some u->SVden env κ F w x u)->Cg S w us.toArray (den env e).g
 |[],[],e,us,_,he,hu,hd=>by
  simp only[iD]at he;cases he
  have:us=[]:=Nw hu
  subst this;exact⟨rfl,fun i v x h1 h2=>by simp at h1⟩
 |[],_::_,e,us,_,he,_,_=>by simp only[iD]at he;cases he
 |_::_,[],e,us,_,he,_,_=>by simp only[iD]at he;cases he
 | x::l,t::ts,e,us,hS,he,hu,hd=>by
  cases us with
  |nil=>simp at hu
  | cons u us=>
   simp only[iD]at he;split at he
   ·rename_i c es h1 h2
    cases he
    obtain⟨i1,i2⟩:=Bt h hF l ts es us (fun x hx=>hS x (Nc _ hx)) h2 (by simpa using hu) (fun i x u a b=>hd (i+1) x u (by simpa using a) (by simpa using b))
    refine⟨by simp at i1;simp[den,i1],fun i v y g1 g2=>?_⟩
    cases i with
    |zero=>simp[den]at g1 g2;subst g1;subst g2;exact Jb h hF (hS x (Na ..)) h1 (hd 0 x u rfl rfl)
    |succ i=>simp[den]at g1 g2;exact i2 i v y (by simpa using g1) g2
   ·cases he
theorem J9{ns:List Nat}{f:Nat->List Nat}(h:(ns.flatMap f).Nodup){b c k:Nat}(hb:b∈ns)(hc:c∈ns)(h1:k∈f b)(h2:k∈f c):b=c:=by
 induction ns with
 |nil=>cases hb
 |cons n ns ih=>
  rw[List.flatMap_cons,List.nodup_append]at h;obtain⟨h3,h4,h5⟩:=h;have far:∀c,c∈ns->k∈f c->k∈f n->False:=fun c hc h6 h7=>h5 k h7 k (List.mem_flatMap.2 ⟨c,hc,h6⟩) rfl
  rcases List.mem_cons.1 hb with hb'|hb'<;>rcases List.mem_cons.1 hc with hc'|hc'
  ·rw[hb',hc']
  ·exact(far c hc' h2 (hb'▸h1)).elim
  ·exact(far b hb' h1 (hc'▸h2)).elim
  ·exact ih h4 hb' hc'
def Out.isCall:Out->Bool
 |.call _ _ _ _|.inl _ _|.yld _ _=>true
 |_=>false
theorem C4{tr:E->Option Bool}{kt:Nat}{z ix:SV}{ok:Bool}:∀(ks vs:List SV),(jD P tr kt z ix ok ks vs).isCall=false:=by
 intro ks;induction ks with
 |nil=>intro vs;cases vs<;>rfl
 | cons k ks ih=>
  intro vs;cases vs with
  |nil=>rfl
  | cons v vs=>
   simp only[jD];split
   ·rfl
   ·split
    ·rfl
    ·exact ih vs
    ·rfl
theorem DF{tr:E->Option Bool}{i:E}{f:Nat->Out}(hf:∀c,(f c).isCall=false):∀(n c:Nat),(lr tr i f n c).isCall=false:=by
 intro n;induction n with
 |zero=>intro c;rfl
 |succ n ih=>
  intro c;unfold lr;split
  ·exact hf c
  ·exact ih (c+1)
  ·rfl
theorem EV{r:Ty}{l:E}{kt:Nat}{ix:SV}{ok:Bool}:(ld P r l kt ix ok).isCall=false:=by
 unfold ld;repeat' split
 all_goals rfl
theorem uo{con:Nat->Bool}{tr:E->Option Bool}{nm:Nat}{ev:Operand->SV}{bk:Nat->Option SB}{o:Oper}{x:Out}(h:ij P con tr nm ev bk o=x)(hx:x.isCall=true):
  ∃g cargs tys,o.op=.call { callee:=.value g,args:=cargs,argTypes:=tys }/\lF P con bk (ev g) (cargs.toList.map ev)=x:=by
 unfold ij at h;split at h
 case h_22 g cargs tys ho=>exact⟨g,cargs,tys,ho,h⟩
 case h_27=>
  exfalso
  subst h;unfold lH at hx;repeat' split at hx
  all_goals (try (cases hx;done))
  all_goals first|(rw[C4]at hx;cases hx)|(rw[EV]at hx;cases hx)
 all_goals
  exfalso
  (try (simp only[xv,up,z8,tZ,kI,loadOut,loadOut.el,kY,vK,tC,tD,hY,dH,xl,Ai,xq,og,jC,jx,n9,my,gD,tX,ul,pF,mL,iw,jp,mB,pK,uK,rj,om,tw]at h))
  (try (repeat' split at h))
  all_goals (subst h;first|(cases hx;done)|(rw[DF (fun _=>rfl)]at hx;cases hx))
def Out.isPanic:Out->Bool
 |.panic _=>true
 |_=>false
theorem B2{tr:E->Option Bool}{kt:Nat}{z ix:SV}{ok:Bool}:∀(ks vs:List SV),(jD P tr kt z ix ok ks vs).isPanic=false:=by
 intro ks;induction ks with
 |nil=>intro vs;cases vs<;>rfl
 | cons k ks ih=>
  intro vs;cases vs with
  |nil=>rfl
  | cons v vs=>
   unfold jD;split
   ·rfl
   ·split
    ·rfl
    ·exact ih vs
    ·rfl
theorem C6{tr:E->Option Bool}{i:E}{f:Nat->Out}(hf:∀c,(f c).isPanic=false):∀(n c:Nat),(lr tr i f n c).isPanic=false:=by
 intro n;induction n with
 |zero=>intro c;rfl
 |succ n ih=>
  intro c;unfold lr;split
  ·exact hf c
  ·exact ih (c+1)
  ·rfl
theorem C1{r:Ty}{l:E}{kt:Nat}{ix:SV}{ok:Bool}:(ld P r l kt ix ok).isPanic=false:=by
 unfold ld;repeat' split
 all_goals rfl
theorem FO{con:Nat->Bool}{tr:E->Option Bool}{nm:Nat}{ev:Operand->SV}{bk:Nat->Option SB}{o:Oper}{v:Value}(h:ij P con tr nm ev bk o=.panic v):∃x,o.op=.panic x/\rj (ev x)=.panic v:=by
 have hx:(Out.panic v).isPanic=true:=rfl
 generalize Out.panic v=x at h hx⊢
 unfold ij at h;split at h
 case h_27=>
  exfalso
  subst h;unfold lH at hx;repeat' split at hx
  all_goals (try (cases hx;done))
  all_goals first|(rw[B2]at hx;cases hx)|(rw[C1]at hx;cases hx)
 case h_30 y ho=>exact⟨y,ho,h⟩
 all_goals
  exfalso
  (try (simp only[xv,up,z8,tZ,kI,loadOut,loadOut.el,kY,vK,tC,tD,hY,dH,xl,Ai,xq,og,jC,jx,n9,my,gD,tX,ul,pF,mL,iw,jp,mB,pK,uK,lF,om,tw]at h))
  (try (repeat' split at h))
  all_goals (subst h;first|(cases hx;done)|(rw[C6 (fun _=>rfl)]at hx;cases hx))
theorem KI{bk:Nat->Option SB}{x:SV}{g:Nat}{fs xs:SV}(h:nz bk x=.fn g fs xs):x=.fn g fs xs:=by
 cases x<;>simp only[nz]at h<;>try (cases h;done)
 ·split at h<;>cases h
 ·exact h
theorem LJ{bk:Nat->Option SB}{x:SV}{b:Nat}(h:nz bk x=.yld b):x=.yld b:=by
 cases x<;>simp only[nz]at h<;>try (cases h;done)
 ·split at h<;>cases h
 ·exact h
theorem JM{u:Value}{x:AV}(h:Den F w u x)(hx:(match x.ty with|.int|.bool|.raw|.num _|.str=>true|_=>false)=true):Den F' w u x:=by
 cases h with
 |int n=>exact .int n
 |bool b=>exact .bool b
 |raw _ h=>exact .raw _ h
 |sl=>cases hx
 |agg=>cases hx
theorem I0{us:List Value}{t:Ty}{l:List (List AV)}(h:RowsDen F w us t l)(ht:t.plain=true):RowsDen F' w us t l:=by
 refine⟨h.1,fun i r k x hr hx=>?_⟩
 obtain⟨u,h1,h2⟩:=h.2 i r k x hr hx;refine⟨u,h1,JM h2 ?_⟩
 have hm:=congrArg (fun l=>l[k]?) (h.1 i r hr)
 simp only[Nm,hx,NQ]at hm;exact List.all_eq_true.1 ht _ (Ns hm.symm)
theorem Ja{base:Nat}(r:R):∀(u:Value) (bs:List Nat),r.shape.flat=true->i9 F base w r u bs->i9 F' base w r u bs:=by
 induction r with
 |row e t l=>
  intro u bs hf h;simp only[R.shape,RS.flat,M9,N1]at hf;unfold i9 at h⊢
  rw[if_neg (by rw[hf.1];simp)]at h⊢
  obtain⟨us,h1,h2,h3,h4⟩:=h;exact⟨us,h1,h2,I0 h3 hf.2,h4⟩
 |cons x y ih1 ih2=>
  intro u bs hf h;simp only[R.shape,RS.flat,M9]at hf;obtain⟨p,q,b1,b2,h1,h2,h3,h4⟩:=h;exact⟨p,q,b1,b2,h1,ih1 _ _ hf.1 h2,ih2 _ _ hf.2 h3,h4⟩
 |agg x ih=>intro u bs hf h;obtain⟨cs,h1,h2,h3⟩:=h;exact⟨cs,h1,h2,ih _ _ hf h3⟩
 |tup x ih=>intro u bs hf h;obtain⟨cs,h1,h2,h3⟩:=h;exact⟨cs,h1,h2,ih _ _ hf h3⟩
 |_=>intro u bs _ h;exact h
theorem Br(l:List (Nat×Option SB)):∀(f:Nat->Option SB) (b:Nat),(∃x∈l,x.1=b/\aL f l b=x.2)\/((∀x∈l,x.1≠b)/\aL f l b=f b):=by
 induction l with
 |nil=>intro f b;exact .inr ⟨fun x hx=>(by cases hx),rfl⟩
 | cons y l ih=>
  intro f b;rcases ih (upd f y.1 y.2) b with⟨x,hx,e1,e2⟩|⟨h6,h7⟩
  ·exact .inl ⟨x,Nc _ hx,e1,e2⟩
  ·by_cases hb:b=y.1
   ·subst hb
    exact .inl ⟨y,Na ..,rfl,by show aL (upd f y.1 y.2) l y.1=y.2;rw[h7,ak]⟩
   ·exact .inr ⟨fun x hx=>(by rcases List.mem_cons.1 hx with rfl|hx;exact fun e=>hb e.symm;exact h6 x hx),by show aL (upd f y.1 y.2) l b=f b;rw[h7,ah hb]⟩
theorem MW(h:Rel w0 env κ F U tmp blk L a w){r:R}{u:Value}{F1:Nat->Prop}{bs:List Nat}(h1:i9 F1 w.heap.size w' r u bs)(h2:bs.Nodup)(h3:∀k∈bs,¬F1 k)(h4:∀k,F1 k->(F k\/w.heap.size<=k)/\k<w'.heap.size)(h5:Below w.heap.size w w')
  {n nm:Nat} (henv:∀(j:Nat) x,r.leaves[j]?=some x->env[n+j]?=some x) (hm:∀b,nm<=b->b<nm+(mkRes.RS.cnt r.shape).2->¬U b):
  ∃κ' F',Rel w0 env κ' F' (fun b=>U b\/∃x∈(mkRes r.shape n nm).2,x.1=b) tmp (aL blk (mkRes r.shape n nm).2) L a w'/\SVden env κ' F' w' (mkRes r.shape n nm).1 u/\Kept U blk κ F w (aL blk (mkRes r.shape n nm).2) κ' F' w':=by
 obtain⟨r1,r2,r3,_,κ1,r4,r5⟩:=K8 (env:=env) r u bs w.heap.size n nm h1 henv
 obtain⟨N,hN⟩:∃N,N=(mkRes.RS.cnt r.shape).2:=⟨_,rfl⟩
 rw[<-hN]at r2 r3 r4 r5 hm;obtain⟨κ',hκ⟩:∃κ':Nat->Value,∀b,κ' b=if nm<=b/\b<nm+N then κ1 b else κ b:=⟨_,fun _=>rfl⟩
 have hin:∀b,nm<=b->b<nm+N->κ' b=κ1 b:=fun b g1 g2=>by rw[hκ,if_pos ⟨g1,g2⟩]
 have hout:∀b,U b->κ' b=κ b:=fun b hb=>by rw[hκ,if_neg (fun hh=>hm b hh.1 hh.2 hb)]
 obtain⟨s1,s2⟩:=r5 κ' hin;have hF1:∀k,F1 k->(F k\/F1 k):=fun k hk=>.inr hk
 have hold:∀b k,aF (blk b)=true->ai (κ b)=some k->k<w.heap.size:=fun b k hb hk=>by
  obtain⟨y,hy,hl⟩:=bC hb;exact((h.blks b y hy).lt hl hk).2
 have hmem:∀b,(∃x∈(mkRes r.shape n nm).2,x.1=b)↔nm<=b/\b<nm+N:=fun b=>by
  constructor
  ·rintro ⟨x,hx,rfl⟩
   have:x.1∈(mkRes r.shape n nm).2.map (·.1):=List.mem_map.2 ⟨x,hx,rfl⟩
   rw[r2,Nz]at this;exact this
  ·intro hb
   have:b∈(mkRes r.shape n nm).2.map (·.1):=by rw[r2,Nz];exact hb
   obtain⟨x,hx,rfl⟩:=List.mem_map.1 this;exact⟨x,hx,rfl⟩
 have hupd:=Br;have hsz:=h5.size;have hnew:∀b x,(∃y∈(mkRes r.shape n nm).2,y.1=b/\aL blk (mkRes r.shape n nm).2 b=y.2)->aL blk (mkRes r.shape n nm).2 b=some x->SBden env κ' F1 w.heap.size w' b x/\x.names=[]/\nm<=b/\b<nm+N:=fun b x ⟨y,hy,e3,e4⟩ hx=>by
  obtain⟨sb,g1,g2,g3⟩:=s2 y hy;rw[e4,g1]at hx;cases hx
  have:=(hmem b).1 ⟨y,hy,e3⟩
  subst e3;exact⟨g2,g3,this⟩
 have hblk:∀b k,nm<=b->b<nm+N->ai (κ' b)=some k->k∈bs:=fun b k g1 g2 g3=>by
  rw[r4];exact List.mem_flatMap.2 ⟨b,List.mem_range'_1.2 ⟨g1,g2⟩,by rw[<-hin b g1 g2,g3];simp⟩
 have hblk2:∀b x k,(∃y∈(mkRes r.shape n nm).2,y.1=b/\aL blk (mkRes r.shape n nm).2 b=y.2)->aL blk (mkRes r.shape n nm).2 b=some x->aF (some x)=true->ai (κ' b)=some k->w.heap.size<=k:=fun b x k g1 g2 gl g3=>((hnew b x g1 g2).1.lt gl g3).1
 refine⟨κ',fun k=>F k\/F1 k,?_,s1.keep (fun _ _=>rfl) hF1 (fun _ _=>rfl),⟨hout,fun k hk=>.inl hk,fun k hk=>?_,hsz,fun k hk _=>h5.block k hk,fun b k hb g1=>?_,.of fun k hk=>.inr (h5.block k hk)⟩⟩
 rotate_left
 ·rcases hk with hk|hk
  ·exact .inl hk
  ·rcases(h4 k hk).1 with h6|h6
   ·exact .inl h6
   ·exact .inr (.inl h6)
 ·obtain⟨x,hx,hxl⟩:=bC hb
  rcases hupd (mkRes r.shape n nm).2 blk b with hb2|⟨hb1,hb2⟩
  ·exact .inl (hblk2 b x k hb2 hx hxl g1)
  ·rw[hb2]at hx
   rw[hout b (h.bnames b x hx).1]at g1;exact .inr ⟨b,by rw[hx];exact hxl,g1⟩
 refine h.world (fun b hb=>.inl hb) hout (fun k hk=>.inl hk) (fun k hk=>h5.block k (h.F k hk)) (fun b x hx=>?_) (fun b c k hb hc g1 g2=>?_) (fun b k hb g1=>?_) (fun k hk=>?_) (h.below.trans (h5.mono h.below.size))
 ·rcases hupd (mkRes r.shape n nm).2 blk b with hh|⟨_,hh⟩
  ·obtain⟨g1,g2,g3⟩:=hnew b x hh hx
   refine .inr ⟨?_,.inr ((hmem b).2 g3),fun c hc=>by rw[g2]at hc;cases hc⟩
   have:=g1.keep (κ':=κ') (F':=fun k=>F k\/F1 k) (w':=w') (fun _ _=>rfl) rfl hF1 (fun _ _=>rfl) (fun _ _ _=>rfl)
   cases x with
   |cells ty xs=>
    obtain⟨g,cs,q1,q2,q3,q4⟩:=this;exact⟨g,cs,q1,q2,NV h.below.size q3,q4⟩
   |row ety t l=>
    obtain⟨us,q1,q2⟩:=this;exact⟨us,rA q1 h.below.size,q2⟩
   |loop i st p=>
    obtain⟨l,r,q1,q2,q3,q4⟩:=this;exact⟨l,r,q1,q2,NV h.below.size q3,q4⟩
   |map ks vs=>
    obtain⟨l,r,cl,q1,q2,q3,q4⟩:=this;exact⟨l,r,cl,q1,q2,NV h.below.size q3,q4⟩
   |qrow ety t l=>
    obtain⟨us,q1,q2⟩:=this;exact⟨us,ym q1 h.below.size,q2⟩
   |amap t' l=>
    obtain⟨l,r,cl,q1,q2,q3,q4⟩:=this;exact⟨l,r,cl,q1,q2,NV h.below.size q3,q4⟩
   |dead l=>exact this
   |ice e t l=>exact this
  ·rw[hh]at hx
   exact .inl ⟨hx,fun hl k hk=>h5.block k (hold b k (by rw[hx];exact hl) hk)⟩
 ·obtain⟨x,hx,hxl⟩:=bC hb
  obtain⟨y,hy,hyl⟩:=bC hc;rcases hupd (mkRes r.shape n nm).2 blk b with hb2|⟨hb1,hb2⟩<;>rcases hupd (mkRes r.shape n nm).2 blk c with hc2|⟨hc1,hc2⟩
  ·obtain⟨_,_,b1,b2⟩:=hnew b x hb2 hx
   obtain⟨_,_,c1,c2⟩:=hnew c y hc2 hy;rw[r4]at h2;exact J9 h2 (List.mem_range'_1.2 ⟨b1,b2⟩) (List.mem_range'_1.2 ⟨c1,c2⟩) (k:=k) (by rw[<-hin b b1 b2,g1];simp) (by rw[<-hin c c1 c2,g2];simp)
  ·have:=hblk2 b x k hb2 hx hxl g1
   rw[hc2]at hy;have hU:=(h.bnames c y hy).1;rw[hout c hU]at g2;have:=hold c k (by rw[hy];exact hyl) g2;omega
  ·have:=hblk2 c y k hc2 hy hyl g2
   rw[hb2]at hx;have hU:=(h.bnames b x hx).1;rw[hout b hU]at g1;have:=hold b k (by rw[hx];exact hxl) g1;omega
  ·rw[hb2]at hx;rw[hc2]at hy
   rw[hout b (h.bnames b x hx).1]at g1;rw[hout c (h.bnames c y hy).1]at g2;exact h.inj b c k (by rw[hx];exact hxl) (by rw[hy];exact hyl) g1 g2
 ·obtain⟨x,hx,hxl⟩:=bC hb
  rcases hupd (mkRes r.shape n nm).2 blk b with hb2|⟨hb1,hb2⟩
  ·obtain⟨_,_,b1,b2⟩:=hnew b x hb2 hx
   have hk:=hblk b k b1 b2 g1;have hge:=hblk2 b x k hb2 hx hxl g1;rintro (hF|hF)
   ·have:=h.F k hF;omega
   ·exact h3 k hk hF
  ·rw[hb2]at hx
   rw[hout b (h.bnames b x hx).1]at g1;have hlt:=hold b k (by rw[hx];exact hxl) g1
   rintro (hF|hF)
   ·exact h.nF b k (by rw[hx];exact hxl) g1 hF
   ·rcases(h4 k hF).1 with h6|h6
    ·exact h.nF b k (by rw[hx];exact hxl) g1 h6
    ·omega
 ·rcases hk with hk|hk
  ·exact Nat.lt_of_lt_of_le (h.F k hk) hsz
  ·exact(h4 k hk).2
theorem GN{con:Nat->Bool}{own:Bool}{tr:E->Option Bool}{nm nm':Nat}{o:Oper}(hfit:PFit P)(h:Rel w0 env κ F U tmp blk L a w){f:Nat}{args:E}{sh:RS}{wr:List (Nat×Option SB)}(hc:cr P con own tr nm' (ag tmp) blk o=.call f args sh wr){r:R}(hr:r.shape=sh)(hcon:Con P f (den env args).g r)
  {n:Nat} (henv:∀(j:Nat) x,r.leaves[j]?=some x->env[n+j]?=some x) (hm:∀b,nm<=b->b<nm+(mkRes.RS.cnt sh).2->¬U b):
  ∃vs,(execOp a.eval o).run P w=.ok (.enter f vs) w/\(∀c,o.op≠.defer c)/\Calls P f vs w fun e w'=>∃u κ' F',e=.returned u ∧
   Rel w0 env κ' F' (fun b=>U b\/∃x∈wr++(mkRes sh n nm).2,x.1=b) tmp (aL blk (wr++(mkRes sh n nm).2)) L a w'/\SVden env κ' F' w' (mkRes sh n nm).1 u/\Kept U blk κ F w (aL blk (wr++(mkRes sh n nm).2)) κ' F' w':=by
 subst hr;unfold cr at hc;split at hc
 ·rename_i x hx
  obtain⟨_,_,_,rfl⟩:=pB hx;cases hc
 simp only[Dn]at hc;obtain⟨fs,hfs⟩:∃fs,fs=bq blk (frz P con own (ag tmp) blk o):=⟨_,rfl⟩
 rw[<-hfs]at hc;split at hc
 ·cases hc
 rotate_left
 ·rename_i x _ hx
  exact absurd hc (hx _ _ _ _)
 ·rename_i f' args' sh' wr' hc'
  cases hc
  obtain⟨F1,hf,k1⟩:=h.freeze (frz P con own (ag tmp) blk o);have hice:∀b,b∈frz P con own (ag tmp) blk o->∀e t l,aL blk (bq blk (frz P con own (ag tmp) blk o)) b≠some (.row e t l):=fun b hb=>Ma blk _ hb
  have hiu:=Gr blk (frz P con own (ag tmp) blk o);rw[<-hfs]at hf k1 hice hiu;obtain⟨blk1,hb1⟩:∃blk1,blk1=aL blk wr:=⟨_,rfl⟩
  rw[<-hb1]at hf k1 hc' hice hiu;have hz:=hf.nz;obtain⟨g,cargs,tys,ho,hcall⟩:=uo (uU hc' (fun _ _ _ e=>by cases e)) rfl
  unfold lF at hcall;split at hcall
  rotate_left
  ·cases hcall
  ·cases hcall
  rename_i g' fs' xs' hg
  have hg0:ag tmp g=.fn g' fs' xs':=KI (by rw[Dn];exact hg)
  split at hcall
  rotate_left
  ·cases hcall
  rename_i fn hfn
  split at hcall
  rotate_left
  ·cases hcall
  rename_i hbody
  split at hcall
  rotate_left
  ·cases hcall
  rename_i hcon'
  obtain⟨hcg,rfl,rfl⟩:=hcon';split at hcall
  rotate_left
  ·cases hcall
  ·cases hcall
  rename_i es sh hargs hsh
  cases hcall
  have hev:=h.ev g;rw[hg0]at hev;obtain⟨ds,cs,e1,_,_,e2,e3⟩:=hev;have e2:ds=#[]:=by injection e2
  have e3:cs=#[]:=by injection e3
  subst e2;subst e3;obtain⟨S,hS⟩:∃S:Nat->Prop,S=fun k=>if r.shape.flat=true then k<w.heap.size else F1 k:=⟨_,rfl⟩
  have hSF:∀k,F1 k->S k:=fun k hk=>by
   rw[hS];show if r.shape.flat=true then k<w.heap.size else F1 k
   split
   ·exact hf.F k hk
   ·exact hk
  have hSlt:∀k,S k->k<w.heap.size:=fun k hk=>by
   rw[hS]at hk;replace hk:if r.shape.flat=true then k<w.heap.size else F1 k:=hk
   split at hk
   ·exact hk
   ·exact hf.F k hk
  have hlend:∀x∈cargs.toList.map (ag fun t=>Sx.nz blk1 (tmp t)),A5 blk1 κ S x:=by
   intro x hx b hb k hk;obtain⟨y,hy,rfl⟩:=List.mem_map.1 hx;rw[hS];obtain⟨e,t,l,hbl⟩:=Hz (blk:=blk1) _ b hb
   show if r.shape.flat=true then k<w.heap.size else F1 k
   split
   ·exact((hf.blks b _ hbl).lt rfl hk).2
   ·rename_i hnf
    exfalso
    rw[<-Dn]at hb;have hb2:=In _ _ b hb;have hb3:=H5 (blk:=blk) (fun c e t l hc=>by
     rcases hiu c with h6|⟨_,_,_,_,_,h6⟩
     ·rw[<-h6];exact hc
     ·rw[h6]at hc;cases hc) _ b hb2
    refine hice b ?_ e t l hbl
    unfold frz;simp only[ho,hg0,hfn,hcg,hsh];rw[if_neg (by simpa using hnf)]
    exact List.mem_flatMap.2 ⟨y,by simpa using hy,hb3⟩
  have hden:=Bt hz hSF _ _ args (cargs.toList.map a.eval) hlend hargs (by simp) (fun i x u g1 g2=>by
   rw[Nm]at g1 g2;obtain⟨y,g3,rfl⟩:=Option.map_eq_some_iff.1 g1;rw[g3]at g2;cases g2
   exact hz.ev y)
  have hrun:(execOp a.eval o).run P w=.ok (.enter f (cargs.map a.eval)) w:=by
   have hn:¬fn.name = "runtime.NumGoroutine" := hfit.name f fn hfn
   have hb:¬fn.body=none:=by intro hh;rw[hh]at hbody;cases hbody
   simp only[execOp,ho,resolve,e1,Deferred.ofValue,Sem.run_bind,Sem.run_pure,Result.andThen_ok,invoke,callFunc];simp[hfn,hn,hb]
  have hmap:(cargs.toList.map a.eval).toArray=cargs.map a.eval:=by apply Array.ext';simp
  rw[hmap]at hden;refine⟨_,hrun,(fun c hh=>by rw[ho]at hh;cases hh),?_⟩
  refine(hcon S _ w hSlt (hz.glob.keep (fun _ _=>rfl) hSF) hden).mono ?_
  rintro e w' ⟨u,F2,bs,rfl,h1,h2,h3,h4,h5⟩;have key:∃F3:Nat->Prop,i9 F3 w.heap.size w' r u bs/\(∀k∈bs,¬F3 k)/\∀k,F3 k->(F1 k\/w.heap.size<=k)/\k<w'.heap.size:=by
   cases hfl:r.shape.flat with
   |true=>exact⟨fun _=>False,Ja r u bs hfl h1,fun _ _ h=>h,fun _ h=>h.elim⟩
   | false=>
    refine⟨F2,h1,h3,fun k hk=>?_⟩
    obtain⟨h6,h7⟩:=h4 k hk;refine⟨?_,h7⟩
    rcases h6 with h6|h6
    ·rw[hS]at h6
     replace h6:if r.shape.flat=true then k<w.heap.size else F1 k:=h6
     rw[if_neg (by simp[hfl])]at h6;exact .inl h6
    ·exact .inr h6
  obtain⟨F3,q1,q2,q3⟩:=key;obtain⟨κ',F',r1,r2,r3⟩:=MW hf q1 h2 q2 q3 h5 henv hm;have k:=k1.trans r3 (fun _ h=>h)
  rw[sP,<-hb1];refine⟨u,κ',F',rfl,?_,r2,k⟩
  refine r1.monoU (fun b hb=>?_)
  rcases hb with hb|⟨x,hx,hb⟩
  ·exact .inl hb
  ·exact .inr ⟨x,Nb _ hx,hb⟩
def HN(P:Program)(f:Nat)(ks vs:SV):Prop:=∀w:World,Calls P f #[] w fun e w'=>∃r es clock,e=.returned (.map (some r))/\w.heap.size<=r/\w'.heap[r]?=some (.map es clock)/\ks.proper=true/\vs.proper=true/\ks.len=vs.len ∧
 MapDen [] (fun _=>undef) (fun _=>False) w' ks vs es.toList/\Below w.heap.size w w'
def eo(ts:List Ty)(xs:List AV):List AV:=List.zipWith co ts xs
theorem qd:∀(ts:List Ty) (xs:List AV),xs.map AV.ty=ts->eo ts xs=xs
 |[],xs,h=>by
  cases xs with
  |nil=>rfl
  |cons=>simp at h
 | t::ts,xs,h=>by
  cases xs with
  |nil=>simp at h
  |cons x xs=>
   simp only[Ny,List.cons.injEq]at h;show co t x::eo ts xs=_
   rw[Ax h.1,qd ts xs h.2]
def T.den(P:Program)(Post:R->Prop):T->List AV->(Nat->List AV->Prop)->Prop
 |.stop _ _,_,_=>False
 |.ret x,env,_=>Post (x.den env)
 |.need e t,env,K=>(Sx.den env e).b=true/\t.den P Post env K
 |.br e a b,env,K=>((Sx.den env e).b=true->a.den P Post env K)/\((Sx.den env e).b=false->b.den P Post env K)
 |.call f args sh t,env,K=>∃r:R,r.shape=sh/\Con P f (Sx.den env args).g r/\t.den P Post (env++r.leaves) K
 |.loop lvl inits sorts _ _ t,env,K=>∃(I:List AV->Prop) (μ:List AV->Nat),I (eo sorts (Sx.den env inits).g) ∧
  ∀vs,vs.map AV.ty=sorts->I vs->t.den P Post (env++vs) (upd K lvl (fun us=>I (eo sorts us)/\μ (eo sorts us)<μ vs))
 |.again lvl es,env,K=>K lvl (Sx.den env es).g
 |.ext f ks vs t,env,K=>HN P f ks vs/\t.den P Post env K
 |.join lvl sorts a b,env,K=>a.den P Post env (upd K lvl (fun us=>b.den P Post (env++eo sorts us) K))
theorem iO{n:Nat}{rs:List AV}(hn:env.length=n){e:E}(h:e.sc n=true):den (env++rs) e=den env e:=by
 induction e with
 |v i=>
  simp only[E.sc,decide_eq_true_eq]at h;simp[den,Nt,NA (show i<env.length by omega)]
 |ii o x y ih1 ih2=>simp only[E.sc,M9]at h;simp only[den,ih1 h.1,ih2 h.2]
 |cmp o x y ih1 ih2=>simp only[E.sc,M9]at h;simp only[den,ih1 h.1,ih2 h.2]
 |beq x y ih1 ih2=>simp only[E.sc,M9]at h;simp only[den,ih1 h.1,ih2 h.2]
 |and x y ih1 ih2=>simp only[E.sc,M9]at h;simp only[den,ih1 h.1,ih2 h.2]
 |seq x y ih1 ih2=>simp only[E.sc,M9]at h;simp only[den,ih1 h.1,ih2 h.2]
 |rcons x y ih1 ih2=>simp only[E.sc,M9]at h;simp only[den,ih1 h.1,ih2 h.2]
 |snoc x y ih1 ih2=>simp only[E.sc,M9]at h;simp only[den,ih1 h.1,ih2 h.2]
 |app x y ih1 ih2=>simp only[E.sc,M9]at h;simp only[den,ih1 h.1,ih2 h.2]
 |take x y ih1 ih2=>simp only[E.sc,M9]at h;simp only[den,ih1 h.1,ih2 h.2]
 |drop x y ih1 ih2=>simp only[E.sc,M9]at h;simp only[den,ih1 h.1,ih2 h.2]
 |rep x y ih1 ih2=>simp only[E.sc,M9]at h;simp only[den,ih1 h.1,ih2 h.2]
 |cpy x y ih1 ih2=>simp only[E.sc,M9]at h;simp only[den,ih1 h.1,ih2 h.2]
 |not x ih=>simp only[E.sc]at h;simp only[den,ih h]
 |len x ih=>simp only[E.sc]at h;simp only[den,ih h]
 |slen x ih=>simp only[E.sc]at h;simp only[den,ih h]
 |typed t x ih=>simp only[E.sc]at h;simp only[den,ih h]
 |co t x ih=>simp only[E.sc]at h;simp only[den,ih h]
 |kin t x ih=>simp only[E.sc]at h;simp only[den,ih h]
 |kout x ih=>simp only[E.sc]at h;simp only[den,ih h]
 |kop o k x y ih1 ih2=>simp only[E.sc,M9]at h;simp only[den,ih1 h.1,ih2 h.2]
 |kcmp o x y ih1 ih2=>simp only[E.sc,M9]at h;simp only[den,ih1 h.1,ih2 h.2]
 |mget x y ih1 ih2=>simp only[E.sc,M9]at h;simp only[den,ih1 h.1,ih2 h.2]
 |mhas x y ih1 ih2=>simp only[E.sc,M9]at h;simp only[den,ih1 h.1,ih2 h.2]
 |scat x y ih1 ih2=>simp only[E.sc,M9]at h;simp only[den,ih1 h.1,ih2 h.2]
 |sidx x y ih1 ih2=>simp only[E.sc,M9]at h;simp only[den,ih1 h.1,ih2 h.2]
 |sofb x ih=>simp only[E.sc]at h;simp only[den,ih h]
 |bofs x ih=>simp only[E.sc]at h;simp only[den,ih h]
 |mput x y z ih1 ih2 ih3=>simp only[E.sc,M9]at h;simp only[den,ih1 h.1.1,ih2 h.1.2,ih3 h.2]
 |cell x y k ih1 ih2=>simp only[E.sc,M9]at h;simp only[den,ih1 h.1,ih2 h.2]
 |set x y k z ih1 ih2 ih3=>simp only[E.sc,M9]at h;simp only[den,ih1 h.1.1,ih2 h.1.2,ih3 h.2]
 |_=>rfl
def Agree(n:Nat)(env env':List AV):Prop:=∀e:E,e.sc n=true->den env' e=den env e
theorem Agree.symm{n:Nat}{env':List AV}(h:Agree n env env'):Agree n env' env:=fun e he=>(h e he).symm
theorem Agree.trans{n:Nat}{env' env'':List AV}(h:Agree n env env')(k:Agree n env' env''):Agree n env env'':=fun e he=>(k e he).trans (h e he)
theorem jj{n:Nat}{rs:List AV}(hn:env.length=n):Agree n env (env++rs):=fun _ he=>iO hn he
theorem SVden.re{n:Nat}{env':List AV}(hn:Agree n env env'){x:SV}{u:Value}(hs:x.sc n=true)(h:SVden env κ F w x u):SVden env' κ F w x u:=by
 induction x generalizing u with
 |vi e=>simp only[SV.sc]at hs;simp only[SVden,hn e hs]at h⊢;exact h
 |vb e=>simp only[SV.sc]at hs;simp only[SVden,hn e hs]at h⊢;exact h
 |vr e=>simp only[SV.sc]at hs;simp only[SVden,hn e hs]at h⊢;exact h
 |vs t e=>simp only[SV.sc]at hs;simp only[SVden,hn e hs]at h⊢;exact h
 |eptr t l i k=>simp only[SV.sc,M9]at hs;simp only[SVden,hn l hs.1,hn i hs.2]at h⊢;exact h
 |rptr b t i k=>simp only[SV.sc]at hs;simp only[SVden,hn i hs]at h⊢;exact h
 |rtail b t i=>simp only[SV.sc]at hs;simp only[SVden,hn i hs]at h⊢;exact h
 |agg xs ih=>obtain⟨cs,h1,hp,h2⟩:=h;exact⟨cs,h1,hp,ih hs h2⟩
 |tup xs ih=>obtain⟨cs,h1,hp,h2⟩:=h;exact⟨cs,h1,hp,ih hs h2⟩
 |iface t x ih=>obtain⟨v,h1,h2⟩:=h;exact⟨v,h1,ih hs h2⟩
 |fn f fs xs ih1 ih2=>
  simp only[SV.sc,M9]at hs;obtain⟨ds,cs,h1,hp,hq,h2,h3⟩:=h;exact⟨ds,cs,h1,hp,hq,ih1 hs.1 h2,ih2 hs.2 h3⟩
 |cons x xs ih1 ih2=>
  simp only[SV.sc,M9]at hs;obtain⟨p,q,h1,h2,h3⟩:=h;exact⟨p,q,h1,ih1 hs.1 h2,ih2 hs.2 h3⟩
 |_=>exact h
theorem xo{n:Nat}(x:SV)(h:x.sc n=true):∀y∈x.list,y.sc n=true:=by
 induction x with
 |cons x y _ ih=>
  intro z hz;simp only[SV.sc,M9]at h;simp only[SV.list,Oy]at hz;rcases hz with rfl|hz
  ·exact h.1
  ·exact ih h.2 z hz
 |_=>intro z hz;simp[SV.list]at hz
theorem MapDen.re{n:Nat}{env':List AV}(hn:Agree n env env'){ks vs:SV}{es:List MapEntry}(hk:ks.sc n=true)(hv:vs.sc n=true)(h:MapDen env κ F w ks vs es):MapDen env' κ F w ks vs es:=by
 obtain⟨h1,h2,h3⟩:=h;refine⟨fun i k v q1 q2=>?_,fun e he=>?_,h3⟩
 ·obtain⟨e,he,d1,d2⟩:=h1 i k v q1 q2
  exact⟨e,he,d1.re hn (xo ks hk k (Ns q1)),d2.re hn (xo vs hv v (Ns q2))⟩
 ·obtain⟨i,k,v,q1,q2,d1,d2⟩:=h2 e he
  exact⟨i,k,v,q1,q2,d1.re hn (xo ks hk k (Ns q1)),d2.re hn (xo vs hv v (Ns q2))⟩
theorem SBden.re{n:Nat}{env':List AV}(hn:Agree n env env'){base b:Nat}{x:SB}(hs:x.sc n=true)(h:SBden env κ F base w b x):SBden env' κ F base w b x:=by
 cases x with
 |cells ty xs=>
  obtain⟨g,cs,h1,h2,h3,h4,h5⟩:=h;exact⟨g,cs,h1,h2,h3,h4.re hn hs,h5⟩
 |row ety t l=>
  obtain⟨us,h1,h2⟩:=h;simp only[SB.sc]at hs;exact⟨us,by rw[hn l hs];exact h1,by rw[hn l hs];exact h2⟩
 |dead l=>
  obtain⟨A,c,h1⟩:=h;simp only[SB.sc]at hs;exact⟨A,c,by rw[hn l hs];exact h1⟩
 |ice ety t l=>
  simp only[SB.sc]at hs;obtain⟨h1,h2⟩:=h;exact⟨by rw[hn l hs];exact h1,by rw[hn l hs];exact h2⟩
 |loop i st p=>
  obtain⟨l,r,h1,h2,h3,h4,h5,h6,h7,h8,h9,h10⟩:=h;exact⟨l,r,h1,h2,h3,h4,h5,h6,h7,h8,h9,fun t=>(h10 t).re hn (Ov.all_spec hs rfl t)⟩
 |map ks vs=>
  simp only[SB.sc,M9]at hs;obtain⟨r,es,cl,h1,h2,h3,h4,h5,h6,h7⟩:=h;exact⟨r,es,cl,h1,h2,h3,h4,h5,h6,h7.re hn hs.1 hs.2⟩
 |qrow ety t l=>
  obtain⟨us,h1,h2⟩:=h;simp only[SB.sc]at hs;exact⟨us,by rw[hn l hs];exact h1,by rw[hn l hs];exact h2⟩
 |amap t l=>
  simp only[SB.sc]at hs;obtain⟨r,es,cl,h1,h2,h3,h4⟩:=h;exact⟨r,es,cl,h1,h2,h3,by rw[hn l hs];exact h4⟩
def KnownOK(env:List AV)(n:Nat)(known:List (E×Bool)):Prop:=∀x∈known,x.1.sc n=true/\(den env x.1).b=x.2
theorem p8{n:Nat}{known:List (E×Bool)}(h:KnownOK env n known){e:E}{b:Bool}(hl:zA known e=some b):(den env e).b=b:=by
 induction known with
 |nil=>cases hl
 | cons x l ih=>
  obtain⟨y,c⟩:=x;have hl:Bool.rec (motive:=fun _=>Option Bool) (zA l e) (some c) (E.eqb y e)=some b:=hl
  cases hy:E.eqb y e with
  |true=>
   rw[hy]at hl;cases hl
   have:=E.eqb_spec _ _ hy
   subst this;exact(h _ (Na ..)).2
  |false=>
   rw[hy]at hl;exact ih (fun x hx=>h x (Nc _ hx)) hl
theorem Ka{n:Nat}{known:List (E×Bool)}(h:KnownOK env n known){e:E}{m:Int}(hl:GR known e=some m):(den env e).i=m:=by
 induction known with
 |nil=>cases hl
 | cons x l ih=>
  have ih:=ih (fun x hx=>h x (Nc _ hx))
  unfold GR at hl;simp only at hl
  split at hl
  ·rename_i b k
   cases hy:E.eqb b e with
   |true=>
    rw[hy]at hl;cases hl
    have:=E.eqb_spec _ _ hy
    subst this;have:=(h _ (Na ..)).2
    exact of_decide_eq_true this
   |false=>rw[hy]at hl;exact ih hl
  ·exact ih hl
theorem nI{n:Nat}{known:List (E×Bool)}(h:KnownOK env n known){e:E}{b:Bool}(hl:kE known e=some b):(den env e).b=b:=by
 induction e generalizing b with
 |bool c=>simp only[kE]at hl;cases hl;rfl
 |not x ih=>
  simp only[kE]at hl;obtain⟨c,hc,rfl⟩:=Option.map_eq_some_iff.1 hl;simp[den,ih hc]
 |and x y ih1 ih2=>
  simp only[kE]at hl;split at hl
  ·rename_i h1 h2;cases hl;simp[den,ih1 h1,ih2 h2]
  ·rename_i h1;cases hl;simp[den,ih1 h1]
  ·rename_i h1 _;cases hl;simp[den,ih2 h1]
  ·exact p8 h hl
 | seq x y ih1 ih2=>
  simp only[kE]at hl;split at hl
  ·rename_i he
   cases hl
   rw[E.eqb_spec _ _ he];simp[den]
  ·exact p8 h hl
 | cmp o x y ih1 ih2=>
  unfold kE at hl;split at hl
  ·rename_i heq;cases heq
  ·rename_i a k heq
   cases heq
   split at hl
   ·rename_i c hc;cases hl;exact p8 h hc
   ·obtain⟨m,hm,rfl⟩:=Option.map_eq_some_iff.1 hl
    simp[den,COp.f,Ka h hm]
  ·rename_i heq
   cases heq
   split at hl
   ·rename_i he
    cases hl
    rw[E.eqb_spec _ _ he];simp[den,COp.f]
   ·exact p8 h hl
  ·rename_i heq;cases heq
  ·rename_i heq;cases heq
  ·rename_i heq;cases heq
  ·exact p8 h hl
 |_=>exact p8 h hl
theorem ig{n:Nat}{known:List (E×Bool)}(h:KnownOK env n known){e:E}{b:Bool}(hs:e.sc n=true)(hb:(den env e).b=b):KnownOK env n (jr known e b):=by
 have base:∀ {known e b},KnownOK env n known->e.sc n=true->(den env e).b=b->KnownOK env n ((e,b)::known):=fun h hs hb x hx=>by
  rcases List.mem_cons.1 hx with rfl|hx
  ·exact⟨hs,hb⟩
  ·exact h x hx
 induction e generalizing known b with
 |not x ih=>
  simp only[jr];exact ih h hs (by simp only[den,AV.b_bool]at hb;rw[<-hb];simp)
 | and x y ih1 ih2=>
  simp only[E.sc,M9]at hs;cases b with
  |true=>
   simp only[jr];simp only[den,AV.b_bool,M9]at hb;exact ih2 (ih1 h hs.1 hb.1) hs.2 hb.2
  |false=>exact base h (by simp only[E.sc,M9];exact hs) hb
 |_=>cases b<;>exact base h hs hb
theorem KnownOK.ext{n m:Nat}{rs:List AV}{known:List (E×Bool)}(h:KnownOK env n known)(hn:env.length=n)(hm:n<=m):KnownOK (env++rs) m known:=fun x hx=>by
 obtain⟨h1,h2⟩:=h x hx;refine⟨?_,by rw[iO hn h1];exact h2⟩
 clear h2
 have key:∀e:E,e.sc n=true->e.sc m=true:=by
  intro e;induction e with
  |v i=>intro h;simp only[E.sc,decide_eq_true_eq]at h⊢;omega
  |ii o x y ih1 ih2=>intro h;simp only[E.sc,M9]at h⊢;exact⟨ih1 h.1,ih2 h.2⟩
  |cmp o x y ih1 ih2=>intro h;simp only[E.sc,M9]at h⊢;exact⟨ih1 h.1,ih2 h.2⟩
  |beq x y ih1 ih2=>intro h;simp only[E.sc,M9]at h⊢;exact⟨ih1 h.1,ih2 h.2⟩
  |and x y ih1 ih2=>intro h;simp only[E.sc,M9]at h⊢;exact⟨ih1 h.1,ih2 h.2⟩
  |seq x y ih1 ih2=>intro h;simp only[E.sc,M9]at h⊢;exact⟨ih1 h.1,ih2 h.2⟩
  |rcons x y ih1 ih2=>intro h;simp only[E.sc,M9]at h⊢;exact⟨ih1 h.1,ih2 h.2⟩
  |snoc x y ih1 ih2=>intro h;simp only[E.sc,M9]at h⊢;exact⟨ih1 h.1,ih2 h.2⟩
  |app x y ih1 ih2=>intro h;simp only[E.sc,M9]at h⊢;exact⟨ih1 h.1,ih2 h.2⟩
  |take x y ih1 ih2=>intro h;simp only[E.sc,M9]at h⊢;exact⟨ih1 h.1,ih2 h.2⟩
  |drop x y ih1 ih2=>intro h;simp only[E.sc,M9]at h⊢;exact⟨ih1 h.1,ih2 h.2⟩
  |rep x y ih1 ih2=>intro h;simp only[E.sc,M9]at h⊢;exact⟨ih1 h.1,ih2 h.2⟩
  |cpy x y ih1 ih2=>intro h;simp only[E.sc,M9]at h⊢;exact⟨ih1 h.1,ih2 h.2⟩
  |not x ih=>intro h;exact ih h
  |len x ih=>intro h;exact ih h
  |slen x ih=>intro h;exact ih h
  |typed t x ih=>intro h;exact ih h
  |co t x ih=>intro h;exact ih h
  |kin t x ih=>intro h;exact ih h
  |kout x ih=>intro h;exact ih h
  |kop o k x y ih1 ih2=>intro h;simp only[E.sc,M9]at h⊢;exact⟨ih1 h.1,ih2 h.2⟩
  |kcmp o x y ih1 ih2=>intro h;simp only[E.sc,M9]at h⊢;exact⟨ih1 h.1,ih2 h.2⟩
  |mget x y ih1 ih2=>intro h;simp only[E.sc,M9]at h⊢;exact⟨ih1 h.1,ih2 h.2⟩
  |mhas x y ih1 ih2=>intro h;simp only[E.sc,M9]at h⊢;exact⟨ih1 h.1,ih2 h.2⟩
  |scat x y ih1 ih2=>intro h;simp only[E.sc,M9]at h⊢;exact⟨ih1 h.1,ih2 h.2⟩
  |sidx x y ih1 ih2=>intro h;simp only[E.sc,M9]at h⊢;exact⟨ih1 h.1,ih2 h.2⟩
  |sofb x ih=>intro h;exact ih h
  |bofs x ih=>intro h;exact ih h
  |mput x y z ih1 ih2 ih3=>intro h;simp only[E.sc,M9]at h⊢;exact⟨⟨ih1 h.1.1,ih2 h.1.2⟩,ih3 h.2⟩
  |cell x y k ih1 ih2=>intro h;simp only[E.sc,M9]at h⊢;exact⟨ih1 h.1,ih2 h.2⟩
  |set x y k z ih1 ih2 ih3=>intro h;simp only[E.sc,M9]at h⊢;exact⟨⟨ih1 h.1.1,ih2 h.1.2⟩,ih3 h.2⟩
  |_=>intro _;rfl
 exact key _ h1
def ji:Nat->List (Nat×Option SB)->Prop
 |_,[]=>True
 |N,x::l=>x.1<=N/\ji (max N (x.1+1)) l
def cu:Nat->List (Nat×Option SB)->Nat
 |N,[]=>N
 |N,x::l=>cu (max N (x.1+1)) l
theorem Ef(a b:Nat):mx a b=max a b:=by have:=tM a b;omega
theorem yH:∀(wr:List (Nat×Option SB)) (N:Nat),N<=cu N wr/\∀x∈wr,x.1<cu N wr
 |[],N=>⟨Nf _,fun x hx=>by cases hx⟩
 |y::wr,N=>by
  obtain⟨h1,h2⟩:=yH wr (max N (y.1+1));refine⟨by simp only[cu];omega,fun x hx=>?_⟩
  rcases List.mem_cons.1 hx with rfl|hx
  ·simp only[cu];omega
  ·exact h2 x hx
theorem cM(σ:SS)(wr:List (Nat×Option SB))(hw:ji σ.N wr):(σ.write wr).blk=aL σ.blk wr/\(σ.write wr).N=cu σ.N wr/\(σ.write wr).tmp=σ.tmp/\(σ.write wr).L=σ.L/\(σ.write wr).n=σ.n/\(σ.write wr).known=σ.known/\(σ.write wr).dep=σ.dep:=by
 have key:∀(wr:List (Nat×Option SB)) (h:Ov (Option SB)),ji h.len wr->(fun b=>(List.rec (motive:=fun _=>Ov (Option SB)->Ov (Option SB)) (fun h=>h) (fun x _ ih h=>ih (h.set x.1 x.2)) wr h:Ov (Option SB)).get none b)=aL (fun b=>h.get none b) wr ∧
   (List.rec (motive:=fun _=>Ov (Option SB)->Ov (Option SB)) (fun h=>h) (fun x _ ih h=>ih (h.set x.1 x.2)) wr h:Ov (Option SB)).len=cu h.len wr:=by
  intro wr;induction wr with
  |nil=>intro h _;exact⟨rfl,rfl⟩
  |cons y wr ih=>
   intro h hw;have hl:(h.set y.1 y.2).len=max h.len (y.1+1):=Ef _ _
   obtain⟨h1,h2⟩:=ih (h.set y.1 y.2) (by rw[hl];exact hw.2)
   refine⟨?_,by rw[hl]at h2;exact h2⟩
   refine h1.trans ?_
   show aL _ wr=aL (upd (fun b=>h.get none b) y.1 y.2) wr
   congr 1
   funext b
   rw[Ov.get_set (fun i h1 h2=>by have:=hw.1;omega)]
   rfl
 obtain⟨h1,h2⟩:=key wr σ.hp hw;exact⟨h1,h2,rfl,rfl,rfl,rfl,rfl⟩
theorem eB(σ:SS){dst:Option Nat}{v:SV}(hd:∀d,dst=some d->d<σ.L):(σ.put dst v).tmp=fG σ.tmp dst v/\(σ.put dst v).blk=σ.blk/\(σ.put dst v).N=σ.N/\(σ.put dst v).n=σ.n/\(σ.put dst v).known=σ.known/\(σ.put dst v).L=σ.L/\(σ.put dst v).dep=σ.dep:=by
 cases dst with
 |none=>exact⟨rfl,rfl,rfl,rfl,rfl,rfl,rfl⟩
 |some d=>
  refine⟨?_,rfl,rfl,rfl,rfl,rfl,rfl⟩
  funext t
  exact Ov.get_put (hd d rfl) t
theorem jh(σ:SS):σ.ev=ag σ.tmp:=by
 funext x;cases x<;>rfl
theorem eQ{σ:SS}{b:Nat}{x:SB}(h:σ.blk b=some x):b<σ.N:=by
 rcases Oi b σ.N with h1|h1
 ·exact h1
 ·have:σ.blk b=none:=Ov.get_out h1
  rw[h]at this;cases this
def FR(ro:Option Nat):Fence:={ Fence.wide with round:=ro }
def dA(κ:Nat->Value)(ro:Option Nat):Option Nat:=ro.bind fun b=>ai (κ b)
theorem di{ro:Option Nat}(h:∀b,ro=some b->κ' b=κ b):dA κ' ro=dA κ ro:=by
 cases ro with
 |none=>rfl
 |some b=>simp only[dA,N5,h b rfl]
theorem Bw{ro:Option Nat}{f:Nat}{vs:Array Value}{R:Ending->World->Prop}{n:Nat}(h:Calls P f vs w R):CallsIn (FR ro) n P f vs w R:=callsIn_wide.2 h
theorem ox{ro:Option Nat}{f:Nat}{vs:Array Value}{R:Ending->World->Prop}{n:Nat}(h:CallsIn (FR ro) n P f vs w R):Calls P f vs w R:=callsIn_wide.1 h
theorem uk{ro:Option Nat}{o:Oper}{u:Value}{K:Act->World->Prop}{Q:Exit->Act->World->Prop}(hd:∀c,o.op≠.defer c)(hr:bL P o a w u w')(hK:K (a.put o.dst u) w'):o.wpIn (FR ro) 0 P a w K Q:=by
 refine⟨fun _ _=>trivial,?_⟩
 rw[Oper.semAt_eq _ _ _ hd];rcases hr with hr|⟨rfl,hr⟩<;>rw[hr]<;>exact hK
theorem wW{ro:Option Nat}{o:Oper}{f:Nat}{vs:Array Value}{R:Ending->World->Prop}{K:Act->World->Prop}{Q:Exit->Act->World->Prop}(hd:∀c,o.op≠.defer c)(hr:(execOp a.eval o).run P w=.ok (.enter f vs) w)(hc:Calls P f vs w R)
  (hR:∀e w',R e w'->∃u,e=.returned u/\K (a.put o.dst u) w'):o.wpIn (FR ro) 0 P a w K Q:=by
 refine⟨fun _ _=>trivial,?_⟩
 rw[Oper.semAt_eq _ _ _ hd,hr,Oper.uponIn_enter];refine⟨fun h=>(by cases h),(Bw hc).mono fun e w' he=>?_⟩
 obtain⟨u,rfl,hK⟩:=hR e w' he;exact hK
def gJ(v:Value):List PanicEntry:=[{ v,recovered:=false }]
theorem HK{ro:Option Nat}{o:Oper}{v:Value}{K:Act->World->Prop}{Q:Exit->Act->World->Prop}(hd:∀c,o.op≠.defer c)(hr:(execOp a.eval o).run P w=.halt (.panic v) w')(hQ:Q (.panic (gJ v)) a w'):o.wpIn (FR ro) 0 P a w K Q:=by
 refine⟨fun _ _=>trivial,?_⟩
 rw[Oper.semAt_eq _ _ _ hd,hr,Oper.uponIn_panic];exact hQ
theorem G1{ro:Option Nat}{o:Oper}{f:Nat}{vs:Array Value}{R:Ending->World->Prop}{K:Act->World->Prop}{Q:Exit->Act->World->Prop}(hd:∀c,o.op≠.defer c)(hr:(execOp a.eval o).run P w=.ok (.enter f vs) w)(hc:Calls P f vs w R)
  (hR:∀e w',R e w'->∃chain,e=.panicked chain/\Q (.panic chain) a w'):o.wpIn (FR ro) 0 P a w K Q:=by
 refine⟨fun _ _=>trivial,?_⟩
 rw[Oper.semAt_eq _ _ _ hd,hr,Oper.uponIn_enter];refine⟨fun h=>(by cases h),(Bw hc).mono fun e w' he=>?_⟩
 obtain⟨chain,rfl,hQ⟩:=hR e w' he;exact hQ
structure Stp where
 v:SV
 wr:List (Nat×Option SB)
 seen:Seen
def H4(κ:Nat->Value)(env:List AV)(x:Nat×E):Prop:=0<(den env x.2).i->∃g n c,κ x.1=.slice (some ⟨g,0,none⟩) n c/\(n:Int)=(den env x.2).i
theorem rU(h:Rel w0 env κ F U tmp blk L a w){b e:Nat}{t:Ty}{l:E}(hb:blk b=some (.row e t l)):H4 κ env (b,l.len'):=by
 intro h0;simp only[aY,AV.i_int]at h0⊢;obtain⟨us,hown,hpos,hrow⟩:=h.blks b _ hb;rcases hown.2 with⟨e1,e2⟩|⟨g,cap,cur,e1,_⟩
 ·omega
 ·exact⟨g,_,cap,e1,rfl⟩
structure StepSem (P:Program) (w0:World) (env:List AV) (ro:Option Nat) (L:Nat) (ops:Array Oper) (N N' i:Nat) (s:Stp) (tmp:Nat->SV) (blk:Nat->Option SB):Prop where
 wb:s.seen.wb=s.wr.map (·.1)
 lt:∀b∈s.seen.wb,b<N'
 le:N<=N'
 foot:∀b∈s.seen.wb,b∈s.seen.rb\/N<=b
 all:∀b,N<=b->b<N'->b∈s.seen.wb
 dst:∀d,s.seen.dst=some d->d<L
 run:∀(κ:Nat->Value) (F U:Nat->Prop) (tmp':Nat->SV) (blk':Nat->Option SB) (a:Act) (w:World) (K:Act->World->Prop) (Q:Exit->Act->World->Prop),Rel w0 env κ F U tmp' blk' L a w →
  (∀t∈s.seen.rt,tmp' t=tmp t)->(∀b∈s.seen.rb,blk' b=blk b)->(∀b,N<=b->b<N'->¬U b)->(∀b,ro=some b->U b)->(∀x∈s.seen.rh,H4 κ env x) →
  (∀κ' F' a' w',Rel w0 env κ' F' (fun b=>U b\/(N<=b/\b<N')) (fG tmp' s.seen.dst s.v) (aL blk' s.wr) L a' w'->Kept U blk' κ F w (aL blk' s.wr) κ' F' w'->a'.defers=a.defers->K a' w')->wpOpIn (FR (dA κ ro)) 0 P ops Q i K a w
 hdr:∀x∈s.seen.rh,(x.1∈s.seen.fb/\s.seen.rb=[]/\s.seen.wb=[])/\∃e t l,blk x.1=some (.row e t l)/\l.len'=x.2
theorem StepSem.fix{ro:Option Nat}{ops:Array Oper}{N N' i:Nat}{s:Stp}(h:StepSem P w0 env ro L ops N N' i s tmp blk)(h0:Ov (Option SB)):
  StepSem P w0 env ro L ops N N' i { s with seen:=s.seen.fix h0 } tmp blk:=by
 unfold Seen.fix;split
 ·exact h
 ·rename_i hk
  have hr:s.seen.rh≠[]:=fun hr=>hk (by unfold oQ;simp[hr])
  obtain⟨y,ys,hy⟩:=List.exists_cons_of_ne_nil hr;obtain⟨⟨_,hb,hw⟩,_⟩:=h.hdr y (by rw[hy];exact Na ..)
  refine⟨h.wb,h.lt,h.le,fun b hb'=>?_,h.all,h.dst,fun κ F U tmp' blk' a w K Q q1 q2 q3 q4 q5 _ q6=>?_,fun x hx=>(by cases hx)⟩
  ·have hb':b∈s.seen.wb:=hb'
   rw[hw]at hb';cases hb'
  ·refine h.run κ F U tmp' blk' a w K Q q1 q2 (fun b hb'=>?_) q4 q5 (fun x hx=>?_) q6
   ·rw[hb]at hb';cases hb'
   ·obtain⟨⟨hx1,_⟩,e,t,l,hx2,hx3⟩:=h.hdr x hx
    have:=rU q1 ((q3 x.1 hx1).trans hx2)
    rw[hx3]at this;exact this
def qj(P:Program)(w0:World)(env:List AV)(ro:Option Nat)(L:Nat)(ops:Array Oper)(N N' i:Nat)(v:Value)(tmp:Nat->SV)(blk blk':Nat->Option SB):Prop:=
 ∀(κ:Nat->Value) (F U:Nat->Prop) (a:Act) (w:World) (K:Act->World->Prop) (Q:Exit->Act->World->Prop),Rel w0 env κ F U tmp blk L a w->(∀b,N<=b->b<N'->¬U b)->(∀b,ro=some b->U b) →
  (∀κ' F' w',Rel w0 env κ' F' (fun b=>U b\/(N<=b/\b<N')) tmp blk' L a w'->Kept U blk κ F w blk' κ' F' w'->Q (.panic (gJ v)) a w')->wpOpIn (FR (dA κ ro)) 0 P ops Q i K a w
inductive Chain (P:Program) (w0:World) (env:List AV) (ro:Option Nat) (L:Nat) (ops:Array Oper):Nat->Nat->(Nat->SV)->(Nat->Option SB)->List Stp->Nat->(Nat->SV)->(Nat->Option SB)->Prop
 |nil (N i:Nat) (tmp:Nat->SV) (blk:Nat->Option SB):Chain P w0 env ro L ops N i tmp blk [] N tmp blk
 |cons {N N' N'' i:Nat} {tmp tmp'':Nat->SV} {blk blk'':Nat->Option SB} {s:Stp} {ss:List Stp} (h:StepSem P w0 env ro L ops N N' i s tmp blk) (r:Chain P w0 env ro L ops N' (i+1) (fG tmp s.seen.dst s.v) (aL blk s.wr) ss N'' tmp'' blk''):
  Chain P w0 env ro L ops N i tmp blk (s::ss) N'' tmp'' blk''
theorem Chain.le{ro:Option Nat}{ops:Array Oper}{N i N'':Nat}{tmp tmp'':Nat->SV}{blk blk'':Nat->Option SB}{ss:List Stp}(h:Chain P w0 env ro L ops N i tmp blk ss N'' tmp'' blk''):N<=N'':=by
 induction h with
 |nil=>exact Nf _
 |cons h _ ih=>exact NV h.le ih
theorem Chain.ops{ro:Option Nat}{ops:Array Oper}{N i N'':Nat}{tmp tmp'':Nat->SV}{blk blk'':Nat->Option SB}{ss:List Stp}(h:Chain P w0 env ro L ops N i tmp blk ss N'' tmp'' blk''):
  ∀ {κ:Nat->Value} {F U:Nat->Prop} {a:Act} {w:World} {Q:Exit->Act->World->Prop},Rel w0 env κ F U tmp blk L a w->(∀b,N<=b->b<N''->¬U b)->(∀b,ro=some b->U b) →
   (∀κ' F' a' w',Rel w0 env κ' F' (fun b=>U b\/(N<=b/\b<N'')) tmp'' blk'' L a' w'->Kept U blk κ F w blk'' κ' F' w'->a'.defers=a.defers->Q .normal a' w')->wpOpsIn (FR (dA κ ro)) 0 P ops Q (NI i ss.length) a w:=by
 induction h with
 |nil N i tmp blk=>intro κ F U a w Q hr _ _ hQ;exact hQ _ _ _ _ (hr.monoU (fun b hb=>.inl hb)) Kept.refl rfl
 | cons h r ih=>
  rename_i N N' N'' i tmp tmp'' blk blk'' s ss
  intro κ F U a w Q hr hU hro hQ;have hle:=h.le;have hle2:=r.le;rw[Om,NH,wpOpsIn_cons];refine h.run κ F U tmp blk a w _ Q hr (fun _ _=>rfl) (fun _ _=>rfl) (fun b h1 h2=>hU b h1 (by omega)) hro (fun x hx=>by
   obtain⟨_,e,t,l,h1,h2⟩:=h.hdr x hx;have:=rU hr h1
   rw[h2]at this;exact this) (fun κ' F' a' w' hr' k' hd'=>?_)
  rw[<-di (κ:=κ) (κ':=κ') (ro:=ro) (fun b hb=>k'.kap b (hro b hb))]
  refine ih hr' (fun b h1 h2 hb=>?_) (fun b hb=>.inl (hro b hb)) (fun κ2 F2 a2 w2 h2 k2 d2=>hQ κ2 F2 a2 w2 (h2.monoU (fun b hb=>?_)) (k'.trans k2 (fun b hb=>.inl hb)) (d2.trans hd'))
  ·rcases hb with hb|hb
   ·exact hU b (by omega) h2 hb
   ·omega
  ·rcases hb with(hb|hb)|hb
   ·exact .inl hb
   ·exact .inr ⟨hb.1,by omega⟩
   ·exact .inr ⟨by omega,hb.2⟩
theorem wm{σ:SS}{o:Oper}{v:SV}{wr:List (Nat×Option SB)}(h:xx σ o v wr=true)(hU:∀x∈o.op.operands,∀b∈(σ.ev x).names,U b)(hB:∀x∈o.op.operands,∀b∈(σ.ev x).names,∀y,σ.blk b=some y->∀c∈y.names,U c):
  (∀b∈v.names,U b\/b∈wr.map (·.1))/\∀x∈wr,((x.1∈bx σ.ev o/\U x.1/\x.1<σ.N)\/x.1=σ.N)/\m7 x.2=true:=by
 have hft:∀b∈bx σ.ev o,U b:=fun b hb=>by
  unfold bx at hb;obtain⟨x,hx,hb⟩:=List.mem_flatMap.1 hb;exact hU x (by simpa using hx) b hb
 unfold xx at h;simp only[M9,NC]at h;obtain⟨h1,h2⟩:=h;refine⟨fun b hb=>?_,fun x hx=>?_⟩
 ·have:=h1 b hb
  simp only[NW,Np,decide_eq_true_eq]at this;rcases this with(h3|h3)|h3
  ·exact .inl (hft b h3)
  ·obtain⟨c,hc,hb⟩:=List.mem_flatMap.1 h3
   unfold bx at hc;obtain⟨x,hx,hc⟩:=List.mem_flatMap.1 hc;split at hb
   ·rename_i y hy
    exact .inl (hB x (by simpa using hx) c hc y hy b hb)
   ·cases hb
  ·exact .inr h3
 ·obtain⟨⟨h3,h4⟩,_⟩:=h2 x hx
  simp only[NJ,M9,NW,decide_eq_true_eq,beq_iff_eq]at h3;refine⟨?_,h4⟩
  rcases h3 with h3|h3
  ·exact .inl ⟨h3.1,hft _ h3.1,h3.2⟩
  ·exact .inr h3
def cc(ops:Array Oper)(o:Oper)(tmp:Nat->SV)(env:List AV)(b:Bool):Prop:=
 match o.guard with
 |none=>b=true
 |some (j,want)=>∃d,(ops[j]?).bind (·.dst)=some d/\((∃e,tmp d=.vb e/\b=decide ((den env e).b=want))\/(tmp d=.nil/\b=false))
theorem fc{ops:Array Oper}{o:Oper}{b:Bool}(h:Rel w0 env κ F U tmp blk L a w){tmp₀:Nat->SV}(hw:cc ops o tmp₀ env b)(ht:∀t∈bm ops o,tmp t=tmp₀ t):Region.wanted o (yielded ops a.tmps)=b:=by
 unfold cc at hw;unfold Region.wanted;split at hw
 ·rename_i hg;rw[hg];exact hw.symm
 ·rename_i j want hg
  obtain⟨d,h1,⟨e,h2,rfl⟩|⟨h2,rfl⟩⟩:=hw
  rotate_left
  ·rw[hg]
   have h3:tmp d=.nil:=by rw[ht d (by unfold bm;rw[hg];refine Nb _ ?_;simp only[h1];simp),h2]
   have h4:=h.tmps d;rw[h3]at h4;have h5:∀c,a.tmps[d]?≠some (.bool c):=fun c hc=>by
    have h6:a.tmps.getD d undef=_:=h4
    obtain⟨hlt,h7⟩:=Array.getElem?_eq_some_iff.1 hc;simp[NL,hlt,h7]at h6
   have h7:yielded ops a.tmps j=none:=by
    unfold yielded;rw[h1];show(match a.tmps[d]? with|some (.bool b)=>some b|_=>none)=none
    cases hq:a.tmps[d]? with
    |none=>rfl
    |some v=>
     cases v with
     |bool c=>exact absurd hq (h5 c)
     |_=>rfl
   show(yielded ops a.tmps j==some want)=false
   rw[h7];rfl
  rw[hg];have h3:tmp d=.vb e:=by rw[ht d (by unfold bm;rw[hg];refine Nb _ ?_;simp only[h1];simp),h2]
  have h4:=h.tmps d;rw[h3]at h4;have h5:a.tmps[d]?=some (.bool (den env e).b):=by
   have h6:=h4.1;unfold NL at h6;split at h6
   ·rename_i hlt
    rw[Nk hlt];congr 1
   ·cases h6
  simp only[yielded,h1,N5,h5];cases(den env e).b<;>cases want<;>rfl
theorem eZ{ops:Array Oper}{o:Oper}{tmp₀:Nat->SV}(ht:∀t∈bm ops o,tmp t=tmp₀ t):∀x∈o.op.operands,ag tmp x=ag tmp₀ x:=by
 intro x hx;cases x with
 |tmp t=>exact ht t (by unfold bm;refine Ng _ (List.mem_filterMap.2 ⟨.tmp t,by simpa using hx,rfl⟩))
 |_=>rfl
theorem fu{con:Nat->Bool}{own:Bool}{tr:E->Option Bool}{nm:Nat}{ev:Operand->SV}{bk:Nat->Option SB}{o:Oper}{x:Out}(h:cr P con own tr nm ev bk o=x)(hx:∀m,x≠.no m):∀c,o.op≠.defer c:=fun c hc=>by
 subst h;have e:fR P own nm ev bk o=none:=by unfold fR;rw[hc]
 unfold cr at hx;rw[e]at hx;have e2:∀(ev':Operand->SV) (bk':Nat->Option SB),oF P con nm ev' bk' o=none:=fun _ _=>by unfold oF;rw[hc]
 unfold jS at hx;simp only[e2]at hx;unfold ij at hx;rw[hc]at hx;exact hx _ rfl
theorem Chain.opsP{ro:Option Nat}{ops:Array Oper}{N i N'' N3:Nat}{tmp tmp'':Nat->SV}{blk blk'' blk3:Nat->Option SB}{ss:List Stp}{v:Value}(h:Chain P w0 env ro L ops N i tmp blk ss N'' tmp'' blk'')(hp:qj P w0 env ro L ops N'' N3 (i+ss.length) v tmp'' blk'' blk3)(hN3:N''<=N3):
  ∀ {κ:Nat->Value} {F U:Nat->Prop} {a:Act} {w:World} {Q:Exit->Act->World->Prop},Rel w0 env κ F U tmp blk L a w->(∀b,N<=b->b<N3->¬U b)->(∀b,ro=some b->U b) →
   (∀κ' F' a' w',Rel w0 env κ' F' (fun b=>U b\/(N<=b/\b<N3)) tmp'' blk3 L a' w'->Kept U blk κ F w blk3 κ' F' w'->a'.defers=a.defers->Q (.panic (gJ v)) a' w')->∀rest,wpOpsIn (FR (dA κ ro)) 0 P ops Q (NI i (ss.length+1+rest)) a w:=by
 induction h with
 |nil N i tmp blk=>
  intro κ F U a w Q hr hU hro hQ rest;rw[show([]:List Stp).length+1+rest=rest+1 by simp;omega,NH,wpOpsIn_cons]
  exact hp κ F U a w _ Q hr hU hro (fun κ' F' w' r k=>hQ κ' F' a w' r k rfl)
 | cons h r ih=>
  rename_i N N' N'' i tmp tmp'' blk blk'' s ss
  intro κ F U a w Q hr hU hro hQ rest;have hle:=h.le;have hle2:=r.le;rw[show(s::ss).length+1+rest=(ss.length+1+rest)+1 by simp;omega,NH,wpOpsIn_cons]
  refine h.run κ F U tmp blk a w _ Q hr (fun _ _=>rfl) (fun _ _=>rfl) (fun b h1 h2=>hU b h1 (by omega)) hro (fun x hx=>by
   obtain⟨_,e,t,l,h1,h2⟩:=h.hdr x hx;have:=rU hr h1
   rw[h2]at this;exact this) (fun κ' F' a' w' hr' k' hd'=>?_)
  rw[<-di (κ:=κ) (κ':=κ') (ro:=ro) (fun b hb=>k'.kap b (hro b hb))]
  refine ih (by rw[show i+1+ss.length=i+(s::ss).length by simp;omega];exact hp) hN3 hr' (fun b h1 h2 hb=>?_) (fun b hb=>.inl (hro b hb)) (fun κ2 F2 a2 w2 h2 k2 d2=>hQ κ2 F2 a2 w2 (h2.monoU (fun b hb=>?_)) (k'.trans k2 (fun b hb=>.inl hb)) (d2.trans hd')) rest
  ·rcases hb with hb|hb
   ·exact hU b (by omega) h2 hb
   ·omega
  ·rcases hb with(hb|hb)|hb
   ·exact .inl hb
   ·exact .inr ⟨hb.1,by omega⟩
   ·exact .inr ⟨by omega,hb.2⟩
theorem K6{cons:Nat->Bool}{own:Bool}{ro:Option Nat}(hfit:PFit P){ops:Array Oper}{i:Nat}{o:Oper}(ho:ops[i]?=some o){σ σ₁:SS}{n:Nat}(hk:KnownOK env n σ₁.known){needs:List E}{v:SV}{wr:List (Nat×Option SB)}(hc:cr P cons own σ₁.tr σ.N σ.ev σ.blk o=.ok needs v wr)
  (hn:∀e∈needs,(den env e).b=true) (hok:xx σ o v wr=true) (hd:∀d,o.dst=some d->d<σ.L) (hw:cc ops o σ.tmp env true):
  ji σ.N (f9 σ.N wr)/\StepSem P w0 env ro σ.L ops σ.N (cu σ.N (f9 σ.N wr)) i ⟨v,f9 σ.N wr,{ rt:=bm ops o,rb:=bx σ.ev o,dst:=o.dst,wb:=(f9 σ.N wr).map (·.1) }⟩ σ.tmp σ.blk:=by
 obtain⟨_,o2⟩:=wm (U:=fun _=>True) hok (fun _ _ _ _=>trivial) (fun _ _ _ _ _ _ _ _=>trivial)
 have key:∀(wr:List (Nat×Option SB)),(∀x∈wr,x.1<=σ.N)->ji (σ.N+1) wr/\cu (σ.N+1) wr=σ.N+1:=by
  intro wr;induction wr with
  |nil=>intro _;exact⟨trivial,rfl⟩
  |cons x wr ih=>
   intro h;have hx:=h x (Na ..);have e:max (σ.N+1) (x.1+1)=σ.N+1:=by omega
   obtain⟨h1,h2⟩:=ih (fun y hy=>h y (Nc _ hy))
   exact⟨⟨by omega,by rw[e];exact h1⟩,by simp only[cu,e];exact h2⟩
 have hle:∀x∈wr,x.1<=σ.N:=fun x hx=>by rcases(o2 x hx).1 with h|h<;>omega
 obtain⟨k1,k2⟩:=key wr hle;have hpad:ji σ.N (f9 σ.N wr)/\(wr≠[]->cu σ.N (f9 σ.N wr)=σ.N+1)/\(wr=[]->cu σ.N (f9 σ.N wr)=σ.N)/\(∀x∈f9 σ.N wr,x∈wr\/x=(σ.N,none)):=by
  cases wr with
  |nil=>exact⟨trivial,fun h=>absurd rfl h,fun _=>rfl,fun x hx=>by cases hx⟩
  | cons y wr=>
   have e:max σ.N (σ.N+1)=σ.N+1:=by omega
   refine⟨⟨Nf _,?_⟩,fun _=>?_,(fun h=>by cases h),fun x hx=>?_⟩
   ·show ji (max σ.N (σ.N+1)) _
    rw[e];exact k1
   ·show cu (max σ.N (σ.N+1)) _=_
    rw[e];exact k2
   ·rcases List.mem_cons.1 hx with hx|hx
    ·exact .inr hx
    ·exact .inl hx
 obtain⟨p1,p2,p3,p4⟩:=hpad;obtain⟨w2,w3⟩:=yH (f9 σ.N wr) σ.N;refine⟨p1,rfl,fun b hb=>?_,w2,fun b hb=>?_,fun b h1 h2=>?_,hd,fun κ F U tmp' blk' a w K Q h ht hb hf hro _ hK=>?_,fun x hx=>(by cases hx)⟩
 ·obtain⟨x,hx,rfl⟩:=List.mem_map.1 hb
  exact w3 x hx
 ·obtain⟨x,hx,rfl⟩:=List.mem_map.1 hb
  rcases p4 x hx with h1|h1
  ·rcases(o2 x h1).1 with h2|h2
   ·exact .inl h2.1
   ·exact .inr (by omega)
  ·rw[h1];exact .inr (Nf _)
 ·by_cases hne:wr=[]
  ·rw[p3 hne]at h2;omega
  ·rw[p2 hne]at h2
   have:b=σ.N:=by omega
   subst this;cases wr with
   |nil=>exact absurd rfl hne
   |cons y wr=>exact Na ..
 ·have hev:∀x∈o.op.operands,ag tmp' x=σ.ev x:=fun x hx=>by rw[jh];exact eZ ht x hx
  have hbk:∀x∈o.op.operands,∀b∈(σ.ev x).names,blk' b=σ.blk b:=fun x hx b hb'=>hb b (by unfold bx;exact List.mem_flatMap.2 ⟨x,by simpa using hx,hb'⟩)
  have hc':cr P cons own σ₁.tr σ.N (ag tmp') blk' o=.ok needs v wr:=by rw[lT hev hbk];exact hc
  have hU:wr≠[]->¬U σ.N:=fun hne=>hf _ (Nf _) (by rw[p2 hne];omega)
  obtain⟨u,w',κ',F',hr,hrel,hv,kp⟩:=IR hfit h (fun e b hb=>nI hk hb) hU hc' hn
  obtain⟨q1,q2⟩:=wm (U:=U) hok (fun x hx b hb=>by rw[<-hev x hx]at hb;exact h.evNames x b hb) (fun x hx b hb' y hy c hc=>by
   rw[<-hbk x hx b hb']at hy;exact(h.bnames b y hy).2 c hc)
  have hUN:∀b,(U b\/∃x∈wr,x.1=b)->(U b\/(σ.N<=b/\b<cu σ.N (f9 σ.N wr))):=fun b hb=>by
   rcases hb with hb|⟨x,hx,rfl⟩
   ·exact .inl hb
   ·rcases(q2 x hx).1 with h1|h1
    ·exact .inl h1.2.1
    ·refine .inr ⟨by omega,?_⟩
     rw[p2 (fun e=>by rw[e]at hx;cases hx)];omega
  have hput:=hrel.put (dst:=o.dst) (v:=v) (u:=u) hd hv (fun b hb'=>by
   rcases q1 b hb' with h1|h1
   ·exact .inl h1
   ·obtain⟨x,hx,rfl⟩:=List.mem_map.1 h1
    exact .inr ⟨x,hx,rfl⟩)
  have hsame:aL blk' (f9 σ.N wr)=aL blk' wr:=by
   cases wr with
   |nil=>rfl
   | cons y wr=>
    have:upd blk' σ.N none=blk':=by
     funext b
     by_cases e:b=σ.N
     ·subst e
      rw[ak];cases hh:blk' σ.N with
      |none=>rfl
      |some y=>exact absurd (h.bnames _ y hh).1 (hU (by simp))
     ·rw[ah e]
    show aL (upd blk' σ.N none) _=_
    rw[this]
  have hgo:=hK κ' F' (a.put o.dst u) w' (by rw[hsame];exact hput.monoU hUN) (by rw[hsame];exact kp) (by cases o.dst<;>rfl)
  unfold wpOpIn;rw[ho];simp only
  rw[if_pos (fc h hw ht)];exact uk (fu hc' (fun m hm=>by cases hm)) hr hgo
theorem IS{cons:Nat->Bool}{own:Bool}{ro:Option Nat}{ops:Array Oper}{i:Nat}{o:Oper}(ho:ops[i]?=some o){σ σ₁:SS}{needs:List E}{v:SV}{wr:List (Nat×Option SB)}{rh:List (Nat×E)}(hc:cr P cons own σ₁.tr σ.N σ.ev σ.blk o=.ok needs v wr)
  (hn:∀e∈needs,(den env e).b=true) (hl:Ad σ o v wr=some rh) (hd:∀d,o.dst=some d->d<σ.L) (hw:cc ops o σ.tmp env true):
  wr=[]/\StepSem P w0 env ro σ.L ops σ.N σ.N i ⟨v,[],{ rt:=bm ops o,rb:=[],dst:=o.dst,wb:=[],rh:=rh,fb:=bx σ.ev o }⟩ σ.tmp σ.blk:=by
 unfold Ad at hl;split at hl
 rotate_left
 ·cases hl
 refine⟨rfl,?_⟩
 split at hl
 ·
  rename_i x hop
  split at hl
  ·rename_i b c hx
   split at hl
   ·rename_i hbc
    cases hl
    have hbc:b=c:=Oe hbc
    subst hbc;refine⟨rfl,fun b hb=>(by cases hb),Nf _,fun b hb=>(by cases hb),fun b h1 h2=>(by omega),hd,fun κ F U tmp' blk' a w K Q h ht hb hf hro _ hK=>?_,fun x hx=>(by cases hx)⟩
    have hev:=eZ ht x (by rw[hop];simp[Op.operands])
    rw[<-jh,hx]at hev;have hv:=h.ev x;have hnm:=h.evNames x;rw[hev]at hv hnm;have hput:=h.put (dst:=o.dst) (v:=.row b) (u:=a.eval x) hd hv hnm;have hgo:=hK κ F (a.put o.dst (a.eval x)) w (hput.monoU fun b hb=>.inl hb) Kept.refl (by cases o.dst<;>rfl)
    unfold wpOpIn;rw[ho];simp only
    rw[if_pos (fc h hw ht)];exact uk (fu hc (fun m hm=>by cases hm)) (.inl (by simp[execOp,hop])) hgo
   ·cases hl
  ·cases hl
 ·
  rename_i t x ix hop
  split at hl
  ·rename_i b c ty i' k hx
   have hxx:=hx;split at hl
   ·rename_i e ty' l hb
    split at hl
    ·rename_i hbc
     cases hl
     have hbc:b=c:=Oe hbc
     subst hbc;have hfz:bq σ.blk (frz P cons own σ.ev σ.blk o)=[]:=by unfold frz;rw[hop];rfl
     have hnod:=fu hc (fun m hm=>by cases hm)
     have hc0:∃wr0,ij P cons σ₁.tr σ.N (fun x=>nz σ.blk (σ.ev x)) σ.blk o=.ok needs (.rptr b ty i' k) wr0:=by
      have hfo:fR P own σ.N σ.ev σ.blk o=none:=by unfold fR;rw[hop]
      unfold cr at hc;rw[hfo]at hc;simp only[hfz,aL,Ow]at hc;have hs:oF P cons σ.N (fun x=>nz σ.blk (σ.ev x)) σ.blk o=none:=by
       unfold oF;rw[hop];simp only[hx,nz,hb];rfl
      have hcore:jS P cons σ₁.tr σ.N (fun x=>nz σ.blk (σ.ev x)) σ.blk o=ij P cons σ₁.tr σ.N (fun x=>nz σ.blk (σ.ev x)) σ.blk o:=by
       unfold jS;rw[hs]
      rw[hcore]at hc;split at hc
      ·rename_i h0
       simp only[Out.ok.injEq]at hc;obtain⟨rfl,rfl,_⟩:=hc;exact⟨_,h0⟩
      ·cases hc
      ·exact⟨_,hc⟩
     clear hc
     obtain⟨wr0,hc⟩:=hc0;unfold ij at hc;rw[hop]at hc;simp only[hx,nz,hb]at hc;unfold gD at hc;split at hc
     rotate_left
     ·cases hc
     rename_i j hj
     have hj':σ.ev ix=.vi j:=by
      cases hh:σ.ev ix with
      |row q=>
       rw[hh]at hj;simp only[nz]at hj;split at hj<;>cases hj
      |_=>rw[hh]at hj;simp only[nz]at hj<;>first|exact hj|cases hj
     obtain⟨et,hu⟩:∃et,P.underlying t=some (.slice et):=by
      cases hu:P.underlying t with
      |none=>rw[hu]at hc;cases hc
      |some d=>cases d with
       |slice et=>exact⟨et,rfl⟩
       |_=>rw[hu]at hc;cases hc
     rw[hu]at hc;simp only[hb]at hc;split at hc
     ·rename_i e2 ty2 l2 et2 r2 hh1 hh2
      cases hh1
      split at hc
      ·rename_i hr2
       subst hr2;simp only[Out.ok.injEq,SV.rptr.injEq]at hc;obtain⟨rfl,⟨-,rfl,rfl,rfl⟩,-⟩:=hc;refine⟨rfl,fun b hb=>(by cases hb),Nf _,fun b hb=>(by cases hb),fun b h1 h2=>(by omega),hd,fun κ F U tmp' blk' a w K Q h ht hb' hf hro hsl hK=>?_,fun z hz=>?_⟩
       ·have ex:=eZ ht x (by rw[hop];simp[Op.operands])
        have ei:=eZ ht ix (by rw[hop];simp[Op.operands])
        rw[<-jh,hx]at ex;rw[<-jh,hj']at ei;have vx:=h.ev x;have vi:=h.ev ix;have hnm:=h.evNames x;rw[ex]at vx hnm;rw[ei]at vi;have n1:=aK (aA fun e he=>hn e (Ng _ he))
        have n2:=aK (aA fun e he=>hn e (Nb _ he))
        have n1:0<=(den env j).i:=of_decide_eq_true n1
        have n2:(den env j).i<(den env l.len').i:=of_decide_eq_true n2
        obtain⟨g,m,cp,s1,s2⟩:=hsl _ (List.mem_singleton.2 rfl) (by show 0<(den env l.len').i;omega)
        have s2:(m:Int)=(den env l.len').i:=s2
        obtain⟨u1,u2,u3,_,u5,_,_⟩:=bn hh2;have hlt:(den env j).i<(m:Int):=by omega
        have hsz:=bB (w:=w) u5;have vx1:a.eval x=.slice (some ⟨g,0,none⟩) m cp:=vx.1.trans s1
        have run:bL P o a w (.pointer (some ((⟨g,0,none⟩:Addr).add ((den env j).i.toNat*r2.len)))) w:=.inl (by
         simp only[execOp,hop,vx1,vi.1,Instr.indexAt,asIntOf,run_underlying u1,Sem.run_bind,Sem.run_pure,Result.andThen_ok];simp[n1,hlt,hsz,u2])
        have hput:=h.put (dst:=o.dst) (v:=.rptr b r2 j 0) (u:=.pointer (some ((⟨g,0,none⟩:Addr).add ((den env j).i.toNat*r2.len)))) hd ⟨g,0,m,cp,s1,n1,hlt,rfl⟩ (fun c hc=>hnm c hc)
        have hgo:=hK κ F _ w (hput.monoU fun b hb=>.inl hb) Kept.refl (by cases o.dst<;>rfl)
        unfold wpOpIn;rw[ho];simp only
        rw[if_pos (fc h hw ht)];refine uk (fun c hc=>?_) run hgo
        rw[hop]at hc;cases hc
       ·rw[List.mem_singleton.1 hz]
        refine⟨⟨?_,rfl,rfl⟩,_,_,_,hb,rfl⟩
        unfold bx;rw[hop];exact List.mem_flatMap.2 ⟨x,by simp[Op.operands],by rw[hxx];simp[SV.names]⟩
      ·cases hc
     ·rename_i hh1 _
      cases hh1
     ·cases hc
    ·cases hl
   ·cases hl
  ·cases hl
 ·cases hl
theorem ID{ro:Option Nat}{ops:Array Oper}{i:Nat}{o:Oper}(ho:ops[i]?=some o){σ:SS}(hd:∀d,o.dst=some d->d<σ.L)(hw:cc ops o σ.tmp env false):
  StepSem P w0 env ro σ.L ops σ.N σ.N i ⟨.nil,[],{ rt:=bm ops o,rb:=[],dst:=o.dst,wb:=[] }⟩ σ.tmp σ.blk:=by
 refine⟨rfl,fun b hb=>(by cases hb),Nf _,fun b hb=>(by cases hb),fun b h1 h2=>(by omega),hd,fun κ F U tmp' blk' a w K Q h ht hb hf hro _ hK=>?_,fun x hx=>(by cases hx)⟩
 unfold wpOpIn;rw[ho];simp only
 rw[if_neg (by rw[fc h hw ht];simp)]
 exact⟨fun _ _=>trivial,hK κ F _ w ((h.put (dst:=o.dst) (v:=.nil) (u:=undef) hd rfl (fun b hb=>by cases hb)).monoU (fun b hb=>.inl hb)) Kept.refl (by cases o.dst<;>rfl)⟩
theorem FK:∀(sh:RS) (n m:Nat),(mkRes sh n m).2.map (·.1)=NI m (mkRes.RS.cnt sh).2/\∀b∈(mkRes sh n m).1.names,m<=b/\b<m+(mkRes.RS.cnt sh).2:=by
 intro sh;induction sh with
 |i=>intro n m;exact⟨rfl,fun b hb=>(by cases hb)⟩
 |b=>intro n m;exact⟨rfl,fun b hb=>(by cases hb)⟩
 |nk k=>intro n m;exact⟨rfl,fun b hb=>(by cases hb)⟩
 |st=>intro n m;exact⟨rfl,fun b hb=>(by cases hb)⟩
 | row e t=>
  intro n m;by_cases hg:given e=true
  ·simp only[mkRes,mkRes.RS.cnt,if_pos hg]
   exact⟨rfl,fun b hb=>by cases hb⟩
  ·simp only[mkRes,mkRes.RS.cnt,if_neg hg]
   exact⟨rfl,fun b hb=>by simp[SV.names]at hb;subst hb;simp⟩
 |nil=>intro n m;exact⟨rfl,fun b hb=>(by cases hb)⟩
 | cons x y ih1 ih2=>
  intro n m;obtain⟨a1,a2⟩:=ih1 n m;obtain⟨c1,c2⟩:=ih2 (n+(mkRes.RS.cnt x).1) (m+(mkRes.RS.cnt x).2);refine⟨?_,fun b hb=>?_⟩
  ·simp only[mkRes,N7,a1,c1,mkRes.RS.cnt]
   rw[NU]
  ·simp only[mkRes,SV.names,Np]at hb
   simp only[mkRes.RS.cnt];rcases hb with hb|hb
   ·have:=a2 b hb;omega
   ·have:=c2 b hb;omega
 |agg x ih=>intro n m;exact ih n m
 |tup x ih=>intro n m;exact ih n m
theorem DQ:∀(l:List (Nat×Option SB)) (N c:Nat),l.map (·.1)=NI N c->ji N l/\cu N l=N+c
 |[],N,c,h=>by
  cases c with
  |zero=>exact⟨trivial,rfl⟩
  |succ c=>simp[NH]at h
 | x::l,N,c,h=>by
  cases c with
  |zero=>simp at h
  |succ c=>
   rw[NH]at h;simp only[Ny,List.cons.injEq]at h;obtain⟨h1,h2⟩:=DQ l (N+1) c h.2;have e:max N (x.1+1)=N+1:=by omega
   refine⟨⟨by omega,by rw[e];exact h1⟩,?_⟩
   simp only[cu,e,h2];omega
theorem E3:∀(l m:List (Nat×Option SB)) (N:Nat),(∀x∈l,x.1<N)->ji N m->ji N (l++m)/\cu N (l++m)=cu N m
 |[],m,N,_,h=>⟨h,rfl⟩
 |x::l,m,N,hl,h=>by
  have hx:=hl x (Na ..);have e:max N (x.1+1)=N:=by omega
  obtain⟨h1,h2⟩:=E3 l m N (fun y hy=>hl y (Nc _ hy)) h
  exact⟨⟨by omega,by rw[e];exact h1⟩,by simp only[List.cons_append,cu,e];exact h2⟩
theorem Jy{cons:Nat->Bool}{own:Bool}{ro:Option Nat}(hfit:PFit P){ops:Array Oper}{i:Nat}{o:Oper}(ho:ops[i]?=some o){σ σ₁:SS}{f:Nat}{args:E}{sh:RS}{wr:List (Nat×Option SB)}(hc:cr P cons own σ₁.tr σ.N σ.ev σ.blk o=.call f args sh wr){r:R}(hr:r.shape=sh)(hcon:Con P f (den env args).g r)
  {n:Nat} (henv:∀(j:Nat) x,r.leaves[j]?=some x->env[n+j]?=some x) (hd:∀d,o.dst=some d->d<σ.L) (hwr:∀x∈wr,x.1∈bx σ.ev o/\x.1<σ.N) (hw:cc ops o σ.tmp env true):
  ji σ.N (wr++(mkRes sh n σ.N).2)/\StepSem P w0 env ro σ.L ops σ.N (cu σ.N (wr++(mkRes sh n σ.N).2)) i ⟨(mkRes sh n σ.N).1,wr++(mkRes sh n σ.N).2,{ rt:=bm ops o,rb:=bx σ.ev o,dst:=o.dst,wb:=(wr++(mkRes sh n σ.N).2).map (·.1) }⟩ σ.tmp σ.blk:=by
 obtain⟨n1,n2⟩:=FK sh n σ.N;obtain⟨r1,r2⟩:=DQ _ _ _ n1;obtain⟨l1,l2⟩:=E3 wr (mkRes sh n σ.N).2 σ.N (fun x hx=>(hwr x hx).2) r1
 obtain⟨w2,w3⟩:=yH (wr++(mkRes sh n σ.N).2) σ.N;have hN:cu σ.N (wr++(mkRes sh n σ.N).2)=σ.N+(mkRes.RS.cnt sh).2:=l2.trans r2
 have hmem:∀x∈(mkRes sh n σ.N).2,σ.N<=x.1/\x.1<σ.N+(mkRes.RS.cnt sh).2:=fun x hx=>by
  have:x.1∈(mkRes sh n σ.N).2.map (·.1):=List.mem_map.2 ⟨x,hx,rfl⟩
  rw[n1,Nz]at this;exact this
 refine⟨l1,rfl,fun b hb=>?_,w2,fun b hb=>?_,fun b h1 h2=>?_,hd,fun κ F U tmp' blk' a w K Q h ht hb hf hro _ hK=>?_,fun x hx=>(by cases hx)⟩
 ·obtain⟨x,hx,rfl⟩:=List.mem_map.1 hb
  exact w3 x hx
 ·obtain⟨x,hx,rfl⟩:=List.mem_map.1 hb
  rcases List.mem_append.1 hx with hx|hx
  ·exact .inl (hwr x hx).1
  ·exact .inr (hmem x hx).1
 ·rw[hN]at h2
  show b∈(wr++(mkRes sh n σ.N).2).map (·.1)
  rw[N7,n1];exact Nb _ (List.mem_range'_1.2 ⟨h1,h2⟩)
 ·have hev:∀x∈o.op.operands,ag tmp' x=σ.ev x:=fun x hx=>by rw[jh];exact eZ ht x hx
  have hbk:∀x∈o.op.operands,∀b∈(σ.ev x).names,blk' b=σ.blk b:=fun x hx b hb'=>hb b (by unfold bx;exact List.mem_flatMap.2 ⟨x,by simpa using hx,hb'⟩)
  have hc':cr P cons own σ₁.tr σ.N (ag tmp') blk' o=.call f args sh wr:=by rw[lT hev hbk];exact hc
  obtain⟨vs,hrun,hnd,hcall⟩:=GN hfit h hc' hr hcon (nm:=σ.N) henv (fun b h1 h2=>hf b h1 (by rw[hN];exact h2))
  unfold wpOpIn;rw[ho];simp only
  rw[if_pos (fc h hw ht)];refine wW hnd hrun hcall ?_
  rintro e w' ⟨u,κ',F',rfl,hrel,hv,kp⟩;refine⟨u,rfl,hK κ' F' _ w' ?_ kp (by cases o.dst<;>rfl)⟩
  have hput:=hrel.put (dst:=o.dst) (v:=(mkRes sh n σ.N).1) (u:=u) hd hv (fun b hb'=>by
   right
   have:b∈(mkRes sh n σ.N).2.map (·.1):=by rw[n1,Nz];exact n2 b hb'
   obtain⟨x,hx,rfl⟩:=List.mem_map.1 this;exact⟨x,Nb _ hx,rfl⟩)
  refine hput.monoU (fun b hb'=>?_)
  rcases hb' with h1|⟨x,hx,rfl⟩
  ·exact .inl h1
  ·rcases List.mem_append.1 hx with hx|hx
   ·left
    have:=(hwr x hx).1
    unfold bx at this;obtain⟨y,hy,hb⟩:=List.mem_flatMap.1 this;rw[<-hev y (by simpa using hy)]at hb
    exact h.evNames y _ hb
   ·exact .inr ⟨(hmem x hx).1,by rw[hN];exact(hmem x hx).2⟩
def dU(S:Nat->Bool):Nat->List Stp->(Nat->SV)->(Nat->SV)
 |_,[],t=>t
 |i,s::ss,t=>dU S (i+1) ss (if S i then fG t s.seen.dst s.v else t)
def cQ(S:Nat->Bool):Nat->List Stp->(Nat->Option SB)->(Nat->Option SB)
 |_,[],t=>t
 |i,s::ss,t=>cQ S (i+1) ss (if S i then aL t s.wr else t)
theorem HA{f:Nat->SV}{d:Option Nat}{x:SV}{t:Nat}(h:d≠some t):fG f d x t=f t:=by
 cases d with
 |none=>rfl
 |some d=>exact ah (fun e=>h (by rw[e]))
theorem CA{f:Nat->SV}{d:Nat}{x:SV}:fG f (some d) x d=x:=ak f d x
theorem gk(l:List (Nat×Option SB)):∀(f g:Nat->Option SB) (b:Nat),(b∈l.map (·.1)->aL f l b=aL g l b)/\(b∉l.map (·.1)->aL f l b=f b):=by
 induction l with
 |nil=>intro f g b;exact⟨fun h=>(by cases h),fun _=>rfl⟩
 | cons y l ih=>
  intro f g b;refine⟨fun h=>?_,fun h=>?_⟩
  ·show aL (upd f y.1 y.2) l b=aL (upd g y.1 y.2) l b
   by_cases hb:b∈l.map (·.1)
   ·exact(ih _ _ b).1 hb
   ·have hy:b=y.1:=by
     rcases List.mem_cons.1 h with h|h
     ·exact h
     ·exact absurd h hb
    rw[(ih _ g b).2 hb,(ih _ g b).2 hb,hy,ak,ak]
  ·show aL (upd f y.1 y.2) l b=f b
   rw[(ih _ g b).2 (fun hb=>h (Nc _ hb)),ah (fun e=>h (by rw[e];exact Na ..))]
theorem sV{S S':Nat->Bool}{t:Nat}:∀(ss:List Stp) (i:Nat) (f g:Nat->SV),f t=g t->(∀(j:Nat) s,ss[j]?=some s->s.seen.dst=some t->S (i+j)=S' (i+j))->dU S i ss f t=dU S' i ss g t
 |[],_,f,g,h,_=>h
 | s::ss,i,f,g,h,hs=>by
  refine sV ss (i+1) _ _ ?_ (fun j s' h1 h2=>by have:=hs (j+1) s' (by simpa using h1) h2;rw[show i+(j+1)=i+1+j by omega]at this;exact this)
  by_cases hd:s.seen.dst=some t
  ·have:=hs 0 s rfl hd
   rw[Nl]at this;rw[this];split
   ·rw[hd,CA,CA]
   ·exact h
  ·split<;>split<;>simp only[HA hd,h]
theorem sZ{S S':Nat->Bool}{b:Nat}:∀(ss:List Stp) (i:Nat) (f g:Nat->Option SB),f b=g b->(∀(j:Nat) s,ss[j]?=some s->b∈s.wr.map (·.1)->S (i+j)=S' (i+j))->cQ S i ss f b=cQ S' i ss g b
 |[],_,f,g,h,_=>h
 | s::ss,i,f,g,h,hs=>by
  refine sZ ss (i+1) _ _ ?_ (fun j s' h1 h2=>by have:=hs (j+1) s' (by simpa using h1) h2;rw[show i+(j+1)=i+1+j by omega]at this;exact this)
  by_cases hd:b∈s.wr.map (·.1)
  ·have:=hs 0 s rfl hd
   rw[Nl]at this;rw[this];split
   ·exact(gk s.wr f g b).1 hd
   ·exact h
  ·split<;>split<;>simp only[(gk s.wr _ f b).2 hd,h]
theorem CI{S:Nat->Bool}{k:Nat}{sk:Stp}:∀(ss:List Stp) (i:Nat) (f:Nat->SV),i<=k->ss[k-i]?=some sk->S k=false->(∀(j:Nat) s,ss[j]?=some s->i+j≠k->s.seen.dst=none\/s.seen.dst≠sk.seen.dst) →
  dU (fun j=>S j||decide (j=k)) i ss f=fG (dU S i ss f) sk.seen.dst sk.v
 |[],i,f,hi,hk,_,_=>by simp at hk
 | s :: ss,i,f,hi,hk,hS,hd=>by
  by_cases hik:i=k
  ·subst hik
   simp at hk;subst hk
   simp only[dU,hS,decide_true,Bool.or_true,if_true,Oj,if_false];have key:∀(ss:List Stp) (i':Nat) (f:Nat->SV),i<i'->(∀(j:Nat) s',ss[j]?=some s'->s'.seen.dst=none\/s'.seen.dst≠s.seen.dst) →
     dU (fun j=>S j||decide (j=i)) i' ss (fG f s.seen.dst s.v)=fG (dU S i' ss f) s.seen.dst s.v:=by
    intro ss;induction ss with
    |nil=>intro i' f _ _;rfl
    | cons x ss ih=>
     intro i' f hi' hx;simp only[dU];have e:decide (i'=i)=false:=by simp;omega
     simp only[e,NN];have hx0:=hx 0 x rfl;have comm:fG (fG f s.seen.dst s.v) x.seen.dst x.v=fG (fG f x.seen.dst x.v) s.seen.dst s.v:=by
      funext t
      cases hxd:x.seen.dst with
      |none=>rfl
      | some d=>
       cases hsd:s.seen.dst with
       |none=>rfl
       | some e=>
        have hne:d≠e:=by
         rcases hx0 with h|h
         ·rw[hxd]at h;cases h
         ·rw[hxd,hsd]at h;exact fun hh=>h (by rw[hh])
        simp only[fG,upd];by_cases h1:t=d<;>by_cases h2:t=e<;>simp[h1,h2]
        ·exact absurd (h1▸h2) hne
        ·exact fun hh=>absurd hh hne
        ·exact fun hh=>absurd hh.symm hne
     split
     ·rw[comm];exact ih (i'+1) _ (by omega) (fun j s' h=>hx (j+1) s' (by simpa using h))
     ·exact ih (i'+1) _ (by omega) (fun j s' h=>hx (j+1) s' (by simpa using h))
   exact key ss (i+1) f (by omega) (fun j s' h=>hd (j+1) s' (by simpa using h) (by omega))
  ·simp only[dU]
   have e:decide (i=k)=false:=by simp[hik]
   simp only[e,NN];exact CI ss (i+1) _ (by omega) (by rw[show k-i=(k-(i+1))+1 by omega]at hk;simpa using hk) hS (fun j s h1 h2=>hd (j+1) s (by simpa using h1) (by omega))
theorem Cv{S:Nat->Bool}{k:Nat}{sk:Stp}:∀(ss:List Stp) (i:Nat) (f:Nat->Option SB),i<=k->ss[k-i]?=some sk->S k=false->(∀(j:Nat) s,ss[j]?=some s->k<i+j->S (i+j)=true->∀b∈sk.wr.map (·.1),b∉s.wr.map (·.1)) →
  cQ (fun j=>S j||decide (j=k)) i ss f=aL (cQ S i ss f) sk.wr
 |[],i,f,hi,hk,_,_=>by simp at hk
 | s :: ss,i,f,hi,hk,hS,hd=>by
  by_cases hik:i=k
  ·subst hik
   simp at hk;subst hk
   simp only[cQ,hS,decide_true,Bool.or_true,if_true,Oj,if_false];have key:∀(ss:List Stp) (i':Nat) (f g:Nat->Option SB),i<i'->(∀b,g b=aL f s.wr b)->(∀(j:Nat) s',ss[j]?=some s'->S (i'+j)=true->∀b∈s.wr.map (·.1),b∉s'.wr.map (·.1)) →
     ∀b,cQ (fun j=>S j||decide (j=i)) i' ss g b=aL (cQ S i' ss f) s.wr b:=by
    intro ss;induction ss with
    |nil=>intro i' f g _ h _;exact h
    | cons x ss ih=>
     intro i' f g hi' h hx;simp only[cQ];have e:decide (i'=i)=false:=by simp;omega
     simp only[e,NN];refine ih (i'+1) _ _ (by omega) (fun b=>?_) (fun j s' h1 h2=>hx (j+1) s' (by simpa using h1) (by rw[show i'+(j+1)=i'+1+j by omega];exact h2))
     split
     ·rename_i hSi
      have hx0:=hx 0 x rfl (by rw[Nl];exact hSi)
      by_cases hb:b∈s.wr.map (·.1)
      ·rw[(gk x.wr g g b).2 (hx0 b hb),h b]
       exact(gk s.wr f _ b).1 hb
      ·rw[(gk s.wr _ f b).2 hb]
       by_cases hb2:b∈x.wr.map (·.1)
       ·exact(gk x.wr g f b).1 hb2
       ·rw[(gk x.wr g f b).2 hb2,(gk x.wr f f b).2 hb2,h b,(gk s.wr f f b).2 hb]
     ·exact h b
   funext b
   exact key ss (i+1) f _ (by omega) (fun _=>rfl) (fun j s' h1 h2=>hd (j+1) s' (by simpa using h1) (by omega) (by rw[show i+(j+1)=i+1+j by omega];exact h2)) b
  ·simp only[cQ]
   have e:decide (i=k)=false:=by simp[hik]
   simp only[e,NN];exact Cv ss (i+1) _ (by omega) (by rw[show k-i=(k-(i+1))+1 by omega]at hk;simpa using hk) hS (fun j s h1 h2 h3=>hd (j+1) s (by simpa using h1) (by omega) (by rw[show i+(j+1)=i+1+j by omega];exact h3))
theorem Jk{acc:List Nat}{o:Oper}{i:Nat}(h:(bG acc o).testBit i=true):∃e∈o.after.toList,Region.binds .any e=true/\(e.on=i\/(acc.getD e.on 0).testBit i=true):=by
 unfold bG at h;have key:∀(l:List Edge) (s:Nat),(l.foldl (fun s e=>if Region.binds .any e then s ||| 2 ^ e.on ||| acc.getD e.on 0 else s) s).testBit i=true->s.testBit i=true\/∃e∈l,Region.binds .any e=true/\(e.on=i\/(acc.getD e.on 0).testBit i=true):=by
  intro l;induction l with
  |nil=>intro s h;exact .inl h
  | cons e l ih=>
   intro s h;rw[Oq]at h;rcases ih _ h with h1|⟨e',he,h1⟩
   ·split at h1
    ·rename_i hb
     rw[Ox,Ox,NJ,NJ]at h1;rcases h1 with(h1|h1)|h1
     ·exact .inl h1
     ·exact .inr ⟨e,Na ..,hb,.inl (by rw[Nat.testBit_two_pow]at h1;simpa using h1)⟩
     ·exact .inr ⟨e,Na ..,hb,.inr h1⟩
    ·exact .inl h1
   ·exact .inr ⟨e',Nc _ he,h1⟩
 rcases key _ 0 h with h1|h1
 ·simp at h1
 ·exact h1
theorem Cu:∀(os:List Oper) (acc:List Nat) (j:Nat),j<acc.length->(cY os acc).getD j 0=acc.getD j 0
 |[],acc,j,h=>rfl
 |o::os,acc,j,h=>by
  rw[cY,Cu os _ j (by simp;omega)]
  simp[Nt,NA h]
theorem Av:∀(os:List Oper) (acc:List Nat) (j:Nat) (o:Oper),os[j]?=some o->(cY os acc).getD (acc.length+j) 0=bG ((cY os acc).take (acc.length+j)) o
 |[],acc,j,o,h=>by simp at h
 | x::os,acc,0,o,h=>by
  simp at h;subst h
  have hlen:∀(os:List Oper) (acc:List Nat),(cY os acc).take acc.length=acc:=by
   intro os;induction os with
   |nil=>intro acc;simp[cY]
   |cons y os ih=>
    intro acc;rw[cY];have:=ih (acc++[bG acc y])
    have h2:=congrArg (List.take acc.length) this;rw[List.take_take]at h2;simpa using h2
  rw[Nl,hlen];rw[cY,Cu os _ _ (by simp)]
  simp[Nt]
 |x::os,acc,j+1,o,h=>by
  have:=Av os (acc++[bG acc x]) j o (by simpa using h)
  rw[cY];rw[show(acc++[bG acc x]).length+j=acc.length+(j+1) by simp;omega]at this
  exact this
def Is(ops:Array Oper)(S:Nat->Bool):Prop:=∀j o,ops[j]?=some o->S j=true->∀e∈o.after.toList,Region.binds .any e=true->S e.on=true
theorem sO{ops:Array Oper}{S:Nat->Bool}(hS:Is ops S){i:Nat}:∀(j:Nat) (o:Oper),ops[j]?=some o->(∀e∈o.after.toList,Region.binds .any e=true->S e.on=true)->((cY ops.toList []).getD j 0).testBit i=true->S i=true:=by
 intro j;induction j using Ot with
 | _ j ih=>
  intro o ho he hm;have h1:=Av ops.toList [] j o (by simpa using ho)
  simp only[List.length_nil,NB]at h1;rw[h1]at hm;obtain⟨e,h2,h3,h4⟩:=Jk hm;rcases h4 with h4|h4
  ·rw[<-h4];exact he e h2 h3
  ·have hlt:e.on<j:=by
    rcases Oi e.on j with h|h
    ·exact h
    ·rw[Nt,List.getElem?_eq_none (by simp;omega)]at h4;simp at h4
   have h5:((cY ops.toList []).getD e.on 0).testBit i=true:=by
    rw[Nt,Nq,if_pos hlt]at h4;exact h4
   have hse:=he e h2 h3;cases hoe:ops[e.on]? with
   |some o'=>exact ih e.on hlt o' hoe (hS e.on o' hoe hse) h5
   |none=>
    have hl:ops.size<=e.on:=Array.getElem?_eq_none_iff.1 hoe
    have hjl:j<ops.size:=(Array.getElem?_eq_some_iff.1 ho).1
    omega
theorem Chain.get{ro:Option Nat}{ops:Array Oper}{N i N'':Nat}{tmp tmp'':Nat->SV}{blk blk'':Nat->Option SB}{ss:List Stp}(h:Chain P w0 env ro L ops N i tmp blk ss N'' tmp'' blk''):
  N<=N''/\tmp''=dU (fun _=>true) i ss tmp/\blk''=cQ (fun _=>true) i ss blk/\∀(j:Nat) s,ss[j]?=some s->∃Nj Nj',StepSem P w0 env ro L ops Nj Nj' (i+j) s (dU (fun k=>decide (k<i+j)) i ss tmp) (cQ (fun k=>decide (k<i+j)) i ss blk)/\N<=Nj/\Nj'<=N'' ∧
   (∀(k:Nat) s',k<j->ss[k]?=some s'->∀b∈s'.seen.wb,b<Nj):=by
 induction h with
 |nil N i tmp blk=>exact⟨Nf _,rfl,rfl,fun j s hs=>by simp at hs⟩
 | cons h r ih=>
  rename_i N N' N'' i tmp tmp'' blk blk'' s ss
  obtain⟨h1,h2,h3,h4⟩:=ih;have hle:=h.le;have pre:∀(ss:List Stp) (i0 i:Nat) (f:Nat->SV),i0<=i->dU (fun k=>decide (k<i0)) i ss f=f:=by
   intro ss;induction ss with
   |nil=>intro i0 i f _;rfl
   |cons x ss ih=>intro i0 i f hi;simp only[dU];rw[if_neg (by simp;omega)];exact ih _ _ _ (by omega)
  have preB:∀(ss:List Stp) (i0 i:Nat) (f:Nat->Option SB),i0<=i->cQ (fun k=>decide (k<i0)) i ss f=f:=by
   intro ss;induction ss with
   |nil=>intro i0 i f _;rfl
   |cons x ss ih=>intro i0 i f hi;simp only[cQ];rw[if_neg (by simp;omega)];exact ih _ _ _ (by omega)
  refine⟨by omega,by rw[h2];rfl,by rw[h3];rfl,fun j x hx=>?_⟩
  cases j with
  |zero=>
   simp at hx;subst hx
   refine⟨N,N',?_,Nf _,h1,fun k s' hk=>by omega⟩
   rw[Nl,pre _ _ _ _ (Nf _),preB _ _ _ _ (Nf _)];exact h
  | succ j=>
   obtain⟨Nj,Nj',g1,g2,g3,g4⟩:=h4 j x (by simpa using hx)
   refine⟨Nj,Nj',?_,by omega,g3,fun k s' hk hs=>?_⟩
   ·simp only[dU,cQ]
    rw[if_pos (by simp),if_pos (by simp),show i+(j+1)=i+1+j by omega]
    exact g1
   ·cases k with
    |zero=>simp at hs;subst hs;intro b hb;have:=h.lt b hb;omega
    |succ k=>exact g4 k s' (by omega) (by simpa using hs)
theorem pP{ms:List Nat}{l:List Seen}(h:nM ms l=true){i j:Nat}{x y:Seen}(hij:i<j)(hx:l[i]?=some x)(hy:l[j]?=some y):(x.dst=none\/x.dst≠y.dst)/\((ms.getD j 0).testBit i=true\/x.apart y=true):=by
 unfold nM at h;rw[NC]at h;have h1:=h (y,j) (by rw[NE];exact hy)
 simp only at h1
 rw[NC]at h1;have h2:=h1 (x,i) (by rw[NE];exact hx)
 simp only[NJ,N1,decide_eq_false_iff_not,M9,Option.isNone_iff_eq_none,bne_iff_ne,ne_eq]at h2;rcases h2 with h2|h2
 ·exact absurd hij h2
 ·exact h2
theorem jM{x y:Seen}(h:x.apart y=true):(∀d,x.dst=some d->d∉y.rt)/\(∀d,y.dst=some d->d∉x.rt)/\(∀b∈x.wb,b∉y.rb/\b∉y.wb)/\∀b∈x.rb,b∉y.wb:=by
 unfold Seen.apart at h;simp only[M9,NC,N1,NW,decide_eq_false_iff_not]at h;obtain⟨⟨⟨h1,h2⟩,h3⟩,h4⟩:=h;refine⟨fun d hd=>?_,fun d hd=>?_,fun b hb=>h3 b hb,fun b hb=>h4 b hb⟩
 ·rw[hd]at h1;simpa using h1
 ·rw[hd]at h2;simpa using h2
theorem Im{S:Nat->Bool}{i:Nat}(hS:S i=false):∀n,i<n->((NF n).filter (fun k=> !(S k||decide (k=i)))).length+1=((NF n).filter (fun k=> !S k)).length:=by
 intro n;induction n with
 |zero=>intro h;omega
 | succ n ih=>
  intro h;rw[List.range_succ,Ok,Ok,Nx,Nx];by_cases hin:i=n
  ·subst hin
   have:(NF i).filter (fun k=> !(S k||decide (k=i)))=(NF i).filter (fun k=> !S k):=List.filter_congr (fun k hk=>by
    have:k≠i:=by have:=List.mem_range.1 hk;omega
    simp[this])
   rw[this];simp[hS]
  ·have:=ih (by omega)
   have e:(decide (n=i))=false:=by simp;omega
   simp only[List.filter_cons,List.filter_nil,e,NN];omega
def aS(listed:Array Bool)(k:Nat):Bool:=listed.getD k false
theorem As{ops:Array Oper}{listed:Array Bool}(hl:listed.size=ops.size){i:Nat}(h:i∈Region.ready .any ops listed):i<ops.size/\aS listed i=false/\∃o,ops[i]?=some o/\∀e∈o.after.toList,Region.binds .any e=true->aS listed e.on=true:=by
 unfold Region.ready at h;rw[NX]at h;obtain⟨h1,h2⟩:=h;have hi:=List.mem_range.1 h1;rw[M9]at h2;refine⟨hi,?_,ops[i],Nk hi,fun e he hb=>?_⟩
 ·have h3:=h2.1
  unfold aS;unfold NL at h3⊢
  rw[dif_pos (by omega)]at h3⊢
  simpa using h3
 ·have h3:=h2.2
  rw[Nk hi]at h3;simp only[NQ,On]at h3;rw[Ol]at h3;have:=h3 e (by simpa using he)
  rw[hb]at this;simpa[aS]using this
theorem IZ{ops:Array Oper}{listed:Array Bool}(hl:listed.size=ops.size)(hE:iU ops.toList=true)(h:Region.ready .any ops listed=[]):∀k,k<ops.size->aS listed k=true:=by
 intro k;induction k using Ot with
 | _ k ih=>
  intro hk;cases hd:aS listed k with
  |true=>rfl
  | false=>
   exfalso
   have hmem:k∈Region.ready .any ops listed:=by
    unfold Region.ready;rw[NX];refine⟨List.mem_range.2 hk,?_⟩
    rw[M9];refine⟨?_,?_⟩
    ·unfold aS at hd
     unfold NL at hd⊢
     rw[dif_pos (by omega)]at hd⊢
     simp;exact hd
    ·rw[Nk hk]
     simp only[NQ,On];rw[Ol];intro e he;unfold iU at hE;rw[NC]at hE;have h1:=hE (ops[k],k) (by rw[NE];simp[hk])
     simp only at h1
     rw[NC]at h1;have h2:=h1 e (by simpa using he)
     cases hb:Region.binds .any e with
     |false=>simp
     |true=>
      rw[hb]at h2;have h3:e.on<k:=by simpa using h2
      have:=ih e.on h3 (by omega)
      simpa[aS]using this
   rw[h]at hmem;cases hmem
theorem Chain.draw{ro:Option Nat}{ops:Array Oper}{Q:Exit->Act->World->Prop}{N N'':Nat}{tmp'':Nat->SV}{blk'':Nat->Option SB}{ss:List Stp}(h:Chain P w0 env ro L ops N 0 tmp blk ss N'' tmp'' blk''){κ₀:Nat->Value}{F₀ U₀:Nat->Prop}{wI:World}{dI:List Deferred}(hU0:∀b,N<=b->b<N''->¬U₀ b)(hro:∀b,ro=some b->U₀ b)(hlen:ss.length<=ops.size)(hlast:∀i,ss.length<=i->i<ops.size->(∀j,j<ss.length->((cY ops.toList []).getD i 0).testBit j=true)/\∀(κ:Nat->Value) (F:Nat->Prop) (a:Act) (w:World) (K:Act->World->Prop),Rel w0 env κ F (fun b=>U₀ b\/(N<=b/\b<N'')) tmp'' blk'' L a w->Kept U₀ blk κ₀ F₀ wI blk'' κ F w->a.defers=dI->wpOpIn (FR (dA κ₀ ro)) 0 P ops Q i K a w)(hind:nM (cY ops.toList []) (ss.map (·.seen))=true)(hE:iU ops.toList=true)(hsl:∀(j:Nat) s,ss[j]?=some s->∀x∈s.seen.rh,U₀ x.1/\H4 κ₀ env x)
  (hQ:ss.length=ops.size->∀κ F a w,Rel w0 env κ F (fun b=>U₀ b\/(N<=b/\b<N'')) tmp'' blk'' L a w->Kept U₀ blk κ₀ F₀ wI blk'' κ F w->a.defers=dI->Q .normal a w):∀(fuel:Nat) (listed:Array Bool) {κ:Nat->Value} {F:Nat->Prop} {a:Act} {w:World},listed.size=ops.size->Is ops (aS listed) →
  ((NF ops.size).filter (fun k=> !aS listed k)).length<=fuel →
  (∀k,ss.length<=k->k<ops.size->aS listed k=false) →
  Rel w0 env κ F (fun b=>U₀ b\/∃(j:Nat) (s:Stp),aS listed j=true/\ss[j]?=some s/\b∈s.seen.wb/\N<=b) (dU (aS listed) 0 ss tmp) (cQ (aS listed) 0 ss blk) L a w->Kept U₀ blk κ₀ F₀ wI (cQ (aS listed) 0 ss blk) κ F w->a.defers=dI->wpAnyIn (FR (dA κ₀ ro)) 0 P .any ops Q fuel listed a w:=by
 obtain⟨hN,ht,hb,hget⟩:=h.get;have hmid:∀(listed:Array Bool) {κ:Nat->Value} {F:Nat->Prop} {a:Act} {w:World},(∀k,k<ss.length->aS listed k=true) →
   Rel w0 env κ F (fun b=>U₀ b\/∃(j:Nat) (s:Stp),aS listed j=true/\ss[j]?=some s/\b∈s.seen.wb/\N<=b) (dU (aS listed) 0 ss tmp) (cQ (aS listed) 0 ss blk) L a w->Kept U₀ blk κ₀ F₀ wI (cQ (aS listed) 0 ss blk) κ F w →
   Rel w0 env κ F (fun b=>U₀ b\/(N<=b/\b<N'')) tmp'' blk'' L a w/\Kept U₀ blk κ₀ F₀ wI blk'' κ F w:=by
  intro listed κ F a w hd hr hk;have e1:dU (aS listed) 0 ss tmp=tmp'':=by
   rw[ht];funext t
   refine sV ss 0 _ _ rfl (fun j s hs _=>?_)
   rw[hd (0+j) (by have:=(List.getElem?_eq_some_iff.1 hs).1;omega)]
  have e2:cQ (aS listed) 0 ss blk=blk'':=by
   rw[hb];funext t
   refine sZ ss 0 _ _ rfl (fun j s hs _=>?_)
   rw[hd (0+j) (by have:=(List.getElem?_eq_some_iff.1 hs).1;omega)]
  rw[e1,e2]at hr;rw[e2]at hk;refine⟨hr.monoU (fun b hb=>?_),hk⟩
  rcases hb with hb|⟨j,s,_,hs,hb,hbN⟩
  ·exact .inl hb
  ·right
   obtain⟨Nj,Nj',g1,_,g3,_⟩:=hget j s hs;have:=g1.lt b hb
   omega
 have hall:∀(listed:Array Bool) {κ:Nat->Value} {F:Nat->Prop} {a:Act} {w:World},(∀k,k<ops.size->aS listed k=true)->(∀k,ss.length<=k->k<ops.size->aS listed k=false) →
   Rel w0 env κ F (fun b=>U₀ b\/∃(j:Nat) (s:Stp),aS listed j=true/\ss[j]?=some s/\b∈s.seen.wb/\N<=b) (dU (aS listed) 0 ss tmp) (cQ (aS listed) 0 ss blk) L a w->Kept U₀ blk κ₀ F₀ wI (cQ (aS listed) 0 ss blk) κ F w->a.defers=dI->Q .normal a w:=by
  intro listed κ F a w hd hout hr hk hdf;have hq:ss.length=ops.size:=by
   rcases Oi ss.length ops.size with h|h
   ·have:=hd ss.length h
    rw[hout _ (Nf _) h]at this;cases this
   ·omega
  obtain⟨r1,k1⟩:=hmid listed (fun k hk=>hd k (by omega)) hr hk
  exact hQ hq κ F a w r1 k1 hdf
 intro fuel;induction fuel with
 | zero=>
  intro listed κ F a w hl hcl hcnt hout hr hk hdf;have hd:∀k,k<ops.size->aS listed k=true:=fun k hk=>by
   cases hd:aS listed k with
   |true=>rfl
   |false=>
    have:k∈(NF ops.size).filter (fun k=> !aS listed k):=by rw[NX];exact⟨List.mem_range.2 hk,by simp[hd]⟩
    have:=List.length_pos_of_mem this
    omega
  refine⟨?_,hall listed hd hout hr hk hdf⟩
  refine List.eq_nil_iff_forall_not_mem.2 (fun i hi=>?_)
  obtain⟨h1,h2,_⟩:=As hl hi;rw[hd i h1]at h2;cases h2
 | succ fuel ih=>
  intro listed κ F a w hl hcl hcnt hout hr hk hdf;refine⟨fun hnil=>hall listed (IZ hl hE hnil) hout hr hk hdf,fun i hi=>?_⟩
  obtain⟨h1,h2,o,ho,hedges⟩:=As hl hi;by_cases hil:ss.length<=i
  ·obtain⟨m1,m2⟩:=hlast i hil h1
   obtain⟨r1,k1⟩:=hmid listed (fun j hj=>sO hcl i o ho hedges (m1 j hj)) hr hk
   exact m2 κ F a w _ r1 k1 hdf
  obtain⟨s,hs⟩:∃s,ss[i]?=some s:=⟨_,Nu (by omega)⟩
  obtain⟨Ni,Ni',g1,g2,g3,g4⟩:=hget i s hs;rw[NB]at g1;have hmap:∀(j:Nat) s',ss[j]?=some s'->(ss.map (·.seen))[j]?=some s'.seen:=fun j s' hj=>by rw[Nm,hj];rfl
  have before:∀(j:Nat) (s':Stp),j<i->ss[j]?=some s'->s'.seen.apart s.seen=true\/aS listed j=true:=fun j s' hji hj=>by
   rcases(pP hind hji (hmap j s' hj) (hmap i s hs)).2 with hm|hm
   ·exact .inr (sO hcl i o ho hedges hm)
   ·exact .inl hm
  have after:∀(j:Nat) (s':Stp),i<j->ss[j]?=some s'->aS listed j=true->s.seen.apart s'.seen=true:=fun j s' hij hj hd=>by
   rcases(pP hind hij (hmap i s hs) (hmap j s' hj)).2 with hm|hm
   ·have hjl:j<ops.size:=by have:=(List.getElem?_eq_some_iff.1 hj).1;omega
    have:=sO hcl j ops[j] (Nk hjl) (fun e he hb=>hcl j _ (Nk hjl) hd e he hb) hm
    rw[h2]at this;cases this
   ·exact hm
  rw[<-di (κ:=κ₀) (κ':=κ) (ro:=ro) (fun b hb=>hk.kap b (hro b hb))]
  refine g1.run κ F _ _ _ a w _ Q hr (fun t ht'=>?_) (fun b hb'=>?_) (fun b hb1 hb2 hU=>?_) (fun b hb=>.inl (hro b hb)) (fun x hx=>by
   obtain⟨h1,h2⟩:=hsl i s hs x hx;intro h0;rw[hk.kap _ h1];exact h2 h0) (fun κ' F' a' w' hr' hk' hdf'=>?_)
  ·refine sV ss 0 _ _ rfl (fun j s' hj hd=>?_)
   rw[NB];rcases NM j i with hlt|heq|hgt
   ·rw[decide_eq_true hlt]
    rcases before j s' hlt hj with hm|hm
    ·exact absurd ht' ((jM hm).1 t hd)
    ·exact hm
   ·subst heq;rw[h2];simp
   ·rw[decide_eq_false (by omega)]
    cases hdj:aS listed j with
    |false=>rfl
    |true=>exact absurd ht' ((jM (after j s' hgt hj hdj)).2.1 t hd)
  ·refine sZ ss 0 _ _ rfl (fun j s' hj hd=>?_)
   rw[NB];have hwb:b∈s'.seen.wb:=by
    obtain⟨Nj,Nj',q1,_⟩:=hget j s' hj;rw[q1.wb];exact hd
   rcases NM j i with hlt|heq|hgt
   ·rw[decide_eq_true hlt]
    rcases before j s' hlt hj with hm|hm
    ·exact absurd hb' ((jM hm).2.2.1 b hwb).1
    ·exact hm
   ·subst heq;rw[h2];simp
   ·rw[decide_eq_false (by omega)]
    cases hdj:aS listed j with
    |false=>rfl
    |true=>exact absurd hwb ((jM (after j s' hgt hj hdj)).2.2.2 b hb')
  ·rcases hU with hU|⟨j,s',hd,hj,hwb,_⟩
   ·exact hU0 b (by omega) (by omega) hU
   ·rcases NM j i with hlt|heq|hgt
    ·have:=g4 j s' hlt hj b hwb;omega
    ·subst heq;rw[h2]at hd;cases hd
    ·obtain⟨Nj,Nj',q1,_,_,q4⟩:=hget j s' hj
     have hwi:=g1.all b hb1 hb2;have hlt:=q4 i s hgt hs b hwi;rcases q1.foot b hwb with hf|hf
     ·exact((jM (after j s' hgt hj hd)).2.2.1 b hwi).1 hf
     ·omega
  ·have hset:∀k,aS (listed.setIfInBounds i true) k=(aS listed k||decide (k=i)):=fun k=>by
    unfold aS;by_cases hk:k=i
    ·subst hk;simp[NL,hl,h1]
    ·by_cases hk2:k<listed.size
     ·simp[NL,hk2,hk,Array.getElem_setIfInBounds,Ne.symm hk]
     ·simp[NL,hk2,hk]
   have hfun:aS (listed.setIfInBounds i true)=fun k=>aS listed k||decide (k=i):=funext hset
   have hfB:cQ (fun k=>aS listed k||decide (k=i)) 0 ss blk=aL (cQ (aS listed) 0 ss blk) s.wr:=
    Cv ss 0 blk (Nat.zero_le _) (by simpa using hs) h2 (fun j s' hj hlt hd b hb1 hb2=>by
     rw[NB]at hlt hd;obtain⟨Nj,Nj',q1,_⟩:=hget j s' hj;exact((jM (after j s' hlt hj hd)).2.2.1 b (by rw[g1.wb];exact hb1)).2 (by rw[q1.wb];exact hb2))
   rw[di (κ:=κ₀) (κ':=κ) (ro:=ro) (fun b hb=>hk.kap b (hro b hb))]
   refine ih (listed.setIfInBounds i true) (κ:=κ') (F:=F') (by simp[hl]) (fun j o' ho' hd e he hb'=>?_) ?_ (fun k hk1 hk2=>by rw[hset,hout k hk1 hk2];simp;omega) ?_ ?_ (hdf'.trans hdf)
   ·rw[hset]at hd⊢
    rw[NJ]at hd⊢
    left
    rcases hd with hd|hd
    ·exact hcl j o' ho' hd e he hb'
    ·have:j=i:=by simpa using hd
     subst this;rw[ho]at ho';cases ho'
     exact hedges e he hb'
   ·rw[hfun]
    have:=Im h2 ops.size h1
    show((NF ops.size).filter (fun k=> !(aS listed k||decide (k=i)))).length<=fuel
    omega
   ·rw [hfun]
    rw [CI ss 0 tmp (Nat.zero_le _) (by simpa using hs) h2 (fun j s' hj hne=>by
     rw[NB]at hne;rcases NM j i with hlt|heq|hgt
     ·exact(pP hind hlt (hmap j s' hj) (hmap i s hs)).1
     ·exact absurd heq hne
     ·rcases(pP hind hgt (hmap i s hs) (hmap j s' hj)).1 with hm|hm
      ·by_cases hh:s'.seen.dst=none
       ·exact .inl hh
       ·exact .inr (by rw[hm];exact hh)
      ·exact .inr (Ne.symm hm)),hfB]
    refine hr'.monoU (fun b hb'=>?_)
    rcases hb' with(hb'|⟨j,s',hd,hj,hwb,hbN⟩)|hb'
    ·exact .inl hb'
    ·exact .inr ⟨j,s',by show(aS listed j||decide (j=i))=true;rw[hd];rfl,hj,hwb,hbN⟩
    ·exact .inr ⟨i,s,by simp,hs,g1.all b hb'.1 hb'.2,by omega⟩
   ·rw[hfun,hfB]
    exact hk.trans hk' (fun b hb=>.inl hb)
def Ex.exit':Ex->Exit
 |.normal=>.normal
 |.exit id=>.exit id
 |.ret=>.ret
 |.panic v=>.panic (gJ v)
def Ex.out:Ex->Bool
 |.normal|.ret=>true
 |_=>false
def iJ(D:Nat):Deferred:={ target:=.collected D,args:=#[] }
def Marks(w:World)(ds:List Deferred)(F':Nat->Prop)(w':World)(ds':List Deferred):Prop:=
 ∃Ds:List Nat,ds'=Ds.map iJ++ds/\Ds.Nodup/\∀D∈Ds,w.heap.size<=D/\w'.heap[D]?=some (.deferred (some []))/\¬F' D
theorem Marks.nil{ds:List Deferred}:Marks w ds F' w' ds:=⟨[],rfl,List.nodup_nil,fun D hD=>by cases hD⟩
theorem Marks.next{U':Nat->Prop}{blk':Nat->Option SB}{ds ds':List Deferred}{tmp':Nat->SV}{L':Nat}{a':Act}{w'':World}{κ'':Nat->Value}{F'':Nat->Prop}{blk'':Nat->Option SB}{U'':Nat->Prop}(m:Marks w ds F' w' ds')(h:Rel w0 env κ' F' U' tmp' blk' L' a' w')(k:Kept U'' blk' κ' F' w' blk'' κ'' F'' w''):Marks w ds F'' w'' ds':=by
 obtain⟨Ds,h1,h2,h3⟩:=m;refine⟨Ds,h1,h2,fun D hD=>?_⟩
 obtain⟨g1,g2,g3⟩:=h3 D hD;have hlt:=dt g2;have hne:∀b,aF (blk' b)=true->ai (κ' b)≠some D:=fun b hb e=>by
  obtain⟨y,hy,hl⟩:=bC hb;exact(h.blks b y hy).noDefer hl e _ g2
 refine⟨g1,(k.frame D hlt hne).trans g2,fun hF=>?_⟩
 rcases k.new D hF with h4|h4|⟨b,h4,h5⟩
 ·exact g3 h4
 ·omega
 ·exact hne b h4 h5
theorem Marks.trans{U':Nat->Prop}{blk':Nat->Option SB}{ds ds' ds'':List Deferred}{tmp':Nat->SV}{L':Nat}{a':Act}{w'':World}{κ'':Nat->Value}{F'':Nat->Prop}{blk'':Nat->Option SB}{U'':Nat->Prop}(m:Marks w ds F' w' ds')(h:Rel w0 env κ' F' U' tmp' blk' L' a' w')(k:Kept U'' blk' κ' F' w' blk'' κ'' F'' w'')(hsz:w.heap.size<=w'.heap.size)(m':Marks w' ds' F'' w'' ds''):Marks w ds F'' w'' ds'':=by
 obtain⟨Ds,h1,h2,h3⟩:=m.next h k;obtain⟨Es,g1,g2,g3⟩:=m';obtain⟨Ds',q1,q2,q3⟩:=m;have hDs:Ds=Ds':=by
  rw[q1]at h1;have:=List.append_cancel_right h1
  have hinj:∀(x y:List Nat),x.map iJ=y.map iJ->x=y:=by
   intro x;induction x with
   |nil=>intro y hy;cases y with
    |nil=>rfl
    |cons b y=>cases hy
   | cons c x ih=>intro y hy;cases y with
    |nil=>cases hy
    |cons b y=>
     simp only[Ny,List.cons.injEq]at hy;have:c=b:=by have:=hy.1;unfold iJ at this;injection this with h1 _;injection h1
     rw[this,ih y hy.2]
  exact(hinj _ _ this).symm
 subst hDs;refine⟨Es++Ds,by rw[g1,h1];simp,List.nodup_append.2 ⟨g2,h2,fun x hx y hy e=>?_⟩,fun D hD=>?_⟩
 ·subst e
  have:=(g3 x hx).1
  have:=dt (q3 x hy).2.1
  omega
 ·rcases List.mem_append.1 hD with hD|hD
  ·obtain⟨i1,i2,i3⟩:=g3 D hD
   exact⟨by omega,i2,i3⟩
  ·exact h3 D hD
def Ends(w0:World)(env:List AV)(κ:Nat->Value)(F U:Nat->Prop)(σ:SS)(a:Act)(w:World)(σ':SS)(a':Act)(w':World):Prop:=
 ∃κ' F',Rel w0 env κ' F' (fun b=>U b\/(σ.N<=b/\b<σ'.N)) σ'.tmp σ'.blk σ'.L a' w'/\Kept U σ.blk κ F w σ'.blk κ' F' w'/\Marks w a.defers F' w' a'.defers
structure Leads (P:Program) (w0:World) (ro:Option Nat) (c:Code) (env:List AV) (σ:SS) (ex:Ex) (σ':SS):Prop where
 le:σ.N<=σ'.N
 go:∀(κ:Nat->Value) (F U:Nat->Prop) (a:Act) (w:World),Rel w0 env κ F U σ.tmp σ.blk σ.L a w->(∀b,σ.N<=b->¬U b)->(∀b,ro=some b->U b) →
  c.wpIn (FR (dA κ ro)) 0 P (fun e a' w'=>e=ex.exit'/\Ends w0 env κ F U σ a w σ' a' w') a w
theorem Ends.trans{σ σ' σ'':SS}{a' a'':Act}{w'':World}(h1:σ.N<=σ'.N)(h2:σ'.N<=σ''.N)(hr:Rel w0 env κ' F' (fun b=>U b\/(σ.N<=b/\b<σ'.N)) σ'.tmp σ'.blk σ'.L a' w')(k:Kept U σ.blk κ F w σ'.blk κ' F' w')(m:Marks w a.defers F' w' a'.defers)
  (h:Ends w0 env κ' F' (fun b=>U b\/(σ.N<=b/\b<σ'.N)) σ' a' w' σ'' a'' w''):Ends w0 env κ F U σ a w σ'' a'' w'':=by
 obtain⟨κ2,F2,r2,k2,m2⟩:=h;refine⟨κ2,F2,r2.monoU (fun b hb=>?_),k.trans k2 (fun b hb=>.inl hb),m.trans hr k2 k.size m2⟩
 rcases hb with(hb|hb)|hb
 ·exact .inl hb
 ·exact .inr ⟨hb.1,by omega⟩
 ·exact .inr ⟨by omega,hb.2⟩
theorem IQ{ro:Option Nat}{c:Code}{σ σ' σ'':SS}{Q:Exit->Act->World->Prop}{a':Act}(h1:σ.N<=σ'.N)(he:Ends w0 env κ F U σ a w σ' a' w')(hU:∀b,σ.N<=b->¬U b)(hro:∀b,ro=some b->U b){ex:Ex}
  (h:Leads P w0 ro c env σ' ex σ'') (hQ:∀a'' w'',Ends w0 env κ F U σ a w σ'' a'' w''->Q ex.exit' a'' w''):c.wpIn (FR (dA κ ro)) 0 P Q a' w':=by
 obtain⟨κ1,F1,r1,k1,m1⟩:=he;rw[<-di (κ:=κ) (κ':=κ1) (ro:=ro) (fun b hb=>k1.kap b (hro b hb))]
 refine wpIn_mono (h.go κ1 F1 _ a' w' r1 (fun b h2 hb=>?_) (fun b hb=>.inl (hro b hb))) ?_
 ·rcases hb with hb|hb
  ·exact hU b (by omega) hb
  ·omega
 ·rintro e a'' w'' ⟨rfl,h4⟩
  exact hQ a'' w'' (Ends.trans h1 h.le r1 k1 m1 h4)
structure Same (σ σ':SS):Prop where
 tmp:σ'.tmp=σ.tmp
 blk:σ'.blk=σ.blk
 L:σ'.L=σ.L
 N:σ'.N=σ.N
theorem Leads.same{ro:Option Nat}{c:Code}{ex:Ex}{σ τ σ' τ':SS}(h:Leads P w0 ro c env σ ex σ')(h1:Same σ τ)(h2:Same σ' τ'):Leads P w0 ro c env τ ex τ':=by
 refine⟨by rw[h1.N,h2.N];exact h.le,fun κ F U a w hr hU hro=>?_⟩
 rw[h1.tmp,h1.blk,h1.L]at hr;rw[h1.N]at hU;refine wpIn_mono (h.go κ F U a w hr hU hro) ?_
 rintro e a' w' ⟨he,κ',F',r,k,m⟩;exact⟨he,κ',F',by rw[h1.N,h2.N,h2.tmp,h2.blk,h2.L];exact r,by rw[h1.blk,h2.blk];exact k,m⟩
theorem H7{x y:Option SB}(h:SB.same x y=true):x=y:=by
 cases x with
 |none=>cases y with
  |none=>rfl
  |some y=>cases y<;>cases h
 | some x=>
  cases y with
  |none=>cases x<;>cases h
  |some y=>
   cases x<;>cases y<;>simp only[SB.same,M9,beq_iff_eq]at h<;>first|(cases h;done)|skip
   ·rw[h.1,h.2]
   ·rw[h.1.1,h.1.2,h.2]
   ·rw[h]
   ·rw[h.1.1,h.1.2,h.2]
   ·rw[h.1,h.2]
   ·rw[h.1,h.2]
   ·rw[h.1.1,h.1.2,h.2]
noncomputable def cf (σ σ':SS):List (Nat×Option SB):=(j8 σ σ').map fun b=>(b,σ'.blk b)
theorem changed_mem{σ σ':SS}{b:Nat}:b∈j8 σ σ'↔b<σ'.N/\(σ.N<=b\/SB.same (σ.blk b) (σ'.blk b)=false):=by
 unfold j8;simp[NX,List.mem_range]
theorem yq{σ σ':SS}(hN:σ.N<=σ'.N){blk':Nat->Option SB}(hb:∀b,b<σ.N->blk' b=σ.blk b)(b:Nat):aL blk' (cf σ σ') b=if b<σ'.N then σ'.blk b else blk' b:=by
 rcases Br (cf σ σ') blk' b with⟨x,hx,h1,h2⟩|⟨h1,h2⟩
 ·obtain⟨c,hc,rfl⟩:=List.mem_map.1 hx
  simp only at h1;subst h1
  rw[h2,if_pos (changed_mem.1 hc).1]
 ·rw[h2]
  split
  ·rename_i hlt
   have:¬b∈j8 σ σ':=fun hc=>h1 (b,σ'.blk b) (List.mem_map.2 ⟨b,hc,rfl⟩) rfl
   rw[changed_mem]at this;have h3:b<σ.N:=Oo fun h=>this ⟨hlt,.inl h⟩
   have h4:SB.same (σ.blk b) (σ'.blk b)=true:=by
    cases hs:SB.same (σ.blk b) (σ'.blk b)with
    |true=>rfl
    |false=>exact absurd ⟨hlt,.inr hs⟩ this
   rw[hb b h3];exact H7 h4
  ·rfl
theorem Rel.callee(h:Rel w0 env κ F U tmp blk L a w){σ:SS}(hb:∀b,b<σ.N->blk b=σ.blk b){tmp':Nat->SV}{L':Nat}{a':Act}(ht:∀t,SVden env κ F w (tmp' t) (a'.tmps.getD t undef))(hL:a'.tmps.size=L')(hn:∀t,∀b∈(tmp' t).names,U b):
  Rel w0 env κ F U tmp' σ.blk L' a' w where
 tmps:=ht
 size:=hL
 blks b x hx:=h.blks b x (by rw[hb b (eQ hx)];exact hx)
 inj b c k h1 h2:=by
  obtain⟨x,hx,hxl⟩:=bC h1;obtain⟨y,hy,hyl⟩:=bC h2;exact h.inj b c k (by rw[hb b (eQ hx)];exact h1) (by rw[hb c (eQ hy)];exact h2)
 nF b k h1:=by
  obtain⟨x,hx,hxl⟩:=bC h1;exact h.nF b k (by rw[hb b (eQ hx)];exact h1)
 glob:=h.glob
 F:=h.F
 tnames:=hn
 bnames b x hx:=h.bnames b x (by rw[hb b (eQ hx)];exact hx)
 below:=h.below
theorem Rel.embed(h:Rel w0 env κ F U tmp blk L a w){σ σ':SS}(hb:∀b,b<σ.N->blk b=σ.blk b)(hN:σ.N<=σ'.N)(hf:∀b,σ.N<=b->b<σ'.N->¬U b){zF:Nat->SV}{L1:Nat}{a1:Act}(h':Rel w0 env κ' F' (fun b=>U b\/(σ.N<=b/\b<σ'.N)) zF σ'.blk L1 a1 w')(k:Kept U σ.blk κ F w σ'.blk κ' F' w'):
  Rel w0 env κ' F' (fun b=>U b\/(σ.N<=b/\b<σ'.N)) tmp (aL blk (cf σ σ')) L a w'/\Kept U blk κ F w (aL blk (cf σ σ')) κ' F' w':=by
 obtain⟨blk2,hb2⟩:∃blk2,blk2=aL blk (cf σ σ'):=⟨_,rfl⟩
 have hc:∀b,blk2 b=if b<σ'.N then σ'.blk b else blk b:=fun b=>by rw[hb2];exact yq hN hb b
 rw[<-hb2];have hin:∀b,b<σ'.N->blk2 b=σ'.blk b:=fun b hlt=>by rw[hc,if_pos hlt]
 have hout:∀b,σ'.N<=b->blk2 b=blk b:=fun b hle=>by rw[hc,if_neg (by omega)]
 have hold:∀b,aF (σ.blk b)=true->aF (blk b)=true/\b<σ.N:=fun b hl=>by
  obtain⟨x,hx,_⟩:=bC hl;have:=eQ hx
  exact⟨by rw[hb b this];exact hl,this⟩
 have hU:∀b x,blk b=some x->U b:=fun b x hx=>(h.bnames b x hx).1
 have hlt:∀b j,aF (blk b)=true->ai (κ b)=some j->j<w.heap.size:=fun b j hl hj=>by
  obtain⟨x,hx,hxl⟩:=bC hl;exact((h.blks b x hx).lt hxl hj).2
 have hid:∀b j,σ'.N<=b->aF (blk b)=true->ai (κ b)=some j->∀d,aF (σ.blk d)=true->ai (κ d)≠some j:=fun b j hle hl hj d hd e=>by
  obtain⟨h1,h2⟩:=hold d hd;have:=h.inj b d j hl h1 hj e
  omega
 have kap:∀b,aF (blk b)=true->κ' b=κ b:=fun b hl=>by
  obtain⟨x,hx,_⟩:=bC hl;exact k.kap b (hU b x hx)
 refine⟨?_,⟨k.kap,k.mono,fun j hj=>?_,k.size,fun j hj hn=>k.frame j hj (fun b hl=>hn b (hold b hl).1),fun b j hl hj=>?_,k.recs⟩⟩
 ·constructor
  ·intro t
   exact(h.tmps t).keep (fun b hbn=>k.kap b (h.tnames t b hbn)) k.mono (fun j hj=>k.frame j (h.F j hj) (fun b hl e=>h.nF b j (hold b hl).1 e hj))
  ·exact h.size
  ·intro b x hx
   by_cases hlt':b<σ'.N
   ·rw[hin b hlt']at hx;exact h'.blks b x hx
   ·rw[hout b (by omega)]at hx
    refine(h.blks b x hx).keep (fun c hcn=>k.kap c ((h.bnames b x hx).2 c hcn)) (k.kap b (hU b x hx)) k.mono (fun j hj=>k.frame j (h.F j hj) (fun b hl e=>h.nF b j (hold b hl).1 e hj)) (fun hl j hj=>?_)
    exact k.frame j (hlt b j (by rw[hx];exact hl) hj) (hid b j (by omega) (by rw[hx];exact hl) hj)
  ·intro b c j h1 h2 g1 g2
   by_cases hb1:b<σ'.N<;>by_cases hc1:c<σ'.N
   ·rw[hin b hb1]at h1;rw[hin c hc1]at h2;exact h'.inj b c j h1 h2 g1 g2
   ·exfalso
    rw[hin b hb1]at h1;rw[hout c (by omega)]at h2
    rw[kap c h2]at g2;rcases k.prov b j h1 g1 with g3|⟨d,g3,g4⟩
    ·have:=hlt c j h2 g2;omega
    ·exact hid c j (by omega) h2 g2 d g3 g4
   ·exfalso
    rw[hout b (by omega)]at h1;rw[hin c hc1]at h2
    rw[kap b h1]at g1;rcases k.prov c j h2 g2 with g3|⟨d,g3,g4⟩
    ·have:=hlt b j h1 g1;omega
    ·exact hid b j (by omega) h1 g1 d g3 g4
   ·rw[hout b (by omega)]at h1;rw[hout c (by omega)]at h2
    rw[kap b h1]at g1;rw[kap c h2]at g2;exact h.inj b c j h1 h2 g1 g2
  ·intro b j h1 g1 hF
   by_cases hb1:b<σ'.N
   ·rw[hin b hb1]at h1;exact h'.nF b j h1 g1 hF
   ·rw[hout b (by omega)]at h1
    rw[kap b h1]at g1;rcases k.new j hF with h3|h3|⟨d,h3,h4⟩
    ·exact h.nF b j h1 g1 h3
    ·have:=hlt b j h1 g1;omega
    ·exact hid b j (by omega) h1 g1 d h3 h4
  ·exact h'.glob
  ·exact h'.F
  ·intro t b hbn;exact .inl (h.tnames t b hbn)
  ·intro b x hx
   by_cases hlt':b<σ'.N
   ·rw[hin b hlt']at hx;exact h'.bnames b x hx
   ·rw[hout b (by omega)]at hx
    obtain⟨h1,h2⟩:=h.bnames b x hx;exact⟨.inl h1,fun c hcn=>.inl (h2 c hcn)⟩
  ·exact h'.below
 ·rcases k.new j hj with h3|h3|⟨d,h3,h4⟩
  ·exact .inl h3
  ·exact .inr (.inl h3)
  ·exact .inr (.inr ⟨d,(hold d h3).1,h4⟩)
 ·by_cases hlt':b<σ'.N
  ·rw[hin b hlt']at hl
   rcases k.prov b j hl hj with h3|⟨d,h3,h4⟩
   ·exact .inl h3
   ·exact .inr ⟨d,(hold d h3).1,h4⟩
  ·rw[hout b (by omega)]at hl
   rw[kap b hl]at hj;exact .inr ⟨b,hl,hj⟩
theorem Rel.rekap(h:Rel w0 env κ F U tmp blk L a w)(hκ:∀b,U b->κ' b=κ b):Rel w0 env κ' F U tmp blk L a w:=by
 have hl:∀b,aF (blk b)=true->κ' b=κ b:=fun b hb=>by
  obtain⟨x,hx,_⟩:=bC hb;exact hκ b (h.bnames b x hx).1
 exact h.world (fun _ h=>h) hκ (fun _ h=>h) (fun _ _=>rfl) (fun b x hx=>.inl ⟨hx,fun _ _ _=>rfl⟩) (fun b c k h1 h2 g1 g2=>h.inj b c k h1 h2 (by rw[<-hl b h1];exact g1) (by rw[<-hl c h2];exact g2)) (fun b k h1 g1=>h.nF b k h1 (by rw[<-hl b h1];exact g1)) h.F h.below
theorem Rel.embed'(h:Rel w0 env κ F U tmp blk L a w){σ σ':SS}(hb:∀b,b<σ.N->blk b=σ.blk b)(hN:σ.N<=σ'.N)(hf:∀b,σ.N<=b->b<σ'.N->¬U b){zF:Nat->SV}{L1:Nat}{a1:Act}(h':Rel w0 env κ' F' (fun b=>(U b/\b<σ.N)\/(σ.N<=b/\b<σ'.N)) zF σ'.blk L1 a1 w')(k:Kept (fun b=>U b/\b<σ.N) σ.blk κ F w σ'.blk κ' F' w'):
  ∃κ'',(∀b,b<σ'.N->κ'' b=κ' b)/\Rel w0 env κ'' F' (fun b=>U b\/(σ.N<=b/\b<σ'.N)) tmp (aL blk (cf σ σ')) L a w'/\Kept U blk κ F w (aL blk (cf σ σ')) κ'' F' w':=by
 obtain⟨κ'',hκ⟩:∃κ'':Nat->Value,∀b,κ'' b=if b<σ'.N then κ' b else κ b:=⟨_,fun _=>rfl⟩
 have hlt:∀b,b<σ'.N->κ'' b=κ' b:=fun b hb=>by rw[hκ,if_pos hb]
 have r:Rel w0 env κ'' F' (fun b=>U b\/(σ.N<=b/\b<σ'.N)) zF σ'.blk L1 a1 w':=(h'.rekap (κ':=κ'') (fun b hb=>hlt b (by omega))).monoU (fun b hb=>by
  rcases hb with hb|hb
  ·exact .inl hb.1
  ·exact .inr hb)
 have k2:Kept U σ.blk κ F w σ'.blk κ'' F' w':=
  { k with
   kap:=fun b hb=>by
    by_cases h1:b<σ'.N
    ·have h2:b<σ.N:=Oo fun h2=>hf b h2 h1 hb
     rw[hlt b h1];exact k.kap b ⟨hb,h2⟩
    ·rw[hκ,if_neg h1]
   prov:=fun b j h1 h2=>by
    obtain⟨x,hx,_⟩:=bC h1;rw[hlt b (eQ hx)]at h2;exact k.prov b j h1 h2 }
 obtain⟨r2,k3⟩:=h.embed hb hN hf r k2;exact⟨κ'',hlt,r2,k3⟩
end Go.Sx
