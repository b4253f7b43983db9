/-
  Texts of this claim, joined (part 2).
-/
import Derived.Test.YtkgphkdlbjinmaaGreatDoorJT1
import Derived.Laws.Tables
import Derived.Laws.Append
import Derived.Laws.OwnMore
import Derived.ArgAppend
import Derived.Laws.StructEq
import Derived.Laws.Small
import Derived.Laws.IdiomCopy
import Derived.MapKept
import Derived.Laws.Strings
import Derived.Laws.BytesString
import Derived.Lib.Strings
import Derived.Lib.ConvBytes
import Derived.LaidEql
open List renaming getElem?_eq_getElem → M9, getElem?_append_right → Na, getElem?_append_left → Nb, getElem?_take → Nc, mem_append_left → Nd, replicate → Nf, mem_append_right → Ng, mem_cons_of_mem → Nh, length_append → Nk, getElem?_map → Nm, getElem?_drop → No, eq_nil_of_length_eq_zero → Np, mem_of_getElem? → Nq, eq_of_mem_replicate → Nr, mem_cons_self → Nu, map_toArray → Nz, length_take → NA, getElem_of_mem → NE, map_cons → NF, size_toArray → NG, map_nil → NJ, length_drop → NK, length_map → NL, length_replicate → NN, replicate_succ → NR, length_nil → NS, nil_append → NT, flatten_cons → NX, append_assoc → NY, getElem?_eq_none → N4, append_nil → N6, length → N8, getD → N9, ext_getElem? → Ob, getElem_replicate → Od, take_zero → Og, mem_of_mem_take → Oh, getElem?_modify → Oi, getElem?_set → Oo, foldl_cons → Ox, take_take → Oz, drop_take → OA, take_left → OB
open Nat renaming mul_one → Nl, le_refl → Nv, mul_le_mul_right → Nx, le_mul_of_pos_right → Ny, eq_zero_or_pos → NB, add_mul → NC, add_zero → NH, succ_mul → NI, min → NQ, min_eq_left → NU, le_trans → NV, lt_of_lt_of_le → NW, mul_pos → NZ, add_assoc → N0, min_eq_right → N1, zero_add → N5, div_lt_iff_lt_mul → Of, zero_mul → Ol, div_add_mod' → Ot, mod_eq_of_lt → Ou, min_le_left → Oy
open Array renaming getElem?_toList → Nn, length_toList → Ns, toList_map → NO, range → NP, toArray_toList → N7, toList_setIfInBounds → Oa, toList_modify → Oj, toList_push → On, size_append → Oq
open Option renaming map_some → Nt, map_none → ND, all_some → Oc, map_eq_some_iff → Oe, bind_some → Ow
open Int renaming toNat_natCast → Nw, natCast_mul → NM, ofNat → Om
open Bool renaming and_eq_true → N2, false_eq_true → Ok, not_true → OC, and_true → OD
set_option linter.unusedVariables false
set_option linter.unusedSimpArgs false
set_option linter.unusedSectionVars false
set_option linter.constructorNameAsVariable false
namespace Go.Sx
open Go Go.RowKit Go.Dial
variable {env:List AV} {κ κ':Nat->Value} {F F':Nat->Prop} {w w' w0:World} {U:Nat->Prop} {tmp:Nat->SV} {blk:Nat->Option SB} {L:Nat} {a:Act} {P:Program}
theorem bn{t e:Nat}{r:Ty}(h:aZ P t=some (e,r)):P.underlying t=some (.slice e)/\r.len=P.cellsOf e/\0<r.len/\(∃i,P.info? e=some i)/\aP P e=true/\0<P.bytesOf e/\r.leaves=true/\((P.info? e).bind (·.zero)).map (·.cells.size)=some r.len:=by
 unfold aZ at h;split at h
 ·rename_i e' hu
  obtain⟨r',h1,h2⟩:=Option.bind_eq_some_iff.1 h;split at h2
  ·rename_i hc
   cases h2
   have hi:∃i,P.info? e=some i:=by
    cases hh:P.info? e with
    |some i=>exact⟨i,rfl⟩
    |none=>have:=hc.1;unfold Program.cellsOf at this;rw[hh]at this;simp at this;omega
   refine⟨hu,hc.1,hc.2.1,hi,?_,hc.2.2.1,hc.2.2.2⟩
   unfold Mp at h1;obtain⟨fl,h3,_⟩:=Option.map_eq_some_iff.1 h1;unfold aP;have hud:(P.underlying e).isSome=true:=by
    cases hh:P.underlying e with
    |some d=>rfl
    |none=>rw[flat,hh]at h3;cases h3
   obtain⟨i,hi⟩:=hi;rw[hud,hi];rfl
  ·cases h2
 ·cases h
theorem Ga{o:Oper}{x:Operand}(ho:o.op=.nilCheck x)(h:Rel w0 env κ F U tmp blk L a w){needs:List E}{v:SV}{wr:List (Nat×Option SB)}(hc:vK (ag tmp x)=.ok needs v wr):
  aB P w0 env κ F U tmp blk L a w o v wr:=by
 have hev:=h.ev x;unfold vK at hc;split at hc
 ·rename_i b off h1
  cases hc
  rw[h1]at hev;refine aj h (u:=a.eval x) (.inl ?_) hev
  obtain⟨g,_,h2⟩:=hev;simp[execOp,ho,h2]
 ·rename_i h1
  cases hc
  rw[h1]at hev;refine aj h (u:=a.eval x) (.inl ?_) hev
  obtain⟨p,c,_,_,_,h2⟩:=hev;simp[execOp,ho,h2]
 ·rename_i h1
  cases hc
  rw[h1]at hev;refine aj h (u:=a.eval x) (.inl ?_) hev
  obtain⟨g,n,c,_,_,_,h2⟩:=hev;simp[execOp,ho,h2]
 ·rename_i h1
  cases hc
  rw[h1]at hev;refine aj h (u:=a.eval x) (.inl ?_) hev
  obtain⟨ds,cs,h2,_⟩:=hev;simp[execOp,ho,h2]
 ·cases hc
theorem MH{o:Oper}{op:UnOp}{t:Nat}{x:Operand}(ho:o.op=.unOp op t x)(h:Rel w0 env κ F U tmp blk L a w){needs:List E}{v:SV}{wr:List (Nat×Option SB)}
  (hc:Ai op (ag tmp x)=.ok needs v wr) (hn:∀e∈needs,(den env e).b=true):aB P w0 env κ F U tmp blk L a w o v wr:=by
 have hev:=h.ev x;unfold Ai at hc;split at hc
 ·rename_i e he
  cases hc
  rw[he]at hev;refine aj h (u:=.bool (!(den env e).b)) (.inl ?_) ⟨by rw[pV],Ff e⟩
  simp[execOp,ho,hev.1,Op.unary]
 ·rename_i e he
  rw[he]at hev;unfold hY at hc;cases hc
  have h1:=BD (aA fun e he=>hn e (by simpa using he))
  rw[bQ]at h1;refine aj h (u:=.int .i64 (0-(den env e).i)) (.inl ?_) ⟨by rw[bQ];rfl,by rw[bQ];rfl⟩
  have h2:=lN h1;simp[IOp.f,den]at h2
  simp[execOp,ho,hev.1,Op.unary,Op.intArith,h2]
 ·rename_i e he
  rw[he]at hev;split at hc
  ·rename_i k hk
   have hv:=AV.raw.inj (hev.1.symm.trans (eR hk));split at hc
   ·cases hc
   ·cases hc
    refine aj h (u:=.int k (k.wrap (0-(den env e).num))) (.inl ?_) ⟨pS ..,rfl⟩
    simp[execOp,ho,hv,Op.unary,Op.intArith]
  ·cases hc
 ·rename_i e he
  rw[he]at hev;split at hc
  ·rename_i k hk
   have hv:=AV.raw.inj (hev.1.symm.trans (eR hk));split at hc
   ·cases hc
   ·cases hc
    refine aj h (u:=.int k (aa .xor k (if k.signed then -1 else k.max) (den env e).num)) (.inl ?_) ⟨pS ..,rfl⟩
    simp[execOp,ho,hv,Op.unary,Op.intBits,aa]
  ·cases hc
 ·cases hc
theorem Hf{o:Oper}{s d:Nat}{x:Operand}(ho:o.op=.convert s d x)(h:Rel w0 env κ F U tmp blk L a w){e:E}(hs:P.underlying s=some (.int .i64))(hd:P.underlying d=some (.int .i64))(hx:ag tmp x=.vi e)
  (hn:∀e'∈aG e.inr,(den env e').b=true):aB P w0 env κ F U tmp blk L a w o (.vi e) []:=by
 have hev:=h.ev x;rw[hx]at hev;refine aj h (u:=.int .i64 (den env e).i) (.inl ?_) ⟨rfl,hev.2⟩
 have h2:=lN (BD (aA hn));simp[execOp,ho,hev.1,convert,run_underlying hs,run_underlying hd,Conv.intToInt,h2]
theorem JR{o:Oper}{s d:Nat}{x:Operand}(ho:o.op=.convert s d x)(h:Rel w0 env κ F U tmp blk L a w){e:E}{k k':IntKind}(hd:P.underlying d=some (.int k))(hs:∃u,P.underlying s=some u)(hx:(ag tmp x).numOf=some (k',e)){needs:List E}{v:SV}{wr:List (Nat×Option SB)}
  (hc:(if k=.i64 then Out.ok [] (.vi (.kout e)) []else .ok [] (.vr (.kin' k e)) [])=.ok needs v wr):aB P w0 env κ F U tmp blk L a w o v wr:=by
 have hev:=pO hx (h.ev x);obtain⟨us,hs⟩:=hs;have run:bL P o a w (.int k (k.wrap (den env e).num)) w:=.inl (by
  simp[execOp,ho,hev,convert,run_underlying hs,run_underlying hd,Conv.intToInt])
 split at hc
 ·rename_i hk
  subst hk;cases hc
  exact aj h run ⟨rfl,rfl⟩
 ·cases hc
  exact aj h run ⟨Lc ..,rfl⟩
theorem vp{s f off:Nat}(h:kV P s f=some off):∃fs x,P.underlying s=some (.struct fs)/\fs[f]?=some x/\x.offset=off/\P.cellsOf x.type≠0/\aP P x.type=true:=by
 unfold kV at h;split at h
 ·rename_i fs hu
  obtain⟨x,h1,h2⟩:=Option.bind_eq_some_iff.1 h;split at h2
  ·cases h2
  ·rename_i hc
   cases h2
   refine⟨fs,x,hu,h1,rfl,fun e=>hc (.inl e),?_⟩
   cases hk:aP P x.type with
   |true=>rfl
   |false=>exact absurd (.inr hk) hc
 ·cases h
theorem Gg{s f off:Nat}(h:kV P s f=some off)(p:Addr):(Instr.fieldAt s (.pointer (some p)) f).run P w=.ok (.pointer (some (p.add off))) w:=by
 obtain⟨fs,x,h1,h2,rfl,h4,h5⟩:=vp h;simp[Instr.fieldAt,run_underlying h1,h2,Instr.sureAddr,fieldPlace,bB h5,h4]
theorem ql{o:Oper}{s f off:Nat}{x:Operand}(ho:o.op=.fieldAddr s x f)(h:Rel w0 env κ F U tmp blk L a w)(hf:kV P s f=some off){v:SV}
  (hv:(∃b q,ag tmp x=.ptr b q/\v=.ptr b (q+off))\/(∃t l i k,ag tmp x=.eptr t l i k/\v=.eptr t l i (k+off))\/∃b t i k,ag tmp x=.rptr b t i k/\v=.rptr b t i (k+off)):
  aB P w0 env κ F U tmp blk L a w o v []:=by
 have hev:=h.ev x;have R:∀p,a.eval x=.pointer (some p)->bL P o a w (.pointer (some (p.add off))) w:=fun p hp=>.inl (by
  simp only[execOp,ho,hp,Sem.run_bind,Gg hf,Result.andThen_ok,Sem.run_pure])
 rcases hv with⟨b,q,h1,rfl⟩|⟨t,l,i,k,h1,rfl⟩|⟨b,t,i,k,h1,rfl⟩
 ·rw[h1]at hev
  obtain⟨g,g1,g2⟩:=hev;exact aj h (R _ g2) ⟨g,g1,by rw[du]⟩
 ·rw[h1]at hev
  obtain⟨p,c,g1,g2,g3,g4⟩:=hev;exact aj h (R _ g4) ⟨p,c,g1,g2,g3,by rw[ep,N0]⟩
 ·rw[h1]at hev
  obtain⟨g,go,n,c,g1,g2,g3,g4⟩:=hev;exact aj h (R _ g4) ⟨g,go,n,c,g1,g2,g3,by rw[ep,N0]⟩
theorem aK{o:COp}{x y:E}(h:(den env (.cmp' o x y)).b=true):o.f (den env x).i (den env y).i=true:=by rw[eu]at h;exact h
theorem nv{o:Oper}{t e:Nat}{r:Ty}{x ix:Operand}(ho:o.op=.indexAddr t x ix)(h:Rel w0 env κ F U tmp blk L a w)(ht:aZ P t=some (e,r)){i l:E}(hi:ag tmp ix=.vi i)
  (hn:∀e∈aG (.cmp' .le (.int 0) i)++aG (.cmp' .lt i l.len'),(den env e).b=true) {v:SV}
  (hv:(ag tmp x=.vs r l/\v=.eptr r l i 0)\/(∃b ety,ag tmp x=.row b/\blk b=some (.row ety r l)/\v=.rptr b r i 0)\/∃b ety,ag tmp x=.row b/\blk b=some (.qrow ety r l)/\v=.rptr b r i 0):aB P w0 env κ F U tmp blk L a w o v []:=by
 have hev:=h.ev x;have hei:=h.ev ix;rw[hi]at hei;have n1:=aK (aA fun e he=>hn e (Nd _ he))
 have n2:=aK (aA fun e he=>hn e (Ng _ he))
 rw[aY]at n2;simp only[COp.f,den,AV.i_int]at n1 n2;have n1:=of_decide_eq_true n1;have n2:=of_decide_eq_true n2;obtain⟨u1,u2,u3,_,u5,_,_⟩:=bn ht;have R:∀p n c,a.eval x=.slice (some p) n c->(den env i).i<(n:Int)->bL P o a w (.pointer (some (p.add ((den env i).i.toNat*r.len)))) w:=fun p n c hp hlt=>.inl (by
  have hsz:=bB (w:=w) u5;simp only[execOp,ho,hp,hei.1,Instr.indexAt,asIntOf,run_underlying u1,Sem.run_bind,Sem.run_pure,Result.andThen_ok];simp[n1,hlt,hsz,u2])
 rcases hv with⟨h1,rfl⟩|⟨b,ety,h1,h2,rfl⟩|⟨b,ety,h1,h2,rfl⟩
 ·rw[h1]at hev
  obtain⟨A,c,g1,g2,g3,g4,g5⟩:=Den.view hev;have hlt:(den env i).i.toNat<(den env l).l.length:=by omega
  obtain⟨p,rfl,_⟩:=g5 _ _ (M9 hlt);refine aj h (R _ _ _ g1 n2) ⟨p,c,by rw[<-g1];exact hev,n1,n2,rfl⟩
 ·rw[h1]at hev
  obtain⟨us,hown,hpos,hrow⟩:=h.blks b _ h2;rcases hown.2 with⟨e1,e2⟩|⟨g,cap,cur,e1,_⟩
  ·omega
  ·refine aj h (R _ _ _ (hev.1.trans e1) n2) ⟨g,0,_,cap,e1,n1,n2,rfl⟩
 ·rw[h1]at hev
  obtain⟨us,hown,hpos,hrow⟩:=h.blks b _ h2;rcases hown.2 with⟨e1,e2⟩|⟨g,go,cap,cur,fz,e1,_⟩
  ·omega
  ·refine aj h (R _ _ _ (hev.1.trans e1) n2) ⟨g,go,_,cap,e1,n1,n2,rfl⟩
theorem jZ{o:Oper}{t n e:Nat}{x ix:Operand}(ho:o.op=.indexAddr t x ix)(h:Rel w0 env κ F U tmp blk L a w)(ht:P.underlying t=some (.array n e)){c:Int}(hi:ag tmp ix=.vi (.int c))
  (h1:0<=c) (h2:c<n) (hk:aP P e=true) {v:SV}
  (hv:(∃b q,ag tmp x=.ptr b q/\v=.ptr b (q+c.toNat*P.cellsOf e))\/(∃t l i k,ag tmp x=.eptr t l i k/\v=.eptr t l i (k+c.toNat*P.cellsOf e))\/∃b t i k,ag tmp x=.rptr b t i k/\v=.rptr b t i (k+c.toNat*P.cellsOf e)):aB P w0 env κ F U tmp blk L a w o v []:=by
 have hev:=h.ev x;have hei:=h.ev ix;rw[hi]at hei;have hsz:=bB (w:=w) hk;have e0:a.eval ix=.int .i64 c:=by rw[hei.1];rfl
 have R:∀p,a.eval x=.pointer (some p)->bL P o a w (.pointer (some (p.add (c.toNat*P.cellsOf e)))) w:=fun p hp=>.inl (by
  simp only[execOp,ho,hp,e0,Instr.indexAt,asIntOf,run_underlying ht,Sem.run_bind,Sem.run_pure,Result.andThen_ok,Instr.sureAddr];simp[h1,h2,hsz])
 rcases hv with⟨b,q,h1,rfl⟩|⟨t,l,i,k,h1,rfl⟩|⟨b,t,i,k,h1,rfl⟩
 ·rw[h1]at hev
  obtain⟨g,g1,g2⟩:=hev;exact aj h (R _ g2) ⟨g,g1,by rw[du]⟩
 ·rw[h1]at hev
  obtain⟨p,c,g1,g2,g3,g4⟩:=hev;exact aj h (R _ g4) ⟨p,c,g1,g2,g3,by rw[ep,N0]⟩
 ·rw[h1]at hev
  obtain⟨g,go,n,c,g1,g2,g3,g4⟩:=hev;exact aj h (R _ g4) ⟨g,go,n,c,g1,g2,g3,by rw[ep,N0]⟩
theorem Kh{o:Oper}{t:Nat}{x:Operand}(ho:o.op=.makeInterface t x)(h:Rel w0 env κ F U tmp blk L a w){d:TypeDesc}(hu:P.underlying t=some d)(hd:∀ms,d≠.interface ms):aB P w0 env κ F U tmp blk L a w o (.iface t (ag tmp x)) []:=by
 refine aj h (u:=.iface t (a.eval x)) (.inl ?_) ⟨_,rfl,h.ev x⟩
 simp only[execOp,ho,Instr.makeInterface,Sem.run_bind,run_underlying hu,Result.andThen_ok];cases d<;>first|rfl|exact absurd rfl (hd _)
theorem la{t:Nat}{cs:Array Value}{off:Nat}(hk:aP P t=true):
  (part t cs off).run P w=if bE P t then .ok (.agg (cs.extract off (off+P.cellsOf t))) w else(match cs[off]? with|some v=>.ok v w|none=>(stuck "part: no such cell" : Sem Value).run P w):=by
 unfold part;rw[Sem.run_bind,wG hk,Result.andThen_ok];cases bE P t with
 |true=>simp[bB hk]
 |false=>simp;cases cs[off]?<;>rfl
theorem AE(cs:Array Value)(off n:Nat):cs.extract off (off+n)=((cs.toList.drop off).take n).toArray:=by
 apply Array.ext'
 simp[List.extract_eq_take_drop]
theorem CE(h:Rel w0 env κ F U tmp blk L a w){o:Oper}{t off:Nat}{xs:SV}{cs:Array Value}(hp:xs.proper=true)(hx:SVden env κ F w xs (.tuple cs))(hk:aP P t=true)
  (hr:∀u,(part t cs off).run P w=.ok u w->bL P o a w u w) {v:SV} (hv:(bE P t=true/\v=.agg (xs.cut off (P.cellsOf t)))\/(bE P t=false/\xs.cut off 1=.cons v .nil)):aB P w0 env κ F U tmp blk L a w o v []:=by
 rcases hv with⟨h1,rfl⟩|⟨h1,h2⟩
 ·refine aj h (u:=.agg (cs.extract off (off+P.cellsOf t))) (hr _ (by rw[la hk,h1];rfl)) ⟨_,rfl,bA _,?_⟩
  rw[AE];exact xF hp hx _ _
 ·obtain⟨u,hu,hd⟩:=th hp hx h2
  exact aj h (u:=u) (hr _ (by rw[la hk,h1,hu];rfl)) hd
theorem DI{o:Oper}{t n e:Nat}{x ix:Operand}(ho:o.op=.index t x ix)(h:Rel w0 env κ F U tmp blk L a w)(ht:P.underlying t=some (.array n e)){xs:SV}{c:Int}(hi:ag tmp ix=.vi (.int c))(hx:ag tmp x=.agg xs)
  (h1:0<=c) (h2:c<n) (hk:aP P e=true) {v:SV} (hv:(bE P e=true/\v=.agg (xs.cut (c.toNat*P.cellsOf e) (P.cellsOf e)))\/(bE P e=false/\P.cellsOf e=1/\xs.cut c.toNat 1=.cons v .nil)):aB P w0 env κ F U tmp blk L a w o v []:=by
 have hev:=h.ev x;have hei:=h.ev ix;rw[hi]at hei;rw[hx]at hev;obtain⟨cs,g1,g2,g3⟩:=hev;have e0:a.eval ix=.int .i64 c:=by rw[hei.1];rfl
 have hsz:=bB (w:=w) hk;refine CE h (t:=e) (off:=c.toNat*P.cellsOf e) g2 g3 hk (fun u hu=>.inl ?_) (hv.imp_right fun⟨p,q,r⟩=>⟨p,by rw[q,Nl];exact r⟩)
 simp only[execOp,ho,g1,e0,Instr.index,asIntOf,run_underlying ht,Sem.run_bind,Sem.run_pure,Result.andThen_ok];simp[h1,h2,hsz,hu]
theorem Fk{o:Oper}{s f off t:Nat}{x:Operand}(ho:o.op=.field s x f)(h:Rel w0 env κ F U tmp blk L a w)(hf:kV P s f=some off)(ht:Ca P s f=some t){xs:SV}(hx:ag tmp x=.agg xs)(hk:aP P t=true)
  {v:SV} (hv:(bE P t=true/\v=.agg (xs.cut off (P.cellsOf t)))\/(bE P t=false/\xs.cut off 1=.cons v .nil)):aB P w0 env κ F U tmp blk L a w o v []:=by
 have hev:=h.ev x;rw[hx]at hev;obtain⟨cs,g1,g2,g3⟩:=hev;obtain⟨fs,y,h1,h2,h3,_⟩:=vp hf;have hty:y.type=t:=by
  unfold Ca at ht;rw[h1]at ht;simp only[h2,Nt]at ht;injection ht
 refine CE h (t:=t) (off:=off) g2 g3 hk (fun u hu=>.inl ?_) hv
 simp only[execOp,ho,g1,Instr.field,run_underlying h1,h2,Sem.run_bind,Sem.run_pure,Result.andThen_ok,asAgg,hty,h3,hu]
theorem HX{o:Oper}{ix:Nat}{x:Operand}(ho:o.op=.extract x ix)(h:Rel w0 env κ F U tmp blk L a w){xs v:SV}(hx:ag tmp x=.tup xs)(hv:xs.cut ix 1=.cons v .nil):aB P w0 env κ F U tmp blk L a w o v []:=by
 have hev:=h.ev x;rw[hx]at hev;obtain⟨cs,g1,g2,g3⟩:=hev;obtain⟨u,hu,hd⟩:=th g2 g3 hv;exact aj h (u:=u) (.inl (by simp[execOp,ho,g1,Instr.extract,hu])) hd
theorem Ez(off:Nat):∀(l:List Value) (s:Nat) (cs:Array Value),off+s+l.length<=cs.size →
  ((l.zipIdx s).foldl (fun cs (x:Value×Nat)=>cs.setIfInBounds (off+x.2) x.1) cs)=(cs.toList.take (off+s)++l++cs.toList.drop (off+s+l.length)).toArray
 |[],s,cs,h=>by simp
 |c::l,s,cs,h=>by
  simp only[List.zipIdx_cons,Ox];rw[Ez off l (s+1) _ (by simp at h⊢;omega)]
  congr 1
  have hs:off+s<cs.toList.length:=by simp at h⊢;omega
  simp only[Oa];rw[show off+(s+1)=off+s+1 by omega,List.take_succ_eq_append_getElem (by simpa using hs)]
  rw[List.drop_set_of_lt (by omega)]
  simp[List.take_set,List.getElem_set_self,Nat.add_comm,Nat.add_left_comm]
  rw[List.set_eq_of_length_le (by simp;exact Oy _ _)]
theorem uq{place:Nat->Option (Nat×Nat)}:∀(ps:List (Nat×SV)) (vs:List (Nat×Value)) (xs out:List SV) (cs:Array Value),gz place xs ps=some out->ps.map (·.1)=vs.map (·.1) →
  (∀(j:Nat) p v,ps[j]?=some p->vs[j]?=some v->SVden env κ F w p.2 v.2)->SVden env κ F w (.of xs) (.tuple cs) →
  ∃r,Instr.fill place cs vs=some r/\SVden env κ F w (.of out) (.tuple r)/\out.length=xs.length
 |[],vs,xs,out,cs,he,hm,hp,hx=>by
  simp only[gz]at he;cases he
  cases vs with
  |nil=>exact⟨cs,rfl,hx,rfl⟩
  |cons v vs=>simp at hm
 | (i, y)::ps,vs,xs,out,cs,he,hm,hp,hx=>by
  cases vs with
  |nil=>simp at hm
  | cons v vs=>
   obtain⟨j,u⟩:=v;simp at hm
   obtain⟨rfl,hm⟩:=hm;simp only[gz]at he;split at he
   ·cases he
   ·rename_i off size hpl
    split at he
    ·cases he
    ·rename_i hc
     have hw:y.whole=true:=by
      cases hh:y.whole with
      |true=>rfl
      |false=>exact absurd (.inr (.inr hh)) hc
     have hsz:y.cells.len=size:=by
      by_cases hh:y.cells.len=size
      ·exact hh
      ·exact absurd (.inl hh) hc
     have hle:off+size<=xs.length:=by
      by_cases hh:off+size>xs.length
      ·exact absurd (.inr (.inl hh)) hc
      ·omega
     obtain⟨d1,d2⟩:=fa hw (show SVden env κ F w y u from hp 0 (i,y) (i,u) rfl rfl)
     obtain⟨s1,s2⟩:=bc d2 d1;obtain⟨t1,t2⟩:=bc (bA _) hx;rw[Eh]at t1;rw[da]at t2;have hfold:=Ez off u.cells.toList 0 cs (by simp;omega)
     simp only[NH,Ns]at hfold;have hnew:SVden env κ F w (.of (xs.take off++y.cells.list++xs.drop (off+size))) (.tuple (cs.toList.take off++u.cells.toList++cs.toList.drop (off+u.cells.size)).toArray):=by
      have hl:=list_len y.cells;refine eM (by simp[hl,s1,t1,hsz]) (fun q z v hz hv=>?_)
      have e1:=cW (l:=cs.toList) (m:=u.cells.toList) (off:=off) (by simp;omega) q
      have e2:=cW (l:=xs) (m:=y.cells.list) (off:=off) (by omega) q
      rw[hl,hsz]at e2;rw[Ns,s1,hsz]at e1;rw[s1,hsz]at hv;rw[e1]at hv;rw[e2]at hz;split at hz
      ·rename_i hi
       rw[if_pos hi]at hv;obtain⟨v',h9,h10⟩:=t2 q z hz;rw[Nn,h9]at hv;cases hv;exact h10
      ·rename_i hi
       rw[if_neg hi]at hv;split at hz
       ·rename_i hi2
        rw[if_pos hi2]at hv;obtain⟨v',h9,h10⟩:=s2 _ z hz;rw[Nn,h9]at hv;cases hv;exact h10
       ·rename_i hi2
        rw[if_neg hi2]at hv;obtain⟨v',h9,h10⟩:=t2 q z hz;rw[Nn,h9]at hv;cases hv;exact h10
     obtain⟨r,r1,r2,r3⟩:=uq ps vs _ out _ he hm (fun j p v h1 h2=>hp (j+1) p v (by simpa using h1) (by simpa using h2)) hnew
     refine⟨r,?_,r2,by rw[r3];simp[list_len];omega⟩
     unfold Instr.fill;simp only[hpl];rw[if_neg (by rw[s1,hsz];simp;omega)]
     rw[<-r1];congr 1
     rw[<-hfold,<-Array.foldl_toList,Array.toList_zipIdx]
theorem KC{o:Oper}{t:Nat}{parts:Array (Nat×Operand)}(ho:o.op=.build t parts)(h:Rel w0 env κ F U tmp blk L a w){z:SV}{pl:Nat->Option (Nat×Nat)}{cs:List SV}(hz:bM P t=some z)(hw:z.whole=true)(hpl:zH P t=some pl)
  (hf:gz pl z.cells.list (parts.toList.map fun x=>(x.1,ag tmp x.2))=some cs):aB P w0 env κ F U tmp blk L a w o (.agg (.of cs)) []:=by
 unfold bM at hz;obtain⟨zv,hz1,rfl⟩:=Option.map_eq_some_iff.1 hz;obtain⟨i,hi,hz2⟩:=Option.bind_eq_some_iff.1 hz1;obtain⟨d1,d2⟩:=fa hw (cT (env:=env) (κ:=κ) (F:=F) (w:=w) zv)
 have d3:SVden env κ F w (.of (bX zv).cells.list) (.tuple zv.cells):=by
  obtain⟨t1,t2⟩:=bc d2 d1;have:=eM (env:=env) (κ:=κ) (F:=F) (w:=w) (l:=(bX zv).cells.list) (cs:=zv.cells.toList) (by rw[list_len];simpa using t1) (fun q x u hx hu=>by
   obtain⟨v,h1,h2⟩:=t2 q x hx;rw[Nn,h1]at hu;cases hu;exact h2)
  simpa using this
 obtain⟨r,r1,r2,_⟩:=uq (env:=env) (κ:=κ) (F:=F) (w:=w) _ ((parts.map fun x=>(x.1,a.eval x.2)).toList) _ _ _ hf (by simp) (fun j p v h1 h2=>by
  simp only[Nm,NO]at h1 h2;obtain⟨x,h3,rfl⟩:=Option.map_eq_some_iff.1 h1;rw[h3]at h2;cases h2
  exact h.ev x.2) d3
 have hb:P.built t (parts.map fun x=>(x.1,a.eval x.2)).toList=some r:=by
  unfold zH at hpl;unfold Program.built;split at hpl
  ·rename_i fs hu
   obtain⟨places,h1,rfl⟩:=Option.map_eq_some_iff.1 hpl;simp only[hi,hu,hz2,h1];exact r1
  ·rename_i n e hu
   obtain⟨ie,h1,rfl⟩:=Option.map_eq_some_iff.1 hpl;simp only[hi,hu,hz2,h1];exact r1
  ·cases hpl
 refine aj h (u:=.agg r) (.inl ?_) ⟨r,rfl,bA _,r2⟩
 have hrun:=run_build (P:=P) w t _ r hb;simp only[execOp,ho];rw[Sem.run_bind,hrun,Result.andThen_ok,Sem.run_pure]
theorem Cw{u:Value}{x:AV}(h:Den F w u x)(hx:x.ty.one=true):aU u=true:=by
 cases h with
 |int=>rfl
 |bool=>rfl
 |raw _ h=>exact h
 |sl=>rfl
 |agg=>cases hx
theorem tT{u:Value}{t:Ty}{l:List (List AV)}(h:Den F w u (.sl t l))(hF:∀k,F k->k<w.heap.size)(ht:0<t.len)(ho:t.leaves=true):
  ∃A c news,u=.slice A l.length c/\Span w w.heap.size t.len A l.length news/\RowsDen F w news t l/\∀v∈news,aU v=true:=by
 obtain⟨A,c,rfl,h1,h2,h3,h4⟩:=Den.view h;have hlen:∀(i:Nat) r,l[i]?=some r->r.length=t.len:=fun i r hr=>by
  have:=congrArg N8 (h3 i r hr);rw[NL,Ty.list_len]at this;exact this
 have hdm:∀j,j<l.length*t.len->j / t.len<l.length/\j % t.len<t.len:=fun j hj=>⟨(Of ht).2 hj,Nat.mod_lt _ ht⟩
 obtain⟨news,hnl,hnews⟩:∃news:List Value,news.length=l.length*t.len/\∀j,j<l.length*t.len->∃a u x,A=some a/\F a.block/\news[j]?=some u/\w.cell? (a.add j)=some u/\(l[j / t.len]?.bind (·[j % t.len]?))=some x/\Den F w u x:=by
  refine⟨(List.range (l.length*t.len)).map (fun j=>((A.bind fun a=>w.cell? (a.add j))).getD undef),by simp,fun j hj=>?_⟩
  obtain⟨d1,d2⟩:=hdm j hj;have hr:=M9 d1;obtain⟨a,rfl,ha,hc⟩:=h4 _ _ hr;have hk:j % t.len<(l[j / t.len]).length:=by rw[hlen _ _ hr];exact d2
  obtain⟨u,hu,hd⟩:=hc _ _ (M9 hk);rw[Ot]at hu;refine⟨a,u,(l[j / t.len])[j % t.len],rfl,ha,by simp[hj,hu],hu,by rw[hr];simp[hk],hd⟩
 refine⟨A,c,news,rfl,⟨hnl,fun j u hu=>?_⟩,⟨h3,fun i r k x hr hx=>?_⟩,fun v hv=>?_⟩
 ·have hj:j<l.length*t.len:=by rw[<-hnl];exact(List.getElem?_eq_some_iff.1 hu).1
  obtain⟨a,u',x,e1,e2,e3,e4,_⟩:=hnews j hj;rw[e3]at hu;cases hu
  exact⟨a,e1,hF _ e2,e4⟩
 ·have hi:=(List.getElem?_eq_some_iff.1 hr).1
  have hk:k<t.len:=by rw[<-hlen i r hr];exact(List.getElem?_eq_some_iff.1 hx).1
  have hj:i*t.len+k<l.length*t.len:=by
   have:=Nx t.len (show i+1<=l.length by omega)
   rw[NI]at this;omega
  obtain⟨a,u',x',e1,e2,e3,e4,e5,e6⟩:=hnews _ hj;have q1:(i*t.len+k) / t.len=i:=by rw[Nat.mul_comm,Nat.mul_add_div ht,Nat.div_eq_of_lt hk];omega
  have q2:(i*t.len+k) % t.len=k:=by rw[Nat.mul_comm,Nat.mul_add_mod,Ou hk]
  rw[q1,q2,hr]at e5;simp only[Ow]at e5;rw[hx]at e5;cases e5
  exact⟨u',e3,e6⟩
 ·obtain⟨j,hj,rfl⟩:=NE hv
  rw[hnl]at hj;obtain⟨a,u',x,e1,e2,e3,e4,e5,e6⟩:=hnews j hj;rw[M9 (by rw[hnl];exact hj)]at e3
  cases e3
  obtain⟨d1,d2⟩:=hdm j hj;have hr:=M9 d1;rw[hr]at e5;simp only[Ow]at e5;refine Cw e6 ?_
  have hm:=congrArg (fun l=>l[j % t.len]?) (h3 _ _ hr)
  simp only[Nm,e5,Nt]at hm;exact List.all_eq_true.1 ho _ (Nq hm.symm)
theorem GY{us:List Value}{t:Ty}{l:List (List AV)}(h:RowsDen F w us t l)(hl:us.length=l.length*t.len)(ht:0<t.len)(ho:t.leaves=true):∀v∈us,aU v=true:=by
 intro v hv;obtain⟨j,hj,rfl⟩:=NE hv;have d1:j / t.len<l.length:=(Of ht).2 (by omega)
 have d2:j % t.len<t.len:=Nat.mod_lt _ ht
 have hr:=M9 d1;have hm:=h.1 _ _ hr;have hlen:=congrArg N8 hm;rw[NL,Ty.list_len]at hlen;have hx:=M9 (l:=l[j / t.len]) (i:=j % t.len) (by omega)
 obtain⟨u,hu,hd⟩:=h.2 _ _ _ _ hr hx;rw[Ot,M9 hj]at hu;cases hu
 refine Cw hd ?_
 have hm2:=congrArg (fun l=>l[j % t.len]?) hm
 simp only[Nm,hx,Nt]at hm2;exact List.all_eq_true.1 ho _ (Nq hm2.symm)
theorem RowsDen.app{us vs:List Value}{t:Ty}{l m:List (List AV)}(h1:RowsDen F w us t l)(h2:RowsDen F w vs t m)(hl:us.length=l.length*t.len):RowsDen F w (us++vs) t (l++m):=by
 refine⟨fun i r hr=>?_,fun i r k x hr hx=>?_⟩
 ·by_cases hi:i<l.length
  ·rw[Nb hi]at hr;exact h1.1 i r hr
  ·rw[Na (by omega)]at hr;exact h2.1 _ r hr
 ·by_cases hi:i<l.length
  ·rw[Nb hi]at hr
   obtain⟨u,hu,hd⟩:=h1.2 i r k x hr hx;exact⟨u,by rw[Nb (List.getElem?_eq_some_iff.1 hu).1];exact hu,hd⟩
  ·rw[Na (by omega)]at hr
   obtain⟨u,hu,hd⟩:=h2.2 _ r k x hr hx;have e:i*t.len=l.length*t.len+(i-l.length)*t.len:=by rw[<-NC];congr 1;omega
   refine⟨u,by rw[Na (by omega)];rw[<-hu];congr 1;omega,hd⟩
theorem c8(l m:E):(den env (bR l m)).l=(den env l).l++(den env m).l:=by
 induction m generalizing l with
 |snoc m r ih _=>simp[bR,den,ih]
 |lnil=>simp[bR,den]
 |_=>simp only[bR];split<;>simp[den]
theorem rA{base base':Nat}{e:TypeId}{size:Nat}{v:Value}{n:Nat}{xs:List Value}(h:w.ownsRow base e size v n xs)(hb:base'<=base):w.ownsRow base' e size v n xs:=
 ⟨h.1,h.2.imp id (fun⟨g,cap,cur,h1,h2,r⟩=>⟨g,cap,cur,h1,NV hb h2,r⟩)⟩
theorem mN{base t ty e:Nat}{i:TypeInfo}{z:Value}{size:Nat}(ht:P.underlying t=some (.slice e))(hi:P.info? e=some i)(hz:i.zero=some z)(hsize:i.size=size)(hzs:z.cells.size=size)(hsz:0<size)(hby:0<i.bytes)
  {v:Value} {n:Nat} {xs:List Value} (hown:w.ownsRow base e size v n xs) {A:Option Addr} {m c B:Nat} {news:List Value} (hS:Span w B size A m news) (h1:∀u∈news,aU u=true) (hbytes:(n+m)*i.bytes<=140737488355328) (hbase:base<=w.heap.size):
  ∃v' w',(Builtin.append_ #[t,t] ty #[v,.slice A m c]).run P w=.ok v' w'/\w'.ownsRow base e size v' (n+m) (xs++news)/\w.grownBy w' (ai v)/\∀k,ai v'=some k->ai v=some k\/w.heap.size<=k:=by
 have h63:n+m<=maxLen:=by
  have:=NV (Ny (n+m) hby) hbytes
  unfold maxLen;omega
 have h1':∀u∈news,u.oneCell'=true:=fun u hu=>by rw[<-lI];exact h1 u hu
 have hob:∀u:Value,(∃A n c,u=.slice A n c)->u.ownBlock=ai u:=fun u ⟨A,n,c,h⟩=>by rw[h];cases A<;>rfl
 cases A with
 | none=>
  have hn:news=[]:=by
   cases news with
   |nil=>rfl
   |cons u l=>obtain⟨a,ha,_⟩:=hS.2 0 u rfl;cases ha
  have hm:m=0:=by
   have h0:=hS.1;rw[hn,NS]at h0;rcases NB m with h|h
   ·exact h
   ·have:=NZ h hsz;omega
  obtain⟨v',w',r1,r2,r3⟩:=AQ (P:=P) (w:=w) base t ty e i z size i.bytes ht hi hz hsize rfl hzs hsz v n xs hown none m c B news hS h1' h63 hbytes hbase
  have hr:(Builtin.append_ #[t,t] ty #[v,.slice none m c]).run P w=.ok v w:=by
   subst hm;rcases hown.2 with⟨rfl,rfl⟩|⟨g,cap,cur,rfl,_,_,hnc,_⟩
   ·simp[Builtin.append_,run_underlying ht,sizeOf,typeInfo,hi,Builtin.lenOf,Builtin.firstCells]
   ·simp[Builtin.append_,run_underlying ht,sizeOf,typeInfo,hi,Builtin.lenOf,Builtin.firstCells,hnc,storeCells]
  rw[hr]at r1;cases r1
  exact⟨v,w,hr,r2,iA _ _,fun k hk=>.inl hk⟩
 | some ad=>
  have hnews:∀j u,news[j]?=some u->w.cell? (ad.add j)=some u:=fun j u hu=>by obtain⟨a',e1,_,e2⟩:=hS.2 j u hu;cases e1;exact e2
  obtain⟨v',w',r1,r2,r3,_⟩:=run_append_own (P:=P) w base t ty e i z size i.bytes ht hi hz hsize rfl hzs hsz v n xs hown ad m c news hS.1 hnews h1' h63 hbytes hbase
  refine⟨v',w',r1,r2,?_,fun k hk=>?_⟩
  ·rcases hown.2 with⟨rfl,_⟩|⟨g,cap,cur,rfl,_⟩<;>exact r3
  ·rcases hown.2 with⟨rfl,rfl⟩|⟨g,cap,cur,rfl,hbg,hg,hnc,hcm,hcs,htake⟩
   ·have hx:xs=[]:=Np (by simpa using hown.1)
    subst hx;obtain⟨v2,w2,q1,q2,_⟩:=run_append_own (P:=P) w w.heap.size t ty e i z size i.bytes ht hi hz hsize rfl hzs hsz (.slice none 0 0) 0 [] (World.ownsRow_nil _ _ _ _) ad m c news hS.1 hnews h1' h63 hbytes (Nv _)
    rw[r1]at q1;cases q1
    right
    refine(q2.lt k ?_).1
    rw[<-hk];rcases q2.2 with⟨rfl,_⟩|⟨g,cap,cur,rfl,_⟩<;>rfl
   ·by_cases hroom:n+m<=cap
    ·have hfit:n*i.size+news.length<=cur.size:=by rw[hS.1,hcs,hsize,<-NC];exact Nx _ hroom
     have hr:=run_append_room (P:=P) w t ty e i ht hi g n cap cur hg ad m c news (by rw[hsize];exact hS.1) hnews h1' hroom hfit
     rw[r1]at hr;cases hr
     left;exact hk
    ·have hr:=run_append_grow (P:=P) w t ty e i z ht hi hz ⟨g,0,none⟩ n cap xs (by rw[hsize];exact hown.1) (hown.cells (g:=g) rfl) ad m c news (by rw[hsize];exact hS.1) hnews (by omega) (by unfold maxLen at h63;omega) (growslice_fits (by omega) hbytes)
     rw[r1]at hr;cases hr
     right;cases hk;exact Nv _
theorem iP(h:Rel w0 env κ F U tmp blk L a w){x:SV}{u:Value}(hx:SVden env κ F w x u){ty:Option Ty}{l:E}(hl:ck blk x=some (ty,l)){t:Ty}(hty:ty.all (·=t)=true)(ht:0<t.len)(ho:t.leaves=true):
  ∃A c news,u=.slice A (den env l).l.length c/\Span w w.heap.size t.len A (den env l).l.length news/\RowsDen F w news t (den env l).l/\∀v∈news,aU v=true:=by
 unfold ck at hl;split at hl
 ·cases hl
  simp only[Oc,decide_eq_true_eq]at hty;subst hty;exact tT hx h.F ht ho
 ·cases hl
  rw[show u=_ from hx]
  exact⟨none,0,[],rfl,Span.nil _ _ _ _,⟨fun i r hr=>by simp[den]at hr,fun i r k x hr=>by simp[den]at hr⟩,by simp⟩
 ·rename_i b
  split at hl
  ·rename_i e t' l' hb
   cases hl
   simp only[Oc,decide_eq_true_eq]at hty;subst hty;obtain⟨us,hown,hpos,hrow⟩:=h.blks b _ hb;have hp:=GY hrow hown.1 ht ho;rw[show u=κ b from hx.1]
   rcases hown.2 with⟨e1,e2⟩|⟨g,cap,cur,e1,_⟩
   ·rw[e1]at hown⊢
    have hus:us=[]:=Np (by rw[hown.1,e2];simp)
    subst hus;exact⟨none,0,[],by rw[e2],by rw[e2];exact Span.nil _ _ _ _,hrow,by simp⟩
   ·rw[e1]at hown⊢
    exact⟨_,_,us,rfl,Span.of_own hown,hrow,hp⟩
  ·rename_i e t' l' hb
   cases hl
   simp only[Oc,decide_eq_true_eq]at hty;subst hty;rw[show u=κ b from hx.1]
   exact tT (h.blks b _ hb).1 h.F ht ho
  ·cases hl
 ·cases hl
theorem f8{o:Oper}{s x:Operand}{t:Nat}(ho:o.op=.call { callee:=.builtin .append,args:=#[s,x],argTypes:=#[t,t] }){v':Value}
  (hr:(Builtin.append_ #[t,t] o.type #[a.eval s,a.eval x]).run P w=.ok v' w'):bL P o a w v' w':=.inl (by
 unfold execOp;simp only[ho,resolve,invoke,builtin,Sem.run_bind,Sem.run_pure,Result.andThen_ok,Nz,NF,NJ,hr])
theorem rM{e:Nat}{i:TypeInfo}{z:SV}(hi:P.info? e=some i)(hz:bM P e=some z):∃zv,i.zero=some zv/\z=bX zv:=by
 unfold bM at hz;obtain⟨zv,h1,rfl⟩:=Option.map_eq_some_iff.1 hz;rw[hi]at h1;exact⟨zv,h1,rfl⟩
theorem Cj{o:Oper}{s x:Operand}{t ety:Nat}{row:Ty}(ho:o.op=.call { callee:=.builtin .append,args:=#[s,x],argTypes:=#[t,t] })(h:Rel w0 env κ F U tmp blk L a w)(ht:aZ P t=some (ety,row)){m:Nat}(hm:¬U m)
  {ty:Option Ty} {lx l:E} (hx:ck blk (ag tmp x)=some (ty,lx)) (hty:ty.all (·=row)=true)
  (hn:∀e∈cZ (bR l lx) (P.bytesOf ety),(den env e).b=true) {wr:List (Nat×Option SB)}
  (hs:(ag tmp s=.nilsl/\l=.lnil/\wr=[(m,some (.row ety row (bR l lx)))])\/∃d,ag tmp s=.row d/\blk d=some (.row ety row l)/\wr=[(d,some (.dead l)),(m,some (.row ety row (bR l lx)))]):
  aB P w0 env κ F U tmp blk L a w o (.row m) wr:=by
 obtain⟨u1,u2,u3,_,u5,u6,u7,u8⟩:=bn ht;obtain⟨z,hz1,hzs⟩:=Option.map_eq_some_iff.1 u8;obtain⟨i,hi,hz⟩:=Option.bind_eq_some_iff.1 hz1;have hsize:i.size=row.len:=by rw[u2];unfold Program.cellsOf;rw[hi];rfl
 have hbytes:P.bytesOf ety=i.bytes:=by unfold Program.bytesOf;rw[hi];rfl
 obtain⟨A,c,news,e1,e2,e3,e4⟩:=iP h (h.ev x) hx hty u3 u7;have hroom:((den env l).l.length+(den env lx).l.length)*i.bytes<=140737488355328:=by
  have h1:=aK (aA hn);rw[bQ,aY]at h1;change decide ((((den env (bR l lx)).l.length:Int))*(P.bytesOf ety:Int)<=140737488355328)=true at h1
  have h2:=of_decide_eq_true h1;rw[c8,Nk,hbytes]at h2;rw[<-NM]at h2;generalize ((den env l).l.length+(den env lx).l.length)*i.bytes=q at h2⊢
  omega
 have hle:=h.below.size;rcases hs with⟨h1,rfl,rfl⟩|⟨d,h1,h2,rfl⟩
 ·have hes:=h.ev s
  rw[h1]at hes;obtain⟨v',w',r1,r2,r3,r4⟩:=mN (P:=P) (ty:=o.type) u1 hi hz hsize hzs u3 (by omega) (World.ownsRow_nil w w.heap.size ety row.len) e2 e4 (c:=c) hroom (Nv _)
  rw[N5,NT]at r2;have hvk:∀k,ai v'=some k->w.heap.size<=k:=fun k hk=>(r4 k hk).resolve_left (by simp[ai])
  refine⟨v',w',upd κ m v',F,f8 ho (by rw[show a.eval s=_ from hes,e1];exact r1),?_,⟨(ak κ m v').symm,?_⟩,?_⟩
  rotate_left 2
  ·refine⟨fun b hb=>ah (fun e=>hm (e▸hb)),fun _ h=>h,fun _ h=>.inl h,r3.size,fun k hk _=>r3.block k hk (by simp[ai]),fun b k h1 h2=>?_,.of fun k hk=>.inr (r3.block k hk (by simp[ai]))⟩
   by_cases e:b=m
   ·subst e;rw[ak]at h2;exact .inl (hvk k h2)
   ·rw[ah e]at h2
    rw[show aL blk [(m,some (SB.row ety row (bR .lnil lx)))] b=_ from ah e]at h1
    exact .inr ⟨b,h1,h2⟩
  ·have hbel:Below w.heap.size w w':=⟨r3.os,r3.tape,r3.output,r3.size,fun k hk=>r3.block k hk (by simp[ai])⟩
   have hold:∀b k,aF (blk b)=true->ai (κ b)=some k->k<w.heap.size:=fun b k hb hk=>by
    obtain⟨y,hy,hl⟩:=bC hb;exact((h.blks b y hy).lt hl hk).2
   have hne:∀b,U b->b≠m:=fun b hb e=>hm (e▸hb)
   have hlive:∀b,aF (upd blk m (some (SB.row ety row (bR .lnil lx))) b)=true->b=m\/(aF (blk b)=true/\b≠m):=fun b hb=>by
    by_cases e:b=m
    ·exact .inl e
    ·rw[ah e]at hb;exact .inr ⟨hb,e⟩
   refine h.world (fun b hb=>.inl hb) (fun b hb=>ah (hne b hb)) (fun k hk=>hk) (fun k hF=>hbel.block k (h.F k hF)) (fun b y hy=>?_) (fun b q k hb hq h1 h2=>?_) (fun b k hb h1=>?_) (fun k hF=>NW (h.F k hF) hbel.size) (h.below.trans (hbel.mono hle))
   ·by_cases e:b=m
    ·subst e;rw[show aL blk [(b,some (SB.row ety row (bR .lnil lx)))] b=_ from ak _ _ _]at hy;cases hy
     refine .inr ⟨⟨news,?_,u3,?_⟩,.inr ⟨_,List.mem_singleton.2 rfl,rfl⟩,fun c hc=>by cases hc⟩
     ·rw[ak,c8]
      simp only[den,AV.l_sl,NT];exact rA r2 hle
     ·rw[c8]
      simp only[den,AV.l_sl,NT];exact e3.keep (fun _ h=>h) (fun k hk=>hbel.block k (h.F k hk))
    ·rw[show aL blk [(m,some (SB.row ety row (bR .lnil lx)))] b=_ from ah e]at hy
     exact .inl ⟨hy,fun hl k h1=>hbel.block k (hold b k (by rw[hy];exact hl) h1)⟩
   ·rcases hlive b hb with rfl|⟨hb1,hb2⟩<;>rcases hlive q hq with rfl|⟨hq1,hq2⟩
    ·rfl
    ·rw[ak]at h1;rw[ah hq2]at h2
     have:=hold q _ hq1 h2;have:=hvk k h1;omega
    ·rw[ak]at h2;rw[ah hb2]at h1
     have:=hold b _ hb1 h1;have:=hvk k h2;omega
    ·rw[ah hb2]at h1;rw[ah hq2]at h2
     exact h.inj b q k hb1 hq1 h1 h2
   ·rcases hlive b hb with rfl|⟨hb1,hb2⟩
    ·rw[ak]at h1
     intro hF;have:=h.F _ hF;have:=hvk k h1;omega
    ·rw[ah hb2]at h1;exact h.nF b k hb1 h1
  ·rcases r2.2 with⟨rfl,_⟩|⟨g,cap,cur,rfl,_⟩<;>rfl
 ·have hes:=h.ev s
  rw[h1]at hes;obtain⟨us,hown,hpos,hrow⟩:=h.blks d _ h2;obtain⟨v',w',r1,r2,r3,r4⟩:=mN (P:=P) (ty:=o.type) u1 hi hz hsize hzs u3 (by omega) hown e2 e4 (c:=c) hroom hle
  refine⟨v',w',upd κ m v',F,f8 ho (by rw[show a.eval s=_ from hes.1,e1];exact r1),?_,⟨(ak κ m v').symm,?_⟩,h.moved_kept h2 rfl rfl rfl hm r3 r4⟩
  ·have hbel:Below w0.heap.size w0 w':=h.below.trans ⟨r3.os,r3.tape,r3.output,r3.size,fun k hk=>r3.block k (by omega) (fun e=>by have:=((h.blks d _ h2).lt rfl e.symm).1;omega)⟩
   have hF2:∀k,F k->w'.heap[k]?=w.heap[k]?:=fun k hF=>r3.block k (h.F k hF) (fun e=>h.nF d k (by rw[h2];rfl) e.symm hF)
   refine(h.moved (y:=.row ety row (bR l lx)) (z:=.dead l) h2 rfl rfl ?_ rfl hm r3 r4 ⟨us++news,?_,u3,?_⟩ (fun c hc=>by cases hc) hbel).monoU (fun b hb=>?_)
   ·have hdm:d≠m:=fun e=>by subst e;exact hm (h.bnames d _ h2).1
    rcases hown.2 with⟨e,e'⟩|⟨g,cap,cur,e,_⟩
    ·exact⟨none,0,by rw[ah hdm,e,e']⟩
    ·exact⟨_,_,by rw[ah hdm,e]⟩
   ·rw[ak,c8,Nk];exact r2
   ·rw[c8]
    exact(hrow.app e3 hown.1).keep (fun _ h=>h) hF2
   ·rcases hb with hb|rfl
    ·exact .inl hb
    ·exact .inr ⟨_,Nh _ (List.mem_singleton.2 rfl),rfl⟩
  ·rcases r2.2 with⟨rfl,_⟩|⟨g,cap,cur,rfl,_⟩<;>rfl
theorem GL{o:Oper}{m ety:Nat}{row:Ty}{lE:E}{v':Value}{us:List Value}(h:Rel w0 env κ F U tmp blk L a w)(hm:¬U m)(hr:bL P o a w v' w')(r2:w'.ownsRow w.heap.size ety row.len v' (den env lE).l.length us)(u3:0<row.len)(hrow:RowsDen F w us row (den env lE).l)(r3:w.grownBy w' none)(hvk:∀k,ai v'=some k->w.heap.size<=k):
  aB P w0 env κ F U tmp blk L a w o (.row m) [(m,some (.row ety row lE))]:=by
 have hle:=h.below.size;refine⟨v',w',upd κ m v',F,hr,?_,⟨(ak κ m v').symm,?_⟩,?_⟩
 rotate_left 2
 ·refine⟨fun b hb=>ah (fun e=>hm (e▸hb)),fun _ h=>h,fun _ h=>.inl h,r3.size,fun k hk _=>r3.block k hk (by simp),fun b k h1 h2=>?_,.of fun k hk=>.inr (r3.block k hk (by simp))⟩
  by_cases e:b=m
  ·subst e;rw[ak]at h2;exact .inl (hvk k h2)
  ·rw[ah e]at h2
   rw[show aL blk [(m,some (SB.row ety row lE))] b=_ from ah e]at h1
   exact .inr ⟨b,h1,h2⟩
 ·have hbel:Below w.heap.size w w':=⟨r3.os,r3.tape,r3.output,r3.size,fun k hk=>r3.block k hk (by simp)⟩
  have hold:∀b k,aF (blk b)=true->ai (κ b)=some k->k<w.heap.size:=fun b k hb hk=>by
   obtain⟨y,hy,hl⟩:=bC hb;exact((h.blks b y hy).lt hl hk).2
  have hne:∀b,U b->b≠m:=fun b hb e=>hm (e▸hb)
  have hlive:∀b,aF (upd blk m (some (SB.row ety row lE)) b)=true->b=m\/(aF (blk b)=true/\b≠m):=fun b hb=>by
   by_cases e:b=m
   ·exact .inl e
   ·rw[ah e]at hb;exact .inr ⟨hb,e⟩
  refine h.world (fun b hb=>.inl hb) (fun b hb=>ah (hne b hb)) (fun k hk=>hk) (fun k hF=>hbel.block k (h.F k hF)) (fun b y hy=>?_) (fun b q k hb hq h1 h2=>?_) (fun b k hb h1=>?_) (fun k hF=>NW (h.F k hF) hbel.size) (h.below.trans (hbel.mono hle))
  ·by_cases e:b=m
   ·subst e;rw[show aL blk [(b,some (SB.row ety row lE))] b=_ from ak _ _ _]at hy;cases hy
    refine .inr ⟨⟨us,?_,u3,?_⟩,.inr ⟨_,List.mem_singleton.2 rfl,rfl⟩,fun c hc=>by cases hc⟩
    ·rw[ak];exact rA r2 hle
    ·exact hrow.keep (fun _ h=>h) (fun k hk=>hbel.block k (h.F k hk))
   ·rw[show aL blk [(m,some (SB.row ety row lE))] b=_ from ah e]at hy
    exact .inl ⟨hy,fun hl k h1=>hbel.block k (hold b k (by rw[hy];exact hl) h1)⟩
  ·rcases hlive b hb with rfl|⟨hb1,hb2⟩<;>rcases hlive q hq with rfl|⟨hq1,hq2⟩
   ·rfl
   ·rw[ak]at h1;rw[ah hq2]at h2
    have:=hold q _ hq1 h2;have:=hvk k h1;omega
   ·rw[ak]at h2;rw[ah hb2]at h1
    have:=hold b _ hb1 h1;have:=hvk k h2;omega
   ·rw[ah hb2]at h1;rw[ah hq2]at h2
    exact h.inj b q k hb1 hq1 h1 h2
  ·rcases hlive b hb with rfl|⟨hb1,hb2⟩
   ·rw[ak]at h1
    intro hF;have:=h.F _ hF;have:=hvk k h1;omega
   ·rw[ah hb2]at h1;exact h.nF b k hb1 h1
 ·rcases r2.2 with⟨rfl,_⟩|⟨g,cap,cur,rfl,_⟩<;>rfl
theorem A8{o:Oper}{s x:Operand}{t ety:Nat}{row:Ty}(ho:o.op=.call { callee:=.builtin .append,args:=#[s,x],argTypes:=#[t,t] })(h:Rel w0 env κ F U tmp blk L a w)(ht:aZ P t=some (ety,row))
  {ty:Option Ty} {lx l:E} (hx:ck blk (ag tmp x)=some (ty,lx)) (hty:ty.all (·=row)=true)
  (hn:∀e∈cZ (bR l lx) (P.bytesOf ety),(den env e).b=true) {d:Nat} (hs:ag tmp s=.row d) (hd:blk d=some (.ice 1 row l))
  (hm0:¬(den env lx).l.length=0):∃v' w' us,bL P o a w v' w'/\w'.ownsRow w.heap.size ety row.len v' (den env (bR l lx)).l.length us/\w.grownBy w' none/\RowsDen F w us row (den env (bR l lx)).l/\0<row.len/\∀k,ai v'=some k->w.heap.size<=k/\k<w'.heap.size:=by
 obtain⟨u1,u2,u3,_,u5,u6,u7,u8⟩:=bn ht;obtain⟨z,hz1,hzs⟩:=Option.map_eq_some_iff.1 u8;obtain⟨i,hi,hz⟩:=Option.bind_eq_some_iff.1 hz1;have hsize:i.size=row.len:=by rw[u2];unfold Program.cellsOf;rw[hi];rfl
 have hbytes:P.bytesOf ety=i.bytes:=by unfold Program.bytesOf;rw[hi];rfl
 obtain⟨A,c,news,e1,e2,e3,e4⟩:=iP h (h.ev x) hx hty u3 u7;have hroom:((den env l).l.length+(den env lx).l.length)*i.bytes<=140737488355328:=by
  have h1:=aK (aA hn);rw[bQ,aY]at h1;change decide ((((den env (bR l lx)).l.length:Int))*(P.bytesOf ety:Int)<=140737488355328)=true at h1
  have h2:=of_decide_eq_true h1;rw[c8,Nk,hbytes]at h2;rw[<-NM]at h2;generalize ((den env l).l.length+(den env lx).l.length)*i.bytes=q at h2⊢
  omega
 have hle:=h.below.size;have hes:=h.ev s;rw[hs]at hes;obtain⟨hden,hfull⟩:=h.blks d _ hd;obtain⟨A0,hA0⟩:=hfull rfl;obtain⟨A1,c1,olds,f1,f2,f3,f4⟩:=tT hden h.F u3 u7;have hsv:a.eval s=.slice A1 (den env l).l.length (den env l).l.length:=by
  rw[show a.eval s=κ d from hes.1,f1]
  rw[f1]at hA0;cases hA0;rfl
 have hkap:κ d=.slice A1 (den env l).l.length (den env l).l.length:=by rw[<-hsv];exact hes.1.symm
 have happ:(den env (bR l lx)).l=(den env l).l++(den env lx).l:=c8 l lx
 have hnews:∃ad,A=some ad/\∀j u,news[j]?=some u->w.cell? (ad.add j)=some u:=by
  have hlen:=e2.1;have hpos:0<news.length:=by rw[hlen];exact NZ (by omega) u3
  obtain⟨ad,h1,_,_⟩:=e2.2 0 _ (M9 hpos);refine⟨ad,h1,fun j u hu=>?_⟩
  obtain⟨a',h2,_,h3⟩:=e2.2 j u hu;rw[h1]at h2;cases h2;exact h3
 obtain⟨ad,rfl,hcells⟩:=hnews;have h63:(den env l).l.length+(den env lx).l.length<=maxLen:=by
  have:=NV (Ny _ (show 0<i.bytes by omega)) hroom
  unfold maxLen;omega
 have hrun:∃v' w',(Builtin.append_ #[t,t] o.type #[a.eval s,a.eval x]).run P w=.ok v' w'/\w'.ownsRow w.heap.size ety row.len v' ((den env l).l.length+(den env lx).l.length) (olds++news)/\w.grownBy w' none:=by
  rw[hsv,e1];cases A1 with
  | none=>
   have hn0:olds=[]:=by
    cases olds with
    |nil=>rfl
    |cons u l=>obtain⟨a,ha,_⟩:=f2.2 0 u rfl;cases ha
   have hm:(den env l).l.length=0:=by
    have h0:=f2.1;rw[hn0,NS]at h0;rcases NB (den env l).l.length with h|h
    ·exact h
    ·have:=NZ h u3;omega
   rw[hm,hn0];rw[hm]at hroom;obtain⟨v',w',r1,r2,r3,r4⟩:=mN (P:=P) (ty:=o.type) u1 hi hz hsize hzs u3 (by omega) (World.ownsRow_nil w w.heap.size ety row.len) e2 e4 (c:=c) hroom (Nv _)
   exact⟨v',w',r1,r2,by simpa[ai]using r3⟩
  | some b=>
   exact run_append_arg_grows (P:=P) w t o.type ety i z row.len i.bytes u1 hi hz hsize rfl hzs u3 b _ _ olds f2.1 (fun j u hu=>by
    obtain⟨a',h2,_,h3⟩:=f2.2 j u hu;cases h2;exact h3) ad _ c news e2.1 hcells (by omega) h63 hroom
 obtain⟨v',w',r1,r2,r3⟩:=hrun;refine⟨v',w',olds++news,f8 ho r1,by rw[happ,Nk];exact r2,r3,by rw[happ];exact f3.app e3 f2.1,u3,fun k hk=>?_⟩
 rcases r2.2 with⟨rfl,_⟩|⟨g,cap,cur,rfl,hg,hcur,_⟩
 ·cases hk
 ·cases hk
  refine⟨hg,?_⟩
  exact(Array.getElem?_eq_some_iff.1 hcur).1
theorem Dj{o:Oper}{s x:Operand}{t ety:Nat}{row:Ty}(ho:o.op=.call { callee:=.builtin .append,args:=#[s,x],argTypes:=#[t,t] })(h:Rel w0 env κ F U tmp blk L a w)(ht:aZ P t=some (ety,row))
  {ty:Option Ty} {lx l:E} (hx:ck blk (ag tmp x)=some (ty,lx)) (hty:ty.all (·=row)=true)
  (hn:∀e∈aG (.cmp' .lt (.int 0) lx.len')++cZ (bR l lx) (P.bytesOf ety),(den env e).b=true) {d:Nat} (hs:ag tmp s=.row d) (hd:blk d=some (.ice 1 row l)) {m:Nat} (hm:¬U m):
  aB P w0 env κ F U tmp blk L a w o (.row m) [(m,some (.row ety row (bR l lx)))]:=by
 have n1:=aK (aA fun e he=>hn e (Nd _ he))
 rw[aY]at n1;have n1:(0:Int)<((den env lx).l.length:Int):=of_decide_eq_true n1
 obtain⟨v',w',us,r1,r2,r3,r4,r5,r6⟩:=A8 ho h ht hx hty (fun e he=>hn e (Ng _ he)) hs hd (by omega)
 exact GL h hm r1 r2 r5 r4 r3 (fun k hk=>(r6 k hk).1)
theorem BG{o:Oper}{s x:Operand}{t ety:Nat}{row:Ty}(ho:o.op=.call { callee:=.builtin .append,args:=#[s,x],argTypes:=#[t,t] })(h:Rel w0 env κ F U tmp blk L a w)(ht:aZ P t=some (ety,row))
  {ty:Option Ty} {lx l:E} (hx:ck blk (ag tmp x)=some (ty,lx)) (hty:ty.all (·=row)=true)
  (hn:∀e∈cZ (bR l lx) (P.bytesOf ety),(den env e).b=true) {d:Nat} (hs:ag tmp s=.row d) (hd:blk d=some (.ice 1 row l)):
  aB P w0 env κ F U tmp blk L a w o (.vs row (bR l lx)) []:=by
 obtain⟨u1,u2,u3,_,u5,u6,u7,u8⟩:=bn ht;obtain⟨z,hz1,hzs⟩:=Option.map_eq_some_iff.1 u8;obtain⟨i,hi,hz⟩:=Option.bind_eq_some_iff.1 hz1;have hsize:i.size=row.len:=by rw[u2];unfold Program.cellsOf;rw[hi];rfl
 have hbytes:P.bytesOf ety=i.bytes:=by unfold Program.bytesOf;rw[hi];rfl
 obtain⟨A,c,news,e1,e2,e3,e4⟩:=iP h (h.ev x) hx hty u3 u7;have hroom:((den env l).l.length+(den env lx).l.length)*i.bytes<=140737488355328:=by
  have h1:=aK (aA hn);rw[bQ,aY]at h1;change decide ((((den env (bR l lx)).l.length:Int))*(P.bytesOf ety:Int)<=140737488355328)=true at h1
  have h2:=of_decide_eq_true h1;rw[c8,Nk,hbytes]at h2;rw[<-NM]at h2;generalize ((den env l).l.length+(den env lx).l.length)*i.bytes=q at h2⊢
  omega
 have hle:=h.below.size;have hes:=h.ev s;rw[hs]at hes;obtain⟨hden,hfull⟩:=h.blks d _ hd;obtain⟨A0,hA0⟩:=hfull rfl;obtain⟨A1,c1,olds,f1,f2,f3,f4⟩:=tT hden h.F u3 u7;have hsv:a.eval s=.slice A1 (den env l).l.length (den env l).l.length:=by
  rw[show a.eval s=κ d from hes.1,f1]
  rw[f1]at hA0;cases hA0;rfl
 have hkap:κ d=.slice A1 (den env l).l.length (den env l).l.length:=by rw[<-hsv];exact hes.1.symm
 have happ:(den env (bR l lx)).l=(den env l).l++(den env lx).l:=c8 l lx
 by_cases hm0:(den env lx).l.length=0
 ·have hnil:(den env lx).l=[]:=Np hm0
  refine aj h (u:=κ d) ?_ ?_
  ·refine f8 ho ?_
   rw[hsv,e1,hkap,hm0];cases A1<;>cases A<;>simp[Builtin.append_,run_underlying u1,sizeOf,typeInfo,hi,Builtin.lenOf,Builtin.firstCells,storeCells,loadCells,loadCellsFrom]
  ·show Den F w _ (.sl row _)
   rw[happ,hnil,N6];exact hden
 ·have hnews:∃ad,A=some ad/\∀j u,news[j]?=some u->w.cell? (ad.add j)=some u:=by
   have hlen:=e2.1;have hpos:0<news.length:=by rw[hlen];exact NZ (by omega) u3
   obtain⟨ad,h1,_,_⟩:=e2.2 0 _ (M9 hpos);refine⟨ad,h1,fun j u hu=>?_⟩
   obtain⟨a',h2,_,h3⟩:=e2.2 j u hu;rw[h1]at h2;cases h2;exact h3
  obtain⟨ad,rfl,hcells⟩:=hnews;have h63:(den env l).l.length+(den env lx).l.length<=maxLen:=by
   have:=NV (Ny _ (show 0<i.bytes by omega)) hroom
   unfold maxLen;omega
  have hrun:∃v' w',(Builtin.append_ #[t,t] o.type #[a.eval s,a.eval x]).run P w=.ok v' w'/\w'.ownsRow w.heap.size ety row.len v' ((den env l).l.length+(den env lx).l.length) (olds++news)/\w.grownBy w' none:=by
   rw[hsv,e1];cases A1 with
   | none=>
    have hn0:olds=[]:=by
     cases olds with
     |nil=>rfl
     |cons u l=>obtain⟨a,ha,_⟩:=f2.2 0 u rfl;cases ha
    have hm:(den env l).l.length=0:=by
     have h0:=f2.1;rw[hn0,NS]at h0;rcases NB (den env l).l.length with h|h
     ·exact h
     ·have:=NZ h u3;omega
    rw[hm,hn0];rw[hm]at hroom;obtain⟨v',w',r1,r2,r3,r4⟩:=mN (P:=P) (ty:=o.type) u1 hi hz hsize hzs u3 (by omega) (World.ownsRow_nil w w.heap.size ety row.len) e2 e4 (c:=c) hroom (Nv _)
    exact⟨v',w',r1,r2,by simpa[ai]using r3⟩
   | some b=>
    exact run_append_arg_grows (P:=P) w t o.type ety i z row.len i.bytes u1 hi hz hsize rfl hzs u3 b _ _ olds f2.1 (fun j u hu=>by
     obtain⟨a',h2,_,h3⟩:=f2.2 j u hu;cases h2;exact h3) ad _ c news e2.1 hcells (by omega) h63 hroom
  obtain⟨v',w',r1,r2,r3⟩:=hrun;have hbel:Below w.heap.size w w':=⟨r3.os,r3.tape,r3.output,r3.size,fun k hk=>r3.block k hk (by simp)⟩
  have hvk:∀k,ai v'=some k->w.heap.size<=k/\k<w'.heap.size:=fun k hk=>by
   rcases r2.2 with⟨rfl,_⟩|⟨g,cap,cur,rfl,hg,hcur,_⟩
   ·cases hk
   ·cases hk
    refine⟨hg,?_⟩
    exact(Array.getElem?_eq_some_iff.1 hcur).1
  have hold:∀b k,aF (blk b)=true->ai (κ b)=some k->k<w.heap.size:=fun b k hb hk=>by
   obtain⟨y,hy,hl⟩:=bC hb;exact((h.blks b y hy).lt hl hk).2
  have hrel:Rel w0 env κ (fun k=>F k\/ai v'=some k) U tmp blk L a w':=by
   refine h.world (fun _ h=>h) (fun _ _=>rfl) (fun k hk=>.inl hk) (fun k hF=>hbel.block k (h.F k hF)) (fun b y hy=>.inl ⟨hy,fun hl k h1=>hbel.block k (hold b k (by rw[hy];exact hl) h1)⟩) (fun b q k hb hq h1 h2=>h.inj b q k hb hq h1 h2) (fun b k hb h1=>?_) (fun k hk=>?_) (h.below.trans (hbel.mono hle))
   ·rintro (hF|hF)
    ·exact h.nF b k hb h1 hF
    ·have:=hold b k hb h1;have:=(hvk k hF).1;omega
   ·rcases hk with hF|hF
    ·exact NW (h.F k hF) hbel.size
    ·exact(hvk k hF).2
  refine⟨v',w',κ,fun k=>F k\/ai v'=some k,f8 ho r1,hrel.monoU (fun b hb=>.inl hb),?_,fun _ _=>rfl,fun k hk=>.inl hk,fun k hk=>hk.imp id fun hk=>.inl (hvk k hk).1,r3.size,fun k hk _=>hbel.block k hk,fun b k h1 h2=>.inr ⟨b,h1,h2⟩,.of fun k hk=>.inr (hbel.block k hk)⟩
  show Den _ w' v' (.sl row (den env (bR l lx)).l)
  rw[happ];have hrow:RowsDen (fun k=>F k\/ai v'=some k) w' (olds++news) row ((den env l).l++(den env lx).l):=(f3.app e3 f2.1).keep (fun k hk=>.inl hk) (fun k hk=>hbel.block k (h.F k hk))
  have hlen:(den env l).l.length+(den env lx).l.length=((den env l).l++(den env lx).l).length:=by simp
  rcases r2.2 with⟨_,e'⟩|⟨g,cap,cur,rfl,g1,g2,g3,g4,_⟩
  ·omega
  ·rw[hlen]at g3 r2⊢
   refine Den.mk rfl g3 g4 hrow.1 (fun _=>⟨_,rfl,.inr rfl,fun i r hr k y hy=>?_⟩)
   obtain⟨u,h1,h2⟩:=hrow.2 i r k y hr hy;exact⟨u,r2.cells (g:=g) rfl _ _ h1,h2⟩
theorem lC(h:Rel w0 env κ F U tmp blk L a w){x:Option Operand}{d e:E}(hx:cV (ag tmp) x d=some e):(x=none/\e=d)\/∃o,x=some o/\ag tmp o=.vi e/\a.eval o=.int .i64 (den env e).i:=by
 unfold cV at hx;split at hx
 ·cases hx;exact .inl ⟨rfl,rfl⟩
 ·rename_i o
  split at hx
  ·rename_i e' he
   cases hx
   have:=h.ev o
   rw[he]at this;exact .inr ⟨o,rfl,he,this.1⟩
  ·cases hx
theorem po{lo hi len:E}(hn:∀e∈dj lo hi len,(den env e).b=true):0<=(den env lo).i/\(den env lo).i<=(den env hi).i/\(den env hi).i<=(den env len).i:=by
 unfold dj at hn;have h1:=aK (aA fun e he=>hn e (Nd _ (Nd _ he)))
 have h2:=aK (aA fun e he=>hn e (Nd _ (Ng _ he)))
 have h3:=aK (aA fun e he=>hn e (Ng _ he))
 exact⟨of_decide_eq_true h1,of_decide_eq_true h2,of_decide_eq_true h3⟩
theorem px(h:Rel w0 env κ F U tmp blk L a w){lo hi:Option Operand}{d0 d1 l q:E}(hl:cV (ag tmp) lo d0=some l)(hh:cV (ag tmp) hi d1=some q){n c lv qv:Nat}(hd1:q=d1->(den env q).i=n)(hd0:l=d0->(den env l).i=0)
  (hlv:(lv:Int)=(den env l).i) (hqv:(qv:Int)=(den env q).i) (hqc:qv<=c) (hlq:lv<=qv):(Instr.sliceBounds true n c (lo.map a.eval) (hi.map a.eval) none).run P w=.ok (lv,qv,c) w:=by
 have e1:∀o,hi=some o->a.eval o=.int .i64 (qv:Int):=fun o e=>by
  rcases lC h hh with⟨e2,_⟩|⟨o',e2,_,e3⟩
  ·rw[e]at e2;cases e2
  ·rw[e]at e2;cases e2;rw[e3,hqv]
 have e2:hi=none->qv=n:=fun e=>by
  rcases lC h hh with⟨_,e2⟩|⟨o',e2,_⟩
  ·have:=hd1 e2;omega
  ·rw[e]at e2;cases e2
 have e3:∀o,lo=some o->a.eval o=.int .i64 (lv:Int):=fun o e=>by
  rcases lC h hl with⟨e2,_⟩|⟨o',e2,_,e3⟩
  ·rw[e]at e2;cases e2
  ·rw[e]at e2;cases e2;rw[e3,hlv]
 have e4:lo=none->lv=0:=fun e=>by
  rcases lC h hl with⟨_,e2⟩|⟨o',e2,_⟩
  ·have:=hd0 e2;omega
  ·rw[e]at e2;cases e2
 cases hi with
 | none=>
  have:=e2 rfl
  subst this;cases lo with
  |none=>have:=e4 rfl;subst this;simp[Instr.sliceBounds]
  |some o=>
   have:=e3 o rfl
   simp[Instr.sliceBounds,Instr.sliceBound,asIntOf,this]
   try (intro hh;exfalso;omega)
 | some o=>
  have h5:=e1 o rfl;cases lo with
  |none=>have:=e4 rfl;subst this;simp[Instr.sliceBounds,Instr.sliceBound,asIntOf,h5];try (intro hh;exfalso;omega)
  |some o'=>
   have h6:=e3 o' rfl;simp[Instr.sliceBounds,Instr.sliceBound,asIntOf,h5,h6]
   rw[if_pos (by omega)]
   simp[hlq]
theorem JS{o:Oper}{t ety:Nat}{row ty:Ty}{x:Operand}{lo hi:Option Operand}(ho:o.op=.slice t x lo hi none)(h:Rel w0 env κ F U tmp blk L a w)(ht:aZ P t=some (ety,row)){e l q:E}(hx:ag tmp x=.vs ty e)(hty:ty=row)
  (hl:cV (ag tmp) lo (.int 0)=some l) (hh:cV (ag tmp) hi e.len'=some q) (hn:∀x∈dj l q e.len',(den env x).b=true):
  aB P w0 env κ F U tmp blk L a w o (.vs ty (if lo.isNone then .take e q else .drop (.take e q) l)) []:=by
 subst hty;obtain⟨u1,u2,u3,_,u5,_⟩:=bn ht;have hev:=h.ev x;rw[hx]at hev;obtain⟨A,c,g1,g2,g3,g4,g5⟩:=Den.view hev;obtain⟨n1,n2,n3⟩:=po hn;rw[aY]at n3;simp only[AV.i_int]at n3;have hc:=maxLen;obtain⟨lv,hlv⟩:∃k:Nat,(k:Int)=(den env l).i:=⟨(den env l).i.toNat,by omega⟩
 obtain⟨qv,hqv⟩:∃k:Nat,(k:Int)=(den env q).i:=⟨(den env q).i.toNat,by omega⟩
 have hql:qv<=(den env e).l.length:=by omega
 have hlq:lv<=qv:=by omega
 have hsz:=bB (w:=w) u5;have hb:=px (P:=P) (w:=w) h hl hh (n:=(den env e).l.length) (c:=c) (by intro e2;rw[e2,aY];rfl) (by intro e2;rw[e2];rfl) hlv hqv (by omega) hlq
 have hrun:(Instr.sliceAt t (a.eval x) (lo.map a.eval) (hi.map a.eval) none).run P w=.ok (.slice (if c=lv then A else A.map (·.add (lv*ty.len))) (qv-lv) (c-lv)) w:=by
  rw[g1];simp only[Instr.sliceAt,run_underlying u1,Sem.run_bind,Result.andThen_ok,Instr.slice,hb,hsz,Sem.run_pure,u2]
 have hR:bL P o a w (.slice (if c=lv then A else A.map (·.add (lv*ty.len))) (qv-lv) (c-lv)) w:=.inl (by
  simp only[execOp,ho,ND,Sem.run_bind,hrun,Result.andThen_ok,Sem.run_pure])
 have hden:(den env (if lo.isNone then E.take e q else E.drop (.take e q) l)).l=((den env e).l.take qv).drop lv:=by
  cases lo with
  | none=>
   rcases lC h hl with⟨_,e2⟩|⟨o',e2,_⟩
   ·rw[e2]at hlv;simp only[den,AV.i_int]at hlv
    have:lv=0:=by omega
    subst this;simp[den,<-hqv]
   ·cases e2
  |some o=>simp[den,<-hqv,<-hlv]
 refine aj h hR ?_
 show Den F w _ (.sl ty (den env _).l)
 rw[hden];refine Den.mk (by simp;omega) (by omega) (by omega) (fun i r hr=>?_) (fun hne=>?_)
 ·rw[No,Nc]at hr
  split at hr
  ·exact g4 _ r hr
  ·cases hr
 ·have hlt:lv<qv:=by
   rcases Nat.lt_or_ge lv qv with h|h
   ·exact h
   ·exact absurd (Np (by simp;omega)) hne
  obtain⟨p,rfl,hp,_⟩:=g5 0 _ (M9 (by omega))
  refine⟨p.add (lv*ty.len),?_,by rw[lO];exact hp,fun i r hr k y hy=>?_⟩
  ·rw[if_neg (by omega)];rfl
  ·rw[No,Nc]at hr
   split at hr
   ·obtain⟨p',e1,_,hc⟩:=g5 _ r hr
    cases e1
    obtain⟨u,hu,hd⟩:=hc k y hy;refine⟨u,?_,hd⟩
    rw[ep,<-hu];congr 2;rw[NC];omega
   ·cases hr
theorem C5{o:Oper}{t ety:Nat}{row ty:Ty}{x mx:Operand}{hi:Option Operand}(ho:o.op=.slice t x none hi (some mx))(h:Rel w0 env κ F U tmp blk L a w)(ht:aZ P t=some (ety,row)){e q:E}(hx:ag tmp x=.vs ty e)(hty:ty=row)
  (hh:cV (ag tmp) hi (.int 0)=some q) (hmx:cV (ag tmp) (some mx) (.int 0)=some q) (his:hi.isSome=true) (hn:∀x∈dj (.int 0) q e.len',(den env x).b=true) {m:Nat} (hm:¬U m):
  aB P w0 env κ F U tmp blk L a w o (.row m) [(m,some (.ice 1 ty (.take e q)))]:=by
 subst hty;obtain⟨u1,u2,u3,_,u5,_⟩:=bn ht;have hev:=h.ev x;rw[hx]at hev;obtain⟨A,c,g1,g2,g3,g4,g5⟩:=Den.view hev;obtain⟨_,n2,n3⟩:=po hn;rw[aY]at n3;simp only[AV.i_int,den]at n2 n3;obtain⟨qv,hqv⟩:∃k:Nat,(k:Int)=(den env q).i:=⟨(den env q).i.toNat,by omega⟩
 have hql:qv<=(den env e).l.length:=by omega
 have hsz:=bB (w:=w) u5;obtain⟨ho',rfl⟩:∃o',hi=some o':=Option.isSome_iff_exists.1 his
 have v1:a.eval ho'=.int .i64 (qv:Int):=by
  rcases lC h hh with⟨e2,_⟩|⟨o',e2,_,e3⟩
  ·cases e2
  ·cases e2;rw[e3,hqv]
 have v2:a.eval mx=.int .i64 (qv:Int):=by
  rcases lC h hmx with⟨e2,_⟩|⟨o',e2,_,e3⟩
  ·cases e2
  ·cases e2;rw[e3,hqv]
 have hrun:(Instr.sliceAt t (a.eval x) none (some (a.eval ho')) (some (a.eval mx))).run P w=.ok (.slice A qv qv) w:=by
  rw[g1,v1,v2];have hqc:qv<=c:=by omega
  simp[Instr.sliceAt,run_underlying u1,Instr.slice,hsz,Instr.sliceBounds,Instr.sliceBound,asIntOf,hqc]
  intro _;cases A with
  |none=>rfl
  |some b=>cases b;simp[Addr.add]
 have hR:bL P o a w (.slice A qv qv) w:=.inl (by
  simp only[execOp,ho,ND,Nt,Sem.run_bind,hrun,Result.andThen_ok,Sem.run_pure])
 have hden:(den env (E.take e q)).l=(den env e).l.take qv:=by simp[den,<-hqv]
 have hD:Den F w (.slice A qv qv) (.sl ty (den env (E.take e q)).l):=by
  rw[hden];refine Den.mk (by simp;omega) (Nv _) (by omega) (fun i r hr=>?_) (fun hne=>?_)
  ·rw[Nc]at hr
   split at hr
   ·exact g4 _ r hr
   ·cases hr
  ·have hlt:0<qv:=by
    rcases NB qv with h|h
    ·exact absurd (by rw[h];rfl) hne
    ·exact h
   obtain⟨p,rfl,hp,_⟩:=g5 0 _ (M9 (by omega))
   refine⟨p,rfl,hp,fun i r hr k y hy=>?_⟩
   rw[Nc]at hr;split at hr
   ·obtain⟨p',e1,_,hc⟩:=g5 _ r hr
    cases e1
    exact hc k y hy
   ·cases hr
 have hne:∀b,U b->b≠m:=fun b hb e=>hm (e▸hb)
 have hlen:(den env (E.take e q)).l.length=qv:=by rw[hden];simp;omega
 have hlive:∀b,aF (upd blk m (some (SB.ice 1 ty (.take e q))) b)=true->aF (blk b)=true/\b≠m:=fun b hb=>by
  by_cases e:b=m
  ·subst e;rw[ak]at hb;cases hb
  ·rw[ah e]at hb;exact⟨hb,e⟩
 refine⟨_,w,upd κ m (.slice A qv qv),F,hR,?_,⟨(ak κ m _).symm,rfl⟩,fun b hb=>ah (hne b hb),fun _ h=>h,fun _ h=>.inl h,Nv _,fun _ _ _=>rfl,fun b k h1 h2=>?_,.of fun _ _=>.inr rfl⟩
 ·refine h.world (fun b hb=>.inl hb) (fun b hb=>ah (hne b hb)) (fun k hk=>hk) (fun _ _=>rfl) (fun b y hy=>?_) (fun b q k hb hq h1 h2=>?_) (fun b k hb h1=>?_) (fun k hF=>h.F k hF) h.below
  ·by_cases e2:b=m
   ·subst e2
    rw[show aL blk [(b,some (SB.ice 1 ty (.take e q)))] b=_ from ak _ _ _]at hy;cases hy
    refine .inr ⟨⟨?_,fun _=>⟨A,?_⟩⟩,.inr ⟨_,List.mem_singleton.2 rfl,rfl⟩,fun c hc=>by cases hc⟩
    ·rw[ak];exact hD
    ·rw[ak,hlen]
   ·rw[show aL blk [(m,some (SB.ice 1 ty (.take e q)))] b=_ from ah e2]at hy
    exact .inl ⟨hy,fun _ _ _=>rfl⟩
  ·obtain⟨b1,b2⟩:=hlive b hb
   obtain⟨q1,q2⟩:=hlive q hq;rw[ah b2]at h1;rw[ah q2]at h2;exact h.inj b q k b1 q1 h1 h2
  ·obtain⟨b1,b2⟩:=hlive b hb
   rw[ah b2]at h1;exact h.nF b k b1 h1
 ·obtain⟨b1,b2⟩:=hlive b h1
  rw[ah b2]at h2;exact .inr ⟨b,b1,h2⟩
theorem EQ{o:Oper}{t ety:Nat}{row:Ty}{x:Operand}{lo hi:Option Operand}(ho:o.op=.slice t x lo hi none)(h:Rel w0 env κ F U tmp blk L a w)(ht:aZ P t=some (ety,row))(hx:ag tmp x=.nilsl){l q:E}
  (hl:cV (ag tmp) lo (.int 0)=some l) (hh:cV (ag tmp) hi (.int 0)=some q) (hn:∀x∈dj l q (.int 0),(den env x).b=true):aB P w0 env κ F U tmp blk L a w o .nilsl []:=by
 obtain⟨u1,u2,u3,_,u5,_⟩:=bn ht;have hev:=h.ev x;rw[hx]at hev;obtain⟨n1,n2,n3⟩:=po hn;simp only[den,AV.i_int]at n3;have hb:=px (P:=P) (w:=w) h hl hh (n:=0) (c:=0) (lv:=0) (qv:=0) (by intro _;omega) (by intro _;omega) (by omega) (by omega) (by omega) (Nv _)
 have hsz:=bB (w:=w) u5;refine aj h (u:=.slice none 0 0) (.inl ?_) rfl
 have hrun:(Instr.sliceAt t (a.eval x) (lo.map a.eval) (hi.map a.eval) none).run P w=.ok (.slice none 0 0) w:=by
  rw[show a.eval x=_ from hev]
  simp only[Instr.sliceAt,run_underlying u1,Sem.run_bind,Result.andThen_ok,Instr.slice,hb,hsz,Sem.run_pure];rfl
 simp only[execOp,ho,ND,Sem.run_bind,hrun,Result.andThen_ok,Sem.run_pure]
theorem Fj{o:Oper}{t ety:Nat}{row:Ty}{x:Operand}{hi:Option Operand}(ho:o.op=.slice t x none hi none)(h:Rel w0 env κ F U tmp blk L a w)(ht:aZ P t=some (ety,row)){d m:Nat}(hm:¬U m)(hx:ag tmp x=.row d){l q:E}(hd:blk d=some (.row ety row l))
  (hi':hi.isSome=true) (hh:cV (ag tmp) hi (.int 0)=some q) (hn:∀x∈dj (.int 0) q l.len',(den env x).b=true):aB P w0 env κ F U tmp blk L a w o (.row m) [(d,some (.dead l)),(m,some (.row ety row (.take l q)))]:=by
 obtain⟨u1,u2,u3,_,u5,_⟩:=bn ht;have hev:=h.ev x;rw[hx]at hev;obtain⟨n1,n2,n3⟩:=po hn;rw[aY]at n3;simp only[den,AV.i_int]at n2 n3;obtain⟨us,hown,hpos,hrow⟩:=h.blks d _ hd;obtain⟨qv,hqv⟩:∃k:Nat,(k:Int)=(den env q).i:=⟨(den env q).i.toNat,by omega⟩
 have hql:qv<=(den env l).l.length:=by omega
 have hsz:=bB (w:=w) u5;obtain⟨A,c,hκ,hc⟩:∃A c,κ d=.slice A (den env l).l.length c/\(den env l).l.length<=c:=by
  rcases hown.2 with⟨e,e'⟩|⟨g,cap,cur,e,_,_,hnc,_⟩
  ·exact⟨none,0,by rw[e,e'],by omega⟩
  ·exact⟨_,_,e,hnc⟩
 have hne:hi≠none:=fun e=>by rw[e]at hi';cases hi'
 have hb:(Instr.sliceBounds true (den env l).l.length c none (hi.map a.eval) none).run P w=.ok (0,qv,c) w:=by
  have e1:∃o,hi=some o/\a.eval o=.int .i64 (qv:Int):=by
   rcases lC h hh with⟨e2,_⟩|⟨o',e2,_,e3⟩
   ·exact absurd e2 hne
   ·exact⟨o',e2,by rw[e3,hqv]⟩
  obtain⟨o',rfl,h5⟩:=e1;simp[Instr.sliceBounds,Instr.sliceBound,asIntOf,h5];try (intro hh;exfalso;omega)
 have hid:A.map (·.add (0*P.cellsOf ety))=A:=by cases A<;>simp[Addr.add]
 have hrun:(Instr.sliceAt t (a.eval x) none (hi.map a.eval) none).run P w=.ok (.slice A qv c) w:=by
  rw[hev.1,hκ];simp only[Instr.sliceAt,run_underlying u1,Sem.run_bind,Result.andThen_ok,Instr.slice,hb,hsz,Sem.run_pure,hid,Nat.sub_zero,ite_self]
 have hR:bL P o a w (.slice A qv c) w:=.inl (by
  simp only[execOp,ho,ND,Sem.run_bind,hrun,Result.andThen_ok,Sem.run_pure])
 have hbl:ai (.slice A qv c)=ai (κ d):=by rw[hκ];cases A<;>rfl
 have hdm:d≠m:=fun e=>by subst e;exact hm (h.bnames d _ hd).1
 refine⟨_,w,upd κ m (.slice A qv c),F,hR,?_,⟨(ak κ m _).symm,rfl⟩,h.moved_kept hd rfl rfl rfl hm (iA _ _) (fun k hk=>.inl (by rw[<-hbl];exact hk))⟩
 refine(h.moved (y:=.row ety row (.take l q)) (z:=.dead l) hd rfl rfl ⟨A,c,by rw[ah hdm];exact hκ⟩ rfl hm (iA _ _) (fun k hk=>.inl (by rw[<-hbl];exact hk)) ⟨us.take (qv*row.len),?_,u3,fun i r hr=>?_,fun i r k y hr hy=>?_⟩ (fun c hc=>by cases hc) h.below).monoU (fun b hb=>?_)
 ·rw[ak]
  have hlen:(den env (.take l q)).l.length=qv:=by simp[den,<-hqv];omega
  rw[hlen];have hmul:qv*row.len<=(den env l).l.length*row.len:=Nx _ hql
  refine⟨by rw[NA,hown.1];omega,?_⟩
  rcases hown.2 with⟨e,e'⟩|⟨g,cap,cur,e,hb1,hb2,hnc,hcm,hcs,hcur⟩
  ·left
   rw[hκ]at e;injection e with e1 e2 e3
   subst e1;subst e3;have:qv=0:=by omega
   subst this;exact⟨rfl,rfl⟩
  ·right
   rw[hκ]at e;injection e with e1 e2 e3
   subst e1;subst e3;exact⟨g,c,cur,rfl,hb1,hb2,by omega,hcm,hcs,by rw[<-hcur,Oz,NU hmul]⟩
 ·simp only[den,AV.l_sl]at hr
  rw[Nc]at hr;split at hr
  ·exact hrow.1 i r hr
  ·cases hr
 ·simp only[den,AV.l_sl]at hr
  rw[Nc]at hr;split at hr
  ·rename_i hi2
   obtain⟨u,hu,hd⟩:=hrow.2 i r k y hr hy;refine⟨u,?_,hd⟩
   rw[Nc,if_pos ?_]
   ·exact hu
   ·rw[<-hqv]at hi2
    simp only[Nw]at hi2;have hkl:k<row.len:=by
     have:=(List.getElem?_eq_some_iff.1 hy).1
     have b4:=congrArg N8 (hrow.1 i r hr);rw[NL,Ty.list_len]at b4;omega
    have:=Nx row.len (show i+1<=qv by omega)
    rw[NI]at this;omega
  ·cases hr
 ·rcases hb with hb|rfl
  ·exact .inl hb
  ·exact .inr ⟨_,Nh _ (List.mem_singleton.2 rfl),rfl⟩
theorem pG{z:Value}{n N:Nat}(hz:z.cells.size=n)(hn:0<n):((NP (N*n)).map (fun j=>z.cells[j % z.cells.size]!)).toList=(Nf N z.cells.toList).flatten:=by
 subst hz;induction N with
 |zero=>simp
 |succ N ih=>
  rw[List.replicate_succ',List.flatten_append,<-ih];have e:(N+1)*z.cells.size=N*z.cells.size+z.cells.size:=NI _ _
  rw[e];simp only[NO,Array.toList_range,List.range_add,List.map_append,List.map_map];congr 1
  simp only[NX,List.flatten_nil,N6];refine Ob (fun i=>?_)
  simp only[Nm,List.getElem?_range',Function.comp];by_cases hi:i<z.cells.size
  ·simp[hi,Ou hi,Nat.add_comm,Nat.add_mul_mod_self_right]
  ·simp[hi]
theorem Lp(n:Nat){z:SV}{zc:Array Value}(hp:z.proper=true)(hz:SVden env κ F w z (.tuple zc)):∀(i:Nat) x u,((Nf n z.list).flatten)[i]?=some x->((Nf n zc.toList).flatten)[i]?=some u->SVden env κ F w x u:=by
 obtain⟨t1,t2⟩:=bc hp hz;induction n with
 |zero=>intro i x u h;simp at h
 | succ n ih=>
  intro i x u h1 h2;rw[NR,NX]at h1 h2;have hl:z.list.length=zc.toList.length:=by rw[list_len];simpa using t1.symm
  by_cases hi:i<z.list.length
  ·rw[Nb hi]at h1
   rw[Nb (by omega)]at h2
   obtain⟨v,h3,h4⟩:=t2 i x h1;rw[Nn,h3]at h2;cases h2;exact h4
  ·rw[Na (by omega)]at h1
   rw[Na (by omega),<-hl]at h2
   exact ih _ x u h1 h2
theorem Fb(h:Rel w0 env κ F U tmp blk L a w){o:Oper}{m ety n:Nat}{row:Ty}(hm:¬U m){l:E}{cs:Array Value}(hpos:0<row.len)(hn:(den env l).l.length=n)(hmax:n<=maxLen)(hs:cs.size=n*row.len)(hrow:RowsDen F w cs.toList row (den env l).l)
  (hr:bL P o a w (.slice (some ⟨w.heap.size,0,none⟩) n n) (w.alloc (.cells cs ety))):aB P w0 env κ F U tmp blk L a w o (.row m) [(m,some (.row ety row l))]:=by
 refine DY h hm hr rfl ⟨cs.toList,?_,hpos,hrow.keep (fun _ h=>h) (fun k hk=>Below.heap_alloc _ _ _ (h.F k hk))⟩ (fun c hc=>by cases hc) ⟨(ak κ m _).symm,rfl⟩
 rw[ak,hn];exact World.ownsRow_lit (base:=w0.heap.size) (e:=ety) (size:=row.len) w cs n h.below.size hmax hs
theorem CX{o:Oper}{t len ety:Nat}{row:Ty}{parts:Array (Nat×Operand)}(ho:o.op=.buildSlice t len parts)(h:Rel w0 env κ F U tmp blk L a w){m:Nat}(hm:¬U m)(ht:aZ P t=some (ety,row)){z:SV}(hz:bM P ety=some z)(hw:z.whole=true)(hzl:z.cells.len=row.len)
  {cs:List SV} {l:E} (hf:gz (fun i=>some (i*row.len,row.len)) ((Nf len z.cells.list).flatten) (parts.toList.map fun x=>(x.1,ag tmp x.2))=some cs) (hl:gE row.len row len cs=some l) (hbig:len*row.len<=16777216) (hcl:cs.length=len*row.len):
  aB P w0 env κ F U tmp blk L a w o (.row m) [(m,some (.row ety row l))]:=by
 obtain⟨u1,u2,u3,⟨i,hi⟩,u5,u6,u7,u8⟩:=bn ht;obtain⟨zv,hz1,rfl⟩:=rM hi hz;obtain⟨d1,d2⟩:=fa hw (cT (env:=env) (κ:=κ) (F:=F) (w:=w) zv)
 obtain⟨t1,t2⟩:=bc d2 d1;have hzs:zv.cells.size=row.len:=by rw[t1,hzl]
 obtain⟨Z,hZ⟩:∃Z:Array Value,Z=(NP (len*row.len)).map (fun j=>zv.cells[j % zv.cells.size]!):=⟨_,rfl⟩
 have hZl:Z.toList=(Nf len zv.cells.toList).flatten:=by rw[hZ];exact pG hzs u3
 have hZd:SVden env κ F w (.of ((Nf len (bX zv).cells.list).flatten)) (.tuple Z):=by
  have hlen:Z.toList.length=((Nf len (bX zv).cells.list).flatten).length:=by
   rw[hZl];simp[list_len,t1]
  have:=eM (env:=env) (κ:=κ) (F:=F) (w:=w) hlen (fun i x u h1 h2=>by rw[hZl]at h2;exact Lp len d2 d1 i x u h1 h2)
  simpa using this
 obtain⟨r,r1,r2,r3⟩:=uq (env:=env) (κ:=κ) (F:=F) (w:=w) _ ((parts.map fun x=>(x.1,a.eval x.2)).toList) _ _ _ hf (by simp) (fun j p v h1 h2=>by
  simp only[Nm,NO]at h1 h2;obtain⟨x,h3,rfl⟩:=Option.map_eq_some_iff.1 h1;rw[h3]at h2;cases h2
  exact h.ev x.2) hZd
 obtain⟨s1,s2⟩:=bc (bA _) r2;rw[Eh]at s1;rw[da]at s2;obtain⟨b1,b2,b3⟩:=j0 (env:=env) (κ:=κ) (F:=F) (w:=w) rfl len cs l r.toList hl hcl (by simp[s1]) (fun i x u h1 h2=>by
  obtain⟨v,h3,h4⟩:=s2 i x h1;rw[Nn,h3]at h2;cases h2;exact h4)
 refine Fb h hm u3 b1 ?_ (by rw[s1,hcl]) b2 (.inl ?_)
 ·have:len<=len*row.len:=Ny _ u3
  unfold maxLen;omega
 ·have hsz:=bB (w:=w) u5
  have hrun:(Instr.buildSlice t len (parts.map fun x=>(x.1,a.eval x.2))).run P w=.ok (.slice (some ⟨w.heap.size,0,none⟩) len len) (w.alloc (.cells r ety)):=by
   simp only[Instr.buildSlice,run_underlying u1,Sem.run_bind,Result.andThen_ok,hsz,<-u2];rw[if_neg (by omega)]
   by_cases h0:len*row.len=0
   ·rw[if_pos h0]
    have hZ0:Z=#[]:=by rw[hZ,h0];simp
    rw[hZ0]at r1;rw[h0];have e0:∀f:Nat->Value,(NP 0).map f=#[]:=fun f=>by simp
    simp only[e0,Sem.run_bind,Sem.run_pure,Result.andThen_ok];simp at r1
    simp[r1,newRow]
   ·rw[if_neg h0]
    rw[hZ]at r1;simp[zeroValue,typeInfo,hi,hz1]
    simp[hzs]at r1
    simp[hzs,r1,newRow]
  simp only[execOp,ho];rw[Sem.run_bind,hrun,Result.andThen_ok,Sem.run_pure]
theorem Eo{o:Oper}{t ety:Nat}{row:Ty}{x y:Operand}(ho:o.op=.makeSlice t x y)(h:Rel w0 env κ F U tmp blk L a w){m:Nat}(hm:¬U m)(ht:aZ P t=some (ety,row)){z:SV}(hz:bM P ety=some z)(hw:z.whole=true)(hzl:z.cells.len=row.len)
  {r l:E} (hr:kL z.cells row=some r) (hx:ag tmp x=.vi l) (hy:ag tmp y=.vi l)
  (hn:∀e∈aG (.cmp' .le (.int 0) l)++aG (.cmp' .le (.ii' .mul l (.int (P.bytesOf ety))) (.int 140737488355328)),(den env e).b=true):
  aB P w0 env κ F U tmp blk L a w o (.row m) [(m,some (.row ety row (.rep l r)))]:=by
 obtain⟨u1,u2,u3,⟨i,hi⟩,u5,u6,u7,u8⟩:=bn ht;obtain⟨zv,hz1,rfl⟩:=rM hi hz;obtain⟨d1,d2⟩:=fa hw (cT (env:=env) (κ:=κ) (F:=F) (w:=w) zv)
 obtain⟨t1,t2⟩:=bc d2 d1;have hzs:zv.cells.size=row.len:=by rw[t1,hzl]
 obtain⟨q1,q2,q3,q4⟩:=wY hr d1;have hex:=h.ev x;have hey:=h.ev y;rw[hx]at hex;rw[hy]at hey;have n1:=aK (aA fun e he=>hn e (Nd _ he))
 have n2:=aK (aA fun e he=>hn e (Ng _ he))
 have n1:0<=(den env l).i:=of_decide_eq_true n1
 have n2:(den env l).i*(P.bytesOf ety:Int)<=140737488355328:=by rw[bQ]at n2;exact of_decide_eq_true n2
 obtain⟨n,hnn⟩:∃n:Nat,(n:Int)=(den env l).i:=⟨(den env l).i.toNat,by omega⟩
 rw[<-hnn]at n2;have hbytes:P.bytesOf ety=i.bytes:=by unfold Program.bytesOf;rw[hi];rfl
 rw[hbytes]at n2 u6;rw[<-NM]at n2;have n3:n*i.bytes<=140737488355328:=by generalize n*i.bytes=q at n2⊢;omega
 have n4:n<=140737488355328:=NV (Ny n u6) n3
 obtain⟨Z,hZ⟩:∃Z:Array Value,Z=(NP (n*row.len)).map (fun j=>zv.cells[j % zv.cells.size]!):=⟨_,rfl⟩
 have hZl:Z.toList=(Nf n zv.cells.toList).flatten:=by rw[hZ];exact pG hzs u3
 refine Fb h hm u3 (n:=n) (cs:=Z) (by simp[den,<-hnn]) (by unfold maxLen;omega) (by rw[hZ];simp) ?_ (.inl ?_)
 ·rw [hZl]
  simp only[den,AV.l_sl,<-hnn,Nw];refine⟨fun j r' hr'=>?_,fun j r' k x hr' hx'=>?_⟩
  ·obtain⟨_,rfl⟩:=List.getElem?_eq_some_iff.1 hr'
   simp only[Od];exact q1
  ·have hj:=(List.getElem?_eq_some_iff.1 hr').1
   obtain⟨_,rfl⟩:=List.getElem?_eq_some_iff.1 hr';simp only[Od]at hx';obtain⟨u,hu,hd⟩:=q3 k x hx';refine⟨u,?_,hd⟩
   simp only[NN]at hj;have hk:k<row.len:=by rw[<-q2];exact(Array.getElem?_eq_some_iff.1 hu).1
   have key:∀(n j:Nat),j<n->((Nf n zv.cells.toList).flatten)[j*row.len+k]?=zv.cells[k]?:=by
    intro n;induction n with
    |zero=>intro j hj;omega
    | succ n ih=>
     intro j hj;rw[NR,NX];cases j with
     |zero=>rw[Nb (by simp;omega)];simp
     |succ j=>
      rw[Na (by simp[hzs,NI];omega),<-ih j (by omega)]
      congr 1;simp[hzs,NI];omega
   rw[key n j hj];exact hu
 ·have hsz:=bB (w:=w) u5
  have hwr:IntKind.i64.wrap (n:Int)=n:=lN (by omega)
  have b1:¬((i.bytes:Int)*n>281474976710656):=by
   rw[Int.mul_comm,<-NM];generalize n*i.bytes=q at n3⊢;omega
  have b2:¬(n*i.bytes>roomBytes):=by unfold roomBytes;generalize n*i.bytes=q at n3⊢;omega
  have hrun:(Instr.makeSlice t (a.eval x) (a.eval y)).run P w=.ok (.slice (some ⟨w.heap.size,0,none⟩) n n) (w.alloc (.cells Z ety)):=by
   rw[hex.1,hey.1,<-hnn];have b3:¬((n:Int)<0):=by omega
   have hti:(typeInfo ety).run P w=.ok i w:=by simp[typeInfo,hi]
   have c1:decide ((2:Int) ^ 48<(i.bytes:Int)*n)=false:=decide_eq_false (fun hh=>b1 (by simpa using hh))
   have c3:decide ((n:Int)<0)=false:=decide_eq_false b3
   have c2:(askRoom (n*i.bytes)).run P w=.ok () w:=by
    unfold askRoom;rw[if_neg b2];rfl
   simp only[Instr.makeSlice,run_underlying u1,Sem.run_bind,Sem.run_pure,Result.andThen_ok,asInt,asIntOf,hti,hwr,gt_iff_lt,c1,c3,Bool.false_or,Bool.or_false,Int.lt_irrefl,decide_false,Ok,if_false,Nw,c2,hsz,<-u2];by_cases h0:n*row.len=0
   ·rw[if_pos h0]
    have hZ0:Z=#[]:=by rw[hZ,h0];simp
    have e0:∀f:Nat->Value,(NP 0).map f=#[]:=fun f=>by simp
    rw[h0,hZ0];simp only[e0,Sem.run_bind,Sem.run_pure,Result.andThen_ok];simp[newRow]
   ·rw[if_neg h0]
    have hzv:(zeroValue ety).run P w=.ok zv w:=by simp[zeroValue,typeInfo,hi,hz1]
    simp only[hzv,Sem.run_bind,Sem.run_pure,Result.andThen_ok,<-hZ];simp[newRow]
  simp only[execOp,ho,Sem.run_bind,hrun,Result.andThen_ok,Sem.run_pure]
theorem L8{x y:E}(h:(den env y).ty=.bool):(den env (.and' x y)).ty=.bool:=by
 unfold E.and';split<;>first|rfl|exact h
theorem EA{xs v:SV}{cs:Array Value}{off t:Nat}(hp:xs.proper=true)(h:SVden env κ F w xs (.tuple cs))(hv:AL P xs off t=some v):∃u,(part t cs off).run P w=.ok u w/\SVden env κ F w v u:=by
 unfold AL at hv;split at hv
 ·rename_i hc
  split at hv
  ·rename_i hag
   cases hv
   refine⟨.agg (cs.extract off (off+P.cellsOf t)),by rw[la hc.2,hag];rfl,_,rfl,bA _,?_⟩
   rw[AE];exact xF hp h _ _
  ·rename_i hag
   split at hv
   ·rename_i y hy
    cases hv
    obtain⟨u,hu,hd⟩:=th hp h hy;have hag:bE P t=false:=by simpa using hag
    exact⟨u,by rw[la hc.2,hag,hu];rfl,hd⟩
   ·cases hv
 ·cases hv
theorem DA{f:Nat->SV->SV->Option E}{D:Nat}(hf:∀t x y u v e,f t x y=some e->SVden env κ F w x u->SVden env κ F w y v->(Op.equalIn D t u v).run P w=.ok (den env e).b w/\(den env e).ty=.bool)
  {xs ys:SV} {cs ds:Array Value} (hp:xs.proper=true) (hx:SVden env κ F w xs (.tuple cs)) (hq:ys.proper=true) (hy:SVden env κ F w ys (.tuple ds)):∀(fs:List Field) e,DL P f xs ys fs=some e →
  (Op.eqFields D cs ds fs).run P w=.ok (den env e).b w/\(den env e).ty=.bool
 |[],e,h=>by simp only[DL]at h;cases h;exact⟨rfl,rfl⟩
 | x :: fs,e,h=>by
  simp only[DL]at h;split at h
  ·rename_i hn
   split at h
   ·rename_i p q h1 h2
    split at h
    ·rename_i e1 es h3 h4
     cases h
     obtain⟨u,r1,d1⟩:=EA hp hx h1;obtain⟨v,r2,d2⟩:=EA hq hy h2;obtain⟨r3,t3⟩:=hf _ _ _ _ _ _ h3 d1 d2;obtain⟨r4,t4⟩:=DA hf hp hx hq hy fs es h4;refine⟨?_,L8 t4⟩
     simp only[Op.eqFields,if_pos hn,Sem.run_bind,r1,r2,r3,Result.andThen_ok];rw[Gt];cases(den env e1).b with
     |true=>simpa using r4
     |false=>simp
    ·cases h
   ·cases h
  ·cases h
theorem zx:∀(d:Nat) (D t:Nat) (x y:SV) (u v:Value) (e:E),d<=D->qC P d t x y=some e->SVden env κ F w x u->SVden env κ F w y v->(Op.equalIn D t u v).run P w=.ok (den env e).b w/\(den env e).ty=.bool
 |0,_,_,_,_,_,_,_,_,h,_,_=>by cases h
 | d+1,D,t,x,y,u,v,e,hD,h,hx,hy=>by
  obtain⟨D,rfl⟩:∃k,D=k+1:=⟨D-1,by omega⟩
  simp only[qC]at h;split at h
  ·rename_i p q hu
   cases h
   rw[hx.1,hy.1,run_equalIn_bool w D t _ _ hu];exact⟨rfl,rfl⟩
  ·rename_i k p q hu
   cases h
   rw[hx.1,hy.1,run_equalIn_int w D t .i64 k _ _ hu,eu];exact⟨rfl,rfl⟩
  ·rename_i p q hu
   split at h
   ·rename_i hs
    cases h
    rw[AV.raw.inj (hx.1.symm.trans (jq hs.1)),AV.raw.inj (hy.1.symm.trans (jq hs.2))];show(Op.equalIn (D+1) t (.string _) (.string _)).run P w=_/\_
    rw[run_equalIn_string w D t _ _ hu,ByteArray.toList_mk,ByteArray.toList_mk];exact⟨rfl,rfl⟩
   ·cases h
  ·rename_i fs xs ys hu
   split at h
   ·cases h
   ·rename_i hs
    obtain⟨cs,rfl,hp,hx⟩:=hx;obtain⟨ds,rfl,hq,hy⟩:=hy;have hfs:P.fieldsOf t=fs:=by unfold Program.fieldsOf;rw[hu]
    rw[run_equalIn_struct w D t cs ds (by rw[hfs];exact hu) (by simpa using hs),hfs]
    exact DA (fun t x y u v e h1 h2 h3=>zx d D t x y u v e (by omega) h1 h2 h3) hp hx hq hy _ _ h
  ·cases h
theorem KP{o:Oper}{op:BinOp}{t ty:TypeId}{x y:Operand}(ho:o.op=.binOp op t x y ty)(h:Rel w0 env κ F U tmp blk L a w){needs:List E}{v:SV}{wr:List (Nat×Option SB)}
  {p q:SV} (hx:ag tmp x=p) (hy:ag tmp y=q) (hpq:(∃e f,p=.vb e/\q=.vb f)\/∃e f,p=.agg e/\q=.agg f) (hc:xl P op t p q=.ok needs v wr):aB P w0 env κ F U tmp blk L a w o v wr:=by
 have hex:=h.ev x;have hey:=h.ev y;rw[hx]at hex;rw[hy]at hey;unfold xl at hc;split at hc
 ·cases hc
 rename_i hg
 have hg:P.eqGuardType P.depth t=false:=by simpa using hg
 have hguard:(eqGuard op t x y (a.eval x) (a.eval y)).run P w=.ok () w:=by
  rcases hpq with⟨e,f,rfl,rfl⟩|⟨e,f,rfl,rfl⟩
  ·rw[hex.1,hey.1];unfold eqGuard;cases op<;>simp
  ·obtain⟨cs,e1,_⟩:=hex
   obtain⟨ds,e2,_⟩:=hey;rw[e1,e2];exact run_eqGuard_agg w op t x y cs ds hg
 have R:∀u:Value,(binOp op t (a.eval x) (a.eval y)).run P w=.ok u w->bL P o a w u w:=fun u hu=>.inl (by
  simp only[execOp,ho,Sem.run_bind,hguard,Result.andThen_ok,hu,Sem.run_pure])
 have E1:∀e,qC P 12 t p q=some e->(Op.equal t (a.eval x) (a.eval y)).run P w=.ok (den env e).b w/\(den env e).ty=.bool:=fun e he=>zx 12 10000 t p q _ _ e (by decide) he hex hey
 have B:∀e,qC P 12 t p q=some e->(binOp .eql t (a.eval x) (a.eval y)).run P w=.ok (.bool (den env e).b) w/\(binOp .neq t (a.eval x) (a.eval y)).run P w=.ok (.bool (!(den env e).b)) w:=fun e he=>by
  obtain⟨r,_⟩:=E1 e he;rcases hpq with⟨e',f,rfl,rfl⟩|⟨e',f,rfl,rfl⟩
  ·rw[hex.1,hey.1]at r⊢
   constructor
   ·simp only[binOp];simp[r]
   ·simp only[binOp];simp[r]
  ·obtain⟨cs,e1,_⟩:=hex
   obtain⟨ds,e2,_⟩:=hey;rw[e1,e2]at r⊢
   constructor
   ·simp only[binOp];simp[r]
   ·simp only[binOp];simp[r]
 split at hc
 ·rename_i e he
  unfold dH at hc;cases hc
  exact aj h (R _ (B e he).1) ⟨rfl,(E1 e he).2⟩
 ·rename_i e he
  unfold dH at hc;cases hc
  exact aj h (R _ (B e he).2) ⟨by rw[pV],Ff e⟩
 ·cases hc
theorem LL{o:Oper}{x:Operand}{t e:Nat}(ho:o.op=.call { callee:=.builtin .len,args:=#[x],argTypes:=#[t] })(h:Rel w0 env κ F U tmp blk L a w)(ht:P.underlying t=some (.slice e)){ty:Option Ty}{l:E}(hx:lenOf blk (ag tmp x)=some (ty,l)):
  aB P w0 env κ F U tmp blk L a w o (.vi l.len') []:=by
 have hex:=h.ev x;have hs:∃A c,a.eval x=.slice A (den env l).l.length c:=by
  unfold lenOf at hx;split at hx
  ·rename_i b hh
   rw[hh]at hex;split at hx
   ·rename_i e' t' l' hb
    cases hx
    obtain⟨us,hown,_⟩:=h.blks b _ hb;rw[hex.1];rcases hown.2 with⟨e1,e2⟩|⟨g,cap,cur,e1,_⟩
    ·exact⟨none,0,by rw[e1,e2]⟩
    ·exact⟨_,_,e1⟩
   ·rename_i e' t' l' hb
    cases hx
    obtain⟨A,c,e,_⟩:=Den.view (h.blks b _ hb).1;exact⟨A,c,hex.1.trans e⟩
   ·rename_i l' hb
    cases hx
    obtain⟨A,c,e⟩:=h.blks b _ hb;exact⟨A,c,hex.1.trans e⟩
   ·rename_i e' t' l' hb
    cases hx
    obtain⟨us,hown,_⟩:=h.blks b _ hb;rw[hex.1];rcases hown.2 with⟨e1,e2⟩|⟨g,o',cap,cur,fz,e1,_⟩
    ·exact⟨none,0,by rw[e1,e2]⟩
    ·exact⟨_,_,e1⟩
   ·cases hx
  ·rename_i hne
   unfold ck at hx;split at hx
   ·rename_i hh
    cases hx
    rw[hh]at hex;obtain⟨A,c,e,_⟩:=Den.view hex;exact⟨A,c,e⟩
   ·rename_i hh
    cases hx
    rw[hh]at hex;exact⟨none,0,hex⟩
   ·rename_i b hh
    exact absurd hh (hne b)
   ·cases hx
 obtain⟨A,c,hs⟩:=hs;refine aj h (u:=.int .i64 ((den env l).l.length:Int)) (.inl ?_) ⟨by rw[aY];rfl,by rw[aY];rfl⟩
 unfold execOp;simp only[ho,resolve,invoke,builtin,Sem.run_bind,Sem.run_pure,Result.andThen_ok,Nz,NF,NJ,hs];simp[Builtin.len_,run_underlying ht,goInt]
theorem Cz{o:Oper}{x y:Operand}{ts:Array Nat}{b:Builtin}{io:IOp}(hb:(b=.min/\io=.min)\/(b=.max/\io=.max))(ho:o.op=.call { callee:=.builtin b,args:=#[x,y],argTypes:=ts })(h:Rel w0 env κ F U tmp blk L a w)
  {p q:E} (hx:ag tmp x=.vi p) (hy:ag tmp y=.vi q):aB P w0 env κ F U tmp blk L a w o (.vi (.ii' io p q)) []:=by
 have hex:=h.ev x;have hey:=h.ev y;rw[hx]at hex;rw[hy]at hey;refine aj h (u:=.int .i64 (io.f (den env p).i (den env q).i)) (.inl ?_) ⟨by rw[bQ];rfl,by rw[bQ];rfl⟩
 unfold execOp;rcases hb with⟨rfl,rfl⟩|⟨rfl,rfl⟩
 ·simp only[ho,resolve,invoke,builtin,Sem.run_bind,Sem.run_pure,Result.andThen_ok,Nz,NF,NJ,hex.1,hey.1,run_min_int2]
  rfl
 ·simp only[ho,resolve,invoke,builtin,Sem.run_bind,Sem.run_pure,Result.andThen_ok,Nz,NF,NJ,hex.1,hey.1,run_max_int2]
  rfl
theorem K9{o:Oper}{s x:Operand}{t t' ety d:Nat}{row:Ty}(ho:o.op=.call { callee:=.builtin .copy,args:=#[s,x],argTypes:=#[t,t'] })(h:Rel w0 env κ F U tmp blk L a w)(ht:aZ P t=some (ety,row))(h1:row.len=1)
  (hs:ag tmp s=.row d) {ty:Option Ty} {l m:E} (hd:blk d=some (.row ety row l)) (hx:ck blk (ag tmp x)=some (ty,m)) (hty:ty.all (·=row)=true):
  aB P w0 env κ F U tmp blk L a w o (.vi (.ii' .min l.len' m.len')) [(d,some (.row ety row (.cpy l m)))]:=by
 obtain⟨u1,u2,u3,⟨i,hi⟩,u5,_,u7,_⟩:=bn ht;have hes:=h.ev s;rw[hs]at hes;obtain⟨us,hown,hpos,hrow⟩:=h.blks d _ hd;obtain⟨A,c,news,e1,e2,e3,e4⟩:=iP h (h.ev x) hx hty u3 u7;have hsize:i.size=1:=by rw[h1]at u2;rw[u2];unfold Program.cellsOf;rw[hi];rfl
 have hsz1:(P.info? ety).map (·.size)=some 1:=by rw[hi];simp[hsize]
 obtain⟨n,hn⟩:∃n,n=(den env l).l.length:=⟨_,rfl⟩
 obtain⟨q,hq⟩:∃q,q=(den env m).l.length:=⟨_,rfl⟩
 have hul:us.length=n:=by rw[hown.1,h1,hn,Nl]
 have hnl:news.length=q:=by rw[e2.1,h1,hq,Nl]
 have hv:den env (.ii' .min l.len' m.len')=.int ((NQ q n:Nat):Int):=by
  rw[bQ,aY,aY];simp only[AV.i_int,IOp.f,<-hn,<-hq];congr 1
  by_cases hh:q<=n
  ·rw[show NQ q n=q from NU hh];split<;>omega
  ·rw[show NQ q n=n from N1 (by omega)];rw[if_neg (by omega)]
 have hcl:(den env (.cpy l m)).l=(den env m).l.take n++(den env l).l.drop q:=by simp[den,<-hn,<-hq]
 have hcn:(den env (.cpy l m)).l.length=n:=by rw[hcl];simp[<-hn,<-hq];omega
 have hrows:∀us':List Value,us'=news.take n++us.drop q->RowsDen F w us' row (den env (.cpy l m)).l:=by
  intro us' hus';have one:∀(us:List Value) (L:List (List AV)),RowsDen F w us row L->∀(i:Nat) r x,L[i]?=some r->r[0]?=some x->∃u,us[i]?=some u/\Den F w u x:=fun us L hR i r x hr hx=>by
   obtain⟨u,hu,hdn⟩:=hR.2 i r 0 x hr hx;rw[h1]at hu;exact⟨u,by simpa using hu,hdn⟩
  refine⟨fun i r hr=>?_,fun i r k x hr hx=>?_⟩
  ·rw[hcl]at hr
   by_cases hi:i<((den env m).l.take n).length
   ·rw[Nb hi,Nc]at hr
    split at hr
    ·exact e3.1 i r hr
    ·cases hr
   ·rw[Na (by omega),No]at hr
    exact hrow.1 _ r hr
  ·have hk:k=0:=by
    have hlen:r.length=row.len:=by
     have hty':r.map AV.ty=row.list:=by
      rw[hcl]at hr;by_cases hi:i<((den env m).l.take n).length
      ·rw[Nb hi,Nc]at hr
       split at hr
       ·exact e3.1 i r hr
       ·cases hr
      ·rw[Na (by omega),No]at hr
       exact hrow.1 _ r hr
     have:=congrArg N8 hty'
     rw[NL,Ty.list_len]at this;exact this
    have:=(List.getElem?_eq_some_iff.1 hx).1
    omega
   subst hk;rw[h1,Nl,NH,hus'];rw[hcl]at hr;by_cases hi:i<((den env m).l.take n).length
   ·rw[Nb hi,Nc]at hr
    split at hr
    ·rename_i hin
     obtain⟨u,hu,hdn⟩:=one _ _ e3 i r x hr hx;refine⟨u,?_,hdn⟩
     rw[Nb (by simp at hi⊢;omega),Nc,if_pos hin];exact hu
    ·cases hr
   ·rw[Na (by omega),No]at hr
    obtain⟨u,hu,hdn⟩:=one _ _ hrow _ r x hr hx;refine⟨u,?_,hdn⟩
    have hl1:((den env m).l.take n).length=(news.take n).length:=by simp[hnl,<-hq]
    rw[Na (by omega),No,<-hl1];exact hu
 have R:∀v' w',(Builtin.copy_ #[t,t'] o.type #[a.eval s,a.eval x]).run P w=.ok v' w'->bL P o a w v' w':=fun v' w' hr=>.inl (by
  unfold execOp;simp only[ho,resolve,invoke,builtin,Sem.run_bind,Sem.run_pure,Result.andThen_ok,Nz,NF,NJ,hr])
 have hF:∀g,ai (κ d)=some g->∀k,F k->k≠g:=fun g hg k hk e=>h.nF d g (by rw[hd];rfl) hg (e▸hk)
 by_cases h0:NQ q n=0
 ·
  have hnone:(Builtin.copy_ #[t,t'] o.type #[a.eval s,a.eval x]).run P w=.ok (goInt 0) w:=by
   obtain⟨A',c',hκ⟩:∃A' c',κ d=.slice A' n c':=by
    rcases hown.2 with⟨e,e'⟩|⟨g,cap,cur,e,_⟩
    ·exact⟨none,0,by rw[e,hn,e']⟩
    ·exact⟨_,_,by rw[e,hn]⟩
   rw[hes.1,hκ,e1,<-hq];exact run_copy_none (P:=P) w t t' o.type ety A' A n c' q c u1 hsz1 h0
  have hsame:den env (.cpy l m)=.sl .nil (den env l).l:=by
   show AV.sl .nil _=_
   congr 1
   rcases NB n with hz|hz
   ·have e:(den env l).l=[]:=Np (by omega)
    simp[e]
   ·have hq0:q=0:=by
     rcases Nat.le_total q n with hh|hh
     ·rw[show NQ q n=q from NU hh]at h0;exact h0
     ·rw[show NQ q n=n from N1 hh]at h0;omega
    have e:(den env m).l=[]:=Np (by omega)
    simp[e]
  refine⟨_,w,κ,F,R _ _ hnone,?_,⟨by rw[hv,h0];rfl,by rw[hv];rfl⟩,?_⟩
  ·refine(h.stored (y:=.row ety row (.cpy l m)) hd rfl (fun _ _=>rfl) rfl ⟨us,?_,hpos,?_⟩ (fun c hc=>by cases hc) h.below).monoU (fun b hb=>.inl hb)
   ·rw[hsame];exact hown
   ·rw[hsame];exact hrow
  ·exact h.stored_kept hd rfl rfl (fun _ _=>rfl) rfl
 ·rcases hown.2 with⟨e,e'⟩|⟨g,cap,cur,e,hb1,hb2,hnc,hcm,hcs,hcur⟩
  ·exfalso;apply h0;rw[hn,e'];exact N1 (Nat.zero_le _)
  ·obtain⟨ad,rfl⟩:∃ad,A=some ad:=by
    have hlt:0<news.length:=by
     rw[hnl];rcases NB q with hz|hz
     ·exfalso;apply h0;rw[hz];exact NU (Nat.zero_le _)
     ·exact hz
    obtain⟨ad,h2,_⟩:=e2.2 0 news[0] (M9 hlt);exact⟨ad,h2⟩
   have hmn:NQ q n<=q/\NQ q n<=n:=⟨Oy _ _,Nat.min_le_right _ _⟩
   have hlen:(news.take n).length=NQ q n:=by rw[NA,hnl];exact Nat.min_comm _ _
   rw[<-hn]at hnc hcur e;rw[h1,Nl]at hcs hcur;have hrun:=run_copy_row (P:=P) w t t' o.type ety g 0 n cap ad q c cur ety (news.take n) u1 hsz1 hb2 hlen (fun j v hj=>by
    rw[Nc]at hj;split at hj
    ·obtain⟨a',g1,_,g2⟩:=e2.2 j v hj
     cases g1;exact g2
    ·cases hj) (by rw[hlen];omega) (fun v hv=>by rw[<-lI];exact e4 v (Oh hv))
   have hw:∀k,k≠g->∀cs',(w.setRow g cs').heap[k]?=w.heap[k]?:=fun k hk cs'=>setRow_other w g k cs' hk
   have hRun:=R (goInt (news.take n).length) _ (by rw[hes.1,e,e1,<-hq];exact hrun)
   rw[hlen]at hRun;refine⟨_,_,κ,F,hRun,?_,⟨by rw[hv];rfl,by rw[hv];rfl⟩,h.stored_kept hd rfl rfl (fun k hk=>hw k (fun e2=>hk (by rw[e,e2];rfl)) _) (by simp)⟩
   refine(h.stored (y:=.row ety row (.cpy l m)) hd rfl (fun k hk=>hw k (fun e2=>hk (by rw[e,e2];rfl)) _) (by simp) ⟨news.take n++us.drop q,?_,hpos,(hrows _ rfl).keep (fun _ h=>h) (fun k hk=>hw k (hF g (by rw[e];rfl) k hk) _)⟩ (fun c hc=>by cases hc) (gF h.below hb1)).monoU (fun b hb=>.inl hb)
   rw[hcn,e,h1];refine⟨by simp[hnl,hul];omega,.inr ⟨g,cap,_,rfl,hb1,setRow_heap w g cur _ ety (0,0) hb2,hnc,hcm,by simp only[Og,NT,N5,NG,Nk,NK,Ns,hlen];omega,?_⟩⟩
   simp only[Nl,Og,NT,N5];refine Ob (fun j=>?_)
   have hus:∀j,us[j]?=if j<n then cur.toList[j]? else none:=fun j=>by rw[<-hcur,Nc]
   rw[Nc];by_cases hj:j<n
   ·rw[if_pos hj]
    by_cases hj2:j<(news.take n).length
    ·rw[Nb hj2,Nb hj2]
    ·rw[Na (by omega),Na (by omega),No,No,hus]
     rw[hlen]at hj2⊢
     have hqn:q<n:=by
      rcases Nat.lt_or_ge q n with hh|hh
      ·exact hh
      ·rw[show NQ q n=n from N1 hh]at hj2;omega
     rw[show NQ q n=q from NU (by omega)]at hj2⊢
     rw[if_pos (by omega)]
   ·rw[if_neg hj]
    symm
    rw[N4];simp[hnl,hul];omega
theorem BI(h:Rel w0 env κ F U tmp blk L a w)(l:Array Operand):SVden env κ F w (.of (l.toList.map (ag tmp))) (.tuple (l.map a.eval)):=by
 have:=eM (env:=env) (κ:=κ) (F:=F) (w:=w) (l:=l.toList.map (ag tmp)) (cs:=(l.map a.eval).toList) (by simp) (fun i x u hx hu=>by
  simp only[Nm,NO]at hx hu;obtain⟨y,hy,rfl⟩:=Option.map_eq_some_iff.1 hx;rw[hy]at hu;cases hu
  exact h.ev y)
 rwa [N7]at this
theorem fj{r c:Nat}{es:Array MapEntry}(o':Obj)(h:w.heap[r]?=some (.map es c)):(setObj r o').run P w=.ok () { w with heap:=w.heap.setIfInBounds r o' }:=by
 simp[setObj,Sem.run,h]
theorem FP{o:Oper}{f:Nat}{first captured:Array Operand}(ho:o.op=.makeFunc (.func f) first captured)(h:Rel w0 env κ F U tmp blk L a w):aB P w0 env κ F U tmp blk L a w o (.fn f (.of (first.toList.map (ag tmp))) (.of (captured.toList.map (ag tmp)))) []:=by
 refine aj h (u:=.func (.func f) (first.map a.eval) (captured.map a.eval)) (.inl ?_) ⟨_,_,rfl,bA _,bA _,BI h first,BI h captured⟩
 simp[execOp,ho,Instr.makeFunc]
theorem Ht{o:Oper}{t m:Nat}(ho:o.op=.makeMap t none)(h:Rel w0 env κ F U tmp blk L a w)(hm:¬U m):aB P w0 env κ F U tmp blk L a w o (.map m) [(m,some (.map .nil .nil))]:=by
 refine⟨.map (some w.heap.size),w.alloc (.map #[] 0),upd κ m (.pointer (some ⟨w.heap.size,0,none⟩)),F,.inl ?_,?_,⟨w.heap.size,ak ..,rfl⟩,h.new_kept hm rfl⟩
 ·simp[execOp,ho,Instr.makeMap]
 ·refine(h.new hm rfl (x:=.map .nil .nil) ⟨w.heap.size,#[],0,ak ..,World.alloc_heap_new _ _,h.below.size,rfl,rfl,rfl,⟨fun i k v hk=>by simp[SV.list]at hk,fun e he=>by simp at he,fun e he=>by simp at he⟩⟩ (fun c hc=>by cases hc)).monoU (fun b hb=>?_)
  rcases hb with hb|rfl
  ·exact .inl hb
  ·exact .inr ⟨_,List.mem_singleton.2 rfl,rfl⟩
def fM(P:Program)(t:Nat)(u:Value):Prop:=
 (P.underlying t=some (.int .i64)/\∃n,u=.int .i64 n) ∨
 ∃fs f g n m,P.underlying t=some (.struct fs)/\fs=#[f,g]/\P.stoodInHeld t=false/\f.name ≠ "_" ∧ g.name ≠ "_" ∧ f.offset=0/\g.offset=1/\P.underlying f.type=some (.int .i64)/\P.underlying g.type=some (.int .i64)/\u=.agg #[.int .i64 n,.int .i64 m]
theorem uG{t:Nat}(h:ua P t=true):P.underlying t=some (.int .i64):=by
 unfold ua at h;split at h
 ·assumption
 ·cases h
theorem ni{t:Nat}{k:SV}{u:Value}(hk:nL P t k=true)(h:SVden env κ F w k u):fM P t u:=by
 unfold nL at hk;split at hk
 ·exact .inl ⟨uG hk,_,h.1⟩
 ·split at hk
  ·rename_i fs hu
   split at hk
   ·rename_i f g hfs
    simp only[N2,Bool.not_eq_true',bne_iff_ne,ne_eq,beq_iff_eq]at hk;obtain⟨⟨⟨⟨⟨⟨⟨⟨h0,h1⟩,h2⟩,h3⟩,h4⟩,h5⟩,h6⟩,_⟩,_⟩:=hk;obtain⟨cs,rfl,_,p,q,e,h7,p',q',e',h8,h9⟩:=h;cases e
    cases e'
    have hq:q'=[]:=by
     have:Value.tuple q'.toArray=.tuple #[]:=h9
     simp at this;exact this
    subst hq;exact .inr ⟨fs,f,g,_,_,hu,by rw[<-N7 (xs:=fs),hfs],h0,h1,h2,h3,h4,uG h5,uG h6,by rw[h7.1,h8.1]⟩
   ·cases hk
  ·cases hk
 ·cases hk
theorem EY{t:Nat}{u u':Value}(h:fM P t u)(h':fM P t u')(D:Nat):∃b,(Op.equalIn (D+2) t u u').run P w=.ok b w/\(b=true↔u=u'):=by
 rcases h with⟨h1,n,rfl⟩|⟨fs,f,g,n,m,h1,h2,h3,h4,h5,h6,h7,h8,h9,rfl⟩
 ·rcases h' with⟨_,n',rfl⟩|⟨fs,f,g,n',m',h1',_⟩
  ·exact⟨_,run_equalIn_int w (D+1) t .i64 .i64 n n' h1,by simp⟩
  ·rw[h1]at h1';cases h1'
 ·rcases h' with⟨h1',n',rfl⟩|⟨fs',f',g',n',m',h1',h2',_,_,_,_,_,_,_,rfl⟩
  ·rw[h1]at h1';cases h1'
  ·rw[h1]at h1'
   cases h1'
   rw[h2]at h2';cases h2'
   have hfs:P.fieldsOf t=#[f,g]:=by unfold Program.fieldsOf;rw[h1,h2]
   have hp:∀(t:Nat) (cs:Array Value) (off:Nat) (v:Value),P.underlying t=some (.int .i64)->cs[off]?=some v->(part t cs off).run P w=.ok v w:=fun t cs off v ht hv=>by
    unfold part;simp[isAgg,run_underlying ht,hv]
   refine⟨(n==n')&&(m==m'),?_,by simp⟩
   rw[run_equalIn_struct w (D+1) t _ _ (by rw[hfs,<-h2];exact h1) h3,hfs]
   have p1:=hp f.type #[.int .i64 n,.int .i64 m] f.offset (.int .i64 n) h8 (by rw[h6];rfl)
   have p2:=hp f.type #[.int .i64 n',.int .i64 m'] f.offset (.int .i64 n') h8 (by rw[h6];rfl)
   have p3:=hp g.type #[.int .i64 n,.int .i64 m] g.offset (.int .i64 m) h9 (by rw[h7];rfl)
   have p4:=hp g.type #[.int .i64 n',.int .i64 m'] g.offset (.int .i64 m') h9 (by rw[h7];rfl)
   have r1:=run_equalIn_int (P:=P) w D f.type .i64 .i64 n n' h8;have r2:=run_equalIn_int (P:=P) w D g.type .i64 .i64 m m' h9;simp only[Op.eqFields,if_pos h4,if_pos h5,Sem.run_bind,p1,p2,Result.andThen_ok];rw[r1];simp only[Result.andThen_ok];cases e:(n==n')with
   |true=>
    simp only[OC,Ok,if_false,Sem.run_bind,p3,p4,Result.andThen_ok,Bool.true_and];rw[r2];simp only[Result.andThen_ok];cases e2:(m==m')<;>simp
   |false=>simp
theorem gS{t:Nat}{u:Value}(h:fM P t u)(e:Bool)(n:Nat):(Instr.checkKey e (n+2) t u).run P w=.ok () w:=by
 rcases h with⟨h1,k,rfl⟩|⟨fs,f,g,k,m,h1,h2,h3,h4,h5,h6,h7,h8,h9,rfl⟩
 ·simp[Instr.checkKey,run_underlying h1]
 ·have hp:∀(t:Nat) (cs:Array Value) (off:Nat) (v:Value),P.underlying t=some (.int .i64)->cs[off]?=some v->(part t cs off).run P w=.ok v w:=fun t cs off v ht hv=>by
   unfold part;simp[isAgg,run_underlying ht,hv]
  have p1:=hp f.type #[.int .i64 k,.int .i64 m] f.offset _ h8 (by rw[h6];rfl)
  have p3:=hp g.type #[.int .i64 k,.int .i64 m] g.offset _ h9 (by rw[h7];rfl)
  have c1:∀v,(Instr.checkKey e (n+1) f.type (.int .i64 v)).run P w=.ok () w:=fun v=>by simp[Instr.checkKey,run_underlying h8]
  have c2:∀v,(Instr.checkKey e (n+1) g.type (.int .i64 v)).run P w=.ok () w:=fun v=>by simp[Instr.checkKey,run_underlying h9]
  rw[Instr.checkKey];simp only[Sem.run_bind,run_underlying h1,Result.andThen_ok,h2];simp[h4,h5,p1,p3,c1,c2]
theorem yN{t:Nat}{key:Value}(hk:fM P t key):∀(es:List MapEntry),(∀e∈es,fM P t e.key) →
  ∃r,(Instr.findKey t key es).run P w=.ok r w/\((r=none/\∀e∈es,e.key≠key)\/∃i,∃e∈es,e.key=key/\r=some (i,e.val)):=by
 intro es hes;have hask:∀(es:List MapEntry) (i:Nat),(∀e∈es,fM P t e.key)->∃r,(Instr.findAsking t key es i).run P w=.ok r w/\((r=none/\∀e∈es,e.key≠key)\/∃i,∃e∈es,e.key=key/\r=some (i,e.val)):=by
  intro es;induction es with
  |nil=>intro i _;exact⟨none,by simp[Instr.findAsking],.inl ⟨rfl,fun e he=>by cases he⟩⟩
  | cons x es ih=>
   intro i hes;obtain⟨b,h1,h2⟩:=EY (w:=w) hk (hes x (Nu ..)) 9998
   have h1:(Op.equal t key x.key).run P w=.ok b w:=h1
   cases b with
   |true=>
    exact⟨some (i,x.val),by simp[Instr.findAsking,h1],.inr ⟨i,x,Nu ..,(h2.1 rfl).symm,rfl⟩⟩
   | false=>
    obtain⟨r,h3,h4⟩:=ih (i+1) (fun e he=>hes e (Nh _ he))
    refine⟨r,by simp[Instr.findAsking,h1,h3],?_⟩
    rcases h4 with⟨h4,h5⟩|⟨i,e,h4,h5⟩
    ·refine .inl ⟨h4,fun e he=>?_⟩
     rcases List.mem_cons.1 he with rfl|he
     ·intro hh;have:=h2.2 hh.symm;cases this
     ·exact h5 e he
    ·exact .inr ⟨i,e,Nh _ h4,h5⟩
 unfold Instr.findKey;rcases hk with⟨h1,n,rfl⟩|⟨fs,f,g,n,m,h1,h2,h3⟩
 ·have hnow:∀(es:List MapEntry) (i:Nat),(∀e∈es,fM P t e.key)->∃r,Instr.findNow (.int .i64) (.int .i64 n) es i=some r/\((r=none/\∀e∈es,e.key≠.int .i64 n)\/∃i,∃e∈es,e.key=.int .i64 n/\r=some (i,e.val)):=by
   intro es;induction es with
   |nil=>intro i _;exact⟨none,rfl,.inl ⟨rfl,fun e he=>by cases he⟩⟩
   | cons x es ih=>
    intro i hes;rcases hes x (Nu ..)with⟨_,k,hxk⟩|⟨fs,f,g,n',m',h1',_⟩
    ·by_cases e:n=k
     ·subst e
      exact⟨some (i,x.val),by simp[Instr.findNow,Instr.sameNow,hxk],.inr ⟨i,x,Nu ..,hxk,rfl⟩⟩
     ·obtain⟨r,h3,h4⟩:=ih (i+1) (fun e he=>hes e (Nh _ he))
      have e0:(n==k)=false:=by simpa using e
      refine⟨r,by simp[Instr.findNow,Instr.sameNow,hxk,e0,h3],?_⟩
      rcases h4 with⟨h4,h5⟩|⟨i,e',h4,h5⟩
      ·refine .inl ⟨h4,fun e' he=>?_⟩
       rcases List.mem_cons.1 he with rfl|he
       ·rw[hxk];intro hh;cases hh;exact e rfl
       ·exact h5 e' he
      ·exact .inr ⟨i,e',Nh _ h4,h5⟩
    ·rw[h1]at h1';cases h1'
  obtain⟨r,h3,h4⟩:=hnow es 0 hes;exact⟨r,by simp[run_underlying h1,h3],h4⟩
 ·simp only[Sem.run_bind,run_underlying h1,Result.andThen_ok]
  cases es with
  |nil=>exact⟨none,by simp[Instr.findNow],.inl ⟨rfl,fun e he=>by cases he⟩⟩
  |cons x es=>
   have:Instr.findNow (.struct fs) key (x::es) 0=none:=by simp[Instr.findNow,Instr.sameNow]
   rw[this];exact hask (x::es) 0 hes
theorem CJ{t:Nat}{ks vs:SV}{es:List MapEntry}(h:MapDen env κ F w ks vs es)(hk:ks.list.all (nL P t)=true):∀e∈es,fM P t e.key:=fun e he=>by
 obtain⟨i,k,v,h1,h2,h3,_⟩:=h.2.1 e he;exact ni (List.all_eq_true.1 hk k (Nq h1)) h3
theorem Bx{t:Nat}{k k':SV}{u u':Value}{e:E}(he:qC P 12 t k k'=some e)(h:SVden env κ F w k u)(h':SVden env κ F w k' u')(hv:fM P t u)(hv':fM P t u'):(den env e).b=true↔u=u':=by
 obtain⟨b,h1,h2⟩:=EY (w:=w) hv hv' 9998
 have h3:=(zx 12 10000 t k k' u u' e (by decide) he h h').1
 rw[h1]at h3;cases h3
 exact h2
theorem D1{x:SV}(h:isZ x=true):x=.vi (.int 0):=by
 unfold isZ at h;split at h
 ·rfl
 ·cases h
def wy(t:Ty)(k:List AV)(u:Value):Prop:=
 (t=.cons .int (.cons .int .nil)/\∃n,k=[.int n]/\u=.int .i64 n)\/(t=.cons .int (.cons .int (.cons .int .nil))/\∃n m,k=[.int n,.int m]/\u=.agg #[.int .i64 n,.int .i64 m])
theorem DS{t:Ty}{k r:List AV}{u:Value}{e:MapEntry}(hk:wy t k u)(he:fo t r e):
  (t=.cons .int (.cons .int .nil)/\∃n v,r=[.int n,.int v]/\e.key=.int .i64 n/\e.val=.int .i64 v) ∨
  (t=.cons .int (.cons .int (.cons .int .nil))/\∃n m v,r=[.int n,.int m,.int v]/\e.key=.agg #[.int .i64 n,.int .i64 m]/\e.val=.int .i64 v):=by
 rcases he with h|h|⟨kk,h,_⟩
 ·exact .inl h
 ·exact .inr h
 ·rcases hk with⟨rfl,_⟩|⟨rfl,_⟩<;>cases h
theorem uE(n m:Int)(k r:List AV):bY (.int n::k) (.int m::r)=(decide (n=m)&&bY k r):=rfl
theorem GU{t:Ty}{k r:List AV}{u:Value}{e:MapEntry}(hk:wy t k u)(he0:fo t r e):bY k r=true↔e.key=u:=by
 have he:=DS hk he0;rcases hk with⟨rfl,n,rfl,rfl⟩|⟨rfl,n,m,rfl,rfl⟩<;>rcases he with⟨ht,n',v,rfl,h1,_⟩|⟨ht,n',m',v,rfl,h1,_⟩
 ·rw[h1,uE]
  simp only[bY,OD];exact⟨fun h=>by have:=of_decide_eq_true h;rw[this],fun h=>by cases h;exact decide_eq_true rfl⟩
 ·cases ht
 ·cases ht
 ·rw[h1,uE,uE]
  simp only[bY,OD,N2];exact⟨fun h=>by have h1:=of_decide_eq_true h.1;have h2:=of_decide_eq_true h.2;rw[h1,h2],fun h=>by cases h;exact⟨decide_eq_true rfl,decide_eq_true rfl⟩⟩
theorem zn{t:Ty}{kd:IntKind}{k:List AV}{u:Value}(x:AV)(hkm:∀r e,fo t r e->(bY k r=true↔e.key=u))(hkv:∀r e,fo t r e->e.val=.int kd (r.getD k.length (.int 0)).num):∀(L:List (List AV)) (es:List MapEntry),m4 t L es →
  ((∀e∈es,e.key≠u)->eA k x L=L++[k++[x]]/\jH k L=false/\cb k L=0) ∧
  (∀(i:Nat) e,es[i]?=some e->e.key=u->(∀(j:Nat) e',j<i->es[j]?=some e'->e'.key≠u)->eA k x L=L.set i (k++[x])/\jH k L=true/\e.val=.int kd (cb k L)):=by
 intro L;induction L with
 |nil=>
  intro es hes;have:es=[]:=List.length_eq_zero_iff.1 hes.1
  subst this;exact⟨fun _=>⟨rfl,rfl,rfl⟩,fun i e h=>by simp at h⟩
 | cons r L ih=>
  intro es hes;cases es with
  |nil=>have:=hes.1;simp at this
  | cons e es=>
   have hr:fo t r e:=hes.2 0 r e rfl rfl
   have htl:m4 t L es:=⟨by have:=hes.1;simpa using this,fun i r' e' h1 h2=>hes.2 (i+1) r' e' (by simpa using h1) (by simpa using h2)⟩
   have hkm':=hkm r e hr;obtain⟨i1,i2⟩:=ih es htl;refine⟨fun hno=>?_,fun i e' he' hkey hfst=>?_⟩
   ·have:bY k r=false:=by
     cases hb:bY k r with
     |false=>rfl
     |true=>exact absurd (hkm'.1 hb) (hno e (Nu ..))
    obtain⟨j1,j2,j3⟩:=i1 (fun e' he'=>hno e' (Nh _ he'))
    simp[eA,jH,cb,this,j1,j2,j3]
   ·cases i with
    |zero=>
     simp at he';subst he'
     have hb:=hkm'.2 hkey;refine⟨by simp[eA,hb],by simp[jH,hb],?_⟩
     simp only[cb,hb,cond_true];exact hkv r e hr
    | succ i=>
     have:bY k r=false:=by
      cases hb:bY k r with
      |false=>rfl
      |true=>exact absurd (hkm'.1 hb) (hfst 0 e (by omega) rfl)
     obtain⟨j1,j2,j3⟩:=i2 i e' (by simpa using he') hkey (fun j e'' hj h=>hfst (j+1) e'' (by omega) (by simpa using h))
     simp[eA,jH,cb,this,j1,j2,j3]
theorem Fh{t:Ty}{k:List AV}{u:Value}(x:AV)(hk:wy t k u):∀(L:List (List AV)) (es:List MapEntry),m4 t L es →
  ((∀e∈es,e.key≠u)->eA k x L=L++[k++[x]]/\jH k L=false/\cb k L=0) ∧
  (∀(i:Nat) e,es[i]?=some e->e.key=u->(∀(j:Nat) e',j<i->es[j]?=some e'->e'.key≠u)->eA k x L=L.set i (k++[x])/\jH k L=true/\e.val=.int .i64 (cb k L)):=
 zn x (fun _ _ he=>GU hk he) fun r e he=>by
  have he2:=DS hk he;rcases hk with⟨rfl,n,rfl,rfl⟩|⟨rfl,n,m,rfl,rfl⟩<;>rcases he2 with⟨ht,n',v,rfl,_,h2⟩|⟨ht,n',m',v,rfl,_,h2⟩
  ·rw[h2];rfl
  ·cases ht
  ·cases ht
  ·rw[h2];rfl
theorem En{k:SV}{ke:E}{r:Ty}{u:Value}(hk:gr k=some (ke,r))(h:SVden env κ F w k u):wy r (den env ke).g u:=by
 unfold gr at hk;split at hk
 ·cases hk
  refine .inl ⟨rfl,_,?_,h.1⟩
  show[den env _]=[_]
  rw[<-jw h.2]
 ·cases hk
  obtain⟨cs,rfl,_,p,q,e,h7,p',q',e',h8,h9⟩:=h;cases e
  cases e'
  have hq:q'=[]:=by
   have:Value.tuple q'.toArray=.tuple #[]:=h9
   simp at this;exact this
  subst hq;refine .inr ⟨rfl,_,_,?_,by rw[h7.1,h8.1]⟩
  show[den env _,den env _]=[_,_]
  rw[<-jw h7.2,<-jw h8.2]
 ·cases hk
theorem AK{kt:Nat}{r:Ty}{kk row:List AV}{u:Value}{e:MapEntry}(hv:fM P kt u)(hk:wy r kk u)(he0:fo r row e):fM P kt e.key:=by
 have he:=DS hk he0;rcases hk with⟨rfl,n,rfl,rfl⟩|⟨rfl,n,m,rfl,rfl⟩<;>rcases he with⟨ht,n',v,rfl,h1,_⟩|⟨ht,n',m',v,rfl,h1,_⟩
 ·rcases hv with⟨h2,_⟩|⟨fs,f,g,a,b,_,_,_,_,_,_,_,_,_,h⟩
  ·exact .inl ⟨h2,n',h1⟩
  ·cases h
 ·cases ht
 ·cases ht
 ·rcases hv with⟨h2,_,h⟩|⟨fs,f,g,a,b,q1,q2,q3,q4,q5,q6,q7,q8,q9,_⟩
  ·cases h
  ·exact .inr ⟨fs,f,g,n',m',q1,q2,q3,q4,q5,q6,q7,q8,q9,h1⟩
theorem Bs{t:Nat}{key:Value}(hk:fM P t key):∀(es:List MapEntry),(∀e∈es,fM P t e.key) →
  ∃r,(Instr.findKey t key es).run P w=.ok r w/\((r=none/\∀e∈es,e.key≠key)\/∃i e,es[i]?=some e/\e.key=key/\(∀(j:Nat) e',j<i->es[j]?=some e'->e'.key≠key)/\r=some (i,e.val)):=by
 intro es hes;have hask:∀(es:List MapEntry) (i0:Nat),(∀e∈es,fM P t e.key)->∃r,(Instr.findAsking t key es i0).run P w=.ok r w/\((r=none/\∀e∈es,e.key≠key)\/∃i e,es[i]?=some e/\e.key=key/\(∀(j:Nat) e',j<i->es[j]?=some e'->e'.key≠key)/\r=some (i0+i,e.val)):=by
  intro es;induction es with
  |nil=>intro i _;exact⟨none,by simp[Instr.findAsking],.inl ⟨rfl,fun e he=>by cases he⟩⟩
  | cons x es ih=>
   intro i0 hes;obtain⟨b,h1,h2⟩:=EY (w:=w) hk (hes x (Nu ..)) 9998
   have h1:(Op.equal t key x.key).run P w=.ok b w:=h1
   cases b with
   |true=>
    exact⟨some (i0,x.val),by simp[Instr.findAsking,h1],.inr ⟨0,x,rfl,(h2.1 rfl).symm,fun j e' hj=>by omega,rfl⟩⟩
   | false=>
    obtain⟨r,h3,h4⟩:=ih (i0+1) (fun e he=>hes e (Nh _ he))
    refine⟨r,by simp[Instr.findAsking,h1,h3],?_⟩
    have hx:x.key≠key:=fun hh=>by have:=h2.2 hh.symm;cases this
    rcases h4 with⟨h4,h5⟩|⟨i,e,h4,h5,h6,h7⟩
    ·refine .inl ⟨h4,fun e he=>?_⟩
     rcases List.mem_cons.1 he with rfl|he
     ·exact hx
     ·exact h5 e he
    ·refine .inr ⟨i+1,e,by simpa using h4,h5,fun j e' hj he'=>?_,by rw[h7];congr 2;omega⟩
     cases j with
     |zero=>simp at he';subst he';exact hx
     |succ j=>exact h6 j e' (by omega) (by simpa using he')
 unfold Instr.findKey;rcases hk with⟨h1,n,rfl⟩|⟨fs,f,g,n,m,h1,h2,h3⟩
 ·have hnow:∀(es:List MapEntry) (i0:Nat),(∀e∈es,fM P t e.key)->∃r,Instr.findNow (.int .i64) (.int .i64 n) es i0=some r/\((r=none/\∀e∈es,e.key≠.int .i64 n)\/∃i e,es[i]?=some e/\e.key=.int .i64 n/\(∀(j:Nat) e',j<i->es[j]?=some e'->e'.key≠.int .i64 n)/\r=some (i0+i,e.val)):=by
   intro es;induction es with
   |nil=>intro i _;exact⟨none,rfl,.inl ⟨rfl,fun e he=>by cases he⟩⟩
   | cons x es ih=>
    intro i0 hes;rcases hes x (Nu ..)with⟨_,k,hxk⟩|⟨fs,f,g,n',m',h1',_⟩
    ·by_cases e:n=k
     ·subst e
      exact⟨some (i0,x.val),by simp[Instr.findNow,Instr.sameNow,hxk],.inr ⟨0,x,rfl,hxk,fun j e' hj=>by omega,rfl⟩⟩
     ·obtain⟨r,h3,h4⟩:=ih (i0+1) (fun e he=>hes e (Nh _ he))
      have e0:(n==k)=false:=by simpa using e
      have hx:x.key≠.int .i64 n:=by rw[hxk];intro hh;cases hh;exact e rfl
      refine⟨r,by simp[Instr.findNow,Instr.sameNow,hxk,e0,h3],?_⟩
      rcases h4 with⟨h4,h5⟩|⟨i,e',h4,h5,h6,h7⟩
      ·refine .inl ⟨h4,fun e' he=>?_⟩
       rcases List.mem_cons.1 he with rfl|he
       ·exact hx
       ·exact h5 e' he
      ·refine .inr ⟨i+1,e',by simpa using h4,h5,fun j e'' hj he'=>?_,by rw[h7];congr 2;omega⟩
       cases j with
       |zero=>simp at he';subst he';exact hx
       |succ j=>exact h6 j e'' (by omega) (by simpa using he')
    ·rw[h1]at h1';cases h1'
  obtain⟨r,h3,h4⟩:=hnow es 0 hes;exact⟨r,by simp[run_underlying h1,h3],by simpa using h4⟩
 ·simp only[Sem.run_bind,run_underlying h1,Result.andThen_ok]
  cases es with
  |nil=>exact⟨none,by simp[Instr.findNow],.inl ⟨rfl,fun e he=>by cases he⟩⟩
  |cons x es=>
   have:Instr.findNow (.struct fs) key (x::es) 0=none:=by simp[Instr.findNow,Instr.sameNow]
   rw[this];obtain⟨r,h5,h6⟩:=hask (x::es) 0 hes;exact⟨r,h5,by simpa using h6⟩
theorem If{t:Nat}{u:Value}(h:fM P t u):(Instr.keyThatStays u u).run P w=.ok u w:=by
 have:Instr.sameBits 10000 u u=true:=by
  rcases h with⟨_,n,rfl⟩|⟨fs,f,g,n,m,_,_,_,_,_,_,_,_,_,rfl⟩
  ·simp[Instr.sameBits]
  ·simp[Instr.sameBits]
 simp[Instr.keyThatStays,this]
theorem Hx{o:Oper}{t kt et b:Nat}{x y z:Operand}(ho:o.op=.insert t x y z\/o.op=.mapUpdate t x y z)(h:Rel w0 env κ F U tmp blk L a w){needs:List E}{v:SV}{wr:List (Nat×Option SB)}(hx:ag tmp x=.map b)(ht:P.underlying t=some (.map kt et)){rt:Ty}{l:E}(hb:blk b=some (.amap rt l))
  (hc:mB P b rt l kt (ag tmp y) (ag tmp z)=.ok needs v wr):aB P w0 env κ F U tmp blk L a w o v wr:=by
 unfold mB at hc;split at hc
 ·rename_i ke r' xe hke hz
  split at hc
  ·rename_i hh
   obtain⟨c1,rfl⟩:=hh;cases hc
   have hex:=h.ev x;rw[hx]at hex;obtain⟨r,g1,g2⟩:=hex;obtain⟨r0,es,clock,g3,g4,g5,g9⟩:=h.blks b _ hb;rw[g1]at g3;cases g3
   have hky:=ni c1 (h.ev y);have hkr:=En hke (h.ev y);have hez:=h.ev z;rw[hz]at hez;have hxt:=jw hez.2;have hkes:∀e∈es.toList,fM P kt e.key:=fun e he=>by
    obtain⟨i,hi,hie⟩:=NE he;have hi2:i<(den env l).l.length:=by rw[<-g9.1];exact hi
    exact AK hky hkr (g9.2 i _ e (M9 hi2) (by rw[M9 hi,hie]))
   obtain⟨fr,f1,f2⟩:=Bs (w:=w) hky es.toList hkes
   obtain⟨m1,m2⟩:=Fh (den env xe) hkr _ _ g9;have hnew:∃es':Array MapEntry,∃clock',(Instr.mapUpdate t (a.eval x) (a.eval y) (a.eval z)).run P w=.ok () { w with heap:=w.heap.setIfInBounds r (.map es' clock') }/\m4 r' (eA (den env ke).g (den env xe) (den env l).l) es'.toList:=by
    have hent:∀e:MapEntry,e.key=a.eval y->e.val=a.eval z->fo r' ((den env ke).g++[den env xe]) e:=fun e h1 h2=>by
     rcases hkr with⟨q1,n,q2,q3⟩|⟨q1,n,m,q2,q3⟩
     ·refine .inl ⟨q1,n,(den env xe).i,by rw[q2,hxt];rfl,by rw[h1,q3],by rw[h2,hez.1]⟩
     ·refine .inr (.inl ⟨q1,n,m,(den env xe).i,by rw[q2,hxt];rfl,by rw[h1,q3],by rw[h2,hez.1]⟩)
    rcases f2 with⟨rfl,hno⟩|⟨i,e,q1,q2,q3,rfl⟩
    ·refine⟨es.push { key:=a.eval y,val:=a.eval z,born:=clock },clock+1,?_,?_⟩
     ·rw[g2]
      simp only[Instr.mapUpdate,run_underlying ht,Sem.run_bind,Result.andThen_ok,run_getObj_map w r es clock g4,gS hky,f1,fj _ g4]
     ·rw[(m1 hno).1]
      refine⟨by simp[g9.1],fun j row e h1 h2=>?_⟩
      simp only[On]at h2;by_cases hj:j<(den env l).l.length
      ·rw[Nb hj]at h1
       rw[Nb (by rw[g9.1];exact hj)]at h2
       exact g9.2 j row e h1 h2
      ·rw[Na (by omega)]at h1
       rw[Na (by rw[g9.1];omega),g9.1]at h2
       have h0:j-(den env l).l.length=0:=by
        have:=(List.getElem?_eq_some_iff.1 h1).1;simp at this;omega
       rw[h0]at h1 h2;simp at h1 h2
       subst h1;subst h2;exact hent _ rfl rfl
    ·have hie:es[i]?=some e:=by rw[<-Nn];exact q1
     refine⟨es.modify i fun e=>{ e with key:=a.eval y,val:=a.eval z },clock,?_,?_⟩
     ·rw[g2]
      have hst:(((es[i]?).map (·.key)).getD (a.eval y))=a.eval y:=by rw[hie];exact q2
      simp only[Instr.mapUpdate,run_underlying ht,Sem.run_bind,Result.andThen_ok,run_getObj_map w r es clock g4,gS hky,f1,hst,If hky,fj _ g4]
     ·rw[(m2 i e q1 q2 q3).1]
      refine⟨by simp[g9.1],fun j row e' h1 h2=>?_⟩
      simp only[Oj]at h2;rw[Oi]at h2;rw[Oo]at h1;by_cases hj:i=j
      ·subst hj
       rw[if_pos rfl]at h1;split at h1
       ·cases h1
        rw[q1]at h2;simp at h2
        subst h2;exact hent _ rfl rfl
       ·cases h1
      ·rw[if_neg hj]at h1
       obtain⟨e0,he0,he1⟩:=Option.map_eq_some_iff.1 h2;simp[hj]at he1
       subst he1;exact g9.2 j row e0 h1 he0
   obtain⟨es',clock',hrun,hden⟩:=hnew;obtain⟨W,hW⟩:∃W,W={ w with heap:=w.heap.setIfInBounds r (.map es' clock') }:=⟨_,rfl⟩
   rw[<-hW]at hrun;have hlt:=dt g4;have hR:bL P o a w undef W:=.inr ⟨rfl,by
    rcases ho with ho|ho<;>simp only[execOp,ho,Sem.run_bind,hrun,Result.andThen_ok,Sem.run_pure]⟩
   have hw:∀k,ai (κ b)≠some k->W.heap[k]?=w.heap[k]?:=fun k hk=>by
    rw[hW];have:r≠k:=fun e=>hk (by rw[g1,e];rfl)
    simp[this]
   have hsz:W.heap.size=w.heap.size:=by rw[hW];simp
   refine⟨undef,W,κ,F,hR,?_,trivial,h.stored_kept hb rfl rfl hw hsz⟩
   refine(h.stored (y:=.amap r' (.mput l ke xe)) hb rfl hw hsz ?_ (fun c hc=>by cases hc) ?_).monoU (fun b hb=>.inl hb)
   ·exact⟨r,es',clock',g1,by rw[hW];simp[hlt],g5,hden⟩
   ·refine h.below.trans ⟨by rw[hW],by rw[hW],by rw[hW],by omega,fun k hk=>hw k (fun e=>?_)⟩
    rw[g1]at e;have e:r=k:=by simpa[ai]using e
    omega
  ·cases hc
 ·cases hc
theorem JV{o:Oper}{t kt et b:Nat}{x y:Operand}{ok:Bool}(ho:o.op=.lookup t x y ok)(h:Rel w0 env κ F U tmp blk L a w){needs:List E}{v:SV}{wr:List (Nat×Option SB)}(hx:ag tmp x=.map b)(ht:P.underlying t=some (.map kt et)){rt:Ty}{l:E}(hb:blk b=some (.amap rt l)){z:SV}(hz:bM P et=some z)(hzz:isZ z=true)
  (hc:ld P rt l kt (ag tmp y) ok=.ok needs v wr):aB P w0 env κ F U tmp blk L a w o v wr:=by
 unfold ld at hc;split at hc
 ·rename_i ke r' hke
  split at hc
  ·rename_i hh
   obtain⟨c1,rfl⟩:=hh;cases hc
   have hex:=h.ev x;rw[hx]at hex;obtain⟨r,g1,g2⟩:=hex;obtain⟨r0,es,clock,g3,g4,g5,g9⟩:=h.blks b _ hb;rw[g1]at g3;cases g3
   have hky:=ni c1 (h.ev y);have hkr:=En hke (h.ev y);have hkes:∀e∈es.toList,fM P kt e.key:=fun e he=>by
    obtain⟨i,hi,hie⟩:=NE he;have hi2:i<(den env l).l.length:=by rw[<-g9.1];exact hi
    exact AK hky hkr (g9.2 i _ e (M9 hi2) (by rw[M9 hi,hie]))
   obtain⟨fr,f1,f2⟩:=Bs (w:=w) hky es.toList hkes
   obtain⟨m1,m2⟩:=Fh (.int 0) hkr _ _ g9;unfold bM at hz;obtain⟨zv,hz1,rfl⟩:=Option.map_eq_some_iff.1 hz;obtain⟨i,hi,hz2⟩:=Option.bind_eq_some_iff.1 hz1;have hzero:(zeroValue et).run P w=.ok zv w:=by simp[zeroValue,typeInfo,hi,hz2]
   have hzv:zv=.int .i64 0:=by
    have:=cT (env:=env) (κ:=κ) (F:=F) (w:=w) zv
    rw[D1 hzz]at this;exact this.1
   have key:(Instr.lookup t (a.eval x) (a.eval y) ok).run P w=.ok (if ok then .tuple #[.int .i64 (cb (den env ke).g (den env l).l),.bool (jH (den env ke).g (den env l).l)]else .int .i64 (cb (den env ke).g (den env l).l)) w:=by
    rcases f2 with⟨rfl,hno⟩|⟨i,e,q1,q2,q3,rfl⟩
    ·obtain⟨_,j2,j3⟩:=m1 hno
     rw[g2,j2,j3];simp only[Instr.lookup,run_underlying ht,Sem.run_bind,Result.andThen_ok,run_getObj_map w r es clock g4,gS hky,f1,hzero,hzv,Sem.run_pure]
    ·obtain⟨_,j2,j3⟩:=m2 i e q1 q2 q3
     rw[g2,j2,<-j3];simp only[Instr.lookup,run_underlying ht,Sem.run_bind,Result.andThen_ok,run_getObj_map w r es clock g4,gS hky,f1,Sem.run_pure]
   refine aj h (.inl (by simp only[execOp,ho,Sem.run_bind,key,Result.andThen_ok,Sem.run_pure];rfl)) ?_
   cases ok with
   |true=>exact⟨#[_,_],rfl,rfl,_,[_],rfl,⟨rfl,rfl⟩,_,[],rfl,⟨rfl,rfl⟩,rfl⟩
   |false=>exact⟨rfl,rfl⟩
  ·cases hc
 ·cases hc
theorem Ct{o:Oper}{t:Nat}{x y z:Operand}(ho:o.op=.insert t x y z\/o.op=.mapUpdate t x y z)(h:Rel w0 env κ F U tmp blk L a w){needs:List E}{v:SV}{wr:List (Nat×Option SB)}
  (hc:jp P blk t (ag tmp x) (ag tmp y) (ag tmp z)=.ok needs v wr):aB P w0 env κ F U tmp blk L a w o v wr:=by
 unfold jp at hc;split at hc
 ·rename_i b kt et hx ht
  split at hc
  ·rename_i rt l hb
   exact Hx ho h hx ht hb hc
  ·rename_i ks vs hb
   split at hc
   ·rename_i hh
    cases hc
    simp only[N2,beq_iff_eq]at hh;obtain⟨⟨⟨⟨⟨c1,c2⟩,c3⟩,c4⟩,c5⟩,c6⟩:=hh;have hex:=h.ev x;rw[hx]at hex;obtain⟨r,g1,g2⟩:=hex;obtain⟨r',es,clock,g3,g4,g5,g6,g7,g8,g9⟩:=h.blks b _ hb;rw[g1]at g3;cases g3
    have hky:=ni c1 (h.ev y);have hkes:=CJ g9 c2;obtain⟨fr,f1,f2⟩:=yN (w:=w) hky es.toList hkes
    have hno:∀e∈es.toList,e.key≠a.eval y:=fun e he hh=>by
     obtain⟨i,k,v,q1,q2,q3,_⟩:=g9.2.1 e he;have hk:=List.all_eq_true.1 c3 k (Nq q1);simp only[beq_iff_eq]at hk;have:=(Bx hk (h.ev y) q3 hky (hkes e he)).2 hh.symm
     simp[den]at this
    have hfr:fr=none:=by
     rcases f2 with⟨f2,_⟩|⟨i,e,he,f3,_⟩
     ·exact f2
     ·exact absurd f3 (hno e he)
    subst hfr;obtain⟨W,hW⟩:∃W,W={ w with heap:=w.heap.setIfInBounds r (.map (es.push { key:=a.eval y,val:=a.eval z,born:=clock }) (clock+1)) }:=⟨_,rfl⟩
    have hlt:=dt g4;have hrun:(Instr.mapUpdate t (a.eval x) (a.eval y) (a.eval z)).run P w=.ok () W:=by
     rw[g2,hW];simp only[Instr.mapUpdate,run_underlying ht,Sem.run_bind,Result.andThen_ok,run_getObj_map w r es clock g4,gS hky,f1,fj _ g4]
    have hR:bL P o a w undef W:=.inr ⟨rfl,by
     rcases ho with ho|ho<;>simp only[execOp,ho,Sem.run_bind,hrun,Result.andThen_ok,Sem.run_pure]⟩
    have hw:∀k,ai (κ b)≠some k->W.heap[k]?=w.heap[k]?:=fun k hk=>by
     rw[hW];have:r≠k:=fun e=>hk (by rw[g1,e];rfl)
     simp[this]
    have hsz:W.heap.size=w.heap.size:=by rw[hW];simp
    have hF2:∀k,F k->W.heap[k]?=w.heap[k]?:=fun k hF=>hw k (fun e=>h.nF b k (by rw[hb];rfl) e hF)
    have kp:∀ {x u},SVden env κ F w x u->SVden env κ F W x u:=fun hd=>hd.keep (fun _ _=>rfl) (fun _ h=>h) hF2
    refine⟨undef,W,κ,F,hR,?_,trivial,h.stored_kept hb rfl rfl hw hsz⟩
    refine(h.stored (y:=.map (.of (ks.list++[ag tmp y])) (.of (vs.list++[ag tmp z]))) hb rfl hw hsz ?_ (fun c hc=>?_) ?_).monoU (fun b hb=>.inl hb)
    ·refine⟨r,es.push { key:=a.eval y,val:=a.eval z,born:=clock },clock+1,g1,by rw[hW];simp[hlt],g5,bA _,bA _,by simp[Eh,list_len,c6],?_⟩
     have hl:ks.list.length=vs.list.length:=by rw[list_len,list_len,c6]
     obtain⟨m1,m2,m3⟩:=g9;refine⟨fun i k v hk hv=>?_,fun e he=>?_,fun e he e' he' hee=>?_⟩
     ·rw[da]at hk hv
      by_cases hi:i<ks.list.length
      ·rw[Nb hi]at hk
       rw[Nb (by omega)]at hv
       obtain⟨e,he,d1,d2⟩:=m1 i k v hk hv;exact⟨e,by simp at he⊢;exact .inl he,kp d1,kp d2⟩
      ·rw[Na (by omega)]at hk
       rw[Na (by omega)]at hv
       have h0:i-ks.list.length=0:=by
        have:=(List.getElem?_eq_some_iff.1 hk).1;simp at this;omega
       rw[h0]at hk;rw[<-hl,h0]at hv;simp at hk hv
       subst hk;subst hv;exact⟨_,by simp;exact .inr rfl,kp (h.ev y),kp (h.ev z)⟩
     ·simp at he
      rcases he with he|rfl
      ·obtain⟨i,k,v,q1,q2,d1,d2⟩:=m2 e (by simpa using he)
       refine⟨i,k,v,?_,?_,kp d1,kp d2⟩
       ·rw[da,Nb (List.getElem?_eq_some_iff.1 q1).1];exact q1
       ·rw[da,Nb (List.getElem?_eq_some_iff.1 q2).1];exact q2
      ·refine⟨ks.list.length,ag tmp y,ag tmp z,?_,?_,kp (h.ev y),kp (h.ev z)⟩
       ·rw[da,Na (Nv _)];simp
       ·rw[da,Na (by omega),hl];simp
     ·simp at he he'
      rcases he with he|rfl<;>rcases he' with he'|rfl
      ·exact m3 e (by simpa using he) e' (by simpa using he') hee
      ·exact absurd hee (hno e (by simpa using he))
      ·exact absurd hee.symm (hno e' (by simpa using he'))
      ·rfl
    ·have hks:∀c∈ks.names++vs.names,U c:=(h.bnames b _ hb).2
     simp only[SB.names,List.mem_append]at hc;rcases hc with hc|hc
     ·obtain⟨z',hz,hc⟩:=(eH _ c).1 hc
      rcases List.mem_append.1 hz with hz|hz
      ·exact hks c (Nd _ (bW ks z' hz c hc))
      ·simp at hz;subst hz;exact h.evNames y c hc
     ·obtain⟨z',hz,hc⟩:=(eH _ c).1 hc
      rcases List.mem_append.1 hz with hz|hz
      ·exact hks c (Ng _ (bW vs z' hz c hc))
      ·simp at hz;subst hz;exact h.evNames z c hc
    ·refine h.below.trans ⟨by rw[hW],by rw[hW],by rw[hW],by omega,fun k hk=>hw k (fun e=>?_)⟩
     rw[g1]at e;have e:r=k:=by simpa[ai]using e
     omega
   ·cases hc
  ·cases hc
 ·cases hc
theorem G9{tr:E->Option Bool}{kt:Nat}{z ix:SV}{ok:Bool}(htr:∀e b,tr e=some b->(den env e).b=b):∀(ks vs:List SV) (needs:List E) (v:SV) (wr:List (Nat×Option SB)),jD P tr kt z ix ok ks vs=.ok needs v wr →
  wr=[]/\((∃(i:Nat) (k x:SV) (e:E),ks[i]?=some k/\vs[i]?=some x/\qC P 12 kt ix k=some e/\(den env e).b=true/\v=if ok then .tup (.cons x (.cons (.vb (.bool true)) .nil))else x) ∨
   ((∀(i:Nat) k,ks[i]?=some k->∃e,qC P 12 kt ix k=some e/\(den env e).b=false)/\v=if ok then .tup (.cons z (.cons (.vb (.bool false)) .nil))else z)):=by
 intro ks;induction ks with
 |nil=>
  intro vs needs v wr h;cases vs with
  |nil=>simp only[jD]at h;cases h;exact⟨rfl,.inr ⟨fun i k hk=>by simp at hk,rfl⟩⟩
  |cons x vs=>simp only[jD]at h;cases h
 | cons k ks ih=>
  intro vs needs v wr h;cases vs with
  |nil=>simp only[jD]at h;cases h
  | cons x vs=>
   simp only[jD]at h;split at h
   ·cases h
   ·rename_i e he
    split at h
    ·rename_i ht
     cases h
     exact⟨rfl,.inl ⟨0,k,x,e,rfl,rfl,he,htr _ _ ht,rfl⟩⟩
    ·rename_i ht
     obtain⟨h0,h1⟩:=ih vs needs v wr h;refine⟨h0,?_⟩
     rcases h1 with⟨i,k',x',e',q1,q2,q3⟩|⟨q1,q2⟩
     ·exact .inl ⟨i+1,k',x',e',by simpa using q1,by simpa using q2,q3⟩
     ·refine .inr ⟨fun i k' hk=>?_,q2⟩
      cases i with
      |zero=>simp at hk;subst hk;exact⟨e,he,htr _ _ ht⟩
      |succ i=>exact q1 i k' (by simpa using hk)
    ·cases h
theorem H8{o:Oper}{tr:E->Option Bool}{t:Nat}{x y:Operand}{ok:Bool}(htr:∀e b,tr e=some b->(den env e).b=b)(ho:o.op=.lookup t x y ok)(h:Rel w0 env κ F U tmp blk L a w){needs:List E}{v:SV}{wr:List (Nat×Option SB)}
  (hc:lH P tr blk t (ag tmp x) (ag tmp y) ok=.ok needs v wr):aB P w0 env κ F U tmp blk L a w o v wr:=by
 unfold lH at hc;split at hc
 ·rename_i b kt et hx ht
  split at hc
  ·rename_i rt l z hb hz
   split at hc
   ·rename_i hzz
    exact JV ho h hx ht hb hz hzz hc
   ·cases hc
  ·rename_i ks vs z hb hz
   split at hc
   ·rename_i hh
    rw[N2]at hh;obtain⟨c1,c2⟩:=hh;obtain⟨hwr,hres⟩:=G9 htr _ _ _ _ _ hc;subst hwr;have hex:=h.ev x;rw[hx]at hex;obtain⟨r,g1,g2⟩:=hex;obtain⟨r',es,clock,g3,g4,g5,g6,g7,g8,g9⟩:=h.blks b _ hb;rw[g1]at g3;cases g3
    have hky:=ni c1 (h.ev y);have hkes:=CJ g9 c2;obtain⟨fr,f1,f2⟩:=yN (w:=w) hky es.toList hkes
    unfold bM at hz;obtain⟨zv,hz1,rfl⟩:=Option.map_eq_some_iff.1 hz;obtain⟨i,hi,hz2⟩:=Option.bind_eq_some_iff.1 hz1;have hzero:(zeroValue et).run P w=.ok zv w:=by simp[zeroValue,typeInfo,hi,hz2]
    have key:∃u q,(Instr.lookup t (a.eval x) (a.eval y) ok).run P w=.ok (if ok then .tuple #[u,.bool q]else u) w/\∃s:SV,SVden env κ F w s u/\v=if ok then .tup (.cons s (.cons (.vb (.bool q)) .nil))else s:=by
     rcases hres with⟨i,k,s,e,q1,q2,q3,q4,q5⟩|⟨q1,q2⟩
     ·obtain⟨en,he,d1,d2⟩:=g9.1 i k s q1 q2
      have hkey:=(Bx q3 (h.ev y) d1 hky (hkes en he)).1 q4;rcases f2 with⟨_,f3⟩|⟨i',en',he',f3,rfl⟩
      ·exact absurd hkey.symm (f3 en he)
      ·have hval:en'.val=en.val:=g9.2.2 en' he' en he (by rw[f3,hkey])
       refine⟨en'.val,true,?_,s,by rw[hval];exact d2,q5⟩
       rw[g2];simp only[Instr.lookup,run_underlying ht,Sem.run_bind,Result.andThen_ok,run_getObj_map w r es clock g4,gS hky,f1,Sem.run_pure]
     ·have hfr:fr=none:=by
       rcases f2 with⟨f2,_⟩|⟨i',en,he,f3,_⟩
       ·exact f2
       ·exfalso
        obtain⟨j,k,s,p1,p2,p3,_⟩:=g9.2.1 en he;obtain⟨e,e1,e2⟩:=q1 j k p1;have:=(Bx e1 (h.ev y) p3 hky (hkes en he)).2 f3.symm
        rw[e2]at this;cases this
      subst hfr;refine⟨zv,false,?_,bX zv,cT zv,q2⟩
      rw[g2];simp only[Instr.lookup,run_underlying ht,Sem.run_bind,Result.andThen_ok,run_getObj_map w r es clock g4,gS hky,f1,hzero,Sem.run_pure]
    obtain⟨u,q,hrun,s,hs,rfl⟩:=key;refine aj h (u:=if ok then .tuple #[u,.bool q]else u) (.inl ?_) ?_
    ·simp only[execOp,ho,Sem.run_bind,hrun,Result.andThen_ok,Sem.run_pure]
    ·cases ok with
     |true=>exact⟨#[u,.bool q],rfl,rfl,u,[.bool q],rfl,hs,.bool q,[],rfl,⟨rfl,rfl⟩,rfl⟩
     |false=>exact hs
   ·cases hc
  ·cases hc
 ·cases hc
theorem IK(d:Nat){t:Nat}{ms:Array (String×TypeId)}(hu:P.underlying t=some (.interface ms))(hms:ms.isEmpty=true):(Op.eqGuardIn (d+1) t .nilIface .nilIface).run P w=.ok false w:=by
 simp only[Op.eqGuardIn,Sem.run_bind,run_underlying hu,Result.andThen_ok,hms,Sem.run_pure,OC]
theorem yw(d:Nat){t:Nat}{ms:Array (String×TypeId)}(hu:P.underlying t=some (.interface ms)):
  (Op.equalIn (d+1) t .nilIface .nilIface).run P w=.ok true w/\(∀u v,(Op.equalIn (d+1) t .nilIface (.iface u v)).run P w=.ok false w)/\∀u v,(Op.equalIn (d+1) t (.iface u v) .nilIface).run P w=.ok false w:=by
 refine⟨?_,fun u v=>?_,fun u v=>?_⟩<;>simp only[Op.equalIn,Sem.run_bind,run_underlying hu,Result.andThen_ok,Sem.run_pure]
theorem yW(d:Nat){t:Nat}{q1 q2:Array TypeId}{q3:Bool}(hu:P.underlying t=some (.func q1 q2 q3)):
  (Op.equalIn (d+1) t .nilFunc .nilFunc).run P w=.ok true w/\(∀f u v,(Op.equalIn (d+1) t .nilFunc (.func f u v)).run P w=.ok false w)/\∀f u v,(Op.equalIn (d+1) t (.func f u v) .nilFunc).run P w=.ok false w:=by
 refine⟨?_,fun f u v=>?_,fun f u v=>?_⟩<;>simp only[Op.equalIn,Sem.run_bind,run_underlying hu,Result.andThen_ok,Sem.run_pure]
theorem nq{op:BinOp}{t:Nat}{x y:Operand}{u v:Value}{r:Bool}(hg:(eqGuard op t x y u v).run P w=.ok () w)(he:(Op.equal t u v).run P w=.ok r w)
  (hu:(∃b,u=.nilIface/\b=())\/(∃a b,u=.iface a b)\/u=.nilFunc\/∃a b c,u=.func a b c):
  (eqGuard op t x y u v).run P w=.ok () w/\(binOp .eql t u v).run P w=.ok (.bool r) w/\(binOp .neq t u v).run P w=.ok (.bool (!r)) w:=by
 refine⟨hg,?_,?_⟩<;>rcases hu with⟨b,rfl,_⟩|⟨a,b,rfl⟩|rfl|⟨a,b,c,rfl⟩<;>(simp only[binOp];simp[he])
theorem yA(c:Bool)(k:Sem Unit)(h:k.run P w=.ok () w):(if c=true then pure ()else k).run P w=.ok () w:=by
 cases c<;>simp[h]
theorem iS{op:BinOp}{t:Nat}{x y:Operand}{u v:Value}(h:u≠.nilIface\/v≠.nilIface)(h2:∀a b,¬(u=.agg a/\v=.agg b)):(eqGuard op t x y u v).run P w=.ok () w:=by
 unfold eqGuard;refine yA _ _ ?_
 split
 ·rcases h with h|h<;>exact absurd rfl h
 ·exact absurd ⟨rfl,rfl⟩ (h2 _ _)
 ·rfl
theorem Ks{o:Oper}{op:BinOp}{t ty:TypeId}{x y:Operand}(ho:o.op=.binOp op t x y ty)(h:Rel w0 env κ F U tmp blk L a w){needs:List E}{v:SV}{wr:List (Nat×Option SB)}
  {p q:SV} (hx:ag tmp x=p) (hy:ag tmp y=q) {r:Bool} (hr:HH P t p q=some r) (hc:tw op r=.ok needs v wr):aB P w0 env κ F U tmp blk L a w o v wr:=by
 have hex:=h.ev x;have hey:=h.ev y;rw[hx]at hex;rw[hy]at hey;have hI:∀b,ifT P t b=true->∃ms,P.underlying t=some (.interface ms)/\(b=true->ms.isEmpty=true):=fun b hi=>by
  unfold ifT at hi;split at hi
  ·rename_i ms hu
   exact⟨ms,hu,fun e=>by subst e;simpa using hi⟩
  ·cases hi
 have hF:fnT P t=true->∃q1 q2 q3,P.underlying t=some (.func q1 q2 q3):=fun hi=>by
  unfold fnT at hi;split at hi
  ·rename_i q1 q2 q3 hu
   exact⟨q1,q2,q3,hu⟩
  ·cases hi
 have E:(eqGuard op t x y (a.eval x) (a.eval y)).run P w=.ok () w/\(binOp .eql t (a.eval x) (a.eval y)).run P w=.ok (.bool r) w/\(binOp .neq t (a.eval x) (a.eval y)).run P w=.ok (.bool (!r)) w:=by
  unfold HH at hr;split at hr
  ·split at hr<;>cases hr
   rename_i hi
   obtain⟨ms,hu,hms⟩:=hI _ hi;rw[show a.eval x=.nilIface from hex,show a.eval y=.nilIface from hey]
   refine nq ?_ (yw 9999 hu).1 (.inl ⟨(),rfl,rfl⟩)
   have e1:(Op.eqGuardIn Op.maxDepth t .nilIface .nilIface).run P w=.ok false w:=IK 9999 hu (hms rfl)
   unfold eqGuard;refine yA _ _ ?_
   dsimp only;refine yA _ _ ?_
   rw[Sem.run_bind,e1];rfl
  ·split at hr<;>cases hr
   rename_i hi
   obtain⟨ms,hu,_⟩:=hI _ hi;obtain⟨v',hey,_⟩:=hey;rw[show a.eval x=.nilIface from hex,hey]
   exact nq (iS (.inr (by simp)) (by simp)) ((yw 9999 hu).2.1 _ _) (.inl ⟨(),rfl,rfl⟩)
  ·split at hr<;>cases hr
   rename_i hi
   obtain⟨ms,hu,_⟩:=hI _ hi;obtain⟨v',hex,_⟩:=hex;rw[show a.eval y=.nilIface from hey,hex]
   exact nq (iS (.inl (by simp)) (by simp)) ((yw 9999 hu).2.2 _ _) (.inr (.inl ⟨_,_,rfl⟩))
  ·split at hr<;>cases hr
   rename_i hi
   obtain⟨q1,q2,q3,hu⟩:=hF hi;rw[show a.eval x=.nilFunc from hex,show a.eval y=.nilFunc from hey]
   exact nq (iS (.inl (by simp)) (by simp)) (yW 9999 hu).1 (.inr (.inr (.inl rfl)))
  ·split at hr<;>cases hr
   rename_i hi
   obtain⟨q1,q2,q3,hu⟩:=hF hi;obtain⟨ds,cs,hey,_⟩:=hey;rw[show a.eval x=.nilFunc from hex,hey]
   exact nq (iS (.inl (by simp)) (by simp)) ((yW 9999 hu).2.1 _ _ _) (.inr (.inr (.inl rfl)))
  ·split at hr<;>cases hr
   rename_i hi
   obtain⟨q1,q2,q3,hu⟩:=hF hi;obtain⟨ds,cs,hex,_⟩:=hex;rw[show a.eval y=.nilFunc from hey,hex]
   exact nq (iS (.inl (by simp)) (by simp)) ((yW 9999 hu).2.2 _ _ _) (.inr (.inr (.inr ⟨_,_,_,rfl⟩)))
  ·cases hr
 unfold tw at hc;split at hc
 ·cases hc
  exact aj h (u:=.bool r) (.inl (by simp only[execOp,ho,Sem.run_bind,E.1,Result.andThen_ok,E.2.1,Sem.run_pure])) ⟨rfl,rfl⟩
 ·cases hc
  exact aj h (u:=.bool (!r)) (.inl (by simp only[execOp,ho,Sem.run_bind,E.1,Result.andThen_ok,E.2.2,Sem.run_pure])) ⟨rfl,rfl⟩
 ·cases hc
theorem JB{o:Oper}{x:Operand}{u t:TypeId}{ok:Bool}(ho:o.op=.typeAssert x u t ok)(h:Rel w0 env κ F U tmp blk L a w){needs:List E}{v:SV}{wr:List (Nat×Option SB)}
  (hc:om P t ok (ag tmp x)=.ok needs v wr):aB P w0 env κ F U tmp blk L a w o v wr:=by
 have hex:=h.ev x;unfold om at hc;split at hc
 ·cases hc
 ·cases hc
 rename_i d hni hd
 have hz0:∀z,bM P t=some z->∃zv,(zeroValue t).run P w=.ok zv w/\z=bX zv:=fun z hz=>by
  unfold bM at hz;obtain⟨zv,hz1,rfl⟩:=Option.map_eq_some_iff.1 hz;obtain⟨i,hi,hz2⟩:=Option.bind_eq_some_iff.1 hz1;exact⟨zv,by simp[zeroValue,typeInfo,hi,hz2],rfl⟩
 have G:∀z q,SVden env κ F w z q->∀b,(Instr.typeAssert (a.eval x) u t true).run P w=.ok (.tuple #[q,.bool b]) w->ok=true->aB P w0 env κ F U tmp blk L a w o (.tup (.cons z (.cons (.vb (.bool b)) .nil))) []:=fun z q hzq b hrun hok=>by
  subst hok;refine aj h (u:=.tuple #[q,.bool b]) (.inl ?_) ⟨#[q,.bool b],rfl,rfl,q,[.bool b],rfl,hzq,.bool b,[],rfl,⟨rfl,rfl⟩,rfl⟩
  simp only[execOp,ho,Sem.run_bind,hrun,Result.andThen_ok,Sem.run_pure]
 split at hc
 ·rename_i z hx hz
  rw[hx]at hex;split at hc
  ·rename_i hok
   cases hc
   obtain⟨zv,hz1,rfl⟩:=hz0 _ hz;refine G _ zv (cT zv) false ?_ hok
   rw[show a.eval x=_ from hex]
   cases d<;>first|exact absurd rfl (hni _)|simp only[Instr.typeAssert,Sem.run_bind,run_underlying hd,Result.andThen_ok,hz1,Sem.run_pure,if_true]
  ·cases hc
 ·rename_i u' y z hx hz
  rw[hx]at hex;obtain⟨q,hq,hden⟩:=hex;split at hc
  ·rename_i hut
   subst hut;cases ok with
   |true=>
    cases hc
    refine G _ q hden true ?_ rfl
    rw[hq];cases d<;>first|exact absurd rfl (hni _)|simp only[Instr.typeAssert,Sem.run_bind,run_underlying hd,Result.andThen_ok,Sem.run_pure,if_true]
   |false=>
    cases hc
    refine aj h (u:=q) (.inl ?_) hden
    simp only[execOp,ho,hq];cases d<;>first|exact absurd rfl (hni _)|simp[Instr.typeAssert,Sem.run_bind,run_underlying hd,Result.andThen_ok,Sem.run_pure]
  ·rename_i hut
   split at hc
   ·rename_i hok
    cases hc
    obtain⟨zv,hz1,rfl⟩:=hz0 _ hz;refine G _ zv (cT zv) false ?_ hok
    rw[hq];cases d<;>first|exact absurd rfl (hni _)|simp only[Instr.typeAssert,Sem.run_bind,run_underlying hd,Result.andThen_ok,if_neg hut,hz1,Sem.run_pure,if_true]
   ·cases hc
 ·cases hc
theorem CO{o:Oper}{t ety:Nat}{row:Ty}{x lo:Operand}(ho:o.op=.slice t x (some lo) none none)(h:Rel w0 env κ F U tmp blk L a w)(ht:aZ P t=some (ety,row)){d:Nat}(hx:ag tmp x=.row d){l i:E}(hd:blk d=some (.row ety row l))
  (hl:cV (ag tmp) (some lo) (.int 0)=some i) (hn:∀e∈aG (.cmp' .le (.int 0) i)++aG (.cmp' .lt i l.len'),(den env e).b=true):aB P w0 env κ F U tmp blk L a w o (.rtail d row i) []:=by
 obtain⟨u1,u2,u3,_,u5,_⟩:=bn ht;have hev:=h.ev x;rw[hx]at hev;have n1:=aK (aA fun e he=>hn e (Nd _ he))
 have n2:=aK (aA fun e he=>hn e (Ng _ he))
 have n1:0<=(den env i).i:=of_decide_eq_true n1
 have n2:(den env i).i<(den env l.len').i:=of_decide_eq_true n2
 rw[aY]at n2;simp only[AV.i_int]at n2;obtain⟨us,hown,hpos,hrow⟩:=h.blks d _ hd;obtain⟨lv,hlv⟩:∃k:Nat,(k:Int)=(den env i).i:=⟨(den env i).i.toNat,by omega⟩
 have hlt:lv<(den env l).l.length:=by omega
 have hsz:=bB (w:=w) u5;rcases hown.2 with⟨e,e'⟩|⟨g,cap,cur,e,_,_,hnc,_⟩
 ·omega
 have hb:=px (P:=P) (w:=w) h hl (hi:=none) (d1:=l.len') (q:=l.len') rfl (n:=(den env l).l.length) (c:=cap) (by intro _;rw[aY];rfl) (by intro e2;rw[e2];rfl) hlv (qv:=(den env l).l.length) (by rw[aY];rfl) (by omega) (by omega)
 have hne:¬cap=lv:=by omega
 have hrun:(Instr.sliceAt t (a.eval x) (some (a.eval lo)) none none).run P w=.ok (.slice (some ((⟨g,0,none⟩:Addr).add (lv*row.len))) ((den env l).l.length-lv) (cap-lv)) w:=by
  rw[hev.1,e];simp only[Nt,ND]at hb;simp only[Instr.sliceAt,run_underlying u1,Sem.run_bind,Result.andThen_ok,Instr.slice,hb,hsz,Sem.run_pure,u2,if_neg hne,Nt]
 refine aj h (u:=.slice (some ((⟨g,0,none⟩:Addr).add (lv*row.len))) ((den env l).l.length-lv) (cap-lv)) (.inl ?_) ⟨g,(den env l).l.length,cap,e,n1,n2,?_⟩
 ·simp only[execOp,ho,ND,Nt,Sem.run_bind,hrun,Result.andThen_ok,Sem.run_pure]
 ·rw[<-hlv];rfl
theorem Kb{o:Oper}{s:Operand}{t ety d:Nat}{row:Ty}{l i:E}(ho:o.op=.call { callee:=.builtin .clear,args:=#[s],argTypes:=#[t] })(h:Rel w0 env κ F U tmp blk L a w)(ht:aZ P t=some (ety,row))(hs:ag tmp s=.rtail d row i)(hd:blk d=some (.row ety row l))
  {z:SV} (hz:bM P ety=some z) (hw:z.whole=true) (hzl:z.cells.len=row.len) {r:E} (hr:kL z.cells row=some r):
  aB P w0 env κ F U tmp blk L a w o (.tup .nil) [(d,some (.row ety row (.app (.take l i) (.rep (.ii' .sub l.len' i) r))))]:=by
 obtain⟨u1,u2,u3,⟨ti,hti⟩,u5,u6,u7,u8⟩:=bn ht;obtain⟨zv,hz1,rfl⟩:=rM hti hz;obtain⟨d1,d2⟩:=fa hw (cT (env:=env) (κ:=κ) (F:=F) (w:=w) zv)
 obtain⟨t1,t2⟩:=bc d2 d1;have hzs:zv.cells.size=row.len:=by rw[t1,hzl]
 obtain⟨q1,q2,q3,q4⟩:=wY hr d1;have hes:=h.ev s;rw[hs]at hes;obtain⟨g,n,c,e1,e2,e3,e4⟩:=hes;obtain⟨us,hown,hpos,hrow⟩:=h.blks d _ hd;rcases hown.2 with⟨e,e'⟩|⟨g',cap,cur,e,hb1,hb2,hnc,hcm,hcs,hcur⟩
 ·rw[e1]at e;cases e
 rw[e1]at e;injection e with x1 x2 x3
 injection x1 with x1
 injection x1 with x1
 subst x1;subst x3;obtain⟨iv,hiv⟩:∃k:Nat,(k:Int)=(den env i).i:=⟨(den env i).i.toNat,by omega⟩
 have hivt:(den env i).i.toNat=iv:=by omega
 have hlt:iv<n:=by omega
 rw[hivt]at e4;obtain⟨Z,hZ⟩:∃Z:List Value,Z=(Nf (n-iv) zv.cells.toList).flatten:=⟨_,rfl⟩
 have hZl:Z.length=(n-iv)*row.len:=by rw[hZ];simp[hzs]
 have hmul:iv*row.len+(n-iv)*row.len=n*row.len:=by rw[<-NC];congr 1;omega
 have hul:us.length=n*row.len:=by rw[hown.1,x2]
 have hzero:(zeroValue ety).run P w=.ok zv w:=by simp[zeroValue,typeInfo,hti,hz1]
 have haddr:(⟨g,0,none⟩:Addr).add (iv*row.len)=⟨g,iv*row.len,none⟩:=by unfold Addr.add;split<;>simp_all
 have hcap:n*row.len<=c*row.len:=Nx _ (by omega)
 have hone:∀v∈Z,v.oneCell'=true:=fun v hv=>by
  rw[hZ]at hv;obtain⟨l',hl',hv⟩:=List.mem_flatten.1 hv;rw[(Nr hl')]at hv;rw[<-lI];exact q4 v (by simpa using hv)
 have hst:=run_storeCells_at (P:=P) g (iv*row.len) ety Z 0 cur w hb2 (by rw[hZl];omega) hone
 simp only[NH]at hst;have hzc:(Builtin.zeroCells zv.cells (n-iv)).toList=Z:=by
  rw[hZ,<-pG hzs u3];unfold Builtin.zeroCells;rw[hzs]
 have hrun:(Builtin.clear_ #[t] o.type #[a.eval s]).run P w=.ok (.tuple #[]) (w.setRow g (cur.toList.take (iv*row.len)++Z++cur.toList.drop (iv*row.len+Z.length)).toArray):=by
  rw[e4,haddr];obtain⟨m,hm⟩:∃m,n-iv=m+1:=⟨n-iv-1,by omega⟩
  rw[hm]at hzc⊢
  simp[Builtin.clear_,run_underlying u1,hzero,hzc,hst]
 have hRun:bL P o a w (.tuple #[]) (w.setRow g (cur.toList.take (iv*row.len)++Z++cur.toList.drop (iv*row.len+Z.length)).toArray):=.inl (by
  unfold execOp;simp only[ho,resolve,invoke,builtin,Sem.run_bind,Sem.run_pure,Result.andThen_ok,Nz,NF,NJ,hrun])
 have hL:(den env (.app (.take l i) (.rep (.ii' .sub l.len' i) r))).l=(den env l).l.take iv++Nf (n-iv) (den env r).g:=by
  have hs:(den env (.ii' .sub l.len' i)).i.toNat=n-iv:=by
   rw[bQ,aY];simp only[AV.i_int,IOp.f];omega
  simp only[den,AV.l_sl,hs,hivt]
 have hLl:(den env (.app (.take l i) (.rep (.ii' .sub l.len' i) r))).l.length=n:=by rw[hL];simp;omega
 have hrl:∀r':List AV,r'.map AV.ty=row.list->r'.length=row.len:=fun r' h=>by
  have:=congrArg N8 h
  rw[NL,Ty.list_len]at this;exact this
 have htl:(us.take (iv*row.len)).length=iv*row.len:=by rw[NA,hul];omega
 have key:∀(N j k:Nat),j<N->k<row.len->((Nf N zv.cells.toList).flatten)[j*row.len+k]?=zv.cells[k]?:=by
  intro N;induction N with
  |zero=>intro j k hj;omega
  | succ N ih=>
   intro j k hj hk;rw[NR,NX];cases j with
   |zero=>rw[Ol,N5,Nb (by simp[hzs];exact hk)];simp
   |succ j=>
    rw[Na (by simp only[Ns,hzs,NI];omega)]
    rw[<-ih j k (by omega) hk]
    congr 1
    simp only[Ns,hzs,NI];omega
 have hrows:RowsDen F w (us.take (iv*row.len)++Z) row (den env (.app (.take l i) (.rep (.ii' .sub l.len' i) r))).l:=by
  have hLt:((den env l).l.take iv).length=iv:=by rw[NA];omega
  refine⟨fun j r' hr'=>?_,fun j r' k x hr' hx=>?_⟩
  ·rw[hL]at hr'
   by_cases hj:j<iv
   ·rw[Nb (by omega),Nc,if_pos hj]at hr'
    exact hrow.1 j r' hr'
   ·rw[Na (by omega)]at hr'
    rw[Nr (Nq hr')];exact q1
  ·rw[hL]at hr'
   by_cases hj:j<iv
   ·rw[Nb (by omega),Nc,if_pos hj]at hr'
    have hk:k<row.len:=by rw[<-hrl r' (hrow.1 j r' hr')];exact(List.getElem?_eq_some_iff.1 hx).1
    obtain⟨u,hu,hdn⟩:=hrow.2 j r' k x hr' hx;have hm:(j+1)*row.len<=iv*row.len:=Nx _ hj
    rw[NI]at hm;refine⟨u,?_,hdn⟩
    rw[Nb (by omega),Nc,if_pos (by omega)];exact hu
   ·rw[Na (by omega)]at hr'
    have hjl:=(List.getElem?_eq_some_iff.1 hr').1;rw[hLt,NN]at hjl;rw[Nr (Nq hr')]at hx;obtain⟨u,hu,hdn⟩:=q3 k x hx;have hk:k<row.len:=by rw[<-q2];exact(Array.getElem?_eq_some_iff.1 hu).1
    refine⟨u,?_,hdn⟩
    obtain⟨q,rfl⟩:∃q,j=iv+q:=⟨j-iv,by omega⟩
    rw[NC,Na (by omega),htl,hZ]
    have:iv*row.len+q*row.len+k-iv*row.len=q*row.len+k:=by omega
    rw[this,key (n-iv) q k (by omega) hk];exact hu
 have hw':∀k,k≠g->∀cs',(w.setRow g cs').heap[k]?=w.heap[k]?:=fun k hk cs'=>setRow_other w g k cs' hk
 have hF:∀k,F k->k≠g:=fun k hk e=>h.nF d g (by rw[hd];rfl) (by rw[e1];rfl) (e▸hk)
 refine⟨_,_,κ,F,hRun,?_,⟨#[],rfl,rfl,rfl⟩,h.stored_kept hd rfl rfl (fun k hk=>hw' k (fun e2=>hk (by rw[e1,e2];rfl)) _) (by simp)⟩
 refine(h.stored (y:=.row ety row (.app (.take l i) (.rep (.ii' .sub l.len' i) r))) hd rfl (fun k hk=>hw' k (fun e2=>hk (by rw[e1,e2];rfl)) _) (by simp) ⟨us.take (iv*row.len)++Z,?_,hpos,hrows.keep (fun _ h=>h) (fun k hk=>hw' k (hF k hk) _)⟩ (fun c hc=>by cases hc) (gF h.below hb1)).monoU (fun b hb=>.inl hb)
 rw[hLl,e1];refine⟨by rw[Nk,htl,hZl,hmul],.inr ⟨g,c,_,rfl,hb1,setRow_heap w g cur _ ety (0,0) hb2,by omega,hcm,?_,?_⟩⟩
 ·simp only[NG,Nk,NA,NK,Ns,hZl];omega
 ·have hus:us.take (iv*row.len)=cur.toList.take (iv*row.len):=by
   rw[<-hcur,Oz];congr 1;rw[<-x2];omega
  rw[hus];have:(cur.toList.take (iv*row.len)++Z).length=n*row.len:=by
   rw[Nk,<-hus,htl,hZl,hmul]
  exact List.take_left' this
theorem Eu{o:Oper}{t m:Nat}{x:SV}(ho:o.op=.alloc t)(h:Rel w0 env κ F U tmp blk L a w)(hm:¬U m)(hz:bM P t=some x)(h1:x.cells.list.all isZ=true)(h2:0<x.cells.len)(h3:x.cells.len<=16777216)(h4:x.whole=true):
  aB P w0 env κ F U tmp blk L a w o (.rptr m (.cons .int .nil) (.int 0) 0) [(m,some (.row t (.cons .int .nil) (.rep (.int x.cells.len) (.rcons (.int 0) .rnil))))]:=by
 unfold bM at hz;obtain⟨z,hz1,rfl⟩:=Option.map_eq_some_iff.1 hz;obtain⟨i,hi,hz2⟩:=Option.bind_eq_some_iff.1 hz1;obtain⟨d1,d2⟩:=fa h4 (cT (env:=env) (κ:=κ) (F:=F) (w:=w) z)
 obtain⟨t1,t2⟩:=bc d2 d1;obtain⟨N,hN⟩:∃N,N=(bX z).cells.len:=⟨_,rfl⟩
 rw[<-hN]at t1 h2 h3⊢
 have hus:∀q u,z.cells.toList[q]?=some u->u=Value.int .i64 0:=fun q u hu=>by
  have hq:q<(bX z).cells.list.length:=by
   rw[list_len,<-hN,<-t1];have:=(List.getElem?_eq_some_iff.1 hu).1
   simpa using this
  obtain⟨v,hv1,hv2⟩:=t2 q _ (M9 hq);rw[D1 (List.all_eq_true.1 h1 _ (List.getElem_mem hq))]at hv2;rw[Nn,hv1]at hu;cases hu
  exact hv2.1
 have hL:(den env (.rep (.int (N:Int)) (.rcons (.int 0) .rnil))).l=Nf N [.int 0]:=by
  show Nf ((N:Int)).toNat [AV.int 0]=_
  rw[Nw]
 refine⟨.pointer (some ⟨w.heap.size,0,none⟩),w.alloc (.cells z.cells t),upd κ m (.slice (some ⟨w.heap.size,0,none⟩) N N),F,.inl ?_,?_,⟨w.heap.size,0,N,N,ak ..,?_,?_,?_⟩,h.new_kept hm rfl⟩
 ·simp[execOp,ho,Instr.alloc,zeroValue,typeInfo,hi,hz2,newVar,newRow]
 ·refine(h.new hm rfl (x:=.row t (.cons .int .nil) (.rep (.int (N:Int)) (.rcons (.int 0) .rnil))) ⟨z.cells.toList,?_,by decide,?_,?_⟩ (fun c hc=>by cases hc)).monoU (fun b hb=>?_)
  ·rw[ak,hL,NN]
   exact World.ownsRow_lit (base:=w0.heap.size) (e:=t) (size:=1) w z.cells N h.below.size (by unfold maxLen;omega) (by rw[t1,Nl])
  ·intro j r hr
   rw[hL]at hr;rw[Nr (Nq hr)];rfl
  ·intro j r k x hr hx
   rw[hL]at hr;have hj:=(List.getElem?_eq_some_iff.1 hr).1;rw[NN]at hj;rw[Nr (Nq hr)]at hx;have hk:k=0:=by
    have:=(List.getElem?_eq_some_iff.1 hx).1
    simp at this;exact this
   subst hk;have hx':x=.int 0:=by simpa using hx.symm
   subst hx';have hjs:j*(Ty.cons .int .nil).len+0<z.cells.toList.length:=by
    show j*1+0<_
    simp[t1];omega
   refine⟨_,M9 hjs,?_⟩
   rw[hus _ _ (M9 hjs)];exact .int 0
  ·rcases hb with hb|rfl
   ·exact .inl hb
   ·exact .inr ⟨_,List.mem_singleton.2 rfl,rfl⟩
 ·exact Int.le_refl _
 ·show(0:Int)<(N:Int)
  omega
 ·show Value.pointer (some _)=.pointer (some _)
  rw[du];rfl
theorem Lo(j i:E)(m:Nat):(den env (uc j i m)).i=(den env j).i+(den env i).i*(m:Int):=by
 have h:(den env (if m=1 then i else .ii' .mul i (.int m))).i=(den env i).i*(m:Int):=by
  split
  ·rename_i h1;subst h1;simp
  ·rw[bQ];rfl
 unfold uc;split
 ·rw[h]
  show _=(0:Int)+_
  rw[Int.zero_add]
 ·rw[bQ]
  show(den env j).i+(den env (if m=1 then i else .ii' .mul i (.int m))).i=_
  rw[h]
theorem DC{o:Oper}{t n e:Nat}{x ix:Operand}(ho:o.op=.indexAddr t x ix)(h:Rel w0 env κ F U tmp blk L a w)(ht:P.underlying t=some (.array n e)){i:E}(hi:ag tmp ix=.vi i)(hk:aP P e=true)
  {b k ety:Nat} {ty ty':Ty} {j l:E} (hx:ag tmp x=.rptr b ty j k) (hb:blk b=some (.row ety ty' l)) (h1:ty.len=1)
  (hn:∀e'∈aG (.cmp' .le (.int 0) i)++aG (.cmp' .lt i (.int n))++aG (.cmp' .lt (uc j i (P.cellsOf e)) l.len'),(den env e').b=true):
  aB P w0 env κ F U tmp blk L a w o (.rptr b ty (uc j i (P.cellsOf e)) k) []:=by
 have hev:=h.ev x;have hei:=h.ev ix;rw[hi]at hei;rw[hx]at hev;obtain⟨g,go,m,c,g1,g2,g3,g4⟩:=hev;have n1:=aK (aA fun e he=>hn e (Nd _ (Nd _ he)))
 have n2:=aK (aA fun e he=>hn e (Nd _ (Ng _ he)))
 have n3:=aK (aA fun e he=>hn e (Ng _ he))
 have n1:0<=(den env i).i:=of_decide_eq_true n1
 have n2:(den env i).i<(n:Int):=of_decide_eq_true n2
 have n3:(den env (uc j i (P.cellsOf e))).i<(den env l.len').i:=of_decide_eq_true n3
 rw[aY]at n3;simp only[AV.i_int]at n3;have hidx:(den env (uc j i (P.cellsOf e))).i=(den env j).i+(den env i).i*(P.cellsOf e:Int):=Lo _ _ _
 obtain⟨iv,hiv⟩:∃q:Nat,(q:Int)=(den env i).i:=⟨(den env i).i.toNat,by omega⟩
 obtain⟨jv,hjv⟩:∃q:Nat,(q:Int)=(den env j).i:=⟨(den env j).i.toNat,by omega⟩
 have hidn:(den env (uc j i (P.cellsOf e))).i=((jv+iv*P.cellsOf e:Nat):Int):=by
  rw[hidx,<-hiv,<-hjv];simp
 obtain⟨us,hown,hpos,hrow⟩:=h.blks b _ hb;rw[g1]at hown;have hgo:=jN hown;subst hgo;have hm:m=(den env l).l.length:=by
  rcases hown.2 with⟨e,_⟩|⟨g',cap,cur,e,_⟩
  ·cases e
  ·injection e
 have hsz:=bB (w:=w) hk;refine aj h (u:=.pointer (some ((⟨g,0,none⟩:Addr).add ((jv+iv*P.cellsOf e)*ty.len+k)))) (.inl ?_) ⟨g,0,m,c,g1,by rw[hidn];omega,by rw[hidn];rw[hidn]at n3;omega,by rw[hidn,Nw]⟩
 have e0:a.eval ix=.int .i64 iv:=by rw[hei.1,<-hiv]
 have g4':a.eval x=.pointer (some ((⟨g,0,none⟩:Addr).add (jv+k))):=by
  rw[g4,<-hjv,h1,Nw,Nl]
 have hlt:(iv:Int)<(n:Int):=by omega
 have hge:(0:Int)<=(iv:Int):=by omega
 have hadd:((⟨g,0,none⟩:Addr).add (jv+k)).add (iv*P.cellsOf e)=(⟨g,0,none⟩:Addr).add ((jv+iv*P.cellsOf e)*ty.len+k):=by
  rw[ep,h1,Nl];congr 1
  omega
 rw[<-hadd];simp only[execOp,ho,g4',e0,Instr.indexAt,asIntOf,run_underlying ht,Sem.run_bind,Sem.run_pure,Result.andThen_ok,Instr.sureAddr];simp[hge,hlt,hsz]
theorem Ec{o:Oper}{t e:Nat}{x ix:Operand}(ho:o.op=.indexAddr t x ix)(h:Rel w0 env κ F U tmp blk L a w)(ht:P.underlying t=some (.slice e)){i:E}(hi:ag tmp ix=.vi i)(hk:aP P e=true)(h1:P.cellsOf e=1)
  {b n c:Nat} (hx:ag tmp x=.csl b n) (hic:(den env i).i=(c:Int)) (hcn:c<n):aB P w0 env κ F U tmp blk L a w o (.ptr b c) []:=by
 have hev:=h.ev x;have hei:=h.ev ix;rw[hi]at hei;rw[hx]at hev;obtain⟨g,cap,g1,g2⟩:=hev;have hsz:=bB (w:=w) hk;have e0:a.eval ix=.int .i64 (c:Int):=by rw[hei.1,hic]
 refine aj h (u:=.pointer (some ⟨g,c,none⟩)) (.inl ?_) ⟨g,g1,rfl⟩
 have hadd:(⟨g,0,none⟩:Addr).add (c*1)=⟨g,c,none⟩:=by rw[du,Nl,N5]
 have hlt:(c:Int)<(n:Int):=by omega
 have hge:(0:Int)<=(c:Int):=by omega
 simp only[execOp,ho,g2,e0,Instr.indexAt,asIntOf,run_underlying ht,Sem.run_bind,Sem.run_pure,Result.andThen_ok];simp[hge,hlt,hsz,h1]
 rw[<-hadd,Nl]
theorem HG{tr:E->Option Bool}{i:E}{f:Nat->Out}{needs:List E}{v:SV}{wr:List (Nat×Option SB)}(htr:∀e b,tr e=some b->(den env e).b=b):∀(n c:Nat),lr tr i f n c=.ok needs v wr->∃q,c<=q/\q<c+n/\(den env i).i=(q:Int)/\f q=.ok needs v wr:=by
 intro n;induction n with
 |zero=>intro c h;cases h
 | succ n ih=>
  intro c h;unfold lr at h;split at h
  ·rename_i ht
   have:=htr _ _ ht
   rw[eu]at this;exact⟨c,Nv _,by omega,of_decide_eq_true this,h⟩
  ·obtain⟨q,h1,h2,h3⟩:=ih (c+1) h
   exact⟨q,by omega,by omega,h3⟩
  ·cases h
theorem HI{o:Oper}{s:Operand}{t:Nat}(ho:o.op=.call { callee:=.builtin .len,args:=#[s],argTypes:=#[t] })(h:Rel w0 env κ F U tmp blk L a w){e:Nat}(ht:P.underlying t=some (.slice e)){b n:Nat}(hs:ag tmp s=.csl b n):aB P w0 env κ F U tmp blk L a w o (.vi (.int n)) []:=by
 have hes:=h.ev s;rw[hs]at hes;obtain⟨g,c,g1,g2⟩:=hes;refine aj h (u:=.int .i64 n) (.inl ?_) ⟨rfl,rfl⟩
 unfold execOp;simp only[ho,resolve,invoke,builtin,Sem.run_bind,Sem.run_pure,Result.andThen_ok,Nz,NF,NJ,g2];simp[Builtin.len_,run_underlying ht]
 rfl
theorem Kl{α:Type}(z:α)(n:Nat):(Nf n [z]).flatten=Nf n z:=by
 induction n with
 |zero=>rfl
 |succ n ih=>simp[NR,ih]
theorem FN{o:Oper}{t len e:Nat}{parts:Array (Nat×Operand)}(ho:o.op=.buildSlice t len parts)(h:Rel w0 env κ F U tmp blk L a w){m:Nat}(hm:¬U m)(ht:P.underlying t=some (.slice e)){z:SV}(hz:bM P e=some z)(hz1:z.one=true)(h1:P.cellsOf e=1)(hk:aP P e=true)(hb:0<P.bytesOf e)
  {cs:List SV} (hf:gz (fun i=>some (i,1)) (Nf len z) (parts.toList.map fun x=>(x.1,ag tmp x.2))=some cs) (hones:cs.all SV.one=true) (hcl:cs.length=len) (hbig:len<=16777216):
  aB P w0 env κ F U tmp blk L a w o (.csl m len) [(m,some (.cells e (.of cs)))]:=by
 have hinf:∃i,P.info? e=some i:=by
  unfold aP at hk;exact Option.isSome_iff_exists.1 (Bool.and_eq_true_iff.1 hk).2
 obtain⟨i,hi⟩:=hinf;obtain⟨zv,hzv,rfl⟩:=rM hi hz;have hzd:=cT (env:=env) (κ:=κ) (F:=F) (w:=w) zv;have hpl:=wU hz1 hzd;have hzc:zv.cells=#[zv]:=nQ hpl
 obtain⟨Z,hZ⟩:∃Z:Array Value,Z=(NP (len*1)).map (fun j=>zv.cells[j % zv.cells.size]!):=⟨_,rfl⟩
 have hZl:Z.toList=Nf len zv:=by
  rw[hZ,pG (n:=1) (by rw[hzc];rfl) (by decide),hzc]
  exact Kl zv len
 have hZd:SVden env κ F w (.of (Nf len (bX zv))) (.tuple Z):=by
  have:=eM (env:=env) (κ:=κ) (F:=F) (w:=w) (l:=Nf len (bX zv)) (cs:=Z.toList) (by rw[hZl];simp) (fun q x u hx hu=>by
   rw[hZl]at hu;rw[Nr (Nq hx),Nr (Nq hu)];exact hzd)
  simpa using this
 obtain⟨r,r1,r2,r3⟩:=uq (env:=env) (κ:=κ) (F:=F) (w:=w) _ ((parts.map fun x=>(x.1,a.eval x.2)).toList) _ _ _ hf (by simp) (fun j p v h1 h2=>by
  simp only[Nm,NO]at h1 h2;obtain⟨x,h3,rfl⟩:=Option.map_eq_some_iff.1 h1;rw[h3]at h2;cases h2
  exact h.ev x.2) hZd
 have hnm:∀b∈(SV.of cs).names,U b:=fun b hb=>by
  have hfill:∀(ps:List (Nat×SV)) (xs out:List SV),gz (fun i=>some (i,1)) xs ps=some out->(∀p∈ps,∀b∈p.2.names,U b)->(∀x∈xs,∀b∈x.names,U b)->∀x∈out,∀b∈x.names,U b:=by
   intro ps;induction ps with
   |nil=>intro xs out h _ h2;simp only[gz]at h;cases h;exact h2
   | cons p ps ih=>
    intro xs out h h1 h2;obtain⟨i,v⟩:=p;simp only[gz]at h;split at h
    ·cases h
    ·refine ih _ _ h (fun p hp=>h1 p (Nh _ hp)) (fun x hx=>?_)
     rcases List.mem_append.1 hx with hx|hx
     ·rcases List.mem_append.1 hx with hx|hx
      ·exact h2 x (Oh hx)
      ·intro b hb
       exact h1 _ (Nu ..) b (ta b (bW _ x hx b hb))
     ·exact h2 x (List.mem_of_mem_drop hx)
  obtain⟨x,hx,hb⟩:=(eH _ b).1 hb;refine hfill _ _ _ hf (fun p hp b hb=>?_) (fun x hx b hb=>?_) x hx b hb
  ·obtain⟨q,hq,rfl⟩:=List.mem_map.1 hp
   exact h.evNames q.2 b hb
  ·rw[Nr hx,sK]at hb;cases hb
 have hpl2:∀u∈r,aU u=true:=pI (bA _) (by unfold oN;rw[da];exact hones) r2
 refine⟨.slice (some ⟨w.heap.size,0,none⟩) len len,w.alloc (.cells r e),upd κ m (.pointer (some ⟨w.heap.size,0,none⟩)),F,.inl ?_,?_,⟨w.heap.size,len,ak ..,rfl⟩,h.new_kept hm rfl⟩
 ·have hsz:=bB (w:=w) hk
  have hrun:(Instr.buildSlice t len (parts.map fun x=>(x.1,a.eval x.2))).run P w=.ok (.slice (some ⟨w.heap.size,0,none⟩) len len) (w.alloc (.cells r e)):=by
   simp only[Instr.buildSlice,run_underlying ht,Sem.run_bind,Result.andThen_ok,hsz,h1];rw[if_neg (by omega)]
   by_cases h0:len*1=0
   ·rw[if_pos h0]
    have hZ0:Z=#[]:=by rw[hZ,h0];simp
    rw[hZ0]at r1;have e0:∀f:Nat->Value,(NP 0).map f=#[]:=fun f=>by simp
    rw[h0];simp only[e0,Sem.run_bind,Sem.run_pure,Result.andThen_ok];simp at r1
    simp[r1,newRow]
   ·rw[if_neg h0]
    rw[hZ]at r1;simp[zeroValue,typeInfo,hi,hzv]
    simp[hzc]at r1
    simp[hzc,r1,newRow]
  simp only[execOp,ho];rw[Sem.run_bind,hrun,Result.andThen_ok,Sem.run_pure]
 ·refine(h.new hm rfl (x:=.cells e (.of cs)) ⟨w.heap.size,r,ak ..,World.alloc_heap_new _ _,h.below.size,tY h hm hnm r2,bA _,hpl2⟩ hnm).monoU (fun b hb=>?_)
  rcases hb with hb|rfl
  ·exact .inl hb
  ·exact .inr ⟨_,List.mem_singleton.2 rfl,rfl⟩
theorem Eb{o:Oper}{t n e:Nat}{x ix:Operand}(ho:o.op=.index t x ix)(h:Rel w0 env κ F U tmp blk L a w)(ht:P.underlying t=some (.array n e)){xs:SV}{i l:E}(hi:ag tmp ix=.vi i)(hx:ag tmp x=.agg xs)
  (h1:P.cellsOf e=1) (h2:bE P e=false) (hk:aP P e=true) (hp:xs.proper=true) (hl:xs.len=n) (hr:gE 1 (.cons .int .nil) n xs.list=some l)
  (hn:∀e'∈aG (.cmp' .le (.int 0) i)++aG (.cmp' .lt i (.int n)),(den env e').b=true):aB P w0 env κ F U tmp blk L a w o (.vi ((E.cell' l i 0).as .int)) []:=by
 have hev:=h.ev x;have hei:=h.ev ix;rw[hi]at hei;rw[hx]at hev;obtain⟨cs,g1,g2,g3⟩:=hev;have n1:=aK (aA fun e he=>hn e (Nd _ he))
 have n2:=aK (aA fun e he=>hn e (Ng _ he))
 have n1:0<=(den env i).i:=of_decide_eq_true n1
 have n2:(den env i).i<(n:Int):=of_decide_eq_true n2
 obtain⟨s1,s2⟩:=bc g2 g3;obtain⟨b1,b2,b3⟩:=j0 (env:=env) (κ:=κ) (F:=F) (w:=w) (row:=.cons .int .nil) rfl n xs.list l cs.toList hr (by rw[list_len,hl];exact(Nl n).symm) (by rw[list_len,Ns,s1]) (fun i x u h1 h2=>by
  obtain⟨v,h3,h4⟩:=s2 i x h1;rw[Nn,h3]at h2;cases h2;exact h4)
 obtain⟨iv,hiv⟩:∃q:Nat,(q:Int)=(den env i).i:=⟨(den env i).i.toNat,by omega⟩
 have hit:(den env i).i.toNat=iv:=by omega
 have hlt:iv<(den env l).l.length:=by omega
 have hrr:=M9 hlt;have hty:=b2.1 _ _ hrr;have hs2:((den env l).l[iv].map AV.ty)[0]?=some .int:=by rw[hty];rfl
 rw[Nm]at hs2;obtain⟨y,hy,hys⟩:=Option.map_eq_some_iff.1 hs2;obtain⟨u,hu,hd⟩:=b2.2 _ _ _ _ hrr hy;have hcell:den env (.cell l i 0)=y:=mX (by rw[hit];exact hrr) hy
 have e1:den env ((E.cell' l i 0).as .int)=y:=by rw[tK (by rw[dp,hcell];exact hys),dp,hcell]
 rw[jw hys]at hd;have hu2:=Den.int_iff.1 hd;have hl1:(Ty.cons .int .nil).len=1:=rfl
 rw[hl1,Nl,NH,Nn,hu2]at hu;have hsz:=bB (w:=w) hk;have e0:a.eval ix=.int .i64 iv:=by rw[hei.1,<-hiv]
 refine aj h (u:=.int .i64 y.i) (.inl ?_) ⟨by rw[e1],by rw[e1];exact hys⟩
 have hpart:(part e cs (iv*1)).run P w=.ok (.int .i64 y.i) w:=by
  rw[la hk,h2,Nl,hu];rfl
 have h3:(0:Int)<=(iv:Int):=by omega
 have h4:(iv:Int)<(n:Int):=by omega
 simp only[execOp,ho,g1,e0,Instr.index,asIntOf,run_underlying ht,Sem.run_bind,Sem.run_pure,Result.andThen_ok];simp only[Nl]at hpart;simp[h3,h4,hsz,h1,hpart]
theorem MQ(e:E):(den env (e.as .int)).i=(den env e).i:=by
 unfold E.as;split<;>rfl
theorem BH{n:Nat}{xs:SV}{l:E}(h:rL n xs=some l):xs=.of ((List.range n).map fun(q:Nat)=>SV.vi ((E.cell' l (.int (q:Int)) 0).as .int)):=by
 unfold rL at h;split at h
 ·split at h
  ·rename_i he;cases h;exact he
  ·cases h
 ·cases h
theorem CY{o:Oper}{t n e:Nat}{x ix:Operand}(ho:o.op=.index t x ix)(h:Rel w0 env κ F U tmp blk L a w)(ht:P.underlying t=some (.array n e)){xs:SV}{i l:E}(hi:ag tmp ix=.vi i)(hx:ag tmp x=.agg xs)
  (h1:P.cellsOf e=1) (h2:bE P e=false) (hk:aP P e=true) (hp:xs.proper=true) (hl:xs.len=n) (hr:rL n xs=some l)
  (hn:∀e'∈aG (.cmp' .le (.int 0) i)++aG (.cmp' .lt i (.int n)),(den env e').b=true):aB P w0 env κ F U tmp blk L a w o (.vi (.co .int (.cell l i 0))) []:=by
 have hev:=h.ev x;have hei:=h.ev ix;rw[hi]at hei;rw[hx]at hev;obtain⟨cs,g1,g2,g3⟩:=hev;have n1:=aK (aA fun e he=>hn e (Nd _ he))
 have n2:=aK (aA fun e he=>hn e (Ng _ he))
 have n1:0<=(den env i).i:=of_decide_eq_true n1
 have n2:(den env i).i<(n:Int):=of_decide_eq_true n2
 obtain⟨s1,s2⟩:=bc g2 g3;obtain⟨iv,hiv⟩:∃q:Nat,(q:Int)=(den env i).i:=⟨(den env i).i.toNat,by omega⟩
 have hit:(den env i).i.toNat=iv:=by omega
 have hget:xs.list[iv]?=some (SV.vi ((E.cell' l (.int (iv:Int)) 0).as .int)):=by
  rw[BH hr,da,Nm,List.getElem?_range (by omega)];rfl
 obtain⟨u,hu,hd⟩:=s2 iv _ hget;have hu2:u=.int .i64 (den env (.co .int (.cell l i 0))).i:=by
  rw[hd.1,MQ,dp];show Value.int .i64 (den env (.cell l (.int (iv:Int)) 0)).i=.int .i64 (den env (.cell l i 0)).i
  congr 2
  show(N9 (N9 (den env l).l ((iv:Int)).toNat []) 0 (AV.int 0))=N9 (N9 (den env l).l (den env i).i.toNat []) 0 (AV.int 0)
  rw[hit,Nw]
 have hsz:=bB (w:=w) hk;have e0:a.eval ix=.int .i64 iv:=by rw[hei.1,<-hiv]
 refine aj h (u:=u) (.inl ?_) ⟨hu2,rfl⟩
 have hpart:(part e cs (iv*1)).run P w=.ok u w:=by
  rw[la hk,h2,Nl,hu];rfl
 have h3:(0:Int)<=(iv:Int):=by omega
 have h4:(iv:Int)<(n:Int):=by omega
 simp only[execOp,ho,g1,e0,Instr.index,asIntOf,run_underlying ht,Sem.run_bind,Sem.run_pure,Result.andThen_ok];simp only[Nl]at hpart;simp[h3,h4,hsz,h1,hpart]
theorem Fm{o:Oper}{t m:Nat}{r:Ty}(ho:o.op=.makeMap t none)(h:Rel w0 env κ F U tmp blk L a w)(hm:¬U m):aB P w0 env κ F U tmp blk L a w o (.map m) [(m,some (.amap r .lnil))]:=by
 refine⟨.map (some w.heap.size),w.alloc (.map #[] 0),upd κ m (.pointer (some ⟨w.heap.size,0,none⟩)),F,.inl ?_,?_,⟨w.heap.size,ak ..,rfl⟩,h.new_kept hm rfl⟩
 ·simp[execOp,ho,Instr.makeMap]
 ·refine(h.new hm rfl (x:=.amap r .lnil) ⟨w.heap.size,#[],0,ak ..,World.alloc_heap_new _ _,h.below.size,rfl,fun i r e h1=>by simp[den]at h1⟩ (fun c hc=>by cases hc)).monoU (fun b hb=>?_)
  rcases hb with hb|rfl
  ·exact .inl hb
  ·exact .inr ⟨_,List.mem_singleton.2 rfl,rfl⟩
theorem mV(g o:Nat)(t:TypeId)(fz:Nat×Nat):∀(vs:List Value) (i:Nat) (cur:Array Value) (w:World),w.heap[g]?=some (.cells cur t fz)->(fz=(0,0)\/cur.size<=fz.1)->o+i+vs.length<=cur.size->(∀v∈vs,v.oneCell'=true) →
  (storeCells ⟨g,o,none⟩ vs i).run P w=.ok () (w.setRow g (cur.toList.take (o+i)++vs++cur.toList.drop (o+i+vs.length)).toArray)
 |[],i,cur,w,hg,_,_,_=>by
  simp only[storeCells,N6,NS,NH,List.take_append_drop,N7];rw[setRow_self w g cur t fz hg];rfl
 | v::rest,i,cur,w,hg,hf,hl,h1=>by
  have hi:o+i<cur.size:=by simp at hl;omega
  have hadd:(⟨g,o,none⟩:Addr).add i=⟨g,o+i,none⟩:=by unfold Addr.add;split<;>simp_all
  have hcell:w.cell? ⟨g,o+i,none⟩=some cur[o+i]:=by simp[World.cell?,hg,hi]
  have hfro:w.frozen? ⟨g,o+i,none⟩=false:=by
   obtain⟨lo,hi'⟩:=fz;simp only[World.frozen?,hg,Bool.and_eq_false_iff,decide_eq_false_iff_not];rcases hf with hf|hf
   ·cases hf;right;omega
   ·left;simp only at hf;omega
  have hst:(store ((⟨g,o,none⟩:Addr).add i) v).run P w=.ok () (w.setRow g (cur.setIfInBounds (o+i) v)):=by
   rw[hadd,Go.run_store P w _ v _ (h1 v (by simp)),hcell]
   simp[hfro,setCell_eq_setRow w g (o+i) cur t fz v hg]
  have ih:=mV g o t fz rest (i+1) (cur.setIfInBounds (o+i) v) (w.setRow g (cur.setIfInBounds (o+i) v)) (setRow_heap w g cur _ t _ hg) (by simpa using hf) (by simp at hl⊢;omega) (fun x hx=>h1 x (by simp[hx]))
  simp only[storeCells,Sem.run_bind,hst,Result.andThen_ok,ih,setRow_setRow];congr 3
  have e:=list_seg_step cur.toList (o+i) v rest (by simp at hl⊢;omega)
  simpa[Oa,N0]using e
theorem FA{base t ty e:Nat}{i:TypeInfo}{z:Value}{size:Nat}(ht:P.underlying t=some (.slice e))(hi:P.info? e=some i)(hz:i.zero=some z)(hsize:i.size=size)(hzs:z.cells.size=size)(hsz:0<size)(hby:0<i.bytes)
  {v:Value} {n:Nat} {xs:List Value} (hown:iK w base e size v n xs) {A:Option Addr} {m c B:Nat} {news:List Value} (hS:Span w B size A m news) (h1:∀u∈news,aU u=true) (hbytes:(n+m)*i.bytes<=140737488355328) (hbase:base<=w.heap.size):
  ∃v' w',(Builtin.append_ #[t,t] ty #[v,.slice A m c]).run P w=.ok v' w'/\iK w' base e size v' (n+m) (xs++news)/\w.grownBy w' (ai v)/\∀k,ai v'=some k->ai v=some k\/w.heap.size<=k:=by
 have h63:n+m<=maxLen:=by
  have:=NV (Ny (n+m) hby) hbytes
  unfold maxLen;omega
 have h1':∀u∈news,u.oneCell'=true:=fun u hu=>by rw[<-lI];exact h1 u hu
 rcases hown.2 with⟨rfl,rfl⟩|⟨g,o,cap,cur,fz,rfl,hbg,hg,hfz,hnc,hcm,hcs,htake⟩
 ·have hx:xs=[]:=Np (by simpa using hown.1)
  subst hx;obtain⟨v',w',r1,r2,r3,r4⟩:=mN (P:=P) (ty:=ty) ht hi hz hsize hzs hsz hby (World.ownsRow_nil w base e size) hS h1 (c:=c) hbytes hbase
  exact⟨v',w',r1,oc r2,r3,r4⟩
 ·cases A with
  | none=>
   have hn:news=[]:=by
    cases news with
    |nil=>rfl
    |cons u l=>obtain⟨a,ha,_⟩:=hS.2 0 u rfl;cases ha
   subst hn;have hm:m=0:=by
    have h0:=hS.1;rw[NS]at h0;rcases NB m with h|h
    ·exact h
    ·have:=NZ h hsz;omega
   subst hm;refine⟨.slice (some ⟨g,o,none⟩) n cap,w,?_,by rw[N6];exact hown,iA _ _,fun k hk=>.inl hk⟩
   simp[Builtin.append_,run_underlying ht,sizeOf,typeInfo,hi,Builtin.lenOf,Builtin.firstCells,hnc,storeCells]
  | some ad=>
   have hnews:∀j u,news[j]?=some u->w.cell? (ad.add j)=some u:=fun j u hu=>by obtain⟨a',e1,_,e2⟩:=hS.2 j u hu;cases e1;exact e2
   subst hsize;have hlen:(xs++news).length=(n+m)*i.size:=by rw[Nk,hown.1,hS.1,NC]
   by_cases hroom:n+m<=cap
   ·have hmul:n*i.size+m*i.size<=cap*i.size:=by rw[<-NC];exact Nx _ hroom
    have hfit:o+n*i.size+news.length<=cur.size:=by rw[hS.1];omega
    have hf:=run_firstCells_some (P:=P) w i.size m ad m c news hS.1 hnews;have hst:=mV (P:=P) g (o+n*i.size) e fz news 0 cur w hg hfz (by simpa using hfit) h1'
    simp only[NH]at hst;refine⟨.slice (some ⟨g,o,none⟩) (n+m) cap,w.setRow g (cur.toList.take (o+n*i.size)++news++cur.toList.drop (o+n*i.size+news.length)).toArray,?_,⟨hlen,.inr ⟨g,o,cap,_,fz,rfl,hbg,setRow_heap w g cur _ e _ hg,?_,hroom,hcm,?_,?_⟩⟩,⟨rfl,rfl,rfl,by simp,fun k _ hk=>setRow_other w g k _ (fun e=>hk (by simp[ai,e]))⟩,fun k hk=>.inl hk⟩
    ·have hadd:(⟨g,o,none⟩:Addr).add (n*i.size)=⟨g,o+n*i.size,none⟩:=du _ _ _
     simp[Builtin.append_,run_underlying ht,sizeOf,typeInfo,hi,Builtin.lenOf,hroom,hf,hadd,hst]
    ·refine hfz.imp id fun h=>?_
     simp only[NG,Nk,NA,NK,Ns];omega
    ·simp only[NG,Nk,NA,NK,Ns]
     omega
    ·have htl:(cur.toList.take (o+n*i.size)).length=o+n*i.size:=by rw[NA,Ns];omega
     show((cur.toList.take (o+n*i.size)++news++cur.toList.drop (o+n*i.size+news.length)).drop o).take ((n+m)*i.size)=xs++news
     rw[NY,List.drop_append_of_le_length (by omega),OA]
     have e1:o+n*i.size-o=n*i.size:=by omega
     rw[e1,htake,<-NY,<-hlen];exact OB
   ·have holds:∀j u,xs[j]?=some u->w.cell? ((⟨g,o,none⟩:Addr).add j)=some u:=fun j u hu=>by
     rw[du,cell_of_row w g _ cur e fz hg];rw[<-htake,Nc]at hu;split at hu
     ·rw[No]at hu;simpa using hu
     ·cases hu
    have hr:=run_append_grow (P:=P) w t ty e i z ht hi hz ⟨g,o,none⟩ n cap xs hown.1 holds ad m c news hS.1 hnews (by omega) (by simp only[maxLen]at h63;omega) (growslice_fits (by omega) hbytes)
    have hge:=grownCap_ge w (n+m) cap e;have hcm':grownCap w (n+m) cap e<=maxLen:=grownCap_le_maxLen w (n+m) cap e h63
    refine⟨_,_,hr,oc ⟨hlen,.inr ⟨w.heap.size,_,_,rfl,hbase,heap_alloc_new w.drew _,hge,hcm',?_,?_⟩⟩,⟨rfl,rfl,rfl,by simp,fun k hk _=>heap_alloc_old w.drew _ hk⟩,fun k hk=>.inr ?_⟩
    ·simp only[Oq,NG,size_zeroCells,hzs,hown.1,hS.1,<-NC]
     congr 1
     omega
    ·simp only[Array.toList_append,NY]
     rw[<-NY,<-hlen];exact OB
    ·have:w.heap.size=k:=by simpa[ai]using hk
     omega
theorem Fp{o:Oper}{s x:Operand}{t ety:Nat}{row:Ty}(ho:o.op=.call { callee:=.builtin .append,args:=#[s,x],argTypes:=#[t,t] })(h:Rel w0 env κ F U tmp blk L a w)(ht:aZ P t=some (ety,row)){m:Nat}(hm:¬U m)
  {ty:Option Ty} {lx l:E} (hx:ck blk (ag tmp x)=some (ty,lx)) (hty:ty.all (·=row)=true)
  (hn:∀e∈cZ (bR l lx) (P.bytesOf ety),(den env e).b=true) {d:Nat} (h1:ag tmp s=.row d) (h2:blk d=some (.qrow ety row l)):
  aB P w0 env κ F U tmp blk L a w o (.row m) [(d,some (.dead l)),(m,some (.qrow ety row (bR l lx)))]:=by
 obtain⟨u1,u2,u3,_,u5,u6,u7,u8⟩:=bn ht;obtain⟨z,hz1,hzs⟩:=Option.map_eq_some_iff.1 u8;obtain⟨i,hi,hz⟩:=Option.bind_eq_some_iff.1 hz1;have hsize:i.size=row.len:=by rw[u2];unfold Program.cellsOf;rw[hi];rfl
 have hbytes:P.bytesOf ety=i.bytes:=by unfold Program.bytesOf;rw[hi];rfl
 obtain⟨A,c,news,e1,e2,e3,e4⟩:=iP h (h.ev x) hx hty u3 u7;have hroom:((den env l).l.length+(den env lx).l.length)*i.bytes<=140737488355328:=by
  have h1:=aK (aA hn);rw[bQ,aY]at h1;change decide ((((den env (bR l lx)).l.length:Int))*(P.bytesOf ety:Int)<=140737488355328)=true at h1
  have h2:=of_decide_eq_true h1;rw[c8,Nk,hbytes]at h2;rw[<-NM]at h2;generalize ((den env l).l.length+(den env lx).l.length)*i.bytes=q at h2⊢
  omega
 have hle:=h.below.size;have hes:=h.ev s;rw[h1]at hes;obtain⟨us,hown,hpos,hrow⟩:=h.blks d _ h2;obtain⟨v',w',r1,r2,r3,r4⟩:=FA (P:=P) (ty:=o.type) u1 hi hz hsize hzs u3 (by omega) hown e2 e4 (c:=c) hroom hle
 refine⟨v',w',upd κ m v',F,f8 ho (by rw[show a.eval s=_ from hes.1,e1];exact r1),?_,⟨(ak κ m v').symm,?_⟩,h.moved_kept h2 rfl rfl rfl hm r3 r4⟩
 ·have hbel:Below w0.heap.size w0 w':=h.below.trans ⟨r3.os,r3.tape,r3.output,r3.size,fun k hk=>r3.block k (by omega) (fun e=>by have:=((h.blks d _ h2).lt rfl e.symm).1;omega)⟩
  have hF2:∀k,F k->w'.heap[k]?=w.heap[k]?:=fun k hF=>r3.block k (h.F k hF) (fun e=>h.nF d k (by rw[h2];rfl) e.symm hF)
  refine(h.moved (y:=.qrow ety row (bR l lx)) (z:=.dead l) h2 rfl rfl ?_ rfl hm r3 r4 ⟨us++news,?_,u3,?_⟩ (fun c hc=>by cases hc) hbel).monoU (fun b hb=>?_)
  ·have hdm:d≠m:=fun e=>by subst e;exact hm (h.bnames d _ h2).1
   rcases hown.2 with⟨e,e'⟩|⟨g,o,cap,cur,fz,e,_⟩
   ·exact⟨none,0,by rw[ah hdm,e,e']⟩
   ·exact⟨_,_,by rw[ah hdm,e]⟩
  ·rw[ak,c8,Nk];exact r2
  ·rw[c8]
   exact(hrow.app e3 hown.1).keep (fun _ h=>h) hF2
  ·rcases hb with hb|rfl
   ·exact .inl hb
   ·exact .inr ⟨_,Nh _ (List.mem_singleton.2 rfl),rfl⟩
 ·rcases r2.2 with⟨rfl,_⟩|⟨g,o,cap,cur,fz,rfl,_⟩<;>rfl
theorem Fd{o:Oper}{t ety:Nat}{row:Ty}{x lo:Operand}(ho:o.op=.slice t x (some lo) none none)(h:Rel w0 env κ F U tmp blk L a w)(ht:aZ P t=some (ety,row)){d m:Nat}(hm:¬U m)(hx:ag tmp x=.row d){y:SB}{l i:E}(hd:blk d=some y)(hy:y=.row ety row l\/y=.qrow ety row l)
  (hl:ag tmp lo=.vi i) (hn:∀x∈aG (.cmp' .le (.int 0) i)++aG (.cmp' .le i l.len'),(den env x).b=true):aB P w0 env κ F U tmp blk L a w o (.row m) [(d,some (.dead l)),(m,some (.qrow ety row (.drop l i)))]:=by
 obtain⟨u1,u2,u3,_,u5,_⟩:=bn ht;have hev:=h.ev x;rw[hx]at hev;have n1:=aK (aA fun e he=>hn e (Nd _ he))
 have n2:=aK (aA fun e he=>hn e (Ng _ he))
 have n1:0<=(den env i).i:=of_decide_eq_true n1
 have n2:(den env i).i<=(den env l.len').i:=of_decide_eq_true n2
 rw[aY]at n2;simp only[AV.i_int]at n2;obtain⟨us,hown,hpos,hrow⟩:∃us,iK w w0.heap.size ety row.len (κ d) (den env l).l.length us/\0<row.len/\RowsDen F w us row (den env l).l:=by
  rcases hy with rfl|rfl
  ·obtain⟨us,h1,h2,h3⟩:=h.blks d _ hd
   exact⟨us,oc h1,h2,h3⟩
  ·exact h.blks d _ hd
 have hlive:aF (some y)=true:=by rcases hy with rfl|rfl<;>rfl
 have hnl:m7 (some y)=true:=by rcases hy with rfl|rfl<;>rfl
 obtain⟨lv,hlv⟩:∃k:Nat,(k:Int)=(den env i).i:=⟨(den env i).i.toNat,by omega⟩
 have hlt:lv<=(den env l).l.length:=by omega
 have hsz:=bB (w:=w) u5;obtain⟨A,c,hκ,hc⟩:∃A c,κ d=.slice A (den env l).l.length c/\(den env l).l.length<=c:=by
  rcases hown.2 with⟨e,e'⟩|⟨g,o,cap,cur,fz,e,_,_,_,hnc,_⟩
  ·exact⟨none,0,by rw[e,e'],by omega⟩
  ·exact⟨_,_,e,hnc⟩
 have hb:=px (P:=P) (w:=w) h (lo:=some lo) (hi:=none) (d0:=.int 0) (d1:=l.len') (l:=i) (q:=l.len') (by simp[cV,hl]) rfl (n:=(den env l).l.length) (c:=c) (by intro _;rw[aY];rfl) (by intro e2;rw[e2];rfl) hlv (qv:=(den env l).l.length) (by rw[aY];rfl) hc hlt
 obtain⟨v',hv'⟩:∃v',v'=Value.slice (if c=lv then A else A.map (·.add (lv*row.len))) ((den env l).l.length-lv) (c-lv):=⟨_,rfl⟩
 have hrun:(Instr.sliceAt t (a.eval x) (some (a.eval lo)) none none).run P w=.ok v' w:=by
  rw[hev.1,hκ,hv'];simp only[Nt,ND]at hb;simp only[Instr.sliceAt,run_underlying u1,Sem.run_bind,Result.andThen_ok,Instr.slice,hb,hsz,Sem.run_pure,u2]
 have hR:bL P o a w v' w:=.inl (by
  simp only[execOp,ho,ND,Nt,Sem.run_bind,hrun,Result.andThen_ok,Sem.run_pure])
 have hbl:ai v'=ai (κ d):=by
  rw[hκ,hv'];cases A with
  |none=>split<;>rfl
  | some a=>
   split
   ·rfl
   ·show some (a.add _).block=some a.block
    rw[lO]
 have hpl:aU v'=true:=by rw[hv'];rfl
 have hdm:d≠m:=fun e=>by subst e;exact hm (h.bnames d _ hd).1
 have hL:(den env (.drop l i)).l=(den env l).l.drop lv:=by
  show(den env l).l.drop (den env i).i.toNat=_
  rw[<-hlv,Nw]
 have hmul:lv*row.len+((den env l).l.length-lv)*row.len=(den env l).l.length*row.len:=by rw[<-NC];congr 1;omega
 refine⟨v',w,upd κ m v',F,hR,?_,⟨(ak κ m _).symm,hpl⟩,h.moved_kept hd hlive hnl rfl hm (iA _ _) (fun k hk=>.inl (by rw[<-hbl];exact hk))⟩
 refine(h.moved (y:=.qrow ety row (.drop l i)) (z:=.dead l) hd hlive rfl ⟨A,c,by rw[ah hdm];exact hκ⟩ rfl hm (iA _ _) (fun k hk=>.inl (by rw[<-hbl];exact hk)) ⟨us.drop (lv*row.len),?_,u3,fun j r hr=>?_,fun j r k y hr hy=>?_⟩ (fun c hc=>by cases hc) h.below).monoU (fun b hb=>?_)
 ·rw [ak,hL,NK]
  refine⟨by rw[NK,hown.1];omega,?_⟩
  rcases hown.2 with⟨e,e'⟩|⟨g,o,cap,cur,fz,e,hb1,hb2,hfz,hnc,hcm,hcs,hcur⟩
  ·left
   rw[hκ]at e;injection e with e1 e2 e3
   subst e1;subst e3;have:lv=0:=by omega
   subst this;refine⟨?_,by omega⟩
   rw[hv',e'];rfl
  ·right
   rw[hκ]at e;injection e with e1 e2 e3
   subst e1;subst e3;by_cases hcl:c=lv
   ·refine⟨g,o,c-lv,cur,fz,by rw[hv',if_pos hcl],hb1,hb2,hfz,by omega,by omega,?_,?_⟩
    ·have:c-lv=0:=by omega
     rw[this,Ol];omega
    ·have e0:(den env l).l.length-lv=0:=by omega
     have e2:(den env l).l.length=lv:=by omega
     have e1:us.drop (lv*row.len)=[]:=List.drop_eq_nil_of_le (by rw[hown.1,e2];exact Nv _)
     rw[e0,e1,Ol,Og]
   ·refine⟨g,o+lv*row.len,c-lv,cur,fz,by rw[hv',if_neg hcl,Nt,du],hb1,hb2,hfz,by omega,by omega,?_,?_⟩
    ·have:lv*row.len+(c-lv)*row.len=c*row.len:=by rw[<-NC];congr 1;omega
     omega
    ·rw[<-hcur,OA,List.drop_drop]
     congr 1
     omega
 ·rw[hL,No]at hr
  exact hrow.1 _ r hr
 ·rw[hL,No]at hr
  obtain⟨u,hu,hdn⟩:=hrow.2 _ r k y hr hy;refine⟨u,?_,hdn⟩
  rw[No,<-hu];congr 1
  rw[NC];omega
 ·rcases hb with hb|rfl
  ·exact .inl hb
  ·exact .inr ⟨_,Nh _ (List.mem_singleton.2 rfl),rfl⟩
theorem lG(e:E):den env (ui e)=.int ((den env e).s.length:Int):=by
 cases e<;>rfl
theorem mJ(h:Rel w0 env κ F U tmp blk L a w){x:Operand}{e:E}(hx:ag tmp x=.vr e)(hs:dV e=true):a.eval x=.string ⟨(den env e).s.toArray⟩:=by
 have:=h.ev x
 rw[hx]at this;exact AV.raw.inj (this.1.symm.trans (jq hs))
theorem EJ(a b:List UInt8):(ByteArray.mk a.toArray)++(ByteArray.mk b.toArray)=ByteArray.mk (a++b).toArray:=by
 apply ByteArray.ext
 simp
theorem IG{o:Oper}{op:BinOp}{t ty:TypeId}{x y:Operand}(ho:o.op=.binOp op t x y ty)(h:Rel w0 env κ F U tmp blk L a w){needs:List E}{v:SV}{wr:List (Nat×Option SB)}
  {p q:E} (hx:ag tmp x=.vr p) (hy:ag tmp y=.vr q) (hc:vN op p q=some (.ok needs v wr)) (hn:∀e∈needs,(den env e).b=true):aB P w0 env κ F U tmp blk L a w o v wr:=by
 unfold vN at hc;split at hc
 rotate_left
 ·cases hc
 rename_i hs
 have vx:=mJ h hx hs.1;have vy:=mJ h hy hs.2;have R:∀u:Value,(binOp op t (.string ⟨(den env p).s.toArray⟩) (.string ⟨(den env q).s.toArray⟩)).run P w=.ok u w->bL P o a w u w:=fun u hu=>.inl (by
  simp only[execOp,ho,vx,vy];have hg:((eqGuard op t x y (.string ⟨(den env p).s.toArray⟩) (.string ⟨(den env q).s.toArray⟩)).run P w)=.ok () w:=by
   unfold eqGuard;cases op<;>simp
  simp only[Sem.run_bind,hg,Result.andThen_ok,hu,Sem.run_pure])
 split at hc
 ·unfold DP at hc
  cases hc
  have h1:=aA hn;rw[eu,bQ,lG,lG]at h1;have h1:((den env p).s.length:Int)+((den env q).s.length:Int)<=9223372036854775807:=of_decide_eq_true h1
  refine aj h (R (.string ⟨((den env p).s++(den env q).s).toArray⟩) ?_) ⟨rfl,rfl⟩
  have h2:¬((((⟨(den env p).s.toArray⟩:ByteArray).size+(⟨(den env q).s.toArray⟩:ByteArray).size:Nat):Int)>IntKind.i64.max):=by
   have e1:(⟨(den env p).s.toArray⟩:ByteArray).size=(den env p).s.length:=by simp[ByteArray.size]
   have e2:(⟨(den env q).s.toArray⟩:ByteArray).size=(den env q).s.length:=by simp[ByteArray.size]
   rw[e1,e2];have e3:IntKind.i64.max=9223372036854775807:=by decide
   rw[e3];omega
  simp only[binOp,Op.stringOp];rw[if_neg h2,EJ];rfl
 ·unfold dH at hc
  cases hc
  refine aj h (R (.bool ((den env p).s==(den env q).s)) ?_) ⟨rfl,rfl⟩
  simp only[binOp,Op.stringOp,ByteArray.toList_mk];rfl
 ·unfold dH at hc
  cases hc
  refine aj h (R (.bool (!((den env p).s==(den env q).s))) ?_) ⟨rfl,rfl⟩
  simp only[binOp,Op.stringOp,ByteArray.toList_mk];rfl
 ·cases hc
theorem Le{o:Oper}{x:Operand}{t:Nat}(ho:o.op=.call { callee:=.builtin .len,args:=#[x],argTypes:=#[t] })(h:Rel w0 env κ F U tmp blk L a w){needs:List E}{v:SV}{wr:List (Nat×Option SB)}
  (hc:D6 P t (ag tmp x)=some (.ok needs v wr)):aB P w0 env κ F U tmp blk L a w o v wr:=by
 unfold D6 at hc;split at hc
 ·rename_i e ht hx
  split at hc
  ·rename_i hs
   cases hc
   have vx:=mJ h hx hs;refine aj h (u:=.int .i64 ((den env e).s.length:Int)) (.inl ?_) ⟨by rw[lG];rfl,by rw[lG];rfl⟩
   unfold execOp;simp only[ho,resolve,invoke,builtin,Sem.run_bind,Sem.run_pure,Result.andThen_ok,Nz,NF,NJ,vx];have hsz:(⟨(den env e).s.toArray⟩:ByteArray).size=(den env e).s.length:=by simp[ByteArray.size]
   simp[Builtin.len_,run_underlying ht,goInt,hsz,-ByteArray.size_data]
  ·cases hc
 ·cases hc
theorem It{o:Oper}{t:Nat}{x ix:Operand}(ho:o.op=.index t x ix)(h:Rel w0 env κ F U tmp blk L a w){needs:List E}{v:SV}{wr:List (Nat×Option SB)}
  (hc:vJ P t (ag tmp x) (ag tmp ix)=some (.ok needs v wr)) (hn:∀e∈needs,(den env e).b=true):aB P w0 env κ F U tmp blk L a w o v wr:=by
 unfold vJ at hc;split at hc
 ·rename_i s i ht hx hi
  split at hc
  ·rename_i hs
   cases hc
   have vx:=mJ h hx hs;have hei:=h.ev ix;rw[hi]at hei;have n1:=aK (aA fun e he=>hn e (Nd _ he))
   have n2:=aK (aA fun e he=>hn e (Ng _ he))
   rw[lG]at n2;have n1:0<=(den env i).i:=of_decide_eq_true n1
   have n2:(den env i).i<((den env s).s.length:Int):=of_decide_eq_true n2
   obtain⟨iv,hiv⟩:∃q:Nat,(q:Int)=(den env i).i:=⟨(den env i).i.toNat,by omega⟩
   have hit:(den env i).i.toNat=iv:=by omega
   have hlt:iv<(den env s).s.length:=by omega
   have e0:a.eval ix=.int .i64 iv:=by rw[hei.1,<-hiv]
   refine aj h (u:=.int .u8 (qI (den env s).s (den env i).i)) (.inl ?_) ⟨rfl,rfl⟩
   have hg:(⟨(den env s).s.toArray⟩:ByteArray)[iv]?=some ((den env s).s[iv]):=by
    have hsz:iv<(⟨(den env s).s.toArray⟩:ByteArray).size:=by simpa[ByteArray.size]using hlt
    rw[getElem?_pos (⟨(den env s).s.toArray⟩:ByteArray) iv hsz];rfl
   have h3:(0:Int)<=(iv:Int):=by omega
   have hsg:qI (den env s).s (den env i).i=(((den env s).s[iv]).toNat:Int):=by
    unfold qI;rw[hit,N9,M9 hlt];rfl
   simp only[execOp,ho,vx,e0,Instr.index,asIntOf,run_underlying ht,Sem.run_bind,Sem.run_pure,Result.andThen_ok,if_pos h3,Nw,hg,hsg]
  ·cases hc
 ·cases hc
theorem Hs{x y:SV}{r:Bool}(h:G5 x y=some r):(x=.nilptr/\y=.nilptr/\r=true)\/(x=.nilptr/\(∃b o,y=.ptr b o)/\r=false)\/((∃b o,x=.ptr b o)/\y=.nilptr/\r=false)\/(∃b o,x=.ptr b o/\y=.ptr b o/\r=true):=by
 unfold G5 at h;split at h
 ·cases h;exact .inl ⟨rfl,rfl,rfl⟩
 ·cases h;exact .inr (.inl ⟨rfl,⟨_,_,rfl⟩,rfl⟩)
 ·cases h;exact .inr (.inr (.inl ⟨⟨_,_,rfl⟩,rfl,rfl⟩))
 ·split at h
  ·rename_i hh
   obtain⟨rfl,rfl⟩:=hh;cases h;exact .inr (.inr (.inr ⟨_,_,rfl,rfl,rfl⟩))
  ·cases h
 ·cases h
theorem Ir{o:Oper}{op:BinOp}{t ty:TypeId}{x y:Operand}(ho:o.op=.binOp op t x y ty)(h:Rel w0 env κ F U tmp blk L a w){needs:List E}{v:SV}{wr:List (Nat×Option SB)}
  (hc:wF P op t (ag tmp x) (ag tmp y)=some (.ok needs v wr)):aB P w0 env κ F U tmp blk L a w o v wr:=by
 unfold wF at hc;split at hc
 rotate_left
 ·cases hc
 rename_i r hr
 split at hc
 rotate_left
 ·cases hc
 rename_i hT
 have hT2:∃e i,P.underlying t=some (.pointer e)/\P.info? e=some i/\i.size≠0:=by
  unfold Mc at hT;split at hT
  ·rename_i e hu
   split at hT
   ·rename_i i hi;exact⟨e,i,hu,hi,by simpa using hT⟩
   ·cases hT
  ·cases hT
 obtain⟨e,i,hu,hi,hsz⟩:=hT2;have hex:=h.ev x;have hey:=h.ev y;have key:∃p q:Option Addr,a.eval x=.pointer p/\a.eval y=.pointer q/\(Op.equal t (.pointer p) (.pointer q)).run P w=.ok r w:=by
  rcases Hs hr with⟨h1,h2,rfl⟩|⟨h1,⟨b,of,h2⟩,rfl⟩|⟨⟨b,of,h1⟩,h2,rfl⟩|⟨b,of,h1,h2,rfl⟩
  ·rw[h1]at hex;rw[h2]at hey
   refine⟨none,none,hex,hey,?_⟩
   have:∀d:Nat,(Op.equalIn (d+1) t (.pointer none) (.pointer none)).run P w=.ok true w:=fun d=>by simp[Op.equalIn,run_underlying hu]
   exact this 9999
  ·rw[h1]at hex;rw[h2]at hey
   obtain⟨g,_,h4⟩:=hey;refine⟨none,_,hex,h4,?_⟩
   have:∀(d:Nat) (q:Addr),(Op.equalIn (d+1) t (.pointer none) (.pointer (some q))).run P w=.ok false w:=fun d q=>by simp[Op.equalIn,run_underlying hu]
   exact this 9999 _
  ·rw[h1]at hex;rw[h2]at hey
   obtain⟨g,_,h4⟩:=hex;refine⟨_,none,h4,hey,?_⟩
   have:∀(d:Nat) (q:Addr),(Op.equalIn (d+1) t (.pointer (some q)) (.pointer none)).run P w=.ok false w:=fun d q=>by simp[Op.equalIn,run_underlying hu]
   exact this 9999 _
  ·rw[h1]at hex;rw[h2]at hey
   obtain⟨g,g1,g2⟩:=hex;obtain⟨g',g3,g4⟩:=hey;rw[g1]at g3;cases g3
   refine⟨_,_,g2,g4,?_⟩
   have:∀(d:Nat) (q:Addr),(Op.equalIn (d+1) t (.pointer (some q)) (.pointer (some q))).run P w=.ok true w:=fun d q=>by
    simp[Op.equalIn,run_underlying hu,sizeOf,typeInfo,hi,hsz,run_sameAddr_same]
   exact this 9999 _
 obtain⟨p,q,vx,vy,hrun⟩:=key;have R:∀u:Value,(binOp op t (.pointer p) (.pointer q)).run P w=.ok u w->bL P o a w u w:=fun u hu=>.inl (by
  simp only[execOp,ho,vx,vy];have hg:((eqGuard op t x y (.pointer p) (.pointer q)).run P w)=.ok () w:=by
   unfold eqGuard;cases op<;>simp
  simp only[Sem.run_bind,hg,Result.andThen_ok,hu,Sem.run_pure])
 split at hc
 ·cases hc
  refine aj h (R (.bool r) ?_) ⟨rfl,rfl⟩
  simp only[binOp];simp[hrun]
 ·cases hc
  refine aj h (R (.bool (!r)) ?_) ⟨rfl,rfl⟩
  simp only[binOp];simp[hrun]
 ·cases hc
theorem xi:∀(ns:List Int) (acc:List UInt8),ns.foldl (fun(r:ByteArray) n=>r.push (UInt8.ofNat n.toNat)) ⟨acc.toArray⟩=⟨(acc++ns.map fun n=>UInt8.ofNat n.toNat).toArray⟩
 |[],acc=>by simp
 |n::ns,acc=>by
  rw[Ox];have:(ByteArray.mk acc.toArray).push (UInt8.ofNat n.toNat)=ByteArray.mk (acc++[UInt8.ofNat n.toNat]).toArray:=by simp[ByteArray.push]
  rw[this,xi ns];simp
theorem sJ{us:List Value}{l:List (List AV)}(h:RowsDen F w us u8Row l)(hl:us.length=l.length):us=(l.map fun r=>(r.getD 0 (.int 0)).num).map (Value.int .u8):=by
 refine Ob fun j=>?_
 rw[Nm,Nm];by_cases hj:j<l.length
 ·have hr:=M9 hj
  have hty:=h.1 j _ hr;have h0:(l[j].map AV.ty)[0]?=some (.num .u8):=by rw[hty];rfl
  rw[Nm]at h0;obtain⟨y,hy,hys⟩:=Option.map_eq_some_iff.1 h0;obtain⟨u,hu,hd⟩:=h.2 j _ 0 y hr hy;have e1:u8Row.len=1:=rfl
  rw[e1,Nl,NH]at hu;rw[wu hys]at hd;rw[hu,(Den.raw_iff.1 hd).1,hr];simp only[Nt,N9,hy,Option.getD_some]
 ·rw[N4 (by omega),N4 (by omega)];rfl
theorem Gc{o:Oper}{s d e ety:Nat}{x:Operand}(ho:o.op=.convert s d x)(h:Rel w0 env κ F U tmp blk L a w)(hs:P.underlying s=some (.slice e))(hd:P.underlying d=some .string)(he:P.underlying e=some (.int .u8))
  (ht:aZ P s=some (ety,u8Row)) {u:Option Ty} {l:E} (hx:ck blk (ag tmp x)=some (u,l)) (hu:u.all (·=u8Row)=true):aB P w0 env κ F U tmp blk L a w o (.vr (.sofb l)) []:=by
 obtain⟨u1,u2,u3,_,u5,u6,u7,u8⟩:=bn ht;obtain⟨A,c,news,e1,e2,e3,e4⟩:=iP h (h.ev x) hx hu u3 u7;have hlen:news.length=(den env l).l.length:=by rw[e2.1];exact Nl _
 have hb:=sJ e3 hlen;refine aj h (u:=ar (bytesOf (den env l).l)) (.inl ?_) ⟨rfl,rfl⟩
 have hrun:(convert s d (a.eval x)).run P w=.ok (ar (bytesOf (den env l).l)) w:=by
  rw[e1,run_convert_bytes_string w s d e A _ c hs he hd];cases A with
  | none=>
   have h0:(den env l).l=[]:=by
    cases hh:(den env l).l with
    |nil=>rfl
    |cons r rs=>
     have hn:0<news.length:=by rw[hlen,hh];simp
     obtain⟨ad,hq,_⟩:=e2.2 0 news[0] (M9 hn);cases hq
   rw[h0];simp[Conv.bytesToString,bytesOf,ar]
   rfl
  | some ad=>
   have hc:∀j v,news[j]?=some v->w.cell? (ad.add j)=some v:=fun j v hj=>by
    obtain⟨a',h1,_,h3⟩:=e2.2 j v hj;cases h1;exact h3
   have hl:=run_loadCells_list (P:=P) (w:=w) ad news hc;rw[hlen]at hl;rw[hb]at hl;rw[run_bytesToString w ad _ c _ hl];have h3:=xi ((den env l).l.map fun r=>(r.getD 0 (.int 0)).num) []
   have h4:(ByteArray.empty)=(⟨([]:List UInt8).toArray⟩:ByteArray):=rfl
   rw[h4,h3];simp[ar,bytesOf]
 simp only[execOp,ho,Sem.run_bind,hrun,Result.andThen_ok,Sem.run_pure]
theorem w8{e:Nat}(h:vZ P e=true):P.underlying e=some (.int .u8):=by
 unfold vZ at h;split at h
 ·assumption
 ·cases h
theorem JU{o:Oper}{m ety:Nat}{row:Ty}{lE:E}{v':Value}{us:List Value}(h:Rel w0 env κ F U tmp blk L a w)(hm:¬U m)(hr:bL P o a w v' w')(r2:iK w' w.heap.size ety row.len v' (den env lE).l.length us)(u3:0<row.len)(hrow:RowsDen F w us row (den env lE).l)(r3:w.grownBy w' none)(hvk:∀k,ai v'=some k->w.heap.size<=k):
  aB P w0 env κ F U tmp blk L a w o (.row m) [(m,some (.qrow ety row lE))]:=by
 have hle:=h.below.size;refine⟨v',w',upd κ m v',F,hr,?_,⟨(ak κ m v').symm,?_⟩,?_⟩
 rotate_left 2
 ·refine⟨fun b hb=>ah (fun e=>hm (e▸hb)),fun _ h=>h,fun _ h=>.inl h,r3.size,fun k hk _=>r3.block k hk (by simp),fun b k h1 h2=>?_,.of fun k hk=>.inr (r3.block k hk (by simp))⟩
  by_cases e:b=m
  ·subst e;rw[ak]at h2;exact .inl (hvk k h2)
  ·rw[ah e]at h2
   rw[show aL blk [(m,some (SB.qrow ety row lE))] b=_ from ah e]at h1
   exact .inr ⟨b,h1,h2⟩
 ·have hbel:Below w.heap.size w w':=⟨r3.os,r3.tape,r3.output,r3.size,fun k hk=>r3.block k hk (by simp)⟩
  have hold:∀b k,aF (blk b)=true->ai (κ b)=some k->k<w.heap.size:=fun b k hb hk=>by
   obtain⟨y,hy,hl⟩:=bC hb;exact((h.blks b y hy).lt hl hk).2
  have hne:∀b,U b->b≠m:=fun b hb e=>hm (e▸hb)
  have hlive:∀b,aF (upd blk m (some (SB.qrow ety row lE)) b)=true->b=m\/(aF (blk b)=true/\b≠m):=fun b hb=>by
   by_cases e:b=m
   ·exact .inl e
   ·rw[ah e]at hb;exact .inr ⟨hb,e⟩
  refine h.world (fun b hb=>.inl hb) (fun b hb=>ah (hne b hb)) (fun k hk=>hk) (fun k hF=>hbel.block k (h.F k hF)) (fun b y hy=>?_) (fun b q k hb hq h1 h2=>?_) (fun b k hb h1=>?_) (fun k hF=>NW (h.F k hF) hbel.size) (h.below.trans (hbel.mono hle))
  ·by_cases e:b=m
   ·subst e;rw[show aL blk [(b,some (SB.qrow ety row lE))] b=_ from ak _ _ _]at hy;cases hy
    refine .inr ⟨⟨us,?_,u3,?_⟩,.inr ⟨_,List.mem_singleton.2 rfl,rfl⟩,fun c hc=>by cases hc⟩
    ·rw[ak];exact ym r2 hle
    ·exact hrow.keep (fun _ h=>h) (fun k hk=>hbel.block k (h.F k hk))
   ·rw[show aL blk [(m,some (SB.qrow ety row lE))] b=_ from ah e]at hy
    exact .inl ⟨hy,fun hl k h1=>hbel.block k (hold b k (by rw[hy];exact hl) h1)⟩
  ·rcases hlive b hb with rfl|⟨hb1,hb2⟩<;>rcases hlive q hq with rfl|⟨hq1,hq2⟩
   ·rfl
   ·rw[ak]at h1;rw[ah hq2]at h2
    have:=hold q _ hq1 h2;have:=hvk k h1;omega
   ·rw[ak]at h2;rw[ah hb2]at h1
    have:=hold b _ hb1 h1;have:=hvk k h2;omega
   ·rw[ah hb2]at h1;rw[ah hq2]at h2
    exact h.inj b q k hb1 hq1 h1 h2
  ·rcases hlive b hb with rfl|⟨hb1,hb2⟩
   ·rw[ak]at h1
    intro hF;have:=h.F _ hF;have:=hvk k h1;omega
   ·rw[ah hb2]at h1;exact h.nF b k hb1 h1
 ·rcases r2.2 with⟨rfl,_⟩|⟨g,o,cap,cur,fz,rfl,_⟩<;>rfl
theorem Jf(l:List UInt8)(tail:List Value):RowsDen F w (l.map (fun b=>Value.int .u8 b.toNat)) u8Row (au l):=by
 refine⟨fun i r hr=>?_,fun i r k x hr hx=>?_⟩
 ·simp only[au,Nm,Oe]at hr
  obtain⟨b,_,rfl⟩:=hr;rfl
 ·simp only[au,Nm,Oe]at hr
  obtain⟨b,hb,rfl⟩:=hr;match k,hx with
  |0,hx=>
   cases hx
   refine⟨.int .u8 b.toNat,?_,.raw _ rfl⟩
   have:u8Row.len=1:=rfl
   rw[this,Nl,NH];simp[hb]
theorem F5{o:Oper}{s d e ety m:Nat}{x:Operand}{y:E}(ho:o.op=.convert s d x)(h:Rel w0 env κ F U tmp blk L a w)(hm:¬U m)(hs:P.underlying s=some .string)(hd:P.underlying d=some (.slice e))(he:P.underlying e=some (.int .u8))
  (ht:aZ P d=some (ety,u8Row)) (hx:ag tmp x=.vr y) (hy:dV y=true) (hn:∀e'∈aG (.cmp' .le (ui y) (.int 140737488355328)),(den env e').b=true):aB P w0 env κ F U tmp blk L a w o (.row m) [(m,some (.qrow ety u8Row (.bofs y)))]:=by
 have vx:=mJ h hx hy;obtain⟨S,hS⟩:∃S,S=(den env y).s:=⟨_,rfl⟩
 rw[<-hS]at vx;have n1:=aK (aA hn);rw[lG,<-hS]at n1;have n1:(S.length:Int)<=140737488355328:=of_decide_eq_true n1
 obtain⟨u1,_⟩:=bn ht;rw[hd]at u1;cases u1
 have hsz:(⟨S.toArray⟩:ByteArray).size=S.length:=by simp[ByteArray.size]
 have h63:S.length<=maxLen:=by unfold maxLen;omega
 have hrun:=Lib.run_convert_string_bytes (P:=P) w s d e ⟨S.toArray⟩ hs hd he;rw[hsz]at hrun;have hR:bL P o a w _ _:=.inl (by simp only[execOp,ho,vx,Sem.run_bind,hrun,Result.andThen_ok,Sem.run_pure];rfl)
 have hrows:(den env (.bofs y)).l=au S:=by rw[hS];rfl
 have hge:=grownCap_ge w S.length 0 e;have hbs:(Lib.bytesCells w e ⟨S.toArray⟩).size=grownCap w S.length 0 e:=by
  unfold Lib.bytesCells;rw[Oq,Array.size_map,Array.size_replicate,hsz];show S.toArray.size+_=_
  rw[NG];omega
 have hlen:(den env (.bofs y)).l.length=S.length:=by rw[hrows];simp[au]
 refine JU h hm hR (us:=S.map (fun b=>Value.int .u8 b.toNat)) ⟨?_,.inr ⟨w.heap.size,0,_,_,_,by rw[hlen],Nv _,Lib.bytesWorld_at_new w e ⟨S.toArray⟩,.inr (Nv _),?_,grownCap_le_maxLen w _ 0 e h63,?_,?_⟩⟩ (Nat.zero_lt_one) ?_ ⟨?_,?_,?_,?_,?_⟩ (fun k hk=>by cases hk;exact Nv _)
 ·rw[hlen,NL];exact(Nl _).symm
 ·rw[hlen];exact hge
 ·rw[hbs];show 0+_*1<=_;omega
 ·have e1:(den env (.bofs y)).l.length*u8Row.len=S.length:=by rw[hlen];exact Nl _
  rw[e1,List.drop_zero];simp[Lib.bytesCells]
 ·rw[hrows];exact Jf S []
 all_goals first|(unfold Lib.bytesWorld World.freeze;split<;>rfl)|skip
 ·rw[Lib.bytesWorld_size];omega
 ·intro k hk _;exact Lib.bytesWorld_at_old w e _ k hk
theorem J4{o:Oper}{s d nm:Nat}{x:Operand}(ho:o.op=.convert s d x)(h:Rel w0 env κ F U tmp blk L a w){needs:List E}{v:SV}{wr:List (Nat×Option SB)}(hm:wr≠[]->¬U nm)
  (hc:rI P nm blk s d (ag tmp x)=some (.ok needs v wr)) (hn:∀e∈needs,(den env e).b=true):aB P w0 env κ F U tmp blk L a w o v wr:=by
 unfold rI at hc;split at hc
 ·rename_i e hs hd
  split at hc
  ·rename_i ety r y ht hx
   split at hc
   ·rename_i hh
    obtain⟨h1,h2,rfl⟩:=hh;cases hc
    exact F5 ho h (hm (by simp)) hs hd (w8 h2) ht hx h1 hn
   ·cases hc
  ·cases hc
 ·rename_i hs hd
  split at hc
  ·rename_i e hx
   split at hc
   ·rename_i hh
    cases hc
    have hev:=h.ev x;rw[hx]at hev;refine aj h (u:=a.eval x) (.inl ?_) hev
    have vx:=mJ h hx hh;simp[execOp,ho,vx,convert,run_underlying hs,run_underlying hd]
   ·cases hc
  ·cases hc
 ·rename_i e hs hd
  split at hc
  ·rename_i ety r u l ht hl
   split at hc
   ·rename_i hh
    obtain⟨h1,rfl,h3⟩:=hh;cases hc
    exact Gc ho h hs hd (w8 h1) ht hl h3
   ·cases hc
  ·cases hc
 ·cases hc
theorem Kg{o:Oper}{op:BinOp}{t ty:TypeId}{x y:Operand}(ho:o.op=.binOp op t x y ty)(h:Rel w0 env κ F U tmp blk L a w){needs:List E}{v:SV}{wr:List (Nat×Option SB)}
  {p q:E} (hx:ag tmp x=.vi p) (hy:ag tmp y=.vr q) (hc:Dp op p q=some (.ok needs v wr)):aB P w0 env κ F U tmp blk L a w o v wr:=by
 have vx:a.eval x=.int .i64 (den env p).i:=by have:=h.ev x;rw[hx]at this;exact this.1
 have vy:∀k n,q=.oint k n->a.eval y=.int k n:=fun k n e=>by
  have:=h.ev y
  rw[hy]at this;have h3:=eR (env:=env) (e:=q) (k:=k) (by rw[e];rfl)
  have h4:=AV.raw.inj (this.1.symm.trans h3);rw[h4,e];rfl
 unfold Dp at hc;split at hc
 ·rename_i k m
  cases hc
  refine aj h (u:=.int .i64 (IOp.f .shl (den env p).i m)) (.inl ?_) ⟨by rw[bQ];rfl,by rw[bQ];rfl⟩
  simp only[execOp,ho,vx,vy k _ rfl];have hg:((eqGuard .shl t x y (.int .i64 (den env p).i) (.int k (Om m))).run P w)=.ok () w:=by unfold eqGuard;simp
  simp only[Sem.run_bind,hg,Result.andThen_ok,binOp,Op.shift];rw[if_neg (show ¬Om m<0 by simp)]
  rfl
 ·rename_i k m
  cases hc
  refine aj h (u:=.int .i64 (IOp.f .shr (den env p).i m)) (.inl ?_) ⟨by rw[bQ];rfl,by rw[bQ];rfl⟩
  simp only[execOp,ho,vx,vy k _ rfl];have hg:((eqGuard .shr t x y (.int .i64 (den env p).i) (.int k (Om m))).run P w)=.ok () w:=by unfold eqGuard;simp
  simp only[Sem.run_bind,hg,Result.andThen_ok,binOp,Op.shift];rw[if_neg (show ¬Om m<0 by simp)]
  rfl
 ·cases hc
theorem KR{o:Oper}{op:BinOp}{t ty:TypeId}{x y:Operand}(ho:o.op=.binOp op t x y ty)(h:Rel w0 env κ F U tmp blk L a w){needs:List E}{v:SV}{wr:List (Nat×Option SB)}
  (hc:ES P op t (ag tmp x) (ag tmp y)=some (.ok needs v wr)) (hn:∀e∈needs,(den env e).b=true):aB P w0 env κ F U tmp blk L a w o v wr:=by
 unfold ES at hc;split at hc
 ·rename_i p q hx hy
  exact IG ho h hx hy hc hn
 ·rename_i p q hx hy
  exact Kg ho h hx hy hc
 ·exact Ir ho h hc
theorem uT(a b:ByteArray):(a==b)=true↔a=b:=by
 obtain⟨a⟩:=a;obtain⟨b⟩:=b;show(a==b)=true↔_
 simp
theorem EM{t:Nat}(ht:P.underlying t=some .string)(s:ByteArray)(es:List MapEntry)(hes:∀e∈es,∃s',e.key=.string s'):
  ∃r,(Instr.findKey t (.string s) es).run P w=.ok r w/\((r=none/\∀e∈es,e.key≠.string s)\/∃i e,es[i]?=some e/\e.key=.string s/\(∀(j:Nat) e',j<i->es[j]?=some e'->e'.key≠.string s)/\r=some (i,e.val)):=by
 have hnow:∀(es:List MapEntry) (i0:Nat),(∀e∈es,∃s',e.key=.string s')->∃r,Instr.findNow .string (.string s) es i0=some r/\((r=none/\∀e∈es,e.key≠.string s)\/∃i e,es[i]?=some e/\e.key=.string s/\(∀(j:Nat) e',j<i->es[j]?=some e'->e'.key≠.string s)/\r=some (i0+i,e.val)):=by
  intro es;induction es with
  |nil=>intro i _;exact⟨none,rfl,.inl ⟨rfl,fun e he=>by cases he⟩⟩
  | cons x es ih=>
   intro i0 hes;obtain⟨s',hxk⟩:=hes x (Nu ..);by_cases e:s=s'
   ·subst e
    exact⟨some (i0,x.val),by simp[Instr.findNow,Instr.sameNow,hxk,(uT s s).2 rfl],.inr ⟨0,x,rfl,hxk,fun j e' hj=>by omega,rfl⟩⟩
   ·obtain⟨r,h3,h4⟩:=ih (i0+1) (fun e he=>hes e (Nh _ he))
    have e0:(s==s')=false:=by rw[<-Bool.not_eq_true,uT];exact e
    have hx:x.key≠.string s:=by rw[hxk];intro hh;cases hh;exact e rfl
    refine⟨r,by simp[Instr.findNow,Instr.sameNow,hxk,e0,h3],?_⟩
    rcases h4 with⟨h4,h5⟩|⟨i,e',h4,h5,h6,h7⟩
    ·refine .inl ⟨h4,fun e' he=>?_⟩
     rcases List.mem_cons.1 he with rfl|he
     ·exact hx
     ·exact h5 e' he
    ·refine .inr ⟨i+1,e',by simpa using h4,h5,fun j e'' hj he'=>?_,by rw[h7];congr 2;omega⟩
     cases j with
     |zero=>simp at he';subst he';exact hx
     |succ j=>exact h6 j e'' (by omega) (by simpa using he')
 unfold Instr.findKey;obtain⟨r,h3,h4⟩:=hnow es 0 hes;exact⟨r,by simp[run_underlying ht,h3],by simpa using h4⟩
theorem oj{k:IntKind}{r:List AV}{e:MapEntry}(he:fo (qi k) r e):∃s v,r=[.raw (ar s),.raw (.int k v)]/\e.key=ar s/\e.val=.int k v:=by
 rcases he with⟨h,_⟩|⟨h,_⟩|⟨k',h,h2⟩
 ·cases h
 ·cases h
 ·cases h;exact h2
theorem Jm{a b:List UInt8}(h:ar a=ar b):a=b:=by
 unfold ar at h;injection h with h
 injection h with h
 simpa using h
theorem Bp{k:IntKind}(s:List UInt8)(r:List AV)(e:MapEntry)(he:fo (qi k) r e):bY [.raw (ar s)] r=true↔e.key=ar s:=by
 obtain⟨s',v,rfl,h1,_⟩:=oj he;rw[h1];have:bY [.raw (ar s)] [.raw (ar s'),.raw (.int k v)]=(s==s'):=by
  show(decide ((0:Int)=0)&&((AV.raw (ar s)).s==(AV.raw (ar s')).s&&true))=_
  simp[AV.s,AV.r,ar]
 rw[this];exact⟨fun h=>by rw[eq_of_beq h],fun h=>by rw[Jm h];exact beq_self_eq_true _⟩
theorem rV{t:Nat}(ht:P.underlying t=some .string)(s:ByteArray)(e:Bool)(n:Nat):(Instr.checkKey e (n+1) t (.string s)).run P w=.ok () w:=by
 simp[Instr.checkKey,run_underlying ht]
theorem IE(s:ByteArray):(Instr.keyThatStays (.string s) (.string s)).run P w=.ok (.string s) w:=by
 have:Instr.sameBits 10000 (.string s) (.string s)=true:=by simp[Instr.sameBits,(uT s s).2 rfl]
 simp[Instr.keyThatStays,this]
theorem Au{o:Oper}{t:Nat}{x y z:Operand}(ho:o.op=.insert t x y z\/o.op=.mapUpdate t x y z)(h:Rel w0 env κ F U tmp blk L a w){needs:List E}{v:SV}{wr:List (Nat×Option SB)}
  (hc:lR P blk t (ag tmp x) (ag tmp y) (ag tmp z)=some (.ok needs v wr)):aB P w0 env κ F U tmp blk L a w o v wr:=by
 unfold lR at hc;split at hc
 rotate_left
 ·cases hc
 rename_i b kt et hx ht
 split at hc
 rotate_left
 ·cases hc
 rename_i hkt
 unfold zo at hc;split at hc
 rotate_left
 ·cases hc
 rename_i ke xe kd l hy hz hb
 split at hc
 rotate_left
 ·cases hc
 rename_i hh
 obtain⟨c1,c2⟩:=hh;cases hc
 have hex:=h.ev x;rw[hx]at hex;obtain⟨r,g1,g2⟩:=hex;obtain⟨r0,es,clock,g3,g4,g5,g9⟩:=h.blks b _ hb;rw[g1]at g3;cases g3
 obtain⟨S,hS⟩:∃S,S=(den env ke).s:=⟨_,rfl⟩
 have vy:a.eval y=ar S:=by rw[hS];exact mJ h hy c1
 have vz:a.eval z=.int kd (den env xe).num:=pO (x:=ag tmp z) (by rw[hz];simp[SV.numOf,c2]) (h.ev z)
 have hxe:den env xe=.raw (.int kd (den env xe).num):=eR c2
 have hke:den env ke=.raw (ar S):=by rw[hS];exact jq c1
 have hkg:(den env (.rcons ke .rnil)).g=[.raw (ar S)]:=by show[den env ke]=_;rw[hke]
 have hkes:∀e∈es.toList,∃s',e.key=.string s':=fun e he=>by
  obtain⟨i,hi,hie⟩:=NE he;have hi2:i<(den env l).l.length:=by rw[<-g9.1];exact hi
  obtain⟨s',_,_,h1,_⟩:=oj (g9.2 i _ e (M9 hi2) (by rw[M9 hi,hie]))
  exact⟨_,h1⟩
 obtain⟨fr,f1,f2⟩:=EM (w:=w) hkt ⟨S.toArray⟩ es.toList hkes
 obtain⟨m1,m2⟩:=zn (k:=[.raw (ar S)]) (u:=ar S) (kd:=kd) (den env xe) (fun r e he=>Bp S r e he) (fun r e he=>by obtain⟨s',v,rfl,_,h2⟩:=oj he;rw[h2];rfl) _ _ g9
 have hent:∀e:MapEntry,e.key=a.eval y->e.val=a.eval z->fo (qi kd) ([.raw (ar S)]++[den env xe]) e:=fun e h1 h2=>
  .inr (.inr ⟨kd,rfl,S,(den env xe).num,by rw[hxe];rfl,by rw[h1,vy],by rw[h2,vz]⟩)
 have hnew:∃es':Array MapEntry,∃clock',(Instr.mapUpdate t (a.eval x) (a.eval y) (a.eval z)).run P w=.ok () { w with heap:=w.heap.setIfInBounds r (.map es' clock') }/\m4 (qi kd) (eA [.raw (ar S)] (den env xe) (den env l).l) es'.toList:=by
  rcases f2 with⟨rfl,hno⟩|⟨i,e,q1,q2,q3,rfl⟩
  ·refine⟨es.push { key:=a.eval y,val:=a.eval z,born:=clock },clock+1,?_,?_⟩
   ·rw[g2,vy]
    simp only[ar,Instr.mapUpdate,run_underlying ht,Sem.run_bind,Result.andThen_ok,run_getObj_map w r es clock g4,rV hkt,f1,fj _ g4]
   ·rw[(m1 hno).1]
    refine⟨by simp[g9.1],fun j row e h1 h2=>?_⟩
    simp only[On]at h2;by_cases hj:j<(den env l).l.length
    ·rw[Nb hj]at h1
     rw[Nb (by rw[g9.1];exact hj)]at h2
     exact g9.2 j row e h1 h2
    ·rw[Na (by omega)]at h1
     rw[Na (by rw[g9.1];omega),g9.1]at h2
     have h0:j-(den env l).l.length=0:=by
      have:=(List.getElem?_eq_some_iff.1 h1).1;simp at this;omega
     rw[h0]at h1 h2;simp at h1 h2
     subst h1;subst h2;exact hent _ rfl rfl
  ·have hie:es[i]?=some e:=by rw[<-Nn];exact q1
   refine⟨es.modify i fun e=>{ e with key:=a.eval y,val:=a.eval z },clock,?_,?_⟩
   ·rw[g2,vy]
    have hst:(((es[i]?).map (·.key)).getD (Value.string ⟨S.toArray⟩))=Value.string ⟨S.toArray⟩:=by rw[hie];exact q2
    simp only[ar,Instr.mapUpdate,run_underlying ht,Sem.run_bind,Result.andThen_ok,run_getObj_map w r es clock g4,rV hkt,f1,hst,IE,fj _ g4]
   ·rw[(m2 i e q1 q2 q3).1]
    refine⟨by simp[g9.1],fun j row e' h1 h2=>?_⟩
    simp only[Oj]at h2;rw[Oi]at h2;rw[Oo]at h1;by_cases hj:i=j
    ·subst hj
     rw[if_pos rfl]at h1;split at h1
     ·cases h1
      rw[q1]at h2;simp at h2
      subst h2;exact hent _ rfl rfl
     ·cases h1
    ·rw[if_neg hj]at h1
     obtain⟨e0,he0,he1⟩:=Option.map_eq_some_iff.1 h2;simp[hj]at he1
     subst he1;exact g9.2 j row e0 h1 he0
 obtain⟨es',clock',hrun,hden⟩:=hnew;obtain⟨W,hW⟩:∃W,W={ w with heap:=w.heap.setIfInBounds r (.map es' clock') }:=⟨_,rfl⟩
 rw[<-hW]at hrun;have hlt:=dt g4;have hR:bL P o a w undef W:=.inr ⟨rfl,by
  rcases ho with ho|ho<;>simp only[execOp,ho,Sem.run_bind,hrun,Result.andThen_ok,Sem.run_pure]⟩
 have hw:∀k,ai (κ b)≠some k->W.heap[k]?=w.heap[k]?:=fun k hk=>by
  rw[hW];have:r≠k:=fun e=>hk (by rw[g1,e];rfl)
  simp[this]
 have hsz:W.heap.size=w.heap.size:=by rw[hW];simp
 refine⟨undef,W,κ,F,hR,?_,trivial,h.stored_kept hb rfl rfl hw hsz⟩
 refine(h.stored (y:=.amap (qi kd) (.mput l (.rcons ke .rnil) xe)) hb rfl hw hsz ?_ (fun c hc=>by cases hc) ?_).monoU (fun b hb=>.inl hb)
 ·exact⟨r,es',clock',g1,by rw[hW];simp[hlt],g5,by
   show m4 (qi kd) (eA (den env (.rcons ke .rnil)).g (den env xe) (den env l).l) es'.toList
   rw[hkg];exact hden⟩
 ·refine h.below.trans ⟨by rw[hW],by rw[hW],by rw[hW],by omega,fun k hk=>hw k (fun e=>?_)⟩
  rw[g1]at e;have e:r=k:=by simpa[ai]using e
  omega
theorem GV{o:Oper}{t:Nat}{x y:Operand}{ok:Bool}(ho:o.op=.lookup t x y ok)(h:Rel w0 env κ F U tmp blk L a w){needs:List E}{v:SV}{wr:List (Nat×Option SB)}
  (hc:pQ P blk t (ag tmp x) (ag tmp y) ok=some (.ok needs v wr)):aB P w0 env κ F U tmp blk L a w o v wr:=by
 unfold pQ at hc;split at hc
 rotate_left
 ·cases hc
 rename_i b kt et hx ht
 split at hc
 rotate_left
 ·cases hc
 rename_i z hkt hz
 unfold E7 at hc;split at hc
 rotate_left
 ·cases hc
 rename_i ke kd l hy hb
 split at hc
 rotate_left
 ·cases hc
 rename_i hh
 obtain⟨c1,rfl⟩:=hh;cases hc
 have hex:=h.ev x;rw[hx]at hex;obtain⟨r,g1,g2⟩:=hex;obtain⟨r0,es,clock,g3,g4,g5,g9⟩:=h.blks b _ hb;rw[g1]at g3;cases g3
 obtain⟨S,hS⟩:∃S,S=(den env ke).s:=⟨_,rfl⟩
 have vy:a.eval y=ar S:=by rw[hS];exact mJ h hy c1
 have hke:den env ke=.raw (ar S):=by rw[hS];exact jq c1
 have hkg:(den env (.rcons ke .rnil)).g=[.raw (ar S)]:=by show[den env ke]=_;rw[hke]
 have hkes:∀e∈es.toList,∃s',e.key=.string s':=fun e he=>by
  obtain⟨i,hi,hie⟩:=NE he;have hi2:i<(den env l).l.length:=by rw[<-g9.1];exact hi
  obtain⟨s',_,_,h1,_⟩:=oj (g9.2 i _ e (M9 hi2) (by rw[M9 hi,hie]))
  exact⟨_,h1⟩
 obtain⟨fr,f1,f2⟩:=EM (w:=w) hkt ⟨S.toArray⟩ es.toList hkes
 obtain⟨m1,m2⟩:=zn (k:=[.raw (ar S)]) (u:=ar S) (kd:=kd) (.int 0) (fun r e he=>Bp S r e he) (fun r e he=>by obtain⟨s',v,rfl,_,h2⟩:=oj he;rw[h2];rfl) _ _ g9
 unfold bM at hz;obtain⟨zv,hz1,hz3⟩:=Option.map_eq_some_iff.1 hz;obtain⟨i,hi,hz2⟩:=Option.bind_eq_some_iff.1 hz1;have hzero:(zeroValue et).run P w=.ok zv w:=by simp[zeroValue,typeInfo,hi,hz2]
 have hzv:zv=.int kd 0:=by
  have:=cT (env:=env) (κ:=κ) (F:=F) (w:=w) zv
  rw[hz3]at this;exact AV.raw.inj (this.1.symm.trans rfl)
 have key:(Instr.lookup t (a.eval x) (a.eval y) false).run P w=.ok (.int kd (cb [.raw (ar S)] (den env l).l)) w:=by
  rcases f2 with⟨rfl,hno⟩|⟨i,e,q1,q2,q3,rfl⟩
  ·obtain⟨_,j2,j3⟩:=m1 hno
   rw[g2,vy,j3];simp only[ar,Instr.lookup,run_underlying ht,Sem.run_bind,Result.andThen_ok,run_getObj_map w r es clock g4,rV hkt,f1,hzero,hzv,Sem.run_pure];rfl
  ·obtain⟨_,j2,j3⟩:=m2 i e q1 q2 q3
   rw[g2,vy,<-j3];simp only[ar,Instr.lookup,run_underlying ht,Sem.run_bind,Result.andThen_ok,run_getObj_map w r es clock g4,rV hkt,f1,Sem.run_pure];rfl
 refine aj h (.inl (by simp only[execOp,ho,Sem.run_bind,key,Result.andThen_ok,Sem.run_pure];rfl)) ?_
 have hd:den env (.co (.num kd) (.mget l (.rcons ke .rnil)))=.raw (.int kd (cb [.raw (ar S)] (den env l).l)):=by
  show AV.raw (.int kd (cb (den env (.rcons ke .rnil)).g (den env l).l))=_
  rw[hkg]
 refine⟨hd.symm▸rfl,rfl⟩
end Go.Sx
