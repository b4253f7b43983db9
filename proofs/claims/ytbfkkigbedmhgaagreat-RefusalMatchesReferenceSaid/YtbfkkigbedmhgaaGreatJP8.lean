/-
  Texts of this claim, joined (part 8).
-/
import Derived.Test.YtbfkkigbedmhgaaGreatJP7
open Option renaming bind_some → v0
open Nat renaming zero_le → v1
open Bool renaming not_true → v2
open List renaming length_append → v3, not_mem_nil → v4, mem_cons → v5
set_option linter.unusedVariables false
set_option linter.unusedSimpArgs false
set_option linter.unusedSectionVars false
set_option linter.constructorNameAsVariable false
set_option maxRecDepth 100000
namespace Go.Proofs.YtbfkkigbedmhgaaGreat
open Go Go.Sx Go.Dial.Ref Go.Dial.Rou Go.Dial.Fwd
abbrev A8(r:Rf):List AV:=[.int r.k,.int r.n,.int r.rk,.sl (.cons .int .nil) (iL r.rp),.sl (.cons .int .nil) (iL r.ru),.sl (.cons .int (.cons .int .nil)) (hpL r.hs),.int r.s]
abbrev rfL(l:List Rf):Lv:=l.map A8
theorem OV{l:List Rf}{i:Nat}{r:Rf}(h:l[i]?=some r):cI (rfL l) (i:Int) 0=r.k/\cI (rfL l) (i:Int) 1=r.n/\cI (rfL l) (i:Int) 2=r.rk/\cL (rfL l) (i:Int) 3=iL r.rp/\cL (rfL l) (i:Int) 4=iL r.ru/\cL (rfL l) (i:Int) 5=hpL r.hs/\cI (rfL l) (i:Int) 6=r.s:=by
 have hc:∀k,cA (rfL l) (i:Int) k=(A8 r).getD k (.int 0):=fun k=>cx (by simpa using h)
 simp only[cI,cL,hc];exact⟨rfl,rfl,rfl,rfl,rfl,rfl,rfl⟩
theorem Ks(l:List Rf)(r q:Rf):(rfL l++[A8 r])++[A8 q]=rfL (l++[r,q]):=by
 show _=List.map _ _
 rw[List.map_append,List.append_assoc];rfl
theorem Ba(l:List Rf):((rfL l).length:Int)=(l.length:Int):=by rw[List.length_map]
theorem KV(g:Gr)(hs:Small g)(m t c:Int):∃R e,d9 N0 (lnL g.ls) (seL g.ss) (coL g.cs) (iL g.h) (iL g.k) g.lag g.r.a g.r.c g.r.s g.r.r g.c.n g.c.f g.c.t g.c.h g.c.a g.c.b (ceL g.ce) g.nn (edL g.es) m t c=some (vt R e)/\iA N0 (lnL g.ls) (seL g.ss) (coL g.cs) (iL g.h) (iL g.k) g.lag g.r.a g.r.c g.r.s g.r.r g.c.n g.c.f g.c.t g.c.h g.c.a g.c.b (ceL g.ce) g.nn (edL g.es) m t c=some (vt R e)/\RSmall R.1/\R.1.rp.length<=100/\R.1.ru.length<=100/\R.1.hs.length<=100:=by
 rw[CR N0 g hs m t c Bn,vK N0 g hs m t c Bn];by_cases hok:bN g m t c
 ·have hcv:=iz hok
  rw[if_pos hok];refine⟨_,_,rfl,rfl,Md hok,?_⟩
  have h1:=hcv.wlen;have h2:=hcv.ulen;have h3:=hcv.plen;unfold vl pD;split
  ·exact⟨v1 _,v1 _,v1 _⟩
  ·repeat' split
   all_goals exact⟨by first|exact v1 _|(dsimp only;omega),by first|exact v1 _|(dsimp only;omega),by first|exact v1 _|(dsimp only;omega)⟩
 ·rw[if_neg hok]
  exact⟨_,_,rfl,rfl,Nk,v1 _,v1 _,v1 _⟩
theorem Nq(g:Gr)(hs:Small g)(m t c:Int):∃(a b k:Int) (p u:List Int) (q:List (Int×Int)) (ld:Bool) (e:Int),fJ N0 (lnL g.ls) (seL g.ss) (coL g.cs) (iL g.h) (iL g.k) g.lag g.r.a g.r.c g.r.s g.r.r g.c.n g.c.f g.c.t g.c.h g.c.a g.c.b (ceL g.ce) g.nn (edL g.es) m t c=some (a,b,k,iL p,iL u,hpL q,ld,e)/\mR N0 (lnL g.ls) (seL g.ss) (coL g.cs) (iL g.h) (iL g.k) g.lag g.r.a g.r.c g.r.s g.r.r g.c.n g.c.f g.c.t g.c.h g.c.a g.c.b (ceL g.ce) g.nn (edL g.es) m t c=some (a,b,k,iL p,iL u,hpL q,ld,e)/\p.length<=1000/\u.length<=1000/\q.length<=1000:=by
 rw[Fd N0 g hs m t c Bn,IB N0 g hs m t c Bn];by_cases hok:bN g m t c
 ·have hcv:=iz hok
  rw[if_pos hok];by_cases h:(vl g m t c).2=true
  ·rw[if_pos h];exact⟨0,0,0,[],[],[],false,0,rfl,rfl,by simp,by simp,by simp⟩
  ·rw[if_neg h];exact⟨_,_,_,(wy g m t).2.1,(wy g m t).2.2,(hp g c).1,true,0,rfl,rfl,by have:=hcv.wlen;omega,by have:=hcv.ulen;omega,by have:=hcv.plen;omega⟩
 ·rw[if_neg hok];exact⟨0,0,0,[],[],[],false,280,rfl,rfl,by simp,by simp,by simp⟩
theorem Qt(g h':Gr)(hg:Small g)(hh:Small h')(i:Nat)(hi:i<2):∃e:Gr,Small e/\∀ {β:Type} (F:Lv->Lv->Lv->Lv->Lv->Int->Int->Int->Int->Int->Int->Int->Int->Int->Int->Bool->Lv->Int->Lv->β),e9 (dR (lnL g.ls) (seL g.ss) (coL g.cs) (iL g.h) (iL g.k) g.lag g.r.a g.r.c g.r.s g.r.r g.c.n g.c.f g.c.t g.c.h g.c.a g.c.b (ceL g.ce) g.nn (edL g.es) (lnL h'.ls) (seL h'.ss) (coL h'.cs) (iL h'.h) (iL h'.k) h'.lag h'.r.a h'.r.c h'.r.s h'.r.r h'.c.n h'.c.f h'.c.t h'.c.h h'.c.a h'.c.b (ceL h'.ce) h'.nn (edL h'.es)) (i:Int) F=F (lnL e.ls) (seL e.ss) (coL e.cs) (iL e.h) (iL e.k) e.lag e.r.a e.r.c e.r.s e.r.r e.c.n e.c.f e.c.t e.c.h e.c.a e.c.b (ceL e.ce) e.nn (edL e.es):=by
 match i,hi with
 |0,_=>exact⟨g,hg,fun F=>rfl⟩
 |1,_=>exact⟨h',hh,fun F=>rfl⟩
theorem y6(g h' e:Gr)(hs:Small e)(i:Int)(hof:∀ {β:Type} (F:Lv->Lv->Lv->Lv->Lv->Int->Int->Int->Int->Int->Int->Int->Int->Int->Int->Bool->Lv->Int->Lv->β),e9 (dR (lnL g.ls) (seL g.ss) (coL g.cs) (iL g.h) (iL g.k) g.lag g.r.a g.r.c g.r.s g.r.r g.c.n g.c.f g.c.t g.c.h g.c.a g.c.b (ceL g.ce) g.nn (edL g.es) (lnL h'.ls) (seL h'.ss) (coL h'.cs) (iL h'.h) (iL h'.k) h'.lag h'.r.a h'.r.c h'.r.s h'.r.r h'.c.n h'.c.f h'.c.t h'.c.h h'.c.a h'.c.b (ceL h'.ce) h'.nn (edL h'.es)) i F=F (lnL e.ls) (seL e.ss) (coL e.cs) (iL e.h) (iL e.k) e.lag e.r.a e.r.c e.r.s e.r.r e.c.n e.c.f e.c.t e.c.h e.c.a e.c.b (ceL e.ce) e.nn (edL e.es))(l:List Rf)(hl:l.length<=100)(hsm:∀r∈l,RSmall r)(a b c p1 p2 p3 p4 p5 p6 x y z:Int)(h d:ap->Option aj)(k:Int)(hk:0<=k/\k<=100):∀(m n' j:Nat),m<n'->j+m=l.length+2 →
  ab (fun f s=>bc N0 h d f a b c (lnL g.ls) (seL g.ss) (coL g.cs) (iL g.h) (iL g.k) g.lag g.r.a g.r.c g.r.s g.r.r g.c.n g.c.f g.c.t g.c.h g.c.a g.c.b (ceL g.ce) g.nn (edL g.es) p1 p2 p3 p4 p5 p6 (lnL h'.ls) (seL h'.ss) (coL h'.cs) (iL h'.h) (iL h'.k) h'.lag h'.r.a h'.r.c h'.r.s h'.r.r h'.c.n h'.c.f h'.c.t h'.c.h h'.c.a h'.c.b (ceL h'.ce) h'.nn (edL h'.es) i (rfL l) x y z k s) n' ((j:Int):ap)=d (k+1):=by
 have hL:dx (rfL l) x y z=rfL (l++[⟨x,10+y,0,[],[],[],0⟩,⟨7,0,0,[],[],[],z⟩]):=Ks l ⟨x,10+y,0,[],[],[],0⟩ ⟨7,0,0,[],[],[],z⟩
 have hsm2:∀r∈l++[⟨x,10+y,0,[],[],[],0⟩,⟨7,0,0,[],[],[],z⟩],RSmall r:=fun r hr=>by
  rcases List.mem_append.1 hr with hr|hr
  ·exact hsm r hr
  ·simp only[v5,v4,or_false]at hr
   rcases hr with rfl|rfl<;>exact⟨v1 _,v1 _,v1 _⟩
 intro m;induction m with
 | zero=>
  intro n' j hm hj;cases n' with
  |zero=>omega
  |succ n'=>
   rw[ae];show bc N0 h d _ a b c (lnL g.ls) (seL g.ss) (coL g.cs) (iL g.h) (iL g.k) g.lag g.r.a g.r.c g.r.s g.r.r g.c.n g.c.f g.c.t g.c.h g.c.a g.c.b (ceL g.ce) g.nn (edL g.es) p1 p2 p3 p4 p5 p6 (lnL h'.ls) (seL h'.ss) (coL h'.cs) (iL h'.h) (iL h'.k) h'.lag h'.r.a h'.r.c h'.r.s h'.r.r h'.c.n h'.c.f h'.c.t h'.c.h h'.c.a h'.c.b (ceL h'.ce) h'.nn (edL h'.es) i (rfL l) x y z k (j:Int)=_
   unfold bc;rw[Ba,kF (by omega),kG (by omega)]
 | succ m ih=>
  intro n' j hm hj;cases n' with
  |zero=>omega
  |succ n'=>
   rw[ae];have hih:=ih n' (j+1) (by omega) (by omega)
   generalize (ab (fun f s=>bc N0 h d f a b c (lnL g.ls) (seL g.ss) (coL g.cs) (iL g.h) (iL g.k) g.lag g.r.a g.r.c g.r.s g.r.r g.c.n g.c.f g.c.t g.c.h g.c.a g.c.b (ceL g.ce) g.nn (edL g.es) p1 p2 p3 p4 p5 p6 (lnL h'.ls) (seL h'.ss) (coL h'.cs) (iL h'.h) (iL h'.k) h'.lag h'.r.a h'.r.c h'.r.s h'.r.r h'.c.n h'.c.f h'.c.t h'.c.h h'.c.a h'.c.b (ceL h'.ce) h'.nn (edL h'.es) i (rfL l) x y z k s) n':ap->Option aj)=f at hih
   rw[show((j+1:Nat):Int)=(j:Int)+1 by omega]at hih
   obtain⟨r,hr⟩:=aF (l:=l++[⟨x,10+y,0,[],[],[],0⟩,⟨7,0,0,[],[],[],z⟩]) (i:=j) (by rw[v3];show j<l.length+2;omega)
   obtain⟨k0,k1,k2,k3,k4,k5,k6⟩:=OV hr;have hrs:=hsm2 r (List.mem_of_getElem? hr);show bc N0 h d f a b c (lnL g.ls) (seL g.ss) (coL g.cs) (iL g.h) (iL g.k) g.lag g.r.a g.r.c g.r.s g.r.r g.c.n g.c.f g.c.t g.c.h g.c.a g.c.b (ceL g.ce) g.nn (edL g.es) p1 p2 p3 p4 p5 p6 (lnL h'.ls) (seL h'.ss) (coL h'.cs) (iL h'.h) (iL h'.k) h'.lag h'.r.a h'.r.c h'.r.s h'.r.r h'.c.n h'.c.f h'.c.t h'.c.h h'.c.a h'.c.b (ceL h'.ce) h'.nn (edL h'.es) i (rfL l) x y z k (j:Int)=_
   unfold bc;rw[hL,hof,hof,k0,k1,k2,k3,k4,k5,k6,Ba,kT (by omega),kT (by omega),Eg N0 e hs _ _ _ r hrs Bn,v0,GN N0 e hs _ _ _ r hrs Bn,v0,beq_self_eq_true,v2,cond_false,kG (by omega)]
   exact hih
theorem y5(g h' e:Gr)(hs:Small e)(i:Int)(hi:0<=i/\i<=100)(hof:∀ {β:Type} (F:Lv->Lv->Lv->Lv->Lv->Int->Int->Int->Int->Int->Int->Int->Int->Int->Int->Bool->Lv->Int->Lv->β),e9 (dR (lnL g.ls) (seL g.ss) (coL g.cs) (iL g.h) (iL g.k) g.lag g.r.a g.r.c g.r.s g.r.r g.c.n g.c.f g.c.t g.c.h g.c.a g.c.b (ceL g.ce) g.nn (edL g.es) (lnL h'.ls) (seL h'.ss) (coL h'.cs) (iL h'.h) (iL h'.k) h'.lag h'.r.a h'.r.c h'.r.s h'.r.r h'.c.n h'.c.f h'.c.t h'.c.h h'.c.a h'.c.b (ceL h'.ce) h'.nn (edL h'.es)) i F=F (lnL e.ls) (seL e.ss) (coL e.cs) (iL e.h) (iL e.k) e.lag e.r.a e.r.c e.r.s e.r.r e.c.n e.c.f e.c.t e.c.h e.c.a e.c.b (ceL e.ce) e.nn (edL e.es))(l:List Rf)(hl:l.length<=100)(hsm:∀r∈l,RSmall r)(a b c p1 p2 p3 p4 p5 p6 x y z:Int)(d:ap->Option aj):∀(m n' k:Nat),m<n'->k+m=3 →
  ab (fun f s=>bb N0 d f a b c (lnL g.ls) (seL g.ss) (coL g.cs) (iL g.h) (iL g.k) g.lag g.r.a g.r.c g.r.s g.r.r g.c.n g.c.f g.c.t g.c.h g.c.a g.c.b (ceL g.ce) g.nn (edL g.es) p1 p2 p3 p4 p5 p6 (lnL h'.ls) (seL h'.ss) (coL h'.cs) (iL h'.h) (iL h'.k) h'.lag h'.r.a h'.r.c h'.r.s h'.r.r h'.c.n h'.c.f h'.c.t h'.c.h h'.c.a h'.c.b (ceL h'.ce) h'.nn (edL h'.es) i (rfL l) x y z s) n' ((k:Int):ap)=d (i+1):=by
 intro m;induction m with
 | zero=>
  intro n' k hm hk;cases n' with
  |zero=>omega
  |succ n'=>
   rw[ae];show bb N0 d _ a b c (lnL g.ls) (seL g.ss) (coL g.cs) (iL g.h) (iL g.k) g.lag g.r.a g.r.c g.r.s g.r.r g.c.n g.c.f g.c.t g.c.h g.c.a g.c.b (ceL g.ce) g.nn (edL g.es) p1 p2 p3 p4 p5 p6 (lnL h'.ls) (seL h'.ss) (coL h'.cs) (iL h'.h) (iL h'.k) h'.lag h'.r.a h'.r.c h'.r.s h'.r.r h'.c.n h'.c.f h'.c.t h'.c.h h'.c.a h'.c.b (ceL h'.ce) h'.nn (edL h'.es) i (rfL l) x y z (k:Int)=_
   unfold bb;rw[kF (by omega),hof,hof,uD N0 e hs (by decide),v0,xX N0 e hs (by decide),v0,beq_self_eq_true,v2,cond_false,kG (by omega)]
 | succ m ih=>
  intro n' k hm hk;cases n' with
  |zero=>omega
  |succ n'=>
   rw[ae];have hih:=ih n' (k+1) (by omega) (by omega)
   generalize (ab (fun f s=>bb N0 d f a b c (lnL g.ls) (seL g.ss) (coL g.cs) (iL g.h) (iL g.k) g.lag g.r.a g.r.c g.r.s g.r.r g.c.n g.c.f g.c.t g.c.h g.c.a g.c.b (ceL g.ce) g.nn (edL g.es) p1 p2 p3 p4 p5 p6 (lnL h'.ls) (seL h'.ss) (coL h'.cs) (iL h'.h) (iL h'.k) h'.lag h'.r.a h'.r.c h'.r.s h'.r.r h'.c.n h'.c.f h'.c.t h'.c.h h'.c.a h'.c.b (ceL h'.ce) h'.nn (edL h'.es) i (rfL l) x y z s) n':ap->Option aj)=f at hih
   rw[show((k+1:Nat):Int)=(k:Int)+1 by omega]at hih
   show bb N0 d f a b c (lnL g.ls) (seL g.ss) (coL g.cs) (iL g.h) (iL g.k) g.lag g.r.a g.r.c g.r.s g.r.r g.c.n g.c.f g.c.t g.c.h g.c.a g.c.b (ceL g.ce) g.nn (edL g.es) p1 p2 p3 p4 p5 p6 (lnL h'.ls) (seL h'.ss) (coL h'.cs) (iL h'.h) (iL h'.k) h'.lag h'.r.a h'.r.c h'.r.s h'.r.r h'.c.n h'.c.f h'.c.t h'.c.h h'.c.a h'.c.b (ceL h'.ce) h'.nn (edL h'.es) i (rfL l) x y z (k:Int)=_
   unfold bb;rw[kT (by omega),kT (by omega)]
   exact(y6 g h' e hs i hof l hl hsm a b c p1 p2 p3 p4 p5 p6 x y z d f (k:Int) (by omega) (l.length+2) N0 0 (Nat.lt_of_le_of_lt (show l.length+2<=102 by omega) (by decide)) (by omega)).trans hih
theorem y4(g h' e:Gr)(hs:Small e)(i:Int)(hi:0<=i/\i<=100)(hof:∀ {β:Type} (F:Lv->Lv->Lv->Lv->Lv->Int->Int->Int->Int->Int->Int->Int->Int->Int->Int->Bool->Lv->Int->Lv->β),e9 (dR (lnL g.ls) (seL g.ss) (coL g.cs) (iL g.h) (iL g.k) g.lag g.r.a g.r.c g.r.s g.r.r g.c.n g.c.f g.c.t g.c.h g.c.a g.c.b (ceL g.ce) g.nn (edL g.es) (lnL h'.ls) (seL h'.ss) (coL h'.cs) (iL h'.h) (iL h'.k) h'.lag h'.r.a h'.r.c h'.r.s h'.r.r h'.c.n h'.c.f h'.c.t h'.c.h h'.c.a h'.c.b (ceL h'.ce) h'.nn (edL h'.es)) i F=F (lnL e.ls) (seL e.ss) (coL e.cs) (iL e.h) (iL e.k) e.lag e.r.a e.r.c e.r.s e.r.r e.c.n e.c.f e.c.t e.c.h e.c.a e.c.b (ceL e.ce) e.nn (edL e.es))(a b c how q o p1 p2 p3 p4 p5 p6:Int)(h1:ax how)(h2:ax q)(h3:ax o)(d:ap->Option aj):∀(m n' k:Nat) (l:List Rf),m<n'->k+m=3->l.length=2*k->(∀r∈l,RSmall r) →
  ab (fun f s=>be N0 d f a b c how q o (lnL g.ls) (seL g.ss) (coL g.cs) (iL g.h) (iL g.k) g.lag g.r.a g.r.c g.r.s g.r.r g.c.n g.c.f g.c.t g.c.h g.c.a g.c.b (ceL g.ce) g.nn (edL g.es) p1 p2 p3 p4 p5 p6 (lnL h'.ls) (seL h'.ss) (coL h'.cs) (iL h'.h) (iL h'.k) h'.lag h'.r.a h'.r.c h'.r.s h'.r.r h'.c.n h'.c.f h'.c.t h'.c.h h'.c.a h'.c.b (ceL h'.ce) h'.nn (edL h'.es) i s.1 s.2) n' ((rfL l,(k:Int)):ck)=d (i+1):=by
 have b8:=aR q (k:=8) (by decide)
 intro m;induction m with
 | zero=>
  intro n' k l hm hk hl hsm;cases n' with
  |zero=>omega
  |succ n'=>
   rw[ae];show be N0 d _ a b c how q o (lnL g.ls) (seL g.ss) (coL g.cs) (iL g.h) (iL g.k) g.lag g.r.a g.r.c g.r.s g.r.r g.c.n g.c.f g.c.t g.c.h g.c.a g.c.b (ceL g.ce) g.nn (edL g.es) p1 p2 p3 p4 p5 p6 (lnL h'.ls) (seL h'.ss) (coL h'.cs) (iL h'.h) (iL h'.k) h'.lag h'.r.a h'.r.c h'.r.s h'.r.r h'.c.n h'.c.f h'.c.t h'.c.h h'.c.a h'.c.b (ceL h'.ce) h'.nn (edL h'.es) i (rfL l) (k:Int)=_
   unfold be;rw[kF (by omega),eB N0 h1 (by decide),v0,eB N0 h2 (by decide),v0,kG (by omega),eB N0 h2 (by decide),v0,Ba,kT (by omega)]
   exact y5 g h' e hs i hi hof l (by omega) hsm a b c p1 p2 p3 p4 p5 p6 _ _ _ d 3 N0 0 (by decide) rfl
 | succ m ih=>
  intro n' k l hm hk hl hsm;cases n' with
  |zero=>omega
  | succ n'=>
   rw[ae];have hih:=ih n' (k+1);generalize (ab (fun f s=>be N0 d f a b c how q o (lnL g.ls) (seL g.ss) (coL g.cs) (iL g.h) (iL g.k) g.lag g.r.a g.r.c g.r.s g.r.r g.c.n g.c.f g.c.t g.c.h g.c.a g.c.b (ceL g.ce) g.nn (edL g.es) p1 p2 p3 p4 p5 p6 (lnL h'.ls) (seL h'.ss) (coL h'.cs) (iL h'.h) (iL h'.k) h'.lag h'.r.a h'.r.c h'.r.s h'.r.r h'.c.n h'.c.f h'.c.t h'.c.h h'.c.a h'.c.b (ceL h'.ce) h'.nn (edL h'.es) i s.1 s.2) n':ck->Option aj)=f at hih
   rw[show((k+1:Nat):Int)=(k:Int)+1 by omega]at hih
   show be N0 d f a b c how q o (lnL g.ls) (seL g.ss) (coL g.cs) (iL g.h) (iL g.k) g.lag g.r.a g.r.c g.r.s g.r.r g.c.n g.c.f g.c.t g.c.h g.c.a g.c.b (ceL g.ce) g.nn (edL g.es) p1 p2 p3 p4 p5 p6 (lnL h'.ls) (seL h'.ss) (coL h'.cs) (iL h'.h) (iL h'.k) h'.lag h'.r.a h'.r.c h'.r.s h'.r.r h'.c.n h'.c.f h'.c.t h'.c.h h'.c.a h'.c.b (ceL h'.ce) h'.nn (edL h'.es) i (rfL l) (k:Int)=_
   unfold be;rw[hof,hof,hof,hof,kT (by omega),kT (by omega)]
   generalize cI (bf a b c p1 p2 p3 p4 p5 p6) (k:Int) 0=num
   generalize cI (bf a b c p1 p2 p3 p4 p5 p6) (k:Int) 1=t
   generalize cI (bf a b c p1 p2 p3 p4 p5 p6) (k:Int) 2=ca
   obtain⟨R,er,r1,r2,r3,r4,r5,r6⟩:=KV e hs num t ca;obtain⟨u1,u2,u3,pp,uu,qq,ld,el,l1,l2,l3,l4,l5⟩:=Nq e hs num t ca;obtain⟨w,w1,w2⟩:=yA N0 R.1 r4 r5 r6 how q o h1 h3;rw[r1,v0,r2,v0,l1,v0,l2,v0];dsimp only[vt]
   rw[mD N0 R.1 R.1 r3 (by decide),v0,kNT rfl,beq_self_eq_true,v2,cond_false,kNT rfl,AP N0 u1 u2 u3 pp uu qq l3 l4 l5 (by decide),v0,v2,cond_false,beq_self_eq_true,v2,cond_false,kNT rfl,w1,v0,Ba,kT (by omega),kG (by omega)]
   have hrow:(rfL l++[A8 R.1])++[A8 w]=rfL (l++[R.1,w]):=Ks l R.1 w
   refine Eq.trans (congrArg (fun v=>f (v,(k:Int)+1)) hrow) (hih (l++[R.1,w]) (by omega) (by omega) (by rw[v3];show l.length+2=_;omega) (fun r hr=>?_))
   rcases List.mem_append.1 hr with hr|hr
   ·exact hsm r hr
   ·simp only[v5,v4,or_false]at hr
    rcases hr with rfl|rfl
    ·exact r3
    ·exact w2
theorem mA(X:Nm)(hX:X.ok)(x0 x1 x2 a b c how q o:Int)(i0:ax x0)(i1:ax x1)(i2:ax x2)(ha:ax a)(hb:ax b)(hc:ax c)(h1:ax how)(h2:ax q)(h3:ax o):dT N0 (X.lives.map qT) (X.sets.map ju) X.cond (iL X.hol) (iL X.kn) X.lag X.r0 X.r1 X.r2 X.r3 X.c0 X.c1 X.c2 X.c3 X.c4 X.c5 (X.evs.map bK) (X.net.map bK) x0 x1 x2 a b c how q o=some true:=by
 obtain⟨g,hG,hM⟩:=I8 N0 X hX (by decide)
 obtain⟨h',hB,hS⟩:=H2 N0 g hM.val hM.small x0 x1 x2 i0 i1 i2 (by decide)
 have b9:=aR a (k:=9) (by decide)
 have b9o:=aR o (k:=9) (by decide)
 have d8:=DL (k:=8) (by decide) h3
 have d8':=d8;unfold ax at d8';unfold dT fW;rw[Ik,v0];unfold fV;rw[v2,cond_false,hG,v0];dsimp only[grT]
 rw[eB N0 ha (by decide),v0,kG (by omega),eB N0 hb (by decide),v0,eB N0 hc (by decide),v0,eB N0 h3 (by decide),v0,kG (by omega),v0,kG d8',eB N0 d8 (by decide),v0,hB,v0]
 dsimp only[grT]
 have outer:∀(m n' i:Nat),m<n'->i+m=2->ab (fun d s=>bM N0 d a b c how q o true (lnL g.ls) (seL g.ss) (coL g.cs) (iL g.h) (iL g.k) g.lag g.r.a g.r.c g.r.s g.r.r g.c.n g.c.f g.c.t g.c.h g.c.a g.c.b (ceL g.ce) g.nn (edL g.es) (pk a 9) (pk b 100) (pk c 8) (pk o 9) (pk b 100) (pk (Int.tdiv o 8) 8) (lnL h'.ls) (seL h'.ss) (coL h'.cs) (iL h'.h) (iL h'.k) h'.lag h'.r.a h'.r.c h'.r.s h'.r.r h'.c.n h'.c.f h'.c.t h'.c.h h'.c.a h'.c.b (ceL h'.ce) h'.nn (edL h'.es) s) n' ((i:Int):ap)=some true:=by
  intro m;induction m with
  | zero=>
   intro n' i hm hi;cases n' with
   |zero=>omega
   |succ n'=>
    rw[ae];unfold bM;rw[kF (by omega)]
  | succ m ih=>
   intro n' i hm hi;cases n' with
   |zero=>omega
   |succ n'=>
    rw[ae];have hih:=ih n' (i+1) (by omega) (by omega)
    generalize (ab (fun d s=>bM N0 d a b c how q o true (lnL g.ls) (seL g.ss) (coL g.cs) (iL g.h) (iL g.k) g.lag g.r.a g.r.c g.r.s g.r.r g.c.n g.c.f g.c.t g.c.h g.c.a g.c.b (ceL g.ce) g.nn (edL g.es) (pk a 9) (pk b 100) (pk c 8) (pk o 9) (pk b 100) (pk (Int.tdiv o 8) 8) (lnL h'.ls) (seL h'.ss) (coL h'.cs) (iL h'.h) (iL h'.k) h'.lag h'.r.a h'.r.c h'.r.s h'.r.r h'.c.n h'.c.f h'.c.t h'.c.h h'.c.a h'.c.b (ceL h'.ce) h'.nn (edL h'.es) s) n':ap->Option aj)=d at hih
    rw[show((i+1:Nat):Int)=(i:Int)+1 by omega]at hih
    obtain⟨e,he,hof⟩:=Qt g h' hM.small hS i (by omega)
    unfold bM;rw[kT (by omega),kT (by omega)]
    exact(y4 g h' e he (i:Int) (by omega) hof a b c how q o _ _ _ _ _ _ h1 h2 h3 d 3 N0 0 [] (by decide) rfl rfl (fun r hr=>by cases hr)).trans hih
 exact outer 2 N0 0 (by decide) rfl
theorem lz:∀s:bx (Ps.tys law28_RefusalMatchesReference_t.ps),OR (Ps.tys law28_RefusalMatchesReference_t.ps) s->∃n z,law28_RefusalMatchesReference_t.fn n s=some z/\sj law28_RefusalMatchesReference_t.sh z=.b true:=by
 rintro ⟨l,m,p,r,t,u,v,w,x,y,d,e,f,g,h,i,j,k,x0,x1,x2,a,b,c,how,q,o⟩ hs;obtain⟨⟨X,hX,rfl,rfl,rfl,rfl,rfl,rfl,rfl,rfl,rfl,rfl,rfl,rfl,rfl,rfl,rfl,rfl,rfl,rfl⟩,hr⟩:=Pg (rest:=[.int x0,.int x1,.int x2,.int a,.int b,.int c,.int how,.int q,.int o]) hs
 exact⟨N0,true,mA X hX x0 x1 x2 a b c how q o (lC (hr _ (by simp))) (lC (hr _ (by simp))) (lC (hr _ (by simp))) (lC (hr _ (by simp))) (lC (hr _ (by simp))) (lC (hr _ (by simp))) (lC (hr _ (by simp))) (lC (hr _ (by simp))) (lC (hr _ (by simp))),rfl⟩
end Go.Proofs.YtbfkkigbedmhgaaGreat
