/-
  Texts of this claim, joined (part JMSProof6).
-/
import Derived.Test.YtbfkkigbedmhgaaGreatJM7
set_option linter.unusedVariables false
set_option linter.unusedSimpArgs false
set_option linter.unusedSectionVars false
set_option linter.constructorNameAsVariable false
set_option maxRecDepth 100000
namespace Go.Proofs.YtbfkkigbedmhgaaGreat
open Go Go.Sx
noncomputable section
abbrev ct:=Bool
abbrev iG:=Int×Lv
def nl(n:Nat)(go0:iG->Option ct)(v18 v19 v20:Int)(v21 v23 v24 v25 v26 v27:Lv)(v28 v29 v30 v31 v32 v33 v34 v35 v36 v37:Int)(v38:Bool)(v39:Lv)(v40:Int)(v41:Lv)(v42:Int)(v43:Lv):Option ct:=
 (bif v42<(v21.length:Int) then bif 0<=v42 then(aN n (cI v21 v42 0) 3).bind fun y44=>
 bif(-9223372036854775808<=((cI v43 v42 2)+y44))&&(((cI v43 v42 2)+y44)<=9223372036854775807)then bif(-9223372036854775808<=(v42+1))&&((v42+1)<=9223372036854775807)then go0 ((v42+1),(List.modify v43 (v42).toNat (fun r=>r.set 2 (AV.int ((cI v43 v42 2)+y44)))))else none else none else none else(aN n v18 9).bind fun y44=>
 bif(-9223372036854775808<=(10+y44))&&((10+y44)<=9223372036854775807)then(aN n v19 100).bind fun y45=>
 (aN n v20 8).bind fun y46=>
 (az n v23 v24 v25 v26 v27 v28 v29 v30 v31 v32 v33 v34 v35 v36 v37 v38 v39 v40 v41 (10+y44) y45 y46).bind fun y47=>
 (az n v23 v24 v25 v26 v27 v28 v29 v30 v31 v32 v33 v34 v35 v36 v37 v38 v39 v40 v43 (10+y44) y45 y46).bind fun y56=>
 (aG n v23 v24 v25 v26 v27 v28 v29 v30 v31 v32 v33 v34 v35 v36 v37 v38 v39 v40 v41 (10+y44) y45 y46).bind fun y65=>
 (aG n v23 v24 v25 v26 v27 v28 v29 v30 v31 v32 v33 v34 v35 v36 v37 v38 v39 v40 v43 (10+y44) y45 y46).bind fun y73=>
 (bif !(y47.2.2.2.2.2.2.2.2=y56.2.2.2.2.2.2.2.2)then some false else(bif y65.2.2.2.2.2.2.1 then(bif y73.2.2.2.2.2.2.1 then(bif(!y56.2.2.2.2.2.2.2.1)then(ck n y65.1 y65.2.1 y65.2.2.1 y65.2.2.2.1 y65.2.2.2.2.1 y65.2.2.2.2.2.1 y73.1 y73.2.1 y73.2.2.1 y73.2.2.2.1 y73.2.2.2.2.1 y73.2.2.2.2.2.1).bind fun y81=>
 some y81 else some false)else some false)else(bif y47.2.2.2.2.2.2.2.1 then(bif !(y47.1=7)then(bif y56.2.2.2.2.2.2.2.1 then(bB n y47.1 y47.2.1 y47.2.2.1 y47.2.2.2.1 y47.2.2.2.2.1 y47.2.2.2.2.2.1 y47.2.2.2.2.2.2.1 y56.1 y56.2.1 y56.2.2.1 y56.2.2.2.1 y56.2.2.2.2.1 y56.2.2.2.2.2.1 y56.2.2.2.2.2.2.1).bind fun y81=>
 some y81 else some false)else(bif(!y56.2.2.2.2.2.2.2.1)then some true else(bif y56.1=7 then(eR n y47.2.2.2.2.2.1 y56.2.2.2.2.2.1).bind fun y81=>
 some y81 else some false)))else some true)))else none)
def jd(n:Nat)(go0:iG->Option ct)(v18 v19 v20:Int)(v21 v23 v24 v25 v26 v27:Lv)(v28 v29 v30 v31 v32 v33 v34 v35 v36 v37:Int)(v38:Bool)(v39:Lv)(v40:Int)(v41:Lv)(v42:Int)(v43:Lv):Option ct:=
 (bif v42<(v43.length:Int) then nl n go0 v18 v19 v20 v21 v23 v24 v25 v26 v27 v28 v29 v30 v31 v32 v33 v34 v35 v36 v37 v38 v39 v40 v41 v42 v43 else(aN n v18 9).bind fun y44=>
 bif(-9223372036854775808<=(10+y44))&&((10+y44)<=9223372036854775807)then(aN n v19 100).bind fun y45=>
 (aN n v20 8).bind fun y46=>
 (az n v23 v24 v25 v26 v27 v28 v29 v30 v31 v32 v33 v34 v35 v36 v37 v38 v39 v40 v41 (10+y44) y45 y46).bind fun y47=>
 (az n v23 v24 v25 v26 v27 v28 v29 v30 v31 v32 v33 v34 v35 v36 v37 v38 v39 v40 v43 (10+y44) y45 y46).bind fun y56=>
 (aG n v23 v24 v25 v26 v27 v28 v29 v30 v31 v32 v33 v34 v35 v36 v37 v38 v39 v40 v41 (10+y44) y45 y46).bind fun y65=>
 (aG n v23 v24 v25 v26 v27 v28 v29 v30 v31 v32 v33 v34 v35 v36 v37 v38 v39 v40 v43 (10+y44) y45 y46).bind fun y73=>
 (bif !(y47.2.2.2.2.2.2.2.2=y56.2.2.2.2.2.2.2.2)then some false else(bif y65.2.2.2.2.2.2.1 then(bif y73.2.2.2.2.2.2.1 then(bif(!y56.2.2.2.2.2.2.2.1)then(ck n y65.1 y65.2.1 y65.2.2.1 y65.2.2.2.1 y65.2.2.2.2.1 y65.2.2.2.2.2.1 y73.1 y73.2.1 y73.2.2.1 y73.2.2.2.1 y73.2.2.2.2.1 y73.2.2.2.2.2.1).bind fun y81=>
 some y81 else some false)else some false)else(bif y47.2.2.2.2.2.2.2.1 then(bif !(y47.1=7)then(bif y56.2.2.2.2.2.2.2.1 then(bB n y47.1 y47.2.1 y47.2.2.1 y47.2.2.2.1 y47.2.2.2.2.1 y47.2.2.2.2.2.1 y47.2.2.2.2.2.2.1 y56.1 y56.2.1 y56.2.2.1 y56.2.2.2.1 y56.2.2.2.2.1 y56.2.2.2.2.2.1 y56.2.2.2.2.2.2.1).bind fun y81=>
 some y81 else some false)else(bif(!y56.2.2.2.2.2.2.2.1)then some true else(bif y56.1=7 then(eR n y47.2.2.2.2.2.1 y56.2.2.2.2.2.1).bind fun y81=>
 some y81 else some false)))else some true)))else none)
def nB(n:Nat)(v0 v1:Lv)(v2:Int)(v3 v4:Lv)(v5 v6 v7 v8 v9 v10 v11 v12 v13 v14 v15:Int)(v16 v17:Lv)(v18 v19 v20:Int)(v21:Lv)(v22:Bool):Option ct:=
 (bif(!v22)then some false else(d9 n v0 v1 v2 v3 v4 v5 v6 v7 v8 v9 v10 v11 v12 v13 v14 v15 v16 v17).bind fun y23=>
 bif ((y23.2.2.2.2.2.2.2.2.2.2.2.2.2.2.2.2.2.2.length:Int)*24)<=140737488355328 then(ab (fun go0 s=>jd n go0 v18 v19 v20 v21 y23.1 y23.2.1 y23.2.2.1 y23.2.2.2.1 y23.2.2.2.2.1 y23.2.2.2.2.2.1 y23.2.2.2.2.2.2.1 y23.2.2.2.2.2.2.2.1 y23.2.2.2.2.2.2.2.2.1 y23.2.2.2.2.2.2.2.2.2.1 y23.2.2.2.2.2.2.2.2.2.2.1 y23.2.2.2.2.2.2.2.2.2.2.2.1 y23.2.2.2.2.2.2.2.2.2.2.2.2.1 y23.2.2.2.2.2.2.2.2.2.2.2.2.2.1 y23.2.2.2.2.2.2.2.2.2.2.2.2.2.2.1 y23.2.2.2.2.2.2.2.2.2.2.2.2.2.2.2.1 y23.2.2.2.2.2.2.2.2.2.2.2.2.2.2.2.2.1 y23.2.2.2.2.2.2.2.2.2.2.2.2.2.2.2.2.2.1 y23.2.2.2.2.2.2.2.2.2.2.2.2.2.2.2.2.2.2 s.1 s.2) n ((0,y23.2.2.2.2.2.2.2.2.2.2.2.2.2.2.2.2.2.2):iG))else none)
def nv(n:Nat)(v0 v1:Lv)(v2:Int)(v3 v4:Lv)(v5 v6 v7 v8 v9 v10 v11 v12 v13 v14 v15:Int)(v16 v17:Lv)(v18 v19 v20:Int)(v21:Lv):Option ct:=
 (ik n ).bind fun y22=>
 nB n v0 v1 v2 v3 v4 v5 v6 v7 v8 v9 v10 v11 v12 v13 v14 v15 v16 v17 v18 v19 v20 v21 y22
def kD(n:Nat)(v0 v1:Lv)(v2:Int)(v3 v4:Lv)(v5 v6 v7 v8 v9 v10 v11 v12 v13 v14 v15:Int)(v16 v17:Lv)(v18 v19 v20:Int)(v21:Lv):Option ct:=nv n v0 v1 v2 v3 v4 v5 v6 v7 v8 v9 v10 v11 v12 v13 v14 v15 v16 v17 v18 v19 v20 v21
def law28_RefusalRoom_t:FnT:=⟨[(true,[(.sl (.cons tSc .nil)),(.sl (.cons .int (.cons .int (.cons .int (.cons .int (.cons .int .nil)))))),.int,tSa,tSa,.int,.int,.int,.int,.int,.int,.int,.int,.int,.int,.int,tSc,tSc]),(false,[.int]),(false,[.int]),(false,[.int]),(false,[tSa])],.b,fun n (s:Lv×Lv×Int×Lv×Lv×Int×Int×Int×Int×Int×Int×Int×Int×Int×Int×Int×Lv×Lv×Int×Int×Int×Lv)=>kD n s.1 s.2.1 s.2.2.1 s.2.2.2.1 s.2.2.2.2.1 s.2.2.2.2.2.1 s.2.2.2.2.2.2.1 s.2.2.2.2.2.2.2.1 s.2.2.2.2.2.2.2.2.1 s.2.2.2.2.2.2.2.2.2.1 s.2.2.2.2.2.2.2.2.2.2.1 s.2.2.2.2.2.2.2.2.2.2.2.1 s.2.2.2.2.2.2.2.2.2.2.2.2.1 s.2.2.2.2.2.2.2.2.2.2.2.2.2.1 s.2.2.2.2.2.2.2.2.2.2.2.2.2.2.1 s.2.2.2.2.2.2.2.2.2.2.2.2.2.2.2.1 s.2.2.2.2.2.2.2.2.2.2.2.2.2.2.2.2.1 s.2.2.2.2.2.2.2.2.2.2.2.2.2.2.2.2.2.1 s.2.2.2.2.2.2.2.2.2.2.2.2.2.2.2.2.2.2.1 s.2.2.2.2.2.2.2.2.2.2.2.2.2.2.2.2.2.2.2.1 s.2.2.2.2.2.2.2.2.2.2.2.2.2.2.2.2.2.2.2.2.1 s.2.2.2.2.2.2.2.2.2.2.2.2.2.2.2.2.2.2.2.2.2⟩
def yB:List Nat:=[12,13,14,15,16,17,18,19,20,21,22,23,24,25,26,27,28,29,30,31,32,33,34,35,36,37,38,39,40,41,42,43,44,45,46,47,48,49,50,51,52,53,54,55,56,57,58,59,62,65,66,67,68,69,70,71,72,73,74,75,76,77,78,84,85,86,87,89,95,105,106,107,108,109,110,111,112,114,115,116,117,120,122,130,132,149,150,152,153,159,176,178,179,180,182,183,184,186,187,193,202,203,204,210,211,1000015,1000016,1000017,1000018,1000019,1000022,1000049,1000050,1000051,1000052,1000053,1000062,2000151,2000152,2000217,2000247,2000248,2000249]
theorem xk:law28_RefusalRoom_t.ok Tryz.prog 6:=FnT.ok_of (cfg:=⟨[((6,8,15),.inv [(.tmp 14 .int),(.cellrow 10 18 73 (.cons .int (.cons .int (.cons .int .nil))))])],yB,[],aj⟩) ay gh ax (fun s fn hf=>by rw[Tryz.func6]at hf;cases hf;kernel_rfl) (fun n s=>by kernel_rfl)
end
open Go.Dial.Ref Go.Dial.Rou Go.Dial.Fwd Go.Dial.Flo
structure Up (es es':List Ed) (i:Nat):Prop where
 len:es'.length=es.length
 row:∀(j:Nat) e,es[j]?=some e->∃e',es'[j]?=some e'/\e'.f=e.f/\e'.t=e.t/\e.c<=e'.c/\e'.c<=e.c+2/\(i<=j->e'=e)
theorem NX{es es':List Ed}{i:Nat}(h:Up es es' i){a v:Int}(hr:Dial.Flo.Reach es a v):Dial.Flo.Reach es' a v:=by
 induction hr with
 |here=>exact .here
 |step u e hu he hf hc ih=>
  obtain⟨j,hj⟩:=List.getElem?_of_mem he;obtain⟨e',h1,h2,h3,h4,_⟩:=h.row j e hj;rw[<-h3];exact .step u e' ih (List.mem_of_getElem? h1) (h2.trans hf) (by omega)
theorem Np{es es':List Ed}{i:Nat}(h:Up es es' i)(hv:NetV 8 es)(hc:∀e∈es,e.c<=3):NetV 8 es':=by
 refine⟨hv.1,hv.2.1,by rw[h.len];exact hv.2.2.1,fun e' he'=>?_⟩
 obtain⟨j,hj,hje⟩:=List.getElem_of_mem he';obtain⟨e,he⟩:=aP (show j<es.length by rw[<-h.len];exact hj)
 obtain⟨e2,h1,h2,h3,h4,h5,_⟩:=h.row j e he;rw[List.getElem?_eq_getElem hj,hje]at h1;cases h1
 obtain⟨q1,q2,q3,q4,q5,q6,q7⟩:=hv.2.2.2 e (List.mem_of_getElem? he);have:=hc e (List.mem_of_getElem? he)
 unfold EdV;rw[h2,h3];exact⟨q1,q2,q3,q4,q5,by omega,by omega⟩
theorem PC{es:List Ed}{i:Nat}{e:Ed}(h:es[i]?=some e)(y:Int):List.modify (edL es) i (fun r=>r.set 2 (AV.int y))=edL (es.set i ⟨e.f,e.t,y⟩):=by
 induction es generalizing i with
 |nil=>simp at h
 | cons x es ih=>
  cases i with
  |zero=>cases h;rfl
  |succ i=>
   show edR x::List.modify (edL es) i _=edR x::edL (es.set i _)
   rw[ih h]
theorem Qp{es es':List Ed}{i:Nat}(h:Up es es' i){e':Ed}(he:es'[i]?=some e'){y:Int}(h0:0<=y)(h2:y<=2):Up es (es'.set i ⟨e'.f,e'.t,e'.c+y⟩) (i+1):=by
 have hil:=(List.getElem?_eq_some_iff.1 he).1;refine⟨by rw[List.length_set];exact h.len,fun j e hj=>?_⟩
 obtain⟨e2,a1,a2,a3,a4,a5,a6⟩:=h.row j e hj;by_cases hji:j=i
 ·subst hji
  rw[he]at a1;cases a1
  have:=a6 (Nat.le_refl _)
  subst this;exact⟨⟨e'.f,e'.t,e'.c+y⟩,by rw[List.getElem?_set_self hil],rfl,rfl,by dsimp only;omega,by dsimp only;omega,fun h=>by omega⟩
 ·exact⟨e2,by rw[List.getElem?_set_ne (fun e=>hji e.symm)];exact a1,a2,a3,a4,a5,fun h=>a6 (by omega)⟩
def HD(R R':Rf×Bool)(q:List (Int×Int)):Prop:=R'=R\/(R.2=true/\R.1.k=7/\R.1.hs=q/\(R'=(nJ,false)\/(R'.2=true/\R'.1.k=7/\R'.1.hs=q)))
theorem LF{g h':Gr}{t c:Int}{w:Int×List Int×List Int}{p:List (Int×Int)×Int}(h1:h'.ls=g.ls)(h2:Unp h' t w.2.1 p.1↔Unp g t w.2.1 p.1)(h3:∀v,Dial.Flo.Reach g.es c v->Dial.Flo.Reach h'.es c v):HD (dF g t c w p) (dF h' t c w p) p.1:=by
 unfold dF;rw[h1];cases w.2.1.find? (fun x=> !bx g.ls x t)with
 |some x=>exact .inl rfl
 | none =>
  dsimp only;by_cases c1:w.1=5\/w.1=6
  ·rw[if_pos c1,if_pos c1];exact .inl rfl
  ·rw [if_neg c1,if_neg c1]
   by_cases c2:2<=w.1/\w.1<=4
   ·rw[if_pos c2,if_pos c2];exact .inl rfl
   ·rw [if_neg c2,if_neg c2]
    by_cases c3:p.2=2
    ·rw[if_pos c3,if_pos c3];exact .inl rfl
    ·rw [if_neg c3,if_neg c3]
     by_cases c4:p.2=3
     ·rw[if_pos c4,if_pos c4];exact .inl rfl
     ·rw [if_neg c4,if_neg c4]
      by_cases c5:p.2=1
      ·rw [if_pos c5,if_pos c5]
       by_cases c6:Unp g t w.2.1 p.1
       ·rw[if_pos c6,if_pos (h2.2 c6)];exact .inl rfl
       ·rw[if_neg c6,if_neg (fun e=>c6 (h2.1 e))]
        by_cases c7:aS p.1=c
        ·rw[if_pos c7,if_pos c7];exact .inl rfl
        ·rw[if_neg c7,if_neg c7]
         by_cases c8:Dial.Flo.Reach g.es c (aS p.1)
         ·rw[if_pos c8,if_pos (h3 _ c8)];exact .inl rfl
         ·rw[if_neg c8]
          refine .inr ⟨rfl,rfl,rfl,?_⟩
          by_cases c9:Dial.Flo.Reach h'.es c (aS p.1)
          ·rw[if_pos c9];exact .inl rfl
          ·rw[if_neg c9];exact .inr ⟨rfl,rfl,rfl⟩
      ·rw[if_neg c5,if_neg c5];exact .inl rfl
theorem OI{g h':Gr}{m t c:Int}(hs:Small g)(hs':Small h')(hv:GrV g)(hv':GrV h')(e1:wy h' m t=wy g m t)(e2:hp h' c=hp g c)(e3:h'.k=g.k)(hR:HD (cT g m t c) (cT h' m t c) (hp g c).1)(A:cD->cD->cQ->cQ->Option Bool)
  (hA1:A (pe (nJ,false) 280) (pe (nJ,false) 280) (oX 280) (oX 280)=some true)
  (hA2:∀(R R':Rf×Bool) (w:Int×List Int×List Int) (p:List (Int×Int)×Int),HD R R' p.1->RSmall R.1->w.2.1.length<=1000->w.2.2.length<=1000->p.1.length<=1000->A (pe R 0) (pe R' 0) (if R.2=true then oX 0 else A4 w p) (if R'.2=true then oX 0 else A4 w p)=some true):
  ((az N0 (lnL g.ls) (seL g.ss) (coL g.cs) (iL g.h) (iL g.k) g.lag g.r.a g.r.c g.r.s g.r.r g.c.n g.c.f g.c.t g.c.h g.c.a g.c.b (ceL g.ce) g.nn (edL g.es) m t c).bind fun y1=>(az N0 (lnL h'.ls) (seL h'.ss) (coL h'.cs) (iL h'.h) (iL h'.k) h'.lag h'.r.a h'.r.c h'.r.s h'.r.r h'.c.n h'.c.f h'.c.t h'.c.h h'.c.a h'.c.b (ceL h'.ce) h'.nn (edL h'.es) m t c).bind fun y2=>(aG N0 (lnL g.ls) (seL g.ss) (coL g.cs) (iL g.h) (iL g.k) g.lag g.r.a g.r.c g.r.s g.r.r g.c.n g.c.f g.c.t g.c.h g.c.a g.c.b (ceL g.ce) g.nn (edL g.es) m t c).bind fun y3=>(aG N0 (lnL h'.ls) (seL h'.ss) (coL h'.cs) (iL h'.h) (iL h'.k) h'.lag h'.r.a h'.r.c h'.r.s h'.r.r h'.c.n h'.c.f h'.c.t h'.c.h h'.c.a h'.c.b (ceL h'.ce) h'.nn (edL h'.es) m t c).bind fun y4=>A y1 y2 y3 y4)=some true:=by
 rw[cC N0 g hs m t c fZ,cC N0 h' hs' m t c fZ,dY N0 g hs m t c fZ,dY N0 h' hs' m t c fZ];have hk:bL h' m t c↔bL g m t c:=by
  unfold bL;rw[e3];exact⟨fun h=>⟨hv,h.2⟩,fun h=>⟨hv',h.2⟩⟩
 by_cases hok:bL g m t c
 ·have hcv:=gQ hok
  rw[if_pos hok,if_pos (hk.2 hok),if_pos hok,if_pos (hk.2 hok),e1,e2];exact hA2 _ _ _ _ hR (FN hok) (by have:=hcv.wlen;omega) (by have:=hcv.ulen;omega) (by have:=hcv.plen;omega)
 ·have hno:=fun h=>hok (hk.1 h)
  rw[if_neg hok,if_neg hno,if_neg hok,if_neg hno];exact hA1
abbrev HB(y47 y56:cD)(y65 y73:cQ):Option Bool:=
 (bif !(y47.2.2.2.2.2.2.2.2=y56.2.2.2.2.2.2.2.2)then some false else(bif y65.2.2.2.2.2.2.1 then(bif y73.2.2.2.2.2.2.1 then(bif(!y56.2.2.2.2.2.2.2.1)then(ck N0 y65.1 y65.2.1 y65.2.2.1 y65.2.2.2.1 y65.2.2.2.2.1 y65.2.2.2.2.2.1 y73.1 y73.2.1 y73.2.2.1 y73.2.2.2.1 y73.2.2.2.2.1 y73.2.2.2.2.2.1).bind fun y81=>
 some y81 else some false)else some false)else(bif y47.2.2.2.2.2.2.2.1 then(bif !(y47.1=7)then(bif y56.2.2.2.2.2.2.2.1 then(bB N0 y47.1 y47.2.1 y47.2.2.1 y47.2.2.2.1 y47.2.2.2.2.1 y47.2.2.2.2.2.1 y47.2.2.2.2.2.2.1 y56.1 y56.2.1 y56.2.2.1 y56.2.2.2.1 y56.2.2.2.2.1 y56.2.2.2.2.2.1 y56.2.2.2.2.2.2.1).bind fun y81=>
 some y81 else some false)else(bif(!y56.2.2.2.2.2.2.2.1)then some true else(bif y56.1=7 then(eR N0 y47.2.2.2.2.2.1 y56.2.2.2.2.2.1).bind fun y81=>
 some y81 else some false)))else some true)))
theorem Ol(R R':Rf×Bool)(w:Int×List Int×List Int)(p:List (Int×Int)×Int)(hR:HD R R' p.1)(r:RSmall R.1)(l1:w.2.1.length<=1000)(l2:w.2.2.length<=1000)(l3:p.1.length<=1000):
  HB (pe R 0) (pe R' 0) (if R.2=true then oX 0 else A4 w p) (if R'.2=true then oX 0 else A4 w p)=some true:=by
 have hsame:∀q:List (Int×Int),q.length<=1000->eR N0 (hpL q) (hpL q)=some true:=fun q hq=>by rw[qL N0 q q hq (by decide),decide_eq_true rfl]
 unfold HB;dsimp only;rcases hR with rfl|⟨h1,h2,h3,h4⟩
 ·cases hb:R'.2 with
  |false=>
   rw[if_neg (by decide)]
   dsimp only;rw[kNT rfl,cond_true,cond_true,Bool.not_false,cond_true,oQ N0 _ _ _ _ _ _ l1 l2 l3 (by decide)]
   rfl
  | true=>
   rw[if_pos rfl];dsimp only;rw[kNT rfl,cond_false,cond_true];by_cases h7:R'.1.k=7
   ·rw[kNT h7,Bool.not_true,cond_false,kT h7,hsame _ r.hs]
    rfl
   ·rw[kNF h7,cond_true,zq N0 R'.1 R'.1 r (by decide),decide_eq_true rfl]
    rfl
 ·rw[if_pos h1]
  dsimp only;rw[kNT rfl,cond_false,h1,cond_true,kNT h2];rcases h4 with rfl|⟨h5,h6,h7⟩
  ·rfl
  ·rw[h5,Bool.not_true,cond_false,kT h6,h3,h7,hsame _ l3]
   rfl
theorem yq(X:Nm)(hX:X.ok)(a b d:Int)(ms:List Int)(ha:av a)(hb:av b)(hd:av d)(hms:∀x∈ms,av x):kD N0 (X.lives.map kA) (X.sets.map fg) X.cond (iL X.hol) (iL X.kn) X.lag X.r0 X.r1 X.r2 X.r3 X.c0 X.c1 X.c2 X.c3 X.c4 X.c5 (X.evs.map bb) (X.net.map bb) a b d (iL ms)=some true:=by
 obtain⟨g,hG,hM⟩:=gV N0 X hX (by decide)
 have b9:=aO a (k:=9) (by decide)
 have b100:=aO b (k:=100) (by decide)
 have b8:=aO d (k:=8) (by decide)
 have hv:=hM.val;have hs:=hM.small;have h20:=hM.es20;have hnn:=hv.2.2.2.2.2.2;unfold kD nv;rw[jV,Option.bind_some];unfold nB;rw[Bool.not_true,cond_false,hG,Option.bind_some];dsimp only[grT]
 rw[jb,kT (by omega)]
 have fin:∀(es':List Ed) (i:Nat),Up g.es es' i->(bif(-9223372036854775808<=(10+pk a 9))&&((10+pk a 9)<=9223372036854775807)then(some (pk b 100)).bind fun y45=>(some (pk d 8)).bind fun y46=>
   ((az N0 (lnL g.ls) (seL g.ss) (coL g.cs) (iL g.h) (iL g.k) g.lag g.r.a g.r.c g.r.s g.r.r g.c.n g.c.f g.c.t g.c.h g.c.a g.c.b (ceL g.ce) g.nn (edL g.es) (10+pk a 9) y45 y46).bind fun y1=>(az N0 (lnL g.ls) (seL g.ss) (coL g.cs) (iL g.h) (iL g.k) g.lag g.r.a g.r.c g.r.s g.r.r g.c.n g.c.f g.c.t g.c.h g.c.a g.c.b (ceL g.ce) g.nn (edL es') (10+pk a 9) y45 y46).bind fun y2=>(aG N0 (lnL g.ls) (seL g.ss) (coL g.cs) (iL g.h) (iL g.k) g.lag g.r.a g.r.c g.r.s g.r.r g.c.n g.c.f g.c.t g.c.h g.c.a g.c.b (ceL g.ce) g.nn (edL g.es) (10+pk a 9) y45 y46).bind fun y3=>(aG N0 (lnL g.ls) (seL g.ss) (coL g.cs) (iL g.h) (iL g.k) g.lag g.r.a g.r.c g.r.s g.r.r g.c.n g.c.f g.c.t g.c.h g.c.a g.c.b (ceL g.ce) g.nn (edL es') (10+pk a 9) y45 y46).bind fun y4=>HB y1 y2 y3 y4)else none)=some true:=by
  intro es' i hup;have hnet:=Np hup (L9 hv) hM.cap;rw[kG (by omega),Option.bind_some,Option.bind_some]
  refine OI (g:=g) (h':={ g with es:=es' }) hs ⟨hs.ls,hs.ev,hs.ss,hs.cs,hs.ce,by dsimp only;rw[hup.len];exact hs.es⟩ hv ⟨hv.1,hv.2.1,hv.2.2.1,hv.2.2.2.1,hv.2.2.2.2.1,by dsimp only;rw[hnn];exact hnet,hnn⟩ rfl rfl rfl ?_ (fun y1 y2 y3 y4=>HB y1 y2 y3 y4) rfl Ol
  exact LF rfl Iff.rfl (fun v hr=>NX hup hr)
 refine ew (fun s=>∃(es':List Ed) (i:Nat),s=((i:Int),edL es')/\Up g.es es' i/\i<=g.es.length) (fun s=>g.es.length-s.1.toNat) _ ?_ N0 _ ⟨g.es,0,rfl,⟨rfl,fun j e hj=>⟨e,hj,rfl,rfl,Int.le_refl _,by omega,fun _=>rfl⟩⟩,Nat.zero_le _⟩ (Nat.lt_of_le_of_lt (Nat.sub_le ..) (Nat.lt_of_le_of_lt h20 (by decide)))
 rintro _ go ⟨es',i,rfl,hup,hi⟩ ih;have hlen:=hup.len;show jd N0 go a b d (iL ms) (lnL g.ls) (seL g.ss) (coL g.cs) (iL g.h) (iL g.k) g.lag g.r.a g.r.c g.r.s g.r.r g.c.n g.c.f g.c.t g.c.h g.c.a g.c.b (ceL g.ce) g.nn (edL g.es) (i:Int) (edL es')=_
 unfold jd;by_cases e1:(i:Int)<((edL es').length:Int)
 ·have hil:i<es'.length:=by rw[jb]at e1;omega
  rw[kT e1];unfold nl;by_cases e2:(i:Int)<((iL ms).length:Int)
  ·have him:i<ms.length:=by rw[am]at e2;omega
   have b3:=aO (ms.getD i 0) (k:=3) (by decide)
   obtain⟨e',he⟩:=aP hil;obtain⟨_,_,k2⟩:=qq he;have hc:=(Np hup (L9 hv) hM.cap).2.2.2 e' (List.mem_of_getElem? he);obtain⟨_,_,_,_,_,c0,c1⟩:=hc;rw[kT e2,kT (by omega),fu,aJ N0 (hms _ (iC him)) (by decide),Option.bind_some,k2,kG (by omega),kG (by omega),Int.toNat_natCast,PC he]
   exact ih _ ⟨_,i+1,by simp,Qp hup he b3.1 (by omega),by omega⟩ (by simp only;omega)
  ·rw[kF e2,aJ N0 ha (by decide),Option.bind_some,aJ N0 hb (by decide),aJ N0 hd (by decide)]
   exact fin es' i hup
 ·rw[kF e1,aJ N0 ha (by decide),Option.bind_some,aJ N0 hb (by decide),aJ N0 hd (by decide)]
  exact fin es' i hup
theorem vG:∀s:bi (Ps.tys law28_RefusalRoom_t.ps),A6 (Ps.tys law28_RefusalRoom_t.ps) s->∃n z,law28_RefusalRoom_t.fn n s=some z/\lz law28_RefusalRoom_t.sh z=.b true:=by
 rintro ⟨v0,v1,v2,v3,v4,v5,v6,v7,v8,v9,v10,v11,v12,v13,v14,v15,v16,v17,a,b,d,ms⟩ hs;obtain⟨⟨X,hX,rfl,rfl,rfl,rfl,rfl,rfl,rfl,rfl,rfl,rfl,rfl,rfl,rfl,rfl,rfl,rfl,rfl,rfl⟩,hr⟩:=qx (rest:=[.int a,.int b,.int d,AV.sl (.cons .int .nil) ms]) hs
 obtain⟨ms,rfl,hm⟩:=Ec rfl (hr _ (by simp:AV.sl (.cons .int .nil) ms∈_))
 exact⟨N0,true,yq X hX a b d ms (bD (hr _ (by simp))) (bD (hr _ (by simp))) (bD (hr _ (by simp))) hm,rfl⟩
end Go.Proofs.YtbfkkigbedmhgaaGreat
