/-
  Texts of this claim, joined (part JMSProof7).
-/
import Derived.Test.YtbfkkigbedmhgaaGreatJM7
set_option linter.unusedVariables false
set_option linter.unusedSimpArgs false
set_option linter.unusedSectionVars false
set_option linter.constructorNameAsVariable false
set_option maxRecDepth 100000
namespace Go.Proofs.YtbfkkigbedmhgaaGreat
open Go Go.Sx
noncomputable section
abbrev aA:=Bool
abbrev be:=Int×Lv
abbrev ec:=Bool×Int
def bY(n:Nat)(go0:be->Option aA)(go1:ec->Option aA)(v33 v56:Lv)(v59:Int)(v60:Lv)(v61:Bool)(v62:Int):Option aA:=
 (bif v62<(v56.length:Int) then(bif v61 then bif(-9223372036854775808<=(v62+1))&&((v62+1)<=9223372036854775807)then go1 (true,(v62+1))else none else bif 0<=v59 then bif 0<=v62 then bif(-9223372036854775808<=(v62+1))&&((v62+1)<=9223372036854775807)then go1 ((decide ((cI v33 v59 0)=(cI v56 v62 0))),(v62+1))else none else none else none)else(bif v61 then bif 0<=v59 then bif (((v60.length:Int)+1)*32)<=140737488355328 then bif(-9223372036854775808<=(v59+1))&&((v59+1)<=9223372036854775807)then go0 ((v59+1),(v60++[[(AV.int (cI v33 v59 0)),(AV.sl (.cons .int (.cons .int (.cons .int .nil))) (cL v33 v59 1))]]))else none else none else none else bif(-9223372036854775808<=(v59+1))&&((v59+1)<=9223372036854775807)then go0 ((v59+1),v60)else none))
def lP(n:Nat)(go0:be->Option aA)(v33 v34 v35 v36 v37:Lv)(v38 v39 v40 v41 v42 v43 v44 v45 v46 v47:Int)(v48:Bool)(v49:Lv)(v50:Int)(v51:Lv)(v52 v53 v54:Int)(v56 v60:Lv)(v61 v62 v63 v64 v65 v66 v67 v68 v69:Int)(v70:Bool)(v71:Lv):Option aA:=
 (bif v65=(cI v56 ((v56.length:Int)-1) 0) then bif(-9223372036854775808<=(v65+1))&&((v65+1)<=9223372036854775807)then(az n v33 v34 v35 v36 v37 v38 v39 v40 v41 v42 v43 v44 v45 v46 v47 v48 v49 v50 v51 (10+v52) v53 v54).bind fun y72=>
 (az n v60 v34 v35 v36 v37 v38 v61 v62 v63 v64 (v65+1) v66 v67 v68 v69 v70 v71 v50 v51 (10+v52) v53 v54).bind fun y81=>
 (aG n v33 v34 v35 v36 v37 v38 v39 v40 v41 v42 v43 v44 v45 v46 v47 v48 v49 v50 v51 (10+v52) v53 v54).bind fun y90=>
 (aG n v60 v34 v35 v36 v37 v38 v61 v62 v63 v64 (v65+1) v66 v67 v68 v69 v70 v71 v50 v51 (10+v52) v53 v54).bind fun y98=>
 (bif y72.2.2.2.2.2.2.2.2=y81.2.2.2.2.2.2.2.2 then(bif(y72.2.2.2.2.2.2.2.1==y81.2.2.2.2.2.2.2.1)then(bif(y90.2.2.2.2.2.2.1==y98.2.2.2.2.2.2.1)then(bB n y72.1 y72.2.1 y72.2.2.1 y72.2.2.2.1 y72.2.2.2.2.1 y72.2.2.2.2.2.1 y72.2.2.2.2.2.2.1 y81.1 y81.2.1 y81.2.2.1 y81.2.2.2.1 y81.2.2.2.2.1 y81.2.2.2.2.2.1 y81.2.2.2.2.2.2.1).bind fun y106=>
 (bif y106 then(ck n y90.1 y90.2.1 y90.2.2.1 y90.2.2.2.1 y90.2.2.2.2.1 y90.2.2.2.2.2.1 y98.1 y98.2.1 y98.2.2.1 y98.2.2.2.1 y98.2.2.2.2.1 y98.2.2.2.2.2.1).bind fun y107=>
 some y107 else some false)else some false)else some false)else some false)else none else(az n v33 v34 v35 v36 v37 v38 v39 v40 v41 v42 v43 v44 v45 v46 v47 v48 v49 v50 v51 (10+v52) v53 v54).bind fun y72=>
 (az n v60 v34 v35 v36 v37 v38 v61 v62 v63 v64 v65 v66 v67 v68 v69 v70 v71 v50 v51 (10+v52) v53 v54).bind fun y81=>
 (aG n v33 v34 v35 v36 v37 v38 v39 v40 v41 v42 v43 v44 v45 v46 v47 v48 v49 v50 v51 (10+v52) v53 v54).bind fun y90=>
 (aG n v60 v34 v35 v36 v37 v38 v61 v62 v63 v64 v65 v66 v67 v68 v69 v70 v71 v50 v51 (10+v52) v53 v54).bind fun y98=>
 (bif y72.2.2.2.2.2.2.2.2=y81.2.2.2.2.2.2.2.2 then(bif(y72.2.2.2.2.2.2.2.1==y81.2.2.2.2.2.2.2.1)then(bif(y90.2.2.2.2.2.2.1==y98.2.2.2.2.2.2.1)then(bB n y72.1 y72.2.1 y72.2.2.1 y72.2.2.2.1 y72.2.2.2.2.1 y72.2.2.2.2.2.1 y72.2.2.2.2.2.2.1 y81.1 y81.2.1 y81.2.2.1 y81.2.2.2.1 y81.2.2.2.2.1 y81.2.2.2.2.2.1 y81.2.2.2.2.2.2.1).bind fun y106=>
 (bif y106 then(ck n y90.1 y90.2.1 y90.2.2.1 y90.2.2.2.1 y90.2.2.2.2.1 y90.2.2.2.2.2.1 y98.1 y98.2.1 y98.2.2.1 y98.2.2.2.1 y98.2.2.2.2.1 y98.2.2.2.2.2.1).bind fun y107=>
 some y107 else some false)else some false)else some false)else some false))
def gZ(n:Nat)(go0:be->Option aA)(v21 v22 v23 v24 v25 v26 v27 v28 v29 v30:Int)(v31 v33 v34 v35 v36 v37:Lv)(v38 v39 v40 v41 v42 v43 v44 v45 v46 v47:Int)(v48:Bool)(v49:Lv)(v50:Int)(v51:Lv)(v52 v53 v54:Int)(v56 v60:Lv):Option aA:=
 (bif !(v43=(cI v56 ((v56.length:Int)-1) 0))then(j6 n v21 v22 v23 v24 v25 v26 v27 v28 v29 v30 v31).bind fun y61=>
 lP n go0 v33 v34 v35 v36 v37 v38 v39 v40 v41 v42 v43 v44 v45 v46 v47 v48 v49 v50 v51 v52 v53 v54 v56 v60 y61.1 y61.2.1 y61.2.2.1 y61.2.2.2.1 y61.2.2.2.2.1 y61.2.2.2.2.2.1 y61.2.2.2.2.2.2.1 y61.2.2.2.2.2.2.2.1 y61.2.2.2.2.2.2.2.2.1 y61.2.2.2.2.2.2.2.2.2.1 y61.2.2.2.2.2.2.2.2.2.2 else(az n v33 v34 v35 v36 v37 v38 v39 v40 v41 v42 v43 v44 v45 v46 v47 v48 v49 v50 v51 (10+v52) v53 v54).bind fun y61=>
 (az n v60 v34 v35 v36 v37 v38 v39 v40 v41 v42 v43 v44 v45 v46 v47 v48 v49 v50 v51 (10+v52) v53 v54).bind fun y70=>
 (aG n v33 v34 v35 v36 v37 v38 v39 v40 v41 v42 v43 v44 v45 v46 v47 v48 v49 v50 v51 (10+v52) v53 v54).bind fun y79=>
 (aG n v60 v34 v35 v36 v37 v38 v39 v40 v41 v42 v43 v44 v45 v46 v47 v48 v49 v50 v51 (10+v52) v53 v54).bind fun y87=>
 (bif y61.2.2.2.2.2.2.2.2=y70.2.2.2.2.2.2.2.2 then(bif(y61.2.2.2.2.2.2.2.1==y70.2.2.2.2.2.2.2.1)then(bif(y79.2.2.2.2.2.2.1==y87.2.2.2.2.2.2.1)then(bB n y61.1 y61.2.1 y61.2.2.1 y61.2.2.2.1 y61.2.2.2.2.1 y61.2.2.2.2.2.1 y61.2.2.2.2.2.2.1 y70.1 y70.2.1 y70.2.2.1 y70.2.2.2.1 y70.2.2.2.2.1 y70.2.2.2.2.2.1 y70.2.2.2.2.2.2.1).bind fun y95=>
 (bif y95 then(ck n y79.1 y79.2.1 y79.2.2.1 y79.2.2.2.1 y79.2.2.2.2.1 y79.2.2.2.2.2.1 y87.1 y87.2.1 y87.2.2.1 y87.2.2.2.1 y87.2.2.2.2.1 y87.2.2.2.2.2.1).bind fun y96=>
 some y96 else some false)else some false)else some false)else some false))
def bJ(n:Nat)(go0:be->Option aA)(v21 v22 v23 v24 v25 v26 v27 v28 v29 v30:Int)(v31 v33 v34 v35 v36 v37:Lv)(v38 v39 v40 v41 v42 v43 v44 v45 v46 v47:Int)(v48:Bool)(v49:Lv)(v50:Int)(v51:Lv)(v52 v53 v54:Int)(v56:Lv)(v59:Int)(v60:Lv):Option aA:=
 (bif v59<(v33.length:Int) then(ab (fun go1 s=>bY n go0 go1 v33 v56 v59 v60 s.1 s.2) n ((false,0):ec))else bif(-9223372036854775808<=((v56.length:Int)-1))&&(((v56.length:Int)-1)<=9223372036854775807)then bif 0<=((v56.length:Int)-1) then bif ((v56.length:Int)-1)<(v56.length:Int) then gZ n go0 v21 v22 v23 v24 v25 v26 v27 v28 v29 v30 v31 v33 v34 v35 v36 v37 v38 v39 v40 v41 v42 v43 v44 v45 v46 v47 v48 v49 v50 v51 v52 v53 v54 v56 v60 else none else none else none)
def lT(n:Nat)(v21 v22 v23 v24 v25 v26 v27 v28 v29 v30:Int)(v31 v33 v34 v35 v36 v37:Lv)(v38 v39 v40 v41 v42 v43 v44 v45 v46 v47:Int)(v48:Bool)(v49:Lv)(v50:Int)(v51:Lv)(v52 v53 v54:Int)(v56:Lv):Option aA:=
 (bif (v56.length:Int)=0 then some false else(ab (fun go0 s=>bJ n go0 v21 v22 v23 v24 v25 v26 v27 v28 v29 v30 v31 v33 v34 v35 v36 v37 v38 v39 v40 v41 v42 v43 v44 v45 v46 v47 v48 v49 v50 v51 v52 v53 v54 v56 s.1 s.2) n ((0,([]:Lv)):be)))
def lF(n:Nat)(v21 v22 v23 v24 v25 v26 v27 v28 v29 v30:Int)(v31 v33 v34 v35 v36 v37:Lv)(v38 v39 v40 v41 v42 v43 v44 v45 v46 v47:Int)(v48:Bool)(v49:Lv)(v50:Int)(v51:Lv)(v52 v53 v54:Int)(v56:Lv)(v58:Int):Option aA:=
 (bif !(v58=0)then some false else lT n v21 v22 v23 v24 v25 v26 v27 v28 v29 v30 v31 v33 v34 v35 v36 v37 v38 v39 v40 v41 v42 v43 v44 v45 v46 v47 v48 v49 v50 v51 v52 v53 v54 v56)
def lV(n:Nat)(v0 v1:Lv)(v2:Int)(v3 v4:Lv)(v5 v6 v7 v8 v9 v10 v11 v12 v13 v14 v15:Int)(v16 v17:Lv)(v18 v19 v20 v21 v22 v23 v24 v25 v26 v27 v28 v29 v30:Int)(v31:Lv)(v32:Bool):Option aA:=
 (bif(!v32)then some false else(d9 n v0 v1 v2 v3 v4 v5 v6 v7 v8 v9 v10 v11 v12 v13 v14 v15 v16 v17).bind fun y33=>
 (aN n v18 9).bind fun y52=>
 bif(-9223372036854775808<=(10+y52))&&((10+y52)<=9223372036854775807)then(aN n v19 100).bind fun y53=>
 (aN n v20 8).bind fun y54=>
 (dE n y33.2.1 y33.2.2.1 (10+y52) y53).bind fun y55=>
 lF n v21 v22 v23 v24 v25 v26 v27 v28 v29 v30 v31 y33.1 y33.2.1 y33.2.2.1 y33.2.2.2.1 y33.2.2.2.2.1 y33.2.2.2.2.2.1 y33.2.2.2.2.2.2.1 y33.2.2.2.2.2.2.2.1 y33.2.2.2.2.2.2.2.2.1 y33.2.2.2.2.2.2.2.2.2.1 y33.2.2.2.2.2.2.2.2.2.2.1 y33.2.2.2.2.2.2.2.2.2.2.2.1 y33.2.2.2.2.2.2.2.2.2.2.2.2.1 y33.2.2.2.2.2.2.2.2.2.2.2.2.2.1 y33.2.2.2.2.2.2.2.2.2.2.2.2.2.2.1 y33.2.2.2.2.2.2.2.2.2.2.2.2.2.2.2.1 y33.2.2.2.2.2.2.2.2.2.2.2.2.2.2.2.2.1 y33.2.2.2.2.2.2.2.2.2.2.2.2.2.2.2.2.2.1 y33.2.2.2.2.2.2.2.2.2.2.2.2.2.2.2.2.2.2 y52 y53 y54 y55.2.1 y55.2.2.2 else none)
def lW(n:Nat)(v0 v1:Lv)(v2:Int)(v3 v4:Lv)(v5 v6 v7 v8 v9 v10 v11 v12 v13 v14 v15:Int)(v16 v17:Lv)(v18 v19 v20 v21 v22 v23 v24 v25 v26 v27 v28 v29 v30:Int)(v31:Lv):Option aA:=
 (ik n ).bind fun y32=>
 lV n v0 v1 v2 v3 v4 v5 v6 v7 v8 v9 v10 v11 v12 v13 v14 v15 v16 v17 v18 v19 v20 v21 v22 v23 v24 v25 v26 v27 v28 v29 v30 v31 y32
def jh(n:Nat)(v0 v1:Lv)(v2:Int)(v3 v4:Lv)(v5 v6 v7 v8 v9 v10 v11 v12 v13 v14 v15:Int)(v16 v17:Lv)(v18 v19 v20 v21 v22 v23 v24 v25 v26 v27 v28 v29 v30:Int)(v31:Lv):Option aA:=lW n v0 v1 v2 v3 v4 v5 v6 v7 v8 v9 v10 v11 v12 v13 v14 v15 v16 v17 v18 v19 v20 v21 v22 v23 v24 v25 v26 v27 v28 v29 v30 v31
def law28_RefusalOthers_t:FnT:=⟨[(true,[(.sl (.cons tSc .nil)),(.sl (.cons .int (.cons .int (.cons .int (.cons .int (.cons .int .nil)))))),.int,tSa,tSa,.int,.int,.int,.int,.int,.int,.int,.int,.int,.int,.int,tSc,tSc]),(false,[.int]),(false,[.int]),(false,[.int]),(true,[.int,.int,.int,.int,.int,.int,.int,.int,.int,.int,tSc])],.b,fun n (s:Lv×Lv×Int×Lv×Lv×Int×Int×Int×Int×Int×Int×Int×Int×Int×Int×Int×Lv×Lv×Int×Int×Int×Int×Int×Int×Int×Int×Int×Int×Int×Int×Int×Lv)=>jh n s.1 s.2.1 s.2.2.1 s.2.2.2.1 s.2.2.2.2.1 s.2.2.2.2.2.1 s.2.2.2.2.2.2.1 s.2.2.2.2.2.2.2.1 s.2.2.2.2.2.2.2.2.1 s.2.2.2.2.2.2.2.2.2.1 s.2.2.2.2.2.2.2.2.2.2.1 s.2.2.2.2.2.2.2.2.2.2.2.1 s.2.2.2.2.2.2.2.2.2.2.2.2.1 s.2.2.2.2.2.2.2.2.2.2.2.2.2.1 s.2.2.2.2.2.2.2.2.2.2.2.2.2.2.1 s.2.2.2.2.2.2.2.2.2.2.2.2.2.2.2.1 s.2.2.2.2.2.2.2.2.2.2.2.2.2.2.2.2.1 s.2.2.2.2.2.2.2.2.2.2.2.2.2.2.2.2.2.1 s.2.2.2.2.2.2.2.2.2.2.2.2.2.2.2.2.2.2.1 s.2.2.2.2.2.2.2.2.2.2.2.2.2.2.2.2.2.2.2.1 s.2.2.2.2.2.2.2.2.2.2.2.2.2.2.2.2.2.2.2.2.1 s.2.2.2.2.2.2.2.2.2.2.2.2.2.2.2.2.2.2.2.2.2.1 s.2.2.2.2.2.2.2.2.2.2.2.2.2.2.2.2.2.2.2.2.2.2.1 s.2.2.2.2.2.2.2.2.2.2.2.2.2.2.2.2.2.2.2.2.2.2.2.1 s.2.2.2.2.2.2.2.2.2.2.2.2.2.2.2.2.2.2.2.2.2.2.2.2.1 s.2.2.2.2.2.2.2.2.2.2.2.2.2.2.2.2.2.2.2.2.2.2.2.2.2.1 s.2.2.2.2.2.2.2.2.2.2.2.2.2.2.2.2.2.2.2.2.2.2.2.2.2.2.1 s.2.2.2.2.2.2.2.2.2.2.2.2.2.2.2.2.2.2.2.2.2.2.2.2.2.2.2.1 s.2.2.2.2.2.2.2.2.2.2.2.2.2.2.2.2.2.2.2.2.2.2.2.2.2.2.2.2.1 s.2.2.2.2.2.2.2.2.2.2.2.2.2.2.2.2.2.2.2.2.2.2.2.2.2.2.2.2.2.1 s.2.2.2.2.2.2.2.2.2.2.2.2.2.2.2.2.2.2.2.2.2.2.2.2.2.2.2.2.2.2.1 s.2.2.2.2.2.2.2.2.2.2.2.2.2.2.2.2.2.2.2.2.2.2.2.2.2.2.2.2.2.2.2⟩
def yB:List Nat:=[12,13,14,15,16,17,18,19,20,21,22,23,24,25,26,27,28,29,30,31,32,33,34,35,36,37,38,39,40,41,42,43,44,45,46,47,48,49,50,51,52,53,54,55,56,57,58,59,62,65,66,67,68,69,70,71,72,73,74,75,76,77,78,84,85,86,87,89,95,105,106,107,108,109,110,111,112,114,115,116,117,120,122,130,132,149,150,152,153,159,176,178,179,180,182,183,184,186,187,193,202,203,204,210,211,1000015,1000016,1000017,1000018,1000019,1000022,1000049,1000050,1000051,1000052,1000053,1000062,2000151,2000152,2000217,2000247,2000248,2000249]
theorem uM:law28_RefusalOthers_t.ok Tryz.prog 7:=FnT.ok_of (cfg:=⟨[((7,14,18),.inv [(.tmp 19 .int),(.cellrow 15 0 80 (.cons .int (.cons tSc .nil)))]),((7,18,20),.inv [(.tmp 20 .bool),(.tmp 21 .int)])],yB,[],aj⟩) ay gh ax (fun s fn hf=>by rw[Tryz.func7]at hf;cases hf;kernel_rfl) (fun n s=>by kernel_rfl)
end
open Go.Dial.Ref Go.Dial.Rou Go.Dial.Fwd Go.Dial.Lif Go.Dial.Clm
theorem NW(g:Gr)(hs:Small g)(m t c:Int):∃(a b k:Int) (p u:List Int) (q:List (Int×Int)) (ld:Bool) (e:Int),aG N0 (lnL g.ls) (seL g.ss) (coL g.cs) (iL g.h) (iL g.k) g.lag g.r.a g.r.c g.r.s g.r.r g.c.n g.c.f g.c.t g.c.h g.c.a g.c.b (ceL g.ce) g.nn (edL g.es) m t c=some (a,b,k,iL p,iL u,hpL q,ld,e)/\p.length<=1000/\u.length<=1000/\q.length<=1000:=by
 rw[dY N0 g hs m t c fZ];by_cases hok:bL g m t c
 ·have hcv:=gQ hok
  rw[if_pos hok];by_cases h:(cT g m t c).2=true
  ·rw[if_pos h];exact⟨0,0,0,[],[],[],false,0,rfl,by simp,by simp,by simp⟩
  ·rw[if_neg h];exact⟨_,_,_,(wy g m t).2.1,(wy g m t).2.2,(hp g c).1,true,0,rfl,by have:=hcv.wlen;omega,by have:=hcv.ulen;omega,by have:=hcv.plen;omega⟩
 ·rw[if_neg hok];exact⟨0,0,0,[],[],[],false,280,rfl,by simp,by simp,by simp⟩
theorem J2(g:Gr)(hs:Small g)(m t c:Int):∃(R:Rf×Bool) (e:Int),az N0 (lnL g.ls) (seL g.ss) (coL g.cs) (iL g.h) (iL g.k) g.lag g.r.a g.r.c g.r.s g.r.r g.c.n g.c.f g.c.t g.c.h g.c.a g.c.b (ceL g.ce) g.nn (edL g.es) m t c=some (pe R e)/\RSmall R.1:=by
 rw[cC N0 g hs m t c fZ];by_cases hok:bL g m t c
 ·rw[if_pos hok];exact⟨_,_,rfl,FN hok⟩
 ·rw[if_neg hok];exact⟨_,_,rfl,Nb⟩
theorem Md{g h':Gr}{m t c:Int}(hs:Small g)(hs':Small h')(hv:GrV g)(hv':GrV h')(e1:wy h' m t=wy g m t)(e2:hp h' c=hp g c)(e3:h'.k=g.k)(e4:cT h' m t c=cT g m t c):
  az N0 (lnL h'.ls) (seL h'.ss) (coL h'.cs) (iL h'.h) (iL h'.k) h'.lag h'.r.a h'.r.c h'.r.s h'.r.r h'.c.n h'.c.f h'.c.t h'.c.h h'.c.a h'.c.b (ceL h'.ce) h'.nn (edL h'.es) m t c=az N0 (lnL g.ls) (seL g.ss) (coL g.cs) (iL g.h) (iL g.k) g.lag g.r.a g.r.c g.r.s g.r.r g.c.n g.c.f g.c.t g.c.h g.c.a g.c.b (ceL g.ce) g.nn (edL g.es) m t c/\aG N0 (lnL h'.ls) (seL h'.ss) (coL h'.cs) (iL h'.h) (iL h'.k) h'.lag h'.r.a h'.r.c h'.r.s h'.r.r h'.c.n h'.c.f h'.c.t h'.c.h h'.c.a h'.c.b (ceL h'.ce) h'.nn (edL h'.es) m t c=aG N0 (lnL g.ls) (seL g.ss) (coL g.cs) (iL g.h) (iL g.k) g.lag g.r.a g.r.c g.r.s g.r.r g.c.n g.c.f g.c.t g.c.h g.c.a g.c.b (ceL g.ce) g.nn (edL g.es) m t c:=by
 rw[cC N0 g hs m t c fZ,cC N0 h' hs' m t c fZ,dY N0 g hs m t c fZ,dY N0 h' hs' m t c fZ];have hk:bL h' m t c↔bL g m t c:=by
  unfold bL;rw[e3];exact⟨fun h=>⟨hv,h.2⟩,fun h=>⟨hv',h.2⟩⟩
 by_cases hok:bL g m t c
 ·rw[if_pos hok,if_pos (hk.2 hok),if_pos hok,if_pos (hk.2 hok),e1,e2,e4]
  exact⟨rfl,rfl⟩
 ·have hno:=fun h=>hok (hk.1 h)
  rw[if_neg hok,if_neg hno,if_neg hok,if_neg hno];exact⟨rfl,rfl⟩
theorem Io(n:Nat)(go0:be->Option aA)(ls:List (Int×List Ev))(p:List Int)(i:Nat)(x:Int×List Ev)(v60:Lv)(hx:ls[i]?=some x)(hi:i<=1000)(hp:p.length<=1000)(hv:(v60.length:Int)<=1000):∀(m n' k:Nat) (on:Bool),m<n'->k+m=p.length->on=decide (x.1∈p.take k) →
  ab (fun go1 s=>bY n go0 go1 (lnL ls) (iL p) (i:Int) v60 s.1 s.2) n' ((on,(k:Int)):ec)=bif decide (x.1∈p)then go0 ((i:Int)+1,v60++[lnR x])else go0 ((i:Int)+1,v60):=by
 obtain⟨k0,k1⟩:=ET hx;intro m;induction m with
 | zero=>
  intro n' k on hm hk hon;cases n' with
  |zero=>omega
  |succ n'=>
   rw[ao];show bY n go0 _ (lnL ls) (iL p) (i:Int) v60 on (k:Int)=_
   unfold bY;rw[am,kF (by omega),k0,k1,hon,List.take_of_length_le (by omega)]
   by_cases hm:x.1∈p
   ·rw[kT hm,kT hm,kT (by omega),kT (by omega),kG (by omega)]
   ·rw[kF hm,kF hm,kG (by omega)]
 | succ m ih=>
  intro n' k on hm hk hon;cases n' with
  |zero=>omega
  | succ n'=>
   rw[ao];have hih:=ih n' (k+1);generalize (ab (fun go1 s=>bY n go0 go1 (lnL ls) (iL p) (i:Int) v60 s.1 s.2) n':ec->Option aA)=go1 at hih
   show bY n go0 go1 (lnL ls) (iL p) (i:Int) v60 on (k:Int)=_
   obtain⟨y,hy⟩:=aP (show k<p.length by omega)
   have ky:cI (iL p) (k:Int) 0=y:=by rw[fu,List.getD_eq_getElem?_getD,hy];rfl
   have ht:p.take (k+1)=p.take k++[y]:=by rw[List.take_add_one,hy];rfl
   rw[show((k+1:Nat):Int)=(k:Int)+1 by omega]at hih
   unfold bY;rw[am,kT (by omega),k0,ky]
   cases hb:on with
   |true=>
    rw[hb]at hon;rw[cond_true,kG (by omega)]
    refine hih true (by omega) (by omega) ?_
    have:x.1∈p.take k:=of_decide_eq_true hon.symm
    rw[ht,decide_eq_true (List.mem_append_left _ this)]
   |false=>
    rw[hb]at hon;have hnm:¬x.1∈p.take k:=of_decide_eq_false hon.symm
    rw[cond_false,kT (by omega),kT (by omega),kG (by omega)]
    refine hih _ (by omega) (by omega) ?_
    rw[ht,decide_eq_decide,List.mem_append,List.mem_singleton];exact⟨fun e=>.inr e,fun e=>e.resolve_left hnm⟩
theorem Mt(l:List (Int×List Ev))(x:Int×List Ev):lnL l++[lnR x]=lnL (l++[x]):=by show _=List.map _ _;rw[List.map_append];rfl
theorem xE{g h':Gr}{m t c:Int}(hs:Small g)(hs':Small h')(hv:GrV g)(hv':GrV h')(e1:wy h' m t=wy g m t)(e2:hp h' c=hp g c)(e3:h'.k=g.k)(e4:cT h' m t c=cT g m t c)(A:cD->cD->cQ->cQ->Option Bool)
  (hA:∀(R:Rf×Bool) (e:Int) (a b k:Int) (p u:List Int) (q:List (Int×Int)) (ld:Bool) (e':Int),RSmall R.1->p.length<=1000->u.length<=1000->q.length<=1000->A (pe R e) (pe R e) (a,b,k,iL p,iL u,hpL q,ld,e') (a,b,k,iL p,iL u,hpL q,ld,e')=some true):
  ((az N0 (lnL g.ls) (seL g.ss) (coL g.cs) (iL g.h) (iL g.k) g.lag g.r.a g.r.c g.r.s g.r.r g.c.n g.c.f g.c.t g.c.h g.c.a g.c.b (ceL g.ce) g.nn (edL g.es) m t c).bind fun y1=>(az N0 (lnL h'.ls) (seL h'.ss) (coL h'.cs) (iL h'.h) (iL h'.k) h'.lag h'.r.a h'.r.c h'.r.s h'.r.r h'.c.n h'.c.f h'.c.t h'.c.h h'.c.a h'.c.b (ceL h'.ce) h'.nn (edL h'.es) m t c).bind fun y2=>(aG N0 (lnL g.ls) (seL g.ss) (coL g.cs) (iL g.h) (iL g.k) g.lag g.r.a g.r.c g.r.s g.r.r g.c.n g.c.f g.c.t g.c.h g.c.a g.c.b (ceL g.ce) g.nn (edL g.es) m t c).bind fun y3=>(aG N0 (lnL h'.ls) (seL h'.ss) (coL h'.cs) (iL h'.h) (iL h'.k) h'.lag h'.r.a h'.r.c h'.r.s h'.r.r h'.c.n h'.c.f h'.c.t h'.c.h h'.c.a h'.c.b (ceL h'.ce) h'.nn (edL h'.es) m t c).bind fun y4=>A y1 y2 y3 y4)=some true:=by
 obtain⟨h1,h2⟩:=Md hs hs' hv hv' e1 e2 e3 e4;obtain⟨R,e,hR,r⟩:=J2 g hs m t c;obtain⟨a,b,k,p,u,q,ld,e',hL,l1,l2,l3⟩:=NW g hs m t c;rw[h1,h2,hR,Option.bind_some,Option.bind_some,hL,Option.bind_some,Option.bind_some];exact hA R e a b k p u q ld e' r l1 l2 l3
theorem yM(R:Rf×Bool)(e a b k:Int)(p u:List Int)(q:List (Int×Int))(ld:Bool)(r:RSmall R.1)(l1:p.length<=1000)(l2:u.length<=1000)(l3:q.length<=1000):
  (bif e=e then(bif(R.2==R.2)then(bif(ld==ld)then(bB N0 R.1.k R.1.n R.1.rk (iL R.1.rp) (iL R.1.ru) (hpL R.1.hs) R.1.s R.1.k R.1.n R.1.rk (iL R.1.rp) (iL R.1.ru) (hpL R.1.hs) R.1.s).bind fun y=>(bif y then(ck N0 a b k (iL p) (iL u) (hpL q) a b k (iL p) (iL u) (hpL q)).bind fun z=>some z else some false)else some false)else some false)else some false)=some true:=by
 rw[kT rfl,beq_self_eq_true,cond_true,beq_self_eq_true,cond_true,zq N0 R.1 R.1 r (by decide),Option.bind_some,kT rfl,oQ N0 a b k p u q l1 l2 l3 (by decide),Option.bind_some]
theorem vV(X:Nm)(hX:X.ok)(a b d z0 z1 z2 z3 z4 z5 z6 z7 z8 z9:Int)(zs:List Tri)(ha:av a)(hb:av b)(hd:av d)(i0:av z0)(i1:av z1)(i2:av z2)(i3:av z3)(i4:av z4)(i5:av z5)(i6:av z6)(i7:av z7)(i8:av z8)(i9:av z9)(hz:∀x∈zs,In3 x):
  jh N0 (X.lives.map kA) (X.sets.map fg) X.cond (iL X.hol) (iL X.kn) X.lag X.r0 X.r1 X.r2 X.r3 X.c0 X.c1 X.c2 X.c3 X.c4 X.c5 (X.evs.map bb) (X.net.map bb) a b d z0 z1 z2 z3 z4 z5 z6 z7 z8 z9 (zs.map bb)=some true:=by
 obtain⟨g,hG,hM⟩:=gV N0 X hX (by decide)
 have b9:=aO a (k:=9) (by decide)
 have b100:=aO b (k:=100) (by decide)
 have b8:=aO d (k:=8) (by decide)
 have hv:=hM.val;have hs:=hM.small;have hR:=kB N0 g.ss g.cs (10+pk a 9) (pk b 100) hs.ss hs.cs (by decide)
 have ok1:xn g.ss g.cs (10+pk a 9) (pk b 100):=⟨hv.2.2.1,by omega,by omega,b100.1,by omega⟩
 unfold wt at hR;rw[if_pos ok1]at hR;obtain⟨p1,p2,p3,_⟩:=EL (l:=g.ss) (c:=g.cs) hv.2.2.1.2.2 (pk b 100) 7 (10+pk a 9) [10+pk a 9] [] (by simp)
 have p4:=Je (l:=g.ss) (c:=g.cs) (t:=pk b 100) (B:=17) hM.to (by decide) 7 (10+pk a 9) [10+pk a 9] []
 unfold jh lW;rw[jV,Option.bind_some];unfold lV;rw[Bool.not_true,cond_false,hG,Option.bind_some,aJ N0 ha (by decide),Option.bind_some,kG (by omega),aJ N0 hb (by decide),Option.bind_some,aJ N0 hd (by decide),Option.bind_some]
 dsimp only[grT]
 rw[hR,Option.bind_some];dsimp only;have hwe:(rl g.ss g.cs (10+pk a 9) (pk b 100)).2.1=(iu g.ss g.cs (pk b 100) 7 (10+pk a 9) [10+pk a 9] []).2.1:=rfl
 rw[<-hwe]at p1 p2 p4;generalize hP:(rl g.ss g.cs (10+pk a 9) (pk b 100)).2.1=P at p1 p2 p4
 have l1:=kg p1;have l8:P.length<=8:=by simpa using p2
 have hwP:(wy g (10+pk a 9) (pk b 100)).2.1=P:=hP
 unfold lF;rw[kNT rfl];unfold lT;rw[am,kF (by omega)]
 have hls:=hv.1;have fin:∀go0:be->Option aA,gZ N0 go0 z0 z1 z2 z3 z4 z5 z6 z7 z8 z9 (zs.map bb) (lnL g.ls) (seL g.ss) (coL g.cs) (iL g.h) (iL g.k) g.lag g.r.a g.r.c g.r.s g.r.r g.c.n g.c.f g.c.t g.c.h g.c.a g.c.b (ceL g.ce) g.nn (edL g.es) (pk a 9) (pk b 100) (pk d 8) (iL P) (lnL (g.ls.filter (fun y=>decide (y.1∈P))))=some true:=by
  intro go0;have hlv:LsV (-1) (g.ls.filter (fun y=>decide (y.1∈P))):=xj _ _ _ hv.2.1
  have hll:(g.ls.filter (fun y=>decide (y.1∈P))).length<=10:=Nat.le_trans (List.length_filter_le ..) hls
  have hheld:∀x∈P,bx (g.ls.filter (fun y=>decide (y.1∈P))) x (pk b 100)=bx g.ls x (pk b 100):=fun x hx=>u0 (P:=fun z=>decide (z∈P)) (decide_eq_true hx) g.ls
  have hev:∀x∈g.ls.filter (fun y=>decide (y.1∈P)),x.2.length<=1000:=fun x hx=>hs.ev x (List.mem_filter.1 hx).1
  have hlast:jn P<=18:=by
   unfold jn;cases hg:P.getLast? with
   |none=>exact absurd (List.getLast?_eq_none_iff.1 hg) p1
   |some x=>
    rcases p4 x (List.mem_of_getLast? hg)with h|h
    ·rw[List.mem_singleton]at h;dsimp only[Option.getD];omega
    ·dsimp only[Option.getD];omega
  unfold gZ;rw[vQ P p1];by_cases hcn:g.c.n=jn P
  ·rw[kNT hcn]
   refine xE (g:=g) (h':={ g with ls:=g.ls.filter (fun y=>decide (y.1∈P)) }) hs ⟨by dsimp only;omega,hev,hs.ss,hs.cs,hs.ce,hs.es⟩ hv ⟨hll,hlv,hv.2.2⟩ rfl rfl rfl ?_ (fun y1 y2 y3 y4=>_) ?_
   ·exact At (fun x hx=>hheld x (by rw[<-hwP];exact hx)) Iff.rfl rfl
   ·intro R e a b k p u q ld e' r m1 m2 m3
    exact yM R e a b k p u q ld r m1 m2 m3
  ·obtain⟨C,es,hC,hCV,hCa,hC10,hCe⟩:=yN N0 z0 z1 z2 z3 z4 z5 z6 z7 z8 z9 zs i0 i1 i2 i3 i4 i5 i6 i7 i8 i9 hz (by decide)
   rw[kNF hcn,hC,Option.bind_some];dsimp only;unfold lP;rw[vQ P p1];have hno:∀q,¬Unp g (pk b 100) P q:=fun q h=>hcn h.1
   have hCl:=hCV.2.1;unfold ClV at hCl;by_cases hCn:C.n=jn P
   ·rw[kT hCn,kG (by omega)]
    have hcl:dC (mrR z0 z1 z2 z3) ⟨C.n+1,C.f,C.t,C.h,C.a,C.b⟩ es:=⟨hCV.1,by unfold ClV;dsimp only;omega,hCV.2.2.1,hCV.2.2.2⟩
    refine xE (g:=g) (h':={ g with ls:=g.ls.filter (fun y=>decide (y.1∈P)),r:=mrR z0 z1 z2 z3,c:=⟨C.n+1,C.f,C.t,C.h,C.a,C.b⟩,ce:=es }) hs ⟨by dsimp only;omega,hev,hs.ss,hs.cs,by dsimp only;omega,hs.es⟩ hv ⟨hll,hlv,hv.2.2.1,hv.2.2.2.1,hcl,hv.2.2.2.2.2⟩ rfl rfl rfl ?_ (fun y1 y2 y3 y4=>_) ?_
    ·refine At (fun x hx=>hheld x (by rw[<-hwP];exact hx)) ⟨fun h=>?_,fun h=>?_⟩ rfl
     ·have:=h.1
      rw[hwP]at this;dsimp only at this
      omega
     ·rw[hwP]at h;exact absurd h (hno _)
    ·intro R e a b k p u q ld e' r m1 m2 m3
     exact yM R e a b k p u q ld r m1 m2 m3
   ·rw[kF hCn]
    refine xE (g:=g) (h':={ g with ls:=g.ls.filter (fun y=>decide (y.1∈P)),r:=mrR z0 z1 z2 z3,c:=C,ce:=es }) hs ⟨by dsimp only;omega,hev,hs.ss,hs.cs,by dsimp only;omega,hs.es⟩ hv ⟨hll,hlv,hv.2.2.1,hv.2.2.2.1,hCV,hv.2.2.2.2.2⟩ rfl rfl rfl ?_ (fun y1 y2 y3 y4=>_) ?_
    ·refine At (fun x hx=>hheld x (by rw[<-hwP];exact hx)) ⟨fun h=>?_,fun h=>?_⟩ rfl
     ·have:=h.1
      rw[hwP]at this;exact absurd this hCn
     ·rw[hwP]at h;exact absurd h (hno _)
    ·intro R e a b k p u q ld e' r m1 m2 m3
     exact yM R e a b k p u q ld r m1 m2 m3
 have outer:∀(m n' i:Nat),m<n'->i+m=g.ls.length->ab (fun go0 s=>bJ N0 go0 z0 z1 z2 z3 z4 z5 z6 z7 z8 z9 (zs.map bb) (lnL g.ls) (seL g.ss) (coL g.cs) (iL g.h) (iL g.k) g.lag g.r.a g.r.c g.r.s g.r.r g.c.n g.c.f g.c.t g.c.h g.c.a g.c.b (ceL g.ce) g.nn (edL g.es) (pk a 9) (pk b 100) (pk d 8) (iL P) s.1 s.2) n' (((i:Int),lnL ((g.ls.take i).filter (fun y=>decide (y.1∈P)))):be)=some true:=by
  intro m;induction m with
  | zero=>
   intro n' i hm hi;cases n' with
   |zero=>omega
   |succ n'=>
    rw[ao];generalize (ab (fun go0 s=>bJ N0 go0 z0 z1 z2 z3 z4 z5 z6 z7 z8 z9 (zs.map bb) (lnL g.ls) (seL g.ss) (coL g.cs) (iL g.h) (iL g.k) g.lag g.r.a g.r.c g.r.s g.r.r g.c.n g.c.f g.c.t g.c.h g.c.a g.c.b (ceL g.ce) g.nn (edL g.es) (pk a 9) (pk b 100) (pk d 8) (iL P) s.1 s.2) n':be->Option aA)=go
    show bJ N0 go z0 z1 z2 z3 z4 z5 z6 z7 z8 z9 (zs.map bb) (lnL g.ls) (seL g.ss) (coL g.cs) (iL g.h) (iL g.k) g.lag g.r.a g.r.c g.r.s g.r.r g.c.n g.c.f g.c.t g.c.h g.c.a g.c.b (ceL g.ce) g.nn (edL g.es) (pk a 9) (pk b 100) (pk d 8) (iL P) (i:Int) _=_
    unfold bJ;rw[ku,kF (by omega),am,kG (by omega),kT (by omega),kT (by omega),List.take_of_length_le (by omega)]
    exact fin go
  | succ m ih=>
   intro n' i hm hi;cases n' with
   |zero=>omega
   | succ n'=>
    rw[ao];have hih:=ih n' (i+1) (by omega) (by omega)
    generalize (ab (fun go0 s=>bJ N0 go0 z0 z1 z2 z3 z4 z5 z6 z7 z8 z9 (zs.map bb) (lnL g.ls) (seL g.ss) (coL g.cs) (iL g.h) (iL g.k) g.lag g.r.a g.r.c g.r.s g.r.r g.c.n g.c.f g.c.t g.c.h g.c.a g.c.b (ceL g.ce) g.nn (edL g.es) (pk a 9) (pk b 100) (pk d 8) (iL P) s.1 s.2) n':be->Option aA)=go at hih
    show bJ N0 go z0 z1 z2 z3 z4 z5 z6 z7 z8 z9 (zs.map bb) (lnL g.ls) (seL g.ss) (coL g.cs) (iL g.h) (iL g.k) g.lag g.r.a g.r.c g.r.s g.r.r g.c.n g.c.f g.c.t g.c.h g.c.a g.c.b (ceL g.ce) g.nn (edL g.es) (pk a 9) (pk b 100) (pk d 8) (iL P) (i:Int) _=_
    obtain⟨x,hx⟩:=aP (show i<g.ls.length by omega)
    have hfl:((g.ls.take i).filter (fun y=>decide (y.1∈P))).length<=1000:=Nat.le_trans (List.length_filter_le ..) (by rw[List.length_take];omega)
    have ht:g.ls.take (i+1)=g.ls.take i++[x]:=by rw[List.take_add_one,hx];rfl
    unfold bJ;rw[ku,kT (by omega)]
    have hin:=Io N0 go g.ls P i x (lnL ((g.ls.take i).filter (fun y=>decide (y.1∈P)))) hx (by omega) (by omega) (by rw[ku];omega) P.length N0 0 false (Nat.lt_of_le_of_lt l8 (by decide)) (by omega) (by rw[List.take_zero];rfl)
    refine hin.trans ?_
    rw[ht,List.filter_append,show((i+1:Nat):Int)=(i:Int)+1 by omega]at hih
    by_cases hm:x.1∈P
    ·rw[kT hm,Mt]
     have:[x].filter (fun y=>decide (y.1∈P))=[x]:=by rw[List.filter_cons,if_pos (decide_eq_true hm)];rfl
     rw[this]at hih;exact hih
    ·rw[kF hm]
     have:[x].filter (fun y=>decide (y.1∈P))=[]:=by rw[List.filter_cons,if_neg (fun e=>hm (of_decide_eq_true e))];rfl
     rw[this,List.append_nil]at hih;exact hih
 have:=outer g.ls.length N0 0 (Nat.lt_of_le_of_lt hls (by decide)) (by omega)
 rw[List.take_zero]at this;exact this
theorem sJ:∀s:bi (Ps.tys law28_RefusalOthers_t.ps),A6 (Ps.tys law28_RefusalOthers_t.ps) s->∃n z,law28_RefusalOthers_t.fn n s=some z/\lz law28_RefusalOthers_t.sh z=.b true:=by
 rintro ⟨v0,v1,v2,v3,v4,v5,v6,v7,v8,v9,v10,v11,v12,v13,v14,v15,v16,v17,a,b,d,z0,z1,z2,z3,z4,z5,z6,z7,z8,z9,zs⟩ hs;obtain⟨⟨X,hX,rfl,rfl,rfl,rfl,rfl,rfl,rfl,rfl,rfl,rfl,rfl,rfl,rfl,rfl,rfl,rfl,rfl,rfl⟩,hr⟩:=qx (rest:=[.int a,.int b,.int d,.int z0,.int z1,.int z2,.int z3,.int z4,.int z5,.int z6,.int z7,.int z8,.int z9,AV.sl (.cons .int (.cons .int (.cons .int .nil))) zs]) hs
 obtain⟨zs,rfl,hz⟩:=AM rfl (hr _ (by simp:AV.sl (.cons .int (.cons .int (.cons .int .nil))) zs∈_))
 exact⟨N0,true,vV X hX a b d z0 z1 z2 z3 z4 z5 z6 z7 z8 z9 zs (bD (hr _ (by simp))) (bD (hr _ (by simp))) (bD (hr _ (by simp))) (bD (hr _ (by simp))) (bD (hr _ (by simp))) (bD (hr _ (by simp))) (bD (hr _ (by simp))) (bD (hr _ (by simp))) (bD (hr _ (by simp))) (bD (hr _ (by simp))) (bD (hr _ (by simp))) (bD (hr _ (by simp))) (bD (hr _ (by simp))) hz,rfl⟩
end Go.Proofs.YtbfkkigbedmhgaaGreat
