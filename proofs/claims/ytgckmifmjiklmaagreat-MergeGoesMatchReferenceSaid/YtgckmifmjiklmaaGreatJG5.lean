/-
  Texts of this claim, joined (part 5).
-/
import Derived.Test.YtgckmifmjiklmaaGreatJG4
set_option linter.unusedVariables false
set_option linter.unusedSimpArgs false
set_option linter.unusedSectionVars false
set_option linter.constructorNameAsVariable false
set_option maxRecDepth 100000
namespace Go.Proofs.YtgckmifmjiklmaaGreat
open Go Go.Sx
noncomputable section
abbrev Aj:=Int
def zS(n:Nat)(v0 v1:Int):Option Aj:=
 (bif v0<0 then bif(-9223372036854775808<=(v0+1))&&((v0+1)<=9223372036854775807)then bif(-9223372036854775808<=(0-(v0+1)))&&((0-(v0+1))<=9223372036854775807)then bif !(v1=0)then some (Int.tmod (0-(v0+1)) v1)else none else none else none else bif !(v1=0)then some (Int.tmod v0 v1)else none)
def aN(n:Nat)(v0 v1:Int):Option Aj:=zS n v0 v1
def ref42_pick_t:FnT:=⟨[(false,[.int]),(false,[.int])],.i,fun n (s:Int×Int)=>aN n s.1 s.2⟩
theorem GW:ref42_pick_t.ok Tryz.prog 58:=FnT.ok_of (cfg:=⟨[],aL,[],[]⟩) av oJ aA (fun s fn hf=>by rw[Tryz.func58]at hf;cases hf;kernel_rfl) (fun n s=>by kernel_rfl)
def ref42_pick_T:Tab:=(58,ref42_pick_t)::merge_Debts_T
theorem qQ:ref42_pick_T.ok Tryz.prog:=Tab.ok_cons GW oJ
abbrev lf:=Bool
abbrev vP:=Int
def Jx(n:Nat)(go0:vP->Option lf)(v0 v1:Lv)(v2:Int):Option lf:=
 (bif v2<(v0.length:Int) then bif 0<=v2 then bif v2<(v1.length:Int) then(bif !((cI v0 v2 0)=(cI v1 v2 0))then some false else bif(-9223372036854775808<=(v2+1))&&((v2+1)<=9223372036854775807)then go0 (v2+1)else none)else none else none else some true)
def In(n:Nat)(v0 v1:Lv):Option lf:=
 (bif !((v0.length:Int)=(v1.length:Int))then some false else(aa (fun go0 s=>Jx n go0 v0 v1 s) n (0:vP)))
def n0(n:Nat)(v0 v1:Lv):Option lf:=In n v0 v1
def ref42_Ints_t:FnT:=⟨[(false,[tSa]),(false,[tSa])],.b,fun n (s:Lv×Lv)=>n0 n s.1 s.2⟩
theorem GF:ref42_Ints_t.ok Tryz.prog 34:=FnT.ok_of (cfg:=⟨[((34,4,0),.inv [(.tmp 5 .int)])],aL,[],[]⟩) av qQ aA (fun s fn hf=>by rw[Tryz.func34]at hf;cases hf;kernel_rfl) (fun n s=>by kernel_rfl)
def ref42_Ints_T:Tab:=(34,ref42_Ints_t)::ref42_pick_T
theorem qr:ref42_Ints_T.ok Tryz.prog:=Tab.ok_cons GF qQ
abbrev zz:=Bool
def Jc(n:Nat)(v0 v1:Int)(v2 v3 v4:Lv)(v5 v6:Int)(v7 v8 v9:Lv):Option zz:=
 (bif v0=v5 then(bif v1=v6 then(Ek n v2 v7).bind fun y10=>
 (bif y10 then(n0 n v3 v8).bind fun y11=>
 (bif y11 then(n0 n v4 v9).bind fun y12=>
 some y12 else some false)else some false)else some false)else some false)
def uz(n:Nat)(v0 v1:Int)(v2 v3 v4:Lv)(v5 v6:Int)(v7 v8 v9:Lv):Option zz:=Jc n v0 v1 v2 v3 v4 v5 v6 v7 v8 v9
def ref42_Same_t:FnT:=⟨[(true,[.int,.int,tSc,tSa,tSa]),(true,[.int,.int,tSc,tSa,tSa])],.b,fun n (s:Int×Int×Lv×Lv×Lv×Int×Int×Lv×Lv×Lv)=>uz n s.1 s.2.1 s.2.2.1 s.2.2.2.1 s.2.2.2.2.1 s.2.2.2.2.2.1 s.2.2.2.2.2.2.1 s.2.2.2.2.2.2.2.1 s.2.2.2.2.2.2.2.2.1 s.2.2.2.2.2.2.2.2.2⟩
theorem G2:ref42_Same_t.ok Tryz.prog 20:=FnT.ok_of (cfg:=⟨[],aL,[],[]⟩) av qr aA (fun s fn hf=>by rw[Tryz.func20]at hf;cases hf;kernel_rfl) (fun n s=>by kernel_rfl)
def ref42_Same_T:Tab:=(20,ref42_Same_t)::ref42_Ints_T
theorem qE:ref42_Same_T.ok Tryz.prog:=Tab.ok_cons G2 qr
abbrev mc:=Lv
abbrev xB:=Lv×Int
def BD(n:Nat)(go0:xB->Option mc)(v0:Int)(v1 v2:Lv)(v3:Int):Option mc:=
 (bif v3<(v1.length:Int) then(bif v3<12 then bif 0<=v3 then(aN n (cI v1 v3 0) 8).bind fun y4=>
 (aN n (cI v1 v3 1) 8).bind fun y5=>
 (aN n (cI v1 v3 2) 1000).bind fun y6=>
 bif(-9223372036854775808<=(1+y6))&&((1+y6)<=9223372036854775807)then(bif !(y4=y5)then bif 0<=y4 then(bif (Int.tmod (IOp.f .shr v0 y4) 2)=1 then bif 0<=y5 then(bif (Int.tmod (IOp.f .shr v0 y5) 2)=1 then bif (((v2.length:Int)+1)*24)<=140737488355328 then bif(-9223372036854775808<=(v3+1))&&((v3+1)<=9223372036854775807)then go0 ((v2++[[(AV.int y4),(AV.int y5),(AV.int (1+y6))]]),(v3+1))else none else none else bif(-9223372036854775808<=(v3+1))&&((v3+1)<=9223372036854775807)then go0 (v2,(v3+1))else none)else none else bif(-9223372036854775808<=(v3+1))&&((v3+1)<=9223372036854775807)then go0 (v2,(v3+1))else none)else none else bif(-9223372036854775808<=(v3+1))&&((v3+1)<=9223372036854775807)then go0 (v2,(v3+1))else none)else none else none else some v2)else some v2)
def BB(n:Nat)(v0:Int)(v1:Lv):Option mc:=
 (aa (fun go0 s=>BD n go0 v0 v1 s.1 s.2) n ((([]:Lv),0):xB))
def rJ(n:Nat)(v0:Int)(v1:Lv):Option mc:=BB n v0 v1
def ref42_Owe_t:FnT:=⟨[(false,[.int]),(false,[tSc])],(.row 114 (.cons .int (.cons .int (.cons .int .nil)))),fun n (s:Int×Lv)=>rJ n s.1 s.2⟩
theorem I0:ref42_Owe_t.ok Tryz.prog 55:=FnT.ok_of (cfg:=⟨[((55,3,0),.inv [(.tmprow 5 114 (.cons .int (.cons .int (.cons .int .nil)))),(.tmp 6 .int)])],aL,[],[]⟩) av qE aA (fun s fn hf=>by rw[Tryz.func55]at hf;cases hf;kernel_rfl) (fun n s=>by kernel_rfl)
def ref42_Owe_T:Tab:=(55,ref42_Owe_t)::ref42_Same_T
theorem ui:ref42_Owe_T.ok Tryz.prog:=Tab.ok_cons I0 qE
abbrev cU:=Int×Int×Lv×Lv×Lv
abbrev vX:=Int×Lv
abbrev xp:=Lv×Int×Lv
abbrev m7:=Int
def zw(n:Nat)(go0:vX->Option cU)(v4:Lv)(v5 v6:Int)(v9 v11:Lv)(v12:Int)(v13:Lv):Option cU:=
 (bif v12<(v4.length:Int) then bif 0<=v12 then(bif 0<=(cI v4 v12 0) then(bif (cI v4 v12 0)<=7 then(bif 0<=(cI v4 v12 1) then(bif (cI v4 v12 1)<=7 then(bif (Int.tmod (IOp.f .shr (1+v5) (cI v4 v12 0)) 2)=1 then(bif (Int.tmod (IOp.f .shr (1+v5) (cI v4 v12 1)) 2)=1 then bif (cI v4 v12 0)<(v13.length:Int) then bif(-9223372036854775808<=((cI v13 (cI v4 v12 0) 0)-(cI v4 v12 2)))&&(((cI v13 (cI v4 v12 0) 0)-(cI v4 v12 2))<=9223372036854775807)then bif (cI v4 v12 1)<(v13.length:Int) then bif(-9223372036854775808<=((cI (List.modify v13 ((cI v4 v12 0)).toNat (fun r=>r.set 0 (AV.int ((cI v13 (cI v4 v12 0) 0)-(cI v4 v12 2))))) (cI v4 v12 1) 0)+(cI v4 v12 2)))&&(((cI (List.modify v13 ((cI v4 v12 0)).toNat (fun r=>r.set 0 (AV.int ((cI v13 (cI v4 v12 0) 0)-(cI v4 v12 2))))) (cI v4 v12 1) 0)+(cI v4 v12 2))<=9223372036854775807)then bif(-9223372036854775808<=(v12+1))&&((v12+1)<=9223372036854775807)then go0 ((v12+1),(List.modify (List.modify v13 ((cI v4 v12 0)).toNat (fun r=>r.set 0 (AV.int ((cI v13 (cI v4 v12 0) 0)-(cI v4 v12 2))))) ((cI v4 v12 1)).toNat (fun r=>r.set 0 (AV.int ((cI (List.modify v13 ((cI v4 v12 0)).toNat (fun r=>r.set 0 (AV.int ((cI v13 (cI v4 v12 0) 0)-(cI v4 v12 2))))) (cI v4 v12 1) 0)+(cI v4 v12 2))))))else none else none else none else none else none else bif(-9223372036854775808<=(v12+1))&&((v12+1)<=9223372036854775807)then go0 ((v12+1),v13)else none)else bif(-9223372036854775808<=(v12+1))&&((v12+1)<=9223372036854775807)then go0 ((v12+1),v13)else none)else bif(-9223372036854775808<=(v12+1))&&((v12+1)<=9223372036854775807)then go0 ((v12+1),v13)else none)else bif(-9223372036854775808<=(v12+1))&&((v12+1)<=9223372036854775807)then go0 ((v12+1),v13)else none)else bif(-9223372036854775808<=(v12+1))&&((v12+1)<=9223372036854775807)then go0 ((v12+1),v13)else none)else bif(-9223372036854775808<=(v12+1))&&((v12+1)<=9223372036854775807)then go0 ((v12+1),v13)else none)else none else some ((1+v5),(IOp.f .or (1+v5) v6),v9,v13,v11))
def zT(n:Nat)(go0:xp->Option cU)(v3:Int)(v4:Lv)(v5 v6 v8:Int)(v9:Lv)(v10:Int)(v11:Lv):Option cU:=
 (bif v10<8 then bif 0<=v10 then(bif !((Int.tmod (IOp.f .shr (1+v5) v10) 2)=1)then(kJ n v9 v10 v8).bind fun y12=>
 bif (((v11.length:Int)+1)*8)<=140737488355328 then bif(-9223372036854775808<=(v10+1))&&((v10+1)<=9223372036854775807)then go0 (y12.1,(v10+1),(v11++[[(AV.int 0)]]))else none else none else(aN n v3 256).bind fun y12=>
 bif(-9223372036854775808<=(3+(Int.tmod (IOp.f .shr y12 v10) 2)))&&((3+(Int.tmod (IOp.f .shr y12 v10) 2))<=9223372036854775807)then bif (((v11.length:Int)+1)*8)<=140737488355328 then bif(-9223372036854775808<=(v10+1))&&((v10+1)<=9223372036854775807)then go0 (v9,(v10+1),(v11++[[(AV.int (3+(Int.tmod (IOp.f .shr y12 v10) 2)))]]))else none else none else none)else none else(aa (fun go0 s=>zw n go0 v4 v5 v6 v9 v11 s.1 s.2) n ((0,(List.replicate ((8:Int)).toNat [(AV.int 0)])):vX)))
def zH(n:Nat)(go0:m7->Option cU)(v3:Int)(v4:Lv)(v5 v6:Int)(v7:Lv)(v8:Int):Option cU:=
 (bif !((Int.tmod (IOp.f .shr (1+v5) v8) 2)=1)then bif(-9223372036854775808<=(v8+1))&&((v8+1)<=9223372036854775807)then go0 (v8+1)else none else(aa (fun go0 s=>zT n go0 v3 v4 v5 v6 v8 s.1 s.2.1 s.2.2) n ((v7,0,([]:Lv)):xp)))
def Am(n:Nat)(go0:m7->Option cU)(v3:Int)(v4:Lv)(v5 v6:Int)(v7:Lv)(v8:Int):Option cU:=
 bif 0<=v8 then zH n go0 v3 v4 v5 v6 v7 v8 else none
def zE(n:Nat)(v0 v1:Int)(v2:Lv)(v3:Int)(v4:Lv):Option cU:=
 (aN n v0 255).bind fun y5=>
 bif(-9223372036854775808<=(1+y5))&&((1+y5)<=9223372036854775807)then(aN n v1 256).bind fun y6=>
 bif 0<=(af (v2.length:Int) 8) then bif (af (v2.length:Int) 8)<=(v2.length:Int) then(nQ n (List.take ((af (v2.length:Int) 8)).toNat v2)).bind fun y7=>
 (aa (fun go0 s=>Am n go0 v3 v4 y5 y6 y7 s) n (0:m7))else none else none else none
def oz(n:Nat)(v0 v1:Int)(v2:Lv)(v3:Int)(v4:Lv):Option cU:=zE n v0 v1 v2 v3 v4
def ref42_Made_t:FnT:=⟨[(false,[.int]),(false,[.int]),(false,[tSc]),(false,[.int]),(false,[tSc])],(.agg (.cons .i (.cons .i (.cons (.row 1000116 (.cons .int (.cons .int (.cons .int .nil)))) (.cons (.row 1000003 (.cons .int .nil)) (.cons (.row 1000003 (.cons .int .nil)) .nil)))))),fun n (s:Int×Int×Lv×Int×Lv)=>oz n s.1 s.2.1 s.2.2.1 s.2.2.2.1 s.2.2.2.2⟩
theorem G8:ref42_Made_t.ok Tryz.prog 56:=FnT.ok_of (cfg:=⟨[((56,5,5),.inv [(.tmp 13 .int)]),((56,8,6),.inv [(.tmprow 12 116 (.cons .int (.cons .int (.cons .int .nil)))),(.tmp 14 .int),(.cellrow 1 4 3 (.cons .int .nil))]),((56,19,12),.inv [(.tmp 16 .int),(.cellrow 1 3 3 (.cons .int .nil))])],aL,[],[]⟩) av ui aA (fun s fn hf=>by rw[Tryz.func56]at hf;cases hf;kernel_rfl) (fun n s=>by kernel_rfl)
def ref42_Made_T:Tab:=(56,ref42_Made_t)::ref42_Owe_T
theorem rN:ref42_Made_T.ok Tryz.prog:=Tab.ok_cons G8 ui
abbrev bB:=Int×Int×Int×Int×Int×Int×Int×Int
abbrev a8:=Int×Int
def lY(n:Nat)(go0:a8->Option bB)(v0 v5 v11 v12 v13 v14 v17 v21 v22 v23:Int):Option bB:=
 (bif v22<8 then(bif v23=v17 then bif(-9223372036854775808<=(v23+1))&&((v23+1)<=9223372036854775807)then bif(-9223372036854775808<=(v22+1))&&((v22+1)<=9223372036854775807)then go0 ((v22+1),(Int.tmod (v23+1) 8))else none else none else bif 0<=v23 then(bif !((Int.tmod (IOp.f .shr v0 v23) 2)=1)then bif(-9223372036854775808<=(v23+1))&&((v23+1)<=9223372036854775807)then bif(-9223372036854775808<=(v22+1))&&((v22+1)<=9223372036854775807)then go0 ((v22+1),(Int.tmod (v23+1) 8))else none else none else(eH n v11 v12).bind fun y24=>
 (aN n v12 401).bind fun y26=>
 bif(-9223372036854775808<=(y26-200))&&((y26-200)<=9223372036854775807)then some ((1+v13),(v5+v14),v17,v21,0,y24.1,y24.2,(y26-200))else none)else none)else(eH n v11 v12).bind fun y24=>
 (aN n v12 401).bind fun y26=>
 bif(-9223372036854775808<=(y26-200))&&((y26-200)<=9223372036854775807)then some ((1+v13),(v5+v14),v17,v21,0,y24.1,y24.2,(y26-200))else none)
abbrev KA:= @lY
def so(n:Nat)(go0:a8->Option bB)(v0 v1 v5 v11 v12 v13 v14 v17 v19 v20 v21:Int):Option bB:=
 (bif v20<8 then(bif v21=v17 then bif(-9223372036854775808<=(v21+1))&&((v21+1)<=9223372036854775807)then bif(-9223372036854775808<=(v20+1))&&((v20+1)<=9223372036854775807)then go0 ((v20+1),(Int.tmod (v21+1) 8))else none else none else bif 0<=v21 then(bif(!((decide ((Int.tmod (IOp.f .shr v1 v21) 2)=1))==false))then bif(-9223372036854775808<=(v21+1))&&((v21+1)<=9223372036854775807)then bif(-9223372036854775808<=(v20+1))&&((v20+1)<=9223372036854775807)then go0 ((v20+1),(Int.tmod (v21+1) 8))else none else none else(aa (fun go0 s=>lY n go0 v0 v5 v11 v12 v13 v14 v17 v21 s.1 s.2) n ((0,v19):a8)))else none)else(aa (fun go0 s=>KA n go0 v0 v5 v11 v12 v13 v14 v17 v21 s.1 s.2) n ((0,v19):a8)))
def l9(n:Nat)(go0:a8->Option bB)(v0 v5 v11 v12 v13 v14 v17 v21 v22 v23:Int):Option bB:=
 (bif v22<8 then(bif v23=v17 then bif(-9223372036854775808<=(v23+1))&&((v23+1)<=9223372036854775807)then bif(-9223372036854775808<=(v22+1))&&((v22+1)<=9223372036854775807)then go0 ((v22+1),(Int.tmod (v23+1) 8))else none else none else bif 0<=v23 then(bif !((Int.tmod (IOp.f .shr v0 v23) 2)=1)then bif(-9223372036854775808<=(v23+1))&&((v23+1)<=9223372036854775807)then bif(-9223372036854775808<=(v22+1))&&((v22+1)<=9223372036854775807)then go0 ((v22+1),(Int.tmod (v23+1) 8))else none else none else(eH n v11 v12).bind fun y24=>
 (aN n v12 401).bind fun y26=>
 bif(-9223372036854775808<=(y26-200))&&((y26-200)<=9223372036854775807)then(bif !((1+v13)=3)then(bif (1+v13)=1 then some ((1+v13),(v5+v14),v17,v21,0,0,0,0)else(bif (1+v13)=4 then some ((1+v13),(v5+v14),v17,0,0,0,0,0)else some ((1+v13),(v5+v14),v17,v21,0,y24.1,y24.2,(y26-200))))else some ((1+v13),(v5+v14),v17,v21,v23,y24.1,y24.2,(y26-200)))else none)else none)else(eH n v11 v12).bind fun y24=>
 (aN n v12 401).bind fun y26=>
 bif(-9223372036854775808<=(y26-200))&&((y26-200)<=9223372036854775807)then(bif !((1+v13)=3)then(bif (1+v13)=1 then some ((1+v13),(v5+v14),v17,v21,0,0,0,0)else(bif (1+v13)=4 then some ((1+v13),(v5+v14),v17,0,0,0,0,0)else some ((1+v13),(v5+v14),v17,v21,0,y24.1,y24.2,(y26-200))))else some ((1+v13),(v5+v14),v17,v21,v23,y24.1,y24.2,(y26-200)))else none)
abbrev Ib:= @l9
def sp(n:Nat)(go0:a8->Option bB)(v0 v5 v11 v12 v13 v14 v17 v19 v20 v21:Int):Option bB:=
 (bif v20<8 then(bif v21=v17 then bif(-9223372036854775808<=(v21+1))&&((v21+1)<=9223372036854775807)then bif(-9223372036854775808<=(v20+1))&&((v20+1)<=9223372036854775807)then go0 ((v20+1),(Int.tmod (v21+1) 8))else none else none else bif 0<=v21 then(bif(!((decide ((Int.tmod (IOp.f .shr v0 v21) 2)=1))==true))then bif(-9223372036854775808<=(v21+1))&&((v21+1)<=9223372036854775807)then bif(-9223372036854775808<=(v20+1))&&((v20+1)<=9223372036854775807)then go0 ((v20+1),(Int.tmod (v21+1) 8))else none else none else(aa (fun go0 s=>l9 n go0 v0 v5 v11 v12 v13 v14 v17 v21 s.1 s.2) n ((0,v19):a8)))else none)else(aa (fun go0 s=>Ib n go0 v0 v5 v11 v12 v13 v14 v17 v21 s.1 s.2) n ((0,v19):a8)))
def mg(n:Nat)(go0:a8->Option bB)(v0 v1 v5 v11 v12 v13 v14 v17 v18 v19:Int):Option bB:=
 (bif (1+v13)=2 then(aa (fun go0 s=>so n go0 v0 v1 v5 v11 v12 v13 v14 v17 v19 s.1 s.2) n ((0,v18):a8))else(aa (fun go0 s=>sp n go0 v0 v5 v11 v12 v13 v14 v17 v19 s.1 s.2) n ((0,v18):a8)))
def BC(n:Nat)(go0:a8->Option bB)(v0 v1 v5 v9 v10 v11 v12 v13 v14 v16 v17:Int):Option bB:=
 (bif !((Int.tmod (IOp.f .shr v0 v17) 2)=1)then bif(-9223372036854775808<=(v17+1))&&((v17+1)<=9223372036854775807)then bif(-9223372036854775808<=(v16+1))&&((v16+1)<=9223372036854775807)then go0 ((v16+1),(Int.tmod (v17+1) 8))else none else none else(aN n v9 8).bind fun y18=>
 (aN n v10 8).bind fun y19=>
 mg n go0 v0 v1 v5 v11 v12 v13 v14 v17 y18 y19)
abbrev JC:= @mg
def BW(n:Nat)(go0:a8->Option bB)(v0 v1 v5 v9 v10 v11 v12 v13 v14 v16 v17:Int):Option bB:=
 (bif v16<8 then bif 0<=v17 then BC n go0 v0 v1 v5 v9 v10 v11 v12 v13 v14 v16 v17 else none else(aN n v9 8).bind fun y18=>
 (aN n v10 8).bind fun y19=>
 JC n go0 v0 v1 v5 v11 v12 v13 v14 v17 y18 y19)
def Bl(n:Nat)(v0 v1 v5 v6 v7 v8 v9 v10 v11 v12:Int):Option bB:=
 (aN n v6 4).bind fun y13=>
 bif(-9223372036854775808<=(1+y13))&&((1+y13)<=9223372036854775807)then(aN n v7 5).bind fun y14=>
 bif(-9223372036854775808<=(v5+y14))&&((v5+y14)<=9223372036854775807)then(aN n v8 8).bind fun y15=>
 (aa (fun go0 s=>BW n go0 v0 v1 v5 v9 v10 v11 v12 y13 y14 s.1 s.2) n ((0,y15):a8))else none else none
def qo(n:Nat)(v0 v1:Int)(v2 v3 v4:Lv)(v5 v6 v7 v8 v9 v10 v11 v12:Int):Option bB:=Bl n v0 v1 v5 v6 v7 v8 v9 v10 v11 v12
def ref42_One_t:FnT:=⟨[(true,[.int,.int,tSc,tSa,tSa]),(false,[.int]),(true,[.int,.int,.int,.int,.int,.int,.int])],(.agg (.cons .i (.cons .i (.cons .i (.cons .i (.cons .i (.cons .i (.cons .i (.cons .i .nil))))))))),fun n (s:Int×Int×Lv×Lv×Lv×Int×Int×Int×Int×Int×Int×Int×Int)=>qo n s.1 s.2.1 s.2.2.1 s.2.2.2.1 s.2.2.2.2.1 s.2.2.2.2.2.1 s.2.2.2.2.2.2.1 s.2.2.2.2.2.2.2.1 s.2.2.2.2.2.2.2.2.1 s.2.2.2.2.2.2.2.2.2.1 s.2.2.2.2.2.2.2.2.2.2.1 s.2.2.2.2.2.2.2.2.2.2.2.1 s.2.2.2.2.2.2.2.2.2.2.2.2⟩
theorem JB:ref42_One_t.ok Tryz.prog 15:=FnT.ok_of (cfg:=⟨[((15,3,5),.inv [(.tmp 8 .int),(.cell 3 2 .int)]),((15,15,9),.inv [(.tmp 11 .int),(.cell 3 3 .int)]),((15,19,11),.inv [(.tmp 12 .int),(.cell 3 4 .int)])],aL,[],[]⟩) av rN aA (fun s fn hf=>by rw[Tryz.func15]at hf;cases hf;kernel_rfl) (fun n s=>by kernel_rfl)
def ref42_One_T:Tab:=(15,ref42_One_t)::ref42_Made_T
theorem tz:ref42_One_T.ok Tryz.prog:=Tab.ok_cons JB rN
abbrev yH:=Int
def xU(n:Nat)(v0 v1:Int):Option yH:=
 (bif v0<0 then bif(-9223372036854775808<=(v0+1))&&((v0+1)<=9223372036854775807)then bif(-9223372036854775808<=(0-(v0+1)))&&((0-(v0+1))<=9223372036854775807)then bif !(v1=0)then some (Int.tmod (0-(v0+1)) v1)else none else none else none else bif !(v1=0)then some (Int.tmod v0 v1)else none)
def bZ(n:Nat)(v0 v1:Int):Option yH:=xU n v0 v1
def law42_pick_t:FnT:=⟨[(false,[.int]),(false,[.int])],.i,fun n (s:Int×Int)=>bZ n s.1 s.2⟩
theorem HG:law42_pick_t.ok Tryz.prog 23:=FnT.ok_of (cfg:=⟨[],aL,[],[]⟩) av tz aA (fun s fn hf=>by rw[Tryz.func23]at hf;cases hf;kernel_rfl) (fun n s=>by kernel_rfl)
def law42_pick_T:Tab:=(23,law42_pick_t)::ref42_One_T
theorem qp:law42_pick_T.ok Tryz.prog:=Tab.ok_cons HG tz
abbrev rO:=Int×Int×Lv×Lv×Lv
def Dr(n:Nat):Option rO:=
 some (6,6,((([]:Lv)++[[(AV.int 100),(AV.int 200),(AV.int 1)]])++[[(AV.int 200),(AV.int 300),(AV.int 2)]]),((((((((([]:Lv)++[[(AV.int 0)]])++[[(AV.int 50)]])++[[(AV.int (-50))]])++[[(AV.int 0)]])++[[(AV.int 0)]])++[[(AV.int 0)]])++[[(AV.int 0)]])++[[(AV.int 0)]]),(List.replicate ((8:Int)).toNat [(AV.int 0)]))
def cb(n:Nat):Option rO:=Dr n
def law42_example_t:FnT:=⟨[],(.agg (.cons .i (.cons .i (.cons (.row 116 (.cons .int (.cons .int (.cons .int .nil)))) (.cons (.row 3 (.cons .int .nil)) (.cons (.row 3 (.cons .int .nil)) .nil)))))),fun n (s:Unit)=>cb n⟩
theorem Cp:law42_example_t.ok Tryz.prog 51:=FnT.ok_of (cfg:=⟨[],aL,[],[]⟩) av qp aA (fun s fn hf=>by rw[Tryz.func51]at hf;cases hf;kernel_rfl) (fun n s=>by kernel_rfl)
def law42_example_T:Tab:=(51,law42_example_t)::law42_pick_T
theorem mn:law42_example_T.ok Tryz.prog:=Tab.ok_cons Cp qp
abbrev tW:=Lv
def EG(n:Nat):Option tW:=
 some ((([]:Lv)++[[(AV.int 2),(AV.int 10),(AV.int 1),(AV.int 3),(AV.int 0),(AV.int 150),(AV.int 180),(AV.int 20)]])++[[(AV.int 1),(AV.int 20),(AV.int 1),(AV.int 2),(AV.int 0),(AV.int 0),(AV.int 0),(AV.int 0)]])
def dt(n:Nat):Option tW:=EG n
def law42_events_t:FnT:=⟨[],(.row 41 (.cons .int (.cons .int (.cons .int (.cons .int (.cons .int (.cons .int (.cons .int (.cons .int .nil))))))))),fun n (s:Unit)=>dt n⟩
theorem D1:law42_events_t.ok Tryz.prog 52:=FnT.ok_of (cfg:=⟨[],aL,[],[]⟩) av mn aA (fun s fn hf=>by rw[Tryz.func52]at hf;cases hf;kernel_rfl) (fun n s=>by kernel_rfl)
def law42_events_T:Tab:=(52,law42_events_t)::law42_example_T
theorem nC:law42_events_T.ok Tryz.prog:=Tab.ok_cons D1 mn
abbrev za:=Int×Int×Lv×Lv×Lv×Lv
def At(n:Nat)(v0 v1 v2:Int)(v3 v4:Lv):Option za:=
 (bZ n v0 255).bind fun y5=>
 bif(-9223372036854775808<=(1+y5))&&((1+y5)<=9223372036854775807)then(rJ n (1+y5) v4).bind fun y6=>
 (oz n v0 v1 v3 v2 y6).bind fun y7=>
 some (y7.1,y7.2.1,y7.2.2.1,y7.2.2.2.1,y7.2.2.2.2,y6)else none
def kl(n:Nat)(v0 v1 v2:Int)(v3 v4:Lv):Option za:=At n v0 v1 v2 v3 v4
def law42_made_t:FnT:=⟨[(true,[.int,.int,.int]),(false,[tSc]),(false,[tSc])],(.tup (.cons (.agg (.cons .i (.cons .i (.cons (.row 1000116 (.cons .int (.cons .int (.cons .int .nil)))) (.cons (.row 1000003 (.cons .int .nil)) (.cons (.row 1000003 (.cons .int .nil)) .nil)))))) (.cons (.row 1000114 (.cons .int (.cons .int (.cons .int .nil)))) .nil))),fun n (s:Int×Int×Int×Lv×Lv)=>kl n s.1 s.2.1 s.2.2.1 s.2.2.2.1 s.2.2.2.2⟩
theorem HX:law42_made_t.ok Tryz.prog 12:=FnT.ok_of (cfg:=⟨[],aL,[],[]⟩) av nC aA (fun s fn hf=>by rw[Tryz.func12]at hf;cases hf;kernel_rfl) (fun n s=>by kernel_rfl)
def law42_made_T:Tab:=(12,law42_made_t)::law42_events_T
theorem qH:law42_made_T.ok Tryz.prog:=Tab.ok_cons HX nC
abbrev o7:=Bool
def CF(n:Nat)(v0 v1 v2:Int):Option o7:=
 (cb n ).bind fun y3=>
 (dt n ).bind fun y8=>
 (bi n y3.1 y3.2.1 y3.2.2.1 y3.2.2.2.1 y3.2.2.2.2 y8 1 v0 v1).bind fun y9=>
 (bif y9.2=0 then some (decide (y9.1=v2))else some false)
def fG(n:Nat)(v0 v1 v2:Int):Option o7:=CF n v0 v1 v2
def law42_succeeds_t:FnT:=⟨[(false,[.int]),(false,[.int]),(false,[.int])],.b,fun n (s:Int×Int×Int)=>fG n s.1 s.2.1 s.2.2⟩
theorem Bg:law42_succeeds_t.ok Tryz.prog 54:=FnT.ok_of (cfg:=⟨[],aL,[],[]⟩) av qH aA (fun s fn hf=>by rw[Tryz.func54]at hf;cases hf;kernel_rfl) (fun n s=>by kernel_rfl)
def law42_succeeds_T:Tab:=(54,law42_succeeds_t)::law42_made_T
theorem ll:law42_succeeds_T.ok Tryz.prog:=Tab.ok_cons Bg qH
abbrev xW:=Bool
def Ie(n:Nat):Option xW:=
 (cb n ).bind fun y0=>
 (dt n ).bind fun y5=>
 bif 0<(y5.length:Int) then(DP n y0.1 y0.2.1 y0.2.2.1 y0.2.2.2.1 y0.2.2.2.2 (cI y5 0 0) (cI y5 0 1) (cI y5 0 2) (cI y5 0 3) (cI y5 0 4) (cI y5 0 5) (cI y5 0 6) (cI y5 0 7)).bind fun y6=>
 (cb n ).bind fun y12=>
 (dt n ).bind fun y17=>
 (dS n y12.1 y12.2.1 y12.2.2.1 y12.2.2.2.1 y12.2.2.2.2 y17).bind fun y18=>
 (dt n ).bind fun y25=>
 bif (((y25.length:Int)+1)*64)<=140737488355328 then(cb n ).bind fun y26=>
 (dS n y26.1 y26.2.1 y26.2.2.1 y26.2.2.2.1 y26.2.2.2.2 (y25++[[(AV.int 2),(AV.int 30),(AV.int 2),(AV.int 1),(AV.int 0),(AV.int 100),(AV.int 110),(AV.int 0)]])).bind fun y31=>
 (dt n ).bind fun y38=>
 bif (((((y38.length:Int)+1)+1)+1)*64)<=140737488355328 then(cb n ).bind fun y39=>
 (dS n y39.1 y39.2.1 y39.2.2.1 y39.2.2.2.1 y39.2.2.2.2 (((y38++[[(AV.int 4),(AV.int 30),(AV.int 2),(AV.int 0),(AV.int 0),(AV.int 0),(AV.int 0),(AV.int 0)]])++[[(AV.int 4),(AV.int 30),(AV.int 3),(AV.int 0),(AV.int 0),(AV.int 0),(AV.int 0),(AV.int 0)]])++[[(AV.int 4),(AV.int 40),(AV.int 2),(AV.int 0),(AV.int 0),(AV.int 0),(AV.int 0),(AV.int 0)]])).bind fun y44=>
 (cb n ).bind fun y51=>
 bif ((((((y38.length:Int)+1)+1)+1)+1)*64)<=140737488355328 then(dS n y51.1 y51.2.1 y51.2.2.1 y51.2.2.2.1 y51.2.2.2.2 ((((y38++[[(AV.int 4),(AV.int 30),(AV.int 2),(AV.int 0),(AV.int 0),(AV.int 0),(AV.int 0),(AV.int 0)]])++[[(AV.int 4),(AV.int 30),(AV.int 3),(AV.int 0),(AV.int 0),(AV.int 0),(AV.int 0),(AV.int 0)]])++[[(AV.int 4),(AV.int 40),(AV.int 2),(AV.int 0),(AV.int 0),(AV.int 0),(AV.int 0),(AV.int 0)]])++[[(AV.int 4),(AV.int 40),(AV.int 2),(AV.int 0),(AV.int 0),(AV.int 0),(AV.int 0),(AV.int 0)]])).bind fun y56=>
 (cb n ).bind fun y63=>
 (dt n ).bind fun y68=>
 (cf n y63.1 y63.2.1 y63.2.2.1 y63.2.2.2.1 y63.2.2.2.2 y68 100 1 2 4 0 false 5).bind fun y69=>
 (cb n ).bind fun y76=>
 (dt n ).bind fun y81=>
 (cf n y76.1 y76.2.1 y76.2.2.1 y76.2.2.2.1 y76.2.2.2.2 y81 100 1 2 4 0 false 20).bind fun y82=>
 (cb n ).bind fun y89=>
 (dt n ).bind fun y94=>
 (Bz n y89.1 y89.2.1 y89.2.2.1 y89.2.2.2.1 y89.2.2.2.2 y94 (([]:Lv)++[[(AV.int 2),(AV.int 1),(AV.int 50)]])).bind fun y95=>
 (bif !(y6.2.2.2.2.2=0)then some false else(bif !(y18.2.2.2.2.2.2=0)then some false else(bif !(y31.2.2.2.2.2.2=420)then some false else(bif !(y44.2.2.2.2.2.2=0)then some false else(bif !(y56.2.2.2.2.2.2=420)then some false else(bif !(y95.2=0)then some false else(bif !(y18.2.2.2.2.2.1=2)then some false else(bif !(y31.2.2.2.2.2.1=2)then some false else(bif !(y44.2.2.2.2.2.1=5)then some false else(bif !(y56.2.2.2.2.2.1=5)then some false else(bif(!y69.2.2.2.2.2.2)then some false else(bif y82.2.2.2.2.2.2 then some false else(bif(!((decide (y69.1=100))&&((decide (y69.2.1=1))&&((decide (y69.2.2.1=2))&&((decide (y69.2.2.2.1=4))&&((decide (y69.2.2.2.2.1=0))&&(y69.2.2.2.2.2.1==false)))))))then some false else(bif !((y95.1.length:Int)=1)then some false else(uz n y6.1 y6.2.1 y6.2.2.1 y6.2.2.2.1 y6.2.2.2.2.1 14 14 ((((([]:Lv)++[[(AV.int 100),(AV.int 150),(AV.int 1)]])++[[(AV.int 150),(AV.int 180),(AV.int 3)]])++[[(AV.int 180),(AV.int 200),(AV.int 1)]])++[[(AV.int 200),(AV.int 300),(AV.int 2)]]) ((((((((([]:Lv)++[[(AV.int 0)]])++[[(AV.int 30)]])++[[(AV.int (-50))]])++[[(AV.int 20)]])++[[(AV.int 0)]])++[[(AV.int 0)]])++[[(AV.int 0)]])++[[(AV.int 0)]]) (List.replicate ((8:Int)).toNat [(AV.int 0)])).bind fun y97=>
 (uz n y18.1 y18.2.1 y18.2.2.1 y18.2.2.2.1 y18.2.2.2.2.1 12 14 (((([]:Lv)++[[(AV.int 100),(AV.int 150),(AV.int 2)]])++[[(AV.int 150),(AV.int 180),(AV.int 3)]])++[[(AV.int 180),(AV.int 300),(AV.int 2)]]) ((((((((([]:Lv)++[[(AV.int 0)]])++[[(AV.int 0)]])++[[(AV.int (-20))]])++[[(AV.int 20)]])++[[(AV.int 0)]])++[[(AV.int 0)]])++[[(AV.int 0)]])++[[(AV.int 0)]]) (List.replicate ((8:Int)).toNat [(AV.int 0)])).bind fun y98=>
 (n0 n y44.2.2.2.2.1 ((((((((([]:Lv)++[[(AV.int 0)]])++[[(AV.int 0)]])++[[(AV.int 2)]])++[[(AV.int 1)]])++[[(AV.int 0)]])++[[(AV.int 0)]])++[[(AV.int 0)]])++[[(AV.int 0)]])).bind fun y99=>
 (bif y97 then(bif y98 then(bif y99 then(fG n 160 5 1).bind fun y100=>
 (bif y100 then(fG n 160 10 3).bind fun y101=>
 (bif y101 then(fG n 160 20 3).bind fun y102=>
 (bif y102 then(fG n 100 20 2).bind fun y103=>
 (bif y103 then bif 0<(y95.1.length:Int) then(bif((decide ((cI y95.1 0 0)=2))&&((decide ((cI y95.1 0 1)=3))&&(decide ((cI y95.1 0 2)=20))))then(cb n ).bind fun y104=>
 (cS n y104.1 y104.2.1 y104.2.2.1 y104.2.2.2.1 y104.2.2.2.2).bind fun y109=>
 (bif y109 then(cS n 0 0 ([]:Lv) ([]:Lv) ([]:Lv)).bind fun y110=>
 some (!y110)else some false)else some false)else none else some false)else some false)else some false)else some false)else some false)else some false)else some false)))))))))))))))else none else none else none else none
def oc(n:Nat):Option xW:=Ie n
def law42_sane_t:FnT:=⟨[],.b,fun n (s:Unit)=>oc n⟩
theorem Gm:law42_sane_t.ok Tryz.prog 11:=FnT.ok_of (cfg:=⟨[],aL,[],[]⟩) av ll aA (fun s fn hf=>by rw[Tryz.func11]at hf;cases hf;kernel_rfl) (fun n s=>by kernel_rfl)
def law42_sane_T:Tab:=(11,law42_sane_t)::law42_succeeds_T
theorem si:law42_sane_T.ok Tryz.prog:=Tab.ok_cons Gm ll
abbrev yn:=Int×Int×Lv×Lv×Lv
def xD(n:Nat)(v0 v1:Int)(v2 v3 v4:Lv):Option yn:=
 bif ((v2.length:Int)*24)<=140737488355328 then bif ((v3.length:Int)*8)<=140737488355328 then bif ((v4.length:Int)*8)<=140737488355328 then some (v0,v1,v2,v3,v4)else none else none else none
def gz(n:Nat)(v0 v1:Int)(v2 v3 v4:Lv):Option yn:=xD n v0 v1 v2 v3 v4
def ref42_Copy_t:FnT:=⟨[(true,[.int,.int,tSc,tSa,tSa])],(.agg (.cons .i (.cons .i (.cons (.row 116 (.cons .int (.cons .int (.cons .int .nil)))) (.cons (.row 3 (.cons .int .nil)) (.cons (.row 3 (.cons .int .nil)) .nil)))))),fun n (s:Int×Int×Lv×Lv×Lv)=>gz n s.1 s.2.1 s.2.2.1 s.2.2.2.1 s.2.2.2.2⟩
theorem GK:ref42_Copy_t.ok Tryz.prog 57:=FnT.ok_of (cfg:=⟨[],aL,[],[]⟩) av si aA (fun s fn hf=>by rw[Tryz.func57]at hf;cases hf;kernel_rfl) (fun n s=>by kernel_rfl)
def ref42_Copy_T:Tab:=(57,ref42_Copy_t)::law42_sane_T
theorem qL:ref42_Copy_T.ok Tryz.prog:=Tab.ok_cons GK si
abbrev fc:=Bool
abbrev sO:=Int×Int×Int×Int
abbrev uj:=Int
def wX(n:Nat)(go0:sO->Option fc)(v0:Int)(v3 v4:Lv)(v7 v8 v9 v10:Int):Option fc:=
 (bif v10<8 then bif 0<=v10 then bif v10<(v3.length:Int) then(bif (-1000000000000)<=(cI v3 v10 0) then(bif !((cI v3 v10 0)<=1000000000000)then some false else bif v10<(v4.length:Int) then(bif 0<=(cI v4 v10 0) then(bif !((cI v4 v10 0)<=9)then some false else bif(-9223372036854775808<=(v7+(cI v3 v10 0)))&&((v7+(cI v3 v10 0))<=9223372036854775807)then(bif (Int.tmod (IOp.f .shr v0 v10) 2)=1 then bif(-9223372036854775808<=(v10+1))&&((v10+1)<=9223372036854775807)then go0 ((v7+(cI v3 v10 0)),(af v8 (cI v4 v10 0)),(aq v9 (cI v4 v10 0)),(v10+1))else none else(bif !((cI v3 v10 0)=0)then some false else(bif !((cI v4 v10 0)=0)then some false else bif(-9223372036854775808<=(v10+1))&&((v10+1)<=9223372036854775807)then go0 ((v7+(cI v3 v10 0)),v8,v9,(v10+1))else none)))else none)else some false)else none)else some false)else none else none else(bif v7=0 then(bif v0=0 then some true else bif(-9223372036854775808<=(v9-v8))&&((v9-v8)<=9223372036854775807)then some (decide ((v9-v8)<=1))else none)else some false))
def wm(n:Nat)(go0:uj->Option fc)(v0:Int)(v2 v3 v4:Lv)(v6:Int):Option fc:=
 (bif v6<(v2.length:Int) then bif 0<=v6 then bif 0<=(cI v2 v6 2) then(bif !((Int.tmod (IOp.f .shr v0 (cI v2 v6 2)) 2)=1)then some false else bif(-9223372036854775808<=(v6+1))&&((v6+1)<=9223372036854775807)then go0 (v6+1)else none)else none else none else(aa (fun go0 s=>wX n go0 v0 v3 v4 s.1 s.2.1 s.2.2.1 s.2.2.2) n ((0,9,0,0):sO)))
def wW(n:Nat)(v0 v1:Int)(v2 v3 v4:Lv):Option fc:=
 (bif 0<=v0 then(bif !(v0<=255)then some false else(bif 0<=v1 then(bif !(v1<=255)then some false else(bif !((IOp.f .andNot v0 v1)=0)then some false else(ce n v2).bind fun y5=>
 (bif(!y5)then some false else(bif !((v3.length:Int)=8)then some false else(bif !((v4.length:Int)=8)then some false else(aa (fun go0 s=>wm n go0 v0 v2 v3 v4 s) n (0:uj)))))))else some false))else some false)
def dN(n:Nat)(v0 v1:Int)(v2 v3 v4:Lv):Option fc:=wW n v0 v1 v2 v3 v4
def ref42_Valid_t:FnT:=⟨[(true,[.int,.int,tSc,tSa,tSa])],.b,fun n (s:Int×Int×Lv×Lv×Lv)=>dN n s.1 s.2.1 s.2.2.1 s.2.2.2.1 s.2.2.2.2⟩
theorem E9:ref42_Valid_t.ok Tryz.prog 19:=FnT.ok_of (cfg:=⟨[((19,4,1),.inv [(.tmp 3 .int)]),((19,12,2),.inv [(.tmp 4 .int),(.tmp 5 .int),(.tmp 6 .int),(.tmp 7 .int)])],aL,[],[]⟩) av qL aA (fun s fn hf=>by rw[Tryz.func19]at hf;cases hf;kernel_rfl) (fun n s=>by kernel_rfl)
def ref42_Valid_T:Tab:=(19,ref42_Valid_t)::ref42_Copy_T
theorem oX:ref42_Valid_T.ok Tryz.prog:=Tab.ok_cons E9 qL
abbrev tL:=Bool
def tf(n:Nat)(v0 v1 v2 v3 v4 v5 v6 v7:Int):Option tL:=
 (bif 0<=v1 then(bif !(v1<=10000000)then some false else(bif 0<=v2 then(bif !(v2<=7)then some false else(bif 0<=v3 then(bif !(v3<=7)then some false else(bif 0<=v4 then(bif !(v4<=7)then some false else(bif(v5=0)&&(v6=0)then(bif 0<=v5 then(bif v5<v6 then(bif v6<=100000000 then(bif (-1000000000000)<=v7 then(bif v0=1 then(bif v7=0 then(bif v4=0 then some (!(decide (v2=v3)))else some false)else some false)else(bif v0=2 then(bif v7<=1000000000000 then(bif v4=0 then some (!(decide (v2=v3)))else some false)else some false)else(bif v0=3 then(bif v7<=1000000000000 then(bif !(v2=v3)then some (!(decide (v2=v4)))else some false)else some false)else(bif v0=4 then(bif v7=0 then(bif v3=0 then some (decide (v4=0))else some false)else some false)else some false))))else(bif v0=1 then(bif v7=0 then(bif v4=0 then some (!(decide (v2=v3)))else some false)else some false)else(bif v0=2 then some false else(bif v0=3 then some false else(bif v0=4 then(bif v7=0 then(bif v3=0 then some (decide (v4=0))else some false)else some false)else some false)))))else(bif v0=1 then(bif v7=0 then(bif v4=0 then some (!(decide (v2=v3)))else some false)else some false)else(bif v0=2 then some false else(bif v0=3 then some false else(bif v0=4 then(bif v7=0 then(bif v3=0 then some (decide (v4=0))else some false)else some false)else some false)))))else(bif v0=1 then(bif v7=0 then(bif v4=0 then some (!(decide (v2=v3)))else some false)else some false)else(bif v0=2 then some false else(bif v0=3 then some false else(bif v0=4 then(bif v7=0 then(bif v3=0 then some (decide (v4=0))else some false)else some false)else some false)))))else(bif v0=1 then(bif v7=0 then(bif v4=0 then some (!(decide (v2=v3)))else some false)else some false)else(bif v0=2 then some false else(bif v0=3 then some false else(bif v0=4 then(bif v7=0 then(bif v3=0 then some (decide (v4=0))else some false)else some false)else some false)))))else(bif 0<=v5 then(bif v5<v6 then(bif v6<=100000000 then(bif (-1000000000000)<=v7 then(bif v0=1 then some false else(bif v0=2 then(bif v7<=1000000000000 then(bif v4=0 then some (!(decide (v2=v3)))else some false)else some false)else(bif v0=3 then(bif v7<=1000000000000 then(bif !(v2=v3)then some (!(decide (v2=v4)))else some false)else some false)else(bif v0=4 then some false else some false))))else(bif v0=1 then some false else(bif v0=2 then some false else(bif v0=3 then some false else(bif v0=4 then some false else some false)))))else(bif v0=1 then some false else(bif v0=2 then some false else(bif v0=3 then some false else(bif v0=4 then some false else some false)))))else(bif v0=1 then some false else(bif v0=2 then some false else(bif v0=3 then some false else(bif v0=4 then some false else some false)))))else(bif v0=1 then some false else(bif v0=2 then some false else(bif v0=3 then some false else(bif v0=4 then some false else some false)))))))else some false))else some false))else some false))else some false)
def kH(n:Nat)(v0 v1 v2 v3 v4 v5 v6 v7:Int):Option tL:=tf n v0 v1 v2 v3 v4 v5 v6 v7
def ref42_formed_t:FnT:=⟨[(true,[.int,.int,.int,.int,.int,.int,.int,.int])],.b,fun n (s:Int×Int×Int×Int×Int×Int×Int×Int)=>kH n s.1 s.2.1 s.2.2.1 s.2.2.2.1 s.2.2.2.2.1 s.2.2.2.2.2.1 s.2.2.2.2.2.2.1 s.2.2.2.2.2.2.2⟩
theorem DI:ref42_formed_t.ok Tryz.prog 63:=FnT.ok_of (cfg:=⟨[],aL,[],[]⟩) av oX aA (fun s fn hf=>by rw[Tryz.func63]at hf;cases hf;kernel_rfl) (fun n s=>by kernel_rfl)
def ref42_formed_T:Tab:=(63,ref42_formed_t)::ref42_Valid_T
theorem nv:ref42_formed_T.ok Tryz.prog:=Tab.ok_cons DI oX
abbrev aV:=Lv
abbrev bz:=Lv×Int
def rS(n:Nat)(go0:bz->Option aV)(go1:bz->Option aV)(v0:Lv)(v2 v3 v4 v5 v7:Int)(v8:Lv)(v9:Int):Option aV:=
 (bif v9=1 then(bif 0<(v8.length:Int) then bif(-9223372036854775808<=((v8.length:Int)-1))&&(((v8.length:Int)-1)<=9223372036854775807)then bif 0<=(aq ((v8.length:Int)-1) 0) then bif (aq ((v8.length:Int)-1) 0)<(v8.length:Int) then(bif (cI v8 (aq ((v8.length:Int)-1) 0) 1)=(cI ((((([]:Lv)++[[(AV.int (cI v0 v7 0))]])++[[(AV.int (aq (cI v0 v7 0) (af v4 (cI v0 v7 1))))]])++[[(AV.int (aq (cI v0 v7 0) (af v5 (cI v0 v7 1))))]])++[[(AV.int (cI v0 v7 1))]]) v9 0) then(bif (cI v8 (aq ((v8.length:Int)-1) 0) 2)=v2 then bif 0<=((v8.length:Int)-1) then bif ((v8.length:Int)-1)<(v8.length:Int) then go1 ((List.modify v8 (((v8.length:Int)-1)).toNat (fun r=>r.set 1 (AV.int (cI ((((([]:Lv)++[[(AV.int (cI v0 v7 0))]])++[[(AV.int (aq (cI v0 v7 0) (af v4 (cI v0 v7 1))))]])++[[(AV.int (aq (cI v0 v7 0) (af v5 (cI v0 v7 1))))]])++[[(AV.int (cI v0 v7 1))]]) (v9+1) 0)))),(v9+1))else none else none else bif (((v8.length:Int)+1)*24)<=140737488355328 then go1 ((v8++[[(AV.int (cI ((((([]:Lv)++[[(AV.int (cI v0 v7 0))]])++[[(AV.int (aq (cI v0 v7 0) (af v4 (cI v0 v7 1))))]])++[[(AV.int (aq (cI v0 v7 0) (af v5 (cI v0 v7 1))))]])++[[(AV.int (cI v0 v7 1))]]) v9 0)),(AV.int (cI ((((([]:Lv)++[[(AV.int (cI v0 v7 0))]])++[[(AV.int (aq (cI v0 v7 0) (af v4 (cI v0 v7 1))))]])++[[(AV.int (aq (cI v0 v7 0) (af v5 (cI v0 v7 1))))]])++[[(AV.int (cI v0 v7 1))]]) (v9+1) 0)),(AV.int v2)]]),(v9+1))else none)else bif (((v8.length:Int)+1)*24)<=140737488355328 then go1 ((v8++[[(AV.int (cI ((((([]:Lv)++[[(AV.int (cI v0 v7 0))]])++[[(AV.int (aq (cI v0 v7 0) (af v4 (cI v0 v7 1))))]])++[[(AV.int (aq (cI v0 v7 0) (af v5 (cI v0 v7 1))))]])++[[(AV.int (cI v0 v7 1))]]) v9 0)),(AV.int (cI ((((([]:Lv)++[[(AV.int (cI v0 v7 0))]])++[[(AV.int (aq (cI v0 v7 0) (af v4 (cI v0 v7 1))))]])++[[(AV.int (aq (cI v0 v7 0) (af v5 (cI v0 v7 1))))]])++[[(AV.int (cI v0 v7 1))]]) (v9+1) 0)),(AV.int v2)]]),(v9+1))else none)else none else none else none else bif (((v8.length:Int)+1)*24)<=140737488355328 then go1 ((v8++[[(AV.int (cI ((((([]:Lv)++[[(AV.int (cI v0 v7 0))]])++[[(AV.int (aq (cI v0 v7 0) (af v4 (cI v0 v7 1))))]])++[[(AV.int (aq (cI v0 v7 0) (af v5 (cI v0 v7 1))))]])++[[(AV.int (cI v0 v7 1))]]) v9 0)),(AV.int (cI ((((([]:Lv)++[[(AV.int (cI v0 v7 0))]])++[[(AV.int (aq (cI v0 v7 0) (af v4 (cI v0 v7 1))))]])++[[(AV.int (aq (cI v0 v7 0) (af v5 (cI v0 v7 1))))]])++[[(AV.int (cI v0 v7 1))]]) (v9+1) 0)),(AV.int v2)]]),(v9+1))else none)else(bif 0<(v8.length:Int) then bif(-9223372036854775808<=((v8.length:Int)-1))&&(((v8.length:Int)-1)<=9223372036854775807)then bif 0<=(aq ((v8.length:Int)-1) 0) then bif (aq ((v8.length:Int)-1) 0)<(v8.length:Int) then(bif (cI v8 (aq ((v8.length:Int)-1) 0) 1)=(cI ((((([]:Lv)++[[(AV.int (cI v0 v7 0))]])++[[(AV.int (aq (cI v0 v7 0) (af v4 (cI v0 v7 1))))]])++[[(AV.int (aq (cI v0 v7 0) (af v5 (cI v0 v7 1))))]])++[[(AV.int (cI v0 v7 1))]]) v9 0) then(bif (cI v8 (aq ((v8.length:Int)-1) 0) 2)=v3 then bif 0<=((v8.length:Int)-1) then bif ((v8.length:Int)-1)<(v8.length:Int) then go1 ((List.modify v8 (((v8.length:Int)-1)).toNat (fun r=>r.set 1 (AV.int (cI ((((([]:Lv)++[[(AV.int (cI v0 v7 0))]])++[[(AV.int (aq (cI v0 v7 0) (af v4 (cI v0 v7 1))))]])++[[(AV.int (aq (cI v0 v7 0) (af v5 (cI v0 v7 1))))]])++[[(AV.int (cI v0 v7 1))]]) (v9+1) 0)))),(v9+1))else none else none else bif (((v8.length:Int)+1)*24)<=140737488355328 then go1 ((v8++[[(AV.int (cI ((((([]:Lv)++[[(AV.int (cI v0 v7 0))]])++[[(AV.int (aq (cI v0 v7 0) (af v4 (cI v0 v7 1))))]])++[[(AV.int (aq (cI v0 v7 0) (af v5 (cI v0 v7 1))))]])++[[(AV.int (cI v0 v7 1))]]) v9 0)),(AV.int (cI ((((([]:Lv)++[[(AV.int (cI v0 v7 0))]])++[[(AV.int (aq (cI v0 v7 0) (af v4 (cI v0 v7 1))))]])++[[(AV.int (aq (cI v0 v7 0) (af v5 (cI v0 v7 1))))]])++[[(AV.int (cI v0 v7 1))]]) (v9+1) 0)),(AV.int v3)]]),(v9+1))else none)else bif (((v8.length:Int)+1)*24)<=140737488355328 then go1 ((v8++[[(AV.int (cI ((((([]:Lv)++[[(AV.int (cI v0 v7 0))]])++[[(AV.int (aq (cI v0 v7 0) (af v4 (cI v0 v7 1))))]])++[[(AV.int (aq (cI v0 v7 0) (af v5 (cI v0 v7 1))))]])++[[(AV.int (cI v0 v7 1))]]) v9 0)),(AV.int (cI ((((([]:Lv)++[[(AV.int (cI v0 v7 0))]])++[[(AV.int (aq (cI v0 v7 0) (af v4 (cI v0 v7 1))))]])++[[(AV.int (aq (cI v0 v7 0) (af v5 (cI v0 v7 1))))]])++[[(AV.int (cI v0 v7 1))]]) (v9+1) 0)),(AV.int v3)]]),(v9+1))else none)else none else none else none else bif (((v8.length:Int)+1)*24)<=140737488355328 then go1 ((v8++[[(AV.int (cI ((((([]:Lv)++[[(AV.int (cI v0 v7 0))]])++[[(AV.int (aq (cI v0 v7 0) (af v4 (cI v0 v7 1))))]])++[[(AV.int (aq (cI v0 v7 0) (af v5 (cI v0 v7 1))))]])++[[(AV.int (cI v0 v7 1))]]) v9 0)),(AV.int (cI ((((([]:Lv)++[[(AV.int (cI v0 v7 0))]])++[[(AV.int (aq (cI v0 v7 0) (af v4 (cI v0 v7 1))))]])++[[(AV.int (aq (cI v0 v7 0) (af v5 (cI v0 v7 1))))]])++[[(AV.int (cI v0 v7 1))]]) (v9+1) 0)),(AV.int v3)]]),(v9+1))else none))
def qM(n:Nat)(go0:bz->Option aV)(go1:bz->Option aV)(v0:Lv)(v1 v2 v3 v4 v5 v7:Int)(v8:Lv)(v9:Int):Option aV:=
 (bif (cI v0 v7 2)=v1 then rS n go0 go1 v0 v2 v3 v4 v5 v7 v8 v9 else(bif 0<(v8.length:Int) then bif(-9223372036854775808<=((v8.length:Int)-1))&&(((v8.length:Int)-1)<=9223372036854775807)then bif 0<=(aq ((v8.length:Int)-1) 0) then bif (aq ((v8.length:Int)-1) 0)<(v8.length:Int) then(bif (cI v8 (aq ((v8.length:Int)-1) 0) 1)=(cI ((((([]:Lv)++[[(AV.int (cI v0 v7 0))]])++[[(AV.int (aq (cI v0 v7 0) (af v4 (cI v0 v7 1))))]])++[[(AV.int (aq (cI v0 v7 0) (af v5 (cI v0 v7 1))))]])++[[(AV.int (cI v0 v7 1))]]) v9 0) then(bif (cI v8 (aq ((v8.length:Int)-1) 0) 2)=(cI v0 v7 2) then bif 0<=((v8.length:Int)-1) then bif ((v8.length:Int)-1)<(v8.length:Int) then go1 ((List.modify v8 (((v8.length:Int)-1)).toNat (fun r=>r.set 1 (AV.int (cI ((((([]:Lv)++[[(AV.int (cI v0 v7 0))]])++[[(AV.int (aq (cI v0 v7 0) (af v4 (cI v0 v7 1))))]])++[[(AV.int (aq (cI v0 v7 0) (af v5 (cI v0 v7 1))))]])++[[(AV.int (cI v0 v7 1))]]) (v9+1) 0)))),(v9+1))else none else none else bif (((v8.length:Int)+1)*24)<=140737488355328 then go1 ((v8++[[(AV.int (cI ((((([]:Lv)++[[(AV.int (cI v0 v7 0))]])++[[(AV.int (aq (cI v0 v7 0) (af v4 (cI v0 v7 1))))]])++[[(AV.int (aq (cI v0 v7 0) (af v5 (cI v0 v7 1))))]])++[[(AV.int (cI v0 v7 1))]]) v9 0)),(AV.int (cI ((((([]:Lv)++[[(AV.int (cI v0 v7 0))]])++[[(AV.int (aq (cI v0 v7 0) (af v4 (cI v0 v7 1))))]])++[[(AV.int (aq (cI v0 v7 0) (af v5 (cI v0 v7 1))))]])++[[(AV.int (cI v0 v7 1))]]) (v9+1) 0)),(AV.int (cI v0 v7 2))]]),(v9+1))else none)else bif (((v8.length:Int)+1)*24)<=140737488355328 then go1 ((v8++[[(AV.int (cI ((((([]:Lv)++[[(AV.int (cI v0 v7 0))]])++[[(AV.int (aq (cI v0 v7 0) (af v4 (cI v0 v7 1))))]])++[[(AV.int (aq (cI v0 v7 0) (af v5 (cI v0 v7 1))))]])++[[(AV.int (cI v0 v7 1))]]) v9 0)),(AV.int (cI ((((([]:Lv)++[[(AV.int (cI v0 v7 0))]])++[[(AV.int (aq (cI v0 v7 0) (af v4 (cI v0 v7 1))))]])++[[(AV.int (aq (cI v0 v7 0) (af v5 (cI v0 v7 1))))]])++[[(AV.int (cI v0 v7 1))]]) (v9+1) 0)),(AV.int (cI v0 v7 2))]]),(v9+1))else none)else none else none else none else bif (((v8.length:Int)+1)*24)<=140737488355328 then go1 ((v8++[[(AV.int (cI ((((([]:Lv)++[[(AV.int (cI v0 v7 0))]])++[[(AV.int (aq (cI v0 v7 0) (af v4 (cI v0 v7 1))))]])++[[(AV.int (aq (cI v0 v7 0) (af v5 (cI v0 v7 1))))]])++[[(AV.int (cI v0 v7 1))]]) v9 0)),(AV.int (cI ((((([]:Lv)++[[(AV.int (cI v0 v7 0))]])++[[(AV.int (aq (cI v0 v7 0) (af v4 (cI v0 v7 1))))]])++[[(AV.int (aq (cI v0 v7 0) (af v5 (cI v0 v7 1))))]])++[[(AV.int (cI v0 v7 1))]]) (v9+1) 0)),(AV.int (cI v0 v7 2))]]),(v9+1))else none))
def ko(n:Nat)(go0:bz->Option aV)(go1:bz->Option aV)(v0:Lv)(v1 v2 v3 v4 v5 v7:Int)(v8:Lv)(v9:Int):Option aV:=
 (bif (cI ((((([]:Lv)++[[(AV.int (cI v0 v7 0))]])++[[(AV.int (aq (cI v0 v7 0) (af v4 (cI v0 v7 1))))]])++[[(AV.int (aq (cI v0 v7 0) (af v5 (cI v0 v7 1))))]])++[[(AV.int (cI v0 v7 1))]]) v9 0)=(cI ((((([]:Lv)++[[(AV.int (cI v0 v7 0))]])++[[(AV.int (aq (cI v0 v7 0) (af v4 (cI v0 v7 1))))]])++[[(AV.int (aq (cI v0 v7 0) (af v5 (cI v0 v7 1))))]])++[[(AV.int (cI v0 v7 1))]]) (v9+1) 0) then go1 (v8,(v9+1))else qM n go0 go1 v0 v1 v2 v3 v4 v5 v7 v8 v9)
def rx(n:Nat)(go0:bz->Option aV)(go1:bz->Option aV)(v0:Lv)(v1 v2 v3 v4 v5 v7:Int)(v8:Lv)(v9:Int):Option aV:=
 (bif v9<3 then bif 0<=v9 then bif v9<4 then bif(-9223372036854775808<=(v9+1))&&((v9+1)<=9223372036854775807)then bif 0<=(v9+1) then bif (v9+1)<4 then ko n go0 go1 v0 v1 v2 v3 v4 v5 v7 v8 v9 else none else none else none else none else none else bif(-9223372036854775808<=(v7+1))&&((v7+1)<=9223372036854775807)then go0 (v8,(v7+1))else none)
def qI(n:Nat)(go0:bz->Option aV)(v0:Lv)(v1 v2 v3 v4 v5:Int)(v6:Lv)(v7:Int):Option aV:=
 (bif v7<(v0.length:Int) then bif 0<=v7 then(aa (fun go1 s=>rx n go0 go1 v0 v1 v2 v3 v4 v5 v7 s.1 s.2) n ((v6,0):bz))else none else some v6)
def qJ(n:Nat)(v0:Lv)(v1 v2 v3 v4 v5:Int):Option aV:=
 (aa (fun go0 s=>qI n go0 v0 v1 v2 v3 v4 v5 s.1 s.2) n ((([]:Lv),0):bz))
def gI(n:Nat)(v0:Lv)(v1 v2 v3 v4 v5:Int):Option aV:=qJ n v0 v1 v2 v3 v4 v5
def ref42_outside_t:FnT:=⟨[(false,[tSc]),(false,[.int]),(false,[.int]),(false,[.int]),(true,[.int,.int])],(.row 116 (.cons .int (.cons .int (.cons .int .nil)))),fun n (s:Lv×Int×Int×Int×Int×Int)=>gI n s.1 s.2.1 s.2.2.1 s.2.2.2.1 s.2.2.2.2.1 s.2.2.2.2.2⟩
theorem CQ:ref42_outside_t.ok Tryz.prog 66:=FnT.ok_of (cfg:=⟨[((66,3,1),.inv [(.tmprow 11 116 (.cons .int (.cons .int (.cons .int .nil)))),(.tmp 12 .int)]),((66,7,4),.inv [(.tmprow 11 116 (.cons .int (.cons .int (.cons .int .nil)))),(.tmp 14 .int)])],aL,[],[]⟩) av nv aA (fun s fn hf=>by rw[Tryz.func66]at hf;cases hf;kernel_rfl) (fun n s=>by kernel_rfl)
def ref42_outside_T:Tab:=(66,ref42_outside_t)::ref42_formed_T
theorem mS:ref42_outside_T.ok Tryz.prog:=Tab.ok_cons CQ nv
abbrev xL:=Lv×Bool
def xM(n:Nat)(v0:Lv)(v1 v2 v3 v4:Int):Option xL:=
 (oa n v0 v3 v4).bind fun y5=>
 (kJ n y5.1 v1 v2).bind fun y7=>
 (jE n v0 y7.1).bind fun y9=>
 (bif y5.2=0 then(bif y7.2=0 then some (y9.1,(decide (y9.2=0)))else some (y9.1,false))else some (y9.1,false))
def kY(n:Nat)(v0:Lv)(v1 v2 v3 v4:Int):Option xL:=xM n v0 v1 v2 v3 v4
def ref42_hand_t:FnT:=⟨[(false,[tSc]),(false,[.int]),(false,[.int]),(true,[.int,.int])],(.tup (.cons (.row 116 (.cons .int (.cons .int (.cons .int .nil)))) (.cons .b .nil))),fun n (s:Lv×Int×Int×Int×Int)=>kY n s.1 s.2.1 s.2.2.1 s.2.2.2.1 s.2.2.2.2⟩
theorem H0:ref42_hand_t.ok Tryz.prog 64:=FnT.ok_of (cfg:=⟨[],aL,[],[]⟩) av mS aA (fun s fn hf=>by rw[Tryz.func64]at hf;cases hf;kernel_rfl) (fun n s=>by kernel_rfl)
def ref42_hand_T:Tab:=(64,ref42_hand_t)::ref42_outside_T
theorem rA:ref42_hand_T.ok Tryz.prog:=Tab.ok_cons H0 mS
abbrev cQ:=Int×Int×Lv×Lv×Lv×Int
abbrev wc:=Bool×Int
def yU(n:Nat)(go0:wc->Option cQ)(v0:Int)(v4:Lv)(v7 v15 v16:Int)(v17 v18 v19:Lv)(v20:Bool)(v21:Int):Option cQ:=
 (bif v21<8 then(bif v20 then bif 0<=v21 then(bif !((Int.tmod (IOp.f .shr v0 v21) 2)=1)then bif(-9223372036854775808<=(v21+1))&&((v21+1)<=9223372036854775807)then go0 (true,(v21+1))else none else bif v21<(v4.length:Int) then bif v7<(v4.length:Int) then bif(-9223372036854775808<=(v21+1))&&((v21+1)<=9223372036854775807)then go0 ((decide ((cI v4 v7 0)<=(cI v4 v21 0))),(v21+1))else none else none else none)else none else bif(-9223372036854775808<=(v21+1))&&((v21+1)<=9223372036854775807)then go0 (false,(v21+1))else none)else bif v7<(v19.length:Int) then bif(-9223372036854775808<=((cI v19 v7 0)+1))&&(((cI v19 v7 0)+1)<=9223372036854775807)then(bif(!v20)then some (0,0,([]:Lv),([]:Lv),([]:Lv),420)else(dN n v15 v16 v17 v18 (List.modify v19 (v7).toNat (fun r=>r.set 0 (AV.int ((cI v19 v7 0)+1))))).bind fun y22=>
 (bif(!y22)then some (0,0,([]:Lv),([]:Lv),([]:Lv),420)else some (v15,v16,v17,v18,(List.modify v19 (v7).toNat (fun r=>r.set 0 (AV.int ((cI v19 v7 0)+1)))),0)))else none else none)
def yo(n:Nat)(v0:Int)(v2 v3 v4:Lv)(v5 v7 v8 v9 v10 v11 v12 v15 v16:Int)(v17 v18 v19:Lv):Option cQ:=
 (bif v5=3 then bif 0<=v8 then(bif (Int.tmod (IOp.f .shr v0 v8) 2)=1 then bif 0<=v9 then(gI n v2 v7 v8 v9 v10 v11).bind fun y20=>
 (ce n y20).bind fun y21=>
 bif v8<(v18.length:Int) then bif(-9223372036854775808<=((cI v18 v8 0)+v12))&&(((cI v18 v8 0)+v12)<=9223372036854775807)then bif v9<(v18.length:Int) then bif v7<(v3.length:Int) then bif(-9223372036854775808<=((cI (List.modify v18 (v8).toNat (fun r=>r.set 0 (AV.int ((cI v18 v8 0)+v12)))) v9 0)+(cI v3 v7 0)))&&(((cI (List.modify v18 (v8).toNat (fun r=>r.set 0 (AV.int ((cI v18 v8 0)+v12)))) v9 0)+(cI v3 v7 0))<=9223372036854775807)then bif(-9223372036854775808<=(((cI (List.modify v18 (v8).toNat (fun r=>r.set 0 (AV.int ((cI v18 v8 0)+v12)))) v9 0)+(cI v3 v7 0))-v12))&&((((cI (List.modify v18 (v8).toNat (fun r=>r.set 0 (AV.int ((cI v18 v8 0)+v12)))) v9 0)+(cI v3 v7 0))-v12)<=9223372036854775807)then bif v7<(v18.length:Int) then bif v7<(v19.length:Int) then(bif !((Int.tmod (IOp.f .shr v0 v9) 2)=1)then some (0,0,([]:Lv),([]:Lv),([]:Lv),420)else(bif(!y21)then some (0,0,([]:Lv),([]:Lv),([]:Lv),420)else(dN n (IOp.f .andNot v0 (IOp.f .shl 1 v7)) v16 y20 (List.modify (List.modify (List.modify v18 (v8).toNat (fun r=>r.set 0 (AV.int ((cI v18 v8 0)+v12)))) (v9).toNat (fun r=>r.set 0 (AV.int (((cI (List.modify v18 (v8).toNat (fun r=>r.set 0 (AV.int ((cI v18 v8 0)+v12)))) v9 0)+(cI v3 v7 0))-v12)))) (v7).toNat (fun r=>r.set 0 (AV.int 0))) (List.modify v19 (v7).toNat (fun r=>r.set 0 (AV.int 0)))).bind fun y22=>
 (bif(!y22)then some (0,0,([]:Lv),([]:Lv),([]:Lv),420)else some ((IOp.f .andNot v0 (IOp.f .shl 1 v7)),v16,y20,(List.modify (List.modify (List.modify v18 (v8).toNat (fun r=>r.set 0 (AV.int ((cI v18 v8 0)+v12)))) (v9).toNat (fun r=>r.set 0 (AV.int (((cI (List.modify v18 (v8).toNat (fun r=>r.set 0 (AV.int ((cI v18 v8 0)+v12)))) v9 0)+(cI v3 v7 0))-v12)))) (v7).toNat (fun r=>r.set 0 (AV.int 0))),(List.modify v19 (v7).toNat (fun r=>r.set 0 (AV.int 0))),0))))else none else none else none else none else none else none else none else none else none else(gI n v2 v7 v8 v9 v10 v11).bind fun y20=>
 (ce n y20).bind fun y21=>
 bif v8<(v18.length:Int) then bif(-9223372036854775808<=((cI v18 v8 0)+v12))&&(((cI v18 v8 0)+v12)<=9223372036854775807)then bif 0<=v9 then bif v9<(v18.length:Int) then bif v7<(v3.length:Int) then bif(-9223372036854775808<=((cI (List.modify v18 (v8).toNat (fun r=>r.set 0 (AV.int ((cI v18 v8 0)+v12)))) v9 0)+(cI v3 v7 0)))&&(((cI (List.modify v18 (v8).toNat (fun r=>r.set 0 (AV.int ((cI v18 v8 0)+v12)))) v9 0)+(cI v3 v7 0))<=9223372036854775807)then bif(-9223372036854775808<=(((cI (List.modify v18 (v8).toNat (fun r=>r.set 0 (AV.int ((cI v18 v8 0)+v12)))) v9 0)+(cI v3 v7 0))-v12))&&((((cI (List.modify v18 (v8).toNat (fun r=>r.set 0 (AV.int ((cI v18 v8 0)+v12)))) v9 0)+(cI v3 v7 0))-v12)<=9223372036854775807)then bif v7<(v18.length:Int) then bif v7<(v19.length:Int) then some (0,0,([]:Lv),([]:Lv),([]:Lv),420)else none else none else none else none else none else none else none else none else none)else none else(aa (fun go0 s=>yU n go0 v0 v4 v7 v15 v16 v17 v18 v19 s.1 s.2) n ((true,0):wc)))
def Ae(n:Nat)(v0 v1:Int)(v2 v3 v4:Lv)(v5 v7 v8 v9 v10 v11 v12 v15 v16:Int)(v17 v18 v19:Lv):Option cQ:=
 (bif v5=2 then bif 0<=v8 then(kY n v2 v7 v8 v10 v11).bind fun y20=>
 bif v8<(v18.length:Int) then bif v7<(v3.length:Int) then bif(-9223372036854775808<=((cI v3 v7 0)-v12))&&(((cI v3 v7 0)-v12)<=9223372036854775807)then bif v7<(v18.length:Int) then bif v7<(v4.length:Int) then bif v8<(v19.length:Int) then(bif((decide ((Int.tmod (IOp.f .shr v1 v8) 2)=1))==true)then some (0,0,([]:Lv),([]:Lv),([]:Lv),420)else(bif(!y20.2)then some (0,0,([]:Lv),([]:Lv),([]:Lv),420)else(dN n (IOp.f .or v0 (IOp.f .shl 1 v8)) (IOp.f .or v1 (IOp.f .shl 1 v8)) y20.1 (List.modify (List.modify v18 (v8).toNat (fun r=>r.set 0 (AV.int v12))) (v7).toNat (fun r=>r.set 0 (AV.int ((cI v3 v7 0)-v12)))) (List.modify v19 (v8).toNat (fun r=>r.set 0 (AV.int (cI v4 v7 0))))).bind fun y22=>
 (bif(!y22)then some (0,0,([]:Lv),([]:Lv),([]:Lv),420)else some ((IOp.f .or v0 (IOp.f .shl 1 v8)),(IOp.f .or v1 (IOp.f .shl 1 v8)),y20.1,(List.modify (List.modify v18 (v8).toNat (fun r=>r.set 0 (AV.int v12))) (v7).toNat (fun r=>r.set 0 (AV.int ((cI v3 v7 0)-v12)))),(List.modify v19 (v8).toNat (fun r=>r.set 0 (AV.int (cI v4 v7 0)))),0))))else none else none else none else none else none else none else none else yo n v0 v2 v3 v4 v5 v7 v8 v9 v10 v11 v12 v15 v16 v17 v18 v19)
def zf(n:Nat)(v0 v1:Int)(v2 v3 v4:Lv)(v5 v7 v8 v9 v10 v11 v12 v15 v16:Int)(v17 v18 v19:Lv):Option cQ:=
 (bif v5=1 then bif 0<=v8 then(kY n v2 v7 v8 0 100000000).bind fun y20=>
 bif v8<(v18.length:Int) then bif v7<(v3.length:Int) then bif(-9223372036854775808<=((cI v18 v8 0)+(cI v3 v7 0)))&&(((cI v18 v8 0)+(cI v3 v7 0))<=9223372036854775807)then bif v7<(v18.length:Int) then bif v7<(v19.length:Int) then(bif !((Int.tmod (IOp.f .shr v0 v8) 2)=1)then some (0,0,([]:Lv),([]:Lv),([]:Lv),420)else(bif(!y20.2)then some (0,0,([]:Lv),([]:Lv),([]:Lv),420)else(dN n (IOp.f .andNot v0 (IOp.f .shl 1 v7)) v16 y20.1 (List.modify (List.modify v18 (v8).toNat (fun r=>r.set 0 (AV.int ((cI v18 v8 0)+(cI v3 v7 0))))) (v7).toNat (fun r=>r.set 0 (AV.int 0))) (List.modify v19 (v7).toNat (fun r=>r.set 0 (AV.int 0)))).bind fun y22=>
 (bif(!y22)then some (0,0,([]:Lv),([]:Lv),([]:Lv),420)else some ((IOp.f .andNot v0 (IOp.f .shl 1 v7)),v16,y20.1,(List.modify (List.modify v18 (v8).toNat (fun r=>r.set 0 (AV.int ((cI v18 v8 0)+(cI v3 v7 0))))) (v7).toNat (fun r=>r.set 0 (AV.int 0))),(List.modify v19 (v7).toNat (fun r=>r.set 0 (AV.int 0))),0))))else none else none else none else none else none else none else Ae n v0 v1 v2 v3 v4 v5 v7 v8 v9 v10 v11 v12 v15 v16 v17 v18 v19)
def zu(n:Nat)(v0 v1:Int)(v2 v3 v4:Lv)(v5 v7 v8 v9 v10 v11 v12:Int):Option cQ:=
 (bif !((Int.tmod (IOp.f .shr v0 v7) 2)=1)then some (0,0,([]:Lv),([]:Lv),([]:Lv),420)else(gz n v0 v1 v2 v3 v4).bind fun y15=>
 zf n v0 v1 v2 v3 v4 v5 v7 v8 v9 v10 v11 v12 y15.1 y15.2.1 y15.2.2.1 y15.2.2.2.1 y15.2.2.2.2)
def yQ(n:Nat)(v0 v1:Int)(v2 v3 v4:Lv)(v5 v7 v8 v9 v10 v11 v12:Int)(v14:Bool):Option cQ:=
 (bif(!v14)then some (0,0,([]:Lv),([]:Lv),([]:Lv),420)else bif 0<=v7 then zu n v0 v1 v2 v3 v4 v5 v7 v8 v9 v10 v11 v12 else none)
def z8(n:Nat)(v0 v1:Int)(v2 v3 v4:Lv)(v5 v6 v7 v8 v9 v10 v11 v12:Int)(v13:Bool):Option cQ:=
 (bif(!v13)then some (0,0,([]:Lv),([]:Lv),([]:Lv),420)else(kH n v5 v6 v7 v8 v9 v10 v11 v12).bind fun y14=>
 yQ n v0 v1 v2 v3 v4 v5 v7 v8 v9 v10 v11 v12 y14)
def zr(n:Nat)(v0 v1:Int)(v2 v3 v4:Lv)(v5 v6 v7 v8 v9 v10 v11 v12:Int):Option cQ:=
 (dN n v0 v1 v2 v3 v4).bind fun y13=>
 z8 n v0 v1 v2 v3 v4 v5 v6 v7 v8 v9 v10 v11 v12 y13
def lc(n:Nat)(v0 v1:Int)(v2 v3 v4:Lv)(v5 v6 v7 v8 v9 v10 v11 v12:Int):Option cQ:=zr n v0 v1 v2 v3 v4 v5 v6 v7 v8 v9 v10 v11 v12
def ref42_Step_t:FnT:=⟨[(true,[.int,.int,tSc,tSa,tSa]),(true,[.int,.int,.int,.int,.int,.int,.int,.int])],(.tup (.cons (.agg (.cons .i (.cons .i (.cons (.row 116 (.cons .int (.cons .int (.cons .int .nil)))) (.cons (.row 3 (.cons .int .nil)) (.cons (.row 3 (.cons .int .nil)) .nil)))))) (.cons .i .nil))),fun n (s:Int×Int×Lv×Lv×Lv×Int×Int×Int×Int×Int×Int×Int×Int)=>lc n s.1 s.2.1 s.2.2.1 s.2.2.2.1 s.2.2.2.2.1 s.2.2.2.2.2.1 s.2.2.2.2.2.2.1 s.2.2.2.2.2.2.2.1 s.2.2.2.2.2.2.2.2.1 s.2.2.2.2.2.2.2.2.2.1 s.2.2.2.2.2.2.2.2.2.2.1 s.2.2.2.2.2.2.2.2.2.2.2.1 s.2.2.2.2.2.2.2.2.2.2.2.2⟩
theorem HL:ref42_Step_t.ok Tryz.prog 17:=FnT.ok_of (cfg:=⟨[((17,8,8),.inv [(.tmp 7 .bool),(.tmp 10 .int)])],aL,[],[]⟩) av rA aA (fun s fn hf=>by rw[Tryz.func17]at hf;cases hf;kernel_rfl) (fun n s=>by kernel_rfl)
def ref42_Step_T:Tab:=(17,ref42_Step_t)::ref42_hand_T
theorem rU:ref42_Step_T.ok Tryz.prog:=Tab.ok_cons HL rA
abbrev jf:=Lv
abbrev rI:=Lv×Int×Int×Int×Int×Lv×Lv×Lv
def tV(n:Nat)(go0:rI->Option jf)(v5 v6:Lv)(v7 v8 v9 v10:Int)(v11 v12 v13:Lv):Option jf:=
 (bif v8<(v5.length:Int) then(bif v8<8 then bif 0<=v8 then(qo n v9 v10 v11 v12 v13 v7 (cI v5 v8 0) (cI v5 v8 1) (cI v5 v8 2) (cI v5 v8 3) (cI v5 v8 4) (cI v5 v8 5) (cI v5 v8 6)).bind fun y14=>
 (lc n v9 v10 v11 v12 v13 y14.1 y14.2.1 y14.2.2.1 y14.2.2.2.1 y14.2.2.2.2.1 y14.2.2.2.2.2.1 y14.2.2.2.2.2.2.1 y14.2.2.2.2.2.2.2).bind fun y22=>
 (bif y22.2.2.2.2.2=0 then bif (((v6.length:Int)+1)*64)<=140737488355328 then bif(-9223372036854775808<=(v8+1))&&((v8+1)<=9223372036854775807)then go0 ((v6++[[(AV.int y14.1),(AV.int y14.2.1),(AV.int y14.2.2.1),(AV.int y14.2.2.2.1),(AV.int y14.2.2.2.2.1),(AV.int y14.2.2.2.2.2.1),(AV.int y14.2.2.2.2.2.2.1),(AV.int y14.2.2.2.2.2.2.2)]]),y14.2.1,(v8+1),y22.1,y22.2.1,y22.2.2.1,y22.2.2.2.1,y22.2.2.2.2.1)else none else none else bif(-9223372036854775808<=(v8+1))&&((v8+1)<=9223372036854775807)then go0 (v6,v7,(v8+1),v9,v10,v11,v12,v13)else none)else none else some v6)else some v6)
def tO(n:Nat)(v0 v1:Int)(v2 v3 v4 v5:Lv):Option jf:=
 (aa (fun go0 s=>tV n go0 v5 s.1 s.2.1 s.2.2.1 s.2.2.2.1 s.2.2.2.2.1 s.2.2.2.2.2.1 s.2.2.2.2.2.2.1 s.2.2.2.2.2.2.2) n ((([]:Lv),0,0,v0,v1,v2,v3,v4):rI))
def kP(n:Nat)(v0 v1:Int)(v2 v3 v4 v5:Lv):Option jf:=tO n v0 v1 v2 v3 v4 v5
def ref42_Events_t:FnT:=⟨[(true,[.int,.int,tSc,tSa,tSa]),(false,[tSg])],(.row 41 (.cons .int (.cons .int (.cons .int (.cons .int (.cons .int (.cons .int (.cons .int (.cons .int .nil))))))))),fun n (s:Int×Int×Lv×Lv×Lv×Lv)=>kP n s.1 s.2.1 s.2.2.1 s.2.2.2.1 s.2.2.2.2.1 s.2.2.2.2.2⟩
theorem Ea:ref42_Events_t.ok Tryz.prog 13:=FnT.ok_of (cfg:=⟨[((13,4,1),.inv [(.tmprow 5 41 (.cons .int (.cons .int (.cons .int (.cons .int (.cons .int (.cons .int (.cons .int (.cons .int .nil))))))))),(.tmp 6 .int),(.tmp 7 .int),(.cell 0 0 .int),(.cell 0 1 .int),(.cell 0 2 tSc),(.cell 0 3 tSa),(.cell 0 4 tSa)])],aL,[],[]⟩) av rU aA (fun s fn hf=>by rw[Tryz.func13]at hf;cases hf;kernel_rfl) (fun n s=>by kernel_rfl)
def ref42_Events_T:Tab:=(13,ref42_Events_t)::ref42_Step_T
theorem nw:ref42_Events_T.ok Tryz.prog:=Tab.ok_cons Ea rU
end
open Go.Dial.Blk Go.Dial.Mrg
theorem DQ{a b:Int}(a0:0<=a)(a1:a<=255)(b0:0<=b)(b1:b<=255):IOp.f .andNot a b=0↔lA a b:=by
 have ha:BitVec.ofInt 64 a=BitVec.ofNat 64 a.toNat:=by
  rw[<-BitVec.ofInt_natCast,Int.toNat_of_nonneg a0]
 have hb:BitVec.ofInt 64 b=BitVec.ofNat 64 b.toNat:=by
  rw[<-BitVec.ofInt_natCast,Int.toNat_of_nonneg b0]
 obtain⟨x,hx⟩:∃x,x=BitVec.ofNat 64 a.toNat &&& ~~~(BitVec.ofNat 64 b.toNat):=⟨_,rfl⟩
 have hbit:∀i,x.toNat.testBit i=(a.toNat.testBit i&& !(b.toNat.testBit i)):=fun i=>by
  by_cases hi:i<64
  ·rw[hx,BitVec.testBit_toNat,BitVec.getLsbD_and,BitVec.getLsbD_not,BitVec.getLsbD_ofNat,BitVec.getLsbD_ofNat]
   simp[hi]
  ·have h1:x.toNat.testBit i=false:=Nat.testBit_lt_two_pow (Nat.lt_of_lt_of_le x.isLt (Nat.pow_le_pow_right (by decide) (by omega)))
   have h2:a.toNat.testBit i=false:=Nat.testBit_lt_two_pow (Nat.lt_of_lt_of_le (by omega:a.toNat<2 ^ 64) (Nat.pow_le_pow_right (by decide) (by omega)))
   rw[h1,h2];rfl
 have hle:x.toNat<256:=by
  have h1:x.toNat &&& a.toNat=x.toNat:=Nat.eq_of_testBit_eq fun i=>by
   rw[Nat.testBit_and,hbit];cases a.toNat.testBit i<;>simp
  have h2:x.toNat &&& a.toNat<=a.toNat:=Nat.and_le_right
  omega
 have hE:IOp.f .andNot a b=(x.toNat:Int):=by
  show IntKind.i64.wrap ((BitVec.ofInt 64 a &&& ~~~(BitVec.ofInt 64 b)).toNat:Int)=_
  rw[ha,hb,<-hx];generalize x.toNat=y at hle
  have:((y:Int)) % 18446744073709551616=(y:Int):=by omega
  have hd:decide ((y:Int)>=9223372036854775808)=false:=by rw[decide_eq_false_iff_not];omega
  show(if(true&&decide ((y:Int) % 18446744073709551616>=9223372036854775808))=true then(y:Int) % 18446744073709551616-18446744073709551616 else(y:Int) % 18446744073709551616)=_
  rw[this,hd];rfl
 rw[hE];unfold lA;constructor
 ·intro h
  have h0:x.toNat=0:=by omega
  refine Nat.eq_of_testBit_eq fun i=>?_
  have:=hbit i
  rw[h0,Nat.zero_testBit]at this;rw[Nat.testBit_and];cases h1:a.toNat.testBit i<;>cases h2:b.toNat.testBit i<;>simp_all
 ·intro h
  have:x.toNat=0:=Nat.eq_of_testBit_eq fun i=>by
   rw[hbit,Nat.zero_testBit,<-h,Nat.testBit_and];cases a.toNat.testBit i<;>cases b.toNat.testBit i<;>rfl
  omega
theorem fe(n:Nat)(w:Wd)(hn:50<n):dN n w.al w.ev (bL w.bl) (iL w.ba) (iL w.le)=some (vB w):=by
 have A1:WV w->w.al<=255:=fun h=>h.a1
 unfold dN wW;refine cF (fun a0=>cN (fun a1=>cF (fun e0=>cN (fun e1=>cN (fun hs=>?_) (fun h=>by rw[aR (fun p=>h ((DQ a0 a1 e0 e1).2 p.sub))])) (fun h=>by rw[aR (fun p=>h p.e1)])) (fun h=>by rw[aR (fun p=>h p.e0)])) (fun h=>by rw[aR (fun p=>h (A1 p))])) (fun h=>by rw[aR (fun p=>h p.a0)])
 replace hs:=(DQ a0 a1 e0 e1).1 hs
 rw[cu n w.bl (by omega),Option.bind_some,dB,dB]
 refine cBN (fun hv=>?_) (fun hv=>by rw[aR (fun p=>by rw[(db _).2 ⟨p.few,p.can⟩]at hv;cases hv)])
 obtain⟨hfew,hcan⟩:=(db _).1 hv;refine cN (fun l1=>cN (fun l2=>?_) (fun h=>by rw[aR (fun p=>h (by rw[p.lel];rfl))])) (fun h=>by rw[aR (fun p=>h (by rw[p.bal];rfl))])
 replace l1:w.ba.length=8:=by omega
 replace l2:w.le.length=8:=by omega
 have il1:((iL w.ba).length:Int)=8:=by rw[dB,l1];rfl
 have il2:((iL w.le).length:Int)=8:=by rw[dB,l2];rfl
 refine ar (fun s=>∃i:Nat,s=(i:Int)/\i<=w.bl.length/\∀(j:Nat) b,j<i->w.bl[j]?=some b->has w.al b.c=true) (fun s=>w.bl.length-s.toNat) _ ?_ n _ ⟨0,rfl,by omega,fun j b hj=>by omega⟩ (by simp;omega)
 rintro _ go ⟨i,rfl,hi,hown⟩ ih;unfold wm;by_cases hlt:i<w.bl.length
 ·obtain⟨b,hb⟩:=aD hlt
  obtain⟨g0,g1,g2⟩:=ij hb;have hbm:=List.mem_of_getElem? hb;have hbd:=mL hcan hbm;rw[g2,cM a0 a1 (by omega) (by omega)]
  refine cF (fun _=>gN (by omega) (gN (by omega) (cBN (fun hh=>gO (by omega) (by omega) (ih _ ⟨i+1,by simp,by omega,fun j c hj hc=>?_⟩ (by first|omega|(simp only;omega)))) (fun hh=>by rw[aR (fun h=>by rw[h.own b hbm]at hh;cases hh)])))) (fun h=>by rw[List.length_map]at h;omega)
  by_cases h:j<i
  ·exact hown j c h hc
  ·have:j=i:=by omega
   subst this;rw[hb]at hc;cases hc;exact hh
 ·refine cF (fun h=>by rw[List.length_map]at h;omega) (fun _=>?_)
  have hown':∀b∈w.bl,has w.al b.c=true:=fun b hb=>by
   obtain⟨j,hj⟩:=List.getElem?_of_mem hb;exact hown j b (by have:=(List.getElem?_eq_some_iff.1 hj).1;omega) hj
  clear ih
  refine ar (fun s=>∃(i:Nat) (lo hi':Int),s=((w.ba.take i).sum,lo,hi',(i:Int))/\i<=8/\ -1000000000000*(i:Int)<=(w.ba.take i).sum/\(w.ba.take i).sum<=1000000000000*(i:Int)
   ∧ (∀c,0<=c->c<(i:Int)->(-1000000000000<=g w.ba c/\g w.ba c<=1000000000000)/\(0<=g w.le c/\g w.le c<=9)/\(has w.al c=false->g w.ba c=0/\g w.le c=0))
   ∧ (0<=lo/\lo<=9/\0<=hi'/\hi'<=9)/\(∀c,0<=c->c<(i:Int)->has w.al c=true->lo<=g w.le c/\g w.le c<=hi')
   ∧ ((∃c,0<=c/\c<(i:Int)/\has w.al c=true)->(∃c,0<=c/\c<(i:Int)/\has w.al c=true/\g w.le c=lo)/\∃c,0<=c/\c<(i:Int)/\has w.al c=true/\g w.le c=hi')
   ∧ ((¬ ∃c,0<=c/\c<(i:Int)/\has w.al c=true)->lo=9/\hi'=0)) (fun s=>8-s.2.2.2.toNat) _ ?_ n _ ⟨0,9,0,rfl,by omega,by simp,by simp,fun c h0 h1=>by omega,by omega,fun c h0 h1=>by omega,fun⟨c,h0,h1,_⟩=>by omega,fun _=>⟨rfl,rfl⟩⟩ (by first|omega|(simp only;omega))
  rintro _ go ⟨i,lo,hi',rfl,hi,hs1,hs2,hok,hlh,hbd,hex,hno⟩ ih;simp only at ih⊢
  unfold wX;by_cases hlt:i<8
  ·have i0:(0:Int)<=(i:Int):=by omega
   have i7:(i:Int)<=7:=by omega
   obtain⟨x,hx⟩:=aD (l:=w.ba) (i:=i) (by omega)
   have hgx:g w.ba (i:Int)=x:=by unfold g;rw[Int.toNat_natCast,List.getD_eq_getElem?_getD,hx];rfl
   have htk:(w.ba.take (i+1)).sum=(w.ba.take i).sum+g w.ba (i:Int):=by rw[bV hx,List.sum_append,hgx];simp
   have esucc:((i+1:Nat):Int)=(i:Int)+1:=by omega
   rw[cc l1 i0 i7,cc l2 i0 i7,cM a0 a1 i0 i7];refine cF (fun _=>gN i0 (gN (by omega) (cF (fun b0=>cN (fun b1=>gN (by omega) (cF (fun k0=>cN (fun k1=>gO (by omega) (by omega) ?_) (fun h=>by rw[aR (fun p=>h (p.l0 _ i0 i7).2)])) (fun h=>by rw[aR (fun p=>h (p.l0 _ i0 i7).1)]))) (fun h=>by rw[aR (fun p=>h (p.b0 _ i0 i7).2)])) (fun h=>by rw[aR (fun p=>h (p.b0 _ i0 i7).1)])))) (fun h=>absurd h (by omega))
   have hok':(has w.al (i:Int)=false->g w.ba (i:Int)=0/\g w.le (i:Int)=0)->∀c,0<=c->c<((i+1:Nat):Int)->(-1000000000000<=g w.ba c/\g w.ba c<=1000000000000)/\(0<=g w.le c/\g w.le c<=9)/\(has w.al c=false->g w.ba c=0/\g w.le c=0):=fun hd c c0 c1=>by
    by_cases hc:c<(i:Int)
    ·exact hok c c0 hc
    ·have:c=(i:Int):=by omega
     subst this;exact⟨⟨b0,b1⟩,⟨k0,k1⟩,hd⟩
   refine cBl (fun hh=>gO (by omega) (by omega) ?_) (fun hh=>cN (fun z0=>cN (fun z1=>gO (by omega) (by omega) ?_) (fun h=>by rw[aR (fun p=>h (p.dead _ i0 i7 hh).2)])) (fun h=>by rw[aR (fun p=>h (p.dead _ i0 i7 hh).1)]))
   ·rw [<-htk,<-esucc]
    have hmin:af lo (g w.le (i:Int))=if g w.le (i:Int)<lo then g w.le (i:Int)else lo:=rfl
    have hmax:aq hi' (g w.le (i:Int))=if hi'<g w.le (i:Int)then g w.le (i:Int)else hi':=rfl
    refine ih _ ⟨i+1,_,_,rfl,by omega,by rw[htk,esucc];omega,by rw[htk,esucc];omega,hok' (fun h=>by rw[hh]at h;cases h),by rw[hmin,hmax];split<;>split<;>omega,fun c c0 c1 hc=>?_,fun _=>?_,fun hne=>absurd ⟨(i:Int),i0,by omega,hh⟩ hne⟩ (by first|omega|(simp only;omega))
    ·rw[hmin,hmax]
     by_cases hci:c<(i:Int)
     ·have:=hbd c c0 hci hc
      split<;>split<;>omega
     ·have:c=(i:Int):=by omega
      subst this;split<;>split<;>omega
    ·rw[hmin,hmax]
     by_cases hE:∃c,0<=c/\c<(i:Int)/\has w.al c=true
     ·obtain⟨⟨c,c0,c1,c2,c3⟩,d,d0,d1,d2,d3⟩:=hex hE
      constructor
      ·split
       ·exact⟨(i:Int),i0,by omega,hh,rfl⟩
       ·exact⟨c,c0,by omega,c2,c3⟩
      ·split
       ·exact⟨(i:Int),i0,by omega,hh,rfl⟩
       ·exact⟨d,d0,by omega,d2,d3⟩
     ·obtain⟨q1,q2⟩:=hno hE
      subst q1;subst q2;constructor
      ·split
       ·exact⟨(i:Int),i0,by omega,hh,rfl⟩
       ·exact⟨(i:Int),i0,by omega,hh,by omega⟩
      ·split
       ·exact⟨(i:Int),i0,by omega,hh,rfl⟩
       ·exact⟨(i:Int),i0,by omega,hh,by omega⟩
   ·rw [<-htk,<-esucc]
    refine ih _ ⟨i+1,lo,hi',rfl,by omega,by rw[htk,esucc];omega,by rw[htk,esucc];omega,hok' (fun _=>⟨z0,z1⟩),hlh,fun c c0 c1 hc=>?_,fun⟨c,c0,c1,c2⟩=>?_,fun hne=>hno fun⟨c,c0,c1,c2⟩=>hne ⟨c,c0,by omega,c2⟩⟩ (by first|omega|(simp only;omega))
    ·by_cases hci:c<(i:Int)
     ·exact hbd c c0 hci hc
     ·have:c=(i:Int):=by omega
      subst this;rw[hh]at hc;cases hc
    ·have hci:c<(i:Int):=by
      by_cases h:c<(i:Int)
      ·exact h
      ·have:c=(i:Int):=by omega
       subst this;rw[hh]at c2;cases c2
     obtain⟨⟨x,x0,x1,x2⟩,y,y0,y1,y2⟩:=hex ⟨c,c0,hci,c2⟩;exact⟨⟨x,x0,by omega,x2⟩,y,y0,by omega,y2⟩
  ·have hi8:i=8:=by omega
   subst hi8;have htk:w.ba.take 8=w.ba:=List.take_of_length_le (by omega)
   rw[htk];refine cF (fun h=>absurd h (by omega)) (fun _=>cF (fun hz=>?_) (fun h=>by rw[aR (fun p=>h p.sum)]))
   have base:(∀c d,0<=c->c<=7->0<=d->d<=7->has w.al c=true->has w.al d=true->g w.le c-g w.le d<=1)->WV w:=fun hnear=>⟨e0,e1,a0,hs,l1,l2,hcan,hfew,hown',fun c c0 c1=>(hok c c0 (by omega)).1,fun c c0 c1=>(hok c c0 (by omega)).2.1,fun c c0 c1=>(hok c c0 (by omega)).2.2,hz,hnear⟩
   refine cF (fun h0=>?_) (fun h0=>gO (by omega) (by omega) ?_)
   ·rw[eJ (base fun c d c0 c1 d0 d1 hc=>by rw[h0]at hc;unfold has at hc;simp at hc)]
   ·obtain⟨x,x0,x1,x2⟩:=JK (s:=w.al) (by omega) a1
    obtain⟨⟨c,c0,c1,c2,c3⟩,d,d0,d1,d2,d3⟩:=hex ⟨x,x0,by omega,x2⟩
    congr 1
    by_cases hd1:hi'-lo<=1
    ·rw[decide_eq_true hd1,eJ (base fun p q p0 p1 q0 q1 hp hq=>by
      have:=hbd p p0 (by omega) hp;have:=hbd q q0 (by omega) hq;omega)]
    ·rw[decide_eq_false hd1,aR (fun p=>hd1 (by
      have:=p.near d c d0 (by omega) c0 (by omega) d2 c2
      rw[<-c3,<-d3];exact this))]
noncomputable instance (e:Ev):Decidable (Frm e):=Classical.propDecidable _
theorem fbT{e:Ev}{b:Bool}(h:b=true↔Frm e):some b=some (decide (Frm e)):=by
 by_cases hf:Frm e
 ·rw[decide_eq_true hf,h.2 hf]
 ·rw[decide_eq_false hf]
  cases b
  ·rfl
  ·exact absurd (h.1 rfl) hf
theorem fbF{e:Ev}(h:¬Frm e):some false=some (decide (Frm e)):=by rw[decide_eq_false h]
theorem Fn(n:Nat)(e:Ev):kH n e.k e.at_ e.a e.b e.c e.f e.t e.m=some (decide (Frm e)):=by
 obtain⟨k,at_,a,b,c,f,t,m⟩:=e;unfold kH tf;dsimp only;refine cF (fun t0=>cN (fun t1=>cF (fun a0=>cN (fun a1=>cF (fun b0=>cN (fun b1=>cF (fun c0=>cN (fun c1=>?_) (fun h=>fbF fun p=>h p.c1)) (fun h=>fbF fun p=>h p.c0)) (fun h=>fbF fun p=>h p.b1)) (fun h=>fbF fun p=>h p.b0)) (fun h=>fbF fun p=>h p.a1)) (fun h=>fbF fun p=>h p.a0)) (fun h=>fbF fun p=>h p.t1)) (fun h=>fbF fun p=>h p.t0)
 have k1:k=1->(f=0/\t=0)->(bif m=0 then(bif c=0 then some (!(decide (a=b)))else some false)else some false)=some (decide (Frm ⟨k,at_,a,b,c,f,t,m⟩)):=fun hk hr=>by
  subst hk;obtain⟨rfl,rfl⟩:=hr;refine cF (fun hm=>cF (fun hc=>fbT ?_) (fun h=>fbF fun p=>h (p.noC (by show ¬(1:Int)=3;decide)))) (fun h=>fbF fun p=>h (p.bare (.inl rfl)).2.2)
  rw[Bool.not_eq_true',decide_eq_false_iff_not];exact⟨fun h=>⟨t0,t1,a0,a1,b0,b1,c0,c1,(show 1<=(1:Int)/\(1:Int)<=4 by decide),fun _=>⟨rfl,rfl,hm⟩,fun h=>by simp at h,fun _=>hc,fun h=>by simp at h,fun _=>h,fun h=>by simp at h⟩,fun p=>p.other (by show ¬(1:Int)=4;decide)⟩
 have k4:k=4->(f=0/\t=0)->(bif m=0 then(bif b=0 then some (decide (c=0))else some false)else some false)=some (decide (Frm ⟨k,at_,a,b,c,f,t,m⟩)):=fun hk hr=>by
  subst hk;obtain⟨rfl,rfl⟩:=hr;refine cF (fun hm=>cF (fun hb=>fbT ?_) (fun h=>fbF fun p=>h (p.noB rfl))) (fun h=>fbF fun p=>h (p.bare (.inr rfl)).2.2)
  rw[decide_eq_true_eq];exact⟨fun h=>⟨t0,t1,a0,a1,b0,b1,c0,c1,(show 1<=(4:Int)/\(4:Int)<=4 by decide),fun _=>⟨rfl,rfl,hm⟩,fun h=>by simp at h,fun _=>h,fun _=>hb,fun h=>absurd rfl h,fun h=>by simp at h⟩,fun p=>p.noC (by show ¬(4:Int)=3;decide)⟩
 have no14:¬(f=0/\t=0)->(k=1\/k=4)->¬Frm ⟨k,at_,a,b,c,f,t,m⟩:=fun hr hk p=>hr ⟨(p.bare hk).1,(p.bare hk).2.1⟩
 have no23:∀ {P:Prop},¬P->((k=2\/k=3)->Frm ⟨k,at_,a,b,c,f,t,m⟩->P)->(k=2\/k=3)->¬Frm ⟨k,at_,a,b,c,f,t,m⟩:=fun h1 h2 hk p=>h1 (h2 hk p)
 have noK:¬k=1->¬k=2->¬k=3->¬k=4->¬Frm ⟨k,at_,a,b,c,f,t,m⟩:=fun h1 h2 h3 h4 p=>by have h5:1<=k/\k<=4:=p.kind;omega
 refine cAn (fun hr=>?_) (fun hr=>?_)
 ·obtain⟨hf0,ht0⟩:=hr
  have hlt:¬f<t:=by omega
  have hno:(k=2\/k=3)->¬Frm ⟨k,at_,a,b,c,f,t,m⟩:=fun hk p=>hlt (p.full hk).2.1
  refine cF (fun _=>cF (fun h=>absurd h hlt) (fun _=>?_)) (fun h=>absurd (by omega) h)
  refine cF (fun hk=>k1 hk ⟨hf0,ht0⟩) (fun h1=>cF (fun hk=>fbF (hno (.inl hk))) (fun h2=>cF (fun hk=>fbF (hno (.inr hk))) (fun h3=>cF (fun hk=>k4 hk ⟨hf0,ht0⟩) (fun h4=>fbF (noK h1 h2 h3 h4)))))
 ·have leaf:(∀p:(k=2\/k=3),¬Frm ⟨k,at_,a,b,c,f,t,m⟩)->(bif k=1 then some false else(bif k=2 then some false else(bif k=3 then some false else(bif k=4 then some false else some false))))=some (decide (Frm ⟨k,at_,a,b,c,f,t,m⟩)):=fun hno=>
   cF (fun hk=>fbF (no14 hr (.inl hk))) (fun h1=>cF (fun hk=>fbF (hno (.inl hk))) (fun h2=>cF (fun hk=>fbF (hno (.inr hk))) (fun h3=>cF (fun hk=>fbF (no14 hr (.inr hk))) (fun h4=>fbF (noK h1 h2 h3 h4)))))
  refine cF (fun f0=>cF (fun f1=>cF (fun f2=>cF (fun m0=>?_) (fun h=>leaf fun hk p=>h (p.full hk).2.2.2.1)) (fun h=>leaf fun hk p=>h (p.full hk).2.2.1)) (fun h=>leaf fun hk p=>h (p.full hk).2.1)) (fun h=>leaf fun hk p=>h (p.full hk).1)
  refine cF (fun hk=>fbF (no14 hr (.inl hk))) (fun h1=>cF (fun hk=>?_) (fun h2=>cF (fun hk=>?_) (fun h3=>cF (fun hk=>fbF (no14 hr (.inr hk))) (fun h4=>fbF (noK h1 h2 h3 h4)))))
  ·subst hk
   refine cF (fun m1=>cF (fun hc=>fbT ?_) (fun h=>fbF fun p=>h (p.noC (by show ¬(2:Int)=3;decide)))) (fun h=>fbF fun p=>h (p.full (.inl rfl)).2.2.2.2)
   rw[Bool.not_eq_true',decide_eq_false_iff_not];exact⟨fun h=>⟨t0,t1,a0,a1,b0,b1,c0,c1,(show 1<=(2:Int)/\(2:Int)<=4 by decide),fun h=>by simp at h,fun _=>⟨f0,f1,f2,m0,m1⟩,fun _=>hc,fun h=>by simp at h,fun _=>h,fun h=>by simp at h⟩,fun p=>p.other (by show ¬(2:Int)=4;decide)⟩
  ·subst hk
   refine cF (fun m1=>cN (fun hab=>?_) (fun hab=>fbT ?_)) (fun h=>fbF fun p=>h (p.full (.inr rfl)).2.2.2.2)
   ·exact fbF fun p=>p.other (by show ¬(3:Int)=4;decide) hab
   ·rw[Bool.not_eq_true',decide_eq_false_iff_not]
    exact⟨fun h=>⟨t0,t1,a0,a1,b0,b1,c0,c1,(show 1<=(3:Int)/\(3:Int)<=4 by decide),fun h=>by simp at h,fun _=>⟨f0,f1,f2,m0,m1⟩,fun h=>absurd rfl h,fun h=>by simp at h,fun _=>hab,fun _=>h⟩,fun p=>p.third rfl⟩
theorem JI(n:Nat)(l:List B3)(f t:Int)(hc:Canon l)(hl:l.length<=40)(h0:0<=f)(h1:f<t)(h2:t<=100000000)(hn:210<n):oa n (bL l) f t=some (bL (aZ (km l f t)),0):=by
 have hV:vldB l=true:=(db l).2 ⟨hl,hc⟩
 have hM:=lG hc h0 h1 h2;have hlen:=pg hc f t hM;obtain⟨e1,e2⟩:=fk n l [⟨f,t,0⟩] 2 (-1) (-1) hc (mE h0 h1 h2 (by decide) (by decide)) (by omega) (by simp) (.inr (.inr rfl)) (by decide) hn
 have hE:(fun m=>gcR 2 (-1) (-1) (hold l m) (hold [⟨f,t,0⟩] m))=km l f t:=by
  funext m
  have:=cz hc m
  rw[uW];unfold gcR km;by_cases hm:f<=m/\m<t
  ·simp[hm]
   try omega
  ·simp[hm]
 rw[hE]at e1;unfold oa zW;rw[cu n l (by omega),Option.bind_some,hV,Bool.not_true,cond_false,decide_eq_true h0,cond_true,decide_eq_true h1,cond_true,decide_eq_true h2,Bool.not_true,cond_false]
 have e1':cv n (bL l) (([]:Lv)++[[AV.int f,AV.int t,AV.int 0]]) 2 (-1) (-1)=_:=e1
 rw[e1',Option.bind_some];unfold dx;rw[if_pos (by omega)]
theorem Dv(n:Nat)(a b:List B3)(ha:Canon a)(hal:a.length<=40)(hb:Canon b)(hbl:b.length<=40)(hn:210<n):
  jE n (bL a) (bL b)=some (bL (dx fun m=>fg (hold a m) (hold b m)).1,(dx fun m=>fg (hold a m) (hold b m)).2):=by
 have hV:vldB a=true:=(db a).2 ⟨hal,ha⟩
 have hW:vldB b=true:=(db b).2 ⟨hbl,hb⟩
 obtain⟨e1,e2⟩:=fk n a b 0 (-1) (-1) ha hb (by omega) (by omega) (.inl rfl) (by decide) hn
 have hE:(fun m=>gcR 0 (-1) (-1) (hold a m) (hold b m))=fun m=>fg (hold a m) (hold b m):=by
  funext m
  have:=cz ha m
  have:=cz hb m
  unfold gcR fg;repeat' split
  all_goals first|rfl|omega
 rw[hE]at e1;unfold jE qV;rw[cu n a (by omega),Option.bind_some,hV,Bool.not_true,cond_false,cu n b (by omega),Option.bind_some,hW,Bool.not_true,cond_false,e1,Option.bind_some]
theorem yB(n:Nat)(l:List B3)(hc:Canon l)(hl:l.length<=40){e:Ev}(hf:Frm e)(hk:e.k=2)(hn:210<n):
  kY n (bL l) e.a e.b e.f e.t=some (bL (dx fun m=>rho e m (hold l m)).1,decide ((dx fun m=>rho e m (hold l m)).2=0)):=by
 obtain⟨f0,f1,f2,_,_⟩:=hf.full (.inl hk);have a0:=hf.a0;have hM1:=lG hc f0 f1 f2;have hl1:=pg hc e.f e.t hM1;have hM2:=fx hM1.1 (f:=e.a) hf.b0 hf.b1;have hl2:=eG hM1.1 (swR e.a e.b) (by unfold swR;rw[if_neg (by omega)]) hM2
 have hovl:=Fq hc hf (.inl hk);rw[if_pos hk]at hovl;unfold kY xM;rw[JI n l e.f e.t hc hl f0 f1 f2 hn,Option.bind_some,xN n _ e.a e.b hM1.1 (by omega) hf.a0 hf.a1 hf.b0 hf.b1 hn,Option.bind_some,Dv n l _ hc hl hM2.1 (by omega) hn,Option.bind_some,hovl]
 exact cF (fun _=>cF (fun _=>rfl) (fun h=>absurd rfl h)) (fun h=>absurd rfl h)
theorem CK(a b:Int):aq a b=max a b:=by unfold aq;omega
def Pf{α:Type}(go1:Lv×Int->Option α)(v8:Lv)(v9 P Q y:Int):Option α:=
 (bif 0<(v8.length:Int) then bif(-9223372036854775808<=((v8.length:Int)-1))&&(((v8.length:Int)-1)<=9223372036854775807)then bif 0<=(aq ((v8.length:Int)-1) 0) then bif (aq ((v8.length:Int)-1) 0)<(v8.length:Int) then(bif (cI v8 (aq ((v8.length:Int)-1) 0) 1)=P then(bif (cI v8 (aq ((v8.length:Int)-1) 0) 2)=y then bif 0<=((v8.length:Int)-1) then bif ((v8.length:Int)-1)<(v8.length:Int) then go1 ((List.modify v8 (((v8.length:Int)-1)).toNat (fun r=>r.set 1 (AV.int Q))),(v9+1))else none else none else bif (((v8.length:Int)+1)*24)<=140737488355328 then go1 ((v8++[[(AV.int P),(AV.int Q),(AV.int y)]]),(v9+1))else none)else bif (((v8.length:Int)+1)*24)<=140737488355328 then go1 ((v8++[[(AV.int P),(AV.int Q),(AV.int y)]]),(v9+1))else none)else none else none else none else bif (((v8.length:Int)+1)*24)<=140737488355328 then go1 ((v8++[[(AV.int P),(AV.int Q),(AV.int y)]]),(v9+1))else none)
theorem EU{α:Type}(go1:Lv×Int->Option α)(o:List B3)(v9 p q y:Int)(hy:y≠ -1)(hl:o.length<=1000):Pf go1 (bL o) v9 p q y=go1 (bL (Dial.Blk.step o p q y),v9+1):=by
 unfold Pf;have hlen:((bL o).length:Int)=(o.length:Int):=by simp
 rw[hlen];rcases List.eq_nil_or_concat o with rfl|⟨l,b,rfl⟩
 ·rw[uM _ _ _ hy]
  exact cF (fun h=>absurd h (by decide)) (fun _=>gN (by decide) rfl)
 ·rw[List.concat_eq_append]at *
  have hb:(l++[b])[l.length]?=some b:=by simp
  obtain⟨g0,g1,g2⟩:=ij hb;have hln:((l++[b]).length:Int)=(l.length:Int)+1:=by simp
  have e1:((l++[b]).length:Int)-1=(l.length:Int):=by omega
  have e2:aq (l.length:Int) 0=(l.length:Int):=by rw[CK];omega
  have e3:(l.length:Int).toNat=l.length:=by omega
  rw[e1,e2,g1,g2,e3,NP,qD _ _ _ _ _ hy];have happ:bL (l++[b])++[[AV.int p,AV.int q,AV.int y]]=bL (l++[b]++[⟨p,q,y⟩]):=by rw[kT (l++[b])];rfl
  rw[happ];have hl':l.length<=1000:=by simp at hl;omega
  refine gN (by omega) (gO (by omega) (by omega) (gN (by omega) (gN (by omega) (cF (fun h1=>cF (fun h2=>gN (by omega) (gN (by omega) ?_)) (fun h2=>gN (by omega) ?_)) (fun h1=>gN (by omega) ?_)))))
  ·rw[if_pos ⟨h1,h2⟩,<-h2]
  ·rw[if_neg (fun h=>h2 h.2)]
  ·rw[if_neg (fun h=>h1 h.1)]
def parts(x y z f t:Int)(o:List B3)(b:B3):Nat->List B3
 |0=>o
 |1=>prt o b.f (bc b f) (car b x y z false)
 |2=>prt (prt o b.f (bc b f) (car b x y z false)) (bc b f) (bc b t) (car b x y z true)
 |_=>jn x y z f t o b
theorem Eh(n:Nat)(l:List B3)(hc:Canon l)(hl:l.length<=40){x y z f t:Int}(ft:f<t)(x0:0<=x)(y0:0<=y)(z0:0<=z)(hn:100<n):
  gI n (bL l) x y z f t=some (bL (l.foldl (jn x y z f t) [])):=by
 unfold gI qJ;refine ar (fun s=>∃i:Nat,s=(bL ((l.take i).foldl (jn x y z f t) []),(i:Int))/\i<=l.length/\((l.take i).foldl (jn x y z f t) []).length<=3*i) (fun s=>l.length-s.2.toNat) _ ?_ n _ ⟨0,rfl,by omega,by simp⟩ (by first|omega|(simp only;omega))
 rintro _ go ⟨i,rfl,hi,hol⟩ ih;simp only at ih⊢
 unfold qI;have hlm:((bL l).length:Int)=(l.length:Int):=by rw[List.length_map]
 rw[hlm];refine cF (fun hlt=>gN (by omega) ?_) (fun hlt=>?_)
 ·obtain⟨b,hb⟩:=aD (l:=l) (i:=i) (by omega)
  obtain⟨g0,g1,g2⟩:=ij hb;have hbd:=mL hc (List.mem_of_getElem? hb);obtain⟨o,ho⟩:∃o,o=(l.take i).foldl (jn x y z f t) []:=⟨_,rfl⟩
  rw[<-ho]at hol⊢
  have hstep:(l.take (i+1)).foldl (jn x y z f t) []=jn x y z f t o b:=by rw[bV hb,List.foldl_append,<-ho];rfl
  have hol2:=Oe x y z f t o b;have hgo:go (bL (jn x y z f t o b),(i:Int)+1)=some (bL (l.foldl (jn x y z f t) [])):=ih _ ⟨i+1,by rw[hstep];rfl,by omega,by rw[hstep];omega⟩ (by first|omega|(simp only;omega))
  have hpl:∀k,(parts x y z f t o b k).length<=o.length+3:=fun k=>by
   match k with
   |0=>show o.length<=_;omega
   |1=>have:=lH o b.f (bc b f) (car b x y z false);show(prt o b.f (bc b f) (car b x y z false)).length<=_;omega
   |2=>
    have h1:=lH o b.f (bc b f) (car b x y z false);have h2:=lH (prt o b.f (bc b f) (car b x y z false)) (bc b f) (bc b t) (car b x y z true);show(prt (prt o b.f (bc b f) (car b x y z false)) (bc b f) (bc b t) (car b x y z true)).length<=_;omega
   |k+3=>exact hol2
  refine ar (fun s=>∃k:Nat,s=(bL (parts x y z f t o b k),(k:Int))/\k<=3) (fun s=>3-s.2.toNat) _ ?_ n _ ⟨0,rfl,by omega⟩ (by first|omega|(simp only;omega))
  rintro _ go1 ⟨k,rfl,hk⟩ ih1;simp only at ih1⊢
  unfold rx;refine cF (fun hk3=>gN (by omega) (gN (by omega) (gO (by omega) (by omega) (gN (by omega) (gN (by omega) ?_))))) (fun hk3=>?_)
  ·have hmx:aq b.f (af f b.t)=bc b f:=by rw[CK,iK];rfl
   have hmy:aq b.f (af t b.t)=bc b t:=by rw[CK,iK];rfl
   have h0:cI (iL [b.f,bc b f,bc b t,b.t]) 0 0=b.f:=rfl
   have h1:cI (iL [b.f,bc b f,bc b t,b.t]) 1 0=bc b f:=rfl
   have h2:cI (iL [b.f,bc b f,bc b t,b.t]) 2 0=bc b t:=rfl
   have h3:cI (iL [b.f,bc b f,bc b t,b.t]) 3 0=b.t:=rfl
   have hL:(((([]:Lv)++[[AV.int b.f]])++[[AV.int (bc b f)]])++[[AV.int (bc b t)]])++[[AV.int b.t]]=iL [b.f,bc b f,bc b t,b.t]:=rfl
   have key:∀(p q:Int) (mid:Bool),cI (iL [b.f,bc b f,bc b t,b.t]) (k:Int) 0=p->cI (iL [b.f,bc b f,bc b t,b.t]) ((k:Int)+1) 0=q->(((k:Int)=1)↔mid=true)->parts x y z f t o b (k+1)=prt (parts x y z f t o b k) p q (car b x y z mid) →
     ko n go go1 (bL l) x y z f t (i:Int) (bL (parts x y z f t o b k)) (k:Int)=some (bL (l.foldl (jn x y z f t) [])):=fun p q mid hp hq hm hpt=>by
    have hgo1:=ih1 (bL (parts x y z f t o b (k+1)),(k:Int)+1) ⟨k+1,rfl,by omega⟩ (by first|omega|(simp only;omega))
    rw[hpt]at hgo1;have hplk:=hpl k;unfold prt at hgo1;unfold ko;rw[g0,g1,hmx,hmy,hL,hp,hq];refine cF (fun he=>?_) (fun he=>?_)
    ·rw[if_pos he]at hgo1;exact hgo1
    ·rw[if_neg he]at hgo1
     unfold qM;rw[g0,g1,g2,hmx,hmy,hL,hp,hq];refine cF (fun hx=>?_) (fun hx=>?_)
     ·unfold rS
      rw[g0,g1,hmx,hmy,hL,hp,hq];refine cF (fun h1=>?_) (fun h1=>?_)
      ·have hmt:=hm.1 h1
       have hcar:car b x y z mid=y:=by unfold car;rw[if_pos hx,hmt];rfl
       rw[hcar]at hgo1;exact(EU go1 (parts x y z f t o b k) (k:Int) p q y (by omega) (by omega)).trans hgo1
      ·have hmf:mid=false:=by cases mid;rfl;exact absurd (hm.2 rfl) h1
       have hcar:car b x y z mid=z:=by unfold car;rw[if_pos hx,hmf];rfl
       rw[hcar]at hgo1;exact(EU go1 (parts x y z f t o b k) (k:Int) p q z (by omega) (by omega)).trans hgo1
     ·have hcar:car b x y z mid=b.c:=by unfold car;rw[if_neg hx]
      rw[hcar]at hgo1;exact(EU go1 (parts x y z f t o b k) (k:Int) p q b.c (by omega) (by omega)).trans hgo1
   match k,hk3 with
   |0,_=>exact key _ _ false h0 h1 (by simp) rfl
   |1,_=>exact key _ _ true h1 h2 (by simp) rfl
   |2,_=>exact key _ _ false h2 h3 (by simp) rfl
   |k+3,h=>exact absurd h (by omega)
  ·have:k=3:=by omega
   subst this;exact gO (by omega) (by omega) hgo
 ·have:i=l.length:=by omega
  subst this;rw[List.take_length]
theorem a7(n:Nat){c k:Int}(hc:ae c)(hk:0<k):aN n c k=some (pk c k):=by
 unfold aN zS pk;unfold ae at hc;grind
theorem kL(n:Nat){c k:Int}(hc:ae c)(hk:0<k):bZ n c k=some (pk c k):=by
 unfold bZ xU pk;unfold ae at hc;grind
theorem LV{xs:List (Int×Int×Int)}{i:Nat}{x:Int×Int×Int}(h:xs[i]?=some x):cI (xs.map bG) (i:Int) 0=x.1/\cI (xs.map bG) (i:Int) 1=x.2.1/\cI (xs.map bG) (i:Int) 2=x.2.2:=by
 have hc:∀k,cA (xs.map bG) (i:Int) k=(bG x).getD k (.int 0):=fun k=>bv (by simpa using h)
 refine⟨?_,?_,?_⟩<;>(simp only[cI,hc];rfl)
def mN(s:Int)(d:Int×Int×Int):Prop:=(0<=d.1/\d.1<=7)/\(0<=d.2.1/\d.2.1<=7)/\d.1≠d.2.1/\has s d.1=true/\has s d.2.1=true/\1<=d.2.2/\d.2.2<=1000
theorem Ky(n:Nat){s:Int}(s0:0<=s)(s1:s<=255)(xs:List (Int×Int×Int))(hx:∀x∈xs,ae x.1/\ae x.2.1/\ae x.2.2)(hn:20<n):
  Ok (fun r=>∃ds:List (Int×Int×Int),r=ds.map bG/\ds.length<=12/\∀d∈ds,mN s d) (rJ n s (xs.map bG)):=by
 unfold rJ BB;refine dE (fun q=>∃(i:Nat) (ds:List (Int×Int×Int)),q=(ds.map bG,(i:Int))/\i<=12/\ds.length<=i/\∀d∈ds,mN s d) (fun q=>12-q.2.toNat) _ ?_ n _ ⟨0,[],rfl,by omega,by simp,fun d h=>by simp at h⟩ (by first|omega|(simp only;omega))
 rintro _ go ⟨i,ds,rfl,hi,hl,hd⟩ ih;simp only at ih⊢
 unfold BD;refine oF (fun h1=>oF (fun h2=>hN (by omega) ?_) (fun _=>hD ⟨ds,rfl,by omega,hd⟩)) (fun _=>hD ⟨ds,rfl,by omega,hd⟩)
 rw[List.length_map]at h1;obtain⟨x,hxx⟩:=aD (l:=xs) (i:=i) (by omega)
 obtain⟨g0,g1,g2⟩:=LV hxx;obtain⟨x0,x1,x2⟩:=hx x (List.mem_of_getElem? hxx);have b0:=aY x.1 (k:=8) (by decide)
 have b1:=aY x.2.1 (k:=8) (by decide)
 have b2:=aY x.2.2 (k:=1000) (by decide)
 have hgo:Ok _ (go (ds.map bG,(i:Int)+1)):=ih _ ⟨i+1,ds,rfl,by omega,by omega,hd⟩ (by first|omega|(simp only;omega))
 rw[g0,g1,g2,a7 n x0 (by decide),Option.bind_some,a7 n x1 (by decide),Option.bind_some,a7 n x2 (by decide),Option.bind_some]
 rw[cM s0 s1 b0.1 (by omega),cM s0 s1 b1.1 (by omega)]
 refine hO (by omega) (by omega) ?_
 by_cases hne:pk x.1 8=pk x.2.1 8
 ·rw[decide_eq_true hne,Bool.not_true,cond_false]
  exact hO (by omega) (by omega) hgo
 rw[decide_eq_false hne,Bool.not_false,cond_true];refine hN b0.1 (oB (fun hs0=>hN b1.1 (oB (fun hs1=>?_) (fun _=>hO (by omega) (by omega) hgo))) (fun _=>hO (by omega) (by omega) hgo))
 refine hN (by rw[List.length_map];omega) (hO (by omega) (by omega) ?_)
 have e:ds.map bG++[[AV.int (pk x.1 8),AV.int (pk x.2.1 8),AV.int (1+pk x.2.2 1000)]]=(ds++[(pk x.1 8,pk x.2.1 8,1+pk x.2.2 1000)]).map bG:=by rw[List.map_append];rfl
 rw[e];refine ih _ ⟨i+1,_,rfl,by omega,by simp;omega,fun d hd2=>?_⟩ (by first|omega|(simp only;omega))
 rcases List.mem_append.1 hd2 with h|h
 ·exact hd d h
 ·rw[List.mem_singleton]at h
  subst h;exact⟨⟨b0.1,(by omega:pk x.1 8<=7)⟩,⟨b1.1,(by omega:pk x.2.1 8<=7)⟩,hne,hs0,hs1,(by omega:1<=1+pk x.2.2 1000),(by omega:1+pk x.2.2 1000<=1000)⟩
theorem OV{l:List B3}(hc:Canon l){f t c:Int}(h0:0<=f)(h:IsMap (fun m=>gcR 0 (-1) (-1) (hold l m) (hold [⟨f,t,c⟩] m)) (aZ fun m=>gcR 0 (-1) (-1) (hold l m) (hold [⟨f,t,c⟩] m)))(h3:0<=c):(aZ fun m=>gcR 0 (-1) (-1) (hold l m) (hold [⟨f,t,c⟩] m)).length<=l.length+2:=by
 have e:(fun m=>gcR 0 (-1) (-1) (hold l m) (hold [⟨f,t,c⟩] m))=fun m=>(fun n x=>gcR 0 (-1) (-1) x (if f<=n/\n<t then c else -1)) m (hold l m):=by
  funext m;rw[uW]
 rw[e]at h⊢
 refine C5 hc f t (fun n x=>gcR 0 (-1) (-1) x (if f<=n/\n<t then c else -1)) (fun n m x hnm=>by simp only[hnm]) (fun n hn=>by simp only[hn,if_false];decide) (fun n x=>?_) h h0
 by_cases hn:f<=n/\n<t
 ·right
  simp only[hn,and_self,if_true];unfold gcR;simp[h3]
 ·left;simp only[hn,if_false];decide
theorem OW{l:List B3}(hc:Canon l){f t:Int}(h0:0<=f)(h:IsMap (fun m=>gcR 1 (-1) (-1) (hold l m) (hold [⟨f,t,0⟩] m)) (aZ fun m=>gcR 1 (-1) (-1) (hold l m) (hold [⟨f,t,0⟩] m))):(aZ fun m=>gcR 1 (-1) (-1) (hold l m) (hold [⟨f,t,0⟩] m)).length<=l.length+2:=by
 have e:(fun m=>gcR 1 (-1) (-1) (hold l m) (hold [⟨f,t,0⟩] m))=fun m=>(fun n x=>gcR 1 (-1) (-1) x (if f<=n/\n<t then 0 else -1)) m (hold l m):=by
  funext m;rw[uW]
 rw[e]at h⊢
 have hz:∀n,gcR 1 (-1) (-1) (-1) (if f<=n/\n<t then 0 else -1)= -1:=fun n=>by
  by_cases hn:f<=n/\n<t
  ·simp only[hn,and_self,if_true];decide
  ·simp only[hn,if_false];decide
 exact C5 hc f t (fun n x=>gcR 1 (-1) (-1) x (if f<=n/\n<t then 0 else -1)) (fun n m x hnm=>by simp only[hnm]) (fun n hn=>hz n) (fun n x=>.inl (hz n)) h h0
theorem EC(n:Nat)(xs:List (Int×Int×Int))(hx:∀x∈xs,ae x.1/\ae x.2.1/\ae x.2.2)(h8:xs.length<=8)(hn:210<n):Ok (fun q=>∃l,q=bL l/\Canon l/\l.length<=16) (nQ n (xs.map bG)):=by
 unfold nQ zm;refine dE (fun s=>∃(i:Nat) (l:List B3),s=(bL l,(i:Int))/\i<=xs.length/\Canon l/\l.length<=2*i) (fun s=>12-s.2.toNat) _ ?_ n _ ⟨0,[],rfl,by omega,trivial,by simp⟩ (by first|omega|(simp only;omega))
 rintro _ go ⟨i,l,rfl,hi,hc,hl⟩ ih;simp only at ih⊢
 unfold zZ;refine oF (fun h1=>oF (fun h2=>hN (by omega) ?_) (fun _=>hD ⟨l,rfl,hc,by omega⟩)) (fun _=>hD ⟨l,rfl,hc,by omega⟩)
 rw[List.length_map]at h1;obtain⟨x,hxx⟩:=aD (l:=xs) (i:=i) (by omega)
 obtain⟨g0,g1,g2⟩:=LV hxx;obtain⟨x0,x1,x2⟩:=hx x (List.mem_of_getElem? hxx);obtain⟨p0,p1,p2⟩:=ND x.1 x.2.1;have hk:=aY x.2.2 (k:=5) (by decide)
 rw[g0,g1,g2,m9 n x0 x1,Option.bind_some,eP n x2 (by decide),Option.bind_some]
 refine oF (fun h3=>?_) (fun h3=>?_)
 ·refine hO (by omega) (by omega) ?_
  have h4:pk x.2.2 5<4:=h3
  have k1:0<=2*pk x.2.2 5:=by omega
  have k2:2*pk x.2.2 5<=7:=by omega
  have k3:l.length<=40:=by omega
  obtain⟨e1,e2⟩:=JR n l _ _ (2*pk x.2.2 5) hc k3 p0 p1 p2 k1 k2 hn;have hf:=OV hc p0 e2 k1;rw[e1,Option.bind_some];unfold dx;rw[if_pos (by omega)]
  dsimp only;refine hO (by omega) (by omega) (ih _ ⟨i+1,_,rfl,by omega,e2.1,by omega⟩ (by first|omega|(simp only;omega)))
 ·obtain⟨e1,e2⟩:=I3 n l _ _ hc (by omega) p0 p1 p2 hn
  have hf:=OW hc p0 e2;rw[e1,Option.bind_some];unfold dx;rw[if_pos (by omega)]
  dsimp only;refine hO (by omega) (by omega) (ih _ ⟨i+1,_,rfl,by omega,e2.1,by omega⟩ (by first|omega|(simp only;omega)))
def qA(l:List Int)(d:Int×Int×Int):List Int:=(l.set d.1.toNat (g l d.1-d.2.2)).set d.2.1.toNat (g (l.set d.1.toNat (g l d.1-d.2.2)) d.2.1+d.2.2)
def bY(ds:List (Int×Int×Int)):List Int:=ds.foldl qA (List.replicate 8 0)
theorem Eo(ds:List (Int×Int×Int))(d:Int×Int×Int):bY (ds++[d])=qA (bY ds) d:=by unfold bY;rw[List.foldl_append];rfl
theorem My(l:List Int)(d:Int×Int×Int):(qA l d).length=l.length:=by unfold qA;rw[List.length_set,List.length_set]
theorem PU{l:List Int}(hl:l.length=8){s:Int}{d:Int×Int×Int}(hd:mN s d){c:Int}(c0:0<=c)(c1:c<=7):g (qA l d) c=g l c-(if c=d.1 then d.2.2 else 0)+(if c=d.2.1 then d.2.2 else 0):=by
 obtain⟨⟨h1,h2⟩,⟨h3,h4⟩,h5,_⟩:=hd;have hl':(l.set d.1.toNat (g l d.1-d.2.2)).length=8:=by rw[List.length_set,hl]
 unfold qA;rw[rn hl' h3 h4 c0 c1,rn hl h1 h2 h3 h4,rn hl h1 h2 c0 c1];by_cases ha:c=d.2.1
 ·subst ha
  rw[if_pos rfl,if_neg (Ne.symm h5),if_pos rfl,if_neg (Ne.symm h5)];omega
 ·rw[if_neg ha,if_neg ha]
  by_cases hb:c=d.1
  ·subst hb;rw[if_pos rfl,if_pos rfl];omega
  ·rw[if_neg hb,if_neg hb];omega
theorem MI{l:List Int}(hl:l.length=8){s:Int}{d:Int×Int×Int}(hd:mN s d):(qA l d).sum=l.sum:=by
 obtain⟨⟨h1,h2⟩,⟨h3,h4⟩,h5,_⟩:=hd;have hl':(l.set d.1.toNat (g l d.1-d.2.2)).length=8:=by rw[List.length_set,hl]
 unfold qA;rw[O0 hl' _ h3 h4,O0 hl _ h1 h2,rn hl h1 h2 h3 h4,if_neg (Ne.symm h5)];omega
theorem If{s:Int}(ds:List (Int×Int×Int))(h:∀d∈ds,mN s d):(bY ds).length=8/\(bY ds).sum=0/\∀c,0<=c->c<=7->(-1000*(ds.length:Int)<=g (bY ds) c/\g (bY ds) c<=1000*(ds.length:Int))/\(has s c=false->g (bY ds) c=0):=by
 suffices H:∀(m:Nat) (ds:List (Int×Int×Int)),ds.length=m->(∀d∈ds,mN s d)->(bY ds).length=8/\(bY ds).sum=0/\∀c,0<=c->c<=7->(-1000*(ds.length:Int)<=g (bY ds) c/\g (bY ds) c<=1000*(ds.length:Int))/\(has s c=false->g (bY ds) c=0)from H _ ds rfl h
 intro m;induction m with
 |zero=>
  intro ds hm _;have:ds=[]:=List.length_eq_zero_iff.1 hm
  subst this;have hz:∀c,0<=c->c<=7->g (bY []) c=0:=IQ (fun c=>g (bY []) c=0) (by decide)
  exact⟨by decide,by decide,fun c c0 c1=>by rw[hz c c0 c1];simp⟩
 | succ m ih=>
  intro ds hm h;rcases List.eq_nil_or_concat ds with rfl|⟨es,d,rfl⟩
  ·simp at hm
  ·rw[List.concat_eq_append]at *
   obtain⟨i1,i2,i3⟩:=ih es (by simp at hm;omega) fun d hd=>h d (by simp[hd])
   have hd:=h d (by simp)
   rw[Eo];refine⟨by rw[My,i1],by rw[MI i1 hd,i2],fun c c0 c1=>?_⟩
   have hd':=hd;obtain⟨⟨h1,h2⟩,⟨h3,h4⟩,h5,h6,h7,h8,h9⟩:=hd';rw[PU i1 hd c0 c1];obtain⟨j1,j2⟩:=i3 c c0 c1;have hlen:(((es++[d]).length:Nat):Int)=(es.length:Int)+1:=by simp
   rw[hlen];refine⟨by split<;>split<;>omega,fun hc=>?_⟩
   rw[j2 hc,if_neg (fun h=>by rw[h,h6]at hc;cases hc),if_neg (fun h=>by rw[h,h7]at hc;cases hc)];rfl
structure MadeW (w:Wd):Prop where
 v:WV w
 few:w.bl.length<=16
 bd:∀c,0<=c->c<=7-> -12000<=g w.ba c/\g w.ba c<=12000
 lv:∀c,0<=c->c<=7->g w.le c<=4
 some:∃c,0<=c/\c<=7/\has w.al c=true
abbrev wT(w:Wd):Int×Int×Lv×Lv×Lv:=(w.al,w.ev,bL w.bl,iL w.ba,iL w.le)
theorem Qm{s t:Int}(s0:0<=s)(s1:s<=255)(t0:0<=t)(t1:t<=255):0<=IOp.f .or s t/\IOp.f .or s t<=255/\lA s (IOp.f .or s t):=by
 have ha:BitVec.ofInt 64 s=BitVec.ofNat 64 s.toNat:=by
  rw[<-BitVec.ofInt_natCast,Int.toNat_of_nonneg s0]
 have hb:BitVec.ofInt 64 t=BitVec.ofNat 64 t.toNat:=by
  rw[<-BitVec.ofInt_natCast,Int.toNat_of_nonneg t0]
 have hle:s.toNat ||| t.toNat<2 ^ 8:=Nat.or_lt_two_pow (by omega) (by omega)
 have hE:IOp.f .or s t=((s.toNat ||| t.toNat:Nat):Int):=by
  show IntKind.i64.wrap ((BitVec.ofInt 64 s ||| BitVec.ofInt 64 t).toNat:Int)=_
  rw[ha,hb,BitVec.toNat_or,BitVec.toNat_ofNat,BitVec.toNat_ofNat,Nat.mod_eq_of_lt (by omega),Nat.mod_eq_of_lt (by omega)]
  generalize s.toNat ||| t.toNat=x at hle
  have:((x:Int)) % 18446744073709551616=(x:Int):=by omega
  have hd:decide ((x:Int)>=9223372036854775808)=false:=by rw[decide_eq_false_iff_not];omega
  show(if(true&&decide ((x:Int) % 18446744073709551616>=9223372036854775808))=true then(x:Int) % 18446744073709551616-18446744073709551616 else(x:Int) % 18446744073709551616)=_
  rw[this,hd];rfl
 rw[hE];refine⟨by omega,by omega,?_⟩
 unfold lA;rw[Int.toNat_natCast];refine Nat.eq_of_testBit_eq fun i=>?_
 rw[Nat.testBit_and,Nat.testBit_or];cases s.toNat.testBit i<;>rfl
theorem Jf(n:Nat){v0 v1 v3:Int}(h0:ae v0)(h1:ae v1)(h3:ae v3)(xs:List (Int×Int×Int))(hx:∀x∈xs,ae x.1/\ae x.2.1/\ae x.2.2)(ds:List (Int×Int×Int))(hl:ds.length<=12)(hd:∀d∈ds,mN (1+pk v0 255) d)(hn:220<n):
  Ok (fun r=>∃w,r=wT w/\MadeW w/\w.ba=bY ds/\w.al=1+pk v0 255) (oz n v0 v1 (xs.map bG) v3 (ds.map bG)):=by
 have b0:=aY v0 (k:=255) (by decide)
 have b1:=aY v1 (k:=256) (by decide)
 have b3:=aY v3 (k:=256) (by decide)
 unfold oz zE;rw[a7 n h0 (by decide),Option.bind_some,a7 n h1 (by decide),Option.bind_some]
 refine hO (by omega) (by omega) (hN ?_ (hN ?_ ?_))
 ·rw[iK];omega
 ·rw[iK];omega
 have htk:List.take (af ((xs.map bG).length:Int) 8).toNat (xs.map bG)=(xs.take 8).map bG:=by
  rw[iK,List.length_map,List.map_take];by_cases h:xs.length<=8
  ·rw[show(min (xs.length:Int) 8).toNat=xs.length by omega,List.take_of_length_le (by simp),List.take_of_length_le (by simpa using h)]
  ·rw[show(min (xs.length:Int) 8).toNat=8 by omega]
 rw[htk];obtain⟨_,hm,l0,rfl,hc0,hl0⟩:=EC n (xs.take 8) (fun x h=>hx x (List.mem_of_mem_take h)) (by rw[List.length_take];omega) (by omega)
 rw[hm,Option.bind_some];obtain⟨hal,hAl⟩:∃s,s=1+pk v0 255:=⟨_,rfl⟩
 rw[<-hAl]at hd⊢
 have s0:1<=hal:=by omega
 have s1:hal<=255:=by omega
 obtain⟨c,cc0,cc1,hcc⟩:=JK s0 s1;refine dE (fun s=>0<=s/\s<=c) (fun s=>8-s.toNat) _ ?_ n _ ⟨by decide,cc0⟩ (by first|omega|(simp only;omega))
 rintro k go ⟨k0,k1⟩ ih;unfold Am;refine hN k0 ?_
 unfold zH;rw[<-hAl,cM (by omega) s1 k0 (by omega)]
 have hkc:has hal k=false->k+1<=c:=fun hk=>by
  have:k≠c:=fun h=>by rw[h,hcc]at hk;cases hk
  omega
 refine oBN (fun hk=>?_) (fun hk=>hO (by omega) (by omega) (ih _ ⟨by omega,hkc hk⟩ (by first|omega|(simp only;omega))))
 clear ih
 refine dE (fun s=>∃(m:List B3) (i:Nat) (L:List Int),s=(bL m,(i:Int),iL L)/\i<=8/\Canon m/\m.length<=16/\L.length=i/\(∀x,hold m x≠ -1->has hal (hold m x)=true\/(i:Int)<=hold m x)
  ∧ ∀(j:Nat) (y:Int),L[j]?=some y->(0<=y/\y<=4)/\(has hal (j:Int)=true->3<=y)/\(has hal (j:Int)=false->y=0)) (fun s=>8-s.2.1.toNat) _ ?_ n _ ⟨l0,0,[],rfl,by omega,hc0,hl0,rfl,fun x hx=>.inr (by have:=cz hc0 x;omega),fun j y h=>by simp at h⟩ (by first|omega|(simp only;omega))
 rintro _ go ⟨m,i,L,rfl,hi,hmc,hml,hL,hown,hlv⟩ ih;simp only at ih⊢
 unfold zT;refine oF (fun h8=>hN (by omega) ?_) (fun h8=>?_)
 ·rw [<-hAl,cM (by omega) s1 (by omega) (by omega)]
  have hstep:∀(m':List B3) (v:Int),Canon m'->m'.length<=16->(∀x,hold m' x≠ -1->has hal (hold m' x)=true\/(i:Int)+1<=hold m' x)->(0<=v/\v<=4)->(has hal (i:Int)=true->3<=v)->(has hal (i:Int)=false->v=0)->Ok (fun r=>∃w,r=wT w/\MadeW w/\w.ba=bY ds/\w.al=hal) (go (bL m',(i:Int)+1,iL L++[[AV.int v]])):=fun m' v q1 q2 q3 q4 q5 q6=>by
   refine ih _ ⟨m',i+1,L++[v],by rw[QI];rfl,by omega,q1,q2,by simp[hL],fun x hx=>by have:=q3 x hx;simpa using this,fun j y hj=>?_⟩ (by first|omega|(simp only;omega))
   by_cases h:j<L.length
   ·rw[List.getElem?_append_left h]at hj;exact hlv j y hj
   ·have hj2:j=L.length:=by
     have:=(List.getElem?_eq_some_iff.1 hj).1
     simp at this;omega
    subst hj2;rw[List.getElem?_append_right (Nat.le_refl _)]at hj;simp at hj
    subst hj;rw[hL];exact⟨q4,q5,q6⟩
  refine oBN (fun hb=>?_) (fun hb=>?_)
  ·have hbt:Int.tmod (IOp.f .shr (pk v3 256) (i:Int)) 2=if has (pk v3 256) (i:Int)then 1 else Int.tmod (IOp.f .shr (pk v3 256) (i:Int)) 2:=by
    have:=cM (s:=pk v3 256) (c:=(i:Int)) b3.1 (by omega) (by omega) (by omega)
    split
    ·rename_i h;rw[h]at this;exact of_decide_eq_true this
    ·rfl
   have hb2:0<=Int.tmod (IOp.f .shr (pk v3 256) (i:Int)) 2/\Int.tmod (IOp.f .shr (pk v3 256) (i:Int)) 2<2:=by
    refine A3 ?_ (by decide)
    show 0<=Int.fdiv (pk v3 256) (2 ^ (Nat.min (i:Int).toNat 64))
    exact Int.fdiv_nonneg b3.1 (Int.pow_nonneg (by decide))
   rw[a7 n h3 (by decide),Option.bind_some]
   refine hO (by omega) (by omega) (hN (by rw[dB];omega) (hO (by omega) (by omega) ?_))
   refine hstep m _ hmc hml (fun x hx=>?_) (by omega) (fun _=>by omega) (fun h=>by rw[hb]at h;cases h)
   rcases hown x hx with h|h
   ·exact .inl h
   ·by_cases he:hold m x=(i:Int)
    ·left;rw[he];exact hb
    ·right;omega
  ·have hsm:=fx hmc (f:=(i:Int)) (t:=k) k0 (by omega)
   have hlen:=eG hmc (swR (i:Int) k) (by unfold swR;rw[if_neg (by omega)]) hsm
   rw[xN n m (i:Int) k hmc (by omega) (by omega) (by omega) k0 (by omega) (by omega),Option.bind_some]
   refine hN (by rw[dB];omega) (hO (by omega) (by omega) ?_)
   refine hstep _ 0 hsm.1 (by omega) (fun x hx=>?_) (by omega) (fun h=>by rw[hb]at h;cases h) (fun _=>rfl)
   rw[hsm.at x]at hx⊢
   split at hx
   ·rename_i hr
    rw[if_pos hr];unfold swR at hx⊢
    by_cases he:hold m x=(i:Int)
    ·rw[if_pos he];exact .inl hk
    ·rw[if_neg he]at hx⊢
     rcases hown x hx with h|h
     ·exact .inl h
     ·right;omega
   ·exact absurd rfl hx
 ·have hi8:i=8:=by omega
  subst hi8;clear ih
  obtain⟨d1,d2,d3⟩:=If ds hd;have hsub:=Qm (s:=hal) (t:=pk v1 256) (by omega) s1 b1.1 (by omega)
  have hgl:∀c,0<=c->c<=7->∃y,L[c.toNat]?=some y/\g L c=y:=fun c c0 c1=>by
   obtain⟨y,hy⟩:=aD (l:=L) (i:=c.toNat) (by omega)
   exact⟨y,hy,by unfold g;rw[List.getD_eq_getElem?_getD,hy];rfl⟩
  have hgl2:∀c,0<=c->c<=7->(0<=g L c/\g L c<=4)/\(has hal c=true->3<=g L c)/\(has hal c=false->g L c=0):=fun c c0 c1=>by
   obtain⟨y,hy,he⟩:=hgl c c0 c1;have:=hlv _ y hy
   rw[Int.toNat_of_nonneg c0]at this;rw[he];exact this
  refine dE (fun s=>∃i:Nat,s=((i:Int),iL (bY (ds.take i)))/\i<=ds.length) (fun s=>ds.length-s.1.toNat) _ ?_ n _ ⟨0,rfl,by omega⟩ (by first|omega|(simp only;omega))
  rintro _ go ⟨i,rfl,hi⟩ ih;simp only at ih⊢
  unfold zw;refine oF (fun h1=>hN (by omega) ?_) (fun h1=>?_)
  ·rw[List.length_map]at h1
   obtain⟨d,hdd⟩:=aD (l:=ds) (i:=i) (by omega)
   obtain⟨g0,g1,g2⟩:=LV hdd;have hdok:=hd d (List.mem_of_getElem? hdd);obtain⟨⟨p1,p2⟩,⟨p3,p4⟩,p5,p6,p7,p8,p9⟩:=hdok;obtain⟨t1,t2,t3⟩:=If (ds.take i) (fun d h=>hd d (List.mem_of_mem_take h))
   have hgo:=ih ((i:Int)+1,iL (bY (ds.take (i+1)))) ⟨i+1,rfl,by omega⟩ (by first|omega|(simp only;omega))
   rw[bV hdd,Eo]at hgo;have t4:=(t3 d.1 p1 p2).1;have t5:=(t3 d.2.1 p3 p4).1;have hlt:((ds.take i).length:Int)<=12:=by rw[List.length_take];omega
   have hl8:((bY (ds.take i)).set d.1.toNat (g (bY (ds.take i)) d.1-d.2.2)).length=8:=by rw[List.length_set,t1]
   have e5:g ((bY (ds.take i)).set d.1.toNat (g (bY (ds.take i)) d.1-d.2.2)) d.2.1=g (bY (ds.take i)) d.2.1:=by rw[rn t1 p1 p2 p3 p4,if_neg (Ne.symm p5)]
   rw[g0,g1,g2,<-hAl,cM (by omega) s1 p1 p2,cM (by omega) s1 p3 p4,cc t1 p1 p2,dF,cc hl8 p3 p4,dF,p6,p7]
   have hlen8:((iL (bY (ds.take i))).length:Int)=8:=by rw[dB,t1];rfl
   refine hN p1 (hN p2 (hN p3 (hN p4 ?_)))
   rw[cond_true,cond_true];exact hN (by omega) (hO (by omega) (by omega) (hN (by omega) (hO (by omega) (by omega) (hO (by omega) (by omega) hgo))))
  ·have hie:i=ds.length:=by rw[List.length_map]at h1;omega
   subst hie;rw[List.take_length,<-hAl];refine hD ⟨⟨hal,IOp.f .or hal (pk v1 256),m,bY ds,L⟩,rfl,⟨⟨hsub.1,hsub.2.1,by show 0<=hal;omega,hsub.2.2,d1,hL,hmc,by show m.length<=40;omega,fun b hb=>?_,fun c c0 c1=>?_,fun c c0 c1=>?_,fun c c0 c1 hc=>⟨(d3 c c0 c1).2 hc,(hgl2 c c0 c1).2.2 hc⟩,d2,fun c d c0 c1 d0 d1' hc hd'=>?_⟩,hml,fun c c0 c1=>?_,fun c c0 c1=>?_,⟨c,cc0,cc1,hcc⟩⟩,rfl,rfl⟩
   ·have hbd:=mL hmc hb
    have:=uK hmc hb (n:=b.f) (by omega)
    rcases hown b.f (by omega)with h|h
    ·rw[this]at h;exact h
    ·omega
   ·have:=(d3 c c0 c1).1
    show -1000000000000<=g (bY ds) c/\g (bY ds) c<=1000000000000
    omega
   ·have:=(hgl2 c c0 c1).1
    show 0<=g L c/\g L c<=9
    omega
   ·have q1:=hgl2 c c0 c1
    have q2:=(hgl2 d d0 d1').2.1 hd';show g L c-g L d<=1
    omega
   ·have:=(d3 c c0 c1).1
    show -12000<=g (bY ds) c/\g (bY ds) c<=12000
    omega
   ·have:=(hgl2 c c0 c1).1
    show g L c<=4
    omega
end Go.Proofs.YtgckmifmjiklmaaGreat
namespace Go.Sx
open Go Go.RowKit Go.Dial Go.ChangeShapes Go.WideShapes Go.ChangeAt Go.WideMaps Go.WideElems
def ae(n:Int):Prop:= -9223372036854775808<=n/\n<=9223372036854775807
inductive AVok:AV->Prop
 |int (n:Int) (h:ae n):AVok (.int n)
 |bool (b:Bool):AVok (.bool b)
 |raw (s:ByteArray) (h:s.size<=maxLen):AVok (.raw (.string s))
 |sl (t:Ty) (l:List (List AV)) (h:l.length<=maxLen) (hty:∀r∈l,r.map AV.ty=t.list) (hr:∀r∈l,∀x∈r,AVok x):AVok (.sl t l)
theorem AVok.i{x:AV}(h:AVok x)(ht:x.ty=.int):∃n,x=.int n/\ae n:=by
 cases h with
 |int n h=>exact⟨n,rfl,h⟩
 |_=>cases ht
theorem AVok.l'{x:AV}{t:Ty}(h:AVok x)(ht:x.ty=.sl t):∃l,x=.sl t l/\l.length<=maxLen/\(∀r∈l,r.map AV.ty=t.list)/\∀r∈l,∀y∈r,AVok y:=by
 cases h with
 |sl t' l h hty hr=>cases ht;exact⟨l,rfl,h,hty,hr⟩
 |_=>cases ht
section
variable (P:Program)
def H5(go:Nat->Option (List Ty)):List Field->Nat->Option (List Ty)
 |[],_=>some []
 |f::fs,off=>if f.offset=off then(go f.type).bind fun a=>if P.cellsOf f.type=a.length then(H5 go fs (off+a.length)).map fun b=>a++b else none else none
def oq:Nat->Nat->Option (List Ty)
 |0,_=>none
 |d+1,t=>
  match P.underlying t with
  |some .bool=>some [.bool]
  |some (.int .i64)=>some [.int]
  |some .string=>some [.raw]
  |some (.slice e)=>(oq d e).bind fun l=>if P.cellsOf e=l.length/\0<l.length then some [.sl (l.foldr .cons .nil)]else none
  |some (.struct fs)=>(H5 P (oq d) fs.toList 0).bind fun l=>if P.cellsOf t=l.length then some l else none
  |some (.array n e)=>(oq d e).bind fun l=>if P.cellsOf e=l.length/\P.cellsOf t=n*l.length then some (List.replicate n l).flatten else none
  |_=>none
def mI(t:Nat):Bool:=
 match P.underlying t with
 |some (.struct _)|some (.array _ _)=>true
 |_=>false
def Lm:List Nat->Option Ps
 |[]=>some []
 |t::ts=>(oq P 12 t).bind fun l=>(Lm ts).map fun ps=>(mI P t,l)::ps
end
theorem D0(l:List Ty):(l.foldr Ty.cons Ty.nil).list=l:=by
 induction l with
 |nil=>rfl
 |cons a l ih=>show a::(l.foldr Ty.cons Ty.nil).list=_;rw[ih]
theorem NE(l:List Ty):(l.foldr Ty.cons Ty.nil).len=l.length:=by rw[<-Ty.list_len,D0]
section
variable {H:Type} {enc:TypeId×Value->H} {P:Program} {w:World} {base:Nat} {spare:Nat->Bool} {held:Bool}
def Reads(w:World)(cs:List Value)(tys:List Ty)(avs:List AV):Prop:=
 cs.length=tys.length/\avs.map AV.ty=tys/\(∀(i:Nat) v a,cs[i]?=some v->avs[i]?=some a->Den (fun k=>k<w.heap.size) w v a)/\∀a∈avs,AVok a
theorem Reads.nil:Reads w [] [] []:=⟨rfl,rfl,fun i v a h=>by simp at h,fun a h=>by cases h⟩
theorem Reads.append{c1 c2:List Value}{t1 t2:List Ty}{a1 a2:List AV}(h1:Reads w c1 t1 a1)(h2:Reads w c2 t2 a2):Reads w (c1++c2) (t1++t2) (a1++a2):=by
 obtain⟨p1,p2,p3,p4⟩:=h1;obtain⟨q1,q2,q3,q4⟩:=h2;have hl:a1.length=c1.length:=by rw[p1,<-p2,List.length_map]
 refine⟨by simp[p1,q1],by simp[p2,q2],fun i v a hv ha=>?_,fun a ha=>?_⟩
 ·by_cases hi:i<c1.length
  ·rw[List.getElem?_append_left hi]at hv
   rw[List.getElem?_append_left (by omega)]at ha
   exact p3 i v a hv ha
  ·rw[List.getElem?_append_right (by omega)]at hv ha
   rw[hl]at ha;exact q3 _ v a hv ha
 ·rcases List.mem_append.1 ha with h|h
  ·exact p4 a h
  ·exact q4 a h
theorem Reads.one{v:Value}{a:AV}(h:Den (fun k=>k<w.heap.size) w v a)(hok:AVok a):Reads w [v] [a.ty] [a]:=by
 refine⟨rfl,rfl,fun i u x hu hx=>?_,fun x hx=>by rw[List.mem_singleton]at hx;rw[hx];exact hok⟩
 cases i with
 |zero=>cases hu;cases hx;exact h
 |succ i=>simp at hu
theorem Q3:∀(d:Nat) (t:Nat) (tys:List Ty),oq P d t=some tys->∀m cs x,DataW.trod enc P w base spare held m t cs=some x->∃avs,Reads w cs tys avs:=by
 intro d;induction d with
 |zero=>intro t tys h;cases h
 | succ d ih=>
  intro t tys h m cs x hx;unfold oq at h;split at h
  ·rename_i ht
   cases h
   obtain⟨b,rfl,_⟩:=DataW.trod_bool ht hx;exact⟨[.bool b],Reads.one (.bool b) (.bool b)⟩
  ·rename_i ht
   cases h
   obtain⟨n,rfl,h1,h2⟩:=QC ht m cs x hx;exact⟨[.int n],Reads.one (.int n) (.int n ⟨h1,h2⟩)⟩
  ·rename_i ht
   cases h
   obtain⟨s,rfl,hs⟩:=MY ht m cs x hx;exact⟨[.raw (.string s)],Reads.one (.raw _ rfl) (.raw s hs)⟩
  ·rename_i e ht
   obtain⟨l,hl,h⟩:=Option.bind_eq_some_iff.1 h;split at h
   ·rename_i hc
    obtain⟨hc,hpos⟩:=hc;cases h
    have he:=ih e l hl;rcases DataW.trod_slice ht hx with⟨rfl,_⟩|⟨a,len,cap,elems,rest,n,_,rfl,_,_,hle,hca,hlen,hel,_⟩
    ·exact⟨[.sl _ []],Reads.one (Den.mk (l:=[]) rfl (Nat.zero_le _) (Nat.zero_le _) (fun i r h=>by simp at h) (fun h=>absurd rfl h)) (.sl _ [] (Nat.zero_le _) (fun r h=>by cases h) (fun r h=>by cases h))⟩
    ·rw [hc]at hel
     have one:∀i,i<len->∃avs:List AV,avs.map AV.ty=l/\(∀a∈avs,AVok a)/\∀(k:Nat) y,avs[k]?=some y->∃u,w.cell? (a.add (i*l.length+k))=some u/\Den (fun k=>k<w.heap.size) w u y:=by
      intro i hi;have hxi:=hel i hi;rw[List.getElem?_eq_getElem (by omega)]at hxi
      obtain⟨cl,hl1,hl2⟩:=Option.bind_eq_some_iff.1 hxi;obtain⟨avs,r1,r2,r3,r4⟩:=he _ _ _ hl2;obtain⟨c1,c2⟩:=N1 hl1;refine⟨avs,r2,r4,fun k y hy=>?_⟩
      have hk:k<l.length:=by
       have:=(List.getElem?_eq_some_iff.1 hy).1
       rw[<-r2,List.length_map];exact this
      have hck:cl[k]?=some cl[k]:=List.getElem?_eq_getElem (by omega)
      refine⟨cl[k],?_,r3 k _ y hck hy⟩
      have:=c2 k hk
      rw[hck,j0]at this;exact this
     have all:∀k,k<=len->∃L:List (List AV),L.length=k/\(∀(i:Nat) r,L[i]?=some r->r.map AV.ty=l)/\(∀r∈L,∀a∈r,AVok a)/\∀(i:Nat) r,L[i]?=some r->∀(k:Nat) y,r[k]?=some y->∃u,w.cell? (a.add (i*l.length+k))=some u/\Den (fun k=>k<w.heap.size) w u y:=by
      intro k;induction k with
      |zero=>intro _;exact⟨[],rfl,(fun i r h=>by simp at h),(fun r h=>by cases h),(fun i r h=>by simp at h)⟩
      | succ k ihk=>
       intro hk;obtain⟨L,g1,g2,g3,g4⟩:=ihk (by omega)
       obtain⟨avs,o1,o2,o3⟩:=one k (by omega)
       have get:∀(i:Nat) r,(L++[avs])[i]?=some r->L[i]?=some r\/(i=k/\r=avs):=fun i r h=>by
        by_cases hi:i<L.length
        ·rw[List.getElem?_append_left hi]at h;exact .inl h
        ·rw[List.getElem?_append_right (by omega)]at h
         have:i-L.length=0:=by
          have:=(List.getElem?_eq_some_iff.1 h).1
          simp only[List.length_cons,List.length_nil]at this;omega
         rw[this]at h;cases h
         exact .inr ⟨by omega,rfl⟩
       refine⟨L++[avs],by simp[g1],fun i r h=>?_,fun r h=>?_,fun i r h=>?_⟩
       ·rcases get i r h with h|⟨_,rfl⟩
        ·exact g2 i r h
        ·exact o1
       ·rcases List.mem_append.1 h with h|h
        ·exact g3 r h
        ·rw[List.mem_singleton]at h;rw[h];exact o2
       ·rcases get i r h with h|⟨rfl,rfl⟩
        ·exact g4 i r h
        ·exact o3
     obtain⟨L,g1,g2,g3,g4⟩:=all len (Nat.le_refl _);have hty:∀(i:Nat) r,L[i]?=some r->r.map AV.ty=(l.foldr Ty.cons Ty.nil).list:=fun i r h=>by rw[D0];exact g2 i r h
     refine⟨[.sl (l.foldr Ty.cons Ty.nil) L],Reads.one (Den.mk g1 hle hca hty (fun hne=>⟨a,rfl,?_,fun i r h k y hy=>by rw[NE];exact g4 i r h k y hy⟩)) (.sl _ L (by omega) (fun r hr=>?_) g3)⟩
     ·obtain⟨r,L',rfl⟩:=List.exists_cons_of_ne_nil hne
      have h0:=g2 0 r rfl;obtain⟨y,hy⟩:∃y,r[0]?=some y:=⟨_,List.getElem?_eq_getElem (by rw[<-List.length_map (f:=AV.ty),h0];exact hpos)⟩
      obtain⟨u,hu,_⟩:=g4 0 r rfl 0 y hy;have:=World.block_lt_of_cell? w _ hu
      rwa [qZ]at this
     ·obtain⟨i,hi,rfl⟩:=List.getElem_of_mem hr
      exact hty i _ (List.getElem?_eq_getElem hi)
   ·cases h
  ·rename_i fs ht
   obtain⟨l,hl,h⟩:=Option.bind_eq_some_iff.1 h;split at h
   ·rename_i hc
    cases h
    obtain⟨xs,k,_,_,hlen,hn,hf⟩:=DataW.trod_struct ht hx;have go:∀(q:List Field) (j off:Nat) (l:List Ty),H5 P (oq P d) q off=some l->(∀(i:Nat) f,q[i]?=some f->fs[j+i]?=some f)->off+l.length=cs.length->∃avs,Reads w (cs.drop off) l avs:=by
     intro q;induction q with
     |nil=>
      intro j off l h _ hlen;cases h
      refine⟨[],?_⟩
      rw[List.drop_of_length_le (by simp at hlen;omega)]
      exact Reads.nil
     | cons f q ihq=>
      intro j off l h hfs hlen;unfold H5 at h;split at h
      ·rename_i ho
       obtain⟨a,ha,h⟩:=Option.bind_eq_some_iff.1 h;split at h
       ·rename_i hca
        obtain⟨b,hb,rfl⟩:=Option.map_eq_some_iff.1 h;have hfj:=hfs 0 f rfl;have hx1:=hf (j+0) f hfj;have hjl:j+0<xs.length:=by rw[hn];exact(Array.getElem?_eq_some_iff.1 hfj).1
        rw[List.getElem?_eq_getElem hjl,ho,hca]at hx1;obtain⟨av1,r1⟩:=ih f.type a ha _ _ _ hx1;rw[List.length_append]at hlen;obtain⟨av2,r2⟩:=ihq (j+1) (off+a.length) b hb (fun i g hg=>by rw[show j+1+i=j+(i+1) by omega];exact hfs (i+1) g hg) (by omega)
        refine⟨av1++av2,?_⟩
        have:=r1.append r2
        rw[<-List.drop_drop,List.take_append_drop]at this;exact this
       ·cases h
      ·cases h
    obtain⟨avs,hr⟩:=go fs.toList 0 0 tys hl (fun i f h=>by simpa using h) (by omega)
    exact⟨avs,by simpa using hr⟩
   ·cases h
  ·rename_i n e ht
   obtain⟨l,hl,h⟩:=Option.bind_eq_some_iff.1 h;split at h
   ·rename_i hc
    cases h
    obtain⟨xs,m',_,_,hlen,hn,hel⟩:=DataW.trod_array ht hx;rw[hc.1]at hel;have key:∀k,k<=n->∃avs,Reads w (cs.take (k*l.length)) (List.replicate k l).flatten avs:=by
     intro k;induction k with
     |zero=>intro _;exact⟨[],by simpa using Reads.nil⟩
     |succ k ihk=>
      intro hk;obtain⟨a1,r1⟩:=ihk (by omega)
      have hx1:=hel k (by omega)
      rw[List.getElem?_eq_getElem (by omega)]at hx1
      obtain⟨a2,r2⟩:=ih e l hl _ _ _ hx1;refine⟨a1++a2,?_⟩
      have:=r1.append r2
      rw[Nat.succ_mul,List.take_add,List.replicate_succ',List.flatten_concat];exact this
    obtain⟨avs,hr⟩:=key n (Nat.le_refl _);exact⟨avs,by rw[List.take_of_length_le (by omega)]at hr;exact hr⟩
   ·cases h
  ·cases h
theorem Rh{W:World}{b:Nat}{t:TypeId}{v:Value}{d:DataW H}{ps:List MemPlace}{l:List Ty}(hl:oq P 12 t=some l)(hok:Value.okWide P W .any b t v)(h:DataW.Trod enc P W 0 (fun _=>true) true t v d ps):
  ∃x:AV,Den (fun k=>k<W.heap.size) W v x/\(∀y∈AV.cells x,AVok y)/\(Bool.rec (motive:=fun _=>Bool) (x.oneB l) (x.aggB l) (mI P t))=true:=by
 obtain⟨fuel,hf⟩:=h;obtain⟨avs,r1,r2,r3,r4⟩:=Q3 12 t l hl _ _ _ hf;have eqt:∀ts:List Ty,su ts ts=true:=by
  have eqb:∀t:Ty,t.eqb t=true:=by
   intro t;induction t with
   |sl r ih=>exact ih
   |cons a b ih1 ih2=>show(Ty.eqb a a&&Ty.eqb b b)=true;rw[ih1,ih2];rfl
   |_=>rfl
  intro ts;induction ts with
  |nil=>rfl
  |cons t ts ih=>show(Ty.eqb t t&&su ts ts)=true;rw[eqb,ih];rfl
 have agg:mI P t=true->(∃fs,P.underlying t=some (.struct fs))\/∃n e,P.underlying t=some (.array n e):=fun h=>by
  unfold mI at h;split at h
  ·exact .inl ⟨_,‹_›⟩
  ·exact .inr ⟨_,_,‹_›⟩
  ·cases h
 cases ha:mI P t with
 | true=>
  have hv:∃cs,v=.agg cs:=by
   rcases agg ha with⟨fs,ht⟩|⟨n,e,ht⟩
   ·simp only[Value.okWide,ht]at hok
    obtain⟨cs,h1,_⟩:=hok;exact⟨cs,h1⟩
   ·simp only[Value.okWide,ht]at hok
    obtain⟨cs,h1,_⟩:=hok;exact⟨cs,h1⟩
  obtain⟨cs,rfl⟩:=hv;refine⟨.agg avs,?_,r4,?_⟩
  ·have:=Den.agg (S:=fun k=>k<W.heap.size) (w:=W) cs.toList avs (by
    have:cs.toList.length=l.length:=r1
    rw[this,<-r2,List.length_map]) (fun i v x h1 h2=>r3 i v x h1 h2)
   simpa using this
  ·show su (avs.map AV.ty) l=true
   rw[r2];exact eqt l
 | false=>
  have single:∃c:Value,aW v=true->v.cells=#[v]:=⟨v,sC⟩
  have hp:aW v=true:=by
   unfold oq at hl;split at hl
   ·rename_i ht;obtain⟨b,rfl⟩:=okWide_bool ht hok;rfl
   ·rename_i ht;obtain⟨n,rfl,_⟩:=Qf ht hok ⟨fuel,hf⟩;rfl
   ·rename_i ht;obtain⟨s,rfl,_⟩:=Nv ht hok ⟨fuel,hf⟩;rfl
   ·rename_i e ht;obtain⟨a,len,cap,rfl⟩:=okWide_slice ht hok;rfl
   ·rename_i fs ht;unfold mI at ha;rw[ht]at ha;cases ha
   ·rename_i n e ht;unfold mI at ha;rw[ht]at ha;cases ha
   ·cases hl
  have hcs:v.cells.toList=[v]:=by rw[sC hp]
  have r1:v.cells.toList.length=l.length:=r1
  rw[hcs]at r1;have hav:avs.length=1:=by rw[<-List.length_map (f:=AV.ty),r2,<-r1];rfl
  match avs,hav with
  | [x],_=>
   have hd:=r3 0 v x (by show v.cells.toList[0]?=_;rw[hcs];rfl) rfl
   have hok:=r4 x (List.mem_cons_self ..);have hty:[x.ty]=l:=r2
   subst hty;refine⟨x,hd,fun y hy=>?_,?_⟩
   ·cases hok<;>(unfold AV.cells at hy;rw[List.mem_singleton]at hy;rw[hy];exact r4 _ (List.mem_cons_self ..))
   ·show x.oneB [x.ty]=true
    cases hok with
    |int n h=>exact eqt [.int]
    |bool b=>exact eqt [.bool]
    |raw s h=>exact eqt [.raw]
    |sl t l h _ _=>exact eqt [.sl t]
theorem Nk{W:World}{b:Nat}:∀(ts:List TypeId) (qs:Ps) {vs:List Value} {ds:List (DataW H)} {ps:List MemPlace},Lm P ts=some qs->DataW.TrodAll enc P W 0 (fun _=>true) true ts vs ds ps →
  (∀(j:Nat) t v,ts[j]?=some t->vs[j]?=some v->Value.okWide P W .any b t v) →
  ∃xs:List AV,vs.length=xs.length/\(∀(i:Nat) v x,vs[i]?=some v->xs[i]?=some x->Den (fun k=>k<W.heap.size) W v x)/\(∀x∈xs,∀y∈AV.cells x,AVok y)/\pz qs xs=true
 |[],qs,vs,ds,ps,hq,h,_=>by
  cases hq
  obtain⟨rfl,rfl,rfl⟩:=trodAll_nil h;exact⟨[],rfl,(fun i v x h=>by simp at h),(fun x h=>by cases h),rfl⟩
 | t::ts,qs,vs,ds,ps,hq,h,hv=>by
  obtain⟨v,vs1,d,ds1,a1,b1,rfl,rfl,rfl,h1,h2⟩:=trodAll_cons h;unfold Lm at hq;obtain⟨l,hl,hq⟩:=Option.bind_eq_some_iff.1 hq;obtain⟨qs',hq',rfl⟩:=Option.map_eq_some_iff.1 hq;obtain⟨xs,e1,e2,e3,e4⟩:=Nk ts qs' hq' h2 (fun j t v hj hv'=>hv (j+1) t v hj hv')
  obtain⟨x,f1,f2,f3⟩:=Rh hl (hv 0 t v rfl rfl) h1;refine⟨x::xs,by simp[e1],fun i u y hu hy=>?_,fun y hy=>?_,?_⟩
  ·cases i with
   |zero=>cases hu;cases hy;exact f1
   |succ i=>exact e2 i u y hu hy
  ·rcases List.mem_cons.1 hy with rfl|hy
   ·exact f2
   ·exact e3 y hy
  ·show(and (Bool.rec (motive:=fun _=>Bool) (x.oneB l) (x.aggB l) (mI P t)) (pz qs' xs))=true
   rw[f3,e4];rfl
theorem BF{W:World}:∀(ts:List TypeId) {vs:List Value} {ds:List (DataW H)} {ps:List MemPlace},DataW.TrodAll enc P W 0 (fun _=>true) true ts vs ds ps->ds.length=ts.length
 |[],_,_,_,h=>by
  obtain⟨_,rfl,_⟩:=trodAll_nil h;rfl
 |t::ts,_,_,_,h=>by
  obtain⟨v,vs1,d,ds1,a,b,_,rfl,_,_,h2⟩:=trodAll_cons h;simp[BF ts h2]
def O3:(ts:List Ty)->bm ts->Prop:=fun ts s=>∀x∈gj ts s,AVok x
theorem LE{f:Nat}{F:FnT}(hF:F.ok P f){W:World}{b:Nat}{ts:List TypeId}{vs:List Value}{ds:List (DataW H)}{ps:List MemPlace}(hq:Lm P ts=some F.ps)(h:DataW.TrodAll enc P W 0 (fun _=>true) true ts vs ds ps)
  (hv:∀(j:Nat) t v,ts[j]?=some t->vs[j]?=some v->Value.okWide P W .any b t v)
  (hlaw:∀s:bm (Ps.tys F.ps),O3 (Ps.tys F.ps) s->∃n z,F.fn n s=some z/\pw F.sh z=.b true):Calls P f vs.toArray W fun e w'=>e=.returned (.bool true)/\Below W.heap.size W w':=by
 obtain⟨xs,e1,e2,e3,e4⟩:=Nk ts F.ps hq h hv;obtain⟨c1,c2⟩:=AU F.ps xs e4;have hcells:∀y∈dU xs,AVok y:=fun y hy=>by
  rw[FV,List.mem_flatMap]at hy;obtain⟨x,hx,hy⟩:=hy;exact e3 x hx y hy
 obtain⟨n,z,h1,h2⟩:=hlaw (eQ (Ps.tys F.ps) (dU xs)) (fun x hx=>by rw[ET c2]at hx;exact hcells x hx)
 have hc:=hF n _ z h1;rw[Ig e4,h2]at hc;exact M0 hc rfl ⟨by simpa using e1,fun i v x h1 h2=>e2 i v x (by simpa using h1) h2⟩
end
end Go.Sx
namespace Go.Proofs.YtgckmifmjiklmaaGreat
open Go Go.Sx Go.Dial.Blk Go.Dial.Mrg
def nk(at_:Int)(r:Int×Int×Int×Int×Int×Int×Int×Int):Prop:=(1<=r.1/\r.1<=4)/\at_<=r.2.1/\r.2.1<=at_+4/\ -200<=r.2.2.2.2.2.2.2/\r.2.2.2.2.2.2.2<=200
theorem tm8{x:Int}(h:0<=x):0<=Int.tmod (x+1) 8/\Int.tmod (x+1) 8<=7:=by
 have:=A3 (a:=x+1) (k:=8) (by omega) (by decide)
 omega
theorem Qa(n:Nat){s t x5 x6 k d A B z:Int}(s0:0<=s)(s1:s<=255)(h5:ae x5)(h6:ae x6)(k0:0<=k)(k1:k<=3)(d0:0<=d)(d1:d<=4)(z0:0<=z)(z1:z<=7)(hn:20<n):
  Ok (nk t) (aa (fun go0 q=>lY n go0 s t x5 x6 k d A B q.1 q.2) n ((0,z):a8)):=by
 have b6:=aY x6 (k:=401) (by decide)
 refine dE (fun q=>∃(i:Nat) (y:Int),q=((i:Int),y)/\i<=8/\0<=y/\y<=7) (fun q=>8-q.1.toNat) _ ?_ n _ ⟨0,z,rfl,by omega,z0,z1⟩ (by first|omega|(simp only;omega))
 rintro _ go ⟨i,y,rfl,hi,y0,y1⟩ ih;simp only at ih⊢
 unfold lY;have hgo:i<8->Ok (nk t) (go ((i:Int)+1,Int.tmod (y+1) 8)):=fun h=>ih _ ⟨i+1,_,rfl,by omega,(tm8 y0).1,(tm8 y0).2⟩ (by first|omega|(simp only;omega))
 rw[m9 n h5 h6,Option.bind_some,a7 n h6 (by decide),Option.bind_some,cM s0 s1 y0 y1]
 refine oF (fun h8=>oF (fun hz=>hO (by omega) (by omega) (hO (by omega) (by omega) (hgo (by omega)))) (fun hz=>hN y0 (oBN (fun _=>?_) (fun _=>hO (by omega) (by omega) (hO (by omega) (by omega) (hgo (by omega))))))) (fun h8=>?_)
 ·exact hO (by omega) (by omega) (hD ⟨⟨(by omega:1<=1+k),(by omega:1+k<=4)⟩,(by omega:t<=t+d),(by omega:t+d<=t+4),(by omega: -200<=pk x6 401-200),(by omega:pk x6 401-200<=200)⟩)
 ·exact hO (by omega) (by omega) (hD ⟨⟨(by omega:1<=1+k),(by omega:1+k<=4)⟩,(by omega:t<=t+d),(by omega:t+d<=t+4),(by omega: -200<=pk x6 401-200),(by omega:pk x6 401-200<=200)⟩)
theorem QV(n:Nat){s t x5 x6 k d A B z:Int}(s0:0<=s)(s1:s<=255)(h5:ae x5)(h6:ae x6)(k0:0<=k)(k1:k<=3)(d0:0<=d)(d1:d<=4)(z0:0<=z)(z1:z<=7)(hn:20<n):
  Ok (nk t) (aa (fun go0 q=>l9 n go0 s t x5 x6 k d A B q.1 q.2) n ((0,z):a8)):=by
 have b6:=aY x6 (k:=401) (by decide)
 refine dE (fun q=>∃(i:Nat) (y:Int),q=((i:Int),y)/\i<=8/\0<=y/\y<=7) (fun q=>8-q.1.toNat) _ ?_ n _ ⟨0,z,rfl,by omega,z0,z1⟩ (by first|omega|(simp only;omega))
 rintro _ go ⟨i,y,rfl,hi,y0,y1⟩ ih;simp only at ih⊢
 unfold l9;have hgo:i<8->Ok (nk t) (go ((i:Int)+1,Int.tmod (y+1) 8)):=fun h=>ih _ ⟨i+1,_,rfl,by omega,(tm8 y0).1,(tm8 y0).2⟩ (by first|omega|(simp only;omega))
 have hend:∀a b c d' e f:Int,-200<=f->f<=200->nk t (1+k,t+d,a,b,c,d',e,f):=fun a b c d' e f f0 f1=>⟨⟨(by omega:1<=1+k),(by omega:1+k<=4)⟩,(by omega:t<=t+d),(by omega:t+d<=t+4),f0,f1⟩
 rw[m9 n h5 h6,Option.bind_some,a7 n h6 (by decide),Option.bind_some,cM s0 s1 y0 y1]
 have hfin:Ok (nk t) (bif !((1+k)=3)then(bif (1+k)=1 then some ((1+k),(t+d),A,B,0,0,0,0)else(bif (1+k)=4 then some ((1+k),(t+d),A,0,0,0,0,0)else some ((1+k),(t+d),A,B,0,(il x5 x6).1,(il x5 x6).2,(pk x6 401-200))))else some ((1+k),(t+d),A,B,y,(il x5 x6).1,(il x5 x6).2,(pk x6 401-200))):=
  oN (fun _=>hD (hend _ _ _ _ _ _ (by omega) (by omega))) (fun _=>oF (fun _=>hD (hend _ _ _ _ _ _ (by omega) (by omega))) (fun _=>oF (fun _=>hD (hend _ _ _ _ _ _ (by omega) (by omega))) (fun _=>hD (hend _ _ _ _ _ _ (by omega) (by omega)))))
 refine oF (fun h8=>oF (fun hz=>hO (by omega) (by omega) (hO (by omega) (by omega) (hgo (by omega)))) (fun hz=>hN y0 (oBN (fun _=>?_) (fun _=>hO (by omega) (by omega) (hO (by omega) (by omega) (hgo (by omega))))))) (fun h8=>?_)
 ·exact hO (by omega) (by omega) hfin
 ·exact hO (by omega) (by omega) hfin
theorem RA(n:Nat){s e t x5 x6 k d A z0 z1:Int}(s0:0<=s)(s1:s<=255)(e0:0<=e)(e1:e<=255)(h5:ae x5)(h6:ae x6)(k0:0<=k)(k1:k<=3)(d0:0<=d)(d1:d<=4)(y0:0<=z0)(y1:z0<=7)(y2:0<=z1)(y3:z1<=7)(hn:20<n):
  Ok (nk t) (aa (fun go0 q=>so n go0 s e t x5 x6 k d A z1 q.1 q.2) n ((0,z0):a8)):=by
 refine dE (fun q=>∃(i:Nat) (y:Int),q=((i:Int),y)/\i<=8/\0<=y/\y<=7) (fun q=>8-q.1.toNat) _ ?_ n _ ⟨0,z0,rfl,by omega,y0,y1⟩ (by first|omega|(simp only;omega))
 rintro _ go ⟨i,y,rfl,hi,y0,y1⟩ ih;simp only at ih⊢
 unfold so;have hgo:i<8->Ok (nk t) (go ((i:Int)+1,Int.tmod (y+1) 8)):=fun h=>ih _ ⟨i+1,_,rfl,by omega,(tm8 y0).1,(tm8 y0).2⟩ (by first|omega|(simp only;omega))
 refine oF (fun h8=>oF (fun hz=>hO (by omega) (by omega) (hO (by omega) (by omega) (hgo (by omega)))) (fun hz=>hN y0 (oBN (fun _=>Qa n s0 s1 h5 h6 k0 k1 d0 d1 y2 y3 hn) (fun _=>hO (by omega) (by omega) (hO (by omega) (by omega) (hgo (by omega))))))) (fun h8=>Qa n s0 s1 h5 h6 k0 k1 d0 d1 y2 y3 hn)
theorem Rx(n:Nat){s t x5 x6 k d A z0 z1:Int}(s0:0<=s)(s1:s<=255)(h5:ae x5)(h6:ae x6)(k0:0<=k)(k1:k<=3)(d0:0<=d)(d1:d<=4)(y0:0<=z0)(y1:z0<=7)(y2:0<=z1)(y3:z1<=7)(hn:20<n):
  Ok (nk t) (aa (fun go0 q=>sp n go0 s t x5 x6 k d A z1 q.1 q.2) n ((0,z0):a8)):=by
 refine dE (fun q=>∃(i:Nat) (y:Int),q=((i:Int),y)/\i<=8/\0<=y/\y<=7) (fun q=>8-q.1.toNat) _ ?_ n _ ⟨0,z0,rfl,by omega,y0,y1⟩ (by first|omega|(simp only;omega))
 rintro _ go ⟨i,y,rfl,hi,y0,y1⟩ ih;simp only at ih⊢
 unfold sp;have hgo:i<8->Ok (nk t) (go ((i:Int)+1,Int.tmod (y+1) 8)):=fun h=>ih _ ⟨i+1,_,rfl,by omega,(tm8 y0).1,(tm8 y0).2⟩ (by first|omega|(simp only;omega))
 refine oF (fun h8=>oF (fun hz=>hO (by omega) (by omega) (hO (by omega) (by omega) (hgo (by omega)))) (fun hz=>hN y0 (oBN (fun _=>QV n s0 s1 h5 h6 k0 k1 d0 d1 y2 y3 hn) (fun _=>hO (by omega) (by omega) (hO (by omega) (by omega) (hgo (by omega))))))) (fun h8=>QV n s0 s1 h5 h6 k0 k1 d0 d1 y2 y3 hn)
theorem Qk(n:Nat)(go){s e t x5 x6 k d A z0 z1:Int}(s0:0<=s)(s1:s<=255)(e0:0<=e)(e1:e<=255)(h5:ae x5)(h6:ae x6)(k0:0<=k)(k1:k<=3)(d0:0<=d)(d1:d<=4)(y0:0<=z0)(y1:z0<=7)(y2:0<=z1)(y3:z1<=7)(hn:20<n):
  Ok (nk t) (mg n go s e t x5 x6 k d A z0 z1):=by
 unfold mg;exact oF (fun _=>RA n s0 s1 e0 e1 h5 h6 k0 k1 d0 d1 y0 y1 y2 y3 hn) (fun _=>Rx n s0 s1 h5 h6 k0 k1 d0 d1 y0 y1 y2 y3 hn)
theorem Kw(n:Nat){s e:Int}(bl ba le:Lv)(t x0 x1 x2 x3 x4 x5 x6:Int)(s0:0<=s)(s1:s<=255)(e0:0<=e)(e1:e<=255)(t0:0<=t)(t1:t<=1000000)(h0:ae x0)(h1:ae x1)(h2:ae x2)(h3:ae x3)(h4:ae x4)(h5:ae x5)(h6:ae x6)(hn:20<n):
  Ok (nk t) (qo n s e bl ba le t x0 x1 x2 x3 x4 x5 x6):=by
 have b0:=aY x0 (k:=4) (by decide)
 have b1:=aY x1 (k:=5) (by decide)
 have b2:=aY x2 (k:=8) (by decide)
 have b3:=aY x3 (k:=8) (by decide)
 have b4:=aY x4 (k:=8) (by decide)
 unfold qo Bl;rw[a7 n h0 (by decide),Option.bind_some,a7 n h1 (by decide),Option.bind_some,a7 n h2 (by decide),Option.bind_some]
 refine hO (by omega) (by omega) (hO (by omega) (by omega) ?_)
 refine dE (fun q=>∃(i:Nat) (y:Int),q=((i:Int),y)/\i<=8/\0<=y/\y<=7) (fun q=>8-q.1.toNat) _ ?_ n _ ⟨0,_,rfl,by omega,b2.1,by omega⟩ (by first|omega|(simp only;omega))
 rintro _ go ⟨i,y,rfl,hi,y0,y1⟩ ih;simp only at ih⊢
 unfold BW;rw[a7 n h3 (by decide),Option.bind_some,a7 n h4 (by decide),Option.bind_some]
 refine oF (fun h8=>hN y0 ?_) (fun h8=>Qk n go s0 s1 e0 e1 h5 h6 b0.1 (by omega) b1.1 (by omega) b3.1 (by omega) b4.1 (by omega) hn)
 unfold BC;rw[a7 n h3 (by decide),Option.bind_some,a7 n h4 (by decide),Option.bind_some,cM s0 s1 y0 y1]
 exact oBN (fun _=>Qk n go s0 s1 e0 e1 h5 h6 b0.1 (by omega) b1.1 (by omega) b3.1 (by omega) b4.1 (by omega) hn)
  (fun _=>hO (by omega) (by omega) (hO (by omega) (by omega) (ih _ ⟨i+1,_,rfl,by omega,(tm8 y0).1,(tm8 y0).2⟩ (by first|omega|(simp only;omega)))))
theorem Jr(n:Nat){v0 v1 v2:Int}(h0:ae v0)(h1:ae v1)(h2:ae v2)(xs ys:List (Int×Int×Int))(hx:∀x∈xs,ae x.1/\ae x.2.1/\ae x.2.2)(hy:∀x∈ys,ae x.1/\ae x.2.1/\ae x.2.2)(hn:220<n):
  Ok (fun r=>∃(w:Wd) (ds:List (Int×Int×Int)),r=(w.al,w.ev,bL w.bl,iL w.ba,iL w.le,ds.map bG)/\MadeW w/\w.ba=bY ds/\ds.length<=12/\∀d∈ds,mN w.al d) (kl n v0 v1 v2 (xs.map bG) (ys.map bG)):=by
 have b0:=aY v0 (k:=255) (by decide)
 unfold kl At;rw[kL n h0 (by decide),Option.bind_some]
 refine hO (by omega) (by omega) ?_
 obtain⟨_,e1,ds,rfl,hl,hd⟩:=Ky n (s:=1+pk v0 255) (by omega) (by omega) ys hy (by omega)
 rw[e1,Option.bind_some];obtain⟨_,e2,w,rfl,hw,hb,ha⟩:=Jf n h0 h1 h2 xs hx ds hl hd hn;rw[e2,Option.bind_some];exact hD ⟨w,ds,rfl,hw,hb,hl,by rw[ha];exact hd⟩
theorem Rn{α:Type}{l:List α}(h:l.length=3):∃a b c,l=[a,b,c]:=by
 match l,h with
 |[a,b,c],_=>exact⟨a,b,c,rfl⟩
theorem Rj{r:List AV}(h:r.map AV.ty=[.int,.int,.int])(hok:∀x∈r,AVok x):∃x:Int×Int×Int,r=bG x/\ae x.1/\ae x.2.1/\ae x.2.2:=by
 obtain⟨a,b,c,rfl⟩:=Rn (l:=r) (by have:=congrArg List.length h;simpa using this)
 simp only[List.map_cons,List.map_nil,List.cons.injEq,and_true]at h;obtain⟨a,rfl,h1⟩:=(hok a (by simp)).i h.1
 obtain⟨b,rfl,h2⟩:=(hok b (by simp)).i h.2.1
 obtain⟨c,rfl,h3⟩:=(hok c (by simp)).i h.2.2
 exact⟨(a,b,c),rfl,h1,h2,h3⟩
theorem AI{α:Type}{f:α->List AV}{Q:α->Prop}:∀ {l:Lv},(∀r∈l,∃x,r=f x/\Q x)->∃xs:List α,l=xs.map f/\∀x∈xs,Q x
 |[],_=>⟨[],rfl,fun x h=>by cases h⟩
 | r::l,h=>by
  obtain⟨x,rfl,hx⟩:=h r (List.mem_cons_self ..);obtain⟨xs,rfl,hxs⟩:=AI (l:=l) fun r hr=>h r (List.mem_cons_of_mem _ hr)
  exact⟨x::xs,rfl,fun y hy=>by
   rcases List.mem_cons.1 hy with rfl|hy
   ·exact hx
   ·exact hxs y hy⟩
theorem A6{l:Lv}{t:Ty}(ht:t.list=[.int,.int,.int])(h:AVok (.sl t l)):∃xs:List (Int×Int×Int),l=xs.map bG/\∀x∈xs,ae x.1/\ae x.2.1/\ae x.2.2:=by
 cases h with
 |sl _ _ _ hty hr=>exact AI fun r hm=>Rj (by rw[hty r hm,ht]) (hr r hm)
theorem ca{n:Int}(h:AVok (.int n)):ae n:=by
 cases h with
 |int _ h=>exact h
abbrev evR(e:Ev):List AV:=[.int e.k,.int e.at_,.int e.a,.int e.b,.int e.c,.int e.f,.int e.t,.int e.m]
abbrev evL(l:List Ev):Lv:=l.map evR
theorem nY{l:List Ev}{i:Nat}{e:Ev}(h:l[i]?=some e):cI (evL l) (i:Int) 0=e.k/\cI (evL l) (i:Int) 1=e.at_/\cI (evL l) (i:Int) 2=e.a/\cI (evL l) (i:Int) 3=e.b/\cI (evL l) (i:Int) 4=e.c/\cI (evL l) (i:Int) 5=e.f/\cI (evL l) (i:Int) 6=e.t/\cI (evL l) (i:Int) 7=e.m:=by
 have hc:∀k,cA (evL l) (i:Int) k=(evR e).getD k (.int 0):=fun k=>bv (by simpa using h)
 refine⟨?_,?_,?_,?_,?_,?_,?_,?_⟩<;>(simp only[cI,hc];rfl)
theorem ku(l:List Ev):(evL l).length=l.length:=by simp
theorem tv:∀(l:List Ev),Srt l↔∀(k:Nat) a b,l[k]?=some a->l[k+1]?=some b->a.at_<=b.at_
 |[]=>⟨fun _ k a b h=>by simp at h,fun _=>trivial⟩
 |[x]=>⟨fun _ k a b h h2=>by simp at h2,fun _=>trivial⟩
 | x::y::l=>by
  show(x.at_<=y.at_/\Srt (y::l))↔_
  rw[tv (y::l)];constructor
  ·rintro ⟨h1,h2⟩ k a b ha hb
   cases k with
   |zero=>simp at ha hb;rw[<-ha,<-hb];exact h1
   |succ k=>exact h2 k a b (by simpa using ha) (by simpa using hb)
  ·intro h
   exact⟨h 0 x y rfl rfl,fun k a b ha hb=>h (k+1) a b (by simpa using ha) (by simpa using hb)⟩
def AP:Option Wd×Nat->Int×Int×Lv×Lv×Lv×Int×Int
 |(some v,j)=>(v.al,v.ev,bL v.bl,iL v.ba,iL v.le,(j:Int),0)
 |(none,j)=>(0,0,([]:Lv),([]:Lv),([]:Lv),(j:Int),420)
theorem noR{w:Wd}{l:List Ev}(h:¬RunOk w l):(some (0,0,([]:Lv),([]:Lv),([]:Lv),0,420):Option (Int×Int×Lv×Lv×Lv×Int×Int))=some (AP (iu w l)):=by
 unfold iu;rw[if_neg h];rfl
theorem KF(n:Nat)(w:Wd)(ha:ae w.al)(l:List Ev)(hl:l.length<=1000000)(hn:100000001<n):dS n w.al w.ev (bL w.bl) (iL w.ba) (iL w.le) (evL l)=some (AP (iu w l)):=by
 unfold dS BP;rw[gJ n w ha (by omega),Option.bind_some]
 refine cBN (fun hv=>?_) (fun h=>noR fun p=>by rw[eJ p.v]at h;cases h)
 have hw:=vB_iff.1 hv;rw[ku];by_cases h20:(20:Int)<(l.length:Int)
 ·rw[decide_eq_true h20];exact noR fun p=>by have:=p.few;omega
 rw[decide_eq_false h20,cond_false];refine gO (by omega) (by omega) ?_
 have fin:Srt l->(aI n (bL w.bl)).bind (fun y8=>(aC n (iL w.ba)).bind fun y9=>(aC n (iL w.le)).bind fun y10=>
   (aa (fun go0 s=>sE n go0 (evL l) s.1 s.2.1 s.2.2.1 s.2.2.2.1 s.2.2.2.2.1 s.2.2.2.2.2) n ((0,w.al,w.ev,y8,y9,y10):pY)))=some (AP (iu w l)):=fun hs=>by
  rw[uh n _ hw.few,Option.bind_some,gT n _ hw.bal,Option.bind_some,gT n _ hw.lel,Option.bind_some];have hE:iu w l=bE w l 0:=by unfold iu;rw[if_pos ⟨hw,by omega,hs⟩]
  rw[hE];refine ar (fun s=>∃(i:Nat) (u:Wd),s=((i:Int),u.al,u.ev,bL u.bl,iL u.ba,iL u.le)/\i<=l.length/\WV u/\bE u (l.drop i) i=bE w l 0) (fun s=>l.length-s.1.toNat) _ ?_ n _ ⟨0,w,rfl,by omega,hw,rfl⟩ (by first|omega|(simp only;omega))
  rintro _ go ⟨i,u,rfl,hi,hu,hE⟩ ih;simp only at ih⊢
  unfold sE;by_cases hlt:i<l.length
  ·obtain⟨e,he⟩:=aD hlt
   obtain⟨g0,g1,g2,g3,g4,g5,g6,g7⟩:=nY he;rw[ku];refine cF (fun _=>gN (by omega) ?_) (fun h=>by omega)
   rw[g0,g1,g2,g3,g4,g5,g6,g7,IP n u hu e hn,Option.bind_some];rw[kS he,bE]at hE;cases hs:ew u e with
   |none=>
    rw[hs]at hE;rw[<-hE];exact cN (fun h=>absurd h (by decide)) (fun _=>rfl)
   |some v=>
    rw[hs]at hE;obtain⟨hp,_⟩:=i9 hs;have hv2:WV v:=by rw[(i9 hs).2];exact hp.v2
    refine cN (fun _=>gO (by omega) (by omega) ?_) (fun h=>absurd rfl h)
    exact ih _ ⟨i+1,v,rfl,by omega,hv2,hE⟩ (by first|omega|(simp only;omega))
  ·have hi2:i=l.length:=by omega
   subst hi2;rw[ku];refine cF (fun h=>by omega) (fun _=>?_)
   rw[List.drop_length,bE]at hE;rw[<-hE];rfl
 refine ar (fun s=>s<(l.length:Int)/\ -1<=s/\∀(k:Nat) a b,s<=(k:Int)->l[k]?=some a->l[k+1]?=some b->a.at_<=b.at_) (fun s=>(s+1).toNat) _ ?_ n _ ⟨by omega,by omega,fun k a b hk h1 h2=>by have:=(List.getElem?_eq_some_iff.1 h2).1;omega⟩ (by first|omega|(simp only;omega))
 rintro s go ⟨h1,h2,hs⟩ ih;unfold BI;refine cF (fun hp=>?_) (fun hp=>?_)
 ·obtain⟨i,rfl⟩:∃i:Nat,s=((i+1:Nat):Int):=⟨(s-1).toNat,by omega⟩
  obtain⟨b,hb⟩:=aD (l:=l) (i:=i+1) (by omega)
  obtain⟨a,hA⟩:=aD (l:=l) (i:=i) (by omega)
  have gb:=(nY hb).2.1;have ga:=(nY hA).2.1;have e1:((i+1:Nat):Int)-1=(i:Int):=by omega
  rw[ku,e1,gb,ga];refine gN (by omega) (gN (by omega) (gO (by omega) (by omega) (gN (by omega) (gN (by omega) (cF (fun hlt=>noR fun p=>?_) (fun hge=>?_))))))
  ·have:=(tv l).1 p.srt i a b hA hb;omega
  ·have hgo:go ((i:Int))=some (AP (iu w l)):=ih _ ⟨by omega,by omega,fun k x y hk hx hy=>by
    by_cases hki:k=i
    ·subst hki;rw[hA]at hx;rw[hb]at hy;cases hx;cases hy;omega
    ·exact hs k x y (by omega) hx hy⟩ (by omega)
   rw[hgo];cases decide (a.at_<b.at_)<;>rfl
 ·exact fin ((tv l).2 fun k a b h3 h4=>hs k a b (by omega) h3 h4)
theorem mA(n:Nat)(w:Wd)(ha:ae w.al)(l:List Ev)(hl:l.length<=1000000)(t:Int)(hn:100000001<n):Ok (fun r=>r=true↔Dial.Mrg.Good w l/\0<=t/\t<=20000000) (dG n w.al w.ev (bL w.bl) (iL w.ba) (iL w.le) (evL l) t):=by
 unfold dG mj;rw[KF n w ha l hl hn,Option.bind_some];cases hr:iu w l with
 | mk o j=>
  cases o with
  |none=>
   refine oF (fun h=>absurd h (by show ¬(420:Int)=0;decide)) (fun _=>hD ⟨(fun h=>by cases h),fun h=>?_⟩)
   rw[Aq h.1]at hr;cases hr
  |some v=>
   refine oF (fun _=>oF (fun h0=>hD ?_) (fun h0=>hD ⟨(fun h=>by cases h),fun h=>absurd h.2.1 h0⟩)) (fun h=>absurd rfl h)
   rw[decide_eq_true_eq];exact⟨fun h=>⟨FS hr,h0,h⟩,fun h=>h.2.2⟩
theorem jk(n:Nat)(l:List Ev)(hl:l.length<=1000000)(hf:∀e∈l,Frm e)(c k t:Int)(hn:1000001<n):dZ n (evL l) c k t=some (gZ (untl l t) k c):=by
 unfold dZ nI;refine ar (fun s=>∃(i:Nat) (x:Int),s=((i:Int),x)/\i<=l.length/\gZ (untl (l.drop i) t) k x=gZ (untl l t) k c) (fun s=>l.length-s.1.toNat) _ ?_ n _ ⟨0,c,rfl,by omega,rfl⟩ (by first|omega|(simp only;omega))
 rintro _ go ⟨i,x,rfl,hi,hE⟩ ih;simp only at ih⊢
 unfold nK;rw[ku];refine cF (fun hlt=>gN (by omega) ?_) (fun hlt=>?_)
 ·obtain⟨e,he⟩:=aD (l:=l) (i:=i) (by omega)
  obtain⟨g0,g1,g2,g3,g4,g5,g6,g7⟩:=nY he;have hfe:=hf e (List.mem_of_getElem? he);rw[kS he]at hE;rw[g0,g1,g2,g3,g4,g5,g6];refine cF (fun ht=>?_) (fun ht=>?_)
  ·have:untl (e::l.drop (i+1)) t=[]:=by unfold untl;rw[List.takeWhile_cons,decide_eq_false (by omega)];rfl
   rw[this]at hE;rw[<-hE];rfl
  ·have:untl (e::l.drop (i+1)) t=e::untl (l.drop (i+1)) t:=by unfold untl;rw[List.takeWhile_cons,decide_eq_true (by omega)];rfl
   rw[this,mC]at hE;have hgo:∀y,rho e k x=y->(bif(-9223372036854775808<=((i:Int)+1))&&(((i:Int)+1)<=9223372036854775807)then go ((i:Int)+1,y)else none)=some (gZ (untl l t) k c):=fun y hy=>by
    refine gO (by omega) (by omega) (ih _ ⟨i+1,y,rfl,by omega,?_⟩ (by first|omega|(simp only;omega)))
    rw[<-hE,hy]
   have hb:=hfe.bare;have hu:=hfe.full;have hk:=hfe.kind;refine cN (fun hx=>?_) (fun hx=>hgo x (by unfold rho;rw[if_neg (fun h=>hx h.symm)]))
   have ht0:0<=e.t/\e.t<=100000000:=by
    by_cases h:e.k=1\/e.k=4
    ·have:=hb h;omega
    ·have:=hu (by omega);omega
   refine gO (by omega) (by omega) (cF (fun hin=>cF (fun h1=>hgo _ ?_) (fun h1=>cN (fun h4=>hgo _ ?_) (fun h4=>cF (fun h5=>hgo _ ?_) (fun h5=>cF (fun h3=>hgo _ ?_) (fun h3=>hgo _ ?_)))))
    (fun hin=>cF (fun h1=>hgo _ ?_) (fun h1=>cN (fun h4=>hgo _ ?_) (fun h4=>cF (fun h3=>hgo _ ?_) (fun h3=>hgo _ ?_)))))
   all_goals
    unfold rho;rw[if_pos hx.symm];first
     |(rw[if_pos (by omega)])
     |(rw[if_neg (by omega),if_pos (by omega)])
     |(rw[if_neg (by omega),if_neg (by omega)])
 ·rw[List.drop_of_length_le (by omega)]at hE
  rw[<-hE];rfl
def EO:Option Int->Int×Int
 |some x=>(x,0)
 |none=>(0,420)
structure SucOk (w:Wd) (l:List Ev) (c k t:Int):Prop where
 g:Dial.Mrg.Good w l
 t0:0<=t
 t1:t<=20000000
 c0:0<=c
 c1:c<=7
 k0:0<=k
 k1:k<=99999999
noncomputable instance (w:Wd) (l:List Ev) (c k t:Int):Decidable (SucOk w l c k t):=Classical.propDecidable _
noncomputable def jN (w:Wd) (l:List Ev) (c k t:Int):Option Int:=if SucOk w l c k t then some (gZ (untl l t) k c)else none
theorem noS{w:Wd}{l:List Ev}{c k t:Int}(h:¬SucOk w l c k t):(some (0,420):Option (Int×Int))=some (EO (jN w l c k t)):=by
 unfold jN;rw[if_neg h];rfl
theorem jj(n:Nat)(w:Wd)(ha:ae w.al)(l:List Ev)(hl:l.length<=1000000)(c k t:Int)(hn:100000001<n):bi n w.al w.ev (bL w.bl) (iL w.ba) (iL w.le) (evL l) c k t=some (EO (jN w l c k t)):=by
 unfold bi nx;obtain⟨r,h1,h2⟩:=mA n w ha l hl t hn;rw[h1,Option.bind_some];refine cBN (fun hr=>?_) (fun hr=>noS fun p=>by rw[h2.2 ⟨p.g,p.t0,p.t1⟩]at hr;cases hr)
 obtain⟨hg,t0,t1⟩:=h2.1 hr;refine cF (fun c0=>cN (fun c1=>cF (fun k0=>cN (fun k1=>?_) (fun h=>noS fun p=>h p.k1)) (fun h=>noS fun p=>h p.k0)) (fun h=>noS fun p=>h p.c1)) (fun h=>noS fun p=>h p.c0)
 rw[jk n l hl hg.p.forms c k t (by omega),Option.bind_some]
 unfold jN;rw[if_pos ⟨hg,t0,t1,c0,c1,k0,k1⟩];rfl
def clO(number:Int)(rest:Int×Int×Bool):Option (Int×Int)->Int×Int×Int×Int×Int×Bool×Bool
 |some x=>(number,x.1,x.2,rest.1,rest.2.1,rest.2.2,true)
 |none=>(0,0,0,0,0,false,false)
noncomputable def clW (w:Wd) (l:List Ev) (k a b t:Int):Option (Int×Int):=
 match jN w l a k t,jN w l b k t with
 |some x,some y=>if x=y then none else some (x,y)
 |_,_=>none
theorem noC{w:Wd}{l:List Ev}{k a b t:Int}{rest}(h:¬(SucOk w l a k t/\SucOk w l b k t)):(some (0,0,0,0,0,false,false):Option (Int×Int×Int×Int×Int×Bool×Bool))=some (clO k rest (clW w l k a b t)):=by
 have:clW w l k a b t=none:=by
  unfold clW jN;by_cases h1:SucOk w l a k t
  ·rw[if_pos h1,if_neg (fun h2=>h ⟨h1,h2⟩)]
  ·rw[if_neg h1]
 rw[this];rfl
theorem wG(n:Nat)(w:Wd)(ha:ae w.al)(l:List Ev)(hl:l.length<=1000000)(k a b x y:Int)(z:Bool)(t:Int)(hn:100000001<n):cf n w.al w.ev (bL w.bl) (iL w.ba) (iL w.le) (evL l) k a b x y z t=some (clO k (x,y,z) (clW w l k a b t)):=by
 unfold cf vu;obtain⟨r,h1,h2⟩:=mA n w ha l hl t hn;rw[h1,Option.bind_some];refine cBN (fun hr=>?_) (fun hr=>noC fun p=>by rw[h2.2 ⟨p.1.g,p.1.t0,p.1.t1⟩]at hr;cases hr)
 obtain⟨hg,t0,t1⟩:=h2.1 hr;refine cF (fun c0=>cN (fun c1=>cF (fun d0=>cN (fun d1=>cF (fun k0=>cN (fun k1=>?_) (fun h=>noC fun p=>h p.1.k1)) (fun h=>noC fun p=>h p.1.k0)) (fun h=>noC fun p=>h p.2.c1)) (fun h=>noC fun p=>h p.2.c0)) (fun h=>noC fun p=>h p.1.c1)) (fun h=>noC fun p=>h p.1.c0)
 rw[jk n l hl hg.p.forms a k t (by omega),Option.bind_some,jk n l hl hg.p.forms b k t (by omega),Option.bind_some]
 have e1:jN w l a k t=some (gZ (untl l t) k a):=if_pos ⟨hg,t0,t1,c0,c1,k0,k1⟩
 have e2:jN w l b k t=some (gZ (untl l t) k b):=if_pos ⟨hg,t0,t1,d0,d1,k0,k1⟩
 unfold clW;rw[e1,e2];dsimp only;by_cases he:gZ (untl l t) k a=gZ (untl l t) k b
 ·rw[decide_eq_true he,if_pos he];rfl
 ·rw[decide_eq_false he,if_neg he];rfl
abbrev Sev:=Int×Int×Int×Int×Int×Int×Int
abbrev lK(x:Sev):List AV:=[.int x.1,.int x.2.1,.int x.2.2.1,.int x.2.2.2.1,.int x.2.2.2.2.1,.int x.2.2.2.2.2.1,.int x.2.2.2.2.2.2]
def H8(x:Sev):Prop:=ae x.1/\ae x.2.1/\ae x.2.2.1/\ae x.2.2.2.1/\ae x.2.2.2.2.1/\ae x.2.2.2.2.2.1/\ae x.2.2.2.2.2.2
theorem Rf{α:Type}{l:List α}(h:l.length=7):∃a b c d e f g,l=[a,b,c,d,e,f,g]:=by
 match l,h with
 |[a,b,c,d,e,f,g],_=>exact⟨a,b,c,d,e,f,g,rfl⟩
theorem Q7{α:Type}{l:List α}(h:l.length=8):∃a b c d e f g i,l=[a,b,c,d,e,f,g,i]:=by
 match l,h with
 |[a,b,c,d,e,f,g,i],_=>exact⟨a,b,c,d,e,f,g,i,rfl⟩
theorem Rk{r:List AV}(h:r.map AV.ty=[.int,.int,.int,.int,.int,.int,.int])(hok:∀x∈r,AVok x):∃x:Sev,r=lK x/\H8 x:=by
 obtain⟨a,b,c,d,e,f,g,rfl⟩:=Rf (l:=r) (by have:=congrArg List.length h;simpa using this)
 simp only[List.map_cons,List.map_nil,List.cons.injEq,and_true]at h;obtain⟨k0,k1,k2,k3,k4,k5,k6⟩:=h;obtain⟨a,rfl,h1⟩:=(hok a (by simp)).i k0
 obtain⟨b,rfl,h2⟩:=(hok b (by simp)).i k1
 obtain⟨c,rfl,h3⟩:=(hok c (by simp)).i k2
 obtain⟨d,rfl,h4⟩:=(hok d (by simp)).i k3
 obtain⟨e,rfl,h5⟩:=(hok e (by simp)).i k4
 obtain⟨f,rfl,h6⟩:=(hok f (by simp)).i k5
 obtain⟨g,rfl,h7⟩:=(hok g (by simp)).i k6
 exact⟨(a,b,c,d,e,f,g),rfl,h1,h2,h3,h4,h5,h6,h7⟩
theorem PV{l:Lv}{t:Ty}(ht:t.list=[.int,.int,.int,.int,.int,.int,.int])(h:AVok (.sl t l)):∃xs:List Sev,l=xs.map lK/\∀x∈xs,H8 x:=by
 cases h with
 |sl _ _ _ hty hr=>exact AI fun r hm=>Rk (by rw[hty r hm,ht]) (hr r hm)
theorem Rm{xs:List Sev}{i:Nat}{x:Sev}(h:xs[i]?=some x):cI (xs.map lK) (i:Int) 0=x.1/\cI (xs.map lK) (i:Int) 1=x.2.1/\cI (xs.map lK) (i:Int) 2=x.2.2.1/\cI (xs.map lK) (i:Int) 3=x.2.2.2.1/\cI (xs.map lK) (i:Int) 4=x.2.2.2.2.1/\cI (xs.map lK) (i:Int) 5=x.2.2.2.2.2.1/\cI (xs.map lK) (i:Int) 6=x.2.2.2.2.2.2:=by
 have hc:∀k,cA (xs.map lK) (i:Int) k=(lK x).getD k (.int 0):=fun k=>bv (by simpa using h)
 refine⟨?_,?_,?_,?_,?_,?_,?_⟩<;>(simp only[cI,hc];rfl)
theorem oW(n:Nat)(w:Wd)(h1:w.bl.length<=1000)(h2:w.ba.length<=1000)(h3:w.le.length<=1000):gz n w.al w.ev (bL w.bl) (iL w.ba) (iL w.le)=some (wT w):=by
 unfold gz xD;rw[List.length_map,dB,dB];exact gN (by omega) (gN (by omega) (gN (by omega) rfl))
theorem xO(n:Nat)(w:Wd)(e:Ev)(hn:300<n):lc n w.al w.ev (bL w.bl) (iL w.ba) (iL w.le) e.k e.at_ e.a e.b e.c e.f e.t e.m=some (lw (ew w e)):=by
 unfold lc zr;rw[fe n w (by omega),Option.bind_some]
 unfold z8;refine cBN (fun hv=>?_) (fun hv=>noW fun p=>by rw[eJ p.v]at hv;cases hv)
 have hw:=vB_iff.1 hv;rw[Fn n e,Option.bind_some];unfold yQ;refine cN (fun hf=>gN hf.a0 ?_) (fun hf=>noW fun p=>hf p.f)
 have A0:=hw.a0;have A1:=hw.a1;have il1:((iL w.ba).length:Int)=8:=by rw[dB,hw.bal];rfl
 have il2:((iL w.le).length:Int)=8:=by rw[dB,hw.lel];rfl
 obtain⟨k,at_,a,b,c,f,t,m⟩:=e;have t0:=hf.t0;have t1:=hf.t1;have a0:=hf.a0;have a1:=hf.a1;have b0:=hf.b0;have b1:=hf.b1;have c0:=hf.c0;have c1:=hf.c1;have hfew:=hw.few;dsimp only at t0 t1 a0 a1 b0 b1 c0 c1⊢
 unfold zu;rw[cM A0 A1 a0 a1];refine cBN (fun ha=>?_) (fun h=>noW fun p=>by have:=p.c.a;rw[h]at this;cases this)
 rw[oW n w (by omega) (by rw[hw.bal];decide) (by rw[hw.lel];decide),Option.bind_some]
 dsimp only;have q1:=hw.b0 a a0 a1;have q2:=hw.b0 b b0 b1;have q3:=hw.b0 c c0 c1;unfold zf;refine cF (fun hk=>gN b0 ?_) (fun hk1=>?_)
 ·subst hk
  obtain⟨f0,t0',m0⟩:=hf.bare (.inl rfl);have hc0:=hf.noC (show ¬(1:Int)=3 by decide)
  dsimp only at f0 t0' m0 hc0
  subst f0;subst t0';subst m0;subst hc0;have hab:a≠b:=hf.other (show ¬(1:Int)=4 by decide)
  have hf2:Frm ⟨2,at_,a,b,0,0,100000000,0⟩:=⟨t0,t1,a0,a1,b0,b1,(show(0:Int)<=0 by decide),(show(0:Int)<=7 by decide),(show 1<=(2:Int)/\(2:Int)<=4 by decide),fun h=>by simp at h,fun _=>⟨(show(0:Int)<=0 by decide),(show(0:Int)<100000000 by decide),(show(100000000:Int)<=100000000 by decide),(show -1000000000000<=(0:Int) by decide),(show(0:Int)<=1000000000000 by decide)⟩,fun _=>rfl,fun h=>by simp at h,fun _=>hab,fun h=>by simp at h⟩
  have hh:=yB n w.bl hw.can hw.few hf2 rfl (by omega)
  dsimp only at hh
  have hMr:aZ (fun m=>rho ⟨2,at_,a,b,0,0,100000000,0⟩ m (hold w.bl m))=aZ fun m=>rho ⟨1,at_,a,b,0,0,0,0⟩ m (hold w.bl m):=by
   refine gw ((Ay hf hw.can).congr fun x x0 x1=>?_)
   unfold rho;simp[x0,x1]
  have hM:=Ay hf hw.can;have hsw:(fun m=>rho ⟨1,at_,a,b,0,0,0,0⟩ m (hold w.bl m))=fun m=>swR a b (hold w.bl m):=by
   funext m
   unfold rho swR;simp
  have hlen:(aZ fun m=>rho ⟨1,at_,a,b,0,0,0,0⟩ m (hold w.bl m)).length<=w.bl.length:=by
   rw[hsw];exact eG hw.can (swR a b) (by unfold swR;rw[if_neg (by omega)]) (fx hw.can (f:=a) b0 b1)
  unfold dx at hh;rw[hMr,if_pos (by omega)]at hh
  dsimp only at hh
  rw[hh,Option.bind_some,cM A0 A1 b0 b1,cc hw.bal b0 b1,cc hw.bal a0 a1];refine gN (by omega) (gN (by omega) (gO (by omega) (by omega) (gN (by omega) (gN (by omega) ?_))))
  refine cBN (fun hb=>?_) (fun h=>noW fun p=>by have:=p.c.m rfl;rw[h]at this;cases this)
  dsimp only;refine cN (fun _=>?_) (fun h=>absurd rfl h)
  have e1:(aft w ⟨1,at_,a,b,0,0,0,0⟩).al=IOp.f .andNot w.al (IOp.f .shl 1 a):=by rw[nO A0 A1 a0 a1];rfl
  have e2:(aft w ⟨1,at_,a,b,0,0,0,0⟩).ev=w.ev:=rfl
  have e3:bL (aft w ⟨1,at_,a,b,0,0,0,0⟩).bl=bL (aZ fun m=>rho ⟨1,at_,a,b,0,0,0,0⟩ m (hold w.bl m)):=rfl
  have e4:iL (aft w ⟨1,at_,a,b,0,0,0,0⟩).ba=List.modify (List.modify (iL w.ba) b.toNat (fun r=>r.set 0 (AV.int (g w.ba b+g w.ba a)))) a.toNat (fun r=>r.set 0 (AV.int 0)):=by rw[dF,dF];rfl
  have e5:iL (aft w ⟨1,at_,a,b,0,0,0,0⟩).le=List.modify (iL w.le) a.toNat (fun r=>r.set 0 (AV.int 0)):=by rw[dF];rfl
  have hV:=fe n (aft w ⟨1,at_,a,b,0,0,0,0⟩) (by omega)
  rw[e1,e2,e3,e4,e5]at hV;rw[hV,Option.bind_some];refine cBN (fun h=>?_) (fun h=>noW fun p=>by rw[eJ p.v2]at h;cases h)
  exact Aw ⟨hw,hf,⟨ha,fun _=>hb,fun h=>by simp at h,fun h=>by simp at h,fun h=>by simp at h⟩,vB_iff.1 h⟩ e1 e2 e3 e4 e5
 unfold Ae;refine cF (fun hk=>gN b0 ?_) (fun hk2=>?_)
 ·subst hk
  have hc0:=hf.noC (show ¬(2:Int)=3 by decide)
  dsimp only at hc0
  subst hc0;have hab:a≠b:=hf.other (show ¬(2:Int)=4 by decide)
  obtain⟨f0,f1,f2,m0,m1⟩:=hf.full (.inl rfl);dsimp only at f0 f1 f2 m0 m1
  have hh:=yB n w.bl hw.can hw.few hf rfl (by omega)
  dsimp only at hh
  rw[hh,Option.bind_some,cM hw.e0 hw.e1 b0 b1,cc hw.bal a0 a1,cc hw.lel a0 a1];refine gN (by omega) (gN (by omega) (gO (by omega) (by omega) (gN (by omega) (gN (by omega) (gN (by omega) ?_)))))
  rw[beq_true];refine cBl (fun h=>noW fun p=>by have:=p.c.s rfl;rw[h]at this;cases this) (fun hb=>?_)
  unfold dx;by_cases h40:(aZ fun n=>rho ⟨2,at_,a,b,0,f,t,m⟩ n (hold w.bl n)).length<=40
  case neg=>
   rw[if_neg h40];dsimp only;exact cN (fun h=>absurd h (show ¬(130:Int)=0 by decide)) (fun _=>noW fun p=>h40 p.v2.few)
  rw[if_pos h40];dsimp only;refine cN (fun _=>?_) (fun h=>absurd rfl h)
  have e1:(aft w ⟨2,at_,a,b,0,f,t,m⟩).al=IOp.f .or w.al (IOp.f .shl 1 b):=by rw[DE A0 A1 b0 b1];rfl
  have e2:(aft w ⟨2,at_,a,b,0,f,t,m⟩).ev=IOp.f .or w.ev (IOp.f .shl 1 b):=by rw[DE hw.e0 hw.e1 b0 b1];rfl
  have e3:bL (aft w ⟨2,at_,a,b,0,f,t,m⟩).bl=bL (aZ fun n=>rho ⟨2,at_,a,b,0,f,t,m⟩ n (hold w.bl n)):=rfl
  have e4:iL (aft w ⟨2,at_,a,b,0,f,t,m⟩).ba=List.modify (List.modify (iL w.ba) b.toNat (fun r=>r.set 0 (AV.int m))) a.toNat (fun r=>r.set 0 (AV.int (g w.ba a-m))):=by
   rw[dF,dF];have:(w.ba.set b.toNat m).set a.toNat (g w.ba a-m)=(w.ba.set a.toNat (g w.ba a-m)).set b.toNat m:=List.set_comm _ _ (by omega)
   rw[this];rfl
  have e5:iL (aft w ⟨2,at_,a,b,0,f,t,m⟩).le=List.modify (iL w.le) b.toNat (fun r=>r.set 0 (AV.int (g w.le a))):=by rw[dF];rfl
  have hV:=fe n (aft w ⟨2,at_,a,b,0,f,t,m⟩) (by omega)
  rw[e1,e2,e3,e4,e5]at hV;rw[hV,Option.bind_some];refine cBN (fun h=>?_) (fun h=>noW fun p=>by rw[eJ p.v2]at h;cases h)
  exact Aw ⟨hw,hf,⟨ha,fun h=>by simp at h,fun _=>hb,fun h=>by simp at h,fun h=>by simp at h⟩,vB_iff.1 h⟩ e1 e2 e3 e4 e5
 unfold yo;refine cF (fun hk=>gN b0 ?_) (fun hk3=>?_)
 ·subst hk
  have hab:a≠b:=hf.other (show ¬(3:Int)=4 by decide)
  have hac:a≠c:=hf.third rfl
  obtain⟨f0,f1,f2,m0,m1⟩:=hf.full (.inr rfl);dsimp only at f0 f1 f2 m0 m1
  have hout:=Eh n w.bl hw.can hw.few (x:=a) (y:=b) (z:=c) (f:=f) (t:=t) f1 a0 b0 c0 (by omega)
  have hMo:=PI (x:=a) (y:=b) (z:=c) f1 b0 b1 c0 c1 a0 hw.can;have hG:(fun n=>jQ a b c f t n (hold w.bl n))=fun n=>rho ⟨3,at_,a,b,c,f,t,m⟩ n (hold w.bl n):=by
   funext x
   unfold jQ rho;by_cases hx:hold w.bl x=a
   ·by_cases hr:f<=x/\x<t
    ·simp[hx,hr]
    ·simp[hx,hr]
   ·simp[hx]
  rw[hG]at hMo;have hbl:w.bl.foldl (jn a b c f t) []=aZ fun n=>rho ⟨3,at_,a,b,c,f,t,m⟩ n (hold w.bl n):=(gw hMo).symm
  rw[hbl]at hout;have hMr:=Ay hf hw.can;have hval:∀L:List B3,Canon L->vldB L=decide (L.length<=40):=fun L hL=>by
   have:gr 0 (-1) L=true:=(uv L 0 (-1)).2 hL
   rw[vldB,this,Bool.and_true]
  have hl8:(w.ba.set b.toNat (g w.ba b+m)).length=8:=by rw[List.length_set,hw.bal]
  have q4:g (w.ba.set b.toNat (g w.ba b+m)) c=if c=b then g w.ba b+m else g w.ba c:=rn hw.bal b0 b1 c0 c1
  have q5: -3000000000000<=g (w.ba.set b.toNat (g w.ba b+m)) c/\g (w.ba.set b.toNat (g w.ba b+m)) c<=3000000000000:=by rw[q4];split<;>omega
  rw[hout,cM A0 A1 b0 b1];refine cBl (fun hb=>gN c0 ?_) (fun hb=>?_)
  ·rw[Option.bind_some,cu n _ (by omega),Option.bind_some,hval _ hMr.1,cM A0 A1 c0 c1,cc hw.bal b0 b1,dF,cc hl8 c0 c1,cc hw.bal a0 a1]
   refine gN (by omega) (gO (by omega) (by omega) (gN (by omega) (gN (by omega) (gO (by omega) (by omega) (gO (by omega) (by omega) (gN (by omega) (gN (by omega) ?_)))))))
   refine cBN (fun hc=>cN (fun h40=>?_) (fun h=>noW fun p=>h p.v2.few)) (fun h=>noW fun p=>by have:=(p.c.w3 rfl).2;rw[h]at this;cases this)
   have e1:(aft w ⟨3,at_,a,b,c,f,t,m⟩).al=IOp.f .andNot w.al (IOp.f .shl 1 a):=by rw[nO A0 A1 a0 a1];rfl
   have e2:(aft w ⟨3,at_,a,b,c,f,t,m⟩).ev=w.ev:=rfl
   have e3:bL (aft w ⟨3,at_,a,b,c,f,t,m⟩).bl=bL (aZ fun n=>rho ⟨3,at_,a,b,c,f,t,m⟩ n (hold w.bl n)):=rfl
   have e4:iL (aft w ⟨3,at_,a,b,c,f,t,m⟩).ba=List.modify (List.modify (iL (w.ba.set b.toNat (g w.ba b+m))) c.toNat (fun r=>r.set 0 (AV.int ((g (w.ba.set b.toNat (g w.ba b+m)) c+g w.ba a)-m)))) a.toNat (fun r=>r.set 0 (AV.int 0)):=by
    rw[dF,dF];show iL (((w.ba.set b.toNat (g w.ba b+m)).set c.toNat (g (w.ba.set b.toNat (g w.ba b+m)) c+(g w.ba a-m))).set a.toNat 0)=_
    rw[Int.add_sub_assoc]
   have e5:iL (aft w ⟨3,at_,a,b,c,f,t,m⟩).le=List.modify (iL w.le) a.toNat (fun r=>r.set 0 (AV.int 0)):=by rw[dF];rfl
   have hV:=fe n (aft w ⟨3,at_,a,b,c,f,t,m⟩) (by omega)
   rw[e1,e2,e3,e4,e5]at hV;rw[hV,Option.bind_some];refine cBN (fun h=>?_) (fun h=>noW fun p=>by rw[eJ p.v2]at h;cases h)
   exact Aw ⟨hw,hf,⟨ha,fun h=>by simp at h,fun h=>by simp at h,fun _=>⟨hb,hc⟩,fun h=>by simp at h⟩,vB_iff.1 h⟩ e1 e2 e3 e4 e5
  ·rw[Option.bind_some,cu n _ (by omega),Option.bind_some,cc hw.bal b0 b1,dF,cc hl8 c0 c1,cc hw.bal a0 a1]
   refine gN (by omega) (gO (by omega) (by omega) (gN (by omega) (gN (by omega) (gN (by omega) (gO (by omega) (by omega) (gO (by omega) (by omega) (gN (by omega) (gN (by omega) ?_))))))))
   exact noW fun p=>by have:=(p.c.w3 rfl).1;rw[hb]at this;cases this
 have hk4:k=4:=by have h5:1<=k/\k<=4:=hf.kind;omega
 subst hk4;obtain⟨f0,t0',m0⟩:=hf.bare (.inr rfl);have hc0:=hf.noC (show ¬(4:Int)=3 by decide)
 have hb0:=hf.noB rfl;dsimp only at f0 t0' m0 hc0 hb0
 subst f0;subst t0';subst m0;subst hc0;subst hb0;refine ar (fun s=>∃(i:Nat) (one:Bool),s=(one,(i:Int))/\i<=8/\(one=true↔∀c,0<=c->c<(i:Int)->has w.al c=true->g w.le a<=g w.le c)) (fun s=>8-s.2.toNat) _ ?_ n _ ⟨0,true,rfl,by omega,fun _ c h0 h1=>by omega,fun _=>rfl⟩ (by first|omega|(simp only;omega))
 rintro _ go ⟨i,one,rfl,hi,hall⟩ ih;simp only at ih⊢
 unfold yU;have esucc:((i+1:Nat):Int)=(i:Int)+1:=by omega
 refine cF (fun h8=>?_) (fun h8=>?_)
 ·have i0:(0:Int)<=(i:Int):=by omega
  have i7:(i:Int)<=7:=by omega
  have hgo:∀x:Bool,(x=true↔((∀c,0<=c->c<(i:Int)->has w.al c=true->g w.le a<=g w.le c)/\(has w.al (i:Int)=true->g w.le a<=g w.le (i:Int))))->go (x,(i:Int)+1)=some (lw (ew w ⟨4,at_,a,0,0,0,0,0⟩)):=fun x hx=>by
   refine ih _ ⟨i+1,x,by rw[esucc],by omega,?_⟩ (by first|omega|(simp only;omega))
   rw[hx];constructor
   ·rintro ⟨h1,h2⟩ c p0 p1 p2
    by_cases hc:c<(i:Int)
    ·exact h1 c p0 hc p2
    ·have:c=(i:Int):=by omega
     subst this;exact h2 p2
   ·intro h
    exact⟨fun c p0 p1 p2=>h c p0 (by omega) p2,fun p=>h _ i0 (by omega) p⟩
  rw[cM A0 A1 i0 i7,cc hw.lel a0 a1,cc hw.lel i0 i7];refine cBl (fun h1=>gN i0 (cBN (fun hh=>gN (by omega) (gN (by omega) (gO (by omega) (by omega) (hgo _ ?_)))) (fun hh=>gO (by omega) (by omega) (hgo _ ?_)))) (fun h1=>gO (by omega) (by omega) (hgo _ ?_))
  ·rw[decide_eq_true_eq]
   exact⟨fun h=>⟨hall.1 h1,fun _=>h⟩,fun h=>h.2 hh⟩
  ·exact⟨fun _=>⟨hall.1 h1,fun h=>by rw[hh]at h;cases h⟩,fun _=>rfl⟩
  ·exact⟨(fun h=>by cases h),fun h=>by have:=hall.2 h.1;rw[h1]at this;cases this⟩
 ·have hi8:i=8:=by omega
  subst hi8;have hl:=hw.l0 a a0 a1;rw[cc hw.lel a0 a1];refine gN (by omega) (gO (by omega) (by omega) (cBN (fun h1=>?_) (fun h1=>noW fun p=>?_)))
  ·have e1:(aft w ⟨4,at_,a,0,0,0,0,0⟩).al=w.al:=rfl
   have e2:(aft w ⟨4,at_,a,0,0,0,0,0⟩).ev=w.ev:=rfl
   have e3:bL (aft w ⟨4,at_,a,0,0,0,0,0⟩).bl=bL w.bl:=by
    have:(fun n=>rho ⟨4,at_,a,0,0,0,0,0⟩ n (hold w.bl n))=hold w.bl:=by
     funext m
     unfold rho;simp
    show bL (aZ fun n=>rho ⟨4,at_,a,0,0,0,0,0⟩ n (hold w.bl n))=_
    rw[this,DA hw.can]
   have e4:iL (aft w ⟨4,at_,a,0,0,0,0,0⟩).ba=iL w.ba:=rfl
   have e5:iL (aft w ⟨4,at_,a,0,0,0,0,0⟩).le=List.modify (iL w.le) a.toNat (fun r=>r.set 0 (AV.int (g w.le a+1))):=by rw[dF];rfl
   have hV:=fe n (aft w ⟨4,at_,a,0,0,0,0,0⟩) (by omega)
   rw[e1,e2,e3,e4,e5]at hV;rw[hV,Option.bind_some];refine cBN (fun h=>?_) (fun h=>noW fun p=>by rw[eJ p.v2]at h;cases h)
   exact Aw ⟨hw,hf,⟨ha,fun h=>by simp at h,fun h=>by simp at h,fun h=>by simp at h,fun _ c p0 p1 hc=>hall.1 h1 c p0 (by omega) hc⟩,vB_iff.1 h⟩ e1 e2 e3 e4 e5
  ·have:=hall.2 fun c p0 p1 p2=>p.c.u rfl c p0 (by omega) p2
   rw[h1]at this;cases this
structure EvsOk (w:Wd) (l:List Ev):Prop where
 g:Dial.Mrg.Good w l
 few:l.length<=8
 late:∀e∈l,e.at_<=32
 m:∀e∈l,-200<=e.m/\e.m<=200
theorem EM(n:Nat)(w:Wd)(hw:WV w)(xs:List Sev)(hx:∀x∈xs,H8 x)(hn:300<n):Ok (fun r=>∃l,r=evL l/\EvsOk w l) (kP n w.al w.ev (bL w.bl) (iL w.ba) (iL w.le) (xs.map lK)):=by
 unfold kP tO;refine dE (fun s=>∃(i:Nat) (l:List Ev) (t:Int),s=(evL l,t,(i:Int),wT (dY w l))/\i<=8/\l.length<=i/\EvsOk w l/\0<=t/\t<=4*(i:Int)/\∀e∈l,e.at_<=t) (fun s=>8-s.2.2.1.toNat) _ ?_ n _ ⟨0,[],0,rfl,by omega,by simp,⟨⟨by simp,trivial,hw⟩,by simp,fun e h=>by simp at h,fun e h=>by simp at h⟩,by omega,by omega,fun e h=>by simp at h⟩ (by first|omega|(simp only;omega))
 rintro _ go ⟨i,l,t,rfl,hi,hl,hE,h0,h1,hlt⟩ ih;simp only at ih⊢
 unfold tV;rw[List.length_map];have hu:=hE.g.p.v2;refine oF (fun hxl=>oF (fun h8=>hN (by omega) ?_) (fun _=>hD ⟨l,rfl,hE⟩)) (fun _=>hD ⟨l,rfl,hE⟩)
 obtain⟨x,hxx⟩:=aD (l:=xs) (i:=i) (by omega)
 obtain⟨g0,g1,g2,g3,g4,g5,g6⟩:=Rm hxx;obtain⟨s0,s1,s2,s3,s4,s5,s6⟩:=hx x (List.mem_of_getElem? hxx);rw[g0,g1,g2,g3,g4,g5,g6];obtain⟨d,e2,hd⟩:=Kw n (bL (dY w l).bl) (iL (dY w l).ba) (iL (dY w l).le) t x.1 x.2.1 x.2.2.1 x.2.2.2.1 x.2.2.2.2.1 x.2.2.2.2.2.1 x.2.2.2.2.2.2 hu.a0 hu.a1 hu.e0 hu.e1 h0 (by omega) s0 s1 s2 s3 s4 s5 s6 (by omega)
 obtain⟨k,at_,a,b,c,f,u,m⟩:=d;obtain⟨hd1,hd2,hd3,hd4,hd5⟩:=hd;dsimp only at hd1 hd2 hd3 hd4 hd5
 have hS:=xO n (dY w l) ⟨k,at_,a,b,c,f,u,m⟩ hn;dsimp only at hS
 rw[e2,Option.bind_some];dsimp only;rw[hS,Option.bind_some];cases hs:ew (dY w l) ⟨k,at_,a,b,c,f,u,m⟩with
 |none=>
  refine oF (fun h=>absurd h (by show ¬(420:Int)=0;decide)) (fun _=>hO (by omega) (by omega) ?_)
  exact ih _ ⟨i+1,l,t,rfl,by omega,by omega,hE,h0,by omega,hlt⟩ (by first|omega|(simp only;omega))
 | some v=>
  obtain⟨hp,rfl⟩:=i9 hs;refine oF (fun _=>hN (by rw[ku];omega) (hO (by omega) (by omega) ?_)) (fun h=>absurd rfl h)
  have e3:evL l++[[AV.int k,AV.int at_,AV.int a,AV.int b,AV.int c,AV.int f,AV.int u,AV.int m]]=evL (l++[⟨k,at_,a,b,c,f,u,m⟩]):=by rw[evL,evL,List.map_append];rfl
  rw[e3];have hat:∀e∈l++[(⟨k,at_,a,b,c,f,u,m⟩:Ev)],e.at_<=at_:=fun e he=>by
   rcases List.mem_append.1 he with he|he
   ·have:=hlt e he;omega
   ·rw[List.mem_singleton]at he;subst he;exact Int.le_refl _
  have hap:dY w (l++[⟨k,at_,a,b,c,f,u,m⟩])=aft (dY w l) ⟨k,at_,a,b,c,f,u,m⟩:=ON w l _
  refine ih _ ⟨i+1,l++[⟨k,at_,a,b,c,f,u,m⟩],at_,by rw[hap];rfl,by omega,by simp;omega,⟨hE.g.snoc (by omega) hp fun d hd=>Int.le_trans (hlt d hd) hd2,by simp;omega,fun e he=>by have:=hat e he;omega,fun e he=>?_⟩,by omega,by omega,hat⟩ (by first|omega|(simp only;omega))
  rcases List.mem_append.1 he with he|he
  ·exact hE.m e he
  ·rw[List.mem_singleton]at he;subst he;exact⟨hd4,hd5⟩
structure AtOk (w:Wd) (l:List Ev) (t:Int):Prop where
 g:Dial.Mrg.Good w l
 t0:0<=t
 t1:t<=20000000
noncomputable instance (w:Wd) (l:List Ev) (t:Int):Decidable (AtOk w l t):=Classical.propDecidable _
noncomputable def atW (w:Wd) (l:List Ev) (t:Int):Option Wd:=if AtOk w l t then some (dY w (untl l t))else none
theorem noA{w:Wd}{l:List Ev}{t:Int}(h:¬AtOk w l t):(some (0,0,([]:Lv),([]:Lv),([]:Lv),420):Option (Int×Int×Lv×Lv×Lv×Int))=some (lw (atW w l t)):=by
 unfold atW;rw[if_neg h];rfl
theorem IN{e:Ev}{l:List Ev}{t:Int}(h:e.at_<=t):untl (e::l) t=e::untl l t:=by unfold untl;rw[List.takeWhile_cons,decide_eq_true h];rfl
theorem Ik{e:Ev}{l:List Ev}{t:Int}(h:t<e.at_):untl (e::l) t=[]:=by unfold untl;rw[List.takeWhile_cons,decide_eq_false (by omega)];rfl
end Go.Proofs.YtgckmifmjiklmaaGreat
namespace Go.Proofs.YtgckmifmjiklmaaGreat
open Go Go.Sx
noncomputable section
def aH:List Nat:=[11,12,13,14,15,16,17,18,19,20,21,22,23,24,25,26,27,28,29,30,32,33,34,35,36,37,38,39,40,41,42,43,44,45,46,47,48,49,50,51,52,54,55,56,57,58,59,61,62,63,64,66,67,69,80,83,87,90,91,92,95,96,99,100,101,105,107,108,109,110,111,112,115,116,121,122,127,128,136,138,139,149,150,151,153,154,156,158,161,163,164,165,166,172,173,174,175,176,183,185,186,187,188,189,190,196,197,198,201,204,205,207,210,216,222,223,226,229,1000012,1000056,1000083,1000197,1000216,1000229]
def aG:List (Nat×SV×SV):=[(141,SV.of [.agg (SV.of [.vi (.int 1),.vi (.int 1)]),.agg (SV.of [.vi (.int 2),.vi (.int 1)]),.agg (SV.of [.vi (.int 3),.vi (.int 2)]),.agg (SV.of [.vi (.int 4),.vi (.int 2)]),.agg (SV.of [.vi (.int 5),.vi (.int 1)]),.agg (SV.of [.vi (.int 5),.vi (.int 2)]),.agg (SV.of [.vi (.int 5),.vi (.int 3)]),.agg (SV.of [.vi (.int 6),.vi (.int 4)])],SV.of [.vi (.int 3),.vi (.int 2),.vi (.int 3),.vi (.int 6),.vi (.int 7),.vi (.int 7),.vi (.int 7),.vi (.int 8)])]
abbrev zq:=Int
def Ax(n:Nat)(v0 v1:Int):Option zq:=
 (bif v0<0 then bif(-9223372036854775808<=(v0+1))&&((v0+1)<=9223372036854775807)then bif(-9223372036854775808<=(0-(v0+1)))&&((0-(v0+1))<=9223372036854775807)then bif !(v1=0)then some (Int.tmod (0-(v0+1)) v1)else none else none else none else bif !(v1=0)then some (Int.tmod v0 v1)else none)
def ag(n:Nat)(v0 v1:Int):Option zq:=Ax n v0 v1
def ref16_pick_t:FnT:=⟨[(false,[.int]),(false,[.int])],.i,fun n (s:Int×Int)=>ag n s.1 s.2⟩
theorem Hl:ref16_pick_t.ok Tryz.prog 100:=FnT.ok_of (cfg:=⟨[],aH,[],aG⟩) av nw aA (fun s fn hf=>by rw[Tryz.func100]at hf;cases hf;kernel_rfl) (fun n s=>by kernel_rfl)
def ref16_pick_T:Tab:=(100,ref16_pick_t)::ref42_Events_T
theorem qN:ref16_pick_T.ok Tryz.prog:=Tab.ok_cons Hl nw
abbrev jl:=Int×Int×Int×Int
def nt(n:Nat)(v0 v1 v2 v3 v4 v5:Int):Option jl:=
 (bif v5=3 then(ag n v0 86400).bind fun y6=>
 bif(-9223372036854775808<=(1+y6))&&((1+y6)<=9223372036854775807)then(ag n v1 12).bind fun y7=>
 bif(-9223372036854775808<=(1+y7))&&((1+y7)<=9223372036854775807)then bif(-9223372036854775808<=(Int.tdiv v1 16))&&((Int.tdiv v1 16)<=9223372036854775807)then(ag n (Int.tdiv v1 16) 4).bind fun y8=>
 (bif y8=3 then(ag n v1 86400).bind fun y9=>
 bif(-9223372036854775808<=(1+y9))&&((1+y9)<=9223372036854775807)then(ag n v2 12).bind fun y10=>
 bif(-9223372036854775808<=(1+y10))&&((1+y10)<=9223372036854775807)then bif(-9223372036854775808<=(Int.tdiv v2 16))&&((Int.tdiv v2 16)<=9223372036854775807)then(ag n (Int.tdiv v2 16) 4).bind fun y11=>
 (bif y11=3 then(ag n v2 86400).bind fun y12=>
 bif(-9223372036854775808<=(1+y12))&&((1+y12)<=9223372036854775807)then(ag n v3 12).bind fun y13=>
 bif(-9223372036854775808<=(1+y13))&&((1+y13)<=9223372036854775807)then bif(-9223372036854775808<=(Int.tdiv v3 16))&&((Int.tdiv v3 16)<=9223372036854775807)then(ag n (Int.tdiv v3 16) 4).bind fun y14=>
 (bif y14=3 then(ag n v3 86400).bind fun y15=>
 bif(-9223372036854775808<=(1+y15))&&((1+y15)<=9223372036854775807)then some ((1+y6),(1+y9),(1+y12),(1+y15))else none else some ((1+y6),(1+y9),(1+y12),(1+y13)))else none else none else none else(ag n v3 12).bind fun y12=>
 bif(-9223372036854775808<=(1+y12))&&((1+y12)<=9223372036854775807)then bif(-9223372036854775808<=(Int.tdiv v3 16))&&((Int.tdiv v3 16)<=9223372036854775807)then(ag n (Int.tdiv v3 16) 4).bind fun y13=>
 (bif y13=3 then(ag n v3 86400).bind fun y14=>
 bif(-9223372036854775808<=(1+y14))&&((1+y14)<=9223372036854775807)then some ((1+y6),(1+y9),(1+y10),(1+y14))else none else some ((1+y6),(1+y9),(1+y10),(1+y12)))else none else none)else none else none else none else(ag n v2 12).bind fun y9=>
 bif(-9223372036854775808<=(1+y9))&&((1+y9)<=9223372036854775807)then bif(-9223372036854775808<=(Int.tdiv v2 16))&&((Int.tdiv v2 16)<=9223372036854775807)then(ag n (Int.tdiv v2 16) 4).bind fun y10=>
 (bif y10=3 then(ag n v2 86400).bind fun y11=>
 bif(-9223372036854775808<=(1+y11))&&((1+y11)<=9223372036854775807)then(ag n v3 12).bind fun y12=>
 bif(-9223372036854775808<=(1+y12))&&((1+y12)<=9223372036854775807)then bif(-9223372036854775808<=(Int.tdiv v3 16))&&((Int.tdiv v3 16)<=9223372036854775807)then(ag n (Int.tdiv v3 16) 4).bind fun y13=>
 (bif y13=3 then(ag n v3 86400).bind fun y14=>
 bif(-9223372036854775808<=(1+y14))&&((1+y14)<=9223372036854775807)then some ((1+y6),(1+y7),(1+y11),(1+y14))else none else some ((1+y6),(1+y7),(1+y11),(1+y12)))else none else none else none else(ag n v3 12).bind fun y11=>
 bif(-9223372036854775808<=(1+y11))&&((1+y11)<=9223372036854775807)then bif(-9223372036854775808<=(Int.tdiv v3 16))&&((Int.tdiv v3 16)<=9223372036854775807)then(ag n (Int.tdiv v3 16) 4).bind fun y12=>
 (bif y12=3 then(ag n v3 86400).bind fun y13=>
 bif(-9223372036854775808<=(1+y13))&&((1+y13)<=9223372036854775807)then some ((1+y6),(1+y7),(1+y9),(1+y13))else none else some ((1+y6),(1+y7),(1+y9),(1+y11)))else none else none)else none else none)else none else none else none else(ag n v1 12).bind fun y6=>
 bif(-9223372036854775808<=(1+y6))&&((1+y6)<=9223372036854775807)then bif(-9223372036854775808<=(Int.tdiv v1 16))&&((Int.tdiv v1 16)<=9223372036854775807)then(ag n (Int.tdiv v1 16) 4).bind fun y7=>
 (bif y7=3 then(ag n v1 86400).bind fun y8=>
 bif(-9223372036854775808<=(1+y8))&&((1+y8)<=9223372036854775807)then(ag n v2 12).bind fun y9=>
 bif(-9223372036854775808<=(1+y9))&&((1+y9)<=9223372036854775807)then bif(-9223372036854775808<=(Int.tdiv v2 16))&&((Int.tdiv v2 16)<=9223372036854775807)then(ag n (Int.tdiv v2 16) 4).bind fun y10=>
 (bif y10=3 then(ag n v2 86400).bind fun y11=>
 bif(-9223372036854775808<=(1+y11))&&((1+y11)<=9223372036854775807)then(ag n v3 12).bind fun y12=>
 bif(-9223372036854775808<=(1+y12))&&((1+y12)<=9223372036854775807)then bif(-9223372036854775808<=(Int.tdiv v3 16))&&((Int.tdiv v3 16)<=9223372036854775807)then(ag n (Int.tdiv v3 16) 4).bind fun y13=>
 (bif y13=3 then(ag n v3 86400).bind fun y14=>
 bif(-9223372036854775808<=(1+y14))&&((1+y14)<=9223372036854775807)then some ((1+v4),(1+y8),(1+y11),(1+y14))else none else some ((1+v4),(1+y8),(1+y11),(1+y12)))else none else none else none else(ag n v3 12).bind fun y11=>
 bif(-9223372036854775808<=(1+y11))&&((1+y11)<=9223372036854775807)then bif(-9223372036854775808<=(Int.tdiv v3 16))&&((Int.tdiv v3 16)<=9223372036854775807)then(ag n (Int.tdiv v3 16) 4).bind fun y12=>
 (bif y12=3 then(ag n v3 86400).bind fun y13=>
 bif(-9223372036854775808<=(1+y13))&&((1+y13)<=9223372036854775807)then some ((1+v4),(1+y8),(1+y9),(1+y13))else none else some ((1+v4),(1+y8),(1+y9),(1+y11)))else none else none)else none else none else none else(ag n v2 12).bind fun y8=>
 bif(-9223372036854775808<=(1+y8))&&((1+y8)<=9223372036854775807)then bif(-9223372036854775808<=(Int.tdiv v2 16))&&((Int.tdiv v2 16)<=9223372036854775807)then(ag n (Int.tdiv v2 16) 4).bind fun y9=>
 (bif y9=3 then(ag n v2 86400).bind fun y10=>
 bif(-9223372036854775808<=(1+y10))&&((1+y10)<=9223372036854775807)then(ag n v3 12).bind fun y11=>
 bif(-9223372036854775808<=(1+y11))&&((1+y11)<=9223372036854775807)then bif(-9223372036854775808<=(Int.tdiv v3 16))&&((Int.tdiv v3 16)<=9223372036854775807)then(ag n (Int.tdiv v3 16) 4).bind fun y12=>
 (bif y12=3 then(ag n v3 86400).bind fun y13=>
 bif(-9223372036854775808<=(1+y13))&&((1+y13)<=9223372036854775807)then some ((1+v4),(1+y6),(1+y10),(1+y13))else none else some ((1+v4),(1+y6),(1+y10),(1+y11)))else none else none else none else(ag n v3 12).bind fun y10=>
 bif(-9223372036854775808<=(1+y10))&&((1+y10)<=9223372036854775807)then bif(-9223372036854775808<=(Int.tdiv v3 16))&&((Int.tdiv v3 16)<=9223372036854775807)then(ag n (Int.tdiv v3 16) 4).bind fun y11=>
 (bif y11=3 then(ag n v3 86400).bind fun y12=>
 bif(-9223372036854775808<=(1+y12))&&((1+y12)<=9223372036854775807)then some ((1+v4),(1+y6),(1+y8),(1+y12))else none else some ((1+v4),(1+y6),(1+y8),(1+y10)))else none else none)else none else none)else none else none)
def nL(n:Nat)(v0 v1 v2 v3:Int):Option jl:=
 (ag n v0 12).bind fun y4=>
 bif(-9223372036854775808<=(1+y4))&&((1+y4)<=9223372036854775807)then bif(-9223372036854775808<=(Int.tdiv v0 16))&&((Int.tdiv v0 16)<=9223372036854775807)then(ag n (Int.tdiv v0 16) 4).bind fun y5=>
 nt n v0 v1 v2 v3 y4 y5 else none else none
def ea(n:Nat)(v0 v1 v2 v3:Int):Option jl:=nL n v0 v1 v2 v3
def ref16_MadeRules_t:FnT:=⟨[(true,[.int,.int,.int,.int])],(.agg (.cons .i (.cons .i (.cons .i (.cons .i .nil))))),fun n (s:Int×Int×Int×Int)=>ea n s.1 s.2.1 s.2.2.1 s.2.2.2⟩
theorem yM:ref16_MadeRules_t.ok Tryz.prog 99:=FnT.ok_of (cfg:=⟨[((99,3,0),.unroll 5)],aH,[],aG⟩) av qN aA (fun s fn hf=>by rw[Tryz.func99]at hf;cases hf;kernel_rfl) (fun n s=>by kernel_rfl)
def ref16_MadeRules_T:Tab:=(99,ref16_MadeRules_t)::ref16_pick_T
theorem ld:ref16_MadeRules_T.ok Tryz.prog:=Tab.ok_cons yM qN
abbrev xg:=Bool
def xi(n:Nat)(v0 v1 v2 v3:Int):Option xg:=
 (bif 1<=v0 then(bif v0<=1000000 then(bif 1<=v1 then(bif v1<=1000000 then(bif 1<=v2 then(bif v2<=1000000 then(bif 1<=v3 then some (decide (v3<=1000000))else some false)else some false)else some false)else some false)else some false)else some false)else some false)
def lV(n:Nat)(v0 v1 v2 v3:Int):Option xg:=xi n v0 v1 v2 v3
def ref16_Rules_t:FnT:=⟨[(true,[.int,.int,.int,.int])],.b,fun n (s:Int×Int×Int×Int)=>lV n s.1 s.2.1 s.2.2.1 s.2.2.2⟩
theorem EI:ref16_Rules_t.ok Tryz.prog 172:=FnT.ok_of (cfg:=⟨[],aH,[],aG⟩) av ld aA (fun s fn hf=>by rw[Tryz.func172]at hf;cases hf;kernel_rfl) (fun n s=>by kernel_rfl)
def ref16_Rules_T:Tab:=(172,ref16_Rules_t)::ref16_MadeRules_T
theorem px:ref16_Rules_T.ok Tryz.prog:=Tab.ok_cons EI ld
abbrev vT:=Bool
def xl(n:Nat)(v0 v1 v2 v3 v4:Int):Option vT:=
 (bif 0<=v0 then(bif v0<=99999999 then(bif 0<=v1 then(bif v1<=7 then(bif 0<=v2 then(bif v2<=7 then(bif !(v1=v2)then(bif 0<=v3 then(bif v3<=63 then(bif 0<=v4 then some (decide (v4<=10000000))else some false)else some false)else some false)else some false)else some false)else some false)else some false)else some false)else some false)else some false)
def lW(n:Nat)(v0 v1 v2 v3 v4:Int)(v5:Bool):Option vT:=xl n v0 v1 v2 v3 v4
def ref16_Claim_t:FnT:=⟨[(true,[.int,.int,.int,.int,.int,.bool])],.b,fun n (s:Int×Int×Int×Int×Int×Bool)=>lW n s.1 s.2.1 s.2.2.1 s.2.2.2.1 s.2.2.2.2.1 s.2.2.2.2.2⟩
theorem EE:ref16_Claim_t.ok Tryz.prog 173:=FnT.ok_of (cfg:=⟨[],aH,[],aG⟩) av px aA (fun s fn hf=>by rw[Tryz.func173]at hf;cases hf;kernel_rfl) (fun n s=>by kernel_rfl)
def ref16_Claim_T:Tab:=(173,ref16_Claim_t)::ref16_Rules_T
theorem qa:ref16_Claim_T.ok Tryz.prog:=Tab.ok_cons EE px
abbrev jI:=Bool
abbrev tk:=Int×Int
def wo(n:Nat)(go0:tk->Option jI)(v10:Lv)(v13 v14:Int):Option jI:=
 (bif v14<(v10.length:Int) then bif 0<=v14 then(bif 1<=(cI v10 v14 0) then(bif !((cI v10 v14 0)<=6)then some false else(bif v13<=(cI v10 v14 1) then(bif !((cI v10 v14 1)<=20000000)then some false else(bif (cI v10 v14 0)=2 then(bif 1<=(cI v10 v14 2) then(bif !((cI v10 v14 2)<=9)then some false else bif(-9223372036854775808<=(v14+1))&&((v14+1)<=9223372036854775807)then go0 ((cI v10 v14 1),(v14+1))else none)else some false)else(bif (cI v10 v14 0)=6 then(bif 1<=(cI v10 v14 2) then(bif !((cI v10 v14 2)<=9)then some false else bif(-9223372036854775808<=(v14+1))&&((v14+1)<=9223372036854775807)then go0 ((cI v10 v14 1),(v14+1))else none)else some false)else(bif !((cI v10 v14 2)=0)then some false else bif(-9223372036854775808<=(v14+1))&&((v14+1)<=9223372036854775807)then go0 ((cI v10 v14 1),(v14+1))else none))))else some false))else some false)else none else some true)
def wQ(n:Nat)(v0 v1 v2 v3 v4 v5 v6 v7 v8:Int)(v9:Bool)(v10:Lv):Option jI:=
 (lV n v0 v1 v2 v3).bind fun y11=>
 (bif(!y11)then some false else(lW n v4 v5 v6 v7 v8 v9).bind fun y12=>
 (bif(!y12)then some false else(bif 20<(v10.length:Int) then some false else(aa (fun go0 s=>wo n go0 v10 s.1 s.2) n ((v8,0):tk)))))
def gR(n:Nat)(v0 v1 v2 v3 v4 v5 v6 v7 v8:Int)(v9:Bool)(v10:Lv):Option jI:=wQ n v0 v1 v2 v3 v4 v5 v6 v7 v8 v9 v10
def ref16_Valid_t:FnT:=⟨[(true,[.int,.int,.int,.int]),(true,[.int,.int,.int,.int,.int,.bool]),(false,[tSc])],.b,fun n (s:Int×Int×Int×Int×Int×Int×Int×Int×Int×Bool×Lv)=>gR n s.1 s.2.1 s.2.2.1 s.2.2.2.1 s.2.2.2.2.1 s.2.2.2.2.2.1 s.2.2.2.2.2.2.1 s.2.2.2.2.2.2.2.1 s.2.2.2.2.2.2.2.2.1 s.2.2.2.2.2.2.2.2.2.1 s.2.2.2.2.2.2.2.2.2.2⟩
theorem ER:ref16_Valid_t.ok Tryz.prog 136:=FnT.ok_of (cfg:=⟨[((136,5,2),.inv [(.tmp 7 .int),(.tmp 8 .int)])],aH,[],aG⟩) av qa aA (fun s fn hf=>by rw[Tryz.func136]at hf;cases hf;kernel_rfl) (fun n s=>by kernel_rfl)
def ref16_Valid_T:Tab:=(136,ref16_Valid_t)::ref16_Claim_T
theorem pS:ref16_Valid_T.ok Tryz.prog:=Tab.ok_cons ER qa
abbrev tG:=Int×Int×Int
def tC(n:Nat)(v0 v1 v2 v3 v4 v5:Int):Option tG:=
 (bif v4=1 then bif(-9223372036854775808<=(v5+v0))&&((v5+v0)<=9223372036854775807)then some (v4,v5,(v5+v0))else none else(bif v4=2 then bif(-9223372036854775808<=(v5+v2))&&((v5+v2)<=9223372036854775807)then some (v4,v5,(v5+v2))else none else(bif v4=3 then bif(-9223372036854775808<=(v5+v1))&&((v5+v1)<=9223372036854775807)then some (v4,v5,(v5+v1))else none else(bif v4=4 then bif(-9223372036854775808<=(v5+v3))&&((v5+v3)<=9223372036854775807)then some (v4,v5,(v5+v3))else none else some (v4,v5,(-1))))))
def ct(n:Nat)(v0 v1 v2 v3 v4 v5:Int):Option tG:=tC n v0 v1 v2 v3 v4 v5
def ref16_status_t:FnT:=⟨[(true,[.int,.int,.int,.int]),(false,[.int]),(false,[.int])],(.agg (.cons .i (.cons .i (.cons .i .nil)))),fun n (s:Int×Int×Int×Int×Int×Int)=>ct n s.1 s.2.1 s.2.2.1 s.2.2.2.1 s.2.2.2.2.1 s.2.2.2.2.2⟩
theorem C9:ref16_status_t.ok Tryz.prog 174:=FnT.ok_of (cfg:=⟨[],aH,[],aG⟩) av pS aA (fun s fn hf=>by rw[Tryz.func174]at hf;cases hf;kernel_rfl) (fun n s=>by kernel_rfl)
def ref16_status_T:Tab:=(174,ref16_status_t)::ref16_Valid_T
theorem nN:ref16_status_T.ok Tryz.prog:=Tab.ok_cons C9 pS
abbrev xm:=Int
def vU(n:Nat)(v0:Int):Option xm:=
 (bif v0=3 then some 4 else(bif v0=4 then some 5 else some 3))
def jx(n:Nat)(v0:Int):Option xm:=vU n v0
def ref16_after_t:FnT:=⟨[(false,[.int])],.i,fun n (s:Int)=>jx n s⟩
theorem Ey:ref16_after_t.ok Tryz.prog 175:=FnT.ok_of (cfg:=⟨[],aH,[],aG⟩) av nN aA (fun s fn hf=>by rw[Tryz.func175]at hf;cases hf;kernel_rfl) (fun n s=>by kernel_rfl)
def ref16_after_T:Tab:=(175,ref16_after_t)::ref16_status_T
theorem qg:ref16_after_T.ok Tryz.prog:=Tab.ok_cons Ey nN
abbrev rP:=Int
def qU(n:Nat)(v5:Bool)(v6 v7 v9:Int):Option rP:=
 (bif v7=1 then(bif v6=1 then some 3 else some (-1))else(bif v7=2 then(bif v6=1 then(bif v9=1 then(bif(!v5)then some 6 else some (-1))else some 2)else some (-1))else(bif v7=3 then(bif v6=2 then some 3 else some (-1))else(bif v7=4 then(bif v6=2 then some 6 else some (-1))else(bif v7=5 then(bif v6=1 then some 7 else(bif v6=2 then some 7 else(bif v6=3 then some 7 else some (-1))))else(bif v7=6 then(bif v6=4 then(bif !(v9=1)then some 8 else(bif(!v5)then some 8 else some (-1)))else some (-1))else some (-1)))))))
def eo(n:Nat)(v0 v1 v2 v3 v4:Int)(v5:Bool)(v6 v7 v8 v9:Int):Option rP:=qU n v5 v6 v7 v9
def ref16_becomes_t:FnT:=⟨[(true,[.int,.int,.int,.int,.int,.bool]),(false,[.int]),(true,[.int,.int,.int])],.i,fun n (s:Int×Int×Int×Int×Int×Bool×Int×Int×Int×Int)=>eo n s.1 s.2.1 s.2.2.1 s.2.2.2.1 s.2.2.2.2.1 s.2.2.2.2.2.1 s.2.2.2.2.2.2.1 s.2.2.2.2.2.2.2.1 s.2.2.2.2.2.2.2.2.1 s.2.2.2.2.2.2.2.2.2⟩
theorem CE:ref16_becomes_t.ok Tryz.prog 176:=FnT.ok_of (cfg:=⟨[],aH,[],aG⟩) av qg aA (fun s fn hf=>by rw[Tryz.func176]at hf;cases hf;kernel_rfl) (fun n s=>by kernel_rfl)
def ref16_becomes_T:Tab:=(176,ref16_becomes_t)::ref16_after_T
theorem mT:ref16_becomes_T.ok Tryz.prog:=Tab.ok_cons CE qg
abbrev cg:=Lv×Lv
abbrev fU:=Lv×Lv×Int
abbrev kZ:=Lv×Int×Int×Int
def BM(n:Nat)(go0:fU->Option cg)(go1:kZ->Option cg)(v0 v1 v2 v3 v4 v5 v6 v7 v8:Int)(v9:Bool)(v10:Lv)(v11:Int)(v16:Lv)(v17:Int)(v18:Lv)(v19 v21:Int):Option cg:=
 (bif 0<=v21 then(bif v21<=(af (cI v10 v17 1) v11) then(jx n v19).bind fun y22=>
 (ct n v0 v1 v2 v3 y22 v21).bind fun y23=>
 bif (((v18.length:Int)+1)*24)<=140737488355328 then go1 ((v18++[[(AV.int y23.1),(AV.int y23.2.1),(AV.int y23.2.2)]]),y23.1,y23.2.1,y23.2.2)else none else(bif v17=(v10.length:Int) then some (v18,v16)else(bif v11<(cI v10 v17 1) then some (v18,v16)else(eo n v4 v5 v6 v7 v8 v9 v19 (cI v10 v17 0) (cI v10 v17 1) (cI v10 v17 2)).bind fun y22=>
 (bif y22<0 then bif (((v16.length:Int)+1)*8)<=140737488355328 then bif(-9223372036854775808<=(v17+1))&&((v17+1)<=9223372036854775807)then go0 (v18,(v16++[[(AV.int v17)]]),(v17+1))else none else none else(ct n v0 v1 v2 v3 y22 (cI v10 v17 1)).bind fun y23=>
 bif (((v18.length:Int)+1)*24)<=140737488355328 then bif(-9223372036854775808<=(v17+1))&&((v17+1)<=9223372036854775807)then go0 ((v18++[[(AV.int y23.1),(AV.int y23.2.1),(AV.int y23.2.2)]]),v16,(v17+1))else none else none))))else(bif v17=(v10.length:Int) then some (v18,v16)else(bif v11<(cI v10 v17 1) then some (v18,v16)else(eo n v4 v5 v6 v7 v8 v9 v19 (cI v10 v17 0) (cI v10 v17 1) (cI v10 v17 2)).bind fun y22=>
 (bif y22<0 then bif (((v16.length:Int)+1)*8)<=140737488355328 then bif(-9223372036854775808<=(v17+1))&&((v17+1)<=9223372036854775807)then go0 (v18,(v16++[[(AV.int v17)]]),(v17+1))else none else none else(ct n v0 v1 v2 v3 y22 (cI v10 v17 1)).bind fun y23=>
 bif (((v18.length:Int)+1)*24)<=140737488355328 then bif(-9223372036854775808<=(v17+1))&&((v17+1)<=9223372036854775807)then go0 ((v18++[[(AV.int y23.1),(AV.int y23.2.1),(AV.int y23.2.2)]]),v16,(v17+1))else none else none))))
def sB(n:Nat)(go0:fU->Option cg)(go1:kZ->Option cg)(v0 v1 v2 v3 v4 v5 v6 v7 v8:Int)(v9:Bool)(v10:Lv)(v11:Int)(v16:Lv)(v17:Int)(v18:Lv)(v19 v21:Int):Option cg:=
 (bif 0<=v21 then(bif v21<=v11 then(jx n v19).bind fun y22=>
 (ct n v0 v1 v2 v3 y22 v21).bind fun y23=>
 bif (((v18.length:Int)+1)*24)<=140737488355328 then go1 ((v18++[[(AV.int y23.1),(AV.int y23.2.1),(AV.int y23.2.2)]]),y23.1,y23.2.1,y23.2.2)else none else(bif v17=(v10.length:Int) then some (v18,v16)else bif 0<=v17 then bif v17<(v10.length:Int) then(bif v11<(cI v10 v17 1) then some (v18,v16)else(eo n v4 v5 v6 v7 v8 v9 v19 (cI v10 v17 0) (cI v10 v17 1) (cI v10 v17 2)).bind fun y22=>
 (bif y22<0 then bif (((v16.length:Int)+1)*8)<=140737488355328 then bif(-9223372036854775808<=(v17+1))&&((v17+1)<=9223372036854775807)then go0 (v18,(v16++[[(AV.int v17)]]),(v17+1))else none else none else(ct n v0 v1 v2 v3 y22 (cI v10 v17 1)).bind fun y23=>
 bif (((v18.length:Int)+1)*24)<=140737488355328 then bif(-9223372036854775808<=(v17+1))&&((v17+1)<=9223372036854775807)then go0 ((v18++[[(AV.int y23.1),(AV.int y23.2.1),(AV.int y23.2.2)]]),v16,(v17+1))else none else none))else none else none))else(bif v17=(v10.length:Int) then some (v18,v16)else bif 0<=v17 then bif v17<(v10.length:Int) then(bif v11<(cI v10 v17 1) then some (v18,v16)else(eo n v4 v5 v6 v7 v8 v9 v19 (cI v10 v17 0) (cI v10 v17 1) (cI v10 v17 2)).bind fun y22=>
 (bif y22<0 then bif (((v16.length:Int)+1)*8)<=140737488355328 then bif(-9223372036854775808<=(v17+1))&&((v17+1)<=9223372036854775807)then go0 (v18,(v16++[[(AV.int v17)]]),(v17+1))else none else none else(ct n v0 v1 v2 v3 y22 (cI v10 v17 1)).bind fun y23=>
 bif (((v18.length:Int)+1)*24)<=140737488355328 then bif(-9223372036854775808<=(v17+1))&&((v17+1)<=9223372036854775807)then go0 ((v18++[[(AV.int y23.1),(AV.int y23.2.1),(AV.int y23.2.2)]]),v16,(v17+1))else none else none))else none else none))
def Bs(n:Nat)(go0:fU->Option cg)(v0 v1 v2 v3 v4 v5 v6 v7 v8:Int)(v9:Bool)(v10:Lv)(v11:Int)(v15 v16:Lv)(v17:Int):Option cg:=
 (bif v17<(v10.length:Int) then bif 0<=v17 then bif(-9223372036854775808<=((v15.length:Int)-1))&&(((v15.length:Int)-1)<=9223372036854775807)then bif 0<=((v15.length:Int)-1) then bif ((v15.length:Int)-1)<(v15.length:Int) then(aa (fun go1 s=>BM n go0 go1 v0 v1 v2 v3 v4 v5 v6 v7 v8 v9 v10 v11 v16 v17 s.1 s.2.1 s.2.2.2) n ((v15,(cI v15 ((v15.length:Int)-1) 0),(cI v15 ((v15.length:Int)-1) 1),(cI v15 ((v15.length:Int)-1) 2)):kZ))else none else none else none else none else bif(-9223372036854775808<=((v15.length:Int)-1))&&(((v15.length:Int)-1)<=9223372036854775807)then bif 0<=((v15.length:Int)-1) then bif ((v15.length:Int)-1)<(v15.length:Int) then(aa (fun go1 s=>sB n go0 go1 v0 v1 v2 v3 v4 v5 v6 v7 v8 v9 v10 v11 v16 v17 s.1 s.2.1 s.2.2.2) n ((v15,(cI v15 ((v15.length:Int)-1) 0),(cI v15 ((v15.length:Int)-1) 1),(cI v15 ((v15.length:Int)-1) 2)):kZ))else none else none else none)
def BY(n:Nat)(go0:fU->Option cg)(v0 v1 v2 v3 v4 v5 v6 v7 v8:Int)(v9:Bool)(v10:Lv)(v11:Int)(v15 v16:Lv)(v17:Int):Option cg:=
 (bif v17<=(v10.length:Int) then Bs n go0 v0 v1 v2 v3 v4 v5 v6 v7 v8 v9 v10 v11 v15 v16 v17 else some (v15,v16))
def BL(n:Nat)(v0 v1 v2 v3 v4 v5 v6 v7 v8:Int)(v9:Bool)(v10:Lv)(v11:Int):Option cg:=
 (ct n v0 v1 v2 v3 1 v8).bind fun y12=>
 (aa (fun go0 s=>BY n go0 v0 v1 v2 v3 v4 v5 v6 v7 v8 v9 v10 v11 s.1 s.2.1 s.2.2) n (((([]:Lv)++[[(AV.int y12.1),(AV.int y12.2.1),(AV.int y12.2.2)]]),([]:Lv),0):fU))
def jW(n:Nat)(v0 v1 v2 v3 v4 v5 v6 v7 v8:Int)(v9:Bool)(v10:Lv)(v11:Int):Option cg:=BL n v0 v1 v2 v3 v4 v5 v6 v7 v8 v9 v10 v11
def ref16_run_t:FnT:=⟨[(true,[.int,.int,.int,.int]),(true,[.int,.int,.int,.int,.int,.bool]),(false,[tSc]),(false,[.int])],(.tup (.cons (.row 156 (.cons .int (.cons .int (.cons .int .nil)))) (.cons (.row 3 (.cons .int .nil)) .nil))),fun n (s:Int×Int×Int×Int×Int×Int×Int×Int×Int×Bool×Lv×Int)=>jW n s.1 s.2.1 s.2.2.1 s.2.2.2.1 s.2.2.2.2.1 s.2.2.2.2.2.1 s.2.2.2.2.2.2.1 s.2.2.2.2.2.2.2.1 s.2.2.2.2.2.2.2.2.1 s.2.2.2.2.2.2.2.2.2.1 s.2.2.2.2.2.2.2.2.2.2.1 s.2.2.2.2.2.2.2.2.2.2.2⟩
theorem Jq:ref16_run_t.ok Tryz.prog 138:=FnT.ok_of (cfg:=⟨[((138,4,3),.inv [(.tmprow 10 156 (.cons .int (.cons .int (.cons .int .nil)))),(.tmprow 11 3 (.cons .int .nil)),(.tmp 12 .int)]),((138,10,8),.inv [(.tmprow 10 156 (.cons .int (.cons .int (.cons .int .nil)))),(.cell 6 0 .int),(.cell 6 1 .int),(.cell 6 2 .int)])],aH,[],aG⟩) av mT aA (fun s fn hf=>by rw[Tryz.func138]at hf;cases hf;kernel_rfl) (fun n s=>by kernel_rfl)
def ref16_run_T:Tab:=(138,ref16_run_t)::ref16_becomes_T
theorem sY:ref16_run_T.ok Tryz.prog:=Tab.ok_cons Jq mT
abbrev rQ:=Int×Int×Int×Int
def rX(n:Nat)(v0 v1 v2 v3 v4 v5 v6 v7 v8:Int)(v9:Bool)(v10:Lv)(v11:Int):Option rQ:=
 (gR n v0 v1 v2 v3 v4 v5 v6 v7 v8 v9 v10).bind fun y12=>
 (bif(!y12)then some (0,0,0,160)else(bif 0<=v11 then(bif !(v11<=20000000)then some (0,0,0,160)else(bif v11<v8 then some (0,0,v8,0)else(jW n v0 v1 v2 v3 v4 v5 v6 v7 v8 v9 v10 v11).bind fun y13=>
 bif(-9223372036854775808<=((y13.1.length:Int)-1))&&(((y13.1.length:Int)-1)<=9223372036854775807)then bif 0<=((y13.1.length:Int)-1) then bif ((y13.1.length:Int)-1)<(y13.1.length:Int) then some ((cI y13.1 ((y13.1.length:Int)-1) 0),(cI y13.1 ((y13.1.length:Int)-1) 1),(cI y13.1 ((y13.1.length:Int)-1) 2),0)else none else none else none))else some (0,0,0,160)))
def jF(n:Nat)(v0 v1 v2 v3 v4 v5 v6 v7 v8:Int)(v9:Bool)(v10:Lv)(v11:Int):Option rQ:=rX n v0 v1 v2 v3 v4 v5 v6 v7 v8 v9 v10 v11
def ref16_Outcome_t:FnT:=⟨[(true,[.int,.int,.int,.int]),(true,[.int,.int,.int,.int,.int,.bool]),(false,[tSc]),(false,[.int])],(.tup (.cons (.agg (.cons .i (.cons .i (.cons .i .nil)))) (.cons .i .nil))),fun n (s:Int×Int×Int×Int×Int×Int×Int×Int×Int×Bool×Lv×Int)=>jF n s.1 s.2.1 s.2.2.1 s.2.2.2.1 s.2.2.2.2.1 s.2.2.2.2.2.1 s.2.2.2.2.2.2.1 s.2.2.2.2.2.2.2.1 s.2.2.2.2.2.2.2.2.1 s.2.2.2.2.2.2.2.2.2.1 s.2.2.2.2.2.2.2.2.2.2.1 s.2.2.2.2.2.2.2.2.2.2.2⟩
theorem Cb:ref16_Outcome_t.ok Tryz.prog 101:=FnT.ok_of (cfg:=⟨[],aH,[],aG⟩) av sY aA (fun s fn hf=>by rw[Tryz.func101]at hf;cases hf;kernel_rfl) (fun n s=>by kernel_rfl)
def ref16_Outcome_T:Tab:=(101,ref16_Outcome_t)::ref16_run_T
theorem mK:ref16_Outcome_T.ok Tryz.prog:=Tab.ok_cons Cb sY
abbrev oQ:=Lv×Int
def qh(n:Nat)(v0 v1 v2 v3 v4 v5 v6 v7 v8:Int)(v9:Bool)(v10:Lv):Option oQ:=
 (gR n v0 v1 v2 v3 v4 v5 v6 v7 v8 v9 v10).bind fun y11=>
 (bif(!y11)then some (([]:Lv),160)else(jW n v0 v1 v2 v3 v4 v5 v6 v7 v8 v9 v10 40000000).bind fun y12=>
 some (y12.1,0))
def iW(n:Nat)(v0 v1 v2 v3 v4 v5 v6 v7 v8:Int)(v9:Bool)(v10:Lv):Option oQ:=qh n v0 v1 v2 v3 v4 v5 v6 v7 v8 v9 v10
def ref16_Timeline_t:FnT:=⟨[(true,[.int,.int,.int,.int]),(true,[.int,.int,.int,.int,.int,.bool]),(false,[tSc])],(.tup (.cons (.row 156 (.cons .int (.cons .int (.cons .int .nil)))) (.cons .i .nil))),fun n (s:Int×Int×Int×Int×Int×Int×Int×Int×Int×Bool×Lv)=>iW n s.1 s.2.1 s.2.2.1 s.2.2.2.1 s.2.2.2.2.1 s.2.2.2.2.2.1 s.2.2.2.2.2.2.1 s.2.2.2.2.2.2.2.1 s.2.2.2.2.2.2.2.2.1 s.2.2.2.2.2.2.2.2.2.1 s.2.2.2.2.2.2.2.2.2.2⟩
theorem Be:ref16_Timeline_t.ok Tryz.prog 207:=FnT.ok_of (cfg:=⟨[],aH,[],aG⟩) av mK aA (fun s fn hf=>by rw[Tryz.func207]at hf;cases hf;kernel_rfl) (fun n s=>by kernel_rfl)
def ref16_Timeline_T:Tab:=(207,ref16_Timeline_t)::ref16_Outcome_T
theorem lj:ref16_Timeline_T.ok Tryz.prog:=Tab.ok_cons Be mK
abbrev cW:=Int×Int×Int×Int×Int×Int×Int×Int×Int×Bool×Lv
abbrev jy:=Lv×Int×Int
def Al(n:Nat)(go0:jy->Option cW)(v10 v21:Lv)(v22 v23 v24 v25 v28:Int):Option cW:=
 (bif 0<v28 then bif(-9223372036854775808<=(Int.tdiv (cI v10 v23 1) 4))&&((Int.tdiv (cI v10 v23 1) 4)<=9223372036854775807)then(ag n (Int.tdiv (cI v10 v23 1) 4) 3).bind fun y30=>
 (bif 0<y30 then bif(-9223372036854775808<=(v28-1))&&((v28-1)<=9223372036854775807)then(ag n (cI v10 v23 1) 3).bind fun y31=>
 bif(-9223372036854775808<=((v28-1)+y31))&&(((v28-1)+y31)<=9223372036854775807)then(bif (1+v24)=2 then(ag n (cI v10 v23 2) 4).bind fun y32=>
 bif(-9223372036854775808<=(1+y32))&&((1+y32)<=9223372036854775807)then bif (((v21.length:Int)+1)*24)<=140737488355328 then bif(-9223372036854775808<=(v23+1))&&((v23+1)<=9223372036854775807)then go0 ((v21++[[(AV.int (1+v24)),(AV.int (aq v22 ((v28-1)+y31))),(AV.int (1+y32))]]),(aq v22 ((v28-1)+y31)),(v23+1))else none else none else none else(bif (1+v24)=6 then(ag n (cI v10 v23 2) 4).bind fun y32=>
 bif(-9223372036854775808<=(1+y32))&&((1+y32)<=9223372036854775807)then bif (((v21.length:Int)+1)*24)<=140737488355328 then bif(-9223372036854775808<=(v23+1))&&((v23+1)<=9223372036854775807)then go0 ((v21++[[(AV.int (1+v24)),(AV.int (aq v22 ((v28-1)+y31))),(AV.int (1+y32))]]),(aq v22 ((v28-1)+y31)),(v23+1))else none else none else none else bif (((v21.length:Int)+1)*24)<=140737488355328 then bif(-9223372036854775808<=(v23+1))&&((v23+1)<=9223372036854775807)then go0 ((v21++[[(AV.int (1+v24)),(AV.int (aq v22 ((v28-1)+y31))),(AV.int 0)]]),(aq v22 ((v28-1)+y31)),(v23+1))else none else none))else none else none else(bif (1+v24)=2 then(ag n (cI v10 v23 2) 4).bind fun y31=>
 bif(-9223372036854775808<=(1+y31))&&((1+y31)<=9223372036854775807)then bif (((v21.length:Int)+1)*24)<=140737488355328 then bif(-9223372036854775808<=(v23+1))&&((v23+1)<=9223372036854775807)then go0 ((v21++[[(AV.int (1+v24)),(AV.int (v22+v25)),(AV.int (1+y31))]]),(v22+v25),(v23+1))else none else none else none else(bif (1+v24)=6 then(ag n (cI v10 v23 2) 4).bind fun y31=>
 bif(-9223372036854775808<=(1+y31))&&((1+y31)<=9223372036854775807)then bif (((v21.length:Int)+1)*24)<=140737488355328 then bif(-9223372036854775808<=(v23+1))&&((v23+1)<=9223372036854775807)then go0 ((v21++[[(AV.int (1+v24)),(AV.int (v22+v25)),(AV.int (1+y31))]]),(v22+v25),(v23+1))else none else none else none else bif (((v21.length:Int)+1)*24)<=140737488355328 then bif(-9223372036854775808<=(v23+1))&&((v23+1)<=9223372036854775807)then go0 ((v21++[[(AV.int (1+v24)),(AV.int (v22+v25)),(AV.int 0)]]),(v22+v25),(v23+1))else none else none)))else none else(bif (1+v24)=2 then(ag n (cI v10 v23 2) 4).bind fun y30=>
 bif(-9223372036854775808<=(1+y30))&&((1+y30)<=9223372036854775807)then bif (((v21.length:Int)+1)*24)<=140737488355328 then bif(-9223372036854775808<=(v23+1))&&((v23+1)<=9223372036854775807)then go0 ((v21++[[(AV.int (1+v24)),(AV.int (v22+v25)),(AV.int (1+y30))]]),(v22+v25),(v23+1))else none else none else none else(bif (1+v24)=6 then(ag n (cI v10 v23 2) 4).bind fun y30=>
 bif(-9223372036854775808<=(1+y30))&&((1+y30)<=9223372036854775807)then bif (((v21.length:Int)+1)*24)<=140737488355328 then bif(-9223372036854775808<=(v23+1))&&((v23+1)<=9223372036854775807)then go0 ((v21++[[(AV.int (1+v24)),(AV.int (v22+v25)),(AV.int (1+y30))]]),(v22+v25),(v23+1))else none else none else none else bif (((v21.length:Int)+1)*24)<=140737488355328 then bif(-9223372036854775808<=(v23+1))&&((v23+1)<=9223372036854775807)then go0 ((v21++[[(AV.int (1+v24)),(AV.int (v22+v25)),(AV.int 0)]]),(v22+v25),(v23+1))else none else none)))
def xE(n:Nat)(go0:jy->Option cW)(v10:Lv)(v11 v12 v13 v14 v15 v16 v17 v18 v19 v20:Int)(v21:Lv)(v22 v23:Int):Option cW:=
 (bif v23<10 then bif 0<=v23 then(ag n (cI v10 v23 0) 6).bind fun y24=>
 bif(-9223372036854775808<=(1+y24))&&((1+y24)<=9223372036854775807)then(ag n (cI v10 v23 1) 4).bind fun y25=>
 bif(-9223372036854775808<=(v22+y25))&&((v22+y25)<=9223372036854775807)then(jF n v11 v12 v13 v14 v15 v16 (Int.tmod ((v16+1)+v20) 8) v17 v18 (decide (v19=0)) v21 v22).bind fun y26=>
 Al n go0 v10 v21 v22 v23 y24 y25 y26.2.2.1 else none else none else none else some (v11,v12,v13,v14,v15,v16,(Int.tmod ((v16+1)+v20) 8),v17,v18,(decide (v19=0)),v21))
def yD(n:Nat)(go0:jy->Option cW)(v10:Lv)(v11 v12 v13 v14 v15 v16 v17 v18 v19 v20:Int)(v21:Lv)(v22 v23:Int):Option cW:=
 (bif v23<(v10.length:Int) then xE n go0 v10 v11 v12 v13 v14 v15 v16 v17 v18 v19 v20 v21 v22 v23 else some (v11,v12,v13,v14,v15,v16,(Int.tmod ((v16+1)+v20) 8),v17,v18,(decide (v19=0)),v21))
def zA(n:Nat)(v0 v1 v2 v3 v4 v5 v6 v7 v8 v9:Int)(v10:Lv):Option cW:=
 (ea n v0 v1 v2 v3).bind fun y11=>
 (ag n v4 100000000).bind fun y15=>
 (ag n v5 8).bind fun y16=>
 (ag n v7 64).bind fun y17=>
 (ag n v8 1000).bind fun y18=>
 (ag n v9 2).bind fun y19=>
 bif(-9223372036854775808<=(y16+1))&&((y16+1)<=9223372036854775807)then(ag n v6 7).bind fun y20=>
 bif(-9223372036854775808<=((y16+1)+y20))&&(((y16+1)+y20)<=9223372036854775807)then(aa (fun go0 s=>yD n go0 v10 y11.1 y11.2.1 y11.2.2.1 y11.2.2.2 y15 y16 y17 y18 y19 y20 s.1 s.2.1 s.2.2) n ((([]:Lv),y18,0):jy))else none else none
def iP(n:Nat)(v0 v1 v2 v3 v4 v5 v6 v7 v8 v9:Int)(v10:Lv):Option cW:=zA n v0 v1 v2 v3 v4 v5 v6 v7 v8 v9 v10
def ref16_Made_t:FnT:=⟨[(true,[.int,.int,.int,.int,.int,.int,.int,.int,.int,.int,tSc])],(.tup (.cons (.agg (.cons .i (.cons .i (.cons .i (.cons .i .nil))))) (.cons (.agg (.cons .i (.cons .i (.cons .i (.cons .i (.cons .i (.cons .b .nil))))))) (.cons (.row 154 (.cons .int (.cons .int (.cons .int .nil)))) .nil)))),fun n (s:Int×Int×Int×Int×Int×Int×Int×Int×Int×Int×Lv)=>iP n s.1 s.2.1 s.2.2.1 s.2.2.2.1 s.2.2.2.2.1 s.2.2.2.2.2.1 s.2.2.2.2.2.2.1 s.2.2.2.2.2.2.2.1 s.2.2.2.2.2.2.2.2.1 s.2.2.2.2.2.2.2.2.2.1 s.2.2.2.2.2.2.2.2.2.2⟩
theorem GT:ref16_Made_t.ok Tryz.prog 39:=FnT.ok_of (cfg:=⟨[((39,8,10),.inv [(.tmprow 8 154 (.cons .int (.cons .int (.cons .int .nil)))),(.tmp 9 .int),(.tmp 10 .int)])],aH,[],aG⟩) av lj aA (fun s fn hf=>by rw[Tryz.func39]at hf;cases hf;kernel_rfl) (fun n s=>by kernel_rfl)
def ref16_Made_T:Tab:=(39,ref16_Made_t)::ref16_Timeline_T
theorem qG:ref16_Made_T.ok Tryz.prog:=Tab.ok_cons GT lj
abbrev ey:=Bool
abbrev j8:=Int
def vt(n:Nat)(go0:j8->Option ey)(v0 v1:Lv)(v2:Int):Option ey:=
 (bif v2<(v0.length:Int) then bif 0<=v2 then bif v2<(v1.length:Int) then(bif(!((decide ((cI v0 v2 0)=(cI v1 v2 0)))&&((decide ((cI v0 v2 1)=(cI v1 v2 1)))&&(decide ((cI v0 v2 2)=(cI v1 v2 2))))))then some false else bif(-9223372036854775808<=(v2+1))&&((v2+1)<=9223372036854775807)then go0 (v2+1)else none)else none else none else some true)
def uB(n:Nat)(v0 v1:Lv):Option ey:=
 (bif !((v0.length:Int)=(v1.length:Int))then some false else(aa (fun go0 s=>vt n go0 v0 v1 s) n (0:j8)))
def yJ(n:Nat)(v0 v1:Lv):Option ey:=uB n v0 v1
def ref16_SameTimeline_t:FnT:=⟨[(false,[tSc]),(false,[tSc])],.b,fun n (s:Lv×Lv)=>yJ n s.1 s.2⟩
theorem sV:ref16_SameTimeline_t.ok Tryz.prog 44:=FnT.ok_of (cfg:=⟨[((44,4,0),.inv [(.tmp 5 .int)])],aH,[],aG⟩) av qG aA (fun s fn hf=>by rw[Tryz.func44]at hf;cases hf;kernel_rfl) (fun n s=>by kernel_rfl)
def ref16_SameTimeline_T:Tab:=(44,ref16_SameTimeline_t)::ref16_Made_T
theorem ji:ref16_SameTimeline_T.ok Tryz.prog:=Tab.ok_cons sV qG
abbrev rp:=Bool
def ry(n:Nat)(v0 v1 v2 v3 v4:Int):Option rp:=
 (bif 0<=v0 then(bif v0<=99999999 then(bif 0<=v1 then(bif v1<=7 then(bif 0<=v2 then(bif v2<=7 then(bif !(v1=v2)then(bif 0<=v3 then(bif v3<=63 then(bif 0<=v4 then some (decide (v4<=10000000))else some false)else some false)else some false)else some false)else some false)else some false)else some false)else some false)else some false)else some false)
def gP(n:Nat)(v0 v1 v2 v3 v4:Int)(v5:Bool):Option rp:=ry n v0 v1 v2 v3 v4
def claim_isClaim_t:FnT:=⟨[(true,[.int,.int,.int,.int,.int,.bool])],.b,fun n (s:Int×Int×Int×Int×Int×Bool)=>gP n s.1 s.2.1 s.2.2.1 s.2.2.2.1 s.2.2.2.2.1 s.2.2.2.2.2⟩
theorem Cz:claim_isClaim_t.ok Tryz.prog 107:=FnT.ok_of (cfg:=⟨[],aH,[],aG⟩) av ji aA (fun s fn hf=>by rw[Tryz.func107]at hf;cases hf;kernel_rfl) (fun n s=>by kernel_rfl)
def claim_isClaim_T:Tab:=(107,claim_isClaim_t)::ref16_SameTimeline_T
theorem mJ:claim_isClaim_T.ok Tryz.prog:=Tab.ok_cons Cz ji
abbrev eY:=Bool
abbrev sN:=Int×Int
abbrev tE:=Int
def vI(n:Nat)(go0:sN->Option eY)(v10:Lv)(v13 v14:Int):Option eY:=
 (bif v13<(v10.length:Int) then bif 0<=v13 then(bif (cI v10 v13 0)=2 then(bif 1<=(cI v10 v13 0) then(bif !((cI v10 v13 0)<=6)then some (!(decide (0<=v13)))else(bif v14<=(cI v10 v13 1) then(bif !((cI v10 v13 1)<=20000000)then some (!(decide (0<=v13)))else(bif 1<=(cI v10 v13 2) then(bif !((cI v10 v13 2)<=9)then some (!(decide (0<=v13)))else bif(-9223372036854775808<=(v13+1))&&((v13+1)<=9223372036854775807)then go0 ((v13+1),(cI v10 v13 1))else none)else some (!(decide (0<=v13)))))else some (!(decide (0<=v13)))))else some (!(decide (0<=v13))))else(bif (cI v10 v13 0)=6 then(bif 1<=(cI v10 v13 0) then(bif !((cI v10 v13 0)<=6)then some (!(decide (0<=v13)))else(bif v14<=(cI v10 v13 1) then(bif !((cI v10 v13 1)<=20000000)then some (!(decide (0<=v13)))else(bif 1<=(cI v10 v13 2) then(bif !((cI v10 v13 2)<=9)then some (!(decide (0<=v13)))else bif(-9223372036854775808<=(v13+1))&&((v13+1)<=9223372036854775807)then go0 ((v13+1),(cI v10 v13 1))else none)else some (!(decide (0<=v13)))))else some (!(decide (0<=v13)))))else some (!(decide (0<=v13))))else(bif 1<=(cI v10 v13 0) then(bif !((cI v10 v13 0)<=6)then some (!(decide (0<=v13)))else(bif v14<=(cI v10 v13 1) then(bif !((cI v10 v13 1)<=20000000)then some (!(decide (0<=v13)))else(bif 0<=(cI v10 v13 2) then(bif !((cI v10 v13 2)<=0)then some (!(decide (0<=v13)))else bif(-9223372036854775808<=(v13+1))&&((v13+1)<=9223372036854775807)then go0 ((v13+1),(cI v10 v13 1))else none)else some (!(decide (0<=v13)))))else some (!(decide (0<=v13)))))else some (!(decide (0<=v13))))))else none else some true)
def wU(n:Nat)(go0:tE->Option eY)(v0 v1 v2 v3 v4 v5 v6 v7 v8:Int)(v9:Bool)(v10:Lv)(v11:Int):Option eY:=
 (bif v11<4 then bif 0<=v11 then(bif 1<=(cI ((((([]:Lv)++[[(AV.int v0)]])++[[(AV.int v2)]])++[[(AV.int v1)]])++[[(AV.int v3)]]) v11 0) then(bif !((cI ((((([]:Lv)++[[(AV.int v0)]])++[[(AV.int v2)]])++[[(AV.int v1)]])++[[(AV.int v3)]]) v11 0)<=1000000)then some false else bif(-9223372036854775808<=(v11+1))&&((v11+1)<=9223372036854775807)then go0 (v11+1)else none)else some false)else none else(gP n v4 v5 v6 v7 v8 v9).bind fun y12=>
 (bif(!y12)then some false else(bif 20<(v10.length:Int) then some false else(aa (fun go0 s=>vI n go0 v10 s.1 s.2) n ((0,v8):sN)))))
def wi(n:Nat)(v0 v1 v2 v3 v4 v5 v6 v7 v8:Int)(v9:Bool)(v10:Lv):Option eY:=
 (aa (fun go0 s=>wU n go0 v0 v1 v2 v3 v4 v5 v6 v7 v8 v9 v10 s) n (0:tE))
def gU(n:Nat)(v0 v1 v2 v3 v4 v5 v6 v7 v8:Int)(v9:Bool)(v10:Lv):Option eY:=wi n v0 v1 v2 v3 v4 v5 v6 v7 v8 v9 v10
def claim_Valid_t:FnT:=⟨[(true,[.int,.int,.int,.int]),(true,[.int,.int,.int,.int,.int,.bool]),(false,[tSc])],.b,fun n (s:Int×Int×Int×Int×Int×Int×Int×Int×Int×Bool×Lv)=>gU n s.1 s.2.1 s.2.2.1 s.2.2.2.1 s.2.2.2.2.1 s.2.2.2.2.2.1 s.2.2.2.2.2.2.1 s.2.2.2.2.2.2.2.1 s.2.2.2.2.2.2.2.2.1 s.2.2.2.2.2.2.2.2.2.1 s.2.2.2.2.2.2.2.2.2.2⟩
theorem Fm:claim_Valid_t.ok Tryz.prog 139:=FnT.ok_of (cfg:=⟨[((106,2,4),.inv [(.tmp 15 .int)]),((206,2,7),.inv [(.tmp 8 .int),(.cell 5 0 .int)])],aH,[],aG⟩) av mJ aA (fun s fn hf=>by rw[Tryz.func139]at hf;cases hf;kernel_rfl) (fun n s=>by kernel_rfl)
def claim_Valid_T:Tab:=(139,claim_Valid_t)::claim_isClaim_T
theorem oM:claim_Valid_T.ok Tryz.prog:=Tab.ok_cons Fm mJ
abbrev kg:=Int×Int
abbrev w7:=Int
def zC(n:Nat)(go0:w7->Option kg)(v0 v1 v2 v3 v4 v5 v6 v7 v8:Int)(v9:Bool)(v10:Int):Option kg:=
 (bif v10<4 then bif 0<=v10 then(bif 1<=(cI ((((([]:Lv)++[[(AV.int v0)]])++[[(AV.int v2)]])++[[(AV.int v1)]])++[[(AV.int v3)]]) v10 0) then(bif !((cI ((((([]:Lv)++[[(AV.int v0)]])++[[(AV.int v2)]])++[[(AV.int v1)]])++[[(AV.int v3)]]) v10 0)<=1000000)then some (0,160)else bif(-9223372036854775808<=(v10+1))&&((v10+1)<=9223372036854775807)then go0 (v10+1)else none)else some (0,160))else none else(gP n v4 v5 v6 v7 v8 v9).bind fun y11=>
 (bif(!y11)then some (0,160)else bif(-9223372036854775808<=(v8+v0))&&((v8+v0)<=9223372036854775807)then bif(-9223372036854775808<=((v8+v0)-1))&&(((v8+v0)-1)<=9223372036854775807)then bif(-9223372036854775808<=(((v8+v0)-1)+v2))&&((((v8+v0)-1)+v2)<=9223372036854775807)then bif(-9223372036854775808<=((((v8+v0)-1)+v2)+v1))&&(((((v8+v0)-1)+v2)+v1)<=9223372036854775807)then bif(-9223372036854775808<=(((((v8+v0)-1)+v2)+v1)+v3))&&((((((v8+v0)-1)+v2)+v1)+v3)<=9223372036854775807)then some ((((((v8+v0)-1)+v2)+v1)+v3),0)else none else none else none else none else none))
def yP(n:Nat)(v0 v1 v2 v3 v4 v5 v6 v7 v8:Int)(v9:Bool):Option kg:=
 (aa (fun go0 s=>zC n go0 v0 v1 v2 v3 v4 v5 v6 v7 v8 v9 s) n (0:w7))
def uH(n:Nat)(v0 v1 v2 v3 v4 v5 v6 v7 v8:Int)(v9:Bool):Option kg:=yP n v0 v1 v2 v3 v4 v5 v6 v7 v8 v9
def claim_Ends_t:FnT:=⟨[(true,[.int,.int,.int,.int]),(true,[.int,.int,.int,.int,.int,.bool])],(.tup (.cons .i (.cons .i .nil))),fun n (s:Int×Int×Int×Int×Int×Int×Int×Int×Int×Bool)=>uH n s.1 s.2.1 s.2.2.1 s.2.2.2.1 s.2.2.2.2.1 s.2.2.2.2.2.1 s.2.2.2.2.2.2.1 s.2.2.2.2.2.2.2.1 s.2.2.2.2.2.2.2.2.1 s.2.2.2.2.2.2.2.2.2⟩
theorem HI:claim_Ends_t.ok Tryz.prog 43:=FnT.ok_of (cfg:=⟨[((106,2,4),.inv [(.tmp 15 .int)])],aH,[],aG⟩) av oM aA (fun s fn hf=>by rw[Tryz.func43]at hf;cases hf;kernel_rfl) (fun n s=>by kernel_rfl)
def claim_Ends_T:Tab:=(43,claim_Ends_t)::claim_Valid_T
theorem rR:claim_Ends_T.ok Tryz.prog:=Tab.ok_cons HI oM
end
open Go.RowKit Go.Dial
def mtE:MTab:=[(141,SV.of [.agg (SV.of [.vi (.int 1),.vi (.int 1)]),.agg (SV.of [.vi (.int 2),.vi (.int 1)]),.agg (SV.of [.vi (.int 3),.vi (.int 2)]),.agg (SV.of [.vi (.int 4),.vi (.int 2)]),.agg (SV.of [.vi (.int 5),.vi (.int 1)]),.agg (SV.of [.vi (.int 5),.vi (.int 2)]),.agg (SV.of [.vi (.int 5),.vi (.int 3)]),.agg (SV.of [.vi (.int 6),.vi (.int 4)])],SV.of [.vi (.int 3),.vi (.int 2),.vi (.int 3),.vi (.int 6),.vi (.int 7),.vi (.int 7),.vi (.int 7),.vi (.int 8)])]
def effTbl:List (Int×Int×Int):=[(1,1,3),(2,1,2),(3,2,3),(4,2,6),(5,1,7),(5,2,7),(5,3,7),(6,4,8)]
def jm(k s:Int):Value:=.agg #[.int .i64 k,.int .i64 s]
theorem M3{P:Program}{md:Region.Mode}{ops:Array Oper}{Q:Exit->Act->World->Prop}(J:Array Bool->Act->World->Prop)
  (hz:∀l a w,J l a w->l.size=ops.size)
  (hs:∀l a w i,J l a w->i∈Region.ready md ops l->wpOp P ops Q i (J (l.setIfInBounds i true)) a w)
  (he:∀l a w,J l a w->Region.ready md ops l=[]->Q .normal a w):
  ∀(fuel:Nat) (l:Array Bool) (a:Act) (w:World),J l a w->(l.toList.filter fun b=> !b).length<=fuel->wpAny P md ops Q fuel l a w:=by
 have none_left:∀l:Array Bool,(l.toList.filter fun b=> !b).length=0->Region.ready md ops l=[]:=fun l hl=>by
  unfold Region.ready;rw[List.filter_eq_nil_iff];intro i _ hi;rw[Bool.and_eq_true]at hi;have h1:=hi.1;cases hc:l[i]? with
  |none=>simp[hc]at h1
  |some b=>
   have:b=false:=by simpa[hc]using h1
   subst this;have hm:false∈l.toList.filter fun b=> !b:=List.mem_filter.2 ⟨by simpa using Array.mem_of_getElem? hc,rfl⟩
   rw[List.length_eq_zero_iff.1 hl]at hm;cases hm
 have less:∀(l:List Bool) (i:Nat),l[i]?=some false->((l.set i true).filter fun b=> !b).length+1=(l.filter fun b=> !b).length:=by
  intro l;induction l with
  |nil=>intro i h;simp at h
  | cons b l ih=>
   intro i h;cases i with
   |zero=>cases h;simp
   |succ i=>
    have:=ih i h
    cases b<;>simp[List.filter_cons]at this⊢<;>omega
 intro fuel;induction fuel with
 |zero=>
  intro l a w hJ hl;exact⟨none_left l (by omega),he l a w hJ (none_left l (by omega))⟩
 | succ fuel ih=>
  intro l a w hJ hl;refine⟨fun h=>he l a w hJ h,fun i hi=>?_⟩
  have h1:l[i]?=some false:=by
   unfold Region.ready at hi;rw[List.mem_filter,Bool.and_eq_true]at hi;have h1:=hi.2.1;cases hc:l[i]? with
   |none=>simp[hc]at h1
   |some b=>cases b<;>simp[hc]at h1⊢
  have hf:((l.setIfInBounds i true).toList.filter fun b=> !b).length<=fuel:=by
   have:=less l.toList i (by simpa using h1)
   rw[Array.toList_setIfInBounds];omega
  exact wpOp_mono (fun a w h=>ih _ a w h hf) (hs l a w i hJ hi)
structure JE (w0:World) (l:Array Bool) (a:Act) (w:World):Prop where
 sz:l.size=19
 ts:a.tmps.size=11
 df:a.defers=[]
 below:Below w0.heap.size w0 w
 m:l[0]?=some true->∃r es c,a.tmps[1]?=some (.map (some r))/\w0.heap.size<=r/\w.heap[r]?=some (.map es c) ∧
  (∀(j:Nat) k s v,effTbl[j]?=some (k,s,v)->l[2*j+2]?=some true->∃e∈es.toList,e.key=jm k s/\e.val=.int .i64 v) ∧
  (∀e∈es.toList,∃(j:Nat) (k s v:Int),effTbl[j]?=some (k,s,v)/\l[2*j+2]?=some true/\e.key=jm k s/\e.val=.int .i64 v)
 b:∀(j:Nat) k s v,effTbl[j]?=some (k,s,v)->l[2*j+1]?=some true->a.tmps[j+2]?=some (jm k s)
 n:∀(j:Nat),j<8->l[2*j+2]?=some true->l[0]?=some true
 o17:l[17]?=some true->l[0]?=some true/\a.tmps[10]?=a.tmps[1]?
 o18:l[18]?=some true->l[17]?=some true/\a.tmps[0]?=a.tmps[10]?
noncomputable def opsE:Array Oper:=match Tryz.f141.body with
 |some (.seq _ (.seq (.region _ ops _) _))=>ops
 |_=>#[]
theorem Ri:Tryz.f141.body=some (.seq (.region 0 #[{ dst:=some 0,op:=.assign (.const (.map none)),type:=211,pos := "claim.go:76",after:=#[],guard:=none }] false) (.seq (.region 1 opsE true) .ret)):=by kernel_rfl
theorem Dw:opsE.size=19:=by kernel_rfl
theorem tyE:Tryz.prog.underlying 211=some (.map 253 ((Tryz.prog.underlying 211).elim 0 fun|.map _ e=>e|_=>0)):=by kernel_rfl
theorem Og(k s:Int):lO Tryz.prog 253 (jm k s):=by
 have h:rY Tryz.prog 253 (.agg (SV.of [.vi (.int k),.vi (.int s)]))=true:=by kernel_rfl
 exact uJ (env:=[]) (κ:=fun _=>undef) (F:=fun _=>False) (w:=default) h ⟨#[.int .i64 k,.int .i64 s],rfl,rfl,⟨_,[.int .i64 s],rfl,⟨rfl,rfl⟩,⟨_,[],rfl,⟨rfl,rfl⟩,rfl⟩⟩⟩
theorem C3(l:Array Bool)(i:Nat)(h:i∈Region.ready .any opsE l):i<19/\l[i]?=some false/\∀o,opsE[i]?=some o->∀e∈o.after,Region.binds .any e=true->l[e.on]?=some true:=by
 unfold Region.ready at h;rw[List.mem_filter,Bool.and_eq_true,List.mem_range,Dw]at h;obtain⟨h1,h2,h3⟩:=h;refine⟨h1,?_,fun o ho e he hb=>?_⟩
 ·cases hc:l[i]? with
  |none=>simp[hc]at h2
  |some b=>cases b<;>simp[hc]at h2⊢
 ·rw[ho]at h3
  simp only[Option.map_some,Option.getD_some,Array.all_eq_true_iff_forall_mem]at h3;have:=h3 e he
  rw[hb]at this;cases hc:l[e.on]? with
  |none=>simp[hc]at this
  |some b=>cases b<;>simp[hc]at this⊢
theorem DB{i:Nat}{x:Op×Option Tmp×Option (Nat×Bool)×List Edge}{q:Nat}(h:(opsE[i]?).map (fun o=>(o.op,o.dst,o.guard,o.after.toList.take q))=some x):∃o,opsE[i]?=some o/\o.op=x.1/\o.dst=x.2.1/\o.guard=x.2.2.1/\∀e∈x.2.2.2,e∈o.after:=by
 obtain⟨o,h1,rfl⟩:=Option.map_eq_some_iff.1 h;exact⟨o,h1,rfl,rfl,rfl,fun e he=>by simpa using List.mem_of_mem_take he⟩
theorem op0:(opsE[0]?).map (fun o=>(o.op,o.dst,o.guard,o.after.toList.take 0))=some (.makeMap 211 none,some 1,none,[]):=by kernel_rfl
theorem opB(j:Nat)(k s v:Int)(h:effTbl[j]?=some (k,s,v)):(opsE[2*j+1]?).map (fun o=>(o.op,o.dst,o.guard,o.after.toList.take 0))=some (.build 253 #[(0,.const (.int .i64 k)),(1,.const (.int .i64 s))],some (j+2),none,[]):=by
 have hj:j<8:=(List.getElem?_eq_some_iff.1 h).1
 have:j=0\/j=1\/j=2\/j=3\/j=4\/j=5\/j=6\/j=7:=by omega
 rcases this with rfl|rfl|rfl|rfl|rfl|rfl|rfl|rfl<;>(simp only[effTbl,List.getElem?_cons_zero,List.getElem?_cons_succ,Option.some.injEq,Prod.mk.injEq]at h;obtain⟨rfl,rfl,rfl⟩:=h)
 all_goals (show _=_;kernel_rfl)
theorem opI(j:Nat)(k s v:Int)(h:effTbl[j]?=some (k,s,v)):(opsE[2*j+2]?).map (fun o=>(o.op,o.dst,o.guard,o.after.toList.take 2))=some (.insert 211 (.tmp 1) (.tmp (j+2)) (.const (.int .i64 v)),none,none,[{ on:=0,ground:=.data },{ on:=2*j+1,ground:=.data }]):=by
 have hj:j<8:=(List.getElem?_eq_some_iff.1 h).1
 have:j=0\/j=1\/j=2\/j=3\/j=4\/j=5\/j=6\/j=7:=by omega
 rcases this with rfl|rfl|rfl|rfl|rfl|rfl|rfl|rfl<;>(simp only[effTbl,List.getElem?_cons_zero,List.getElem?_cons_succ,Option.some.injEq,Prod.mk.injEq]at h;obtain⟨rfl,rfl,rfl⟩:=h)
 all_goals (show _=_;kernel_rfl)
theorem Rv:(opsE[17]?).map (fun o=>(o.op,o.dst,o.guard,o.after.toList.take 1))=some (.move (.tmp 1),some 10,none,[{ on:=0,ground:=.data }]):=by kernel_rfl
theorem RK:(opsE[18]?).map (fun o=>(o.op,o.dst,o.guard,o.after.toList.take 1))=some (.assign (.tmp 10),some 0,none,[{ on:=17,ground:=.data }]):=by kernel_rfl
theorem Qh(k s:Int):Tryz.prog.built 253 [(0,.int .i64 k),(1,.int .i64 s)]=some #[.int .i64 k,.int .i64 s]:=by kernel_rfl
theorem lI{P:Program}{ops:Array Oper}{Q:Exit->Act->World->Prop}{i:Nat}{o:Oper}{a:Act}{w w':World}{u:Value}{K:Act->World->Prop}(ho:ops[i]?=some o)(hg:o.guard=none)(hr:dd P o a w u w')(hk:K (a.put o.dst u) w'):wpOp P ops Q i K a w:=by
 unfold wpOp;rw[ho];simp only
 have hw:Region.wanted o (yielded ops a.tmps)=true:=by unfold Region.wanted;rw[hg]
 rw[if_pos hw];left
 unfold Oper.wp;rcases hr with h|⟨rfl,h⟩<;>rw[h]<;>exact hk
theorem DS{a:Act}{d:Nat}{v:Value}(hd:d<a.tmps.size):(a.put (some d) v).tmps[d]?=some v:=by
 simp[Act.put,hd]
theorem eS{a:Act}{d x:Nat}{v:Value}(h:d≠x):(a.put (some d) v).tmps[x]?=a.tmps[x]?:=by
 simp[Act.put,Array.getElem?_setIfInBounds,h]
theorem ym{a:Act}{d:Option Nat}{v:Value}:(a.put d v).tmps.size=a.tmps.size:=by
 cases d<;>simp[Act.put]
theorem zj{a:Act}{d:Option Nat}{v:Value}:(a.put d v).defers=a.defers:=by
 cases d<;>simp[Act.put]
theorem OO{l:Array Bool}{i:Nat}(h:i<l.size):(l.setIfInBounds i true)[i]?=some true:=by simp[h]
theorem bt{l:Array Bool}{i x:Nat}(h:i≠x):(l.setIfInBounds i true)[x]?=l[x]?:=by simp[Array.getElem?_setIfInBounds,h]
theorem ut{a:Act}{d:Nat}{v:Value}(h:a.tmps[d]?=some v):a.eval (.tmp d)=v:=by
 simp[Act.eval,h]
theorem lt8{j:Nat}{x:Int×Int×Int}(h:effTbl[j]?=some x):j<8:=(List.getElem?_eq_some_iff.1 h).1
section
variable {w0:World} {l:Array Bool} {a:Act} {w:World} {Q:Exit->Act->World->Prop}
theorem Re(h:JE w0 l a w){j:Nat}{k s v:Int}(hj:effTbl[j]?=some (k,s,v))(hi:2*j+1∈Region.ready .any opsE l):wpOp Tryz.prog opsE Q (2*j+1) (JE w0 (l.setIfInBounds (2*j+1) true)) a w:=by
 obtain⟨o,ho,h1,h2,h3,_⟩:=DB (opB j k s v hj);have hj8:j<8:=(List.getElem?_eq_some_iff.1 hj).1
 refine lI (u:=jm k s) (w':=w) ho h3 (.inl ?_) ?_
 ·have hrun:=run_build (P:=Tryz.prog) w 253 [(0,.int .i64 k),(1,.int .i64 s)].toArray _ (Qh k s)
  simp only[execOp,h1];rw[Sem.run_bind];have hmap:Array.map (fun x=>(x.fst,a.eval x.snd)) #[(0,Operand.const (Value.int .i64 k)),(1,Operand.const (Value.int .i64 s))]=#[(0,Value.int .i64 k),(1,Value.int .i64 s)]:=by simp[Act.eval]
  have hrun':Sem.run Tryz.prog (Instr.build 253 #[(0,Value.int .i64 k),(1,Value.int .i64 s)]) w=.ok (jm k s) w:=hrun
  rw[hmap,hrun',Result.andThen_ok,Sem.run_pure]
 ·rw[h2]
  have hs:=h.sz;have ht:=h.ts;refine⟨by simpa using hs,by rw[ym];exact ht,by rw[zj];exact h.df,h.below,fun h0=>?_,fun j' k' s' v' hj' hl=>?_,fun j' hj' hl=>?_,fun h17=>?_,fun h18=>?_⟩
  ·rw[bt (by omega)]at h0
   obtain⟨r,es,c,q1,q2,q3,q4,q5⟩:=h.m h0;refine⟨r,es,c,by rw[eS (by omega)];exact q1,q2,q3,fun j' k' s' v' hj' hl=>?_,fun e he=>?_⟩
   ·rw[bt (by omega)]at hl;exact q4 j' k' s' v' hj' hl
   ·obtain⟨j',k',s',v',e1,e2,e3⟩:=q5 e he
    exact⟨j',k',s',v',e1,by rw[bt (by omega)];exact e2,e3⟩
  ·by_cases e:j'=j
   ·subst e
    rw[hj]at hj';cases hj'
    exact DS (by omega)
   ·rw[bt (by omega)]at hl
    rw[eS (by omega)]
    exact h.b j' k' s' v' hj' hl
  ·rw[bt (by omega)]at hl⊢;exact h.n j' hj' hl
  ·rw[bt (by omega)]at h17
   rw[bt (by omega),eS (by omega),eS (by omega)];exact h.o17 h17
  ·rw[bt (by omega)]at h18
   rw[bt (by omega),eS (by omega),eS (by omega)];exact h.o18 h18
theorem Rc(h:JE w0 l a w)(hi:0∈Region.ready .any opsE l):wpOp Tryz.prog opsE Q 0 (JE w0 (l.setIfInBounds 0 true)) a w:=by
 obtain⟨o,ho,h1,h2,h3,_⟩:=DB op0;obtain⟨_,hl0,_⟩:=C3 l 0 hi;refine lI (u:=.map (some w.heap.size)) (w':=w.alloc (.map #[] 0)) ho h3 (.inl ?_) ?_
 ·simp[execOp,h1,Instr.makeMap]
 ·rw[h2]
  have hs:=h.sz;have ht:=h.ts;have no:∀j,j<8->l[2*j+2]?≠some true:=fun j hj hl=>by
   have:=h.n j hj hl
   rw[hl0]at this;cases this
  refine⟨by simpa using hs,by rw[ym];exact ht,by rw[zj];exact h.df,h.below.alloc h.below.size _,fun h0=>?_,fun j' k' s' v' hj' hl=>?_,fun j' hj' hl=>?_,fun h17=>?_,fun h18=>?_⟩
  ·refine⟨w.heap.size,#[],0,DS (by omega),h.below.size,World.alloc_heap_new _ _,fun j' k' s' v' hj' hl=>?_,fun e he=>by simp at he⟩
   rw[bt (by omega)]at hl
   exact absurd hl (no j' (List.getElem?_eq_some_iff.1 hj').1)
  ·rw[bt (by omega)]at hl
   rw[eS (by omega)]
   exact h.b j' k' s' v' hj' hl
  ·rw[bt (by omega)]at hl
   exact absurd hl (no j' hj')
  ·rw[bt (by omega)]at h17
   have:=(h.o17 h17).1
   rw[hl0]at this;cases this
  ·rw[bt (by omega)]at h18
   have:=(h.o17 (h.o18 h18).1).1
   rw[hl0]at this;cases this
theorem Qz(h:JE w0 l a w)(hi:17∈Region.ready .any opsE l):wpOp Tryz.prog opsE Q 17 (JE w0 (l.setIfInBounds 17 true)) a w:=by
 obtain⟨o,ho,h1,h2,h3,h4⟩:=DB Rv;obtain⟨_,hl0,hd⟩:=C3 l 17 hi;have h0:l[0]?=some true:=hd o ho _ (h4 _ (List.mem_cons_self ..)) rfl
 obtain⟨r,es,c,q1,q2,q3,q4,q5⟩:=h.m h0;refine lI (u:=.map (some r)) (w':=w) ho h3 (.inl ?_) ?_
 ·simp[execOp,h1,ut q1]
 ·rw[h2]
  have hs:=h.sz;have ht:=h.ts;refine⟨by simpa using hs,by rw[ym];exact ht,by rw[zj];exact h.df,h.below,fun _=>?_,fun j' k' s' v' hj' hl=>?_,fun j' hj' hl=>?_,fun h17=>?_,fun h18=>?_⟩
  ·refine⟨r,es,c,by rw[eS (by omega)];exact q1,q2,q3,fun j' k' s' v' hj' hl=>?_,fun e he=>?_⟩
   ·have:=lt8 hj'
    rw[bt (by omega)]at hl;exact q4 j' k' s' v' hj' hl
   ·obtain⟨j',k',s',v',e1,e2,e3⟩:=q5 e he
    exact⟨j',k',s',v',e1,by rw[bt (by omega)];exact e2,e3⟩
  ·have hj8:j'<8:=(List.getElem?_eq_some_iff.1 hj').1
   rw[bt (by omega)]at hl
   rw[eS (by omega)]
   exact h.b j' k' s' v' hj' hl
  ·rw[bt (by omega)]at hl⊢;exact h.n j' hj' hl
  ·exact⟨by rw[bt (by omega)];exact h0,by rw[DS (by omega),eS (by omega)];exact q1.symm⟩
  ·rw[bt (by omega)]at h18
   have:=(h.o18 h18).1
   rw[hl0]at this;cases this
theorem QZ(h:JE w0 l a w)(hi:18∈Region.ready .any opsE l):wpOp Tryz.prog opsE Q 18 (JE w0 (l.setIfInBounds 18 true)) a w:=by
 obtain⟨o,ho,h1,h2,h3,h4⟩:=DB RK;obtain⟨_,hl0,hd⟩:=C3 l 18 hi;have h17:l[17]?=some true:=hd o ho _ (h4 _ (List.mem_cons_self ..)) rfl
 obtain⟨h0,h10⟩:=h.o17 h17;obtain⟨r,es,c,q1,q2,q3,q4,q5⟩:=h.m h0;refine lI (u:=.map (some r)) (w':=w) ho h3 (.inl ?_) ?_
 ·simp[execOp,h1,ut (h10.trans q1)]
 ·rw[h2]
  have hs:=h.sz;have ht:=h.ts;refine⟨by simpa using hs,by rw[ym];exact ht,by rw[zj];exact h.df,h.below,fun _=>?_,fun j' k' s' v' hj' hl=>?_,fun j' hj' hl=>?_,fun h17=>?_,fun h18=>?_⟩
  ·refine⟨r,es,c,by rw[eS (by omega)];exact q1,q2,q3,fun j' k' s' v' hj' hl=>?_,fun e he=>?_⟩
   ·have:=lt8 hj'
    rw[bt (by omega)]at hl;exact q4 j' k' s' v' hj' hl
   ·obtain⟨j',k',s',v',e1,e2,e3⟩:=q5 e he
    have:=lt8 e1
    exact⟨j',k',s',v',e1,by rw[bt (by omega)];exact e2,e3⟩
  ·have hj8:j'<8:=(List.getElem?_eq_some_iff.1 hj').1
   rw[bt (by omega)]at hl
   rw[eS (by omega)]
   exact h.b j' k' s' v' hj' hl
  ·rw[bt (by omega)]at hl⊢;exact h.n j' hj' hl
  ·exact⟨by rw[bt (by omega)];exact h0,by rw[eS (by omega),eS (by omega)];exact h10⟩
  ·exact⟨by rw[bt (by omega)];exact h17,by rw[DS (by omega),eS (by omega),h10];exact q1.symm⟩
theorem K0{j j':Nat}{k s v v':Int}(h:effTbl[j]?=some (k,s,v))(h':effTbl[j']?=some (k,s,v')):j=j':=by
 have e:∀i:Nat,i<8->∀i':Nat,i'<8->(effTbl[i]?).map (fun x=>(x.1,x.2.1))=(effTbl[i']?).map (fun x=>(x.1,x.2.1))->i=i':=by decide
 exact e j (List.getElem?_eq_some_iff.1 h).1 j' (List.getElem?_eq_some_iff.1 h').1 (by rw[h,h'];rfl)
theorem IF{k s k' s':Int}(h:jm k s=jm k' s'):k=k'/\s=s':=by
 unfold jm at h;simpa using h
theorem Q5(h:JE w0 l a w){j:Nat}{k s v:Int}(hj:effTbl[j]?=some (k,s,v))(hi:2*j+2∈Region.ready .any opsE l):wpOp Tryz.prog opsE Q (2*j+2) (JE w0 (l.setIfInBounds (2*j+2) true)) a w:=by
 obtain⟨o,ho,h1,h2,h3,h4⟩:=DB (opI j k s v hj);have hj8:j<8:=(List.getElem?_eq_some_iff.1 hj).1
 obtain⟨_,hl0,hd⟩:=C3 l _ hi;have h0:l[0]?=some true:=hd o ho _ (h4 _ (List.mem_cons_self ..)) rfl
 have hb:l[2*j+1]?=some true:=hd o ho _ (h4 _ (List.mem_cons_of_mem _ (List.mem_cons_self ..))) rfl
 obtain⟨r,es,c,q1,q2,q3,q4,q5⟩:=h.m h0;have hk:=h.b j k s v hj hb;have hkes:∀e∈es.toList,lO Tryz.prog 253 e.key:=fun e he=>by
  obtain⟨j',k',s',v',_,_,e3,_⟩:=q5 e he;rw[e3];exact Og _ _
 obtain⟨fr,f1,f2⟩:=CR (w:=w) (Og k s) es.toList hkes
 have hno:∀e∈es.toList,e.key≠jm k s:=fun e he hh=>by
  obtain⟨j',k',s',v',e1,e2,e3,_⟩:=q5 e he;rw[e3]at hh;obtain⟨rfl,rfl⟩:=IF hh;have:=K0 hj e1
  subst this;rw[hl0]at e2;cases e2
 have hfr:fr=none:=by
  rcases f2 with⟨f2,_⟩|⟨i,e,he,f3,_⟩
  ·exact f2
  ·exact absurd f3 (hno e he)
 subst hfr;obtain⟨W,hW⟩:∃W,W={ w with heap:=w.heap.setIfInBounds r (.map (es.push { key:=jm k s,val:=.int .i64 v,born:=c }) (c+1)) }:=⟨_,rfl⟩
 have hlt:=fa q3;have hrun:(Instr.mapUpdate 211 (.map (some r)) (jm k s) (.int .i64 v)).run Tryz.prog w=.ok () W:=by
  rw[hW];simp only[Instr.mapUpdate,run_underlying tyE,Sem.run_bind,Result.andThen_ok,run_getObj_map w r es c q3,rZ (Og k s),f1,uf _ q3]
 have hR:dd Tryz.prog o a w undef W:=.inr ⟨rfl,by
  simp only[execOp,h1,ut q1,ut hk];show Sem.run Tryz.prog (Instr.mapUpdate 211 (.map (some r)) (jm k s) (.int .i64 v) >>= fun _=>pure Next.skip) w=_
  rw[Sem.run_bind,hrun,Result.andThen_ok,Sem.run_pure]⟩
 refine lI ho h3 hR ?_
 rw[h2];have hs:=h.sz;have ht:=h.ts;have hBW:Below w0.heap.size w0 W:=by
  have hB:=h.below;rw[hW];exact⟨hB.os,hB.tape,hB.output,by simpa using hB.size,fun k hk=>by
   have:r≠k:=by omega
   simp[this]
   exact hB.block k hk⟩
 refine⟨by simpa using hs,ht,h.df,hBW,fun _=>?_,fun j' k' s' v' hj' hl=>?_,fun j' hj' hl=>?_,fun h17=>?_,fun h18=>?_⟩
 ·refine⟨r,es.push { key:=jm k s,val:=.int .i64 v,born:=c },c+1,q1,q2,by rw[hW];simp[hlt],fun j' k' s' v' hj' hl=>?_,fun e he=>?_⟩
  ·by_cases e:j'=j
   ·subst e
    rw[hj]at hj';cases hj'
    exact⟨{ key:=jm k s,val:=.int .i64 v,born:=c },by simp,rfl,rfl⟩
   ·rw[bt (by omega)]at hl
    obtain⟨e,he,e1⟩:=q4 j' k' s' v' hj' hl;exact⟨e,by simp at he⊢;exact .inl he,e1⟩
  ·simp only[Array.toList_push,List.mem_append,List.mem_singleton]at he
   rcases he with he|rfl
   ·obtain⟨j',k',s',v',e1,e2,e3⟩:=q5 e he
    by_cases e:j'=j
    ·subst e
     rw[hl0]at e2;cases e2
    ·exact⟨j',k',s',v',e1,by rw[bt (by omega)];exact e2,e3⟩
   ·exact⟨j,k,s,v,hj,OO (by omega),rfl,rfl⟩
 ·rw[bt (by omega)]at hl;exact h.b j' k' s' v' hj' hl
 ·rw[bt (by omega)];exact h0
 ·rw[bt (by omega)]at h17⊢;exact h.o17 h17
 ·by_cases e:2*j+2=18
  ·omega
  ·rw[bt (by omega)]at h18⊢;exact h.o18 h18
end
theorem Ra:(opsE.toList.zipIdx.all fun x=>x.1.after.toList.all fun e=>decide (e.on<x.2))=true:=by kernel_rfl
theorem RI{l:Array Bool}(hs:l.size=19)(h:Region.ready .any opsE l=[]):∀i,i<19->l[i]?=some true:=by
 intro i;induction i using Nat.strongRecOn with
 | _ i ih=>
  intro hi;cases hc:l[i]? with
  |none=>rw[Array.getElem?_eq_none_iff]at hc;omega
  | some b=>
   cases b with
   |true=>rfl
   | false=>
    exfalso
    have hsz:=Dw;have hm:i∈Region.ready .any opsE l:=by
     unfold Region.ready;rw[List.mem_filter,Bool.and_eq_true,List.mem_range];refine⟨by omega,by simp[hc],?_⟩
     have ho:opsE[i]?=some opsE[i]:=Array.getElem?_eq_getElem (by omega)
     rw[ho];simp only[Option.map_some,Option.getD_some,Array.all_eq_true_iff_forall_mem];intro e he;have hb:=List.all_eq_true.1 Ra (opsE[i],i) (by
      rw[List.mem_iff_getElem?];exact⟨i,by rw[List.getElem?_zipIdx,Array.getElem?_toList,ho];simp⟩)
     have hlt:=List.all_eq_true.1 hb e (by simpa using he)
     have hlt:e.on<i:=by simpa using hlt
     have:=ih e.on hlt (by omega)
     rw[Bool.or_eq_true];right
     simp[this]
    rw[h]at hm;cases hm
theorem listE:((SV.of [.agg (SV.of [.vi (.int 1),.vi (.int 1)]),.agg (SV.of [.vi (.int 2),.vi (.int 1)]),.agg (SV.of [.vi (.int 3),.vi (.int 2)]),.agg (SV.of [.vi (.int 4),.vi (.int 2)]),.agg (SV.of [.vi (.int 5),.vi (.int 1)]),.agg (SV.of [.vi (.int 5),.vi (.int 2)]),.agg (SV.of [.vi (.int 5),.vi (.int 3)]),.agg (SV.of [.vi (.int 6),.vi (.int 4)])]).list=effTbl.map fun x=>.agg (SV.of [.vi (.int x.1),.vi (.int x.2.1)])) ∧
 (SV.of [.vi (.int 3),.vi (.int 2),.vi (.int 3),.vi (.int 6),.vi (.int 7),.vi (.int 7),.vi (.int 7),.vi (.int 8)]).list=effTbl.map fun x=>.vi (.int x.2.2):=⟨rfl,rfl⟩
theorem MR(w:World)(k s:Int):SVden [] (fun _=>undef) (fun _=>False) w (.agg (SV.of [.vi (.int k),.vi (.int s)])) (jm k s):=
 ⟨#[.int .i64 k,.int .i64 s],rfl,rfl,⟨_,[.int .i64 s],rfl,⟨rfl,rfl⟩,⟨_,[],rfl,⟨rfl,rfl⟩,rfl⟩⟩⟩
theorem aX:mtE.ok Tryz.prog:=by
 intro x hx;unfold mtE at hx;rw[List.mem_singleton]at hx;subst hx;intro w;refine calls_of_wp Tryz.func141 Ri ?_
 refine wp_seq (wp_region ?_)
 show wpOps _ _ _ [0] _ _
 rw[wpOps_cons];refine lI (o:={ dst:=some 0,op:=.assign (.const (.map none)),type:=211,pos := "claim.go:76",after:=#[],guard:=none }) (u:=.map none) (w':=w) rfl rfl (.inl (by simp[execOp,Act.eval])) ?_
 show Code.wp _ _ _ _ _
 refine wp_seq (wp_region_any KY ?_)
 refine M3 (JE w) (fun l a w h=>by rw[h.sz,Dw]) (fun l a w' i h hi=>?_) (fun l a w' h hr=>?_) _ _ _ _ ?_ ?_
 ·have hlt:=(C3 l i hi).1
  rcases Nat.lt_or_ge i 17 with h17|h17
  ·rcases Nat.eq_zero_or_pos i with rfl|hp
   ·exact Rc h hi
   ·obtain⟨j,hj⟩:∃j,i=2*j+1\/i=2*j+2:=⟨(i-1) / 2,by omega⟩
    have hj8:j<effTbl.length:=by show j<8;omega
    obtain⟨⟨k,s,v⟩,hx⟩:∃x,effTbl[j]?=some x:=⟨_,List.getElem?_eq_getElem hj8⟩
    rcases hj with rfl|rfl
    ·exact Re h hx hi
    ·exact Q5 h hx hi
  ·have:i=17\/i=18:=by omega
   rcases this with rfl|rfl
   ·exact Qz h hi
   ·exact QZ h hi
 ·have hall:=RI h.sz hr
  obtain⟨r,es,c,q1,q2,q3,q4,q5⟩:=h.m (hall 0 (by omega))
  have h10:=(h.o17 (hall 17 (by omega))).2
  have h0:=(h.o18 (hall 18 (by omega))).2
  have hv:a.tmps[0]?=some (.map (some r)):=by rw[h0,h10,q1]
  refine wp_ret ⟨h.df,.map (some r),?_,r,es,c,rfl,q2,q3,rfl,rfl,rfl,⟨fun i k v hk hv=>?_,fun e he=>?_,fun e he e' he' hee=>?_⟩,h.below⟩
  ·simp[results,Tryz.f141,hv]
  ·rw[listE.1,List.getElem?_map]at hk
   rw[listE.2,List.getElem?_map]at hv;obtain⟨⟨k1,s1,v1⟩,e1,rfl⟩:=Option.map_eq_some_iff.1 hk;rw[e1]at hv;cases hv
   obtain⟨e,he,e2,e3⟩:=q4 i k1 s1 v1 e1 (hall _ (by have:=lt8 e1;omega))
   exact⟨e,he,by rw[e2];exact MR _ _ _,by rw[e3];exact⟨rfl,rfl⟩⟩
  ·obtain⟨j,k,s,v,e1,_,e2,e3⟩:=q5 e he
   exact⟨j,_,_,by rw[listE.1,List.getElem?_map,e1];rfl,by rw[listE.2,List.getElem?_map,e1];rfl,by rw[e2];exact MR _ _ _,by rw[e3];exact⟨rfl,rfl⟩⟩
  ·obtain⟨j,k,s,v,e1,_,e2,e3⟩:=q5 e he
   obtain⟨j',k',s',v',e1',_,e2',e3'⟩:=q5 e' he';rw[e2,e2']at hee;obtain⟨rfl,rfl⟩:=IF hee;have:=K0 e1 e1'
   subst this;rw[e1]at e1';cases e1'
   rw[e3,e3']
 ·refine⟨by rw[Array.size_replicate,Dw],by rw[ym];rfl,by rw[zj],⟨rfl,rfl,rfl,Nat.le_refl _,fun _ _=>rfl⟩,fun h=>?_,fun j k s v _ h=>?_,fun j _ h=>?_,fun h=>?_,fun h=>?_⟩<;>(rw[Array.getElem?_replicate]at h;split at h<;>cases h)
 ·rw[Dw];exact Nat.le_of_eq rfl
end Go.Proofs.YtgckmifmjiklmaaGreat
