/-
  Texts of this claim, joined (part 5).
-/
import Derived.Test.YtkgphkdlbjinmaaGreatDoorJT4
import Derived.Test.YtkgphkdlbjinmaaGreatDoorProg
import Derived.Shelf.Strings.OnBuilder
import Derived.Below
open List renaming replicate → M9, getElem?_eq_getElem → Na, take → Nb, drop → Nc, length_append → Nd, length_map → Nk, rec → Np, getElem?_append_left → Nq, getElem?_map → Nr, getD → Ns, length_singleton → Nt, modify → Nv, mem_cons_self → Ny, length_cons → Nz, replicate_succ → NA, drop_drop → NB, mem_singleton → ND, getElem?_append_right → NE, append_assoc → NF, drop_eq_getElem_cons → NG, cons_append → NH, map_append → NK, take_append_drop → NM, getElem?_eq_none → NN, mem_cons_of_mem → NO, range → NP, map_congr_left → NS, getElem?_range → NT, length → NV, length_drop → NY, take_length → NZ, drop_length → N1, append_nil → N2, nil_append → N4, range_succ → N5, drop_take → N7, map_take → N8, map_drop → N9
open Int renaming toNat_natCast → Nf, tmod → Nm, tmod_eq_emod_of_nonneg → No, fdiv_eq_ediv_of_nonneg → Nx, toNat → NU, tdiv → Oa
open Bool renaming rec → Ng, and_eq_true → Nn
open Nat renaming beq → Nh, eq_of_beq_eq_true → Nl, pow_succ → Nw, min → NC, mod_eq_of_lt → NI, mul_comm → NJ, le_refl → NL, pow_le_pow_right → NQ, div_lt_of_lt_mul → NR, zero_le → NX
open Option renaming bind_some → Nu, bind → NW, getD_some → N0, map_some → N6
set_option linter.unusedVariables false
set_option linter.unusedSimpArgs false
set_option linter.unusedSectionVars false
set_option linter.constructorNameAsVariable false
namespace Go.Sx
open Go
variable {P:Program}
noncomputable section
def Ty.sem(t:Ty):Type:=Ty.rec (motive:=fun _=>Type) Int Bool Value (fun _ _=>List (List AV)) AV (fun _ _ _ _=>AV) (fun _=>Int) (List UInt8) t
def Ty.enc(t:Ty):AV->t.sem:=Ty.rec (motive:=fun t=>AV->Ty.sem t) AV.i AV.b AV.r (fun _ _=>AV.l) (fun x=>x) (fun _ _ _ _ x=>x) (fun _=>AV.num) AV.s t
def Ty.dec(t:Ty):t.sem->AV:=Ty.rec (motive:=fun t=>Ty.sem t->AV) AV.int AV.bool AV.raw (fun r _=>AV.sl r) (fun x=>x) (fun _ _ _ _ x=>x) (fun k n=>AV.raw (.int k n)) (fun s=>AV.raw (ar s)) t
theorem Gs(t:Ty)(x:AV):t.dec (t.enc x)=co t x:=by cases t<;>rfl
def bg(ts:List Ty):Type:=Np (motive:=fun _=>Type) Unit (fun a l ih=>Np (motive:=fun _=>Type) a.sem (fun _ _ _=>a.sem×ih) l) ts
def hdX(xs:List AV):AV:=Np (motive:=fun _=>AV) (.int 0) (fun x _ _=>x) xs
def tlX(xs:List AV):List AV:=Np (motive:=fun _=>List AV) [] (fun _ l _=>l) xs
def d9(ts:List Ty):List AV->bg ts:=
 Np (motive:=fun ts=>List AV->bg ts) (fun _=>()) (fun a l=>Np (motive:=fun l=>(List AV->bg l)->List AV->bg (a::l)) (fun _ xs=>a.enc (hdX xs)) (fun _ _ _ ih xs=>(a.enc (hdX xs),ih (tlX xs))) l) ts
def fP(ts:List Ty):bg ts->List AV:=
 Np (motive:=fun ts=>bg ts->List AV) (fun _=>[]) (fun a l=>Np (motive:=fun l=>(bg l->List AV)->bg (a::l)->List AV) (fun _ s=>[a.dec s]) (fun _ _ _ ih s=>a.dec s.1::ih s.2) l) ts
theorem qW:∀(ts:List Ty) (xs:List AV),xs.length=ts.length->fP ts (d9 ts xs)=eo ts xs
 |[],[],_=>rfl
 |[],_::_,h=>by simp at h
 |_::_,[],h=>by simp at h
 |[t],[x],_=>by show[t.dec (t.enc x)]=[co t x];rw[Gs]
 |[_],_::_::_,h=>by simp at h
 |t::b::ts,x::xs,h=>by
  show t.dec (t.enc x)::fP (b::ts) (d9 (b::ts) xs)=co t x::eo (b::ts) xs
  rw[Gs,qW (b::ts) xs (by simpa using h)]
theorem BC{ts:List Ty}{xs:List AV}(h:xs.map AV.ty=ts):fP ts (d9 ts xs)=xs:=by
 rw[qW ts xs (by rw[<-h,Nk]),qd ts xs h]
def RS.tys(sh:RS):List Ty:=RS.rec (motive:=fun _=>List Ty) [.int] [.bool] (fun k=>[.num k]) [.str] (fun _ t=>[.sl t]) [] (fun _ _ a b=>a++b) (fun _ a=>a) (fun _ a=>a) sh
theorem Ie(r:R):r.leaves.map AV.ty=r.shape.tys:=by
 induction r with
 |cons x y a b=>show(x.leaves++y.leaves).map AV.ty=x.shape.tys++y.shape.tys;rw[NK,a,b]
 |agg x a=>exact a
 |tup x a=>exact a
 |_=>rfl
def rmk(sh:RS):List AV->R×List AV:=
 RS.rec (motive:=fun _=>List AV->R×List AV) (fun xs=>(.i (hdX xs).i,tlX xs)) (fun xs=>(.b (hdX xs).b,tlX xs)) (fun k xs=>(.nk k (hdX xs).num,tlX xs)) (fun xs=>(.st (hdX xs).s,tlX xs)) (fun e t xs=>(.row e t (hdX xs).l,tlX xs)) (fun xs=>(.nil,xs))
  (fun _ _ a b xs=>(.cons (a xs).1 (b (a xs).2).1,(b (a xs).2).2)) (fun _ a xs=>(.agg (a xs).1,(a xs).2)) (fun _ a xs=>(.tup (a xs).1,(a xs).2)) sh
theorem HE(r:R):∀rest,rmk r.shape (r.leaves++rest)=(r,rest):=by
 induction r with
 |cons x y a b=>
  intro rest;have h1:=a (y.leaves++rest);have h2:=b rest;show((R.cons (rmk x.shape (x.leaves++y.leaves++rest)).1 (rmk y.shape (rmk x.shape (x.leaves++y.leaves++rest)).2).1,(rmk y.shape (rmk x.shape (x.leaves++y.leaves++rest)).2).2):R×List AV)=_
  rw[NF,h1,h2]
 |agg x a=>intro rest;show((R.agg (rmk x.shape (x.leaves++rest)).1,(rmk x.shape (x.leaves++rest)).2):R×List AV)=_;rw[a]
 |tup x a=>intro rest;show((R.tup (rmk x.shape (x.leaves++rest)).1,(rmk x.shape (x.leaves++rest)).2):R×List AV)=_;rw[a]
 |_=>intro rest;rfl
theorem E4(sh:RS):∀xs:List AV,sh.tys.length<=xs.length->(rmk sh xs).1.shape=sh/\(rmk sh xs).2=xs.drop sh.tys.length/\(rmk sh xs).1.leaves=eo sh.tys xs:=by
 induction sh with
 | cons x y a b=>
  intro xs h;have hl:(RS.cons x y).tys=x.tys++y.tys:=rfl
  rw[hl,Nd]at h;obtain⟨a1,a2,a3⟩:=a xs (by omega)
  obtain⟨b1,b2,b3⟩:=b (xs.drop x.tys.length) (by rw[NY];omega)
  have e:rmk (.cons x y) xs=(R.cons (rmk x xs).1 (rmk y (rmk x xs).2).1,(rmk y (rmk x xs).2).2):=rfl
  rw[e,a2,hl];refine⟨by show RS.cons _ _=_;rw[a1,b1],by rw[b2,NB,Nd],?_⟩
  show(rmk x xs).1.leaves++(rmk y (xs.drop x.tys.length)).1.leaves=_
  rw[a3,b3];unfold eo;conv=>rhs;rw[<-NM x.tys.length xs]
  rw[List.zipWith_append (by rw[List.length_take];omega)]
  congr 1
  have:∀(ts:List Ty) (xs:List AV),List.zipWith co ts xs=List.zipWith co ts (xs.take ts.length):=by
   intro ts;induction ts with
   |nil=>intro xs;rfl
   |cons t ts ih=>intro xs;cases xs with
    |nil=>rfl
    |cons z zs=>simp[ih zs]
  exact this _ _
 |agg x a=>intro xs h;obtain⟨a1,a2,a3⟩:=a xs h;exact⟨congrArg RS.agg a1,a2,a3⟩
 |tup x a=>intro xs h;obtain⟨a1,a2,a3⟩:=a xs h;exact⟨congrArg RS.tup a1,a2,a3⟩
 |nil=>intro xs _;exact⟨rfl,rfl,by cases xs<;>rfl⟩
 |_=>
  intro xs h;cases xs with
  |nil=>exact absurd h (by simp[RS.tys])
  |cons x xs=>exact⟨rfl,rfl,rfl⟩
def qy(sh:RS)(z:bg sh.tys):R:=(rmk sh (fP sh.tys z)).1
theorem yB:∀(ts:List Ty) (z:bg ts),(fP ts z).length=ts.length
 |[],_=>rfl
 |[_],_=>rfl
 |_::b::ts,z=>by show(_::fP (b::ts) z.2).length=_;rw[Nz,yB (b::ts) z.2];rfl
theorem Iu(t:Ty)(s:t.sem):co t (t.dec s)=t.dec s:=by cases t<;>rfl
theorem cg2{α β γ:Type}(f:α->β->γ){a a':α}{b b':β}(h1:a=a')(h2:b=b'):f a b=f a' b':=by subst h1 h2;rfl
theorem Cy:∀(ts:List Ty) (z:bg ts),eo ts (fP ts z)=fP ts z
 |[],_=>rfl
 |[t],z=>congrArg (fun x=>[x]) (Iu t z)
 |t::b::ts,z=>cg2 List.cons (Iu t z.1) (Cy (b::ts) z.2)
theorem Hh(sh:RS)(z:bg sh.tys):(qy sh z).shape=sh:=(E4 sh _ (by rw[yB];exact NL _)).1
theorem FS(sh:RS)(z:bg sh.tys):(qy sh z).leaves=fP sh.tys z:=by
 unfold qy;rw[(E4 sh _ (by rw[yB];exact NL _)).2.2,Cy]
theorem KE{r:R}{sh:RS}(h:r.shape=sh):qy sh (d9 sh.tys r.leaves)=r:=by
 subst h;unfold qy;rw[BC (Ie r)];have:=HE r []
 rw[N2]at this;rw[this]
def Ty.eqb(t:Ty):Ty->Bool:=
 Ty.rec (motive:=fun _=>Ty->Bool) (fun u=>Ty.rec (motive:=fun _=>Bool) true false false (fun _ _=>false) false (fun _ _ _ _=>false) (fun _=>false) false u) (fun u=>Ty.rec (motive:=fun _=>Bool) false true false (fun _ _=>false) false (fun _ _ _ _=>false) (fun _=>false) false u)
  (fun u=>Ty.rec (motive:=fun _=>Bool) false false true (fun _ _=>false) false (fun _ _ _ _=>false) (fun _=>false) false u) (fun _ ih u=>Ty.rec (motive:=fun _=>Bool) false false false (fun r _=>ih r) false (fun _ _ _ _=>false) (fun _=>false) false u)
  (fun u=>Ty.rec (motive:=fun _=>Bool) false false false (fun _ _=>false) true (fun _ _ _ _=>false) (fun _=>false) false u) (fun _ _ ih1 ih2 u=>Ty.rec (motive:=fun _=>Bool) false false false (fun _ _=>false) false (fun a b _ _=>and (ih1 a) (ih2 b)) (fun _=>false) false u)
  (fun k u=>Ty.rec (motive:=fun _=>Bool) false false false (fun _ _=>false) false (fun _ _ _ _=>false) (fun k2=>decide (k=k2)) false u) (fun u=>Ty.rec (motive:=fun _=>Bool) false false false (fun _ _=>false) false (fun _ _ _ _=>false) (fun _=>false) true u) t
theorem Ty.eqb_eq{t:Ty}:∀ {u:Ty},t.eqb u=true->t=u:=by
 induction t with
 |sl r ih=>intro u h;cases u<;>first|exact absurd h (by decide)|(rw[ih (show Ty.eqb r _=true from h)])|cases h
 | cons a b ih1 ih2=>
  intro u h;cases u with
  |cons c d=>
   have h:(Ty.eqb a c&&Ty.eqb b d)=true:=h
   rw[Nn]at h;rw[ih1 h.1,ih2 h.2]
  |_=>cases h
 |num k=>
  intro u h;cases u with
  |num k2=>rw[of_decide_eq_true (show decide (k=k2)=true from h)]
  |_=>cases h
 |_=>intro u h;cases u<;>first|rfl|cases h
def sE(ts:List Ty):List Ty->Bool:=
 Np (motive:=fun _=>List Ty->Bool) (fun us=>Np (motive:=fun _=>Bool) true (fun _ _ _=>false) us) (fun t _ ih us=>Np (motive:=fun _=>Bool) false (fun u us _=>and (t.eqb u) (ih us)) us) ts
theorem B3:∀ {ts us:List Ty},sE ts us=true->ts=us
 |[],[],_=>rfl
 |[],_::_,h=>by cases h
 |_::_,[],h=>by cases h
 |t::ts,u::us,h=>by
  have h:(Ty.eqb t u&&sE ts us)=true:=h
  rw[Nn]at h;rw[Ty.eqb_eq h.1,B3 h.2]
def RS.eqb(t:RS):RS->Bool:=
 RS.rec (motive:=fun _=>RS->Bool)
  (fun u=>RS.rec (motive:=fun _=>Bool) true false (fun _=>false) false (fun _ _=>false) false (fun _ _ _ _=>false) (fun _ _=>false) (fun _ _=>false) u)
  (fun u=>RS.rec (motive:=fun _=>Bool) false true (fun _=>false) false (fun _ _=>false) false (fun _ _ _ _=>false) (fun _ _=>false) (fun _ _=>false) u)
  (fun k u=>RS.rec (motive:=fun _=>Bool) false false (fun k2=>decide (k=k2)) false (fun _ _=>false) false (fun _ _ _ _=>false) (fun _ _=>false) (fun _ _=>false) u)
  (fun u=>RS.rec (motive:=fun _=>Bool) false false (fun _=>false) true (fun _ _=>false) false (fun _ _ _ _=>false) (fun _ _=>false) (fun _ _=>false) u)
  (fun e t u=>RS.rec (motive:=fun _=>Bool) false false (fun _=>false) false (fun e' t'=>and (Nh e e') (t.eqb t')) false (fun _ _ _ _=>false) (fun _ _=>false) (fun _ _=>false) u)
  (fun u=>RS.rec (motive:=fun _=>Bool) false false (fun _=>false) false (fun _ _=>false) true (fun _ _ _ _=>false) (fun _ _=>false) (fun _ _=>false) u)
  (fun _ _ ih1 ih2 u=>RS.rec (motive:=fun _=>Bool) false false (fun _=>false) false (fun _ _=>false) false (fun a b _ _=>and (ih1 a) (ih2 b)) (fun _ _=>false) (fun _ _=>false) u)
  (fun _ ih u=>RS.rec (motive:=fun _=>Bool) false false (fun _=>false) false (fun _ _=>false) false (fun _ _ _ _=>false) (fun a _=>ih a) (fun _ _=>false) u)
  (fun _ ih u=>RS.rec (motive:=fun _=>Bool) false false (fun _=>false) false (fun _ _=>false) false (fun _ _ _ _=>false) (fun _ _=>false) (fun a _=>ih a) u) t
theorem RS.eqb_eq{t:RS}:∀ {u:RS},t.eqb u=true->t=u:=by
 induction t with
 | row e t=>
  intro u h;cases u with
  |row e' t'=>
   have h:(Nh e e'&&Ty.eqb t t')=true:=h
   rw[Nn]at h;rw[Nl h.1,Ty.eqb_eq h.2]
  |_=>cases h
 | cons a b ih1 ih2=>
  intro u h;cases u with
  |cons c d=>
   have h:(RS.eqb a c&&RS.eqb b d)=true:=h
   rw[Nn]at h;rw[ih1 h.1,ih2 h.2]
  |_=>cases h
 |nk k=>intro u h;cases u with
  |nk k2=>rw[of_decide_eq_true (show decide (k=k2)=true from h)]
  |_=>cases h
 |agg a ih=>intro u h;cases u with
  |agg b=>rw[ih (show RS.eqb a b=true from h)]
  |_=>cases h
 |tup a ih=>intro u h;cases u with
  |tup b=>rw[ih (show RS.eqb a b=true from h)]
  |_=>cases h
 |_=>intro u h;cases u<;>first|rfl|cases h
structure EvX where
 a:AV
 i:Int
 b:Bool
 r:Value
 l:List (List AV)
 g:List AV
 n:Int
 s:List UInt8
def evX(env:List AV)(e:E):EvX:=
 E.rec (motive:=fun _=>EvX)
  (fun i=>⟨hO (.int 0) env i,(hO (.int 0) env i).i,(hO (.int 0) env i).b,(hO (.int 0) env i).r,(hO (.int 0) env i).l,(hO (.int 0) env i).g,(hO (.int 0) env i).num,(hO (.int 0) env i).s⟩)
  (fun n=>⟨.int n,n,false,undef,[],[],n,[]⟩)
  (fun b=>⟨.bool b,0,b,undef,[],[],0,[]⟩)
  (fun s=>⟨.raw (ar s),0,false,ar s,[],[],0,s⟩)
  (fun k n=>⟨.raw (.int k n),0,false,.int k n,[],[],n,[]⟩)
  (fun o _ _ x y=>IOp.rec (motive:=fun _=>EvX) ⟨.int (x.i+y.i),x.i+y.i,false,undef,[],[],x.i+y.i,[]⟩ ⟨.int (x.i-y.i),x.i-y.i,false,undef,[],[],x.i-y.i,[]⟩ ⟨.int (x.i*y.i),x.i*y.i,false,undef,[],[],x.i*y.i,[]⟩
   ⟨.int (Oa x.i y.i),Oa x.i y.i,false,undef,[],[],Oa x.i y.i,[]⟩ ⟨.int (Nm x.i y.i),Nm x.i y.i,false,undef,[],[],Nm x.i y.i,[]⟩ ⟨.int (b9 x.i y.i),b9 x.i y.i,false,undef,[],[],b9 x.i y.i,[]⟩ ⟨.int (yK x.i y.i),yK x.i y.i,false,undef,[],[],yK x.i y.i,[]⟩
   ⟨.int (IOp.f .and x.i y.i),IOp.f .and x.i y.i,false,undef,[],[],IOp.f .and x.i y.i,[]⟩ ⟨.int (IOp.f .or x.i y.i),IOp.f .or x.i y.i,false,undef,[],[],IOp.f .or x.i y.i,[]⟩ ⟨.int (IOp.f .xor x.i y.i),IOp.f .xor x.i y.i,false,undef,[],[],IOp.f .xor x.i y.i,[]⟩
   ⟨.int (IOp.f .andNot x.i y.i),IOp.f .andNot x.i y.i,false,undef,[],[],IOp.f .andNot x.i y.i,[]⟩ ⟨.int (IOp.f .shl x.i y.i),IOp.f .shl x.i y.i,false,undef,[],[],IOp.f .shl x.i y.i,[]⟩ ⟨.int (IOp.f .shr x.i y.i),IOp.f .shr x.i y.i,false,undef,[],[],IOp.f .shr x.i y.i,[]⟩ o)
  (fun o _ _ x y=>COp.rec (motive:=fun _=>EvX) ⟨.bool (decide (x.i<y.i)),0,decide (x.i<y.i),undef,[],[],0,[]⟩ ⟨.bool (decide (x.i<=y.i)),0,decide (x.i<=y.i),undef,[],[],0,[]⟩ ⟨.bool (decide (x.i=y.i)),0,decide (x.i=y.i),undef,[],[],0,[]⟩ o)
  (fun _ x=>⟨.bool (!x.b),0,!x.b,undef,[],[],0,[]⟩)
  (fun _ _ x y=>⟨.bool (x.b==y.b),0,x.b==y.b,undef,[],[],0,[]⟩)
  (fun _ _ x y=>⟨.bool (x.b&&y.b),0,x.b&&y.b,undef,[],[],0,[]⟩)
  (fun _ _ x y=>⟨.bool (x.s==y.s),0,x.s==y.s,undef,[],[],0,[]⟩)
  (fun _ x=>⟨.int (x.l.length:Int),(x.l.length:Int),false,undef,[],[],(x.l.length:Int),[]⟩)
  (fun _ x=>⟨.int (x.s.length:Int),(x.s.length:Int),false,undef,[],[],(x.s.length:Int),[]⟩)
  (fun _ _ k x y=>⟨cA x.l y.i k,cI x.l y.i k,cB x.l y.i k,cR x.l y.i k,cL x.l y.i k,(cA x.l y.i k).g,(cA x.l y.i k).num,cS x.l y.i k⟩)
  ⟨.agg [],0,false,undef,[],[],0,[]⟩
  (fun _ _ x y=>⟨.agg (x.a::y.g),0,false,undef,[],x.a::y.g,0,[]⟩)
  ⟨.sl .nil [],0,false,undef,[],[],0,[]⟩
  (fun _ _ x y=>⟨.sl .nil (x.l++[y.g]),0,false,undef,x.l++[y.g],[],0,[]⟩)
  (fun _ _ x y=>⟨.sl .nil (x.l++y.l),0,false,undef,x.l++y.l,[],0,[]⟩)
  (fun _ _ x y=>⟨.sl .nil (Nb y.i.toNat x.l),0,false,undef,Nb y.i.toNat x.l,[],0,[]⟩)
  (fun _ _ x y=>⟨.sl .nil (Nc y.i.toNat x.l),0,false,undef,Nc y.i.toNat x.l,[],0,[]⟩)
  (fun _ _ k _ x y z=>⟨.sl .nil (Nv x.l y.i.toNat (fun r=>r.set k z.a)),0,false,undef,Nv x.l y.i.toNat (fun r=>r.set k z.a),[],0,[]⟩)
  (fun _ _ x y=>⟨.sl .nil (M9 x.i.toNat y.g),0,false,undef,M9 x.i.toNat y.g,[],0,[]⟩)
  (fun t _ x=>⟨.sl t x.l,0,false,undef,x.l,[],0,[]⟩)
  (fun _ _ x y=>⟨.sl .nil (Nb x.l.length y.l++Nc y.l.length x.l),0,false,undef,Nb x.l.length y.l++Nc y.l.length x.l,[],0,[]⟩)
  (fun t _ x=>Ty.rec (motive:=fun _=>EvX) ⟨.int x.i,x.i,false,undef,[],[],x.i,[]⟩ ⟨.bool x.b,0,x.b,undef,[],[],0,[]⟩ ⟨.raw x.r,0,false,x.r,[],[],(AV.raw x.r).num,(AV.raw x.r).s⟩ (fun r _=>⟨.sl r x.l,0,false,undef,x.l,[],0,[]⟩) x (fun _ _ _ _=>x) (fun k=>⟨.raw (.int k x.n),0,false,.int k x.n,[],[],x.n,[]⟩) ⟨.raw (ar x.s),0,false,ar x.s,[],[],0,x.s⟩ t)
  (fun k _ x=>⟨.raw (.int k (k.wrap x.n)),0,false,.int k (k.wrap x.n),[],[],k.wrap x.n,[]⟩)
  (fun _ x=>⟨.int (IntKind.wrap .i64 x.n),IntKind.wrap .i64 x.n,false,undef,[],[],IntKind.wrap .i64 x.n,[]⟩)
  (fun o k _ _ x y=>⟨.raw (.int k (aa o k x.n y.n)),0,false,.int k (aa o k x.n y.n),[],[],aa o k x.n y.n,[]⟩)
  (fun o _ _ x y=>COp.rec (motive:=fun _=>EvX) ⟨.bool (decide (x.n<y.n)),0,decide (x.n<y.n),undef,[],[],0,[]⟩ ⟨.bool (decide (x.n<=y.n)),0,decide (x.n<=y.n),undef,[],[],0,[]⟩ ⟨.bool (decide (x.n=y.n)),0,decide (x.n=y.n),undef,[],[],0,[]⟩ o)
  (fun _ _ x y=>⟨.int (cb y.g x.l),cb y.g x.l,false,undef,[],[],cb y.g x.l,[]⟩)
  (fun _ _ x y=>⟨.bool (jH y.g x.l),0,jH y.g x.l,undef,[],[],0,[]⟩)
  (fun _ _ _ x y z=>⟨.sl .nil (eA y.g z.a x.l),0,false,undef,eA y.g z.a x.l,[],0,[]⟩)
  (fun _ _ x y=>⟨.raw (ar (x.s++y.s)),0,false,ar (x.s++y.s),[],[],0,x.s++y.s⟩)
  (fun _ _ x y=>⟨.raw (.int .u8 (qI x.s y.i)),0,false,.int .u8 (qI x.s y.i),[],[],qI x.s y.i,[]⟩)
  (fun _ x=>⟨.raw (ar (bytesOf x.l)),0,false,ar (bytesOf x.l),[],[],0,bytesOf x.l⟩)
  (fun _ x=>⟨.sl (.cons (.num .u8) .nil) (au x.s),0,false,undef,au x.s,[],0,[]⟩) e
def EvX.ok(x:EvX)(y:AV):Prop:=x.a=y/\x.i=y.i/\x.b=y.b/\x.r=y.r/\x.l=y.l/\x.g=y.g/\x.n=y.num/\x.s=y.s
theorem dq{a b:Int}(h:a=b):EvX.ok ⟨.int a,a,false,undef,[],[],a,[]⟩ (.int b):=by subst h;exact⟨rfl,rfl,rfl,rfl,rfl,rfl,rfl,rfl⟩
theorem L2{a b:AV}(h:a=b):EvX.ok ⟨a,a.i,a.b,a.r,a.l,a.g,a.num,a.s⟩ b:=by subst h;exact⟨rfl,rfl,rfl,rfl,rfl,rfl,rfl,rfl⟩
theorem fg{a b:Bool}(h:a=b):EvX.ok ⟨.bool a,0,a,undef,[],[],0,[]⟩ (.bool b):=by subst h;exact⟨rfl,rfl,rfl,rfl,rfl,rfl,rfl,rfl⟩
theorem LZ{a b:Value}(h:a=b):EvX.ok ⟨.raw a,0,false,a,[],[],(AV.raw a).num,(AV.raw a).s⟩ (.raw b):=by subst h;exact⟨rfl,rfl,rfl,rfl,rfl,rfl,rfl,rfl⟩
theorem wh{k:IntKind}{a b:Int}(h:a=b):EvX.ok ⟨.raw (.int k a),0,false,.int k a,[],[],a,[]⟩ (.raw (.int k b)):=by subst h;exact⟨rfl,rfl,rfl,rfl,rfl,rfl,rfl,rfl⟩
theorem AU{a b:List UInt8}(h:a=b):EvX.ok ⟨.raw (ar a),0,false,ar a,[],[],0,a⟩ (.raw (ar b)):=by subst h;exact⟨rfl,rfl,rfl,rfl,rfl,rfl,rfl,rfl⟩
theorem kJ{t:Ty}{a b:List (List AV)}(h:a=b):EvX.ok ⟨.sl t a,0,false,undef,a,[],0,[]⟩ (.sl t b):=by subst h;exact⟨rfl,rfl,rfl,rfl,rfl,rfl,rfl,rfl⟩
theorem IL{a b:List AV}(h:a=b):EvX.ok ⟨.agg a,0,false,undef,[],a,0,[]⟩ (.agg b):=by subst h;exact⟨rfl,rfl,rfl,rfl,rfl,rfl,rfl,rfl⟩
section
variable {x:EvX} {y:AV} (h:x.ok y)
include h
theorem EvX.ok.A:x.a=y:=h.1
theorem EvX.ok.I:x.i=y.i:=h.2.1
theorem EvX.ok.B:x.b=y.b:=h.2.2.1
theorem EvX.ok.R:x.r=y.r:=h.2.2.2.1
theorem EvX.ok.L:x.l=y.l:=h.2.2.2.2.1
theorem EvX.ok.G:x.g=y.g:=h.2.2.2.2.2.1
theorem EvX.ok.N:x.n=y.num:=h.2.2.2.2.2.2.1
theorem EvX.ok.S:x.s=y.s:=h.2.2.2.2.2.2.2
end
theorem kj(env:List AV)(e:E):(evX env e).ok (den env e):=by
 induction e with
 |v i=>refine⟨?_,?_,?_,?_,?_,?_,?_,?_⟩<;>simp only[evX,den,jL]
 |int n=>exact dq rfl
 |bool n=>exact fg rfl
 |str n=>exact AU rfl
 |oint k n=>exact wh rfl
 |ii o a b iha ihb=>
  have h:=fun o=>cg2 (IOp.f o) iha.I ihb.I
  cases o with
  |add=>exact dq (h .add)
  |sub=>exact dq (h .sub)
  |mul=>exact dq (h .mul)
  |quo=>exact dq (h .quo)
  |rem=>exact dq (h .rem)
  |min=>exact dq (h .min)
  |max=>exact dq (h .max)
  |and=>exact dq (h .and)
  |or=>exact dq (h .or)
  |xor=>exact dq (h .xor)
  |andNot=>exact dq (h .andNot)
  |shl=>exact dq (h .shl)
  |shr=>exact dq (h .shr)
 |cmp o a b iha ihb=>
  have h:=fun o=>cg2 (COp.f o) iha.I ihb.I
  cases o with
  |lt=>exact fg (h .lt)
  |le=>exact fg (h .le)
  |eq=>exact fg (h .eq)
 |not a ih=>have h:=congrArg not ih.B;exact fg h
 |beq a b iha ihb=>have h:=cg2 BEq.beq iha.B ihb.B;exact fg h
 |and a b iha ihb=>have h:=cg2 and iha.B ihb.B;exact fg h
 |seq a b iha ihb=>have h:=cg2 (fun(x y:List UInt8)=>x==y) iha.S ihb.S;exact fg h
 |len a ih=>have h:=congrArg (fun l=>((NV l:Nat):Int)) ih.L;exact dq h
 |slen a ih=>have h:=congrArg (fun(x:List UInt8)=>((x.length:Nat):Int)) ih.S;exact dq h
 |cell a b k iha ihb=>have h:=cg2 (fun x y=>cA x y k) iha.L ihb.I;exact L2 h
 |rnil=>exact IL rfl
 |rcons a b iha ihb=>have h:=cg2 List.cons iha.A ihb.G;exact IL h
 |lnil=>exact kJ rfl
 |snoc a b iha ihb=>have h:=cg2 (fun x y=>x++[y]) iha.L ihb.G;exact kJ h
 |app a b iha ihb=>have h:=cg2 (fun x y=>x++y) iha.L ihb.L;exact kJ h
 |take a b iha ihb=>have h:=cg2 (fun x y=>Nb (NU y) x) iha.L ihb.I;exact kJ h
 |drop a b iha ihb=>have h:=cg2 (fun x y=>Nc (NU y) x) iha.L ihb.I;exact kJ h
 |set a b k c iha ihb ihc=>have h:=cg2 (fun(p:List (List AV)×Int) z=>Nv p.1 (NU p.2) fun r=>List.set r k z) (cg2 Prod.mk iha.L ihb.I) ihc.A;exact kJ h
 |rep a b iha ihb=>have h:=cg2 (fun x y=>M9 (NU x) y) iha.I ihb.G;exact kJ h
 |typed t a ih=>exact kJ ih.L
 |cpy a b iha ihb=>have h:=cg2 (fun x y=>Nb (NV x) y++Nc (NV y) x) iha.L ihb.L;exact kJ h
 |co t a ih=>
  cases t with
  |int=>exact dq ih.I
  |bool=>exact fg ih.B
  |raw=>exact LZ ih.R
  |sl r=>exact kJ ih.L
  |nil=>exact ih
  |cons x y=>exact ih
  |num k=>exact wh ih.N
  |str=>exact AU ih.S
 |kin k a ih=>have h:=congrArg (fun x=>k.wrap x) ih.N;exact wh h
 |kout a ih=>have h:=congrArg (IntKind.wrap .i64) ih.N;exact dq h
 |kop o k a b iha ihb=>have h:=cg2 (fun x y=>aa o k x y) iha.N ihb.N;exact wh h
 |kcmp o a b iha ihb=>
  have h:=fun o=>cg2 (COp.f o) iha.N ihb.N
  cases o with
  |lt=>exact fg (h .lt)
  |le=>exact fg (h .le)
  |eq=>exact fg (h .eq)
 |mget a b iha ihb=>have h:=cg2 cb ihb.G iha.L;exact dq h
 |mhas a b iha ihb=>have h:=cg2 jH ihb.G iha.L;exact fg h
 |mput a b c iha ihb ihc=>have h:=cg2 (fun(p:List AV×AV) z=>eA p.1 p.2 z) (cg2 Prod.mk ihb.G ihc.A) iha.L;exact kJ h
 |scat a b iha ihb=>have h:=cg2 (fun(x y:List UInt8)=>x++y) iha.S ihb.S;exact AU h
 |sidx a b iha ihb=>have h:=cg2 qI iha.S ihb.I;exact wh h
 |sofb a ih=>have h:=congrArg bytesOf ih.L;exact AU h
 |bofs a ih=>have h:=congrArg au ih.S;exact kJ h
def reL(env:List AV)(x:RE):List AV:=RE.rec (motive:=fun _=>List AV) (fun e=>[.int (evX env e).i]) (fun e=>[.bool (evX env e).b]) (fun k e=>[.raw (.int k (evX env e).n)]) (fun e=>[.raw (ar (evX env e).s)]) (fun _ t e=>[.sl t (evX env e).l]) [] (fun _ _ a b=>a++b) (fun _ a=>a) (fun _ a=>a) x
def reS(x:RE):RS:=RE.rec (motive:=fun _=>RS) (fun _=>.i) (fun _=>.b) (fun k _=>.nk k) (fun _=>.st) (fun e t _=>.row e t) .nil (fun _ _ a b=>.cons a b) (fun _ a=>.agg a) (fun _ a=>.tup a) x
theorem L7(env:List AV)(x:RE):reL env x=(x.den env).leaves:=by
 induction x with
 |i e=>show[AV.int _]=[AV.int _];rw[(kj env e).2.1]
 |b e=>show[AV.bool _]=[AV.bool _];rw[(kj env e).2.2.1]
 |nk k e=>show[AV.raw _]=[AV.raw _];rw[(kj env e).N]
 |st e=>show[AV.raw _]=[AV.raw _];rw[(kj env e).S]
 |row a t e=>show[AV.sl _ _]=[AV.sl _ _];rw[(kj env e).2.2.2.2.1]
 |nil=>rfl
 |cons x y a b=>show reL env x++reL env y=_++_;rw[a,b]
 |agg x a=>exact a
 |tup x a=>exact a
theorem LF(env:List AV)(x:RE):reS x=(x.den env).shape:=by
 induction x with
 |cons x y a b=>show RS.cons (reS x) (reS y)=.cons _ _;rw[a,b]
 |agg x a=>show RS.agg (reS x)=.agg _;rw[a]
 |tup x a=>show RS.tup (reS x)=.tup _;rw[a]
 |_=>rfl
abbrev Ps:=List (Bool×List Ty)
def Ps.tys(ps:Ps):List Ty:=Np (motive:=fun _=>List Ty) [] (fun p _ ih=>p.2++ih) ps
def AV.aggB(ts:List Ty):AV->Bool
 |.agg l=>sE (l.map AV.ty) ts
 |_=>false
def AV.oneB(ts:List Ty):AV->Bool
 |.agg _=>false
 |.int _=>sE [.int] ts
 |.bool _=>sE [.bool] ts
 |.raw v=>sE [nN v] ts
 |.sl t _=>sE [.sl t] ts
def rE(ps:Ps):List AV->Bool:=
 Np (motive:=fun _=>List AV->Bool) (fun xs=>Np (motive:=fun _=>Bool) true (fun _ _ _=>false) xs)
  (fun p _ ih xs=>Np (motive:=fun _=>Bool) false (fun x xs _=>and (Ng (motive:=fun _=>Bool) (x.oneB p.2) (x.aggB p.2) p.1) (ih xs)) xs) ps
def dD(xs:List AV):List AV:=Np (motive:=fun _=>List AV) [] (fun x _ ih=>AV.cells x++ih) xs
def HD(ps:Ps):List AV->List AV:=Np (motive:=fun _=>List AV->List AV) (fun _=>[]) (fun p _ ih xs=>Ng (motive:=fun _=>AV) (hdX xs) (.agg (xs.take p.2.length)) p.1::ih (xs.drop p.2.length)) ps
def B6(ps:Ps)(s:bg (Ps.tys ps)):List AV:=HD ps (fP (Ps.tys ps) s)
theorem xt:∀(ps:Ps) (xs:List AV),rE ps xs=true->HD ps (dD xs)=xs/\(dD xs).map AV.ty=Ps.tys ps
 |[],[],_=>⟨rfl,rfl⟩
 |[],_::_,h=>by cases h
 |_::_,[],h=>by cases h
 | (true,ts)::ps,x::xs,h=>by
  have h:(x.aggB ts&&rE ps xs)=true:=h
  rw[Nn]at h;obtain⟨h1,h2⟩:=xt ps xs h.2;cases x with
  | agg l=>
   have hl:=B3 h.1;have hlen:ts.length=l.length:=by rw[<-hl,Nk]
   constructor
   ·show AV.agg ((l++dD xs).take ts.length)::HD ps ((l++dD xs).drop ts.length)=_
    rw[hlen,List.take_left,List.drop_left,h1]
   ·show(l++dD xs).map AV.ty=ts++Ps.tys ps
    rw[NK,hl,h2]
  |_=>cases h.1
 | (false,ts)::ps,x::xs,h=>by
  have h:(x.oneB ts&&rE ps xs)=true:=h
  rw[Nn]at h;obtain⟨h1,h2⟩:=xt ps xs h.2;cases x with
  |agg l=>cases h.1
  | _=>
   have hx:=B3 (us:=ts) (ts:=[_]) h.1;subst hx;constructor
   ·show hdX (_::dD xs)::HD ps (dD xs)=_
    rw[h1];rfl
   ·show _::(dD xs).map AV.ty=_::Ps.tys ps
    rw[h2];rfl
theorem D7{ps:Ps}{xs:List AV}(h:rE ps xs=true):B6 ps (d9 (Ps.tys ps) (dD xs))=xs:=by
 obtain⟨h1,h2⟩:=xt ps xs h;unfold B6;rw[BC h2,h1]
theorem CD(xs:List AV):dD xs=xs.flatMap AV.cells:=by
 induction xs with
 |nil=>rfl
 |cons x xs ih=>show AV.cells x++dD xs=_;rw[ih,List.flatMap_cons]
structure FnT where
 ps:Ps
 sh:RS
 fn:Nat->bg (Ps.tys ps)->Option (bg sh.tys)
def FnT.ok(P:Program)(f:Nat)(F:FnT):Prop:=∀(n:Nat) (s:bg (Ps.tys F.ps)) (z:bg F.sh.tys),F.fn n s=some z->Con P f (B6 F.ps s) (qy F.sh z)
abbrev Tab:=List (Nat×FnT)
def Tab.ok(P:Program)(tab:Tab):Prop:=∀x∈tab,x.2.ok P x.1
abbrev MTab:=List (Nat×SV×SV)
def MTab.ok(P:Program)(mt:MTab):Prop:=∀x∈mt,HN P x.1 x.2.1 x.2.2
def Do{β:Type}(tab:Tab)(f:Nat)(k:FnT->Option β):Option β:=Np (motive:=fun _=>Option β) none (fun x _ ih=>Ng (motive:=fun _=>Option β) ih (k x.2) (Nh x.1 f)) tab
theorem Kt{β:Type}{tab:Tab}{f:Nat}{k:FnT->Option β}{z:β}(h:Do tab f k=some z):∃F,(f,F)∈tab/\k F=some z:=by
 induction tab with
 |nil=>cases h
 | cons x tab ih=>
  have h:Ng (motive:=fun _=>Option β) (Do tab f k) (k x.2) (Nh x.1 f)=some z:=h
  cases hb:Nh x.1 f with
  |true=>
   rw[hb]at h;have:=Nl hb
   subst this;exact⟨x.2,Ny ..,h⟩
  |false=>
   rw[hb]at h;obtain⟨F,h1,h2⟩:=ih h;exact⟨F,NO _ h1,h2⟩
def EN(mt:MTab)(f:Nat)(ks vs:SV):Bool:=Np (motive:=fun _=>Bool) false (fun x _ ih=>or (and (Nh x.1 f) (and (decide (x.2.1=ks)) (decide (x.2.2=vs)))) ih) mt
theorem KQ{mt:MTab}{f:Nat}{ks vs:SV}(h:EN mt f ks vs=true):(f,ks,vs)∈mt:=by
 induction mt with
 |nil=>cases h
 | cons x mt ih=>
  have h:((Nh x.1 f&&(decide (x.2.1=ks)&&decide (x.2.2=vs)))||EN mt f ks vs)=true:=h
  rw[Bool.or_eq_true,Nn,Nn,decide_eq_true_iff,decide_eq_true_iff]at h;rcases h with⟨h1,h2,h3⟩|h
  ·have:=Nl h1
   obtain⟨a,b,c⟩:=x;dsimp only at this h2 h3
   subst this h2 h3;exact Ny ..
  ·exact NO _ (ih h)
def kO{σ α:Type}(f:(σ->Option α)->Option α)(g:σ->Option α):Option α:=f g
def T.fn(tab:Tab)(mt:MTab)(n:Nat)(sh:RS)(t:T):List AV->(Nat->List AV->Option (bg sh.tys))->Option (bg sh.tys):=
 T.rec (motive:=fun _=>List AV->(Nat->List AV->Option (bg sh.tys))->Option (bg sh.tys))
  (fun _ _ _ _=>none)
  (fun x env _=>Ng (motive:=fun _=>Option (bg sh.tys)) none (some (d9 sh.tys (reL env x))) ((reS x).eqb sh))
  (fun e _ t env K=>cond (evX env e).b (t env K) none)
  (fun e _ _ a b env K=>cond (evX env e).b (a env K) (b env K))
  (fun f args sh' _ t env K=>Do tab f fun F=>Ng (motive:=fun _=>Option (bg sh.tys)) none (NW (F.fn n (d9 (Ps.tys F.ps) (dD (evX env args).g))) fun y=>t (env++fP F.sh.tys y) K) (and (F.sh.eqb sh') (rE F.ps (evX env args).g)))
  (fun lvl inits sorts _ _ _ t env K=>Ng (motive:=fun _=>Option (bg sh.tys)) none (af (σ:=bg sorts) (fun go s=>t (env++fP sorts s) fun l us=>Ng (motive:=fun _=>Option (bg sh.tys)) (K l us) (Ng (motive:=fun _=>Option (bg sh.tys)) none (go (d9 sorts us)) (Nh us.length sorts.length)) (Nh l lvl)) n (d9 sorts (evX env inits).g)) (Nh (evX env inits).g.length sorts.length))
  (fun lvl es env K=>K lvl (evX env es).g)
  (fun f ks vs _ t env K=>Ng (motive:=fun _=>Option (bg sh.tys)) none (t env K) (EN mt f ks vs))
  (fun lvl sorts _ _ a b env K=>kO (σ:=bg sorts) (fun go=>a env fun l us=>Ng (motive:=fun _=>Option (bg sh.tys)) (K l us) (Ng (motive:=fun _=>Option (bg sh.tys)) none (go (d9 sorts us)) (Nh us.length sorts.length)) (Nh l lvl)) (fun s=>b (env++fP sorts s) K)) t
theorem T.fn_den{tab:Tab}{mt:MTab}{n:Nat}{sh:RS}(hC:tab.ok P)(hM:mt.ok P){z:bg sh.tys}:∀(t:T) (env:List AV) (K:Nat->List AV->Option (bg sh.tys)) (K':Nat->List AV->Prop),t.fn tab mt n sh env K=some z->(∀l us,K l us=some z->K' l us)->t.den P (·=qy sh z) env K':=by
 intro t;induction t with
 |stop _ _=>intro env K K' h _;cases h
 | ret x=>
  intro env K K' h _;have h:Ng (motive:=fun _=>Option (bg sh.tys)) none (some (d9 sh.tys (reL env x))) ((reS x).eqb sh)=some z:=h
  cases hb:(reS x).eqb sh with
  |false=>rw[hb]at h;cases h
  |true=>
   rw[hb]at h;have h:some (d9 sh.tys (reL env x))=some z:=h
   have hs:=RS.eqb_eq hb;rw[LF env x]at hs;show x.den env=qy sh z
   rw[<-Option.some.inj h,L7,KE hs]
 |need e t ih=>
  intro env K K' h hK;have h:cond (evX env e).b (t.fn tab mt n sh env K) none=some z:=h
  rw[(kj env e).2.2.1]at h;cases hb:(Sx.den env e).b with
  |false=>rw[hb]at h;cases h
  |true=>rw[hb]at h;exact⟨hb,ih env K K' h hK⟩
 |br e a b iha ihb=>
  intro env K K' h hK;have h:cond (evX env e).b (a.fn tab mt n sh env K) (b.fn tab mt n sh env K)=some z:=h
  rw[(kj env e).2.2.1]at h;refine⟨fun hb=>?_,fun hb=>?_⟩
  ·rw[hb]at h;exact iha env K K' h hK
  ·rw[hb]at h;exact ihb env K K' h hK
 | call f args sh' t ih=>
  intro env K K' h hK;have h:(Do tab f fun F=>Ng (motive:=fun _=>Option (bg sh.tys)) none (NW (F.fn n (d9 (Ps.tys F.ps) (dD (evX env args).g))) fun y=>t.fn tab mt n sh (env++fP F.sh.tys y) K) (and (F.sh.eqb sh') (rE F.ps (evX env args).g)))=some z:=h
  obtain⟨F,h1,h2⟩:=Kt h;cases hb:(F.sh.eqb sh'&&rE F.ps (evX env args).g)with
  |false=>rw[show(and (F.sh.eqb sh') (rE F.ps (evX env args).g))=false from hb]at h2;cases h2
  |true=>
   rw[show(and (F.sh.eqb sh') (rE F.ps (evX env args).g))=true from hb]at h2
   obtain⟨y,hy,hz⟩:=Option.bind_eq_some_iff.1 (show NW (F.fn n (d9 (Ps.tys F.ps) (dD (evX env args).g))) _=some z from h2)
   rw[Nn]at hb;have hs:=RS.eqb_eq hb.1;have hc:=hC _ h1 n _ y hy;dsimp only at hc
   rw[D7 hb.2,(kj env args).2.2.2.2.2.1]at hc;refine⟨qy F.sh y,by rw[Hh,hs],hc,?_⟩
   rw[FS];exact ih _ K K' hz hK
 | loop lvl inits sorts key locs t ih=>
  intro env K K' h hK;have h:Ng (motive:=fun _=>Option (bg sh.tys)) none (af (σ:=bg sorts) (fun go s=>t.fn tab mt n sh (env++fP sorts s) fun l us=>Ng (motive:=fun _=>Option (bg sh.tys)) (K l us) (Ng (motive:=fun _=>Option (bg sh.tys)) none (go (d9 sorts us)) (Nh us.length sorts.length)) (Nh l lvl)) n (d9 sorts (evX env inits).g)) (Nh (evX env inits).g.length sorts.length)=some z:=h
  cases hl:Nh (evX env inits).g.length sorts.length with
  |false=>rw[hl]at h;cases h
  | true=>
   rw[hl]at h;have h:af (σ:=bg sorts) (fun go s=>t.fn tab mt n sh (env++fP sorts s) fun l us=>Ng (motive:=fun _=>Option (bg sh.tys)) (K l us) (Ng (motive:=fun _=>Option (bg sh.tys)) none (go (d9 sorts us)) (Nh us.length sorts.length)) (Nh l lvl)) n (d9 sorts (evX env inits).g)=some z:=h
   obtain⟨step,hstep⟩:∃step,step=fun(go:bg sorts->Option (bg sh.tys)) (s:bg sorts)=>t.fn tab mt n sh (env++fP sorts s) fun l us=>Ng (motive:=fun _=>Option (bg sh.tys)) (K l us) (Ng (motive:=fun _=>Option (bg sh.tys)) none (go (d9 sorts us)) (Nh us.length sorts.length)) (Nh l lvl):=⟨_,rfl⟩
   rw[<-hstep]at h;refine T.den_loop (fP sorts) (fun s=>∃m,af step m s=some z) (fun s=>nl fun m=>af step m s=some z) (d9 sorts (evX env inits).g) ?_ ⟨n,h⟩ fun s hI=>?_
   ·rw[qW _ _ (Nl hl),(kj env inits).2.2.2.2.2.1]
   obtain⟨h1,h2⟩:=ma hI;obtain⟨m,hm⟩:∃m,m=nl fun m=>af step m s=some z:=⟨_,rfl⟩
   rw[<-hm]at h1 h2⊢
   cases m with
   |zero=>cases h1
   | succ m=>
    have h1:step (af step m) s=some z:=h1
    have hst:step (af step m) s=t.fn tab mt n sh (env++fP sorts s) fun l us=>Ng (motive:=fun _=>Option (bg sh.tys)) (K l us) (Ng (motive:=fun _=>Option (bg sh.tys)) none (af step m (d9 sorts us)) (Nh us.length sorts.length)) (Nh l lvl):=by rw[hstep]
    rw[hst]at h1;refine ih _ _ _ h1 fun l us hu=>?_
    unfold upd;cases hb:Nh l lvl with
    | true=>
     rw[hb]at hu;have:=Nl hb
     rw[if_pos this];cases hc:Nh us.length sorts.length with
     |false=>rw[hc]at hu;cases hu
     |true=>
      rw[hc]at hu;have hu:af step m (d9 sorts us)=some z:=hu
      exact⟨d9 sorts us,(qW _ _ (Nl hc)).symm,⟨m,hu⟩,Nat.lt_succ_of_le ((ma ⟨m,hu⟩).2 m hu)⟩
    |false=>
     rw[hb]at hu;have:l≠lvl:=fun e=>by subst e;rw[show Nh l l=true from Nat.beq_refl l]at hb;cases hb
     rw[if_neg this];exact hK _ _ hu
 |again lvl es=>
  intro env K K' h hK;have h:K lvl (evX env es).g=some z:=h
  rw[(kj env es).2.2.2.2.2.1]at h;exact hK _ _ h
 | join lvl sorts a b iha ihb=>
  intro env K K' h hK;have h:(a.fn tab mt n sh env fun l us=>Ng (motive:=fun _=>Option (bg sh.tys)) (K l us) (Ng (motive:=fun _=>Option (bg sh.tys)) none (b.fn tab mt n sh (env++fP sorts (d9 sorts us)) K) (Nh us.length sorts.length)) (Nh l lvl))=some z:=h
  refine iha _ _ _ h fun l us hu=>?_
  unfold upd;cases hb:Nh l lvl with
  | true=>
   rw[hb]at hu;have:=Nl hb
   rw[if_pos this];cases hc:Nh us.length sorts.length with
   |false=>rw[hc]at hu;cases hu
   |true=>
    rw[hc]at hu;have hu:b.fn tab mt n sh (env++fP sorts (d9 sorts us)) K=some z:=hu
    rw[qW _ _ (Nl hc)]at hu;exact ihb _ K K' hu hK
  |false=>
   rw[hb]at hu;have:l≠lvl:=fun e=>by subst e;rw[show Nh l l=true from Nat.beq_refl l]at hb;cases hb
   rw[if_neg this];exact hK _ _ hu
 |ext f ks vs t ih=>
  intro env K K' h hK;have h:Ng (motive:=fun _=>Option (bg sh.tys)) none (t.fn tab mt n sh env K) (EN mt f ks vs)=some z:=h
  cases hb:EN mt f ks vs with
  |false=>rw[hb]at h;cases h
  |true=>rw[hb]at h;exact⟨hM _ (KQ hb),ih env K K' h hK⟩
theorem FnT.ok_of{cfg:Cfg}{f:Nat}{F:FnT}{tab:Tab}{mt:MTab}(hfit:PFit P)(hC:tab.ok P)(hM:mt.ok P)(ho:∀s fn,P.funcs[f]?=some fn->vO P fn.params.toList (B6 F.ps s)=true)
  (h:∀n s,(AA P cfg f).fn tab mt n F.sh (dD (B6 F.ps s)) (fun _ _=>none)=F.fn n s):F.ok P f:=fun n s z hz=>by
 rw[<-h n s]at hz;exact GS (cfg:=cfg) (K:=fun _ _=>False) hfit (ho s) (by rw[<-CD];exact T.fn_den hC hM _ _ _ _ hz fun _ _ h=>by cases h)
theorem Tab.ok_nil:Tab.ok P []:=fun _ h=>by cases h
theorem Tab.ok_cons{f:Nat}{F:FnT}{tab:Tab}(h:F.ok P f)(ht:tab.ok P):Tab.ok P ((f,F)::tab):=fun x hx=>by
 rcases List.mem_cons.1 hx with rfl|hx
 ·exact h
 ·exact ht x hx
end
open Go.RowKit Go.Dial Go.ChangeShapes Go.WideShapes Go.ChangeAt Go.WideMaps Go.WideElems
def M5(n:Int):Prop:= -9223372036854775808<=n/\n<=9223372036854775807
inductive AVok:AV->Prop
 |int (n:Int) (h:M5 n):AVok (.int n)
 |bool (b:Bool):AVok (.bool b)
 |raw (s:ByteArray) (h:s.size<=maxLen):AVok (.raw (.string s))
 |sl (t:Ty) (l:List (List AV)) (h:l.length<=maxLen) (hty:∀r∈l,r.map AV.ty=t.list) (hr:∀r∈l,∀x∈r,AVok x):AVok (.sl t l)
section
variable (P:Program)
def Dl(go:Nat->Option (List Ty)):List Field->Nat->Option (List Ty)
 |[],_=>some []
 |f::fs,off=>if f.offset=off then(go f.type).bind fun a=>if P.cellsOf f.type=a.length then(Dl go fs (off+a.length)).map fun b=>a++b else none else none
def pu:Nat->Nat->Option (List Ty)
 |0,_=>none
 |d+1,t=>
  match P.underlying t with
  |some .bool=>some [.bool]
  |some (.int .i64)=>some [.int]
  |some .string=>some [.str]
  |some (.slice e)=>(pu d e).bind fun l=>if P.cellsOf e=l.length/\0<l.length then some [.sl (l.foldr .cons .nil)]else none
  |some (.struct fs)=>(Dl P (pu d) fs.toList 0).bind fun l=>if P.cellsOf t=l.length then some l else none
  |some (.array n e)=>(pu d e).bind fun l=>if P.cellsOf e=l.length/\P.cellsOf t=n*l.length then some (M9 n l).flatten else none
  |_=>none
def n8(t:Nat):Bool:=
 match P.underlying t with
 |some (.struct _)|some (.array _ _)=>true
 |_=>false
def sH:List Nat->Option Ps
 |[]=>some []
 |t::ts=>(pu P 12 t).bind fun l=>(sH ts).map fun ps=>(n8 P t,l)::ps
end
theorem AI(l:List Ty):(l.foldr Ty.cons Ty.nil).list=l:=by
 induction l with
 |nil=>rfl
 |cons a l ih=>show a::(l.foldr Ty.cons Ty.nil).list=_;rw[ih]
theorem IF(l:List Ty):(l.foldr Ty.cons Ty.nil).len=l.length:=by rw[<-Ty.list_len,AI]
section
variable {H:Type} {enc:TypeId×Value->H} {P:Program} {w:World} {base:Nat} {spare:Nat->Bool} {held:Bool}
def Reads(w:World)(cs:List Value)(tys:List Ty)(avs:List AV):Prop:=
 cs.length=tys.length/\avs.map AV.ty=tys/\(∀(i:Nat) v a,cs[i]?=some v->avs[i]?=some a->Den (fun k=>k<w.heap.size) w v a)/\∀a∈avs,AVok a
theorem Reads.nil:Reads w [] [] []:=⟨rfl,rfl,fun i v a h=>by simp at h,fun a h=>by cases h⟩
theorem Reads.append{c1 c2:List Value}{t1 t2:List Ty}{a1 a2:List AV}(h1:Reads w c1 t1 a1)(h2:Reads w c2 t2 a2):Reads w (c1++c2) (t1++t2) (a1++a2):=by
 obtain⟨p1,p2,p3,p4⟩:=h1;obtain⟨q1,q2,q3,q4⟩:=h2;have hl:a1.length=c1.length:=by rw[p1,<-p2,Nk]
 refine⟨by simp[p1,q1],by simp[p2,q2],fun i v a hv ha=>?_,fun a ha=>?_⟩
 ·by_cases hi:i<c1.length
  ·rw[Nq hi]at hv
   rw[Nq (by omega)]at ha
   exact p3 i v a hv ha
  ·rw[NE (by omega)]at hv ha
   rw[hl]at ha;exact q3 _ v a hv ha
 ·rcases List.mem_append.1 ha with h|h
  ·exact p4 a h
  ·exact q4 a h
theorem Reads.one{v:Value}{a:AV}(h:Den (fun k=>k<w.heap.size) w v a)(hok:AVok a):Reads w [v] [a.ty] [a]:=by
 refine⟨rfl,rfl,fun i u x hu hx=>?_,fun x hx=>by rw[ND]at hx;rw[hx];exact hok⟩
 cases i with
 |zero=>cases hu;cases hx;exact h
 |succ i=>simp at hu
theorem Mt:∀(d:Nat) (t:Nat) (tys:List Ty),pu P d t=some tys->∀m cs x,DataW.trod enc P w base spare held m t cs=some x->∃avs,Reads w cs tys avs:=by
 intro d;induction d with
 |zero=>intro t tys h;cases h
 | succ d ih=>
  intro t tys h m cs x hx;unfold pu at h;split at h
  ·rename_i ht
   cases h
   obtain⟨b,rfl,_⟩:=DataW.trod_bool ht hx;exact⟨[.bool b],Reads.one (.bool b) (.bool b)⟩
  ·rename_i ht
   cases h
   obtain⟨n,rfl,h1,h2⟩:=Mj ht m cs x hx;exact⟨[.int n],Reads.one (.int n) (.int n ⟨h1,h2⟩)⟩
  ·rename_i ht
   cases h
   obtain⟨s,rfl,hs⟩:=Jl ht m cs x hx;exact⟨[.raw (.string s)],Reads.one (.raw _ rfl) (.raw s hs)⟩
  ·rename_i e ht
   obtain⟨l,hl,h⟩:=Option.bind_eq_some_iff.1 h;split at h
   ·rename_i hc
    obtain⟨hc,hpos⟩:=hc;cases h
    have he:=ih e l hl;rcases DataW.trod_slice ht hx with⟨rfl,_⟩|⟨a,len,cap,elems,rest,n,_,rfl,_,_,hle,hca,hlen,hel,_⟩
    ·exact⟨[.sl _ []],Reads.one (Den.mk (l:=[]) rfl (NX _) (NX _) (fun i r h=>by simp at h) (fun h=>absurd rfl h)) (.sl _ [] (NX _) (fun r h=>by cases h) (fun r h=>by cases h))⟩
    ·rw [hc]at hel
     have one:∀i,i<len->∃avs:List AV,avs.map AV.ty=l/\(∀a∈avs,AVok a)/\∀(k:Nat) y,avs[k]?=some y->∃u,w.cell? (a.add (i*l.length+k))=some u/\Den (fun k=>k<w.heap.size) w u y:=by
      intro i hi;have hxi:=hel i hi;rw[Na (by omega)]at hxi
      obtain⟨cl,hl1,hl2⟩:=Option.bind_eq_some_iff.1 hxi;obtain⟨avs,r1,r2,r3,r4⟩:=he _ _ _ hl2;obtain⟨c1,c2⟩:=JI hl1;refine⟨avs,r2,r4,fun k y hy=>?_⟩
      have hk:k<l.length:=by
       have:=(List.getElem?_eq_some_iff.1 hy).1
       rw[<-r2,Nk];exact this
      have hck:cl[k]?=some cl[k]:=Na (by omega)
      refine⟨cl[k],?_,r3 k _ y hck hy⟩
      have:=c2 k hk
      rw[hck,ep]at this;exact this
     have all:∀k,k<=len->∃L:List (List AV),L.length=k/\(∀(i:Nat) r,L[i]?=some r->r.map AV.ty=l)/\(∀r∈L,∀a∈r,AVok a)/\∀(i:Nat) r,L[i]?=some r->∀(k:Nat) y,r[k]?=some y->∃u,w.cell? (a.add (i*l.length+k))=some u/\Den (fun k=>k<w.heap.size) w u y:=by
      intro k;induction k with
      |zero=>intro _;exact⟨[],rfl,(fun i r h=>by simp at h),(fun r h=>by cases h),(fun i r h=>by simp at h)⟩
      | succ k ihk=>
       intro hk;obtain⟨L,g1,g2,g3,g4⟩:=ihk (by omega)
       obtain⟨avs,o1,o2,o3⟩:=one k (by omega)
       have get:∀(i:Nat) r,(L++[avs])[i]?=some r->L[i]?=some r\/(i=k/\r=avs):=fun i r h=>by
        by_cases hi:i<L.length
        ·rw[Nq hi]at h;exact .inl h
        ·rw[NE (by omega)]at h
         have:i-L.length=0:=by
          have:=(List.getElem?_eq_some_iff.1 h).1
          simp only[Nz,List.length_nil]at this;omega
         rw[this]at h;cases h
         exact .inr ⟨by omega,rfl⟩
       refine⟨L++[avs],by simp[g1],fun i r h=>?_,fun r h=>?_,fun i r h=>?_⟩
       ·rcases get i r h with h|⟨_,rfl⟩
        ·exact g2 i r h
        ·exact o1
       ·rcases List.mem_append.1 h with h|h
        ·exact g3 r h
        ·rw[ND]at h;rw[h];exact o2
       ·rcases get i r h with h|⟨rfl,rfl⟩
        ·exact g4 i r h
        ·exact o3
     obtain⟨L,g1,g2,g3,g4⟩:=all len (NL _);have hty:∀(i:Nat) r,L[i]?=some r->r.map AV.ty=(l.foldr Ty.cons Ty.nil).list:=fun i r h=>by rw[AI];exact g2 i r h
     refine⟨[.sl (l.foldr Ty.cons Ty.nil) L],Reads.one (Den.mk g1 hle hca hty (fun hne=>⟨a,rfl,?_,fun i r h k y hy=>by rw[IF];exact g4 i r h k y hy⟩)) (.sl _ L (by omega) (fun r hr=>?_) g3)⟩
     ·obtain⟨r,L',rfl⟩:=List.exists_cons_of_ne_nil hne
      have h0:=g2 0 r rfl;obtain⟨y,hy⟩:∃y,r[0]?=some y:=⟨_,Na (by rw[<-Nk (f:=AV.ty),h0];exact hpos)⟩
      obtain⟨u,hu,_⟩:=g4 0 r rfl 0 y hy;have:=World.block_lt_of_cell? w _ hu
      rwa [lO]at this
     ·obtain⟨i,hi,rfl⟩:=List.getElem_of_mem hr
      exact hty i _ (Na hi)
   ·cases h
  ·rename_i fs ht
   obtain⟨l,hl,h⟩:=Option.bind_eq_some_iff.1 h;split at h
   ·rename_i hc
    cases h
    obtain⟨xs,k,_,_,hlen,hn,hf⟩:=DataW.trod_struct ht hx;have go:∀(q:List Field) (j off:Nat) (l:List Ty),Dl P (pu P d) q off=some l->(∀(i:Nat) f,q[i]?=some f->fs[j+i]?=some f)->off+l.length=cs.length->∃avs,Reads w (cs.drop off) l avs:=by
     intro q;induction q with
     |nil=>
      intro j off l h _ hlen;cases h
      refine⟨[],?_⟩
      rw[List.drop_of_length_le (by simp at hlen;omega)]
      exact Reads.nil
     | cons f q ihq=>
      intro j off l h hfs hlen;unfold Dl at h;split at h
      ·rename_i ho
       obtain⟨a,ha,h⟩:=Option.bind_eq_some_iff.1 h;split at h
       ·rename_i hca
        obtain⟨b,hb,rfl⟩:=Option.map_eq_some_iff.1 h;have hfj:=hfs 0 f rfl;have hx1:=hf (j+0) f hfj;have hjl:j+0<xs.length:=by rw[hn];exact(Array.getElem?_eq_some_iff.1 hfj).1
        rw[Na hjl,ho,hca]at hx1;obtain⟨av1,r1⟩:=ih f.type a ha _ _ _ hx1;rw[Nd]at hlen;obtain⟨av2,r2⟩:=ihq (j+1) (off+a.length) b hb (fun i g hg=>by rw[show j+1+i=j+(i+1) by omega];exact hfs (i+1) g hg) (by omega)
        refine⟨av1++av2,?_⟩
        have:=r1.append r2
        rw[<-NB,NM]at this;exact this
       ·cases h
      ·cases h
    obtain⟨avs,hr⟩:=go fs.toList 0 0 tys hl (fun i f h=>by simpa using h) (by omega)
    exact⟨avs,by simpa using hr⟩
   ·cases h
  ·rename_i n e ht
   obtain⟨l,hl,h⟩:=Option.bind_eq_some_iff.1 h;split at h
   ·rename_i hc
    cases h
    obtain⟨xs,m',_,_,hlen,hn,hel⟩:=DataW.trod_array ht hx;rw[hc.1]at hel;have key:∀k,k<=n->∃avs,Reads w (cs.take (k*l.length)) (M9 k l).flatten avs:=by
     intro k;induction k with
     |zero=>intro _;exact⟨[],by simpa using Reads.nil⟩
     |succ k ihk=>
      intro hk;obtain⟨a1,r1⟩:=ihk (by omega)
      have hx1:=hel k (by omega)
      rw[Na (by omega)]at hx1
      obtain⟨a2,r2⟩:=ih e l hl _ _ _ hx1;refine⟨a1++a2,?_⟩
      have:=r1.append r2
      rw[Nat.succ_mul,List.take_add,List.replicate_succ',List.flatten_concat];exact this
    obtain⟨avs,hr⟩:=key n (NL _);exact⟨avs,by rw[List.take_of_length_le (by omega)]at hr;exact hr⟩
   ·cases h
  ·cases h
theorem Mu{W:World}{b:Nat}{t:TypeId}{v:Value}{d:DataW H}{ps:List MemPlace}{l:List Ty}(hl:pu P 12 t=some l)(hok:Value.okWide P W .any b t v)(h:DataW.Trod enc P W 0 (fun _=>true) true t v d ps):
  ∃x:AV,Den (fun k=>k<W.heap.size) W v x/\(∀y∈AV.cells x,AVok y)/\(Ng (motive:=fun _=>Bool) (x.oneB l) (x.aggB l) (n8 P t))=true:=by
 obtain⟨fuel,hf⟩:=h;obtain⟨avs,r1,r2,r3,r4⟩:=Mt 12 t l hl _ _ _ hf;have eqt:∀ts:List Ty,sE ts ts=true:=by
  have eqb:∀t:Ty,t.eqb t=true:=by
   intro t;induction t with
   |sl r ih=>exact ih
   |cons a b ih1 ih2=>show(Ty.eqb a a&&Ty.eqb b b)=true;rw[ih1,ih2];rfl
   |num k=>exact decide_eq_true (show k=k from rfl)
   |_=>rfl
  intro ts;induction ts with
  |nil=>rfl
  |cons t ts ih=>show(Ty.eqb t t&&sE ts ts)=true;rw[eqb,ih];rfl
 have agg:n8 P t=true->(∃fs,P.underlying t=some (.struct fs))\/∃n e,P.underlying t=some (.array n e):=fun h=>by
  unfold n8 at h;split at h
  ·exact .inl ⟨_,‹_›⟩
  ·exact .inr ⟨_,_,‹_›⟩
  ·cases h
 cases ha:n8 P t with
 | true=>
  have hv:∃cs,v=.agg cs:=by
   rcases agg ha with⟨fs,ht⟩|⟨n,e,ht⟩
   ·simp only[Value.okWide,ht]at hok
    obtain⟨cs,h1,_⟩:=hok;exact⟨cs,h1⟩
   ·simp only[Value.okWide,ht]at hok
    obtain⟨cs,h1,_⟩:=hok;exact⟨cs,h1⟩
  obtain⟨cs,rfl⟩:=hv;refine⟨.agg avs,?_,r4,?_⟩
  ·have:=Den.agg (S:=fun k=>k<W.heap.size) (w:=W) cs.toList avs (by
    have:cs.toList.length=l.length:=r1
    rw[this,<-r2,Nk]) (fun i v x h1 h2=>r3 i v x h1 h2)
   simpa using this
  ·show sE (avs.map AV.ty) l=true
   rw[r2];exact eqt l
 | false=>
  have single:∃c:Value,aU v=true->v.cells=#[v]:=⟨v,nQ⟩
  have hp:aU v=true:=by
   unfold pu at hl;split at hl
   ·rename_i ht;obtain⟨b,rfl⟩:=okWide_bool ht hok;rfl
   ·rename_i ht;obtain⟨n,rfl,_⟩:=LI ht hok ⟨fuel,hf⟩;rfl
   ·rename_i ht;obtain⟨s,rfl,_⟩:=Ij ht hok ⟨fuel,hf⟩;rfl
   ·rename_i e ht;obtain⟨a,len,cap,rfl⟩:=okWide_slice ht hok;rfl
   ·rename_i fs ht;unfold n8 at ha;rw[ht]at ha;cases ha
   ·rename_i n e ht;unfold n8 at ha;rw[ht]at ha;cases ha
   ·cases hl
  have hcs:v.cells.toList=[v]:=by rw[nQ hp]
  have r1:v.cells.toList.length=l.length:=r1
  rw[hcs]at r1;have hav:avs.length=1:=by rw[<-Nk (f:=AV.ty),r2,<-r1];rfl
  match avs,hav with
  | [x],_=>
   have hd:=r3 0 v x (by show v.cells.toList[0]?=_;rw[hcs];rfl) rfl
   have hok:=r4 x (Ny ..);have hty:[x.ty]=l:=r2
   subst hty;refine⟨x,hd,fun y hy=>?_,?_⟩
   ·cases hok<;>(unfold AV.cells at hy;rw[ND]at hy;rw[hy];exact r4 _ (Ny ..))
   ·show x.oneB [x.ty]=true
    cases hok with
    |int n h=>exact eqt [.int]
    |bool b=>exact eqt [.bool]
    |raw s h=>exact eqt [.str]
    |sl t l h _ _=>exact eqt [.sl t]
theorem IX{W:World}{b:Nat}:∀(ts:List TypeId) (qs:Ps) {vs:List Value} {ds:List (DataW H)} {ps:List MemPlace},sH P ts=some qs->DataW.TrodAll enc P W 0 (fun _=>true) true ts vs ds ps →
  (∀(j:Nat) t v,ts[j]?=some t->vs[j]?=some v->Value.okWide P W .any b t v) →
  ∃xs:List AV,vs.length=xs.length/\(∀(i:Nat) v x,vs[i]?=some v->xs[i]?=some x->Den (fun k=>k<W.heap.size) W v x)/\(∀x∈xs,∀y∈AV.cells x,AVok y)/\rE qs xs=true
 |[],qs,vs,ds,ps,hq,h,_=>by
  cases hq
  obtain⟨rfl,rfl,rfl⟩:=trodAll_nil h;exact⟨[],rfl,(fun i v x h=>by simp at h),(fun x h=>by cases h),rfl⟩
 | t::ts,qs,vs,ds,ps,hq,h,hv=>by
  obtain⟨v,vs1,d,ds1,a1,b1,rfl,rfl,rfl,h1,h2⟩:=trodAll_cons h;unfold sH at hq;obtain⟨l,hl,hq⟩:=Option.bind_eq_some_iff.1 hq;obtain⟨qs',hq',rfl⟩:=Option.map_eq_some_iff.1 hq;obtain⟨xs,e1,e2,e3,e4⟩:=IX ts qs' hq' h2 (fun j t v hj hv'=>hv (j+1) t v hj hv')
  obtain⟨x,f1,f2,f3⟩:=Mu hl (hv 0 t v rfl rfl) h1;refine⟨x::xs,by simp[e1],fun i u y hu hy=>?_,fun y hy=>?_,?_⟩
  ·cases i with
   |zero=>cases hu;cases hy;exact f1
   |succ i=>exact e2 i u y hu hy
  ·rcases List.mem_cons.1 hy with rfl|hy
   ·exact f2
   ·exact e3 y hy
  ·show(and (Ng (motive:=fun _=>Bool) (x.oneB l) (x.aggB l) (n8 P t)) (rE qs' xs))=true
   rw[f3,e4];rfl
theorem yo{W:World}:∀(ts:List TypeId) {vs:List Value} {ds:List (DataW H)} {ps:List MemPlace},DataW.TrodAll enc P W 0 (fun _=>true) true ts vs ds ps->ds.length=ts.length
 |[],_,_,_,h=>by
  obtain⟨_,rfl,_⟩:=trodAll_nil h;rfl
 |t::ts,_,_,_,h=>by
  obtain⟨v,vs1,d,ds1,a,b,_,rfl,_,_,h2⟩:=trodAll_cons h;simp[yo ts h2]
def KO:(ts:List Ty)->bg ts->Prop:=fun ts s=>∀x∈fP ts s,AVok x
theorem G8{f:Nat}{F:FnT}(hF:F.ok P f){W:World}{b:Nat}{ts:List TypeId}{vs:List Value}{ds:List (DataW H)}{ps:List MemPlace}(hG:GlobOK (fun k=>k<W.heap.size) W)(hq:sH P ts=some F.ps)(h:DataW.TrodAll enc P W 0 (fun _=>true) true ts vs ds ps)
  (hv:∀(j:Nat) t v,ts[j]?=some t->vs[j]?=some v->Value.okWide P W .any b t v)
  (hlaw:∀s:bg (Ps.tys F.ps),KO (Ps.tys F.ps) s->∃n z,F.fn n s=some z/\qy F.sh z=.b true):Calls P f vs.toArray W fun e w'=>e=.returned (.bool true)/\Below W.heap.size W w':=by
 obtain⟨xs,e1,e2,e3,e4⟩:=IX ts F.ps hq h hv;obtain⟨c1,c2⟩:=xt F.ps xs e4;have hcells:∀y∈dD xs,AVok y:=fun y hy=>by
  rw[CD,List.mem_flatMap]at hy;obtain⟨x,hx,hy⟩:=hy;exact e3 x hx y hy
 obtain⟨n,z,h1,h2⟩:=hlaw (d9 (Ps.tys F.ps) (dD xs)) (fun x hx=>by rw[BC c2]at hx;exact hcells x hx)
 have hc:=hF n _ z h1;rw[D7 e4,h2]at hc;exact Ji hc rfl hG ⟨by simpa using e1,fun i v x h1 h2=>e2 i v x (by simpa using h1) h2⟩
end
end Go.Sx
set_option maxRecDepth 100000
namespace Go.Proofs.YtkgphkdlbjinmaaGreatDoor
open Go Go.Sx
theorem IT:Tryz.prog.funcs.toList.all (fun fn=>fn.name != "runtime.NumGoroutine")=true:=by kernel_rfl
theorem GB:Tryz.prog.follows .mixedOrders=true:=by kernel_rfl
theorem Km:(NP Tryz.prog.funcs.size).all (fun f=> !wd Tryz.prog f||Nh f 179)=true:=by kernel_rfl
theorem Kc(v:Value)(w:World):(callFunc 179 #[v]).run Tryz.prog w=.ok (.value v) w:=by
 rw[run_callFunc_extern (P:=Tryz.prog) (f:=179) (fn:=Tryz.f179) Tryz.func179 (by kernel_rfl) (by kernel_rfl) (by kernel_rfl) (e:=Extern.AbiNoEscape.same) (by kernel_rfl)]
 rw[Lib.run_noEscape];rfl
theorem aT:PFit Tryz.prog:=⟨GB,fun f fn h=>by
 have h1:fn∈Tryz.prog.funcs.toList:=by rw[Array.mem_toList_iff];exact Array.mem_of_getElem? h
 have h2:=List.all_eq_true.1 IT fn h1;simpa using h2,fun f hf v w=>by
 have hlt:f<Tryz.prog.funcs.size:=by
  unfold wd at hf;split at hf
  ·rename_i fn h;exact(Array.getElem?_eq_some_iff.1 h).1
  ·cases hf
 have h1:=List.all_eq_true.1 Km f (List.mem_range.2 hlt);rw[hf]at h1;have h2:f=179:=Nl h1
 rw[h2];exact Kc v w⟩
noncomputable section
def DM:List Nat:=[6,8,9,21,22,24,25,43,44,45,68,74,88,91,93,102,121,129,137,155,156,2000170,2000291]
def az:List (Nat×SV×SV):=[(166,SV.of [.agg (SV.of [.vi (.int 1),.vi (.int 1)]),.agg (SV.of [.vi (.int 2),.vi (.int 1)]),.agg (SV.of [.vi (.int 3),.vi (.int 2)]),.agg (SV.of [.vi (.int 4),.vi (.int 2)]),.agg (SV.of [.vi (.int 5),.vi (.int 1)]),.agg (SV.of [.vi (.int 5),.vi (.int 2)]),.agg (SV.of [.vi (.int 5),.vi (.int 3)]),.agg (SV.of [.vi (.int 6),.vi (.int 4)])],SV.of [.vi (.int 3),.vi (.int 2),.vi (.int 3),.vi (.int 6),.vi (.int 7),.vi (.int 7),.vi (.int 7),.vi (.int 8)])]
def Tab0:Tab:=[]
theorem GF:Tab0.ok Tryz.prog:=Tab.ok_nil
def mt0:MTab:=[]
theorem bI:mt0.ok Tryz.prog:=fun _ h=>by cases h
abbrev jQ:=List UInt8×Int
abbrev gb:=Lv×Int
def bu(n:Nat)(go0:gb->Option jQ)(v1:Lv)(v2:Int):Option jQ:=
 (bif 128<=v2 then bif (((v1.length:Int)+1)*1)<=140737488355328 then go0 ((v1++[[(AV.raw (.int .u8 (IntKind.wrap .u8 (aa .add .u64 (aa .rem .u64 v2 128) 128))))]]),(aa .quo .u64 v2 128))else none else bif (((v1.length:Int)+1)*1)<=140737488355328 then some ((bytesOf (v1++[[(AV.raw (.int .u8 (IntKind.wrap .u8 v2)))]])),0)else none)
abbrev Bv:= @bu
def BK(n:Nat)(v0:Int):Option jQ:=
 (bif v0<(-4611686018427387903) then some (([]:List UInt8),10)else(bif 4611686018427387903<v0 then some (([]:List UInt8),10)else(bif v0<0 then bif(-9223372036854775808<=(0-v0))&&((0-v0)<=9223372036854775807)then(af (fun go0 s=>bu n go0 s.1 s.2) n ((([]:Lv),(aa .sub .u64 (aa .mul .u64 (IntKind.wrap .u64 (0-v0)) 2) 1)):gb))else none else(af (fun go0 s=>Bv n go0 s.1 s.2) n ((([]:Lv),(aa .mul .u64 (IntKind.wrap .u64 v0) 2)):gb)))))
def fw(n:Nat)(v0:Int):Option jQ:=BK n v0
abbrev tSh:Ty:=.sl (.cons .int (.cons .int (.cons .int (.cons .int (.cons .int (.cons .int (.cons .int (.cons .int .nil))))))))
abbrev tSg:Ty:=.sl (.cons .int (.cons .int (.cons .int (.cons .int (.cons .int (.cons .int (.cons .int .nil)))))))
abbrev tSc:Ty:=.sl (.cons .int (.cons .int (.cons .int .nil)))
abbrev tSa:Ty:=.sl (.cons .int .nil)
def ref01_PutInt_t:FnT:=⟨[(false,[.int])],(.tup (.cons .st (.cons .i .nil))),fun n (s:Int)=>fw n s⟩
theorem Ap:ref01_PutInt_t.ok Tryz.prog 129:=FnT.ok_of (cfg:=⟨[((129,5,0),.inv [(.tmprow 5 5 (.cons (.num .u8) .nil)),(.tmp 4 (.num .u64))])],DM,[],az⟩) aT GF bI (fun s fn hf=>by rw[Tryz.func129]at hf;cases hf;kernel_rfl) (fun n s=>by kernel_rfl)
def ref01_PutInt_T:Tab:=(129,ref01_PutInt_t)::Tab0
theorem pi:ref01_PutInt_T.ok Tryz.prog:=Tab.ok_cons Ap GF
abbrev iM:=List UInt8×Int
abbrev jI:=Lv×Int
def dy(n:Nat)(go0:jI->Option iM)(v1:Lv)(v2:Int):Option iM:=
 (bif !(v2<128)then bif (((v1.length:Int)+1)*1)<=140737488355328 then go0 ((v1++[[(AV.raw (.int .u8 (aa .or .u8 (IntKind.wrap .u8 (aa .and .u64 v2 127)) 128)))]]),(aa .shr .u64 v2 7))else none else bif (((v1.length:Int)+1)*1)<=140737488355328 then some ((bytesOf (v1++[[(AV.raw (.int .u8 (IntKind.wrap .u8 (aa .and .u64 v2 127))))]])),0)else none)
def CQ(n:Nat)(v0:Int):Option iM:=
 (bif v0<(-4611686018427387903) then some (([]:List UInt8),10)else(bif 4611686018427387903<v0 then some (([]:List UInt8),10)else(af (fun go0 s=>dy n go0 s.1 s.2) n ((([]:Lv),(aa .xor .u64 (aa .shl .u64 (IntKind.wrap .u64 v0) 1) (IntKind.wrap .u64 (IOp.f .shr v0 63)))):jI))))
def dW(n:Nat)(v0:Int):Option iM:=CQ n v0
def wire_PutInt_t:FnT:=⟨[(false,[.int])],(.tup (.cons .st (.cons .i .nil))),fun n (s:Int)=>dW n s⟩
theorem BP:wire_PutInt_t.ok Tryz.prog 121:=FnT.ok_of (cfg:=⟨[((178,0,3),.inv [(.cellrow 0 0 5 (.cons (.num .u8) .nil)),(.cell 1 0 (.num .u64))])],DM,[],az⟩) aT pi bI (fun s fn hf=>by rw[Tryz.func121]at hf;cases hf;kernel_rfl) (fun n s=>by kernel_rfl)
def wire_PutInt_T:Tab:=(121,wire_PutInt_t)::ref01_PutInt_T
theorem yY:wire_PutInt_T.ok Tryz.prog:=Tab.ok_cons BP pi
end
end Go.Proofs.YtkgphkdlbjinmaaGreatDoor
namespace Go.Proofs
open Go.Shelf
def Tryz.lays156_ren:Go.Shelf.Ren:=⟨fun|156=>156|165=>177|166=>139|169=>103|240=>161|241=>188|276=>179|277=>191|n=>n,fun|31=>44|9=>9|3=>3|4=>4|0=>0|20=>20|72=>190|76=>230|70=>188|37=>133|75=>229|127=>227|164=>283|5=>5|80=>193|n=>n,fun|n=>n⟩
theorem Tryz.lays156:Go.Proofs.Lays.n156 Tryz.prog Tryz.lays156_ren:={
 mixed:=by kernel_rfl
 f156:=Tryz.func156.trans (congrArg some (by kernel_rfl))
 f165:=Tryz.func177.trans (congrArg some (by kernel_rfl))
 f166:=Tryz.func139.trans (congrArg some (by kernel_rfl))
 f169:=Tryz.func103.trans (congrArg some (by kernel_rfl))
 f240:=Tryz.func161.trans (congrArg some (by kernel_rfl))
 f241:=Tryz.func188.trans (congrArg some (by kernel_rfl))
 f276:=Tryz.func179.trans (congrArg some (by kernel_rfl))
 f277:=Tryz.func191.trans (congrArg some (by kernel_rfl))
 t0:=Tryz.underlying0
 a0:=Tryz.isAgg0
 z0:=Tryz.sizeOf0
 v0:=Tryz.zeroValue0
 t3:=Tryz.underlying3
 a3:=Tryz.isAgg3
 z3:=Tryz.sizeOf3
 v3:=Tryz.zeroValue3
 t4:=Tryz.underlying4
 a4:=Tryz.isAgg4
 z4:=Tryz.sizeOf4
 v4:=Tryz.zeroValue4
 t9:=Tryz.underlying9
 a9:=Tryz.isAgg9
 z9:=Tryz.sizeOf9
 v9:=Tryz.zeroValue9
 t20:=Tryz.underlying20
 a20:=Tryz.isAgg20
 z20:=Tryz.sizeOf20
 v20:=Tryz.zeroValue20
 t31:=Tryz.underlying44
 a31:=Tryz.isAgg44
 z31:=Tryz.sizeOf44
 v31:=Tryz.zeroValue44
 t37:=Tryz.underlying133
 a37:=Tryz.isAgg133
 z37:=Tryz.sizeOf133
 v37:=Tryz.zeroValue133
 t70:=Tryz.underlying188
 a70:=Tryz.isAgg188
 z70:=Tryz.sizeOf188
 v70:=Tryz.zeroValue188
 t72:=Tryz.underlying190
 a72:=Tryz.isAgg190
 z72:=Tryz.sizeOf190
 v72:=Tryz.zeroValue190
 t75:=Tryz.underlying229
 a75:=Tryz.isAgg229
 z75:=Tryz.sizeOf229
 v75:=Tryz.zeroValue229
 t76:=Tryz.underlying230
 a76:=Tryz.isAgg230
 z76:=Tryz.sizeOf230
 v76:=Tryz.zeroValue230
 t127:=Tryz.underlying227
 a127:=Tryz.isAgg227
 z127:=Tryz.sizeOf227
 v127:=Tryz.zeroValue227
 t164:=Tryz.underlying283
 a164:=Tryz.isAgg283
 z164:=Tryz.sizeOf283
 v164:=Tryz.zeroValue283 }
theorem Tryz.Builder_Extra_156:Builder.Extra Tryz.prog Tryz.lays156_ren:={
 sizeBuilder:=by kernel_rfl
 liesBuilder:=by kernel_rfl
 t5:=Tryz.underlying5
 a5:=Tryz.isAgg5
 z5:=Tryz.sizeOf5
 v5:=Tryz.zeroValue5
 infoByte:=by kernel_rfl
 cellsByte:=by kernel_rfl
 sizeByte:=by kernel_rfl
 neB5:=by decide }
open Go.RowKit in
theorem Tryz.strings_Join(bk o c:Nat)(xs:List ByteArray)(sep:ByteArray)(w:World)(hcells:∀(j:Nat) x,xs[j]?=some x->w.cell? ⟨bk,o+j,none⟩=some (.string x))(hbk:bk<w.heap.size)(hN:xs.length<=140737488355328)(hcap:xs.length<=c)(hlen:(Lib.join (xs.map (·.data.toList)) sep.data.toList).length<=140737488355328):
 Calls Tryz.prog 156 #[.slice (some ⟨bk,o,none⟩) xs.length c,.string sep] w fun e w'=>e=.returned (.string ⟨(Lib.join (xs.map (·.data.toList)) sep.data.toList).toArray⟩)/\Below w.heap.size w w':=Any.strings_Join Tryz.lays156 Tryz.Builder_Extra_156 bk o c xs sep w hcells hbk hN hcap hlen
end Go.Proofs
namespace Go.Proofs.YtkgphkdlbjinmaaGreatDoor
open Go Go.Sx
def wJ(l:Lv):List UInt8:=(l.map fun r=>(r.getD 0 (.int 0)).s).flatten
def strings_Join(_n:Nat)(v0:Lv)(v1:List UInt8):Option (List UInt8):=
 bif v1.isEmpty&&decide (1<=(v0.length:Int))&&decide ((v0.length:Int)<=1000)&&decide (((wJ v0).length:Int)<=140737488355328)then some (wJ v0)else none
def strings_Join_t:FnT:=⟨[(false,[(.sl (.cons .str .nil))]),(false,[.str])],.st,fun n (s:Lv×List UInt8)=>strings_Join n s.1 s.2⟩
theorem Jr(xs:List (List UInt8)):Lib.join xs []=xs.flatten:=by
 cases xs with
 |nil=>rfl
 |cons x r=>rw[Lib.join_cons];simp[Lib.joinTail]
theorem Kk(n:Nat)(v0:Lv)(v1:List UInt8)(z:List UInt8)(hz:strings_Join n v0 v1=some z):Con Tryz.prog 156 [.sl (.cons .str .nil) v0,.raw (ar v1)] (.st z):=by
 intro S vs w hS hG hA;have hz:(bif v1.isEmpty&&decide (1<=(v0.length:Int))&&decide ((v0.length:Int)<=1000)&&decide (((wJ v0).length:Int)<=140737488355328)then some (wJ v0)else none)=some z:=hz
 cases hc:v1.isEmpty&&decide (1<=(v0.length:Int))&&decide ((v0.length:Int)<=1000)&&decide (((wJ v0).length:Int)<=140737488355328)with
 |false=>rw[hc]at hz;cases hz
 | true=>
  rw[hc]at hz;have hzz:wJ v0=z:=Option.some.inj hz
  simp only[Nn,decide_eq_true_eq,List.isEmpty_iff]at hc;obtain⟨⟨⟨h0,h1⟩,h2⟩,h3⟩:=hc;subst h0;obtain⟨hsz,hden⟩:=hA;have hsz:vs.size=2:=hsz
  obtain⟨a,b,rfl⟩:∃a b,vs=#[a,b]:=by
   match vs,hsz with
   |⟨[a,b]⟩,_=>exact⟨a,b,rfl⟩
  have d0:Den S w a (.sl (.cons .str .nil) v0):=hden 0 a _ rfl rfl
  have d1:Den S w b (.raw (ar [])):=hden 1 b _ rfl rfl
  have hb:b=.string ⟨#[]⟩:=(Den.raw_iff.1 d1).1
  subst hb;obtain⟨A,c,rfl,g1,g2,g3,g4⟩:=d0.view;obtain⟨xs,hxs⟩:∃xs:List ByteArray,xs=v0.map fun r=>(⟨((r.getD 0 (.int 0)).s).toArray⟩:ByteArray):=⟨_,rfl⟩
  have hlen:xs.length=v0.length:=by rw[hxs,Nk]
  have hget:∀(j:Nat) r,v0[j]?=some r->∃l,r=[.raw (ar l)]:=fun j r hr=>by
   have:=g3 j r hr
   match r,this with
   |[x],h=>
    have hx:x.ty=.str:=by simpa[Ty.list]using h
    exact⟨x.s,by rw[<-AS hx]⟩
   |[],h=>simp[Ty.list]at h
   |_::_::_,h=>simp[Ty.list]at h
  obtain⟨r0,hr0⟩:∃r,v0[0]?=some r:=⟨v0[0],Na (by omega)⟩
  obtain⟨p,hA,hS0,hp⟩:=g4 0 r0 hr0;obtain⟨l0,rfl⟩:=hget 0 r0 hr0;obtain⟨u0,hu0,_⟩:=hp 0 _ rfl;obtain⟨bk,o,sp⟩:=p;have hsp:sp=none:=by
   have hu:w.cell? ⟨bk,o,sp⟩=some u0:=hu0
   unfold World.cell? at hu
   split at hu
   ·cases sp with
    |none=>rfl
    |some q=>simp at hu
   ·cases hu
  subst hsp;subst hA;have hbk:bk<w.heap.size:=hS _ hS0
  have hcells:∀(j:Nat) x,xs[j]?=some x->w.cell? ⟨bk,o+j,none⟩=some (.string x):=fun j x hx=>by
   rw[hxs,Nr]at hx;obtain⟨r,hr,rfl⟩:=Option.map_eq_some_iff.1 hx;obtain⟨l,rfl⟩:=hget j r hr;obtain⟨p,hA,_,hp⟩:=g4 j _ hr;cases hA
   obtain⟨u,hu,hd⟩:=hp 0 _ rfl;have e:(⟨bk,o,none⟩:Addr).add (j*(Ty.cons .str .nil).len+0)=⟨bk,o+j,none⟩:=by
    have:j*(Ty.cons .str .nil).len+0=j:=by simp[Ty.len]
    rw[this];unfold Addr.add;split
    ·next h=>rw[h];rfl
    ·rfl
   rw[e]at hu;rw[hu,(Den.raw_iff.1 hd).1];simp[ar,AV.s,AV.r]
  have hmap:xs.map (·.data.toList)=v0.map fun r=>(r.getD 0 (.int 0)).s:=by
   rw[hxs,List.map_map];exact NS fun r _=>by simp
  have hjoin:Lib.join (xs.map (·.data.toList)) (ByteArray.mk #[]).data.toList=z:=by
   show Lib.join (xs.map (·.data.toList)) []=z
   rw[Jr,hmap,<-hzz];rfl
  have hc:=Tryz.strings_Join bk o c xs ⟨#[]⟩ w hcells hbk (by omega) (by omega) (by rw[hjoin,<-hzz];omega)
  rw[hjoin,hlen]at hc;refine hc.mono fun e w' ⟨he,hb⟩=>?_
  exact⟨_,fun _=>False,[],he,⟨rfl,rfl⟩,List.nodup_nil,fun _ h=>(by cases h),fun _ h=>h.elim,hb⟩
theorem Bk:strings_Join_t.ok Tryz.prog 156:=fun n s z hz=>Kk n s.1 s.2 z hz
def strings_Join_T:Tab:=(156,strings_Join_t)::wire_PutInt_T
theorem pf:strings_Join_T.ok Tryz.prog:=Tab.ok_cons Bk yY
noncomputable section
abbrev aR:=List UInt8
abbrev bP:=Int×Int×Int×Int×Int×Int×Int×Int×Int
abbrev kN:=Int×Lv
abbrev vo:=Lv×Int
abbrev vq:=Lv
def vU(n:Nat)(go0:bP->Option aR)(go1:bP->Option aR)(v4 v5 v6 v7 v8 v9 v10 v11 v12:Int)(v16:Lv)(v17 v18 v19 v20 v21 v22 v23 v24 v25:Int):Option aR:=
 (bif v17<64 then bif 0<=v17 then bif(-9223372036854775808<=(v17+1))&&((v17+1)<=9223372036854775807)then go1 ((v17+1),(aa .add .u32 (aa .add .u32 (aa .add .u32 (aa .add .u32 (aa .add .u32 v25 (aa .xor .u32 (aa .xor .u32 (aa .xor .u32 0 (aa .or .u32 (aa .shl .u32 v22 26) (aa .shr .u32 v22 6))) (aa .or .u32 (aa .shl .u32 v22 21) (aa .shr .u32 v22 11))) (aa .or .u32 (aa .shl .u32 v22 7) (aa .shr .u32 v22 25)))) (aa .xor .u32 (aa .and .u32 v22 v23) (aa .and .u32 (aa .xor .u32 4294967295 v22) v24))) (cN ((((((((((((((((((((((((((((((((((((((((((((((((((((((((((((((((([]:Lv)++[[(AV.raw (.int .u32 1116352408))]])++[[(AV.raw (.int .u32 1899447441))]])++[[(AV.raw (.int .u32 3049323471))]])++[[(AV.raw (.int .u32 3921009573))]])++[[(AV.raw (.int .u32 961987163))]])++[[(AV.raw (.int .u32 1508970993))]])++[[(AV.raw (.int .u32 2453635748))]])++[[(AV.raw (.int .u32 2870763221))]])++[[(AV.raw (.int .u32 3624381080))]])++[[(AV.raw (.int .u32 310598401))]])++[[(AV.raw (.int .u32 607225278))]])++[[(AV.raw (.int .u32 1426881987))]])++[[(AV.raw (.int .u32 1925078388))]])++[[(AV.raw (.int .u32 2162078206))]])++[[(AV.raw (.int .u32 2614888103))]])++[[(AV.raw (.int .u32 3248222580))]])++[[(AV.raw (.int .u32 3835390401))]])++[[(AV.raw (.int .u32 4022224774))]])++[[(AV.raw (.int .u32 264347078))]])++[[(AV.raw (.int .u32 604807628))]])++[[(AV.raw (.int .u32 770255983))]])++[[(AV.raw (.int .u32 1249150122))]])++[[(AV.raw (.int .u32 1555081692))]])++[[(AV.raw (.int .u32 1996064986))]])++[[(AV.raw (.int .u32 2554220882))]])++[[(AV.raw (.int .u32 2821834349))]])++[[(AV.raw (.int .u32 2952996808))]])++[[(AV.raw (.int .u32 3210313671))]])++[[(AV.raw (.int .u32 3336571891))]])++[[(AV.raw (.int .u32 3584528711))]])++[[(AV.raw (.int .u32 113926993))]])++[[(AV.raw (.int .u32 338241895))]])++[[(AV.raw (.int .u32 666307205))]])++[[(AV.raw (.int .u32 773529912))]])++[[(AV.raw (.int .u32 1294757372))]])++[[(AV.raw (.int .u32 1396182291))]])++[[(AV.raw (.int .u32 1695183700))]])++[[(AV.raw (.int .u32 1986661051))]])++[[(AV.raw (.int .u32 2177026350))]])++[[(AV.raw (.int .u32 2456956037))]])++[[(AV.raw (.int .u32 2730485921))]])++[[(AV.raw (.int .u32 2820302411))]])++[[(AV.raw (.int .u32 3259730800))]])++[[(AV.raw (.int .u32 3345764771))]])++[[(AV.raw (.int .u32 3516065817))]])++[[(AV.raw (.int .u32 3600352804))]])++[[(AV.raw (.int .u32 4094571909))]])++[[(AV.raw (.int .u32 275423344))]])++[[(AV.raw (.int .u32 430227734))]])++[[(AV.raw (.int .u32 506948616))]])++[[(AV.raw (.int .u32 659060556))]])++[[(AV.raw (.int .u32 883997877))]])++[[(AV.raw (.int .u32 958139571))]])++[[(AV.raw (.int .u32 1322822218))]])++[[(AV.raw (.int .u32 1537002063))]])++[[(AV.raw (.int .u32 1747873779))]])++[[(AV.raw (.int .u32 1955562222))]])++[[(AV.raw (.int .u32 2024104815))]])++[[(AV.raw (.int .u32 2227730452))]])++[[(AV.raw (.int .u32 2361852424))]])++[[(AV.raw (.int .u32 2428436474))]])++[[(AV.raw (.int .u32 2756734187))]])++[[(AV.raw (.int .u32 3204031479))]])++[[(AV.raw (.int .u32 3329325298))]]) v17 0)) (cN ((((((((((((((((((((((((((((((((((((((((((((((((((((((((((((((((([]:Lv)++[[(AV.raw (.int .u32 (cN v16 0 0)))]])++[[(AV.raw (.int .u32 (cN v16 1 0)))]])++[[(AV.raw (.int .u32 (cN v16 2 0)))]])++[[(AV.raw (.int .u32 (cN v16 3 0)))]])++[[(AV.raw (.int .u32 (cN v16 4 0)))]])++[[(AV.raw (.int .u32 (cN v16 5 0)))]])++[[(AV.raw (.int .u32 (cN v16 6 0)))]])++[[(AV.raw (.int .u32 (cN v16 7 0)))]])++[[(AV.raw (.int .u32 (cN v16 8 0)))]])++[[(AV.raw (.int .u32 (cN v16 9 0)))]])++[[(AV.raw (.int .u32 (cN v16 10 0)))]])++[[(AV.raw (.int .u32 (cN v16 11 0)))]])++[[(AV.raw (.int .u32 (cN v16 12 0)))]])++[[(AV.raw (.int .u32 (cN v16 13 0)))]])++[[(AV.raw (.int .u32 (cN v16 14 0)))]])++[[(AV.raw (.int .u32 (cN v16 15 0)))]])++[[(AV.raw (.int .u32 (cN v16 16 0)))]])++[[(AV.raw (.int .u32 (cN v16 17 0)))]])++[[(AV.raw (.int .u32 (cN v16 18 0)))]])++[[(AV.raw (.int .u32 (cN v16 19 0)))]])++[[(AV.raw (.int .u32 (cN v16 20 0)))]])++[[(AV.raw (.int .u32 (cN v16 21 0)))]])++[[(AV.raw (.int .u32 (cN v16 22 0)))]])++[[(AV.raw (.int .u32 (cN v16 23 0)))]])++[[(AV.raw (.int .u32 (cN v16 24 0)))]])++[[(AV.raw (.int .u32 (cN v16 25 0)))]])++[[(AV.raw (.int .u32 (cN v16 26 0)))]])++[[(AV.raw (.int .u32 (cN v16 27 0)))]])++[[(AV.raw (.int .u32 (cN v16 28 0)))]])++[[(AV.raw (.int .u32 (cN v16 29 0)))]])++[[(AV.raw (.int .u32 (cN v16 30 0)))]])++[[(AV.raw (.int .u32 (cN v16 31 0)))]])++[[(AV.raw (.int .u32 (cN v16 32 0)))]])++[[(AV.raw (.int .u32 (cN v16 33 0)))]])++[[(AV.raw (.int .u32 (cN v16 34 0)))]])++[[(AV.raw (.int .u32 (cN v16 35 0)))]])++[[(AV.raw (.int .u32 (cN v16 36 0)))]])++[[(AV.raw (.int .u32 (cN v16 37 0)))]])++[[(AV.raw (.int .u32 (cN v16 38 0)))]])++[[(AV.raw (.int .u32 (cN v16 39 0)))]])++[[(AV.raw (.int .u32 (cN v16 40 0)))]])++[[(AV.raw (.int .u32 (cN v16 41 0)))]])++[[(AV.raw (.int .u32 (cN v16 42 0)))]])++[[(AV.raw (.int .u32 (cN v16 43 0)))]])++[[(AV.raw (.int .u32 (cN v16 44 0)))]])++[[(AV.raw (.int .u32 (cN v16 45 0)))]])++[[(AV.raw (.int .u32 (cN v16 46 0)))]])++[[(AV.raw (.int .u32 (cN v16 47 0)))]])++[[(AV.raw (.int .u32 (cN v16 48 0)))]])++[[(AV.raw (.int .u32 (cN v16 49 0)))]])++[[(AV.raw (.int .u32 (cN v16 50 0)))]])++[[(AV.raw (.int .u32 (cN v16 51 0)))]])++[[(AV.raw (.int .u32 (cN v16 52 0)))]])++[[(AV.raw (.int .u32 (cN v16 53 0)))]])++[[(AV.raw (.int .u32 (cN v16 54 0)))]])++[[(AV.raw (.int .u32 (cN v16 55 0)))]])++[[(AV.raw (.int .u32 (cN v16 56 0)))]])++[[(AV.raw (.int .u32 (cN v16 57 0)))]])++[[(AV.raw (.int .u32 (cN v16 58 0)))]])++[[(AV.raw (.int .u32 (cN v16 59 0)))]])++[[(AV.raw (.int .u32 (cN v16 60 0)))]])++[[(AV.raw (.int .u32 (cN v16 61 0)))]])++[[(AV.raw (.int .u32 (cN v16 62 0)))]])++[[(AV.raw (.int .u32 (cN v16 63 0)))]]) v17 0)) (aa .add .u32 (aa .xor .u32 (aa .xor .u32 (aa .xor .u32 0 (aa .or .u32 (aa .shl .u32 v18 30) (aa .shr .u32 v18 2))) (aa .or .u32 (aa .shl .u32 v18 19) (aa .shr .u32 v18 13))) (aa .or .u32 (aa .shl .u32 v18 10) (aa .shr .u32 v18 22))) (aa .xor .u32 (aa .xor .u32 (aa .and .u32 v18 v19) (aa .and .u32 v18 v20)) (aa .and .u32 v19 v20)))),v18,v19,v20,(aa .add .u32 v21 (aa .add .u32 (aa .add .u32 (aa .add .u32 (aa .add .u32 v25 (aa .xor .u32 (aa .xor .u32 (aa .xor .u32 0 (aa .or .u32 (aa .shl .u32 v22 26) (aa .shr .u32 v22 6))) (aa .or .u32 (aa .shl .u32 v22 21) (aa .shr .u32 v22 11))) (aa .or .u32 (aa .shl .u32 v22 7) (aa .shr .u32 v22 25)))) (aa .xor .u32 (aa .and .u32 v22 v23) (aa .and .u32 (aa .xor .u32 4294967295 v22) v24))) (cN ((((((((((((((((((((((((((((((((((((((((((((((((((((((((((((((((([]:Lv)++[[(AV.raw (.int .u32 1116352408))]])++[[(AV.raw (.int .u32 1899447441))]])++[[(AV.raw (.int .u32 3049323471))]])++[[(AV.raw (.int .u32 3921009573))]])++[[(AV.raw (.int .u32 961987163))]])++[[(AV.raw (.int .u32 1508970993))]])++[[(AV.raw (.int .u32 2453635748))]])++[[(AV.raw (.int .u32 2870763221))]])++[[(AV.raw (.int .u32 3624381080))]])++[[(AV.raw (.int .u32 310598401))]])++[[(AV.raw (.int .u32 607225278))]])++[[(AV.raw (.int .u32 1426881987))]])++[[(AV.raw (.int .u32 1925078388))]])++[[(AV.raw (.int .u32 2162078206))]])++[[(AV.raw (.int .u32 2614888103))]])++[[(AV.raw (.int .u32 3248222580))]])++[[(AV.raw (.int .u32 3835390401))]])++[[(AV.raw (.int .u32 4022224774))]])++[[(AV.raw (.int .u32 264347078))]])++[[(AV.raw (.int .u32 604807628))]])++[[(AV.raw (.int .u32 770255983))]])++[[(AV.raw (.int .u32 1249150122))]])++[[(AV.raw (.int .u32 1555081692))]])++[[(AV.raw (.int .u32 1996064986))]])++[[(AV.raw (.int .u32 2554220882))]])++[[(AV.raw (.int .u32 2821834349))]])++[[(AV.raw (.int .u32 2952996808))]])++[[(AV.raw (.int .u32 3210313671))]])++[[(AV.raw (.int .u32 3336571891))]])++[[(AV.raw (.int .u32 3584528711))]])++[[(AV.raw (.int .u32 113926993))]])++[[(AV.raw (.int .u32 338241895))]])++[[(AV.raw (.int .u32 666307205))]])++[[(AV.raw (.int .u32 773529912))]])++[[(AV.raw (.int .u32 1294757372))]])++[[(AV.raw (.int .u32 1396182291))]])++[[(AV.raw (.int .u32 1695183700))]])++[[(AV.raw (.int .u32 1986661051))]])++[[(AV.raw (.int .u32 2177026350))]])++[[(AV.raw (.int .u32 2456956037))]])++[[(AV.raw (.int .u32 2730485921))]])++[[(AV.raw (.int .u32 2820302411))]])++[[(AV.raw (.int .u32 3259730800))]])++[[(AV.raw (.int .u32 3345764771))]])++[[(AV.raw (.int .u32 3516065817))]])++[[(AV.raw (.int .u32 3600352804))]])++[[(AV.raw (.int .u32 4094571909))]])++[[(AV.raw (.int .u32 275423344))]])++[[(AV.raw (.int .u32 430227734))]])++[[(AV.raw (.int .u32 506948616))]])++[[(AV.raw (.int .u32 659060556))]])++[[(AV.raw (.int .u32 883997877))]])++[[(AV.raw (.int .u32 958139571))]])++[[(AV.raw (.int .u32 1322822218))]])++[[(AV.raw (.int .u32 1537002063))]])++[[(AV.raw (.int .u32 1747873779))]])++[[(AV.raw (.int .u32 1955562222))]])++[[(AV.raw (.int .u32 2024104815))]])++[[(AV.raw (.int .u32 2227730452))]])++[[(AV.raw (.int .u32 2361852424))]])++[[(AV.raw (.int .u32 2428436474))]])++[[(AV.raw (.int .u32 2756734187))]])++[[(AV.raw (.int .u32 3204031479))]])++[[(AV.raw (.int .u32 3329325298))]]) v17 0)) (cN ((((((((((((((((((((((((((((((((((((((((((((((((((((((((((((((((([]:Lv)++[[(AV.raw (.int .u32 (cN v16 0 0)))]])++[[(AV.raw (.int .u32 (cN v16 1 0)))]])++[[(AV.raw (.int .u32 (cN v16 2 0)))]])++[[(AV.raw (.int .u32 (cN v16 3 0)))]])++[[(AV.raw (.int .u32 (cN v16 4 0)))]])++[[(AV.raw (.int .u32 (cN v16 5 0)))]])++[[(AV.raw (.int .u32 (cN v16 6 0)))]])++[[(AV.raw (.int .u32 (cN v16 7 0)))]])++[[(AV.raw (.int .u32 (cN v16 8 0)))]])++[[(AV.raw (.int .u32 (cN v16 9 0)))]])++[[(AV.raw (.int .u32 (cN v16 10 0)))]])++[[(AV.raw (.int .u32 (cN v16 11 0)))]])++[[(AV.raw (.int .u32 (cN v16 12 0)))]])++[[(AV.raw (.int .u32 (cN v16 13 0)))]])++[[(AV.raw (.int .u32 (cN v16 14 0)))]])++[[(AV.raw (.int .u32 (cN v16 15 0)))]])++[[(AV.raw (.int .u32 (cN v16 16 0)))]])++[[(AV.raw (.int .u32 (cN v16 17 0)))]])++[[(AV.raw (.int .u32 (cN v16 18 0)))]])++[[(AV.raw (.int .u32 (cN v16 19 0)))]])++[[(AV.raw (.int .u32 (cN v16 20 0)))]])++[[(AV.raw (.int .u32 (cN v16 21 0)))]])++[[(AV.raw (.int .u32 (cN v16 22 0)))]])++[[(AV.raw (.int .u32 (cN v16 23 0)))]])++[[(AV.raw (.int .u32 (cN v16 24 0)))]])++[[(AV.raw (.int .u32 (cN v16 25 0)))]])++[[(AV.raw (.int .u32 (cN v16 26 0)))]])++[[(AV.raw (.int .u32 (cN v16 27 0)))]])++[[(AV.raw (.int .u32 (cN v16 28 0)))]])++[[(AV.raw (.int .u32 (cN v16 29 0)))]])++[[(AV.raw (.int .u32 (cN v16 30 0)))]])++[[(AV.raw (.int .u32 (cN v16 31 0)))]])++[[(AV.raw (.int .u32 (cN v16 32 0)))]])++[[(AV.raw (.int .u32 (cN v16 33 0)))]])++[[(AV.raw (.int .u32 (cN v16 34 0)))]])++[[(AV.raw (.int .u32 (cN v16 35 0)))]])++[[(AV.raw (.int .u32 (cN v16 36 0)))]])++[[(AV.raw (.int .u32 (cN v16 37 0)))]])++[[(AV.raw (.int .u32 (cN v16 38 0)))]])++[[(AV.raw (.int .u32 (cN v16 39 0)))]])++[[(AV.raw (.int .u32 (cN v16 40 0)))]])++[[(AV.raw (.int .u32 (cN v16 41 0)))]])++[[(AV.raw (.int .u32 (cN v16 42 0)))]])++[[(AV.raw (.int .u32 (cN v16 43 0)))]])++[[(AV.raw (.int .u32 (cN v16 44 0)))]])++[[(AV.raw (.int .u32 (cN v16 45 0)))]])++[[(AV.raw (.int .u32 (cN v16 46 0)))]])++[[(AV.raw (.int .u32 (cN v16 47 0)))]])++[[(AV.raw (.int .u32 (cN v16 48 0)))]])++[[(AV.raw (.int .u32 (cN v16 49 0)))]])++[[(AV.raw (.int .u32 (cN v16 50 0)))]])++[[(AV.raw (.int .u32 (cN v16 51 0)))]])++[[(AV.raw (.int .u32 (cN v16 52 0)))]])++[[(AV.raw (.int .u32 (cN v16 53 0)))]])++[[(AV.raw (.int .u32 (cN v16 54 0)))]])++[[(AV.raw (.int .u32 (cN v16 55 0)))]])++[[(AV.raw (.int .u32 (cN v16 56 0)))]])++[[(AV.raw (.int .u32 (cN v16 57 0)))]])++[[(AV.raw (.int .u32 (cN v16 58 0)))]])++[[(AV.raw (.int .u32 (cN v16 59 0)))]])++[[(AV.raw (.int .u32 (cN v16 60 0)))]])++[[(AV.raw (.int .u32 (cN v16 61 0)))]])++[[(AV.raw (.int .u32 (cN v16 62 0)))]])++[[(AV.raw (.int .u32 (cN v16 63 0)))]]) v17 0))),v22,v23,v24)else none else none else bif(-9223372036854775808<=(v4+64))&&((v4+64)<=9223372036854775807)then go0 ((v4+64),(aa .add .u32 v5 v18),(aa .add .u32 v6 v19),(aa .add .u32 v7 v20),(aa .add .u32 v8 v21),(aa .add .u32 v9 v22),(aa .add .u32 v10 v23),(aa .add .u32 v11 v24),(aa .add .u32 v12 v25))else none)
def gL(n:Nat)(go0:bP->Option aR)(go1:kN->Option aR)(v4 v5 v6 v7 v8 v9 v10 v11 v12 v15:Int)(v16:Lv):Option aR:=
 (bif v15<64 then bif(-9223372036854775808<=(v15-15))&&((v15-15)<=9223372036854775807)then bif 0<=(v15-15) then bif (v15-15)<64 then bif (v15-15)<(v16.length:Int) then bif(-9223372036854775808<=(v15-2))&&((v15-2)<=9223372036854775807)then bif 0<=(v15-2) then bif (v15-2)<64 then bif (v15-2)<(v16.length:Int) then bif(-9223372036854775808<=(v15-16))&&((v15-16)<=9223372036854775807)then bif 0<=(v15-16) then bif (v15-16)<64 then bif (v15-16)<(v16.length:Int) then bif(-9223372036854775808<=(v15-7))&&((v15-7)<=9223372036854775807)then bif 0<=(v15-7) then bif (v15-7)<64 then bif (v15-7)<(v16.length:Int) then bif 0<=v15 then bif v15<(v16.length:Int) then bif(-9223372036854775808<=(v15+1))&&((v15+1)<=9223372036854775807)then go1 ((v15+1),(Nv v16 (v15).toNat (fun r=>r.set 0 (AV.raw (.int .u32 (aa .add .u32 (aa .add .u32 (aa .add .u32 (cN v16 (v15-16) 0) (aa .xor .u32 (aa .xor .u32 (aa .xor .u32 0 (aa .or .u32 (aa .shl .u32 (cN v16 (v15-15) 0) 25) (aa .shr .u32 (cN v16 (v15-15) 0) 7))) (aa .or .u32 (aa .shl .u32 (cN v16 (v15-15) 0) 14) (aa .shr .u32 (cN v16 (v15-15) 0) 18))) (aa .shr .u32 (cN v16 (v15-15) 0) 3))) (cN v16 (v15-7) 0)) (aa .xor .u32 (aa .xor .u32 (aa .xor .u32 0 (aa .or .u32 (aa .shl .u32 (cN v16 (v15-2) 0) 15) (aa .shr .u32 (cN v16 (v15-2) 0) 17))) (aa .or .u32 (aa .shl .u32 (cN v16 (v15-2) 0) 13) (aa .shr .u32 (cN v16 (v15-2) 0) 19))) (aa .shr .u32 (cN v16 (v15-2) 0) 10))))))))else none else none else none else none else none else none else none else none else none else none else none else none else none else none else none else none else none else none else none else bif 64<=(v16.length:Int) then bif 64<=(v16.length:Int) then(af (fun go1 s=>vU n go0 go1 v4 v5 v6 v7 v8 v9 v10 v11 v12 v16 s.1 s.2.1 s.2.2.1 s.2.2.2.1 s.2.2.2.2.1 s.2.2.2.2.2.1 s.2.2.2.2.2.2.1 s.2.2.2.2.2.2.2.1 s.2.2.2.2.2.2.2.2) n ((0,v5,v6,v7,v8,v9,v10,v11,v12):bP))else none else none)
def gI(n:Nat)(go0:bP->Option aR)(go1:kN->Option aR)(v2:Lv)(v4 v5 v6 v7 v8 v9 v10 v11 v12 v13:Int)(v14:Lv):Option aR:=
 (bif v13<16 then bif(-9223372036854775808<=(4*v13))&&((4*v13)<=9223372036854775807)then bif 0<=(4*v13) then bif (4*v13)<((Nc (v4).toNat (Nb ((v4+(b9 64 ((Nc (v4).toNat (Nb ((v2.length:Int)).toNat v2)).length:Int)))).toNat v2)).length:Int) then bif(-9223372036854775808<=((4*v13)+1))&&(((4*v13)+1)<=9223372036854775807)then bif 0<=((4*v13)+1) then bif ((4*v13)+1)<((Nc (v4).toNat (Nb ((v4+(b9 64 ((Nc (v4).toNat (Nb ((v2.length:Int)).toNat v2)).length:Int)))).toNat v2)).length:Int) then bif(-9223372036854775808<=((4*v13)+2))&&(((4*v13)+2)<=9223372036854775807)then bif 0<=((4*v13)+2) then bif ((4*v13)+2)<((Nc (v4).toNat (Nb ((v4+(b9 64 ((Nc (v4).toNat (Nb ((v2.length:Int)).toNat v2)).length:Int)))).toNat v2)).length:Int) then bif(-9223372036854775808<=((4*v13)+3))&&(((4*v13)+3)<=9223372036854775807)then bif 0<=((4*v13)+3) then bif ((4*v13)+3)<((Nc (v4).toNat (Nb ((v4+(b9 64 ((Nc (v4).toNat (Nb ((v2.length:Int)).toNat v2)).length:Int)))).toNat v2)).length:Int) then bif 0<=v13 then bif v13<64 then bif v13<(v14.length:Int) then bif(-9223372036854775808<=(v13+1))&&((v13+1)<=9223372036854775807)then go1 ((v13+1),(Nv v14 (v13).toNat (fun r=>r.set 0 (AV.raw (.int .u32 (aa .or .u32 (aa .or .u32 (aa .or .u32 (aa .shl .u32 (IntKind.wrap .u32 (cN (Nc (v4).toNat (Nb ((v4+(b9 64 ((Nc (v4).toNat (Nb ((v2.length:Int)).toNat v2)).length:Int)))).toNat v2)) (4*v13) 0)) 24) (aa .shl .u32 (IntKind.wrap .u32 (cN (Nc (v4).toNat (Nb ((v4+(b9 64 ((Nc (v4).toNat (Nb ((v2.length:Int)).toNat v2)).length:Int)))).toNat v2)) ((4*v13)+1) 0)) 16)) (aa .shl .u32 (IntKind.wrap .u32 (cN (Nc (v4).toNat (Nb ((v4+(b9 64 ((Nc (v4).toNat (Nb ((v2.length:Int)).toNat v2)).length:Int)))).toNat v2)) ((4*v13)+2) 0)) 8)) (IntKind.wrap .u32 (cN (Nc (v4).toNat (Nb ((v4+(b9 64 ((Nc (v4).toNat (Nb ((v2.length:Int)).toNat v2)).length:Int)))).toNat v2)) ((4*v13)+3) 0))))))))else none else none else none else none else none else none else none else none else none else none else none else none else none else none else none else none else(af (fun go1 s=>gL n go0 go1 v4 v5 v6 v7 v8 v9 v10 v11 v12 s.1 s.2) n ((16,v14):kN)))
def gK(n:Nat)(go0:bP->Option aR)(v2:Lv)(v4 v5 v6 v7 v8 v9 v10 v11 v12:Int):Option aR:=
 (bif v4<(v2.length:Int) then bif 0<=v4 then bif v4<=(v2.length:Int) then bif (v2.length:Int)<=(v2.length:Int) then bif(-9223372036854775808<=(v4+(b9 64 ((Nc (v4).toNat (Nb ((v2.length:Int)).toNat v2)).length:Int))))&&((v4+(b9 64 ((Nc (v4).toNat (Nb ((v2.length:Int)).toNat v2)).length:Int)))<=9223372036854775807)then bif v4<=(v4+(b9 64 ((Nc (v4).toNat (Nb ((v2.length:Int)).toNat v2)).length:Int))) then bif (v4+(b9 64 ((Nc (v4).toNat (Nb ((v2.length:Int)).toNat v2)).length:Int)))<=(v2.length:Int) then(af (fun go1 s=>gI n go0 go1 v2 v4 v5 v6 v7 v8 v9 v10 v11 v12 s.1 s.2) n ((0,(M9 ((64:Int)).toNat [(AV.raw (.int .u32 0))])):kN))else none else none else none else none else none else none else some (bytesOf ((((((((((((((((((((((((((((((((([]:Lv)++[[(AV.raw (.int .u8 (IntKind.wrap .u8 (aa .shr .u32 v5 24))))]])++[[(AV.raw (.int .u8 (IntKind.wrap .u8 (aa .shr .u32 v5 16))))]])++[[(AV.raw (.int .u8 (IntKind.wrap .u8 (aa .shr .u32 v5 8))))]])++[[(AV.raw (.int .u8 (IntKind.wrap .u8 (aa .shr .u32 v5 0))))]])++[[(AV.raw (.int .u8 (IntKind.wrap .u8 (aa .shr .u32 v6 24))))]])++[[(AV.raw (.int .u8 (IntKind.wrap .u8 (aa .shr .u32 v6 16))))]])++[[(AV.raw (.int .u8 (IntKind.wrap .u8 (aa .shr .u32 v6 8))))]])++[[(AV.raw (.int .u8 (IntKind.wrap .u8 (aa .shr .u32 v6 0))))]])++[[(AV.raw (.int .u8 (IntKind.wrap .u8 (aa .shr .u32 v7 24))))]])++[[(AV.raw (.int .u8 (IntKind.wrap .u8 (aa .shr .u32 v7 16))))]])++[[(AV.raw (.int .u8 (IntKind.wrap .u8 (aa .shr .u32 v7 8))))]])++[[(AV.raw (.int .u8 (IntKind.wrap .u8 (aa .shr .u32 v7 0))))]])++[[(AV.raw (.int .u8 (IntKind.wrap .u8 (aa .shr .u32 v8 24))))]])++[[(AV.raw (.int .u8 (IntKind.wrap .u8 (aa .shr .u32 v8 16))))]])++[[(AV.raw (.int .u8 (IntKind.wrap .u8 (aa .shr .u32 v8 8))))]])++[[(AV.raw (.int .u8 (IntKind.wrap .u8 (aa .shr .u32 v8 0))))]])++[[(AV.raw (.int .u8 (IntKind.wrap .u8 (aa .shr .u32 v9 24))))]])++[[(AV.raw (.int .u8 (IntKind.wrap .u8 (aa .shr .u32 v9 16))))]])++[[(AV.raw (.int .u8 (IntKind.wrap .u8 (aa .shr .u32 v9 8))))]])++[[(AV.raw (.int .u8 (IntKind.wrap .u8 (aa .shr .u32 v9 0))))]])++[[(AV.raw (.int .u8 (IntKind.wrap .u8 (aa .shr .u32 v10 24))))]])++[[(AV.raw (.int .u8 (IntKind.wrap .u8 (aa .shr .u32 v10 16))))]])++[[(AV.raw (.int .u8 (IntKind.wrap .u8 (aa .shr .u32 v10 8))))]])++[[(AV.raw (.int .u8 (IntKind.wrap .u8 (aa .shr .u32 v10 0))))]])++[[(AV.raw (.int .u8 (IntKind.wrap .u8 (aa .shr .u32 v11 24))))]])++[[(AV.raw (.int .u8 (IntKind.wrap .u8 (aa .shr .u32 v11 16))))]])++[[(AV.raw (.int .u8 (IntKind.wrap .u8 (aa .shr .u32 v11 8))))]])++[[(AV.raw (.int .u8 (IntKind.wrap .u8 (aa .shr .u32 v11 0))))]])++[[(AV.raw (.int .u8 (IntKind.wrap .u8 (aa .shr .u32 v12 24))))]])++[[(AV.raw (.int .u8 (IntKind.wrap .u8 (aa .shr .u32 v12 16))))]])++[[(AV.raw (.int .u8 (IntKind.wrap .u8 (aa .shr .u32 v12 8))))]])++[[(AV.raw (.int .u8 (IntKind.wrap .u8 (aa .shr .u32 v12 0))))]])))
def fy(n:Nat)(go0:vo->Option aR)(v0:List UInt8)(v2:Lv)(v3:Int):Option aR:=
 (bif 0<=v3 then bif(-9223372036854775808<=(8*(v0.length:Int)))&&((8*(v0.length:Int))<=9223372036854775807)then bif(-9223372036854775808<=(8*v3))&&((8*v3)<=9223372036854775807)then bif 0<=(8*v3) then bif (((v2.length:Int)+1)*1)<=140737488355328 then bif(-9223372036854775808<=(v3-1))&&((v3-1)<=9223372036854775807)then go0 ((v2++[[(AV.raw (.int .u8 (IntKind.wrap .u8 (IOp.f .shr (8*(v0.length:Int)) (8*v3)))))]]),(v3-1))else none else none else none else none else none else(af (fun go0 s=>gK n go0 v2 s.1 s.2.1 s.2.2.1 s.2.2.2.1 s.2.2.2.2.1 s.2.2.2.2.2.1 s.2.2.2.2.2.2.1 s.2.2.2.2.2.2.2.1 s.2.2.2.2.2.2.2.2) n ((0,1779033703,3144134277,1013904242,2773480762,1359893119,2600822924,528734635,1541459225):bP)))
def fq(n:Nat)(go0:vq->Option aR)(v0:List UInt8)(v1:Lv):Option aR:=
 (bif !((Nm (v1.length:Int) 64)=56)then bif (((v1.length:Int)+1)*1)<=140737488355328 then go0 (v1++[[(AV.raw (.int .u8 0))]])else none else(af (fun go0 s=>fy n go0 v0 s.1 s.2) n ((v1,7):vo)))
def qP(n:Nat)(v0:List UInt8):Option aR:=
 bif (v0.length:Int)<=140737488355328 then bif ((((au v0).length:Int)+1)*1)<=140737488355328 then(af (fun go0 s=>fq n go0 v0 s) n (((au v0)++[[(AV.raw (.int .u8 128))]]):vq))else none else none
def pq(n:Nat)(v0:List UInt8):Option aR:=qP n v0
def digest_Sum_t:FnT:=⟨[(false,[.str])],.st,fun n (s:List UInt8)=>pq n s⟩
theorem Dh:digest_Sum_t.ok Tryz.prog 155:=FnT.ok_of (cfg:=⟨[((187,3,0),.unroll 5),((175,12,0),.unroll 10),((176,3,0),.unroll 10),((176,6,0),.unroll 6),((155,3,0),.inv [.tmprow 4 5000005 (.cons (.num .u8) .nil)]),((155,6,0),.inv [.tmprow 4 5000005 (.cons (.num .u8) .nil),.tmp 5 .int]),((185,1,0),.inv [.tmp 4 .int,.cell 0 0 (.num .u32),.cell 0 1 (.num .u32),.cell 0 2 (.num .u32),.cell 0 3 (.num .u32),.cell 0 4 (.num .u32),.cell 0 5 (.num .u32),.cell 0 6 (.num .u32),.cell 0 7 (.num .u32)]),((186,2,21),.inv [(.tmp 7 .int),(.inrow 20 291 (.cons (.num .u32) .nil))]),((186,7,23),.inv [(.tmp 4 .int),(.inrow 20 291 (.cons (.num .u32) .nil))]),((175,3,30),.inv [(.tmp 19 .int),(.cell 28 0 (.num .u32)),(.cell 28 1 (.num .u32)),(.cell 28 2 (.num .u32)),(.cell 28 3 (.num .u32)),(.cell 28 4 (.num .u32)),(.cell 28 5 (.num .u32)),(.cell 28 6 (.num .u32)),(.cell 28 7 (.num .u32))])],DM,[],az⟩) aT pf bI (fun s fn hf=>by rw[Tryz.func155]at hf;cases hf;kernel_rfl) (fun n s=>by kernel_rfl)
def digest_Sum_T:Tab:=(155,digest_Sum_t)::strings_Join_T
theorem sr:digest_Sum_T.ok Tryz.prog:=Tab.ok_cons Dh pf
def dg:List Nat:=[6,8,9,21,22,24,25,43,44,45,68,74,88,91,93,102,114,115,121,129,137,155,156,2000170,2000291]
abbrev cy:=Lv
abbrev gv:=Lv×Int
abbrev pg:=Lv
def cz(n:Nat)(go0:gv->Option cy)(v0:List UInt8)(v4:Lv)(v5:Int):Option cy:=
 (bif 0<=v5 then bif(-9223372036854775808<=(8*(v0.length:Int)))&&((8*(v0.length:Int))<=9223372036854775807)then bif(-9223372036854775808<=(8*v5))&&((8*v5)<=9223372036854775807)then bif 0<=(8*v5) then bif (((v4.length:Int)+1)*1)<=140737488355328 then bif(-9223372036854775808<=(v5-1))&&((v5-1)<=9223372036854775807)then go0 ((v4++[[(AV.raw (.int .u8 (IntKind.wrap .u8 (IOp.f .shr (8*(v0.length:Int)) (8*v5)))))]]),(v5-1))else none else none else none else none else none else some v4)
def cD(n:Nat)(go0:pg->Option cy)(v0:List UInt8)(v3:Lv):Option cy:=
 (bif !((Nm (v3.length:Int) 64)=56)then bif (((v3.length:Int)+1)*1)<=140737488355328 then go0 (v3++[[(AV.raw (.int .u8 0))]])else none else(af (fun go0 s=>cz n go0 v0 s.1 s.2) n ((v3,7):gv)))
def cG(n:Nat)(go0:gv->Option cy)(v0:List UInt8)(v1:Lv)(v2:Int):Option cy:=
 (bif v2<(v0.length:Int) then bif 0<=v2 then bif (((v1.length:Int)+1)*1)<=140737488355328 then bif(-9223372036854775808<=(v2+1))&&((v2+1)<=9223372036854775807)then go0 ((v1++[[(AV.raw (.int .u8 (qI v0 v2)))]]),(v2+1))else none else none else none else bif (((v1.length:Int)+1)*1)<=140737488355328 then(af (fun go0 s=>cD n go0 v0 s) n ((v1++[[(AV.raw (.int .u8 128))]]):pg))else none)
def zP(n:Nat)(v0:List UInt8):Option cy:=
 (af (fun go0 s=>cG n go0 v0 s.1 s.2) n ((([]:Lv),0):gv))
def j4(n:Nat)(v0:List UInt8):Option cy:=zP n v0
def ref02_extended_t:FnT:=⟨[(false,[.str])],(.row 5 (.cons (.num .u8) .nil)),fun n (s:List UInt8)=>j4 n s⟩
theorem xM:ref02_extended_t.ok Tryz.prog 114:=FnT.ok_of (cfg:=⟨[((114,3,0),.inv [(.tmprow 3 5 (.cons (.num .u8) .nil)),(.tmp 4 .int)]),((114,7,4),.inv [(.tmprow 3 5 (.cons (.num .u8) .nil))]),((114,10,5),.inv [(.tmprow 3 5 (.cons (.num .u8) .nil)),(.tmp 5 .int)])],dg,[],az⟩) aT sr bI (fun s fn hf=>by rw[Tryz.func114]at hf;cases hf;kernel_rfl) (fun n s=>by kernel_rfl)
def ref02_extended_T:Tab:=(114,ref02_extended_t)::digest_Sum_T
theorem mO:ref02_extended_T.ok Tryz.prog:=Tab.ok_cons xM sr
abbrev bN:=Lv
abbrev bO:=Lv×Int
def oU(n:Nat)(go0:bO->Option bN)(v0 v6 v8:Lv)(v9:Int):Option bN:=
 (bif v9<8 then bif 0<=v9 then bif v9<(v0.length:Int) then bif v9<(v6.length:Int) then bif (((v8.length:Int)+1)*4)<=140737488355328 then bif(-9223372036854775808<=(v9+1))&&((v9+1)<=9223372036854775807)then go0 ((v8++[[(AV.raw (.int .u32 (aa .add .u32 (cN v0 v9 0) (cN v6 v9 0))))]]),(v9+1))else none else none else none else none else none else some v8)
def u9(n:Nat)(go0:bO->Option bN)(v0 v4 v6:Lv)(v7:Int):Option bN:=
 (bif v7<64 then bif 0<(v6.length:Int) then bif 4<(v6.length:Int) then bif 7<(v6.length:Int) then bif 5<(v6.length:Int) then bif 6<(v6.length:Int) then bif 0<=v7 then bif v7<(v4.length:Int) then bif 1<(v6.length:Int) then bif 2<(v6.length:Int) then bif 3<(v6.length:Int) then bif(-9223372036854775808<=(v7+1))&&((v7+1)<=9223372036854775807)then go0 (((((((((([]:Lv)++[[(AV.raw (.int .u32 (aa .add .u32 (aa .add .u32 (aa .add .u32 (aa .add .u32 (aa .add .u32 (cN v6 7 0) (aa .xor .u32 (aa .xor .u32 (aa .or .u32 (aa .shr .u32 (cN v6 4 0) 6) (aa .shl .u32 (cN v6 4 0) 26)) (aa .or .u32 (aa .shr .u32 (cN v6 4 0) 11) (aa .shl .u32 (cN v6 4 0) 21))) (aa .or .u32 (aa .shr .u32 (cN v6 4 0) 25) (aa .shl .u32 (cN v6 4 0) 7)))) (aa .xor .u32 (aa .and .u32 (cN v6 4 0) (cN v6 5 0)) (aa .and .u32 (aa .xor .u32 4294967295 (cN v6 4 0)) (cN v6 6 0)))) (cN ((((((((((((((((((((((((((((((((((((((((((((((((((((((((((((((((([]:Lv)++[[(AV.raw (.int .u32 1116352408))]])++[[(AV.raw (.int .u32 1899447441))]])++[[(AV.raw (.int .u32 3049323471))]])++[[(AV.raw (.int .u32 3921009573))]])++[[(AV.raw (.int .u32 961987163))]])++[[(AV.raw (.int .u32 1508970993))]])++[[(AV.raw (.int .u32 2453635748))]])++[[(AV.raw (.int .u32 2870763221))]])++[[(AV.raw (.int .u32 3624381080))]])++[[(AV.raw (.int .u32 310598401))]])++[[(AV.raw (.int .u32 607225278))]])++[[(AV.raw (.int .u32 1426881987))]])++[[(AV.raw (.int .u32 1925078388))]])++[[(AV.raw (.int .u32 2162078206))]])++[[(AV.raw (.int .u32 2614888103))]])++[[(AV.raw (.int .u32 3248222580))]])++[[(AV.raw (.int .u32 3835390401))]])++[[(AV.raw (.int .u32 4022224774))]])++[[(AV.raw (.int .u32 264347078))]])++[[(AV.raw (.int .u32 604807628))]])++[[(AV.raw (.int .u32 770255983))]])++[[(AV.raw (.int .u32 1249150122))]])++[[(AV.raw (.int .u32 1555081692))]])++[[(AV.raw (.int .u32 1996064986))]])++[[(AV.raw (.int .u32 2554220882))]])++[[(AV.raw (.int .u32 2821834349))]])++[[(AV.raw (.int .u32 2952996808))]])++[[(AV.raw (.int .u32 3210313671))]])++[[(AV.raw (.int .u32 3336571891))]])++[[(AV.raw (.int .u32 3584528711))]])++[[(AV.raw (.int .u32 113926993))]])++[[(AV.raw (.int .u32 338241895))]])++[[(AV.raw (.int .u32 666307205))]])++[[(AV.raw (.int .u32 773529912))]])++[[(AV.raw (.int .u32 1294757372))]])++[[(AV.raw (.int .u32 1396182291))]])++[[(AV.raw (.int .u32 1695183700))]])++[[(AV.raw (.int .u32 1986661051))]])++[[(AV.raw (.int .u32 2177026350))]])++[[(AV.raw (.int .u32 2456956037))]])++[[(AV.raw (.int .u32 2730485921))]])++[[(AV.raw (.int .u32 2820302411))]])++[[(AV.raw (.int .u32 3259730800))]])++[[(AV.raw (.int .u32 3345764771))]])++[[(AV.raw (.int .u32 3516065817))]])++[[(AV.raw (.int .u32 3600352804))]])++[[(AV.raw (.int .u32 4094571909))]])++[[(AV.raw (.int .u32 275423344))]])++[[(AV.raw (.int .u32 430227734))]])++[[(AV.raw (.int .u32 506948616))]])++[[(AV.raw (.int .u32 659060556))]])++[[(AV.raw (.int .u32 883997877))]])++[[(AV.raw (.int .u32 958139571))]])++[[(AV.raw (.int .u32 1322822218))]])++[[(AV.raw (.int .u32 1537002063))]])++[[(AV.raw (.int .u32 1747873779))]])++[[(AV.raw (.int .u32 1955562222))]])++[[(AV.raw (.int .u32 2024104815))]])++[[(AV.raw (.int .u32 2227730452))]])++[[(AV.raw (.int .u32 2361852424))]])++[[(AV.raw (.int .u32 2428436474))]])++[[(AV.raw (.int .u32 2756734187))]])++[[(AV.raw (.int .u32 3204031479))]])++[[(AV.raw (.int .u32 3329325298))]]) v7 0)) (cN v4 v7 0)) (aa .add .u32 (aa .xor .u32 (aa .xor .u32 (aa .or .u32 (aa .shr .u32 (cN v6 0 0) 2) (aa .shl .u32 (cN v6 0 0) 30)) (aa .or .u32 (aa .shr .u32 (cN v6 0 0) 13) (aa .shl .u32 (cN v6 0 0) 19))) (aa .or .u32 (aa .shr .u32 (cN v6 0 0) 22) (aa .shl .u32 (cN v6 0 0) 10))) (aa .xor .u32 (aa .xor .u32 (aa .and .u32 (cN v6 0 0) (cN v6 1 0)) (aa .and .u32 (cN v6 0 0) (cN v6 2 0))) (aa .and .u32 (cN v6 1 0) (cN v6 2 0)))))))]])++[[(AV.raw (.int .u32 (cN v6 0 0)))]])++[[(AV.raw (.int .u32 (cN v6 1 0)))]])++[[(AV.raw (.int .u32 (cN v6 2 0)))]])++[[(AV.raw (.int .u32 (aa .add .u32 (cN v6 3 0) (aa .add .u32 (aa .add .u32 (aa .add .u32 (aa .add .u32 (cN v6 7 0) (aa .xor .u32 (aa .xor .u32 (aa .or .u32 (aa .shr .u32 (cN v6 4 0) 6) (aa .shl .u32 (cN v6 4 0) 26)) (aa .or .u32 (aa .shr .u32 (cN v6 4 0) 11) (aa .shl .u32 (cN v6 4 0) 21))) (aa .or .u32 (aa .shr .u32 (cN v6 4 0) 25) (aa .shl .u32 (cN v6 4 0) 7)))) (aa .xor .u32 (aa .and .u32 (cN v6 4 0) (cN v6 5 0)) (aa .and .u32 (aa .xor .u32 4294967295 (cN v6 4 0)) (cN v6 6 0)))) (cN ((((((((((((((((((((((((((((((((((((((((((((((((((((((((((((((((([]:Lv)++[[(AV.raw (.int .u32 1116352408))]])++[[(AV.raw (.int .u32 1899447441))]])++[[(AV.raw (.int .u32 3049323471))]])++[[(AV.raw (.int .u32 3921009573))]])++[[(AV.raw (.int .u32 961987163))]])++[[(AV.raw (.int .u32 1508970993))]])++[[(AV.raw (.int .u32 2453635748))]])++[[(AV.raw (.int .u32 2870763221))]])++[[(AV.raw (.int .u32 3624381080))]])++[[(AV.raw (.int .u32 310598401))]])++[[(AV.raw (.int .u32 607225278))]])++[[(AV.raw (.int .u32 1426881987))]])++[[(AV.raw (.int .u32 1925078388))]])++[[(AV.raw (.int .u32 2162078206))]])++[[(AV.raw (.int .u32 2614888103))]])++[[(AV.raw (.int .u32 3248222580))]])++[[(AV.raw (.int .u32 3835390401))]])++[[(AV.raw (.int .u32 4022224774))]])++[[(AV.raw (.int .u32 264347078))]])++[[(AV.raw (.int .u32 604807628))]])++[[(AV.raw (.int .u32 770255983))]])++[[(AV.raw (.int .u32 1249150122))]])++[[(AV.raw (.int .u32 1555081692))]])++[[(AV.raw (.int .u32 1996064986))]])++[[(AV.raw (.int .u32 2554220882))]])++[[(AV.raw (.int .u32 2821834349))]])++[[(AV.raw (.int .u32 2952996808))]])++[[(AV.raw (.int .u32 3210313671))]])++[[(AV.raw (.int .u32 3336571891))]])++[[(AV.raw (.int .u32 3584528711))]])++[[(AV.raw (.int .u32 113926993))]])++[[(AV.raw (.int .u32 338241895))]])++[[(AV.raw (.int .u32 666307205))]])++[[(AV.raw (.int .u32 773529912))]])++[[(AV.raw (.int .u32 1294757372))]])++[[(AV.raw (.int .u32 1396182291))]])++[[(AV.raw (.int .u32 1695183700))]])++[[(AV.raw (.int .u32 1986661051))]])++[[(AV.raw (.int .u32 2177026350))]])++[[(AV.raw (.int .u32 2456956037))]])++[[(AV.raw (.int .u32 2730485921))]])++[[(AV.raw (.int .u32 2820302411))]])++[[(AV.raw (.int .u32 3259730800))]])++[[(AV.raw (.int .u32 3345764771))]])++[[(AV.raw (.int .u32 3516065817))]])++[[(AV.raw (.int .u32 3600352804))]])++[[(AV.raw (.int .u32 4094571909))]])++[[(AV.raw (.int .u32 275423344))]])++[[(AV.raw (.int .u32 430227734))]])++[[(AV.raw (.int .u32 506948616))]])++[[(AV.raw (.int .u32 659060556))]])++[[(AV.raw (.int .u32 883997877))]])++[[(AV.raw (.int .u32 958139571))]])++[[(AV.raw (.int .u32 1322822218))]])++[[(AV.raw (.int .u32 1537002063))]])++[[(AV.raw (.int .u32 1747873779))]])++[[(AV.raw (.int .u32 1955562222))]])++[[(AV.raw (.int .u32 2024104815))]])++[[(AV.raw (.int .u32 2227730452))]])++[[(AV.raw (.int .u32 2361852424))]])++[[(AV.raw (.int .u32 2428436474))]])++[[(AV.raw (.int .u32 2756734187))]])++[[(AV.raw (.int .u32 3204031479))]])++[[(AV.raw (.int .u32 3329325298))]]) v7 0)) (cN v4 v7 0)))))]])++[[(AV.raw (.int .u32 (cN v6 4 0)))]])++[[(AV.raw (.int .u32 (cN v6 5 0)))]])++[[(AV.raw (.int .u32 (cN v6 6 0)))]]),(v7+1))else none else none else none else none else none else none else none else none else none else none else none else(af (fun go0 s=>oU n go0 v0 v6 s.1 s.2) n ((([]:Lv),0):bO)))
def dz(n:Nat)(go0:bO->Option bN)(v0 v4:Lv)(v5:Int):Option bN:=
 (bif v5<64 then bif(-9223372036854775808<=(v5-15))&&((v5-15)<=9223372036854775807)then bif 0<=(v5-15) then bif (v5-15)<(v4.length:Int) then bif(-9223372036854775808<=(v5-2))&&((v5-2)<=9223372036854775807)then bif 0<=(v5-2) then bif (v5-2)<(v4.length:Int) then bif(-9223372036854775808<=(v5-16))&&((v5-16)<=9223372036854775807)then bif 0<=(v5-16) then bif (v5-16)<(v4.length:Int) then bif(-9223372036854775808<=(v5-7))&&((v5-7)<=9223372036854775807)then bif 0<=(v5-7) then bif (v5-7)<(v4.length:Int) then bif (((v4.length:Int)+1)*4)<=140737488355328 then bif(-9223372036854775808<=(v5+1))&&((v5+1)<=9223372036854775807)then go0 ((v4++[[(AV.raw (.int .u32 (aa .add .u32 (aa .add .u32 (aa .add .u32 (cN v4 (v5-16) 0) (aa .xor .u32 (aa .xor .u32 (aa .or .u32 (aa .shr .u32 (cN v4 (v5-15) 0) 7) (aa .shl .u32 (cN v4 (v5-15) 0) 25)) (aa .or .u32 (aa .shr .u32 (cN v4 (v5-15) 0) 18) (aa .shl .u32 (cN v4 (v5-15) 0) 14))) (aa .shr .u32 (cN v4 (v5-15) 0) 3))) (cN v4 (v5-7) 0)) (aa .xor .u32 (aa .xor .u32 (aa .or .u32 (aa .shr .u32 (cN v4 (v5-2) 0) 17) (aa .shl .u32 (cN v4 (v5-2) 0) 15)) (aa .or .u32 (aa .shr .u32 (cN v4 (v5-2) 0) 19) (aa .shl .u32 (cN v4 (v5-2) 0) 13))) (aa .shr .u32 (cN v4 (v5-2) 0) 10)))))]]),(v5+1))else none else none else none else none else none else none else none else none else none else none else none else none else none else none else bif ((v0.length:Int)*4)<=140737488355328 then(af (fun go0 s=>u9 n go0 v0 v4 s.1 s.2) n ((v0,0):bO))else none)
def dw(n:Nat)(go0:bO->Option bN)(v0 v1 v2:Lv)(v3:Int):Option bN:=
 (bif v3<16 then bif(-9223372036854775808<=(4*v3))&&((4*v3)<=9223372036854775807)then bif 0<=(4*v3) then bif (4*v3)<(v1.length:Int) then bif(-9223372036854775808<=((4*v3)+1))&&(((4*v3)+1)<=9223372036854775807)then bif 0<=((4*v3)+1) then bif ((4*v3)+1)<(v1.length:Int) then bif(-9223372036854775808<=((4*v3)+2))&&(((4*v3)+2)<=9223372036854775807)then bif 0<=((4*v3)+2) then bif ((4*v3)+2)<(v1.length:Int) then bif(-9223372036854775808<=((4*v3)+3))&&(((4*v3)+3)<=9223372036854775807)then bif 0<=((4*v3)+3) then bif ((4*v3)+3)<(v1.length:Int) then bif (((v2.length:Int)+1)*4)<=140737488355328 then bif(-9223372036854775808<=(v3+1))&&((v3+1)<=9223372036854775807)then go0 ((v2++[[(AV.raw (.int .u32 (aa .or .u32 (aa .or .u32 (aa .or .u32 (aa .shl .u32 (IntKind.wrap .u32 (cN v1 (4*v3) 0)) 24) (aa .shl .u32 (IntKind.wrap .u32 (cN v1 ((4*v3)+1) 0)) 16)) (aa .shl .u32 (IntKind.wrap .u32 (cN v1 ((4*v3)+2) 0)) 8)) (IntKind.wrap .u32 (cN v1 ((4*v3)+3) 0)))))]]),(v3+1))else none else none else none else none else none else none else none else none else none else none else none else none else none else none else(af (fun go0 s=>dz n go0 v0 s.1 s.2) n ((v2,16):bO)))
def CN(n:Nat)(v0 v1:Lv):Option bN:=
 (af (fun go0 s=>dw n go0 v0 v1 s.1 s.2) n ((([]:Lv),0):bO))
def sR(n:Nat)(v0 v1:Lv):Option bN:=CN n v0 v1
def ref02_block_t:FnT:=⟨[(false,[(.sl (.cons (.num .u32) .nil))]),(false,[(.sl (.cons (.num .u8) .nil))])],(.row 210 (.cons (.num .u32) .nil)),fun n (s:Lv×Lv)=>sR n s.1 s.2⟩
theorem BL:ref02_block_t.ok Tryz.prog 115:=FnT.ok_of (cfg:=⟨[((115,3,0),.inv [(.tmprow 5 210 (.cons (.num .u32) .nil)),(.tmp 6 .int)]),((115,7,2),.inv [(.tmprow 5 210 (.cons (.num .u32) .nil)),(.tmp 7 .int)]),((115,16,6),.inv [(.tmprow 11 210 (.cons (.num .u32) .nil)),(.tmp 12 .int)]),((115,25,8),.inv [(.tmprow 17 210 (.cons (.num .u32) .nil)),(.tmp 18 .int)])],dg,[],az⟩) aT mO bI (fun s fn hf=>by rw[Tryz.func115]at hf;cases hf;kernel_rfl) (fun n s=>by kernel_rfl)
def ref02_block_T:Tab:=(115,ref02_block_t)::ref02_extended_T
theorem qq:ref02_block_T.ok Tryz.prog:=Tab.ok_cons BL mO
abbrev iV:=List UInt8
abbrev rl:=Lv×Int
abbrev qM:=Lv×Lv×Int
def yh(n:Nat)(go0:rl->Option iV)(v2 v5:Lv)(v6:Int):Option iV:=
 (bif v6<8 then bif 0<=v6 then bif v6<(v2.length:Int) then bif ((((((v5.length:Int)+1)+1)+1)+1)*1)<=140737488355328 then bif(-9223372036854775808<=(v6+1))&&((v6+1)<=9223372036854775807)then go0 (((((v5++[[(AV.raw (.int .u8 (IntKind.wrap .u8 (aa .shr .u32 (cN v2 v6 0) 24))))]])++[[(AV.raw (.int .u8 (IntKind.wrap .u8 (aa .shr .u32 (cN v2 v6 0) 16))))]])++[[(AV.raw (.int .u8 (IntKind.wrap .u8 (aa .shr .u32 (cN v2 v6 0) 8))))]])++[[(AV.raw (.int .u8 (IntKind.wrap .u8 (cN v2 v6 0))))]]),(v6+1))else none else none else none else none else some (bytesOf v5))
def eY(n:Nat)(go0:qM->Option iV)(v2 v3:Lv)(v4:Int):Option iV:=
 (bif v4<(v3.length:Int) then bif(-9223372036854775808<=(v4+64))&&((v4+64)<=9223372036854775807)then bif 0<=v4 then bif v4<=(v4+64) then bif (v4+64)<=(v3.length:Int) then(sR n v2 (Nc (v4).toNat (Nb ((v4+64)).toNat v3))).bind fun y5=>
 go0 (y5,v3,(v4+64))else none else none else none else none else(af (fun go0 s=>yh n go0 v2 s.1 s.2) n ((([]:Lv),0):rl)))
def FY(n:Nat)(v0:List UInt8):Option iV:=
 (j4 n v0).bind fun y1=>
 (af (fun go0 s=>eY n go0 s.1 s.2.1 s.2.2) n ((((((((((([]:Lv)++[[(AV.raw (.int .u32 1779033703))]])++[[(AV.raw (.int .u32 3144134277))]])++[[(AV.raw (.int .u32 1013904242))]])++[[(AV.raw (.int .u32 2773480762))]])++[[(AV.raw (.int .u32 1359893119))]])++[[(AV.raw (.int .u32 2600822924))]])++[[(AV.raw (.int .u32 528734635))]])++[[(AV.raw (.int .u32 1541459225))]]),y1,0):qM))
def jt(n:Nat)(v0:List UInt8):Option iV:=FY n v0
def ref02_Sum_t:FnT:=⟨[(false,[.str])],.st,fun n (s:List UInt8)=>jt n s⟩
theorem Dr:ref02_Sum_t.ok Tryz.prog 68:=FnT.ok_of (cfg:=⟨[((68,4,0),.inv [.tmprow 3 210 (.cons (.num .u32) .nil),.tmp 4 (.sl (.cons (.num .u8) .nil)),.tmp 5 .int]),((68,9,5),.inv [(.tmprow 6 5 (.cons (.num .u8) .nil)),(.tmp 7 .int)])],dg,[],az⟩) aT qq bI (fun s fn hf=>by rw[Tryz.func68]at hf;cases hf;kernel_rfl) (fun n s=>by kernel_rfl)
def ref02_Sum_T:Tab:=(68,ref02_Sum_t)::ref02_block_T
theorem tz:ref02_Sum_T.ok Tryz.prog:=Tab.ok_cons Dr qq
end
end Go.Proofs.YtkgphkdlbjinmaaGreatDoor
namespace Go.Sx
open Go
theorem ae{σ α:Type}(step:(σ->Option α)->σ->Option α)(n:Nat)(s:σ):af step (n+1) s=step (af step n) s:=rfl
theorem JA{α:Type}{l:List α}{i:Nat}{x:α}(h:l[i]?=some x):l.take (i+1)=l.take i++[x]:=by
 rw[List.take_add_one,h];rfl
end Go.Sx
namespace Go.Dial.Wire
def eg:Int:=4611686018427387903
def zz(n:Int):Nat:=if n<0 then(-2*n-1).toNat else(2*n).toNat
def sD(z:Nat):Int:=if z % 2=1 then -((z / 2:Nat):Int)-1 else((z / 2:Nat):Int)
theorem Ll(n:Int):sD (zz n)=n:=by
 unfold sD zz;split<;>split<;>omega
theorem Gk(z:Nat):zz (sD z)=z:=by
 unfold sD zz;split<;>split<;>omega
theorem HF(n:Int)(h1: -eg<=n)(h2:n<=eg):zz n<128 ^ 9:=by
 unfold zz;unfold eg at *
 split<;>omega
theorem KU(z:Nat)(h:z<128 ^ 9):sD z<=eg:=by
 unfold sD;unfold eg;split<;>omega
def grp:Nat->Nat->List (Nat×Bool)
 |0,_=>[]
 |f+1,z=>if z<128 then[(z,true)]else(z % 128,false)::grp f (z / 128)
def leb:Nat->Nat->List UInt8
 |0,_=>[]
 |f+1,z=>if z<128 then[UInt8.ofNat z]else UInt8.ofNat (z % 128+128)::leb f (z / 128)
def enc(n:Int):List UInt8:=leb 9 (zz n)
def dec:Nat->Nat->Nat->List UInt8->Option (Int×Nat)
 |0,_,_,_=>none
 |_+1,_,_,[]=>none
 |f+1,i,z,b::l=>
  if 128<=b.toNat then dec f (i+1) (z+b.toNat % 128*128 ^ i) l else if b.toNat=0/\0<i then none else if sD (z+b.toNat % 128*128 ^ i)< -eg then none else some (sD (z+b.toNat % 128*128 ^ i),i+1)
def raw:Nat->Nat->Nat->List UInt8->Option (Nat×Nat)
 |0,_,_,_=>none
 |_+1,_,_,[]=>none
 |f+1,i,z,b::l=>
  if 128<=b.toNat then raw f (i+1) (z+b.toNat % 128*128 ^ i) l else if b.toNat=0/\0<i then none else some (z+b.toNat % 128*128 ^ i,i+1)
theorem La(f i z:Nat)(l:List UInt8):dec f i z l=(raw f i z l).bind fun p=>if sD p.1< -eg then none else some (sD p.1,p.2):=by
 induction f generalizing i z l with
 |zero=>rfl
 | succ f ih=>
  cases l with
  |nil=>rfl
  | cons b l=>
   unfold dec raw;split
   ·exact ih _ _ _
   ·split
    ·rfl
    ·rfl
theorem sC{n:Nat}(h:n<256):(UInt8.ofNat n).toNat=n:=by simp[UInt8.toNat_ofNat'];omega
theorem K7(f i z v:Nat)(t:List UInt8)(hv:v<128 ^ (f+1))(hi:0<i->0<v):
  raw (f+1) i z (leb (f+1) v++t)=some (z+v*128 ^ i,i+(leb (f+1) v).length):=by
 induction f generalizing i z v with
 |zero=>
  have h:v<128:=by simpa using hv
  simp only[leb,if_pos h,NH,N4,raw,sC (show v<256 by omega)]
  rw[if_neg (by omega),if_neg (by omega),NI h]
  rfl
 | succ f ih=>
  by_cases h:v<128
  ·unfold leb raw
   simp only[if_pos h,NH,N4,sC (show v<256 by omega)]
   rw[if_neg (by omega),if_neg (by omega),NI h]
   rfl
  ·rw[leb,if_neg h,raw.eq_def]
   simp only[NH,sC (show v % 128+128<256 by omega)]
   rw[if_pos (by omega),ih (i+1) _ (v / 128) (by rw[Nw]at hv;omega) (by omega)]
   have e1:(v % 128+128) % 128=v % 128:=by omega
   have e2:v / 128*128 ^ (i+1)=v / 128*128*128 ^ i:=by rw[Nw,Nat.mul_assoc,NJ 128 (128 ^ i)]
   have e3:v % 128*128 ^ i+v / 128*128*128 ^ i=v*128 ^ i:=by rw[<-Nat.add_mul];congr 1;omega
   rw[e1,e2];simp only[Nz,Option.some.injEq,Prod.mk.injEq];constructor<;>omega
theorem Kz(f i z:Nat)(l:List UInt8)(r:Nat×Nat)(h:raw f i z l=some r):
  ∃v,r.1=z+v*128 ^ i/\v<128 ^ f/\r.2=i+(leb f v).length/\leb f v <+: l/\(0<i->0<v):=by
 induction f generalizing i z l with
 |zero=>simp[raw]at h
 | succ f ih=>
  cases l with
  |nil=>simp[raw]at h
  | cons b l=>
   unfold raw at h;have hb:=b.toNat_lt;split at h
   ·rename_i hb1
    obtain⟨v,h1,h2,h3,h4,h5⟩:=ih _ _ _ h;have h5:=h5 (by omega)
    have e2:v*128 ^ (i+1)=v*128*128 ^ i:=by rw[Nw,Nat.mul_assoc,NJ 128 (128 ^ i)]
    have hl:leb (f+1) (b.toNat % 128+v*128)=b::leb f v:=by
     rw[leb,if_neg (by omega),show(b.toNat % 128+v*128) % 128+128=b.toNat by omega,show(b.toNat % 128+v*128) / 128=v by omega]
     simp
    refine⟨b.toNat % 128+v*128,?_,?_,?_,?_,fun _=>by omega⟩
    ·rw[h1,e2,Nat.add_mul];omega
    ·rw[Nw];omega
    ·rw[h3,hl];simp;omega
    ·rw[hl];simpa using h4
   ·rename_i hb1
    split at h
    ·cases h
    ·rename_i hb2
     simp only[Option.some.injEq]at h;have hm:b.toNat % 128=b.toNat:=by omega
     have hl:leb (f+1) b.toNat=[b]:=by rw[leb,if_pos (by omega)];simp
     refine⟨b.toNat,?_,?_,?_,?_,fun _=>by omega⟩
     ·rw[<-h,hm]
     ·rw[Nw];have:0<128 ^ f:=Nat.pow_pos (by omega);omega
     ·rw[<-h,hl];rfl
     ·rw[hl];simp
theorem Gu(l:List UInt8)(n:Int)(k:Nat):dec 9 0 0 l=some (n,k)↔(-eg<=n/\n<=eg/\enc n <+: l/\k=(enc n).length):=by
 rw[La];constructor
 ·intro h
  cases hr:raw 9 0 0 l with
  |none=>rw[hr]at h;cases h
  | some r=>
   rw[hr]at h;obtain⟨v,h1,h2,h3,h4,_⟩:=Kz _ _ _ _ _ hr;have hv:r.1=v:=by simpa using h1
   simp only[Nu]at h;split at h
   ·cases h
   ·rename_i hlo
    simp only[Option.some.injEq,Prod.mk.injEq]at h;obtain⟨rfl,rfl⟩:=h;rw[hv]at hlo⊢
    refine⟨by omega,KU _ h2,?_,?_⟩
    ·unfold enc;rw[Gk];exact h4
    ·unfold enc;rw[Gk,h3];omega
 ·rintro ⟨h1,h2,⟨t,ht⟩,rfl⟩
  rw[<-ht,show enc n=leb (8+1) (zz n)from rfl,show(9:Nat)=8+1 from rfl,K7 8 0 0 _ t (HF n h1 h2) (by omega)]
  simp[Ll,if_neg (show ¬n< -eg by omega)]
theorem o6{l:List UInt8}{n m:Int}(h1: -eg<=n)(h2:n<=eg)(h3: -eg<=m)(h4:m<=eg)(hn:enc n <+: l)(hm:enc m <+: l):n=m:=by
 have a:=(Gu l n _).2 ⟨h1,h2,hn,rfl⟩;have b:=(Gu l m _).2 ⟨h3,h4,hm,rfl⟩;rw[a]at b;simpa using congrArg (fun o=>(o.getD (0,0)).1) b
theorem HQ(f v:Nat):(leb f v).length<=f:=by
 induction f generalizing v with
 |zero=>simp[leb]
 | succ f ih => unfold leb;split
                . simp
                . have:=ih (v / 128);simp;omega
theorem cn(n:Int):(enc n).length<=9:=HQ 9 _
end Go.Dial.Wire
namespace Go.Proofs.YtkgphkdlbjinmaaGreatDoor
open Go Go.Sx Go.Dial.Wire
theorem nH(x:Int):IntKind.wrap .u8 x=x % 256:=by
 unfold IntKind.wrap;simp[IntKind.bits,IntKind.signed]
theorem Dt(x:Int):IntKind.wrap .u32 x=x % 4294967296:=by
 unfold IntKind.wrap;simp[IntKind.bits,IntKind.signed]
theorem im(x:Int):IntKind.wrap .u64 x=x % 18446744073709551616:=by
 unfold IntKind.wrap;simp[IntKind.bits,IntKind.signed]
theorem lD{n:Nat}(x:Nat):BitVec.ofInt n (x:Int)=BitVec.ofNat n x:=by simp
theorem bF'{α:Type}{b:Bool}{x y:α}(h:b=false):(bif b then x else y)=y:=by rw[h];rfl
theorem bT'{α:Type}{b:Bool}{x y:α}(h:b=true):(bif b then x else y)=x:=by rw[h];rfl
theorem dT{α:Type}{p:Prop}[Decidable p]{x y:α}(h:p):(bif decide p then x else y)=x:=by rw[decide_eq_true h];rfl
theorem dF{α:Type}{p:Prop}[Decidable p]{x y:α}(h:¬p):(bif decide p then x else y)=y:=by rw[decide_eq_false h];rfl
theorem nT{α:Type}{p:Prop}[Decidable p]{x y:α}(h:p):(bif !decide p then x else y)=y:=by rw[decide_eq_true h];rfl
theorem nF{α:Type}{p:Prop}[Decidable p]{x y:α}(h:¬p):(bif !decide p then x else y)=x:=by rw[decide_eq_false h];rfl
theorem gT{α:Type}{x:Int}{a b:α}(h1: -9223372036854775808<=x)(h2:x<=9223372036854775807):(bif(decide ((-9223372036854775808)<=x))&&(decide (x<=9223372036854775807))then a else b)=a:=by
 rw[decide_eq_true h1,decide_eq_true h2];rfl
def ao(b:UInt8):List AV:=[.raw (.int .u8 b.toNat)]
theorem Ch(s:List UInt8):au s=s.map ao:=rfl
theorem mf(s:List UInt8):bytesOf (s.map ao)=s:=by
 unfold bytesOf;rw[List.map_map];conv=>rhs;rw[<-List.map_id s]
 refine NS fun b _=>?_
 show UInt8.ofNat (AV.num (.raw (.int .u8 b.toNat))).toNat=b
 simp[AV.num]
theorem lP{n:Nat}(h:n<256):([.raw (.int .u8 (n:Int))]:List AV)=ao (UInt8.ofNat n):=by
 unfold ao;rw[UInt8.toNat_ofNat_of_lt' (by simpa using h)]
theorem EE(n:Nat):∀(f:Nat) (z:Nat) (acc:List UInt8) (m:Nat),z<128 ^ (f+1)->f<9->f<m->acc.length+f<=20 →
  af (fun go0 s=>bu n go0 s.1 s.2) m (acc.map ao,(z:Int))=some (acc++leb (f+1) z,0):=by
 intro f;induction f with
 |zero=>
  intro z acc m hz _ hm hl;obtain⟨m,rfl⟩:∃k,m=k+1:=⟨m-1,by omega⟩
  rw[ae];have hz':z<128:=by simpa using hz
  unfold bu;simp only[];rw[dF (by omega),dT (by rw[Nk];omega)]
  rw[nH,show((z:Int) % 256)=((z:Nat):Int) by omega,lP (by omega)]
  have:acc.map ao++[ao (UInt8.ofNat z)]=(acc++[UInt8.ofNat z]).map ao:=by simp
  rw[this,mf];unfold leb;rw[if_pos hz']
 | succ f ih=>
  intro z acc m hz hf hm hl;obtain⟨m,rfl⟩:∃k,m=k+1:=⟨m-1,by omega⟩
  rw[ae];unfold leb;by_cases hz':z<128
  ·rw[if_pos hz']
   unfold bu;simp only[];rw[dF (by omega),dT (by rw[Nk];omega)]
   rw[nH,show((z:Int) % 256)=((z:Nat):Int) by omega,lP (by omega)]
   have:acc.map ao++[ao (UInt8.ofNat z)]=(acc++[UInt8.ofNat z]).map ao:=by simp
   rw[this,mf]
  ·rw[if_neg hz']
   have hzb:z<18446744073709551616:=by
    have:128 ^ (f+1+1)<=128 ^ 9:=NQ (by omega) (by omega)
    have e:(128:Nat) ^ 9=9223372036854775808:=by decide
    omega
   have hg:bu n (af (fun go0 s=>bu n go0 s.1 s.2) m) (acc.map ao) (z:Int)=af (fun go0 s=>bu n go0 s.1 s.2) m ((acc++[UInt8.ofNat (z % 128+128)]).map ao,((z / 128:Nat):Int)):=by
    generalize af (fun go0 s=>bu n go0 s.1 s.2) m=go
    unfold bu;rw[dT (by omega),dT (by rw[Nk];omega)]
    have e1:aa .quo .u64 (z:Int) 128=((z / 128:Nat):Int):=by
     show IntKind.wrap .u64 ((z:Int).tdiv 128)=_
     rw[im,Int.tdiv_eq_ediv_of_nonneg (by omega)]
     omega
    have e2:IntKind.wrap .u8 (aa .add .u64 (aa .rem .u64 (z:Int) 128) 128)=((z % 128+128:Nat):Int):=by
     show IntKind.wrap .u8 (IntKind.wrap .u64 ((z:Int).tmod 128+128))=_
     rw[im,nH,No (by omega)]
     omega
    rw[e1,e2,lP (by omega)]
    simp
   show bu n (af (fun go0 s=>bu n go0 s.1 s.2) m) (acc.map ao) (z:Int)=_
   rw[hg,ih (z / 128) _ m (by rw[Nw,NJ]at hz;exact NR hz) (by omega) (by omega) (by simp;omega)]
   simp
theorem I7(v:Int)(h0:0<=v):((zz v:Nat):Int)=2*v:=by
 unfold zz;rw[if_neg (by omega)];omega
theorem jJ(n:Nat)(v:Int)(hn:20<=n)(h0:0<=v)(h1:v<=4611686018427387903):fw n v=some (enc v,0):=by
 have hz:=HF v (by unfold eg;omega) h1
 have hv:=I7 v h0;obtain⟨lp,hlp⟩:∃lp,lp=af (fun go0 s=>bu n go0 s.1 s.2) n:=⟨_,rfl⟩
 have hl:lp (([]:List UInt8).map ao,(zz v:Int))=some ([]++leb (8+1) (zz v),0):=by rw[hlp];exact EE n 8 (zz v) [] n hz (by omega) (by omega) (by simp)
 show(bif v<(-4611686018427387903) then some (([]:List UInt8),10)else(bif 4611686018427387903<v then some (([]:List UInt8),10)else(bif v<0 then bif(-9223372036854775808<=(0-v))&&((0-v)<=9223372036854775807)then(af (fun go0 s=>bu n go0 s.1 s.2) n ((([]:Lv),(aa .sub .u64 (aa .mul .u64 (IntKind.wrap .u64 (0-v)) 2) 1)):gb))else none else(af (fun go0 s=>bu n go0 s.1 s.2) n ((([]:Lv),(aa .mul .u64 (IntKind.wrap .u64 v) 2)):gb)))))=_
 rw[<-hlp,dF (by omega),dF (by omega),dF (by omega)]
 have e:aa .mul .u64 (IntKind.wrap .u64 v) 2=(zz v:Int):=by
  show IntKind.wrap .u64 (IntKind.wrap .u64 v*2)=_
  rw[im,im,hv];omega
 rw[e];exact hl
theorem GA(z:Nat)(hz:z<18446744073709551616):aa .and .u64 (z:Int) 127=((z % 128:Nat):Int):=by
 show IntKind.wrap .u64 ((BitVec.ofInt 64 (z:Int) &&& BitVec.ofInt 64 127).toNat:Int)=_
 have:(BitVec.ofInt 64 (z:Int) &&& BitVec.ofInt 64 127).toNat=z % 128:=by
  rw[lD,show(127:Int)=((127:Nat):Int)from rfl,lD,BitVec.toNat_and,BitVec.toNat_ofNat,BitVec.toNat_ofNat,NI hz]
  exact Nat.and_two_pow_sub_one_eq_mod z 7
 rw[this,im];omega
theorem LV(g:Nat)(hg:g<128):aa .or .u8 (IntKind.wrap .u8 (g:Int)) 128=((g+128:Nat):Int):=by
 have:∀g:Fin 128,aa .or .u8 (IntKind.wrap .u8 (g.val:Int)) 128=((g.val+128:Nat):Int):=by decide +kernel
 exact this ⟨g,hg⟩
theorem MG(z:Nat):aa .shr .u64 (z:Int) 7=((z / 128:Nat):Int):=by
 show(z:Int).fdiv (2 ^ (NC (7:Int).toNat 64))=_
 rw[show NC (7:Int).toNat 64=7 from rfl,Nx _ (by decide)]
 show(z:Int) / 128=_
 omega
theorem Dd(n:Nat):∀(f:Nat) (z:Nat) (acc:List UInt8) (m:Nat),z<128 ^ (f+1)->f<9->f<m->acc.length+f<=20 →
  af (fun go0 s=>dy n go0 s.1 s.2) m (acc.map ao,(z:Int))=some (acc++leb (f+1) z,0):=by
 have step:∀(go:jI->Option iM) (z:Nat) (acc:List UInt8),z<18446744073709551616->acc.length<=20->dy n go (acc.map ao) (z:Int)=if z<128 then some (acc++[UInt8.ofNat z],0)else go ((acc++[UInt8.ofNat (z % 128+128)]).map ao,((z / 128:Nat):Int)):=by
  intro go z acc hzb hl;unfold dy;by_cases hz':z<128
  ·rw[if_pos hz',nT (by omega),dT (by rw[Nk];omega),GA z hzb,nH,show(((z % 128:Nat):Int) % 256)=((z:Nat):Int) by omega,lP (by omega)]
   have:acc.map ao++[ao (UInt8.ofNat z)]=(acc++[UInt8.ofNat z]).map ao:=by simp
   rw[this,mf]
  ·rw[if_neg hz',nF (by omega),dT (by rw[Nk];omega),GA z hzb,LV _ (Nat.mod_lt _ (by omega)),lP (by omega),MG]
   simp
 intro f;induction f with
 |zero=>
  intro z acc m hz _ hm hl;obtain⟨m,rfl⟩:∃k,m=k+1:=⟨m-1,by omega⟩
  rw[ae];have hz':z<128:=by simpa using hz
  show dy n _ (acc.map ao) (z:Int)=_
  rw[step _ z acc (by omega) (by omega),if_pos hz']
  unfold leb;rw[if_pos hz']
 | succ f ih=>
  intro z acc m hz hf hm hl;obtain⟨m,rfl⟩:∃k,m=k+1:=⟨m-1,by omega⟩
  rw[ae];have hzb:z<18446744073709551616:=by
   have:128 ^ (f+1+1)<=128 ^ 9:=NQ (by omega) (by omega)
   have e:(128:Nat) ^ 9=9223372036854775808:=by decide
   omega
  show dy n _ (acc.map ao) (z:Int)=_
  rw[step _ z acc hzb (by omega)]
  unfold leb;by_cases hz':z<128
  ·rw[if_pos hz',if_pos hz']
  ·rw[if_neg hz',if_neg hz',ih (z / 128) _ m (by rw[Nw,NJ]at hz;exact NR hz) (by omega) (by omega) (by simp;omega)]
   simp
theorem eG(n:Nat)(v:Int)(hn:20<=n)(h0:0<=v)(h1:v<=4611686018427387903):dW n v=some (enc v,0):=by
 have hz:=HF v (by unfold eg;omega) h1
 have hv:=I7 v h0;obtain⟨lp,hlp⟩:∃lp,lp=af (fun go0 s=>dy n go0 s.1 s.2) n:=⟨_,rfl⟩
 have hl:lp (([]:List UInt8).map ao,(zz v:Int))=some ([]++leb (8+1) (zz v),0):=by rw[hlp];exact Dd n 8 (zz v) [] n hz (by omega) (by omega) (by simp)
 show(bif v<(-4611686018427387903) then some (([]:List UInt8),10)else(bif 4611686018427387903<v then some (([]:List UInt8),10)else(af (fun go0 s=>dy n go0 s.1 s.2) n ((([]:Lv),(aa .xor .u64 (aa .shl .u64 (IntKind.wrap .u64 v) 1) (IntKind.wrap .u64 (IOp.f .shr v 63)))):jI))))=_
 rw[<-hlp,dF (by omega),dF (by omega)]
 have e:aa .xor .u64 (aa .shl .u64 (IntKind.wrap .u64 v) 1) (IntKind.wrap .u64 (IOp.f .shr v 63))=(zz v:Int):=by
  have e1:IOp.f .shr v 63=0:=by
   show v.fdiv (2 ^ (NC (63:Int).toNat 64))=0
   rw[show NC (63:Int).toNat 64=63 from rfl,Nx _ (by decide)]
   show v / 9223372036854775808=0
   omega
  have e2:aa .shl .u64 (IntKind.wrap .u64 v) 1=(zz v:Int):=by
   show IntKind.wrap .u64 (IntKind.wrap .u64 v*2 ^ (NC (1:Int).toNat 64))=_
   rw[show NC (1:Int).toNat 64=1 from rfl,im,im,hv];omega
  rw[e1,e2,im];show IntKind.wrap .u64 ((BitVec.ofInt 64 (zz v:Int) ^^^ BitVec.ofInt 64 0).toNat:Int)=_
  rw[lD,show(0:Int)=((0:Nat):Int)from rfl,lD]
  simp only[BitVec.toNat_xor,BitVec.toNat_ofNat,im];have:zz v<9223372036854775808:=by simpa using hz
  simp
  omega
 rw[e];exact hl
end Go.Proofs.YtkgphkdlbjinmaaGreatDoor
namespace Go.Proofs.YtkgphkdlbjinmaaGreatDoor
open Go Go.Sx
noncomputable section
abbrev bJ:=aa .add .u32
abbrev b7:=aa .xor .u32
abbrev kor:=aa .or .u32
abbrev iB:=aa .and .u32
abbrev cj:=aa .shl .u32
abbrev ce:=aa .shr .u32
def aI(l:List Int):Lv:=l.map fun x=>[.raw (.int .u32 x)]
def KL:List Int:=[1116352408,1899447441,3049323471,3921009573,961987163,1508970993,2453635748,2870763221,3624381080,310598401,607225278,1426881987,1925078388,2162078206,2614888103,3248222580,3835390401,4022224774,264347078,604807628,770255983,1249150122,1555081692,1996064986,2554220882,2821834349,2952996808,3210313671,3336571891,3584528711,113926993,338241895,666307205,773529912,1294757372,1396182291,1695183700,1986661051,2177026350,2456956037,2730485921,2820302411,3259730800,3345764771,3516065817,3600352804,4094571909,275423344,430227734,506948616,659060556,883997877,958139571,1322822218,1537002063,1747873779,1955562222,2024104815,2227730452,2361852424,2428436474,2756734187,3204031479,3329325298]
def w64(v:Lv):Lv:=aI ((NP 64).map fun(i:Nat)=>cN v (i:Int) 0)
def qa(n:Nat)(go0:bP->Option aR)(go1:bP->Option aR)(v4 v5 v6 v7 v8 v9 v10 v11 v12:Int)(v16:Lv)(v17 v18 v19 v20 v21 v22 v23 v24 v25:Int):Option aR:=
 (bif v17<64 then bif 0<=v17 then bif(-9223372036854775808<=(v17+1))&&((v17+1)<=9223372036854775807)then go1 ((v17+1),(bJ (bJ (bJ (bJ (bJ v25 (b7 (b7 (b7 0 (kor (cj v22 26) (ce v22 6))) (kor (cj v22 21) (ce v22 11))) (kor (cj v22 7) (ce v22 25)))) (b7 (iB v22 v23) (iB (b7 4294967295 v22) v24))) (cN (aI KL) v17 0)) (cN (w64 v16) v17 0)) (bJ (b7 (b7 (b7 0 (kor (cj v18 30) (ce v18 2))) (kor (cj v18 19) (ce v18 13))) (kor (cj v18 10) (ce v18 22))) (b7 (b7 (iB v18 v19) (iB v18 v20)) (iB v19 v20)))),v18,v19,v20,(bJ v21 (bJ (bJ (bJ (bJ v25 (b7 (b7 (b7 0 (kor (cj v22 26) (ce v22 6))) (kor (cj v22 21) (ce v22 11))) (kor (cj v22 7) (ce v22 25)))) (b7 (iB v22 v23) (iB (b7 4294967295 v22) v24))) (cN (aI KL) v17 0)) (cN (w64 v16) v17 0))),v22,v23,v24)else none else none else bif(-9223372036854775808<=(v4+64))&&((v4+64)<=9223372036854775807)then go0 ((v4+64),(bJ v5 v18),(bJ v6 v19),(bJ v7 v20),(bJ v8 v21),(bJ v9 v22),(bJ v10 v23),(bJ v11 v24),(bJ v12 v25))else none)
theorem GQ: @vU= @qa:=by kernel_rfl
def wT(n:Nat)(go0:bO->Option bN)(v0 v4 v6:Lv)(v7:Int):Option bN:=
 (bif v7<64 then bif 0<(v6.length:Int) then bif 4<(v6.length:Int) then bif 7<(v6.length:Int) then bif 5<(v6.length:Int) then bif 6<(v6.length:Int) then bif 0<=v7 then bif v7<(v4.length:Int) then bif 1<(v6.length:Int) then bif 2<(v6.length:Int) then bif 3<(v6.length:Int) then bif(-9223372036854775808<=(v7+1))&&((v7+1)<=9223372036854775807)then go0 (((((((((([]:Lv)++[[(AV.raw (.int .u32 (bJ (bJ (bJ (bJ (bJ (cN v6 7 0) (b7 (b7 (kor (ce (cN v6 4 0) 6) (cj (cN v6 4 0) 26)) (kor (ce (cN v6 4 0) 11) (cj (cN v6 4 0) 21))) (kor (ce (cN v6 4 0) 25) (cj (cN v6 4 0) 7)))) (b7 (iB (cN v6 4 0) (cN v6 5 0)) (iB (b7 4294967295 (cN v6 4 0)) (cN v6 6 0)))) (cN (aI KL) v7 0)) (cN v4 v7 0)) (bJ (b7 (b7 (kor (ce (cN v6 0 0) 2) (cj (cN v6 0 0) 30)) (kor (ce (cN v6 0 0) 13) (cj (cN v6 0 0) 19))) (kor (ce (cN v6 0 0) 22) (cj (cN v6 0 0) 10))) (b7 (b7 (iB (cN v6 0 0) (cN v6 1 0)) (iB (cN v6 0 0) (cN v6 2 0))) (iB (cN v6 1 0) (cN v6 2 0)))))))]])++[[(AV.raw (.int .u32 (cN v6 0 0)))]])++[[(AV.raw (.int .u32 (cN v6 1 0)))]])++[[(AV.raw (.int .u32 (cN v6 2 0)))]])++[[(AV.raw (.int .u32 (bJ (cN v6 3 0) (bJ (bJ (bJ (bJ (cN v6 7 0) (b7 (b7 (kor (ce (cN v6 4 0) 6) (cj (cN v6 4 0) 26)) (kor (ce (cN v6 4 0) 11) (cj (cN v6 4 0) 21))) (kor (ce (cN v6 4 0) 25) (cj (cN v6 4 0) 7)))) (b7 (iB (cN v6 4 0) (cN v6 5 0)) (iB (b7 4294967295 (cN v6 4 0)) (cN v6 6 0)))) (cN (aI KL) v7 0)) (cN v4 v7 0)))))]])++[[(AV.raw (.int .u32 (cN v6 4 0)))]])++[[(AV.raw (.int .u32 (cN v6 5 0)))]])++[[(AV.raw (.int .u32 (cN v6 6 0)))]]),(v7+1))else none else none else none else none else none else none else none else none else none else none else none else(af (fun go0 s=>oU n go0 v0 v6 s.1 s.2) n ((([]:Lv),0):bO)))
theorem Lh: @u9= @wT:=by kernel_rfl
abbrev W8:=Int×Int×Int×Int×Int×Int×Int×Int
def sg0(x:Int):Int:=b7 (b7 (kor (ce x 7) (cj x 25)) (kor (ce x 18) (cj x 14))) (ce x 3)
def sg1(x:Int):Int:=b7 (b7 (kor (ce x 17) (cj x 15)) (kor (ce x 19) (cj x 13))) (ce x 10)
def pD(W:List Int)(i:Nat):Int:=bJ (bJ (bJ (W.getD (i-16) 0) (sg0 (W.getD (i-15) 0))) (W.getD (i-7) 0)) (sg1 (W.getD (i-2) 0))
def MT(e:Int):Int:=b7 (b7 (kor (ce e 6) (cj e 26)) (kor (ce e 11) (cj e 21))) (kor (ce e 25) (cj e 7))
def MX(a:Int):Int:=b7 (b7 (kor (ce a 2) (cj a 30)) (kor (ce a 13) (cj a 19))) (kor (ce a 22) (cj a 10))
def chs(e f g:Int):Int:=b7 (iB e f) (iB (b7 4294967295 e) g)
def mjs(a b c:Int):Int:=b7 (b7 (iB a b) (iB a c)) (iB b c)
def zF(k w e f g h:Int):Int:=bJ (bJ (bJ (bJ h (MT e)) (chs e f g)) k) w
def Hc(k w:Int)(s:W8):W8:=
 (bJ (zF k w s.2.2.2.2.1 s.2.2.2.2.2.1 s.2.2.2.2.2.2.1 s.2.2.2.2.2.2.2) (bJ (MX s.1) (mjs s.1 s.2.1 s.2.2.1)),s.1,s.2.1,s.2.2.1,bJ s.2.2.2.1 (zF k w s.2.2.2.2.1 s.2.2.2.2.2.1 s.2.2.2.2.2.2.1 s.2.2.2.2.2.2.2),s.2.2.2.2.1,s.2.2.2.2.2.1,s.2.2.2.2.2.2.1)
def comp(W:List Int):Nat->Nat->W8->W8
 |0,_,s=>s
 |f+1,i,s=>comp W f (i+1) (Hc (KL.getD i 0) (W.getD i 0) s)
def bw(B:List UInt8)(i:Nat):Int:=
 let g (k:Nat):Int:=IntKind.wrap .u32 ((B.getD k 0).toNat:Int)
 kor (kor (kor (cj (g (4*i)) 24) (cj (g (4*i+1)) 16)) (cj (g (4*i+2)) 8)) (g (4*i+3))
def w16(B:List UInt8)(i:Nat):List Int:=(NP i).map (bw B)
def Dm:Nat->List Int->List Int
 |0,W=>W
 |f+1,W=>Dm f (W++[pD W W.length])
def BR(a b:W8):W8:=(bJ a.1 b.1,bJ a.2.1 b.2.1,bJ a.2.2.1 b.2.2.1,bJ a.2.2.2.1 b.2.2.2.1,bJ a.2.2.2.2.1 b.2.2.2.2.1,bJ a.2.2.2.2.2.1 b.2.2.2.2.2.1,bJ a.2.2.2.2.2.2.1 b.2.2.2.2.2.2.1,bJ a.2.2.2.2.2.2.2 b.2.2.2.2.2.2.2)
def tn(H:W8)(B:List UInt8):W8:=BR H (comp (Dm 48 (w16 B 16)) 64 0 H)
def toL(s:W8):List Int:=[s.1,s.2.1,s.2.2.1,s.2.2.2.1,s.2.2.2.2.1,s.2.2.2.2.2.1,s.2.2.2.2.2.2.1,s.2.2.2.2.2.2.2]
def blks:Nat->List UInt8->W8->W8
 |0,_,H=>H
 |k+1,l,H=>blks k (l.drop 64) (tn H (l.take 64))
def lb(s:List UInt8)(i:Nat):UInt8:=UInt8.ofNat ((IOp.f .shr (8*(s.length:Int)) (8*(i:Int))) % 256).toNat
def lbl(s:List UInt8):Nat->List UInt8->List UInt8
 |0,l=>l
 |f+1,l=>lbl s f (l++[lb s f])
def uI(s:List UInt8):List UInt8:=lbl s 8 (s++[128]++M9 ((119-s.length % 64) % 64) 0)
def H0:W8:=(1779033703,3144134277,1013904242,2773480762,1359893119,2600822924,528734635,1541459225)
def o4(x:Int):List UInt8:=[UInt8.ofNat (IntKind.wrap .u8 (ce x 24)).toNat,UInt8.ofNat (IntKind.wrap .u8 (ce x 16)).toNat,UInt8.ofNat (IntKind.wrap .u8 (ce x 8)).toNat,UInt8.ofNat (IntKind.wrap .u8 x).toNat]
def uN(H:W8):List UInt8:=(toL H).flatMap o4
def sha(s:List UInt8):List UInt8:=uN (blks ((uI s).length / 64) (uI s) H0)
theorem gB(l:List Int)(i:Int):cN (aI l) i 0=l.getD i.toNat 0:=by
 show AV.num (((l.map fun x=>[AV.raw (.int .u32 x)]).getD i.toNat []).getD 0 (.int 0))=_
 simp only[Ns,Nr];cases l[i.toNat]?<;>rfl
theorem lL(l:List UInt8)(i:Int):cN (l.map ao) i 0=((l.getD i.toNat 0).toNat:Int):=by
 show AV.num (((l.map ao).getD i.toNat []).getD 0 (.int 0))=_
 simp only[Ns,Nr];cases l[i.toNat]?<;>rfl
theorem pT(l:List Int):((aI l).length:Int)=(l.length:Int):=by simp[aI]
theorem dh(l:List UInt8):((l.map ao).length:Int)=(l.length:Int):=by simp
theorem Gy(s:List UInt8):∀(f:Nat) (l:List UInt8),(lbl s f l).length=l.length+f
 |0,l=>rfl
 |f+1,l=>by rw[lbl,Gy s f];simp;omega
theorem Gv(s:List UInt8):(uI s).length=s.length+9+(119-s.length % 64) % 64:=by
 unfold uI;rw[Gy];simp;omega
theorem Ld(s:List UInt8):(uI s).length % 64=0:=by rw[Gv];omega
theorem Ii(x:Int):([.raw (.int .u8 (IntKind.wrap .u8 x))]:List AV)=ao (UInt8.ofNat (IntKind.wrap .u8 x).toNat):=by
 have h:=nH x;obtain⟨n,hn⟩:∃n:Nat,(n:Int)=IntKind.wrap .u8 x:=⟨(IntKind.wrap .u8 x).toNat,by rw[h];omega⟩
 rw[<-hn,Nf];exact lP (by rw[h]at hn;omega)
theorem inn{α:Type}{x:Int}{a b:α}(h1: -9223372036854775808<=x)(h2:x<=9223372036854775807):(bif(-9223372036854775808<=x)&&(x<=9223372036854775807)then a else b)=a:=gT h1 h2
theorem B5(n m:Nat)(go:bO->Option bN)(H V:W8):af (fun go0 s=>oU n go0 (aI (toL H)) (aI (toL V)) s.1 s.2) (m+9) ((([]:Lv),0):bO)=some (aI (toL (BR H V))):=by kernel_rfl
theorem JQ(n:Nat)(H:W8)(W:List Int)(hW:W.length=64):∀(f i m:Nat) (V:W8),i+f=64->f<m->9<=n →
  af (fun go0 s=>wT n go0 (aI (toL H)) (aI W) s.1 s.2) m (aI (toL V),(i:Int))=some (aI (toL (BR H (comp W f i V)))):=by
 intro f;induction f with
 |zero=>
  intro i m V hi hm hn;obtain⟨m,rfl⟩:∃k,m=k+1:=⟨m-1,by omega⟩
  obtain⟨n,rfl⟩:∃k,n=k+9:=⟨n-9,by omega⟩
  rw[ae];generalize af (fun go0 s=>wT (n+9) go0 (aI (toL H)) (aI W) s.1 s.2) m=go
  show wT (n+9) go _ _ _ _=_
  unfold wT;rw[dF (by omega)]
  exact B5 _ _ (fun _=>none) H V
 | succ f ih=>
  intro i m V hi hm hn;obtain⟨m,rfl⟩:∃k,m=k+1:=⟨m-1,by omega⟩
  rw[ae];have key:∀go,wT n go (aI (toL H)) (aI W) (aI (toL V)) (i:Int)=go (aI (toL (Hc (KL.getD i 0) (W.getD i 0) V)),((i+1:Nat):Int)):=by
   intro go;unfold wT;have l8:((aI (toL V)).length:Int)=8:=rfl
   have lW:((aI W).length:Int)=64:=by rw[pT,hW];rfl
   rw[dT (by omega),dT (by omega),dT (by omega),dT (by omega),dT (by omega),dT (by omega),dT (by omega),dT (by omega),dT (by omega),dT (by omega),dT (by omega),inn (by omega) (by omega)]
   have eK:cN (aI KL) (i:Int) 0=KL.getD i 0:=by rw[gB,Nf]
   have eW:cN (aI W) (i:Int) 0=W.getD i 0:=by rw[gB,Nf]
   rw[eK,eW];rfl
  show wT n _ _ _ (aI (toL V)) (i:Int)=_
  rw[key,ih (i+1) m _ (by omega) (by omega) hn]
  rfl
theorem Iw(n:Nat)(H:W8):∀(f m:Nat) (W:List Int),W.length+f=64->16<=W.length->f<m->70<=n →
  af (fun go0 s=>dz n go0 (aI (toL H)) s.1 s.2) m (aI W,(W.length:Int))=some (aI (toL (BR H (comp (Dm f W) 64 0 H)))):=by
 intro f;induction f with
 |zero=>
  intro m W hf h16 hm hn;obtain⟨m,rfl⟩:∃k,m=k+1:=⟨m-1,by omega⟩
  rw[ae];generalize af (fun go0 s=>dz n go0 (aI (toL H)) s.1 s.2) m=go
  show dz n go _ _ _=_
  unfold dz;have l8:((aI (toL H)).length:Int)=8:=rfl
  rw[dF (by omega),dT (by omega),Lh]
  exact JQ n H W (by omega) 64 0 n H rfl (by omega) (by omega)
 | succ f ih=>
  intro m W hf h16 hm hn;obtain⟨m,rfl⟩:∃k,m=k+1:=⟨m-1,by omega⟩
  rw[ae];have key:∀go,dz n go (aI (toL H)) (aI W) (W.length:Int)=go (aI (W++[pD W W.length]),((W++[pD W W.length]).length:Int)):=by
   intro go;unfold dz;have lW:=pT W;rw[dT (by omega),inn (by omega) (by omega),dT (by omega),dT (by omega),inn (by omega) (by omega),dT (by omega),dT (by omega),inn (by omega) (by omega),dT (by omega),dT (by omega),inn (by omega) (by omega),dT (by omega),dT (by omega),dT (by omega),inn (by omega) (by omega)]
   rw[gB,gB,gB,gB,show((W.length:Int)-16).toNat=W.length-16 by omega,show((W.length:Int)-15).toNat=W.length-15 by omega,show((W.length:Int)-7).toNat=W.length-7 by omega,show((W.length:Int)-2).toNat=W.length-2 by omega]
   have e1:(((W++[pD W W.length]).length:Nat):Int)=(W.length:Int)+1:=by simp
   have e2:aI (W++[pD W W.length])=aI W++[[.raw (.int .u32 (pD W W.length))]]:=by simp[aI]
   rw[e1,e2];rfl
  show dz n _ _ (aI W) (W.length:Int)=_
  rw[key,ih m _ (by simp;omega) (by simp;omega) (by omega) hn]
  rfl
theorem Ig(n:Nat)(H:W8)(B:List UInt8)(hB:B.length=64):∀(f i m:Nat),i+f=16->f<m->70<=n →
  af (fun go0 s=>dw n go0 (aI (toL H)) (B.map ao) s.1 s.2) m (aI (w16 B i),(i:Int))=some (aI (toL (tn H B))):=by
 intro f;induction f with
 |zero=>
  intro i m hi hm hn;obtain⟨m,rfl⟩:∃k,m=k+1:=⟨m-1,by omega⟩
  rw[ae];obtain rfl:i=16:=by omega
  generalize af (fun go0 s=>dw n go0 (aI (toL H)) (B.map ao) s.1 s.2) m=go
  show dw n go (aI (toL H)) (B.map ao) (aI (w16 B 16)) ((16:Nat):Int)=_
  unfold dw;rw[dF (by omega)]
  exact Iw n H 48 n (w16 B 16) (by simp[w16]) (by simp[w16]) (by omega) hn
 | succ f ih=>
  intro i m hi hm hn;obtain⟨m,rfl⟩:∃k,m=k+1:=⟨m-1,by omega⟩
  rw[ae];have key:∀go,dw n go (aI (toL H)) (B.map ao) (aI (w16 B i)) (i:Int)=go (aI (w16 B (i+1)),((i+1:Nat):Int)):=by
   intro go;unfold dw;have lB:=dh B;have lW:((aI (w16 B i)).length:Int)=i:=by rw[pT];simp[w16]
   rw[dT (by omega),inn (by omega) (by omega),dT (by omega),dT (by omega),inn (by omega) (by omega),dT (by omega),dT (by omega),inn (by omega) (by omega),dT (by omega),dT (by omega),inn (by omega) (by omega),dT (by omega),dT (by omega),dT (by omega),inn (by omega) (by omega)]
   rw[lL,lL,lL,lL,show(4*(i:Int)).toNat=4*i by omega,show(4*(i:Int)+1).toNat=4*i+1 by omega,show(4*(i:Int)+2).toNat=4*i+2 by omega,show(4*(i:Int)+3).toNat=4*i+3 by omega]
   have e2:aI (w16 B (i+1))=aI (w16 B i)++[[.raw (.int .u32 (bw B i))]]:=by simp[aI,w16,N5]
   rw[e2];rfl
  show dw n _ _ _ (aI (w16 B i)) (i:Int)=_
  rw[key,ih (i+1) m (by omega) (by omega) hn]
theorem Dc(n:Nat)(H:W8)(B:List UInt8)(hB:B.length=64)(hn:70<=n):sR n (aI (toL H)) (B.map ao)=some (aI (toL (tn H B))):=
 Ig n H B hB 16 0 n rfl (by omega) hn
theorem Kj(n:Nat)(s:List UInt8)(hs:s.length<=1000000):∀(f m:Nat) (l:List UInt8),f<=8->f<m->l.length+f<=2000000 →
  af (fun go0 p=>cz n go0 s p.1 p.2) m (l.map ao,(f:Int)-1)=some ((lbl s f l).map ao):=by
 intro f;induction f with
 |zero=>
  intro m l _ hm _;obtain⟨m,rfl⟩:∃k,m=k+1:=⟨m-1,by omega⟩
  rw[ae];generalize af (fun go0 p=>cz n go0 s p.1 p.2) m=go
  show cz n go s _ _=_
  unfold cz;rw[dF (by omega)];rfl
 | succ f ih=>
  intro m l h8 hm hl;obtain⟨m,rfl⟩:∃k,m=k+1:=⟨m-1,by omega⟩
  rw[ae];have key:∀go,cz n go s (l.map ao) (((f+1:Nat):Int)-1)=go ((l++[lb s f]).map ao,(f:Int)-1):=by
   intro go;unfold cz;have ll:=dh l;rw[show((f+1:Nat):Int)-1=(f:Int) by omega,dT (by omega),inn (by omega) (by omega),inn (by omega) (by omega),dT (by omega),dT (by omega),inn (by omega) (by omega),Ii]
   have:lb s f=UInt8.ofNat (IntKind.wrap .u8 (IOp.f .shr (8*(s.length:Int)) (8*(f:Int)))).toNat:=by unfold lb;rw[nH]
   rw[<-this];simp
  show cz n _ s (l.map ao) (((f+1:Nat):Int)-1)=_
  rw[key,ih m _ (by omega) (by omega) (by simp;omega)]
  rfl
theorem Iv(n:Nat)(s:List UInt8)(hs:s.length<=1000000):∀(f m:Nat) (l:List UInt8),(l.length+f) % 64=56->f<64->f<m->l.length+f<=1000100->9<=n →
  af (fun go0 p=>cD n go0 s p) m (l.map ao)=some ((lbl s 8 (l++M9 f 0)).map ao):=by
 intro f;induction f with
 |zero=>
  intro m l h1 _ hm hl hn;obtain⟨m,rfl⟩:∃k,m=k+1:=⟨m-1,by omega⟩
  rw[ae];generalize af (fun go0 p=>cD n go0 s p) m=go
  show cD n go s _=_
  unfold cD;rw[dh,nT (by rw[No (by omega)];omega)]
  have:=Kj n s hs 8 n l (by omega) (by omega) (by omega)
  simpa using this
 | succ f ih=>
  intro m l h1 h2 hm hl hn;obtain⟨m,rfl⟩:∃k,m=k+1:=⟨m-1,by omega⟩
  rw[ae];have key:∀go,cD n go s (l.map ao)=go ((l++[0]).map ao):=by
   intro go;unfold cD;rw[dh,nF (by rw[No (by omega)];omega),dT (by omega)]
   simp[ao]
  show cD n _ s (l.map ao)=_
  rw[key,ih m _ (by simp;omega) (by omega) (by omega) (by simp;omega) hn]
  simp[NA]
theorem Js(n:Nat)(s:List UInt8)(hs:s.length<=1000000):∀(f i m:Nat),i+f=s.length->f<m->70<=n →
  af (fun go0 p=>cG n go0 s p.1 p.2) m ((s.take i).map ao,(i:Int))=some ((uI s).map ao):=by
 intro f;induction f with
 |zero=>
  intro i m hi hm hn;obtain⟨m,rfl⟩:∃k,m=k+1:=⟨m-1,by omega⟩
  rw[ae];generalize af (fun go0 p=>cG n go0 s p.1 p.2) m=go
  show cG n go s _ _=_
  unfold cG;obtain rfl:i=s.length:=by omega
  rw[NZ,dF (by omega),dh,dT (by omega)]
  have e:s.map ao++[[.raw (.int .u8 128)]]=(s++[128]).map ao:=by simp[ao]
  rw[e];exact Iv n s hs ((119-s.length % 64) % 64) n (s++[128]) (by simp;omega) (by omega) (by omega) (by simp;omega) (by omega)
 | succ f ih=>
  intro i m hi hm hn;obtain⟨m,rfl⟩:∃k,m=k+1:=⟨m-1,by omega⟩
  rw[ae];have key:∀go,cG n go s ((s.take i).map ao) (i:Int)=go ((s.take (i+1)).map ao,((i+1:Nat):Int)):=by
   intro go;unfold cG;have ll:(((s.take i).map ao).length:Int)=i:=by simp;omega
   rw[dT (by omega),dT (by omega),dT (by omega),inn (by omega) (by omega)]
   have e:(s.take (i+1)).map ao=(s.take i).map ao++[[.raw (.int .u8 (qI s i))]]:=by
    rw[JA (Na (show i<s.length by omega))]
    simp only[NK,List.map_cons,List.map_nil,ao,qI,Nf,Ns,Na (show i<s.length by omega),N0]
   rw[e];simp
  show cG n _ s ((s.take i).map ao) (i:Int)=_
  rw[key,ih (i+1) m (by omega) (by omega) hn]
theorem zf(n:Nat)(s:List UInt8)(hs:s.length<=1000000)(hn:s.length+70<=n):j4 n s=some ((uI s).map ao):=
 Js n s hs s.length 0 n (by omega) (by omega) (by omega)
theorem KW(n m:Nat)(H:W8):af (fun go0 s=>yh n go0 (aI (toL H)) s.1 s.2) (m+9) ((([]:Lv),0):rl)=some (uN H):=by kernel_rfl
theorem Hy(n:Nat):∀(f i m:Nat) (l:List UInt8) (H:W8),l.length=64*(i+f)->l.length<=2000000->f<m->70<=n →
  af (fun go0 s=>eY n go0 s.1 s.2.1 s.2.2) m ((aI (toL H),l.map ao,((64*i:Nat):Int)):qM)=some (uN (blks f (l.drop (64*i)) H)):=by
 intro f;induction f with
 |zero=>
  intro i m l H hl hb hm hn;obtain⟨m,rfl⟩:∃k,m=k+1:=⟨m-1,by omega⟩
  obtain⟨n,rfl⟩:∃k,n=k+9:=⟨n-9,by omega⟩
  rw[ae];generalize af (fun go0 s=>eY (n+9) go0 s.1 s.2.1 s.2.2) m=go
  show eY (n+9) go (aI (toL H)) (l.map ao) ((64*i:Nat):Int)=_
  unfold eY;rw[dh,dF (by omega)]
  exact KW _ _ H
 | succ f ih=>
  intro i m l H hl hb hm hn;obtain⟨m,rfl⟩:∃k,m=k+1:=⟨m-1,by omega⟩
  rw[ae];have key:∀go,eY n go (aI (toL H)) (l.map ao) ((64*i:Nat):Int)=go (aI (toL (tn H ((l.drop (64*i)).take 64))),l.map ao,((64*(i+1):Nat):Int)):=by
   intro go;unfold eY;rw[dh,dT (by omega),inn (by omega) (by omega),dT (by omega),dT (by omega),dT (by omega)]
   have e:Nc ((64*i:Nat):Int).toNat (Nb (((64*i:Nat):Int)+64).toNat (l.map ao))=((l.drop (64*i)).take 64).map ao:=by
    rw[Nf,show(((64*i:Nat):Int)+64).toNat=64*i+64 by omega,<-N8,<-N9,N7,show 64*i+64-64*i=64 by omega]
   rw[e,Dc n H _ (by simp;omega) hn]
   simp only[Nu];congr 3
  show eY n _ (aI (toL H)) (l.map ao) ((64*i:Nat):Int)=_
  rw[key,ih (i+1) m l _ (by omega) hb (by omega) hn]
  rw[blks,NB,Nat.mul_succ]
theorem iW(n:Nat)(s:List UInt8)(hs:s.length<=1000000)(hn:s.length+300<=n):jt n s=some (sha s):=by
 show(j4 n s).bind _=_
 rw[zf n s hs (by omega)]
 simp only[Nu];have hm:=Ld s;have hl:=Gv s;exact Hy n ((uI s).length / 64) 0 n (uI s) H0 (by omega) (by omega) (by omega) (by omega)
theorem gY(a b:Int):kor a b=kor b a:=by
 show IntKind.wrap .u32 ((BitVec.ofInt 32 a ||| BitVec.ofInt 32 b).toNat:Int)=IntKind.wrap .u32 ((BitVec.ofInt 32 b ||| BitVec.ofInt 32 a).toNat:Int)
 rw[BitVec.or_comm]
theorem Cq(a b:Int):aa .or .u32 a b=aa .or .u32 b a:=gY a b
theorem CC(a b:Int):b7 0 (kor a b)=kor a b:=by
 have h:kor a b=IntKind.wrap .u32 ((BitVec.ofInt 32 a ||| BitVec.ofInt 32 b).toNat:Int):=rfl
 obtain⟨n,hn,h2⟩:∃n:Nat,n<4294967296/\kor a b=(n:Int):=by
  rw[h,Dt];exact⟨(BitVec.ofInt 32 a ||| BitVec.ofInt 32 b).toNat % 4294967296,Nat.mod_lt _ (by omega),by omega⟩
 rw[h2];show IntKind.wrap .u32 ((BitVec.ofInt 32 0 ^^^ BitVec.ofInt 32 (n:Int)).toNat:Int)=_
 rw[show(0:Int)=((0:Nat):Int)from rfl,lD,lD,Dt]
 simp
 omega
theorem Je(x:Int):ce x 0=x:=by
 show x.fdiv (2 ^ (NC (0:Int).toNat 32))=x
 rw[show NC (0:Int).toNat 32=0 from rfl,Nx _ (by decide)]
 simp
theorem K0(a b:List Int):aI (a++b)=aI a++aI b:=by simp[aI]
theorem Jn{α:Type}(a:List α)(x:α)(b:List α)(f:α->α):Nv (a++x::b) a.length f=a++f x::b:=by
 induction a with
 |nil=>rfl
 |cons y a ih=>simpa using ih
theorem An(W:List Int)(f:Nat)(x:Int):Nv (aI (W++M9 (f+1) 0)) ((W.length:Int)).toNat (fun r=>r.set 0 (AV.raw (.int .u32 x)))=aI ((W++[x])++M9 f 0):=by
 rw[Nf,K0,NA];have h:=Jn (aI W) ([AV.raw (.int .u32 0)]:List AV) (aI (M9 f 0)) (fun r=>r.set 0 (AV.raw (.int .u32 x)))
 rw[show(aI W).length=W.length by simp[aI]]at h
 refine h.trans ?_
 simp[aI]
theorem uF{W:List Int}{l:List Int}{i:Nat}(h:i<W.length):(W++l).getD i 0=W.getD i 0:=by
 simp[Ns,Nq h]
theorem Lz(W:List Int)(hW:W.length=64):w64 (aI W)=aI W:=by
 unfold w64;congr 1
 refine List.ext_getElem? fun i=>?_
 rw[Nr];by_cases hi:i<64
 ·rw[NT hi]
  simp only[N6];rw[gB,Nf,Ns,Na (by omega)];rfl
 ·rw[NN (by simp;omega),NN (by omega)];rfl
theorem I3(n:Nat)(go0:bP->Option aR)(p:Int)(H:W8)(W:List Int)(hW:W.length=64)(hp:0<=p)(hp2:p<=3000000):∀(f i m:Nat) (V:W8),i+f=64->f<m →
  af (fun go1 s=>qa n go0 go1 p H.1 H.2.1 H.2.2.1 H.2.2.2.1 H.2.2.2.2.1 H.2.2.2.2.2.1 H.2.2.2.2.2.2.1 H.2.2.2.2.2.2.2 (aI W) s.1 s.2.1 s.2.2.1 s.2.2.2.1 s.2.2.2.2.1 s.2.2.2.2.2.1 s.2.2.2.2.2.2.1 s.2.2.2.2.2.2.2.1 s.2.2.2.2.2.2.2.2) m ((i:Int),V)=go0 (p+64,BR H (comp W f i V)):=by
 intro f;induction f with
 |zero=>
  intro i m V hi hm;obtain⟨m,rfl⟩:∃k,m=k+1:=⟨m-1,by omega⟩
  rw[ae];generalize af _ m=go
  show qa n go0 go p H.1 H.2.1 H.2.2.1 H.2.2.2.1 H.2.2.2.2.1 H.2.2.2.2.2.1 H.2.2.2.2.2.2.1 H.2.2.2.2.2.2.2 (aI W) (i:Int) V.1 V.2.1 V.2.2.1 V.2.2.2.1 V.2.2.2.2.1 V.2.2.2.2.2.1 V.2.2.2.2.2.2.1 V.2.2.2.2.2.2.2=_
  unfold qa;rw[dF (by omega),inn (by omega) (by omega)]
  rfl
 | succ f ih=>
  intro i m V hi hm;obtain⟨m,rfl⟩:∃k,m=k+1:=⟨m-1,by omega⟩
  rw[ae];have key:∀go,qa n go0 go p H.1 H.2.1 H.2.2.1 H.2.2.2.1 H.2.2.2.2.1 H.2.2.2.2.2.1 H.2.2.2.2.2.2.1 H.2.2.2.2.2.2.2 (aI W) (i:Int) V.1 V.2.1 V.2.2.1 V.2.2.2.1 V.2.2.2.2.1 V.2.2.2.2.2.1 V.2.2.2.2.2.2.1 V.2.2.2.2.2.2.2=go (((i+1:Nat):Int),Hc (KL.getD i 0) (W.getD i 0) V):=by
   intro go;unfold qa;rw[dT (by omega),dT (by omega),inn (by omega) (by omega)]
   have eK:cN (aI KL) (i:Int) 0=KL.getD i 0:=by rw[gB,Nf]
   have eW:cN (w64 (aI W)) (i:Int) 0=W.getD i 0:=by rw[Lz W hW,gB,Nf]
   rw[eK,eW];simp only[CC];rw[gY (cj V.2.2.2.2.1 26),gY (cj V.2.2.2.2.1 21),gY (cj V.2.2.2.2.1 7),gY (cj V.1 30),gY (cj V.1 19),gY (cj V.1 10)];rfl
  exact(key _).trans (ih (i+1) m _ (by omega) (by omega))
theorem Hg(n:Nat)(go0:bP->Option aR)(p:Int)(H:W8)(hp:0<=p)(hp2:p<=3000000)(hn:70<=n):∀(f m:Nat) (W:List Int),W.length+f=64->16<=W.length->f<m →
  af (fun go1 s=>gL n go0 go1 p H.1 H.2.1 H.2.2.1 H.2.2.2.1 H.2.2.2.2.1 H.2.2.2.2.2.1 H.2.2.2.2.2.2.1 H.2.2.2.2.2.2.2 s.1 s.2) m ((W.length:Int),aI (W++M9 f 0))=go0 (p+64,BR H (comp (Dm f W) 64 0 H)):=by
 intro f;induction f with
 |zero=>
  intro m W hf h16 hm;obtain⟨m,rfl⟩:∃k,m=k+1:=⟨m-1,by omega⟩
  rw[ae];generalize af _ m=go
  show gL n go0 go p H.1 H.2.1 H.2.2.1 H.2.2.2.1 H.2.2.2.2.1 H.2.2.2.2.2.1 H.2.2.2.2.2.2.1 H.2.2.2.2.2.2.2 (W.length:Int) (aI (W++[]))=_
  rw[N2];unfold gL;have lW:=pT W;rw[dF (by omega),dT (by omega),dT (by omega),GQ]
  exact I3 n go0 p H W (by omega) hp hp2 64 0 n H rfl (by omega)
 | succ f ih=>
  intro m W hf h16 hm;obtain⟨m,rfl⟩:∃k,m=k+1:=⟨m-1,by omega⟩
  rw[ae];have key:∀go,gL n go0 go p H.1 H.2.1 H.2.2.1 H.2.2.2.1 H.2.2.2.2.1 H.2.2.2.2.2.1 H.2.2.2.2.2.2.1 H.2.2.2.2.2.2.2 (W.length:Int) (aI (W++M9 (f+1) 0))=go (((W++[pD W W.length]).length:Int),aI ((W++[pD W W.length])++M9 f 0)):=by
   intro go;unfold gL;have lW:((aI (W++M9 (f+1) 0)).length:Int)=64:=by rw[pT];simp;omega
   rw[dT (by omega),inn (by omega) (by omega),dT (by omega),dT (by omega),dT (by omega),inn (by omega) (by omega),dT (by omega),dT (by omega),dT (by omega),inn (by omega) (by omega),dT (by omega),dT (by omega),dT (by omega),inn (by omega) (by omega),dT (by omega),dT (by omega),dT (by omega),dT (by omega),dT (by omega),inn (by omega) (by omega)]
   rw[An];rw[gB,gB,gB,gB,show((W.length:Int)-16).toNat=W.length-16 by omega,show((W.length:Int)-15).toNat=W.length-15 by omega,show((W.length:Int)-7).toNat=W.length-7 by omega,show((W.length:Int)-2).toNat=W.length-2 by omega]
   rw[uF (by omega),uF (by omega),uF (by omega),uF (by omega)]
   simp only[CC];have e1:(((W++[pD W W.length]).length:Nat):Int)=(W.length:Int)+1:=by simp
   rw[e1];rw[gY (aa .shl .u32 (W.getD (W.length-15) 0) 25),Cq (aa .shl .u32 (W.getD (W.length-15) 0) 14),gY (aa .shl .u32 (W.getD (W.length-2) 0) 15),Cq (aa .shl .u32 (W.getD (W.length-2) 0) 13)];rfl
  exact(key _).trans (ih m _ (by simp;omega) (by simp;omega) (by omega))
theorem Hl(n:Nat)(go0:bP->Option aR)(rows:Lv)(B:List UInt8)(hB:B.length=64)(p:Int)(H:W8)(hp:0<=p)(hp2:p<=3000000)(hn:70<=n)
  (hrow:Nc p.toNat (Nb ((p+(b9 64 ((Nc p.toNat (Nb ((rows.length:Int)).toNat rows)).length:Int)))).toNat rows)=B.map ao):∀(f i m:Nat),i+f=16->f<m →
  af (fun go1 s=>gI n go0 go1 rows p H.1 H.2.1 H.2.2.1 H.2.2.2.1 H.2.2.2.2.1 H.2.2.2.2.2.1 H.2.2.2.2.2.2.1 H.2.2.2.2.2.2.2 s.1 s.2) m ((i:Int),aI (w16 B i++M9 (f+48) 0))=go0 (p+64,tn H B):=by
 intro f;have lw:∀i,(w16 B i).length=i:=fun i=>by simp[w16]
 induction f with
 |zero=>
  intro i m hi hm;obtain⟨m,rfl⟩:∃k,m=k+1:=⟨m-1,by omega⟩
  rw[ae];generalize af _ m=go
  obtain rfl:i=16:=by omega
  show gI n go0 go rows p H.1 H.2.1 H.2.2.1 H.2.2.2.1 H.2.2.2.2.1 H.2.2.2.2.2.1 H.2.2.2.2.2.2.1 H.2.2.2.2.2.2.2 ((16:Nat):Int) (aI (w16 B 16++M9 48 0))=_
  unfold gI;rw[dF (by omega)]
  have:=Hg n go0 p H hp hp2 hn 48 n (w16 B 16) (by rw[lw]) (by rw[lw];omega) (by omega)
  rw[lw]at this;exact this
 | succ f ih=>
  intro i m hi hm;obtain⟨m,rfl⟩:∃k,m=k+1:=⟨m-1,by omega⟩
  rw[ae];have key:∀go,gI n go0 go rows p H.1 H.2.1 H.2.2.1 H.2.2.2.1 H.2.2.2.2.1 H.2.2.2.2.2.1 H.2.2.2.2.2.2.1 H.2.2.2.2.2.2.2 (i:Int) (aI (w16 B i++M9 (f+1+48) 0))=go (((i+1:Nat):Int),aI (w16 B (i+1)++M9 (f+48) 0)):=by
   intro go;unfold gI;rw[hrow];have lB:=dh B;have lW:((aI (w16 B i++M9 (f+1+48) 0)).length:Int)=64:=by rw[pT];simp[lw];omega
   rw[dT (by omega),inn (by omega) (by omega),dT (by omega),dT (by omega),inn (by omega) (by omega),dT (by omega),dT (by omega),inn (by omega) (by omega),dT (by omega),dT (by omega),inn (by omega) (by omega),dT (by omega),dT (by omega),dT (by omega),dT (by omega),dT (by omega),inn (by omega) (by omega)]
   rw[lL,lL,lL,lL,show(4*(i:Int)).toNat=4*i by omega,show(4*(i:Int)+1).toNat=4*i+1 by omega,show(4*(i:Int)+2).toNat=4*i+2 by omega,show(4*(i:Int)+3).toNat=4*i+3 by omega]
   have hm:=An (w16 B i) (f+48) (bw B i);rw[lw,show f+48+1=f+1+48 by omega]at hm
   have e2:w16 B (i+1)=w16 B i++[bw B i]:=by simp[w16,N5]
   rw[e2,<-hm];rfl
  exact(key _).trans (ih (i+1) m (by omega) (by omega))
theorem JK(H:W8)(n:Nat)(go:bP->Option aR)(rows:Lv)(p:Int)(hp:¬p<(rows.length:Int)):gK n go rows p H.1 H.2.1 H.2.2.1 H.2.2.2.1 H.2.2.2.2.1 H.2.2.2.2.2.1 H.2.2.2.2.2.2.1 H.2.2.2.2.2.2.2=some (uN H):=by
 have e:uN H=(toL H).flatMap (fun x=>[UInt8.ofNat (IntKind.wrap .u8 (ce x 24)).toNat,UInt8.ofNat (IntKind.wrap .u8 (ce x 16)).toNat,UInt8.ofNat (IntKind.wrap .u8 (ce x 8)).toNat,UInt8.ofNat (IntKind.wrap .u8 (ce x 0)).toNat]):=by
  unfold uN;congr 1
  funext x
  rw[Je];rfl
 rw[e];unfold gK;rw[dF hp];refine congrArg some ?_
 kernel_rfl
theorem FV(n:Nat)(l:List UInt8)(hn:70<=n)(hb:l.length<=2000000):∀(f i m:Nat) (H:W8),l.length=64*(i+f)->f<m →
  af (fun go0 s=>gK n go0 (l.map ao) s.1 s.2.1 s.2.2.1 s.2.2.2.1 s.2.2.2.2.1 s.2.2.2.2.2.1 s.2.2.2.2.2.2.1 s.2.2.2.2.2.2.2.1 s.2.2.2.2.2.2.2.2) m (((64*i:Nat):Int),H)=some (uN (blks f (l.drop (64*i)) H)):=by
 intro f;induction f with
 |zero=>
  intro i m H hl hm;obtain⟨m,rfl⟩:∃k,m=k+1:=⟨m-1,by omega⟩
  rw[ae];exact JK H n _ _ _ (by rw[dh];omega)
 | succ f ih=>
  intro i m H hl hm;obtain⟨m,rfl⟩:∃k,m=k+1:=⟨m-1,by omega⟩
  rw[ae];have key:∀go,gK n go (l.map ao) ((64*i:Nat):Int) H.1 H.2.1 H.2.2.1 H.2.2.2.1 H.2.2.2.2.1 H.2.2.2.2.2.1 H.2.2.2.2.2.2.1 H.2.2.2.2.2.2.2=go (((64*(i+1):Nat):Int),tn H ((l.drop (64*i)).take 64)):=by
   intro go;have e0:((Nc ((64*i:Nat):Int).toNat (Nb (((l.map ao).length:Int)).toNat (l.map ao))).length:Int)=(l.length:Int)-((64*i:Nat):Int):=by
    rw[Nf,Nf,NZ,NY,Nk];omega
   have e1:b9 64 ((Nc ((64*i:Nat):Int).toNat (Nb (((l.map ao).length:Int)).toNat (l.map ao))).length:Int)=64:=by
    rw[e0];unfold b9;rw[if_neg (by omega)]
   have e2:Nc ((64*i:Nat):Int).toNat (Nb ((((64*i:Nat):Int)+(b9 64 ((Nc ((64*i:Nat):Int).toNat (Nb (((l.map ao).length:Int)).toNat (l.map ao))).length:Int)))).toNat (l.map ao))=((l.drop (64*i)).take 64).map ao:=by
    rw[e1,Nf,show(((64*i:Nat):Int)+64).toNat=64*i+64 by omega,<-N8,<-N9,N7,show 64*i+64-64*i=64 by omega]
   have hw:=Hl n go (l.map ao) ((l.drop (64*i)).take 64) (by simp;omega) ((64*i:Nat):Int) H (by omega) (by omega) hn e2 16 0 n rfl (by omega)
   unfold gK;rw[e1,dh,dT (by omega),dT (by omega),dT (by omega),dT (by omega),inn (by omega) (by omega),dT (by omega),dT (by omega)]
   have ez:(M9 ((64:Int)).toNat [(AV.raw (.int .u32 0))])=aI (w16 ((l.drop (64*i)).take 64) 0++M9 (16+48) 0):=by simp[aI,w16]
   rw[ez];refine Eq.trans ?_ (hw.trans ?_)
   ·rfl
   ·congr 2
  exact(key _).trans (ih (i+1) m _ (by omega) (by omega) |>.trans (by rw[blks,NB,Nat.mul_succ]))
theorem IW(n:Nat)(s:List UInt8)(hs:s.length<=1000000)(hn:70<=n):∀(f m:Nat) (l:List UInt8),f<=8->f<m->l.length+f<=2000000->(l.length+f) % 64=0->l.length+f<=n →
  af (fun go0 p=>fy n go0 s p.1 p.2) m (l.map ao,(f:Int)-1)=some (uN (blks ((lbl s f l).length / 64) (lbl s f l) H0)):=by
 intro f;induction f with
 |zero=>
  intro m l _ hm hl h64 hln;obtain⟨m,rfl⟩:∃k,m=k+1:=⟨m-1,by omega⟩
  rw[ae];generalize af _ m=go
  show fy n go s (l.map ao) (((0:Nat):Int)-1)=_
  unfold fy;rw[dF (by omega)]
  exact FV n l hn (by omega) (l.length / 64) 0 n H0 (by omega) (by omega)
 | succ f ih=>
  intro m l h8 hm hl h64 hln;obtain⟨m,rfl⟩:∃k,m=k+1:=⟨m-1,by omega⟩
  rw[ae];have key:∀go,fy n go s (l.map ao) (((f+1:Nat):Int)-1)=go ((l++[lb s f]).map ao,(f:Int)-1):=by
   intro go;unfold fy;have ll:=dh l;rw[show((f+1:Nat):Int)-1=(f:Int) by omega,dT (by omega),inn (by omega) (by omega),inn (by omega) (by omega),dT (by omega),dT (by omega),inn (by omega) (by omega),Ii]
   have:lb s f=UInt8.ofNat (IntKind.wrap .u8 (IOp.f .shr (8*(s.length:Int)) (8*(f:Int)))).toNat:=by unfold lb;rw[nH]
   rw[<-this];simp
  show fy n _ s (l.map ao) (((f+1:Nat):Int)-1)=_
  rw[key,ih m _ (by omega) (by omega) (by simp;omega) (by simp;omega) (by simp;omega)]
  rfl
theorem G6(n:Nat)(s:List UInt8)(hs:s.length<=1000000)(hn:70<=n):∀(f m:Nat) (l:List UInt8),(l.length+f) % 64=56->f<64->f<m->l.length+f<=1000100->l.length+f+8<=n →
  af (fun go0 p=>fq n go0 s p) m (l.map ao)=some (uN (blks ((lbl s 8 (l++M9 f 0)).length / 64) (lbl s 8 (l++M9 f 0)) H0)):=by
 intro f;induction f with
 |zero=>
  intro m l h1 _ hm hl hln;obtain⟨m,rfl⟩:∃k,m=k+1:=⟨m-1,by omega⟩
  rw[ae];generalize af _ m=go
  show fq n go s (l.map ao)=_
  unfold fq;rw[dh,nT (by rw[No (by omega)];omega)]
  have:=IW n s hs hn 8 n l (by omega) (by omega) (by omega) (by omega) (by omega)
  simpa using this
 | succ f ih=>
  intro m l h1 h2 hm hl hln;obtain⟨m,rfl⟩:∃k,m=k+1:=⟨m-1,by omega⟩
  rw[ae];have key:∀go,fq n go s (l.map ao)=go ((l++[0]).map ao):=by
   intro go;unfold fq;rw[dh,nF (by rw[No (by omega)];omega),dT (by omega)]
   simp[ao]
  show fq n _ s (l.map ao)=_
  rw[key,ih m _ (by simp;omega) (by omega) (by omega) (by simp;omega) (by simp;omega)]
  simp[NA]
theorem ws(n:Nat)(s:List UInt8)(hs:s.length<=1000000)(hn:s.length+300<=n):pq n s=some (sha s):=by
 show qP n s=_
 unfold qP;rw[Ch,dh,dT (by omega),dT (by omega)]
 have e:s.map ao++[[.raw (.int .u8 128)]]=(s++[128]).map ao:=by simp[ao]
 rw[e];exact G6 n s hs (by omega) ((119-s.length % 64) % 64) n (s++[128]) (by simp;omega) (by omega) (by omega) (by simp;omega) (by simp;omega)
abbrev vd:=List UInt8
def oW(n:Nat)(v0:List UInt8):Option vd:=
 (strings_Join n (([]:Lv)++[[(AV.raw (ar v0))]]) ([]:List UInt8)).bind fun y1=>
 bif (1+(y1.length:Int))<=9223372036854775807 then(pq n (([0]:List UInt8)++y1)).bind fun y2=>
 some y2 else none
def dX(n:Nat)(v0:List UInt8):Option vd:=oW n v0
def digest_Leaf_t:FnT:=⟨[(false,[.str])],.st,fun n (s:List UInt8)=>dX n s⟩
theorem BM:digest_Leaf_t.ok Tryz.prog 74:=FnT.ok_of (cfg:=⟨[],dg,[],az⟩) aT tz bI (fun s fn hf=>by rw[Tryz.func74]at hf;cases hf;kernel_rfl) (fun n s=>by kernel_rfl)
def digest_Leaf_T:Tab:=(74,digest_Leaf_t)::ref02_Sum_T
theorem rd:digest_Leaf_T.ok Tryz.prog:=Tab.ok_cons BM tz
abbrev vt:=List UInt8
def oV(n:Nat)(v0 v1:List UInt8):Option vt:=
 (strings_Join n ((([]:Lv)++[[(AV.raw (ar v0))]])++[[(AV.raw (ar v1))]]) ([]:List UInt8)).bind fun y2=>
 bif (1+(y2.length:Int))<=9223372036854775807 then(pq n (([1]:List UInt8)++y2)).bind fun y3=>
 some y3 else none
def ku(n:Nat)(v0 v1:List UInt8):Option vt:=oV n v0 v1
def digest_Node_t:FnT:=⟨[(false,[.str]),(false,[.str])],.st,fun n (s:List UInt8×List UInt8)=>ku n s.1 s.2⟩
theorem BV:digest_Node_t.ok Tryz.prog 102:=FnT.ok_of (cfg:=⟨[],dg,[],az⟩) aT rd bI (fun s fn hf=>by rw[Tryz.func102]at hf;cases hf;kernel_rfl) (fun n s=>by kernel_rfl)
def digest_Node_T:Tab:=(102,digest_Node_t)::digest_Leaf_T
theorem qt:digest_Node_T.ok Tryz.prog:=Tab.ok_cons BV rd
abbrev xd:=List UInt8
def qn(n:Nat)(v0:List UInt8):Option xd:=
 bif (1+(v0.length:Int))<=9223372036854775807 then(jt n (([0]:List UInt8)++v0)).bind fun y1=>
 some y1 else none
def ip(n:Nat)(v0:List UInt8):Option xd:=qn n v0
def ref02_Leaf_t:FnT:=⟨[(false,[.str])],.st,fun n (s:List UInt8)=>ip n s⟩
theorem CV:ref02_Leaf_t.ok Tryz.prog 88:=FnT.ok_of (cfg:=⟨[],dg,[],az⟩) aT qt bI (fun s fn hf=>by rw[Tryz.func88]at hf;cases hf;kernel_rfl) (fun n s=>by kernel_rfl)
def ref02_Leaf_T:Tab:=(88,ref02_Leaf_t)::digest_Node_T
theorem sA:ref02_Leaf_T.ok Tryz.prog:=Tab.ok_cons CV qt
abbrev xc:=List UInt8
def qR(n:Nat)(v0 v1:List UInt8):Option xc:=
 bif (1+(v0.length:Int))<=9223372036854775807 then bif (((([1]:List UInt8)++v0).length:Int)+(v1.length:Int))<=9223372036854775807 then(jt n ((([1]:List UInt8)++v0)++v1)).bind fun y2=>
 some y2 else none else none
def mg(n:Nat)(v0 v1:List UInt8):Option xc:=qR n v0 v1
def ref02_Node_t:FnT:=⟨[(false,[.str]),(false,[.str])],.st,fun n (s:List UInt8×List UInt8)=>mg n s.1 s.2⟩
theorem CT:ref02_Node_t.ok Tryz.prog 137:=FnT.ok_of (cfg:=⟨[],dg,[],az⟩) aT sA bI (fun s fn hf=>by rw[Tryz.func137]at hf;cases hf;kernel_rfl) (fun n s=>by kernel_rfl)
def ref02_Node_T:Tab:=(137,ref02_Node_t)::ref02_Leaf_T
theorem sq:ref02_Node_T.ok Tryz.prog:=Tab.ok_cons CT sA
def kM(s:List UInt8):List UInt8:=sha ([0]++s)
def uf(a b:List UInt8):List UInt8:=sha ([1]++(a++b))
def db(key content:List UInt8):List UInt8:=uf key (kM content)
theorem e8(s:List UInt8):(kM s).length=32:=rfl
theorem Ic(a b:List UInt8):(db a b).length=32:=rfl
theorem gu(s:List UInt8):(AV.raw (ar s)).s=s:=by simp[AV.s,AV.r,ar]
theorem MC(n:Nat)(a:List UInt8)(h:a.length<=1000000):strings_Join n (([]:Lv)++[[(AV.raw (ar a))]]) ([]:List UInt8)=some a:=by
 have hc:wJ (([]:Lv)++[[(AV.raw (ar a))]])=a:=by
  show([(AV.raw (ar a)).s]:List (List UInt8)).flatten=a
  rw[gu];simp
 unfold strings_Join;rw[hc];have:(([]:List UInt8).isEmpty&&decide (1<=(((([]:Lv)++[[(AV.raw (ar a))]]).length:Nat):Int))&&decide ((((([]:Lv)++[[(AV.raw (ar a))]]).length:Nat):Int)<=1000)&&decide ((a.length:Int)<=140737488355328))=true:=by
  rw[decide_eq_true (show(a.length:Int)<=140737488355328 by omega)];rfl
 rw[this];rfl
theorem Mx(n:Nat)(a b:List UInt8)(h:a.length+b.length<=1000000):strings_Join n ((([]:Lv)++[[(AV.raw (ar a))]])++[[(AV.raw (ar b))]]) ([]:List UInt8)=some (a++b):=by
 have hc:wJ ((([]:Lv)++[[(AV.raw (ar a))]])++[[(AV.raw (ar b))]])=a++b:=by
  show([(AV.raw (ar a)).s,(AV.raw (ar b)).s]:List (List UInt8)).flatten=a++b
  rw[gu,gu];simp
 unfold strings_Join;rw[hc];have:(([]:List UInt8).isEmpty&&decide (1<=((((([]:Lv)++[[(AV.raw (ar a))]])++[[(AV.raw (ar b))]]).length:Nat):Int))&&decide (((((([]:Lv)++[[(AV.raw (ar a))]])++[[(AV.raw (ar b))]]).length:Nat):Int)<=1000)&&decide (((a++b).length:Int)<=140737488355328))=true:=by
  rw[decide_eq_true (show((a++b).length:Int)<=140737488355328 by simp;omega)];rfl
 rw[this];rfl
theorem kH(n:Nat)(s:List UInt8)(hs:s.length<=900000)(hn:s.length+400<=n):dX n s=some (kM s):=by
 show oW n s=_
 unfold oW;rw[MC n s (by omega)]
 simp only[Nu];rw[dT (by omega),ws n _ (by simp;omega) (by simp;omega)]
 rfl
theorem oY(n:Nat)(a b:List UInt8)(hs:a.length+b.length<=900000)(hn:a.length+b.length+400<=n):ku n a b=some (uf a b):=by
 show oV n a b=_
 unfold oV;rw[Mx n a b (by omega)]
 simp only[Nu];rw[dT (by simp;omega),ws n _ (by simp;omega) (by simp;omega)]
 rfl
theorem rB(n:Nat)(s:List UInt8)(hs:s.length<=900000)(hn:s.length+400<=n):ip n s=some (kM s):=by
 show qn n s=_
 unfold qn;rw[dT (by omega),iW n _ (by simp;omega) (by simp;omega)]
 rfl
theorem wz(n:Nat)(a b:List UInt8)(hs:a.length+b.length<=900000)(hn:a.length+b.length+400<=n):mg n a b=some (uf a b):=by
 show qR n a b=_
 unfold qR;rw[dT (by omega),dT (by simp;omega),iW n _ (by simp;omega) (by simp;omega)]
 simp only[Nu,uf,NF]
abbrev vR:=Int
def Dv(n:Nat)(v0 v1:Int):Option vR:=
 (bif v0<0 then bif(-9223372036854775808<=(v0+1))&&((v0+1)<=9223372036854775807)then bif(-9223372036854775808<=(0-(v0+1)))&&((0-(v0+1))<=9223372036854775807)then bif !(v1=0)then some (Nm (0-(v0+1)) v1)else none else none else none else bif !(v1=0)then some (Nm v0 v1)else none)
def cO(n:Nat)(v0 v1:Int):Option vR:=Dv n v0 v1
def ref15_pick_t:FnT:=⟨[(false,[.int]),(false,[.int])],.i,fun n (s:Int×Int)=>cO n s.1 s.2⟩
theorem C9:ref15_pick_t.ok Tryz.prog 22:=FnT.ok_of (cfg:=⟨[],dg,[],az⟩) aT sq bI (fun s fn hf=>by rw[Tryz.func22]at hf;cases hf;kernel_rfl) (fun n s=>by kernel_rfl)
def ref15_pick_T:Tab:=(22,ref15_pick_t)::ref02_Node_T
theorem rP:ref15_pick_T.ok Tryz.prog:=Tab.ok_cons C9 sq
abbrev nR:=List UInt8
abbrev wD:=Int×Lv
def FC(n:Nat)(go0:wD->Option nR)(v0 v1:Int)(v2:Lv):Option nR:=
 (bif v1<(v2.length:Int) then bif 0<=v1 then bif(-9223372036854775808<=(v1+1))&&((v1+1)<=9223372036854775807)then go0 ((v1+1),(Nv v2 (v1).toNat (fun r=>r.set 0 (AV.raw (.int .u8 (IntKind.wrap .u8 v0))))))else none else none else some (bytesOf v2))
def FU(n:Nat)(v0:Int):Option nR:=
 (af (fun go0 s=>FC n go0 v0 s.1 s.2) n ((0,(M9 ((32:Int)).toNat [(AV.raw (.int .u8 0))])):wD))
def gR(n:Nat)(v0:Int):Option nR:=FU n v0
def ref15_Key_t:FnT:=⟨[(false,[.int])],.st,fun n (s:Int)=>gR n s⟩
theorem EF:ref15_Key_t.ok Tryz.prog 24:=FnT.ok_of (cfg:=⟨[((24,3,1),.inv [(.tmp 4 .int),(.inrow 0 5 (.cons (.num .u8) .nil))])],dg,[],az⟩) aT rP bI (fun s fn hf=>by rw[Tryz.func24]at hf;cases hf;kernel_rfl) (fun n s=>by kernel_rfl)
def ref15_Key_T:Tab:=(24,ref15_Key_t)::ref15_pick_T
theorem tL:ref15_Key_T.ok Tryz.prog:=Tab.ok_cons EF rP
abbrev mu:=Lv
abbrev vj:=Lv×Int
def EP(n:Nat)(go0:vj->Option mu)(v0:Lv)(v1:Int):Option mu:=
 (bif v1<10 then(gR n v1).bind fun y2=>
 bif (((v0.length:Int)+1)*16)<=140737488355328 then bif(-9223372036854775808<=(v1+1))&&((v1+1)<=9223372036854775807)then go0 ((v0++[[(AV.raw (ar y2))]]),(v1+1))else none else none else some v0)
def EH(n:Nat):Option mu:=
 (af (fun go0 s=>EP n go0 s.1 s.2) n ((([]:Lv),0):vj))
def l9(n:Nat):Option mu:=EH n
def ref15_Keys_t:FnT:=⟨[],(.row 9 (.cons .str .nil)),fun n (s:Unit)=>l9 n⟩
theorem CZ:ref15_Keys_t.ok Tryz.prog 8:=FnT.ok_of (cfg:=⟨[((8,3,0),.inv [(.tmprow 1 9 (.cons .str .nil)),(.tmp 2 .int)])],dg,[],az⟩) aT tL bI (fun s fn hf=>by rw[Tryz.func8]at hf;cases hf;kernel_rfl) (fun n s=>by kernel_rfl)
def ref15_Keys_T:Tab:=(8,ref15_Keys_t)::ref15_Key_T
theorem rJ:ref15_Keys_T.ok Tryz.prog:=Tab.ok_cons CZ tL
abbrev dr:=List UInt8
abbrev lA:=List UInt8×Int
def cJ(n:Nat)(go0:lA->Option dr)(v0 v1 v2 v3 v4 v5:Int)(v7:List UInt8)(v8:Int):Option dr:=
 (bif v8<7 then bif 0<=v8 then(fw n (cI (((((((([]:Lv)++[[(AV.int 2)]])++[[(AV.int v0)]])++[[(AV.int v1)]])++[[(AV.int v2)]])++[[(AV.int v3)]])++[[(AV.int v4)]])++[[(AV.int v5)]]) v8 0)).bind fun y9=>
 bif ((v7.length:Int)+(y9.1.length:Int))<=9223372036854775807 then bif(-9223372036854775808<=(v8+1))&&((v8+1)<=9223372036854775807)then go0 ((v7++y9.1),(v8+1))else none else none else none else some v7)
def uL(n:Nat)(v0 v1 v2 v3 v4 v5:Int):Option dr:=
 (af (fun go0 s=>cJ n go0 v0 v1 v2 v3 v4 v5 s.1 s.2) n ((([]:List UInt8),0):lA))
def jn(n:Nat)(v0 v1 v2 v3 v4 v5:Int)(v6:List UInt8):Option dr:=uL n v0 v1 v2 v3 v4 v5
def ref15_ProxyContent_t:FnT:=⟨[(true,[.int,.int,.int,.int,.int,.int,.str])],.st,fun n (s:Int×Int×Int×Int×Int×Int×List UInt8)=>jn n s.1 s.2.1 s.2.2.1 s.2.2.2.1 s.2.2.2.2.1 s.2.2.2.2.2.1 s.2.2.2.2.2.2⟩
theorem tJ:ref15_ProxyContent_t.ok Tryz.prog 91:=FnT.ok_of (cfg:=⟨[((138,3,2),.inv [(.tmp 3 .str),(.tmp 4 .int)])],dg,[],az⟩) aT rJ bI (fun s fn hf=>by rw[Tryz.func91]at hf;cases hf;kernel_rfl) (fun n s=>by kernel_rfl)
def ref15_ProxyContent_T:Tab:=(91,ref15_ProxyContent_t)::ref15_Keys_T
theorem j9:ref15_ProxyContent_T.ok Tryz.prog:=Tab.ok_cons tJ rJ
abbrev dG:=List UInt8
abbrev l7:=List UInt8×Int
def cU(n:Nat)(go0:l7->Option dG)(v0 v1 v2 v3 v4 v5 v6 v7:Int)(v9:List UInt8)(v10:Int):Option dG:=
 (bif v10<9 then bif 0<=v10 then(fw n (cI (((((((((([]:Lv)++[[(AV.int 1)]])++[[(AV.int v0)]])++[[(AV.int v1)]])++[[(AV.int v2)]])++[[(AV.int v3)]])++[[(AV.int v4)]])++[[(AV.int v5)]])++[[(AV.int v6)]])++[[(AV.int v7)]]) v10 0)).bind fun y11=>
 bif ((v9.length:Int)+(y11.1.length:Int))<=9223372036854775807 then bif(-9223372036854775808<=(v10+1))&&((v10+1)<=9223372036854775807)then go0 ((v9++y11.1),(v10+1))else none else none else none else some v9)
def vD(n:Nat)(v0 v1 v2 v3 v4 v5 v6 v7:Int):Option dG:=
 (af (fun go0 s=>cU n go0 v0 v1 v2 v3 v4 v5 v6 v7 s.1 s.2) n ((([]:List UInt8),0):l7))
def kg(n:Nat)(v0 v1 v2 v3 v4 v5 v6 v7:Int)(v8:List UInt8):Option dG:=vD n v0 v1 v2 v3 v4 v5 v6 v7
def ref15_WishContent_t:FnT:=⟨[(true,[.int,.int,.int,.int,.int,.int,.int,.int,.str])],.st,fun n (s:Int×Int×Int×Int×Int×Int×Int×Int×List UInt8)=>kg n s.1 s.2.1 s.2.2.1 s.2.2.2.1 s.2.2.2.2.1 s.2.2.2.2.2.1 s.2.2.2.2.2.2.1 s.2.2.2.2.2.2.2.1 s.2.2.2.2.2.2.2.2⟩
theorem uh:ref15_WishContent_t.ok Tryz.prog 93:=FnT.ok_of (cfg:=⟨[((138,3,2),.inv [(.tmp 3 .str),(.tmp 4 .int)])],dg,[],az⟩) aT j9 bI (fun s fn hf=>by rw[Tryz.func93]at hf;cases hf;kernel_rfl) (fun n s=>by kernel_rfl)
def ref15_WishContent_T:Tab:=(93,ref15_WishContent_t)::ref15_ProxyContent_T
theorem kr:ref15_WishContent_T.ok Tryz.prog:=Tab.ok_cons uh j9
abbrev pn:=Int×Int×Int×Int×Int×Int×List UInt8×Int
def kb(n:Nat)(v0:List UInt8)(v1 v2 v3 v4 v5 v6:Int)(v7:List UInt8):Option pn:=
 (bif !((v0.length:Int)=32)then some (0,0,0,0,0,0,([]:List UInt8),150)else(bif 0<=v1 then(bif v1<=63 then(bif 0<=v2 then(bif v2<=63 then(bif !(v1=v2)then(bif 0<=v3 then(bif v3<v4 then(bif v4<=100000000 then(bif 0<=v5 then(bif v5<v6 then(bif !(v6<=10000001)then some (0,0,0,0,0,0,([]:List UInt8),150)else(jn n v1 v2 v3 v4 v5 v6 v7).bind fun y8=>
 (ip n y8).bind fun y9=>
 (mg n v0 y9).bind fun y10=>
 some (v1,v2,v3,v4,v5,v6,y10,0))else some (0,0,0,0,0,0,([]:List UInt8),150))else some (0,0,0,0,0,0,([]:List UInt8),150))else some (0,0,0,0,0,0,([]:List UInt8),150))else some (0,0,0,0,0,0,([]:List UInt8),150))else some (0,0,0,0,0,0,([]:List UInt8),150))else some (0,0,0,0,0,0,([]:List UInt8),150))else some (0,0,0,0,0,0,([]:List UInt8),150))else some (0,0,0,0,0,0,([]:List UInt8),150))else some (0,0,0,0,0,0,([]:List UInt8),150))else some (0,0,0,0,0,0,([]:List UInt8),150)))
def lX(n:Nat)(v0:List UInt8)(v1 v2 v3 v4 v5 v6:Int)(v7:List UInt8):Option pn:=kb n v0 v1 v2 v3 v4 v5 v6 v7
def ref15_SignProxy_t:FnT:=⟨[(false,[.str]),(true,[.int,.int,.int,.int,.int,.int,.str])],(.tup (.cons (.agg (.cons .i (.cons .i (.cons .i (.cons .i (.cons .i (.cons .i (.cons .st .nil)))))))) (.cons .i .nil))),fun n (s:List UInt8×Int×Int×Int×Int×Int×Int×List UInt8)=>lX n s.1 s.2.1 s.2.2.1 s.2.2.2.1 s.2.2.2.2.1 s.2.2.2.2.2.1 s.2.2.2.2.2.2.1 s.2.2.2.2.2.2.2⟩
theorem xb:ref15_SignProxy_t.ok Tryz.prog 43:=FnT.ok_of (cfg:=⟨[],dg,[],az⟩) aT kr bI (fun s fn hf=>by rw[Tryz.func43]at hf;cases hf;kernel_rfl) (fun n s=>by kernel_rfl)
def ref15_SignProxy_T:Tab:=(43,ref15_SignProxy_t)::ref15_WishContent_T
theorem mF:ref15_SignProxy_T.ok Tryz.prog:=Tab.ok_cons xb kr
abbrev rF:=Int×Int×Int×Int×Int×Int×Int×Int×List UInt8×Int
def lh(n:Nat)(v0:List UInt8)(v1 v2 v3 v4 v5 v6 v7 v8:Int)(v9:List UInt8):Option rF:=
 (bif !((v0.length:Int)=32)then some (0,0,0,0,0,0,0,0,([]:List UInt8),150)else(bif 0<=v1 then(bif v1<=63 then(bif 0<=v2 then(bif v2<=63 then(bif 0<=v3 then(bif v3<v4 then(bif v4<=100000000 then(bif 0<=v5 then(bif v5<=7 then(bif 0<=v6 then(bif v6<=1000000 then(bif 0<=v7 then(bif v7<v8 then(bif !(v8<=10000001)then some (0,0,0,0,0,0,0,0,([]:List UInt8),150)else(kg n v1 v2 v3 v4 v5 v6 v7 v8 v9).bind fun y10=>
 (ip n y10).bind fun y11=>
 (mg n v0 y11).bind fun y12=>
 some (v1,v2,v3,v4,v5,v6,v7,v8,y12,0))else some (0,0,0,0,0,0,0,0,([]:List UInt8),150))else some (0,0,0,0,0,0,0,0,([]:List UInt8),150))else some (0,0,0,0,0,0,0,0,([]:List UInt8),150))else some (0,0,0,0,0,0,0,0,([]:List UInt8),150))else some (0,0,0,0,0,0,0,0,([]:List UInt8),150))else some (0,0,0,0,0,0,0,0,([]:List UInt8),150))else some (0,0,0,0,0,0,0,0,([]:List UInt8),150))else some (0,0,0,0,0,0,0,0,([]:List UInt8),150))else some (0,0,0,0,0,0,0,0,([]:List UInt8),150))else some (0,0,0,0,0,0,0,0,([]:List UInt8),150))else some (0,0,0,0,0,0,0,0,([]:List UInt8),150))else some (0,0,0,0,0,0,0,0,([]:List UInt8),150))else some (0,0,0,0,0,0,0,0,([]:List UInt8),150)))
def gG(n:Nat)(v0:List UInt8)(v1 v2 v3 v4 v5 v6 v7 v8:Int)(v9:List UInt8):Option rF:=lh n v0 v1 v2 v3 v4 v5 v6 v7 v8 v9
def ref15_SignWish_t:FnT:=⟨[(false,[.str]),(true,[.int,.int,.int,.int,.int,.int,.int,.int,.str])],(.tup (.cons (.agg (.cons .i (.cons .i (.cons .i (.cons .i (.cons .i (.cons .i (.cons .i (.cons .i (.cons .st .nil)))))))))) (.cons .i .nil))),fun n (s:List UInt8×Int×Int×Int×Int×Int×Int×Int×Int×List UInt8)=>gG n s.1 s.2.1 s.2.2.1 s.2.2.2.1 s.2.2.2.2.1 s.2.2.2.2.2.1 s.2.2.2.2.2.2.1 s.2.2.2.2.2.2.2.1 s.2.2.2.2.2.2.2.2.1 s.2.2.2.2.2.2.2.2.2⟩
theorem xO:ref15_SignWish_t.ok Tryz.prog 45:=FnT.ok_of (cfg:=⟨[],dg,[],az⟩) aT mF bI (fun s fn hf=>by rw[Tryz.func45]at hf;cases hf;kernel_rfl) (fun n s=>by kernel_rfl)
def ref15_SignWish_T:Tab:=(45,ref15_SignWish_t)::ref15_SignProxy_T
theorem mT:ref15_SignWish_T.ok Tryz.prog:=Tab.ok_cons xO mF
abbrev qp:=Int×Int
def k8(n:Nat)(v0 v1 v2 v3:Int):Option qp:=
 bif(-9223372036854775808<=(v1-v0))&&((v1-v0)<=9223372036854775807)then(cO n v2 (v1-v0)).bind fun y4=>
 bif(-9223372036854775808<=(v0+y4))&&((v0+y4)<=9223372036854775807)then bif(-9223372036854775808<=(v1-(v0+y4)))&&((v1-(v0+y4))<=9223372036854775807)then(cO n v3 (v1-(v0+y4))).bind fun y5=>
 bif(-9223372036854775808<=(v1-y5))&&((v1-y5)<=9223372036854775807)then some ((v0+y4),(v1-y5))else none else none else none else none
def j6(n:Nat)(v0 v1 v2 v3:Int):Option qp:=k8 n v0 v1 v2 v3
def ref15_narrowed_t:FnT:=⟨[(false,[.int]),(false,[.int]),(false,[.int]),(false,[.int])],(.tup (.cons .i (.cons .i .nil))),fun n (s:Int×Int×Int×Int)=>j6 n s.1 s.2.1 s.2.2.1 s.2.2.2⟩
theorem xS:ref15_narrowed_t.ok Tryz.prog 44:=FnT.ok_of (cfg:=⟨[],dg,[],az⟩) aT mT bI (fun s fn hf=>by rw[Tryz.func44]at hf;cases hf;kernel_rfl) (fun n s=>by kernel_rfl)
def ref15_narrowed_T:Tab:=(44,ref15_narrowed_t)::ref15_SignWish_T
theorem mU:ref15_narrowed_T.ok Tryz.prog:=Tab.ok_cons xS mT
abbrev jz:=Int×Int×Int×Int×Int×Int×Int×Int×List UInt8×Lv
abbrev oZ:=Lv×Int×Int×Int×Int×Int×Int
def ef(n:Nat)(go0:oZ->Option jz)(v7:Lv)(v12 v13 v14:Int)(v15:Lv)(v16 v17 v18 v19 v20 v21:Int):Option jz:=
 (bif v17<(v7.length:Int) then(bif v17<4 then bif 0<=v17 then bif(-9223372036854775808<=(v16+1))&&((v16+1)<=9223372036854775807)then(cO n (cI v7 v17 0) 9).bind fun y22=>
 bif(-9223372036854775808<=((v16+1)+y22))&&(((v16+1)+y22)<=9223372036854775807)then(gR n v16).bind fun y23=>
 (lX n y23 v16 (Nm ((v16+1)+y22) 10) v18 v19 v20 v21 ([]:List UInt8)).bind fun y24=>
 bif (((v15.length:Int)+1)*64)<=140737488355328 then(j6 n v18 v19 (cI v7 v17 1) (cI v7 v17 2)).bind fun y32=>
 (j6 n v20 v21 (cI v7 v17 3) (cI v7 v17 4)).bind fun y34=>
 bif(-9223372036854775808<=(v17+1))&&((v17+1)<=9223372036854775807)then go0 ((v15++[[(AV.int y24.1),(AV.int y24.2.1),(AV.int y24.2.2.1),(AV.int y24.2.2.2.1),(AV.int y24.2.2.2.2.1),(AV.int y24.2.2.2.2.2.1),(AV.raw (ar y24.2.2.2.2.2.2.1))]]),(Nm ((v16+1)+y22) 10),(v17+1),y32.1,y32.2,y34.1,y34.2)else none else none else none else none else none else(gR n v16).bind fun y22=>
 (gG n y22 v16 v12 v18 v19 v13 v14 v20 v21 ([]:List UInt8)).bind fun y23=>
 some (y23.1,y23.2.1,y23.2.2.1,y23.2.2.2.1,y23.2.2.2.2.1,y23.2.2.2.2.2.1,y23.2.2.2.2.2.2.1,y23.2.2.2.2.2.2.2.1,y23.2.2.2.2.2.2.2.2.1,v15))else(gR n v16).bind fun y22=>
 (gG n y22 v16 v12 v18 v19 v13 v14 v20 v21 ([]:List UInt8)).bind fun y23=>
 some (y23.1,y23.2.1,y23.2.2.1,y23.2.2.2.1,y23.2.2.2.2.1,y23.2.2.2.2.2.1,y23.2.2.2.2.2.2.1,y23.2.2.2.2.2.2.2.1,y23.2.2.2.2.2.2.2.2.1,v15))
def rn(n:Nat)(v0 v1 v2 v3 v4 v5 v6:Int)(v7:Lv):Option jz:=
 (cO n v1 10000).bind fun y8=>
 bif(-9223372036854775808<=(y8+1))&&((y8+1)<=9223372036854775807)then(cO n v2 1000).bind fun y9=>
 bif(-9223372036854775808<=((y8+1)+y9))&&(((y8+1)+y9)<=9223372036854775807)then(cO n v3 10000).bind fun y10=>
 bif(-9223372036854775808<=(y10+1))&&((y10+1)<=9223372036854775807)then(cO n v4 1000).bind fun y11=>
 bif(-9223372036854775808<=((y10+1)+y11))&&(((y10+1)+y11)<=9223372036854775807)then(cO n v0 10).bind fun y12=>
 (cO n v5 8).bind fun y13=>
 (cO n v6 1000).bind fun y14=>
 (af (fun go0 s=>ef n go0 v7 y12 y13 y14 s.1 s.2.1 s.2.2.1 s.2.2.2.1 s.2.2.2.2.1 s.2.2.2.2.2.1 s.2.2.2.2.2.2) n ((([]:Lv),y12,0,y8,((y8+1)+y9),y10,((y10+1)+y11)):oZ))else none else none else none else none
def uy(n:Nat)(v0 v1 v2 v3 v4 v5 v6:Int)(v7:Lv):Option jz:=rn n v0 v1 v2 v3 v4 v5 v6 v7
def ref15_Made_t:FnT:=⟨[(true,[.int,.int,.int,.int,.int,.int,.int,(.sl (.cons .int (.cons .int (.cons .int (.cons .int (.cons .int .nil))))))])],(.tup (.cons (.agg (.cons .i (.cons .i (.cons .i (.cons .i (.cons .i (.cons .i (.cons .i (.cons .i (.cons .st .nil)))))))))) (.cons (.row 127 (.cons .int (.cons .int (.cons .int (.cons .int (.cons .int (.cons .int (.cons .str .nil)))))))) .nil))),fun n (s:Int×Int×Int×Int×Int×Int×Int×Lv)=>uy n s.1 s.2.1 s.2.2.1 s.2.2.2.1 s.2.2.2.2.1 s.2.2.2.2.2.1 s.2.2.2.2.2.2.1 s.2.2.2.2.2.2.2⟩
theorem CR:ref15_Made_t.ok Tryz.prog 21:=FnT.ok_of (cfg:=⟨[((21,9,8),.inv [(.tmprow 10 127 (.cons .int (.cons .int (.cons .int (.cons .int (.cons .int (.cons .int (.cons .str .nil)))))))),(.tmp 8 .int),(.tmp 11 .int),(.cell 2 0 .int),(.cell 2 1 .int),(.cell 4 0 .int),(.cell 4 1 .int)])],dg,[],az⟩) aT mU bI (fun s fn hf=>by rw[Tryz.func21]at hf;cases hf;kernel_rfl) (fun n s=>by kernel_rfl)
def ref15_Made_T:Tab:=(21,ref15_Made_t)::ref15_narrowed_T
theorem rQ:ref15_Made_T.ok Tryz.prog:=Tab.ok_cons CR mU
abbrev rH:=Int×Int×Int×Int×Int×Int×Int×Int×List UInt8×Bool
def kX(n:Nat)(v0 v1 v2 v3 v4 v5 v6 v7:Int)(v8:List UInt8)(v9 v10:Int):Option rH:=
 (cO n v9 9).bind fun y11=>
 (bif y11=0 then some (v10,v1,v2,v3,v4,v5,v6,v7,v8,(!((decide (v10=v0))&&((decide (v1=v1))&&(((decide (v2=v2))&&(decide (v3=v3)))&&((decide (v4=v4))&&((decide (v5=v5))&&(((decide (v6=v6))&&(decide (v7=v7)))&&((v8==v8)==true)))))))))else(bif y11=1 then some (v0,v10,v2,v3,v4,v5,v6,v7,v8,(!((decide (v0=v0))&&((decide (v10=v1))&&(((decide (v2=v2))&&(decide (v3=v3)))&&((decide (v4=v4))&&((decide (v5=v5))&&(((decide (v6=v6))&&(decide (v7=v7)))&&((v8==v8)==true)))))))))else(bif y11=2 then some (v0,v1,v10,v3,v4,v5,v6,v7,v8,(!((decide (v0=v0))&&((decide (v1=v1))&&(((decide (v10=v2))&&(decide (v3=v3)))&&((decide (v4=v4))&&((decide (v5=v5))&&(((decide (v6=v6))&&(decide (v7=v7)))&&((v8==v8)==true)))))))))else(bif y11=3 then some (v0,v1,v2,v10,v4,v5,v6,v7,v8,(!((decide (v0=v0))&&((decide (v1=v1))&&(((decide (v2=v2))&&(decide (v10=v3)))&&((decide (v4=v4))&&((decide (v5=v5))&&(((decide (v6=v6))&&(decide (v7=v7)))&&((v8==v8)==true)))))))))else(bif y11=4 then some (v0,v1,v2,v3,v10,v5,v6,v7,v8,(!((decide (v0=v0))&&((decide (v1=v1))&&(((decide (v2=v2))&&(decide (v3=v3)))&&((decide (v10=v4))&&((decide (v5=v5))&&(((decide (v6=v6))&&(decide (v7=v7)))&&((v8==v8)==true)))))))))else(bif y11=5 then some (v0,v1,v2,v3,v4,v10,v6,v7,v8,(!((decide (v0=v0))&&((decide (v1=v1))&&(((decide (v2=v2))&&(decide (v3=v3)))&&((decide (v4=v4))&&((decide (v10=v5))&&(((decide (v6=v6))&&(decide (v7=v7)))&&((v8==v8)==true)))))))))else(bif y11=6 then some (v0,v1,v2,v3,v4,v5,v10,v7,v8,(!((decide (v0=v0))&&((decide (v1=v1))&&(((decide (v2=v2))&&(decide (v3=v3)))&&((decide (v4=v4))&&((decide (v5=v5))&&(((decide (v10=v6))&&(decide (v7=v7)))&&((v8==v8)==true)))))))))else(bif y11=7 then some (v0,v1,v2,v3,v4,v5,v6,v10,v8,(!((decide (v0=v0))&&((decide (v1=v1))&&(((decide (v2=v2))&&(decide (v3=v3)))&&((decide (v4=v4))&&((decide (v5=v5))&&(((decide (v6=v6))&&(decide (v10=v7)))&&((v8==v8)==true)))))))))else bif(-9223372036854775808<=(v3+1))&&((v3+1)<=9223372036854775807)then some (v0,v1,v2,(v3+1),v4,v5,v6,v7,v8,(!((decide (v0=v0))&&((decide (v1=v1))&&(((decide (v2=v2))&&(decide ((v3+1)=v3)))&&((decide (v4=v4))&&((decide (v5=v5))&&(((decide (v6=v6))&&(decide (v7=v7)))&&((v8==v8)==true)))))))))else none))))))))
def mZ(n:Nat)(v0 v1 v2 v3 v4 v5 v6 v7:Int)(v8:List UInt8)(v9 v10:Int):Option rH:=kX n v0 v1 v2 v3 v4 v5 v6 v7 v8 v9 v10
def ref15_BentWish_t:FnT:=⟨[(true,[.int,.int,.int,.int,.int,.int,.int,.int,.str]),(false,[.int]),(false,[.int])],(.tup (.cons (.agg (.cons .i (.cons .i (.cons .i (.cons .i (.cons .i (.cons .i (.cons .i (.cons .i (.cons .st .nil)))))))))) (.cons .b .nil))),fun n (s:Int×Int×Int×Int×Int×Int×Int×Int×List UInt8×Int×Int)=>mZ n s.1 s.2.1 s.2.2.1 s.2.2.2.1 s.2.2.2.2.1 s.2.2.2.2.2.1 s.2.2.2.2.2.2.1 s.2.2.2.2.2.2.2.1 s.2.2.2.2.2.2.2.2.1 s.2.2.2.2.2.2.2.2.2.1 s.2.2.2.2.2.2.2.2.2.2⟩
theorem xR:ref15_BentWish_t.ok Tryz.prog 6:=FnT.ok_of (cfg:=⟨[],dg,[],az⟩) aT rQ bI (fun s fn hf=>by rw[Tryz.func6]at hf;cases hf;kernel_rfl) (fun n s=>by kernel_rfl)
def ref15_BentWish_T:Tab:=(6,ref15_BentWish_t)::ref15_Made_T
theorem mP:ref15_BentWish_T.ok Tryz.prog:=Tab.ok_cons xR rQ
end
open Go.Dial.Wire
noncomputable section
theorem bS{α β:Type}(x:α)(f:α->Option β):(some x).bind f=f x:=rfl
def pk(c k:Int):Int:=if c<0 then Nm (0-(c+1)) k else Nm c k
theorem GK{a k:Int}(ha:0<=a)(hk:0<k):0<=Nm a k/\Nm a k<k:=⟨Int.tmod_nonneg _ ha,Int.tmod_lt_of_pos _ hk⟩
theorem dm(c:Int){k:Int}(hk:0<k):0<=pk c k/\pk c k<k:=by
 unfold pk;split
 ·exact GK (by omega) hk
 ·exact GK (by omega) hk
theorem yV{α:Type}(c k:Int)(hk:0<k)(h1: -9223372036854775808<=c)(h2:c<=9223372036854775807)(r:Int->α):
  (bif c<0 then bif(-9223372036854775808<=(c+1))&&((c+1)<=9223372036854775807)then bif(-9223372036854775808<=(0-(c+1)))&&((0-(c+1))<=9223372036854775807)then bif !(k=0)then some (r (Nm (0-(c+1)) k))else none else none else none else bif !(k=0)then some (r (Nm c k))else none)=some (r (pk c k)):=by
 unfold pk;by_cases hc:c<0
 ·rw[if_pos hc,dT hc,inn (by omega) (by omega),inn (by omega) (by omega),nF (by omega)]
 ·rw[if_neg hc,dF hc,nF (by omega)]
theorem cE(n:Nat)(c k:Int)(hk:0<k)(h1: -9223372036854775808<=c)(h2:c<=9223372036854775807):cO n c k=some (pk c k):=yV c k hk h1 h2 id
def fk(h:Int):List UInt8:=M9 32 (UInt8.ofNat (IntKind.wrap .u8 h).toNat)
theorem kS(h:Int):(fk h).length=32:=by simp[fk]
theorem Eg(m:Nat)(h:Int):gR (m+40) h=some (fk h):=by kernel_rfl
theorem yj(n:Nat)(h:Int)(hn:40<=n):gR n h=some (fk h):=by
 obtain⟨m,rfl⟩:∃m,n=m+40:=⟨n-40,by omega⟩
 exact Eg m h
def keysL:Lv:=(NP 10).map fun(i:Nat)=>[.raw (ar (fk (i:Int)))]
theorem De(m:Nat):l9 (m+40)=some keysL:=by kernel_rfl
theorem wq(n:Nat)(hn:40<=n):l9 n=some keysL:=by
 obtain⟨m,rfl⟩:∃m,n=m+40:=⟨n-40,by omega⟩
 exact De m
theorem yC(h:Int)(h0:0<=h)(h1:h<10):cS keysL h 0=fk h:=by
 have key:∀i:Fin 10,cS keysL (i.val:Int) 0=fk (i.val:Int):=fun i=>by
  show AV.s ((keysL.getD ((i.val:Int)).toNat []).getD 0 (.int 0))=_
  rw[Nf,keysL];simp only[Ns,Nr,NT i.isLt,N6,N0];exact gu _
 have:=key ⟨h.toNat,by omega⟩
 rwa [show((h.toNat:Nat):Int)=h by omega]at this
def aX(l:List Int):List UInt8:=l.flatMap enc
def iL(l:List Int):Lv:=l.map fun x=>[.int x]
theorem nV(l:List Int)(i:Nat):cI (iL l) (i:Int) 0=l.getD i 0:=by
 show AV.i (((l.map fun x=>[AV.int x]).getD ((i:Int)).toNat []).getD 0 (.int 0))=_
 rw[Nf];simp only[Ns,Nr];cases l[i]?<;>rfl
theorem jy(l:List Int):(aX l).length<=9*l.length:=by
 induction l with
 |nil=>simp[aX]
 |cons x l ih=>
  have:aX (x::l)=enc x++aX l:=rfl
  rw[this,Nd,Nz];have:=cn x
  omega
theorem oi{α:Type}{step:(List UInt8×Int->Option α)->List UInt8×Int->Option α}(L:List Int)(r:List UInt8->Option α)
  (h1:∀go acc (i:Nat),i<L.length->acc.length<=9*i->step go (acc,(i:Int))=go (acc++enc (L.getD i 0),((i+1:Nat):Int)))
  (h2:∀go acc,acc.length<=9*L.length->step go (acc,(L.length:Int))=r acc):
  ∀(f i m:Nat) (acc:List UInt8),i+f=L.length->f<m->acc.length<=9*i->af step m (acc,(i:Int))=r (acc++aX (L.drop i)):=by
 intro f;induction f with
 |zero=>
  intro i m acc hi hm ha;obtain⟨m,rfl⟩:∃k,m=k+1:=⟨m-1,by omega⟩
  obtain rfl:i=L.length:=by omega
  rw[ae,h2 _ _ ha,N1];simp[aX]
 | succ f ih=>
  intro i m acc hi hm ha;obtain⟨m,rfl⟩:∃k,m=k+1:=⟨m-1,by omega⟩
  have he:=cn (L.getD i 0);rw[ae,h1 _ _ _ (by omega) ha,ih (i+1) m _ (by omega) (by omega) (by rw[Nd];omega)]
  have:L.drop i=L.getD i 0::L.drop (i+1):=by
   rw[NG (by omega)];simp[Ns,Na (show i<L.length by omega)]
  rw[this];simp[aX]
def Ok62(l:List Int):Prop:=∀x∈l,0<=x/\x<=4611686018427387903
theorem Ok62.at{l:List Int}(h:Ok62 l)(i:Nat):0<=l.getD i 0/\l.getD i 0<=4611686018427387903:=by
 simp only[Ns];cases e:l[i]? with
 |none=>exact⟨by simp,by simp⟩
 |some x=>exact h x (List.mem_of_getElem? e)
theorem uV(n:Nat)(v0 v1 v2 v3 v4 v5:Int)(s:List UInt8)(hn:20<=n)(h:Ok62 [2,v0,v1,v2,v3,v4,v5]):jn n v0 v1 v2 v3 v4 v5 s=some (aX [2,v0,v1,v2,v3,v4,v5]):=by
 have:=oi (α:=dr) (step:=fun go0 s=>cJ n go0 v0 v1 v2 v3 v4 v5 s.1 s.2) [2,v0,v1,v2,v3,v4,v5] some ?_ ?_ 7 0 n [] rfl (by omega) (by simp)
 ·exact this
 ·intro go acc i hi ha
  have hi:i<7:=hi
  show cJ n go v0 v1 v2 v3 v4 v5 acc (i:Int)=_
  unfold cJ;have e:cI (((((((([]:Lv)++[[(AV.int 2)]])++[[(AV.int v0)]])++[[(AV.int v1)]])++[[(AV.int v2)]])++[[(AV.int v3)]])++[[(AV.int v4)]])++[[(AV.int v5)]]) (i:Int) 0=[2,v0,v1,v2,v3,v4,v5].getD i 0:=nV [2,v0,v1,v2,v3,v4,v5] i
  obtain⟨b1,b2⟩:=h.at i;have he:=cn ([2,v0,v1,v2,v3,v4,v5].getD i 0);rw[dT (by omega),dT (by omega),e,jJ n _ hn b1 b2]
  rw[bS];dsimp only;rw[dT (by omega),inn (by omega) (by omega)]
  rfl
 ·intro go acc ha
  show cJ n go v0 v1 v2 v3 v4 v5 acc (7:Int)=_
  unfold cJ;rw[dF (by omega)]
theorem vH(n:Nat)(v0 v1 v2 v3 v4 v5 v6 v7:Int)(s:List UInt8)(hn:20<=n)(h:Ok62 [1,v0,v1,v2,v3,v4,v5,v6,v7]):kg n v0 v1 v2 v3 v4 v5 v6 v7 s=some (aX [1,v0,v1,v2,v3,v4,v5,v6,v7]):=by
 have:=oi (α:=dG) (step:=fun go0 s=>cU n go0 v0 v1 v2 v3 v4 v5 v6 v7 s.1 s.2) [1,v0,v1,v2,v3,v4,v5,v6,v7] some ?_ ?_ 9 0 n [] rfl (by omega) (by simp)
 ·exact this
 ·intro go acc i hi ha
  have hi:i<9:=hi
  show cU n go v0 v1 v2 v3 v4 v5 v6 v7 acc (i:Int)=_
  unfold cU;have e:cI (((((((((([]:Lv)++[[(AV.int 1)]])++[[(AV.int v0)]])++[[(AV.int v1)]])++[[(AV.int v2)]])++[[(AV.int v3)]])++[[(AV.int v4)]])++[[(AV.int v5)]])++[[(AV.int v6)]])++[[(AV.int v7)]]) (i:Int) 0=[1,v0,v1,v2,v3,v4,v5,v6,v7].getD i 0:=nV [1,v0,v1,v2,v3,v4,v5,v6,v7] i
  obtain⟨b1,b2⟩:=h.at i;have he:=cn ([1,v0,v1,v2,v3,v4,v5,v6,v7].getD i 0);rw[dT (by omega),dT (by omega),e,jJ n _ hn b1 b2]
  rw[bS];dsimp only;rw[dT (by omega),inn (by omega) (by omega)]
  rfl
 ·intro go acc ha
  show cU n go v0 v1 v2 v3 v4 v5 v6 v7 acc (9:Int)=_
  unfold cU;rw[dF (by omega)]
theorem lz{x:Int}{l:List Int}(h1:0<=x/\x<=100000000)(h2:Ok62 l):Ok62 (x::l):=fun y hy=>by
 rcases List.mem_cons.1 hy with rfl|hy
 ·exact⟨h1.1,by have:=h1.2;omega⟩
 ·exact h2 y hy
theorem nc:Ok62 []:=fun _ h=>by cases h
theorem xW(n:Nat)(key:List UInt8)(f t a b c d:Int)(s:List UInt8)(hn:1000<=n)(hk:key.length=32)(h1:0<=f/\f<=63)(h2:0<=t/\t<=63)(h3:f≠t)(h4:0<=a/\a<b/\b<=100000000)(h5:0<=c/\c<d/\d<=10000001):
  lX n key f t a b c d s=some (f,t,a,b,c,d,db key (aX [2,f,t,a,b,c,d]),0):=by
 show kb n key f t a b c d s=_
 unfold kb;have hl:=jy [2,f,t,a,b,c,d];have hl:(aX [2,f,t,a,b,c,d]).length<=63:=hl
 rw[nT (by omega),dT (by omega),dT (by omega),dT (by omega),dT (by omega),nF (by omega),dT (by omega),dT (by omega),dT (by omega),dT (by omega),dT (by omega),nT (by omega)]
 rw[uV n f t a b c d s (by omega) (by repeat (first|exact nc|refine lz (by omega) ?_))]
 rw[bS];rw[rB n _ (by omega) (by omega)]
 rw[bS];rw[wz n key _ (by rw[hk,e8];omega) (by rw[hk,e8];omega)]
 rfl
theorem yZ(n:Nat)(key:List UInt8)(sg ho a b ca se c d:Int)(s:List UInt8)(hn:1000<=n)(hk:key.length=32)(h1:0<=sg/\sg<=63)(h2:0<=ho/\ho<=63)(h4:0<=a/\a<b/\b<=100000000)(h6:0<=ca/\ca<=7)(h7:0<=se/\se<=1000000)(h5:0<=c/\c<d/\d<=10000001):
  gG n key sg ho a b ca se c d s=some (sg,ho,a,b,ca,se,c,d,db key (aX [1,sg,ho,a,b,ca,se,c,d]),0):=by
 show lh n key sg ho a b ca se c d s=_
 unfold lh;have hl:=jy [1,sg,ho,a,b,ca,se,c,d];have hl:(aX [1,sg,ho,a,b,ca,se,c,d]).length<=81:=hl
 rw[nT (by omega),dT (by omega),dT (by omega),dT (by omega),dT (by omega),dT (by omega),dT (by omega),dT (by omega),dT (by omega),dT (by omega),dT (by omega),dT (by omega),dT (by omega),dT (by omega),nT (by omega)]
 rw[vH n sg ho a b ca se c d s (by omega) (by repeat (first|exact nc|refine lz (by omega) ?_))]
 rw[bS];rw[rB n _ (by omega) (by omega)]
 rw[bS];rw[wz n key _ (by rw[hk,e8];omega) (by rw[hk,e8];omega)]
 rfl
theorem qx(n:Nat)(a b x y:Int)(h:0<=a/\a<b/\b<=100000000)(hx: -9223372036854775808<=x/\x<=9223372036854775807)(hy: -9223372036854775808<=y/\y<=9223372036854775807):
  ∃c d,j6 n a b x y=some (c,d)/\a<=c/\c<d/\d<=b:=by
 obtain⟨p1,p2⟩:=dm x (k:=b-a) (by omega)
 obtain⟨q1,q2⟩:=dm y (k:=b-(a+pk x (b-a))) (by omega)
 refine⟨a+pk x (b-a),b-pk y (b-(a+pk x (b-a))),?_,by omega,by omega,by omega⟩
 show k8 n a b x y=_
 unfold k8;rw[inn (by omega) (by omega),cE n x (b-a) (by omega) hx.1 hx.2]
 rw[bS];rw[inn (by omega) (by omega),inn (by omega) (by omega),cE n y _ (by omega) hy.1 hy.2]
 rw[bS];rw[inn (by omega) (by omega)]
structure Px where
 f:Int
 t:Int
 a:Int
 b:Int
 c:Int
 d:Int
instance:Inhabited Px:=⟨⟨0,0,0,0,0,0⟩⟩
def Px.row(p:Px):List AV:=[.int p.f,.int p.t,.int p.a,.int p.b,.int p.c,.int p.d,.raw (ar (db (fk p.f) (aX [2,p.f,p.t,p.a,p.b,p.c,p.d])))]
def Px.ok(p:Px):Prop:=(0<=p.f/\p.f<10)/\(0<=p.t/\p.t<10)/\p.f≠p.t/\(0<=p.a/\p.a<p.b/\p.b<=11000)/\(0<=p.c/\p.c<p.d/\p.d<=11000)
def aN(L:List Px):Lv:=L.map Px.row
theorem dx(L:List Px):(aN L).length=L.length:=by simp[aN]
def ax(L:List Px)(i:Nat):Px:=L.getD i default
theorem na{L:List Px}{i:Nat}(h:i<L.length)(M:List Px):ax (L++M) i=ax L i:=by simp[ax,Ns,Nq h]
theorem ou(L:List Px)(p:Px):ax (L++[p]) L.length=p:=by simp[ax,Ns]
inductive Chn (ho:Int):List Px->Int->Int->Int->Int->Int->Prop
 |nil {a b c d:Int}:(0<=ho/\ho<10)->(0<=a/\a<b/\b<=11000)->(0<=c/\c<d/\d<=11000)->Chn ho [] ho a b c d
 |snoc {L:List Px} {who a b c d t a' b' c' d':Int}:Chn ho L who a b c d->(0<=t/\t<10)->who≠t->(a<=a'/\a'<b'/\b'<=b)->(c<=c'/\c'<d'/\d'<=d)->Chn ho (L++[⟨who,t,a,b,c,d⟩]) t a' b' c' d'
theorem Chn.bd{ho:Int}{L:List Px}{who a b c d:Int}(h:Chn ho L who a b c d):(0<=ho/\ho<10)/\(0<=who/\who<10)/\(0<=a/\a<b/\b<=11000)/\(0<=c/\c<d/\d<=11000):=by
 induction h with
 |nil h1 h2 h3=>exact⟨h1,h1,h2,h3⟩
 |snoc _ h1 h2 h3 h4 ih=>omega
theorem Chn.okAt{ho:Int}{L:List Px}{who a b c d:Int}(h:Chn ho L who a b c d):∀i,i<L.length->(ax L i).ok:=by
 induction h with
 |nil=>intro i hi;exact absurd hi (by simp)
 | snoc h0 h1 h2 h3 h4 ih=>
  intro i hi;rw[Nd,Nt]at hi;rcases Nat.lt_succ_iff_lt_or_eq.1 hi with hi|rfl
  ·rw[na hi];exact ih i hi
  ·rw[ou]
   have:=h0.bd
   exact⟨this.2.1,h1,h2,this.2.2.1,this.2.2.2⟩
def rC(ho:Int)(L:List Px):Nat->Int
 |0=>ho
 |i+1=>(ax L i).t
theorem EI(ho:Int){L:List Px}{i:Nat}(h:i<=L.length)(M:List Px):rC ho (L++M) i=rC ho L i:=by
 cases i with
 |zero=>rfl
 |succ i=>simp only[rC];rw[na h]
theorem Chn.link{ho:Int}{L:List Px}{who a b c d:Int}(h:Chn ho L who a b c d):(∀i,i<L.length->(ax L i).f=rC ho L i)/\who=rC ho L L.length:=by
 induction h with
 |nil=>exact⟨fun i hi=>absurd hi (by simp),rfl⟩
 | @snoc L who a b c d t a' b' c' d' h0 h1 h2 h3 h4 ih=>
  refine⟨fun i hi=>?_,?_⟩
  ·rw[Nd,Nt]at hi
   rcases Nat.lt_succ_iff_lt_or_eq.1 hi with hi|rfl
   ·rw[na hi,EI _ (by omega)];exact ih.1 i hi
   ·rw[ou,EI _ (by omega)];exact ih.2
  ·rw[Nd,Nt];simp only[rC];rw[ou]
def Px.inn(q p:Px):Prop:=p.a<=q.a/\q.b<=p.b/\p.c<=q.c/\q.d<=p.d
theorem Chn.nest{ho:Int}{L:List Px}{who a b c d:Int}(h:Chn ho L who a b c d):(∀i,i+1<L.length->(ax L (i+1)).inn (ax L i))/\(∀k,L.length=k+1->(ax L k).a<=a/\b<=(ax L k).b/\(ax L k).c<=c/\d<=(ax L k).d):=by
 induction h with
 |nil=>exact⟨fun i hi=>absurd hi (by simp),fun k hk=>absurd hk (by simp)⟩
 | @snoc L who a b c d t a' b' c' d' h0 h1 h2 h3 h4 ih=>
  refine⟨fun i hi=>?_,fun k hk=>?_⟩
  ·rw[Nd,Nt]at hi
   rcases Nat.lt_succ_iff_lt_or_eq.1 hi with hi|e
   ·rw[na hi,na (by omega)];exact ih.1 i hi
   ·rw[e,ou,na (by omega)]
    exact ih.2 i e.symm
  ·rw[Nd,Nt]at hk
   obtain rfl:k=L.length:=by omega
   rw[ou];exact⟨h3.1,h3.2.2,h4.1,h4.2.2⟩
theorem k9{L:List Px}{i:Nat}(h:i<L.length):(aN L).getD ((i:Int)).toNat []=(ax L i).row:=by
 rw[Nf];simp[aN,ax,Ns,Nr,Na h]
theorem cP0{L:List Px}{i:Nat}(h:i<L.length):cI (aN L) (i:Int) 0=(ax L i).f:=by
 show AV.i (((aN L).getD ((i:Int)).toNat []).getD 0 (.int 0))=_
 rw[k9 h];rfl
theorem cP1{L:List Px}{i:Nat}(h:i<L.length):cI (aN L) (i:Int) 1=(ax L i).t:=by
 show AV.i (((aN L).getD ((i:Int)).toNat []).getD 1 (.int 0))=_
 rw[k9 h];rfl
theorem cP2{L:List Px}{i:Nat}(h:i<L.length):cI (aN L) (i:Int) 2=(ax L i).a:=by
 show AV.i (((aN L).getD ((i:Int)).toNat []).getD 2 (.int 0))=_
 rw[k9 h];rfl
theorem cP3{L:List Px}{i:Nat}(h:i<L.length):cI (aN L) (i:Int) 3=(ax L i).b:=by
 show AV.i (((aN L).getD ((i:Int)).toNat []).getD 3 (.int 0))=_
 rw[k9 h];rfl
theorem cP4{L:List Px}{i:Nat}(h:i<L.length):cI (aN L) (i:Int) 4=(ax L i).c:=by
 show AV.i (((aN L).getD ((i:Int)).toNat []).getD 4 (.int 0))=_
 rw[k9 h];rfl
theorem cP5{L:List Px}{i:Nat}(h:i<L.length):cI (aN L) (i:Int) 5=(ax L i).d:=by
 show AV.i (((aN L).getD ((i:Int)).toNat []).getD 5 (.int 0))=_
 rw[k9 h];rfl
theorem cP6{L:List Px}{i:Nat}(h:i<L.length):cS (aN L) (i:Int) 6=db (fk (ax L i).f) (aX [2,(ax L i).f,(ax L i).t,(ax L i).a,(ax L i).b,(ax L i).c,(ax L i).d]):=by
 show AV.s (((aN L).getD ((i:Int)).toNat []).getD 6 (.int 0))=_
 rw[k9 h];exact gu _
def LvI(v:Lv):Prop:=∀i k,-9223372036854775808<=cI v i k/\cI v i k<=9223372036854775807
def Dq(L:List Px)(sg ho a b ca se c d:Int):jz:=(sg,ho,a,b,ca,se,c,d,db (fk sg) (aX [1,sg,ho,a,b,ca,se,c,d]),aN L)
theorem El(n:Nat)(ho ca se:Int)(L:List Px)(who a b c d:Int)(hn:1000<=n)(hc:0<=ca/\ca<=7)(hs:0<=se/\se<1000)(h:Chn ho L who a b c d):
  (gR n who).bind (fun y22=>(gG n y22 who ho a b ca se c d ([]:List UInt8)).bind fun y23=>
   some (y23.1,y23.2.1,y23.2.2.1,y23.2.2.2.1,y23.2.2.2.2.1,y23.2.2.2.2.2.1,y23.2.2.2.2.2.2.1,y23.2.2.2.2.2.2.2.1,y23.2.2.2.2.2.2.2.2.1,aN L))=some (Dq L who ho a b ca se c d):=by
 obtain⟨b1,b2,b3,b4⟩:=h.bd;rw[yj n who (by omega)]
 rw[bS];rw[yZ n _ who ho a b ca se c d _ hn (kS _) (by omega) (by omega) (by omega) hc (by omega) (by omega)]
 rw[bS];rfl
theorem I9(n:Nat)(v7:Lv)(ho ca se:Int)(hn:1000<=n)(hv:LvI v7)(hc:0<=ca/\ca<=7)(hs:0<=se/\se<1000):
  ∀(f m:Nat) (L:List Px) (who a b c d:Int),L.length+f=4->f<m->Chn ho L who a b c d →
  ∃L' sg a' b' c' d',Chn ho L' sg a' b' c' d'/\L'.length<=4/\af (fun go0 (s:oZ)=>ef n go0 v7 ho ca se s.1 s.2.1 s.2.2.1 s.2.2.2.1 s.2.2.2.2.1 s.2.2.2.2.2.1 s.2.2.2.2.2.2) m (aN L,who,(L.length:Int),a,b,c,d)=some (Dq L' sg ho a' b' ca se c' d'):=by
 intro f;induction f with
 |zero=>
  intro m L who a b c d hl hm h;obtain⟨m,rfl⟩:∃k,m=k+1:=⟨m-1,by omega⟩
  refine⟨L,who,a,b,c,d,h,by omega,?_⟩
  rw[ae];show ef n _ v7 ho ca se (aN L) who (L.length:Int) a b c d=_
  unfold ef;have e:=El n ho ca se L who a b c d hn hc hs h;by_cases h1:(L.length:Int)<(v7.length:Int)
  ·rw[dT h1,dF (by omega)];exact e
  ·rw[dF h1];exact e
 | succ f ih=>
  intro m L who a b c d hl hm h;obtain⟨m,rfl⟩:∃k,m=k+1:=⟨m-1,by omega⟩
  rw[ae];by_cases h1:(L.length:Int)<(v7.length:Int)
  ·obtain⟨b1,b2,b3,b4⟩:=h.bd
   obtain⟨p1,p2⟩:=dm (cI v7 (L.length:Int) 0) (k:=9) (by omega)
   obtain⟨a',b',er,r1,r2,r3⟩:=qx n a b (cI v7 (L.length:Int) 1) (cI v7 (L.length:Int) 2) (by omega) (hv _ _) (hv _ _)
   obtain⟨c',d',es,s1,s2,s3⟩:=qx n c d (cI v7 (L.length:Int) 3) (cI v7 (L.length:Int) 4) (by omega) (hv _ _) (hv _ _)
   have ht:Nm ((who+1)+pk (cI v7 (L.length:Int) 0) 9) 10=((who+1)+pk (cI v7 (L.length:Int) 0) 9) % 10:=No (by omega)
   obtain⟨L',sg,a2,b2',c2,d2,hh,hl',e⟩:=ih m (L++[⟨who,Nm ((who+1)+pk (cI v7 (L.length:Int) 0) 9) 10,a,b,c,d⟩]) (Nm ((who+1)+pk (cI v7 (L.length:Int) 0) 9) 10) a' b' c' d' (by simp;omega) (by omega) (h.snoc (by omega) (by omega) ⟨r1,r2,r3⟩ ⟨s1,s2,s3⟩)
   refine⟨L',sg,a2,b2',c2,d2,hh,hl',?_⟩
   rw[<-e];show ef n _ v7 ho ca se (aN L) who (L.length:Int) a b c d=_
   unfold ef;rw[dT h1,dT (by omega),dT (by omega),inn (by omega) (by omega),cE n _ 9 (by omega) (hv _ _).1 (hv _ _).2]
   rw[bS];rw[inn (by omega) (by omega),yj n who (by omega)]
   rw[bS];rw[xW n _ who _ a b c d _ hn (kS _) (by omega) (by omega) (by omega) (by omega) (by omega)]
   rw[bS];rw[dT (by rw[dx];omega),er]
   rw[bS];rw[es];rw[bS];rw[inn (by omega) (by omega)]
   have el:(((L++[(⟨who,Nm ((who+1)+pk (cI v7 (L.length:Int) 0) 9) 10,a,b,c,d⟩:Px)]).length:Nat):Int)=(L.length:Int)+1:=by simp
   rw[el];have er':aN (L++[⟨who,Nm ((who+1)+pk (cI v7 (L.length:Int) 0) 9) 10,a,b,c,d⟩])=aN L++[Px.row ⟨who,Nm ((who+1)+pk (cI v7 (L.length:Int) 0) 9) 10,a,b,c,d⟩]:=by simp[aN]
   rw[er'];rfl
  ·refine⟨L,who,a,b,c,d,h,by omega,?_⟩
   show ef n _ v7 ho ca se (aN L) who (L.length:Int) a b c d=_
   unfold ef;rw[dF h1];exact El n ho ca se L who a b c d hn hc hs h
def I64(x:Int):Prop:= -9223372036854775808<=x/\x<=9223372036854775807
theorem Ev(n:Nat)(v0 v1 v2 v3 v4 v5 v6:Int)(v7:Lv)(hn:1000<=n)(h0:I64 v0)(h1:I64 v1)(h2:I64 v2)(h3:I64 v3)(h4:I64 v4)(h5:I64 v5)(h6:I64 v6)(hv:LvI v7):
  ∃L sg ho a b ca se c d,Chn ho L sg a b c d/\L.length<=4/\(0<=ca/\ca<=7)/\(0<=se/\se<1000)/\uy n v0 v1 v2 v3 v4 v5 v6 v7=some (Dq L sg ho a b ca se c d):=by
 obtain⟨p1,p2⟩:=dm v1 (k:=10000) (by omega)
 obtain⟨q1,q2⟩:=dm v2 (k:=1000) (by omega)
 obtain⟨r1,r2⟩:=dm v3 (k:=10000) (by omega)
 obtain⟨s1,s2⟩:=dm v4 (k:=1000) (by omega)
 obtain⟨t1,t2⟩:=dm v0 (k:=10) (by omega)
 obtain⟨u1,u2⟩:=dm v5 (k:=8) (by omega)
 obtain⟨w1,w2⟩:=dm v6 (k:=1000) (by omega)
 obtain⟨L,sg,a,b,c,d,hc,hl,e⟩:=I9 n v7 (pk v0 10) (pk v5 8) (pk v6 1000) hn hv (by omega) (by omega) 4 n [] (pk v0 10) (pk v1 10000) (pk v1 10000+1+pk v2 1000) (pk v3 10000) (pk v3 10000+1+pk v4 1000) rfl (by omega) (.nil (by omega) (by omega) (by omega))
 refine⟨L,sg,_,a,b,_,_,c,d,hc,hl,⟨u1,by omega⟩,⟨w1,w2⟩,?_⟩
 rw[<-e];show rn n v0 v1 v2 v3 v4 v5 v6 v7=_
 unfold rn;rw[cE n v1 10000 (by omega) h1.1 h1.2]
 rw[bS];rw[inn (by omega) (by omega),cE n v2 1000 (by omega) h2.1 h2.2]
 rw[bS];rw[inn (by omega) (by omega),cE n v3 10000 (by omega) h3.1 h3.2]
 rw[bS];rw[inn (by omega) (by omega),cE n v4 1000 (by omega) h4.1 h4.2]
 rw[bS];rw[inn (by omega) (by omega),cE n v0 10 (by omega) h0.1 h0.2]
 rw[bS];rw[cE n v5 8 (by omega) h5.1 h5.2]
 rw[bS];rw[cE n v6 1000 (by omega) h6.1 h6.2]
 rw[bS];rfl
theorem zI(n:Nat)(v0 v1 v2 v3 v4 v5 v6 v7:Int)(v8:List UInt8)(v9 v10:Int)(h9:I64 v9)(h3: -9223372036854775809<=v3/\v3<=9223372036854775806)
  (h0:I64 v0) (h1:I64 v1) (h2:I64 v2) (h4:I64 v4) (h5:I64 v5) (h6:I64 v6) (h7:I64 v7) (h10:I64 v10) (h3':I64 v3):
  ∃w0 w1 w2 w3 w4 w5 w6 w7 bb,mZ n v0 v1 v2 v3 v4 v5 v6 v7 v8 v9 v10=some (w0,w1,w2,w3,w4,w5,w6,w7,v8,bb)/\I64 w0/\I64 w1/\I64 w2/\I64 w3/\I64 w4/\I64 w5/\I64 w6/\I64 w7:=by
 show ∃w0 w1 w2 w3 w4 w5 w6 w7 bb,kX n v0 v1 v2 v3 v4 v5 v6 v7 v8 v9 v10=some (w0,w1,w2,w3,w4,w5,w6,w7,v8,bb)/\I64 w0/\I64 w1/\I64 w2/\I64 w3/\I64 w4/\I64 w5/\I64 w6/\I64 w7
 unfold kX;rw[cE n v9 9 (by omega) h9.1 h9.2]
 rw[bS];by_cases k0:pk v9 9=0
 ·rw[dT k0];exact⟨_,_,_,_,_,_,_,_,_,rfl,h10,h1,h2,h3',h4,h5,h6,h7⟩
 rw[dF k0];by_cases k1:pk v9 9=1
 ·rw[dT k1];exact⟨_,_,_,_,_,_,_,_,_,rfl,h0,h10,h2,h3',h4,h5,h6,h7⟩
 rw[dF k1];by_cases k2:pk v9 9=2
 ·rw[dT k2];exact⟨_,_,_,_,_,_,_,_,_,rfl,h0,h1,h10,h3',h4,h5,h6,h7⟩
 rw[dF k2];by_cases k3:pk v9 9=3
 ·rw[dT k3];exact⟨_,_,_,_,_,_,_,_,_,rfl,h0,h1,h2,h10,h4,h5,h6,h7⟩
 rw[dF k3];by_cases k4:pk v9 9=4
 ·rw[dT k4];exact⟨_,_,_,_,_,_,_,_,_,rfl,h0,h1,h2,h3',h10,h5,h6,h7⟩
 rw[dF k4];by_cases k5:pk v9 9=5
 ·rw[dT k5];exact⟨_,_,_,_,_,_,_,_,_,rfl,h0,h1,h2,h3',h4,h10,h6,h7⟩
 rw[dF k5];by_cases k6:pk v9 9=6
 ·rw[dT k6];exact⟨_,_,_,_,_,_,_,_,_,rfl,h0,h1,h2,h3',h4,h5,h10,h7⟩
 rw[dF k6];by_cases k7:pk v9 9=7
 ·rw[dT k7];exact⟨_,_,_,_,_,_,_,_,_,rfl,h0,h1,h2,h3',h4,h5,h6,h10⟩
 rw[dF k7];rw[inn (by omega) (by omega)]
 exact⟨_,_,_,_,_,_,_,_,_,rfl,h0,h1,h2,⟨by omega,by omega⟩,h4,h5,h6,h7⟩
end
end Go.Proofs.YtkgphkdlbjinmaaGreatDoor
namespace Go.Proofs.YtkgphkdlbjinmaaGreatDoor
open Go Go.Sx
noncomputable section
abbrev ap:=Int×Int
abbrev ay:=Int
abbrev cH:=Int×Lv
abbrev ko:=Int×Int
def dZ(n:Nat)(go0:ay->Option ap)(go1:cH->Option ap)(v0 v10:Lv)(v18 v21:Int)(v22:Lv):Option ap:=
 (bif v21<7 then bif 0<=v21 then(dW n (cI (((((((([]:Lv)++[[(AV.int 2)]])++[[(AV.int (cI v10 v18 0))]])++[[(AV.int (cI v10 v18 1))]])++[[(AV.int (cI v10 v18 2))]])++[[(AV.int (cI v10 v18 3))]])++[[(AV.int (cI v10 v18 4))]])++[[(AV.int (cI v10 v18 5))]]) v21 0)).bind fun y23=>
 bif (((v22++(au y23.1)).length:Int)*1)<=140737488355328 then bif(-9223372036854775808<=(v21+1))&&((v21+1)<=9223372036854775807)then go1 ((v21+1),(v22++(au y23.1)))else none else none else none else bif 0<(v22.length:Int) then(dX n (bytesOf v22)).bind fun y23=>
 (ku n (cS v0 (cI v10 v18 0) 0) y23).bind fun y24=>
 (bif(!((cS v10 v18 6)==y24))then some (6,v18)else bif(-9223372036854775808<=(v18+1))&&((v18+1)<=9223372036854775807)then go0 (v18+1)else none)else none)
def d8(n:Nat)(go0:cH->Option ap)(v0:Lv)(v1 v2 v3 v4 v5 v6 v7 v8:Int)(v9:List UInt8)(v21:Int)(v22:Lv):Option ap:=
 (bif v21<9 then bif 0<=v21 then(dW n (cI (((((((((([]:Lv)++[[(AV.int 1)]])++[[(AV.int v1)]])++[[(AV.int v2)]])++[[(AV.int v3)]])++[[(AV.int v4)]])++[[(AV.int v5)]])++[[(AV.int v6)]])++[[(AV.int v7)]])++[[(AV.int v8)]]) v21 0)).bind fun y23=>
 bif (((v22++(au y23.1)).length:Int)*1)<=140737488355328 then bif(-9223372036854775808<=(v21+1))&&((v21+1)<=9223372036854775807)then go0 ((v21+1),(v22++(au y23.1)))else none else none else none else bif 0<(v22.length:Int) then(dX n (bytesOf v22)).bind fun y23=>
 (ku n (cS v0 v1 0) y23).bind fun y24=>
 (bif(!(v9==y24))then some (6,(-1))else some (0,(-1)))else none)
def dY(n:Nat)(go0:ay->Option ap)(v0:Lv)(v1 v2 v3 v4 v5 v6 v7 v8:Int)(v9:List UInt8)(v10:Lv)(v18:Int):Option ap:=
 (bif v18<(v10.length:Int) then bif 0<=v18 then(bif (v0.length:Int)<=(cI v10 v18 0) then some (6,v18)else bif 0<=(cI v10 v18 0) then bif (cI v10 v18 0)<(v0.length:Int) then(dW n 2).bind fun y19=>
 bif (((au y19.1).length:Int)*1)<=140737488355328 then(af (fun go1 s=>dZ n go0 go1 v0 v10 v18 s.1 s.2) n ((1,(au y19.1)):cH))else none else none else none)else none else(bif (v0.length:Int)<=v1 then some (6,(-1))else bif v1<(v0.length:Int) then(dW n 1).bind fun y19=>
 bif (((au y19.1).length:Int)*1)<=140737488355328 then(af (fun go0 s=>d8 n go0 v0 v1 v2 v3 v4 v5 v6 v7 v8 v9 s.1 s.2) n ((1,(au y19.1)):cH))else none else none))
abbrev Fs:= @dY
def sX(n:Nat)(go0:ay->Option ap)(v0:Lv)(v1 v2 v3 v4 v5 v6 v7 v8:Int)(v9:List UInt8)(v10:Lv):Option ap:=
 (bif 0<(v10.length:Int) then bif(-9223372036854775808<=((v10.length:Int)-1))&&(((v10.length:Int)-1)<=9223372036854775807)then bif 0<=((v10.length:Int)-1) then bif ((v10.length:Int)-1)<(v10.length:Int) then(bif (cI v10 ((v10.length:Int)-1) 2)<=v3 then(bif v4<=(cI v10 ((v10.length:Int)-1) 3) then(bif (cI v10 ((v10.length:Int)-1) 4)<=v7 then(bif !(v8<=(cI v10 ((v10.length:Int)-1) 5))then some (5,(-1))else(af (fun go0 s=>dY n go0 v0 v1 v2 v3 v4 v5 v6 v7 v8 v9 v10 s) n (0:ay)))else some (5,(-1)))else some (5,(-1)))else some (5,(-1)))else none else none else none else(af (fun go0 s=>Fs n go0 v0 v1 v2 v3 v4 v5 v6 v7 v8 v9 v10 s) n (0:ay)))
def gn(n:Nat)(go0:ay->Option ap)(v0:Lv)(v1 v2 v3 v4 v5 v6 v7 v8:Int)(v9:List UInt8)(v10:Lv)(v17:Int):Option ap:=
 (bif v17<(v10.length:Int) then bif 0<=v17 then(bif 0<v17 then bif(-9223372036854775808<=(v17-1))&&((v17-1)<=9223372036854775807)then bif 0<=(v17-1) then bif (v17-1)<(v10.length:Int) then(bif (cI v10 (v17-1) 2)<=(cI v10 v17 2) then(bif (cI v10 v17 3)<=(cI v10 (v17-1) 3) then(bif (cI v10 (v17-1) 4)<=(cI v10 v17 4) then(bif !((cI v10 v17 5)<=(cI v10 (v17-1) 5))then some (5,v17)else bif(-9223372036854775808<=(v17+1))&&((v17+1)<=9223372036854775807)then go0 (v17+1)else none)else some (5,v17))else some (5,v17))else some (5,v17))else none else none else none else bif(-9223372036854775808<=(v17+1))&&((v17+1)<=9223372036854775807)then go0 (v17+1)else none)else none else sX n go0 v0 v1 v2 v3 v4 v5 v6 v7 v8 v9 v10)
def yl(n:Nat)(go0:ko->Option ap)(v0:Lv)(v1 v2 v3 v4 v5 v6 v7 v8:Int)(v9:List UInt8)(v10:Lv)(v15:Int):Option ap:=
 (bif !(v1=v15)then some (4,(-1))else(af (fun go0 s=>gn n go0 v0 v1 v2 v3 v4 v5 v6 v7 v8 v9 v10 s) n (0:ay)))
def iX(n:Nat)(go0:ko->Option ap)(v0:Lv)(v1 v2 v3 v4 v5 v6 v7 v8:Int)(v9:List UInt8)(v10:Lv)(v15 v16:Int):Option ap:=
 (bif v16<(v10.length:Int) then bif 0<=v16 then(bif !((cI v10 v16 0)=v15)then some (4,v16)else(bif v16<0 then(bif !(v1=v15)then some (4,v16)else bif(-9223372036854775808<=(v16+1))&&((v16+1)<=9223372036854775807)then go0 ((cI v10 v16 1),(v16+1))else none)else bif(-9223372036854775808<=(v16+1))&&((v16+1)<=9223372036854775807)then go0 ((cI v10 v16 1),(v16+1))else none))else none else yl n go0 v0 v1 v2 v3 v4 v5 v6 v7 v8 v9 v10 v15)
def yd(n:Nat)(go0:ay->Option ap)(v0:Lv)(v1 v2 v3 v4 v5 v6 v7 v8:Int)(v9:List UInt8)(v10:Lv)(v11:Int):Option ap:=
 (bif !(v11<=(v4-1))then some (3,(-1))else(af (fun go0 s=>iX n go0 v0 v1 v2 v3 v4 v5 v6 v7 v8 v9 v10 s.1 s.2) n ((v2,0):ko)))
def yr(n:Nat)(go0:ay->Option ap)(v0:Lv)(v1 v2 v3 v4 v5 v6 v7 v8:Int)(v9:List UInt8)(v10:Lv)(v11:Int):Option ap:=
 (bif v3<=v11 then yd n go0 v0 v1 v2 v3 v4 v5 v6 v7 v8 v9 v10 v11 else some (3,(-1)))
def yc(n:Nat)(go0:ay->Option ap)(v0:Lv)(v1 v2 v3 v4 v5 v6 v7 v8:Int)(v9:List UInt8)(v10:Lv)(v11 v12:Int):Option ap:=
 (bif !(v12<=(v8-1))then some (2,(-1))else bif(-9223372036854775808<=(v4-1))&&((v4-1)<=9223372036854775807)then yr n go0 v0 v1 v2 v3 v4 v5 v6 v7 v8 v9 v10 v11 else none)
def yk(n:Nat)(go0:ay->Option ap)(v0:Lv)(v1 v2 v3 v4 v5 v6 v7 v8:Int)(v9:List UInt8)(v10:Lv)(v11 v12:Int):Option ap:=
 (bif v7<=v12 then yc n go0 v0 v1 v2 v3 v4 v5 v6 v7 v8 v9 v10 v11 v12 else some (2,(-1)))
def gq(n:Nat)(go0:ay->Option ap)(v0:Lv)(v1 v2 v3 v4 v5 v6 v7 v8:Int)(v9:List UInt8)(v10:Lv)(v11 v12 v14:Int):Option ap:=
 (bif v14<(v10.length:Int) then bif 0<=v14 then(bif 0<=(cI v10 v14 0) then(bif (cI v10 v14 0)<=63 then(bif 0<=(cI v10 v14 1) then(bif (cI v10 v14 1)<=63 then(bif !((cI v10 v14 0)=(cI v10 v14 1))then(bif 0<=(cI v10 v14 2) then(bif (cI v10 v14 2)<(cI v10 v14 3) then(bif (cI v10 v14 3)<=100000000 then(bif 0<=(cI v10 v14 4) then(bif (cI v10 v14 4)<(cI v10 v14 5) then(bif !((cI v10 v14 5)<=10000001)then some (1,v14)else bif(-9223372036854775808<=(v14+1))&&((v14+1)<=9223372036854775807)then go0 (v14+1)else none)else some (1,v14))else some (1,v14))else some (1,v14))else some (1,v14))else some (1,v14))else some (1,v14))else some (1,v14))else some (1,v14))else some (1,v14))else some (1,v14))else none else bif(-9223372036854775808<=(v8-1))&&((v8-1)<=9223372036854775807)then yk n go0 v0 v1 v2 v3 v4 v5 v6 v7 v8 v9 v10 v11 v12 else none)
def x9(n:Nat)(go0:ay->Option ap)(v0:Lv)(v1 v2 v3 v4 v5 v6 v7 v8:Int)(v9:List UInt8)(v10:Lv)(v11 v12:Int):Option ap:=
 (bif 4<(v10.length:Int) then some (1,(-1))else(af (fun go0 s=>gq n go0 v0 v1 v2 v3 v4 v5 v6 v7 v8 v9 v10 v11 v12 s) n (0:ay)))
def yi(n:Nat)(go0:ay->Option ap)(v0:Lv)(v1 v2 v3 v4 v5 v6 v7 v8:Int)(v9:List UInt8)(v10:Lv)(v11 v12:Int):Option ap:=
 (bif !(v8<=10000001)then some (1,(-1))else x9 n go0 v0 v1 v2 v3 v4 v5 v6 v7 v8 v9 v10 v11 v12)
def x4(n:Nat)(go0:ay->Option ap)(v0:Lv)(v1 v2 v3 v4 v5 v6 v7 v8:Int)(v9:List UInt8)(v10:Lv)(v11 v12:Int):Option ap:=
 (bif v7<v8 then yi n go0 v0 v1 v2 v3 v4 v5 v6 v7 v8 v9 v10 v11 v12 else some (1,(-1)))
def yf(n:Nat)(go0:ay->Option ap)(v0:Lv)(v1 v2 v3 v4 v5 v6 v7 v8:Int)(v9:List UInt8)(v10:Lv)(v11 v12:Int):Option ap:=
 (bif 0<=v7 then x4 n go0 v0 v1 v2 v3 v4 v5 v6 v7 v8 v9 v10 v11 v12 else some (1,(-1)))
def yn(n:Nat)(go0:ay->Option ap)(v0:Lv)(v1 v2 v3 v4 v5 v6 v7 v8:Int)(v9:List UInt8)(v10:Lv)(v11 v12:Int):Option ap:=
 (bif v6<=1000000 then yf n go0 v0 v1 v2 v3 v4 v5 v6 v7 v8 v9 v10 v11 v12 else some (1,(-1)))
def yg(n:Nat)(go0:ay->Option ap)(v0:Lv)(v1 v2 v3 v4 v5 v6 v7 v8:Int)(v9:List UInt8)(v10:Lv)(v11 v12:Int):Option ap:=
 (bif 0<=v6 then yn n go0 v0 v1 v2 v3 v4 v5 v6 v7 v8 v9 v10 v11 v12 else some (1,(-1)))
def yp(n:Nat)(go0:ay->Option ap)(v0:Lv)(v1 v2 v3 v4 v5 v6 v7 v8:Int)(v9:List UInt8)(v10:Lv)(v11 v12:Int):Option ap:=
 (bif v5<=7 then yg n go0 v0 v1 v2 v3 v4 v5 v6 v7 v8 v9 v10 v11 v12 else some (1,(-1)))
def yt(n:Nat)(go0:ay->Option ap)(v0:Lv)(v1 v2 v3 v4 v5 v6 v7 v8:Int)(v9:List UInt8)(v10:Lv)(v11 v12:Int):Option ap:=
 (bif 0<=v5 then yp n go0 v0 v1 v2 v3 v4 v5 v6 v7 v8 v9 v10 v11 v12 else some (1,(-1)))
def Ae(n:Nat)(go0:ay->Option ap)(v0:Lv)(v1 v2 v3 v4 v5 v6 v7 v8:Int)(v9:List UInt8)(v10:Lv)(v11 v12:Int):Option ap:=
 (bif v4<=100000000 then yt n go0 v0 v1 v2 v3 v4 v5 v6 v7 v8 v9 v10 v11 v12 else some (1,(-1)))
def Az(n:Nat)(go0:ay->Option ap)(v0:Lv)(v1 v2 v3 v4 v5 v6 v7 v8:Int)(v9:List UInt8)(v10:Lv)(v11 v12:Int):Option ap:=
 (bif v3<v4 then Ae n go0 v0 v1 v2 v3 v4 v5 v6 v7 v8 v9 v10 v11 v12 else some (1,(-1)))
def Ab(n:Nat)(go0:ay->Option ap)(v0:Lv)(v1 v2 v3 v4 v5 v6 v7 v8:Int)(v9:List UInt8)(v10:Lv)(v11 v12:Int):Option ap:=
 (bif 0<=v3 then Az n go0 v0 v1 v2 v3 v4 v5 v6 v7 v8 v9 v10 v11 v12 else some (1,(-1)))
def AY(n:Nat)(go0:ay->Option ap)(v0:Lv)(v1 v2 v3 v4 v5 v6 v7 v8:Int)(v9:List UInt8)(v10:Lv)(v11 v12:Int):Option ap:=
 (bif v2<=63 then Ab n go0 v0 v1 v2 v3 v4 v5 v6 v7 v8 v9 v10 v11 v12 else some (1,(-1)))
def Aa(n:Nat)(go0:ay->Option ap)(v0:Lv)(v1 v2 v3 v4 v5 v6 v7 v8:Int)(v9:List UInt8)(v10:Lv)(v11 v12:Int):Option ap:=
 (bif 0<=v2 then AY n go0 v0 v1 v2 v3 v4 v5 v6 v7 v8 v9 v10 v11 v12 else some (1,(-1)))
def Bg(n:Nat)(go0:ay->Option ap)(v0:Lv)(v1 v2 v3 v4 v5 v6 v7 v8:Int)(v9:List UInt8)(v10:Lv)(v11 v12:Int):Option ap:=
 (bif v1<=63 then Aa n go0 v0 v1 v2 v3 v4 v5 v6 v7 v8 v9 v10 v11 v12 else some (1,(-1)))
def zZ(n:Nat)(go0:ay->Option ap)(v0:Lv)(v1 v2 v3 v4 v5 v6 v7 v8:Int)(v9:List UInt8)(v10:Lv)(v11 v12:Int):Option ap:=
 (bif 0<=v1 then Bg n go0 v0 v1 v2 v3 v4 v5 v6 v7 v8 v9 v10 v11 v12 else some (1,(-1)))
def jU(n:Nat)(go0:ay->Option ap)(v0:Lv)(v1 v2 v3 v4 v5 v6 v7 v8:Int)(v9:List UInt8)(v10:Lv)(v11 v12 v13:Int):Option ap:=
 (bif v13<(v0.length:Int) then bif 0<=v13 then(bif !(((cS v0 v13 0).length:Int)=32)then some (1,(-1))else bif(-9223372036854775808<=(v13+1))&&((v13+1)<=9223372036854775807)then go0 (v13+1)else none)else none else zZ n go0 v0 v1 v2 v3 v4 v5 v6 v7 v8 v9 v10 v11 v12)
def uH(n:Nat)(v0:Lv)(v1 v2 v3 v4 v5 v6 v7 v8:Int)(v9:List UInt8)(v10:Lv)(v11 v12:Int):Option ap:=
 (bif 64<(v0.length:Int) then some (1,(-1))else(af (fun go0 s=>jU n go0 v0 v1 v2 v3 v4 v5 v6 v7 v8 v9 v10 v11 v12 s) n (0:ay)))
def yD(n:Nat)(v0:Lv)(v1 v2 v3 v4 v5 v6 v7 v8:Int)(v9:List UInt8)(v10:Lv)(v11 v12:Int):Option ap:=uH n v0 v1 v2 v3 v4 v5 v6 v7 v8 v9 v10 v11 v12
def wish_Why_t:FnT:=⟨[(false,[(.sl (.cons .str .nil))]),(true,[.int,.int,.int,.int,.int,.int,.int,.int,.str]),(false,[(.sl (.cons .int (.cons .int (.cons .int (.cons .int (.cons .int (.cons .int (.cons .str .nil))))))))]),(false,[.int]),(false,[.int])],(.tup (.cons .i (.cons .i .nil))),fun n (s:Lv×Int×Int×Int×Int×Int×Int×Int×Int×List UInt8×Lv×Int×Int)=>yD n s.1 s.2.1 s.2.2.1 s.2.2.2.1 s.2.2.2.2.1 s.2.2.2.2.2.1 s.2.2.2.2.2.2.1 s.2.2.2.2.2.2.2.1 s.2.2.2.2.2.2.2.2.1 s.2.2.2.2.2.2.2.2.2.1 s.2.2.2.2.2.2.2.2.2.2.1 s.2.2.2.2.2.2.2.2.2.2.2.1 s.2.2.2.2.2.2.2.2.2.2.2.2⟩
theorem FI:wish_Why_t.ok Tryz.prog 25:=FnT.ok_of (cfg:=⟨[((104,1,0),.peel),((94,2,4),.inv [(.tmp 8 .int)]),((97,2,8),.inv [(.tmp 8 .int)]),((100,2,12),.inv [(.tmp 4 .int),(.tmp 10 .int)]),((54,2,15),.inv [(.tmp 10 .int)]),((25,20,19),.inv [(.tmp 101 .int)]),((25,20,16),.inv [(.tmp 101 .int)])],dg,[],az⟩) aT mP bI (fun s fn hf=>by rw[Tryz.func25]at hf;cases hf;kernel_rfl) (fun n s=>by kernel_rfl)
def wish_Why_T:Tab:=(25,wish_Why_t)::ref15_BentWish_T
theorem vk:wish_Why_T.ok Tryz.prog:=Tab.ok_cons FI mP
abbrev vV:=Bool
def ry(n:Nat)(v0:Lv)(v1 v2 v3 v4 v5 v6 v7 v8:Int)(v9:List UInt8)(v10:Lv)(v11 v12:Int):Option vV:=
 (yD n v0 v1 v2 v3 v4 v5 v6 v7 v8 v9 v10 v11 v12).bind fun y13=>
 some (decide (y13.1=0))
def mw(n:Nat)(v0:Lv)(v1 v2 v3 v4 v5 v6 v7 v8:Int)(v9:List UInt8)(v10:Lv)(v11 v12:Int):Option vV:=ry n v0 v1 v2 v3 v4 v5 v6 v7 v8 v9 v10 v11 v12
def wish_Valid_t:FnT:=⟨[(false,[(.sl (.cons .str .nil))]),(true,[.int,.int,.int,.int,.int,.int,.int,.int,.str]),(false,[(.sl (.cons .int (.cons .int (.cons .int (.cons .int (.cons .int (.cons .int (.cons .str .nil))))))))]),(false,[.int]),(false,[.int])],.b,fun n (s:Lv×Int×Int×Int×Int×Int×Int×Int×Int×List UInt8×Lv×Int×Int)=>mw n s.1 s.2.1 s.2.2.1 s.2.2.2.1 s.2.2.2.2.1 s.2.2.2.2.2.1 s.2.2.2.2.2.2.1 s.2.2.2.2.2.2.2.1 s.2.2.2.2.2.2.2.2.1 s.2.2.2.2.2.2.2.2.2.1 s.2.2.2.2.2.2.2.2.2.2.1 s.2.2.2.2.2.2.2.2.2.2.2.1 s.2.2.2.2.2.2.2.2.2.2.2.2⟩
theorem Dg:wish_Valid_t.ok Tryz.prog 9:=FnT.ok_of (cfg:=⟨[],dg,[],az⟩) aT vk bI (fun s fn hf=>by rw[Tryz.func9]at hf;cases hf;kernel_rfl) (fun n s=>by kernel_rfl)
def wish_Valid_T:Tab:=(9,wish_Valid_t)::wish_Why_T
theorem r9:wish_Valid_T.ok Tryz.prog:=Tab.ok_cons Dg vk
end
open Go.Dial.Wire
noncomputable section
theorem bnt{α:Type}{x y:α}:(bif !true then x else y)=y:=rfl
theorem bnf{α:Type}{x y:α}:(bif !false then x else y)=x:=rfl
theorem bt{α:Type}{x y:α}:(bif true then x else y)=x:=rfl
theorem bf{α:Type}{x y:α}:(bif false then x else y)=y:=rfl
theorem uA(s t:List UInt8):au (s++t)=au s++au t:=by simp[au]
theorem cX(s:List UInt8):(au s).length=s.length:=by simp[au]
theorem nj(s:List UInt8):bytesOf (au s)=s:=mf s
theorem sw(x:Int)(l:List Int):aX (x::l)=enc x++aX l:=rfl
theorem Ib(C:List Int)(i:Nat)(h:i<C.length):aX (C.drop i)=enc (C.getD i 0)++aX (C.drop (i+1)):=by
 have:C.drop i=C.getD i 0::C.drop (i+1):=by
  rw[NG h];simp[Ns,Na h]
 rw[this];rfl
theorem H2{α:Type}{step:(Int×Lv->Option α)->Int×Lv->Option α}(C:List Int)
  (h1:∀go acc (i:Nat),i<C.length->acc.length<=9*i->step go ((i:Int),au acc)=go (((i+1:Nat):Int),au (acc++enc (C.getD i 0)))):
  ∀(f i m:Nat) (acc:List UInt8),i+f=C.length->f<m->acc.length<=9*i->∃m',af step m ((i:Int),au acc)=step (af step m') ((C.length:Int),au (acc++aX (C.drop i))):=by
 intro f;induction f with
 |zero=>
  intro i m acc hi hm ha;obtain⟨m,rfl⟩:∃k,m=k+1:=⟨m-1,by omega⟩
  obtain rfl:i=C.length:=by omega
  exact⟨m,by rw[ae,N1];simp[aX]⟩
 |succ f ih=>
  intro i m acc hi hm ha;obtain⟨m,rfl⟩:∃k,m=k+1:=⟨m-1,by omega⟩
  have he:=cn (C.getD i 0);obtain⟨m',e⟩:=ih (i+1) m (acc++enc (C.getD i 0)) (by omega) (by omega) (by rw[Nd];omega)
  exact⟨m',by rw[ae,h1 _ _ _ (by omega) ha,e,Ib C i (by omega),NF]⟩
def Gd(cd:Prop)(x:Option (Int×Int)):Prop:=∃r,x=some r/\(cd->r.1=0)
theorem Gd.b{cd p:Prop}[Decidable p]{x:Option (Int×Int)}{k m:Int}(h1:cd->p)(h2:p->Gd cd x):Gd cd (bif decide p then x else some (k,m)):=by
 by_cases h:p
 ·rw[dT h];exact h2 h
 ·rw[dF h];exact⟨_,rfl,fun g=>absurd (h1 g) h⟩
theorem Gd.n{cd p:Prop}[Decidable p]{x:Option (Int×Int)}{k m:Int}(h1:cd->p)(h2:p->Gd cd x):Gd cd (bif !decide p then some (k,m)else x):=by
 by_cases h:p
 ·rw[nT h];exact h2 h
 ·rw[nF h];exact⟨_,rfl,fun g=>absurd (h1 g) h⟩
theorem Gd.c{cd p:Prop}[Decidable p]{x:Option (Int×Int)}{k m:Int}(h1:cd->¬p)(h2:¬p->Gd cd x):Gd cd (bif decide p then some (k,m)else x):=by
 by_cases h:p
 ·rw[dT h];exact⟨_,rfl,fun g=>absurd h (h1 g)⟩
 ·rw[dF h];exact h2 h
theorem Gd.loop{cd:Prop}{step:(Int->Option (Int×Int))->Int->Option (Int×Int)}(N:Nat)
  (h1:∀go (i:Nat),i<N->Gd cd (go ((i+1:Nat):Int))->Gd cd (step go (i:Int))) (h2:∀go,Gd cd (step go (N:Int))):
  ∀(f i m:Nat),i+f=N->f<m->Gd cd (af step m (i:Int)):=by
 intro f;induction f with
 |zero=>
  intro i m hi hm;obtain⟨m,rfl⟩:∃k,m=k+1:=⟨m-1,by omega⟩
  obtain rfl:i=N:=by omega
  rw[ae];exact h2 _
 |succ f ih=>
  intro i m hi hm;obtain⟨m,rfl⟩:∃k,m=k+1:=⟨m-1,by omega⟩
  rw[ae];exact h1 _ _ (by omega) (ih (i+1) m (by omega) (by omega))
theorem gV:keysL.length=10:=rfl
structure aB (L:List Px) (v1 v2 v3 v4 v5 v6 v7 v8:Int) (v9:List UInt8) (num t:Int):Prop where
 h1:0<=v1/\v1<10
 h2:0<=v2/\v2<=63
 h3:0<=v3/\v3<v4/\v4<=100000000
 h5:0<=v5/\v5<=7
 h6:0<=v6/\v6<=1000000
 h7:0<=v7/\v7<v8/\v8<=10000001
 ht:v7<=t/\t<=v8-1
 hn:v3<=num/\num<=v4-1
 hl:(∀i,i<L.length->(ax L i).f=rC v2 L i)/\v1=rC v2 L L.length
 hx:∀i,i+1<L.length->(ax L (i+1)).inn (ax L i)
 hy:∀k,L.length=k+1->(ax L k).a<=v3/\v4<=(ax L k).b/\(ax L k).c<=v7/\v8<=(ax L k).d
 hs:v9=db (fk v1) (aX [1,v1,v2,v3,v4,v5,v6,v7,v8])
structure Frm (v1 v2 v3 v4 v5 v6 v7 v8:Int):Prop where
 h1:0<=v1/\v1<=63
 h2:0<=v2/\v2<=63
 h3:0<=v3/\v3<v4/\v4<=100000000
 h5:0<=v5/\v5<=7
 h6:0<=v6/\v6<=1000000
 h7:0<=v7/\v7<v8/\v8<=10000001
section
variable (n:Nat) (L:List Px) (v1 v2 v3 v4 v5 v6 v7 v8:Int) (v9:List UInt8) (num t:Int)
theorem J1(hn:1000<=n)(F:Frm v1 v2 v3 v4 v5 v6 v7 v8)(go0:Int->Option (Int×Int))(hL:L.length<=4):
  Gd (aB L v1 v2 v3 v4 v5 v6 v7 v8 v9 num t) (dY n go0 keysL v1 v2 v3 v4 v5 v6 v7 v8 v9 (aN L) (L.length:Int)):=by
 obtain⟨f1,f2,f3,f5,f6,f7⟩:=F;unfold dY;rw[dF (by rw[dx];omega)]
 refine Gd.c (fun g=>?_) (fun h=>?_)
 ·have:=g.h1;rw[gV];omega
 rw[gV]at h;rw[dT (by rw[gV];omega),eG n 1 (by omega) (by omega) (by omega)]
 rw[bS];have he1:=cn 1;have hl:=jy [1,v1,v2,v3,v4,v5,v6,v7,v8];have hl:(aX [1,v1,v2,v3,v4,v5,v6,v7,v8]).length<=81:=hl
 rw[dT (by rw[cX];show((enc 1).length:Int)*1<=_;omega)]
 have hok:Ok62 [1,v1,v2,v3,v4,v5,v6,v7,v8]:=by repeat (first|exact nc|refine lz (by omega) ?_)
 obtain⟨m',e⟩:=H2 (step:=fun go0 (s:cH)=>d8 n go0 keysL v1 v2 v3 v4 v5 v6 v7 v8 v9 s.1 s.2) [1,v1,v2,v3,v4,v5,v6,v7,v8] (fun go acc i hi ha=>by
  have hi:i<9:=hi
  show d8 n go keysL v1 v2 v3 v4 v5 v6 v7 v8 v9 (i:Int) (au acc)=_
  unfold d8;have e:cI (((((((((([]:Lv)++[[(AV.int 1)]])++[[(AV.int v1)]])++[[(AV.int v2)]])++[[(AV.int v3)]])++[[(AV.int v4)]])++[[(AV.int v5)]])++[[(AV.int v6)]])++[[(AV.int v7)]])++[[(AV.int v8)]]) (i:Int) 0=[1,v1,v2,v3,v4,v5,v6,v7,v8].getD i 0:=nV [1,v1,v2,v3,v4,v5,v6,v7,v8] i
  obtain⟨b1,b2⟩:=hok.at i;have he:=cn ([1,v1,v2,v3,v4,v5,v6,v7,v8].getD i 0);rw[dT (by omega),dT (by omega),e,eG n _ (by omega) b1 b2]
  rw[bS];dsimp only;rw[dT (by rw[Nd,cX,cX];omega),inn (by omega) (by omega),uA]
  rfl) 8 1 n (enc 1) rfl (by omega) (by omega)
 have e':af (fun go0 (s:cH)=>d8 n go0 keysL v1 v2 v3 v4 v5 v6 v7 v8 v9 s.1 s.2) n (1,au (enc 1))=d8 n (af (fun go0 (s:cH)=>d8 n go0 keysL v1 v2 v3 v4 v5 v6 v7 v8 v9 s.1 s.2) m') keysL v1 v2 v3 v4 v5 v6 v7 v8 v9 (9:Int) (au (aX [1,v1,v2,v3,v4,v5,v6,v7,v8])):=e
 show Gd _ (af (fun go0 (s:cH)=>d8 n go0 keysL v1 v2 v3 v4 v5 v6 v7 v8 v9 s.1 s.2) n (1,au (enc 1)))
 rw[e'];unfold d8;have hp:0<(aX [1,v1,v2,v3,v4,v5,v6,v7,v8]).length:=by
  rw[sw,Nd];have:0<(enc 1).length:=by decide
  omega
 rw[dF (by omega),dT (by rw[cX];omega),nj,kH n _ (by omega) (by omega)]
 rw[bS];rw[yC v1 (by omega) (by omega),oY n _ _ (by rw[kS,e8];omega) (by rw[kS,e8];omega)]
 rw[bS];by_cases hs:v9=db (fk v1) (aX [1,v1,v2,v3,v4,v5,v6,v7,v8])
 ·rw[show(v9==uf (fk v1) (kM (aX [1,v1,v2,v3,v4,v5,v6,v7,v8])))=true from beq_iff_eq.2 hs]
  exact⟨_,rfl,fun _=>rfl⟩
 ·rw[show(v9==uf (fk v1) (kM (aX [1,v1,v2,v3,v4,v5,v6,v7,v8])))=false from beq_eq_false_iff_ne.2 hs]
  exact⟨_,rfl,fun g=>absurd g.hs hs⟩
theorem J8(hn:1000<=n)(go0:Int->Option (Int×Int))(hL:L.length<=4)(i:Nat)(hi:i<L.length)(hp:(ax L i).ok):
  dY n go0 keysL v1 v2 v3 v4 v5 v6 v7 v8 v9 (aN L) (i:Int)=go0 ((i+1:Nat):Int):=by
 obtain⟨f1,f2,f3,f4,f5⟩:=hp;unfold dY;rw[dT (by rw[dx];omega),dT (by omega),cP0 hi,dF (by rw[gV];omega),dT (by omega),dT (by rw[gV];omega),eG n 2 (by omega) (by omega) (by omega)]
 rw[bS];have he1:=cn 2;have hl:=jy [2,(ax L i).f,(ax L i).t,(ax L i).a,(ax L i).b,(ax L i).c,(ax L i).d];have hl:(aX [2,(ax L i).f,(ax L i).t,(ax L i).a,(ax L i).b,(ax L i).c,(ax L i).d]).length<=63:=hl
 rw[dT (by rw[cX];show((enc 2).length:Int)*1<=_;omega)]
 have hok:Ok62 [2,(ax L i).f,(ax L i).t,(ax L i).a,(ax L i).b,(ax L i).c,(ax L i).d]:=by repeat (first|exact nc|refine lz (by omega) ?_)
 obtain⟨m',e⟩:=H2 (step:=fun go1 (s:cH)=>dZ n go0 go1 keysL (aN L) (i:Int) s.1 s.2) [2,(ax L i).f,(ax L i).t,(ax L i).a,(ax L i).b,(ax L i).c,(ax L i).d] (fun go acc j hj ha=>by
  have hj:j<7:=hj
  show dZ n go0 go keysL (aN L) (i:Int) (j:Int) (au acc)=_
  unfold dZ;rw[cP0 hi,cP1 hi,cP2 hi,cP3 hi,cP4 hi,cP5 hi,cP6 hi];have e:cI (((((((([]:Lv)++[[(AV.int 2)]])++[[(AV.int (ax L i).f)]])++[[(AV.int (ax L i).t)]])++[[(AV.int (ax L i).a)]])++[[(AV.int (ax L i).b)]])++[[(AV.int (ax L i).c)]])++[[(AV.int (ax L i).d)]]) (j:Int) 0=[2,(ax L i).f,(ax L i).t,(ax L i).a,(ax L i).b,(ax L i).c,(ax L i).d].getD j 0:=nV [2,(ax L i).f,(ax L i).t,(ax L i).a,(ax L i).b,(ax L i).c,(ax L i).d] j
  obtain⟨b1,b2⟩:=hok.at j;have he:=cn ([2,(ax L i).f,(ax L i).t,(ax L i).a,(ax L i).b,(ax L i).c,(ax L i).d].getD j 0);rw[dT (by omega),dT (by omega),e,eG n _ (by omega) b1 b2]
  rw[bS];dsimp only;rw[dT (by rw[Nd,cX,cX];omega),inn (by omega) (by omega),uA]
  rfl) 6 1 n (enc 2) rfl (by omega) (by omega)
 have e':af (fun go1 (s:cH)=>dZ n go0 go1 keysL (aN L) (i:Int) s.1 s.2) n (1,au (enc 2))=dZ n go0 (af (fun go1 (s:cH)=>dZ n go0 go1 keysL (aN L) (i:Int) s.1 s.2) m') keysL (aN L) (i:Int) (7:Int) (au (aX [2,(ax L i).f,(ax L i).t,(ax L i).a,(ax L i).b,(ax L i).c,(ax L i).d])):=e
 show af (fun go1 (s:cH)=>dZ n go0 go1 keysL (aN L) (i:Int) s.1 s.2) n (1,au (enc 2))=_
 rw[e'];unfold dZ;have hp:0<(aX [2,(ax L i).f,(ax L i).t,(ax L i).a,(ax L i).b,(ax L i).c,(ax L i).d]).length:=by
  rw[sw,Nd];have:0<(enc 2).length:=by decide
  omega
 rw[dF (by omega),dT (by rw[cX];omega),nj,kH n _ (by omega) (by omega)]
 rw[bS];rw[cP0 hi,cP6 hi,yC _ (by omega) (by omega),oY n _ _ (by rw[kS,e8];omega) (by rw[kS,e8];omega)]
 rw[bS];rw[show(db (fk (ax L i).f) (aX [2,(ax L i).f,(ax L i).t,(ax L i).a,(ax L i).b,(ax L i).c,(ax L i).d])==uf (fk (ax L i).f) (kM (aX [2,(ax L i).f,(ax L i).t,(ax L i).a,(ax L i).b,(ax L i).c,(ax L i).d])))=true from beq_iff_eq.2 rfl]
 rw[bnt,inn (by omega) (by omega)]
 rfl
theorem IU(hn:1000<=n)(F:Frm v1 v2 v3 v4 v5 v6 v7 v8)(hL:L.length<=4)(hp:∀i,i<L.length->(ax L i).ok):
  Gd (aB L v1 v2 v3 v4 v5 v6 v7 v8 v9 num t) (af (fun go0 (s:ay)=>dY n go0 keysL v1 v2 v3 v4 v5 v6 v7 v8 v9 (aN L) s) n (0:ay)):=
 Gd.loop (step:=fun go0 (s:ay)=>dY n go0 keysL v1 v2 v3 v4 v5 v6 v7 v8 v9 (aN L) s) L.length
  (fun go i hi h=>by
   show Gd _ (dY n go keysL v1 v2 v3 v4 v5 v6 v7 v8 v9 (aN L) (i:Int))
   rw[J8 n L v1 v2 v3 v4 v5 v6 v7 v8 v9 hn go hL i hi (hp i hi)];exact h)
  (fun go=>J1 n L v1 v2 v3 v4 v5 v6 v7 v8 v9 num t hn F go hL) L.length 0 n (by omega) (by omega)
theorem Mo(hn:1000<=n)(F:Frm v1 v2 v3 v4 v5 v6 v7 v8)(hL:L.length<=4)(hp:∀i,i<L.length->(ax L i).ok)(go0:Int->Option (Int×Int)):
  Gd (aB L v1 v2 v3 v4 v5 v6 v7 v8 v9 num t) (sX n go0 keysL v1 v2 v3 v4 v5 v6 v7 v8 v9 (aN L)):=by
 have h:=IU n L v1 v2 v3 v4 v5 v6 v7 v8 v9 num t hn F hL hp;unfold sX;rw[dx];by_cases h0:L.length=0
 ·rw[dF (by omega)];exact h
 ·obtain⟨k,hk⟩:∃k,L.length=k+1:=⟨L.length-1,by omega⟩
  have hk':((L.length:Int)-1)=(k:Int):=by omega
  rw[dT (by omega),inn (by omega) (by omega),dT (by omega),dT (by omega),hk',cP2 (by omega),cP3 (by omega),cP4 (by omega),cP5 (by omega)]
  refine Gd.b (fun g=>(g.hy k hk).1) fun _=>Gd.b (fun g=>(g.hy k hk).2.1) fun _=>Gd.b (fun g=>(g.hy k hk).2.2.1) fun _=>Gd.n (fun g=>(g.hy k hk).2.2.2) fun _=>h
theorem Md(hn:1000<=n)(F:Frm v1 v2 v3 v4 v5 v6 v7 v8)(hL:L.length<=4)(hp:∀i,i<L.length->(ax L i).ok):
  Gd (aB L v1 v2 v3 v4 v5 v6 v7 v8 v9 num t) (af (fun go0 (s:ay)=>gn n go0 keysL v1 v2 v3 v4 v5 v6 v7 v8 v9 (aN L) s) n (0:ay)):=
 Gd.loop (step:=fun go0 (s:ay)=>gn n go0 keysL v1 v2 v3 v4 v5 v6 v7 v8 v9 (aN L) s) L.length
  (fun go i hi h=>by
   show Gd _ (gn n go keysL v1 v2 v3 v4 v5 v6 v7 v8 v9 (aN L) (i:Int))
   unfold gn;rw[dT (by rw[dx];omega),dT (by omega)]
   rcases i with _|j
   ·rw[dF (by omega),inn (by omega) (by omega)];exact h
   ·rw[dT (by omega),inn (by omega) (by omega),dT (by omega),dT (by rw[dx];omega)]
    have e:(((j+1:Nat):Int)-1)=(j:Int):=by omega
    rw[e,cP2 hi,cP3 hi,cP4 hi,cP5 hi,cP2 (by omega),cP3 (by omega),cP4 (by omega),cP5 (by omega),inn (by omega) (by omega)]
    refine Gd.b (fun g=>(g.hx j hi).1) fun _=>Gd.b (fun g=>(g.hx j hi).2.1) fun _=>Gd.b (fun g=>(g.hx j hi).2.2.1) fun _=>Gd.n (fun g=>(g.hx j hi).2.2.2) fun _=>h)
  (fun go=>by
   show Gd _ (gn n go keysL v1 v2 v3 v4 v5 v6 v7 v8 v9 (aN L) (L.length:Int))
   unfold gn;rw[dF (by rw[dx];omega)]
   exact Mo n L v1 v2 v3 v4 v5 v6 v7 v8 v9 num t hn F hL hp go) L.length 0 n (by omega) (by omega)
theorem Mm(hn:1000<=n)(F:Frm v1 v2 v3 v4 v5 v6 v7 v8)(hL:L.length<=4)(hp:∀i,i<L.length->(ax L i).ok):
  ∀(f i m:Nat),i+f=L.length->f<m->Gd (aB L v1 v2 v3 v4 v5 v6 v7 v8 v9 num t) (af (fun go0 (s:ko)=>iX n go0 keysL v1 v2 v3 v4 v5 v6 v7 v8 v9 (aN L) s.1 s.2) m ((rC v2 L i,(i:Int)):ko)):=by
 intro f;induction f with
 |zero=>
  intro i m hi hm;obtain⟨m,rfl⟩:∃k,m=k+1:=⟨m-1,by omega⟩
  obtain rfl:i=L.length:=by omega
  rw[ae];show Gd _ (iX n _ keysL v1 v2 v3 v4 v5 v6 v7 v8 v9 (aN L) (rC v2 L L.length) (L.length:Int))
  unfold iX;rw[dF (by rw[dx];omega)]
  unfold yl;exact Gd.n (fun g=>g.hl.2) fun _=>Md n L v1 v2 v3 v4 v5 v6 v7 v8 v9 num t hn F hL hp
 |succ f ih=>
  intro i m hi hm;obtain⟨m,rfl⟩:∃k,m=k+1:=⟨m-1,by omega⟩
  have hi':i<L.length:=by omega
  rw[ae];show Gd _ (iX n _ keysL v1 v2 v3 v4 v5 v6 v7 v8 v9 (aN L) (rC v2 L i) (i:Int))
  unfold iX;rw[dT (by rw[dx];omega),dT (by omega),dF (by omega),inn (by omega) (by omega),cP0 hi',cP1 hi']
  exact Gd.n (fun g=>g.hl.1 i hi') fun _=>ih (i+1) m (by omega) (by omega)
theorem LO(hn:1000<=n)(F:Frm v1 v2 v3 v4 v5 v6 v7 v8)(hL:L.length<=4)(hp:∀i,i<L.length->(ax L i).ok):
  Gd (aB L v1 v2 v3 v4 v5 v6 v7 v8 v9 num t) (af (fun go0 (s:ay)=>gq n go0 keysL v1 v2 v3 v4 v5 v6 v7 v8 v9 (aN L) num t s) n (0:ay)):=by
 have F':=F;obtain⟨f1,f2,f3,f5,f6,f7⟩:=F;exact Gd.loop (step:=fun go0 (s:ay)=>gq n go0 keysL v1 v2 v3 v4 v5 v6 v7 v8 v9 (aN L) num t s) L.length
  (fun go i hi h=>by
   obtain⟨p1,p2,p3,p4,p5⟩:=hp i hi;show Gd _ (gq n go keysL v1 v2 v3 v4 v5 v6 v7 v8 v9 (aN L) num t (i:Int))
   unfold gq;rw[dT (by rw[dx];omega),dT (by omega),cP0 hi,cP1 hi,cP2 hi,cP3 hi,cP4 hi,cP5 hi,dT (by omega),dT (by omega),dT (by omega),dT (by omega),nF (by omega),dT (by omega),dT (by omega),dT (by omega),dT (by omega),dT (by omega),nT (by omega),inn (by omega) (by omega)]
   exact h)
  (fun go=>by
   show Gd _ (gq n go keysL v1 v2 v3 v4 v5 v6 v7 v8 v9 (aN L) num t (L.length:Int))
   unfold gq;rw[dF (by rw[dx];omega),inn (by omega) (by omega)]
   unfold yk;refine Gd.b (fun g=>g.ht.1) fun _=>?_
   unfold yc;refine Gd.n (fun g=>g.ht.2) fun _=>?_
   rw[inn (by omega) (by omega)]
   unfold yr;refine Gd.b (fun g=>g.hn.1) fun _=>?_
   unfold yd;exact Gd.n (fun g=>g.hn.2) fun _=>Mm n L v1 v2 v3 v4 v5 v6 v7 v8 v9 num t hn F' hL hp L.length 0 n (by omega) (by omega)) L.length 0 n (by omega) (by omega)
theorem He(hn:1000<=n)(hL:L.length<=4)(hp:∀i,i<L.length->(ax L i).ok):
  Gd (aB L v1 v2 v3 v4 v5 v6 v7 v8 v9 num t) (yD n keysL v1 v2 v3 v4 v5 v6 v7 v8 v9 (aN L) num t):=by
 show Gd _ (uH n keysL v1 v2 v3 v4 v5 v6 v7 v8 v9 (aN L) num t)
 unfold uH;rw[dF (by rw[gV];omega)]
 refine Gd.loop (step:=fun go0 (s:ay)=>jU n go0 keysL v1 v2 v3 v4 v5 v6 v7 v8 v9 (aN L) num t s) 10 (fun go i hi h=>?_) (fun go=>?_) 10 0 n rfl (by omega)
 ·show Gd _ (jU n go keysL v1 v2 v3 v4 v5 v6 v7 v8 v9 (aN L) num t (i:Int))
  unfold jU;rw[dT (by rw[gV];omega),dT (by omega),yC (i:Int) (by omega) (by omega),nT (by rw[kS];rfl),inn (by omega) (by omega)]
  exact h
 ·show Gd _ (jU n go keysL v1 v2 v3 v4 v5 v6 v7 v8 v9 (aN L) num t (10:Int))
  unfold jU;rw[dF (by rw[gV];omega)]
  unfold zZ;refine Gd.b (fun g=>g.h1.1) fun a1=>?_
  unfold Bg;refine Gd.b (fun g=>by have:=g.h1;omega) fun a2=>?_
  unfold Aa;refine Gd.b (fun g=>g.h2.1) fun a3=>?_
  unfold AY;refine Gd.b (fun g=>g.h2.2) fun a4=>?_
  unfold Ab;refine Gd.b (fun g=>g.h3.1) fun a5=>?_
  unfold Az;refine Gd.b (fun g=>g.h3.2.1) fun a6=>?_
  unfold Ae;refine Gd.b (fun g=>g.h3.2.2) fun a7=>?_
  unfold yt;refine Gd.b (fun g=>g.h5.1) fun a8=>?_
  unfold yp;refine Gd.b (fun g=>g.h5.2) fun a9=>?_
  unfold yg;refine Gd.b (fun g=>g.h6.1) fun b1=>?_
  unfold yn;refine Gd.b (fun g=>g.h6.2) fun b2=>?_
  unfold yf;refine Gd.b (fun g=>g.h7.1) fun b3=>?_
  unfold x4;refine Gd.b (fun g=>g.h7.2.1) fun b4=>?_
  unfold yi;refine Gd.n (fun g=>g.h7.2.2) fun b5=>?_
  unfold x9;rw[dF (by rw[dx];omega)]
  exact LO n L v1 v2 v3 v4 v5 v6 v7 v8 v9 num t hn ⟨⟨a1,a2⟩,⟨a3,a4⟩,⟨a5,a6,a7⟩,⟨a8,a9⟩,⟨b1,b2⟩,⟨b3,b4,b5⟩⟩ hL hp
theorem EU(hn:1000<=n)(hL:L.length<=4)(hp:∀i,i<L.length->(ax L i).ok):
  ∃b,mw n keysL v1 v2 v3 v4 v5 v6 v7 v8 v9 (aN L) num t=some b/\(aB L v1 v2 v3 v4 v5 v6 v7 v8 v9 num t->b=true):=by
 obtain⟨r,e,h⟩:=He n L v1 v2 v3 v4 v5 v6 v7 v8 v9 num t hn hL hp;refine⟨decide (r.1=0),?_,fun g=>decide_eq_true (h g)⟩
 show ry n keysL v1 v2 v3 v4 v5 v6 v7 v8 v9 (aN L) num t=_
 unfold ry;rw[e];rfl
end
end
end Go.Proofs.YtkgphkdlbjinmaaGreatDoor
