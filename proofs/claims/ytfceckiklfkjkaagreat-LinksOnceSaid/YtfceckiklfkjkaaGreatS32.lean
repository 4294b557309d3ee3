import Derived.Test.YtfceckiklfkjkaaGreatS31
import Derived.Test.YtfceckiklfkjkaaGreatS12
import Derived.Test.YtfceckiklfkjkaaGreatS29
noncomputable section
set_option maxRecDepth 100000
open Go.IntKind(i64 u8 u64 u32 u16)
open Go.Proofs.Tryz
namespace Go.Sx
open Go.RowKit
variable{P:Program}
def CH:Option (List Prop)->Option (List Prop)->Option (List Prop)
 |some a,some b=>some (a++b)
 |_,_=>none
def Kc:Cell->Cell->Option (List Prop)
 | .int k x,.int k' y=>if k=k' then some [x=y]else none
 | .bool x,.bool y=>some [x=y]
 | .ptr a o,.ptr b o'=>if a=b/\o=o' then some []else none
 | .aC a z p l,.aC b z' p' l'=>if a=b/\z=z'/\p=p' then some [l=l']else none
 | .sl a z p l,.sl b z' p' l'=>if a=b then some [z=z',p=p',l=l']else none
 | .bf,.bf=>some []
 | .ptr0,.ptr0=>some []
 | .map0,.map0=>some []
 | .map a,.map b=>if a=b then some []else none
 | .str s,.str t=>some [s=t]
 | .dI l,.dI l'=>some [l=l']
 | .fn f fs l,.fn g fs' l'=>if f=g/\fs=fs'/\l=l' then some []else none
 |_,_=>none
theorem D2{x y:Cell}{ps:List Prop}(h:Kc x y=some ps)(hp:aw ps):x=y:=by
 unfold Kc at h;split at h<;>try(cases h;done)
 ·split at h<;>try(cases h;done)
  rename_i e;cases h;rw[e,hp.1]
 ·cases h;rw[hp.1]
 ·split at h<;>try(cases h;done)
  rename_i e;rw[e.1,e.2]
 ·split at h<;>try(cases h;done)
  rename_i e;cases h;rw[e.1,e.2.1,e.2.2,hp.1]
 ·split at h<;>try(cases h;done)
  rename_i e;cases h;rw[e,hp.1,hp.2.1,hp.2.2.1]
 ·rfl
 ·rfl
 ·rfl
 ·split at h<;>try(cases h;done)
  rename_i e;rw[e]
 ·cases h;rw[hp.1]
 ·cases h;rw[hp.1]
 ·split at h<;>try(cases h;done)
  rename_i e;rw[e.1,e.2.1,e.2.2]
def Nu:List Cell->List Cell->Option (List Prop)
 | [],[]=>some []
 |x::l,y::m=>CH (Kc x y) (Nu l m)
 |_,_=>none
theorem tN{a b:Option (List Prop)}{ps:List Prop}(h:CH a b=some ps)(hp:aw ps): ∃p q,a=some p/\b=some q/\aw p/\aw q:=by
 unfold CH at h;split at h<;>try(cases h;done)
 cases h;exact⟨_,_,rfl,rfl,(bH _ _).1 hp⟩
theorem AM: ∀ {l m:List Cell} {ps:List Prop},Nu l m=some ps->aw ps->l=m
 | [],[],_,_,_=>rfl
 |x::l,y::m,_,h,hp=>by
  obtain⟨p,q,h1,h2,p1,p2⟩:=tN h hp;rw[D2 h1 p1,AM h2 p2]
 | [],_::_,_,h,_=>by cases h
 |_::_,[],_,h,_=>by cases h
def ZJ:AV->AV->Option (List Prop)
 | .c x,.c y=>Kc x y
 | .agg l,.agg m=>Nu l m
 | .ints k l n,.ints k' l' n'=>if k=k' then some [l=l',n=n']else none
 |_,_=>none
theorem acC{x y:AV}{ps:List Prop}(h:ZJ x y=some ps)(hp:aw ps):x=y:=by
 unfold ZJ at h;split at h<;>try(cases h;done)
 ·rw[D2 h hp]
 ·rw[AM h hp]
 ·split at h<;>try(cases h;done)
  rename_i e;cases h;rw[e,hp.1,hp.2.1]
def TS:List RV->List RV->Option (List Prop)
 | [],[]=>some []
 | .one x::l,.one y::m=>CH (ZJ x y) (TS l m)
 |_,_=>none
theorem I8: ∀ {l m:List RV} {ps:List Prop},TS l m=some ps->aw ps->l=m
 | [],[],_,_,_=>rfl
 | .one x::l,.one y::m,_,h,hp=>by
  obtain⟨p,q,h1,h2,p1,p2⟩:=tN h hp;rw[acC h1 p1,I8 h2 p2]
 | [],_::_,_,h,_=>by cases h
 | .one _::_,[],_,h,_=>by cases h
 | .aF _::_,_,_,h,_=>by cases h
 | .any::_,_,_,h,_=>by cases h
 | .one _::_,.aF _::_,_,h,_=>by cases h
 | .one _::_,.any::_,_,h,_=>by cases h
def sEB:ax->ax->Option (List Prop)
 | .row t ro o (.cells l),.row t' ro' o' (.cells l')=>if t=t'/\ro=ro'/\o=o' then Nu l l' else none
 | .row t ro o (.ints k l n),.row t' ro' o' (.ints k' l' n')=>if t=t'/\ro=ro'/\o=o'/\k=k' then some [l=l',n=n']else none
 | .row t ro o (.aT l n),.row t' ro' o' (.aT l' n')=>if t=t'/\ro=ro'/\o=o' then some [l=l',n=n']else none
 | .map [],.map []=>some []
 | .aQ vk l,.aQ vk' l'=>if vk=vk' then some [l=l']else none
 | .eE l,.eE l'=>some [l=l']
 | .di l,.di l'=>some [l=l']
 | .iter s p,.iter s' p'=>some [s=s',p=p']
 |_,_=>none
theorem aaA{x y:ax}{ps:List Prop}(h:sEB x y=some ps)(hp:aw ps):x=y:=by
 unfold sEB at h;split at h<;>try(cases h;done)
 ·split at h<;>try(cases h;done)
  rename_i e;rw[e.1,e.2.1,e.2.2,AM h hp]
 ·split at h<;>try(cases h;done)
  rename_i e;cases h;rw[e.1,e.2.1,e.2.2.1,e.2.2.2,hp.1,hp.2.1]
 ·split at h<;>try(cases h;done)
  rename_i e;cases h;rw[e.1,e.2.1,e.2.2,hp.1,hp.2.1]
 ·rfl
 ·split at h<;>try(cases h;done)
  rename_i e;cases h;rw[e,hp.1]
 ·cases h;rw[hp.1]
 ·cases h;rw[hp.1]
 ·cases h;rw[hp.1,hp.2.1]
def ye:List Cell->List Cell->Option (List Prop)
 | [],[]=>some []
 | .any::l,_::m=>ye l m
 |x::l,y::m=>CH (Kc x y) (ye l m)
 |_,_=>none
theorem Bb{ρ:aM}: ∀ {l m:List Cell} {ps:List Prop} {vs:List Value},ye l m=some ps->aw ps->bt ρ m vs->bt ρ l vs
 | [],[],_,_,_,_,h=>h
 |x::l,y::m,ps,vs,h,hp,⟨v,vs',h1,h2,h3⟩=>by
  by_cases e:x= .any
  ·subst e;exact⟨v,vs',CR.one h1,Bb (l:=l) (m:=m) (by simpa[ye]using h) hp h2,h3⟩
  ·have h':CH (Kc x y) (ye l m)=some ps:=by
    cases x<;>first|exact absurd rfl e|simpa[ye]using h
   obtain⟨p,q,g1,g2,p1,p2⟩:=tN h' hp;rw[D2 g1 p1];exact⟨v,vs',h1,Bb g2 p2 h2,h3⟩
 | [],_::_,_,_,h,_,_=>by cases h
 |x::_,[],_,_,h,_,_=>by cases x<;>cases h
def Kt:ax->ax->Option (List Prop)
 | .row t true o (.cells l),.row t' _ o' (.cells l')=>if t=t'/\o=o' then ye l l' else none
 | .row t true o (.ints k l n),.row t' _ o' (.ints k' l' n')=>if t=t'/\o=o'/\k=k' then some [l=l',n=n']else none
 | .row t true o (.aT l n),.row t' _ o' (.aT l' n')=>if t=t'/\o=o' then some [l=l',n=n']else none
 | .dK o k l,.dK o' k' l'=>if k=k' then some [o=o',l=l']else none
 |_,_=>none
theorem aah{k:Nat}{θ:Nat->Nat}{x y:ax}{ps:List Prop}(h:Kt (gu θ x) y=some ps)(hp:aw ps)(hi:yR k x=true):ft k θ x y:=by
 cases x with
 |row t ro o b=>
  cases b with
  |cells l=>
   simp only[gu]at h;unfold Kt at h;split at h<;>try(cases h;done)
   ·rename_i t1 o1 l1 t' ro' o' l' e;cases e;split at h<;>try(cases h;done)
    rename_i e;obtain⟨rfl,rfl⟩:=e;exact⟨rfl,fun ρ c ob ⟨vs,tail,fr,h1,h2,_,h4⟩=>⟨vs,tail,fr,h1,bt.small hi (Bb h hp h2),(fun h=>by cases h),h4⟩⟩
   ·rename_i e;cases e
   ·rename_i e;cases e
   ·rename_i e;cases e
  |ints kd l n=>
   simp only[gu]at h;unfold Kt at h;split at h<;>try(cases h;done)
   ·rename_i e;cases e
   ·rename_i t1 o1 k1 l1 n1 t' ro' o' k' l' n' e;cases e;split at h<;>try(cases h;done)
    rename_i e;cases h;obtain⟨rfl,rfl,rfl⟩:=e;obtain⟨rfl,rfl,_⟩:=hp;exact ft.ints
   ·rename_i e;cases e
   ·rename_i e;cases e
  |aT l n=>
   simp only[gu]at h;unfold Kt at h;split at h<;>try(cases h;done)
   ·rename_i e;cases e
   ·rename_i e;cases e
   ·rename_i t1 o1 l1 n1 t' ro' o' l' n' e;cases e;split at h<;>try(cases h;done)
    rename_i e;cases h;obtain⟨rfl,rfl⟩:=e;obtain⟨rfl,rfl,_⟩:=hp;exact ft.aT
   ·rename_i e;cases e
 |dK o k l=>
  simp only[gu]at h;unfold Kt at h;split at h<;>try(cases h;done)
  ·rename_i e;cases e
  ·rename_i e;cases e
  ·rename_i e;cases e
  ·rename_i o1 k1 l1 o' k' l' e;cases e;split at h<;>try(cases h;done)
   rename_i e;cases h;subst e;obtain⟨rfl,rfl,_⟩:=hp;exact⟨rfl,fun _ _ _ h=>h⟩
 |_=>cases h
structure GS where
 k:Nat
 th:List Nat
 args:List RV
 hs:T ax
 k':Nat
 hs':T ax
 v:RV
 ps:List Prop
def tu(th:List Nat)(k nx:Nat):Nat->Nat:=fun i=>if i<k then th.getD i 0 else nx+(i - k)
def BQ(θ:Nat->Nat)(k nx:Nat)(hs hp:T ax):Nat->Option (List Prop)
 | 0=>some []
 |i+1=>match hs.get i with
  |none=>BQ θ k nx hs hp i
  |some x=>match hp.get (θ i),Nat.blt (θ i) nx && yR k x with
   |some y,true=>(match x.wr with
    |true=>CH (sEB (gu θ x) y) (BQ θ k nx hs hp i)
    |false=>CH (Kt (gu θ x) y) (BQ θ k nx hs hp i))
   |_,_=>none
theorem wL{θ:Nat->Nat}{k nx:Nat}{hs hp:T ax}: ∀ {m:Nat} {ps:List Prop},BQ θ k nx hs hp m=some ps->aw ps->∀i x,i<m->hs.get i=some x->
  θ i<nx/\((x.wr=true/\yR k x=true/\hp.get (θ i)=some (gu θ x))\/(x.wr=false/\∃y,hp.get (θ i)=some y/\ft k θ x y))
 | 0,_,_,_,i,_,hi,_=>by omega
 |m+1,ps,h,bB,i,x,hi,hx=>by
  unfold BQ at h;split at h
  ·rename_i hn;by_cases e:i=m
   ·subst e;rw[hn]at hx;cases hx
   ·exact wL h bB i x (by omega) hx
  ·rename_i z hz;split at h<;>try(cases h;done)
   rename_i y hy hb;simp only[Bool.and_eq_true]at hb;have lt:=ew hb.1;split at h
   ·rename_i hw;obtain⟨p,q,g1,g2,p1,p2⟩:=tN h bB;by_cases e:i=m
    ·subst e;rw[hz]at hx;cases hx;exact⟨lt,.inl ⟨hw,hb.2,by rw[hy,aaA g1 p1]⟩⟩
    ·exact wL g2 p2 i x (by omega) hx
   ·rename_i hw;obtain⟨p,q,g1,g2,p1,p2⟩:=tN h bB;by_cases e:i=m
    ·subst e;rw[hz]at hx;cases hx;exact⟨lt,.inr ⟨hw,y,hy,aah g1 p1 hb.2⟩⟩
    ·exact wL g2 p2 i x (by omega) hx
def DG{β:Type}(hp:T ax)(i:Nat)(x:Option ax)(kk:T ax->Option β):Option β:=match x with
 |none=>T.set depth hp i none kk
 |some x=>xA x fun x=>T.set depth hp i (some x) kk
theorem Ff{β:Type}{hp:T ax}{i:Nat}{x:Option ax}{kk:T ax->Option β}{r:β}(h:DG hp i x kk=some r): ∃t,kk t=some r/\∀j,t.get j=if j=i then x else hp.get j:=by
 cases x with
 |none=>exact T.bR _ _ _ _ _ _ h
 |some x=>
  unfold DG at h;simp only[IU]at h;exact T.bR _ _ _ _ _ _ h
def DC{β:Type}(θ:Nat->Nat)(hs hs':T ax):Nat->T ax->(T ax->Option β)->Option β
 | 0,hp,kk=>kk hp
 |i+1,hp,kk=>DC θ hs hs' i hp fun hp=>match hs.get i with
  |some x=>(match x.wr with|true=>DG hp (θ i) ((hs'.get i).map (gu θ)) kk|false=>kk hp)
  |none=>kk hp
theorem ET{β:Type}{θ:Nat->Nat}{hs hs':T ax}: ∀ {m:Nat} {hp:T ax} {kk:T ax->Option β} {r:β},(∀i j,i<m->j<m->θ i=θ j->i=j)->DC θ hs hs' m hp kk=some r->
  ∃t,kk t=some r/\(∀j,(∀i x,i<m->hs.get i=some x->x.wr=true->θ i≠j)->t.get j=hp.get j)/\∀i x,i<m->hs.get i=some x->x.wr=true->t.get (θ i)=(hs'.get i).map (gu θ)
 | 0,hp,kk,r,_,h=>⟨hp,h,fun _ _=>rfl,fun i _ hi=>by omega⟩
 |m+1,hp,kk,r,hinj,h=>by
  unfold DC at h;obtain⟨t,h1,h2,h3⟩:=ET (fun i j hi hj=>hinj i j (by omega) (by omega)) h
  have same: ∀(q:hs.get m=none\/∃x,hs.get m=some x/\x.wr=false),kk t=some r->∃t,kk t=some r/\(∀j,(∀i x,i<m+1->hs.get i=some x->x.wr=true->θ i≠j)->t.get j=hp.get j)/\∀i x,i<m+1->hs.get i=some x->x.wr=true->t.get (θ i)=(hs'.get i).map (gu θ):=
   fun q h1=>⟨t,h1,fun j hj=>h2 j fun i x hi=>hj i x (by omega),fun i x hi hx hw=>by
    by_cases e:i=m
    ·subst e;rcases q with q|⟨z,q,qw⟩
     ·rw[q]at hx;cases hx
     ·rw[q]at hx;cases hx;rw[qw]at hw;cases hw
    ·exact h3 i x (by omega) hx hw⟩
  split at h1
  ·rename_i x hx;split at h1
   ·rename_i hw;obtain⟨t',h4,h5⟩:=Ff h1;refine⟨t',h4,fun j hj=> ?_,fun i y hi hy hyw=> ?_⟩
    ·rw[h5,if_neg (fun e=>hj m x (by omega) hx hw e.symm)]
     exact h2 j fun i x hi=>hj i x (by omega)
    ·rw[h5];by_cases e:i=m
     ·subst e;rw[if_pos rfl]
     ·rw[if_neg (fun e'=>e (hinj i m (by omega) (by omega) e'))]
      exact h3 i y (by omega) hy hyw
   ·rename_i hw;exact same (.inr ⟨x,hx,hw⟩) h1
  ·rename_i hx;exact same (.inl hx) h1
def Dq{β:Type}(θ:Nat->Nat)(hs':T ax)(k nx:Nat):Nat->T ax->(T ax->Option β)->Option β
 | 0,hp,kk=>kk hp
 |i+1,hp,kk=>Dq θ hs' k nx i hp fun hp=>DG hp (nx+i) ((hs'.get (k+i)).map (gu θ)) kk
theorem Fa{β:Type}{θ:Nat->Nat}{hs':T ax}{k nx:Nat}: ∀ {m:Nat} {hp:T ax} {kk:T ax->Option β} {r:β},Dq θ hs' k nx m hp kk=some r->
  ∃t,kk t=some r/\∀j,t.get j=if nx<=j/\j<nx+m then(hs'.get (j - nx+k)).map (gu θ)else hp.get j
 | 0,hp,kk,r,h=>⟨hp,h,fun j=>by rw[if_neg (by omega)]⟩
 |m+1,hp,kk,r,h=>by
  unfold Dq at h;obtain⟨t,h1,h2⟩:=Fa h;obtain⟨t',h3,h4⟩:=Ff h1;refine⟨t',h3,fun j=> ?_⟩
  rw[h4];by_cases e:j=nx+m
  ·subst e;rw[if_pos rfl,if_pos (by omega),show nx+m - nx+k=k+m by omega]
  ·rw[if_neg e,h2];by_cases e2:nx<=j/\j<nx+m
   ·rw[if_pos e2,if_pos (by omega)]
   ·rw[if_neg e2,if_neg (by omega)]
def KI:List Nat->Bool
 | []=>true
 |x::l=>(l.all fun y=> !Nat.beq x y) && KI l
theorem Ki: ∀ {l:List Nat},KI l=true->∀i j,i<l.length->j<l.length->l.getD i 0=l.getD j 0->i=j
 | [],_,i,_,hi,_,_=>by simp at hi
 |x::l,h,i,j,hi,hj,e=>by
  simp only[KI,Bool.and_eq_true,List.all_eq_true,Bool.not_eq_true']at h;have h1: ∀y∈l,x≠y:=fun y hy e=>by have:=h.1 y hy;rw[e,Nat.beq_refl]at this;cases this
  have mem: ∀m,m<l.length->l.getD m 0∈l:=fun m hm=>by
   rw[List.getD_eq_getElem?_getD,List.getElem?_eq_getElem hm];simp
  cases i with
  |zero=>cases j with
   |zero=>rfl
   |succ j=>
    simp only[List.getD_cons_zero,List.getD_cons_succ]at e;exact absurd e (h1 _ (mem j (by simpa using hj)))
  |succ i=>cases j with
   |zero=>
    simp only[List.getD_cons_zero,List.getD_cons_succ]at e;exact absurd e.symm (h1 _ (mem i (by simpa using hi)))
   |succ j=>
    simp only[List.getD_cons_succ]at e;rw[Ki h.2 i j (by simpa using hi) (by simpa using hj) e]
def xR(θ:Nat->Nat)(hs:T ax):Nat->List Nat
 | 0=> []
 |i+1=>match hs.get i with
  |some x=>(match x.wr with|true=>θ i::xR θ hs i|false=>xR θ hs i)
  |none=>xR θ hs i
theorem I4{θ:Nat->Nat}{hs:T ax}{nm:Nat}: ∀ {m:Nat},nm∈xR θ hs m↔∃i x,i<m/\hs.get i=some x/\x.wr=true/\θ i=nm
 | 0=>⟨fun h=>absurd h List.not_mem_nil,fun⟨i,_,h,_⟩=>by omega⟩
 |m+1=>by
  have ih:=I4 (θ:=θ) (hs:=hs) (nm:=nm) (m:=m);unfold xR;split
  ·rename_i x hx;split
   ·rename_i hw;rw[List.mem_cons,ih];constructor
    ·rintro(rfl|⟨i,y,h1,h2⟩)
     ·exact⟨m,x,by omega,hx,hw,rfl⟩
     ·exact⟨i,y,by omega,h2⟩
    ·rintro⟨i,y,h1,h2,h3,h4⟩;by_cases e:i=m
     ·subst e;exact .inl h4.symm
     ·exact .inr ⟨i,y,by omega,h2,h3,h4⟩
   ·rename_i hw;rw[ih];constructor
    ·rintro⟨i,y,h1,h2⟩;exact⟨i,y,by omega,h2⟩
    ·rintro⟨i,y,h1,h2,h3,h4⟩;by_cases e:i=m
     ·subst e;rw[hx]at h2;cases h2;rw[hw]at h3;cases h3
     ·exact⟨i,y,by omega,h2,h3,h4⟩
  ·rename_i hx;rw[ih];constructor
   ·rintro⟨i,y,h1,h2⟩;exact⟨i,y,by omega,h2⟩
   ·rintro⟨i,y,h1,h2,h3,h4⟩;by_cases e:i=m
    ·subst e;rw[hx]at h2;cases h2
    ·exact⟨i,y,by omega,h2,h3,h4⟩
def cC(E:List RV->T ax->Nat->Option GS):bg:=fun args hp nx=>match E args hp nx with
 |none=>none
 |some g=>match Nat.ble g.k g.k' &&(Nat.beq g.th.length g.k &&(KI g.th && g.args.all (tp g.k))),TS (g.args.map (dB (tu g.th g.k nx))) args,BQ (tu g.th g.k nx) g.k nx g.hs hp g.k with
  |true,some p1,some p2=>DC (tu g.th g.k nx) g.hs g.hs' g.k hp fun hp=>Dq (tu g.th g.k nx) g.hs' g.k nx (g.k' - g.k) hp fun hp=>
   some (dB (tu g.th g.k nx) g.v,hp,nx+(g.k' - g.k),xR (tu g.th g.k nx) g.hs g.k,p1++(p2++g.ps))
  |_,_,_=>none
theorem dT{f:FuncId}(hfn: ∃fn,P.funcs[f]? =some fn/\fn.body.isNone=false){E:List RV->T ax->Nat->Option GS}
  (hG: ∀args hp nx g,E args hp nx=some g->aw g.ps->cd P f g.args g.k g.hs g.k' g.hs' g.v/\∀i x,g.hs.get i=some x->i<g.k):aI P f (cC E):=by
 intro args s v hp nx lg ps ht h bB;unfold cC at h;split at h<;>try(cases h;done)
 rename_i g hE;split at h<;>try(cases h;done)
 rename_i p1 p2 hb h1 h2;simp only[Bool.and_eq_true]at hb;obtain⟨b1,b2,b3,b4⟩:=hb;have hkk:g.k<=g.k':=Nat.le_of_ble_eq_true b1;have hlen:g.th.length=g.k:=by simpa using b2
 have inj: ∀i j,i<g.k->j<g.k->tu g.th g.k s.nx i=tu g.th g.k s.nx j->i=j:=fun i j hi hj e=>by
  unfold tu at e;rw[if_pos hi,if_pos hj]at e;exact Ki b3 i j (by omega) (by omega) e
 obtain⟨t1,h,o1,o2⟩:=ET inj h;obtain⟨t2,h,n1⟩:=Fa h;simp only[ae,af]at h;obtain⟨rfl,rfl,rfl,rfl,rfl⟩:=h;obtain⟨q1,q2⟩:=(bH _ _).1 bB;obtain⟨q2,q3⟩:=(bH _ _).1 q2;obtain⟨hC,hk⟩:=hG _ _ _ _ hE q3;have hin:=wL h2 q2;have:=aU.Ra (θ:=tu g.th g.k s.nx) (hp':=t2) (Lw:=xR (tu g.th g.k s.nx) g.hs g.k) ht hfn hC hkk b4
  (fun i x hx=>⟨hk i x hx,hin i x (hk i x hx) hx⟩)
  (fun i j x y hx hy _ e=>inj i j (hk i x hx) (hk j y hy) e)
  (fun i hi=>by unfold tu;rw[if_neg (by omega)])
  (fun nm hnm hno=>by
   rw[n1,if_neg (by omega)]
   exact o1 nm fun i x _ hx hw=>hno i x hx hw)
  (fun i x hx hw=>by
   have:=(hin i x (hk i x hx) hx).1;rw[n1,if_neg (by omega)]
   exact o2 i x (hk i x hx) hx hw)
  (fun nm hnm=>by
   rw[n1];by_cases e:nm<s.nx+(g.k' - g.k)
   ·rw[if_pos ⟨hnm,e⟩,if_pos e]
   ·rw[if_neg (by omega),if_neg e,o1 nm (fun i x hi hx hw e'=> ?_)]
    ·exact ht nm hnm
    ·have:=(hin i x hi hx).1;omega)
  (fun nm=>by
   rw[I4];exact⟨fun⟨i,x,_,h1,h2,h3⟩=>⟨i,x,h1,h2,h3⟩,fun⟨i,x,h1,h2,h3⟩=>⟨i,x,hk i x h1,h1,h2,h3⟩⟩)
 rw[I8 h1 q1]at this;exact this
theorem qW{l:List (Nat×ax)}{i:Nat}{x:ax}(h:(aN l:T ax).get i=some x):(i,x)∈l:=by
 induction l with
 |nil=>cases h
 |cons p l ih=>
  obtain⟨j,y⟩:=p;unfold aN at h;split at h
  ·rename_i t ht;obtain⟨t',h1,h2⟩:=T.bR _ _ _ _ _ _ ht;cases h1;rw[h2]at h;split at h
   ·rename_i e;cases h;rw[e];exact List.mem_cons_self
   ·exact List.mem_cons_of_mem _ (ih h)
  ·cases h
theorem fv{l:List (Nat×ax)}{k:Nat}(hk: ∀p∈l,p.1<k){i:Nat}{x:ax}(h:(aN l:T ax).get i=some x):i<k:=hk _ (qW h)
theorem iZ{l:List (Nat×ax)}{k:Nat}(hk: ∀p∈l,p.1<k):cJ ⟨.nil,aN l,k,[]⟩:=fun nm h=>by
 cases hh:(aN l:T ax).get nm with
 |none=>rfl
 |some x=>exact absurd (fv hk hh) (Nat.not_lt.2 h)
end Go.Sx
namespace Go.Sx
section
variable(P:Program)(Sg:FuncId->Option Sum)
def Mb{β:Type}(ex:fU β)(n:Nat)(c:Code)(s:S)(k:X->S->Option β):Option β:=
 match c with
 | .region _ ops draw=>ik P false (pr P Sg ex) n ops.toList draw s (k .normal)
 |c=>du P Sg true ex n c s k
def WY{β:Type}(f:Nat):fU β:=Nat.rec (fun _ _ _ _=>none) (fun _ ih n c s k=>Mb P Sg ih n c s k) f
def SB{β:Type}(fuel:Nat)(g:FuncId)(args:List RV)(s:S)(k:RV->S->Option β):Option β:=
 match P.funcs[g]? with
 |none=>none
 |some fn=>match fn.body with
  |none=>none
  |some c=>jW P (WY P Sg fuel) fn c args s k
end
section
variable{P:Program}{Sg:FuncId->Option Sum}
theorem Vg{β:Type}(hng: ∀(g:Nat) (fn:Func),P.funcs[g]? =some fn->(fn.name== "runtime.NumGoroutine")=false)(hS:su P Sg)(hd: ∀z,Ma P z){ex:fU β}(hex:kB P true ex):kB P true (Mb P Sg ex):=by
 intro n c s k r ht h;cases c with
 |region id ops draw=>
  simp only[Mb]at h;cases draw with
  |false=>
   simp only[ik]at h;obtain⟨s',L,h1,ab,hw⟩:=vx (na hS hex) hng ht h;exact⟨.normal,s',L,0,h1,ab,fun ro _ ρ a w R=>wpIn_region_list (hw ro ρ a w R _ fun a' w' ρ' R' st hd=>⟨trivial,ρ',R',st,by rw[hd];exact Grown.refl⟩)⟩
  |true=>
   simp only[ik]at h;obtain⟨s',L,h1,ab,hw⟩:=hd false _ (na hS hex) n id ops s _ r ht h;exact⟨.normal,s',L,0,h1,ab,fun ro _ ρ a w R=>hw ro ρ a w R _ fun a' w' ρ' R' st hd=>⟨trivial,ρ',R',st,by rw[hd];exact Grown.refl⟩⟩
 |_=>exact zt hng hS (hd true) hex _ _ _ _ _ ht h
theorem E0{β:Type}(F:Fit P Sg): ∀f,kB P true (WY (β:=β) P Sg f)
 | 0=>fun n c s k r _ h=>by cases h
 |f+1=>Vg F.ng F.sums (fun z=>JY F.ng F.mixed) (E0 F f)
theorem QL(F:Fit P Sg){β:Type}{fuel:Nat}{g:FuncId}{args:List RV}{s:S}{k:RV->S->Option β}{r:β}(ht:cJ s)
  (h:SB P Sg fuel g args s k=some r): ∃v s' L,k v s'=some r/\aU P g args s v s' L:=by
 unfold SB at h;split at h<;>try(cases h;done)
 rename_i fn hf;split at h<;>try(cases h;done)
 rename_i c hb;exact rT (E0 F fuel) hf hb ht h
theorem aU.ae7 {f:FuncId}{args:List RV}{s:S}{L:List Nat}{i sz n:Nat}{x:ax}(hfa:args.all ej=true)(ci:aU P f args s0 (.one (.c (.aC i sz 0 n))) s L)(hx:s.hp.get i=some x)(hi: ∀ρ ρ' c o,cD ρ c x o->cD ρ' c x o)(hw:x.wr=true):
  cd P f args 0 .nil 1 (aN [(0,x)]) (.one (.c (.aC 0 sz 0 n))):=fun ρ w vs hr hf ha=>by
 obtain⟨h1,h2,h3⟩:=hr;refine(ci.run mz w vs (bu.nil _) (fun _ _=>rfl) (ha.indep hfa)).mono fun e w' ⟨V,ρ',e1,e2,e3,e4,st⟩=> ?_
 obtain⟨b,c,o,g1,g2,g3⟩:=e3.ok i x hx;have hb:w.heap.size<=b:=by
  rcases st.new i b c (Nat.zero_le _) g1 with h|⟨_,_,_,h,_⟩
  ·exact h
  ·exact absurd h (Nat.not_lt_zero _)
 have fr: ∀b,b<w.heap.size->w'.heap[b]? =w.heap[b]? :=fun b hb=>st.frame b hb fun nm c _ aA=>absurd aA (Nat.not_lt_zero _)
 have hg: ∀j z,(aN [(0,x)]:T ax).get j=some z->j=0/\z=x:=fun j z h=>l7 h
 have h0:(aN [(0,x)]:T ax).get 0=some x:=rfl;refine⟨V,⟨fun j=>if j=0 then some (b,c)else none,ρ.fz⟩,[],e1,?_,⟨fun j z hz=> ?_,fun j j' z y b' c' c'' hz hy _ _ _=> ?_,fun b' l hl=> ?_⟩,fun j hj=> ?_,?_⟩
 ·obtain⟨b',c',off,k1,k2,k3,k4⟩: ∃b' c' off,ρ' i=some (b',c')/\0+n<=c'/\(off=0*sz\/(0=c'/\0<0))/\V= .slice (some ⟨b',off,none⟩) n (c' - 0):=e2;rw[g1]at k1;cases k1;exact⟨b,c,off,rfl,k2,k3,k4⟩
 ·obtain⟨rfl,rfl⟩:=hg j z hz;exact⟨b,c,o,rfl,g2,hi _ _ _ _ g3⟩
 ·obtain⟨rfl,_⟩:=hg j z hz;obtain⟨rfl,_⟩:=hg j' y hy
  rfl
 ·obtain⟨k1,k2⟩:=h3 b' l hl;have aA:=k1.lt;obtain⟨cs,t,f,q1,q2⟩:=k1;refine⟨⟨cs,t,f,(fr b' aA).trans q1,q2⟩,fun nm z c' hz _ he=> ?_⟩
  obtain⟨rfl,_⟩:=hg nm z hz;have he':some (b,c)=some (b',c'):=he;simp only[ae,af]at he';omega
 ·show(if j=0 then some (b,c)else none)=none
  rw[if_neg (by omega)]
 ·refine⟨Nat.zero_le _,fun nm h=>absurd h (Nat.not_lt_zero _),fun nm h=>absurd h (Nat.not_lt_zero _),st.size,fun b hb _=>fr b hb,fun nm b' c' _ he=> .inl ?_,fun nm h=>absurd h List.not_mem_nil,st.os,st.tape,st.al,fun _ _ h=>h,fun _ _ h=> .inl h⟩
  have he':(if nm=0 then some (b,c)else none)=some (b',c'):=he
  split at he'
  ·simp only[ae,af]at he';omega
  ·cases he'
end
open Go.Proofs Go.RowKit
def Ud:FuncId->Option bg:=fun f=>match f with| 151=>some (aL mY)| 47=>some mB|_=>none
theorem aeh:Fit prog (fun f=>(Ud f).map bj):=⟨bM,aV,aI.sum fun f sm h=>by
 unfold Ud at h;split at h
 ·cases h;exact(kP 151 sq).sum ⟨_,func151,rfl⟩
 ·cases h;exact jx
 ·cases h⟩
def abT:Code:=gB 256
def wc(s kd:Int):List RV:= [.one (.c (.ptr 0 0)),.one (.c (.int .u16 s)),.one (.c (.int .i64 kd))]
def WT(s kd:Int):T RV:=match setArgs 69 (wc s kd) 0 .nil some with|some t=>t|none=> .nil
theorem UN(s kd:Int):setArgs 69 (wc s kd) 0 .nil some=some (WT s kd):=by kernel_rfl
def lP(a b c:Int)(n:Nat)(sc:Int)(L:aj)(al:Int)(lm:ak)(au:Int)(aq:ak):T ax:=aN [(0,.row 229 true none (.cells [.ptr 1 0,.ptr 3 0,.int .i64 au,.any,.any,.any])),(1,.row 113 true none (.cells [.int .i64 a,.int .i64 b,.int .i64 c,.aC 2 64 0 n,.int .u32 sc,.map 5,.int .i64 al])),(2,.row 95 true (some 64) (.ints .u8 L (64*n))),(3,.row 137 true none (.cells [.any,.map 4,.any])),(4,.aQ (some .i64) aq),(5,.aQ none lm)]
theorem lt6{x0 x1 x2 x3 x4 x5:ax}: ∀p∈ [(0,x0),(1,x1),(2,x2),(3,x3),(4,x4),(5,x5)],p.1<6:=by
 intro p hp;simp only[List.mem_cons,List.not_mem_nil,or_false]at hp;rcases hp with rfl|rfl|rfl|rfl|rfl|rfl<;>simp
theorem K6:f256.body=some abT:=by kernel_rfl
section
variable(a b c:Int)(n:Nat)(sc:Int)(L:aj)(al:Int)(lm:ak)(au:Int)(aq:ak)(s kd:Int)
def agn(Q:X->Option (List AV)->T ax->Nat->Prop):ai:=
 az prog Ud 300 69 abT ⟨WT s kd,lP a b c n sc L al lm au aq,6,[]⟩ aO (fun x s Z=>some (aw Z.ob/\(Nat.ble 6 s.nx=true/\Q x (ba prog 69 (low 69 6 (aE [6] 69 s)) f256.results.toList) (low 69 6 (aE [6] 69 s)).hp (low 69 6 (aE [6] 69 s)).nx)))
def PL(Q:X->Option (List AV)->T ax->Nat->Prop):ai:=bif (pl a b c (i64.wrap s)).2.2.2 !=0 then some (aw []/\(true=true/\Q .ret (some [.c (.bool false)]) (lP a b c n sc L al lm au aq) 6))else bif (pl a b c (i64.wrap s)).1 !=0 then some (aw []/\(true=true/\Q .ret (some [.c (.bool false)]) (lP a b c n sc L al lm au aq) 6))else bif bp aq (i64.wrap s) !=0 then some (aw []/\(true=true/\Q .ret (some [.c (.bool false)]) (lP a b c n sc L al lm au aq) 6))else bif kd !=0 then bif !cI L n (i64.wrap s) kd then some (aw [L.length=64*n,64*n=64*n]/\(true=true/\Q .ret (some [.c (.bool false)]) (lP a b c n sc L al lm au aq) 6))else some (aw [L.length=64*n,64*n=64*n]/\(true=true/\Q .ret (some [.c (.bool true)]) (lP a b c n sc L al lm au (bC aq (i64.wrap s) au)) 6))else some (aw []/\(true=true/\Q .ret (some [.c (.bool true)]) (lP a b c n sc L al lm au (bC aq (i64.wrap s) au)) 6))
theorem Ov(Q:X->Option (List AV)->T ax->Nat->Prop):agn a b c n sc L al lm au aq s kd Q=PL a b c n sc L al lm au aq s kd Q:=by kernel_rfl
def dE:Bool:=(pl a b c s).2.2.2==0 &&((pl a b c s).1==0 &&(bp aq s==0 &&(kd==0||cI L n s kd)))
def cw:List (Int×Int):=if dE a b c n L aq s kd then bC aq s au else aq
end
section
variable{a b c:Int}{n:Nat}{sc:Int}{L:aj}{al:Int}{lm:ak}{au:Int}{aq:ak}{s kd:Int}
theorem UF(hl:L.length=64*n)(hs:Fi.bh s):fC prog 256 (wc s kd) 6 (lP a b c n sc L al lm au aq) (lP a b c n sc L al lm au (cw a b c n L au aq s kd)) (.one (.c (.bool (dE a b c n L aq s kd)))):=by
 refine mE (fn:=f256) (aH:= [6]) aeh func256 K6 rfl (iZ lt6) (UN ..) (.of_eq (Ov a b c n sc L al lm au aq s kd _) ?_);unfold PL;rw[Fi.wrap_u16 hs];unfold cw dE;cases h1:(pl a b c s).2.2.2 !=0 with
 |true=>
  have:((pl a b c s).2.2.2==0)=false:=by simpa using h1
  rw[this];exact .yes rfl ⟨trivial,rfl,.inr rfl,⟨_,rfl,rfl⟩,rfl,rfl⟩
 |false=>
  have e1:((pl a b c s).2.2.2==0)=true:=by simpa using h1
  rw[e1];refine .no rfl ?_;cases h2:(pl a b c s).1 !=0 with
  |true=>
   have:((pl a b c s).1==0)=false:=by simpa using h2
   rw[this];exact .yes rfl ⟨trivial,rfl,.inr rfl,⟨_,rfl,rfl⟩,rfl,rfl⟩
  |false=>
   have e2:((pl a b c s).1==0)=true:=by simpa using h2
   rw[e2];refine .no rfl ?_;cases h3:bp aq s !=0 with
   |true=>
    have:(bp aq s==0)=false:=by simpa using h3
    rw[this];exact .yes rfl ⟨trivial,rfl,.inr rfl,⟨_,rfl,rfl⟩,rfl,rfl⟩
   |false=>
    have e3:(bp aq s==0)=true:=by simpa using h3
    rw[e3];refine .no rfl ?_;cases h4:kd !=0 with
    |false=>
     have e4:(kd==0)=true:=by simpa using h4
     rw[e4];exact .no rfl ⟨trivial,rfl,.inr rfl,⟨_,rfl,rfl⟩,rfl,rfl⟩
    |true=>
     have e4:(kd==0)=false:=by simpa using h4
     rw[e4];refine .yes rfl ?_;cases h5:cI L n s kd with
     |false=>exact .yes rfl ⟨⟨hl,rfl,trivial⟩,rfl,.inr rfl,⟨_,rfl,rfl⟩,rfl,rfl⟩
     |true=>exact .no rfl ⟨⟨hl,rfl,trivial⟩,rfl,.inr rfl,⟨_,rfl,rfl⟩,rfl,rfl⟩
end
def BR(hp:T ax)(nc:Nat):Option ((Int×Int×Int×List Int×Nat×Nat×Int×Int×List (Int×Int))×(Nat×Nat×Nat×Nat×Nat)×Int×List (Int×Int)):=match bn hp.get nc with
 |some (_,_,_,.cells [.ptr ni 0,.ptr nf 0,.int .i64 au,_,_,_])=>match bn hp.get ni,bn hp.get nf with
  |some (_,_,_,.cells [.int .i64 a,.int .i64 b,.int .i64 c,.aC nl 64 0 n,.int .u32 sc,.map nw,.int .i64 al]),some (_,_,_,.cells [_,.map no,_])=>match bn hp.get nl,hp.get no,hp.get nw with
   |some (_,_,_,.ints .u8 L N),some (.aQ (some .i64) aq),some (.aQ none lm)=>some ((a,b,c,L,N,n,sc,al,lm),(ni,nl,nw,nf,no),au,aq)
   |_,_,_=>none
  |_,_=>none
 |_=>none
def Ay:List RV->T ax->Nat->Option GS:=fun args hp _=>match args with
 | [.one (.c (.ptr nc 0)),.one (.c (.int .u16 s)),.one (.c (.int .i64 kd))]=>match BR hp nc with
  |some ((a,b,c,L,_,n,sc,al,lm),(ni,nl,nw,nf,no),au,aq)=>some ⟨6,[nc,ni,nl,nf,no,nw],wc s kd,lP a b c n sc L al lm au aq,6,lP a b c n sc L al lm au (cw a b c n L au aq s kd),.one (.c (.bool (dE a b c n L aq s kd))),[L.length=64*n,Fi.bh s]⟩
  |none=>none
 |_=>none
theorem sum256:aI prog 256 (cC Ay):=dT ⟨_,func256,rfl⟩ fun args hp nx g h bB=>by
 unfold Ay at h;split at h<;>try(cases h;done)
 split at h<;>try(cases h;done)
 cases h;exact⟨UF bB.1 bB.2.1,fun i x hx=>fv lt6 hx⟩
end Go.Sx
namespace Go.Sx
open Go.RowKit
variable{P:Program}
def zB(nm cn:Nat)(x y:ax)(s:S):S:=match s with|⟨sl,hp,nx,_⟩=>match T.set (β:=T ax) depth hp nm none some with
 |some t=>(match T.set (β:=T ax) depth t cn (some y) some with
  |some t=>(match T.set (β:=T ax) depth t nx (some x) some with|some t=>⟨sl,t,nx+1,[]⟩|none=>⟨sl,hp,nx,[]⟩)
  |none=>⟨sl,hp,nx,[]⟩)
 |none=>⟨sl,hp,nx,[]⟩
theorem dJ.mv {n:Nat}{s:S}(nm cn:Nat){x:ax}{t2:TypeId}{o2:Option Nat}{sz a k j:Nat}{cs:List Cell}(bT:nm≠cn)(hx:s.hp.get nm=some x)(hxw:x.wr=true)(hc:s.hp.get cn=some (.row t2 false o2 (.cells cs)))(hj:cs[j]? =some (.aC nm sz a k)):
  dJ n s (zB nm cn x (.row t2 false o2 (.cells (cs.set j (.aC s.nx sz a k)))) s):=by
 obtain⟨sl,hp,nx,lg⟩:=s;unfold zB;simp only;cases hs1:T.set (β:=T ax) depth hp nm none some with
 |none=>exact dJ.nil
 |some t1=>
 simp only;cases hs2:T.set (β:=T ax) depth t1 cn (some (.row t2 false o2 (.cells (cs.set j (.aC nx sz a k))))) some with
 |none=>exact dJ.nil
 |some t2'=>
 simp only;cases hs3:T.set (β:=T ax) depth t2' nx (some x) some with
 |none=>exact dJ.nil
 |some t'=>
 simp only;obtain⟨t1,e,hg1⟩:=T.bR _ _ _ _ _ _ hs1;simp only[ae]at e;subst e;obtain⟨t2',e,hg2⟩:=T.bR _ _ _ _ _ _ hs2;simp only[ae]at e;subst e;obtain⟨t',e,hg3⟩:=T.bR _ _ _ _ _ _ hs3;simp only[ae]at e;subst e;have hg: ∀i,t'.get i=if i=nx then some x else if i=cn then some (.row t2 false o2 (.cells (cs.set j (.aC nx sz a k))))else if i=nm then none else hp.get i:=fun i=>by rw[hg3,hg2,hg1]
 have hx':hp.get nm=some x:=hx;have hc':hp.get cn=some (.row t2 false o2 (.cells cs)):=hc;have lt:cJ ⟨sl,hp,nx,lg⟩->nm<nx/\cn<nx:=fun ht=>by
  constructor
  ·rcases Nat.lt_or_ge nm nx with h'|h'
   ·exact h'
   ·have:hp.get nm=none:=ht nm h';rw[this]at hx';cases hx'
  ·rcases Nat.lt_or_ge cn nx with h'|h'
   ·exact h'
   ·have:hp.get cn=none:=ht cn h';rw[this]at hc';cases hc'
 refine dJ.step (L1:= [nm,cn]) (fun ht=>⟨Nat.le_succ _,fun i hi hn=> ?_,fun i hn=> ?_,fun i hn=> ?_⟩) (fun ht ρ a' w R=> ?_)
 ·have hi':i<nx:=hi;simp only[List.mem_cons,List.not_mem_nil,or_false,not_or]at hn;show t'.get i=hp.get i;rw[hg,if_neg (by omega),if_neg hn.2,if_neg hn.1]
 ·have hn':nx+1<=i:=hn;have:=lt ht;show t'.get i=none;rw[hg,if_neg (by omega),if_neg (by omega),if_neg (by omega)]
  exact ht i (by show nx<=i;omega)
 ·have:=lt ht;show i<nx+1;simp only[List.mem_cons,List.not_mem_nil,or_false]at hn;rcases hn with rfl|rfl<;>omega
 ·obtain⟨b,cp,ob,k1,k2,k3⟩:=R.hp.ok nm _ hx';obtain⟨b2,cp2,ob2,j1,j2,j3⟩:=R.hp.ok cn _ hc';have aA:=lt ht;have fr:bW ρ nx:=R.fresh;have hsub:Sub ρ (ext ρ nx b cp):=fW fr b cp;have e1x:(ext ρ nx b cp) nx=some (b,cp):=by show(if nx=nx then _ else _)=_;rw[if_pos rfl]
  have eo: ∀i,i≠nx->(ext ρ nx b cp) i=ρ i:=fun i h=>by show(if i=nx then _ else _)=_;rw[if_neg h]
  have hcell: ∀v,CR (ext ρ nx b cp) (.aC nm sz a k) v->CR (ext ρ nx b cp) (.aC nx sz a k) v:=fun v ⟨b',c',off,e1,e2,e3,e4⟩=>by
   have e1':(ext ρ nx b cp) nm=some (b',c'):=e1;rw[eo nm (by omega),k1]at e1'
   cases e1';exact⟨b,cp,off,e1x,e2,e3,e4⟩
  have old: ∀i z,i≠nx->t'.get i=some z->i≠nm/\∃z0,hp.get i=some z0/\z0.wr=z.wr:=fun i z hi hz=>by
   rw[hg,if_neg hi]at hz;split at hz
   ·rename_i e;subst e;cases hz;exact⟨fun e=>bT e.symm,_,hc',rfl⟩
   ·split at hz
    ·cases hz
    ·rename_i e;exact⟨e,z,hz,rfl⟩
  have hr:bu (ext ρ nx b cp) t'.get w:=by
   refine⟨fun i z hz=> ?_,fun i i' z z' b0 c0 c0' hz hz' hzw e1 e2=> ?_,fun b' l' hb'=>⟨(R.hp.fz b' l' hb').1,fun i z c0 hz hzw e1=> ?_⟩⟩
   ·rw[hg]at hz;split at hz
    ·rename_i e;subst e;cases hz;exact⟨b,cp,ob,e1x,k2,k3.mono hsub⟩
    ·rename_i hi;split at hz
     ·rename_i e;subst e;cases hz;obtain⟨vs2,tail2,fr2,rfl,q1,q2,q3⟩:=j3;exact⟨b2,cp2,_,(eo i hi).trans j1,j2,vs2,tail2,fr2,rfl,(q1.mono hsub).set hj hcell,q2,q3⟩
     ·split at hz
      ·cases hz
      ·obtain⟨b0,c0,o0,q1,q2,q3⟩:=R.hp.ok i z hz;exact⟨b0,c0,o0,(eo i hi).trans q1,q2,q3.mono hsub⟩
   ·by_cases hi:i=nx
    ·subst hi;rw[e1x]at e1;cases e1;by_cases hi':i'=i
     ·exact hi'.symm
     ·obtain⟨hn,z0,g1,_⟩:=old i' z' hi' hz';rw[eo i' hi']at e2;exact absurd (R.hp.inj nm i' x z0 _ _ _ hx' g1 hxw k1 e2).symm hn
    ·obtain⟨hn,z0,g1,g2⟩:=old i z hi hz;rw[eo i hi]at e1;by_cases hi':i'=nx
     ·subst hi';rw[e1x]at e2;cases e2;exact absurd (R.hp.inj i nm z0 x _ _ _ g1 hx' (by rw[g2];exact hzw) e1 k1) hn
     ·obtain⟨hn',z1,g3,_⟩:=old i' z' hi' hz';rw[eo i' hi']at e2;exact R.hp.inj i i' z0 z1 b0 c0 c0' g1 g3 (by rw[g2];exact hzw) e1 e2
   ·by_cases hi:i=nx
    ·subst hi;rw[e1x]at e1;cases e1;exact(R.hp.fz _ l' hb').2 nm x cp hx' hxw k1
    ·obtain⟨_,z0,g1,g2⟩:=old i z hi hz;rw[eo i hi]at e1;exact(R.hp.fz b' l' hb').2 i z0 c0 g1 (by rw[g2];exact hzw) e1
  refine⟨ext ρ nx b cp,⟨R.sz,R.df,fun i=>(R.sl i).mono hsub,hr,fun i hi=> ?_⟩,?_⟩
  ·have hi':nx+1<=i:=hi;rw[eo i (by omega)]
   exact fr i (by omega)
  ·refine⟨Nat.le_succ _,fun i hi=>eo i (by have:i<nx:=hi;omega),fun i hi hn=> ?_,Nat.le_refl _,fun _ _ _=>rfl,fun i b0 c0 hi h1=> .inr ?_,(fun i h1 _=> ?_),rfl,rfl,rfl,fun _ _ h=>h,fun _ _ h=> .inl h⟩
   ·have hi':i<nx:=hi;simp only[List.mem_cons,List.not_mem_nil,or_false,not_or]at hn;show t'.get i=hp.get i;rw[hg,if_neg (by omega),if_neg hn.2,if_neg hn.1]
   ·by_cases e:i=nx
    ·subst e;rw[e1x]at h1;cases h1;exact⟨nm,cp,by simp,aA.1,k1⟩
    ·rw[eo i e,fr i hi]at h1;cases h1
   ·simp only[List.mem_cons,List.not_mem_nil,or_false]at h1;rcases h1 with rfl|rfl
    ·exact⟨_,hx',hxw⟩
    ·exact⟨_,hc',rfl⟩
def bN(k0:Nat)(aH:List Nat)(n:Nat)(vg:S->List Nat)(Q:ag)(x:X)(s':S)(Z:A):ai:=
 match nr k0 [] [] aH n (vg s') s' with|some g=>some (aw Z.ob/\Q x g)|none=>none
theorem TO.aP {Sg:FuncId->Option bg}(F:Fit P (fun f=>(Sg f).map bj)){fuel n:Nat}{s0:S}{c:Code}{s:S}{aH:List Nat}{vg:S->List Nat}{k0:Nat}(hk0:s0.nx=k0){Q:ag}
  (hT:dG (az P Sg fuel n c s aO (bN k0 aH n vg Q))):TO P n [] [] s0 c s Q:=fun ρ0 w0 hr hf pins hpn a w C=>by
 obtain⟨ρ,L0,ab0,hK0,R,st0,hp0⟩:=C.it;subst hk0;cases he:az P Sg fuel n c s aO (bN s0.nx aH n vg Q)with
 |none=>rw[he]at hT;exact hT.elim
 |some p=>
  rw[he]at hT;obtain⟨x1,s1,α',h1,h2⟩:=jA Sg fuel _ _ _ _ _ _ he;unfold bN at h1;split at h1<;>try(cases h1;done)
  rename_i g' hg;simp only[ae]at h1;subst h1;obtain⟨hp,hq⟩:aw α'.ob/\Q x1 g':=hT;have h3:=(h2 hp).2 (X×S) (fun x s=>some (x,s))
  obtain⟨x2,s2,L,m,h4,ab,hw⟩:=jC F.ng F.mixed F.sums fuel _ _ _ _ _ ab0.top h3;simp only[ae,af]at h4;obtain⟨rfl,rfl⟩:=h4;exact(hw ρ a w R).y.mono fun e a' w' ⟨hx,ρ',R',st⟩=>⟨_,g',hx,hq,tg.gc hr hf (s:=s2) ⟨ρ',L++L0,ab0.trans ab.n,fun nm hn hm=>absurd hn List.not_mem_nil,R',st0.trans st,hp0.step R.hp R.fresh st⟩ hpn hg⟩
end Go.Sx
