import Derived.Test.YtfceckiklfkjkaaGreatS16
import Derived.Test.YtfceckiklfkjkaaGreatS29
noncomputable section
namespace Go.Sx
open Go.RowKit
variable{P:Program}
def HO(nm:Nat):List Nat->Nat->Option Nat
 | [],_=>none
 |x::l,i=>if nm=x then some i else HO nm l (i+1)
def l6(k0:Nat)(ord:List Nat)(nm:Nat):Option Nat:=if nm<k0 then some nm else HO nm ord k0
def uQ(f:Nat->Option Nat):List (Nat×Nat)->Option (List (Nat×Nat))
 | []=>some []
 |(a,b)::l=>match f a,uQ f l with|some a,some l=>some ((a,b)::l)|_,_=>none
def gm(f:Nat->Option Nat):Cell->Option Cell
 | .ptr nm off=>match f nm with|some m=>some (.ptr m off)|none=>none
 | .sl nm off len cap=>match f nm with|some m=>some (.sl m off len cap)|none=>none
 | .aC nm sz a len=>match f nm with|some m=>some (.aC m sz a len)|none=>none
 | .map nm=>match f nm with|some m=>some (.map m)|none=>none
 | .yield nm=>match f nm with|some m=>some (.yield m)|none=>none
 | .fn g fs cs=>match uQ f fs,uQ f cs with|some fs,some cs=>some (.fn g fs cs)|_,_=>none
 |c=>some c
def uF(f:Nat->Option Nat):List Cell->Option (List Cell)
 | []=>some []
 |c::l=>match gm f c,uF f l with|some c,some l=>some (c::l)|_,_=>none
def l4(f:Nat->Option Nat):AV->Option AV
 | .c x=>match gm f x with|some x=>some (.c x)|none=>none
 | .agg l=>match uF f l with|some l=>some (.agg l)|none=>none
 | .ints k l n=>some (.ints k l n)
def sa(f:Nat->Option Nat):List AV->Option (List AV)
 | []=>some []
 |c::l=>match l4 f c,sa f l with|some c,some l=>some (c::l)|_,_=>none
def qt(f:Nat->Option Nat):RV->Option RV
 | .one v=>match l4 f v with|some v=>some (.one v)|none=>none
 | .aF l=>match sa f l with|some l=>some (.aF l)|none=>none
 | .any=>some .any
def tc(f:Nat->Option Nat):List RV->Option (List RV)
 | []=>some []
 |c::l=>match qt f c,tc f l with|some c,some l=>some (c::l)|_,_=>none
def kG(f:Nat->Option Nat):List (Cell×AV)->Option (List (Cell×AV))
 | []=>some []
 |(c,v)::l=>match gm f c,l4 f v,kG f l with|some c,some v,some l=>some ((c,v)::l)|_,_,_=>none
def dQ(f:Nat->Option Nat):ax->Option ax
 | .row t ro o (.cells l)=>match uF f l with|some l=>some (.row t ro o (.cells l))|none=>none
 | .row t ro o (.ints k l n)=>some (.row t ro o (.ints k l n))
 | .row t ro o (.aT l n)=>some (.row t ro o (.aT l n))
 | .map es=>match kG f es with|some es=>some (.map es)|none=>none
 | .dK o k l=>some (.dK o k l)
 | .recs o k l=>some (.recs o k l)
 | .aQ vk l=>some (.aQ vk l)
 | .mapR es=>match kG f es with|some es=>some (.mapR es)|none=>none
 | .loop st sl ps aa bd=>match tc f sl with|some sl=>some (.loop st sl ps aa bd)|none=>none
 | .iter s p=>some (.iter s p)
 | .mapP es=>match kG f es with|some es=>some (.mapP es)|none=>none
 | .eE l=>some (.eE l)
 | .di l=>some (.di l)
section inv
variable{f:Nat->Option Nat}{ρ ρ':aM}(h: ∀nm m,f nm=some m->ρ' m=ρ nm)(hz: ∀b l,ρ.fz b=some l->ρ'.fz b=some l)
include h hz
omit hz in
theorem dF.inv: ∀ {l l':List (Nat×Nat)} {vs:List Value},dF ρ l vs->uQ f l=some l'->dF ρ' l' vs
 | [],l',vs,hr,hi=>by simp only[uQ,ae]at hi;subst hi;exact hr
 |(a,b)::l,l',vs,⟨bl,c,vs',h1,h2,h3⟩,hi=>by
  simp only[uQ]at hi;split at hi<;>try(cases hi;done)
  rename_i a' l2 e1 e2;simp only[ae]at hi;subst hi;exact⟨bl,c,vs',by rw[h _ _ e1];exact h1,dF.inv h2 e2,h3⟩
theorem CR.inv {c c':Cell}{v:Value}(hr:CR ρ c v)(hi:gm f c=some c'):CR ρ' c' v:=by
 cases c with
 |ptr nm off=>
  simp only[gm]at hi;split at hi<;>try(cases hi;done)
  rename_i m e;simp only[ae]at hi;subst hi;obtain⟨b,c,h1,h2⟩:=hr;exact⟨b,c,by rw[h _ _ e];exact h1,h2⟩
 |sl nm off len cap=>
  simp only[gm]at hi;split at hi<;>try(cases hi;done)
  rename_i m e;simp only[ae]at hi;subst hi;obtain⟨b,c,h1,h2⟩:=hr;exact⟨b,c,by rw[h _ _ e];exact h1,h2⟩
 |aC nm sz a len=>
  simp only[gm]at hi;split at hi<;>try(cases hi;done)
  rename_i m e;simp only[ae]at hi;subst hi;obtain⟨b,c,off,h1,h2⟩:=hr;exact⟨b,c,off,by rw[h _ _ e];exact h1,h2⟩
 |map nm=>
  simp only[gm]at hi;split at hi<;>try(cases hi;done)
  rename_i m e;simp only[ae]at hi;subst hi;obtain⟨b,c,h1,h2⟩:=hr;exact⟨b,c,by rw[h _ _ e];exact h1,h2⟩
 |yield nm=>
  simp only[gm]at hi;split at hi<;>try(cases hi;done)
  rename_i m e;simp only[ae]at hi;subst hi;obtain⟨b,c,h1,h2⟩:=hr;exact⟨b,c,by rw[h _ _ e];exact h1,h2⟩
 |fn g fs cs=>
  simp only[gm]at hi;split at hi<;>try(cases hi;done)
  rename_i fs' cs' e1 e2;simp only[ae]at hi;subst hi;obtain⟨us,vs,h1,h2,h3⟩:=hr;exact⟨us,vs,dF.inv h h1 e1,dF.inv h h2 e2,h3⟩
 |dI l=>simp only[gm,ae]at hi;subst hi;exact hr.imp id fun⟨h0,b,c,h1,h2⟩=>⟨h0,b,c,hz _ _ h1,h2⟩
 |vptr l i=>simp only[gm,ae]at hi;subst hi;obtain⟨b,h1,h2⟩:=hr;exact⟨b,hz _ _ h1,h2⟩
 |_=>simp only[gm,ae]at hi;subst hi;exact hr
theorem bt.inv: ∀ {l l':List Cell} {vs:List Value},bt ρ l vs->uF f l=some l'->bt ρ' l' vs
 | [],l',vs,hr,hi=>by simp only[uF,ae]at hi;subst hi;exact hr
 |c::l,l',vs,⟨v,vs',h1,h2,h3⟩,hi=>by
  simp only[uF]at hi;split at hi<;>try(cases hi;done)
  rename_i c' l2 e1 e2;simp only[ae]at hi;subst hi;exact⟨v,vs',CR.inv h hz h1 e1,bt.inv h2 e2,h3⟩
theorem bY.inv {x x':AV}{v:Value}(hr:bY ρ x v)(hi:l4 f x=some x'):bY ρ' x' v:=by
 cases x with
 |c x=>
  simp only[l4]at hi;split at hi<;>try(cases hi;done)
  rename_i m e;simp only[ae]at hi;subst hi;exact CR.inv h hz hr e
 |agg l=>
  simp only[l4]at hi;split at hi<;>try(cases hi;done)
  rename_i m e;simp only[ae]at hi;subst hi;obtain⟨vs,h1,h2⟩:=hr;exact⟨vs,bt.inv h hz h1 e,h2⟩
 |ints=>simp only[l4,ae]at hi;subst hi;exact hr
theorem eA.inv: ∀ {l l':List AV} {vs:List Value},eA ρ l vs->sa f l=some l'->eA ρ' l' vs
 | [],l',vs,hr,hi=>by simp only[sa,ae]at hi;subst hi;exact hr
 |c::l,l',vs,⟨v,vs',h1,h2,h3⟩,hi=>by
  simp only[sa]at hi;split at hi<;>try(cases hi;done)
  rename_i c' l2 e1 e2;simp only[ae]at hi;subst hi;exact⟨v,vs',bY.inv h hz h1 e1,eA.inv h2 e2,h3⟩
theorem bE.inv {x x':RV}{v:Value}(hr:bE ρ x v)(hi:qt f x=some x'):bE ρ' x' v:=by
 cases x with
 |one x=>
  simp only[qt]at hi;split at hi<;>try(cases hi;done)
  rename_i m e;simp only[ae]at hi;subst hi;exact bY.inv h hz hr e
 |aF l=>
  simp only[qt]at hi;split at hi<;>try(cases hi;done)
  rename_i m e;simp only[ae]at hi;subst hi;obtain⟨vs,h1,h2⟩:=hr;exact⟨vs,eA.inv h hz h1 e,h2⟩
 |any=>simp only[qt,ae]at hi;subst hi;trivial
theorem bo.inv: ∀ {l l':List RV} {vs:List Value},bo ρ l vs->tc f l=some l'->bo ρ' l' vs
 | [],l',vs,hr,hi=>by simp only[tc,ae]at hi;subst hi;exact hr
 |c::l,l',vs,⟨v,vs',h1,h2,h3⟩,hi=>by
  simp only[tc]at hi;split at hi<;>try(cases hi;done)
  rename_i c' l2 e1 e2;simp only[ae]at hi;subst hi;exact⟨v,vs',bE.inv h hz h1 e1,bo.inv h2 e2,h3⟩
theorem ct.inv: ∀ {l l':List (Cell×AV)} {es:List MapEntry},ct ρ l es->kG f l=some l'->ct ρ' l' es
 | [],l',es,hr,hi=>by simp only[kG,ae]at hi;subst hi;exact hr
 |(c,v)::l,l',es,⟨e,es',h1,h2,h3,h4⟩,hi=>by
  simp only[kG]at hi;split at hi<;>try(cases hi;done)
  rename_i c' v' l2 e1 e2 e3;simp only[ae]at hi;subst hi;exact⟨e,es',CR.inv h hz h1 e1,bY.inv h hz h2 e2,ct.inv h3 e3,h4⟩
theorem cD.inv {c:Nat}{x x':ax}{o:Obj}(hr:cD ρ c x o)(hi:dQ f x=some x'):cD ρ' c x' o:=by
 cases x with
 |row t ro opn b=>
  obtain⟨vs,tail,fr,h1,h2,h3⟩:=hr;cases b with
  |cells l=>
   simp only[dQ]at hi;split at hi<;>try(cases hi;done)
   rename_i m e;simp only[ae]at hi;subst hi;exact⟨vs,tail,fr,h1,bt.inv h hz h2 e,h3⟩
  |ints=>simp only[dQ,ae]at hi;subst hi;exact⟨vs,tail,fr,h1,h2,h3⟩
  |aT=>simp only[dQ,ae]at hi;subst hi;exact⟨vs,tail,fr,h1,h2,h3⟩
 |map es=>
  simp only[dQ]at hi;split at hi<;>try(cases hi;done)
  rename_i m e;simp only[ae]at hi;subst hi;obtain⟨aD,cl,h1,h2,h3⟩:=hr;exact⟨aD,cl,h1,ct.inv h hz h2 e,h3⟩
 |iter=>simp only[dQ,ae]at hi;subst hi;exact hr
 |mapP es=>
  simp only[dQ]at hi;split at hi<;>try(cases hi;done)
  rename_i m e;simp only[ae]at hi;subst hi;obtain⟨aD,cl,es',h1,h2,h3⟩:=hr;exact⟨aD,cl,es',h1,ct.inv h hz h2 e,h3⟩
 |loop st sl ps aa bd=>
  simp only[dQ]at hi;split at hi<;>try(cases hi;done)
  rename_i m e;simp only[ae]at hi;subst hi;obtain⟨r,h1,h2,h3⟩:=hr;exact⟨r,h1,bo.inv h hz h2 e,h3⟩
 |mapR es=>
  simp only[dQ]at hi;split at hi<;>try(cases hi;done)
  rename_i m e;simp only[ae]at hi;subst hi;obtain⟨aD,cl,h1,h2,h3⟩:=hr;exact⟨aD,cl,h1,ct.inv h hz h2 e,h3⟩
 |dK=>simp only[dQ,ae]at hi;subst hi;exact hr
 |recs=>simp only[dQ,ae]at hi;subst hi;exact hr
 |aQ vk l=>
  simp only[dQ,ae]at hi;subst hi;obtain⟨aD,cl,h1,h2,h3⟩:=hr;refine⟨aD,cl,h1,?_,h3⟩;refine ct.inv h hz h2 (?_:kG f (gq vk l)=some (gq vk l));have hc: ∀q:Int,gm f (pG vk q)=some (pG vk q):=fun q=>by cases vk<;>rfl
  clear h2;unfold gq
  induction l with
  |nil=>rfl
  |cons p l ih=>simp only[List.map_cons,kG,ih,l4,hc];rfl
 |eE l=>
  simp only[dQ,ae]at hi;subst hi;obtain⟨aD,cl,h1,h2,h3⟩:=hr;refine⟨aD,cl,h1,?_,h3⟩;refine ct.inv h hz h2 (?_:kG f (iy l)=some (iy l));clear h2;unfold iy
  induction l with
  |nil=>rfl
  |cons p l ih=>simp only[List.map_cons,kG,ih,l4,gm]
 |di l=>
  simp only[dQ,ae]at hi;subst hi;obtain⟨aD,cl,h1,h2,h3⟩:=hr;refine⟨aD,cl,h1,?_,h3⟩;refine ct.inv h hz h2 (?_:kG f (gO l)=some (gO l));clear h2;unfold gO
  induction l with
  |nil=>rfl
  |cons p l ih=>simp only[List.map_cons,kG,ih,l4,gm]
end inv
section fix
variable{f:Nat->Option Nat}{ρ:aM}{k0:Nat}(hf: ∀nm,k0<=nm->ρ nm=none)(h: ∀nm,nm<k0->f nm=some nm)
include hf h
theorem Bg{nm:Nat}{b c:Nat}(hr:ρ nm=some (b,c)):f nm=some nm:=by
 rcases Nat.lt_or_ge nm k0 with h1|h1
 ·exact h nm h1
 ·rw[hf nm h1]at hr;cases hr
theorem dF.fix: ∀ {l:List (Nat×Nat)} {vs:List Value},dF ρ l vs->uQ f l=some l
 | [],_,_=>rfl
 |(a,b)::l,_,⟨_,_,_,h1,h2,_⟩=>by simp only[uQ,Bg hf h h1,dF.fix h2]
theorem CR.fix {c:Cell}{v:Value}(hr:CR ρ c v):gm f c=some c:=by
 cases c with
 |ptr nm off=>obtain⟨_,_,h1,_⟩:=hr;simp only[gm,Bg hf h h1]
 |sl nm off len cap=>obtain⟨_,_,h1,_⟩:=hr;simp only[gm,Bg hf h h1]
 |aC nm sz a len=>obtain⟨_,_,_,h1,_⟩:=hr;simp only[gm,Bg hf h h1]
 |map nm=>obtain⟨_,_,h1,_⟩:=hr;simp only[gm,Bg hf h h1]
 |yield nm=>obtain⟨_,_,h1,_⟩:=hr;simp only[gm,Bg hf h h1]
 |fn g fs cs=>obtain⟨_,_,h1,h2,_⟩:=hr;simp only[gm,dF.fix hf h h1,dF.fix hf h h2]
 |_=>rfl
theorem bt.fix: ∀ {l:List Cell} {vs:List Value},bt ρ l vs->uF f l=some l
 | [],_,_=>rfl
 |c::l,_,⟨_,_,h1,h2,_⟩=>by simp only[uF,CR.fix hf h h1,bt.fix h2]
theorem bY.fix {x:AV}{v:Value}(hr:bY ρ x v):l4 f x=some x:=by
 cases x with
 |c x=>simp only[l4,CR.fix hf h hr]
 |agg l=>obtain⟨_,h1,_⟩:=hr;simp only[l4,bt.fix hf h h1]
 |ints=>rfl
theorem eA.fix: ∀ {l:List AV} {vs:List Value},eA ρ l vs->sa f l=some l
 | [],_,_=>rfl
 |c::l,_,⟨_,_,h1,h2,_⟩=>by simp only[sa,bY.fix hf h h1,eA.fix h2]
theorem bE.fix {x:RV}{v:Value}(hr:bE ρ x v):qt f x=some x:=by
 cases x with
 |one x=>simp only[qt,bY.fix hf h hr]
 |aF l=>obtain⟨_,h1,_⟩:=hr;simp only[qt,eA.fix hf h h1]
 |any=>rfl
theorem bo.fix: ∀ {l:List RV} {vs:List Value},bo ρ l vs->tc f l=some l
 | [],_,_=>rfl
 |c::l,_,⟨_,_,h1,h2,_⟩=>by simp only[tc,bE.fix hf h h1,bo.fix h2]
theorem ct.fix: ∀ {l:List (Cell×AV)} {es:List MapEntry},ct ρ l es->kG f l=some l
 | [],_,_=>rfl
 |(c,v)::l,_,⟨_,_,h1,h2,h3,_⟩=>by simp only[kG,CR.fix hf h h1,bY.fix hf h h2,ct.fix h3]
theorem cD.fix {c:Nat}{x:ax}{o:Obj}(hr:cD ρ c x o):dQ f x=some x:=by
 cases x with
 |row t ro opn b=>
  obtain⟨_,_,_,_,h2,_⟩:=hr;cases b with
  |cells l=>simp only[dQ,bt.fix hf h h2]
  |ints=>rfl
  |aT=>rfl
 |map es=>obtain⟨_,_,_,h2,_⟩:=hr;simp only[dQ,ct.fix hf h h2]
 |mapR es=>obtain⟨_,_,_,h2,_⟩:=hr;simp only[dQ,ct.fix hf h h2]
 |loop=>obtain⟨_,_,h2,_⟩:=hr;simp only[dQ,bo.fix hf h h2]
 |iter=>rfl
 |mapP es=>obtain⟨_,_,_,_,h2,_⟩:=hr;simp only[dQ,ct.fix hf h h2]
 |dK=>rfl
 |recs=>rfl
 |aQ=>rfl
 |eE=>rfl
 |di=>rfl
end fix
def FC(f:Nat->Option Nat)(aH:List Nat)(sl:T RV):Nat->T RV->Option (T RV)
 | 0,t=>some t
 |n+1,t=>match(if aH.contains n then qt f ((sl.get n).getD fc)else some .any)with
  |some v=>T.set depth t n (some v) fun t=>FC f aH sl n t
  |none=>none
def Jf(f:Nat->Option Nat)(hp:T ax):List (Nat×Nat×Bool)->T ax->Option (T ax)
 | [],t=>some t
 |(a,b,raw)::l,t=>match hp.get b with
  |none=>Jf f hp l t
  |some x=>match(if raw then some x else dQ f x)with
   |some y=>T.set depth t a (some y) fun t=>Jf f hp l t
   |none=>none
def sw(k0:Nat)(K:List Nat):Nat->List (Nat×Nat×Bool)
 | 0=> []
 |j+1=>(j,j,K.contains j)::sw k0 K j
def s9:List Nat->Nat->List (Nat×Nat×Bool)
 | [],_=> []
 |x::l,i=>(i,x,false)::s9 l (i+1)
def Dx(k0:Nat):List Nat->Bool
 | []=>true
 |x::l=>Nat.ble k0 x &&(!l.contains x && Dx k0 l)
def Dm(k0:Nat)(ord:List Nat):List Nat->Bool
 | []=>true
 |q::l=>(match l6 k0 ord q with|some m=>Nat.beq m q|none=>false) && Dm k0 ord l
def nr(k0:Nat)(K pn aH:List Nat)(n:Nat)(ord:List Nat)(s:S):Option S:=
 if(Dx k0 ord && Dm k0 ord pn)=true then
  match FC (l6 k0 ord) aH s.sl n .nil with
  |some sl=>match Jf (l6 k0 ord) s.hp (sw k0 K k0++s9 ord k0) .nil with
   |some hp=>some ⟨sl,hp,k0+ord.length,[]⟩
   |none=>none
  |none=>none
 else none
theorem Ku{f:Nat->Option Nat}{aH:List Nat}{sl:T RV}: ∀ {n:Nat} {t r:T RV},FC f aH sl n t=some r->∀j,if j<n then(∃v,r.get j=some v/\(v= .any\/qt f ((sl.get j).getD fc)=some v))else r.get j=t.get j
 | 0,t,r,h,j=>by simp only[FC,ae]at h;subst h;simp
 |n+1,t,r,h,j=>by
  simp only[FC]at h;split at h<;>try(cases h;done)
  rename_i v hv;obtain⟨t',h1,h2⟩:=T.bR _ _ _ _ _ _ h;have ih:=Ku h1 j;by_cases e:j<n
  ·rw[if_pos e]at ih;rw[if_pos (by omega)];exact ih
  ·rw[if_neg e,h2]at ih;by_cases e2:j=n
   ·subst e2;rw[if_pos rfl]at ih;rw[if_pos (by omega)]
    refine⟨v,ih,?_⟩;split at hv
    ·exact .inr hv
    ·simp only[ae]at hv;exact .inl hv.symm
   ·rw[if_neg e2]at ih;rw[if_neg (by omega)];exact ih
theorem FM{f:Nat->Option Nat}{hp:T ax}: ∀ {l:List (Nat×Nat×Bool)} {t r:T ax},(l.map (·.1)).Nodup->Jf f hp l t=some r->
  (∀j,(∀b raw,(j,b,raw)∉l)->r.get j=t.get j)/\
  (∀a b raw,(a,b,raw)∈l->match hp.get b with|none=>r.get a=t.get a|some x=> ∃y,r.get a=some y/\(if raw then y=x else dQ f x=some y))
 | [],t,r,_,h=>by simp only[Jf,ae]at h;subst h;exact⟨fun _ _=>rfl,fun _ _ _ h=>by cases h⟩
 |(a,b,raw)::l,t,r,hn,h=>by
  simp only[List.map_cons,List.nodup_cons]at hn;have hna: ∀b raw,(a,b,raw)∉l:=fun b raw hm=>hn.1 (List.mem_map.2 ⟨_,hm,rfl⟩)
  simp only[Jf]at h;split at h
  ·rename_i hb;obtain⟨i1,i2⟩:=FM hn.2 h;refine⟨fun j hj=>i1 j fun b' r' hm=>hj b' r' (List.mem_cons_of_mem _ hm),fun a' b' r' hm=> ?_⟩
   rcases List.mem_cons.1 hm with e|hm
   ·cases e;rw[hb];exact i1 a hna
   ·exact i2 a' b' r' hm
  ·rename_i x hb;split at h<;>try(cases h;done)
   rename_i y hy;obtain⟨t',h1,h2⟩:=T.bR _ _ _ _ _ _ h;obtain⟨i1,i2⟩:=FM hn.2 h1;refine⟨fun j hj=> ?_,fun a' b' r' hm=> ?_⟩
   ·rw[i1 j fun b' r' hm=>hj b' r' (List.mem_cons_of_mem _ hm),h2,if_neg]
    intro e;subst e;exact hj b raw (List.mem_cons_self ..)
   ·rcases List.mem_cons.1 hm with e|hm2
    ·cases e;rw[hb];refine⟨y,by rw[i1 a hna,h2,if_pos rfl],?_⟩
     cases raw with
     |true=>simp only[if_true,ae]at hy;simp[hy]
     |false=>simpa using hy
    ·have:=i2 a' b' r' hm2;have bT:a'≠a:=fun e=>hna b' r' (e▸hm2)
     cases hb':hp.get b' with
     |none=>rw[hb']at this;rw[this,h2,if_neg bT]
     |some x'=>rw[hb']at this;exact this
theorem kI{k0:Nat}{K:List Nat}: ∀ {m a b:Nat} {raw:Bool},(a,b,raw)∈sw k0 K m↔a<m/\b=a/\raw=K.contains a
 | 0,_,_,_=>by simp[sw]
 |m+1,a,b,raw=>by
  simp only[sw,List.mem_cons,af,kI (m:=m)];constructor
  ·rintro(⟨rfl,rfl,rfl⟩|⟨h1,h2,h3⟩)
   ·exact⟨by omega,rfl,rfl⟩
   ·exact⟨by omega,h2,h3⟩
  ·rintro⟨h1,h2,h3⟩;by_cases e:a=m
   ·subst e;exact .inl ⟨rfl,h2,h3⟩
   ·exact .inr ⟨by omega,h2,h3⟩
theorem oD: ∀ {l:List Nat} {i a b:Nat} {raw:Bool},(a,b,raw)∈s9 l i↔raw=false/\i<=a/\l[a - i]? =some b
 | [],_,_,_,_=>by simp[s9]
 |x::l,i,a,b,raw=>by
  simp only[s9,List.mem_cons,af,oD (l:=l)];constructor
  ·rintro(⟨rfl,rfl,rfl⟩|⟨h1,h2,h3⟩)
   ·exact⟨rfl,Nat.le_refl _,by simp⟩
   ·refine⟨h1,by omega,?_⟩
    rw[show a - i=(a - (i+1))+1 by omega];exact h3
  ·rintro⟨h1,h2,h3⟩;by_cases e:a=i
   ·subst e;simp at h3;exact .inl ⟨rfl,h3.symm,h1⟩
   ·refine .inr ⟨h1,by omega,?_⟩
    rw[show a - i=(a - (i+1))+1 by omega]at h3;exact h3
theorem I2: ∀ {l:List Nat} {nm i m:Nat},HO nm l i=some m->i<=m/\l[m - i]? =some nm
 | [],_,_,_,h=>by simp[HO]at h
 |x::l,nm,i,m,h=>by
  simp only[HO]at h;split at h
  ·rename_i e;simp only[ae]at h;subst h;subst e;exact⟨Nat.le_refl _,by simp⟩
  ·obtain⟨h1,h2⟩:=I2 h;refine⟨by omega,?_⟩
   rw[show m - i=(m - (i+1))+1 by omega];exact h2
theorem GN{k0:Nat}: ∀ {l:List Nat},Dx k0 l=true->l.Nodup/\∀x∈l,k0<=x
 | [],_=>⟨List.nodup_nil,fun _ h=>by cases h⟩
 |x::l,h=>by
  simp only[Dx,Bool.and_eq_true]at h;obtain⟨h1,h2,h3⟩:=h;obtain⟨g1,g2⟩:=GN h3;refine⟨List.nodup_cons.2 ⟨by simpa using h2,g1⟩,fun y hy=> ?_⟩
  rcases List.mem_cons.1 hy with rfl|hy
  ·exact Nat.le_of_ble_eq_true h1
  ·exact g2 y hy
theorem Hd{k0:Nat}{K:List Nat}: ∀ {m:Nat},((sw k0 K m).map (·.1)).Nodup
 | 0=>by simp[sw]
 |m+1=>by
  simp only[sw,List.map_cons,List.nodup_cons];refine⟨fun h=> ?_,Hd⟩
  obtain⟨⟨a,b,r⟩,h1,h2⟩:=List.mem_map.1 h;have:=(kI.1 h1).1;simp only at h2;omega
theorem Gk: ∀ {l:List Nat} {i:Nat},((s9 l i).map (·.1)).Nodup
 | [],_=>by simp[s9]
 |x::l,i=>by
  simp only[s9,List.map_cons,List.nodup_cons];refine⟨fun h=> ?_,Gk⟩
  obtain⟨⟨a,b,r⟩,h1,h2⟩:=List.mem_map.1 h;have:=(oD.1 h1).2.1;simp only at h2;omega
theorem SG{l:List Nat}(h:l.Nodup){i j:Nat}(hi:i<l.length)(hj:j<l.length)(e:l[i]=l[j]):i=j:=by
 rcases Nat.lt_trichotomy i j with h1|h1|h1
 ·exact absurd e (List.pairwise_iff_getElem.1 h i j hi hj h1)
 ·exact h1
 ·exact absurd e.symm (List.pairwise_iff_getElem.1 h j i hj hi h1)
structure HH where
 nm:Nat
 b:Nat
 o:Obj
def Obj.aaG:Obj->Bool
 | .mapIter .. =>true
 |_=>false
def Dv(pins:List HH)(ρ:aM)(w:World):Prop:= ∀p∈pins,(∃c,ρ p.nm=some (p.b,c))/\w.heap[p.b]? =some p.o/\Obj.aaG p.o=true
theorem cD.agL {ρ:aM}{c:Nat}{x:ax}{o:Obj}(h:cD ρ c x o):Obj.aaG o=false:=by
 cases x with
 |row=>obtain⟨_,_,_,rfl,_⟩:=h;rfl
 |map=>obtain⟨_,_,rfl,_⟩:=h;rfl
 |dK=>obtain⟨_,_,_,rfl,_⟩:=h;rfl
 |recs=>obtain⟨_,_,_,rfl,_⟩:=h;rfl
 |aQ=>obtain⟨_,_,rfl,_⟩:=h;rfl
 |mapR=>obtain⟨_,_,rfl,_⟩:=h;rfl
 |loop=>obtain⟨_,rfl,_⟩:=h;rfl
 |iter=>subst h;rfl
 |mapP=>obtain⟨_,_,_,rfl,_⟩:=h;rfl
 |eE=>obtain⟨_,_,rfl,_⟩:=h;rfl
 |di=>obtain⟨_,_,rfl,_⟩:=h;rfl
theorem Dv.step {pins:List HH}{ρ ρ':aM}{s s':S}{w w':World}{L:List Nat}(h:Dv pins ρ w)(hr:bu ρ s.hp.get w)(hf:bW ρ s.nx)(st:nG ρ s w ρ' s' w' L):Dv pins ρ' w':=fun p hp=>by
 obtain⟨⟨c,h1⟩,h2,h3⟩:=h p hp;have aA:p.nm<s.nx:=by
  rcases Nat.lt_or_ge p.nm s.nx with h|h
  ·exact h
  ·rw[hf _ h]at h1;cases h1
 refine⟨⟨c,by rw[st.rho _ aA];exact h1⟩,?_,h3⟩
 rw[st.frame p.b (bS h2) fun nm c' hm hl he=> ?_]
 ·exact h2
 ·obtain⟨x,o1,_⟩:=st.aq nm hm hl;obtain⟨b,c2,o,q1,q2,q3⟩:=hr.ok nm x o1;rw[he]at q1;simp only[ae,af]at q1;obtain⟨rfl,rfl⟩:=q1;rw[h2]at q2;cases q2;rw[q3.agL]at h3;cases h3
structure tg(n:Nat)(K:List Nat)(pins:List HH)(ρ0:aM)(s0:S)(w0:World)(s:S)(a:Act)(w:World):Prop where
 it: ∃ρ L,o9 s0 s L/\(∀nm∈K,nm∉L)/\Rel n ρ s a w/\nG ρ0 s0 w0 ρ s w L/\Dv pins ρ w
theorem Ep{k0:Nat}{ord:List Nat}: ∀ {l:List Nat},Dm k0 ord l=true->∀q∈l,l6 k0 ord q=some q
 | [],_,_,h=>by cases h
 |x::l,h,q,hq=>by
  simp only[Dm,Bool.and_eq_true]at h;rcases List.mem_cons.1 hq with rfl|hq
  ·have:=h.1;split at this
   ·rename_i m e;rw[e,Nat.eq_of_beq_eq_true this]
   ·cases this
  ·exact Ep h.2 q hq
theorem tg.gc {n:Nat}{K aH ord pn:List Nat}{pins:List HH}{ρ0:aM}{s0 s s':S}{w0 w:World}{a:Act}(hr0:bu ρ0 s0.hp.get w0)(hf0:bW ρ0 s0.nx)(h:tg n K pins ρ0 s0 w0 s a w)(hpn:pins.map HH.nm=pn)
  (hg:nr s0.nx K pn aH n ord s=some s'):tg n K pins ρ0 s0 w0 s' a w:=by
 obtain⟨ρ,L,ab,hK,R,st,hpin⟩:=h.it;unfold nr at hg;split at hg<;>try(cases hg;done)
 rename_i hok;split at hg<;>try(cases hg;done)
 rename_i sl hsl;split at hg<;>try(cases hg;done)
 rename_i hp hhp;simp only[ae]at hg;subst hg;rw[Bool.and_eq_true]at hok;obtain⟨hok,hpok⟩:=hok;obtain⟨hnd,hge⟩:=GN hok
 let k0:=s0.nx
 let ρ':aM:=⟨fun m=>if m<k0 then ρ m else match ord[m - k0]? with|some nm=>ρ nm|none=>none,ρ.fz⟩
 have hz: ∀b l,ρ.fz b=some l->ρ'.fz b=some l:=fun _ _ h=>h
 have hinv: ∀nm m,l6 s0.nx ord nm=some m->ρ' m=ρ nm:=fun nm m hm=>by
  unfold l6 at hm;show(if m<s0.nx then ρ m else match ord[m - s0.nx]? with|some nm=>ρ nm|none=>none)=ρ nm
  split at hm
  ·rename_i aA;simp only[ae]at hm;subst hm;rw[if_pos aA]
  ·obtain⟨g1,g2⟩:=I2 hm;rw[if_neg (by omega),g2]
 have hnod:(((sw s0.nx K s0.nx)++s9 ord s0.nx).map (·.1)).Nodup:=by
  rw[List.map_append,List.nodup_append];refine⟨Hd,Gk,fun a ha b hb e=> ?_⟩
  obtain⟨⟨a1,b1,r1⟩,h1,h2⟩:=List.mem_map.1 ha;obtain⟨⟨a2,b2,r2⟩,h3,h4⟩:=List.mem_map.1 hb;have q1:=(kI.1 h1).1;have q2:=(oD.1 h3).2.1;simp only at h2 h4;omega
 obtain⟨g1,g2⟩:=FM hnod hhp;have hsrc: ∀j y,hp.get j=some y->(j<s0.nx/\∃x,s.hp.get j=some x/\(if K.contains j then y=x else dQ (l6 s0.nx ord) x=some y))\/(s0.nx<=j/\∃nm x,ord[j - s0.nx]? =some nm/\s.hp.get nm=some x/\dQ (l6 s0.nx ord) x=some y):=fun j y hy=>by
  by_cases hj:j<s0.nx
  ·left;have:=g2 j j (K.contains j) (List.mem_append.2 (.inl (kI.2 ⟨hj,rfl,rfl⟩)));cases hx:s.hp.get j with
   |none=>rw[hx]at this;simp only at this;rw[hy,T.get_nil]at this;cases this
   |some x=>
    rw[hx]at this;obtain⟨y',e1,e2⟩:=this;rw[hy]at e1;cases e1;exact⟨hj,x,rfl,e2⟩
  ·right;cases ho:ord[j - s0.nx]? with
   |none=>
    have:=g1 j fun b raw hm=>by
     rcases List.mem_append.1 hm with hm|hm
     ·exact hj (kI.1 hm).1
     ·rw[(oD.1 hm).2.2]at ho;cases ho
    rw[hy,T.get_nil]at this;cases this
   |some nm=>
    have:=g2 j nm false (List.mem_append.2 (.inr (oD.2 ⟨rfl,by omega,ho⟩)))
    cases hx:s.hp.get nm with
    |none=>rw[hx]at this;simp only at this;rw[hy,T.get_nil]at this;cases this
    |some x=>
     rw[hx]at this;obtain⟨y',e1,e2⟩:=this;rw[hy]at e1;cases e1;exact⟨by omega,nm,x,rfl,hx,by simpa using e2⟩
 have hρlt: ∀m,m<s0.nx->ρ' m=ρ m:=fun m hm=>by show(if m<s0.nx then ρ m else _)=ρ m;rw[if_pos hm]
 have hρge: ∀m nm,s0.nx<=m->ord[m - s0.nx]? =some nm->ρ' m=ρ nm:=fun m nm hm ho=>by
  show(if m<s0.nx then ρ m else match ord[m - s0.nx]? with|some nm=>ρ nm|none=>none)=ρ nm
  rw[if_neg (by omega),ho]
 have hsub0:Sub ρ0 ρ':=by
  refine⟨fun nm b hb=> ?_,st.je⟩
  rcases Nat.lt_or_ge nm s0.nx with h1|h1
  ·rw[hρlt nm h1,st.rho nm h1];exact hb
  ·rw[hf0 nm h1]at hb;cases hb
 have hold: ∀j y,hp.get j=some y->∃nm x,s.hp.get nm=some x/\ρ' j=ρ nm/\x.wr=y.wr/\(∀b c o,ρ nm=some (b,c)->w.heap[b]? =some o->cD ρ c x o->cD ρ' c y o)/\(j<s0.nx/\nm=j\/s0.nx<=j/\ord[j - s0.nx]? =some nm):=fun j y hy=>by
  have hwr: ∀x y,dQ (l6 s0.nx ord) x=some y->x.wr=y.wr:=fun x y hxy=>by
   cases x with
   |row t ro o b=>
    cases b with
    |cells l=>
     simp only[dQ]at hxy;split at hxy<;>try(cases hxy;done)
     simp only[ae]at hxy;subst hxy;rfl
    |ints=>simp only[dQ,ae]at hxy;subst hxy;rfl
    |aT=>simp only[dQ,ae]at hxy;subst hxy;rfl
   |map es=>
    simp only[dQ]at hxy;split at hxy<;>try(cases hxy;done)
    simp only[ae]at hxy;subst hxy;rfl
   |dK=>simp only[dQ,ae]at hxy;subst hxy;rfl
   |recs=>simp only[dQ,ae]at hxy;subst hxy;rfl
   |aQ=>simp only[dQ,ae]at hxy;subst hxy;rfl
   |eE=>simp only[dQ,ae]at hxy;subst hxy;rfl
   |di=>simp only[dQ,ae]at hxy;subst hxy;rfl
   |iter=>simp only[dQ,ae]at hxy;subst hxy;rfl
   |mapP es=>
    simp only[dQ]at hxy;split at hxy<;>try(cases hxy;done)
    simp only[ae]at hxy;subst hxy;rfl
   |loop=>
    simp only[dQ]at hxy;split at hxy<;>try(cases hxy;done)
    simp only[ae]at hxy;subst hxy;rfl
   |mapR es=>
    simp only[dQ]at hxy;split at hxy<;>try(cases hxy;done)
    simp only[ae]at hxy;subst hxy;rfl
  rcases hsrc j y hy with⟨hj,x,hx,hxy⟩|⟨hj,nm,x,ho,hx,hxy⟩
  ·refine⟨j,x,hx,hρlt j hj,?_,fun b c o hb ho hB=> ?_,.inl ⟨hj,rfl⟩⟩
   ·split at hxy
    ·rw[hxy]
    ·exact hwr _ _ hxy
   ·split at hxy
    ·rename_i hc;subst hxy;have hjK:j∈K:=by simpa using hc
     have hjL:j∉L:=hK j hjK;have hx0:s0.hp.get j=some y:=by rw[<-ab.aH j hj hjL];exact hx
     obtain⟨b0,c0,o0,e1,e2,e3⟩:=hr0.ok j y hx0;have hb':ρ0 j=some (b,c):=by rw[<-st.rho j hj];exact hb
     rw[e1]at hb';simp only[ae,af]at hb';obtain⟨rfl,rfl⟩:=hb';have:=st.frame b0 (bS e2) fun nm c hm aA he=>by
      obtain⟨x1,q1,q2⟩:=st.aq nm hm aA;exact hjL (hr0.inj nm j x1 y b0 c c0 q1 hx0 q2 he e1▸hm)
     rw[this,e2]at ho;cases ho;exact e3.mono hsub0
    ·exact hB.inv hinv hz hxy
  ·exact⟨nm,x,hx,hρge j nm hj ho,hwr _ _ hxy,fun b c o _ _ hB=>hB.inv hinv hz hxy,.inr ⟨hj,ho⟩⟩
 refine⟨ρ',L.filter (fun nm=>decide (nm<s0.nx)),⟨Nat.le_add_right _ _,fun nm h1 h2=> ?_,fun nm hn=> ?_,fun nm hn=> ?_⟩,fun nm hn hm=>hK nm hn (List.mem_filter.1 hm).1,⟨R.sz,R.df,fun j=> ?_,⟨fun j y hy=> ?_,fun j j' y y' b c c' hy hy' hw e1 e2=> ?_,fun b l hb=>⟨(R.hp.fz b l hb).1,fun j y c hy hw he=> ?_⟩⟩,fun m hm=> ?_⟩,
  ⟨Nat.le_add_right _ _,fun nm h1=> ?_,fun nm h1 h2=> ?_,st.size,fun b hb hL=>st.frame b hb fun nm c hm aA=>hL nm c (List.mem_filter.2 ⟨hm,by simpa using aA⟩) aA,fun m b c hm he=> ?_,fun nm hm aA=>st.aq nm (List.mem_filter.1 hm).1 aA,st.os,st.tape,st.al,st.je,fun b l h=>(st.fzn b l h).imp id fun h=>h.imp id fun⟨nm,c,g1,g2,g3⟩=>⟨nm,c,List.mem_filter.2 ⟨g1,by simpa using g2⟩,g2,g3⟩⟩,fun p hp=> ?_⟩
 ·have hL:nm∉L:=fun hm=>h2 (List.mem_filter.2 ⟨hm,by simpa using h1⟩)
  show hp.get nm=s0.hp.get nm;have hk:=ab.aH nm h1 hL;have:=g2 nm nm (K.contains nm) (List.mem_append.2 (.inl (kI.2 ⟨h1,rfl,rfl⟩)));cases hx:s0.hp.get nm with
  |none=>rw[hk,hx]at this;simp only at this;rw[this,T.get_nil]
  |some x=>
   rw[hk,hx]at this;obtain⟨y,e1,e2⟩:=this;rw[e1];split at e2
   ·rw[e2]
   ·obtain⟨b,c,o,q1,q2,q3⟩:=hr0.ok nm x hx;have:=q3.fix (f:=l6 s0.nx ord) hf0 (fun m hm=>by unfold l6;rw[if_pos hm])
    rw[this]at e2;exact e2.symm
 ·show hp.get nm=none;have hn':s0.nx+ord.length<=nm:=hn;cases hy:hp.get nm with
  |none=>rfl
  |some y=>
   rcases hsrc nm y hy with⟨hj,_⟩|⟨_,_,_,ho,_⟩
   ·omega
   ·have:=List.getElem?_eq_none (l:=ord) (i:=nm - s0.nx) (by omega)
    rw[this]at ho;cases ho
 ·have:=(List.mem_filter.1 hn).2;have h3:nm<s0.nx:=by simpa using this
  show nm<s0.nx+ord.length;omega
 ·have:=R.sl j;have hs:=Ku hsl j;unfold slot at this ⊢;by_cases hj:j<n
  ·rw[if_pos hj]at this hs ⊢;obtain⟨v,e1,e2⟩:=hs;show bE ρ' ((sl.get j).getD fc) _;rw[e1];simp only[Option.getD_some];rcases e2 with rfl|e2
   ·trivial
   ·exact this.inv hinv hz e2
  ·rw[if_neg hj]at this ⊢;exact this.inv hinv hz rfl
 ·obtain⟨nm,x,q1,q2,_,q4,_⟩:=hold j y hy;obtain⟨b,c,o,e1,e2,e3⟩:=R.hp.ok nm x q1;exact⟨b,c,o,by rw[q2];exact e1,e2,q4 b c o e1 e2 e3⟩
 ·obtain⟨nm,x,q1,q2,q3,_,q5⟩:=hold j y hy;obtain⟨nm',x',q1',q2',q3',_,q5'⟩:=hold j' y' hy';have hnm:nm=nm':=R.hp.inj nm nm' x x' b c c' q1 q1' (by rw[q3];exact hw) (by rw[<-q2];exact e1) (by rw[<-q2'];exact e2)
  subst hnm;rcases q5 with⟨a1,a2⟩|⟨a1,a2⟩<;>rcases q5' with⟨b1,b2⟩|⟨b1,b2⟩
  ·rw[<-a2, <-b2]
  ·have:=hge nm (List.mem_of_getElem? b2);omega
  ·have:=hge nm (List.mem_of_getElem? a2);omega
  ·obtain⟨l1,r1⟩:=List.getElem?_eq_some_iff.1 a2;obtain⟨l2,r2⟩:=List.getElem?_eq_some_iff.1 b2;have:=SG hnd l1 l2 (r1.trans r2.symm);omega
 ·obtain⟨nm,x,q1,q2,q3,_,_⟩:=hold j y hy;exact(R.hp.fz b l hb).2 nm x c q1 (by rw[q3];exact hw) (by rw[<-q2];exact he)
 ·have hm':s0.nx+ord.length<=m:=hm;show(if m<s0.nx then ρ m else match ord[m - s0.nx]? with|some nm=>ρ nm|none=>none)=none
  rw[if_neg (by omega),List.getElem?_eq_none (by omega)]
 ·rw[hρlt nm h1];exact st.rho nm h1
 ·have hL:nm∉L:=fun hm=>h2 (List.mem_filter.2 ⟨hm,by simpa using h1⟩)
  show hp.get nm=s0.hp.get nm;have hk:=ab.aH nm h1 hL;have:=g2 nm nm (K.contains nm) (List.mem_append.2 (.inl (kI.2 ⟨h1,rfl,rfl⟩)));cases hx:s0.hp.get nm with
  |none=>rw[hk,hx]at this;simp only at this;rw[this,T.get_nil]
  |some x=>
   rw[hk,hx]at this;obtain⟨y,e1,e2⟩:=this;rw[e1];split at e2
   ·rw[e2]
   ·obtain⟨b,c,o,q1,q2,q3⟩:=hr0.ok nm x hx;have:=q3.fix (f:=l6 s0.nx ord) hf0 (fun m hm=>by unfold l6;rw[if_pos hm])
    rw[this]at e2;exact e2.symm
 ·rcases Nat.lt_or_ge m s0.nx with h1|h1
  ·omega
  ·have he':(if m<s0.nx then ρ m else match ord[m - s0.nx]? with|some nm=>ρ nm|none=>none)=some (b,c):=he
   rw[if_neg (by omega)]at he'
   cases ho:ord[m - s0.nx]? with
   |none=>rw[ho]at he';cases he'
   |some nm=>
    rw[ho]at he';rcases st.new nm b c (hge nm (List.mem_of_getElem? ho)) he' with h|⟨bs,c0,q1,q2,q3⟩
    ·exact .inl h
    ·exact .inr ⟨bs,c0,List.mem_filter.2 ⟨q1,by simpa using q2⟩,q2,q3⟩
 ·obtain⟨⟨c,p1⟩,p2,p3⟩:=hpin p hp;exact⟨⟨c,by rw[hinv _ _ (Ep hpok p.nm (by rw[<-hpn];exact List.mem_map_of_mem hp))];exact p1⟩,p2,p3⟩
end Go.Sx
